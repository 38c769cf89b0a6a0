import Derived.Test.YthkmchgglnhmaaaTy
import Derived.StillTailTactics
/- Small words of this place's own, used by all walks. -/
namespace Go.Proofs.Ythkmchgglnhmaaa.Eq
open Go.RowKit Go.Proofs.YthkmchgglnhmaaaW.PrintWords Go.Proofs.YthkmchgglnhmaaaW.PrintLast Go.Proofs.YthkmchgglnhmaaaW.PrintMore
set_option linter.unusedVariables false
theorem bcell {W w1 : World} (hb : Below W.heap.size W w1) : (∀ b o, b < W.heap.size → w1.cell? ⟨b, o, none⟩ = W.cell? ⟨b, o, none⟩) ∧ (∀ b o, b < W.heap.size → w1.frozen? ⟨b, o, none⟩ = W.frozen? ⟨b, o, none⟩) :=
  ⟨fun b o h => hb.cell (p := ⟨b, o, none⟩) h, fun b o h => hb.frozen (p := ⟨b, o, none⟩) h⟩
theorem bsize {W w1 : World} (hb : Below W.heap.size W w1) : W.heap.size ≤ w1.heap.size := hb.size
theorem ret_bool {a b : Bool} (h : a = b) : Ending.returned (.bool a) = .returned (.bool b) := by rw [h]
theorem ret_int {a b : Int} (h : a = b) : Ending.returned (.int .i64 a) = .returned (.int .i64 b) := by rw [h]
theorem add_add_ (ad : Addr) (m j : Nat) : (ad.add m).add j = ad.add (m + j) := by
  unfold Addr.add
  split <;> split <;> simp_all [Nat.add_assoc]
theorem spot_of {W : World} {ad : Addr} {v : Value} (h : W.cell? ad = some v) : ad.spot = none := by
  unfold World.cell? at h
  split at h
  · split at h
    · cases h
    · rename_i hs; simpa using hs
  · cases h
theorem add_spot (ad : Addr) (m : Nat) (h : (ad.add m).spot = none) : ∀ j, (ad.add (m + j)) = ⟨(ad.add m).block, (ad.add m).off + j, none⟩ := by
  intro j
  rw [← add_add_]
  generalize ad.add m = x at h ⊢
  obtain ⟨b, o, s⟩ := x
  cases s with
  | none => exact add_at b o j
  | some s => cases h
section
variable {P : Program} {ops : Array Oper} {rest : List Oper} {o : Oper} {a : Act} {Q : Exit → Act → World → Prop}
/-- An element that is a struct is loaded whole; its cells stay a letter. -/
theorem load_struct {W : World} (hgd : o.guard = none) (ty : TypeId) (x : Operand) (ho : o.op = .load ty x) (ad : Addr) (m : Nat) (hx : a.eval x = .pointer (some (ad.add m))) (cs : List Value) (d : TypeDesc)
    (hc : ∀ j u, cs[j]? = some u → W.cell? (ad.add (m + j)) = some u) (hl : 0 < cs.length) (hu : P.underlying ty = some d) (hd : d.isRow = true) (hi : (P.info? ty).map (·.size) = some cs.length)
    (h : wpList P ops Q rest (a.put o.dst (.agg cs.toArray)) W) : wpList P ops Q (o :: rest) a W := by
  have h0 := hc 0 _ (List.getElem?_eq_getElem hl)
  have hs : (ad.add m).spot = none := spot_of h0
  refine wpList_load_mid hgd ty x ho (ad.add m).block (ad.add m).off ?_ cs d (fun j u hj => ?_) hu hd hi h
  · rw [hx]
    generalize ad.add m = y at hs ⊢
    obtain ⟨b, o, s⟩ := y
    cases hs
    rfl
  · rw [← add_spot ad m hs j]
    exact hc j u hj
end
section
variable {α : Type} {d : Kd α} {e base n : Nat} {ok : Nat → Prop} {w W w1 : World} {v : Value} {xs : List α}
/-- What a call made lies above what was there. -/
theorem R_up (h : d.R e w1 W.heap.size ok v xs) (hn : n < W.heap.size) (hb : base ≤ W.heap.size) : d.R e w1 base (fun k => n < k) v xs :=
  Kd.R_lower (Kd.R_mono (Kd.R_bound h) (fun k hk => Nat.lt_of_lt_of_le hn hk.2.1)) hb
theorem R_farN {g j : Nat} {u : Value} (h : d.R e w base (fun k => n < k) v xs) (hg : g ≤ n) : d.R e (w.setCell ⟨g, j, none⟩ u) base (fun k => n < k) v xs :=
  Kd.R_far h (fun k hk => Nat.ne_of_gt (Nat.lt_of_le_of_lt hg hk)) u
theorem R_any (h : d.R e w base ok v xs) : d.R e w base (fun _ => True) v xs := Kd.R_mono h (fun _ _ => trivial)
end
section
variable {P : Program} {ops : Array Oper} {rest : List Oper} {o : Oper} {a : Act} {Q : Act → Prop}
/-- The same at the head of a region that draws its order. -/
theorem still_load_struct {W : World} (hgd : o.guard = none) (ty : TypeId) (x : Operand) (ho : o.op = .load ty x) (ad : Addr) (m : Nat) (hx : a.eval x = .pointer (some (ad.add m))) (cs : List Value) (d : TypeDesc)
    (hc : ∀ j u, cs[j]? = some u → W.cell? (ad.add (m + j)) = some u) (hl : 0 < cs.length) (hu : P.underlying ty = some d) (hd : d.isRow = true) (hi : (P.info? ty).map (·.size) = some cs.length)
    (h : wpStill P ops W Q rest (a.put o.dst (.agg cs.toArray))) : wpStill P ops W Q (o :: rest) a := by
  have h0 := hc 0 _ (List.getElem?_eq_getElem hl)
  have hs : (ad.add m).spot = none := spot_of h0
  refine wpStill_step (fun K hK => ?_)
  rw [if_pos (by simp [Region.wanted, hgd])]
  have hx' : a.eval x = .pointer (some ⟨(ad.add m).block, (ad.add m).off, none⟩) := by
    rw [hx]
    generalize ad.add m = y at hs ⊢
    obtain ⟨b, o, s⟩ := y
    cases hs
    rfl
  have hr : W.rangeAt (ad.add m).block (ad.add m).off cs := fun j u hj => by
    rw [← add_spot ad m hs j]
    exact hc j u hj
  unfold Oper.still execOp
  simp only [ho, hx', Sem.run_bind, run_loadAt_mid W _ _ ty cs d hr hu hd hi, Result.andThen_ok, Sem.run_pure, Oper.stillUpon_value]
  exact hK _ h
end
/-- Element k of a row that is read, its address in parts. -/
theorem C_field {α : Type} {d : Kd α} {w : World} {A : Option Addr} {n : Nat} {xs : List α} (h : d.C w A n xs) (z : α) (k : Nat) (hk : k < n) (hs : 0 < d.sz) :
    ∃ b o cs, A = some ⟨b, o, none⟩ ∧ cs.length = d.sz ∧ d.K w (xs.getD k z) cs ∧ (∀ j u, cs[j]? = some u → w.cell? ⟨b, o + k * d.sz + j, none⟩ = some u) ∧ (∀ u, cs[0]? = some u → w.cell? ⟨b, o + k * d.sz, none⟩ = some u) := by
  obtain ⟨ad, cs, rfl, hl, hK, hc⟩ := Kd.C_get h z (k : Int) (by omega) (by omega)
  obtain ⟨ad', cs', he, hl', _, hc'⟩ := Kd.C_get h z (0 : Int) (by omega) (by omega)
  cases he
  simp only [Int.toNat_natCast] at hK hc
  have hsp : ad.spot = none := by
    have h0 := spot_of (hc' 0 _ (List.getElem?_eq_getElem (by omega)))
    unfold Addr.add at h0
    simpa using h0
  obtain ⟨b, o, s⟩ := ad
  cases hsp
  have key : ∀ j u, cs[j]? = some u → w.cell? ⟨b, o + k * d.sz + j, none⟩ = some u := fun j u hj => by
    have := hc j u hj
    rwa [add_at, ← Nat.add_assoc] at this
  exact ⟨b, o, cs, rfl, hl, hK, key, fun u hu => key 0 u hu⟩
section
variable {P : Program} {ops : Array Oper} {rest : List Oper} {o : Oper} {a : Act} {Q : Exit → Act → World → Prop}
/-- A whole struct is stored into a block that holds one. -/
theorem store_block {W : World} (hgd : o.guard = none) (hN : o.dst = none) (t : TypeId) (p x : Operand) (ho : o.op = .store t p x) {g : Nat} {c0 : Array Value} {e : TypeId} {cs : List Value}
    (hp : a.eval p = .pointer (some ⟨g, 0, none⟩)) (hx : a.eval x = .agg cs.toArray) (hb : W.heap[g]? = some (.cells c0 e (0, 0))) (hl : cs.length = c0.size) (hi : (P.info? t).map (·.size) = some cs.length) (h1 : ∀ v ∈ cs, v.oneCell' = true)
    (h : ∀ w1, w1.heap[g]? = some (.cells cs.toArray e (0, 0)) → W.grownBy w1 (some g) → wpList P ops Q rest a w1) : wpList P ops Q (o :: rest) a W := by
  refine wpList_store_mid hgd t p x ho g 0 cs.toArray hp hx (fun j hj => ?_) (by simpa using hi) (all_oneCell_toArray h1) ?_
  · rw [Nat.zero_add, blk_cell hb j, blk_frozen hb j]
    simp at hj
    simp [Array.getElem?_eq_getElem (show j < c0.size by omega)]
  · obtain ⟨cur, hc, hsz, hcur⟩ := setCells_row cs 0 W c0 hb (by omega)
    obtain ⟨s1, s2, s3, s4⟩ := setCells_same g cs 0 W
    have e1 : cur = cs.toArray := by
      apply Array.toList_inj.1
      rw [hcur, List.take_zero, List.nil_append, List.drop_eq_nil_of_le (by simp; omega), List.append_nil]
    subst e1
    simp only [hN, Act.put]
    exact h _ hc ⟨s1, s2, s3, by rw [s4]; exact Nat.le_refl _, fun i hi hne => setCells_far cs 0 i (fun he => hne (by rw [he]))⟩
/-- .. and loaded whole. -/
theorem load_block {W : World} (hgd : o.guard = none) (t : TypeId) (x : Operand) (ho : o.op = .load t x) {g : Nat} {e : TypeId} {cs : List Value} (d : TypeDesc)
    (hx : a.eval x = .pointer (some ⟨g, 0, none⟩)) (hb : W.heap[g]? = some (.cells cs.toArray e (0, 0))) (hu : P.underlying t = some d) (hd : d.isRow = true) (hi : (P.info? t).map (·.size) = some cs.length)
    (h : wpList P ops Q rest (a.put o.dst (.agg cs.toArray)) W) : wpList P ops Q (o :: rest) a W :=
  wpList_load_mid hgd t x ho g 0 hx cs d (fun j u hj => by rw [Nat.zero_add, blk_cell hb j]; simpa using hj) hu hd hi h
end
end Go.Proofs.Ythkmchgglnhmaaa.Eq
