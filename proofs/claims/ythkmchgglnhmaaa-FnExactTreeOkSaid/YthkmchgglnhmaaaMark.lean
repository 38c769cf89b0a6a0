import Derived.Test.YthkmchgglnhmaaaBase
/- The walks of laws.mark.. and heldIntS: what may be written is written over. Printed by gen_mark.py (own). -/
namespace Go.Proofs.Ythkmchgglnhmaaa.Eq
open Go.RowKit Go.Proofs.YthkmchgglnhmaaaW.PrintWords Go.Proofs.YthkmchgglnhmaaaW.PrintLast Go.Proofs.YthkmchgglnhmaaaW.PrintMore
set_option linter.unusedVariables false
set_option linter.unusedSimpArgs false
/-- Blocks of ok, of types T, may hold something else; all keep their types and sizes. -/
structure Chg (ok : Nat → Prop) (T : List Nat) (W W' : World) : Prop where
  os : W'.os = W.os
  tape : W'.tape = W.tape
  output : W'.output = W.output
  size : W'.heap.size = W.heap.size
  keep : ∀ i, ¬ ok i → W'.heap[i]? = W.heap[i]?
  typed : ∀ (i : Nat) (cs : Array Value) (t : Nat), W.heap[i]? = some (Obj.cells cs t (0, 0)) → (t ∈ T ∨ W'.heap[i]? = W.heap[i]?) ∧ ∃ cs' : Array Value, W'.heap[i]? = some (Obj.cells cs' t (0, 0)) ∧ cs'.size = cs.size
theorem Chg.refl (ok : Nat → Prop) (T : List Nat) (W : World) : Chg ok T W W := ⟨rfl, rfl, rfl, rfl, fun _ _ => rfl, fun i cs t h => ⟨.inr rfl, cs, h, rfl⟩⟩
theorem Chg.trans {ok : Nat → Prop} {T : List Nat} {W W1 W2 : World} (h : Chg ok T W W1) (k : Chg ok T W1 W2) : Chg ok T W W2 :=
  ⟨k.os.trans h.os, k.tape.trans h.tape, k.output.trans h.output, k.size.trans h.size, fun i hi => (k.keep i hi).trans (h.keep i hi), fun i cs t hi => by
    obtain ⟨a1, cs1, b1, c1⟩ := h.typed i cs t hi
    obtain ⟨a2, cs2, b2, c2⟩ := k.typed i cs1 t b1
    refine ⟨?_, cs2, b2, c2.trans c1⟩
    rcases a1 with a1 | a1
    · exact .inl a1
    · rcases a2 with a2 | a2
      · exact .inl a2
      · exact .inr (a2.trans a1)⟩
theorem Chg.more {ok : Nat → Prop} {T T' : List Nat} {W W1 : World} (h : Chg ok T W W1) (hT : ∀ t, t ∈ T → t ∈ T') : Chg ok T' W W1 :=
  ⟨h.os, h.tape, h.output, h.size, h.keep, fun i cs t hi => ⟨(h.typed i cs t hi).1.imp (hT t) id, (h.typed i cs t hi).2⟩⟩
theorem Chg.store {ok : Nat → Prop} {T : List Nat} {W : World} {g : Nat} {cs : Array Value} {t : Nat} (hb : W.heap[g]? = some (Obj.cells cs t (0, 0))) (hg : ok g) (ht : t ∈ T) (j : Nat) (u : Value) : Chg ok T W (W.setCell ⟨g, j, none⟩ u) := by
  have h1 := blk_set hb j u
  refine ⟨rfl, rfl, rfl, by simp [World.setCell], fun i hi => Below.heap_setCell W ⟨g, j, none⟩ u i (fun he => hi (by rw [show i = g from he]; exact hg)), fun i cs1 t1 hi => ?_⟩
  by_cases he : i = g
  · subst he
    rw [hb] at hi
    cases hi
    exact ⟨.inl ht, _, h1, by simp⟩
  · have := Below.heap_setCell W ⟨g, j, none⟩ u i he
    exact ⟨.inr this, cs1, this.trans hi, rfl⟩
/-- Where a row lies, and that it may be written; nothing is said of what it holds. -/
def ShRow (ok : Nat → Prop) (e sz : Nat) (W : World) (v : Value) (n : Nat) : Prop := n ≤ 1048576 ∧ ((n = 0 ∧ ∃ A c, v = .slice A 0 c) ∨ ∃ (g cap : Nat) (cs : Array Value), v = .slice (some ⟨g, 0, none⟩) n cap ∧ ok g ∧ W.heap[g]? = some (Obj.cells cs e (0, 0)) ∧ n * sz ≤ cs.size)
theorem ShRow.chg {ok : Nat → Prop} {T : List Nat} {e sz n : Nat} {W W1 : World} {v : Value} (h : ShRow ok e sz W v n) (k : Chg ok T W W1) : ShRow ok e sz W1 v n := by
  refine ⟨h.1, ?_⟩
  rcases h.2 with h | ⟨g, cap, cs, rfl, h1, h2, h3⟩
  · exact .inl h
  · obtain ⟨_, cs', h4, h5⟩ := k.typed g cs e h2
    exact .inr ⟨g, cap, cs', rfl, h1, h4, by omega⟩
theorem ShRow.slice {ok : Nat → Prop} {e sz n : Nat} {W : World} {v : Value} (h : ShRow ok e sz W v n) : ∃ A c, v = .slice A n c := by
  rcases h.2 with ⟨rfl, A, c, rfl⟩ | ⟨g, cap, cs, rfl, _⟩
  · exact ⟨A, c, rfl⟩
  · exact ⟨_, cap, rfl⟩
theorem ShRow.of_R {α : Type} {d : Kd α} {e base : Nat} {ok : Nat → Prop} {W : World} {v : Value} {xs : List α} (h : d.R e W base ok v xs) (hn : xs.length ≤ 1048576) : ShRow ok e d.sz W v xs.length := by
  refine ⟨hn, ?_⟩
  obtain ⟨h0, inner, ho, hr⟩ := h
  rcases ho.2 with ⟨rfl, hi⟩ | ⟨g, cap, cur, rfl, hb, hh, hnc, hm, hcs, ht⟩
  · exact .inl ⟨hi, none, 0, rfl⟩
  · exact .inr ⟨g, cap, cur, rfl, h0 g rfl, hh, by rw [hcs]; exact Nat.mul_le_mul_right _ hnc⟩
/-- A cell of a block that may be written. -/
theorem blk_ready {W : World} {g : Nat} {cs : Array Value} {t : Nat} (hb : W.heap[g]? = some (Obj.cells cs t (0, 0))) {j : Nat} (hj : j < cs.size) : (∃ u, W.cell? ⟨g, j, none⟩ = some u) ∧ W.frozen? ⟨g, j, none⟩ = false :=
  ⟨⟨cs[j], (blk_cell hb j).trans (Array.getElem?_eq_getElem hj)⟩, blk_frozen hb j⟩
set_option maxHeartbeats 1000000 in
theorem markIntS_calls (ok : Nat → Prop) (A : Option Addr) (n c : Nat) (k0 : Int) (w : World) (hv : ShRow ok 3 1 w (.slice A n c) n) (h0 : 0 ≤ k0) (h1 : k0 ≤ 1152921504606846976) :
    Calls Try.prog 19 #[.slice A n c, .int .i64 k0] w fun e w' => ∃ r : Int, e = .returned (.int .i64 r) ∧ k0 ≤ r ∧ r ≤ k0 + 4194304 ∧ Chg ok [3] w w' := by
  obtain ⟨hn, hv⟩ := hv
  rcases hv with ⟨rfl, _⟩ | ⟨g, cap, cs, he, hg, hb, hsz⟩
  · go_enter Try.func19, Try.ntmps19
    go_wp2
    have hb0 : decide ((0 : Int) < ((0 : Nat) : Int)) = false := by decide
    go_loopw [1, 5] (fun a i w' => a = .int .i64 k0 ∧ i = .int .i64 0 ∧ w' = w) (fun _ _ _ => 0)
    case atStart => exact ⟨rfl, rfl, rfl⟩
    case round =>
      obtain ⟨rfl, rfl, rfl⟩ := hrel
      go_wp2
      go_ret
      exact ⟨_, rfl, by omega, by omega, Chg.refl _ _ _⟩
  · cases he
    have HB := Aside0.mk hb
    have HG := Aside0.mk hg
    clear hb hg
    go_enter Try.func19, Try.ntmps19
    go_wp2
    go_loopw [1, 5] (fun a i w' => ∃ (k : Nat) (r : Int), k ≤ n ∧ i = .int .i64 k ∧ a = .int .i64 r ∧ Aside0 (r = k0 + k * 1) ∧ Aside0 (Chg ok [3] w w')) (fun _ i _ => n - (intOf i).toNat)
    case atStart => exact ⟨0, k0, Nat.zero_le _, rfl, rfl, ⟨by omega⟩, ⟨Chg.refl _ _ _⟩⟩
    case round =>
      obtain ⟨k, r, hk, rfl, rfl, HR, HC⟩ := hrel
      have hr0 : 0 ≤ r := by have := HR.out; omega
      have hr1 : r ≤ 1152921504606846976 + 1048576 * 1 := by have := HR.out; omega
      by_cases hlt : k < n
      · obtain ⟨_, cs', hb, hsz'⟩ := HC.out.typed g cs _ HB.out
        have hg := HG.out
        obtain ⟨⟨u0, hu0⟩, hf0⟩ := blk_ready hb (j := k) (by omega)
        have q0 : (0 : Int) ≤ (k : Int) := by omega
        have q1 : (k : Int) < (n : Int) := by omega
        have hs0 := Chg.store (ok := ok) (T := [3]) hb hg (by simp) (k) (.int .i64 r)
        have HC2 := Aside0.mk (HC.out.trans hs0)
        clear hs0  hb hg
        go_wp2
        go_roundw
        case rel => exact ⟨k + 1, _, by omega, by go_num, rfl, ⟨by have := HR.out; omega⟩, HC2⟩
        case measure => simp [intOf]; omega
      · go_wp2
        go_ret
        obtain rfl : k = n := by omega
        exact ⟨_, rfl, by have := HR.out; omega, by have := HR.out; omega, HC.out⟩
set_option maxHeartbeats 1000000 in
theorem markPutS_calls (ok : Nat → Prop) (A : Option Addr) (n c : Nat) (k0 : Int) (w : World) (hv : ShRow ok 91 2 w (.slice A n c) n) (h0 : 0 ≤ k0) (h1 : k0 ≤ 1152921504606846976) :
    Calls Try.prog 50 #[.slice A n c, .int .i64 k0] w fun e w' => ∃ r : Int, e = .returned (.int .i64 r) ∧ k0 ≤ r ∧ r ≤ k0 + 4194304 ∧ Chg ok [91] w w' := by
  obtain ⟨hn, hv⟩ := hv
  rcases hv with ⟨rfl, _⟩ | ⟨g, cap, cs, he, hg, hb, hsz⟩
  · go_enter Try.func50, Try.ntmps50
    go_wp2
    have hb0 : decide ((0 : Int) < ((0 : Nat) : Int)) = false := by decide
    go_loopw [1, 5] (fun a i w' => a = .int .i64 k0 ∧ i = .int .i64 0 ∧ w' = w) (fun _ _ _ => 0)
    case atStart => exact ⟨rfl, rfl, rfl⟩
    case round =>
      obtain ⟨rfl, rfl, rfl⟩ := hrel
      go_wp2
      go_ret
      exact ⟨_, rfl, by omega, by omega, Chg.refl _ _ _⟩
  · cases he
    have HB := Aside0.mk hb
    have HG := Aside0.mk hg
    clear hb hg
    go_enter Try.func50, Try.ntmps50
    go_wp2
    go_loopw [1, 5] (fun a i w' => ∃ (k : Nat) (r : Int), k ≤ n ∧ i = .int .i64 k ∧ a = .int .i64 r ∧ Aside0 (r = k0 + k * 2) ∧ Aside0 (Chg ok [91] w w')) (fun _ i _ => n - (intOf i).toNat)
    case atStart => exact ⟨0, k0, Nat.zero_le _, rfl, rfl, ⟨by omega⟩, ⟨Chg.refl _ _ _⟩⟩
    case round =>
      obtain ⟨k, r, hk, rfl, rfl, HR, HC⟩ := hrel
      have hr0 : 0 ≤ r := by have := HR.out; omega
      have hr1 : r ≤ 1152921504606846976 + 1048576 * 2 := by have := HR.out; omega
      by_cases hlt : k < n
      · obtain ⟨_, cs', hb, hsz'⟩ := HC.out.typed g cs _ HB.out
        have hg := HG.out
        obtain ⟨⟨u0, hu0⟩, hf0⟩ := blk_ready hb (j := k * 2) (by omega)
        obtain ⟨⟨u1, hu1⟩, hf1⟩ := blk_ready hb (j := k * 2 + 1) (by omega)
        have q0 : (0 : Int) ≤ (k : Int) := by omega
        have q1 : (k : Int) < (n : Int) := by omega
        have hs0 := Chg.store (ok := ok) (T := [91]) hb hg (by simp) (k * 2) (.int .i64 r)
        obtain ⟨_, cs0, hb0, _⟩ := hs0.typed g _ _ hb
        have hs1 := Chg.store (ok := ok) (T := [91]) hb0 hg (by simp) (k * 2 + 1) (.int .i64 (r + 1))
        have HC2 := Aside0.mk ((HC.out.trans hs0).trans hs1)
        clear hs0 hs1 hb0 hb hg
        go_wp2
        go_roundw
        case rel => exact ⟨k + 1, _, by omega, by go_num, rfl, ⟨by have := HR.out; omega⟩, HC2⟩
        case measure => simp [intOf]; omega
      · go_wp2
        go_ret
        obtain rfl : k = n := by omega
        exact ⟨_, rfl, by have := HR.out; omega, by have := HR.out; omega, HC.out⟩
set_option maxHeartbeats 1000000 in
theorem markCellS_calls (ok : Nat → Prop) (A : Option Addr) (n c : Nat) (k0 : Int) (w : World) (hv : ShRow ok 75 3 w (.slice A n c) n) (h0 : 0 ≤ k0) (h1 : k0 ≤ 1152921504606846976) :
    Calls Try.prog 38 #[.slice A n c, .int .i64 k0] w fun e w' => ∃ r : Int, e = .returned (.int .i64 r) ∧ k0 ≤ r ∧ r ≤ k0 + 4194304 ∧ Chg ok [75] w w' := by
  obtain ⟨hn, hv⟩ := hv
  rcases hv with ⟨rfl, _⟩ | ⟨g, cap, cs, he, hg, hb, hsz⟩
  · go_enter Try.func38, Try.ntmps38
    go_wp2
    have hb0 : decide ((0 : Int) < ((0 : Nat) : Int)) = false := by decide
    go_loopw [1, 5] (fun a i w' => a = .int .i64 k0 ∧ i = .int .i64 0 ∧ w' = w) (fun _ _ _ => 0)
    case atStart => exact ⟨rfl, rfl, rfl⟩
    case round =>
      obtain ⟨rfl, rfl, rfl⟩ := hrel
      go_wp2
      go_ret
      exact ⟨_, rfl, by omega, by omega, Chg.refl _ _ _⟩
  · cases he
    have HB := Aside0.mk hb
    have HG := Aside0.mk hg
    clear hb hg
    go_enter Try.func38, Try.ntmps38
    go_wp2
    go_loopw [1, 5] (fun a i w' => ∃ (k : Nat) (r : Int), k ≤ n ∧ i = .int .i64 k ∧ a = .int .i64 r ∧ Aside0 (r = k0 + k * 3) ∧ Aside0 (Chg ok [75] w w')) (fun _ i _ => n - (intOf i).toNat)
    case atStart => exact ⟨0, k0, Nat.zero_le _, rfl, rfl, ⟨by omega⟩, ⟨Chg.refl _ _ _⟩⟩
    case round =>
      obtain ⟨k, r, hk, rfl, rfl, HR, HC⟩ := hrel
      have hr0 : 0 ≤ r := by have := HR.out; omega
      have hr1 : r ≤ 1152921504606846976 + 1048576 * 3 := by have := HR.out; omega
      by_cases hlt : k < n
      · obtain ⟨_, cs', hb, hsz'⟩ := HC.out.typed g cs _ HB.out
        have hg := HG.out
        obtain ⟨⟨u0, hu0⟩, hf0⟩ := blk_ready hb (j := k * 3) (by omega)
        obtain ⟨⟨u1, hu1⟩, hf1⟩ := blk_ready hb (j := k * 3 + 1) (by omega)
        obtain ⟨⟨u2, hu2⟩, hf2⟩ := blk_ready hb (j := k * 3 + 2) (by omega)
        have q0 : (0 : Int) ≤ (k : Int) := by omega
        have q1 : (k : Int) < (n : Int) := by omega
        have hs0 := Chg.store (ok := ok) (T := [75]) hb hg (by simp) (k * 3) (.int .i64 r)
        obtain ⟨_, cs0, hb0, _⟩ := hs0.typed g _ _ hb
        have hs1 := Chg.store (ok := ok) (T := [75]) hb0 hg (by simp) (k * 3 + 1) (.int .i64 (r + 1))
        obtain ⟨_, cs1, hb1, _⟩ := hs1.typed g _ _ hb0
        have hs2 := Chg.store (ok := ok) (T := [75]) hb1 hg (by simp) (k * 3 + 2) (.int .i64 (r + 1 + 1))
        have HC2 := Aside0.mk (((HC.out.trans hs0).trans hs1).trans hs2)
        clear hs0 hs1 hs2 hb0 hb1 hb hg
        go_wp2
        go_roundw
        case rel => exact ⟨k + 1, _, by omega, by go_num, rfl, ⟨by have := HR.out; omega⟩, HC2⟩
        case measure => simp [intOf]; omega
      · go_wp2
        go_ret
        obtain rfl : k = n := by omega
        exact ⟨_, rfl, by have := HR.out; omega, by have := HR.out; omega, HC.out⟩
/-- The state of a block g of elements e (sz cells each, n of them) while it is marked: what leads on (places pos of each element) is as it was. -/
def MSt (ok : Nat → Prop) (TT : List Nat) (e sz n : Nat) (pos : List Nat) (g : Nat) (cs : Array Value) (w W : World) : Prop :=
  Chg ok TT w W ∧ ∃ cs' : Array Value, W.heap[g]? = some (Obj.cells cs' e (0, 0)) ∧ cs'.size = cs.size ∧ ∀ q, q < n → ∀ j, j ∈ pos → cs'[q * sz + j]? = cs[q * sz + j]?
section
variable {ok : Nat → Prop} {TT : List Nat} {e sz n : Nat} {pos : List Nat} {g : Nat} {cs : Array Value} {w W W1 : World}
theorem MSt.start (hb : w.heap[g]? = some (Obj.cells cs e (0, 0))) : MSt ok TT e sz n pos g cs w w := ⟨Chg.refl _ _ _, cs, hb, rfl, fun _ _ _ _ => rfl⟩
theorem place_inj {q k j i sz : Nat} (hj : j < sz) (hi : i < sz) (h : q * sz + j = k * sz + i) : j = i := by
  have h1 : (q * sz + j) % sz = j := by rw [Nat.mul_comm, Nat.mul_add_mod]; exact Nat.mod_eq_of_lt hj
  have h2 : (k * sz + i) % sz = i := by rw [Nat.mul_comm, Nat.mul_add_mod]; exact Nat.mod_eq_of_lt hi
  rw [← h1, h, h2]
theorem MSt.store (h : MSt ok TT e sz n pos g cs w W) (hg : ok g) (he : e ∈ TT) (hp : ∀ j, j ∈ pos → j < sz) (k : Nat) {off : Nat} (hoff : ∃ i, off = k * sz + i ∧ i < sz ∧ i ∉ pos) (u : Value) : MSt ok TT e sz n pos g cs w (W.setCell ⟨g, off, none⟩ u) := by
  obtain ⟨h1, cs', hb, hs, hq⟩ := h
  obtain ⟨i, rfl, hi, hni⟩ := hoff
  refine ⟨h1.trans (Chg.store hb hg he _ u), _, blk_set hb _ u, by simpa using hs, fun q hqn j hj => ?_⟩
  rw [Array.getElem?_setIfInBounds_ne (fun he => hni (by rw [← place_inj hi (hp j hj) he] at hj; exact hj))]
  exact hq q hqn j hj
theorem MSt.stored (h : MSt ok TT e sz n pos g cs w W) (hg : ok g) (he : e ∈ TT) (hp : ∀ j, j ∈ pos → j < sz) (k : Nat) {off : Nat} {u : Value} (hw : W1 = W.setCell ⟨g, off, none⟩ u) (hoff : ∃ i, off = k * sz + i ∧ i < sz ∧ i ∉ pos) : MSt ok TT e sz n pos g cs w W1 := by
  rw [hw]
  exact h.store hg he hp k hoff u
theorem MSt.chg {T : List Nat} (h : MSt ok TT e sz n pos g cs w W) (k : Chg ok T W W1) (he : e ∉ T) (hT : ∀ t, t ∈ T → t ∈ TT) : MSt ok TT e sz n pos g cs w W1 := by
  obtain ⟨h1, cs', hb, hs, hq⟩ := h
  refine ⟨h1.trans (k.more hT), cs', ?_, hs, hq⟩
  rw [(k.typed g cs' e hb).1.resolve_left he]
  exact hb
theorem MSt.at (h : MSt ok TT e sz n pos g cs w W) {q : Nat} (hq : q < n) {j : Nat} (hj : j ∈ pos) {v : Value} (hv : cs[q * sz + j]? = some v) : W.cell? ⟨g, q * sz + j, none⟩ = some v := by
  obtain ⟨_, cs', hb, _, h2⟩ := h
  rw [blk_cell hb, h2 q hq j hj, hv]
theorem MSt.ready (h : MSt ok TT e sz n pos g cs w W) {off : Nat} (ho : off < cs.size) : (∃ u, W.cell? ⟨g, off, none⟩ = some u) ∧ W.frozen? ⟨g, off, none⟩ = false := by
  obtain ⟨_, cs', hb, hs, _⟩ := h
  exact blk_ready hb (by omega)
end
section
variable {P : Program} {ops : Array Oper} {rest : List Oper} {o : Oper} {a : Act} {Q : Exit → Act → World → Prop}
theorem mark_store_ev {W : World} {t : TypeId} (hgd : o.guard = none) (hN : o.dst = none) (p x : Operand) (ho : o.op = .store t p x) {g off : Nat} (hp : a.eval p = .pointer (some ⟨g, off, none⟩)) {u : Int} (hx : a.eval x = .int .i64 u) (hi : (P.info? t).map (·.size) = some 1)
    (hr : (∃ u, W.cell? ⟨g, off, none⟩ = some u) ∧ W.frozen? ⟨g, off, none⟩ = false) (h : ∀ w1, w1 = W.setCell ⟨g, off, none⟩ (.int .i64 u) → wpList P ops Q rest a w1) : wpList P ops Q (o :: rest) a W := by
  obtain ⟨⟨z, hz⟩, hf⟩ := hr
  refine wpList_plain hgd fun K hK => ?_
  obtain ⟨info, hinfo, hsz⟩ := Option.map_eq_some_iff.1 hi
  unfold Oper.wp execOp
  have hrun : (Instr.storeAt t (.pointer (some ⟨g, off, none⟩)) (.int .i64 u)).run P W = .ok () (W.setCell ⟨g, off, none⟩ (.int .i64 u)) := by
    simp [Instr.storeAt, Instr.sureAddr, storeVar, storeCells, sizeOf, typeInfo, program, store, Value.cells, Sem.run, hinfo, hsz, hz, hf, Sem.run_bind, Addr.add]
  simp only [ho, hp, hx, Sem.run_bind, hrun, Result.andThen_ok, Sem.run_pure, Oper.upon_skip]
  rw [hN]
  exact hK _ _ (h _ rfl)
end
/-- .. and the rows that element k leads to. -/
def ShEntry (ok : Nat → Prop) (W : World) (cs : Array Value) (k : Nat) : Prop := (∃ (v : Value) (n : Nat), cs[k * 6 + 3]? = some v ∧ ShRow ok 91 2 W v n) ∧ (∃ (v : Value) (n : Nat), cs[k * 6 + 4]? = some v ∧ ShRow ok 91 2 W v n)
set_option maxHeartbeats 4000000 in
set_option maxRecDepth 100000 in
theorem markEntryS_calls (ok : Nat → Prop) (v : Value) (n : Nat) (k0 : Int) (w : World) (hn : n ≤ 1048576) (hv : (n = 0 ∧ ∃ A c, v = .slice A 0 c) ∨ ∃ (g cap : Nat) (cs : Array Value), v = .slice (some ⟨g, 0, none⟩) n cap ∧ ok g ∧ w.heap[g]? = some (Obj.cells cs 80 (0, 0)) ∧ n * 6 ≤ cs.size ∧ ∀ k, k < n → ShEntry ok w cs k) (h0 : 0 ≤ k0) (h1 : k0 ≤ 72057594037927936) :
    Calls Try.prog 40 #[v, .int .i64 k0] w fun e w' => ∃ r : Int, e = .returned (.int .i64 r) ∧ k0 ≤ r ∧ r ≤ k0 + n * 33554432 ∧ Chg ok [80, 91] w w' := by
  rcases hv with ⟨rfl, A, c, rfl⟩ | ⟨g, cap, cs, rfl, hg, hb, hsz, hSh⟩
  · go_enter Try.func40, Try.ntmps40
    go_wp2
    have hb0 : decide ((0 : Int) < ((0 : Nat) : Int)) = false := by decide
    go_loopw [1, 5] (fun a i w' => a = .int .i64 k0 ∧ i = .int .i64 0 ∧ w' = w) (fun _ _ _ => 0)
    case atStart => exact ⟨rfl, rfl, rfl⟩
    case round =>
      obtain ⟨rfl, rfl, rfl⟩ := hrel
      go_wp2
      go_ret
      exact ⟨_, rfl, by omega, by omega, Chg.refl _ _ _⟩
  · have HT0 := Aside0.mk (MSt.start (ok := ok) (TT := [80, 91]) (sz := 6) (n := n) (pos := [3, 4]) hb)
    have HG := Aside0.mk hg
    have HSH := Aside0.mk hSh
    clear hb hg hSh
    go_enter Try.func40, Try.ntmps40
    go_wp2
    go_loopw [1, 5] (fun a i w' => ∃ (k : Nat) (r : Int), k ≤ n ∧ i = .int .i64 k ∧ a = .int .i64 r ∧ k0 ≤ r ∧ r ≤ k0 + k * 33554432 ∧ Aside0 (MSt ok [80, 91] 80 6 n [3, 4] g cs w w')) (fun _ i _ => n - (intOf i).toNat)
    case atStart => exact ⟨0, k0, Nat.zero_le _, rfl, rfl, by omega, by omega, HT0⟩
    case round =>
      clear HT0
      obtain ⟨k, r, hk, rfl, rfl, hr0, hr1, HT⟩ := hrel
      by_cases hlt : k < n
      · obtain ⟨⟨v3, n3, e3, S3⟩, ⟨v4, n4, e4, S4⟩⟩ := HSH.out k hlt
        have E3 := Aside0.mk e3
        have R3 := Aside0.mk S3
        obtain ⟨A3, c3, rfl⟩ := S3.slice
        clear S3 e3
        have E4 := Aside0.mk e4
        have R4 := Aside0.mk S4
        obtain ⟨A4, c4, rfl⟩ := S4.slice
        clear S4 e4
        have d3 := HT.out.at hlt (j := 3) (by decide) E3.out
        have d4 := HT.out.at hlt (j := 4) (by decide) E4.out
        have q0 : (0 : Int) ≤ (k : Int) := by omega
        have q1 : (k : Int) < (n : Int) := by omega
        have hks : k * 6 + 6 ≤ cs.size := Nat.le_trans (by rw [← Nat.succ_mul]; exact Nat.mul_le_mul_right _ hlt) hsz
        go_wp2_with (first
          | ((with_reducible refine gate_store (t := 3) rfl ?_); refine mark_store_ev rfl rfl _ _ rfl rfl rfl (by kernel_rfl) (HT.out.ready (by omega)) ?_; intro w1 hw; have HT1 := Aside0.mk (HT.out.stored HG.out (by decide) (by decide) k hw (by first | exact ⟨_, rfl, by decide, by decide⟩ | exact ⟨0, (Nat.add_zero _).symm, by decide, by decide⟩)); clear HT d3 d4 hw; have HT := HT1; clear HT1; have d3 := HT.out.at hlt (j := 3) (by decide) E3.out; have d4 := HT.out.at hlt (j := 4) (by decide) E4.out)
          | (go_at_call 50; refine (markPutS_calls ok _ _ _ _ _ ?h1 (by omega) (by omega)).mono ?_; (case h1 => (first | exact R3.out.chg HT.out.1 | exact R4.out.chg HT.out.1)); rintro e w1 ⟨r1, rfl, hra, hrb, hc⟩; have HT1 := Aside0.mk (HT.out.chg hc (by decide) (by decide)); clear HT d3 d4 hc; have HT := HT1; clear HT1; have d3 := HT.out.at hlt (j := 3) (by decide) E3.out; have d4 := HT.out.at hlt (j := 4) (by decide) E4.out))
        go_roundw
        case rel => exact ⟨k + 1, _, by omega, by go_num, rfl, by omega, by omega, HT⟩
        case measure => simp [intOf]; omega
      · go_wp2
        go_ret
        obtain rfl : k = n := by omega
        exact ⟨_, rfl, by omega, by omega, HT.out.1⟩
/-- .. and the rows that element k leads to. -/
def ShTask (ok : Nat → Prop) (W : World) (cs : Array Value) (k : Nat) : Prop := (∃ (v : Value) (n : Nat), cs[k * 13 + 3]? = some v ∧ ShRow ok 3 1 W v n) ∧ (∃ (v : Value) (n : Nat), cs[k * 13 + 8]? = some v ∧ ShRow ok 3 1 W v n) ∧ (∃ (v : Value) (n : Nat), cs[k * 13 + 9]? = some v ∧ ShRow ok 91 2 W v n) ∧ (∃ (v : Value) (n : Nat), cs[k * 13 + 10]? = some v ∧ ShRow ok 91 2 W v n)
set_option maxHeartbeats 4000000 in
set_option maxRecDepth 100000 in
theorem markTaskS_calls (ok : Nat → Prop) (v : Value) (n : Nat) (k0 : Int) (w : World) (hn : n ≤ 1048576) (hv : (n = 0 ∧ ∃ A c, v = .slice A 0 c) ∨ ∃ (g cap : Nat) (cs : Array Value), v = .slice (some ⟨g, 0, none⟩) n cap ∧ ok g ∧ w.heap[g]? = some (Obj.cells cs 52 (0, 0)) ∧ n * 13 ≤ cs.size ∧ ∀ k, k < n → ShTask ok w cs k) (h0 : 0 ≤ k0) (h1 : k0 ≤ 72057594037927936) :
    Calls Try.prog 39 #[v, .int .i64 k0] w fun e w' => ∃ r : Int, e = .returned (.int .i64 r) ∧ k0 ≤ r ∧ r ≤ k0 + n * 33554432 ∧ Chg ok [52, 3, 91] w w' := by
  rcases hv with ⟨rfl, A, c, rfl⟩ | ⟨g, cap, cs, rfl, hg, hb, hsz, hSh⟩
  · go_enter Try.func39, Try.ntmps39
    go_wp2
    have hb0 : decide ((0 : Int) < ((0 : Nat) : Int)) = false := by decide
    go_loopw [1, 5] (fun a i w' => a = .int .i64 k0 ∧ i = .int .i64 0 ∧ w' = w) (fun _ _ _ => 0)
    case atStart => exact ⟨rfl, rfl, rfl⟩
    case round =>
      obtain ⟨rfl, rfl, rfl⟩ := hrel
      go_wp2
      go_ret
      exact ⟨_, rfl, by omega, by omega, Chg.refl _ _ _⟩
  · have HT0 := Aside0.mk (MSt.start (ok := ok) (TT := [52, 3, 91]) (sz := 13) (n := n) (pos := [3, 8, 9, 10]) hb)
    have HG := Aside0.mk hg
    have HSH := Aside0.mk hSh
    clear hb hg hSh
    go_enter Try.func39, Try.ntmps39
    go_wp2
    go_loopw [1, 5] (fun a i w' => ∃ (k : Nat) (r : Int), k ≤ n ∧ i = .int .i64 k ∧ a = .int .i64 r ∧ k0 ≤ r ∧ r ≤ k0 + k * 33554432 ∧ Aside0 (MSt ok [52, 3, 91] 52 13 n [3, 8, 9, 10] g cs w w')) (fun _ i _ => n - (intOf i).toNat)
    case atStart => exact ⟨0, k0, Nat.zero_le _, rfl, rfl, by omega, by omega, HT0⟩
    case round =>
      clear HT0
      obtain ⟨k, r, hk, rfl, rfl, hr0, hr1, HT⟩ := hrel
      by_cases hlt : k < n
      · obtain ⟨⟨v3, n3, e3, S3⟩, ⟨v8, n8, e8, S8⟩, ⟨v9, n9, e9, S9⟩, ⟨v10, n10, e10, S10⟩⟩ := HSH.out k hlt
        have E3 := Aside0.mk e3
        have R3 := Aside0.mk S3
        obtain ⟨A3, c3, rfl⟩ := S3.slice
        clear S3 e3
        have E8 := Aside0.mk e8
        have R8 := Aside0.mk S8
        obtain ⟨A8, c8, rfl⟩ := S8.slice
        clear S8 e8
        have E9 := Aside0.mk e9
        have R9 := Aside0.mk S9
        obtain ⟨A9, c9, rfl⟩ := S9.slice
        clear S9 e9
        have E10 := Aside0.mk e10
        have R10 := Aside0.mk S10
        obtain ⟨A10, c10, rfl⟩ := S10.slice
        clear S10 e10
        have d3 := HT.out.at hlt (j := 3) (by decide) E3.out
        have d8 := HT.out.at hlt (j := 8) (by decide) E8.out
        have d9 := HT.out.at hlt (j := 9) (by decide) E9.out
        have d10 := HT.out.at hlt (j := 10) (by decide) E10.out
        have q0 : (0 : Int) ≤ (k : Int) := by omega
        have q1 : (k : Int) < (n : Int) := by omega
        have hks : k * 13 + 13 ≤ cs.size := Nat.le_trans (by rw [← Nat.succ_mul]; exact Nat.mul_le_mul_right _ hlt) hsz
        go_wp2_with (first
          | ((with_reducible refine gate_store (t := 3) rfl ?_); refine mark_store_ev rfl rfl _ _ rfl rfl rfl (by kernel_rfl) (HT.out.ready (by omega)) ?_; intro w1 hw; have HT1 := Aside0.mk (HT.out.stored HG.out (by decide) (by decide) k hw (by first | exact ⟨_, rfl, by decide, by decide⟩ | exact ⟨0, (Nat.add_zero _).symm, by decide, by decide⟩)); clear HT d3 d8 d9 d10 hw; have HT := HT1; clear HT1; have d3 := HT.out.at hlt (j := 3) (by decide) E3.out; have d8 := HT.out.at hlt (j := 8) (by decide) E8.out; have d9 := HT.out.at hlt (j := 9) (by decide) E9.out; have d10 := HT.out.at hlt (j := 10) (by decide) E10.out)
          | (go_at_call 19; refine (markIntS_calls ok _ _ _ _ _ ?h1 (by omega) (by omega)).mono ?_; (case h1 => (first | exact R3.out.chg HT.out.1 | exact R8.out.chg HT.out.1)); rintro e w1 ⟨r1, rfl, hra, hrb, hc⟩; have HT1 := Aside0.mk (HT.out.chg hc (by decide) (by decide)); clear HT d3 d8 d9 d10 hc; have HT := HT1; clear HT1; have d3 := HT.out.at hlt (j := 3) (by decide) E3.out; have d8 := HT.out.at hlt (j := 8) (by decide) E8.out; have d9 := HT.out.at hlt (j := 9) (by decide) E9.out; have d10 := HT.out.at hlt (j := 10) (by decide) E10.out)
          | (go_at_call 50; refine (markPutS_calls ok _ _ _ _ _ ?h1 (by omega) (by omega)).mono ?_; (case h1 => (first | exact R9.out.chg HT.out.1 | exact R10.out.chg HT.out.1)); rintro e w1 ⟨r1, rfl, hra, hrb, hc⟩; have HT1 := Aside0.mk (HT.out.chg hc (by decide) (by decide)); clear HT d3 d8 d9 d10 hc; have HT := HT1; clear HT1; have d3 := HT.out.at hlt (j := 3) (by decide) E3.out; have d8 := HT.out.at hlt (j := 8) (by decide) E8.out; have d9 := HT.out.at hlt (j := 9) (by decide) E9.out; have d10 := HT.out.at hlt (j := 10) (by decide) E10.out))
        go_roundw
        case rel => exact ⟨k + 1, _, by omega, by go_num, rfl, by omega, by omega, HT⟩
        case measure => simp [intOf]; omega
      · go_wp2
        go_ret
        obtain rfl : k = n := by omega
        exact ⟨_, rfl, by omega, by omega, HT.out.1⟩
end Go.Proofs.Ythkmchgglnhmaaa.Eq
