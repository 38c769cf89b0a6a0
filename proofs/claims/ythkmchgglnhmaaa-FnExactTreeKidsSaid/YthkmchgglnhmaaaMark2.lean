import Derived.Test.YthkmchgglnhmaaaMark
import Derived.Test.YthkmchgglnhmaaaTo2
/- markSys; and marks that are read again (markIntS, heldIntS). -/
namespace Go.Proofs.Ythkmchgglnhmaaa.Eq
open Go.RowKit Go.Proofs.YthkmchgglnhmaaaW.PrintWords Go.Proofs.YthkmchgglnhmaaaW.PrintLast Go.Proofs.YthkmchgglnhmaaaW.PrintMore
set_option linter.unusedVariables false
set_option linter.unusedSimpArgs false
/-- What is not ok stays; blocks may be new. -/
structure Kp (ok : Nat → Prop) (W W' : World) : Prop where
  os : W'.os = W.os
  tape : W'.tape = W.tape
  output : W'.output = W.output
  size : W.heap.size ≤ W'.heap.size
  keep : ∀ i, i < W.heap.size → ¬ ok i → W'.heap[i]? = W.heap[i]?
theorem Kp.below {ok : Nat → Prop} {w W W' : World} (h : Below w.heap.size w W) (k : Kp ok W W') (hok : ∀ i, ok i → w.heap.size ≤ i) : Below w.heap.size w W' :=
  ⟨k.os.trans h.os, k.tape.trans h.tape, k.output.trans h.output, Nat.le_trans h.size k.size, fun i hi => (k.keep i (Nat.lt_of_lt_of_le hi h.size) (fun hk => by have := hok i hk; omega)).trans (h.block i hi)⟩
theorem Kp.blk {ok : Nat → Prop} {W W' : World} {g : Nat} {o : Obj} (hb : W.heap[g]? = some o) (k : Kp ok W W') (hg : ¬ ok g) : W'.heap[g]? = some o := (k.keep g (blk_lt hb) hg).trans hb
theorem Kp.R {α : Type} {d : Kd α} {e base : Nat} {ok okr : Nat → Prop} {W W' : World} {v : Value} {xs : List α} (h : d.R e W base okr v xs) (k : Kp ok W W') (hr : ∀ i, okr i → ¬ ok i) : d.R e W' base okr v xs :=
  Kd.R_step h (fun i hi hlt => k.keep i hlt (hr i hi))

theorem cells_of {W : World} {g : Nat} {cs : Array Value} {t : Nat} (hb : W.heap[g]? = some (Obj.cells cs t (0, 0))) {j : Nat} {u : Value} (h : W.cell? ⟨g, j, none⟩ = some u) : cs[j]? = some u := by rw [← blk_cell hb j]; exact h
theorem sumOf_mem {α : Type} (f : α → Nat) (l : List α) (k : Nat) (z : α) (h : k < l.length) : f (l.getD k z) ≤ sumOf f l := by
  have h1 := sumOf_take f l k z h
  have h2 := sumOf_le f l (k + 1)
  omega
theorem shTasks {base : Nat} {ok : Nat → Prop} {W : World} {v : Value} {xs : List Task} (h : kTask.R 52 W base ok v xs) (hn : xs.length ≤ 1048576) (hs : sumOf szT xs ≤ 1048576) :
    (xs.length = 0 ∧ ∃ A c, v = .slice A 0 c) ∨ ∃ (g cap : Nat) (cs : Array Value), v = .slice (some ⟨g, 0, none⟩) xs.length cap ∧ ok g ∧ W.heap[g]? = some (Obj.cells cs 52 (0, 0)) ∧ xs.length * 13 ≤ cs.size ∧ ∀ k, k < xs.length → ShTask ok W cs k := by
  rcases (ShRow.of_R h hn).2 with h0 | ⟨g, cap, cs, rfl, hg, hb, hsz⟩
  · exact .inl h0
  · refine .inr ⟨g, cap, cs, rfl, hg, hb, hsz, fun k hk => ?_⟩
    obtain ⟨c, hcl, hM, hcc, _⟩ := Kd.R_elem h zTask (k : Int) (by omega) (by omega)
    simp only [Int.toNat_natCast] at hM hcc
    obtain ⟨v3, v8, v9, v10, rfl, r3, r8, r9, r10⟩ := kTask_openM hM
    have hb1 := sumOf_mem szT xs k zTask hk
    unfold szT at hb1
    have mono : ∀ i, (ok i ∧ i ≠ g) → ok i := fun i hi => hi.1
    exact ⟨⟨v3, _, cells_of hb (hcc 3 _ rfl), ShRow.of_R (Kd.R_mono r3 mono) (by unfold szT at hs; omega)⟩, ⟨v8, _, cells_of hb (hcc 8 _ rfl), ShRow.of_R (Kd.R_mono r8 mono) (by unfold szT at hs; omega)⟩,
      ⟨v9, _, cells_of hb (hcc 9 _ rfl), ShRow.of_R (Kd.R_mono r9 mono) (by unfold szT at hs; omega)⟩, ⟨v10, _, cells_of hb (hcc 10 _ rfl), ShRow.of_R (Kd.R_mono r10 mono) (by unfold szT at hs; omega)⟩⟩
theorem shEntries {base : Nat} {ok : Nat → Prop} {W : World} {v : Value} {xs : List Entry} (h : kEntry.R 80 W base ok v xs) (hn : xs.length ≤ 1048576) (hs : sumOf szE xs ≤ 1048576) :
    (xs.length = 0 ∧ ∃ A c, v = .slice A 0 c) ∨ ∃ (g cap : Nat) (cs : Array Value), v = .slice (some ⟨g, 0, none⟩) xs.length cap ∧ ok g ∧ W.heap[g]? = some (Obj.cells cs 80 (0, 0)) ∧ xs.length * 6 ≤ cs.size ∧ ∀ k, k < xs.length → ShEntry ok W cs k := by
  rcases (ShRow.of_R h hn).2 with h0 | ⟨g, cap, cs, rfl, hg, hb, hsz⟩
  · exact .inl h0
  · refine .inr ⟨g, cap, cs, rfl, hg, hb, hsz, fun k hk => ?_⟩
    obtain ⟨c, hcl, hM, hcc, _⟩ := Kd.R_elem h zEntry (k : Int) (by omega) (by omega)
    simp only [Int.toNat_natCast] at hM hcc
    obtain ⟨v3, v4, rfl, r3, r4⟩ := kEntry_openM hM
    have hb1 := sumOf_mem szE xs k zEntry hk
    unfold szE at hb1
    have mono : ∀ i, (ok i ∧ i ≠ g) → ok i := fun i hi => hi.1
    exact ⟨⟨v3, _, cells_of hb (hcc 3 _ rfl), ShRow.of_R (Kd.R_mono r3 mono) (by unfold szE at hs; omega)⟩, ⟨v4, _, cells_of hb (hcc 4 _ rfl), ShRow.of_R (Kd.R_mono r4 mono) (by unfold szE at hs; omega)⟩⟩

theorem Chg.kp {ok : Nat → Prop} {T : List Nat} {w W W' : World} (h : Below w.heap.size w W) (k : Chg ok T W W') : Kp ok w W' :=
  ⟨k.os.trans h.os, k.tape.trans h.tape, k.output.trans h.output, by rw [k.size]; exact h.size, fun i hi ho => (k.keep i ho).trans (h.block i hi)⟩
theorem shTasks_chg {ok : Nat → Prop} {T : List Nat} {W W' : World} {v : Value} {n : Nat} (h : (n = 0 ∧ ∃ A c, v = .slice A 0 c) ∨ ∃ (g cap : Nat) (cs : Array Value), v = .slice (some ⟨g, 0, none⟩) n cap ∧ ok g ∧ W.heap[g]? = some (Obj.cells cs 52 (0, 0)) ∧ n * 13 ≤ cs.size ∧ ∀ k, k < n → ShTask ok W cs k)
    (k : Chg ok T W W') (hT : 52 ∉ T) : (n = 0 ∧ ∃ A c, v = .slice A 0 c) ∨ ∃ (g cap : Nat) (cs : Array Value), v = .slice (some ⟨g, 0, none⟩) n cap ∧ ok g ∧ W'.heap[g]? = some (Obj.cells cs 52 (0, 0)) ∧ n * 13 ≤ cs.size ∧ ∀ k, k < n → ShTask ok W' cs k := by
  rcases h with h | ⟨g, cap, cs, rfl, hg, hb, hs, hk⟩
  · exact .inl h
  · refine .inr ⟨g, cap, cs, rfl, hg, ((k.typed g cs _ hb).1.resolve_left hT).trans hb, hs, fun q hq => ?_⟩
    obtain ⟨⟨a1, b1, c1, d1⟩, ⟨a2, b2, c2, d2⟩, ⟨a3, b3, c3, d3⟩, ⟨a4, b4, c4, d4⟩⟩ := hk q hq
    exact ⟨⟨a1, b1, c1, d1.chg k⟩, ⟨a2, b2, c2, d2.chg k⟩, ⟨a3, b3, c3, d3.chg k⟩, ⟨a4, b4, c4, d4.chg k⟩⟩
theorem shEntries_chg {ok : Nat → Prop} {T : List Nat} {W W' : World} {v : Value} {n : Nat} (h : (n = 0 ∧ ∃ A c, v = .slice A 0 c) ∨ ∃ (g cap : Nat) (cs : Array Value), v = .slice (some ⟨g, 0, none⟩) n cap ∧ ok g ∧ W.heap[g]? = some (Obj.cells cs 80 (0, 0)) ∧ n * 6 ≤ cs.size ∧ ∀ k, k < n → ShEntry ok W cs k)
    (k : Chg ok T W W') (hT : 80 ∉ T) : (n = 0 ∧ ∃ A c, v = .slice A 0 c) ∨ ∃ (g cap : Nat) (cs : Array Value), v = .slice (some ⟨g, 0, none⟩) n cap ∧ ok g ∧ W'.heap[g]? = some (Obj.cells cs 80 (0, 0)) ∧ n * 6 ≤ cs.size ∧ ∀ k, k < n → ShEntry ok W' cs k := by
  rcases h with h | ⟨g, cap, cs, rfl, hg, hb, hs, hk⟩
  · exact .inl h
  · refine .inr ⟨g, cap, cs, rfl, hg, ((k.typed g cs _ hb).1.resolve_left hT).trans hb, hs, fun q hq => ?_⟩
    obtain ⟨⟨a1, b1, c1, d1⟩, ⟨a2, b2, c2, d2⟩⟩ := hk q hq
    exact ⟨⟨a1, b1, c1, d1.chg k⟩, ⟨a2, b2, c2, d2.chg k⟩⟩
theorem Kp.chg {ok : Nat → Prop} {T : List Nat} {w W W' : World} (h : Kp ok w W) (k : Chg ok T W W') : Kp ok w W' :=
  ⟨k.os.trans h.os, k.tape.trans h.tape, k.output.trans h.output, by rw [k.size]; exact h.size, fun i hi ho => (k.keep i ho).trans (h.keep i hi ho)⟩
theorem Kp.alloc (ok : Nat → Prop) (w : World) (o : Obj) : Kp ok w (w.alloc o) :=
  let b := below_alloc (Below.refl w.heap.size w) o
  ⟨b.os, b.tape, b.output, b.size, fun i hi _ => b.block i hi⟩
theorem cell_kept_of {ok : Nat → Prop} {T : List Nat} {W W' : World} {g : Nat} (k : Chg ok T W W') (hg : ¬ ok g) : (∀ o, W'.cell? ⟨g, o, none⟩ = W.cell? ⟨g, o, none⟩) := fun o => by simp [World.cell?, k.keep g hg]
set_option maxHeartbeats 2000000 in
theorem markSys_calls (x : Sys) (cs : List Value) (base : Nat) (ok : Nat → Prop) (w : World) (hx : kSys.M w base ok x cs) (hn : szS x ≤ 1048576) :
    Calls Try.prog 18 #[.agg cs.toArray, .int .i64 1] w fun e w' => ∃ r : Int, e = .returned (.int .i64 r) ∧ 0 ≤ r ∧ Kp (fun k => ok k ∧ k < w.heap.size) w w' := by
  obtain ⟨v0, v1, v3, rfl, r0, r1, r3⟩ := kSys_openM hx
  clear hx
  unfold szS at hn
  have mono : ∀ i, (ok i ∧ base ≤ i ∧ i < w.heap.size ∧ True) → (ok i ∧ i < w.heap.size) := fun i hi => ⟨hi.1, hi.2.2.1⟩
  obtain ⟨A0, c0, rfl⟩ := Kd.R_slice r0
  obtain ⟨A1, c1, rfl⟩ := Kd.R_slice r1
  obtain ⟨A3, c3, rfl⟩ := Kd.R_slice r3
  have hl0 : x.cells.length ≤ 1048576 := by omega
  have hl1 : x.tasks.length ≤ 1048576 := by omega
  have hl3 : x.log.length ≤ 1048576 := by omega
  generalize hbox : Obj.cells #[.slice A0 x.cells.length c0, .slice A1 x.tasks.length c1, .int .i64 x.clock, .slice A3 x.log.length c3] 33 (0, 0) = box
  have s0 := Aside0.mk (ShRow.of_R (Kd.R_alloc (Kd.R_mono (Kd.R_bound r0) (fun i hi => (⟨hi.1, hi.2.2.1⟩ : ok i ∧ i < w.heap.size))) box) hl0)
  have s1 := Aside0.mk (shTasks (Kd.R_alloc (Kd.R_mono (Kd.R_bound r1) (fun i hi => (⟨hi.1, hi.2.2.1⟩ : ok i ∧ i < w.heap.size))) box) hl1 (by omega))
  have s3 := Aside0.mk (shEntries (Kd.R_alloc (Kd.R_mono (Kd.R_bound r3) (fun i hi => (⟨hi.1, hi.2.2.1⟩ : ok i ∧ i < w.heap.size))) box) hl3 (by omega))
  have HBX := Aside0.mk hbox
  clear hbox r0 r1 r3 mono
  have HK := Aside0.mk (Kp.alloc (fun k => ok k ∧ k < w.heap.size) w box)
  have HN := Aside0.mk (show ¬ (ok w.heap.size ∧ w.heap.size < w.heap.size) by omega)
  go_enter Try.func18, Try.ntmps18
  rw [← HBX.out] at s0 s1 s3 HK
  clear HBX
  go_wp2_with (first
    | (go_at_call 38; refine (markCellS_calls _ _ _ _ _ _ s0.out (by omega) (by omega)).mono ?_; rintro e w1 ⟨r1, rfl, ha1, hb1, hc⟩; have t1 := Aside0.mk (shTasks_chg s1.out hc (by decide)); have t3 := Aside0.mk (shEntries_chg s3.out hc (by decide)); have HK1 := Aside0.mk (HK.out.chg hc); have hd := cell_kept_of hc HN.out; clear s0 s1 s3 hc HK)
    | (go_at_call 39; refine (markTaskS_calls _ _ _ _ _ hl1 t1.out (by omega) (by omega)).mono ?_; rintro e w2 ⟨r2, rfl, ha2, hb2, hc⟩; have u3 := Aside0.mk (shEntries_chg t3.out hc (by decide)); have HK2 := Aside0.mk (HK1.out.chg hc); have hd2 := cell_kept_of hc HN.out; clear t1 t3 hc HK1)
    | (go_at_call 40; refine (markEntryS_calls _ _ _ _ _ hl3 u3.out (by omega) (by omega)).mono ?_; rintro e w3 ⟨r3, rfl, ha3, hb3, hc⟩; have HK3 := Aside0.mk (HK2.out.chg hc); clear u3 hc HK2))
  go_ret
  exact ⟨_, rfl, by omega, HK3.out⟩

def seqFrom (k : Int) (n : Nat) : List Int := (List.range n).map fun (i : Nat) => k + (i : Int)
theorem seqFrom_length (k : Int) (n : Nat) : (seqFrom k n).length = n := by simp [seqFrom]
theorem seqFrom_at (k : Int) (n i : Nat) (h : i < n) : rd (seqFrom k n) (i : Int) = k + i := by
  simp [rd, seqFrom, List.getD_eq_getElem?_getD, h]
def partSeq (k : Int) (xs : List Int) (i : Nat) : List Int := seqFrom k i ++ xs.drop i
theorem partSeq_length (k : Int) (xs : List Int) (i : Nat) (h : i ≤ xs.length) : (partSeq k xs i).length = xs.length := by
  simp [partSeq, seqFrom_length]; omega
theorem partSeq_set (k : Int) (xs : List Int) (i : Nat) (h : i < xs.length) : (partSeq k xs i).set i (k + i) = partSeq k xs (i + 1) := by
  unfold partSeq
  rw [List.set_append_right _ _ (by rw [seqFrom_length]; exact Nat.le_refl _), seqFrom_length, Nat.sub_self, List.drop_eq_getElem_cons h, List.set_cons_zero]
  simp [seqFrom, List.range_succ]
set_option maxHeartbeats 1000000 in
theorem markIntR_calls (xs : List Int) (A : Option Addr) (c : Nat) (base : Nat) (ok : Nat → Prop) (w : World) (hv : (Kd.int .i64).R 3 w base ok (.slice A xs.length c) xs) (hn : xs.length ≤ 1048576) :
    Calls Try.prog 19 #[.slice A xs.length c, .int .i64 1] w fun e w' => e = .returned (.int .i64 (1 + xs.length)) ∧ (Kd.int .i64).R 3 w' base ok (.slice A xs.length c) (seqFrom 1 xs.length) ∧ w.grownBy w' (Value.slice A xs.length c).ownBlock := by
  have HV := Aside0.mk hv
  clear hv
  go_enter Try.func19, Try.ntmps19
  go_wp2
  go_loopw [1, 5] (fun a i w' => ∃ k : Nat, k ≤ xs.length ∧ i = .int .i64 k ∧ a = .int .i64 (1 + (k : Int)) ∧ Aside0 ((Kd.int .i64).R 3 w' base ok (.slice A xs.length c) (partSeq 1 xs k)) ∧ Aside0 (w.grownBy w' (Value.slice A xs.length c).ownBlock)) (fun _ i _ => xs.length - (intOf i).toNat)
  case atStart => exact ⟨0, Nat.zero_le _, rfl, rfl, ⟨by simpa [partSeq, seqFrom] using HV.out⟩, ⟨grown_of_below (Below.refl _ _) _⟩⟩
  case round =>
    clear HV
    obtain ⟨k, hk, rfl, rfl, HO, HG⟩ := hrel
    have hl := partSeq_length 1 xs k hk
    by_cases hlt : k < xs.length
    · have q0 : (0 : Int) ≤ (k : Int) := by omega
      have q1 : (k : Int) < (xs.length : Int) := by omega
      have HS := Aside0.mk (partSeq_set 1 xs k hlt)
      obtain ⟨g, cap, he, hg1, hg2, hg3⟩ := Kd.R_form HO.out (by omega)
      rw [hl] at he
      cases he
      rw [← hl] at HO
      obtain ⟨hc, hf⟩ := Kd.R_celln 0 HO.out (k : Int) q0 (by rw [hl]; exact q1)
      obtain ⟨hp, hgr⟩ := Kd.R_putg HO.out (k : Int) (1 + (k : Int))
      simp only [Int.toNat_natCast] at hc hf hp hgr
      rw [hl] at hp
      rw [HS.out] at hp
      have HP := Aside0.mk hp
      have HGR := Aside0.mk (HG.out.trans hgr)
      clear hp hgr hg3 HG HO hl
      go_wp2
      go_roundw
      case rel => exact ⟨k + 1, by omega, by go_num, by go_num, HP, HGR⟩
      case measure => simp [intOf]; omega
    · go_wp2
      go_ret
      obtain rfl : k = xs.length := by omega
      exact ⟨rfl, by have h := HO.out; unfold partSeq at h; simpa using h, HG.out⟩
set_option maxHeartbeats 1000000 in
theorem heldIntS_calls (n : Nat) (A : Option Addr) (c : Nat) (w : World) (hv : (Kd.int .i64).C w A n (seqFrom 1 n)) (hn : n ≤ 1048576) :
    Calls Try.prog 20 #[.slice A n c, .int .i64 1] w fun e w' => e = .returned (.int .i64 (1 + n)) ∧ w = w' := by
  have HV := Aside0.mk hv
  clear hv
  go_enter Try.func20, Try.ntmps20
  go_wp2
  go_loop [1, 5] (fun a i => ∃ k : Nat, k ≤ n ∧ i = .int .i64 k ∧ a = .int .i64 (1 + (k : Int))) (fun _ i => n - (intOf i).toNat)
  case atStart => exact ⟨0, Nat.zero_le _, rfl, rfl⟩
  case round =>
    obtain ⟨k, hk, rfl, rfl⟩ := hrel
    by_cases hlt : k < n
    · have q0 : (0 : Int) ≤ (k : Int) := by omega
      have q1 : (k : Int) < (n : Int) := by omega
      obtain ⟨ad, rfl, gx⟩ := Kd.at_int HV.out (k : Int) q0 q1
      rw [seqFrom_at 1 n k hlt, Int.toNat_natCast] at gx
      have y : (1 + (k : Int) != 1 + (k : Int)) = false := by simp
      go_wp2
      go_round
      case rel => exact ⟨k + 1, by omega, by go_num, by go_num⟩
      case measure => simp [intOf]; omega
    · go_wp2
      go_ret
      obtain rfl : k = n := by omega
      exact ⟨rfl, rfl⟩
end Go.Proofs.Ythkmchgglnhmaaa.Eq
