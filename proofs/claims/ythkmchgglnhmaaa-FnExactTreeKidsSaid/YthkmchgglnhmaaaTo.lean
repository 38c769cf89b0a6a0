import Derived.Test.YthkmchgglnhmaaaSz
/- The walks of laws.to..: an argument made anew. -/
namespace Go.Proofs.Ythkmchgglnhmaaa.Eq
open Go.RowKit Go.Proofs.YthkmchgglnhmaaaW.PrintWords Go.Proofs.YthkmchgglnhmaaaW.PrintLast Go.Proofs.YthkmchgglnhmaaaW.PrintMore
set_option linter.unusedVariables false
set_option linter.unusedSimpArgs false
theorem info_int : (Try.prog.info? 3).map (fun i => (i.zero, i.size, i.bytes)) = some (some (.int .i64 0), 1, 8) := by kernel_rfl

/-- The first k made, the others as make leaves them. -/
def upTo {α : Type} (xs : List α) (z : α) (k : Nat) : List α := xs.take k ++ List.replicate (xs.length - k) z
theorem upTo_zero {α : Type} (xs : List α) (z : α) : upTo xs z 0 = List.replicate xs.length z := by simp [upTo]
theorem upTo_all {α : Type} (xs : List α) (z : α) : upTo xs z xs.length = xs := by simp [upTo]
theorem upTo_length {α : Type} (xs : List α) (z : α) {k : Nat} (h : k ≤ xs.length) : (upTo xs z k).length = xs.length := by simp [upTo]; omega
theorem upTo_set {α : Type} (xs : List α) (z : α) {k : Nat} (h : k < xs.length) : (upTo xs z k).set k (xs.getD k z) = upTo xs z (k + 1) := by
  unfold upTo
  obtain ⟨m, hm⟩ : ∃ m, xs.length - k = m + 1 := ⟨xs.length - k - 1, by omega⟩
  rw [List.set_append_right _ _ (by rw [List.length_take]; omega), hm, show xs.length - (k + 1) = m by omega, List.replicate_succ, List.length_take, Nat.min_eq_left (by omega), Nat.sub_self, List.take_succ_eq_append_getElem h]
  simp only [List.set_cons_zero, List.append_assoc, List.singleton_append, List.getD_eq_getElem?_getD, List.getElem?_eq_getElem h, Option.getD_some]

set_option maxHeartbeats 1000000 in
theorem toIntS_calls (xs : List Int) (A : Option Addr) (c : Nat) (w : World) (hx : (Kd.int .i64).C w A xs.length xs) (hn : xs.length ≤ 1048576) :
    Calls Try.prog 53 #[.slice A xs.length c] w fun e w' => ∃ v, e = .returned v ∧ (Kd.int .i64).R 3 w' w.heap.size (fun _ => True) v xs ∧ Below w.heap.size w w' := by
  have HX := Aside0.mk hx
  clear hx
  go_enter Try.func53, Try.ntmps53
  go_wp2_with ((with_reducible refine gate_dst (N := 7) rfl ?_); refine Kd.R_make (w0 := w) (Kd.int .i64) w.heap.size 3 rfl (N := 7) rfl 39 _ _ rfl (xs.length : Int) rfl rfl Try.underlying39 (.int .i64 0) 8 info_int rfl (by decide) (by omega) 0 (ok := fun _ => True) (okp := fun _ => True) rfl (fun _ hk => hk) trivial (by omega) (by omega) (Below.refl _ _) (Nat.le_refl _) ?_; intro v w1 ho hb _ _; have HO := Aside0.mk ho; have HB := Aside0.mk hb; clear ho hb)
  go_loopw [4] (fun i w' => ∃ k : Nat, k ≤ xs.length ∧ i = .int .i64 k ∧ Aside0 ((Kd.int .i64).R 3 w' w.heap.size (fun _ => True) v (upTo xs 0 k)) ∧ Aside0 (Below w.heap.size w w')) (fun i _ => xs.length - (intOf i).toNat)
  case atStart => exact ⟨0, Nat.zero_le _, rfl, ⟨by rw [upTo_zero]; simpa using HO.out⟩, HB⟩
  case round =>
    clear HO HB
    obtain ⟨k, hk, rfl, HO, HB⟩ := hrel
    by_cases hlt : k < xs.length
    · have hl := upTo_length xs 0 hk
      have HS := Aside0.mk (upTo_set xs 0 hlt)
      have q0 : (0 : Int) ≤ (k : Int) := by omega
      have q1 : (k : Int) < (xs.length : Int) := by omega
      obtain ⟨ad, rfl, gx⟩ := Kd.at_int (Kd.C_below HX.out HB.out) (k : Int) q0 q1
      obtain ⟨g, cap, rfl, hg1, hg2, hg3⟩ := Kd.R_form HO.out (by omega)
      obtain ⟨hc, hf⟩ := Kd.R_celln 0 HO.out (k : Int) q0 (by rw [hl]; exact q1)
      obtain ⟨hp, hgr⟩ := Kd.R_putg HO.out (k : Int) (rd xs k)
      have HB2 := Aside0.mk (below_set (j := (k : Int).toNat) (v := .int .i64 (rd xs k)) HB.out hg1)
      simp only [Int.toNat_natCast] at gx hc hf hp HB2
      have HP := Aside0.mk hp
      clear hp hgr hg3 HB
      rw [hl] at *
      go_wp2
      go_roundw
      case rel => exact ⟨k + 1, by omega, by go_num, ⟨by have h := HP.out; rw [show rd xs (k : Int) = xs.getD k 0 from rfl, HS.out] at h; exact h⟩, HB2⟩
      case measure => simp [intOf]; omega
    · go_wp2
      go_ret
      obtain rfl : k = xs.length := by omega
      exact ⟨_, rfl, by rw [upTo_all] at HO; exact HO.out, HB.out⟩


set_option maxHeartbeats 1000000 in
theorem toPut_calls (x : Put) (cs : List Value) (w : World) (hx : kPutL.K w x cs) :
    Calls Try.prog 56 #[.agg cs.toArray] w fun e w' => ∃ ds, e = .returned (.agg ds.toArray) ∧ kPut.M w' w.heap.size (fun _ => True) x ds ∧ Below w.heap.size w w' := by
  obtain rfl := kPutL_open hx
  go_enter Try.func56, Try.ntmps56
  go_wp2
  refine bodyPost_ret (v := .agg #[.int .i64 x.cell, .int .i64 x.num]) (by simp [results, Try.results56, go_sem]) rfl ⟨_, rfl, kPut_mkM x, ?_⟩
  repeat (first | exact Below.refl _ _ | refine below_alloc ?_ _)
set_option maxHeartbeats 1000000 in
theorem toCell_calls (x : Cell) (cs : List Value) (w : World) (hx : kCellL.K w x cs) :
    Calls Try.prog 44 #[.agg cs.toArray] w fun e w' => ∃ ds, e = .returned (.agg ds.toArray) ∧ kCell.M w' w.heap.size (fun _ => True) x ds ∧ Below w.heap.size w w' := by
  obtain rfl := kCellL_open hx
  go_enter Try.func44, Try.ntmps44
  go_wp2
  refine bodyPost_ret (v := .agg #[.int .i64 x.num, .int .i64 x.time, .int .i64 x.lock]) (by simp [results, Try.results44, go_sem]) rfl ⟨_, rfl, kCell_mkM x, ?_⟩
  repeat (first | exact Below.refl _ _ | refine below_alloc ?_ _)

theorem kPut_zero (w : World) (base : Nat) (ok : Nat → Prop) : kPut.M w base ok zPut [.int .i64 0, .int .i64 0] := kPut_mkM zPut
theorem kCell_zero (w : World) (base : Nat) (ok : Nat → Prop) : kCell.M w base ok zCell [.int .i64 0, .int .i64 0, .int .i64 0] := kCell_mkM zCell
theorem kEntry_zero (w : World) (base : Nat) (ok : Nat → Prop) : kEntry.M w base ok zEntry [.int .i64 0, .int .i64 0, .int .i64 0, .slice none 0 0, .slice none 0 0, .int .i64 0] := kEntry_mkM zEntry (Kd.R_nil _ _ _ _ _) (Kd.R_nil _ _ _ _ _)
theorem kTask_zero (w : World) (base : Nat) (ok : Nat → Prop) : kTask.M w base ok zTask [.int .i64 0, .int .i64 0, .int .i64 0, .slice none 0 0, .int .i64 0, .int .i64 0, .int .i64 0, .int .i64 0, .slice none 0 0, .slice none 0 0, .slice none 0 0, .int .i64 0, .int .i64 0] := kTask_mkM zTask (Kd.R_nil _ _ _ _ _) (Kd.R_nil _ _ _ _ _) (Kd.R_nil _ _ _ _ _) (Kd.R_nil _ _ _ _ _)
/-- A made element, in the place of all of an element's cells. -/
theorem M_all {α : Type} {d : Kd α} {w w1 : World} {base : Nat} {ok : Nat → Prop} {x : α} {ds ce : List Value} {g : Nat} (hce : ce.length ≤ ds.length) (hlow : base ≤ w.heap.size) (hg : g < w.heap.size) (h : d.M w1 w.heap.size ok x ds) : d.M w1 base (fun k => g < k) x (ce.take 0 ++ ds ++ ce.drop (0 + ds.length)) := by
  rw [List.drop_eq_nil_of_le (by omega), List.take_zero, List.nil_append, List.append_nil]
  exact d.M_lower hlow (d.M_mono (fun k hk => Nat.lt_of_lt_of_le hg hk.2.1) (d.M_bound h))
set_option maxHeartbeats 2000000 in
set_option maxRecDepth 100000 in
theorem toPutS_calls (xs : List Put) (A : Option Addr) (c : Nat) (w : World) (hx : kPutL.C w A xs.length xs) (hn : xs.length ≤ 1048576) :
    Calls Try.prog 54 #[.slice A xs.length c] w fun e w' => ∃ v, e = .returned v ∧ kPut.R 91 w' w.heap.size (fun _ => True) v xs ∧ Below w.heap.size w w' := by
  have HX := Aside0.mk hx
  clear hx
  go_enter Try.func54, Try.ntmps54
  go_wp2_with ((with_reducible refine gate_dst (N := 7) rfl ?_); refine Kd.R_make (w0 := w) kPut w.heap.size 91 rfl (N := 7) rfl 50 _ _ rfl (xs.length : Int) rfl rfl Try.underlying50 (.agg #[.int .i64 0, .int .i64 0]) 16 (by kernel_rfl) rfl (by decide) (by omega) zPut (ok := fun _ => True) (okp := fun _ => True) (kPut_zero _ _ _) (fun _ hk => hk) trivial (by omega) (by omega) (Below.refl _ _) (Nat.le_refl _) ?_; intro v w1 ho hb _ _; have HO := Aside0.mk ho; have HB := Aside0.mk hb; clear ho hb)
  go_loopw [4] (fun i w' => ∃ k : Nat, k ≤ xs.length ∧ i = .int .i64 k ∧ Aside0 (kPut.R 91 w' w.heap.size (fun _ => True) v (upTo xs zPut k)) ∧ Aside0 (Below w.heap.size w w')) (fun i _ => xs.length - (intOf i).toNat)
  case atStart => exact ⟨0, Nat.zero_le _, rfl, ⟨by rw [upTo_zero]; simpa using HO.out⟩, HB⟩
  case round =>
    clear HO HB
    obtain ⟨k, hk, rfl, HO, HB⟩ := hrel
    by_cases hlt : k < xs.length
    · have hl := upTo_length xs zPut hk
      have HS := Aside0.mk (upTo_set xs zPut hlt)
      have q0 : (0 : Int) ≤ (k : Int) := by omega
      have q1 : (k : Int) < (xs.length : Int) := by omega
      obtain ⟨ad, cs, rfl, hcl, hK, hcc⟩ := Kd.C_get (Kd.C_below HX.out HB.out) zPut (k : Int) q0 q1
      obtain ⟨g, cap, rfl, hg1, hg2, hg3⟩ := Kd.R_form HO.out (by omega)
      rw [hl] at *
      simp only [Int.toNat_natCast] at hK hcc
      have HK := Aside0.mk hK
      have HCC := Aside0.mk hcc
      clear hK hcc hg3
      go_wp2_with (first
        | ((with_reducible refine gate_dst (N := 19) rfl ?_); refine load_struct rfl 93 (.tmp 18) rfl ad (k * 2) rfl cs _ HCC.out (by rw [hcl]; decide) Try.underlying93 rfl (by rw [hcl]; kernel_rfl) ?_)
        | (go_at_call 56; refine (toPut_calls _ _ _ HK.out).mono ?_; rintro e w1 ⟨ds, rfl, hm, hb⟩; have HM := Aside0.mk hm; have HO2 := Aside0.mk (Kd.R_below HO.out hb); have HB2 := Aside0.mk (below_step HB.out hb); clear hm hb HO HB)
        | ((with_reducible refine gate_store (t := 91) (p := 21) rfl ?_); obtain ⟨ce, hce, _, hcc2, _⟩ := Kd.R_elem HO2.out zPut (k : Int) q0 q1; have hdl := kPut.K_len (kPut.K_of_M HM.out); refine Kd.R_store (w0 := w) kPut w.heap.size rfl rfl 91 (.tmp 21) (.tmp 20) rfl 91 (k : Int) 0 (upTo xs zPut k) (xs.getD k zPut) (.agg ds.toArray) ds ce (fun _ => True) (fun k' => g < k') rfl (by simp; rfl) rfl rfl (by rw [hdl]; kernel_rfl) (kPut.K_one (kPut.K_of_M HM.out)) HO2.out q0 q1 hce hcc2 (by rw [hdl]; exact Nat.le_refl _) (M_all (by rw [hce, hdl]; exact Nat.le_refl _) (by omega) (by omega) HM.out) (fun k' hk' => ⟨trivial, Nat.ne_of_gt hk'⟩) HB2.out ?_; intro w2 ho hb hgr; simp only [Int.toNat_natCast] at ho; rw [HS.out] at ho; have HO3 := Aside0.mk ho; have HB3 := Aside0.mk hb; clear ho hb hgr))
      go_roundw
      case rel => exact ⟨k + 1, by omega, by go_num, HO3, HB3⟩
      case measure => simp [intOf]; omega
    · go_wp2
      go_ret
      obtain rfl : k = xs.length := by omega
      exact ⟨_, rfl, by rw [upTo_all] at HO; exact HO.out, HB.out⟩
set_option maxHeartbeats 2000000 in
set_option maxRecDepth 100000 in
theorem toCellS_calls (xs : List Cell) (A : Option Addr) (c : Nat) (w : World) (hx : kCellL.C w A xs.length xs) (hn : xs.length ≤ 1048576) :
    Calls Try.prog 29 #[.slice A xs.length c] w fun e w' => ∃ v, e = .returned v ∧ kCell.R 75 w' w.heap.size (fun _ => True) v xs ∧ Below w.heap.size w w' := by
  have HX := Aside0.mk hx
  clear hx
  go_enter Try.func29, Try.ntmps29
  go_wp2_with ((with_reducible refine gate_dst (N := 7) rfl ?_); refine Kd.R_make (w0 := w) kCell w.heap.size 75 rfl (N := 7) rfl 29 _ _ rfl (xs.length : Int) rfl rfl Try.underlying29 (.agg #[.int .i64 0, .int .i64 0, .int .i64 0]) 24 (by kernel_rfl) rfl (by decide) (by omega) zCell (ok := fun _ => True) (okp := fun _ => True) (kCell_zero _ _ _) (fun _ hk => hk) trivial (by omega) (by omega) (Below.refl _ _) (Nat.le_refl _) ?_; intro v w1 ho hb _ _; have HO := Aside0.mk ho; have HB := Aside0.mk hb; clear ho hb)
  go_loopw [4] (fun i w' => ∃ k : Nat, k ≤ xs.length ∧ i = .int .i64 k ∧ Aside0 (kCell.R 75 w' w.heap.size (fun _ => True) v (upTo xs zCell k)) ∧ Aside0 (Below w.heap.size w w')) (fun i _ => xs.length - (intOf i).toNat)
  case atStart => exact ⟨0, Nat.zero_le _, rfl, ⟨by rw [upTo_zero]; simpa using HO.out⟩, HB⟩
  case round =>
    clear HO HB
    obtain ⟨k, hk, rfl, HO, HB⟩ := hrel
    by_cases hlt : k < xs.length
    · have hl := upTo_length xs zCell hk
      have HS := Aside0.mk (upTo_set xs zCell hlt)
      have q0 : (0 : Int) ≤ (k : Int) := by omega
      have q1 : (k : Int) < (xs.length : Int) := by omega
      obtain ⟨ad, cs, rfl, hcl, hK, hcc⟩ := Kd.C_get (Kd.C_below HX.out HB.out) zCell (k : Int) q0 q1
      obtain ⟨g, cap, rfl, hg1, hg2, hg3⟩ := Kd.R_form HO.out (by omega)
      rw [hl] at *
      simp only [Int.toNat_natCast] at hK hcc
      have HK := Aside0.mk hK
      have HCC := Aside0.mk hcc
      clear hK hcc hg3
      go_wp2_with (first
        | ((with_reducible refine gate_dst (N := 19) rfl ?_); refine load_struct rfl 77 (.tmp 18) rfl ad (k * 3) rfl cs _ HCC.out (by rw [hcl]; decide) Try.underlying77 rfl (by rw [hcl]; kernel_rfl) ?_)
        | (go_at_call 44; refine (toCell_calls _ _ _ HK.out).mono ?_; rintro e w1 ⟨ds, rfl, hm, hb⟩; have HM := Aside0.mk hm; have HO2 := Aside0.mk (Kd.R_below HO.out hb); have HB2 := Aside0.mk (below_step HB.out hb); clear hm hb HO HB)
        | ((with_reducible refine gate_store (t := 75) (p := 21) rfl ?_); obtain ⟨ce, hce, _, hcc2, _⟩ := Kd.R_elem HO2.out zCell (k : Int) q0 q1; have hdl := kCell.K_len (kCell.K_of_M HM.out); refine Kd.R_store (w0 := w) kCell w.heap.size rfl rfl 75 (.tmp 21) (.tmp 20) rfl 75 (k : Int) 0 (upTo xs zCell k) (xs.getD k zCell) (.agg ds.toArray) ds ce (fun _ => True) (fun k' => g < k') rfl (by simp; rfl) rfl rfl (by rw [hdl]; kernel_rfl) (kCell.K_one (kCell.K_of_M HM.out)) HO2.out q0 q1 hce hcc2 (by rw [hdl]; exact Nat.le_refl _) (M_all (by rw [hce, hdl]; exact Nat.le_refl _) (by omega) (by omega) HM.out) (fun k' hk' => ⟨trivial, Nat.ne_of_gt hk'⟩) HB2.out ?_; intro w2 ho hb hgr; simp only [Int.toNat_natCast] at ho; rw [HS.out] at ho; have HO3 := Aside0.mk ho; have HB3 := Aside0.mk hb; clear ho hb hgr))
      go_roundw
      case rel => exact ⟨k + 1, by omega, by go_num, HO3, HB3⟩
      case measure => simp [intOf]; omega
    · go_wp2
      go_ret
      obtain rfl : k = xs.length := by omega
      exact ⟨_, rfl, by rw [upTo_all] at HO; exact HO.out, HB.out⟩
end Go.Proofs.Ythkmchgglnhmaaa.Eq
