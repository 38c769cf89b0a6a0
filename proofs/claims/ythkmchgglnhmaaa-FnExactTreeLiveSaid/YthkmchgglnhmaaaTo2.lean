import Derived.Test.YthkmchgglnhmaaaTo
namespace Go.Proofs.Ythkmchgglnhmaaa.Eq
open Go.RowKit Go.Proofs.YthkmchgglnhmaaaW.PrintWords Go.Proofs.YthkmchgglnhmaaaW.PrintLast Go.Proofs.YthkmchgglnhmaaaW.PrintMore
set_option linter.unusedVariables false
set_option linter.unusedSimpArgs false
/- laws.toEntry, toTask, their lists and toSys. Printed by gen_to.py (own). -/
set_option maxHeartbeats 4000000 in
set_option maxRecDepth 100000 in
theorem toEntry_calls (x : Entry) (cs : List Value) (w : World) (hx : kEntryL.K w x cs) (hn : szE x ≤ 1048576) :
    Calls Try.prog 46 #[.agg cs.toArray] w fun e w' => ∃ ds, e = .returned (.agg ds.toArray) ∧ kEntry.M w' w.heap.size (fun _ => True) x ds ∧ Below w.heap.size w w' := by
  obtain ⟨A3, c3, A8, c8, rfl, l3, g3, l8, g8⟩ := kEntryL_open hx
  unfold szE at hn
  have G := Aside0.mk (And.intro g3 g8)
  have HB := Aside0.mk (Below.refl w.heap.size w)
  clear g3 g8 l3 l8 hx
  go_enter Try.func46, Try.ntmps46
  go_wp2_with fail
  refine (toPutS_calls _ _ _ _ ?h1 (by omega)).mono ?_
  case h1 => exact Kd.C_below (w := w) G.out.1 (by repeat (first | with_reducible exact HB.out | with_reducible refine below_alloc ?_ _ | with_reducible refine below_set ?_ ?_ | omega))
  rintro e w3 ⟨v3, rfl, ho, hb⟩
  obtain ⟨A3', c3', rfl⟩ := Kd.R_slice ho
  have O3 := Aside0.mk (R_up (base := w.heap.size) (n := w.heap.size + 2) ho (by simp <;> omega) (by simp <;> omega))
  have hz := bsize hb
  (try simp at hz)
  have q30 : w.heap.size < w3.heap.size := (by omega)
  have q31 : w.heap.size + 1 < w3.heap.size := (by omega)
  have q32 : w.heap.size + 1 + 1 < w3.heap.size := (by omega)
  obtain ⟨hc3, hf3⟩ := bcell hb
  have HB1 := Aside0.mk (below_step (w := w) (by repeat (first | with_reducible exact HB.out | with_reducible refine below_alloc ?_ _ | with_reducible refine below_set ?_ ?_ | omega)) hb)
  clear HB
  have HB := HB1
  clear HB1 hb ho hz
  go_wp2_with fail
  refine (toPutS_calls _ _ _ _ ?h1 (by omega)).mono ?_
  case h1 => exact Kd.C_below (w := w) G.out.2 (by repeat (first | with_reducible exact HB.out | with_reducible refine below_alloc ?_ _ | with_reducible refine below_set ?_ ?_ | omega))
  rintro e w8 ⟨v8, rfl, ho, hb⟩
  obtain ⟨A8', c8', rfl⟩ := Kd.R_slice ho
  have O8 := Aside0.mk (R_up (base := w.heap.size) (n := w.heap.size + 2) ho (by simp <;> omega) (by simp <;> omega))
  have P3 := Aside0.mk (Kd.R_below (show Kd.R kPut 91 _ w.heap.size (fun k => w.heap.size + 2 < k) (.slice A3' x.reads.length c3') x.reads from by repeat (first | with_reducible exact O3.out | with_reducible refine R_farN ?_ ?_ | omega)) hb)
  clear O3
  have O3 := P3
  clear P3
  have hz := bsize hb
  (try simp at hz)
  have q80 : w.heap.size < w8.heap.size := (by omega)
  have q81 : w.heap.size + 1 < w8.heap.size := (by omega)
  have q82 : w.heap.size + 1 + 1 < w8.heap.size := (by omega)
  obtain ⟨hc8, hf8⟩ := bcell hb
  have HB1 := Aside0.mk (below_step (w := w) (by repeat (first | with_reducible exact HB.out | with_reducible refine below_alloc ?_ _ | with_reducible refine below_set ?_ ?_ | omega)) hb)
  clear HB
  have HB := HB1
  clear HB1 hb ho hz
  go_wp2_with fail
  refine bodyPost_ret (v := .agg #[.int .i64 x.task, .int .i64 x.act, .int .i64 x.when_, .slice A3' x.reads.length c3', .slice A8' x.puts.length c8', .int .i64 x.from_]) (by simp [results, Try.results46, go_sem, hc3, hf3, q30, q31, q32, hc8, hf8, q80, q81, q82]) rfl ⟨_, rfl, kEntry_mkM x ?_ ?_, (by repeat (first | with_reducible exact HB.out | with_reducible refine below_alloc ?_ _ | with_reducible refine below_set ?_ ?_ | omega))⟩
  · exact R_any (show Kd.R kPut 91 _ w.heap.size (fun k => w.heap.size + 2 < k) (.slice A3' x.reads.length c3') x.reads from by repeat (first | with_reducible exact O3.out | with_reducible refine R_farN ?_ ?_ | omega))
  · exact R_any (show Kd.R kPut 91 _ w.heap.size (fun k => w.heap.size + 2 < k) (.slice A8' x.puts.length c8') x.puts from by repeat (first | with_reducible exact O8.out | with_reducible refine R_farN ?_ ?_ | omega))
set_option maxHeartbeats 4000000 in
set_option maxRecDepth 100000 in
theorem toTask_calls (x : Task) (cs : List Value) (w : World) (hx : kTaskL.K w x cs) (hn : szT x ≤ 1048576) :
    Calls Try.prog 45 #[.agg cs.toArray] w fun e w' => ∃ ds, e = .returned (.agg ds.toArray) ∧ kTask.M w' w.heap.size (fun _ => True) x ds ∧ Below w.heap.size w w' := by
  obtain ⟨A3, c3, A8, c8, A9, c9, A10, c10, rfl, l3, g3, l8, g8, l9, g9, l10, g10⟩ := kTaskL_open hx
  unfold szT at hn
  have G := Aside0.mk (And.intro g3 (And.intro g8 (And.intro g9 g10)))
  have HB := Aside0.mk (Below.refl w.heap.size w)
  clear g3 g8 g9 g10 l3 l8 l9 l10 hx
  go_enter Try.func45, Try.ntmps45
  go_wp2_with fail
  refine (toIntS_calls _ _ _ _ ?h1 (by omega)).mono ?_
  case h1 => exact Kd.C_below (w := w) G.out.1 (by repeat (first | with_reducible exact HB.out | with_reducible refine below_alloc ?_ _ | with_reducible refine below_set ?_ ?_ | omega))
  rintro e w3 ⟨v3, rfl, ho, hb⟩
  obtain ⟨A3', c3', rfl⟩ := Kd.R_slice ho
  have O3 := Aside0.mk (R_up (base := w.heap.size) (n := w.heap.size + 2) ho (by simp <;> omega) (by simp <;> omega))
  have hz := bsize hb
  (try simp at hz)
  have q30 : w.heap.size < w3.heap.size := (by omega)
  have q31 : w.heap.size + 1 < w3.heap.size := (by omega)
  have q32 : w.heap.size + 1 + 1 < w3.heap.size := (by omega)
  obtain ⟨hc3, hf3⟩ := bcell hb
  have HB1 := Aside0.mk (below_step (w := w) (by repeat (first | with_reducible exact HB.out | with_reducible refine below_alloc ?_ _ | with_reducible refine below_set ?_ ?_ | omega)) hb)
  clear HB
  have HB := HB1
  clear HB1 hb ho hz
  go_wp2_with fail
  refine (toIntS_calls _ _ _ _ ?h1 (by omega)).mono ?_
  case h1 => exact Kd.C_below (w := w) G.out.2.1 (by repeat (first | with_reducible exact HB.out | with_reducible refine below_alloc ?_ _ | with_reducible refine below_set ?_ ?_ | omega))
  rintro e w8 ⟨v8, rfl, ho, hb⟩
  obtain ⟨A8', c8', rfl⟩ := Kd.R_slice ho
  have O8 := Aside0.mk (R_up (base := w.heap.size) (n := w.heap.size + 2) ho (by simp <;> omega) (by simp <;> omega))
  have P3 := Aside0.mk (Kd.R_below (show Kd.R (Kd.int .i64) 3 _ w.heap.size (fun k => w.heap.size + 2 < k) (.slice A3' x.regs.length c3') x.regs from by repeat (first | with_reducible exact O3.out | with_reducible refine R_farN ?_ ?_ | omega)) hb)
  clear O3
  have O3 := P3
  clear P3
  have hz := bsize hb
  (try simp at hz)
  have q80 : w.heap.size < w8.heap.size := (by omega)
  have q81 : w.heap.size + 1 < w8.heap.size := (by omega)
  have q82 : w.heap.size + 1 + 1 < w8.heap.size := (by omega)
  obtain ⟨hc8, hf8⟩ := bcell hb
  have HB1 := Aside0.mk (below_step (w := w) (by repeat (first | with_reducible exact HB.out | with_reducible refine below_alloc ?_ _ | with_reducible refine below_set ?_ ?_ | omega)) hb)
  clear HB
  have HB := HB1
  clear HB1 hb ho hz
  go_wp2_with fail
  refine (toPutS_calls _ _ _ _ ?h1 (by omega)).mono ?_
  case h1 => exact Kd.C_below (w := w) G.out.2.2.1 (by repeat (first | with_reducible exact HB.out | with_reducible refine below_alloc ?_ _ | with_reducible refine below_set ?_ ?_ | omega))
  rintro e w9 ⟨v9, rfl, ho, hb⟩
  obtain ⟨A9', c9', rfl⟩ := Kd.R_slice ho
  have O9 := Aside0.mk (R_up (base := w.heap.size) (n := w.heap.size + 2) ho (by simp <;> omega) (by simp <;> omega))
  have P3 := Aside0.mk (Kd.R_below (show Kd.R (Kd.int .i64) 3 _ w.heap.size (fun k => w.heap.size + 2 < k) (.slice A3' x.regs.length c3') x.regs from by repeat (first | with_reducible exact O3.out | with_reducible refine R_farN ?_ ?_ | omega)) hb)
  clear O3
  have O3 := P3
  clear P3
  have P8 := Aside0.mk (Kd.R_below (show Kd.R (Kd.int .i64) 3 _ w.heap.size (fun k => w.heap.size + 2 < k) (.slice A8' x.old.length c8') x.old from by repeat (first | with_reducible exact O8.out | with_reducible refine R_farN ?_ ?_ | omega)) hb)
  clear O8
  have O8 := P8
  clear P8
  have hz := bsize hb
  (try simp at hz)
  have q90 : w.heap.size < w9.heap.size := (by omega)
  have q91 : w.heap.size + 1 < w9.heap.size := (by omega)
  have q92 : w.heap.size + 1 + 1 < w9.heap.size := (by omega)
  obtain ⟨hc9, hf9⟩ := bcell hb
  have HB1 := Aside0.mk (below_step (w := w) (by repeat (first | with_reducible exact HB.out | with_reducible refine below_alloc ?_ _ | with_reducible refine below_set ?_ ?_ | omega)) hb)
  clear HB
  have HB := HB1
  clear HB1 hb ho hz
  go_wp2_with fail
  refine (toPutS_calls _ _ _ _ ?h1 (by omega)).mono ?_
  case h1 => exact Kd.C_below (w := w) G.out.2.2.2 (by repeat (first | with_reducible exact HB.out | with_reducible refine below_alloc ?_ _ | with_reducible refine below_set ?_ ?_ | omega))
  rintro e w10 ⟨v10, rfl, ho, hb⟩
  obtain ⟨A10', c10', rfl⟩ := Kd.R_slice ho
  have O10 := Aside0.mk (R_up (base := w.heap.size) (n := w.heap.size + 2) ho (by simp <;> omega) (by simp <;> omega))
  have P3 := Aside0.mk (Kd.R_below (show Kd.R (Kd.int .i64) 3 _ w.heap.size (fun k => w.heap.size + 2 < k) (.slice A3' x.regs.length c3') x.regs from by repeat (first | with_reducible exact O3.out | with_reducible refine R_farN ?_ ?_ | omega)) hb)
  clear O3
  have O3 := P3
  clear P3
  have P8 := Aside0.mk (Kd.R_below (show Kd.R (Kd.int .i64) 3 _ w.heap.size (fun k => w.heap.size + 2 < k) (.slice A8' x.old.length c8') x.old from by repeat (first | with_reducible exact O8.out | with_reducible refine R_farN ?_ ?_ | omega)) hb)
  clear O8
  have O8 := P8
  clear P8
  have P9 := Aside0.mk (Kd.R_below (show Kd.R kPut 91 _ w.heap.size (fun k => w.heap.size + 2 < k) (.slice A9' x.reads.length c9') x.reads from by repeat (first | with_reducible exact O9.out | with_reducible refine R_farN ?_ ?_ | omega)) hb)
  clear O9
  have O9 := P9
  clear P9
  have hz := bsize hb
  (try simp at hz)
  have q100 : w.heap.size < w10.heap.size := (by omega)
  have q101 : w.heap.size + 1 < w10.heap.size := (by omega)
  have q102 : w.heap.size + 1 + 1 < w10.heap.size := (by omega)
  obtain ⟨hc10, hf10⟩ := bcell hb
  have HB1 := Aside0.mk (below_step (w := w) (by repeat (first | with_reducible exact HB.out | with_reducible refine below_alloc ?_ _ | with_reducible refine below_set ?_ ?_ | omega)) hb)
  clear HB
  have HB := HB1
  clear HB1 hb ho hz
  go_wp2_with fail
  refine bodyPost_ret (v := .agg #[.int .i64 x.body, .int .i64 x.pc, .int .i64 x.up, .slice A3' x.regs.length c3', .int .i64 x.way, .int .i64 x.stage, .int .i64 x.at_, .int .i64 x.since, .slice A8' x.old.length c8', .slice A9' x.reads.length c9', .slice A10' x.puts.length c10', .int .i64 x.when_, .int .i64 x.from_]) (by simp [results, Try.results45, go_sem, hc3, hf3, q30, q31, q32, hc8, hf8, q80, q81, q82, hc9, hf9, q90, q91, q92, hc10, hf10, q100, q101, q102]) rfl ⟨_, rfl, kTask_mkM x ?_ ?_ ?_ ?_, (by repeat (first | with_reducible exact HB.out | with_reducible refine below_alloc ?_ _ | with_reducible refine below_set ?_ ?_ | omega))⟩
  · exact R_any (show Kd.R (Kd.int .i64) 3 _ w.heap.size (fun k => w.heap.size + 2 < k) (.slice A3' x.regs.length c3') x.regs from by repeat (first | with_reducible exact O3.out | with_reducible refine R_farN ?_ ?_ | omega))
  · exact R_any (show Kd.R (Kd.int .i64) 3 _ w.heap.size (fun k => w.heap.size + 2 < k) (.slice A8' x.old.length c8') x.old from by repeat (first | with_reducible exact O8.out | with_reducible refine R_farN ?_ ?_ | omega))
  · exact R_any (show Kd.R kPut 91 _ w.heap.size (fun k => w.heap.size + 2 < k) (.slice A9' x.reads.length c9') x.reads from by repeat (first | with_reducible exact O9.out | with_reducible refine R_farN ?_ ?_ | omega))
  · exact R_any (show Kd.R kPut 91 _ w.heap.size (fun k => w.heap.size + 2 < k) (.slice A10' x.puts.length c10') x.puts from by repeat (first | with_reducible exact O10.out | with_reducible refine R_farN ?_ ?_ | omega))
set_option maxHeartbeats 2000000 in
set_option maxRecDepth 100000 in
theorem toEntryS_calls (xs : List Entry) (A : Option Addr) (c : Nat) (w : World) (hx : kEntryL.C w A xs.length xs) (hn : xs.length ≤ 1048576) (hs : sumOf szE xs ≤ 1048576) :
    Calls Try.prog 31 #[.slice A xs.length c] w fun e w' => ∃ v, e = .returned v ∧ kEntry.R 80 w' w.heap.size (fun _ => True) v xs ∧ Below w.heap.size w w' := by
  have HX := Aside0.mk hx
  clear hx
  go_enter Try.func31, Try.ntmps31
  go_wp2_with ((with_reducible refine gate_dst (N := 7) rfl ?_); refine Kd.R_make (w0 := w) kEntry w.heap.size 80 rfl (N := 7) rfl 31 _ _ rfl (xs.length : Int) rfl rfl Try.underlying31 (.agg #[.int .i64 0, .int .i64 0, .int .i64 0, .slice none 0 0, .slice none 0 0, .int .i64 0]) 80 (by kernel_rfl) rfl (by decide) (by omega) zEntry (ok := fun _ => True) (okp := fun _ => True) (kEntry_zero _ _ _) (fun _ hk => hk) trivial (by omega) (by omega) (Below.refl _ _) (Nat.le_refl _) ?_; intro v w1 ho hb _ _; have HO := Aside0.mk ho; have HB := Aside0.mk hb; clear ho hb)
  go_loopw [4] (fun i w' => ∃ k : Nat, k ≤ xs.length ∧ i = .int .i64 k ∧ Aside0 (kEntry.R 80 w' w.heap.size (fun _ => True) v (upTo xs zEntry k)) ∧ Aside0 (Below w.heap.size w w')) (fun i _ => xs.length - (intOf i).toNat)
  case atStart => exact ⟨0, Nat.zero_le _, rfl, ⟨by rw [upTo_zero]; simpa using HO.out⟩, HB⟩
  case round =>
    clear HO HB
    obtain ⟨k, hk, rfl, HO, HB⟩ := hrel
    by_cases hlt : k < xs.length
    · have hl := upTo_length xs zEntry hk
      have HS := Aside0.mk (upTo_set xs zEntry hlt)
      have q0 : (0 : Int) ≤ (k : Int) := by omega
      have q1 : (k : Int) < (xs.length : Int) := by omega
      have hsz : szE (xs.getD k zEntry) ≤ 1048576 := by have h1 := sumOf_take szE xs k zEntry hlt; have h2 := sumOf_le szE xs (k + 1); omega
      obtain ⟨ad, cs, rfl, hcl, hK, hcc⟩ := Kd.C_get (Kd.C_below HX.out HB.out) zEntry (k : Int) q0 q1
      obtain ⟨g, cap, rfl, hg1, hg2, hg3⟩ := Kd.R_form HO.out (by omega)
      rw [hl] at *
      simp only [Int.toNat_natCast] at hK hcc
      have HK := Aside0.mk hK
      have HCC := Aside0.mk hcc
      clear hK hcc hg3
      go_wp2_with (first
        | ((with_reducible refine gate_dst (N := 19) rfl ?_); refine load_struct rfl 73 (.tmp 18) rfl ad (k * 6) rfl cs _ HCC.out (by rw [hcl]; decide) Try.underlying73 rfl (by rw [hcl]; kernel_rfl) ?_)
        | (go_at_call 46; refine (toEntry_calls _ _ _ HK.out hsz).mono ?_; rintro e w1 ⟨ds, rfl, hm, hb⟩; have HM := Aside0.mk hm; have HO2 := Aside0.mk (Kd.R_below HO.out hb); have HB2 := Aside0.mk (below_step HB.out hb); clear hm hb HO HB)
        | ((with_reducible refine gate_store (t := 80) (p := 21) rfl ?_); obtain ⟨ce, hce, _, hcc2, _⟩ := Kd.R_elem HO2.out zEntry (k : Int) q0 q1; have hdl := kEntry.K_len (kEntry.K_of_M HM.out); refine Kd.R_store (w0 := w) kEntry w.heap.size rfl rfl 80 (.tmp 21) (.tmp 20) rfl 80 (k : Int) 0 (upTo xs zEntry k) (xs.getD k zEntry) (.agg ds.toArray) ds ce (fun _ => True) (fun k' => g < k') rfl (by simp; rfl) rfl rfl (by rw [hdl]; kernel_rfl) (kEntry.K_one (kEntry.K_of_M HM.out)) HO2.out q0 q1 hce hcc2 (by rw [hdl]; exact Nat.le_refl _) (M_all (by rw [hce, hdl]; exact Nat.le_refl _) (by omega) (by omega) HM.out) (fun k' hk' => ⟨trivial, Nat.ne_of_gt hk'⟩) HB2.out ?_; intro w2 ho hb hgr; simp only [Int.toNat_natCast] at ho; rw [HS.out] at ho; have HO3 := Aside0.mk ho; have HB3 := Aside0.mk hb; clear ho hb hgr))
      go_roundw
      case rel => exact ⟨k + 1, by omega, by go_num, HO3, HB3⟩
      case measure => simp [intOf]; omega
    · go_wp2
      go_ret
      obtain rfl : k = xs.length := by omega
      exact ⟨_, rfl, by rw [upTo_all] at HO; exact HO.out, HB.out⟩
set_option maxHeartbeats 2000000 in
set_option maxRecDepth 100000 in
theorem toTaskS_calls (xs : List Task) (A : Option Addr) (c : Nat) (w : World) (hx : kTaskL.C w A xs.length xs) (hn : xs.length ≤ 1048576) (hs : sumOf szT xs ≤ 1048576) :
    Calls Try.prog 30 #[.slice A xs.length c] w fun e w' => ∃ v, e = .returned v ∧ kTask.R 52 w' w.heap.size (fun _ => True) v xs ∧ Below w.heap.size w w' := by
  have HX := Aside0.mk hx
  clear hx
  go_enter Try.func30, Try.ntmps30
  go_wp2_with ((with_reducible refine gate_dst (N := 7) rfl ?_); refine Kd.R_make (w0 := w) kTask w.heap.size 52 rfl (N := 7) rfl 30 _ _ rfl (xs.length : Int) rfl rfl Try.underlying30 (.agg #[.int .i64 0, .int .i64 0, .int .i64 0, .slice none 0 0, .int .i64 0, .int .i64 0, .int .i64 0, .int .i64 0, .slice none 0 0, .slice none 0 0, .slice none 0 0, .int .i64 0, .int .i64 0]) 168 (by kernel_rfl) rfl (by decide) (by omega) zTask (ok := fun _ => True) (okp := fun _ => True) (kTask_zero _ _ _) (fun _ hk => hk) trivial (by omega) (by omega) (Below.refl _ _) (Nat.le_refl _) ?_; intro v w1 ho hb _ _; have HO := Aside0.mk ho; have HB := Aside0.mk hb; clear ho hb)
  go_loopw [4] (fun i w' => ∃ k : Nat, k ≤ xs.length ∧ i = .int .i64 k ∧ Aside0 (kTask.R 52 w' w.heap.size (fun _ => True) v (upTo xs zTask k)) ∧ Aside0 (Below w.heap.size w w')) (fun i _ => xs.length - (intOf i).toNat)
  case atStart => exact ⟨0, Nat.zero_le _, rfl, ⟨by rw [upTo_zero]; simpa using HO.out⟩, HB⟩
  case round =>
    clear HO HB
    obtain ⟨k, hk, rfl, HO, HB⟩ := hrel
    by_cases hlt : k < xs.length
    · have hl := upTo_length xs zTask hk
      have HS := Aside0.mk (upTo_set xs zTask hlt)
      have q0 : (0 : Int) ≤ (k : Int) := by omega
      have q1 : (k : Int) < (xs.length : Int) := by omega
      have hsz : szT (xs.getD k zTask) ≤ 1048576 := by have h1 := sumOf_take szT xs k zTask hlt; have h2 := sumOf_le szT xs (k + 1); omega
      obtain ⟨ad, cs, rfl, hcl, hK, hcc⟩ := Kd.C_get (Kd.C_below HX.out HB.out) zTask (k : Int) q0 q1
      obtain ⟨g, cap, rfl, hg1, hg2, hg3⟩ := Kd.R_form HO.out (by omega)
      rw [hl] at *
      simp only [Int.toNat_natCast] at hK hcc
      have HK := Aside0.mk hK
      have HCC := Aside0.mk hcc
      clear hK hcc hg3
      go_wp2_with (first
        | ((with_reducible refine gate_dst (N := 19) rfl ?_); refine load_struct rfl 70 (.tmp 18) rfl ad (k * 13) rfl cs _ HCC.out (by rw [hcl]; decide) Try.underlying70 rfl (by rw [hcl]; kernel_rfl) ?_)
        | (go_at_call 45; refine (toTask_calls _ _ _ HK.out hsz).mono ?_; rintro e w1 ⟨ds, rfl, hm, hb⟩; have HM := Aside0.mk hm; have HO2 := Aside0.mk (Kd.R_below HO.out hb); have HB2 := Aside0.mk (below_step HB.out hb); clear hm hb HO HB)
        | ((with_reducible refine gate_store (t := 52) (p := 21) rfl ?_); obtain ⟨ce, hce, _, hcc2, _⟩ := Kd.R_elem HO2.out zTask (k : Int) q0 q1; have hdl := kTask.K_len (kTask.K_of_M HM.out); refine Kd.R_store (w0 := w) kTask w.heap.size rfl rfl 52 (.tmp 21) (.tmp 20) rfl 52 (k : Int) 0 (upTo xs zTask k) (xs.getD k zTask) (.agg ds.toArray) ds ce (fun _ => True) (fun k' => g < k') rfl (by simp; rfl) rfl rfl (by rw [hdl]; kernel_rfl) (kTask.K_one (kTask.K_of_M HM.out)) HO2.out q0 q1 hce hcc2 (by rw [hdl]; exact Nat.le_refl _) (M_all (by rw [hce, hdl]; exact Nat.le_refl _) (by omega) (by omega) HM.out) (fun k' hk' => ⟨trivial, Nat.ne_of_gt hk'⟩) HB2.out ?_; intro w2 ho hb hgr; simp only [Int.toNat_natCast] at ho; rw [HS.out] at ho; have HO3 := Aside0.mk ho; have HB3 := Aside0.mk hb; clear ho hb hgr))
      go_roundw
      case rel => exact ⟨k + 1, by omega, by go_num, HO3, HB3⟩
      case measure => simp [intOf]; omega
    · go_wp2
      go_ret
      obtain rfl : k = xs.length := by omega
      exact ⟨_, rfl, by rw [upTo_all] at HO; exact HO.out, HB.out⟩
set_option maxHeartbeats 4000000 in
set_option maxRecDepth 100000 in
theorem toSys_calls (x : Sys) (cs : List Value) (w : World) (hx : kSysL.K w x cs) (hn : szS x ≤ 1048576) :
    Calls Try.prog 10 #[.agg cs.toArray] w fun e w' => ∃ ds, e = .returned (.agg ds.toArray) ∧ kSys.M w' w.heap.size (fun _ => True) x ds ∧ Below w.heap.size w w' := by
  obtain ⟨A0, c0, A1, c1, A3, c3, rfl, l0, g0, l1, g1, l3, g3⟩ := kSysL_open hx
  unfold szS at hn
  have G := Aside0.mk (And.intro g0 (And.intro g1 g3))
  have HB := Aside0.mk (Below.refl w.heap.size w)
  clear g0 g1 g3 l0 l1 l3 hx
  go_enter Try.func10, Try.ntmps10
  go_wp2_with fail
  refine (toCellS_calls _ _ _ _ ?h1 (by omega)).mono ?_
  case h1 => exact Kd.C_below (w := w) G.out.1 (by repeat (first | with_reducible exact HB.out | with_reducible refine below_alloc ?_ _ | with_reducible refine below_set ?_ ?_ | omega))
  rintro e w0 ⟨v0, rfl, ho, hb⟩
  obtain ⟨A0', c0', rfl⟩ := Kd.R_slice ho
  have O0 := Aside0.mk (R_up (base := w.heap.size) (n := w.heap.size + 2) ho (by simp <;> omega) (by simp <;> omega))
  have hz := bsize hb
  (try simp at hz)
  have q00 : w.heap.size < w0.heap.size := (by omega)
  have q01 : w.heap.size + 1 < w0.heap.size := (by omega)
  have q02 : w.heap.size + 1 + 1 < w0.heap.size := (by omega)
  obtain ⟨hc0, hf0⟩ := bcell hb
  have HB1 := Aside0.mk (below_step (w := w) (by repeat (first | with_reducible exact HB.out | with_reducible refine below_alloc ?_ _ | with_reducible refine below_set ?_ ?_ | omega)) hb)
  clear HB
  have HB := HB1
  clear HB1 hb ho hz
  go_wp2_with fail
  refine (toTaskS_calls _ _ _ _ ?h1 (by omega) (by omega)).mono ?_
  case h1 => exact Kd.C_below (w := w) G.out.2.1 (by repeat (first | with_reducible exact HB.out | with_reducible refine below_alloc ?_ _ | with_reducible refine below_set ?_ ?_ | omega))
  rintro e w1 ⟨v1, rfl, ho, hb⟩
  obtain ⟨A1', c1', rfl⟩ := Kd.R_slice ho
  have O1 := Aside0.mk (R_up (base := w.heap.size) (n := w.heap.size + 2) ho (by simp <;> omega) (by simp <;> omega))
  have P0 := Aside0.mk (Kd.R_below (show Kd.R kCell 75 _ w.heap.size (fun k => w.heap.size + 2 < k) (.slice A0' x.cells.length c0') x.cells from by repeat (first | with_reducible exact O0.out | with_reducible refine R_farN ?_ ?_ | omega)) hb)
  clear O0
  have O0 := P0
  clear P0
  have hz := bsize hb
  (try simp at hz)
  have q10 : w.heap.size < w1.heap.size := (by omega)
  have q11 : w.heap.size + 1 < w1.heap.size := (by omega)
  have q12 : w.heap.size + 1 + 1 < w1.heap.size := (by omega)
  obtain ⟨hc1, hf1⟩ := bcell hb
  have HB1 := Aside0.mk (below_step (w := w) (by repeat (first | with_reducible exact HB.out | with_reducible refine below_alloc ?_ _ | with_reducible refine below_set ?_ ?_ | omega)) hb)
  clear HB
  have HB := HB1
  clear HB1 hb ho hz
  go_wp2_with fail
  refine (toEntryS_calls _ _ _ _ ?h1 (by omega) (by omega)).mono ?_
  case h1 => exact Kd.C_below (w := w) G.out.2.2 (by repeat (first | with_reducible exact HB.out | with_reducible refine below_alloc ?_ _ | with_reducible refine below_set ?_ ?_ | omega))
  rintro e w3 ⟨v3, rfl, ho, hb⟩
  obtain ⟨A3', c3', rfl⟩ := Kd.R_slice ho
  have O3 := Aside0.mk (R_up (base := w.heap.size) (n := w.heap.size + 2) ho (by simp <;> omega) (by simp <;> omega))
  have P0 := Aside0.mk (Kd.R_below (show Kd.R kCell 75 _ w.heap.size (fun k => w.heap.size + 2 < k) (.slice A0' x.cells.length c0') x.cells from by repeat (first | with_reducible exact O0.out | with_reducible refine R_farN ?_ ?_ | omega)) hb)
  clear O0
  have O0 := P0
  clear P0
  have P1 := Aside0.mk (Kd.R_below (show Kd.R kTask 52 _ w.heap.size (fun k => w.heap.size + 2 < k) (.slice A1' x.tasks.length c1') x.tasks from by repeat (first | with_reducible exact O1.out | with_reducible refine R_farN ?_ ?_ | omega)) hb)
  clear O1
  have O1 := P1
  clear P1
  have hz := bsize hb
  (try simp at hz)
  have q30 : w.heap.size < w3.heap.size := (by omega)
  have q31 : w.heap.size + 1 < w3.heap.size := (by omega)
  have q32 : w.heap.size + 1 + 1 < w3.heap.size := (by omega)
  obtain ⟨hc3, hf3⟩ := bcell hb
  have HB1 := Aside0.mk (below_step (w := w) (by repeat (first | with_reducible exact HB.out | with_reducible refine below_alloc ?_ _ | with_reducible refine below_set ?_ ?_ | omega)) hb)
  clear HB
  have HB := HB1
  clear HB1 hb ho hz
  go_wp2_with fail
  refine bodyPost_ret (v := .agg #[.slice A0' x.cells.length c0', .slice A1' x.tasks.length c1', .int .i64 x.clock, .slice A3' x.log.length c3']) (by simp [results, Try.results10, go_sem, hc0, hf0, q00, q01, q02, hc1, hf1, q10, q11, q12, hc3, hf3, q30, q31, q32]) rfl ⟨_, rfl, kSys_mkM x ?_ ?_ ?_, (by repeat (first | with_reducible exact HB.out | with_reducible refine below_alloc ?_ _ | with_reducible refine below_set ?_ ?_ | omega))⟩
  · exact R_any (show Kd.R kCell 75 _ w.heap.size (fun k => w.heap.size + 2 < k) (.slice A0' x.cells.length c0') x.cells from by repeat (first | with_reducible exact O0.out | with_reducible refine R_farN ?_ ?_ | omega))
  · exact R_any (show Kd.R kTask 52 _ w.heap.size (fun k => w.heap.size + 2 < k) (.slice A1' x.tasks.length c1') x.tasks from by repeat (first | with_reducible exact O1.out | with_reducible refine R_farN ?_ ?_ | omega))
  · exact R_any (show Kd.R kEntry 80 _ w.heap.size (fun k => w.heap.size + 2 < k) (.slice A3' x.log.length c3') x.log from by repeat (first | with_reducible exact O3.out | with_reducible refine R_farN ?_ ?_ | omega))
end Go.Proofs.Ythkmchgglnhmaaa.Eq
