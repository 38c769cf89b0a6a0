import Derived.Test.YthkmchgglnhmaaaBase
/- The walks of laws.eq..: two values read the same. Printed by gen_eq.py (own). -/
namespace Go.Proofs.Ythkmchgglnhmaaa.Eq
open Go.RowKit Go.Proofs.YthkmchgglnhmaaaW.PrintWords Go.Proofs.YthkmchgglnhmaaaW.PrintLast Go.Proofs.YthkmchgglnhmaaaW.PrintMore
set_option linter.unusedVariables false
set_option linter.unusedSimpArgs false
theorem agree_all {α : Type} (xs ys : List α) (hl : xs.length = ys.length) (h : ∀ j, j < xs.length → xs[j]? = ys[j]?) : xs = ys := by
  apply List.ext_getElem?
  intro j
  by_cases hj : j < xs.length
  · exact h j hj
  · rw [List.getElem?_eq_none (by omega), List.getElem?_eq_none (by omega)]
theorem agree_step {α : Type} {xs ys : List α} {k : Nat} {z : α} (H : ∀ j, j < k → xs[j]? = ys[j]?) (h1 : k < xs.length) (h2 : k < ys.length) (he : xs.getD k z = ys.getD k z) {j : Nat} (hj : j < k + 1) : xs[j]? = ys[j]? := by
  by_cases h : j < k
  · exact H j h
  · obtain rfl : j = k := by omega
    simp only [List.getD_eq_getElem?_getD] at he
    rw [List.getElem?_eq_getElem (by omega), List.getElem?_eq_getElem (by omega)] at he ⊢
    simpa using he

set_option maxHeartbeats 800000 in
theorem eqIntS_calls (xs ys : List Int) (A B : Option Addr) (c d : Nat) (w : World) (hx : (Kd.int .i64).C w A xs.length xs) (hy : (Kd.int .i64).C w B ys.length ys) :
    Calls Try.prog 17 #[.slice A xs.length c, .slice B ys.length d] w fun e w' => e = .returned (.bool (decide (xs = ys))) ∧ Drawn0 w w' := by
  have HX := Aside0.mk hx
  have HY := Aside0.mk hy
  have hm := Kd.C_max hx
  clear hx hy
  by_cases hl : xs.length = ys.length
  · have hlb : ((xs.length : Int) != (ys.length : Int)) = false := by rw [hl]; simp
    have HL := Aside0.mk hl
    clear hl
    go_enter Try.func17, Try.ntmps17
    go_wp2
    have HLB := Aside0.mk hlb
    clear hlb
    go_loopw [5] (fun v w' => ∃ k : Nat, k ≤ xs.length ∧ v = .int .i64 k ∧ Aside0 (∀ j, j < k → xs[j]? = ys[j]?) ∧ Drawn0 w w') (fun v _ => xs.length - (intOf v).toNat)
    case atStart => exact ⟨0, Nat.zero_le _, rfl, ⟨fun j hj => by omega⟩, Drawn0.refl _⟩
    case round =>
      obtain ⟨k, hk, rfl, HJ, HD⟩ := hrel
      obtain ⟨n, rfl⟩ := HD.out
      clear HD
      by_cases hlt : k < xs.length
      · have hlt2 : k < ys.length := by rw [← HL.out]; exact hlt
        have h0 : (0 : Int) ≤ (k : Int) := by omega
        have h1 : (k : Int) < (xs.length : Int) := by omega
        have h2 : (k : Int) < (ys.length : Int) := by omega
        obtain ⟨ax, rfl, gx⟩ := Kd.at_int HX.out (k : Int) (by omega) h1
        obtain ⟨ay, rfl, gy⟩ := Kd.at_int HY.out (k : Int) (by omega) h2
        simp only [Int.toNat_natCast] at gx gy
        by_cases he : rd xs k = rd ys k
        · have heb : (rd xs k != rd ys k) = false := by simp [he]
          have HE := Aside0.mk he
          clear he
          go_wp2
          go_quiet (fail)
          go_wp2
          go_roundw
          case rel => exact ⟨k + 1, by omega, by go_num, ⟨fun j hj => agree_step HJ.out hlt hlt2 HE.out hj⟩, ⟨⟨_, rfl⟩⟩⟩
          case measure => simp [intOf]; omega
        · have heb : (rd xs k != rd ys k) = true := by simp [he]
          have HE := Aside0.mk he
          clear he
          go_wp2
          go_quiet (fail)
          go_wp2
          go_ret
          exact ⟨ret_bool (decide_eq_false (fun h => HE.out (by rw [h]))).symm, Drawn0.step ⟨⟨n, rfl⟩⟩ _⟩
      · go_wp2
        go_ret
        exact ⟨ret_bool (decide_eq_true (agree_all xs ys HL.out (fun j hj => HJ.out j (by omega)))).symm, ⟨⟨n, rfl⟩⟩⟩
  · have hlb : ((xs.length : Int) != (ys.length : Int)) = true := by simp; omega
    have hlc : (xs.length != ys.length) = true := by simp; omega
    have hld : (xs.length == ys.length) = false := by simp; omega
    have HL := Aside0.mk hl
    clear hl
    go_enter Try.func17, Try.ntmps17
    go_wp2
    go_ret
    exact ⟨ret_bool (decide_eq_false (fun h => HL.out (by rw [h]))).symm, Drawn0.refl _⟩
theorem Put_ext (x y : Put) : x = y ↔ x.cell = y.cell ∧ x.num = y.num := by cases x; cases y; simp
set_option maxHeartbeats 1000000 in
theorem eqPut_calls (x y : Put) (cs ds : List Value) (w : World) (hx : kPut.K w x cs) (hy : kPut.K w y ds) :
    Calls Try.prog 57 #[.agg cs.toArray, .agg ds.toArray] w fun e w' => e = .returned (.bool (decide (x = y))) ∧ Below w.heap.size w w' := by
  obtain rfl := kPut_open hx
  obtain rfl := kPut_open hy
  clear hx hy
  have HB := Aside0.mk (Below.refl w.heap.size w)
  go_enter Try.func57, Try.ntmps57
  go_wp2_with fail
  all_goals (go_ret; refine ⟨ret_bool ?_, (by repeat (first | with_reducible exact HB.out | with_reducible refine below_alloc ?_ _ | with_reducible refine pw_below_drewN ?_ _))⟩)
  all_goals (first | (rw [decide_eq_true]; simp_all [Put_ext]; done) | (rw [decide_eq_false]; simp_all [Put_ext]; done))
theorem Cell_ext (x y : Cell) : x = y ↔ x.num = y.num ∧ x.time = y.time ∧ x.lock = y.lock := by cases x; cases y; simp
set_option maxHeartbeats 1000000 in
theorem eqCell_calls (x y : Cell) (cs ds : List Value) (w : World) (hx : kCell.K w x cs) (hy : kCell.K w y ds) :
    Calls Try.prog 47 #[.agg cs.toArray, .agg ds.toArray] w fun e w' => e = .returned (.bool (decide (x = y))) ∧ Below w.heap.size w w' := by
  obtain rfl := kCell_open hx
  obtain rfl := kCell_open hy
  clear hx hy
  have HB := Aside0.mk (Below.refl w.heap.size w)
  go_enter Try.func47, Try.ntmps47
  go_wp2_with fail
  all_goals (go_ret; refine ⟨ret_bool ?_, (by repeat (first | with_reducible exact HB.out | with_reducible refine below_alloc ?_ _ | with_reducible refine pw_below_drewN ?_ _))⟩)
  all_goals (first | (rw [decide_eq_true]; simp_all [Cell_ext]; done) | (rw [decide_eq_false]; simp_all [Cell_ext]; done))
set_option maxHeartbeats 2000000 in
set_option maxRecDepth 100000 in
theorem eqPutS_calls (xs ys : List Put) (A B : Option Addr) (c d : Nat) (w : World) (hx : kPut.C w A xs.length xs) (hy : kPut.C w B ys.length ys) :
    Calls Try.prog 55 #[.slice A xs.length c, .slice B ys.length d] w fun e w' => e = .returned (.bool (decide (xs = ys))) ∧ Below w.heap.size w w' := by
  have HX := Aside0.mk hx
  have HY := Aside0.mk hy
  have hm := Kd.C_max hx
  clear hx hy
  by_cases hl : xs.length = ys.length
  · have hlb : ((xs.length : Int) != (ys.length : Int)) = false := by rw [hl]; simp
    have HL := Aside0.mk hl
    clear hl
    go_enter Try.func55, Try.ntmps55
    go_wp2
    have HLB := Aside0.mk hlb
    clear hlb
    go_loopw [5] (fun v w' => ∃ k : Nat, k ≤ xs.length ∧ v = .int .i64 k ∧ Aside0 (∀ j, j < k → xs[j]? = ys[j]?) ∧ Aside0 (Below w.heap.size w w')) (fun v _ => xs.length - (intOf v).toNat)
    case atStart => exact ⟨0, Nat.zero_le _, rfl, ⟨fun j hj => by omega⟩, ⟨Below.refl _ _⟩⟩
    case round =>
      obtain ⟨k, hk, rfl, HJ, HB⟩ := hrel
      by_cases hlt : k < xs.length
      · have hlt2 : k < ys.length := by rw [← HL.out]; exact hlt
        have h0 : (0 : Int) ≤ (k : Int) := by omega
        have h1 : (k : Int) < (xs.length : Int) := by omega
        have h2 : (k : Int) < (ys.length : Int) := by omega
        obtain ⟨ax, cs, rfl, hcl, hK, hcc⟩ := Kd.C_get (Kd.C_below HX.out HB.out) zPut (k : Int) h0 h1
        obtain ⟨ay, ds, rfl, hdl, hL, hdd⟩ := Kd.C_get (Kd.C_below HY.out HB.out) zPut (k : Int) h0 h2
        simp only [Int.toNat_natCast] at hK hcc hL hdd
        have HK := Aside0.mk hK
        have HCC := Aside0.mk hcc
        have HK2 := Aside0.mk hL
        have HDD := Aside0.mk hdd
        clear hK hcc hL hdd
        go_wp2
        refine wp_region_still_tail 8 (by kernel_rfl) (by kernel_rfl) ?_
        simp only [List.take_succ_cons, List.take_zero, List.drop_succ_cons, List.drop_zero]
        iterate 3 still_step
        refine still_load_struct rfl 91 (.tmp 19) rfl ax (k * 2) rfl cs _ HCC.out (by rw [hcl]; decide) Try.underlying91 rfl (by rw [hcl]; kernel_rfl) ?_
        iterate 3 still_step
        refine still_load_struct rfl 91 (.tmp 23) rfl ay (k * 2) rfl ds _ HDD.out (by rw [hdl]; decide) Try.underlying91 rfl (by rw [hdl]; kernel_rfl) ?_
        refine wpStill_nil ?_
        by_cases he : xs.getD k zPut = ys.getD k zPut
        · have HE := Aside0.mk he
          clear he
          go_wp2_with (go_at_call 57; refine (eqPut_calls _ _ _ _ _ (kPut.K_below (below_drew (Below.refl _ _)) HK.out) (kPut.K_below (below_drew (Below.refl _ _)) HK2.out)).mono ?_; rw [decide_eq_true HE.out]; rintro e w1 ⟨rfl, hb⟩; have HB1 := Aside0.mk (below_step (below_drew HB.out) hb); clear hb HB)
          go_roundw
          case rel => exact ⟨k + 1, by omega, by go_num, ⟨fun j hj => agree_step HJ.out hlt hlt2 HE.out hj⟩, HB1⟩
          case measure => simp [intOf]; omega
        · have HE := Aside0.mk he
          clear he
          go_wp2_with (go_at_call 57; refine (eqPut_calls _ _ _ _ _ (kPut.K_below (below_drew (Below.refl _ _)) HK.out) (kPut.K_below (below_drew (Below.refl _ _)) HK2.out)).mono ?_; rw [decide_eq_false HE.out]; rintro e w1 ⟨rfl, hb⟩; have HB1 := Aside0.mk (below_step (below_drew HB.out) hb); clear hb HB)
          go_ret
          exact ⟨ret_bool (decide_eq_false (fun h => HE.out (by rw [h]))).symm, HB1.out⟩
      · go_wp2
        go_ret
        exact ⟨ret_bool (decide_eq_true (agree_all xs ys HL.out (fun j hj => HJ.out j (by omega)))).symm, HB.out⟩
  · have hlb : ((xs.length : Int) != (ys.length : Int)) = true := by simp; omega
    have hlc : (xs.length != ys.length) = true := by simp; omega
    have hld : (xs.length == ys.length) = false := by simp; omega
    have HL := Aside0.mk hl
    clear hl
    go_enter Try.func55, Try.ntmps55
    go_wp2
    go_ret
    exact ⟨ret_bool (decide_eq_false (fun h => HL.out (by rw [h]))).symm, Below.refl _ _⟩
set_option maxHeartbeats 2000000 in
set_option maxRecDepth 100000 in
theorem eqCellS_calls (xs ys : List Cell) (A B : Option Addr) (c d : Nat) (w : World) (hx : kCell.C w A xs.length xs) (hy : kCell.C w B ys.length ys) :
    Calls Try.prog 34 #[.slice A xs.length c, .slice B ys.length d] w fun e w' => e = .returned (.bool (decide (xs = ys))) ∧ Below w.heap.size w w' := by
  have HX := Aside0.mk hx
  have HY := Aside0.mk hy
  have hm := Kd.C_max hx
  clear hx hy
  by_cases hl : xs.length = ys.length
  · have hlb : ((xs.length : Int) != (ys.length : Int)) = false := by rw [hl]; simp
    have HL := Aside0.mk hl
    clear hl
    go_enter Try.func34, Try.ntmps34
    go_wp2
    have HLB := Aside0.mk hlb
    clear hlb
    go_loopw [5] (fun v w' => ∃ k : Nat, k ≤ xs.length ∧ v = .int .i64 k ∧ Aside0 (∀ j, j < k → xs[j]? = ys[j]?) ∧ Aside0 (Below w.heap.size w w')) (fun v _ => xs.length - (intOf v).toNat)
    case atStart => exact ⟨0, Nat.zero_le _, rfl, ⟨fun j hj => by omega⟩, ⟨Below.refl _ _⟩⟩
    case round =>
      obtain ⟨k, hk, rfl, HJ, HB⟩ := hrel
      by_cases hlt : k < xs.length
      · have hlt2 : k < ys.length := by rw [← HL.out]; exact hlt
        have h0 : (0 : Int) ≤ (k : Int) := by omega
        have h1 : (k : Int) < (xs.length : Int) := by omega
        have h2 : (k : Int) < (ys.length : Int) := by omega
        obtain ⟨ax, cs, rfl, hcl, hK, hcc⟩ := Kd.C_get (Kd.C_below HX.out HB.out) zCell (k : Int) h0 h1
        obtain ⟨ay, ds, rfl, hdl, hL, hdd⟩ := Kd.C_get (Kd.C_below HY.out HB.out) zCell (k : Int) h0 h2
        simp only [Int.toNat_natCast] at hK hcc hL hdd
        have HK := Aside0.mk hK
        have HCC := Aside0.mk hcc
        have HK2 := Aside0.mk hL
        have HDD := Aside0.mk hdd
        clear hK hcc hL hdd
        go_wp2
        refine wp_region_still_tail 8 (by kernel_rfl) (by kernel_rfl) ?_
        simp only [List.take_succ_cons, List.take_zero, List.drop_succ_cons, List.drop_zero]
        iterate 3 still_step
        refine still_load_struct rfl 75 (.tmp 19) rfl ax (k * 3) rfl cs _ HCC.out (by rw [hcl]; decide) Try.underlying75 rfl (by rw [hcl]; kernel_rfl) ?_
        iterate 3 still_step
        refine still_load_struct rfl 75 (.tmp 23) rfl ay (k * 3) rfl ds _ HDD.out (by rw [hdl]; decide) Try.underlying75 rfl (by rw [hdl]; kernel_rfl) ?_
        refine wpStill_nil ?_
        by_cases he : xs.getD k zCell = ys.getD k zCell
        · have HE := Aside0.mk he
          clear he
          go_wp2_with (go_at_call 47; refine (eqCell_calls _ _ _ _ _ (kCell.K_below (below_drew (Below.refl _ _)) HK.out) (kCell.K_below (below_drew (Below.refl _ _)) HK2.out)).mono ?_; rw [decide_eq_true HE.out]; rintro e w1 ⟨rfl, hb⟩; have HB1 := Aside0.mk (below_step (below_drew HB.out) hb); clear hb HB)
          go_roundw
          case rel => exact ⟨k + 1, by omega, by go_num, ⟨fun j hj => agree_step HJ.out hlt hlt2 HE.out hj⟩, HB1⟩
          case measure => simp [intOf]; omega
        · have HE := Aside0.mk he
          clear he
          go_wp2_with (go_at_call 47; refine (eqCell_calls _ _ _ _ _ (kCell.K_below (below_drew (Below.refl _ _)) HK.out) (kCell.K_below (below_drew (Below.refl _ _)) HK2.out)).mono ?_; rw [decide_eq_false HE.out]; rintro e w1 ⟨rfl, hb⟩; have HB1 := Aside0.mk (below_step (below_drew HB.out) hb); clear hb HB)
          go_ret
          exact ⟨ret_bool (decide_eq_false (fun h => HE.out (by rw [h]))).symm, HB1.out⟩
      · go_wp2
        go_ret
        exact ⟨ret_bool (decide_eq_true (agree_all xs ys HL.out (fun j hj => HJ.out j (by omega)))).symm, HB.out⟩
  · have hlb : ((xs.length : Int) != (ys.length : Int)) = true := by simp; omega
    have hlc : (xs.length != ys.length) = true := by simp; omega
    have hld : (xs.length == ys.length) = false := by simp; omega
    have HL := Aside0.mk hl
    clear hl
    go_enter Try.func34, Try.ntmps34
    go_wp2
    go_ret
    exact ⟨ret_bool (decide_eq_false (fun h => HL.out (by rw [h]))).symm, Below.refl _ _⟩
theorem Task_ext (x y : Task) : x = y ↔ x.body = y.body ∧ x.pc = y.pc ∧ x.up = y.up ∧ x.regs = y.regs ∧ x.way = y.way ∧ x.stage = y.stage ∧ x.at_ = y.at_ ∧ x.since = y.since ∧ x.old = y.old ∧ x.reads = y.reads ∧ x.puts = y.puts ∧ x.when_ = y.when_ ∧ x.from_ = y.from_ := by cases x; cases y; simp
set_option maxHeartbeats 4000000 in
set_option maxRecDepth 100000 in
theorem eqTask_calls (x y : Task) (cs ds : List Value) (w : World) (hx : kTask.K w x cs) (hy : kTask.K w y ds) :
    Calls Try.prog 48 #[.agg cs.toArray, .agg ds.toArray] w fun e w' => e = .returned (.bool (decide (x = y))) ∧ Below w.heap.size w w' := by
  obtain ⟨A3, c3, A8, c8, A9, c9, A10, c10, rfl, l3, g3, l8, g8, l9, g9, l10, g10⟩ := kTask_open hx
  obtain ⟨B3, d3, B8, d8, B9, d9, B10, d10, rfl, m3, h3, m8, h8, m9, h9, m10, h10⟩ := kTask_open hy
  have G := Aside0.mk (And.intro g3 (And.intro g8 (And.intro g9 g10)))
  have H := Aside0.mk (And.intro h3 (And.intro h8 (And.intro h9 h10)))
  clear g3 g8 g9 g10 h3 h8 h9 h10 l3 l8 l9 l10 m3 m8 m9 m10 hx hy
  go_enter Try.func48, Try.ntmps48
  have HB := Aside0.mk (Below.refl w.heap.size w)
  go_wp2_with (first
    | (go_at_call 17; refine (eqIntS_calls _ _ _ _ _ _ _ ?h1 ?h2).mono ?_; (case h1 => exact Kd.C_below (w := w) (by first | exact G.out.1 | exact G.out.2.1) (by repeat (first | with_reducible exact HB.out | with_reducible refine below_alloc ?_ _ | with_reducible refine pw_below_drewN ?_ _))); (case h2 => exact Kd.C_below (w := w) (by first | exact H.out.1 | exact H.out.2.1) (by repeat (first | with_reducible exact HB.out | with_reducible refine below_alloc ?_ _ | with_reducible refine pw_below_drewN ?_ _))); rintro e w1 ⟨rfl, ⟨n, rfl⟩⟩)
    | (go_at_call 55; refine (eqPutS_calls _ _ _ _ _ _ _ ?h1 ?h2).mono ?_; (case h1 => exact Kd.C_below (w := w) (by first | exact G.out.2.2.1 | exact G.out.2.2.2) (by repeat (first | with_reducible exact HB.out | with_reducible refine below_alloc ?_ _ | with_reducible refine pw_below_drewN ?_ _))); (case h2 => exact Kd.C_below (w := w) (by first | exact H.out.2.2.1 | exact H.out.2.2.2) (by repeat (first | with_reducible exact HB.out | with_reducible refine below_alloc ?_ _ | with_reducible refine pw_below_drewN ?_ _))); rintro e w1 ⟨rfl, hb⟩; have HB1 := Aside0.mk (below_step (w := w) (by repeat (first | with_reducible exact HB.out | with_reducible refine below_alloc ?_ _ | with_reducible refine pw_below_drewN ?_ _)) hb); clear HB; have HB := HB1; clear HB1; have hz := bsize hb; (try simp at hz); have q0 : w.heap.size < w1.heap.size := (by omega); have q1 : w.heap.size + 1 < w1.heap.size := (by omega); clear hz; obtain ⟨hc, hf⟩ := bcell hb; clear hb))
  all_goals (go_ret; refine ⟨ret_bool ?_, (by repeat (first | with_reducible exact HB.out | with_reducible refine below_alloc ?_ _ | with_reducible refine pw_below_drewN ?_ _))⟩)
  all_goals (first | (rw [decide_eq_true]; simp_all [Task_ext]; done) | (rw [decide_eq_false]; simp_all [Task_ext]; done))
theorem Entry_ext (x y : Entry) : x = y ↔ x.task = y.task ∧ x.act = y.act ∧ x.when_ = y.when_ ∧ x.reads = y.reads ∧ x.puts = y.puts ∧ x.from_ = y.from_ := by cases x; cases y; simp
set_option maxHeartbeats 4000000 in
set_option maxRecDepth 100000 in
theorem eqEntry_calls (x y : Entry) (cs ds : List Value) (w : World) (hx : kEntry.K w x cs) (hy : kEntry.K w y ds) :
    Calls Try.prog 49 #[.agg cs.toArray, .agg ds.toArray] w fun e w' => e = .returned (.bool (decide (x = y))) ∧ Below w.heap.size w w' := by
  obtain ⟨A3, c3, A8, c8, rfl, l3, g3, l8, g8⟩ := kEntry_open hx
  obtain ⟨B3, d3, B8, d8, rfl, m3, h3, m8, h8⟩ := kEntry_open hy
  have G := Aside0.mk (And.intro g3 g8)
  have H := Aside0.mk (And.intro h3 h8)
  clear g3 g8 h3 h8 l3 l8 m3 m8 hx hy
  go_enter Try.func49, Try.ntmps49
  have HB := Aside0.mk (Below.refl w.heap.size w)
  go_wp2_with (first
    | (go_at_call 55; refine (eqPutS_calls _ _ _ _ _ _ _ ?h1 ?h2).mono ?_; (case h1 => exact Kd.C_below (w := w) (by first | exact G.out.1 | exact G.out.2) (by repeat (first | with_reducible exact HB.out | with_reducible refine below_alloc ?_ _ | with_reducible refine pw_below_drewN ?_ _))); (case h2 => exact Kd.C_below (w := w) (by first | exact H.out.1 | exact H.out.2) (by repeat (first | with_reducible exact HB.out | with_reducible refine below_alloc ?_ _ | with_reducible refine pw_below_drewN ?_ _))); rintro e w1 ⟨rfl, hb⟩; have HB1 := Aside0.mk (below_step (w := w) (by repeat (first | with_reducible exact HB.out | with_reducible refine below_alloc ?_ _ | with_reducible refine pw_below_drewN ?_ _)) hb); clear HB; have HB := HB1; clear HB1; have hz := bsize hb; (try simp at hz); have q0 : w.heap.size < w1.heap.size := (by omega); have q1 : w.heap.size + 1 < w1.heap.size := (by omega); clear hz; obtain ⟨hc, hf⟩ := bcell hb; clear hb))
  all_goals (go_ret; refine ⟨ret_bool ?_, (by repeat (first | with_reducible exact HB.out | with_reducible refine below_alloc ?_ _ | with_reducible refine pw_below_drewN ?_ _))⟩)
  all_goals (first | (rw [decide_eq_true]; simp_all [Entry_ext]; done) | (rw [decide_eq_false]; simp_all [Entry_ext]; done))
set_option maxHeartbeats 2000000 in
set_option maxRecDepth 100000 in
theorem eqTaskS_calls (xs ys : List Task) (A B : Option Addr) (c d : Nat) (w : World) (hx : kTask.C w A xs.length xs) (hy : kTask.C w B ys.length ys) :
    Calls Try.prog 35 #[.slice A xs.length c, .slice B ys.length d] w fun e w' => e = .returned (.bool (decide (xs = ys))) ∧ Below w.heap.size w w' := by
  have HX := Aside0.mk hx
  have HY := Aside0.mk hy
  have hm := Kd.C_max hx
  clear hx hy
  by_cases hl : xs.length = ys.length
  · have hlb : ((xs.length : Int) != (ys.length : Int)) = false := by rw [hl]; simp
    have HL := Aside0.mk hl
    clear hl
    go_enter Try.func35, Try.ntmps35
    go_wp2
    have HLB := Aside0.mk hlb
    clear hlb
    go_loopw [5] (fun v w' => ∃ k : Nat, k ≤ xs.length ∧ v = .int .i64 k ∧ Aside0 (∀ j, j < k → xs[j]? = ys[j]?) ∧ Aside0 (Below w.heap.size w w')) (fun v _ => xs.length - (intOf v).toNat)
    case atStart => exact ⟨0, Nat.zero_le _, rfl, ⟨fun j hj => by omega⟩, ⟨Below.refl _ _⟩⟩
    case round =>
      obtain ⟨k, hk, rfl, HJ, HB⟩ := hrel
      by_cases hlt : k < xs.length
      · have hlt2 : k < ys.length := by rw [← HL.out]; exact hlt
        have h0 : (0 : Int) ≤ (k : Int) := by omega
        have h1 : (k : Int) < (xs.length : Int) := by omega
        have h2 : (k : Int) < (ys.length : Int) := by omega
        obtain ⟨ax, cs, rfl, hcl, hK, hcc⟩ := Kd.C_get (Kd.C_below HX.out HB.out) zTask (k : Int) h0 h1
        obtain ⟨ay, ds, rfl, hdl, hL, hdd⟩ := Kd.C_get (Kd.C_below HY.out HB.out) zTask (k : Int) h0 h2
        simp only [Int.toNat_natCast] at hK hcc hL hdd
        have HK := Aside0.mk hK
        have HCC := Aside0.mk hcc
        have HK2 := Aside0.mk hL
        have HDD := Aside0.mk hdd
        clear hK hcc hL hdd
        go_wp2
        refine wp_region_still_tail 8 (by kernel_rfl) (by kernel_rfl) ?_
        simp only [List.take_succ_cons, List.take_zero, List.drop_succ_cons, List.drop_zero]
        iterate 3 still_step
        refine still_load_struct rfl 52 (.tmp 19) rfl ax (k * 13) rfl cs _ HCC.out (by rw [hcl]; decide) Try.underlying52 rfl (by rw [hcl]; kernel_rfl) ?_
        iterate 3 still_step
        refine still_load_struct rfl 52 (.tmp 23) rfl ay (k * 13) rfl ds _ HDD.out (by rw [hdl]; decide) Try.underlying52 rfl (by rw [hdl]; kernel_rfl) ?_
        refine wpStill_nil ?_
        by_cases he : xs.getD k zTask = ys.getD k zTask
        · have HE := Aside0.mk he
          clear he
          go_wp2_with (go_at_call 48; refine (eqTask_calls _ _ _ _ _ (kTask.K_below (below_drew (Below.refl _ _)) HK.out) (kTask.K_below (below_drew (Below.refl _ _)) HK2.out)).mono ?_; rw [decide_eq_true HE.out]; rintro e w1 ⟨rfl, hb⟩; have HB1 := Aside0.mk (below_step (below_drew HB.out) hb); clear hb HB)
          go_roundw
          case rel => exact ⟨k + 1, by omega, by go_num, ⟨fun j hj => agree_step HJ.out hlt hlt2 HE.out hj⟩, HB1⟩
          case measure => simp [intOf]; omega
        · have HE := Aside0.mk he
          clear he
          go_wp2_with (go_at_call 48; refine (eqTask_calls _ _ _ _ _ (kTask.K_below (below_drew (Below.refl _ _)) HK.out) (kTask.K_below (below_drew (Below.refl _ _)) HK2.out)).mono ?_; rw [decide_eq_false HE.out]; rintro e w1 ⟨rfl, hb⟩; have HB1 := Aside0.mk (below_step (below_drew HB.out) hb); clear hb HB)
          go_ret
          exact ⟨ret_bool (decide_eq_false (fun h => HE.out (by rw [h]))).symm, HB1.out⟩
      · go_wp2
        go_ret
        exact ⟨ret_bool (decide_eq_true (agree_all xs ys HL.out (fun j hj => HJ.out j (by omega)))).symm, HB.out⟩
  · have hlb : ((xs.length : Int) != (ys.length : Int)) = true := by simp; omega
    have hlc : (xs.length != ys.length) = true := by simp; omega
    have hld : (xs.length == ys.length) = false := by simp; omega
    have HL := Aside0.mk hl
    clear hl
    go_enter Try.func35, Try.ntmps35
    go_wp2
    go_ret
    exact ⟨ret_bool (decide_eq_false (fun h => HL.out (by rw [h]))).symm, Below.refl _ _⟩
set_option maxHeartbeats 2000000 in
set_option maxRecDepth 100000 in
theorem eqEntryS_calls (xs ys : List Entry) (A B : Option Addr) (c d : Nat) (w : World) (hx : kEntry.C w A xs.length xs) (hy : kEntry.C w B ys.length ys) :
    Calls Try.prog 36 #[.slice A xs.length c, .slice B ys.length d] w fun e w' => e = .returned (.bool (decide (xs = ys))) ∧ Below w.heap.size w w' := by
  have HX := Aside0.mk hx
  have HY := Aside0.mk hy
  have hm := Kd.C_max hx
  clear hx hy
  by_cases hl : xs.length = ys.length
  · have hlb : ((xs.length : Int) != (ys.length : Int)) = false := by rw [hl]; simp
    have HL := Aside0.mk hl
    clear hl
    go_enter Try.func36, Try.ntmps36
    go_wp2
    have HLB := Aside0.mk hlb
    clear hlb
    go_loopw [5] (fun v w' => ∃ k : Nat, k ≤ xs.length ∧ v = .int .i64 k ∧ Aside0 (∀ j, j < k → xs[j]? = ys[j]?) ∧ Aside0 (Below w.heap.size w w')) (fun v _ => xs.length - (intOf v).toNat)
    case atStart => exact ⟨0, Nat.zero_le _, rfl, ⟨fun j hj => by omega⟩, ⟨Below.refl _ _⟩⟩
    case round =>
      obtain ⟨k, hk, rfl, HJ, HB⟩ := hrel
      by_cases hlt : k < xs.length
      · have hlt2 : k < ys.length := by rw [← HL.out]; exact hlt
        have h0 : (0 : Int) ≤ (k : Int) := by omega
        have h1 : (k : Int) < (xs.length : Int) := by omega
        have h2 : (k : Int) < (ys.length : Int) := by omega
        obtain ⟨ax, cs, rfl, hcl, hK, hcc⟩ := Kd.C_get (Kd.C_below HX.out HB.out) zEntry (k : Int) h0 h1
        obtain ⟨ay, ds, rfl, hdl, hL, hdd⟩ := Kd.C_get (Kd.C_below HY.out HB.out) zEntry (k : Int) h0 h2
        simp only [Int.toNat_natCast] at hK hcc hL hdd
        have HK := Aside0.mk hK
        have HCC := Aside0.mk hcc
        have HK2 := Aside0.mk hL
        have HDD := Aside0.mk hdd
        clear hK hcc hL hdd
        go_wp2
        refine wp_region_still_tail 8 (by kernel_rfl) (by kernel_rfl) ?_
        simp only [List.take_succ_cons, List.take_zero, List.drop_succ_cons, List.drop_zero]
        iterate 3 still_step
        refine still_load_struct rfl 80 (.tmp 19) rfl ax (k * 6) rfl cs _ HCC.out (by rw [hcl]; decide) Try.underlying80 rfl (by rw [hcl]; kernel_rfl) ?_
        iterate 3 still_step
        refine still_load_struct rfl 80 (.tmp 23) rfl ay (k * 6) rfl ds _ HDD.out (by rw [hdl]; decide) Try.underlying80 rfl (by rw [hdl]; kernel_rfl) ?_
        refine wpStill_nil ?_
        by_cases he : xs.getD k zEntry = ys.getD k zEntry
        · have HE := Aside0.mk he
          clear he
          go_wp2_with (go_at_call 49; refine (eqEntry_calls _ _ _ _ _ (kEntry.K_below (below_drew (Below.refl _ _)) HK.out) (kEntry.K_below (below_drew (Below.refl _ _)) HK2.out)).mono ?_; rw [decide_eq_true HE.out]; rintro e w1 ⟨rfl, hb⟩; have HB1 := Aside0.mk (below_step (below_drew HB.out) hb); clear hb HB)
          go_roundw
          case rel => exact ⟨k + 1, by omega, by go_num, ⟨fun j hj => agree_step HJ.out hlt hlt2 HE.out hj⟩, HB1⟩
          case measure => simp [intOf]; omega
        · have HE := Aside0.mk he
          clear he
          go_wp2_with (go_at_call 49; refine (eqEntry_calls _ _ _ _ _ (kEntry.K_below (below_drew (Below.refl _ _)) HK.out) (kEntry.K_below (below_drew (Below.refl _ _)) HK2.out)).mono ?_; rw [decide_eq_false HE.out]; rintro e w1 ⟨rfl, hb⟩; have HB1 := Aside0.mk (below_step (below_drew HB.out) hb); clear hb HB)
          go_ret
          exact ⟨ret_bool (decide_eq_false (fun h => HE.out (by rw [h]))).symm, HB1.out⟩
      · go_wp2
        go_ret
        exact ⟨ret_bool (decide_eq_true (agree_all xs ys HL.out (fun j hj => HJ.out j (by omega)))).symm, HB.out⟩
  · have hlb : ((xs.length : Int) != (ys.length : Int)) = true := by simp; omega
    have hlc : (xs.length != ys.length) = true := by simp; omega
    have hld : (xs.length == ys.length) = false := by simp; omega
    have HL := Aside0.mk hl
    clear hl
    go_enter Try.func36, Try.ntmps36
    go_wp2
    go_ret
    exact ⟨ret_bool (decide_eq_false (fun h => HL.out (by rw [h]))).symm, Below.refl _ _⟩
theorem Sys_ext (x y : Sys) : x = y ↔ x.cells = y.cells ∧ x.tasks = y.tasks ∧ x.clock = y.clock ∧ x.log = y.log := by cases x; cases y; simp
set_option maxHeartbeats 4000000 in
set_option maxRecDepth 100000 in
theorem eqSys_calls (x y : Sys) (cs ds : List Value) (w : World) (hx : kSys.K w x cs) (hy : kSys.K w y ds) :
    Calls Try.prog 12 #[.agg cs.toArray, .agg ds.toArray] w fun e w' => e = .returned (.bool (decide (x = y))) ∧ Below w.heap.size w w' := by
  obtain ⟨A0, c0, A1, c1, A3, c3, rfl, l0, g0, l1, g1, l3, g3⟩ := kSys_open hx
  obtain ⟨B0, d0, B1, d1, B3, d3, rfl, m0, h0, m1, h1, m3, h3⟩ := kSys_open hy
  have G := Aside0.mk (And.intro g0 (And.intro g1 g3))
  have H := Aside0.mk (And.intro h0 (And.intro h1 h3))
  clear g0 g1 g3 h0 h1 h3 l0 l1 l3 m0 m1 m3 hx hy
  go_enter Try.func12, Try.ntmps12
  have HB := Aside0.mk (Below.refl w.heap.size w)
  go_wp2_with (first
    | (go_at_call 34; refine (eqCellS_calls _ _ _ _ _ _ _ ?h1 ?h2).mono ?_; (case h1 => exact Kd.C_below (w := w) (by first | exact G.out.1) (by repeat (first | with_reducible exact HB.out | with_reducible refine below_alloc ?_ _ | with_reducible refine pw_below_drewN ?_ _))); (case h2 => exact Kd.C_below (w := w) (by first | exact H.out.1) (by repeat (first | with_reducible exact HB.out | with_reducible refine below_alloc ?_ _ | with_reducible refine pw_below_drewN ?_ _))); rintro e w1 ⟨rfl, hb⟩; have HB1 := Aside0.mk (below_step (w := w) (by repeat (first | with_reducible exact HB.out | with_reducible refine below_alloc ?_ _ | with_reducible refine pw_below_drewN ?_ _)) hb); clear HB; have HB := HB1; clear HB1; have hz := bsize hb; (try simp at hz); have q0 : w.heap.size < w1.heap.size := (by omega); have q1 : w.heap.size + 1 < w1.heap.size := (by omega); clear hz; obtain ⟨hc, hf⟩ := bcell hb; clear hb)
    | (go_at_call 35; refine (eqTaskS_calls _ _ _ _ _ _ _ ?h1 ?h2).mono ?_; (case h1 => exact Kd.C_below (w := w) (by first | exact G.out.2.1) (by repeat (first | with_reducible exact HB.out | with_reducible refine below_alloc ?_ _ | with_reducible refine pw_below_drewN ?_ _))); (case h2 => exact Kd.C_below (w := w) (by first | exact H.out.2.1) (by repeat (first | with_reducible exact HB.out | with_reducible refine below_alloc ?_ _ | with_reducible refine pw_below_drewN ?_ _))); rintro e w1 ⟨rfl, hb⟩; have HB1 := Aside0.mk (below_step (w := w) (by repeat (first | with_reducible exact HB.out | with_reducible refine below_alloc ?_ _ | with_reducible refine pw_below_drewN ?_ _)) hb); clear HB; have HB := HB1; clear HB1; have hz := bsize hb; (try simp at hz); have q0 : w.heap.size < w1.heap.size := (by omega); have q1 : w.heap.size + 1 < w1.heap.size := (by omega); clear hz; obtain ⟨hc, hf⟩ := bcell hb; clear hb)
    | (go_at_call 36; refine (eqEntryS_calls _ _ _ _ _ _ _ ?h1 ?h2).mono ?_; (case h1 => exact Kd.C_below (w := w) (by first | exact G.out.2.2) (by repeat (first | with_reducible exact HB.out | with_reducible refine below_alloc ?_ _ | with_reducible refine pw_below_drewN ?_ _))); (case h2 => exact Kd.C_below (w := w) (by first | exact H.out.2.2) (by repeat (first | with_reducible exact HB.out | with_reducible refine below_alloc ?_ _ | with_reducible refine pw_below_drewN ?_ _))); rintro e w1 ⟨rfl, hb⟩; have HB1 := Aside0.mk (below_step (w := w) (by repeat (first | with_reducible exact HB.out | with_reducible refine below_alloc ?_ _ | with_reducible refine pw_below_drewN ?_ _)) hb); clear HB; have HB := HB1; clear HB1; have hz := bsize hb; (try simp at hz); have q0 : w.heap.size < w1.heap.size := (by omega); have q1 : w.heap.size + 1 < w1.heap.size := (by omega); clear hz; obtain ⟨hc, hf⟩ := bcell hb; clear hb))
  all_goals (go_ret; refine ⟨ret_bool ?_, (by repeat (first | with_reducible exact HB.out | with_reducible refine below_alloc ?_ _ | with_reducible refine pw_below_drewN ?_ _))⟩)
  all_goals (first | (rw [decide_eq_true]; simp_all [Sys_ext]; done) | (rw [decide_eq_false]; simp_all [Sys_ext]; done))
end Go.Proofs.Ythkmchgglnhmaaa.Eq
