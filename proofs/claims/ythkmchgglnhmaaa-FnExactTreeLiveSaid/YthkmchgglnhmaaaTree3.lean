import Derived.Test.YthkmchgglnhmaaaTree2
/- The walks of impl.TreeKids, TreeOk and TreeUnder, of the program and of the reference. Printed by gen_tree3.py (own). -/
namespace Go.Proofs.Ythkmchgglnhmaaa.Eq
open Go.RowKit Go.Proofs.YthkmchgglnhmaaaW.PrintWords Go.Proofs.YthkmchgglnhmaaaW.PrintLast Go.Proofs.YthkmchgglnhmaaaW.PrintMore
set_option linter.unusedVariables false
set_option linter.unusedSimpArgs false
set_option maxHeartbeats 2000000 in
set_option maxRecDepth 100000 in
theorem implKids_calls (s : Sys) (cs : List Value) (task : Int) (w : World) (hx : kSys.K w s cs) (hn : s.tasks.length ≤ 1048576) :
    Calls Try.prog 22 #[.agg cs.toArray, .int .i64 task] w fun e w' => ∃ v, e = .returned v ∧ (Kd.int .i64).R 3 w' w.heap.size (fun _ => True) v (kids s.tasks task) ∧ Below w.heap.size w w' := by
  obtain ⟨A0, c0, A1, c1, A3, c3, rfl, l0, g0, l1, g1, l3, g3⟩ := kSys_open hx
  have G := Aside0.mk g1
  clear g0 g1 g3 l0 l1 l3 hx
  go_enter Try.func22, Try.ntmps22
  by_cases hp : 0 ≤ task ∧ task < s.tasks.length
  · obtain ⟨m, rfl⟩ := Int.eq_ofNat_of_zero_le hp.1
    have hm : m < s.tasks.length := by omega
    have HP := Aside0.mk (show (decide (0 ≤ (m : Int)) && decide ((m : Int) < (s.tasks.length : Int))) = true by simp; omega)
    clear hp
    go_wp2_with (first | ((with_reducible refine gate_dst (N := 2) rfl ?_); refine box_event rfl (N := 2) rfl (cs := #[.slice A0 s.cells.length c0, .slice A1 s.tasks.length c1, .int .i64 s.clock, .slice A3 s.log.length c3]) (t := 33) (by first | (go_simp; done) | (go_simp; rfl)) ?_; intro g hg w2 hbox hb; have BK := Aside0.mk hbox; have HB := Aside0.mk hb; have GE := Aside0.mk (show w.heap.size ≤ g by omega); clear hbox hb hg; have hc := blk_cell BK.out) | (go_at_call 32; refine (isPlace_calls _ _ _).mono ?_; rw [HP.out]; rintro e w1 ⟨rfl, rfl⟩))
    go_loopw [5, 6] (fun v i w' => ∃ k : Nat, m + 1 ≤ k ∧ k ≤ s.tasks.length ∧ i = .int .i64 k ∧ Aside0 ((Kd.int .i64).R 3 w' w.heap.size (fun _ => True) v (pickTo (isKid s.tasks m) k)) ∧ Aside0 (w'.heap[g]? = some (.cells #[.slice A0 s.cells.length c0, .slice A1 s.tasks.length c1, .int .i64 s.clock, .slice A3 s.log.length c3] 33 (0, 0))) ∧ Aside0 (Below w.heap.size w w')) (fun _ i _ => s.tasks.length - (intOf i).toNat)
    case atStart => exact ⟨m + 1, Nat.le_refl _, hm, by go_num, ⟨by rw [pickTo_none (fun i hi => by unfold isKid; have : ¬ (m : Int) < (i : Int) := (by omega); simp [this])]; exact Kd.R_nil _ _ _ _ _⟩, BK, HB⟩
    case round =>
      clear BK HB hc
      obtain ⟨k, hmk, hk, rfl, HO, BK, HB⟩ := hrel
      have hlen := pickTo_length (isKid s.tasks m) k
      by_cases hlt : k < s.tasks.length
      ·   skip
          have BKc := blk_cell BK.out
          obtain ⟨b, o, cs, rfl, hcl, hK, hcc, hc0⟩ := C_field (Kd.C_below G.out HB.out) zTask k hlt (by decide)
          rw [show s.tasks.getD k zTask = taskAt s.tasks k from rfl] at hK
          obtain ⟨B3, d3, B8, d8, B9, d9, B10, d10, rfl, _, _, _, _, _, _, _, _⟩ := kTask_open hK
          have h_up := hcc 2 _ rfl
          simp only [show kTask.sz = 13 from rfl] at h_up
          clear hcc hc0 hK hcl
          have q0 : (0 : Int) ≤ (k : Int) := by omega
          have q1 : (k : Int) < (s.tasks.length : Int) := by omega
          by_cases hy : (taskAt s.tasks k).up = (m : Int)
          · have y1 : ((taskAt s.tasks k).up == (m : Int)) = true := by simp [hy]
            have HY := Aside0.mk (show isKid s.tasks m k = true by simp [isKid, hy]; omega)
            clear hy
            go_wp2_with (first | ((with_reducible refine gate_builtin (b := .append) (xs := #[.tmp 30, .tmp 32]) rfl ?_); at_builtin; refine Kd.R_append (Kd.int .i64) (w0 := w) w.heap.size rfl (.tmp 30) (.tmp 32) 39 3 (.int .i64 0) 8 rfl Try.underlying39 info_int rfl (by decide) (by omega) _ (pickTo (isKid s.tasks m) k) (k : Int) [.int .i64 (k : Int)] (fun _ => True) (fun _ => False) rfl rfl rfl (fun _ hk => hk.elim) (fun _ _ => trivial) HO.out HB.out (below_size HB.out) (by omega) ?_; intro v1 w1 ho hb hg _; have BK1 := Aside0.mk (blk_grown BK.out hg (Kd.R_ne HO.out BK.out (by decide))); have HO1 := Aside0.mk ho; have HB1 := Aside0.mk hb; clear ho hb hg HO HB BK))
            go_roundw
            case rel => exact ⟨k + 1, by omega, by omega, by go_num, ⟨by rw [pickTo_yes HY.out]; exact HO1.out⟩, BK1, HB1⟩
            case measure => simp [intOf]; omega
          · have y1 : ((taskAt s.tasks k).up == (m : Int)) = false := by simp [hy]
            have HY := Aside0.mk (show isKid s.tasks m k = false by simp [isKid, hy])
            clear hy
            go_wp2
            go_roundw
            case rel => exact ⟨k + 1, by omega, by omega, by go_num, ⟨by rw [pickTo_no HY.out]; exact HO.out⟩, BK, HB⟩
            case measure => simp [intOf]; omega
      · have BKc := blk_cell BK.out
        go_wp2
        go_ret
        obtain rfl : k = s.tasks.length := by omega
        exact ⟨_, rfl, HO.out, HB.out⟩
  · have HP := Aside0.mk (show (decide (0 ≤ task) && decide (task < (s.tasks.length : Int))) = false by simp; omega)
    have HN := Aside0.mk (kids_out hp)
    clear hp
    go_wp2_with (first | ((with_reducible refine gate_dst (N := 2) rfl ?_); refine box_event rfl (N := 2) rfl (cs := #[.slice A0 s.cells.length c0, .slice A1 s.tasks.length c1, .int .i64 s.clock, .slice A3 s.log.length c3]) (t := 33) (by first | (go_simp; done) | (go_simp; rfl)) ?_; intro g hg w2 hbox hb; have BK := Aside0.mk hbox; have HB := Aside0.mk hb; have GE := Aside0.mk (show w.heap.size ≤ g by omega); clear hbox hb hg; have hc := blk_cell BK.out) | (go_at_call 32; refine (isPlace_calls _ _ _).mono ?_; rw [HP.out]; rintro e w1 ⟨rfl, rfl⟩))
    go_ret
    exact ⟨_, rfl, by rw [HN.out]; exact Kd.R_nil _ _ _ _ _, HB.out⟩

def upOk (ts : List Task) (i : Nat) : Bool := !(decide (0 ≤ (taskAt ts i).up) && decide ((taskAt ts i).up < (ts.length : Int))) || decide ((taskAt ts (taskAt ts i).up.toNat).way = 1)
def treeOk (ts : List Task) : Bool := decide (∀ i, i < ts.length → isLive (taskAt ts i) = true → upOk ts i = true)
theorem mem_liveIn {ts : List Task} {x : Int} : x ∈ liveIn ts ↔ ∃ i : Nat, i < ts.length ∧ isLive (taskAt ts i) = true ∧ x = (i : Int) := by
  simp only [liveIn, pickTo, List.mem_map, List.mem_filter, List.mem_range]
  constructor
  · rintro ⟨i, ⟨h1, h2⟩, rfl⟩; exact ⟨i, h1, h2, rfl⟩
  · rintro ⟨i, h1, h2, rfl⟩; exact ⟨i, ⟨h1, h2⟩, rfl⟩
set_option maxHeartbeats 2000000 in
set_option maxRecDepth 100000 in
theorem implOk_calls (s : Sys) (cs : List Value) (w : World) (hx : kSys.K w s cs) (hn : s.tasks.length ≤ 1048576) :
    Calls Try.prog 14 #[.agg cs.toArray] w fun e w' => e = .returned (.bool (treeOk s.tasks)) ∧ Below w.heap.size w w' := by
  obtain ⟨A0, c0, A1, c1, A3, c3, rfl, l0, g0, l1, g1, l3, g3⟩ := kSys_open hx
  have G := Aside0.mk g1
  clear g0 g1 g3 l0 l1 l3 hx
  go_enter Try.func14, Try.ntmps14
  go_wp2_with ((with_reducible refine gate_dst (N := 1) rfl ?_); refine box_event rfl (N := 1) rfl (cs := #[.slice A0 s.cells.length c0, .slice A1 s.tasks.length c1, .int .i64 s.clock, .slice A3 s.log.length c3]) (t := 33) (by first | (go_simp; done) | (go_simp; rfl)) ?_; intro g hg w2 hbox hb; have BK := Aside0.mk hbox; have HB := Aside0.mk hb; have GE := Aside0.mk (show w.heap.size ≤ g by omega); clear hbox hb hg; have hc := blk_cell BK.out)
  go_loopw [8] (fun i w' => ∃ k : Nat, k ≤ s.tasks.length ∧ i = .int .i64 k ∧ Aside0 (∀ j, j < k → isLive (taskAt s.tasks j) = true → upOk s.tasks j = true) ∧ Aside0 (w'.heap[g]? = some (.cells #[.slice A0 s.cells.length c0, .slice A1 s.tasks.length c1, .int .i64 s.clock, .slice A3 s.log.length c3] 33 (0, 0))) ∧ Aside0 (Below w.heap.size w w')) (fun i _ => s.tasks.length - (intOf i).toNat)
  case atStart => exact ⟨0, Nat.zero_le _, rfl, ⟨fun j hj => by omega⟩, BK, HB⟩
  case round =>
    clear BK HB hc
    obtain ⟨k, hk, rfl, HJ, BK, HB⟩ := hrel
    by_cases hlt : k < s.tasks.length
    ·   skip
        have BKc := blk_cell BK.out
        obtain ⟨b, o, cs, rfl, hcl, hK, hcc, hc0⟩ := C_field (Kd.C_below G.out HB.out) zTask k hlt (by decide)
        rw [show s.tasks.getD k zTask = taskAt s.tasks k from rfl] at hK
        have HK := Aside0.mk hK
        have HCC := Aside0.mk hcc
        have q0 : (0 : Int) ≤ (k : Int) := by omega
        have q1 : (k : Int) < (s.tasks.length : Int) := by omega
        clear hK hcc hc0
        obtain ⟨B3, d3, B8, d8, B9, d9, B10, d10, hcs, _, _, _, _, _, _, _, _⟩ := kTask_open HK.out
        have e2 : cs.toArray[2]? = some (.int .i64 (taskAt s.tasks k).up) := by rw [hcs]; rfl
        clear hcs
        have HE2 := Aside0.mk e2
        clear e2
        by_cases hy : isLive (taskAt s.tasks k) = true
        · have HY := Aside0.mk hy
          clear hy
          by_cases hu : 0 ≤ (taskAt s.tasks k).up ∧ (taskAt s.tasks k).up < (s.tasks.length : Int)
          · have HU := Aside0.mk (show (decide (0 ≤ (taskAt s.tasks k).up) && decide ((taskAt s.tasks k).up < (s.tasks.length : Int))) = true by simp; omega)
            obtain ⟨m, hm⟩ := Int.eq_ofNat_of_zero_le hu.1
            have hml : m < s.tasks.length := by omega
            obtain ⟨b', o', ds, he, hdl, hK2, hdd, _⟩ := C_field (Kd.C_below G.out HB.out) zTask m hml (by decide)
            cases he
            rw [show s.tasks.getD m zTask = taskAt s.tasks m from rfl] at hK2
            obtain ⟨B3, d3, B8, d8, B9, d9, B10, d10, rfl, _, _, _, _, _, _, _, _⟩ := kTask_open hK2
            have h_way := hdd 4 _ rfl
            simp only [show kTask.sz = 13 from rfl] at h_way
            have HWAY := Aside0.mk h_way
            have HM := Aside0.mk hm
            rw [hm] at HE2 HU
            have m0 : (0 : Int) ≤ (m : Int) := by omega
            have m1 : (m : Int) < (s.tasks.length : Int) := by omega
            clear hu h_way hdd hK2 hdl hm
            by_cases hw : (taskAt s.tasks m).way = 1
            · have y1 : ((taskAt s.tasks m).way != 1) = false := by simp [hw]
              have HX := Aside0.mk (show upOk s.tasks k = true by unfold upOk; rw [HM.out]; simp [hw])
              clear hw
              go_wp2_with (first | ((with_reducible refine gate_dst (N := 11) rfl ?_); refine wpList_load_mid rfl 52 (.tmp 10) rfl b (o + k * 13) rfl cs _ HCC.out Try.underlying52 rfl (by rw [hcl]; kernel_rfl) ?_) | ((with_reducible refine gate_dst (N := 4) rfl ?_); refine box_event rfl (N := 4) rfl (cs := zeroTask) (t := 52) (by first | (go_simp; done) | (go_simp; rfl)) ?_; intro g5 hg w2 hbox hb; have BK5 := Aside0.mk hbox; have G5 := Aside0.mk (show wr.heap.size ≤ g5 by omega); have HW := Aside0.mk hb; clear hbox hb hg) | ((with_reducible refine gate_store (t := 52) (p := 4) rfl ?_); refine store_block rfl rfl 52 (.tmp 4) (.tmp 11) rfl rfl rfl BK5.out (by rw [hcl]; rfl) (by rw [hcl]; kernel_rfl) (kTask.K_one HK.out) ?_; intro w3 hbox hg; have BT := Aside0.mk hbox; have HW3 := Aside0.mk (pw_below_grown HW.out _ HW.out.size hg (fun z hz => by cases hz; exact G5.out)); clear hbox hg BK5 HW) | ((with_reducible refine gate_dst (N := 12) rfl ?_); refine load_block rfl 52 (.tmp 4) rfl _ rfl BT.out Try.underlying52 rfl (by rw [hcl]; kernel_rfl) ?_) | (go_at_call 37; refine (live_calls _ _ _ (kTask.K_below HW3.out HK.out)).mono ?_; rw [HY.out]; rintro e w4 ⟨rfl, hb⟩; have HW4 := Aside0.mk (below_step HW3.out hb); have BT4 := Aside0.mk (blk_below BT.out hb); have BK1 := Aside0.mk (blk_below BK.out HW4.out); have HB1 := Aside0.mk (below_step HB.out HW4.out); have u2 := (blk_cell BT4.out 2).trans HE2.out; have w4c := (HW4.out.cell (World.block_lt_of_cell? _ _ HWAY.out)).trans HWAY.out; clear hb BK HB BKc; have BKd := blk_cell BK1.out) | (go_at_call 32; refine (isPlace_calls _ _ _).mono ?_; rw [HU.out]; rintro e w1 ⟨rfl, rfl⟩))
              go_roundw
              case rel => exact ⟨k + 1, by omega, by go_num, ⟨fun j hj hl => by rcases Nat.lt_or_ge j k with h | h; exact HJ.out j h hl; obtain rfl : j = k := (by omega); exact HX.out⟩, BK1, HB1⟩
              case measure => simp [intOf]; omega
            · have y1 : ((taskAt s.tasks m).way != 1) = true := by simp [hw]
              have HX := Aside0.mk (show upOk s.tasks k = false by unfold upOk; rw [HM.out]; simp [hw]; omega)
              clear hw
              go_wp2_with (first | ((with_reducible refine gate_dst (N := 11) rfl ?_); refine wpList_load_mid rfl 52 (.tmp 10) rfl b (o + k * 13) rfl cs _ HCC.out Try.underlying52 rfl (by rw [hcl]; kernel_rfl) ?_) | ((with_reducible refine gate_dst (N := 4) rfl ?_); refine box_event rfl (N := 4) rfl (cs := zeroTask) (t := 52) (by first | (go_simp; done) | (go_simp; rfl)) ?_; intro g5 hg w2 hbox hb; have BK5 := Aside0.mk hbox; have G5 := Aside0.mk (show wr.heap.size ≤ g5 by omega); have HW := Aside0.mk hb; clear hbox hb hg) | ((with_reducible refine gate_store (t := 52) (p := 4) rfl ?_); refine store_block rfl rfl 52 (.tmp 4) (.tmp 11) rfl rfl rfl BK5.out (by rw [hcl]; rfl) (by rw [hcl]; kernel_rfl) (kTask.K_one HK.out) ?_; intro w3 hbox hg; have BT := Aside0.mk hbox; have HW3 := Aside0.mk (pw_below_grown HW.out _ HW.out.size hg (fun z hz => by cases hz; exact G5.out)); clear hbox hg BK5 HW) | ((with_reducible refine gate_dst (N := 12) rfl ?_); refine load_block rfl 52 (.tmp 4) rfl _ rfl BT.out Try.underlying52 rfl (by rw [hcl]; kernel_rfl) ?_) | (go_at_call 37; refine (live_calls _ _ _ (kTask.K_below HW3.out HK.out)).mono ?_; rw [HY.out]; rintro e w4 ⟨rfl, hb⟩; have HW4 := Aside0.mk (below_step HW3.out hb); have BT4 := Aside0.mk (blk_below BT.out hb); have BK1 := Aside0.mk (blk_below BK.out HW4.out); have HB1 := Aside0.mk (below_step HB.out HW4.out); have u2 := (blk_cell BT4.out 2).trans HE2.out; have w4c := (HW4.out.cell (World.block_lt_of_cell? _ _ HWAY.out)).trans HWAY.out; clear hb BK HB BKc; have BKd := blk_cell BK1.out) | (go_at_call 32; refine (isPlace_calls _ _ _).mono ?_; rw [HU.out]; rintro e w1 ⟨rfl, rfl⟩))
              go_ret
              exact ⟨ret_bool (decide_eq_false (fun h => by have := h k hlt HY.out; rw [HX.out] at this; cases this)).symm, HB1.out⟩
          · have HU := Aside0.mk (show (decide (0 ≤ (taskAt s.tasks k).up) && decide ((taskAt s.tasks k).up < (s.tasks.length : Int))) = false by simp; omega)
            have HX := Aside0.mk (show upOk s.tasks k = true by unfold upOk; rw [HU.out]; rfl)
            clear hu
            go_wp2_with (first | ((with_reducible refine gate_dst (N := 11) rfl ?_); refine wpList_load_mid rfl 52 (.tmp 10) rfl b (o + k * 13) rfl cs _ HCC.out Try.underlying52 rfl (by rw [hcl]; kernel_rfl) ?_) | ((with_reducible refine gate_dst (N := 4) rfl ?_); refine box_event rfl (N := 4) rfl (cs := zeroTask) (t := 52) (by first | (go_simp; done) | (go_simp; rfl)) ?_; intro g5 hg w2 hbox hb; have BK5 := Aside0.mk hbox; have G5 := Aside0.mk (show wr.heap.size ≤ g5 by omega); have HW := Aside0.mk hb; clear hbox hb hg) | ((with_reducible refine gate_store (t := 52) (p := 4) rfl ?_); refine store_block rfl rfl 52 (.tmp 4) (.tmp 11) rfl rfl rfl BK5.out (by rw [hcl]; rfl) (by rw [hcl]; kernel_rfl) (kTask.K_one HK.out) ?_; intro w3 hbox hg; have BT := Aside0.mk hbox; have HW3 := Aside0.mk (pw_below_grown HW.out _ HW.out.size hg (fun z hz => by cases hz; exact G5.out)); clear hbox hg BK5 HW) | ((with_reducible refine gate_dst (N := 12) rfl ?_); refine load_block rfl 52 (.tmp 4) rfl _ rfl BT.out Try.underlying52 rfl (by rw [hcl]; kernel_rfl) ?_) | (go_at_call 37; refine (live_calls _ _ _ (kTask.K_below HW3.out HK.out)).mono ?_; rw [HY.out]; rintro e w4 ⟨rfl, hb⟩; have HW4 := Aside0.mk (below_step HW3.out hb); have BT4 := Aside0.mk (blk_below BT.out hb); have BK1 := Aside0.mk (blk_below BK.out HW4.out); have HB1 := Aside0.mk (below_step HB.out HW4.out); have u2 := (blk_cell BT4.out 2).trans HE2.out; clear hb BK HB BKc; have BKd := blk_cell BK1.out) | (go_at_call 32; refine (isPlace_calls _ _ _).mono ?_; rw [HU.out]; rintro e w1 ⟨rfl, rfl⟩))
            go_roundw
            case rel => exact ⟨k + 1, by omega, by go_num, ⟨fun j hj hl => by rcases Nat.lt_or_ge j k with h | h; exact HJ.out j h hl; obtain rfl : j = k := (by omega); exact HX.out⟩, BK1, HB1⟩
            case measure => simp [intOf]; omega
        · have HY := Aside0.mk (show isLive (taskAt s.tasks k) = false by simpa using hy)
          clear hy
          go_wp2_with (first | ((with_reducible refine gate_dst (N := 11) rfl ?_); refine wpList_load_mid rfl 52 (.tmp 10) rfl b (o + k * 13) rfl cs _ HCC.out Try.underlying52 rfl (by rw [hcl]; kernel_rfl) ?_) | ((with_reducible refine gate_dst (N := 4) rfl ?_); refine box_event rfl (N := 4) rfl (cs := zeroTask) (t := 52) (by first | (go_simp; done) | (go_simp; rfl)) ?_; intro g5 hg w2 hbox hb; have BK5 := Aside0.mk hbox; have G5 := Aside0.mk (show wr.heap.size ≤ g5 by omega); have HW := Aside0.mk hb; clear hbox hb hg) | ((with_reducible refine gate_store (t := 52) (p := 4) rfl ?_); refine store_block rfl rfl 52 (.tmp 4) (.tmp 11) rfl rfl rfl BK5.out (by rw [hcl]; rfl) (by rw [hcl]; kernel_rfl) (kTask.K_one HK.out) ?_; intro w3 hbox hg; have BT := Aside0.mk hbox; have HW3 := Aside0.mk (pw_below_grown HW.out _ HW.out.size hg (fun z hz => by cases hz; exact G5.out)); clear hbox hg BK5 HW) | ((with_reducible refine gate_dst (N := 12) rfl ?_); refine load_block rfl 52 (.tmp 4) rfl _ rfl BT.out Try.underlying52 rfl (by rw [hcl]; kernel_rfl) ?_) | (go_at_call 37; refine (live_calls _ _ _ (kTask.K_below HW3.out HK.out)).mono ?_; rw [HY.out]; rintro e w4 ⟨rfl, hb⟩; have HW4 := Aside0.mk (below_step HW3.out hb); have BT4 := Aside0.mk (blk_below BT.out hb); have BK1 := Aside0.mk (blk_below BK.out HW4.out); have HB1 := Aside0.mk (below_step HB.out HW4.out); clear hb BK HB BKc))
          go_roundw
          case rel => exact ⟨k + 1, by omega, by go_num, ⟨fun j hj hl => by rcases Nat.lt_or_ge j k with h | h; exact HJ.out j h hl; obtain rfl : j = k := (by omega); rw [HY.out] at hl; cases hl⟩, BK1, HB1⟩
          case measure => simp [intOf]; omega
    · have BKc := blk_cell BK.out
      go_wp2
      go_ret
      exact ⟨ret_bool (decide_eq_true (fun i hi => HJ.out i (by omega))).symm, HB.out⟩
end Go.Proofs.Ythkmchgglnhmaaa.Eq
