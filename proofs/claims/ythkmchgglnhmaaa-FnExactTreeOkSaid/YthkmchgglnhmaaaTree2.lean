import Derived.Test.YthkmchgglnhmaaaTree
/- The walks of TreeLive and TreeKids, of the program and of the reference. Printed by gen_tree.py (own). -/
namespace Go.Proofs.Ythkmchgglnhmaaa.Eq
open Go.RowKit Go.Proofs.YthkmchgglnhmaaaW.PrintWords Go.Proofs.YthkmchgglnhmaaaW.PrintLast Go.Proofs.YthkmchgglnhmaaaW.PrintMore
set_option linter.unusedVariables false
set_option linter.unusedSimpArgs false
set_option maxHeartbeats 2000000 in
set_option maxRecDepth 100000 in
theorem specLive_calls (s : Sys) (cs : List Value) (w : World) (hx : kSys.K w s cs) (hn : s.tasks.length ≤ 1048576) :
    Calls Try.prog 15 #[.agg cs.toArray] w fun e w' => ∃ v, e = .returned v ∧ (Kd.int .i64).R 3 w' w.heap.size (fun _ => True) v (liveIn s.tasks) ∧ Below w.heap.size w w' := by
  obtain ⟨A0, c0, A1, c1, A3, c3, rfl, l0, g0, l1, g1, l3, g3⟩ := kSys_open hx
  have G := Aside0.mk g1
  clear g0 g1 g3 l0 l1 l3 hx
  go_enter Try.func15, Try.ntmps15
  go_wp2_with (first | ((with_reducible refine gate_dst (N := 1) rfl ?_); refine box_event rfl (N := 1) rfl (cs := #[.slice A0 s.cells.length c0, .slice A1 s.tasks.length c1, .int .i64 s.clock, .slice A3 s.log.length c3]) (t := 33) (by first | (go_simp; done) | (go_simp; rfl)) ?_; intro g hg w2 hbox hb; have BK := Aside0.mk hbox; have HB := Aside0.mk hb; have GE := Aside0.mk (show w.heap.size ≤ g by omega); clear hbox hb hg; have hc := blk_cell BK.out) | ((with_reducible refine gate_dst (N := 5) rfl ?_); refine Kd.R_lit (w0 := w) (Kd.int .i64) w.heap.size 3 rfl (N := 5) rfl (xs := ([] : List Int)) (inner := []) (ok := fun _ => True) (okp := fun _ => True) (by first | (go_simp; done) | (go_simp; rfl)) (Reps.none _ _) (fun _ hk => hk) trivial HB.out (below_size HB.out) (by simp) ?_; intro v0 w3 ho hb hg _; have BK1 := Aside0.mk (blk_grown BK.out hg (by simp)); have HO1 := Aside0.mk ho; have HB1 := Aside0.mk hb; clear ho hb hg HB BK hc; have hc := blk_cell BK1.out))
  go_loopw [3, 4] (fun v i w' => ∃ k : Nat, k ≤ s.tasks.length ∧ i = .int .i64 k ∧ Aside0 ((Kd.int .i64).R 3 w' w.heap.size (fun _ => True) v (pickTo (fun i => isLive (taskAt s.tasks i)) k)) ∧ Aside0 (w'.heap[g]? = some (.cells #[.slice A0 s.cells.length c0, .slice A1 s.tasks.length c1, .int .i64 s.clock, .slice A3 s.log.length c3] 33 (0, 0))) ∧ Aside0 (Below w.heap.size w w')) (fun _ i _ => s.tasks.length - (intOf i).toNat)
  case atStart => exact ⟨0, Nat.zero_le _, rfl, HO1, BK1, HB1⟩
  case round =>
    clear HO1 BK1 HB1 hc
    obtain ⟨k, hk, rfl, HO, BK, HB⟩ := hrel
    have hlen := pickTo_length (fun i => isLive (taskAt s.tasks i)) k
    by_cases hlt : k < s.tasks.length
    ·   skip
        have BKc := blk_cell BK.out
        obtain ⟨b, o, cs, rfl, hcl, hK, hcc, hc0⟩ := C_field (Kd.C_below G.out HB.out) zTask k hlt (by decide)
        rw [show s.tasks.getD k zTask = taskAt s.tasks k from rfl] at hK
        obtain ⟨B3, d3, B8, d8, B9, d9, B10, d10, rfl, _, _, _, _, _, _, _, _⟩ := kTask_open hK
        have h_way := hcc 4 _ rfl
        simp only [show kTask.sz = 13 from rfl] at h_way
        clear hcc hc0 hK hcl
        have q0 : (0 : Int) ≤ (k : Int) := by omega
        have q1 : (k : Int) < (s.tasks.length : Int) := by omega
        by_cases hy : (taskAt s.tasks k).way = 0
        · have y0 : ((taskAt s.tasks k).way == 0) = true := by simp [hy]
          have HY := Aside0.mk (show isLive (taskAt s.tasks k) = true by simp [isLive, hy])
          clear hy
          go_wp2_with (first | ((with_reducible refine gate_builtin (b := .append) (xs := #[.tmp 29, .tmp 31]) rfl ?_); at_builtin; refine Kd.R_append (Kd.int .i64) (w0 := w) w.heap.size rfl (.tmp 29) (.tmp 31) 39 3 (.int .i64 0) 8 rfl Try.underlying39 info_int rfl (by decide) (by omega) _ (pickTo (fun i => isLive (taskAt s.tasks i)) k) (k : Int) [.int .i64 (k : Int)] (fun _ => True) (fun _ => False) rfl rfl rfl (fun _ hk => hk.elim) (fun _ _ => trivial) HO.out HB.out (below_size HB.out) (by omega) ?_; intro v1 w1 ho hb hg _; have BK1 := Aside0.mk (blk_grown BK.out hg (Kd.R_ne HO.out BK.out (by decide))); have HO1 := Aside0.mk ho; have HB1 := Aside0.mk hb; clear ho hb hg HO HB BK))
          go_roundw
          case rel => exact ⟨k + 1, by omega, by go_num, ⟨by rw [pickTo_yes (HY.out)]; exact HO1.out⟩, BK1, HB1⟩
          case measure => simp [intOf]; omega

        · have y0 : ((taskAt s.tasks k).way == 0) = false := by simp [hy]
          by_cases hz : (taskAt s.tasks k).way = 1
          · have y1 : ((taskAt s.tasks k).way == 1) = true := by simp [hz]
            have HY := Aside0.mk (show isLive (taskAt s.tasks k) = true by simp [isLive, hz])
            clear hy hz
            go_wp2_with (first | ((with_reducible refine gate_builtin (b := .append) (xs := #[.tmp 29, .tmp 31]) rfl ?_); at_builtin; refine Kd.R_append (Kd.int .i64) (w0 := w) w.heap.size rfl (.tmp 29) (.tmp 31) 39 3 (.int .i64 0) 8 rfl Try.underlying39 info_int rfl (by decide) (by omega) _ (pickTo (fun i => isLive (taskAt s.tasks i)) k) (k : Int) [.int .i64 (k : Int)] (fun _ => True) (fun _ => False) rfl rfl rfl (fun _ hk => hk.elim) (fun _ _ => trivial) HO.out HB.out (below_size HB.out) (by omega) ?_; intro v1 w1 ho hb hg _; have BK1 := Aside0.mk (blk_grown BK.out hg (Kd.R_ne HO.out BK.out (by decide))); have HO1 := Aside0.mk ho; have HB1 := Aside0.mk hb; clear ho hb hg HO HB BK))
            go_roundw
            case rel => exact ⟨k + 1, by omega, by go_num, ⟨by rw [pickTo_yes (HY.out)]; exact HO1.out⟩, BK1, HB1⟩
            case measure => simp [intOf]; omega

          · have y1 : ((taskAt s.tasks k).way == 1) = false := by simp [hz]
            have HY := Aside0.mk (show isLive (taskAt s.tasks k) = false by simp [isLive, hy, hz])
            clear hy hz
            go_wp2
            go_roundw
            case rel => exact ⟨k + 1, by omega, by go_num, ⟨by rw [pickTo_no (HY.out)]; exact HO.out⟩, BK, HB⟩
            case measure => simp [intOf]; omega

    · have BKc := blk_cell BK.out
      go_wp2
      go_ret
      obtain rfl : k = s.tasks.length := by omega
      exact ⟨_, rfl, HO.out, HB.out⟩
set_option maxHeartbeats 2000000 in
set_option maxRecDepth 100000 in
theorem specKids_calls (s : Sys) (cs : List Value) (task : Int) (w : World) (hx : kSys.K w s cs) (hn : s.tasks.length ≤ 1048576) :
    Calls Try.prog 21 #[.agg cs.toArray, .int .i64 task] w fun e w' => ∃ v, e = .returned v ∧ (Kd.int .i64).R 3 w' w.heap.size (fun _ => True) v (kids s.tasks task) ∧ Below w.heap.size w w' := by
  obtain ⟨A0, c0, A1, c1, A3, c3, rfl, l0, g0, l1, g1, l3, g3⟩ := kSys_open hx
  have G := Aside0.mk g1
  clear g0 g1 g3 l0 l1 l3 hx
  go_enter Try.func21, Try.ntmps21
  go_wp2_with (first | ((with_reducible refine gate_dst (N := 2) rfl ?_); refine box_event rfl (N := 2) rfl (cs := #[.slice A0 s.cells.length c0, .slice A1 s.tasks.length c1, .int .i64 s.clock, .slice A3 s.log.length c3]) (t := 33) (by first | (go_simp; done) | (go_simp; rfl)) ?_; intro g hg w2 hbox hb; have BK := Aside0.mk hbox; have HB := Aside0.mk hb; have GE := Aside0.mk (show w.heap.size ≤ g by omega); clear hbox hb hg; have hc := blk_cell BK.out) | ((with_reducible refine gate_dst (N := 7) rfl ?_); refine Kd.R_lit (w0 := w) (Kd.int .i64) w.heap.size 3 rfl (N := 7) rfl (xs := ([] : List Int)) (inner := []) (ok := fun _ => True) (okp := fun _ => True) (by first | (go_simp; done) | (go_simp; rfl)) (Reps.none _ _) (fun _ hk => hk) trivial HB.out (below_size HB.out) (by simp) ?_; intro v0 w3 ho hb hg _; have BK1 := Aside0.mk (blk_grown BK.out hg (by simp)); have HO1 := Aside0.mk ho; have HB1 := Aside0.mk hb; clear ho hb hg HB BK hc; have hc := blk_cell BK1.out))
  go_loopw [5, 6] (fun v i w' => ∃ k : Nat, k ≤ s.tasks.length ∧ i = .int .i64 k ∧ Aside0 ((Kd.int .i64).R 3 w' w.heap.size (fun _ => True) v (pickTo (isKid s.tasks task) k)) ∧ Aside0 (w'.heap[g]? = some (.cells #[.slice A0 s.cells.length c0, .slice A1 s.tasks.length c1, .int .i64 s.clock, .slice A3 s.log.length c3] 33 (0, 0))) ∧ Aside0 (Below w.heap.size w w')) (fun _ i _ => s.tasks.length - (intOf i).toNat)
  case atStart => exact ⟨0, Nat.zero_le _, rfl, HO1, BK1, HB1⟩
  case round =>
    clear HO1 BK1 HB1 hc
    obtain ⟨k, hk, rfl, HO, BK, HB⟩ := hrel
    have hlen := pickTo_length (isKid s.tasks task) k
    by_cases hlt : k < s.tasks.length
    ·   skip
        have BKc := blk_cell BK.out
        obtain ⟨b, o, cs, rfl, hcl, hK, hcc, hc0⟩ := C_field (Kd.C_below G.out HB.out) zTask k hlt (by decide)
        rw [show s.tasks.getD k zTask = taskAt s.tasks k from rfl] at hK
        obtain ⟨B3, d3, B8, d8, B9, d9, B10, d10, rfl, _, _, _, _, _, _, _, _⟩ := kTask_open hK
        have h_up := hcc 2 _ rfl
        simp only [show kTask.sz = 13 from rfl] at h_up
        clear hcc hc0 hK hcl
        have q0 : (0 : Int) ≤ (k : Int) := by omega
        have q1 : (k : Int) < (s.tasks.length : Int) := by omega
        by_cases h0 : 0 ≤ task
        · have y0 : decide (0 ≤ task) = true := decide_eq_true h0
          by_cases hy : (taskAt s.tasks k).up = task
          · have y1 : ((taskAt s.tasks k).up == task) = true := by simp [hy]
            have HU := Aside0.mk hy
            clear hy
            by_cases hz : task < (k : Int)
            · have y2 : decide (task < (k : Int)) = true := decide_eq_true hz
              have HY := Aside0.mk (show isKid s.tasks task k = true by simp [isKid, HU.out, h0, hz])
              go_wp2_with (first | ((with_reducible refine gate_builtin (b := .append) (xs := #[.tmp 32, .tmp 34]) rfl ?_); at_builtin; refine Kd.R_append (Kd.int .i64) (w0 := w) w.heap.size rfl (.tmp 32) (.tmp 34) 39 3 (.int .i64 0) 8 rfl Try.underlying39 info_int rfl (by decide) (by omega) _ (pickTo (isKid s.tasks task) k) (k : Int) [.int .i64 (k : Int)] (fun _ => True) (fun _ => False) rfl rfl rfl (fun _ hk => hk.elim) (fun _ _ => trivial) HO.out HB.out (below_size HB.out) (by omega) ?_; intro v1 w1 ho hb hg _; have BK1 := Aside0.mk (blk_grown BK.out hg (Kd.R_ne HO.out BK.out (by decide))); have HO1 := Aside0.mk ho; have HB1 := Aside0.mk hb; clear ho hb hg HO HB BK))
              go_roundw
              case rel => exact ⟨k + 1, by omega, by go_num, ⟨by rw [pickTo_yes (HY.out)]; exact HO1.out⟩, BK1, HB1⟩
              case measure => simp [intOf]; omega

            · have y2 : decide (task < (k : Int)) = false := decide_eq_false hz
              have HY := Aside0.mk (show isKid s.tasks task k = false by simp [isKid, hz])
              go_wp2
              go_roundw
              case rel => exact ⟨k + 1, by omega, by go_num, ⟨by rw [pickTo_no (HY.out)]; exact HO.out⟩, BK, HB⟩
              case measure => simp [intOf]; omega

          · have y1 : ((taskAt s.tasks k).up == task) = false := by simp [hy]
            have HY := Aside0.mk (show isKid s.tasks task k = false by simp [isKid, hy])
            clear hy
            go_wp2
            go_roundw
            case rel => exact ⟨k + 1, by omega, by go_num, ⟨by rw [pickTo_no (HY.out)]; exact HO.out⟩, BK, HB⟩
            case measure => simp [intOf]; omega

        · have y0 : decide (0 ≤ task) = false := decide_eq_false h0
          have HY := Aside0.mk (show isKid s.tasks task k = false by simp [isKid, h0])
          go_wp2
          go_roundw
          case rel => exact ⟨k + 1, by omega, by go_num, ⟨by rw [pickTo_no (HY.out)]; exact HO.out⟩, BK, HB⟩
          case measure => simp [intOf]; omega

    · have BKc := blk_cell BK.out
      go_wp2
      go_ret
      obtain rfl : k = s.tasks.length := by omega
      exact ⟨_, rfl, HO.out, HB.out⟩
def zeroTask : Array Value := #[.int .i64 0, .int .i64 0, .int .i64 0, .slice none 0 0, .int .i64 0, .int .i64 0, .int .i64 0, .int .i64 0, .slice none 0 0, .slice none 0 0, .slice none 0 0, .int .i64 0, .int .i64 0]
set_option maxHeartbeats 2000000 in
set_option maxRecDepth 100000 in
theorem implLive_calls (s : Sys) (cs : List Value) (w : World) (hx : kSys.K w s cs) (hn : s.tasks.length ≤ 1048576) :
    Calls Try.prog 16 #[.agg cs.toArray] w fun e w' => ∃ v, e = .returned v ∧ (Kd.int .i64).R 3 w' w.heap.size (fun _ => True) v (liveIn s.tasks) ∧ Below w.heap.size w w' := by
  obtain ⟨A0, c0, A1, c1, A3, c3, rfl, l0, g0, l1, g1, l3, g3⟩ := kSys_open hx
  have G := Aside0.mk g1
  clear g0 g1 g3 l0 l1 l3 hx
  go_enter Try.func16, Try.ntmps16
  go_wp2_with ((with_reducible refine gate_dst (N := 1) rfl ?_); refine box_event rfl (N := 1) rfl (cs := #[.slice A0 s.cells.length c0, .slice A1 s.tasks.length c1, .int .i64 s.clock, .slice A3 s.log.length c3]) (t := 33) (by first | (go_simp; done) | (go_simp; rfl)) ?_; intro g hg w2 hbox hb; have BK := Aside0.mk hbox; have HB := Aside0.mk hb; have GE := Aside0.mk (show w.heap.size ≤ g by omega); clear hbox hb hg; have hc := blk_cell BK.out)
  go_loopw [3, 9] (fun v i w' => ∃ k : Nat, k ≤ s.tasks.length ∧ i = .int .i64 k ∧ Aside0 ((Kd.int .i64).R 3 w' w.heap.size (fun _ => True) v (pickTo (fun i => isLive (taskAt s.tasks i)) k)) ∧ Aside0 (w'.heap[g]? = some (.cells #[.slice A0 s.cells.length c0, .slice A1 s.tasks.length c1, .int .i64 s.clock, .slice A3 s.log.length c3] 33 (0, 0))) ∧ Aside0 (Below w.heap.size w w')) (fun _ i _ => s.tasks.length - (intOf i).toNat)
  case atStart => exact ⟨0, Nat.zero_le _, rfl, ⟨Kd.R_nil _ _ _ _ _⟩, BK, HB⟩
  case round =>
    clear BK HB hc
    obtain ⟨k, hk, rfl, HO, BK, HB⟩ := hrel
    have hlen := pickTo_length (fun i => isLive (taskAt s.tasks i)) k
    by_cases hlt : k < s.tasks.length
    ·   skip
        have BKc := blk_cell BK.out
        obtain ⟨b, o, cs, rfl, hcl, hK, hcc, hc0⟩ := C_field (Kd.C_below G.out HB.out) zTask k hlt (by decide)
        rw [show s.tasks.getD k zTask = taskAt s.tasks k from rfl] at hK
        have HK := Aside0.mk hK
        have HCC := Aside0.mk hcc
        have q0 : (0 : Int) ≤ (k : Int) := by omega
        have q1 : (k : Int) < (s.tasks.length : Int) := by omega
        clear hK hcc hc0
        by_cases hy : isLive (taskAt s.tasks k) = true
        · have HY := Aside0.mk hy
          clear hy
          go_wp2_with (first | ((with_reducible refine gate_dst (N := 13) rfl ?_); refine wpList_load_mid rfl 52 (.tmp 12) rfl b (o + k * 13) rfl cs _ HCC.out Try.underlying52 rfl (by rw [hcl]; kernel_rfl) ?_) | ((with_reducible refine gate_dst (N := 5) rfl ?_); refine box_event rfl (N := 5) rfl (cs := zeroTask) (t := 52) (by first | (go_simp; done) | (go_simp; rfl)) ?_; intro g5 hg w2 hbox hb; have BK5 := Aside0.mk hbox; have G5 := Aside0.mk (show wr.heap.size ≤ g5 by omega); have HW := Aside0.mk hb; clear hbox hb hg) | ((with_reducible refine gate_store (t := 52) (p := 5) rfl ?_); refine store_block rfl rfl 52 (.tmp 5) (.tmp 13) rfl rfl rfl BK5.out (by rw [hcl]; rfl) (by rw [hcl]; kernel_rfl) (kTask.K_one HK.out) ?_; intro w3 hbox hg; have BT := Aside0.mk hbox; have HW3 := Aside0.mk (pw_below_grown HW.out _ HW.out.size hg (fun z hz => by cases hz; exact G5.out)); clear hbox hg BK5 HW) | ((with_reducible refine gate_dst (N := 14) rfl ?_); refine load_block rfl 52 (.tmp 5) rfl _ rfl BT.out Try.underlying52 rfl (by rw [hcl]; kernel_rfl) ?_) | (go_at_call 37; refine (live_calls _ _ _ (kTask.K_below HW3.out HK.out)).mono ?_; rw [HY.out]; rintro e w4 ⟨rfl, hb⟩; have HW4 := Aside0.mk (below_step HW3.out hb); have HO1 := Aside0.mk (Kd.R_below HO.out HW4.out); have BK1 := Aside0.mk (blk_below BK.out HW4.out); have HB1 := Aside0.mk (below_step HB.out HW4.out); clear hb HO BK HB; have HO := HO1; have BK := BK1; have HB := HB1; clear HO1 BK1 HB1 BKc) | ((with_reducible refine gate_builtin (b := .append) (xs := #[.tmp 16, .tmp 18]) rfl ?_); at_builtin; refine Kd.R_append (Kd.int .i64) (w0 := w) w.heap.size rfl (.tmp 16) (.tmp 18) 39 3 (.int .i64 0) 8 rfl Try.underlying39 info_int rfl (by decide) (by omega) _ (pickTo (fun i => isLive (taskAt s.tasks i)) k) (k : Int) [.int .i64 (k : Int)] (fun _ => True) (fun _ => False) rfl rfl rfl (fun _ hk => hk.elim) (fun _ _ => trivial) HO.out HB.out (below_size HB.out) (by omega) ?_; intro v1 w1 ho hb hg _; have BK1 := Aside0.mk (blk_grown BK.out hg (Kd.R_ne HO.out BK.out (by decide))); have HO1 := Aside0.mk ho; have HB1 := Aside0.mk hb; clear ho hb hg HO HB BK))
          go_roundw
          case rel => exact ⟨k + 1, by omega, by go_num, ⟨by rw [pickTo_yes (HY.out)]; exact HO1.out⟩, BK1, HB1⟩
          case measure => simp [intOf]; omega

        · have HY := Aside0.mk (show isLive (taskAt s.tasks k) = false by simpa using hy)
          clear hy
          go_wp2_with (first | ((with_reducible refine gate_dst (N := 13) rfl ?_); refine wpList_load_mid rfl 52 (.tmp 12) rfl b (o + k * 13) rfl cs _ HCC.out Try.underlying52 rfl (by rw [hcl]; kernel_rfl) ?_) | ((with_reducible refine gate_dst (N := 5) rfl ?_); refine box_event rfl (N := 5) rfl (cs := zeroTask) (t := 52) (by first | (go_simp; done) | (go_simp; rfl)) ?_; intro g5 hg w2 hbox hb; have BK5 := Aside0.mk hbox; have G5 := Aside0.mk (show wr.heap.size ≤ g5 by omega); have HW := Aside0.mk hb; clear hbox hb hg) | ((with_reducible refine gate_store (t := 52) (p := 5) rfl ?_); refine store_block rfl rfl 52 (.tmp 5) (.tmp 13) rfl rfl rfl BK5.out (by rw [hcl]; rfl) (by rw [hcl]; kernel_rfl) (kTask.K_one HK.out) ?_; intro w3 hbox hg; have BT := Aside0.mk hbox; have HW3 := Aside0.mk (pw_below_grown HW.out _ HW.out.size hg (fun z hz => by cases hz; exact G5.out)); clear hbox hg BK5 HW) | ((with_reducible refine gate_dst (N := 14) rfl ?_); refine load_block rfl 52 (.tmp 5) rfl _ rfl BT.out Try.underlying52 rfl (by rw [hcl]; kernel_rfl) ?_) | (go_at_call 37; refine (live_calls _ _ _ (kTask.K_below HW3.out HK.out)).mono ?_; rw [HY.out]; rintro e w4 ⟨rfl, hb⟩; have HW4 := Aside0.mk (below_step HW3.out hb); have HO1 := Aside0.mk (Kd.R_below HO.out HW4.out); have BK1 := Aside0.mk (blk_below BK.out HW4.out); have HB1 := Aside0.mk (below_step HB.out HW4.out); clear hb HO BK HB; have HO := HO1; have BK := BK1; have HB := HB1; clear HO1 BK1 HB1 BKc))
          go_roundw
          case rel => exact ⟨k + 1, by omega, by go_num, ⟨by rw [pickTo_no (HY.out)]; exact HO.out⟩, BK, HB⟩
          case measure => simp [intOf]; omega

    · have BKc := blk_cell BK.out
      go_wp2
      go_ret
      obtain rfl : k = s.tasks.length := by omega
      exact ⟨_, rfl, HO.out, HB.out⟩
end Go.Proofs.Ythkmchgglnhmaaa.Eq
