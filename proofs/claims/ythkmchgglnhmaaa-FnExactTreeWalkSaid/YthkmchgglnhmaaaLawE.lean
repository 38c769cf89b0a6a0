import Derived.Test.YthkmchgglnhmaaaMark2
import Derived.Test.YthkmchgglnhmaaaEq
import Derived.Test.YthkmchgglnhmaaaWalk
/- The walks of the exact laws of the trees. Printed by gen_law_e.py (own). -/
namespace Go.Proofs.Ythkmchgglnhmaaa.Eq
open Go.RowKit Go.Proofs.YthkmchgglnhmaaaW.PrintWords Go.Proofs.YthkmchgglnhmaaaW.PrintLast Go.Proofs.YthkmchgglnhmaaaW.PrintMore
set_option linter.unusedVariables false
set_option linter.unusedSimpArgs false
set_option maxHeartbeats 8000000 in
set_option maxRecDepth 100000 in
theorem exactOk_calls (s : Sys) (cs : List Value) (w : World) (hx : kSysL.K w s cs) :
    Calls Try.prog 4 #[.agg cs.toArray] w fun e w' => e = .returned (.bool true) ∧ Below w.heap.size w w' := by
  obtain ⟨A0, c0, A1, c1, A3, c3, rfl, l0, g0, l1, g1, l3, g3⟩ := kSysL_open hx
  have G := Aside0.mk (And.intro g0 (And.intro g1 g3))
  clear g0 g1 g3 hx
  go_enter Try.func4, Try.ntmps4
  by_cases hsz : szS s ≤ 1048576
  · have hn : s.tasks.length ≤ 1048576 := by unfold szS at hsz; omega
    go_wp2_with (first
      | ((with_reducible refine gate_dst (N := 1) rfl ?_); refine box_event rfl (N := 1) rfl (cs := #[.slice A0 s.cells.length c0, .slice A1 s.tasks.length c1, .int .i64 s.clock, .slice A3 s.log.length c3]) (t := 26) (by first | (go_simp; done) | (go_simp; rfl)) ?_; intro g hg w2 hbox hb; have BK := Aside0.mk hbox; have HB := Aside0.mk hb; clear hbox hb hg; have BKc := blk_cell BK.out)
      | (go_at_call 8; refine (szSys_calls s _ _ _ (kSysL_mk s l0 (Kd.C_below G.out.1 HB.out) l1 (Kd.C_below G.out.2.1 HB.out) l3 (Kd.C_below G.out.2.2 HB.out)) (by omega) (by omega)).mono ?_; rintro e w1 ⟨r, rfl, hs, hb⟩; have HSZ := Aside0.mk hs; have hr := HSZ.out; unfold Sz at hr; have HB1 := Aside0.mk (below_step HB.out hb); have BK1 := Aside0.mk (blk_below BK.out hb); clear hs hb HB BK BKc; have HB := HB1; have BK := BK1; clear HB1 BK1; have BKc := blk_cell BK.out; have hr2 : 0 ≤ r := (by omega); clear hr))
    go_wp2_with fail
    refine (toSys_calls s _ _ (kSysL_mk s l0 (Kd.C_below G.out.1 HB.out) l1 (Kd.C_below G.out.2.1 HB.out) l3 (Kd.C_below G.out.2.2 HB.out)) hsz).mono ?_
    rintro e w1 ⟨ds1, rfl, hm, hb⟩
    have HM1 := Aside0.mk hm
    clear hm
    have N1 := Aside0.mk (blk_below BK.out hb)
    clear BK
    have BK := N1
    clear N1
    clear BKc
    have BKc := blk_cell BK.out
    have N1 := Aside0.mk (below_step HB.out hb)
    clear HB
    have HB := N1
    clear N1
    clear hb
    go_wp2_with fail
    refine (specOk_calls s _ _ (kSys.K_of_M HM1.out) hn).mono ?_
    rintro e w1 ⟨rfl, hb⟩
    clear HM1
    have N1 := Aside0.mk (blk_below BK.out hb)
    clear BK
    have BK := N1
    clear N1
    clear BKc
    have BKc := blk_cell BK.out
    have N1 := Aside0.mk (below_step HB.out hb)
    clear HB
    have HB := N1
    clear N1
    clear hb
    go_wp2_with fail
    refine (toSys_calls s _ _ (kSysL_mk s l0 (Kd.C_below G.out.1 HB.out) l1 (Kd.C_below G.out.2.1 HB.out) l3 (Kd.C_below G.out.2.2 HB.out)) hsz).mono ?_
    rintro e w1 ⟨ds2, rfl, hm, hb⟩
    have HM2 := Aside0.mk hm
    clear hm
    have N1 := Aside0.mk (blk_below BK.out hb)
    clear BK
    have BK := N1
    clear N1
    clear BKc
    have BKc := blk_cell BK.out
    have N1 := Aside0.mk (below_step HB.out hb)
    clear HB
    have HB := N1
    clear N1
    clear hb
    obtain ⟨v0, v1, v3, hds, m0, m1, m3⟩ := kSys_openM HM2.out
    obtain ⟨X0, d0, rfl⟩ := Kd.R_slice m0
    obtain ⟨X1, d1, rfl⟩ := Kd.R_slice m1
    obtain ⟨X3, d3, rfl⟩ := Kd.R_slice m3
    subst hds
    clear m0 m1 m3
    have HX := Aside0.mk (kSys.K_of_M HM2.out)
    clear HM2
    go_wp2_with (first
      | ((with_reducible refine gate_dst (N := 5) rfl ?_); refine box_event rfl (N := 5) rfl (cs := #[.slice none 0 0, .slice none 0 0, .int .i64 0, .slice none 0 0]) (t := 33) (by first | (go_simp; done) | (go_simp; rfl)) ?_; intro g7 hg w2 hbox hb; have BK6 := Aside0.mk hbox; have HW := Aside0.mk hb; have G7 := Aside0.mk hg; clear hbox hb hg)
      | ((with_reducible refine gate_store (t := 33) (p := 5) rfl ?_); refine store_block (cs := [.slice X0 s.cells.length d0, .slice X1 s.tasks.length d1, .int .i64 s.clock, .slice X3 s.log.length d3]) rfl rfl 33 (.tmp 5) (.tmp 16) rfl rfl rfl BK6.out rfl (by kernel_rfl) (fun v hv => by simp only [List.mem_cons, List.not_mem_nil, or_false] at hv; rcases hv with rfl | rfl | rfl | rfl <;> rfl) ?_; intro w3 hbox hg; have BK7 := Aside0.mk hbox; have HW1 := Aside0.mk (pw_below_grown HW.out _ HW.out.size hg (fun z hz => by cases hz; exact Nat.le_of_eq G7.out.symm)); clear hbox hg BK6 HW; have BK1 := Aside0.mk (blk_below BK.out HW1.out); clear BK; have BK := BK1; clear BK1; have HB1 := Aside0.mk (below_step HB.out HW1.out); clear HB; have HB := HB1; clear HB1; have HX1 := Aside0.mk (kSys.K_below HW1.out HX.out); clear HX; have HX := HX1; clear HX1; clear BKc; have BKc := blk_cell BK.out; have BK7c := blk_cell BK7.out))

    refine (implOk_calls s _ _ HX.out hn).mono ?_
    rintro e wz ⟨rfl, hb⟩
    have N1 := Aside0.mk (blk_below BK.out hb)
    clear BK
    have BK := N1
    clear N1
    clear BKc
    have BKc := blk_cell BK.out
    have N1 := Aside0.mk (below_step HB.out hb)
    clear HB
    have HB := N1
    clear N1
    have N1 := Aside0.mk (blk_below BK7.out hb)
    clear BK7
    have BK7 := N1
    clear N1
    clear BK7c
    have BK7c := blk_cell BK7.out
    have N1 := Aside0.mk (kSys.K_below hb HX.out)
    clear HX
    have HX := N1
    clear N1
    clear hb
    have yb : ((treeOk s.tasks) != (treeOk s.tasks)) = false := by simp
    go_wp2_with fail
    clear yb
    refine start_ (n := 5) (S := fun W => W.heap[g7]? = some (.cells #[.slice X0 s.cells.length d0, .slice X1 s.tasks.length d1, .int .i64 s.clock, .slice X3 s.log.length d3] 33 (0, 0)) ∧ W.heap[g]? = some (.cells #[.slice A0 s.cells.length c0, .slice A1 s.tasks.length c1, .int .i64 s.clock, .slice A3 s.log.length c3] 26 (0, 0))) (ds := []) #[false, false, false, false, false] (by kernel_rfl) rfl rfl ⟨blk_drew BK7.out, blk_drew BK.out⟩ (fun hHeld => ?_)
    have hb := below_drew (Below.refl wz.heap.size wz)
    generalize wz.drew = w9 at hb hHeld ⊢
    have N1 := Aside0.mk (blk_below BK.out hb)
    clear BK
    have BK := N1
    clear N1
    clear BKc
    have BKc := blk_cell BK.out
    have N1 := Aside0.mk (below_step HB.out hb)
    clear HB
    have HB := N1
    clear N1
    have N1 := Aside0.mk (blk_below BK7.out hb)
    clear BK7
    have BK7 := N1
    clear N1
    clear BK7c
    have BK7c := blk_cell BK7.out
    have N1 := Aside0.mk (kSys.K_below hb HX.out)
    clear HX
    have HX := N1
    clear N1
    clear hb
    refine take_ (i := 0) (N := some 22) (v := ?_) (a' := ?_) #[true, false, false, false, false] rfl rfl (by kernel_rfl) (fun _ _ _ h => h) (Or.inl ⟨by rfl, ?_⟩) hHeld ?_ ?_
    rotate_left
    · rintro W ⟨s0, s1⟩
      have t0 := blk_cell s0
      have t1 := blk_cell s1
      clear s0 s1
      go_simp
      with_reducible rfl
    rotate_left
    · simp only [Act.put, List.setIfInBounds_toArray, List.set_cons_zero, List.set_cons_succ, i64_w, i32_w]
      rfl
    refine take_ (i := 1) (N := some 23) (v := ?_) (a' := ?_) #[true, true, false, false, false] rfl rfl (by kernel_rfl) (fun _ _ _ h => h) (Or.inl ⟨by rfl, ?_⟩) hHeld ?_ ?_
    rotate_left
    · rintro W ⟨s0, s1⟩
      have t0 := blk_cell s0
      have t1 := blk_cell s1
      clear s0 s1
      go_simp
      with_reducible rfl
    rotate_left
    · simp only [Act.put, List.setIfInBounds_toArray, List.set_cons_zero, List.set_cons_succ, i64_w, i32_w]
      rfl
    refine one_ (i := 2) (N := some 24) #[true, true, true, false, false] rfl rfl (by kernel_rfl) (by decide) (fun K hK => ?_)
    refine goes_ Try.func10 (by kernel_rfl) rfl #[.agg #[.slice A0 s.cells.length c0, .slice A1 s.tasks.length c1, .int .i64 s.clock, .slice A3 s.log.length c3]] (by rfl) rfl rfl (by (try simp only [List.map_toArray, List.map_cons, List.map_nil]); first | done | rfl) ?_
    refine (toSys_calls s _ _ (kSysL_mk s l0 (Kd.C_below G.out.1 HB.out) l1 (Kd.C_below G.out.2.1 HB.out) l3 (Kd.C_below G.out.2.2 HB.out)) hsz).mono ?_
    rintro e w1 ⟨ds3, rfl, hm, hb⟩
    refine ⟨_, rfl, ?_⟩
    have HM3 := Aside0.mk hm
    clear hm
    have N1 := Aside0.mk (blk_below BK.out hb)
    clear BK
    have BK := N1
    clear N1
    clear BKc
    have BKc := blk_cell BK.out
    have N1 := Aside0.mk (below_step HB.out hb)
    clear HB
    have HB := N1
    clear N1
    have N1 := Aside0.mk (blk_below BK7.out hb)
    clear BK7
    have BK7 := N1
    clear N1
    clear BK7c
    have BK7c := blk_cell BK7.out
    have N1 := Aside0.mk (kSys.K_below hb HX.out)
    clear HX
    have HX := N1
    clear N1
    clear hb
    refine hK.out _ _ ⟨BK7.out, BK.out⟩ (fun hHeld => ?_)
    clear hK K
    refine norm_ (a' := ?_) ?_ ?_
    rotate_left
    · show Act.put _ (some 24) _ = _
      simp only [Act.put, List.setIfInBounds_toArray, List.set_cons_zero, List.set_cons_succ, i64_w, i32_w]
      rfl
    refine one_ (i := 3) (N := some 25) #[true, true, true, true, false] rfl rfl (by kernel_rfl) (by decide) (fun K hK => ?_)
    refine goes_ Try.func12 (by kernel_rfl) rfl #[.agg #[.slice X0 s.cells.length d0, .slice X1 s.tasks.length d1, .int .i64 s.clock, .slice X3 s.log.length d3], .agg ds3.toArray] (by rfl) rfl rfl (by (try simp only [List.map_toArray, List.map_cons, List.map_nil]); first | done | rfl) ?_
    refine (eqSys_calls s s _ ds3 _ HX.out (kSys.K_of_M HM3.out)).mono ?_
    rw [decide_eq_true (Eq.refl s)]
    rintro e w1 ⟨rfl, hb⟩
    refine ⟨_, rfl, ?_⟩
    have N1 := Aside0.mk (blk_below BK.out hb)
    clear BK
    have BK := N1
    clear N1
    clear BKc
    have BKc := blk_cell BK.out
    have N1 := Aside0.mk (below_step HB.out hb)
    clear HB
    have HB := N1
    clear N1
    have N1 := Aside0.mk (blk_below BK7.out hb)
    clear BK7
    have BK7 := N1
    clear N1
    clear BK7c
    have BK7c := blk_cell BK7.out
    have N1 := Aside0.mk (kSys.K_below hb HX.out)
    clear HX
    have HX := N1
    clear N1
    clear hb
    refine hK.out _ _ ⟨BK7.out, BK.out⟩ (fun hHeld => ?_)
    clear hK K
    refine norm_ (a' := ?_) ?_ ?_
    rotate_left
    · show Act.put _ (some 25) _ = _
      simp only [Act.put, List.setIfInBounds_toArray, List.set_cons_zero, List.set_cons_succ, i64_w, i32_w]
      rfl
    refine pure_ (i := 4) (N := some 26) (v := ?_) (a' := ?_) #[true, true, true, true, true] rfl rfl (by kernel_rfl) (fun _ _ _ h => h) (Or.inl ⟨by rfl, ?_⟩) ?_ ?_
    rotate_left
    · intro W
      go_simp
      with_reducible rfl
    rotate_left
    · simp only [Act.put, List.setIfInBounds_toArray, List.set_cons_zero, List.set_cons_succ, i64_w, i32_w]
      rfl
    refine done_ (by kernel_rfl) ?_
    go_wp2_with fail
    go_ret
    exact ⟨rfl, HB.out⟩
  · have hsz2 : (1048576 : Int) < (szS s : Int) := by omega
    go_wp2_with (first
      | ((with_reducible refine gate_dst (N := 1) rfl ?_); refine box_event rfl (N := 1) rfl (cs := #[.slice A0 s.cells.length c0, .slice A1 s.tasks.length c1, .int .i64 s.clock, .slice A3 s.log.length c3]) (t := 26) (by first | (go_simp; done) | (go_simp; rfl)) ?_; intro g hg w2 hbox hb; have BK := Aside0.mk hbox; have HB := Aside0.mk hb; clear hbox hb hg; have BKc := blk_cell BK.out)
      | (go_at_call 8; refine (szSys_calls s _ _ _ (kSysL_mk s l0 (Kd.C_below G.out.1 HB.out) l1 (Kd.C_below G.out.2.1 HB.out) l3 (Kd.C_below G.out.2.2 HB.out)) (by omega) (by omega)).mono ?_; rintro e w1 ⟨r, rfl, hs, hb⟩; have HSZ := Aside0.mk hs; have hr := HSZ.out; unfold Sz at hr; have HB1 := Aside0.mk (below_step HB.out hb); have BK1 := Aside0.mk (blk_below BK.out hb); clear hs hb HB BK BKc; have HB := HB1; have BK := BK1; clear HB1 BK1; have BKc := blk_cell BK.out; have hr2 : r < 0 := (by omega); clear hr))
    go_ret
    exact ⟨rfl, HB.out⟩
set_option maxHeartbeats 8000000 in
set_option maxRecDepth 100000 in
theorem exactUnder_calls (s : Sys) (cs : List Value) (task up : Int) (w : World) (hx : kSysL.K w s cs) :
    Calls Try.prog 3 #[.agg cs.toArray, .int .i64 task, .int .i64 up] w fun e w' => e = .returned (.bool true) ∧ Below w.heap.size w w' := by
  obtain ⟨A0, c0, A1, c1, A3, c3, rfl, l0, g0, l1, g1, l3, g3⟩ := kSysL_open hx
  have G := Aside0.mk (And.intro g0 (And.intro g1 g3))
  clear g0 g1 g3 hx
  go_enter Try.func3, Try.ntmps3
  by_cases hsz : szS s ≤ 1048576
  · have hn : s.tasks.length ≤ 1048576 := by unfold szS at hsz; omega
    go_wp2_with (first
      | ((with_reducible refine gate_dst (N := 3) rfl ?_); refine box_event rfl (N := 3) rfl (cs := #[.slice A0 s.cells.length c0, .slice A1 s.tasks.length c1, .int .i64 s.clock, .slice A3 s.log.length c3]) (t := 26) (by first | (go_simp; done) | (go_simp; rfl)) ?_; intro g hg w2 hbox hb; have BK := Aside0.mk hbox; have HB := Aside0.mk hb; clear hbox hb hg; have BKc := blk_cell BK.out)
      | (go_at_call 8; refine (szSys_calls s _ _ _ (kSysL_mk s l0 (Kd.C_below G.out.1 HB.out) l1 (Kd.C_below G.out.2.1 HB.out) l3 (Kd.C_below G.out.2.2 HB.out)) (by omega) (by omega)).mono ?_; rintro e w1 ⟨r, rfl, hs, hb⟩; have HSZ := Aside0.mk hs; have hr := HSZ.out; unfold Sz at hr; have HB1 := Aside0.mk (below_step HB.out hb); have BK1 := Aside0.mk (blk_below BK.out hb); clear hs hb HB BK BKc; have HB := HB1; have BK := BK1; clear HB1 BK1; have BKc := blk_cell BK.out; have hr2 : 0 ≤ r := (by omega); clear hr))
    go_wp2_with fail
    refine (toSys_calls s _ _ (kSysL_mk s l0 (Kd.C_below G.out.1 HB.out) l1 (Kd.C_below G.out.2.1 HB.out) l3 (Kd.C_below G.out.2.2 HB.out)) hsz).mono ?_
    rintro e w1 ⟨ds1, rfl, hm, hb⟩
    have HM1 := Aside0.mk hm
    clear hm
    have N1 := Aside0.mk (blk_below BK.out hb)
    clear BK
    have BK := N1
    clear N1
    clear BKc
    have BKc := blk_cell BK.out
    have N1 := Aside0.mk (below_step HB.out hb)
    clear HB
    have HB := N1
    clear N1
    clear hb
    go_wp2_with fail
    refine (specUnder_calls s _ task up _ (kSys.K_of_M HM1.out) hn).mono ?_
    rintro e w1 ⟨rfl, hb⟩
    clear HM1
    have N1 := Aside0.mk (blk_below BK.out hb)
    clear BK
    have BK := N1
    clear N1
    clear BKc
    have BKc := blk_cell BK.out
    have N1 := Aside0.mk (below_step HB.out hb)
    clear HB
    have HB := N1
    clear N1
    clear hb
    go_wp2_with fail
    refine (toSys_calls s _ _ (kSysL_mk s l0 (Kd.C_below G.out.1 HB.out) l1 (Kd.C_below G.out.2.1 HB.out) l3 (Kd.C_below G.out.2.2 HB.out)) hsz).mono ?_
    rintro e w1 ⟨ds2, rfl, hm, hb⟩
    have HM2 := Aside0.mk hm
    clear hm
    have N1 := Aside0.mk (blk_below BK.out hb)
    clear BK
    have BK := N1
    clear N1
    clear BKc
    have BKc := blk_cell BK.out
    have N1 := Aside0.mk (below_step HB.out hb)
    clear HB
    have HB := N1
    clear N1
    clear hb
    obtain ⟨v0, v1, v3, hds, m0, m1, m3⟩ := kSys_openM HM2.out
    obtain ⟨X0, d0, rfl⟩ := Kd.R_slice m0
    obtain ⟨X1, d1, rfl⟩ := Kd.R_slice m1
    obtain ⟨X3, d3, rfl⟩ := Kd.R_slice m3
    subst hds
    clear m0 m1 m3
    have HX := Aside0.mk (kSys.K_of_M HM2.out)
    clear HM2
    go_wp2_with (first
      | ((with_reducible refine gate_dst (N := 9) rfl ?_); refine box_event rfl (N := 9) rfl (cs := #[.slice none 0 0, .slice none 0 0, .int .i64 0, .slice none 0 0]) (t := 33) (by first | (go_simp; done) | (go_simp; rfl)) ?_; intro g7 hg w2 hbox hb; have BK6 := Aside0.mk hbox; have HW := Aside0.mk hb; have G7 := Aside0.mk hg; clear hbox hb hg)
      | ((with_reducible refine gate_store (t := 33) (p := 9) rfl ?_); refine store_block (cs := [.slice X0 s.cells.length d0, .slice X1 s.tasks.length d1, .int .i64 s.clock, .slice X3 s.log.length d3]) rfl rfl 33 (.tmp 9) (.tmp 22) rfl rfl rfl BK6.out rfl (by kernel_rfl) (fun v hv => by simp only [List.mem_cons, List.not_mem_nil, or_false] at hv; rcases hv with rfl | rfl | rfl | rfl <;> rfl) ?_; intro w3 hbox hg; have BK7 := Aside0.mk hbox; have HW1 := Aside0.mk (pw_below_grown HW.out _ HW.out.size hg (fun z hz => by cases hz; exact Nat.le_of_eq G7.out.symm)); clear hbox hg BK6 HW; have BK1 := Aside0.mk (blk_below BK.out HW1.out); clear BK; have BK := BK1; clear BK1; have HB1 := Aside0.mk (below_step HB.out HW1.out); clear HB; have HB := HB1; clear HB1; have HX1 := Aside0.mk (kSys.K_below HW1.out HX.out); clear HX; have HX := HX1; clear HX1; clear BKc; have BKc := blk_cell BK.out; have BK7c := blk_cell BK7.out))

    refine (implUnder_calls s _ task up _ HX.out hn).mono ?_
    rintro e wz ⟨rfl, hb⟩
    have N1 := Aside0.mk (blk_below BK.out hb)
    clear BK
    have BK := N1
    clear N1
    clear BKc
    have BKc := blk_cell BK.out
    have N1 := Aside0.mk (below_step HB.out hb)
    clear HB
    have HB := N1
    clear N1
    have N1 := Aside0.mk (blk_below BK7.out hb)
    clear BK7
    have BK7 := N1
    clear N1
    clear BK7c
    have BK7c := blk_cell BK7.out
    have N1 := Aside0.mk (kSys.K_below hb HX.out)
    clear HX
    have HX := N1
    clear N1
    clear hb
    have yb : ((underOf s.tasks task up) != (underOf s.tasks task up)) = false := by simp
    go_wp2_with fail
    clear yb
    refine start_ (n := 5) (S := fun W => W.heap[g7]? = some (.cells #[.slice X0 s.cells.length d0, .slice X1 s.tasks.length d1, .int .i64 s.clock, .slice X3 s.log.length d3] 33 (0, 0)) ∧ W.heap[g]? = some (.cells #[.slice A0 s.cells.length c0, .slice A1 s.tasks.length c1, .int .i64 s.clock, .slice A3 s.log.length c3] 26 (0, 0))) (ds := []) #[false, false, false, false, false] (by kernel_rfl) rfl rfl ⟨blk_drew BK7.out, blk_drew BK.out⟩ (fun hHeld => ?_)
    have hb := below_drew (Below.refl wz.heap.size wz)
    generalize wz.drew = w9 at hb hHeld ⊢
    have N1 := Aside0.mk (blk_below BK.out hb)
    clear BK
    have BK := N1
    clear N1
    clear BKc
    have BKc := blk_cell BK.out
    have N1 := Aside0.mk (below_step HB.out hb)
    clear HB
    have HB := N1
    clear N1
    have N1 := Aside0.mk (blk_below BK7.out hb)
    clear BK7
    have BK7 := N1
    clear N1
    clear BK7c
    have BK7c := blk_cell BK7.out
    have N1 := Aside0.mk (kSys.K_below hb HX.out)
    clear HX
    have HX := N1
    clear N1
    clear hb
    refine take_ (i := 0) (N := some 30) (v := ?_) (a' := ?_) #[true, false, false, false, false] rfl rfl (by kernel_rfl) (fun _ _ _ h => h) (Or.inl ⟨by rfl, ?_⟩) hHeld ?_ ?_
    rotate_left
    · rintro W ⟨s0, s1⟩
      have t0 := blk_cell s0
      have t1 := blk_cell s1
      clear s0 s1
      go_simp
      with_reducible rfl
    rotate_left
    · simp only [Act.put, List.setIfInBounds_toArray, List.set_cons_zero, List.set_cons_succ, i64_w, i32_w]
      rfl
    refine take_ (i := 1) (N := some 31) (v := ?_) (a' := ?_) #[true, true, false, false, false] rfl rfl (by kernel_rfl) (fun _ _ _ h => h) (Or.inl ⟨by rfl, ?_⟩) hHeld ?_ ?_
    rotate_left
    · rintro W ⟨s0, s1⟩
      have t0 := blk_cell s0
      have t1 := blk_cell s1
      clear s0 s1
      go_simp
      with_reducible rfl
    rotate_left
    · simp only [Act.put, List.setIfInBounds_toArray, List.set_cons_zero, List.set_cons_succ, i64_w, i32_w]
      rfl
    refine one_ (i := 2) (N := some 32) #[true, true, true, false, false] rfl rfl (by kernel_rfl) (by decide) (fun K hK => ?_)
    refine goes_ Try.func10 (by kernel_rfl) rfl #[.agg #[.slice A0 s.cells.length c0, .slice A1 s.tasks.length c1, .int .i64 s.clock, .slice A3 s.log.length c3]] (by rfl) rfl rfl (by (try simp only [List.map_toArray, List.map_cons, List.map_nil]); first | done | rfl) ?_
    refine (toSys_calls s _ _ (kSysL_mk s l0 (Kd.C_below G.out.1 HB.out) l1 (Kd.C_below G.out.2.1 HB.out) l3 (Kd.C_below G.out.2.2 HB.out)) hsz).mono ?_
    rintro e w1 ⟨ds3, rfl, hm, hb⟩
    refine ⟨_, rfl, ?_⟩
    have HM3 := Aside0.mk hm
    clear hm
    have N1 := Aside0.mk (blk_below BK.out hb)
    clear BK
    have BK := N1
    clear N1
    clear BKc
    have BKc := blk_cell BK.out
    have N1 := Aside0.mk (below_step HB.out hb)
    clear HB
    have HB := N1
    clear N1
    have N1 := Aside0.mk (blk_below BK7.out hb)
    clear BK7
    have BK7 := N1
    clear N1
    clear BK7c
    have BK7c := blk_cell BK7.out
    have N1 := Aside0.mk (kSys.K_below hb HX.out)
    clear HX
    have HX := N1
    clear N1
    clear hb
    refine hK.out _ _ ⟨BK7.out, BK.out⟩ (fun hHeld => ?_)
    clear hK K
    refine norm_ (a' := ?_) ?_ ?_
    rotate_left
    · show Act.put _ (some 32) _ = _
      simp only [Act.put, List.setIfInBounds_toArray, List.set_cons_zero, List.set_cons_succ, i64_w, i32_w]
      rfl
    refine one_ (i := 3) (N := some 33) #[true, true, true, true, false] rfl rfl (by kernel_rfl) (by decide) (fun K hK => ?_)
    refine goes_ Try.func12 (by kernel_rfl) rfl #[.agg #[.slice X0 s.cells.length d0, .slice X1 s.tasks.length d1, .int .i64 s.clock, .slice X3 s.log.length d3], .agg ds3.toArray] (by rfl) rfl rfl (by (try simp only [List.map_toArray, List.map_cons, List.map_nil]); first | done | rfl) ?_
    refine (eqSys_calls s s _ ds3 _ HX.out (kSys.K_of_M HM3.out)).mono ?_
    rw [decide_eq_true (Eq.refl s)]
    rintro e w1 ⟨rfl, hb⟩
    refine ⟨_, rfl, ?_⟩
    have N1 := Aside0.mk (blk_below BK.out hb)
    clear BK
    have BK := N1
    clear N1
    clear BKc
    have BKc := blk_cell BK.out
    have N1 := Aside0.mk (below_step HB.out hb)
    clear HB
    have HB := N1
    clear N1
    have N1 := Aside0.mk (blk_below BK7.out hb)
    clear BK7
    have BK7 := N1
    clear N1
    clear BK7c
    have BK7c := blk_cell BK7.out
    have N1 := Aside0.mk (kSys.K_below hb HX.out)
    clear HX
    have HX := N1
    clear N1
    clear hb
    refine hK.out _ _ ⟨BK7.out, BK.out⟩ (fun hHeld => ?_)
    clear hK K
    refine norm_ (a' := ?_) ?_ ?_
    rotate_left
    · show Act.put _ (some 33) _ = _
      simp only [Act.put, List.setIfInBounds_toArray, List.set_cons_zero, List.set_cons_succ, i64_w, i32_w]
      rfl
    refine pure_ (i := 4) (N := some 34) (v := ?_) (a' := ?_) #[true, true, true, true, true] rfl rfl (by kernel_rfl) (fun _ _ _ h => h) (Or.inl ⟨by rfl, ?_⟩) ?_ ?_
    rotate_left
    · intro W
      go_simp
      with_reducible rfl
    rotate_left
    · simp only [Act.put, List.setIfInBounds_toArray, List.set_cons_zero, List.set_cons_succ, i64_w, i32_w]
      rfl
    refine done_ (by kernel_rfl) ?_
    go_wp2_with fail
    go_ret
    exact ⟨rfl, HB.out⟩
  · have hsz2 : (1048576 : Int) < (szS s : Int) := by omega
    go_wp2_with (first
      | ((with_reducible refine gate_dst (N := 3) rfl ?_); refine box_event rfl (N := 3) rfl (cs := #[.slice A0 s.cells.length c0, .slice A1 s.tasks.length c1, .int .i64 s.clock, .slice A3 s.log.length c3]) (t := 26) (by first | (go_simp; done) | (go_simp; rfl)) ?_; intro g hg w2 hbox hb; have BK := Aside0.mk hbox; have HB := Aside0.mk hb; clear hbox hb hg; have BKc := blk_cell BK.out)
      | (go_at_call 8; refine (szSys_calls s _ _ _ (kSysL_mk s l0 (Kd.C_below G.out.1 HB.out) l1 (Kd.C_below G.out.2.1 HB.out) l3 (Kd.C_below G.out.2.2 HB.out)) (by omega) (by omega)).mono ?_; rintro e w1 ⟨r, rfl, hs, hb⟩; have HSZ := Aside0.mk hs; have hr := HSZ.out; unfold Sz at hr; have HB1 := Aside0.mk (below_step HB.out hb); have BK1 := Aside0.mk (blk_below BK.out hb); clear hs hb HB BK BKc; have HB := HB1; have BK := BK1; clear HB1 BK1; have BKc := blk_cell BK.out; have hr2 : r < 0 := (by omega); clear hr))
    go_ret
    exact ⟨rfl, HB.out⟩
set_option maxHeartbeats 8000000 in
set_option maxRecDepth 100000 in
theorem exactLive_calls (s : Sys) (cs : List Value) (w : World) (hx : kSysL.K w s cs) :
    Calls Try.prog 5 #[.agg cs.toArray] w fun e w' => e = .returned (.bool true) ∧ Below w.heap.size w w' := by
  obtain ⟨A0, c0, A1, c1, A3, c3, rfl, l0, g0, l1, g1, l3, g3⟩ := kSysL_open hx
  have G := Aside0.mk (And.intro g0 (And.intro g1 g3))
  clear g0 g1 g3 hx
  go_enter Try.func5, Try.ntmps5
  by_cases hsz : szS s ≤ 1048576
  · have hn : s.tasks.length ≤ 1048576 := by unfold szS at hsz; omega
    have hL : (liveIn s.tasks).length ≤ 1048576 := Nat.le_trans (pickTo_length _ _) hn
    go_wp2_with (first
      | ((with_reducible refine gate_dst (N := 1) rfl ?_); refine box_event rfl (N := 1) rfl (cs := #[.slice A0 s.cells.length c0, .slice A1 s.tasks.length c1, .int .i64 s.clock, .slice A3 s.log.length c3]) (t := 26) (by first | (go_simp; done) | (go_simp; rfl)) ?_; intro g hg w2 hbox hb; have BK := Aside0.mk hbox; have HB := Aside0.mk hb; clear hbox hb hg; have BKc := blk_cell BK.out)
      | (go_at_call 8; refine (szSys_calls s _ _ _ (kSysL_mk s l0 (Kd.C_below G.out.1 HB.out) l1 (Kd.C_below G.out.2.1 HB.out) l3 (Kd.C_below G.out.2.2 HB.out)) (by omega) (by omega)).mono ?_; rintro e w1 ⟨r, rfl, hs, hb⟩; have HSZ := Aside0.mk hs; have hr := HSZ.out; unfold Sz at hr; have HB1 := Aside0.mk (below_step HB.out hb); have BK1 := Aside0.mk (blk_below BK.out hb); clear hs hb HB BK BKc; have HB := HB1; have BK := BK1; clear HB1 BK1; have BKc := blk_cell BK.out; have hr2 : 0 ≤ r := (by omega); clear hr))
    go_wp2_with fail
    refine (toSys_calls s _ _ (kSysL_mk s l0 (Kd.C_below G.out.1 HB.out) l1 (Kd.C_below G.out.2.1 HB.out) l3 (Kd.C_below G.out.2.2 HB.out)) hsz).mono ?_
    rintro e w1 ⟨ds1, rfl, hm, hb⟩
    have HM1 := Aside0.mk hm
    clear hm
    have N1 := Aside0.mk (blk_below BK.out hb)
    clear BK
    have BK := N1
    clear N1
    clear BKc
    have BKc := blk_cell BK.out
    have N1 := Aside0.mk (below_step HB.out hb)
    clear HB
    have HB := N1
    clear N1
    clear hb
    go_wp2_with fail
    refine (specLive_calls s _ _ (kSys.K_of_M HM1.out) hn).mono ?_
    rintro e wa ⟨v6, rfl, ho, hb⟩
    obtain ⟨L0, e0, rfl⟩ := Kd.R_slice ho
    have HW0 := Aside0.mk (Kd.R_mono (Kd.R_bound ho) (ok' := fun k => k < wa.heap.size) (fun _ hk => hk.2.2.1))
    clear HM1 ho
    have N1 := Aside0.mk (blk_below BK.out hb)
    clear BK
    have BK := N1
    clear N1
    clear BKc
    have BKc := blk_cell BK.out
    have N1 := Aside0.mk (below_step HB.out hb)
    clear HB
    have HB := N1
    clear N1
    clear hb
    have HSA := Aside0.mk HB.out.size
    have HGA := Aside0.mk (blk_lt BK.out)
    go_wp2_with fail
    refine (toSys_calls s _ _ (kSysL_mk s l0 (Kd.C_below G.out.1 HB.out) l1 (Kd.C_below G.out.2.1 HB.out) l3 (Kd.C_below G.out.2.2 HB.out)) hsz).mono ?_
    rintro e wb ⟨ds2, rfl, hm, hb⟩
    have HABX := Aside0.mk hb.size
    have HM2 := Aside0.mk (show kSys.M wb wa.heap.size (fun k => wa.heap.size ≤ k ∧ k < wb.heap.size) s ds2 from kSys.M_mono (fun _ hk => ⟨hk.2.1, hk.2.2.1⟩) (kSys.M_bound hm))
    clear hm
    have N1 := Aside0.mk (blk_below BK.out hb)
    clear BK
    have BK := N1
    clear N1
    clear BKc
    have BKc := blk_cell BK.out
    have N1 := Aside0.mk (below_step HB.out hb)
    clear HB
    have HB := N1
    clear N1
    have N1 := Aside0.mk (Kd.R_below HW0.out hb)
    clear HW0
    have HW0 := N1
    clear N1
    clear hb
    obtain ⟨v0, v1, v3, hds, m0, m1, m3⟩ := kSys_openM HM2.out
    obtain ⟨X0, d0, rfl⟩ := Kd.R_slice m0
    obtain ⟨X1, d1, rfl⟩ := Kd.R_slice m1
    obtain ⟨X3, d3, rfl⟩ := Kd.R_slice m3
    subst hds
    clear m0 m1 m3
    have HX := HM2
    clear HM2
    have HAB := Aside0.mk (show wa.heap.size ≤ wb.heap.size from HABX.out)
    go_wp2_with (first
      | ((with_reducible refine gate_dst (N := 5) rfl ?_); refine box_event rfl (N := 5) rfl (cs := #[.slice none 0 0, .slice none 0 0, .int .i64 0, .slice none 0 0]) (t := 33) (by first | (go_simp; done) | (go_simp; rfl)) ?_; intro g7 hg w2 hbox hb; have BK6 := Aside0.mk hbox; have HW := Aside0.mk hb; have G7 := Aside0.mk hg; clear hbox hb hg)
      | ((with_reducible refine gate_store (t := 33) (p := 5) rfl ?_); refine store_block (cs := [.slice X0 s.cells.length d0, .slice X1 s.tasks.length d1, .int .i64 s.clock, .slice X3 s.log.length d3]) rfl rfl 33 (.tmp 5) (.tmp 20) rfl rfl rfl BK6.out rfl (by kernel_rfl) (fun v hv => by simp only [List.mem_cons, List.not_mem_nil, or_false] at hv; rcases hv with rfl | rfl | rfl | rfl <;> rfl) ?_; intro w3 hbox hg; have BK7 := Aside0.mk hbox; have HW1 := Aside0.mk (pw_below_grown HW.out _ HW.out.size hg (fun z hz => by cases hz; exact Nat.le_of_eq G7.out.symm)); clear hbox hg BK6 HW; have BK1 := Aside0.mk (blk_below BK.out HW1.out); clear BK; have BK := BK1; clear BK1; have HB1 := Aside0.mk (below_step HB.out HW1.out); clear HB; have HB := HB1; clear HB1; have HW01 := Aside0.mk (Kd.R_below HW0.out HW1.out); clear HW0; have HW0 := HW01; clear HW01; have HX1 := Aside0.mk (Kd.M_below HX.out HW1.out); clear HX; have HX := HX1; clear HX1; clear BKc; have BKc := blk_cell BK.out; have BK7c := blk_cell BK7.out))
    have hs3 : wb.heap.size ≤ w3.heap.size := HW1.out.size
    refine (implLive_calls s _ _ (kSys.K_of_M HX.out) hn).mono ?_
    rintro e wz ⟨v8, rfl, ho, hb⟩
    obtain ⟨G0, e8, rfl⟩ := Kd.R_slice ho
    have hsb : w.heap.size ≤ w3.heap.size := HB.out.size
    have HG := Aside0.mk (Kd.R_lower (base' := w.heap.size) (Kd.R_mono (Kd.R_bound ho) (ok' := fun k => wb.heap.size ≤ k) (fun _ hk => Nat.le_trans hs3 hk.2.1)) hsb)
    clear ho hs3 hsb
    have N1 := Aside0.mk (blk_below BK.out hb)
    clear BK
    have BK := N1
    clear N1
    clear BKc
    have BKc := blk_cell BK.out
    have N1 := Aside0.mk (below_step HB.out hb)
    clear HB
    have HB := N1
    clear N1
    have N1 := Aside0.mk (Kd.R_below HW0.out hb)
    clear HW0
    have HW0 := N1
    clear N1
    have N1 := Aside0.mk (blk_below BK7.out hb)
    clear BK7
    have BK7 := N1
    clear N1
    clear BK7c
    have BK7c := blk_cell BK7.out
    have N1 := Aside0.mk (Kd.M_below HX.out hb)
    clear HX
    have HX := N1
    clear N1
    clear hb
    go_wp2_with fail
    refine (eqIntS_calls _ _ _ _ _ _ _ (Kd.R_reads' HG.out).2.2 (Kd.R_reads' HW0.out).2.2).mono ?_
    rw [decide_eq_true (Eq.refl (liveIn s.tasks))]
    rintro e wz ⟨rfl, hd⟩
    have hb := hd.below
    clear hd
    have N1 := Aside0.mk (blk_below BK.out hb)
    clear BK
    have BK := N1
    clear N1
    clear BKc
    have BKc := blk_cell BK.out
    have N1 := Aside0.mk (below_step HB.out hb)
    clear HB
    have HB := N1
    clear N1
    have N1 := Aside0.mk (Kd.R_below HW0.out hb)
    clear HW0
    have HW0 := N1
    clear N1
    have N1 := Aside0.mk (blk_below BK7.out hb)
    clear BK7
    have BK7 := N1
    clear N1
    clear BK7c
    have BK7c := blk_cell BK7.out
    have N1 := Aside0.mk (Kd.M_below HX.out hb)
    clear HX
    have HX := N1
    clear N1
    have N1 := Aside0.mk (Kd.R_below HG.out hb)
    clear HG
    have HG := N1
    clear N1
    clear hb
    go_wp2_with fail
    refine start_ (n := 5) (S := fun W => W.heap[g7]? = some (.cells #[.slice X0 s.cells.length d0, .slice X1 s.tasks.length d1, .int .i64 s.clock, .slice X3 s.log.length d3] 33 (0, 0)) ∧ W.heap[g]? = some (.cells #[.slice A0 s.cells.length c0, .slice A1 s.tasks.length c1, .int .i64 s.clock, .slice A3 s.log.length c3] 26 (0, 0))) (ds := []) #[false, false, false, false, false] (by kernel_rfl) rfl rfl ⟨blk_drew BK7.out, blk_drew BK.out⟩ (fun hHeld => ?_)
    have hb := below_drew (Below.refl wz.heap.size wz)
    generalize wz.drew = w9 at hb hHeld ⊢
    have N1 := Aside0.mk (blk_below BK.out hb)
    clear BK
    have BK := N1
    clear N1
    clear BKc
    have BKc := blk_cell BK.out
    have N1 := Aside0.mk (below_step HB.out hb)
    clear HB
    have HB := N1
    clear N1
    have N1 := Aside0.mk (Kd.R_below HW0.out hb)
    clear HW0
    have HW0 := N1
    clear N1
    have N1 := Aside0.mk (blk_below BK7.out hb)
    clear BK7
    have BK7 := N1
    clear N1
    clear BK7c
    have BK7c := blk_cell BK7.out
    have N1 := Aside0.mk (Kd.M_below HX.out hb)
    clear HX
    have HX := N1
    clear N1
    have N1 := Aside0.mk (Kd.R_below HG.out hb)
    clear HG
    have HG := N1
    clear N1
    clear hb
    refine take_ (i := 0) (N := some 27) (v := ?_) (a' := ?_) #[true, false, false, false, false] rfl rfl (by kernel_rfl) (fun _ _ _ h => h) (Or.inl ⟨by rfl, ?_⟩) hHeld ?_ ?_
    rotate_left
    · rintro W ⟨s0, s1⟩
      have t0 := blk_cell s0
      have t1 := blk_cell s1
      clear s0 s1
      go_simp
      with_reducible rfl
    rotate_left
    · simp only [Act.put, List.setIfInBounds_toArray, List.set_cons_zero, List.set_cons_succ, i64_w, i32_w]
      rfl
    refine take_ (i := 1) (N := some 28) (v := ?_) (a' := ?_) #[true, true, false, false, false] rfl rfl (by kernel_rfl) (fun _ _ _ h => h) (Or.inl ⟨by rfl, ?_⟩) hHeld ?_ ?_
    rotate_left
    · rintro W ⟨s0, s1⟩
      have t0 := blk_cell s0
      have t1 := blk_cell s1
      clear s0 s1
      go_simp
      with_reducible rfl
    rotate_left
    · simp only [Act.put, List.setIfInBounds_toArray, List.set_cons_zero, List.set_cons_succ, i64_w, i32_w]
      rfl
    refine one_ (i := 2) (N := some 29) #[true, true, true, false, false] rfl rfl (by kernel_rfl) (by decide) (fun K hK => ?_)
    refine goes_ Try.func10 (by kernel_rfl) rfl #[.agg #[.slice A0 s.cells.length c0, .slice A1 s.tasks.length c1, .int .i64 s.clock, .slice A3 s.log.length c3]] (by rfl) rfl rfl (by (try simp only [List.map_toArray, List.map_cons, List.map_nil]); first | done | rfl) ?_
    refine (toSys_calls s _ _ (kSysL_mk s l0 (Kd.C_below G.out.1 HB.out) l1 (Kd.C_below G.out.2.1 HB.out) l3 (Kd.C_below G.out.2.2 HB.out)) hsz).mono ?_
    rintro e w1 ⟨ds3, rfl, hm, hb⟩
    refine ⟨_, rfl, ?_⟩
    have HM3 := Aside0.mk hm
    clear hm
    have N1 := Aside0.mk (blk_below BK.out hb)
    clear BK
    have BK := N1
    clear N1
    clear BKc
    have BKc := blk_cell BK.out
    have N1 := Aside0.mk (below_step HB.out hb)
    clear HB
    have HB := N1
    clear N1
    have N1 := Aside0.mk (Kd.R_below HW0.out hb)
    clear HW0
    have HW0 := N1
    clear N1
    have N1 := Aside0.mk (blk_below BK7.out hb)
    clear BK7
    have BK7 := N1
    clear N1
    clear BK7c
    have BK7c := blk_cell BK7.out
    have N1 := Aside0.mk (Kd.M_below HX.out hb)
    clear HX
    have HX := N1
    clear N1
    have N1 := Aside0.mk (Kd.R_below HG.out hb)
    clear HG
    have HG := N1
    clear N1
    clear hb
    refine hK.out _ _ ⟨BK7.out, BK.out⟩ (fun hHeld => ?_)
    clear hK K
    refine norm_ (a' := ?_) ?_ ?_
    rotate_left
    · show Act.put _ (some 29) _ = _
      simp only [Act.put, List.setIfInBounds_toArray, List.set_cons_zero, List.set_cons_succ, i64_w, i32_w]
      rfl
    refine one_ (i := 3) (N := some 30) #[true, true, true, true, false] rfl rfl (by kernel_rfl) (by decide) (fun K hK => ?_)
    refine goes_ Try.func12 (by kernel_rfl) rfl #[.agg #[.slice X0 s.cells.length d0, .slice X1 s.tasks.length d1, .int .i64 s.clock, .slice X3 s.log.length d3], .agg ds3.toArray] (by rfl) rfl rfl (by (try simp only [List.map_toArray, List.map_cons, List.map_nil]); first | done | rfl) ?_
    refine (eqSys_calls s s _ ds3 _ (kSys.K_of_M HX.out) (kSys.K_of_M HM3.out)).mono ?_
    rw [decide_eq_true (Eq.refl s)]
    rintro e w1 ⟨rfl, hb⟩
    refine ⟨_, rfl, ?_⟩
    have N1 := Aside0.mk (blk_below BK.out hb)
    clear BK
    have BK := N1
    clear N1
    clear BKc
    have BKc := blk_cell BK.out
    have N1 := Aside0.mk (below_step HB.out hb)
    clear HB
    have HB := N1
    clear N1
    have N1 := Aside0.mk (Kd.R_below HW0.out hb)
    clear HW0
    have HW0 := N1
    clear N1
    have N1 := Aside0.mk (blk_below BK7.out hb)
    clear BK7
    have BK7 := N1
    clear N1
    clear BK7c
    have BK7c := blk_cell BK7.out
    have N1 := Aside0.mk (Kd.M_below HX.out hb)
    clear HX
    have HX := N1
    clear N1
    have N1 := Aside0.mk (Kd.R_below HG.out hb)
    clear HG
    have HG := N1
    clear N1
    clear hb
    refine hK.out _ _ ⟨BK7.out, BK.out⟩ (fun hHeld => ?_)
    clear hK K
    refine norm_ (a' := ?_) ?_ ?_
    rotate_left
    · show Act.put _ (some 30) _ = _
      simp only [Act.put, List.setIfInBounds_toArray, List.set_cons_zero, List.set_cons_succ, i64_w, i32_w]
      rfl
    refine pure_ (i := 4) (N := some 31) (v := ?_) (a' := ?_) #[true, true, true, true, true] rfl rfl (by kernel_rfl) (fun _ _ _ h => h) (Or.inl ⟨by rfl, ?_⟩) ?_ ?_
    rotate_left
    · intro W
      go_simp
      with_reducible rfl
    rotate_left
    · simp only [Act.put, List.setIfInBounds_toArray, List.set_cons_zero, List.set_cons_succ, i64_w, i32_w]
      rfl
    refine done_ (by kernel_rfl) ?_
    go_wp2_with fail
    refine (markSys_calls s _ wa.heap.size _ _ HX.out hsz).mono ?_
    rintro e wm ⟨r2, rfl, hr2', hk⟩
    have hba : g < wa.heap.size := HGA.out
    have BK1 := Aside0.mk (hk.blk BK.out (fun h => by have := h.1.1; omega))
    have HB1 := Aside0.mk (Kp.below HB.out hk (fun i h => Nat.le_trans HSA.out h.1.1))
    have HW1' := Aside0.mk (hk.R HW0.out (fun i h h2 => by have := h2.1.1; omega))
    have HG1 := Aside0.mk (hk.R HG.out (fun i h h2 => by have := h2.1.2; omega))
    clear BK HB HW0 HG hk HX BK7 BK7c BKc hba
    have BK := BK1
    have HB := HB1
    have HW0 := HW1'
    have HG := HG1
    clear BK1 HB1 HW1' HG1
    have BKc := blk_cell BK.out
    go_wp2_with fail
    refine (eqIntS_calls _ _ _ _ _ _ _ (Kd.R_reads' HG.out).2.2 (Kd.R_reads' HW0.out).2.2).mono ?_
    rw [decide_eq_true (Eq.refl (liveIn s.tasks))]
    rintro e w1 ⟨rfl, hd⟩
    have hb := hd.below
    clear hd
    have N1 := Aside0.mk (blk_below BK.out hb)
    clear BK
    have BK := N1
    clear N1
    clear BKc
    have BKc := blk_cell BK.out
    have N1 := Aside0.mk (below_step HB.out hb)
    clear HB
    have HB := N1
    clear N1
    have N1 := Aside0.mk (Kd.R_below HW0.out hb)
    clear HW0
    have HW0 := N1
    clear N1
    have N1 := Aside0.mk (Kd.R_below HG.out hb)
    clear HG
    have HG := N1
    clear N1
    clear hb
    go_wp2_with fail
    refine (markIntR_calls _ _ _ _ _ _ HG.out hL).mono ?_
    rintro e w1 ⟨rfl, ho, hg⟩
    have HG1 := Aside0.mk ho
    have BK1 := Aside0.mk (blk_grown BK.out hg (Kd.R_ne HG.out BK.out (by decide)))
    have HB1 := Aside0.mk (pw_below_grown HB.out _ HB.out.size hg (Kd.R_base HG.out))
    have hwz : wa.heap.size ≤ wb.heap.size := HAB.out
    have HW1' := Aside0.mk (Kd.R_grown HW0.out hg (fun k hk he => by have := HG.out.1 k he.symm; omega))
    clear BK HB HW0 HG ho hg BKc hwz
    have BK := BK1
    have HB := HB1
    have HW0 := HW1'
    have HG := HG1
    clear BK1 HB1 HW1' HG1
    have BKc := blk_cell BK.out
    have yq : (1 + ((liveIn s.tasks).length : Int) != 1 + ((liveIn s.tasks).length : Int)) = false := by simp
    go_wp2_with fail
    have hC := (Kd.R_reads' HG.out).2.2
    rw [seqFrom_length] at hC
    refine (heldIntS_calls _ _ _ _ hC hL).mono ?_
    rintro e w1 ⟨rfl, rfl⟩
    clear hC
    go_wp2_with fail
    refine (toSys_calls s _ _ (kSysL_mk s l0 (Kd.C_below G.out.1 HB.out) l1 (Kd.C_below G.out.2.1 HB.out) l3 (Kd.C_below G.out.2.2 HB.out)) hsz).mono ?_
    rintro e w1 ⟨ds4, rfl, hm, hb⟩
    have HM4 := Aside0.mk hm
    clear hm
    have N1 := Aside0.mk (blk_below BK.out hb)
    clear BK
    have BK := N1
    clear N1
    clear BKc
    have BKc := blk_cell BK.out
    have N1 := Aside0.mk (below_step HB.out hb)
    clear HB
    have HB := N1
    clear N1
    have N1 := Aside0.mk (Kd.R_below HW0.out hb)
    clear HW0
    have HW0 := N1
    clear N1
    have N1 := Aside0.mk (Kd.R_below HG.out hb)
    clear HG
    have HG := N1
    clear N1
    clear hb
    go_wp2_with fail
    refine (implLive_calls s _ _ (kSys.K_of_M HM4.out) hn).mono ?_
    rintro e w1 ⟨v9, rfl, ho, hb⟩
    obtain ⟨H0, e9, rfl⟩ := Kd.R_slice ho
    have HH := Aside0.mk ho
    clear ho HM4
    have N1 := Aside0.mk (blk_below BK.out hb)
    clear BK
    have BK := N1
    clear N1
    clear BKc
    have BKc := blk_cell BK.out
    have N1 := Aside0.mk (below_step HB.out hb)
    clear HB
    have HB := N1
    clear N1
    have N1 := Aside0.mk (Kd.R_below HW0.out hb)
    clear HW0
    have HW0 := N1
    clear N1
    have N1 := Aside0.mk (Kd.R_below HG.out hb)
    clear HG
    have HG := N1
    clear N1
    clear hb
    go_wp2_with fail
    refine (eqIntS_calls _ _ _ _ _ _ _ (Kd.R_reads' HH.out).2.2 (Kd.R_reads' HW0.out).2.2).mono ?_
    rw [decide_eq_true (Eq.refl (liveIn s.tasks))]
    rintro e w1 ⟨rfl, hd⟩
    have hb := hd.below
    clear hd
    have N1 := Aside0.mk (blk_below BK.out hb)
    clear BK
    have BK := N1
    clear N1
    clear BKc
    have BKc := blk_cell BK.out
    have N1 := Aside0.mk (below_step HB.out hb)
    clear HB
    have HB := N1
    clear N1
    have N1 := Aside0.mk (Kd.R_below HW0.out hb)
    clear HW0
    have HW0 := N1
    clear N1
    have N1 := Aside0.mk (Kd.R_below HG.out hb)
    clear HG
    have HG := N1
    clear N1
    clear hb
    go_wp2_with fail
    have hC := (Kd.R_reads' HG.out).2.2
    rw [seqFrom_length] at hC
    refine (heldIntS_calls _ _ _ _ hC hL).mono ?_
    rintro e w1 ⟨rfl, rfl⟩
    clear hC
    go_wp2_with fail
    go_ret
    exact ⟨rfl, HB.out⟩
  · have hsz2 : (1048576 : Int) < (szS s : Int) := by omega
    go_wp2_with (first
      | ((with_reducible refine gate_dst (N := 1) rfl ?_); refine box_event rfl (N := 1) rfl (cs := #[.slice A0 s.cells.length c0, .slice A1 s.tasks.length c1, .int .i64 s.clock, .slice A3 s.log.length c3]) (t := 26) (by first | (go_simp; done) | (go_simp; rfl)) ?_; intro g hg w2 hbox hb; have BK := Aside0.mk hbox; have HB := Aside0.mk hb; clear hbox hb hg; have BKc := blk_cell BK.out)
      | (go_at_call 8; refine (szSys_calls s _ _ _ (kSysL_mk s l0 (Kd.C_below G.out.1 HB.out) l1 (Kd.C_below G.out.2.1 HB.out) l3 (Kd.C_below G.out.2.2 HB.out)) (by omega) (by omega)).mono ?_; rintro e w1 ⟨r, rfl, hs, hb⟩; have HSZ := Aside0.mk hs; have hr := HSZ.out; unfold Sz at hr; have HB1 := Aside0.mk (below_step HB.out hb); have BK1 := Aside0.mk (blk_below BK.out hb); clear hs hb HB BK BKc; have HB := HB1; have BK := BK1; clear HB1 BK1; have BKc := blk_cell BK.out; have hr2 : r < 0 := (by omega); clear hr))
    go_ret
    exact ⟨rfl, HB.out⟩
set_option maxHeartbeats 8000000 in
set_option maxRecDepth 100000 in
theorem exactKids_calls (s : Sys) (cs : List Value) (task : Int) (w : World) (hx : kSysL.K w s cs) :
    Calls Try.prog 6 #[.agg cs.toArray, .int .i64 task] w fun e w' => e = .returned (.bool true) ∧ Below w.heap.size w w' := by
  obtain ⟨A0, c0, A1, c1, A3, c3, rfl, l0, g0, l1, g1, l3, g3⟩ := kSysL_open hx
  have G := Aside0.mk (And.intro g0 (And.intro g1 g3))
  clear g0 g1 g3 hx
  go_enter Try.func6, Try.ntmps6
  by_cases hsz : szS s ≤ 1048576
  · have hn : s.tasks.length ≤ 1048576 := by unfold szS at hsz; omega
    have hL : (kids s.tasks task).length ≤ 1048576 := Nat.le_trans (pickTo_length _ _) hn
    go_wp2_with (first
      | ((with_reducible refine gate_dst (N := 2) rfl ?_); refine box_event rfl (N := 2) rfl (cs := #[.slice A0 s.cells.length c0, .slice A1 s.tasks.length c1, .int .i64 s.clock, .slice A3 s.log.length c3]) (t := 26) (by first | (go_simp; done) | (go_simp; rfl)) ?_; intro g hg w2 hbox hb; have BK := Aside0.mk hbox; have HB := Aside0.mk hb; clear hbox hb hg; have BKc := blk_cell BK.out)
      | (go_at_call 8; refine (szSys_calls s _ _ _ (kSysL_mk s l0 (Kd.C_below G.out.1 HB.out) l1 (Kd.C_below G.out.2.1 HB.out) l3 (Kd.C_below G.out.2.2 HB.out)) (by omega) (by omega)).mono ?_; rintro e w1 ⟨r, rfl, hs, hb⟩; have HSZ := Aside0.mk hs; have hr := HSZ.out; unfold Sz at hr; have HB1 := Aside0.mk (below_step HB.out hb); have BK1 := Aside0.mk (blk_below BK.out hb); clear hs hb HB BK BKc; have HB := HB1; have BK := BK1; clear HB1 BK1; have BKc := blk_cell BK.out; have hr2 : 0 ≤ r := (by omega); clear hr))
    go_wp2_with fail
    refine (toSys_calls s _ _ (kSysL_mk s l0 (Kd.C_below G.out.1 HB.out) l1 (Kd.C_below G.out.2.1 HB.out) l3 (Kd.C_below G.out.2.2 HB.out)) hsz).mono ?_
    rintro e w1 ⟨ds1, rfl, hm, hb⟩
    have HM1 := Aside0.mk hm
    clear hm
    have N1 := Aside0.mk (blk_below BK.out hb)
    clear BK
    have BK := N1
    clear N1
    clear BKc
    have BKc := blk_cell BK.out
    have N1 := Aside0.mk (below_step HB.out hb)
    clear HB
    have HB := N1
    clear N1
    clear hb
    go_wp2_with fail
    refine (specKids_calls s _ task _ (kSys.K_of_M HM1.out) hn).mono ?_
    rintro e wa ⟨v6, rfl, ho, hb⟩
    obtain ⟨L0, e0, rfl⟩ := Kd.R_slice ho
    have HW0 := Aside0.mk (Kd.R_mono (Kd.R_bound ho) (ok' := fun k => k < wa.heap.size) (fun _ hk => hk.2.2.1))
    clear HM1 ho
    have N1 := Aside0.mk (blk_below BK.out hb)
    clear BK
    have BK := N1
    clear N1
    clear BKc
    have BKc := blk_cell BK.out
    have N1 := Aside0.mk (below_step HB.out hb)
    clear HB
    have HB := N1
    clear N1
    clear hb
    have HSA := Aside0.mk HB.out.size
    have HGA := Aside0.mk (blk_lt BK.out)
    go_wp2_with fail
    refine (toSys_calls s _ _ (kSysL_mk s l0 (Kd.C_below G.out.1 HB.out) l1 (Kd.C_below G.out.2.1 HB.out) l3 (Kd.C_below G.out.2.2 HB.out)) hsz).mono ?_
    rintro e wb ⟨ds2, rfl, hm, hb⟩
    have HABX := Aside0.mk hb.size
    have HM2 := Aside0.mk (show kSys.M wb wa.heap.size (fun k => wa.heap.size ≤ k ∧ k < wb.heap.size) s ds2 from kSys.M_mono (fun _ hk => ⟨hk.2.1, hk.2.2.1⟩) (kSys.M_bound hm))
    clear hm
    have N1 := Aside0.mk (blk_below BK.out hb)
    clear BK
    have BK := N1
    clear N1
    clear BKc
    have BKc := blk_cell BK.out
    have N1 := Aside0.mk (below_step HB.out hb)
    clear HB
    have HB := N1
    clear N1
    have N1 := Aside0.mk (Kd.R_below HW0.out hb)
    clear HW0
    have HW0 := N1
    clear N1
    clear hb
    obtain ⟨v0, v1, v3, hds, m0, m1, m3⟩ := kSys_openM HM2.out
    obtain ⟨X0, d0, rfl⟩ := Kd.R_slice m0
    obtain ⟨X1, d1, rfl⟩ := Kd.R_slice m1
    obtain ⟨X3, d3, rfl⟩ := Kd.R_slice m3
    subst hds
    clear m0 m1 m3
    have HX := HM2
    clear HM2
    have HAB := Aside0.mk (show wa.heap.size ≤ wb.heap.size from HABX.out)
    go_wp2_with (first
      | ((with_reducible refine gate_dst (N := 7) rfl ?_); refine box_event rfl (N := 7) rfl (cs := #[.slice none 0 0, .slice none 0 0, .int .i64 0, .slice none 0 0]) (t := 33) (by first | (go_simp; done) | (go_simp; rfl)) ?_; intro g7 hg w2 hbox hb; have BK6 := Aside0.mk hbox; have HW := Aside0.mk hb; have G7 := Aside0.mk hg; clear hbox hb hg)
      | ((with_reducible refine gate_store (t := 33) (p := 7) rfl ?_); refine store_block (cs := [.slice X0 s.cells.length d0, .slice X1 s.tasks.length d1, .int .i64 s.clock, .slice X3 s.log.length d3]) rfl rfl 33 (.tmp 7) (.tmp 23) rfl rfl rfl BK6.out rfl (by kernel_rfl) (fun v hv => by simp only [List.mem_cons, List.not_mem_nil, or_false] at hv; rcases hv with rfl | rfl | rfl | rfl <;> rfl) ?_; intro w3 hbox hg; have BK7 := Aside0.mk hbox; have HW1 := Aside0.mk (pw_below_grown HW.out _ HW.out.size hg (fun z hz => by cases hz; exact Nat.le_of_eq G7.out.symm)); clear hbox hg BK6 HW; have BK1 := Aside0.mk (blk_below BK.out HW1.out); clear BK; have BK := BK1; clear BK1; have HB1 := Aside0.mk (below_step HB.out HW1.out); clear HB; have HB := HB1; clear HB1; have HW01 := Aside0.mk (Kd.R_below HW0.out HW1.out); clear HW0; have HW0 := HW01; clear HW01; have HX1 := Aside0.mk (Kd.M_below HX.out HW1.out); clear HX; have HX := HX1; clear HX1; clear BKc; have BKc := blk_cell BK.out; have BK7c := blk_cell BK7.out))
    have hs3 : wb.heap.size ≤ w3.heap.size := HW1.out.size
    refine (implKids_calls s _ task _ (kSys.K_of_M HX.out) hn).mono ?_
    rintro e wz ⟨v8, rfl, ho, hb⟩
    obtain ⟨G0, e8, rfl⟩ := Kd.R_slice ho
    have hsb : w.heap.size ≤ w3.heap.size := HB.out.size
    have HG := Aside0.mk (Kd.R_lower (base' := w.heap.size) (Kd.R_mono (Kd.R_bound ho) (ok' := fun k => wb.heap.size ≤ k) (fun _ hk => Nat.le_trans hs3 hk.2.1)) hsb)
    clear ho hs3 hsb
    have N1 := Aside0.mk (blk_below BK.out hb)
    clear BK
    have BK := N1
    clear N1
    clear BKc
    have BKc := blk_cell BK.out
    have N1 := Aside0.mk (below_step HB.out hb)
    clear HB
    have HB := N1
    clear N1
    have N1 := Aside0.mk (Kd.R_below HW0.out hb)
    clear HW0
    have HW0 := N1
    clear N1
    have N1 := Aside0.mk (blk_below BK7.out hb)
    clear BK7
    have BK7 := N1
    clear N1
    clear BK7c
    have BK7c := blk_cell BK7.out
    have N1 := Aside0.mk (Kd.M_below HX.out hb)
    clear HX
    have HX := N1
    clear N1
    clear hb
    go_wp2_with fail
    refine (eqIntS_calls _ _ _ _ _ _ _ (Kd.R_reads' HG.out).2.2 (Kd.R_reads' HW0.out).2.2).mono ?_
    rw [decide_eq_true (Eq.refl (kids s.tasks task))]
    rintro e wz ⟨rfl, hd⟩
    have hb := hd.below
    clear hd
    have N1 := Aside0.mk (blk_below BK.out hb)
    clear BK
    have BK := N1
    clear N1
    clear BKc
    have BKc := blk_cell BK.out
    have N1 := Aside0.mk (below_step HB.out hb)
    clear HB
    have HB := N1
    clear N1
    have N1 := Aside0.mk (Kd.R_below HW0.out hb)
    clear HW0
    have HW0 := N1
    clear N1
    have N1 := Aside0.mk (blk_below BK7.out hb)
    clear BK7
    have BK7 := N1
    clear N1
    clear BK7c
    have BK7c := blk_cell BK7.out
    have N1 := Aside0.mk (Kd.M_below HX.out hb)
    clear HX
    have HX := N1
    clear N1
    have N1 := Aside0.mk (Kd.R_below HG.out hb)
    clear HG
    have HG := N1
    clear N1
    clear hb
    go_wp2_with fail
    refine start_ (n := 5) (S := fun W => W.heap[g7]? = some (.cells #[.slice X0 s.cells.length d0, .slice X1 s.tasks.length d1, .int .i64 s.clock, .slice X3 s.log.length d3] 33 (0, 0)) ∧ W.heap[g]? = some (.cells #[.slice A0 s.cells.length c0, .slice A1 s.tasks.length c1, .int .i64 s.clock, .slice A3 s.log.length c3] 26 (0, 0))) (ds := []) #[false, false, false, false, false] (by kernel_rfl) rfl rfl ⟨blk_drew BK7.out, blk_drew BK.out⟩ (fun hHeld => ?_)
    have hb := below_drew (Below.refl wz.heap.size wz)
    generalize wz.drew = w9 at hb hHeld ⊢
    have N1 := Aside0.mk (blk_below BK.out hb)
    clear BK
    have BK := N1
    clear N1
    clear BKc
    have BKc := blk_cell BK.out
    have N1 := Aside0.mk (below_step HB.out hb)
    clear HB
    have HB := N1
    clear N1
    have N1 := Aside0.mk (Kd.R_below HW0.out hb)
    clear HW0
    have HW0 := N1
    clear N1
    have N1 := Aside0.mk (blk_below BK7.out hb)
    clear BK7
    have BK7 := N1
    clear N1
    clear BK7c
    have BK7c := blk_cell BK7.out
    have N1 := Aside0.mk (Kd.M_below HX.out hb)
    clear HX
    have HX := N1
    clear N1
    have N1 := Aside0.mk (Kd.R_below HG.out hb)
    clear HG
    have HG := N1
    clear N1
    clear hb
    refine take_ (i := 0) (N := some 31) (v := ?_) (a' := ?_) #[true, false, false, false, false] rfl rfl (by kernel_rfl) (fun _ _ _ h => h) (Or.inl ⟨by rfl, ?_⟩) hHeld ?_ ?_
    rotate_left
    · rintro W ⟨s0, s1⟩
      have t0 := blk_cell s0
      have t1 := blk_cell s1
      clear s0 s1
      go_simp
      with_reducible rfl
    rotate_left
    · simp only [Act.put, List.setIfInBounds_toArray, List.set_cons_zero, List.set_cons_succ, i64_w, i32_w]
      rfl
    refine take_ (i := 1) (N := some 32) (v := ?_) (a' := ?_) #[true, true, false, false, false] rfl rfl (by kernel_rfl) (fun _ _ _ h => h) (Or.inl ⟨by rfl, ?_⟩) hHeld ?_ ?_
    rotate_left
    · rintro W ⟨s0, s1⟩
      have t0 := blk_cell s0
      have t1 := blk_cell s1
      clear s0 s1
      go_simp
      with_reducible rfl
    rotate_left
    · simp only [Act.put, List.setIfInBounds_toArray, List.set_cons_zero, List.set_cons_succ, i64_w, i32_w]
      rfl
    refine one_ (i := 2) (N := some 33) #[true, true, true, false, false] rfl rfl (by kernel_rfl) (by decide) (fun K hK => ?_)
    refine goes_ Try.func10 (by kernel_rfl) rfl #[.agg #[.slice A0 s.cells.length c0, .slice A1 s.tasks.length c1, .int .i64 s.clock, .slice A3 s.log.length c3]] (by rfl) rfl rfl (by (try simp only [List.map_toArray, List.map_cons, List.map_nil]); first | done | rfl) ?_
    refine (toSys_calls s _ _ (kSysL_mk s l0 (Kd.C_below G.out.1 HB.out) l1 (Kd.C_below G.out.2.1 HB.out) l3 (Kd.C_below G.out.2.2 HB.out)) hsz).mono ?_
    rintro e w1 ⟨ds3, rfl, hm, hb⟩
    refine ⟨_, rfl, ?_⟩
    have HM3 := Aside0.mk hm
    clear hm
    have N1 := Aside0.mk (blk_below BK.out hb)
    clear BK
    have BK := N1
    clear N1
    clear BKc
    have BKc := blk_cell BK.out
    have N1 := Aside0.mk (below_step HB.out hb)
    clear HB
    have HB := N1
    clear N1
    have N1 := Aside0.mk (Kd.R_below HW0.out hb)
    clear HW0
    have HW0 := N1
    clear N1
    have N1 := Aside0.mk (blk_below BK7.out hb)
    clear BK7
    have BK7 := N1
    clear N1
    clear BK7c
    have BK7c := blk_cell BK7.out
    have N1 := Aside0.mk (Kd.M_below HX.out hb)
    clear HX
    have HX := N1
    clear N1
    have N1 := Aside0.mk (Kd.R_below HG.out hb)
    clear HG
    have HG := N1
    clear N1
    clear hb
    refine hK.out _ _ ⟨BK7.out, BK.out⟩ (fun hHeld => ?_)
    clear hK K
    refine norm_ (a' := ?_) ?_ ?_
    rotate_left
    · show Act.put _ (some 33) _ = _
      simp only [Act.put, List.setIfInBounds_toArray, List.set_cons_zero, List.set_cons_succ, i64_w, i32_w]
      rfl
    refine one_ (i := 3) (N := some 34) #[true, true, true, true, false] rfl rfl (by kernel_rfl) (by decide) (fun K hK => ?_)
    refine goes_ Try.func12 (by kernel_rfl) rfl #[.agg #[.slice X0 s.cells.length d0, .slice X1 s.tasks.length d1, .int .i64 s.clock, .slice X3 s.log.length d3], .agg ds3.toArray] (by rfl) rfl rfl (by (try simp only [List.map_toArray, List.map_cons, List.map_nil]); first | done | rfl) ?_
    refine (eqSys_calls s s _ ds3 _ (kSys.K_of_M HX.out) (kSys.K_of_M HM3.out)).mono ?_
    rw [decide_eq_true (Eq.refl s)]
    rintro e w1 ⟨rfl, hb⟩
    refine ⟨_, rfl, ?_⟩
    have N1 := Aside0.mk (blk_below BK.out hb)
    clear BK
    have BK := N1
    clear N1
    clear BKc
    have BKc := blk_cell BK.out
    have N1 := Aside0.mk (below_step HB.out hb)
    clear HB
    have HB := N1
    clear N1
    have N1 := Aside0.mk (Kd.R_below HW0.out hb)
    clear HW0
    have HW0 := N1
    clear N1
    have N1 := Aside0.mk (blk_below BK7.out hb)
    clear BK7
    have BK7 := N1
    clear N1
    clear BK7c
    have BK7c := blk_cell BK7.out
    have N1 := Aside0.mk (Kd.M_below HX.out hb)
    clear HX
    have HX := N1
    clear N1
    have N1 := Aside0.mk (Kd.R_below HG.out hb)
    clear HG
    have HG := N1
    clear N1
    clear hb
    refine hK.out _ _ ⟨BK7.out, BK.out⟩ (fun hHeld => ?_)
    clear hK K
    refine norm_ (a' := ?_) ?_ ?_
    rotate_left
    · show Act.put _ (some 34) _ = _
      simp only [Act.put, List.setIfInBounds_toArray, List.set_cons_zero, List.set_cons_succ, i64_w, i32_w]
      rfl
    refine pure_ (i := 4) (N := some 35) (v := ?_) (a' := ?_) #[true, true, true, true, true] rfl rfl (by kernel_rfl) (fun _ _ _ h => h) (Or.inl ⟨by rfl, ?_⟩) ?_ ?_
    rotate_left
    · intro W
      go_simp
      with_reducible rfl
    rotate_left
    · simp only [Act.put, List.setIfInBounds_toArray, List.set_cons_zero, List.set_cons_succ, i64_w, i32_w]
      rfl
    refine done_ (by kernel_rfl) ?_
    go_wp2_with fail
    refine (markSys_calls s _ wa.heap.size _ _ HX.out hsz).mono ?_
    rintro e wm ⟨r2, rfl, hr2', hk⟩
    have hba : g < wa.heap.size := HGA.out
    have BK1 := Aside0.mk (hk.blk BK.out (fun h => by have := h.1.1; omega))
    have HB1 := Aside0.mk (Kp.below HB.out hk (fun i h => Nat.le_trans HSA.out h.1.1))
    have HW1' := Aside0.mk (hk.R HW0.out (fun i h h2 => by have := h2.1.1; omega))
    have HG1 := Aside0.mk (hk.R HG.out (fun i h h2 => by have := h2.1.2; omega))
    clear BK HB HW0 HG hk HX BK7 BK7c BKc hba
    have BK := BK1
    have HB := HB1
    have HW0 := HW1'
    have HG := HG1
    clear BK1 HB1 HW1' HG1
    have BKc := blk_cell BK.out
    go_wp2_with fail
    refine (eqIntS_calls _ _ _ _ _ _ _ (Kd.R_reads' HG.out).2.2 (Kd.R_reads' HW0.out).2.2).mono ?_
    rw [decide_eq_true (Eq.refl (kids s.tasks task))]
    rintro e w1 ⟨rfl, hd⟩
    have hb := hd.below
    clear hd
    have N1 := Aside0.mk (blk_below BK.out hb)
    clear BK
    have BK := N1
    clear N1
    clear BKc
    have BKc := blk_cell BK.out
    have N1 := Aside0.mk (below_step HB.out hb)
    clear HB
    have HB := N1
    clear N1
    have N1 := Aside0.mk (Kd.R_below HW0.out hb)
    clear HW0
    have HW0 := N1
    clear N1
    have N1 := Aside0.mk (Kd.R_below HG.out hb)
    clear HG
    have HG := N1
    clear N1
    clear hb
    go_wp2_with fail
    refine (markIntR_calls _ _ _ _ _ _ HG.out hL).mono ?_
    rintro e w1 ⟨rfl, ho, hg⟩
    have HG1 := Aside0.mk ho
    have BK1 := Aside0.mk (blk_grown BK.out hg (Kd.R_ne HG.out BK.out (by decide)))
    have HB1 := Aside0.mk (pw_below_grown HB.out _ HB.out.size hg (Kd.R_base HG.out))
    have hwz : wa.heap.size ≤ wb.heap.size := HAB.out
    have HW1' := Aside0.mk (Kd.R_grown HW0.out hg (fun k hk he => by have := HG.out.1 k he.symm; omega))
    clear BK HB HW0 HG ho hg BKc hwz
    have BK := BK1
    have HB := HB1
    have HW0 := HW1'
    have HG := HG1
    clear BK1 HB1 HW1' HG1
    have BKc := blk_cell BK.out
    have yq : (1 + ((kids s.tasks task).length : Int) != 1 + ((kids s.tasks task).length : Int)) = false := by simp
    go_wp2_with fail
    have hC := (Kd.R_reads' HG.out).2.2
    rw [seqFrom_length] at hC
    refine (heldIntS_calls _ _ _ _ hC hL).mono ?_
    rintro e w1 ⟨rfl, rfl⟩
    clear hC
    go_wp2_with fail
    refine (toSys_calls s _ _ (kSysL_mk s l0 (Kd.C_below G.out.1 HB.out) l1 (Kd.C_below G.out.2.1 HB.out) l3 (Kd.C_below G.out.2.2 HB.out)) hsz).mono ?_
    rintro e w1 ⟨ds4, rfl, hm, hb⟩
    have HM4 := Aside0.mk hm
    clear hm
    have N1 := Aside0.mk (blk_below BK.out hb)
    clear BK
    have BK := N1
    clear N1
    clear BKc
    have BKc := blk_cell BK.out
    have N1 := Aside0.mk (below_step HB.out hb)
    clear HB
    have HB := N1
    clear N1
    have N1 := Aside0.mk (Kd.R_below HW0.out hb)
    clear HW0
    have HW0 := N1
    clear N1
    have N1 := Aside0.mk (Kd.R_below HG.out hb)
    clear HG
    have HG := N1
    clear N1
    clear hb
    go_wp2_with fail
    refine (implKids_calls s _ task _ (kSys.K_of_M HM4.out) hn).mono ?_
    rintro e w1 ⟨v9, rfl, ho, hb⟩
    obtain ⟨H0, e9, rfl⟩ := Kd.R_slice ho
    have HH := Aside0.mk ho
    clear ho HM4
    have N1 := Aside0.mk (blk_below BK.out hb)
    clear BK
    have BK := N1
    clear N1
    clear BKc
    have BKc := blk_cell BK.out
    have N1 := Aside0.mk (below_step HB.out hb)
    clear HB
    have HB := N1
    clear N1
    have N1 := Aside0.mk (Kd.R_below HW0.out hb)
    clear HW0
    have HW0 := N1
    clear N1
    have N1 := Aside0.mk (Kd.R_below HG.out hb)
    clear HG
    have HG := N1
    clear N1
    clear hb
    go_wp2_with fail
    refine (eqIntS_calls _ _ _ _ _ _ _ (Kd.R_reads' HH.out).2.2 (Kd.R_reads' HW0.out).2.2).mono ?_
    rw [decide_eq_true (Eq.refl (kids s.tasks task))]
    rintro e w1 ⟨rfl, hd⟩
    have hb := hd.below
    clear hd
    have N1 := Aside0.mk (blk_below BK.out hb)
    clear BK
    have BK := N1
    clear N1
    clear BKc
    have BKc := blk_cell BK.out
    have N1 := Aside0.mk (below_step HB.out hb)
    clear HB
    have HB := N1
    clear N1
    have N1 := Aside0.mk (Kd.R_below HW0.out hb)
    clear HW0
    have HW0 := N1
    clear N1
    have N1 := Aside0.mk (Kd.R_below HG.out hb)
    clear HG
    have HG := N1
    clear N1
    clear hb
    go_wp2_with fail
    have hC := (Kd.R_reads' HG.out).2.2
    rw [seqFrom_length] at hC
    refine (heldIntS_calls _ _ _ _ hC hL).mono ?_
    rintro e w1 ⟨rfl, rfl⟩
    clear hC
    go_wp2_with fail
    go_ret
    exact ⟨rfl, HB.out⟩
  · have hsz2 : (1048576 : Int) < (szS s : Int) := by omega
    go_wp2_with (first
      | ((with_reducible refine gate_dst (N := 2) rfl ?_); refine box_event rfl (N := 2) rfl (cs := #[.slice A0 s.cells.length c0, .slice A1 s.tasks.length c1, .int .i64 s.clock, .slice A3 s.log.length c3]) (t := 26) (by first | (go_simp; done) | (go_simp; rfl)) ?_; intro g hg w2 hbox hb; have BK := Aside0.mk hbox; have HB := Aside0.mk hb; clear hbox hb hg; have BKc := blk_cell BK.out)
      | (go_at_call 8; refine (szSys_calls s _ _ _ (kSysL_mk s l0 (Kd.C_below G.out.1 HB.out) l1 (Kd.C_below G.out.2.1 HB.out) l3 (Kd.C_below G.out.2.2 HB.out)) (by omega) (by omega)).mono ?_; rintro e w1 ⟨r, rfl, hs, hb⟩; have HSZ := Aside0.mk hs; have hr := HSZ.out; unfold Sz at hr; have HB1 := Aside0.mk (below_step HB.out hb); have BK1 := Aside0.mk (blk_below BK.out hb); clear hs hb HB BK BKc; have HB := HB1; have BK := BK1; clear HB1 BK1; have BKc := blk_cell BK.out; have hr2 : r < 0 := (by omega); clear hr))
    go_ret
    exact ⟨rfl, HB.out⟩
set_option maxHeartbeats 8000000 in
set_option maxRecDepth 100000 in
theorem exactWalk_calls (s : Sys) (cs : List Value) (w : World) (hx : kSysL.K w s cs) :
    Calls Try.prog 7 #[.agg cs.toArray] w fun e w' => e = .returned (.bool true) ∧ Below w.heap.size w w' := by
  obtain ⟨A0, c0, A1, c1, A3, c3, rfl, l0, g0, l1, g1, l3, g3⟩ := kSysL_open hx
  have G := Aside0.mk (And.intro g0 (And.intro g1 g3))
  clear g0 g1 g3 hx
  go_enter Try.func7, Try.ntmps7
  by_cases hsz : szS s ≤ 1048576
  · have hn : s.tasks.length ≤ 1048576 := by unfold szS at hsz; omega
    have hL : (walkAll s.tasks).length ≤ 1048576 := Nat.le_trans (walkAll_length _) hn
    go_wp2_with (first
      | ((with_reducible refine gate_dst (N := 1) rfl ?_); refine box_event rfl (N := 1) rfl (cs := #[.slice A0 s.cells.length c0, .slice A1 s.tasks.length c1, .int .i64 s.clock, .slice A3 s.log.length c3]) (t := 26) (by first | (go_simp; done) | (go_simp; rfl)) ?_; intro g hg w2 hbox hb; have BK := Aside0.mk hbox; have HB := Aside0.mk hb; clear hbox hb hg; have BKc := blk_cell BK.out)
      | (go_at_call 8; refine (szSys_calls s _ _ _ (kSysL_mk s l0 (Kd.C_below G.out.1 HB.out) l1 (Kd.C_below G.out.2.1 HB.out) l3 (Kd.C_below G.out.2.2 HB.out)) (by omega) (by omega)).mono ?_; rintro e w1 ⟨r, rfl, hs, hb⟩; have HSZ := Aside0.mk hs; have hr := HSZ.out; unfold Sz at hr; have HB1 := Aside0.mk (below_step HB.out hb); have BK1 := Aside0.mk (blk_below BK.out hb); clear hs hb HB BK BKc; have HB := HB1; have BK := BK1; clear HB1 BK1; have BKc := blk_cell BK.out; have hr2 : 0 ≤ r := (by omega); clear hr))
    go_wp2_with fail
    refine (toSys_calls s _ _ (kSysL_mk s l0 (Kd.C_below G.out.1 HB.out) l1 (Kd.C_below G.out.2.1 HB.out) l3 (Kd.C_below G.out.2.2 HB.out)) hsz).mono ?_
    rintro e w1 ⟨ds1, rfl, hm, hb⟩
    have HM1 := Aside0.mk hm
    clear hm
    have N1 := Aside0.mk (blk_below BK.out hb)
    clear BK
    have BK := N1
    clear N1
    clear BKc
    have BKc := blk_cell BK.out
    have N1 := Aside0.mk (below_step HB.out hb)
    clear HB
    have HB := N1
    clear N1
    clear hb
    go_wp2_with fail
    refine (specWalk_calls s _ _ (kSys.K_of_M HM1.out) hn).mono ?_
    rintro e wa ⟨v6, rfl, ho, hb⟩
    obtain ⟨L0, e0, rfl⟩ := Kd.R_slice ho
    have HW0 := Aside0.mk (Kd.R_mono (Kd.R_bound ho) (ok' := fun k => k < wa.heap.size) (fun _ hk => hk.2.2.1))
    clear HM1 ho
    have N1 := Aside0.mk (blk_below BK.out hb)
    clear BK
    have BK := N1
    clear N1
    clear BKc
    have BKc := blk_cell BK.out
    have N1 := Aside0.mk (below_step HB.out hb)
    clear HB
    have HB := N1
    clear N1
    clear hb
    have HSA := Aside0.mk HB.out.size
    have HGA := Aside0.mk (blk_lt BK.out)
    go_wp2_with fail
    refine (toSys_calls s _ _ (kSysL_mk s l0 (Kd.C_below G.out.1 HB.out) l1 (Kd.C_below G.out.2.1 HB.out) l3 (Kd.C_below G.out.2.2 HB.out)) hsz).mono ?_
    rintro e wb ⟨ds2, rfl, hm, hb⟩
    have HABX := Aside0.mk hb.size
    have HM2 := Aside0.mk (show kSys.M wb wa.heap.size (fun k => wa.heap.size ≤ k ∧ k < wb.heap.size) s ds2 from kSys.M_mono (fun _ hk => ⟨hk.2.1, hk.2.2.1⟩) (kSys.M_bound hm))
    clear hm
    have N1 := Aside0.mk (blk_below BK.out hb)
    clear BK
    have BK := N1
    clear N1
    clear BKc
    have BKc := blk_cell BK.out
    have N1 := Aside0.mk (below_step HB.out hb)
    clear HB
    have HB := N1
    clear N1
    have N1 := Aside0.mk (Kd.R_below HW0.out hb)
    clear HW0
    have HW0 := N1
    clear N1
    clear hb
    obtain ⟨v0, v1, v3, hds, m0, m1, m3⟩ := kSys_openM HM2.out
    obtain ⟨X0, d0, rfl⟩ := Kd.R_slice m0
    obtain ⟨X1, d1, rfl⟩ := Kd.R_slice m1
    obtain ⟨X3, d3, rfl⟩ := Kd.R_slice m3
    subst hds
    clear m0 m1 m3
    have HX := HM2
    clear HM2
    have HAB := Aside0.mk (show wa.heap.size ≤ wb.heap.size from HABX.out)
    go_wp2_with (first
      | ((with_reducible refine gate_dst (N := 5) rfl ?_); refine box_event rfl (N := 5) rfl (cs := #[.slice none 0 0, .slice none 0 0, .int .i64 0, .slice none 0 0]) (t := 33) (by first | (go_simp; done) | (go_simp; rfl)) ?_; intro g7 hg w2 hbox hb; have BK6 := Aside0.mk hbox; have HW := Aside0.mk hb; have G7 := Aside0.mk hg; clear hbox hb hg)
      | ((with_reducible refine gate_store (t := 33) (p := 5) rfl ?_); refine store_block (cs := [.slice X0 s.cells.length d0, .slice X1 s.tasks.length d1, .int .i64 s.clock, .slice X3 s.log.length d3]) rfl rfl 33 (.tmp 5) (.tmp 20) rfl rfl rfl BK6.out rfl (by kernel_rfl) (fun v hv => by simp only [List.mem_cons, List.not_mem_nil, or_false] at hv; rcases hv with rfl | rfl | rfl | rfl <;> rfl) ?_; intro w3 hbox hg; have BK7 := Aside0.mk hbox; have HW1 := Aside0.mk (pw_below_grown HW.out _ HW.out.size hg (fun z hz => by cases hz; exact Nat.le_of_eq G7.out.symm)); clear hbox hg BK6 HW; have BK1 := Aside0.mk (blk_below BK.out HW1.out); clear BK; have BK := BK1; clear BK1; have HB1 := Aside0.mk (below_step HB.out HW1.out); clear HB; have HB := HB1; clear HB1; have HW01 := Aside0.mk (Kd.R_below HW0.out HW1.out); clear HW0; have HW0 := HW01; clear HW01; have HX1 := Aside0.mk (Kd.M_below HX.out HW1.out); clear HX; have HX := HX1; clear HX1; clear BKc; have BKc := blk_cell BK.out; have BK7c := blk_cell BK7.out))
    have hs3 : wb.heap.size ≤ w3.heap.size := HW1.out.size
    refine (implWalk_calls s _ _ (kSys.K_of_M HX.out) hn).mono ?_
    rintro e wz ⟨v8, rfl, ho, hb⟩
    obtain ⟨G0, e8, rfl⟩ := Kd.R_slice ho
    have hsb : w.heap.size ≤ w3.heap.size := HB.out.size
    have HG := Aside0.mk (Kd.R_lower (base' := w.heap.size) (Kd.R_mono (Kd.R_bound ho) (ok' := fun k => wb.heap.size ≤ k) (fun _ hk => Nat.le_trans hs3 hk.2.1)) hsb)
    clear ho hs3 hsb
    have N1 := Aside0.mk (blk_below BK.out hb)
    clear BK
    have BK := N1
    clear N1
    clear BKc
    have BKc := blk_cell BK.out
    have N1 := Aside0.mk (below_step HB.out hb)
    clear HB
    have HB := N1
    clear N1
    have N1 := Aside0.mk (Kd.R_below HW0.out hb)
    clear HW0
    have HW0 := N1
    clear N1
    have N1 := Aside0.mk (blk_below BK7.out hb)
    clear BK7
    have BK7 := N1
    clear N1
    clear BK7c
    have BK7c := blk_cell BK7.out
    have N1 := Aside0.mk (Kd.M_below HX.out hb)
    clear HX
    have HX := N1
    clear N1
    clear hb
    go_wp2_with fail
    refine (eqIntS_calls _ _ _ _ _ _ _ (Kd.R_reads' HG.out).2.2 (Kd.R_reads' HW0.out).2.2).mono ?_
    rw [decide_eq_true (Eq.refl (walkAll s.tasks))]
    rintro e wz ⟨rfl, hd⟩
    have hb := hd.below
    clear hd
    have N1 := Aside0.mk (blk_below BK.out hb)
    clear BK
    have BK := N1
    clear N1
    clear BKc
    have BKc := blk_cell BK.out
    have N1 := Aside0.mk (below_step HB.out hb)
    clear HB
    have HB := N1
    clear N1
    have N1 := Aside0.mk (Kd.R_below HW0.out hb)
    clear HW0
    have HW0 := N1
    clear N1
    have N1 := Aside0.mk (blk_below BK7.out hb)
    clear BK7
    have BK7 := N1
    clear N1
    clear BK7c
    have BK7c := blk_cell BK7.out
    have N1 := Aside0.mk (Kd.M_below HX.out hb)
    clear HX
    have HX := N1
    clear N1
    have N1 := Aside0.mk (Kd.R_below HG.out hb)
    clear HG
    have HG := N1
    clear N1
    clear hb
    go_wp2_with fail
    refine start_ (n := 5) (S := fun W => W.heap[g7]? = some (.cells #[.slice X0 s.cells.length d0, .slice X1 s.tasks.length d1, .int .i64 s.clock, .slice X3 s.log.length d3] 33 (0, 0)) ∧ W.heap[g]? = some (.cells #[.slice A0 s.cells.length c0, .slice A1 s.tasks.length c1, .int .i64 s.clock, .slice A3 s.log.length c3] 26 (0, 0))) (ds := []) #[false, false, false, false, false] (by kernel_rfl) rfl rfl ⟨blk_drew BK7.out, blk_drew BK.out⟩ (fun hHeld => ?_)
    have hb := below_drew (Below.refl wz.heap.size wz)
    generalize wz.drew = w9 at hb hHeld ⊢
    have N1 := Aside0.mk (blk_below BK.out hb)
    clear BK
    have BK := N1
    clear N1
    clear BKc
    have BKc := blk_cell BK.out
    have N1 := Aside0.mk (below_step HB.out hb)
    clear HB
    have HB := N1
    clear N1
    have N1 := Aside0.mk (Kd.R_below HW0.out hb)
    clear HW0
    have HW0 := N1
    clear N1
    have N1 := Aside0.mk (blk_below BK7.out hb)
    clear BK7
    have BK7 := N1
    clear N1
    clear BK7c
    have BK7c := blk_cell BK7.out
    have N1 := Aside0.mk (Kd.M_below HX.out hb)
    clear HX
    have HX := N1
    clear N1
    have N1 := Aside0.mk (Kd.R_below HG.out hb)
    clear HG
    have HG := N1
    clear N1
    clear hb
    refine take_ (i := 0) (N := some 27) (v := ?_) (a' := ?_) #[true, false, false, false, false] rfl rfl (by kernel_rfl) (fun _ _ _ h => h) (Or.inl ⟨by rfl, ?_⟩) hHeld ?_ ?_
    rotate_left
    · rintro W ⟨s0, s1⟩
      have t0 := blk_cell s0
      have t1 := blk_cell s1
      clear s0 s1
      go_simp
      with_reducible rfl
    rotate_left
    · simp only [Act.put, List.setIfInBounds_toArray, List.set_cons_zero, List.set_cons_succ, i64_w, i32_w]
      rfl
    refine take_ (i := 1) (N := some 28) (v := ?_) (a' := ?_) #[true, true, false, false, false] rfl rfl (by kernel_rfl) (fun _ _ _ h => h) (Or.inl ⟨by rfl, ?_⟩) hHeld ?_ ?_
    rotate_left
    · rintro W ⟨s0, s1⟩
      have t0 := blk_cell s0
      have t1 := blk_cell s1
      clear s0 s1
      go_simp
      with_reducible rfl
    rotate_left
    · simp only [Act.put, List.setIfInBounds_toArray, List.set_cons_zero, List.set_cons_succ, i64_w, i32_w]
      rfl
    refine one_ (i := 2) (N := some 29) #[true, true, true, false, false] rfl rfl (by kernel_rfl) (by decide) (fun K hK => ?_)
    refine goes_ Try.func10 (by kernel_rfl) rfl #[.agg #[.slice A0 s.cells.length c0, .slice A1 s.tasks.length c1, .int .i64 s.clock, .slice A3 s.log.length c3]] (by rfl) rfl rfl (by (try simp only [List.map_toArray, List.map_cons, List.map_nil]); first | done | rfl) ?_
    refine (toSys_calls s _ _ (kSysL_mk s l0 (Kd.C_below G.out.1 HB.out) l1 (Kd.C_below G.out.2.1 HB.out) l3 (Kd.C_below G.out.2.2 HB.out)) hsz).mono ?_
    rintro e w1 ⟨ds3, rfl, hm, hb⟩
    refine ⟨_, rfl, ?_⟩
    have HM3 := Aside0.mk hm
    clear hm
    have N1 := Aside0.mk (blk_below BK.out hb)
    clear BK
    have BK := N1
    clear N1
    clear BKc
    have BKc := blk_cell BK.out
    have N1 := Aside0.mk (below_step HB.out hb)
    clear HB
    have HB := N1
    clear N1
    have N1 := Aside0.mk (Kd.R_below HW0.out hb)
    clear HW0
    have HW0 := N1
    clear N1
    have N1 := Aside0.mk (blk_below BK7.out hb)
    clear BK7
    have BK7 := N1
    clear N1
    clear BK7c
    have BK7c := blk_cell BK7.out
    have N1 := Aside0.mk (Kd.M_below HX.out hb)
    clear HX
    have HX := N1
    clear N1
    have N1 := Aside0.mk (Kd.R_below HG.out hb)
    clear HG
    have HG := N1
    clear N1
    clear hb
    refine hK.out _ _ ⟨BK7.out, BK.out⟩ (fun hHeld => ?_)
    clear hK K
    refine norm_ (a' := ?_) ?_ ?_
    rotate_left
    · show Act.put _ (some 29) _ = _
      simp only [Act.put, List.setIfInBounds_toArray, List.set_cons_zero, List.set_cons_succ, i64_w, i32_w]
      rfl
    refine one_ (i := 3) (N := some 30) #[true, true, true, true, false] rfl rfl (by kernel_rfl) (by decide) (fun K hK => ?_)
    refine goes_ Try.func12 (by kernel_rfl) rfl #[.agg #[.slice X0 s.cells.length d0, .slice X1 s.tasks.length d1, .int .i64 s.clock, .slice X3 s.log.length d3], .agg ds3.toArray] (by rfl) rfl rfl (by (try simp only [List.map_toArray, List.map_cons, List.map_nil]); first | done | rfl) ?_
    refine (eqSys_calls s s _ ds3 _ (kSys.K_of_M HX.out) (kSys.K_of_M HM3.out)).mono ?_
    rw [decide_eq_true (Eq.refl s)]
    rintro e w1 ⟨rfl, hb⟩
    refine ⟨_, rfl, ?_⟩
    have N1 := Aside0.mk (blk_below BK.out hb)
    clear BK
    have BK := N1
    clear N1
    clear BKc
    have BKc := blk_cell BK.out
    have N1 := Aside0.mk (below_step HB.out hb)
    clear HB
    have HB := N1
    clear N1
    have N1 := Aside0.mk (Kd.R_below HW0.out hb)
    clear HW0
    have HW0 := N1
    clear N1
    have N1 := Aside0.mk (blk_below BK7.out hb)
    clear BK7
    have BK7 := N1
    clear N1
    clear BK7c
    have BK7c := blk_cell BK7.out
    have N1 := Aside0.mk (Kd.M_below HX.out hb)
    clear HX
    have HX := N1
    clear N1
    have N1 := Aside0.mk (Kd.R_below HG.out hb)
    clear HG
    have HG := N1
    clear N1
    clear hb
    refine hK.out _ _ ⟨BK7.out, BK.out⟩ (fun hHeld => ?_)
    clear hK K
    refine norm_ (a' := ?_) ?_ ?_
    rotate_left
    · show Act.put _ (some 30) _ = _
      simp only [Act.put, List.setIfInBounds_toArray, List.set_cons_zero, List.set_cons_succ, i64_w, i32_w]
      rfl
    refine pure_ (i := 4) (N := some 31) (v := ?_) (a' := ?_) #[true, true, true, true, true] rfl rfl (by kernel_rfl) (fun _ _ _ h => h) (Or.inl ⟨by rfl, ?_⟩) ?_ ?_
    rotate_left
    · intro W
      go_simp
      with_reducible rfl
    rotate_left
    · simp only [Act.put, List.setIfInBounds_toArray, List.set_cons_zero, List.set_cons_succ, i64_w, i32_w]
      rfl
    refine done_ (by kernel_rfl) ?_
    go_wp2_with fail
    refine (markSys_calls s _ wa.heap.size _ _ HX.out hsz).mono ?_
    rintro e wm ⟨r2, rfl, hr2', hk⟩
    have hba : g < wa.heap.size := HGA.out
    have BK1 := Aside0.mk (hk.blk BK.out (fun h => by have := h.1.1; omega))
    have HB1 := Aside0.mk (Kp.below HB.out hk (fun i h => Nat.le_trans HSA.out h.1.1))
    have HW1' := Aside0.mk (hk.R HW0.out (fun i h h2 => by have := h2.1.1; omega))
    have HG1 := Aside0.mk (hk.R HG.out (fun i h h2 => by have := h2.1.2; omega))
    clear BK HB HW0 HG hk HX BK7 BK7c BKc hba
    have BK := BK1
    have HB := HB1
    have HW0 := HW1'
    have HG := HG1
    clear BK1 HB1 HW1' HG1
    have BKc := blk_cell BK.out
    go_wp2_with fail
    refine (eqIntS_calls _ _ _ _ _ _ _ (Kd.R_reads' HG.out).2.2 (Kd.R_reads' HW0.out).2.2).mono ?_
    rw [decide_eq_true (Eq.refl (walkAll s.tasks))]
    rintro e w1 ⟨rfl, hd⟩
    have hb := hd.below
    clear hd
    have N1 := Aside0.mk (blk_below BK.out hb)
    clear BK
    have BK := N1
    clear N1
    clear BKc
    have BKc := blk_cell BK.out
    have N1 := Aside0.mk (below_step HB.out hb)
    clear HB
    have HB := N1
    clear N1
    have N1 := Aside0.mk (Kd.R_below HW0.out hb)
    clear HW0
    have HW0 := N1
    clear N1
    have N1 := Aside0.mk (Kd.R_below HG.out hb)
    clear HG
    have HG := N1
    clear N1
    clear hb
    go_wp2_with fail
    refine (markIntR_calls _ _ _ _ _ _ HG.out hL).mono ?_
    rintro e w1 ⟨rfl, ho, hg⟩
    have HG1 := Aside0.mk ho
    have BK1 := Aside0.mk (blk_grown BK.out hg (Kd.R_ne HG.out BK.out (by decide)))
    have HB1 := Aside0.mk (pw_below_grown HB.out _ HB.out.size hg (Kd.R_base HG.out))
    have hwz : wa.heap.size ≤ wb.heap.size := HAB.out
    have HW1' := Aside0.mk (Kd.R_grown HW0.out hg (fun k hk he => by have := HG.out.1 k he.symm; omega))
    clear BK HB HW0 HG ho hg BKc hwz
    have BK := BK1
    have HB := HB1
    have HW0 := HW1'
    have HG := HG1
    clear BK1 HB1 HW1' HG1
    have BKc := blk_cell BK.out
    have yq : (1 + ((walkAll s.tasks).length : Int) != 1 + ((walkAll s.tasks).length : Int)) = false := by simp
    go_wp2_with fail
    have hC := (Kd.R_reads' HG.out).2.2
    rw [seqFrom_length] at hC
    refine (heldIntS_calls _ _ _ _ hC hL).mono ?_
    rintro e w1 ⟨rfl, rfl⟩
    clear hC
    go_wp2_with fail
    refine (toSys_calls s _ _ (kSysL_mk s l0 (Kd.C_below G.out.1 HB.out) l1 (Kd.C_below G.out.2.1 HB.out) l3 (Kd.C_below G.out.2.2 HB.out)) hsz).mono ?_
    rintro e w1 ⟨ds4, rfl, hm, hb⟩
    have HM4 := Aside0.mk hm
    clear hm
    have N1 := Aside0.mk (blk_below BK.out hb)
    clear BK
    have BK := N1
    clear N1
    clear BKc
    have BKc := blk_cell BK.out
    have N1 := Aside0.mk (below_step HB.out hb)
    clear HB
    have HB := N1
    clear N1
    have N1 := Aside0.mk (Kd.R_below HW0.out hb)
    clear HW0
    have HW0 := N1
    clear N1
    have N1 := Aside0.mk (Kd.R_below HG.out hb)
    clear HG
    have HG := N1
    clear N1
    clear hb
    go_wp2_with fail
    refine (implWalk_calls s _ _ (kSys.K_of_M HM4.out) hn).mono ?_
    rintro e w1 ⟨v9, rfl, ho, hb⟩
    obtain ⟨H0, e9, rfl⟩ := Kd.R_slice ho
    have HH := Aside0.mk ho
    clear ho HM4
    have N1 := Aside0.mk (blk_below BK.out hb)
    clear BK
    have BK := N1
    clear N1
    clear BKc
    have BKc := blk_cell BK.out
    have N1 := Aside0.mk (below_step HB.out hb)
    clear HB
    have HB := N1
    clear N1
    have N1 := Aside0.mk (Kd.R_below HW0.out hb)
    clear HW0
    have HW0 := N1
    clear N1
    have N1 := Aside0.mk (Kd.R_below HG.out hb)
    clear HG
    have HG := N1
    clear N1
    clear hb
    go_wp2_with fail
    refine (eqIntS_calls _ _ _ _ _ _ _ (Kd.R_reads' HH.out).2.2 (Kd.R_reads' HW0.out).2.2).mono ?_
    rw [decide_eq_true (Eq.refl (walkAll s.tasks))]
    rintro e w1 ⟨rfl, hd⟩
    have hb := hd.below
    clear hd
    have N1 := Aside0.mk (blk_below BK.out hb)
    clear BK
    have BK := N1
    clear N1
    clear BKc
    have BKc := blk_cell BK.out
    have N1 := Aside0.mk (below_step HB.out hb)
    clear HB
    have HB := N1
    clear N1
    have N1 := Aside0.mk (Kd.R_below HW0.out hb)
    clear HW0
    have HW0 := N1
    clear N1
    have N1 := Aside0.mk (Kd.R_below HG.out hb)
    clear HG
    have HG := N1
    clear N1
    clear hb
    go_wp2_with fail
    have hC := (Kd.R_reads' HG.out).2.2
    rw [seqFrom_length] at hC
    refine (heldIntS_calls _ _ _ _ hC hL).mono ?_
    rintro e w1 ⟨rfl, rfl⟩
    clear hC
    go_wp2_with fail
    go_ret
    exact ⟨rfl, HB.out⟩
  · have hsz2 : (1048576 : Int) < (szS s : Int) := by omega
    go_wp2_with (first
      | ((with_reducible refine gate_dst (N := 1) rfl ?_); refine box_event rfl (N := 1) rfl (cs := #[.slice A0 s.cells.length c0, .slice A1 s.tasks.length c1, .int .i64 s.clock, .slice A3 s.log.length c3]) (t := 26) (by first | (go_simp; done) | (go_simp; rfl)) ?_; intro g hg w2 hbox hb; have BK := Aside0.mk hbox; have HB := Aside0.mk hb; clear hbox hb hg; have BKc := blk_cell BK.out)
      | (go_at_call 8; refine (szSys_calls s _ _ _ (kSysL_mk s l0 (Kd.C_below G.out.1 HB.out) l1 (Kd.C_below G.out.2.1 HB.out) l3 (Kd.C_below G.out.2.2 HB.out)) (by omega) (by omega)).mono ?_; rintro e w1 ⟨r, rfl, hs, hb⟩; have HSZ := Aside0.mk hs; have hr := HSZ.out; unfold Sz at hr; have HB1 := Aside0.mk (below_step HB.out hb); have BK1 := Aside0.mk (blk_below BK.out hb); clear hs hb HB BK BKc; have HB := HB1; have BK := BK1; clear HB1 BK1; have BKc := blk_cell BK.out; have hr2 : r < 0 := (by omega); clear hr))
    go_ret
    exact ⟨rfl, HB.out⟩
end Go.Proofs.Ythkmchgglnhmaaa.Eq
