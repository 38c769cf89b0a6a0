import Derived.Test.YthkmchgglnhmaaaTree3
/- The walks of spec.TreeOk and TreeUnder, of the program and of the reference. Printed by gen_tree4.py (own). -/
namespace Go.Proofs.Ythkmchgglnhmaaa.Eq
open Go.RowKit Go.Proofs.YthkmchgglnhmaaaW.PrintWords Go.Proofs.YthkmchgglnhmaaaW.PrintLast Go.Proofs.YthkmchgglnhmaaaW.PrintMore
set_option linter.unusedVariables false
set_option linter.unusedSimpArgs false
theorem liveAt {ts : List Task} {k : Nat} (h : k < (liveIn ts).length) : ∃ m : Nat, m < ts.length ∧ isLive (taskAt ts m) = true ∧ rd (liveIn ts) (k : Int) = (m : Int) := by
  obtain ⟨m, h1, h2, h3⟩ := mem_liveIn.1 (List.getElem_mem h)
  exact ⟨m, h1, h2, by rw [rd, Int.toNat_natCast, List.getD_eq_getElem?_getD, List.getElem?_eq_getElem h, Option.getD_some, h3]⟩
theorem liveOf {ts : List Task} {m : Nat} (h : m < ts.length) (hl : isLive (taskAt ts m) = true) : ∃ k : Nat, k < (liveIn ts).length ∧ rd (liveIn ts) (k : Int) = (m : Int) := by
  obtain ⟨k, hk, he⟩ := List.getElem_of_mem (mem_liveIn.2 ⟨m, h, hl, rfl⟩)
  exact ⟨k, hk, by rw [rd, Int.toNat_natCast, List.getD_eq_getElem?_getD, List.getElem?_eq_getElem hk, Option.getD_some, he]⟩
set_option maxHeartbeats 2000000 in
set_option maxRecDepth 100000 in
theorem specOk_calls (s : Sys) (cs : List Value) (w : World) (hx : kSys.K w s cs) (hn : s.tasks.length ≤ 1048576) :
    Calls Try.prog 13 #[.agg cs.toArray] w fun e w' => e = .returned (.bool (treeOk s.tasks)) ∧ Below w.heap.size w w' := by
  obtain ⟨A0, c0, A1, c1, A3, c3, rfl, l0, g0, l1, g1, l3, g3⟩ := kSys_open hx
  have G := Aside0.mk (And.intro g0 (And.intro g1 g3))
  clear g0 g1 g3 hx
  go_enter Try.func13, Try.ntmps13
  go_wp2_with (first | ((with_reducible refine gate_dst (N := 1) rfl ?_); refine box_event rfl (N := 1) rfl (cs := #[.slice A0 s.cells.length c0, .slice A1 s.tasks.length c1, .int .i64 s.clock, .slice A3 s.log.length c3]) (t := 33) (by first | (go_simp; done) | (go_simp; rfl)) ?_; intro g hg w2 hbox hb; have BK := Aside0.mk hbox; have HB := Aside0.mk hb; have GE := Aside0.mk (show w.heap.size ≤ g by omega); clear hbox hb hg; have hc := blk_cell BK.out) | (go_at_call 15; refine (specLive_calls s _ _ (kSys_mk s l0 (Kd.C_below G.out.1 HB.out) l1 (Kd.C_below G.out.2.1 HB.out) l3 (Kd.C_below G.out.2.2 HB.out)) hn).mono ?_; rintro e w1 ⟨v, rfl, ho, hb⟩; have HO := Aside0.mk (Kd.R_lower (base' := w.heap.size) ho (below_size HB.out)); have BK1 := Aside0.mk (blk_below BK.out hb); have HB1 := Aside0.mk (below_step HB.out hb); clear ho hb BK HB hc; have hc := blk_cell BK1.out))
  go_loopw [4] (fun i w' => ∃ k : Nat, k ≤ (liveIn s.tasks).length ∧ i = .int .i64 k ∧ Aside0 (∀ j : Nat, j < k → upOk s.tasks (rd (liveIn s.tasks) (j : Int)).toNat = true) ∧ Aside0 ((Kd.int .i64).R 3 w' w.heap.size (fun _ => True) v (liveIn s.tasks)) ∧ Aside0 (w'.heap[g]? = some (.cells #[.slice A0 s.cells.length c0, .slice A1 s.tasks.length c1, .int .i64 s.clock, .slice A3 s.log.length c3] 33 (0, 0))) ∧ Aside0 (Below w.heap.size w w')) (fun i _ => (liveIn s.tasks).length - (intOf i).toNat)
  case atStart => exact ⟨0, Nat.zero_le _, rfl, ⟨fun j hj => by omega⟩, HO, BK1, HB1⟩
  case round =>
    clear HO BK1 HB1 hc
    obtain ⟨k, hk, rfl, HJ, HO, BK, HB⟩ := hrel
    have hll : (liveIn s.tasks).length ≤ 1048576 := Nat.le_trans (pickTo_length _ _) hn
    obtain ⟨Av, cv, rfl⟩ := Kd.R_slice HO.out
    have BKc := blk_cell BK.out
    by_cases hlt : k < (liveIn s.tasks).length
    · have q0 : (0 : Int) ≤ (k : Int) := by omega
      have q1 : (k : Int) < ((liveIn s.tasks).length : Int) := by omega
      obtain ⟨m, hml, hlv, hm⟩ := liveAt hlt
      obtain ⟨gl, cap, he, hg1, hg2, hg3⟩ := Kd.R_form HO.out (by omega)
      cases he
      have h_live := (Kd.R_celln 0 HO.out (k : Int) q0 q1).1
      rw [show rdOf 0 (liveIn s.tasks) (k : Int) = (m : Int) from hm, Int.toNat_natCast] at h_live
      obtain ⟨b, o, cs, hA, hcl, hK, hcc, hc0⟩ := C_field (Kd.C_below G.out.2.1 HB.out) zTask m hml (by decide)
      cases hA
      rw [show s.tasks.getD m zTask = taskAt s.tasks m from rfl] at hK
      obtain ⟨B3, d3, B8, d8, B9, d9, B10, d10, rfl, _, _, _, _, _, _, _, _⟩ := kTask_open hK
      have h_up := hcc 2 _ rfl
      simp only [show kTask.sz = 13 from rfl] at h_up
      have HM := Aside0.mk hm
      have m0 : (0 : Int) ≤ (m : Int) := by omega
      have m1 : (m : Int) < (s.tasks.length : Int) := by omega
      clear hcc hc0 hK hcl hm hg3
      by_cases hu : 0 ≤ (taskAt s.tasks m).up ∧ (taskAt s.tasks m).up < (s.tasks.length : Int)
      · have HU := Aside0.mk (show (decide (0 ≤ (taskAt s.tasks m).up) && decide ((taskAt s.tasks m).up ≤ (s.tasks.length : Int) - 1)) = true by simp; omega)
        obtain ⟨u, hu'⟩ := Int.eq_ofNat_of_zero_le hu.1
        have hul : u < s.tasks.length := by omega
        obtain ⟨b', o', ds, hA, hdl, hK2, hdd, _⟩ := C_field (Kd.C_below G.out.2.1 HB.out) zTask u hul (by decide)
        cases hA
        rw [show s.tasks.getD u zTask = taskAt s.tasks u from rfl] at hK2
        obtain ⟨B3, d3, B8, d8, B9, d9, B10, d10, rfl, _, _, _, _, _, _, _, _⟩ := kTask_open hK2
        have h_way := hdd 4 _ rfl
        simp only [show kTask.sz = 13 from rfl] at h_way
        have HUU := Aside0.mk hu'
        rw [hu'] at h_up HU
        have u0 : (0 : Int) ≤ (u : Int) := by omega
        have u1 : (u : Int) < (s.tasks.length : Int) := by omega
        clear hu hdd hK2 hdl hu'
        by_cases hw : (taskAt s.tasks u).way = 1
        · have y1 : ((taskAt s.tasks u).way != 1) = false := by simp [hw]
          have HX := Aside0.mk (show upOk s.tasks m = true by unfold upOk; rw [HUU.out]; simp [hw])
          clear hw
          go_wp2
          go_quiet (fail)
          go_wp2_with (first | (go_at_call 28; refine (l6In_calls _ _ _ _).mono ?_; rw [HU.out]; rintro e w1 ⟨rfl, rfl⟩))
          go_roundw
          case rel => exact ⟨k + 1, by omega, by go_num, ⟨fun j hj => by rcases Nat.lt_or_ge j k with h | h; exact HJ.out j h; obtain rfl : j = k := (by omega); rw [HM.out]; exact HX.out⟩, ⟨Kd.R_drewN HO.out _⟩, ⟨blk_drewN BK.out _⟩, ⟨pw_below_drewN HB.out _⟩⟩
          case measure => simp [intOf]; omega
        · have y1 : ((taskAt s.tasks u).way != 1) = true := by simp [hw]
          have HX := Aside0.mk (show upOk s.tasks m = false by unfold upOk; rw [HUU.out]; simp [hw]; omega)
          clear hw
          go_wp2
          go_quiet (fail)
          go_wp2_with (first | (go_at_call 28; refine (l6In_calls _ _ _ _).mono ?_; rw [HU.out]; rintro e w1 ⟨rfl, rfl⟩))
          go_ret
          exact ⟨ret_bool (decide_eq_false (fun h => by have := h m hml hlv; rw [HX.out] at this; cases this)).symm, pw_below_drewN HB.out _⟩
      · have HU := Aside0.mk (show (decide (0 ≤ (taskAt s.tasks m).up) && decide ((taskAt s.tasks m).up ≤ (s.tasks.length : Int) - 1)) = false by simp; omega)
        have HX := Aside0.mk (show upOk s.tasks m = true by unfold upOk; rw [show (decide (0 ≤ (taskAt s.tasks m).up) && decide ((taskAt s.tasks m).up < (s.tasks.length : Int))) = false by simp; omega]; rfl)
        clear hu
        go_wp2
        go_quiet (fail)
        go_wp2_with (first | (go_at_call 28; refine (l6In_calls _ _ _ _).mono ?_; rw [HU.out]; rintro e w1 ⟨rfl, rfl⟩))
        go_roundw
        case rel => exact ⟨k + 1, by omega, by go_num, ⟨fun j hj => by rcases Nat.lt_or_ge j k with h | h; exact HJ.out j h; obtain rfl : j = k := (by omega); rw [HM.out]; exact HX.out⟩, ⟨Kd.R_drewN HO.out _⟩, ⟨blk_drewN BK.out _⟩, ⟨pw_below_drewN HB.out _⟩⟩
        case measure => simp [intOf]; omega
    · go_wp2
      go_ret
      exact ⟨ret_bool (decide_eq_true (fun i hi hl => by obtain ⟨j, hj, he⟩ := liveOf hi hl; have := HJ.out j (by omega); rw [he] at this; exact this)).symm, HB.out⟩

def under (ts : List Task) : Nat → Int → Int → Bool
  | 0, _, _ => false
  | f + 1, t, up => if 0 ≤ t ∧ t < (ts.length : Int) ∧ (taskAt ts t.toNat).up < t then (if (taskAt ts t.toNat).up = up then decide (0 ≤ up) else under ts f (taskAt ts t.toNat).up up) else false
theorem under_more (ts : List Task) (up : Int) : ∀ (f : Nat) (t : Int), t < f → under ts (f + 1) t up = under ts f t up
  | 0, t, h => by
    unfold under
    rw [if_neg (by omega)]
  | f + 1, t, h => by
    unfold under
    by_cases c : 0 ≤ t ∧ t < (ts.length : Int) ∧ (taskAt ts t.toNat).up < t
    · rw [if_pos c, if_pos c, under_more ts up f _ (by omega)]
    · rw [if_neg c, if_neg c]
theorem under_enough (ts : List Task) (up t : Int) (f d : Nat) (h : t < f) : under ts (f + d) t up = under ts f t up := by
  induction d with
  | zero => rfl
  | succ d ih => rw [← Nat.add_assoc, under_more ts up (f + d) t (by omega), ih]
/-- Is a task under another one? -/
def underOf (ts : List Task) (t up : Int) : Bool := under ts (t.toNat + 1) t up
theorem underOf_in {ts : List Task} {t up : Int} (h0 : 0 ≤ t) (h1 : t < (ts.length : Int)) (h2 : (taskAt ts t.toNat).up < t) : underOf ts t up = if (taskAt ts t.toNat).up = up then decide (0 ≤ up) else underOf ts (taskAt ts t.toNat).up up := by
  unfold underOf
  conv => lhs; unfold under
  rw [if_pos ⟨h0, h1, h2⟩]
  have e : t.toNat = ((taskAt ts t.toNat).up.toNat + 1) + (t.toNat - ((taskAt ts t.toNat).up.toNat + 1)) ∨ (taskAt ts t.toNat).up < 0 := by omega
  by_cases hneg : (taskAt ts t.toNat).up < 0
  · generalize (taskAt ts t.toNat).up = u at hneg h2
    have a1 : ∀ f, under ts f u up = false := fun f => by cases f with
      | zero => rfl
      | succ f => unfold under; rw [if_neg (by omega)]
    rw [a1, a1]
  · generalize (taskAt ts t.toNat).up = u at hneg h2 e
    have e' : t.toNat = (u.toNat + 1) + (t.toNat - (u.toNat + 1)) := by omega
    rw [e', under_enough ts up u (u.toNat + 1) _ (by omega)]
theorem underOf_out {ts : List Task} {t up : Int} (h : ¬ (0 ≤ t ∧ t < (ts.length : Int) ∧ (taskAt ts t.toNat).up < t)) : underOf ts t up = false := by
  unfold underOf under
  rw [if_neg h]
set_option maxHeartbeats 2000000 in
set_option maxRecDepth 100000 in
theorem specUnder_calls (s : Sys) (cs : List Value) (task up : Int) (w : World) (hx : kSys.K w s cs) (hn : s.tasks.length ≤ 1048576) :
    Calls Try.prog 9 #[.agg cs.toArray, .int .i64 task, .int .i64 up] w fun e w' => e = .returned (.bool (underOf s.tasks task up)) ∧ Below w.heap.size w w' := by
  obtain ⟨A0, c0, A1, c1, A3, c3, rfl, l0, g0, l1, g1, l3, g3⟩ := kSys_open hx
  have G := Aside0.mk g1
  clear g0 g1 g3 l0 l1 l3 hx
  go_enter Try.func9, Try.ntmps9
  go_wp2_with ((with_reducible refine gate_dst (N := 3) rfl ?_); refine box_event rfl (N := 3) rfl (cs := #[.slice A0 s.cells.length c0, .slice A1 s.tasks.length c1, .int .i64 s.clock, .slice A3 s.log.length c3]) (t := 33) (by first | (go_simp; done) | (go_simp; rfl)) ?_; intro g hg w2 hbox hb; have BK := Aside0.mk hbox; have HB := Aside0.mk hb; have GE := Aside0.mk (show w.heap.size ≤ g by omega); clear hbox hb hg; have hc := blk_cell BK.out)
  go_loopw [1] (fun v w' => ∃ t : Int, v = .int .i64 t ∧ Aside0 (underOf s.tasks task up = underOf s.tasks t up) ∧ Aside0 (w'.heap[g]? = some (.cells #[.slice A0 s.cells.length c0, .slice A1 s.tasks.length c1, .int .i64 s.clock, .slice A3 s.log.length c3] 33 (0, 0))) ∧ Aside0 (Below w.heap.size w w')) (fun v _ => (intOf v + 1).toNat)
  case atStart => exact ⟨task, rfl, ⟨rfl⟩, BK, HB⟩
  case round =>
    clear BK HB hc
    obtain ⟨t, rfl, HJ, BK, HB⟩ := hrel
    have BKc := blk_cell BK.out
    by_cases hin : 0 ≤ t ∧ t < (s.tasks.length : Int)
    · obtain ⟨m, rfl⟩ := Int.eq_ofNat_of_zero_le hin.1
      have hml : m < s.tasks.length := by omega
      have HU := Aside0.mk (show (decide (0 ≤ (m : Int)) && decide ((m : Int) ≤ (s.tasks.length : Int) - 1)) = true by simp; omega)
      obtain ⟨b, o, cs, hA, hcl, hK, hcc, hc0⟩ := C_field (Kd.C_below G.out HB.out) zTask m hml (by decide)
      cases hA
      rw [show s.tasks.getD m zTask = taskAt s.tasks m from rfl] at hK
      obtain ⟨B3, d3, B8, d8, B9, d9, B10, d10, rfl, _, _, _, _, _, _, _, _⟩ := kTask_open hK
      have h_up := hcc 2 _ rfl
      simp only [show kTask.sz = 13 from rfl] at h_up
      have m0 : (0 : Int) ≤ (m : Int) := by omega
      have m1 : (m : Int) < (s.tasks.length : Int) := by omega
      clear hcc hc0 hK hcl
      by_cases hu : (taskAt s.tasks m).up < (m : Int)
      · have y1 : decide ((taskAt s.tasks m).up < (m : Int)) = true := decide_eq_true hu
        have HS := Aside0.mk (underOf_in (up := up) m0 m1 (by rw [Int.toNat_natCast]; exact hu))
        by_cases he : (taskAt s.tasks m).up = up
        · have y2 : ((taskAt s.tasks m).up == up) = true := by simp [he]
          have HE := Aside0.mk he
          clear he
          go_wp2_with (first | (go_at_call 28; refine (l6In_calls _ _ _ _).mono ?_; rw [HU.out]; rintro e w1 ⟨rfl, rfl⟩))
          go_ret
          exact ⟨ret_bool (by have h := HS.out; rw [Int.toNat_natCast, if_pos HE.out] at h; rw [HJ.out, h]), HB.out⟩
        · have y2 : ((taskAt s.tasks m).up == up) = false := by simp [he]
          have HE := Aside0.mk he
          clear he
          go_wp2_with (first | (go_at_call 28; refine (l6In_calls _ _ _ _).mono ?_; rw [HU.out]; rintro e w1 ⟨rfl, rfl⟩))
          go_roundw
          case rel => exact ⟨_, rfl, ⟨by have h := HS.out; rw [Int.toNat_natCast, if_neg HE.out] at h; rw [HJ.out, h]⟩, BK, HB⟩
          case measure => simp only [intOf]; omega
      · have y1 : decide ((taskAt s.tasks m).up < (m : Int)) = false := decide_eq_false hu
        have HS := Aside0.mk (underOf_out (ts := s.tasks) (t := (m : Int)) (up := up) (by rw [Int.toNat_natCast]; omega))
        go_wp2_with (first | (go_at_call 28; refine (l6In_calls _ _ _ _).mono ?_; rw [HU.out]; rintro e w1 ⟨rfl, rfl⟩))
        go_ret
        exact ⟨ret_bool (by rw [HJ.out, HS.out]), HB.out⟩
    · have HU := Aside0.mk (show (decide (0 ≤ t) && decide (t ≤ (s.tasks.length : Int) - 1)) = false by simp; omega)
      have HS := Aside0.mk (underOf_out (ts := s.tasks) (t := t) (up := up) (by omega))
      clear hin
      go_wp2_with (first | (go_at_call 28; refine (l6In_calls _ _ _ _).mono ?_; rw [HU.out]; rintro e w1 ⟨rfl, rfl⟩))
      go_ret
      exact ⟨ret_bool (by rw [HJ.out, HS.out]), HB.out⟩
set_option maxHeartbeats 1000000 in
theorem above_calls (s : Sys) (A0 A1 A3 : Option Addr) (c0 c1 c3 : Nat) (m g : Nat) (w : World) (hn : s.tasks.length ≤ 1048576) (hm : m < s.tasks.length) (g1 : kTask.C w A1 s.tasks.length s.tasks) (bk : w.heap[g]? = some (.cells #[.slice A0 s.cells.length c0, .slice A1 s.tasks.length c1, .int .i64 s.clock, .slice A3 s.log.length c3] 33 (0, 0))) :
    Calls Try.prog 33 #[.int .i64 m, .pointer (some ⟨g, 0, none⟩)] w fun e w' => e = .returned (.tuple #[.int .i64 (taskAt s.tasks m).up, .bool (decide (0 ≤ (taskAt s.tasks m).up) && decide ((taskAt s.tasks m).up < (m : Int)))]) ∧ w = w' := by
  have BKc := blk_cell bk
  obtain ⟨b, o, cs, hA, hcl, hK, hcc, hc0⟩ := C_field g1 zTask m hm (by decide)
  cases hA
  rw [show s.tasks.getD m zTask = taskAt s.tasks m from rfl] at hK
  obtain ⟨B3, d3, B8, d8, B9, d9, B10, d10, rfl, _, _, _, _, _, _, _, _⟩ := kTask_open hK
  have h_up := hcc 2 _ rfl
  simp only [show kTask.sz = 13 from rfl] at h_up
  have m0 : (0 : Int) ≤ (m : Int) := by omega
  have m1 : (m : Int) < (s.tasks.length : Int) := by omega
  clear hcc hc0 hK hcl bk g1
  go_enter Try.func33, Try.ntmps33
  go_wp2_with (go_at_call 32; refine (isPlace_calls _ _ _).mono ?_; rintro e w1 ⟨rfl, rfl⟩)
  go_ret2
  exact ⟨rfl, rfl⟩
set_option maxHeartbeats 2000000 in
set_option maxRecDepth 100000 in
theorem implUnder_calls (s : Sys) (cs : List Value) (task up : Int) (w : World) (hx : kSys.K w s cs) (hn : s.tasks.length ≤ 1048576) :
    Calls Try.prog 11 #[.agg cs.toArray, .int .i64 task, .int .i64 up] w fun e w' => e = .returned (.bool (underOf s.tasks task up)) ∧ Below w.heap.size w w' := by
  obtain ⟨A0, c0, A1, c1, A3, c3, rfl, l0, g0, l1, g1, l3, g3⟩ := kSys_open hx
  have G := Aside0.mk g1
  clear g0 g1 g3 l0 l1 l3 hx
  go_enter Try.func11, Try.ntmps11
  by_cases hp : 0 ≤ task ∧ task < s.tasks.length
  · obtain ⟨m, rfl⟩ := Int.eq_ofNat_of_zero_le hp.1
    have hm : m < s.tasks.length := by omega
    have HP := Aside0.mk (show (decide (0 ≤ (m : Int)) && decide ((m : Int) < (s.tasks.length : Int))) = true by simp; omega)
    clear hp
    go_wp2_with (first | ((with_reducible refine gate_dst (N := 3) rfl ?_); refine box_event rfl (N := 3) rfl (cs := #[.slice A0 s.cells.length c0, .slice A1 s.tasks.length c1, .int .i64 s.clock, .slice A3 s.log.length c3]) (t := 33) (by first | (go_simp; done) | (go_simp; rfl)) ?_; intro g hg w2 hbox hb; have BK := Aside0.mk hbox; have HB := Aside0.mk hb; have GE := Aside0.mk (show w.heap.size ≤ g by omega); clear hbox hb hg; have hc := blk_cell BK.out) | (go_at_call 32; refine (isPlace_calls _ _ _).mono ?_; rw [HP.out]; rintro e w1 ⟨rfl, rfl⟩))
    go_loopw [1] (fun v w' => ∃ t : Nat, t < s.tasks.length ∧ v = .int .i64 t ∧ Aside0 (underOf s.tasks m up = underOf s.tasks t up) ∧ Aside0 (w'.heap[g]? = some (.cells #[.slice A0 s.cells.length c0, .slice A1 s.tasks.length c1, .int .i64 s.clock, .slice A3 s.log.length c3] 33 (0, 0))) ∧ Aside0 (Below w.heap.size w w')) (fun v _ => (intOf v).toNat)
    case atStart => exact ⟨m, hm, rfl, ⟨rfl⟩, BK, HB⟩
    case round =>
      clear BK HB hc hm HP
      obtain ⟨t, hml, rfl, HJ, BK, HB⟩ := hrel
      have BKc := blk_cell BK.out
      have m0 : (0 : Int) ≤ (t : Int) := by omega
      have m1 : (t : Int) < (s.tasks.length : Int) := by omega
      by_cases hu : 0 ≤ (taskAt s.tasks t).up ∧ (taskAt s.tasks t).up < (t : Int)
      · have HA := Aside0.mk (show (decide (0 ≤ (taskAt s.tasks t).up) && decide ((taskAt s.tasks t).up < (t : Int))) = true by simp; omega)
        have HS := Aside0.mk (underOf_in (ts := s.tasks) (up := up) m0 m1 (by rw [Int.toNat_natCast]; exact hu.2))
        by_cases he : (taskAt s.tasks t).up = up
        · have y2 : ((taskAt s.tasks t).up == up) = true := by simp [he]
          have HE := Aside0.mk he
          clear he
          go_wp2_with (first | (go_at_call 33; refine (above_calls s A0 _ A3 c0 c1 c3 t g _ hn hml (Kd.C_below G.out HB.out) BK.out).mono ?_; rw [HA.out]; rintro e w1 ⟨rfl, rfl⟩))
          go_ret
          exact ⟨ret_bool (by have h := HS.out; rw [Int.toNat_natCast, if_pos HE.out] at h; rw [HJ.out, h, ← HE.out, decide_eq_true hu.1]), HB.out⟩
        · have y2 : ((taskAt s.tasks t).up == up) = false := by simp [he]
          have HE := Aside0.mk he
          clear he
          obtain ⟨u, hu'⟩ := Int.eq_ofNat_of_zero_le hu.1
          have HUU := Aside0.mk hu'
          clear hu'
          go_wp2_with (first | (go_at_call 33; refine (above_calls s A0 _ A3 c0 c1 c3 t g _ hn hml (Kd.C_below G.out HB.out) BK.out).mono ?_; rw [HA.out]; rintro e w1 ⟨rfl, rfl⟩))
          go_roundw
          case rel => exact ⟨u, by have := HUU.out; omega, by rw [HUU.out], ⟨by have h := HS.out; rw [Int.toNat_natCast, if_neg HE.out, HUU.out] at h; rw [HJ.out, h]⟩, BK, HB⟩
          case measure => simp only [intOf]; omega
      · have HA := Aside0.mk (show (decide (0 ≤ (taskAt s.tasks t).up) && decide ((taskAt s.tasks t).up < (t : Int))) = false by simp; omega)
        have HS := Aside0.mk (show underOf s.tasks t up = false by
          by_cases h2 : (taskAt s.tasks t).up < (t : Int)
          · rw [underOf_in m0 m1 (by rw [Int.toNat_natCast]; exact h2), Int.toNat_natCast, underOf_out (t := (taskAt s.tasks t).up) (by omega)]
            split
            · rename_i h3; rw [← h3]; simp; omega
            · rfl
          · exact underOf_out (by rw [Int.toNat_natCast]; omega))
        clear hu
        go_wp2_with (first | (go_at_call 33; refine (above_calls s A0 _ A3 c0 c1 c3 t g _ hn hml (Kd.C_below G.out HB.out) BK.out).mono ?_; rw [HA.out]; rintro e w1 ⟨rfl, rfl⟩))
        go_ret
        exact ⟨ret_bool (by rw [HJ.out, HS.out]), HB.out⟩
  · have HP := Aside0.mk (show (decide (0 ≤ task) && decide (task < (s.tasks.length : Int))) = false by simp; omega)
    have HN := Aside0.mk (underOf_out (ts := s.tasks) (t := task) (up := up) (by omega))
    clear hp
    go_wp2_with (first | ((with_reducible refine gate_dst (N := 3) rfl ?_); refine box_event rfl (N := 3) rfl (cs := #[.slice A0 s.cells.length c0, .slice A1 s.tasks.length c1, .int .i64 s.clock, .slice A3 s.log.length c3]) (t := 33) (by first | (go_simp; done) | (go_simp; rfl)) ?_; intro g hg w2 hbox hb; have BK := Aside0.mk hbox; have HB := Aside0.mk hb; have GE := Aside0.mk (show w.heap.size ≤ g by omega); clear hbox hb hg; have hc := blk_cell BK.out) | (go_at_call 32; refine (isPlace_calls _ _ _).mono ?_; rw [HP.out]; rintro e w1 ⟨rfl, rfl⟩))
    go_ret
    exact ⟨ret_bool HN.out.symm, HB.out⟩
end Go.Proofs.Ythkmchgglnhmaaa.Eq
