import Derived.Test.YthkmchgglnhmaaaBase
import Derived.Test.YthkmchgglnhmaaaTyL
/- The walks of laws.sz..: how much an argument holds, told off 'left'. -/
namespace Go.Proofs.Ythkmchgglnhmaaa.Eq
open Go.RowKit Go.Proofs.YthkmchgglnhmaaaW.PrintWords Go.Proofs.YthkmchgglnhmaaaW.PrintLast Go.Proofs.YthkmchgglnhmaaaW.PrintMore
set_option linter.unusedVariables false
set_option linter.unusedSimpArgs false

/-- What is left behind n more. -/
def Sz (left : Int) (n : Nat) (r : Int) : Prop := ((n : Int) ≤ left ∧ r = left - n) ∨ (left < n ∧ r = -1)
def szT (x : Task) : Nat := x.regs.length + x.old.length + x.reads.length + x.puts.length
def szE (x : Entry) : Nat := x.reads.length + x.puts.length
def sumOf {α : Type} (f : α → Nat) (l : List α) : Nat := (l.map f).sum
theorem sumOf_take {α : Type} (f : α → Nat) (l : List α) (k : Nat) (z : α) (h : k < l.length) : sumOf f (l.take (k + 1)) = sumOf f (l.take k) + f (l.getD k z) := by
  unfold sumOf
  rw [List.take_succ_eq_append_getElem h, List.map_append, List.sum_append]
  simp [List.getD_eq_getElem?_getD, List.getElem?_eq_getElem h]
theorem sumOf_le {α : Type} (f : α → Nat) (l : List α) (k : Nat) : sumOf f (l.take k) ≤ sumOf f l := by
  unfold sumOf
  conv => rhs; rw [← List.take_append_drop k l]
  rw [List.map_append, List.sum_append]
  omega

theorem szIntS_calls (n c : Nat) (A : Option Addr) (left : Int) (w : World) (h0 : 0 ≤ left) (h1 : left ≤ 1048576) (hn : n ≤ 9223372036854775807) :
    Calls Try.prog 51 #[.slice A n c, .int .i64 left] w fun e w' => ∃ r, e = .returned (.int .i64 r) ∧ Sz left n r ∧ w = w' := by
  go_enter Try.func51, Try.ntmps51
  go_wp2
  all_goals (go_ret; exact ⟨_, rfl, by unfold Sz; omega, rfl⟩)
theorem szPutS_calls (n c : Nat) (A : Option Addr) (left : Int) (w : World) (h0 : 0 ≤ left) (h1 : left ≤ 1048576) (hn : n ≤ 9223372036854775807) :
    Calls Try.prog 52 #[.slice A n c, .int .i64 left] w fun e w' => ∃ r, e = .returned (.int .i64 r) ∧ Sz left n r ∧ w = w' := by
  go_enter Try.func52, Try.ntmps52
  go_wp2
  all_goals (go_ret; exact ⟨_, rfl, by unfold Sz; omega, rfl⟩)
theorem szCellS_calls (n c : Nat) (A : Option Addr) (left : Int) (w : World) (h0 : 0 ≤ left) (h1 : left ≤ 1048576) (hn : n ≤ 9223372036854775807) :
    Calls Try.prog 25 #[.slice A n c, .int .i64 left] w fun e w' => ∃ r, e = .returned (.int .i64 r) ∧ Sz left n r ∧ w = w' := by
  go_enter Try.func25, Try.ntmps25
  go_wp2
  all_goals (go_ret; exact ⟨_, rfl, by unfold Sz; omega, rfl⟩)
set_option maxHeartbeats 1000000 in
set_option maxRecDepth 100000 in
theorem szTask_calls (x : Task) (cs : List Value) (left : Int) (w : World) (hx : kTaskL.K w x cs) (h0 : 0 ≤ left) (h1 : left ≤ 1048576) :
    Calls Try.prog 42 #[.agg cs.toArray, .int .i64 left] w fun e w' => ∃ r, e = .returned (.int .i64 r) ∧ Sz left (szT x) r ∧ Below w.heap.size w w' := by
  obtain ⟨A3, c3, A8, c8, A9, c9, A10, c10, rfl, l3, g3, l8, g8, l9, g9, l10, g10⟩ := kTaskL_open hx
  have m3 := Kd.C_max g3
  have m8 := Kd.C_max g8
  have m9 := Kd.C_max g9
  have m10 := Kd.C_max g10
  clear g3 g8 g9 g10 l3 l8 l9 l10 hx
  go_enter Try.func42, Try.ntmps42
  go_wp2_with (first
    | (go_at_call 51; refine (szIntS_calls _ _ _ _ _ (by first | omega | (unfold Sz at *; omega)) (by first | omega | (unfold Sz at *; omega)) (by assumption)).mono ?_; rintro e w1 ⟨r, rfl, hs, rfl⟩)
    | (go_at_call 52; refine (szPutS_calls _ _ _ _ _ (by first | omega | (unfold Sz at *; omega)) (by first | omega | (unfold Sz at *; omega)) (by assumption)).mono ?_; rintro e w1 ⟨r, rfl, hs, rfl⟩))
  all_goals (go_ret; exact ⟨_, rfl, by unfold Sz szT at *; omega, by repeat (first | exact Below.refl _ _ | apply below_alloc)⟩)
set_option maxHeartbeats 1000000 in
set_option maxRecDepth 100000 in
theorem szEntry_calls (x : Entry) (cs : List Value) (left : Int) (w : World) (hx : kEntryL.K w x cs) (h0 : 0 ≤ left) (h1 : left ≤ 1048576) :
    Calls Try.prog 43 #[.agg cs.toArray, .int .i64 left] w fun e w' => ∃ r, e = .returned (.int .i64 r) ∧ Sz left (szE x) r ∧ Below w.heap.size w w' := by
  obtain ⟨A3, c3, A8, c8, rfl, l3, g3, l8, g8⟩ := kEntryL_open hx
  have m3 := Kd.C_max g3
  have m8 := Kd.C_max g8
  clear g3 g8 l3 l8 hx
  go_enter Try.func43, Try.ntmps43
  go_wp2_with (first
    | (go_at_call 52; refine (szPutS_calls _ _ _ _ _ (by first | omega | (unfold Sz at *; omega)) (by first | omega | (unfold Sz at *; omega)) (by assumption)).mono ?_; rintro e w1 ⟨r, rfl, hs, rfl⟩))
  all_goals (go_ret; exact ⟨_, rfl, by unfold Sz szE at *; omega, by repeat (first | exact Below.refl _ _ | apply below_alloc)⟩)
set_option maxHeartbeats 1000000 in
set_option maxRecDepth 100000 in
theorem szTaskS_calls (xs : List Task) (A : Option Addr) (c : Nat) (left : Int) (w : World) (hx : kTaskL.C w A xs.length xs) (h0 : 0 ≤ left) (h1 : left ≤ 1048576) :
    Calls Try.prog 26 #[.slice A xs.length c, .int .i64 left] w fun e w' => ∃ r, e = .returned (.int .i64 r) ∧ Sz left (xs.length + sumOf szT xs) r ∧ Below w.heap.size w w' := by
  have hm := Kd.C_max hx
  have HX := Aside0.mk hx
  clear hx
  go_enter Try.func26, Try.ntmps26
  by_cases h : left < xs.length
  · have hb : decide (left - (xs.length : Int) < 0) = true := decide_eq_true (by omega)
    go_wp2
    go_ret
    exact ⟨_, rfl, by unfold Sz; omega, Below.refl _ _⟩
  · have hb : decide (left - (xs.length : Int) < 0) = false := decide_eq_false (by omega)
    go_wp2
    go_loopw [1, 5] (fun l v w' => ∃ (k : Nat) (r : Int), k ≤ xs.length ∧ v = .int .i64 k ∧ l = .int .i64 r ∧ 0 ≤ r ∧ r ≤ 1048576 ∧ Aside0 (r = left - xs.length - sumOf szT (xs.take k)) ∧ Aside0 (Below w.heap.size w w')) (fun _ v _ => xs.length - (intOf v).toNat)
    case atStart => exact ⟨0, _, Nat.zero_le _, rfl, rfl, by omega, by omega, ⟨by simp [sumOf]⟩, ⟨Below.refl _ _⟩⟩
    case round =>
      obtain ⟨k, r, hk, rfl, rfl, hr0, hr1, HR, HB⟩ := hrel
      by_cases hlt : k < xs.length
      · obtain ⟨ad, cs, rfl, hcl, hK, hcc⟩ := Kd.C_get (Kd.C_below HX.out HB.out) zTask (k : Int) (by omega) (by omega)
        have q0 : (0 : Int) ≤ (k : Int) := by omega
        have q1 : (k : Int) < (xs.length : Int) := by omega
        simp only [Int.toNat_natCast] at hK hcc
        have HK := Aside0.mk hK
        have HCC := Aside0.mk hcc
        clear hK hcc
        have HT := Aside0.mk (sumOf_take szT xs k zTask hlt)
        go_wp2_with (first
          | ((with_reducible refine gate_dst (N := 21) rfl ?_); refine load_struct rfl 70 (.tmp 20) rfl ad (k * 13) rfl cs _ HCC.out (by rw [hcl]; decide) Try.underlying70 rfl (by rw [hcl]; kernel_rfl) ?_)
          | (go_at_call 42; refine (szTask_calls _ _ _ _ HK.out (by omega) (by omega)).mono ?_; rintro e w1 ⟨r1, rfl, hs, hb⟩; have HB1 := Aside0.mk (below_step HB.out hb); clear HB hb))
        · go_ret
          have hle := sumOf_le szT xs (k + 1)
          exact ⟨_, rfl, by have := HR.out; have := HT.out; unfold Sz at *; omega, HB1.out⟩
        · go_roundw
          case rel => exact ⟨k + 1, r1, by omega, by go_num, rfl, by omega, by unfold Sz at *; omega, ⟨by have := HR.out; have := HT.out; unfold Sz at *; omega⟩, HB1⟩
          case measure => simp [intOf]; omega
      · go_wp2
        go_ret
        obtain rfl : k = xs.length := by omega
        exact ⟨_, rfl, by have := HR.out; rw [List.take_length] at this; unfold Sz; omega, HB.out⟩
set_option maxHeartbeats 1000000 in
set_option maxRecDepth 100000 in
theorem szEntryS_calls (xs : List Entry) (A : Option Addr) (c : Nat) (left : Int) (w : World) (hx : kEntryL.C w A xs.length xs) (h0 : 0 ≤ left) (h1 : left ≤ 1048576) :
    Calls Try.prog 27 #[.slice A xs.length c, .int .i64 left] w fun e w' => ∃ r, e = .returned (.int .i64 r) ∧ Sz left (xs.length + sumOf szE xs) r ∧ Below w.heap.size w w' := by
  have hm := Kd.C_max hx
  have HX := Aside0.mk hx
  clear hx
  go_enter Try.func27, Try.ntmps27
  by_cases h : left < xs.length
  · have hb : decide (left - (xs.length : Int) < 0) = true := decide_eq_true (by omega)
    go_wp2
    go_ret
    exact ⟨_, rfl, by unfold Sz; omega, Below.refl _ _⟩
  · have hb : decide (left - (xs.length : Int) < 0) = false := decide_eq_false (by omega)
    go_wp2
    go_loopw [1, 5] (fun l v w' => ∃ (k : Nat) (r : Int), k ≤ xs.length ∧ v = .int .i64 k ∧ l = .int .i64 r ∧ 0 ≤ r ∧ r ≤ 1048576 ∧ Aside0 (r = left - xs.length - sumOf szE (xs.take k)) ∧ Aside0 (Below w.heap.size w w')) (fun _ v _ => xs.length - (intOf v).toNat)
    case atStart => exact ⟨0, _, Nat.zero_le _, rfl, rfl, by omega, by omega, ⟨by simp [sumOf]⟩, ⟨Below.refl _ _⟩⟩
    case round =>
      obtain ⟨k, r, hk, rfl, rfl, hr0, hr1, HR, HB⟩ := hrel
      by_cases hlt : k < xs.length
      · obtain ⟨ad, cs, rfl, hcl, hK, hcc⟩ := Kd.C_get (Kd.C_below HX.out HB.out) zEntry (k : Int) (by omega) (by omega)
        have q0 : (0 : Int) ≤ (k : Int) := by omega
        have q1 : (k : Int) < (xs.length : Int) := by omega
        simp only [Int.toNat_natCast] at hK hcc
        have HK := Aside0.mk hK
        have HCC := Aside0.mk hcc
        clear hK hcc
        have HT := Aside0.mk (sumOf_take szE xs k zEntry hlt)
        go_wp2_with (first
          | ((with_reducible refine gate_dst (N := 21) rfl ?_); refine load_struct rfl 73 (.tmp 20) rfl ad (k * 6) rfl cs _ HCC.out (by rw [hcl]; decide) Try.underlying73 rfl (by rw [hcl]; kernel_rfl) ?_)
          | (go_at_call 43; refine (szEntry_calls _ _ _ _ HK.out (by omega) (by omega)).mono ?_; rintro e w1 ⟨r1, rfl, hs, hb⟩; have HB1 := Aside0.mk (below_step HB.out hb); clear HB hb))
        · go_ret
          have hle := sumOf_le szE xs (k + 1)
          exact ⟨_, rfl, by have := HR.out; have := HT.out; unfold Sz at *; omega, HB1.out⟩
        · go_roundw
          case rel => exact ⟨k + 1, r1, by omega, by go_num, rfl, by omega, by unfold Sz at *; omega, ⟨by have := HR.out; have := HT.out; unfold Sz at *; omega⟩, HB1⟩
          case measure => simp [intOf]; omega
      · go_wp2
        go_ret
        obtain rfl : k = xs.length := by omega
        exact ⟨_, rfl, by have := HR.out; rw [List.take_length] at this; unfold Sz; omega, HB.out⟩

def szS (s : Sys) : Nat := s.cells.length + (s.tasks.length + sumOf szT s.tasks) + (s.log.length + sumOf szE s.log)
set_option maxHeartbeats 1000000 in
theorem szSys_calls (x : Sys) (cs : List Value) (left : Int) (w : World) (hx : kSysL.K w x cs) (h0 : 0 ≤ left) (h1 : left ≤ 1048576) :
    Calls Try.prog 8 #[.agg cs.toArray, .int .i64 left] w fun e w' => ∃ r, e = .returned (.int .i64 r) ∧ Sz left (szS x) r ∧ Below w.heap.size w w' := by
  obtain ⟨A0, c0, A1, c1, A3, c3, rfl, l0, g0, l1, g1, l3, g3⟩ := kSysL_open hx
  have m0 := Kd.C_max g0
  have HB := Aside0.mk (Below.refl w.heap.size w)
  have G := Aside0.mk (And.intro g1 g3)
  clear g0 g1 g3 l0 l1 l3 hx
  go_enter Try.func8, Try.ntmps8
  go_wp2_with (first
    | (go_at_call 25; refine (szCellS_calls _ _ _ _ _ (by omega) (by omega) (by assumption)).mono ?_; rintro e w1 ⟨r, rfl, hs, rfl⟩)
    | (go_at_call 26; refine (szTaskS_calls _ _ _ _ _ ?h1 (by omega) (by unfold Sz at *; omega)).mono ?_; (case h1 => exact Kd.C_below G.out.1 (by repeat (first | with_reducible exact HB.out | apply below_alloc))); rintro e w1 ⟨r, rfl, hs1, hb⟩; have HB1 := Aside0.mk (below_step (by repeat (first | with_reducible exact HB.out | apply below_alloc)) hb); clear HB; have HB := HB1; clear HB1; have hz := bsize hb; (try simp at hz); have q0 : w.heap.size < w1.heap.size := (by omega); clear hz; obtain ⟨hc, hf⟩ := bcell hb; clear hb)
    | (go_at_call 27; refine (szEntryS_calls _ _ _ _ _ ?h1 (by omega) (by unfold Sz at *; omega)).mono ?_; (case h1 => exact Kd.C_below G.out.2 (by repeat (first | with_reducible exact HB.out | apply below_alloc))); rintro e w1 ⟨r, rfl, hs2, hb⟩; have HB1 := Aside0.mk (below_step (by repeat (first | with_reducible exact HB.out | apply below_alloc)) hb); clear HB; have HB := HB1; clear HB1 hb))
  all_goals (go_ret; exact ⟨_, rfl, by unfold Sz szS at *; omega, by repeat (first | with_reducible exact HB.out | apply below_alloc)⟩)
end Go.Proofs.Ythkmchgglnhmaaa.Eq
