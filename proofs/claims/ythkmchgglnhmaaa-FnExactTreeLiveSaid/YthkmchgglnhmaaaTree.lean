import Derived.Test.YthkmchgglnhmaaaBase
/- What the trees' functions answer, as plain functions; the small callees. -/
namespace Go.Proofs.Ythkmchgglnhmaaa.Eq
open Go.RowKit Go.Proofs.YthkmchgglnhmaaaW.PrintWords Go.Proofs.YthkmchgglnhmaaaW.PrintLast Go.Proofs.YthkmchgglnhmaaaW.PrintMore
set_option linter.unusedVariables false
set_option linter.unusedSimpArgs false
/-- The places below k at which p holds, ascending. -/
def pickTo (p : Nat → Bool) (k : Nat) : List Int := ((List.range k).filter p).map fun (i : Nat) => (i : Int)
theorem pickTo_zero (p : Nat → Bool) : pickTo p 0 = [] := rfl
theorem pickTo_yes {p : Nat → Bool} {k : Nat} (h : p k = true) : pickTo p (k + 1) = pickTo p k ++ [(k : Int)] := by
  simp [pickTo, List.range_succ, List.filter_append, h]
theorem pickTo_no {p : Nat → Bool} {k : Nat} (h : p k = false) : pickTo p (k + 1) = pickTo p k := by
  simp [pickTo, List.range_succ, List.filter_append, h]
theorem pickTo_length (p : Nat → Bool) (k : Nat) : (pickTo p k).length ≤ k := by
  simp only [pickTo, List.length_map]
  exact Nat.le_trans (List.length_filter_le _ _) (by simp)
def taskAt (ts : List Task) (i : Nat) : Task := ts.getD i zTask
def isKid (ts : List Task) (task : Int) (i : Nat) : Bool := decide (0 ≤ task) && decide ((taskAt ts i).up = task) && decide (task < (i : Int))
def kids (ts : List Task) (task : Int) : List Int := pickTo (isKid ts task) ts.length
def isLive (t : Task) : Bool := decide (t.way = 0) || decide (t.way = 1)
def liveIn (ts : List Task) : List Int := pickTo (fun i => isLive (taskAt ts i)) ts.length
/-- Below that place there are no kids. -/
theorem pickTo_none {p : Nat → Bool} {k : Nat} (h : ∀ i, i < k → p i = false) : pickTo p k = [] := by
  induction k with
  | zero => rfl
  | succ k ih => rw [pickTo_no (h k (by omega)), ih (fun i hi => h i (by omega))]
theorem kids_out {ts : List Task} {task : Int} (h : ¬ (0 ≤ task ∧ task < ts.length)) : kids ts task = [] := by
  refine pickTo_none (fun i hi => ?_)
  unfold isKid
  by_cases h0 : 0 ≤ task
  · have : ¬ task < (i : Int) := by omega
    simp [this]
  · simp [h0]

theorem info_int : (Try.prog.info? 3).map (fun i => (i.zero, i.size, i.bytes)) = some (some (.int .i64 0), 1, 8) := by kernel_rfl

theorem isPlace_calls (a n : Int) (w : World) : Calls Try.prog 32 #[.int .i64 a, .int .i64 n] w fun e w' => e = .returned (.bool (decide (0 ≤ a) && decide (a < n))) ∧ w = w' := by
  by_cases h : 0 ≤ a
  · have hb : decide (0 ≤ a) = true := decide_eq_true h
    go_enter Try.func32, Try.ntmps32
    go_wp2
    go_ret
    exact ⟨by simp [h], rfl⟩
  · have hb : decide (0 ≤ a) = false := decide_eq_false h
    go_enter Try.func32, Try.ntmps32
    go_wp2
    go_ret
    exact ⟨by simp [h], rfl⟩
theorem l6In_calls (a l h : Int) (w : World) : Calls Try.prog 28 #[.int .i64 a, .int .i64 l, .int .i64 h] w fun e w' => e = .returned (.bool (decide (l ≤ a) && decide (a ≤ h))) ∧ w = w' := by
  by_cases h0 : l ≤ a
  · have hb : decide (l ≤ a) = true := decide_eq_true h0
    go_enter Try.func28, Try.ntmps28
    go_wp2
    go_ret
    exact ⟨by simp [h0], rfl⟩
  · have hb : decide (l ≤ a) = false := decide_eq_false h0
    go_enter Try.func28, Try.ntmps28
    go_wp2
    go_ret
    exact ⟨by simp [h0], rfl⟩
set_option maxHeartbeats 1000000 in
theorem live_calls (x : Task) (cs : List Value) (w : World) (hx : kTask.K w x cs) :
    Calls Try.prog 37 #[.agg cs.toArray] w fun e w' => e = .returned (.bool (isLive x)) ∧ Below w.heap.size w w' := by
  obtain ⟨A3, c3, A8, c8, A9, c9, A10, c10, rfl, l3, g3, l8, g8, l9, g9, l10, g10⟩ := kTask_open hx
  clear l3 g3 l8 g8 l9 g9 l10 g10 hx
  by_cases h : x.way = 0
  · have hb : (x.way == 0) = true := by simp [h]
    have H := Aside0.mk h
    clear h
    go_enter Try.func37, Try.ntmps37
    go_wp2
    go_ret
    exact ⟨ret_bool (by simp [isLive, H.out]), below_alloc (Below.refl _ _) _⟩
  · have hb : (x.way == 0) = false := by simp [h]
    have H := Aside0.mk h
    clear h
    go_enter Try.func37, Try.ntmps37
    go_wp2
    go_ret
    exact ⟨ret_bool (by simp only [isLive, decide_eq_false H.out, Bool.false_or]; rw [Bool.eq_iff_iff]; simp), below_alloc (Below.refl _ _) _⟩
end Go.Proofs.Ythkmchgglnhmaaa.Eq
