import Derived.Test.YthkmchgglnhmaaaTree
/- The walk over a tree of tasks, as a plain function: each task once. -/
namespace Go.Proofs.Ythkmchgglnhmaaa.Eq
set_option linter.unusedVariables false
set_option linter.unusedSimpArgs false

theorem mem_pickTo {p : Nat → Bool} {k : Nat} {x : Int} : x ∈ pickTo p k ↔ ∃ i : Nat, i < k ∧ p i = true ∧ x = (i : Int) := by
  simp only [pickTo, List.mem_map, List.mem_filter, List.mem_range]
  constructor
  · rintro ⟨i, ⟨h1, h2⟩, rfl⟩; exact ⟨i, h1, h2, rfl⟩
  · rintro ⟨i, h1, h2, rfl⟩; exact ⟨i, ⟨h1, h2⟩, rfl⟩
theorem mem_kids {ts : List Task} {t x : Int} : x ∈ kids ts t ↔ ∃ i : Nat, i < ts.length ∧ 0 ≤ t ∧ (taskAt ts i).up = t ∧ t < (i : Int) ∧ x = (i : Int) := by
  simp only [kids, mem_pickTo, isKid, Bool.and_eq_true, decide_eq_true_eq]
  constructor
  · rintro ⟨i, h1, ⟨⟨h2, h3⟩, h4⟩, rfl⟩; exact ⟨i, h1, h2, h3, h4, rfl⟩
  · rintro ⟨i, h1, h2, h3, h4, rfl⟩; exact ⟨i, h1, ⟨⟨h2, h3⟩, h4⟩, rfl⟩
theorem pickTo_sorted (p : Nat → Bool) (k : Nat) : (pickTo p k).Pairwise (· < ·) := by
  unfold pickTo
  rw [List.pairwise_map]
  exact List.Pairwise.imp (fun h => by omega) (List.Pairwise.filter _ List.pairwise_lt_range)

/-- A task, and all that hang below it, each ahead of its own. -/
def walkF (ts : List Task) : Nat → Int → List Int
  | 0, _ => []
  | f + 1, t => t :: ((kids ts t).map (walkF ts f)).flatten
theorem walkF_more {ts : List Task} : ∀ (f : Nat) (t : Int), 0 ≤ t → (ts.length : Int) ≤ t + f → t < ts.length → walkF ts (f + 1) t = walkF ts f t
  | 0, t, h0, h, h1 => by omega
  | f + 1, t, h0, h, h1 => by
    unfold walkF
    congr 1
    congr 1
    apply List.map_congr_left
    intro x hx
    obtain ⟨i, hi, _, _, hlt, rfl⟩ := mem_kids.1 hx
    exact walkF_more f i (by omega) (by omega) (by omega)
theorem walkF_enough {ts : List Task} {f : Nat} {t : Int} (d : Nat) (h0 : 0 ≤ t) (h : (ts.length : Int) ≤ t + f) (h1 : t < ts.length) : walkF ts (f + d) t = walkF ts f t := by
  induction d with
  | zero => rfl
  | succ d ih => rw [← Nat.add_assoc, walkF_more (f + d) t h0 (by omega) h1, ih]
def walkOf (ts : List Task) (t : Int) : List Int := walkF ts ts.length t
theorem walkOf_eq {ts : List Task} {t : Int} (h0 : 0 ≤ t) (h1 : t < ts.length) : walkOf ts t = t :: ((kids ts t).map (walkOf ts)).flatten := by
  unfold walkOf
  obtain ⟨n, hn⟩ : ∃ n, ts.length = n + 1 := ⟨ts.length - 1, by omega⟩
  conv => lhs; rw [hn]; unfold walkF
  congr 1
  congr 1
  apply List.map_congr_left
  intro x hx
  obtain ⟨i, hi, _, _, hlt, rfl⟩ := mem_kids.1 hx
  rw [hn]
  exact (walkF_enough 1 (by omega) (by omega) (by omega)).symm
def isRoot (ts : List Task) (i : Nat) : Bool := decide ((taskAt ts i).up = -1)
def walkTo (ts : List Task) (k : Nat) : List Int := ((pickTo (isRoot ts) k).map (walkOf ts)).flatten
def walkAll (ts : List Task) : List Int := walkTo ts ts.length

/-- What lies on the walk from t is t, or its own up lies there too, ahead of it. -/
theorem walkF_mem {ts : List Task} : ∀ (f : Nat) (t : Int), 0 ≤ t → t < ts.length → ∀ x, x ∈ walkF ts f t → t ≤ x ∧ x < ts.length ∧ (x = t ∨ ((taskAt ts x.toNat).up ∈ walkF ts f t ∧ (taskAt ts x.toNat).up < x ∧ t ≤ (taskAt ts x.toNat).up))
  | 0, t, h0, h1, x, hx => by simp [walkF] at hx
  | f + 1, t, h0, h1, x, hx => by
    unfold walkF at hx ⊢
    rcases List.mem_cons.1 hx with rfl | hx
    · exact ⟨by omega, h1, .inl rfl⟩
    · obtain ⟨l, hl, hxl⟩ := List.mem_flatten.1 hx
      obtain ⟨y, hy, rfl⟩ := List.mem_map.1 hl
      obtain ⟨i, hi, _, hup, hlt, rfl⟩ := mem_kids.1 hy
      obtain ⟨a1, a2, a3⟩ := walkF_mem f (i : Int) (by omega) (by omega) x hxl
      refine ⟨by omega, a2, .inr ?_⟩
      rcases a3 with rfl | ⟨b1, b2, b3⟩
      · rw [Int.toNat_natCast, hup]
        exact ⟨List.mem_cons_self, by omega, by omega⟩
      · exact ⟨List.mem_cons_of_mem _ (List.mem_flatten.2 ⟨_, List.mem_map.2 ⟨_, hy, rfl⟩, b1⟩), b2, by omega⟩
/-- Two walks that meet: one's head lies on the other. -/
theorem walk_meet {ts : List Task} {f g : Nat} {a b : Int} (ha : 0 ≤ a) (ha' : a < ts.length) (hb : 0 ≤ b) (hb' : b < ts.length) : ∀ (n : Nat) (x : Int), x.toNat < n → x ∈ walkF ts f a → x ∈ walkF ts g b → a ∈ walkF ts g b ∨ b ∈ walkF ts f a
  | 0, x, h, _, _ => by omega
  | n + 1, x, h, h1, h2 => by
    obtain ⟨p1, p2, p3⟩ := walkF_mem f a ha ha' x h1
    obtain ⟨q1, q2, q3⟩ := walkF_mem g b hb hb' x h2
    rcases p3 with rfl | ⟨p3, p4, p5⟩
    · exact .inl h2
    · rcases q3 with rfl | ⟨q3, q4, q5⟩
      · exact .inr h1
      · exact walk_meet ha ha' hb hb' n _ (by omega) p3 q3
theorem walk_kids_apart {ts : List Task} {f : Nat} {t : Int} {a b : Int} (ha : a ∈ kids ts t) (hb : b ∈ kids ts t) (hne : a ≠ b) {x : Int} (h1 : x ∈ walkF ts f a) (h2 : x ∈ walkF ts f b) : False := by
  obtain ⟨i, hi, h0, hui, hti, rfl⟩ := mem_kids.1 ha
  obtain ⟨j, hj, _, huj, htj, rfl⟩ := mem_kids.1 hb
  rcases walk_meet (by omega) (by omega) (by omega) (by omega) _ x (Nat.lt_succ_self _) h1 h2 with h | h
  · obtain ⟨_, _, h3⟩ := walkF_mem f (j : Int) (by omega) (by omega) _ h
    rcases h3 with h3 | ⟨_, _, h5⟩
    · exact hne h3
    · rw [Int.toNat_natCast, hui] at h5; omega
  · obtain ⟨_, _, h3⟩ := walkF_mem f (i : Int) (by omega) (by omega) _ h
    rcases h3 with h3 | ⟨_, _, h5⟩
    · exact hne h3.symm
    · rw [Int.toNat_natCast, huj] at h5; omega
theorem nodup_flat {α : Type} {β : Type} {g : α → List β} : ∀ {l : List α}, (∀ x ∈ l, (g x).Nodup) → l.Pairwise (fun a b => ∀ x, x ∈ g a → x ∈ g b → False) → ((l.map g).flatten).Nodup
  | [], _, _ => by simp
  | a :: l, h1, h2 => by
    rw [List.map_cons, List.flatten_cons, List.nodup_append]
    rw [List.pairwise_cons] at h2
    refine ⟨h1 a List.mem_cons_self, nodup_flat (fun x hx => h1 x (List.mem_cons_of_mem _ hx)) h2.2, fun x hx y hy he => ?_⟩
    subst he
    obtain ⟨m, hm, hxm⟩ := List.mem_flatten.1 hy
    obtain ⟨b, hb, rfl⟩ := List.mem_map.1 hm
    exact h2.1 b hb x hx hxm
theorem walkF_nodup {ts : List Task} : ∀ (f : Nat) (t : Int), 0 ≤ t → t < ts.length → (walkF ts f t).Nodup
  | 0, t, _, _ => by simp [walkF]
  | f + 1, t, h0, h1 => by
    unfold walkF
    rw [List.nodup_cons]
    constructor
    · intro h
      obtain ⟨l, hl, hx⟩ := List.mem_flatten.1 h
      obtain ⟨y, hy, rfl⟩ := List.mem_map.1 hl
      obtain ⟨i, hi, _, _, hlt, rfl⟩ := mem_kids.1 hy
      have := (walkF_mem f (i : Int) (by omega) (by omega) _ hx).1
      omega
    · refine nodup_flat (fun x hx => ?_) ?_
      · obtain ⟨i, hi, _, _, hlt, rfl⟩ := mem_kids.1 hx
        exact walkF_nodup f i (by omega) (by omega)
      · refine List.Pairwise.imp_of_mem (fun {a b} ha hb hab x h1 h2 => ?_) (pickTo_sorted (isKid ts t) ts.length)
        exact walk_kids_apart ha hb (by omega) h1 h2
theorem walkAll_nodup (ts : List Task) : (walkAll ts).Nodup := by
  unfold walkAll walkTo
  refine nodup_flat (fun x hx => ?_) ?_
  · obtain ⟨i, hi, _, rfl⟩ := mem_pickTo.1 hx
    exact walkF_nodup _ _ (by omega) (by omega)
  · refine List.Pairwise.imp_of_mem (fun {a b} ha hb hab x h1 h2 => ?_) (pickTo_sorted (isRoot ts) ts.length)
    obtain ⟨i, hi, hri, rfl⟩ := mem_pickTo.1 ha
    obtain ⟨j, hj, hrj, rfl⟩ := mem_pickTo.1 hb
    simp only [isRoot, decide_eq_true_eq] at hri hrj
    rcases walk_meet (by omega) (by omega) (by omega) (by omega) _ x (Nat.lt_succ_self _) h1 h2 with h | h
    · obtain ⟨_, _, h3⟩ := walkF_mem ts.length (j : Int) (by omega) (by omega) _ h
      rcases h3 with h3 | ⟨_, _, h5⟩
      · omega
      · rw [Int.toNat_natCast, hri] at h5; omega
    · obtain ⟨_, _, h3⟩ := walkF_mem ts.length (i : Int) (by omega) (by omega) _ h
      rcases h3 with h3 | ⟨_, _, h5⟩
      · omega
      · rw [Int.toNat_natCast, hrj] at h5; omega
/-- Numbers below n, each once: at most n. -/
theorem nodup_le : ∀ (n : Nat) (l : List Int), l.Nodup → (∀ x ∈ l, 0 ≤ x ∧ x < n) → l.length ≤ n
  | 0, l, _, h => by
    cases l with
    | nil => simp
    | cons x l => have := h x List.mem_cons_self; omega
  | n + 1, l, hd, h => by
    have h1 := nodup_le n (l.erase (n : Int)) (hd.erase _) (fun x hx => by
      have := h x (List.mem_of_mem_erase hx)
      have hne : x ≠ (n : Int) := fun e => by
        subst e
        exact (List.Nodup.not_mem_erase hd) hx
      omega)
    have h2 : l.length ≤ (l.erase (n : Int)).length + 1 := by
      rw [List.length_erase]
      split <;> omega
    omega
theorem walkAll_mem {ts : List Task} {x : Int} (h : x ∈ walkAll ts) : 0 ≤ x ∧ x < ts.length := by
  obtain ⟨l, hl, hx⟩ := List.mem_flatten.1 h
  obtain ⟨y, hy, rfl⟩ := List.mem_map.1 hl
  obtain ⟨i, hi, _, rfl⟩ := mem_pickTo.1 hy
  have := walkF_mem ts.length (i : Int) (by omega) (by omega) x hx
  omega
theorem walkAll_length (ts : List Task) : (walkAll ts).length ≤ ts.length := nodup_le _ _ (walkAll_nodup ts) (fun x hx => walkAll_mem hx)
theorem walkTo_le (ts : List Task) {k : Nat} (h : k ≤ ts.length) : (walkTo ts k).length ≤ ts.length := by
  refine Nat.le_trans ?_ (walkAll_length ts)
  unfold walkAll
  obtain ⟨d, hd⟩ : ∃ d, ts.length = k + d := ⟨ts.length - k, by omega⟩
  rw [hd]
  clear hd h
  induction d with
  | zero => exact Nat.le_refl _
  | succ d ih =>
    refine Nat.le_trans ih ?_
    rw [← Nat.add_assoc]
    unfold walkTo
    by_cases hp : isRoot ts (k + d) = true
    · rw [pickTo_yes hp]; simp
    · rw [pickTo_no (by simpa using hp)]; exact Nat.le_refl _
theorem walkTo_yes {ts : List Task} {k : Nat} (h : isRoot ts k = true) : walkTo ts (k + 1) = walkTo ts k ++ walkOf ts k := by
  unfold walkTo
  rw [pickTo_yes h]
  simp
theorem walkTo_no {ts : List Task} {k : Nat} (h : isRoot ts k = false) : walkTo ts (k + 1) = walkTo ts k := by
  unfold walkTo
  rw [pickTo_no h]
end Go.Proofs.Ythkmchgglnhmaaa.Eq
