import Derived.Test.YthkmchgglnhmaaaBase
import Derived.Deep.Slices
import Derived.Deep.Fields
import Derived.ChangeSame
import Derived.ChangeShapes
import Derived.WideShapes
/- An argument that reads as data, read as a kind: slices of structs of slices. -/
namespace Go.Proofs.Ythkmchgglnhmaaa.Eq
open Go.RowKit Go.Proofs.YthkmchgglnhmaaaW.PrintWords Go.Proofs.YthkmchgglnhmaaaW.PrintLast
open Go.ChangeShapes Go.WideShapes Go.Deep
set_option linter.unusedVariables false
section
variable {H : Type} (enc : TypeId × Value → H) (P : Program) (w : World) (base : Nat) (spare : Nat → Bool) (held : Bool)
def Opens {α : Type} (t : Nat) (d : Kd α) : Prop := ∀ (fuel : Nat) (cs : List Value) (x : DataW H × List MemPlace), DataW.trod enc P w base spare held fuel t cs = some x → ∃ a, d.K w a cs
variable {enc P w base spare held}
theorem opens_int {t : Nat} (ht : P.underlying t = some (.int .i64)) : Opens enc P w base spare held t (Kd.int .i64) := fun fuel cs x h => by
  obtain ⟨n, rfl, _⟩ := DataW.trod_int ht h
  exact ⟨n, rfl⟩
theorem choose_list {α : Type} {p : Nat → α → Prop} : ∀ (n : Nat), (∀ i, i < n → ∃ a, p i a) → ∃ xs : List α, xs.length = n ∧ ∀ i a, xs[i]? = some a → p i a
  | 0, _ => ⟨[], rfl, fun i a h => by simp at h⟩
  | n + 1, h => by
    obtain ⟨xs, h1, h2⟩ := choose_list n (fun i hi => h i (by omega))
    obtain ⟨a, ha⟩ := h n (by omega)
    refine ⟨xs ++ [a], by simp [h1], fun i b hb => ?_⟩
    rw [List.getElem?_append] at hb
    split at hb
    · exact h2 i b hb
    · have : i = n := by
        have := (List.getElem?_eq_some_iff.1 hb).1
        simp at this
        omega
      subst this
      rw [h1, Nat.sub_self] at hb
      cases hb
      exact ha
theorem opens_slice {α : Type} {t e e' : Nat} {d : Kd α} (ht : P.underlying t = some (.slice e)) (hC : P.cellsOf e = d.sz) (hE : Opens enc P w base spare held e d) : Opens enc P w base spare held t (Kd.slice e' d) := fun fuel cs x h => by
  rcases open_slice ht h with ⟨rfl, _⟩ | ⟨a, len, cap, m, n, D, Pl, rfl, _, hl, hm, hmm, _, hi⟩
  · exact ⟨[], none, 0, rfl, Nat.le_refl _, Kd.C_nil d w⟩
  · have hlm : len ≤ m := by rw [hmm]; split <;> omega
    obtain ⟨xs, hx1, hx2⟩ := choose_list (p := fun i (b : α) => ∃ cs', w.cells? base (a.add (i * P.cellsOf e)) (P.cellsOf e) = some cs' ∧ d.K w b cs') len (fun i hlt => by
      obtain ⟨cs', h1, h2⟩ := hi i (by omega)
      obtain ⟨b, hb⟩ := hE _ _ _ h2
      exact ⟨b, cs', h1, hb⟩)
    subst hx1
    refine ⟨xs, some a, cap, rfl, hl, rfl, by unfold maxLen at hm; omega, fun _ => ⟨a, rfl, fun j p hj => ?_⟩⟩
    obtain ⟨cs', h1, h2⟩ := hx2 j p hj
    obtain ⟨_, hcl, hat⟩ := World.cells?_some h1
    refine ⟨cs', hcl.trans hC, h2, fun i u hu => ?_⟩
    have hil : i < cs'.length := (List.getElem?_eq_some_iff.1 hu).1
    have := hat i (by omega)
    rw [hu] at this
    rw [← this, ← hC, Eq.add_add_]
/-- A run of one-cell fields. -/
def OpensAt {β : Type} (enc : TypeId × Value → H) (P : Program) (w : World) (base : Nat) (spare : Nat → Bool) (held : Bool) (ts : List Nat) (d : Kd β) : Prop :=
  ∀ (n : Nat) (cs : List Value), cs.length = ts.length → (∀ j t, ts[j]? = some t → ∃ x, DataW.trod enc P w base spare held n t ((cs.drop j).take 1) = some x) → ∃ a, d.K w a cs
theorem opensAt_one {β : Type} {t : Nat} {d : Kd β} (h : Opens enc P w base spare held t d) : OpensAt enc P w base spare held [t] d := fun n cs hl hj => by
  obtain ⟨x, hx⟩ := hj 0 t rfl
  rw [List.drop_zero, List.take_of_length_le (by simp at hl; omega)] at hx
  exact h _ _ _ hx
theorem opensAt_cons {β γ : Type} {t : Nat} {ts : List Nat} {d : Kd β} {d' : Kd γ} (h : Opens enc P w base spare held t d) (k : OpensAt enc P w base spare held ts d') : OpensAt enc P w base spare held (t :: ts) (Kd.pair d d') := fun n cs hl hj => by
  match cs, hl with
  | c :: cs, hl =>
    obtain ⟨x, hx⟩ := hj 0 t rfl
    obtain ⟨a, ha⟩ := h _ _ _ hx
    obtain ⟨b, hb⟩ := k n cs (by simpa using hl) (fun j t' ht => by simpa using hj (j + 1) t' (by simpa using ht))
    exact ⟨(a, b), [c], cs, rfl, by simpa using ha, hb⟩
theorem opens_struct {β γ : Type} {t : Nat} {fs : Array Field} {ts : List Nat} {d : Kd γ} {f : β → γ} (g : γ → β) (hfg : ∀ c, f (g c) = c) (ht : P.underlying t = some (.struct fs)) (hone : oneCellFields P fs = true) (hC : P.cellsOf t = fs.size) (hts : fs.toList.map (·.type) = ts)
    (h : OpensAt enc P w base spare held ts d) : Opens enc P w base spare held t (Kd.iso d f) := fun fuel cs x hx => by
  obtain ⟨xs, n, _, _, hlen, hxl, hg⟩ := DataW.trod_struct ht hx
  have hl : ts.length = fs.size := by rw [← hts]; simp
  obtain ⟨c, hc⟩ := h n cs (by rw [hlen, hC, hl]) (fun j t' hj => by
    rw [← hts, List.getElem?_map, Option.map_eq_some_iff] at hj
    obtain ⟨fl, hfl, rfl⟩ := hj
    have hfl' : fs[j]? = some fl := by simpa using hfl
    obtain ⟨h1, h2⟩ := hone_of hone j fl hfl'
    have := hg j fl hfl'
    rw [h1, h2] at this
    have hj2 : j < fs.size := (Array.getElem?_eq_some_iff.1 hfl').1
    exact ⟨xs[j]'(by omega), this.trans (List.getElem?_eq_getElem (by omega))⟩)
  exact ⟨g c, show d.K w (f (g c)) cs by rw [hfg]; exact hc⟩
end
end Go.Proofs.Ythkmchgglnhmaaa.Eq
