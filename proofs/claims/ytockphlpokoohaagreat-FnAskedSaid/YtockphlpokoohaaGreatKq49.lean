/- From the statement's arguments to typed values; what a law is made of. -/
import Derived.Test.YtockphlpokoohaaGreatKq21
import Derived.Test.YtockphlpokoohaaGreatRows
namespace Go.Proofs.YtockphlpokoohaaGreat
open Go Go.ChangeShapes Go.WideShapes Go.ChangeAt Go.RowKit
set_option linter.unusedVariables false
set_option linter.unusedSimpArgs false
section
variable {P : Program} {S : Store}
theorem wt_int {m : Nat} {t : TypeId} {k : IntKind} {cs : List C} (ht : P.underlying t = some (.int k)) (h : WT P S m t cs) : ∃ z : Int, Rd S [.x (.int k z)] cs := by
  cases m with
  | zero => exact h.elim
  | succ m =>
    unfold WT at h
    rw [ht] at h
    obtain ⟨z, rfl, _⟩ := h
    exact ⟨z, rd_x rd_nil⟩
theorem rep2_of {α : Type} {f : α → List D} : ∀ (rows : List (List C)), (∀ x ∈ rows, ∃ y : α, Rd S (f y) x) → ∃ (l : List α) (js : List Nat), l.length = rows.length ∧ Rep2 false S (l.map f) rows js
  | [], _ => ⟨[], [], rfl, by rw [List.map_nil, rep2_nil]; exact ⟨rfl, rfl⟩⟩
  | x :: rows, h => by
    obtain ⟨y, i, hy⟩ := h x (by simp)
    obtain ⟨l, js, h1, h2⟩ := rep2_of rows (fun z hz => h z (by simp [hz]))
    exact ⟨y :: l, i ++ js, by simp [h1], by rw [List.map_cons, rep2_cons]; exact ⟨x, rows, i, js, rfl, rfl, hy, h2⟩⟩
theorem wt_slice {α : Type} {f : α → List D} {m : Nat} {t e : TypeId} {k : Nat} {cs : List C} (ht : P.underlying t = some (.slice e)) (hk : P.cellsOf e = k) (hel : ∀ m cs, WT P S m e cs → ∃ y : α, Rd S (f y) cs) (h : WT P S m t cs) : ∃ l : List α, Rd S [.sl k (l.map f)] cs := by
  cases m with
  | zero => exact h.elim
  | succ m =>
    unfold WT at h
    rw [ht] at h
    obtain ⟨c, rows, rfl, he, hl, hc, hx⟩ := h
    obtain ⟨l, js, h1, h2⟩ := rep2_of (f := f) rows fun x hx' => hel m x (hx x hx')
    rcases hc with rfl | rfl | ⟨id, rfl, hid⟩
    · have : rows = [] := by simpa [elems] using he.symm
      subst this
      have : l = [] := List.eq_nil_of_length_eq_zero h1
      subst this
      exact ⟨[], rd_one (q := false) (ids := []) (by unfold Rep; exact ⟨Nat.zero_le _, .inl ⟨rfl, .inl rfl, rfl⟩⟩)⟩
    · have : rows = [] := by simpa [elems] using he.symm
      subst this
      have : l = [] := List.eq_nil_of_length_eq_zero h1
      subst this
      exact ⟨[], rd_one (q := false) (ids := []) (by unfold Rep; exact ⟨Nat.zero_le _, .inl ⟨rfl, .inr rfl, rfl⟩⟩)⟩
    · refine ⟨l, rd_one (q := false) (ids := id :: js) ?_⟩
      unfold Rep
      refine ⟨by simpa [h1] using hl, .inr ⟨id, 0, rows.length, _, js, by simp [h1], rfl, hid, hk, rfl, by simp [h1], (by intro h; cases h), ?_⟩⟩
      simp only
      rw [List.drop_zero, List.take_of_length_le (by simp [h1])]
      exact h2
theorem vt_sc {m : Nat} {t : TypeId} {d : TypeDesc} {v : V} (ht : P.underlying t = some d) (hd : ∀ fs, d ≠ .struct fs) (h : VT P S m t v) : ∃ c, v = .s c ∧ WT P S m t [c] := by
  unfold VT at h
  rw [ht] at h
  split at h
  · rename_i fs he; cases he; exact absurd rfl (hd fs)
  · exact h
end
theorem own : ownKnob Tryz.prog.godebug = none := by kernel_rfl
theorem laidOut : laidOutB Tryz.prog = true := by kernel_rfl
end Go.Proofs.YtockphlpokoohaaGreat
