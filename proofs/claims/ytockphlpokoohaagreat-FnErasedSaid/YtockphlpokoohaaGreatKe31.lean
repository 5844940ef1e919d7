/- Lists of numbers in order. -/
import Derived.Test.YtockphlpokoohaaGreatKe28
import Derived.Test.YtockphlpokoohaaGreatKe30
import Derived.Test.YtockphlpokoohaaGreatShelf
namespace Go.Proofs.YtockphlpokoohaaGreat
open Go Go.ChangeShapes Go.WideShapes Go.ChangeAt Go.RowKit
set_option linter.unusedVariables false
set_option linter.unusedSimpArgs false
set_option maxRecDepth 100000
def sortI (l : List Int) : List Int := l.mergeSort fun x y => decide (x ≤ y)
def ordL (l : List Int) : List Int := Lib.compact (sortI l)
theorem sortI_len (l : List Int) : (sortI l).length = l.length := List.length_mergeSort l
theorem ordL_len (l : List Int) : (ordL l).length ≤ l.length := by
  have := Lib.compact_length_le (sortI l); rw [sortI_len] at this; exact this
theorem putFold (l : List Int) : ∀ a : List Int, a.Pairwise (· < ·) → (l.foldl putI a).Pairwise (· < ·) ∧ ∀ y, y ∈ l.foldl putI a ↔ y ∈ l ∨ y ∈ a := by
  induction l with
  | nil => intro a ha; exact ⟨ha, fun y => by simp⟩
  | cons n r ih =>
    intro a ha
    obtain ⟨h1, h2⟩ := ih (putI a n) (putI_asc n ha)
    refine ⟨h1, fun y => ?_⟩
    rw [List.foldl_cons, h2 y, mem_putI, List.mem_cons]
    constructor
    · rintro (h | h | h) <;> simp [h]
    · rintro ((h | h) | h) <;> simp [h]
theorem asc_ext : ∀ {l m : List Int}, l.Pairwise (· < ·) → m.Pairwise (· < ·) → (∀ y, y ∈ l ↔ y ∈ m) → l = m
  | [], [], _, _, _ => rfl
  | [], y :: m, _, _, h => absurd ((h y).2 (List.mem_cons_self ..)) (by simp)
  | x :: l, [], _, _, h => absurd ((h x).1 (List.mem_cons_self ..)) (by simp)
  | x :: l, y :: m, hl, hm, h => by
    rw [List.pairwise_cons] at hl hm
    have exy : x = y := by
      have h1 := (h x).1 (List.mem_cons_self ..)
      have h2 := (h y).2 (List.mem_cons_self ..)
      rcases List.mem_cons.1 h1 with h1 | h1
      · exact h1
      · rcases List.mem_cons.1 h2 with h2 | h2
        · exact h2.symm
        · have := hl.1 y h2; have := hm.1 x h1; omega
    subst exy
    congr 1
    refine asc_ext hl.2 hm.2 fun y => ⟨fun hy => ?_, fun hy => ?_⟩
    · rcases List.mem_cons.1 ((h y).1 (List.mem_cons_of_mem _ hy)) with rfl | h1
      · have := hl.1 y hy; omega
      · exact h1
    · rcases List.mem_cons.1 ((h y).2 (List.mem_cons_of_mem _ hy)) with rfl | h1
      · have := hm.1 y hy; omega
      · exact h1
theorem comp_inv (s : List Int) (hs : ∀ (i j : Nat) (hi : i < s.length) (hj : j < s.length), i < j → s[i] ≤ s[j]) : ∀ m, m ≤ s.length → (Lib.compactUpTo s.toArray m).Pairwise (· < ·) ∧ (∀ y, y ∈ Lib.compactUpTo s.toArray m ↔ ∃ j, ∃ h : j < s.length, j < m ∧ s[j] = y)
  | 0, _ => by
    refine ⟨by unfold Lib.compactUpTo; simp, fun y => ⟨fun h => ?_, fun ⟨j, _, h, _⟩ => by omega⟩⟩
    unfold Lib.compactUpTo at h; simp at h
  | m + 1, hm => by
    obtain ⟨h1, h2⟩ := comp_inv s hs m (by omega)
    have hml : m < s.length := by omega
    have e1 : s.toArray[m]! = s[m] := by rw [getElem!_pos _ m (by simpa using hml)]; simp
    rw [Lib.compactUpTo_succ, e1]
    cases hk : Lib.keeps s.toArray m with
    | true =>
      rw [if_pos rfl]
      refine ⟨?_, fun y => ?_⟩
      · rw [List.pairwise_append]
        refine ⟨h1, by simp, fun a ha b hb => ?_⟩
        obtain rfl := List.mem_singleton.1 hb
        obtain ⟨j, hj, hjm, rfl⟩ := (h2 a).1 ha
        have h0 : 0 < m := by omega
        have e2 : s.toArray[m - 1]! = s[m - 1] := by rw [getElem!_pos _ (m - 1) (by simp; omega)]; simp
        have hne : s[m] ≠ s[m - 1] := by
          unfold Lib.keeps at hk
          rw [e1, e2] at hk
          have := of_decide_eq_true hk
          rcases this with h | h
          · omega
          · exact h
        have h3 : s[m - 1] ≤ s[m] := hs (m - 1) m (by omega) hml (by omega)
        have h4 : s[j] ≤ s[m - 1] := by
          by_cases e : j = m - 1
          · subst e; exact Int.le_refl _
          · exact hs j (m - 1) hj (by omega) (by omega)
        omega
      · rw [List.mem_append, h2 y, List.mem_singleton]
        constructor
        · rintro (⟨j, hj, hjm, h⟩ | h)
          · exact ⟨j, hj, by omega, h⟩
          · exact ⟨m, hml, by omega, h.symm⟩
        · rintro ⟨j, hj, hjm, h⟩
          by_cases e : j = m
          · subst e; exact .inr h.symm
          · exact .inl ⟨j, hj, by omega, h⟩
    | false =>
      rw [if_neg (by simp), List.append_nil]
      refine ⟨h1, fun y => ?_⟩
      rw [h2 y]
      have hd : ¬ (m = 0 ∨ s.toArray[m]! ≠ s.toArray[m - 1]!) := of_decide_eq_false hk
      have h0 : 0 < m := by omega
      have e2 : s.toArray[m - 1]! = s[m - 1] := by rw [getElem!_pos _ (m - 1) (by simp; omega)]; simp
      rw [e1, e2] at hd
      have he : s[m] = s[m - 1] := Classical.byContradiction fun hh => hd (.inr hh)
      constructor
      · rintro ⟨j, hj, hjm, h⟩; exact ⟨j, hj, by omega, h⟩
      · rintro ⟨j, hj, hjm, h⟩
        by_cases e : j = m
        · subst e; exact ⟨j - 1, by omega, by omega, by rw [← he]; exact h⟩
        · exact ⟨j, hj, by omega, h⟩
theorem sortI_asc (l : List Int) : (sortI l).Pairwise (· ≤ ·) := by
  have h := List.pairwise_mergeSort (le := fun x y : Int => decide (x ≤ y)) (fun a b c h1 h2 => by simp only [decide_eq_true_eq] at *; omega) (fun a b => by simp only [Bool.or_eq_true, decide_eq_true_eq]; omega) l
  exact h.imp fun h => by simpa using h
theorem ordL_put (l : List Int) : ordL l = putAll l := by
  have hp := List.pairwise_iff_getElem.1 (sortI_asc l)
  obtain ⟨h1, h2⟩ := comp_inv (sortI l) hp (sortI l).length (Nat.le_refl _)
  obtain ⟨h3, h4⟩ := putFold l [] List.Pairwise.nil
  refine asc_ext h1 h3 fun y => (h2 y).trans (Iff.trans ?_ (h4 y).symm)
  have hm : y ∈ sortI l ↔ y ∈ l := List.mem_mergeSort
  constructor
  · rintro ⟨j, hj, _, h⟩; exact .inl (hm.1 (by rw [← h]; exact List.getElem_mem _))
  · rintro (h | h)
    · obtain ⟨j, hj, e⟩ := List.mem_iff_getElem.1 (hm.2 h)
      exact ⟨j, hj, hj, e⟩
    · cases h
theorem putAll_len (l : List Int) : (putAll l).length ≤ l.length := by rw [← ordL_put]; exact ordL_len l
end Go.Proofs.YtockphlpokoohaaGreat
