/- Copies; a tab without a hand's edits. -/
import Derived.Test.YtakmoigpjaceeaaDoorFnG
import Derived.Test.YtakmoigpjaceeaaDoorAeO
namespace Go.Proofs.YtakmoigpjaceeaaDoor
open Go Go.ChangeShapes Go.WideShapes Go.ChangeAt Go.RowKit
set_option linter.unusedVariables false
set_option maxRecDepth 100000

theorem rd_shape {S : Store} {k : Nat} {xs : List (List D)} {c : C} (h : Rd S [.sl k xs] [c]) : (c = .nil ∧ xs = []) ∨ (c = .zc ∧ xs = []) ∨ ∃ id o n t, c = .sl id o n t := by
  obtain ⟨ids, h⟩ := h.one
  unfold Rep at h
  rcases h.2 with ⟨h1, h2, _⟩ | ⟨id, o, t, row, js, h1, _⟩
  · rcases h2 with h2 | h2
    · exact .inl ⟨h2, h1⟩
    · exact .inr (.inl ⟨h2, h1⟩)
  · exact .inr (.inr ⟨_, _, _, _, h1⟩)
theorem Rep2.flat {q : Bool} {S : Store} {α : Type} {f : α → List D} (hf : ∀ x, Flat (f x)) : ∀ {l : List α} {rows : List (List C)} {ids : List Nat}, Rep2 q S (l.map f) rows ids → rows = l.map fun x => flatC (f x)
  | [], rows, ids, h => by rw [List.map_nil, rep2_nil] at h; exact h.1
  | x :: l, rows, ids, h => by
    rw [List.map_cons, rep2_cons] at h
    obtain ⟨cs, rows', i, j, h1, h2, h3, h4⟩ := h
    rw [h1, (h3.flat (hf x)).1, Rep2.flat hf h4]; rfl
theorem rd_elemsf {S : Store} {α : Type} {f : α → List D} {k : Nat} {l : List α} {c : C} {K : List (List C) → Prop} (h : Rd S [.sl k (l.map f)] [c]) (hf : ∀ x, Flat (f x)) (hK : l.length ≤ 9223372036854775807 → K (l.map fun x => flatC (f x))) : ElemsP S c K := by
  obtain ⟨ids, h⟩ := h.one
  obtain ⟨rows, js, h1, h2, h3, h4⟩ := h.elems
  unfold ElemsP
  refine ⟨rows, h1, ?_⟩
  rw [h2.flat hf]
  exact hK (by rw [List.length_map, maxLen_eq] at h4; exact h4)
theorem fr_clone {S : Store} {α : Type} {f : α → List D} {k by' : Nat} {l : List α} {K : C → Store → Prop} (hf : ∀ x, Flat (f x)) (hk : ∀ x, (f x).length = k) (hb : l.length * by' ≤ 140737488355328) (hm : l.length ≤ 9223372036854775807)
    (hK : ∀ c' S', Ext S S' → Fr S.length S' [.sl k (l.map f)] [c'] → K c' S') : AppP k by' (S ++ [⟨true, k, []⟩]) (.sl S.length 0 0 0) (l.map fun x => flatC (f x)) K :=
  fr_app_flat (S0 := S) (l := []) (m := l) hf (Ext.push _ _) fr_lit0 rfl hk (by simpa using hb) (by rw [maxLen_eq]; simpa using hm) fun c' S' h1 h2 _ => hK c' S' h1 h2
/-- one slice of an aggregate is exchanged for another, that was made later -/
theorem In.set {S : Store} {lo hi a b : Nat} {e : List D} {cs : List C} {off : Nat} {d d' : D} {c' : C} (h : In lo hi S e cs) (ho : e[off]? = some d) (h2 : In a b S [d'] [c']) (h1 : lo ≤ hi) (hab : hi ≤ a) (hb : hi ≤ b) : In lo b S (e.set off d') (cs.set off c') := by
  obtain ⟨ids, h, hn, hl⟩ := h
  obtain ⟨j, g, gn, gl⟩ := h2.one
  obtain ⟨c0, x, m, y, k1, k2, k3, k4⟩ := h.setAt off _ ho
  subst k2
  refine ⟨x ++ j ++ y, k4 (fun _ _ => rfl) g, ?_, fun id hi' => ?_⟩
  · simp only [List.nodup_append, List.mem_append] at hn ⊢
    obtain ⟨⟨b1, b2, b3⟩, b4, b5⟩ := hn
    have far : ∀ i, (i ∈ x ∨ i ∈ y) → ∀ i', i' ∈ j → i ≠ i' := fun i hi i' hj e => by
      have h1 := hl i (by rcases hi with hi | hi <;> simp [hi])
      have h2 := gl i' hj
      omega
    refine ⟨⟨b1, gn, fun i hi i' hj => far i (.inl hi) i' hj⟩, b4, fun i hi i' hj => ?_⟩
    rcases hi with hi | hi
    · exact b5 i (.inl hi) i' hj
    · exact fun e => far i' (.inr hj) i hi e.symm
  · rcases List.mem_append.1 hi' with hi' | hi'
    · rcases List.mem_append.1 hi' with hi' | hi'
      · have := hl id (by simp [hi']); omega
      · have := gl id hi'; omega
    · have := hl id (by simp [hi']); omega
theorem In.fr {S : Store} {lo hi : Nat} {ds : List D} {cs : List C} (h : In lo hi S ds cs) : Fr lo S ds cs := by
  obtain ⟨ids, h, h1, h2⟩ := h
  exact ⟨ids, h, h1, fun id hi => (h2 id hi).1⟩
def tabWithout (t : GTab) (by' : Int) : GTab := { t with Edits := t.Edits.filter (edNot by') }
end Go.Proofs.YtakmoigpjaceeaaDoor
