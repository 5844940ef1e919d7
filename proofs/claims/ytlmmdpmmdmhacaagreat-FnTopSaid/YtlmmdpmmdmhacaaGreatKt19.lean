/- Copies; a tab without a hand's edits. -/
import Derived.Test.YtlmmdpmmdmhacaaGreatKt18
namespace Go.Proofs.YtlmmdpmmdmhacaaGreat
open Go Go.ChangeShapes Go.WideShapes Go.ChangeAt Go.RowKit
set_option linter.unusedVariables false
set_option linter.unusedSimpArgs false
set_option maxRecDepth 100000
theorem zfj {S : Store} {k : Nat} {xs : List (List D)} {c : C} (h : Rd S [.sl k xs] [c]) : (c = .nil ∧ xs = []) ∨ (c = .zc ∧ xs = []) ∨ ∃ id o n t, c = .sl id o n t := by
 obtain ⟨ids, h⟩ := h.one
 unfold Rep at h
 rcases h.2 with ⟨h1, h2, _⟩ | ⟨id, o, t, row, js, h1, _⟩
 ·rcases h2 with h2 | h2
  ·exact .inl ⟨h2, h1⟩
  ·exact .inr (.inl ⟨h2, h1⟩)
 ·exact .inr (.inr ⟨_, _, _, _, h1⟩)
theorem Rep2.flat {q : Bool} {S : Store} {α : Type} {f : α → List D} (hf : ∀ x, Flat (f x)) : ∀ {l : List α} {rows : List (List C)} {ids : List Nat}, Rep2 q S (l.map f) rows ids → rows = l.map fun x => zdz (f x)
 | [], rows, ids, h => by rw [List.map_nil, zc6] at h; exact h.1
 | x :: l, rows, ids, h => by
   rw [List.map_cons, zbn] at h
   obtain ⟨cs, rows', i, j, h1, h2, h3, h4⟩ := h
   rw [h1, (h3.flat (hf x)).1, Rep2.flat hf h4]; rfl
theorem zaq {S : Store} {α : Type} {f : α → List D} {k : Nat} {l : List α} {c : C} {K : List (List C) → Prop} (h : Rd S [.sl k (l.map f)] [c]) (hf : ∀ x, Flat (f x)) (hK : l.length ≤ 9223372036854775807 → K (l.map fun x => zdz (f x))) : ElemsP S c K := by
 obtain ⟨ids, h⟩ := h.one
 obtain ⟨rows, js, h1, h2, h3, h4⟩ := h.elems
 unfold ElemsP
 refine ⟨rows, h1, ?_⟩
 rw [h2.flat hf]
 exact hK (by rw [List.length_map, zan] at h4; exact h4)
theorem za8 {S : Store} {α : Type} {f : α → List D} {k by' : Nat} {l : List α} {K : C → Store → Prop} (hf : ∀ x, Flat (f x)) (hk : ∀ x, (f x).length = k) (hb : l.length * by' ≤ 140737488355328) (hm : l.length ≤ 9223372036854775807)
 (hK : ∀ c' S', Ext S S' → Fr S.length S' [.sl k (l.map f)] [c'] → K c' S') : AppP k by' (S ++ [⟨true, k, []⟩]) (.sl S.length 0 0 0) (l.map fun x => zdz (f x)) K :=
 zas (S0 := S) (l := []) (m := l) hf (Ext.push _ _) zba rfl hk (by simpa using hb) (by rw [zan]; simpa using hm) fun c' S' h1 h2 _ => hK c' S' h1 h2
theorem In.set {S : Store} {lo hi a b : Nat} {e : List D} {cs : List C} {off : Nat} {d d' : D} {c' : C} (h : In lo hi S e cs) (ho : e[off]? = some d) (h2 : In a b S [d'] [c']) (h1 : lo ≤ hi) (hab : hi ≤ a) (hb : hi ≤ b) : In lo b S (e.set off d') (cs.set off c') := by
 obtain ⟨ids, h, hn, hl⟩ := h
 obtain ⟨j, g, gn, gl⟩ := h2.one
 obtain ⟨c0, x, m, y, k1, k2, k3, k4⟩ := h.setAt off _ ho
 subst k2
 refine ⟨x ++ j ++ y, k4 (fun _ _ => rfl) g, ?_, fun id hi' => ?_⟩
 ·simp only [List.nodup_append, List.mem_append] at hn ⊢
  obtain ⟨⟨b1, b2, b3⟩, b4, b5⟩ := hn
  have far : ∀ i, (i ∈ x ∨ i ∈ y) → ∀ i', i' ∈ j → i ≠ i' := fun i hi i' hj e => by
   have h1 := hl i (by rcases hi with hi | hi <;> simp [hi])
   have h2 := gl i' hj
   omega
  refine ⟨⟨b1, gn, fun i hi i' hj => far i (.inl hi) i' hj⟩, b4, fun i hi i' hj => ?_⟩
  rcases hi with hi | hi
  ·exact b5 i (.inl hi) i' hj
  ·exact fun e => far i' (.inr hj) i hi e.symm
 ·rcases List.mem_append.1 hi' with hi' | hi'
  ·rcases List.mem_append.1 hi' with hi' | hi'
   ·have := hl id (by simp [hi']); omega
   ·have := gl id hi'; omega
  ·have := hl id (by simp [hi']); omega
theorem In.fr {S : Store} {lo hi : Nat} {ds : List D} {cs : List C} (h : In lo hi S ds cs) : Fr lo S ds cs := by
 obtain ⟨ids, h, h1, h2⟩ := h
 exact ⟨ids, h, h1, fun id hi => (h2 id hi).1⟩
theorem zbq (l : List GNode) (c : C) (S : Store) (h : Rd S [.sl 5 (l.map GNode.d)] [c]) (hz : l.length ≤ 4194304) : EvA Tryz.prog 196 [.s c] S (fun r S' => Ext S S' ∧ ∃ c', r = .v (.s c') ∧ Fr S.length S' [.sl 5 (l.map GNode.d)] [c']) := by
 rcases zfj h with ⟨rfl, hx⟩ | ⟨rfl, hx⟩ | ⟨id, o, n, t, rfl⟩
 ·refine zac tok Tryz.func196 (by kernel_rfl) rfl ?_
  repeat' ((conv => whnf) <;> first
   | refine cT ?_ | refine And.intro ?_ ?_)
  all_goals first
   | rfl
   | exact Ext.refl _
   | assumption
   | exact ⟨_, rfl, by assumption⟩
   | (rw [hx]; exact ⟨_, rfl, za6 (.inl rfl)⟩)
 ·refine zac tok Tryz.func196 (by kernel_rfl) rfl ?_
  repeat' ((conv => whnf) <;> first
   | refine cF ?_ | (refine zaq (f := GNode.d) rdA tv (fun _ => ?_)) | (refine za8 (f := GNode.d) tv rf (by dsimp only [T139]; omega) om ?_; intro cX SX hEX hFX) | refine And.intro ?_ ?_)
  all_goals first
   | rfl
   | exact Ext.refl _
   | assumption
   | exact ⟨_, rfl, by assumption⟩
   | (rw [hx]; exact ⟨_, rfl, za6 (.inl rfl)⟩)
 ·refine zac tok Tryz.func196 (by kernel_rfl) rfl ?_
  repeat' ((conv => whnf) <;> first
   | refine cF ?_ | (refine zaq (f := GNode.d) rdA tv (fun _ => ?_)) | (refine za8 (f := GNode.d) tv rf (by dsimp only [T139]; omega) om ?_; intro cX SX hEX hFX) | refine And.intro ?_ ?_)
  all_goals first
   | rfl
   | exact Ext.refl _
   | assumption
   | exact ⟨_, rfl, by assumption⟩
   | (rw [hx]; exact ⟨_, rfl, za6 (.inl rfl)⟩)
theorem zsk (l : List GEdit) (c : C) (S : Store) (h : Rd S [.sl 6 (l.map GEdit.d)] [c]) (hz : l.length ≤ 4194304) : EvA Tryz.prog 245 [.s c] S (fun r S' => Ext S S' ∧ ∃ c', r = .v (.s c') ∧ Fr S.length S' [.sl 6 (l.map GEdit.d)] [c']) := by
 rcases zfj h with ⟨rfl, hx⟩ | ⟨rfl, hx⟩ | ⟨id, o, n, t, rfl⟩
 ·refine zac tok Tryz.func245 (by kernel_rfl) rfl ?_
  repeat' ((conv => whnf) <;> first
   | refine cT ?_ | refine And.intro ?_ ?_)
  all_goals first
   | rfl
   | exact Ext.refl _
   | assumption
   | exact ⟨_, rfl, by assumption⟩
   | (rw [hx]; exact ⟨_, rfl, za6 (.inl rfl)⟩)
 ·refine zac tok Tryz.func245 (by kernel_rfl) rfl ?_
  repeat' ((conv => whnf) <;> first
   | refine cF ?_ | (refine zaq (f := GEdit.d) rdA tv (fun _ => ?_)) | (refine za8 (f := GEdit.d) tv rf (by dsimp only [T87]; omega) om ?_; intro cX SX hEX hFX) | refine And.intro ?_ ?_)
  all_goals first
   | rfl
   | exact Ext.refl _
   | assumption
   | exact ⟨_, rfl, by assumption⟩
   | (rw [hx]; exact ⟨_, rfl, za6 (.inl rfl)⟩)
 ·refine zac tok Tryz.func245 (by kernel_rfl) rfl ?_
  repeat' ((conv => whnf) <;> first
   | refine cF ?_ | (refine zaq (f := GEdit.d) rdA tv (fun _ => ?_)) | (refine za8 (f := GEdit.d) tv rf (by dsimp only [T87]; omega) om ?_; intro cX SX hEX hFX) | refine And.intro ?_ ?_)
  all_goals first
   | rfl
   | exact Ext.refl _
   | assumption
   | exact ⟨_, rfl, by assumption⟩
   | (rw [hx]; exact ⟨_, rfl, za6 (.inl rfl)⟩)
theorem zjk (l : List Int) (c : C) (S : Store) (h : Rd S [.sl 1 (l.map dInt)] [c]) (hz : l.length ≤ 4194304) : EvA Tryz.prog 197 [.s c] S (fun r S' => Ext S S' ∧ ∃ c', r = .v (.s c') ∧ Fr S.length S' [.sl 1 (l.map dInt)] [c']) := by
 rcases zfj h with ⟨rfl, hx⟩ | ⟨rfl, hx⟩ | ⟨id, o, n, t, rfl⟩
 ·refine zac tok Tryz.func197 (by kernel_rfl) rfl ?_
  repeat' ((conv => whnf) <;> first
   | refine cT ?_ | refine And.intro ?_ ?_)
  all_goals first
   | rfl
   | exact Ext.refl _
   | assumption
   | exact ⟨_, rfl, by assumption⟩
   | (rw [hx]; exact ⟨_, rfl, za6 (.inl rfl)⟩)
 ·refine zac tok Tryz.func197 (by kernel_rfl) rfl ?_
  repeat' ((conv => whnf) <;> first
   | refine cF ?_ | (refine zaq (f := dInt) rdA tv (fun _ => ?_)) | (refine za8 (f := dInt) tv rf (by dsimp only [T3]; omega) om ?_; intro cX SX hEX hFX) | refine And.intro ?_ ?_)
  all_goals first
   | rfl
   | exact Ext.refl _
   | assumption
   | exact ⟨_, rfl, by assumption⟩
   | (rw [hx]; exact ⟨_, rfl, za6 (.inl rfl)⟩)
 ·refine zac tok Tryz.func197 (by kernel_rfl) rfl ?_
  repeat' ((conv => whnf) <;> first
   | refine cF ?_ | (refine zaq (f := dInt) rdA tv (fun _ => ?_)) | (refine za8 (f := dInt) tv rf (by dsimp only [T3]; omega) om ?_; intro cX SX hEX hFX) | refine And.intro ?_ ?_)
  all_goals first
   | rfl
   | exact Ext.refl _
   | assumption
   | exact ⟨_, rfl, by assumption⟩
   | (rw [hx]; exact ⟨_, rfl, za6 (.inl rfl)⟩)
theorem zcu (l : List GGrant) (c : C) (S : Store) (h : Rd S [.sl 7 (l.map GGrant.d)] [c]) (hz : l.length ≤ 4194304) : EvA Tryz.prog 176 [.s c] S (fun r S' => Ext S S' ∧ ∃ c', r = .v (.s c') ∧ Fr S.length S' [.sl 7 (l.map GGrant.d)] [c']) := by
 rcases zfj h with ⟨rfl, hx⟩ | ⟨rfl, hx⟩ | ⟨id, o, n, t, rfl⟩
 ·refine zac tok Tryz.func176 (by kernel_rfl) rfl ?_
  repeat' ((conv => whnf) <;> first
   | refine cT ?_ | refine And.intro ?_ ?_)
  all_goals first
   | rfl
   | exact Ext.refl _
   | assumption
   | exact ⟨_, rfl, by assumption⟩
   | (rw [hx]; exact ⟨_, rfl, za6 (.inl rfl)⟩)
 ·refine zac tok Tryz.func176 (by kernel_rfl) rfl ?_
  repeat' ((conv => whnf) <;> first
   | refine cF ?_ | (refine zaq (f := GGrant.d) rdA tv (fun _ => ?_)) | (refine za8 (f := GGrant.d) tv rf (by dsimp only [T120]; omega) om ?_; intro cX SX hEX hFX) | refine And.intro ?_ ?_)
  all_goals first
   | rfl
   | exact Ext.refl _
   | assumption
   | exact ⟨_, rfl, by assumption⟩
   | (rw [hx]; exact ⟨_, rfl, za6 (.inl rfl)⟩)
 ·refine zac tok Tryz.func176 (by kernel_rfl) rfl ?_
  repeat' ((conv => whnf) <;> first
   | refine cF ?_ | (refine zaq (f := GGrant.d) rdA tv (fun _ => ?_)) | (refine za8 (f := GGrant.d) tv rf (by dsimp only [T120]; omega) om ?_; intro cX SX hEX hFX) | refine And.intro ?_ ?_)
  all_goals first
   | rfl
   | exact Ext.refl _
   | assumption
   | exact ⟨_, rfl, by assumption⟩
   | (rw [hx]; exact ⟨_, rfl, za6 (.inl rfl)⟩)
theorem zr6 (l : List GFlow) (c : C) (S : Store) (h : Rd S [.sl 3 (l.map GFlow.d)] [c]) (hz : l.length ≤ 4194304) : EvA Tryz.prog 182 [.s c] S (fun r S' => Ext S S' ∧ ∃ c', r = .v (.s c') ∧ Fr S.length S' [.sl 3 (l.map GFlow.d)] [c']) := by
 rcases zfj h with ⟨rfl, hx⟩ | ⟨rfl, hx⟩ | ⟨id, o, n, t, rfl⟩
 ·refine zac tok Tryz.func182 (by kernel_rfl) rfl ?_
  repeat' ((conv => whnf) <;> first
   | refine cT ?_ | refine And.intro ?_ ?_)
  all_goals first
   | rfl
   | exact Ext.refl _
   | assumption
   | exact ⟨_, rfl, by assumption⟩
   | (rw [hx]; exact ⟨_, rfl, za6 (.inl rfl)⟩)
 ·refine zac tok Tryz.func182 (by kernel_rfl) rfl ?_
  repeat' ((conv => whnf) <;> first
   | refine cF ?_ | (refine zaq (f := GFlow.d) rdA tv (fun _ => ?_)) | (refine za8 (f := GFlow.d) tv rf (by dsimp only [T199]; omega) om ?_; intro cX SX hEX hFX) | refine And.intro ?_ ?_)
  all_goals first
   | rfl
   | exact Ext.refl _
   | assumption
   | exact ⟨_, rfl, by assumption⟩
   | (rw [hx]; exact ⟨_, rfl, za6 (.inl rfl)⟩)
 ·refine zac tok Tryz.func182 (by kernel_rfl) rfl ?_
  repeat' ((conv => whnf) <;> first
   | refine cF ?_ | (refine zaq (f := GFlow.d) rdA tv (fun _ => ?_)) | (refine za8 (f := GFlow.d) tv rf (by dsimp only [T199]; omega) om ?_; intro cX SX hEX hFX) | refine And.intro ?_ ?_)
  all_goals first
   | rfl
   | exact Ext.refl _
   | assumption
   | exact ⟨_, rfl, by assumption⟩
   | (rw [hx]; exact ⟨_, rfl, za6 (.inl rfl)⟩)
theorem zh5 (l : List GRule) (c : C) (S : Store) (h : Rd S [.sl 8 (l.map GRule.d)] [c]) (hz : l.length ≤ 4194304) : EvA Tryz.prog 178 [.s c] S (fun r S' => Ext S S' ∧ ∃ c', r = .v (.s c') ∧ Fr S.length S' [.sl 8 (l.map GRule.d)] [c']) := by
 rcases zfj h with ⟨rfl, hx⟩ | ⟨rfl, hx⟩ | ⟨id, o, n, t, rfl⟩
 ·refine zac tok Tryz.func178 (by kernel_rfl) rfl ?_
  repeat' ((conv => whnf) <;> first
   | refine cT ?_ | refine And.intro ?_ ?_)
  all_goals first
   | rfl
   | exact Ext.refl _
   | assumption
   | exact ⟨_, rfl, by assumption⟩
   | (rw [hx]; exact ⟨_, rfl, za6 (.inl rfl)⟩)
 ·refine zac tok Tryz.func178 (by kernel_rfl) rfl ?_
  repeat' ((conv => whnf) <;> first
   | refine cF ?_ | (refine zaq (f := GRule.d) rdA tv (fun _ => ?_)) | (refine za8 (f := GRule.d) tv rf (by dsimp only [T108]; omega) om ?_; intro cX SX hEX hFX) | refine And.intro ?_ ?_)
  all_goals first
   | rfl
   | exact Ext.refl _
   | assumption
   | exact ⟨_, rfl, by assumption⟩
   | (rw [hx]; exact ⟨_, rfl, za6 (.inl rfl)⟩)
 ·refine zac tok Tryz.func178 (by kernel_rfl) rfl ?_
  repeat' ((conv => whnf) <;> first
   | refine cF ?_ | (refine zaq (f := GRule.d) rdA tv (fun _ => ?_)) | (refine za8 (f := GRule.d) tv rf (by dsimp only [T108]; omega) om ?_; intro cX SX hEX hFX) | refine And.intro ?_ ?_)
  all_goals first
   | rfl
   | exact Ext.refl _
   | assumption
   | exact ⟨_, rfl, by assumption⟩
   | (rw [hx]; exact ⟨_, rfl, za6 (.inl rfl)⟩)
theorem zye (l : List GOp) (c : C) (S : Store) (h : Rd S [.sl 4 (l.map GOp.d)] [c]) (hz : l.length ≤ 4194304) : EvA Tryz.prog 183 [.s c] S (fun r S' => Ext S S' ∧ ∃ c', r = .v (.s c') ∧ Fr S.length S' [.sl 4 (l.map GOp.d)] [c']) := by
 rcases zfj h with ⟨rfl, hx⟩ | ⟨rfl, hx⟩ | ⟨id, o, n, t, rfl⟩
 ·refine zac tok Tryz.func183 (by kernel_rfl) rfl ?_
  repeat' ((conv => whnf) <;> first
   | refine cT ?_ | refine And.intro ?_ ?_)
  all_goals first
   | rfl
   | exact Ext.refl _
   | assumption
   | exact ⟨_, rfl, by assumption⟩
   | (rw [hx]; exact ⟨_, rfl, za6 (.inl rfl)⟩)
 ·refine zac tok Tryz.func183 (by kernel_rfl) rfl ?_
  repeat' ((conv => whnf) <;> first
   | refine cF ?_ | (refine zaq (f := GOp.d) rdA tv (fun _ => ?_)) | (refine za8 (f := GOp.d) tv rf (by dsimp only [T225]; omega) om ?_; intro cX SX hEX hFX) | refine And.intro ?_ ?_)
  all_goals first
   | rfl
   | exact Ext.refl _
   | assumption
   | exact ⟨_, rfl, by assumption⟩
   | (rw [hx]; exact ⟨_, rfl, za6 (.inl rfl)⟩)
 ·refine zac tok Tryz.func183 (by kernel_rfl) rfl ?_
  repeat' ((conv => whnf) <;> first
   | refine cF ?_ | (refine zaq (f := GOp.d) rdA tv (fun _ => ?_)) | (refine za8 (f := GOp.d) tv rf (by dsimp only [T225]; omega) om ?_; intro cX SX hEX hFX) | refine And.intro ?_ ?_)
  all_goals first
   | rfl
   | exact Ext.refl _
   | assumption
   | exact ⟨_, rfl, by assumption⟩
   | (rw [hx]; exact ⟨_, rfl, za6 (.inl rfl)⟩)
theorem zj0 (l : List GLimit) (c : C) (S : Store) (h : Rd S [.sl 4 (l.map GLimit.d)] [c]) (hz : l.length ≤ 4194304) : EvA Tryz.prog 177 [.s c] S (fun r S' => Ext S S' ∧ ∃ c', r = .v (.s c') ∧ Fr S.length S' [.sl 4 (l.map GLimit.d)] [c']) := by
 rcases zfj h with ⟨rfl, hx⟩ | ⟨rfl, hx⟩ | ⟨id, o, n, t, rfl⟩
 ·refine zac tok Tryz.func177 (by kernel_rfl) rfl ?_
  repeat' ((conv => whnf) <;> first
   | refine cT ?_ | refine And.intro ?_ ?_)
  all_goals first
   | rfl
   | exact Ext.refl _
   | assumption
   | exact ⟨_, rfl, by assumption⟩
   | (rw [hx]; exact ⟨_, rfl, za6 (.inl rfl)⟩)
 ·refine zac tok Tryz.func177 (by kernel_rfl) rfl ?_
  repeat' ((conv => whnf) <;> first
   | refine cF ?_ | (refine zaq (f := GLimit.d) rdA tv (fun _ => ?_)) | (refine za8 (f := GLimit.d) tv rf (by dsimp only [T68]; omega) om ?_; intro cX SX hEX hFX) | refine And.intro ?_ ?_)
  all_goals first
   | rfl
   | exact Ext.refl _
   | assumption
   | exact ⟨_, rfl, by assumption⟩
   | (rw [hx]; exact ⟨_, rfl, za6 (.inl rfl)⟩)
 ·refine zac tok Tryz.func177 (by kernel_rfl) rfl ?_
  repeat' ((conv => whnf) <;> first
   | refine cF ?_ | (refine zaq (f := GLimit.d) rdA tv (fun _ => ?_)) | (refine za8 (f := GLimit.d) tv rf (by dsimp only [T68]; omega) om ?_; intro cX SX hEX hFX) | refine And.intro ?_ ?_)
  all_goals first
   | rfl
   | exact Ext.refl _
   | assumption
   | exact ⟨_, rfl, by assumption⟩
   | (rw [hx]; exact ⟨_, rfl, za6 (.inl rfl)⟩)
theorem zdb (l : List GStored) (c : C) (S : Store) (h : Rd S [.sl 4 (l.map GStored.d)] [c]) (hz : l.length ≤ 4194304) : EvA Tryz.prog 179 [.s c] S (fun r S' => Ext S S' ∧ ∃ c', r = .v (.s c') ∧ Fr S.length S' [.sl 4 (l.map GStored.d)] [c']) := by
 rcases zfj h with ⟨rfl, hx⟩ | ⟨rfl, hx⟩ | ⟨id, o, n, t, rfl⟩
 ·refine zac tok Tryz.func179 (by kernel_rfl) rfl ?_
  repeat' ((conv => whnf) <;> first
   | refine cT ?_ | refine And.intro ?_ ?_)
  all_goals first
   | rfl
   | exact Ext.refl _
   | assumption
   | exact ⟨_, rfl, by assumption⟩
   | (rw [hx]; exact ⟨_, rfl, za6 (.inl rfl)⟩)
 ·refine zac tok Tryz.func179 (by kernel_rfl) rfl ?_
  repeat' ((conv => whnf) <;> first
   | refine cF ?_ | (refine zaq (f := GStored.d) rdA tv (fun _ => ?_)) | (refine za8 (f := GStored.d) tv rf (by dsimp only [T124]; omega) om ?_; intro cX SX hEX hFX) | refine And.intro ?_ ?_)
  all_goals first
   | rfl
   | exact Ext.refl _
   | assumption
   | exact ⟨_, rfl, by assumption⟩
   | (rw [hx]; exact ⟨_, rfl, za6 (.inl rfl)⟩)
 ·refine zac tok Tryz.func179 (by kernel_rfl) rfl ?_
  repeat' ((conv => whnf) <;> first
   | refine cF ?_ | (refine zaq (f := GStored.d) rdA tv (fun _ => ?_)) | (refine za8 (f := GStored.d) tv rf (by dsimp only [T124]; omega) om ?_; intro cX SX hEX hFX) | refine And.intro ?_ ?_)
  all_goals first
   | rfl
   | exact Ext.refl _
   | assumption
   | exact ⟨_, rfl, by assumption⟩
   | (rw [hx]; exact ⟨_, rfl, za6 (.inl rfl)⟩)
theorem zzy (l : List GNode) (c : C) (S : Store) (h : Rd S [.sl 5 (l.map GNode.d)] [c]) (hz : l.length ≤ 4194304) : EvA Tryz.prog 313 [.s c] S (fun r S' => Ext S S' ∧ ∃ c', r = .v (.s c') ∧ Fr S.length S' [.sl 5 (l.map GNode.d)] [c']) := by
 ·refine zac tok Tryz.func313 (by kernel_rfl) rfl ?_
  repeat' ((conv => whnf) <;> first
   | (refine zaq (f := GNode.d) rdA tv (fun _ => ?_)) | (refine za8 (f := GNode.d) tv rf (by dsimp only [T139]; omega) om ?_; intro cX SX hEX hFX) | refine And.intro ?_ ?_)
  all_goals first
   | rfl
   | exact Ext.refl _
   | assumption
   | exact ⟨_, rfl, by assumption⟩
   | (rw [hx]; exact ⟨_, rfl, za6 (.inl rfl)⟩)
theorem znt (x : GTab) (cs : List C) (S : Store) (h : Rd S x.d cs) (hz : szL x.d ≤ 4194304) : EvA Tryz.prog 175 [.agg cs] S (fun r S' => Ext S S' ∧ ∃ c2 c3 c4, r = .v (.agg [(.int .i64 x.Site.Owner), (.int .i64 x.Site.Sub), c2, c3, c4, (.int .i64 x.Click)]) ∧ Fr S.length S' x.d [(.int .i64 x.Site.Owner), (.int .i64 x.Site.Sub), c2, c3, c4, (.int .i64 x.Click)]) := by
 simp only [GTab.d, szL, List.length_map] at hz
 obtain ⟨_, _, _, rfl, _, _, _⟩ := GTab.inv h
 refine zac tok Tryz.func175 (by kernel_rfl) rfl ?_
 repeat' ((conv => whnf) <;> first
  | refine zae 3 [.fl 0, .fl 1, .fl 3, .fl 4, .fl 6, .fl 7, .st 2 [3, 4, 6, 7], .fl 9, .st 5 [6, 7, 9], .st 8 [9], .st 10 [], .fl 11, .st 12 [], .fl 13, .st 14 []] (by rfl) (by kernel_rfl) ?_)
 (conv => whnf)
 refine zab (zbq _ _ _ rdA (by omega)) ?_; rintro _ S0 ⟨e0, d0, rfl, f0⟩
 have E0 : Ext S S0 := e0
 repeat' ((conv => whnf) <;> first
  | refine And.intro ?_ ?_)
 (conv => whnf)
 refine zab (zsk _ _ _ rdA (by omega)) ?_; rintro _ S1 ⟨e1, d1, rfl, f1⟩
 have E1 : Ext S S1 := E0.trans e1
 repeat' ((conv => whnf) <;> first
  | refine And.intro ?_ ?_)
 (conv => whnf)
 refine zab (zjk _ _ _ rdA (by omega)) ?_; rintro _ S2 ⟨e2, d2, rfl, f2⟩
 have E2 : Ext S S2 := E1.trans e2
 repeat' ((conv => whnf) <;> first
  | refine And.intro ?_ ?_)
 ·exact E2
 ·exact ⟨_, _, _, rfl, fr_x (fr_x (zil (zfi f0 (Ext.trans e1 (e2))) (zil (zfi f1 (e2)) (zil (zfi f2 (Ext.refl _)) (fr_x (zc2)) (e2).len) (e1).len) (e0).len))⟩
theorem zlk (x : GTab) (cs : List C) (S : Store) (h : Rd S x.d cs) (hz : szL x.d ≤ 4194304) : EvA Tryz.prog 248 [.agg cs] S (fun r S' => Ext S S' ∧ ∃ c2 c3 c4, r = .v (.agg [(.int .i64 x.Site.Owner), (.int .i64 x.Site.Sub), c2, c3, c4, (.int .i64 x.Click)]) ∧ Fr S.length S' x.d [(.int .i64 x.Site.Owner), (.int .i64 x.Site.Sub), c2, c3, c4, (.int .i64 x.Click)]) := by
 simp only [GTab.d, szL, List.length_map] at hz
 obtain ⟨_, _, _, rfl, _, _, _⟩ := GTab.inv h
 refine zac tok Tryz.func248 (by kernel_rfl) rfl ?_
 repeat' ((conv => whnf) <;> first
  | refine zae 3 [.fl 0, .fl 1, .fl 2, .fl 3, .fl 5, .fl 6, .fl 7, .fl 9, .fl 10, .fl 11, .fl 13, .fl 14, .st 4 [0, 1, 5, 6, 7, 9, 10, 11, 13, 14], .st 8 [0, 1, 9, 10, 11, 13, 14], .st 12 [0, 1, 13, 14], .fl 15, .st 16 []] (by rfl) (by kernel_rfl) ?_)
 (conv => whnf)
 refine zab (zzy _ _ _ rdA (by omega)) ?_; rintro _ S0 ⟨e0, d0, rfl, f0⟩
 have E0 : Ext S S0 := e0
 repeat' ((conv => whnf) <;> first
  | (refine zaq (f := GEdit.d) (l := x.Edits) rdA tv (fun _ => ?_)) | refine And.intro ?_ ?_)
 (conv => whnf)
 refine za8 (f := GEdit.d) (by intro _; exact trivial) (by intro _; rfl) (by dsimp only [T3, T87]; omega) (by omega) ?_; intro d1 S1 e1 f1
 have E1 : Ext S S1 := E0.trans e1
 repeat' ((conv => whnf) <;> first
  | (refine zaq (f := dInt) (l := x.Hidden) rdA tv (fun _ => ?_)) | refine And.intro ?_ ?_)
 (conv => whnf)
 refine za8 (f := dInt) (by intro _; exact trivial) (by intro _; rfl) (by dsimp only [T3, T87]; omega) (by omega) ?_; intro d2 S2 e2 f2
 have E2 : Ext S S2 := E1.trans e2
 repeat' ((conv => whnf) <;> first
  | refine And.intro ?_ ?_)
 ·exact E2
 ·exact ⟨_, _, _, rfl, fr_x (fr_x (zil (zfi f0 (Ext.trans e1 (e2))) (zil (zfi f1 (e2)) (zil (zfi f2 (Ext.refl _)) (fr_x (zc2)) (e2).len) (e1).len) (e0).len))⟩
def zdw (t : GTab) (by' : Int) : GTab := { t with Edits := t.Edits.filter (zqp by') }
theorem zoi (x : GTab) (by' : Int) (cs : List C) (S : Store) (h : Rd S x.d cs) (hz : szL x.d ≤ 1048576) : EvA Tryz.prog 122 [.agg cs, .s (.int .i64 by')] S (fun r S' => Ext S S' ∧ ∃ c2 c3 c4, r = .v (.agg [(.int .i64 x.Site.Owner), (.int .i64 x.Site.Sub), c2, c3, c4, (.int .i64 x.Click)]) ∧ Fr S.length S' (zdw x by').d [(.int .i64 x.Site.Owner), (.int .i64 x.Site.Sub), c2, c3, c4, (.int .i64 x.Click)]) := by
 have hzs := hz
 simp only [GTab.d, szL, List.length_map] at hzs
 obtain ⟨_, _, _, rfl, _, _, _⟩ := GTab.inv h
 refine zac tok Tryz.func122 (by kernel_rfl) rfl ?_
 skip
 (conv => whnf)
 refine zab (znt _ _ _ rdcA (by omega)) ?_; rintro _ S0 ⟨e0, c0, c1, c2, rfl, f0⟩
 skip
 (conv => whnf)
 refine zab (zhd x.Edits by' _ _ rdA (by omega)) ?_; rintro _ S1 ⟨e1, d1, rfl, f1⟩
 repeat' ((conv => whnf) <;> first
  | refine And.intro ?_ ?_)
 ·exact e0.trans e1
 ·exact ⟨_, _, _, rfl, (In.set (off := 3) (f0.inn.ext e1) rfl f1.inn e0.len (Nat.le_refl _) e1.len).fr⟩
end Go.Proofs.YtlmmdpmmdmhacaaGreat
