/- Programs run. -/
import Derived.Test.YtibglkkmjigooaaGreatFnX
import Derived.Test.YtibglkkmjigooaaGreatFnP
import Derived.Test.YtibglkkmjigooaaGreatFnN
import Derived.Test.YtibglkkmjigooaaGreatFnCt
import Derived.Test.YtibglkkmjigooaaGreatAeQ
namespace Go.Proofs.YtibglkkmjigooaaGreat
set_option linter.unusedVariables false
set_option linter.unusedSimpArgs false
set_option maxRecDepth 100000
section
open Go Go.ChangeShapes Go.WideShapes Go.ChangeAt Go.RowKit
def getI (l : List Int) (i : Int) : Int := l.getD i.toNat 0
theorem getI_at {l : List Int} {i : Int} (h : i.toNat < l.length) : getI l i = l[i.toNat] := by unfold getI; rw [List.getD_eq_getElem?_getD, List.getElem?_eq_getElem h]; rfl
def opV (values : List Int) (o : GOp) (v : List Int) : List Int :=
  if o.Kind = 1 then v.set o.A.toNat (valueOf values o.B)
  else if o.Kind = 2 then v.set o.A.toNat o.B
  else if o.Kind = 3 then v.set o.A.toNat (Int.tmod (getI v o.B + getI v o.C) 1000)
  else if o.Kind = 4 then (if Int.tmod (getI v o.B) 2 = 0 then v.set o.A.toNat (getI v o.C) else v)
  else v
def opL (o : GOp) (b : List Int) : List Int :=
  if o.Kind = 1 then b.set o.A.toNat ((2 ^ o.B.toNat : Nat) : Int)
  else if o.Kind = 2 then b.set o.A.toNat 0
  else if o.Kind = 3 then b.set o.A.toNat (lorI (getI b o.B) (getI b o.C))
  else if o.Kind = 4 then b.set o.A.toNat (lorI (lorI (getI b o.A) (getI b o.B)) (getI b o.C))
  else b
abbrev zeros6 : List Int := [0, 0, 0, 0, 0, 0]
structure GoodM (v b : List Int) : Prop where
  vl : v.length = 6
  bl : b.length = 6
  vb : ∀ x ∈ v, 0 ≤ x ∧ x ≤ 999
  bb : ∀ x ∈ b, isLabel x = true
theorem GoodM.zero : GoodM zeros6 zeros6 := ⟨rfl, rfl, by simp, by simp; decide⟩
theorem op_cases {x : GOp} (h : isOp x = true) : (0 ≤ x.A ∧ x.A ≤ 5) ∧ ((x.Kind = 1 ∧ 1 ≤ x.B ∧ x.B ≤ 9) ∨ (x.Kind = 5 ∧ 1 ≤ x.B ∧ x.B ≤ 9) ∨ (x.Kind = 2 ∧ 0 ≤ x.B ∧ x.B ≤ 999) ∨ (x.Kind = 3 ∧ (0 ≤ x.B ∧ x.B ≤ 5) ∧ 0 ≤ x.C ∧ x.C ≤ 5) ∨ (x.Kind = 4 ∧ (0 ≤ x.B ∧ x.B ≤ 5) ∧ 0 ≤ x.C ∧ x.C ≤ 5)) := by
  simp only [isOp, inR, Bool.and_eq_true, Bool.or_eq_true, decide_eq_true_eq] at h
  omega
theorem valueOf_in' (l : List Int) (o : Int) : 0 ≤ valueOf l o ∧ valueOf l o ≤ 999 := by
  unfold valueOf
  split
  · split
    · rename_i h; exact inR_t h
    · omega
  · omega
theorem pow_label {o : Int} (h : 1 ≤ o ∧ o ≤ 9) : isLabel ((2 ^ o.toNat : Nat) : Int) = true := by
  have : ∀ n : Fin 9, isLabel ((2 ^ (n.val + 1) : Nat) : Int) = true := by decide
  have e := this ⟨o.toNat - 1, by omega⟩
  rw [show o.toNat - 1 + 1 = o.toNat from by omega] at e
  exact e
theorem mem_set {α : Type} {P : α → Prop} {y : α} (hy : P y) : ∀ {l : List α} {i : Nat}, (∀ x ∈ l, P x) → ∀ x ∈ l.set i y, P x
  | l, i, h, x, hx => by
    rcases List.mem_or_eq_of_mem_set hx with h1 | h1
    · exact h x h1
    · exact h1 ▸ hy
theorem GoodM.getV {v b : List Int} (g : GoodM v b) {i : Int} (h : 0 ≤ i ∧ i ≤ 5) : 0 ≤ getI v i ∧ getI v i ≤ 999 := by
  have := g.vl
  rw [getI_at (by omega)]; exact g.vb _ (List.getElem_mem _)
theorem GoodM.getB {v b : List Int} (g : GoodM v b) {i : Int} (h : 0 ≤ i ∧ i ≤ 5) : isLabel (getI b i) = true := by
  have := g.bl
  rw [getI_at (by omega)]; exact g.bb _ (List.getElem_mem _)
theorem GoodM.step {v b : List Int} (g : GoodM v b) (values : List Int) {o : GOp} (h : isOp o = true) : GoodM (opV values o v) (opL o b) := by
  obtain ⟨hA, hc⟩ := op_cases h
  rcases hc with ⟨hk, hB⟩ | ⟨hk, hB⟩ | ⟨hk, hB⟩ | ⟨hk, hB, hC⟩ | ⟨hk, hB, hC⟩
  · rw [show opV values o v = v.set o.A.toNat (valueOf values o.B) from by unfold opV; rw [if_pos hk], show opL o b = b.set o.A.toNat ((2 ^ o.B.toNat : Nat) : Int) from by unfold opL; rw [if_pos hk]]
    exact ⟨by simp [g.vl], by simp [g.bl], mem_set (P := fun x : Int => 0 ≤ x ∧ x ≤ 999) (valueOf_in' _ _) g.vb, mem_set (P := fun x : Int => isLabel x = true) (pow_label hB) g.bb⟩
  · rw [show opV values o v = v from by unfold opV; simp [hk], show opL o b = b from by unfold opL; simp [hk]]
    exact g
  · rw [show opV values o v = v.set o.A.toNat o.B from by unfold opV; simp [hk], show opL o b = b.set o.A.toNat 0 from by unfold opL; simp [hk]]
    exact ⟨by simp [g.vl], by simp [g.bl], mem_set (P := fun x : Int => 0 ≤ x ∧ x ≤ 999) hB g.vb, mem_set (P := fun x : Int => isLabel x = true) (by decide) g.bb⟩
  · rw [show opV values o v = v.set o.A.toNat (Int.tmod (getI v o.B + getI v o.C) 1000) from by unfold opV; simp [hk], show opL o b = b.set o.A.toNat (lorI (getI b o.B) (getI b o.C)) from by unfold opL; simp [hk]]
    have h1 := g.getV hB
    have h2 := g.getV hC
    exact ⟨by simp [g.vl], by simp [g.bl], mem_set (P := fun x : Int => 0 ≤ x ∧ x ≤ 999) (by rw [Int.tmod_eq_emod_of_nonneg (by omega)]; omega) g.vb, mem_set (P := fun x : Int => isLabel x = true) (lor_label (g.getB hB) (g.getB hC)) g.bb⟩
  · rw [show opV values o v = (if Int.tmod (getI v o.B) 2 = 0 then v.set o.A.toNat (getI v o.C) else v) from by unfold opV; simp [hk], show opL o b = b.set o.A.toNat (lorI (lorI (getI b o.A) (getI b o.B)) (getI b o.C)) from by unfold opL; simp [hk]]
    refine ⟨?_, by simp [g.bl], ?_, mem_set (P := fun x : Int => isLabel x = true) (lor_label (lor_label (g.getB hA) (g.getB hB)) (g.getB hC)) g.bb⟩
    · split <;> simp [g.vl]
    · split
      · exact mem_set (P := fun x : Int => 0 ≤ x ∧ x ≤ 999) (g.getV hC) g.vb
      · exact g.vb
end
end Go.Proofs.YtibglkkmjigooaaGreat
