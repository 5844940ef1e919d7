/- Labels, flows, what programs send. -/
import Derived.Test.YtibglkkmjigooaaGreatFnO
import Derived.Test.YtibglkkmjigooaaGreatFnI
namespace Go.Proofs.YtibglkkmjigooaaGreat
open Go Go.ChangeShapes Go.WideShapes Go.ChangeAt Go.RowKit
set_option linter.unusedVariables false
set_option linter.unusedSimpArgs false
set_option maxRecDepth 100000
def lorI (x y : Int) : Int := ((x.toNat ||| y.toNat : Nat) : Int)
def isLabel (x : Int) : Bool := inR x 0 1022 && decide (x % 2 = 0)
theorem isLabel_t {x : Int} (h : isLabel x = true) : 0 ≤ x ∧ x ≤ 1022 ∧ x % 2 = 0 := by simp [isLabel, inR] at h; omega
theorem label_t {x : Int} (h : 0 ≤ x ∧ x ≤ 1022 ∧ x % 2 = 0) : isLabel x = true := by simp [isLabel, inR]; omega
theorem lor_label {x y : Int} (hx : isLabel x = true) (hy : isLabel y = true) : isLabel (lorI x y) = true := by
  have h1 := isLabel_t hx; have h2 := isLabel_t hy
  have hl : x.toNat ||| y.toNat < 2 ^ 10 := Nat.or_lt_two_pow (by omega) (by omega)
  have hm : (x.toNat ||| y.toNat) % 2 = 0 := by
    have e : (x.toNat ||| y.toNat).testBit 0 = (x.toNat.testBit 0 || y.toNat.testBit 0) := Nat.testBit_or ..
    rw [Nat.testBit_zero, Nat.testBit_zero, Nat.testBit_zero] at e
    have hx0 : x.toNat % 2 = 0 := by omega
    have hy0 : y.toNat % 2 = 0 := by omega
    rw [hx0, hy0] at e
    have e2 := of_decide_eq_false (e.trans (by decide))
    omega
  refine label_t ?_
  unfold lorI
  omega
end Go.Proofs.YtibglkkmjigooaaGreat
