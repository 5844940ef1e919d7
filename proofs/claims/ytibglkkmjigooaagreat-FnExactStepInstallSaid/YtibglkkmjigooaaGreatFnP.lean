/- The values that an extension reads. -/
import Derived.Test.YtibglkkmjigooaaGreatFnI
namespace Go.Proofs.YtibglkkmjigooaaGreat
open Go Go.ChangeShapes Go.WideShapes Go.ChangeAt Go.RowKit
set_option linter.unusedVariables false
set_option linter.unusedSimpArgs false
set_option maxRecDepth 100000
def valueOf (l : List Int) (o : Int) : Int := if 1 ≤ o ∧ o ≤ l.length then (if inR (l.getD (o.toNat - 1) 0) 0 999 then l.getD (o.toNat - 1) 0 else 0) else 0
theorem valueOf_in {l : List Int} {o : Int} (h : 1 ≤ o ∧ o ≤ l.length) : valueOf l o = if inR (l[(o - 1).toNat]'(by omega)) 0 999 then l[(o - 1).toNat]'(by omega) else 0 := by
  unfold valueOf
  have e : l.getD (o.toNat - 1) 0 = l[(o - 1).toNat]'(by omega) := by
    rw [List.getD_eq_getElem?_getD, List.getElem?_eq_getElem (by omega)]
    simp only [Option.getD_some]
    congr 1; omega
  rw [if_pos h, e]
theorem valueOf_out {l : List Int} {o : Int} (h : ¬ (1 ≤ o ∧ o ≤ l.length)) : valueOf l o = 0 := by unfold valueOf; rw [if_neg h]
theorem ev_iValueOf (l : List Int) (o : Int) (c : C) (S : Store) (h : Rd S [.sl 1 (l.map dInt)] [c]) : EvA Tryz.prog 256 [.s c, .s (.int .i64 o)] S (fun r S' => r = .v (.s (.int .i64 (valueOf l o))) ∧ S' = S) := by
  by_cases ho : 1 ≤ o ∧ o ≤ l.length
  · rw [valueOf_in ho]
    refine evA_intro tok Tryz.func256 (by kernel_rfl) rfl ?_
    repeat' ((conv => whnf) <;> first
     | rw [wrapI_i64 (by omega)] | refine cD (fun _ => ?_) fun _ => ?_ | refine cT ?_ | refine condP_ninR (fun _ _ => ?_) (fun _ _ => ?_) | refine callP_eq (ev_InRange _ _ _ _) ?_ | refine rE fun hml => ?_ | refine rI aN rf ix ?_ | refine rd_loadf aN tv ix ?_ | refine And.intro ?_ ?_)
    all_goals first | rfl | (exfalso; omega) | (simp_all [resAV]; done)
  · rw [valueOf_out ho]
    refine evA_intro tok Tryz.func256 (by kernel_rfl) rfl ?_
    repeat' ((conv => whnf) <;> first
     | rw [wrapI_i64 (by omega)] | refine cD (fun _ => ?_) fun _ => ?_ | refine cT ?_ | refine condP_ninR (fun _ _ => ?_) (fun _ _ => ?_) | refine callP_eq (ev_InRange _ _ _ _) ?_ | refine rE fun hml => ?_ | refine rI aN rf ix ?_ | refine rd_loadf aN tv ix ?_ | refine And.intro ?_ ?_)
    all_goals first | rfl | (exfalso; omega)
theorem ev_l21Value (l : List Int) (o : Int) (c : C) (S : Store) (h0 : 1 ≤ o ∧ o ≤ 4611686018427387904) (h : Rd S [.sl 1 (l.map dInt)] [c]) : EvA Tryz.prog 250 [.s c, .s (.int .i64 o)] S (fun r S' => r = .v (.s (.int .i64 (valueOf l o))) ∧ S' = S) := by
  by_cases ho : 1 ≤ o ∧ o ≤ l.length
  · rw [valueOf_in ho]
    refine evA_intro tok Tryz.func250 (by kernel_rfl) rfl ?_
    repeat' ((conv => whnf) <;> first
     | rw [wrapI_i64 (by omega)] | refine cD (fun _ => ?_) fun _ => ?_ | refine cT ?_ | refine condP_ninR (fun _ _ => ?_) (fun _ _ => ?_) | refine callP_eq (ev_l1In _ _ _ _) ?_ | refine rE fun hml => ?_ | refine rI aN rf ix ?_ | refine rd_loadf aN tv ix ?_ | refine And.intro ?_ ?_)
    all_goals first | rfl | (exfalso; omega) | (simp_all [resAV]; done)
  · rw [valueOf_out ho]
    refine evA_intro tok Tryz.func250 (by kernel_rfl) rfl ?_
    repeat' ((conv => whnf) <;> first
     | rw [wrapI_i64 (by omega)] | refine cD (fun _ => ?_) fun _ => ?_ | refine cT ?_ | refine condP_ninR (fun _ _ => ?_) (fun _ _ => ?_) | refine callP_eq (ev_l1In _ _ _ _) ?_ | refine rE fun hml => ?_ | refine rI aN rf ix ?_ | refine rd_loadf aN tv ix ?_ | refine And.intro ?_ ?_)
    all_goals first | rfl | (exfalso; omega)
end Go.Proofs.YtibglkkmjigooaaGreat
