/- The laws' helpers: sz. -/
import Derived.Test.YtakmoigpjaceeaaDoorFnC
namespace Go.Proofs.YtakmoigpjaceeaaDoor
open Go Go.ChangeShapes Go.WideShapes Go.ChangeAt Go.RowKit
set_option linter.unusedVariables false
set_option maxRecDepth 100000

theorem ev_szSentS (l : (List GSent)) (c : C) (left : Int) (S : Store) (h : Rd S [.sl 3 (l.map GSent.d)] [c]) (hl : 0 ≤ left ∧ left ≤ 1048576) : EvA Tryd.prog 8 [.s c, .s (.int .i64 left)] S (fun r S' => r = .v (.s (.int .i64 (szR left (szL [.sl 3 (l.map GSent.d)])))) ∧ S' = S) := by
  have hs : szL [.sl 3 (l.map GSent.d)] = l.length := by simp only [szL, List.length_map]; rw [szLL_flat (by intro x; simp only [szL, GSent.d])]; rfl
  rw [hs]
  refine evA_intro tok Tryd.func8 (by kernel_rfl) rfl ?_
  repeat' ((conv => whnf) <;> first
   | rw [wrapI_i64 (by omega)]
   | refine condP_dec (fun _ => ?_) (fun _ => ?_)
   | refine condP_ndec (fun _ => ?_) (fun _ => ?_)
   | refine condP_true rfl ?_
   | refine condP_false rfl ?_
   | refine condP_not (fun _ => ?_) (fun _ => ?_)
   | refine condP_intro (fun _ => ?_) (fun _ => ?_)
   | (refine rd_lenm (by assumption) ?_; intro hml; rw [maxLen_eq] at hml)
   | refine needP_intro (by first | omega | (constructor <;> omega) | fail) ?_
   | refine And.intro ?_ ?_)
  all_goals first | rfl | (simp only [szR, resAV]; rw [if_pos (by omega)]) | (simp only [szR, resAV]; rw [if_neg (by omega)])

end Go.Proofs.YtakmoigpjaceeaaDoor
