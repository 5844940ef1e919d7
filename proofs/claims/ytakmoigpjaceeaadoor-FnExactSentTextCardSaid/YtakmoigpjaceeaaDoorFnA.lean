/- Small predicates. -/
import Derived.Test.YtakmoigpjaceeaaDoorAeM
namespace Go.Proofs.YtakmoigpjaceeaaDoor
open Go Go.ChangeShapes Go.WideShapes Go.ChangeAt Go.RowKit
set_option linter.unusedVariables false
set_option maxRecDepth 100000

theorem ev_l1In (x lo hi : Int) (S : Store) : EvA Tryd.prog 25 [.s (.int .i64 x), .s (.int .i64 lo), .s (.int .i64 hi)] S (fun r S' => r = .v (.s (.bool (inR x lo hi))) ∧ S' = S) := by
  refine evA_intro tok Tryd.func25 (by kernel_rfl) rfl ?_
  repeat' ((conv => whnf) <;> first
   | refine condP_dec (fun _ => ?_) (fun _ => ?_)
   | refine condP_ndec (fun _ => ?_) (fun _ => ?_)
   | refine condP_true rfl ?_
   | refine condP_false rfl ?_
   | refine condP_not (fun _ => ?_) (fun _ => ?_)
   | refine condP_intro (fun _ => ?_) (fun _ => ?_)
   | refine needP_intro (by first | omega | (constructor <;> omega) | fail) ?_
   | refine And.intro ?_ ?_)
  all_goals first | rfl | (simp_all [resAV, inR]; done) | (simp_all [resAV, inR]; omega)
theorem ev_InRange (x lo hi : Int) (S : Store) : EvA Tryd.prog 27 [.s (.int .i64 x), .s (.int .i64 lo), .s (.int .i64 hi)] S (fun r S' => r = .v (.s (.bool (inR x lo hi))) ∧ S' = S) := by
  refine evA_intro tok Tryd.func27 (by kernel_rfl) rfl ?_
  repeat' ((conv => whnf) <;> first
   | refine condP_dec (fun _ => ?_) (fun _ => ?_)
   | refine condP_ndec (fun _ => ?_) (fun _ => ?_)
   | refine condP_true rfl ?_
   | refine condP_false rfl ?_
   | refine condP_not (fun _ => ?_) (fun _ => ?_)
   | refine condP_intro (fun _ => ?_) (fun _ => ?_)
   | refine needP_intro (by first | omega | (constructor <;> omega) | fail) ?_
   | refine And.intro ?_ ?_)
  all_goals first | rfl | (simp_all [resAV, inR]; done) | (simp_all [resAV, inR]; omega)
def isSite (s : GSite) : Bool := inR s.Owner 1 9 && inR s.Sub 0 9
def isEdit (e : GEdit) : Bool := inR e.Kind 1 4 && inR e.Node 1 99 && inR e.Parent 0 99 && inR e.Tag 0 9 && inR e.Text 0 999 && inR e.By 0 5
end Go.Proofs.YtakmoigpjaceeaaDoor
