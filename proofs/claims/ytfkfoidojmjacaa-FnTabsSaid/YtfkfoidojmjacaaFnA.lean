/- Small predicates. -/
import Derived.Test.YtfkfoidojmjacaaAeM
namespace Go.Proofs.Ytfkfoidojmjacaa
open Go Go.ChangeShapes Go.WideShapes Go.ChangeAt Go.RowKit
set_option linter.unusedVariables false
set_option linter.unusedSimpArgs false
set_option maxRecDepth 100000

theorem ev_l1In (x lo hi : Int) (S : Store) : EvA Try.prog 57 [.s (.int .i64 x), .s (.int .i64 lo), .s (.int .i64 hi)] S (fun r S' => r = .v (.s (.bool (inR x lo hi))) ∧ S' = S) := by
  refine evA_intro tok Try.func57 (by kernel_rfl) rfl ?_
  repeat' ((conv => whnf) <;> first
   | refine cD (fun _ => ?_) fun _ => ?_ | refine cE (fun _ => ?_) fun _ => ?_ | refine cT ?_ | refine cF ?_ | refine cN (fun _ => ?_) fun _ => ?_ | refine cI (fun _ => ?_) fun _ => ?_ | refine nP ?_ | refine And.intro ?_ ?_)
  all_goals first | rfl | (simp_all [resAV, inR]; done) | (simp_all [resAV, inR]; omega)
theorem ev_InRange (x lo hi : Int) (S : Store) : EvA Try.prog 24 [.s (.int .i64 x), .s (.int .i64 lo), .s (.int .i64 hi)] S (fun r S' => r = .v (.s (.bool (inR x lo hi))) ∧ S' = S) := by
  refine evA_intro tok Try.func24 (by kernel_rfl) rfl ?_
  repeat' ((conv => whnf) <;> first
   | refine cD (fun _ => ?_) fun _ => ?_ | refine cE (fun _ => ?_) fun _ => ?_ | refine cT ?_ | refine cF ?_ | refine cN (fun _ => ?_) fun _ => ?_ | refine cI (fun _ => ?_) fun _ => ?_ | refine nP ?_ | refine And.intro ?_ ?_)
  all_goals first | rfl | (simp_all [resAV, inR]; done) | (simp_all [resAV, inR]; omega)
def isSite (s : GSite) : Bool := inR s.Owner 1 9 && inR s.Sub 0 9
theorem ev_sIsSite (s : GSite) (S : Store) : EvA Try.prog 58 [.agg s.c] S (fun r S' => r = .v (.s (.bool (isSite s))) ∧ S' = S) := by
  refine evA_intro tok Try.func58 (by kernel_rfl) rfl ?_
  repeat' ((conv => whnf) <;> first
   | refine cD (fun _ => ?_) fun _ => ?_ | refine cE (fun _ => ?_) fun _ => ?_ | refine cT ?_ | refine cF ?_ | refine condP_inR (fun _ _ => ?_) (fun _ _ => ?_) | refine condP_ninR (fun _ _ => ?_) (fun _ _ => ?_) | refine cN (fun _ => ?_) fun _ => ?_ | refine cI (fun _ => ?_) fun _ => ?_ | refine callP_eq (ev_l1In _ _ _ _) ?_ | refine nP ?_ | refine And.intro ?_ ?_)
  all_goals first | rfl | (simp_all [resAV, isSite]; done)
theorem ev_iIsSite (s : GSite) (S : Store) : EvA Try.prog 23 [.agg s.c] S (fun r S' => r = .v (.s (.bool (isSite s))) ∧ S' = S) := by
  refine evA_intro tok Try.func23 (by kernel_rfl) rfl ?_
  repeat' ((conv => whnf) <;> first
   | refine cD (fun _ => ?_) fun _ => ?_ | refine cE (fun _ => ?_) fun _ => ?_ | refine cT ?_ | refine cF ?_ | refine condP_inR (fun _ _ => ?_) (fun _ _ => ?_) | refine condP_ninR (fun _ _ => ?_) (fun _ _ => ?_) | refine cN (fun _ => ?_) fun _ => ?_ | refine cI (fun _ => ?_) fun _ => ?_ | refine callP_eq (ev_InRange _ _ _ _) ?_ | refine nP ?_ | refine And.intro ?_ ?_)
  all_goals first | rfl | (simp_all [resAV, isSite]; done)
def isEdit (e : GEdit) : Bool := inR e.Kind 1 4 && inR e.Node 1 99 && inR e.Parent 0 99 && inR e.Tag 0 9 && inR e.Text 0 999 && inR e.By 0 5
theorem ev_sIsEdit (e : GEdit) (S : Store) : EvA Try.prog 56 [.agg e.c] S (fun r S' => r = .v (.s (.bool (isEdit e))) ∧ S' = S) := by
  refine evA_intro tok Try.func56 (by kernel_rfl) rfl ?_
  repeat' ((conv => whnf) <;> first
   | refine cD (fun _ => ?_) fun _ => ?_ | refine cE (fun _ => ?_) fun _ => ?_ | refine cT ?_ | refine cF ?_ | refine condP_inR (fun _ _ => ?_) (fun _ _ => ?_) | refine condP_ninR (fun _ _ => ?_) (fun _ _ => ?_) | refine cN (fun _ => ?_) fun _ => ?_ | refine cI (fun _ => ?_) fun _ => ?_ | refine callP_eq (ev_l1In _ _ _ _) ?_ | refine nP ?_ | refine And.intro ?_ ?_)
  all_goals first | rfl | (simp_all [resAV, isEdit]; done)
theorem ev_iIsEdit (e : GEdit) (S : Store) : EvA Try.prog 25 [.agg e.c] S (fun r S' => r = .v (.s (.bool (isEdit e))) ∧ S' = S) := by
  refine evA_intro tok Try.func25 (by kernel_rfl) rfl ?_
  repeat' ((conv => whnf) <;> first
   | refine cD (fun _ => ?_) fun _ => ?_ | refine cE (fun _ => ?_) fun _ => ?_ | refine cT ?_ | refine cF ?_ | refine condP_inR (fun _ _ => ?_) (fun _ _ => ?_) | refine condP_ninR (fun _ _ => ?_) (fun _ _ => ?_) | refine cN (fun _ => ?_) fun _ => ?_ | refine cI (fun _ => ?_) fun _ => ?_ | refine callP_eq (ev_InRange _ _ _ _) ?_ | refine nP ?_ | refine And.intro ?_ ?_)
  all_goals first | rfl | (simp_all [resAV, isEdit]; done)
end Go.Proofs.Ytfkfoidojmjacaa
