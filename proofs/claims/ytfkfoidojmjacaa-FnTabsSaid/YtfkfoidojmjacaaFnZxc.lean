--@need laws.big
/- Small functions that the P-laws call. -/
import Derived.Test.YtfkfoidojmjacaaFnNb
import Derived.Test.YtfkfoidojmjacaaFnK
namespace Go.Proofs.Ytfkfoidojmjacaa
open Go Go.ChangeShapes Go.WideShapes Go.ChangeAt Go.RowKit
set_option linter.unusedVariables false
set_option linter.unusedSimpArgs false
set_option maxRecDepth 100000

theorem ev_big (l : List Int) (c : C) (S : Store) (h : Rd S [.sl 1 (l.map dByte)] [c]) : EvA Try.prog 4 [.s c] S (fun r S' => r = .v (.s (.bool (decide (1048576 < (l.length : Int))))) ∧ S' = S) := by
  refine evA_intro tok Try.func4 (by kernel_rfl) rfl ?_
  repeat' ((conv => whnf) <;> first
   | refine rE fun hml => ?_ | refine nP ?_ | refine And.intro ?_ ?_)
  all_goals rfl
theorem ev_EqDocs (l m : List GNode) (c c' : C) (S : Store) (h : Rd S [.sl 5 (l.map GNode.d)] [c]) (h' : Rd S [.sl 5 (m.map GNode.d)] [c']) : EvA Try.prog 10 [.s c, .s c'] S (fun r S' => r = .v (.s (.bool (decide (l = m)))) ∧ S' = S) := by
  refine evA_intro tok Try.func10 (by kernel_rfl) rfl ?_
  repeat' ((conv => whnf) <;> first
   | refine callP_eq (ev_EqNode _ _ _ _ _ aN aN) ?_ | refine nP ?_ | refine And.intro ?_ ?_)
  all_goals rfl
theorem ev_TakeBack (d : List GNode) (l : List GEdit) (by' : Int) (c c' : C) (S : Store) (h : Rd S [.sl 5 (d.map GNode.d)] [c]) (h' : Rd S [.sl 6 (l.map GEdit.d)] [c']) (hz : d.length ≤ 4194304) (hz' : l.length ≤ 4194304) : EvA Try.prog 11 [.s c, .s c', .s (.int .i64 by')] S (fun r S' => Ext S S' ∧ ∃ c', r = .v (.s c') ∧ Fr S.length S' [.sl 5 ((runEdits d (l.filter (edNot by'))).map GNode.d)] [c']) := by
  have hl := List.length_filter_le (edNot by') l
  refine evA_intro tok Try.func11 (by kernel_rfl) rfl ?_
  repeat' ((conv => whnf) <;> first
   | refine nP ?_ | refine And.intro ?_ ?_)
  (conv => whnf)
  refine callP_intro (ev_iWithoutBy l by' _ _ h' hz') ?_; rintro _ S1 ⟨e1, c1, rfl, f1⟩
  repeat' ((conv => whnf) <;> first
   | refine nP ?_ | refine And.intro ?_ ?_)
  (conv => whnf)
  refine callP_intro (ev_iRunEdits d (l.filter (edNot by')) _ _ _ (h.ext e1) f1.rd hz (by omega)) ?_; rintro _ S2 ⟨e2, c2, rfl, f2⟩
  repeat' ((conv => whnf) <;> first
   | (refine callP_intro (ev_iWithoutBy _ _ _ _ rdA om) ?_; rintro _ Sn ⟨hEn, cn, rfl, hFn⟩) | (refine callP_intro (ev_iRunEdits _ _ _ _ _ rdA rdA om om) ?_; rintro _ Sn ⟨hEn, cn, rfl, hFn⟩) | refine nP ?_ | refine And.intro ?_ ?_)
  all_goals first
    | exact e1.trans e2
    | exact ⟨_, rfl, f2.mono e1.len⟩
end Go.Proofs.Ytfkfoidojmjacaa
