/- The laws' helpers: eq. -/
import Derived.Test.YtibglkkmjigooaaGreatAeM
namespace Go.Proofs.YtibglkkmjigooaaGreat
open Go Go.ChangeShapes Go.WideShapes Go.ChangeAt Go.RowKit
set_option linter.unusedVariables false
set_option linter.unusedSimpArgs false
set_option maxRecDepth 100000
theorem ev_eqEdit (x : GEdit) (S : Store) : EvA Tryz.prog 234 [.agg x.c, .agg x.c] S (fun r S' => r = .v (.s (.bool true)) ∧ S' = S) := by
  refine evA_intro tok Tryz.func234 (by kernel_rfl) rfl ?_
  repeat' ((conv => whnf) <;> first
   | refine cE (fun _ => ?_) fun _ => ?_ | refine And.intro ?_ ?_)
  all_goals first | rfl | (exfalso; simp_all; done)
theorem ev_eqFlow (x : GFlow) (S : Store) : EvA Tryz.prog 163 [.agg x.c, .agg x.c] S (fun r S' => r = .v (.s (.bool true)) ∧ S' = S) := by
  refine evA_intro tok Tryz.func163 (by kernel_rfl) rfl ?_
  repeat' ((conv => whnf) <;> first
   | refine cE (fun _ => ?_) fun _ => ?_ | refine And.intro ?_ ?_)
  all_goals first | rfl | (exfalso; simp_all; done)
theorem ev_eqIntS (l : (List Int)) (c c' : C) (S : Store) (h : Rd S [.sl 1 (l.map dInt)] [c]) (h' : Rd S [.sl 1 (l.map dInt)] [c']) : EvA Tryz.prog 183 [.s c, .s c'] S (fun r S' => r = .v (.s (.bool true)) ∧ S' = S) := by
  refine evA_intro tok Tryz.func183 (by kernel_rfl) rfl ?_
  repeat' ((conv => whnf) <;> first
   | refine cE (fun _ => ?_) fun _ => ?_ | refine rE fun hml => ?_ | refine And.intro ?_ ?_)
  all_goals try first | rfl | (exfalso; simp_all; done)
  refine loop_intro {i : Nat // i ≤ l.length ∧ True} [4, 5, 11, 12, 13, 14, 15, 16, 17, 18, 19, 20, 21, 22, 23, 24, 25] (fun zb => [(5, .v (.s (.int .i64 zb.1)))]) (fun _ => S) (fun zb => l.length - zb.1) ⟨0, Nat.zero_le _, trivial⟩ ?_ rfl ?_
  · (conv => whnf); repeat' (first | exact trivial | exact rfl | apply And.intro)
  rintro ⟨i, hi, hinv⟩; dsimp only
  repeat' ((conv => whnf) <;> first
   | rw [wrapI_i64 (by omega)] | refine cD (fun _ => ?_) fun _ => ?_ | refine cE (fun _ => ?_) fun _ => ?_ | refine rE fun hml => ?_ | refine rI aN rf ix ?_ | refine rd_loadf aN tv ix ?_ | refine draw_intro 17 [.fl 0, .fl 1, .fl 2, .fl 3, .fl 4, .fl 5, .fl 6, .fl 7, .fl 8] (by rfl) (by kernel_rfl) ?_ | refine And.intro ?_ ?_)
  all_goals first | rfl | (exfalso; simp_all; done) | (refine ⟨⟨i + 1, by omega, trivial⟩, ?_, rfl, by simp; omega⟩; (conv => whnf); repeat' (first | exact trivial | exact rfl | apply And.intro))
theorem ev_eqNode (x : GNode) (S : Store) : EvA Tryz.prog 233 [.agg x.c, .agg x.c] S (fun r S' => r = .v (.s (.bool true)) ∧ S' = S) := by
  refine evA_intro tok Tryz.func233 (by kernel_rfl) rfl ?_
  repeat' ((conv => whnf) <;> first
   | refine cE (fun _ => ?_) fun _ => ?_ | refine And.intro ?_ ?_)
  all_goals first | rfl | (exfalso; simp_all; done)
theorem ev_eqOp (x : GOp) (S : Store) : EvA Tryz.prog 164 [.agg x.c, .agg x.c] S (fun r S' => r = .v (.s (.bool true)) ∧ S' = S) := by
  refine evA_intro tok Tryz.func164 (by kernel_rfl) rfl ?_
  repeat' ((conv => whnf) <;> first
   | refine cE (fun _ => ?_) fun _ => ?_ | refine And.intro ?_ ?_)
  all_goals first | rfl | (exfalso; simp_all; done)
theorem ev_eqPattern (x : GPattern) (S : Store) : EvA Tryz.prog 184 [.agg x.c, .agg x.c] S (fun r S' => r = .v (.s (.bool true)) ∧ S' = S) := by
  refine evA_intro tok Tryz.func184 (by kernel_rfl) rfl ?_
  repeat' ((conv => whnf) <;> first
   | refine cE (fun _ => ?_) fun _ => ?_ | refine And.intro ?_ ?_)
  all_goals first | rfl | (exfalso; simp_all; done)
theorem ev_eqSite (x : GSite) (S : Store) : EvA Tryz.prog 180 [.agg x.c, .agg x.c] S (fun r S' => r = .v (.s (.bool true)) ∧ S' = S) := by
  refine evA_intro tok Tryz.func180 (by kernel_rfl) rfl ?_
  repeat' ((conv => whnf) <;> first
   | refine cE (fun _ => ?_) fun _ => ?_ | refine And.intro ?_ ?_)
  all_goals first | rfl | (exfalso; simp_all; done)
theorem ev_eqStored (x : GStored) (S : Store) : EvA Tryz.prog 111 [.agg x.c, .agg x.c] S (fun r S' => r = .v (.s (.bool true)) ∧ S' = S) := by
  refine evA_intro tok Tryz.func111 (by kernel_rfl) rfl ?_
  repeat' ((conv => whnf) <;> first
   | refine cE (fun _ => ?_) fun _ => ?_ | refine And.intro ?_ ?_)
  all_goals first | rfl | (exfalso; simp_all; done)
theorem ev_eqEditS (l : (List GEdit)) (c c' : C) (S : Store) (h : Rd S [.sl 6 (l.map GEdit.d)] [c]) (h' : Rd S [.sl 6 (l.map GEdit.d)] [c']) : EvA Tryz.prog 182 [.s c, .s c'] S (fun r S' => r = .v (.s (.bool true)) ∧ S' = S) := by
  refine evA_intro tok Tryz.func182 (by kernel_rfl) rfl ?_
  repeat' ((conv => whnf) <;> first
   | refine cE (fun _ => ?_) fun _ => ?_ | refine rE fun hml => ?_ | refine And.intro ?_ ?_)
  all_goals try first | rfl | (exfalso; simp_all; done)
  refine loop_intro {i : Nat // i ≤ l.length ∧ True} [4, 5, 11, 12, 13, 14, 15, 16, 17, 18, 19, 20, 21, 22, 23, 24, 25, 26] (fun zb => [(5, .v (.s (.int .i64 zb.1)))]) (fun _ => S) (fun zb => l.length - zb.1) ⟨0, Nat.zero_le _, trivial⟩ ?_ rfl ?_
  · (conv => whnf); repeat' (first | exact trivial | exact rfl | apply And.intro)
  rintro ⟨i, hi, hinv⟩; dsimp only
  repeat' ((conv => whnf) <;> first
   | rw [wrapI_i64 (by omega)] | refine cD (fun _ => ?_) fun _ => ?_ | refine cF ?_ | refine callP_eq (ev_eqEdit _ _) ?_ | refine rE fun hml => ?_ | refine rI aN rf ix ?_ | refine rd_loadf aN tv ix ?_ | refine draw_intro 17 [.fl 0, .fl 1, .fl 2, .fl 3, .fl 4, .fl 5, .fl 6, .fl 7, .st 8 [], .fl 9] (by rfl) (by kernel_rfl) ?_ | refine And.intro ?_ ?_)
  all_goals first | rfl | (exfalso; simp_all; done) | (refine ⟨⟨i + 1, by omega, trivial⟩, ?_, rfl, by simp; omega⟩; (conv => whnf); repeat' (first | exact trivial | exact rfl | apply And.intro))
theorem ev_eqFlowS (l : (List GFlow)) (c c' : C) (S : Store) (h : Rd S [.sl 3 (l.map GFlow.d)] [c]) (h' : Rd S [.sl 3 (l.map GFlow.d)] [c']) : EvA Tryz.prog 87 [.s c, .s c'] S (fun r S' => r = .v (.s (.bool true)) ∧ S' = S) := by
  refine evA_intro tok Tryz.func87 (by kernel_rfl) rfl ?_
  repeat' ((conv => whnf) <;> first
   | refine cE (fun _ => ?_) fun _ => ?_ | refine rE fun hml => ?_ | refine And.intro ?_ ?_)
  all_goals try first | rfl | (exfalso; simp_all; done)
  refine loop_intro {i : Nat // i ≤ l.length ∧ True} [4, 5, 11, 12, 13, 14, 15, 16, 17, 18, 19, 20, 21, 22, 23, 24, 25, 26] (fun zb => [(5, .v (.s (.int .i64 zb.1)))]) (fun _ => S) (fun zb => l.length - zb.1) ⟨0, Nat.zero_le _, trivial⟩ ?_ rfl ?_
  · (conv => whnf); repeat' (first | exact trivial | exact rfl | apply And.intro)
  rintro ⟨i, hi, hinv⟩; dsimp only
  repeat' ((conv => whnf) <;> first
   | rw [wrapI_i64 (by omega)] | refine cD (fun _ => ?_) fun _ => ?_ | refine cF ?_ | refine callP_eq (ev_eqFlow _ _) ?_ | refine rE fun hml => ?_ | refine rI aN rf ix ?_ | refine rd_loadf aN tv ix ?_ | refine draw_intro 17 [.fl 0, .fl 1, .fl 2, .fl 3, .fl 4, .fl 5, .fl 6, .fl 7, .st 8 [], .fl 9] (by rfl) (by kernel_rfl) ?_ | refine And.intro ?_ ?_)
  all_goals first | rfl | (exfalso; simp_all; done) | (refine ⟨⟨i + 1, by omega, trivial⟩, ?_, rfl, by simp; omega⟩; (conv => whnf); repeat' (first | exact trivial | exact rfl | apply And.intro))
theorem ev_eqGrant (x : GGrant) (S : Store) : EvA Tryz.prog 108 [.agg x.c, .agg x.c] S (fun r S' => r = .v (.s (.bool true)) ∧ S' = S) := by
  refine evA_intro tok Tryz.func108 (by kernel_rfl) rfl ?_
  repeat' ((conv => whnf) <;> first
   | refine cE (fun _ => ?_) fun _ => ?_ | refine cF ?_ | refine callP_eq (ev_eqPattern _ _) ?_ | refine And.intro ?_ ?_)
  all_goals first | rfl | (exfalso; simp_all; done)
theorem ev_eqLimit (x : GLimit) (S : Store) : EvA Tryz.prog 109 [.agg x.c, .agg x.c] S (fun r S' => r = .v (.s (.bool true)) ∧ S' = S) := by
  refine evA_intro tok Tryz.func109 (by kernel_rfl) rfl ?_
  repeat' ((conv => whnf) <;> first
   | refine cE (fun _ => ?_) fun _ => ?_ | refine cF ?_ | refine callP_eq (ev_eqPattern _ _) ?_ | refine And.intro ?_ ?_)
  all_goals first | rfl | (exfalso; simp_all; done)
theorem ev_eqNodeS (l : (List GNode)) (c c' : C) (S : Store) (h : Rd S [.sl 5 (l.map GNode.d)] [c]) (h' : Rd S [.sl 5 (l.map GNode.d)] [c']) : EvA Tryz.prog 181 [.s c, .s c'] S (fun r S' => r = .v (.s (.bool true)) ∧ S' = S) := by
  refine evA_intro tok Tryz.func181 (by kernel_rfl) rfl ?_
  repeat' ((conv => whnf) <;> first
   | refine cE (fun _ => ?_) fun _ => ?_ | refine rE fun hml => ?_ | refine And.intro ?_ ?_)
  all_goals try first | rfl | (exfalso; simp_all; done)
  refine loop_intro {i : Nat // i ≤ l.length ∧ True} [4, 5, 11, 12, 13, 14, 15, 16, 17, 18, 19, 20, 21, 22, 23, 24, 25, 26] (fun zb => [(5, .v (.s (.int .i64 zb.1)))]) (fun _ => S) (fun zb => l.length - zb.1) ⟨0, Nat.zero_le _, trivial⟩ ?_ rfl ?_
  · (conv => whnf); repeat' (first | exact trivial | exact rfl | apply And.intro)
  rintro ⟨i, hi, hinv⟩; dsimp only
  repeat' ((conv => whnf) <;> first
   | rw [wrapI_i64 (by omega)] | refine cD (fun _ => ?_) fun _ => ?_ | refine cF ?_ | refine callP_eq (ev_eqNode _ _) ?_ | refine rE fun hml => ?_ | refine rI aN rf ix ?_ | refine rd_loadf aN tv ix ?_ | refine draw_intro 17 [.fl 0, .fl 1, .fl 2, .fl 3, .fl 4, .fl 5, .fl 6, .fl 7, .st 8 [], .fl 9] (by rfl) (by kernel_rfl) ?_ | refine And.intro ?_ ?_)
  all_goals first | rfl | (exfalso; simp_all; done) | (refine ⟨⟨i + 1, by omega, trivial⟩, ?_, rfl, by simp; omega⟩; (conv => whnf); repeat' (first | exact trivial | exact rfl | apply And.intro))
theorem ev_eqOpS (l : (List GOp)) (c c' : C) (S : Store) (h : Rd S [.sl 4 (l.map GOp.d)] [c]) (h' : Rd S [.sl 4 (l.map GOp.d)] [c']) : EvA Tryz.prog 88 [.s c, .s c'] S (fun r S' => r = .v (.s (.bool true)) ∧ S' = S) := by
  refine evA_intro tok Tryz.func88 (by kernel_rfl) rfl ?_
  repeat' ((conv => whnf) <;> first
   | refine cE (fun _ => ?_) fun _ => ?_ | refine rE fun hml => ?_ | refine And.intro ?_ ?_)
  all_goals try first | rfl | (exfalso; simp_all; done)
  refine loop_intro {i : Nat // i ≤ l.length ∧ True} [4, 5, 11, 12, 13, 14, 15, 16, 17, 18, 19, 20, 21, 22, 23, 24, 25, 26] (fun zb => [(5, .v (.s (.int .i64 zb.1)))]) (fun _ => S) (fun zb => l.length - zb.1) ⟨0, Nat.zero_le _, trivial⟩ ?_ rfl ?_
  · (conv => whnf); repeat' (first | exact trivial | exact rfl | apply And.intro)
  rintro ⟨i, hi, hinv⟩; dsimp only
  repeat' ((conv => whnf) <;> first
   | rw [wrapI_i64 (by omega)] | refine cD (fun _ => ?_) fun _ => ?_ | refine cF ?_ | refine callP_eq (ev_eqOp _ _) ?_ | refine rE fun hml => ?_ | refine rI aN rf ix ?_ | refine rd_loadf aN tv ix ?_ | refine draw_intro 17 [.fl 0, .fl 1, .fl 2, .fl 3, .fl 4, .fl 5, .fl 6, .fl 7, .st 8 [], .fl 9] (by rfl) (by kernel_rfl) ?_ | refine And.intro ?_ ?_)
  all_goals first | rfl | (exfalso; simp_all; done) | (refine ⟨⟨i + 1, by omega, trivial⟩, ?_, rfl, by simp; omega⟩; (conv => whnf); repeat' (first | exact trivial | exact rfl | apply And.intro))
theorem ev_eqRule (x : GRule) (S : Store) : EvA Tryz.prog 110 [.agg x.c, .agg x.c] S (fun r S' => r = .v (.s (.bool true)) ∧ S' = S) := by
  refine evA_intro tok Tryz.func110 (by kernel_rfl) rfl ?_
  repeat' ((conv => whnf) <;> first
   | refine cE (fun _ => ?_) fun _ => ?_ | refine cF ?_ | refine callP_eq (ev_eqSite _ _) ?_ | refine callP_eq (ev_eqPattern _ _) ?_ | refine And.intro ?_ ?_)
  all_goals first | rfl | (exfalso; simp_all; done)
theorem ev_eqStoredS (l : (List GStored)) (c c' : C) (S : Store) (h : Rd S [.sl 4 (l.map GStored.d)] [c]) (h' : Rd S [.sl 4 (l.map GStored.d)] [c']) : EvA Tryz.prog 57 [.s c, .s c'] S (fun r S' => r = .v (.s (.bool true)) ∧ S' = S) := by
  refine evA_intro tok Tryz.func57 (by kernel_rfl) rfl ?_
  repeat' ((conv => whnf) <;> first
   | refine cE (fun _ => ?_) fun _ => ?_ | refine rE fun hml => ?_ | refine And.intro ?_ ?_)
  all_goals try first | rfl | (exfalso; simp_all; done)
  refine loop_intro {i : Nat // i ≤ l.length ∧ True} [4, 5, 11, 12, 13, 14, 15, 16, 17, 18, 19, 20, 21, 22, 23, 24, 25, 26] (fun zb => [(5, .v (.s (.int .i64 zb.1)))]) (fun _ => S) (fun zb => l.length - zb.1) ⟨0, Nat.zero_le _, trivial⟩ ?_ rfl ?_
  · (conv => whnf); repeat' (first | exact trivial | exact rfl | apply And.intro)
  rintro ⟨i, hi, hinv⟩; dsimp only
  repeat' ((conv => whnf) <;> first
   | rw [wrapI_i64 (by omega)] | refine cD (fun _ => ?_) fun _ => ?_ | refine cF ?_ | refine callP_eq (ev_eqStored _ _) ?_ | refine rE fun hml => ?_ | refine rI aN rf ix ?_ | refine rd_loadf aN tv ix ?_ | refine draw_intro 17 [.fl 0, .fl 1, .fl 2, .fl 3, .fl 4, .fl 5, .fl 6, .fl 7, .st 8 [], .fl 9] (by rfl) (by kernel_rfl) ?_ | refine And.intro ?_ ?_)
  all_goals first | rfl | (exfalso; simp_all; done) | (refine ⟨⟨i + 1, by omega, trivial⟩, ?_, rfl, by simp; omega⟩; (conv => whnf); repeat' (first | exact trivial | exact rfl | apply And.intro))
theorem ev_eqGrantS (l : (List GGrant)) (c c' : C) (S : Store) (h : Rd S [.sl 7 (l.map GGrant.d)] [c]) (h' : Rd S [.sl 7 (l.map GGrant.d)] [c']) : EvA Tryz.prog 54 [.s c, .s c'] S (fun r S' => r = .v (.s (.bool true)) ∧ S' = S) := by
  refine evA_intro tok Tryz.func54 (by kernel_rfl) rfl ?_
  repeat' ((conv => whnf) <;> first
   | refine cE (fun _ => ?_) fun _ => ?_ | refine rE fun hml => ?_ | refine And.intro ?_ ?_)
  all_goals try first | rfl | (exfalso; simp_all; done)
  refine loop_intro {i : Nat // i ≤ l.length ∧ True} [4, 5, 11, 12, 13, 14, 15, 16, 17, 18, 19, 20, 21, 22, 23, 24, 25, 26] (fun zb => [(5, .v (.s (.int .i64 zb.1)))]) (fun _ => S) (fun zb => l.length - zb.1) ⟨0, Nat.zero_le _, trivial⟩ ?_ rfl ?_
  · (conv => whnf); repeat' (first | exact trivial | exact rfl | apply And.intro)
  rintro ⟨i, hi, hinv⟩; dsimp only
  repeat' ((conv => whnf) <;> first
   | rw [wrapI_i64 (by omega)] | refine cD (fun _ => ?_) fun _ => ?_ | refine cF ?_ | refine callP_eq (ev_eqGrant _ _) ?_ | refine rE fun hml => ?_ | refine rI aN rf ix ?_ | refine rd_loadf aN tv ix ?_ | refine draw_intro 17 [.fl 0, .fl 1, .fl 2, .fl 3, .fl 4, .fl 5, .fl 6, .fl 7, .st 8 [], .fl 9] (by rfl) (by kernel_rfl) ?_ | refine And.intro ?_ ?_)
  all_goals first | rfl | (exfalso; simp_all; done) | (refine ⟨⟨i + 1, by omega, trivial⟩, ?_, rfl, by simp; omega⟩; (conv => whnf); repeat' (first | exact trivial | exact rfl | apply And.intro))
theorem ev_eqLimitS (l : (List GLimit)) (c c' : C) (S : Store) (h : Rd S [.sl 4 (l.map GLimit.d)] [c]) (h' : Rd S [.sl 4 (l.map GLimit.d)] [c']) : EvA Tryz.prog 55 [.s c, .s c'] S (fun r S' => r = .v (.s (.bool true)) ∧ S' = S) := by
  refine evA_intro tok Tryz.func55 (by kernel_rfl) rfl ?_
  repeat' ((conv => whnf) <;> first
   | refine cE (fun _ => ?_) fun _ => ?_ | refine rE fun hml => ?_ | refine And.intro ?_ ?_)
  all_goals try first | rfl | (exfalso; simp_all; done)
  refine loop_intro {i : Nat // i ≤ l.length ∧ True} [4, 5, 11, 12, 13, 14, 15, 16, 17, 18, 19, 20, 21, 22, 23, 24, 25, 26] (fun zb => [(5, .v (.s (.int .i64 zb.1)))]) (fun _ => S) (fun zb => l.length - zb.1) ⟨0, Nat.zero_le _, trivial⟩ ?_ rfl ?_
  · (conv => whnf); repeat' (first | exact trivial | exact rfl | apply And.intro)
  rintro ⟨i, hi, hinv⟩; dsimp only
  repeat' ((conv => whnf) <;> first
   | rw [wrapI_i64 (by omega)] | refine cD (fun _ => ?_) fun _ => ?_ | refine cF ?_ | refine callP_eq (ev_eqLimit _ _) ?_ | refine rE fun hml => ?_ | refine rI aN rf ix ?_ | refine rd_loadf aN tv ix ?_ | refine draw_intro 17 [.fl 0, .fl 1, .fl 2, .fl 3, .fl 4, .fl 5, .fl 6, .fl 7, .st 8 [], .fl 9] (by rfl) (by kernel_rfl) ?_ | refine And.intro ?_ ?_)
  all_goals first | rfl | (exfalso; simp_all; done) | (refine ⟨⟨i + 1, by omega, trivial⟩, ?_, rfl, by simp; omega⟩; (conv => whnf); repeat' (first | exact trivial | exact rfl | apply And.intro))
theorem ev_eqRuleS (l : (List GRule)) (c c' : C) (S : Store) (h : Rd S [.sl 8 (l.map GRule.d)] [c]) (h' : Rd S [.sl 8 (l.map GRule.d)] [c']) : EvA Tryz.prog 56 [.s c, .s c'] S (fun r S' => r = .v (.s (.bool true)) ∧ S' = S) := by
  refine evA_intro tok Tryz.func56 (by kernel_rfl) rfl ?_
  repeat' ((conv => whnf) <;> first
   | refine cE (fun _ => ?_) fun _ => ?_ | refine rE fun hml => ?_ | refine And.intro ?_ ?_)
  all_goals try first | rfl | (exfalso; simp_all; done)
  refine loop_intro {i : Nat // i ≤ l.length ∧ True} [4, 5, 11, 12, 13, 14, 15, 16, 17, 18, 19, 20, 21, 22, 23, 24, 25, 26] (fun zb => [(5, .v (.s (.int .i64 zb.1)))]) (fun _ => S) (fun zb => l.length - zb.1) ⟨0, Nat.zero_le _, trivial⟩ ?_ rfl ?_
  · (conv => whnf); repeat' (first | exact trivial | exact rfl | apply And.intro)
  rintro ⟨i, hi, hinv⟩; dsimp only
  repeat' ((conv => whnf) <;> first
   | rw [wrapI_i64 (by omega)] | refine cD (fun _ => ?_) fun _ => ?_ | refine cF ?_ | refine callP_eq (ev_eqRule _ _) ?_ | refine rE fun hml => ?_ | refine rI aN rf ix ?_ | refine rd_loadf aN tv ix ?_ | refine draw_intro 17 [.fl 0, .fl 1, .fl 2, .fl 3, .fl 4, .fl 5, .fl 6, .fl 7, .st 8 [], .fl 9] (by rfl) (by kernel_rfl) ?_ | refine And.intro ?_ ?_)
  all_goals first | rfl | (exfalso; simp_all; done) | (refine ⟨⟨i + 1, by omega, trivial⟩, ?_, rfl, by simp; omega⟩; (conv => whnf); repeat' (first | exact trivial | exact rfl | apply And.intro))
theorem ev_eqTab (x : GTab) (cs cs' : List C) (S : Store) (h : Rd S x.d cs) (h' : Rd S x.d cs') : EvA Tryz.prog 107 [.agg cs, .agg cs'] S (fun r S' => r = .v (.s (.bool true)) ∧ S' = S) := by
  obtain ⟨_, _, _, rfl, _, _, _⟩ := GTab.inv h
  obtain ⟨_, _, _, rfl, _, _, _⟩ := GTab.inv h'
  refine evA_intro tok Tryz.func107 (by kernel_rfl) rfl ?_
  repeat' ((conv => whnf) <;> first
   | refine cE (fun _ => ?_) fun _ => ?_ | refine cF ?_ | refine callP_eq (ev_eqSite _ _) ?_ | refine callP_eq (ev_eqNodeS _ _ _ _ aN aN) ?_ | refine callP_eq (ev_eqEditS _ _ _ _ aN aN) ?_ | refine callP_eq (ev_eqIntS _ _ _ _ aN aN) ?_ | refine And.intro ?_ ?_)
  all_goals first | rfl | (exfalso; simp_all; done)
theorem ev_eqPackage (x : GPackage) (cs cs' : List C) (S : Store) (h : Rd S x.d cs) (h' : Rd S x.d cs') : EvA Tryz.prog 23 [.agg cs, .agg cs'] S (fun r S' => r = .v (.s (.bool true)) ∧ S' = S) := by
  obtain ⟨_, _, _, _, rfl, _, _, _, _⟩ := GPackage.inv h
  obtain ⟨_, _, _, _, rfl, _, _, _, _⟩ := GPackage.inv h'
  refine evA_intro tok Tryz.func23 (by kernel_rfl) rfl ?_
  repeat' ((conv => whnf) <;> first
   | refine cE (fun _ => ?_) fun _ => ?_ | refine cF ?_ | refine callP_eq (ev_eqGrantS _ _ _ _ aN aN) ?_ | refine callP_eq (ev_eqRuleS _ _ _ _ aN aN) ?_ | refine callP_eq (ev_eqFlowS _ _ _ _ aN aN) ?_ | refine callP_eq (ev_eqOpS _ _ _ _ aN aN) ?_ | refine And.intro ?_ ?_)
  all_goals first | rfl | (exfalso; simp_all; done)
theorem ev_eqTabS (l : (List GTab)) (c c' : C) (S : Store) (h : Rd S [.sl 6 (l.map GTab.d)] [c]) (h' : Rd S [.sl 6 (l.map GTab.d)] [c']) : EvA Tryz.prog 52 [.s c, .s c'] S (fun r S' => r = .v (.s (.bool true)) ∧ S' = S) := by
  refine evA_intro tok Tryz.func52 (by kernel_rfl) rfl ?_
  repeat' ((conv => whnf) <;> first
   | refine cE (fun _ => ?_) fun _ => ?_ | refine rE fun hml => ?_ | refine And.intro ?_ ?_)
  all_goals try first | rfl | (exfalso; simp_all; done)
  refine loop_intro {i : Nat // i ≤ l.length ∧ True} [4, 5, 11, 12, 13, 14, 15, 16, 17, 18, 19, 20, 21, 22, 23, 24, 25, 26] (fun zb => [(5, .v (.s (.int .i64 zb.1)))]) (fun _ => S) (fun zb => l.length - zb.1) ⟨0, Nat.zero_le _, trivial⟩ ?_ rfl ?_
  · (conv => whnf); repeat' (first | exact trivial | exact rfl | apply And.intro)
  rintro ⟨i, hi, hinv⟩; dsimp only
  repeat' ((conv => whnf) <;> first
   | rw [wrapI_i64 (by omega)] | refine cD (fun _ => ?_) fun _ => ?_ | refine cF ?_ | refine callP_eq (ev_eqTab _ _ _ _ rdcB rdcB) ?_ | refine rE fun hml => ?_ | refine rI aN rf ix ?_ | (refine rd_loadm (f := GTab.d) aN ix ?_; intro _ hcs; obtain ⟨_, _, _, rfl, _, _, _⟩ := GTab.inv hcs) | refine draw_intro 17 [.fl 0, .fl 1, .fl 2, .fl 3, .fl 4, .fl 5, .fl 6, .fl 7, .st 8 [], .fl 9] (by rfl) (by kernel_rfl) ?_ | refine And.intro ?_ ?_)
  all_goals first | rfl | (exfalso; simp_all; done) | (refine ⟨⟨i + 1, by omega, trivial⟩, ?_, rfl, by simp; omega⟩; (conv => whnf); repeat' (first | exact trivial | exact rfl | apply And.intro))
theorem ev_eqPackageS (l : (List GPackage)) (c c' : C) (S : Store) (h : Rd S [.sl 8 (l.map GPackage.d)] [c]) (h' : Rd S [.sl 8 (l.map GPackage.d)] [c']) : EvA Tryz.prog 53 [.s c, .s c'] S (fun r S' => r = .v (.s (.bool true)) ∧ S' = S) := by
  refine evA_intro tok Tryz.func53 (by kernel_rfl) rfl ?_
  repeat' ((conv => whnf) <;> first
   | refine cE (fun _ => ?_) fun _ => ?_ | refine rE fun hml => ?_ | refine And.intro ?_ ?_)
  all_goals try first | rfl | (exfalso; simp_all; done)
  refine loop_intro {i : Nat // i ≤ l.length ∧ True} [4, 5, 11, 12, 13, 14, 15, 16, 17, 18, 19, 20, 21, 22, 23, 24, 25, 26] (fun zb => [(5, .v (.s (.int .i64 zb.1)))]) (fun _ => S) (fun zb => l.length - zb.1) ⟨0, Nat.zero_le _, trivial⟩ ?_ rfl ?_
  · (conv => whnf); repeat' (first | exact trivial | exact rfl | apply And.intro)
  rintro ⟨i, hi, hinv⟩; dsimp only
  repeat' ((conv => whnf) <;> first
   | rw [wrapI_i64 (by omega)] | refine cD (fun _ => ?_) fun _ => ?_ | refine cF ?_ | refine callP_eq (ev_eqPackage _ _ _ _ rdcB rdcB) ?_ | refine rE fun hml => ?_ | refine rI aN rf ix ?_ | (refine rd_loadm (f := GPackage.d) aN ix ?_; intro _ hcs; obtain ⟨_, _, _, _, rfl, _, _, _, _⟩ := GPackage.inv hcs) | refine draw_intro 17 [.fl 0, .fl 1, .fl 2, .fl 3, .fl 4, .fl 5, .fl 6, .fl 7, .st 8 [], .fl 9] (by rfl) (by kernel_rfl) ?_ | refine And.intro ?_ ?_)
  all_goals first | rfl | (exfalso; simp_all; done) | (refine ⟨⟨i + 1, by omega, trivial⟩, ?_, rfl, by simp; omega⟩; (conv => whnf); repeat' (first | exact trivial | exact rfl | apply And.intro))
theorem ev_eqBrowser (x : GBrowser) (cs cs' : List C) (S : Store) (h : Rd S x.d cs) (h' : Rd S x.d cs') : EvA Tryz.prog 12 [.agg cs, .agg cs'] S (fun r S' => r = .v (.s (.bool true)) ∧ S' = S) := by
  obtain ⟨_, _, _, _, _, _, rfl, _, _, _, _, _, _⟩ := GBrowser.inv h
  obtain ⟨_, _, _, _, _, _, rfl, _, _, _, _, _, _⟩ := GBrowser.inv h'
  refine evA_intro tok Tryz.func12 (by kernel_rfl) rfl ?_
  repeat' ((conv => whnf) <;> first
   | refine cE (fun _ => ?_) fun _ => ?_ | refine cF ?_ | refine callP_eq (ev_eqTabS _ _ _ _ aN aN) ?_ | refine callP_eq (ev_eqPackageS _ _ _ _ aN aN) ?_ | refine callP_eq (ev_eqGrantS _ _ _ _ aN aN) ?_ | refine callP_eq (ev_eqLimitS _ _ _ _ aN aN) ?_ | refine callP_eq (ev_eqRuleS _ _ _ _ aN aN) ?_ | refine callP_eq (ev_eqStoredS _ _ _ _ aN aN) ?_ | refine And.intro ?_ ?_)
  all_goals first | rfl | (exfalso; simp_all; done)
end Go.Proofs.YtibglkkmjigooaaGreat
