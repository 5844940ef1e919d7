/- The laws' helpers: eq. -/
import Derived.Test.YtimbmhglengjcaaFnB
namespace Go.Proofs.Ytimbmhglengjcaa
open Go Go.ChangeShapes Go.WideShapes Go.ChangeAt Go.RowKit
set_option linter.unusedVariables false
set_option maxRecDepth 100000

theorem ev_eqFlow (x : GFlow) (S : Store) : EvA Try.prog 27 [.agg x.c, .agg x.c] S (fun r S' => r = .v (.s (.bool true)) ∧ S' = S) := by
  refine evA_intro tok Try.func27 (by kernel_rfl) rfl ?_
  repeat' ((conv => whnf) <;> first
   | refine condP_dec (fun _ => ?_) (fun _ => ?_)
   | refine condP_ndec (fun _ => ?_) (fun _ => ?_)
   | refine condP_true rfl ?_
   | refine condP_false rfl ?_
   | refine condP_not (fun _ => ?_) (fun _ => ?_)
   | refine condP_intro (fun _ => ?_) (fun _ => ?_)
   | refine needP_intro (by first | omega | (constructor <;> omega)) ?_
   | refine And.intro ?_ ?_)
  all_goals first | rfl | (exfalso; simp_all; done)

theorem ev_eqOp (x : GOp) (S : Store) : EvA Try.prog 29 [.agg x.c, .agg x.c] S (fun r S' => r = .v (.s (.bool true)) ∧ S' = S) := by
  refine evA_intro tok Try.func29 (by kernel_rfl) rfl ?_
  repeat' ((conv => whnf) <;> first
   | refine condP_dec (fun _ => ?_) (fun _ => ?_)
   | refine condP_ndec (fun _ => ?_) (fun _ => ?_)
   | refine condP_true rfl ?_
   | refine condP_false rfl ?_
   | refine condP_not (fun _ => ?_) (fun _ => ?_)
   | refine condP_intro (fun _ => ?_) (fun _ => ?_)
   | refine needP_intro (by first | omega | (constructor <;> omega)) ?_
   | refine And.intro ?_ ?_)
  all_goals first | rfl | (exfalso; simp_all; done)

theorem ev_eqPattern (x : GPattern) (S : Store) : EvA Try.prog 37 [.agg x.c, .agg x.c] S (fun r S' => r = .v (.s (.bool true)) ∧ S' = S) := by
  refine evA_intro tok Try.func37 (by kernel_rfl) rfl ?_
  repeat' ((conv => whnf) <;> first
   | refine condP_dec (fun _ => ?_) (fun _ => ?_)
   | refine condP_ndec (fun _ => ?_) (fun _ => ?_)
   | refine condP_true rfl ?_
   | refine condP_false rfl ?_
   | refine condP_not (fun _ => ?_) (fun _ => ?_)
   | refine condP_intro (fun _ => ?_) (fun _ => ?_)
   | refine needP_intro (by first | omega | (constructor <;> omega)) ?_
   | refine And.intro ?_ ?_)
  all_goals first | rfl | (exfalso; simp_all; done)

theorem ev_eqSite (x : GSite) (S : Store) : EvA Try.prog 38 [.agg x.c, .agg x.c] S (fun r S' => r = .v (.s (.bool true)) ∧ S' = S) := by
  refine evA_intro tok Try.func38 (by kernel_rfl) rfl ?_
  repeat' ((conv => whnf) <;> first
   | refine condP_dec (fun _ => ?_) (fun _ => ?_)
   | refine condP_ndec (fun _ => ?_) (fun _ => ?_)
   | refine condP_true rfl ?_
   | refine condP_false rfl ?_
   | refine condP_not (fun _ => ?_) (fun _ => ?_)
   | refine condP_intro (fun _ => ?_) (fun _ => ?_)
   | refine needP_intro (by first | omega | (constructor <;> omega)) ?_
   | refine And.intro ?_ ?_)
  all_goals first | rfl | (exfalso; simp_all; done)

theorem ev_eqFlowS (l : (List GFlow)) (c c' : C) (S : Store) (h : Rd S [.sl 3 (l.map GFlow.d)] [c]) (h' : Rd S [.sl 3 (l.map GFlow.d)] [c']) : EvA Try.prog 12 [.s c, .s c'] S (fun r S' => r = .v (.s (.bool true)) ∧ S' = S) := by
  refine evA_intro tok Try.func12 (by kernel_rfl) rfl ?_
  repeat' ((conv => whnf) <;> first
   | rw [wrapI_i64 (by omega)]
   | refine condP_dec (fun _ => ?_) (fun _ => ?_)
   | refine condP_ndec (fun _ => ?_) (fun _ => ?_)
   | refine condP_true rfl ?_
   | refine condP_false rfl ?_
   | refine condP_not (fun _ => ?_) (fun _ => ?_)
   | refine condP_intro (fun _ => ?_) (fun _ => ?_)
   | refine callP_eq (ev_eqFlow _ _) ?_
   | (refine rd_lenm (by assumption) ?_; intro hml; rw [maxLen_eq] at hml)
   | refine rd_idxm (by assumption) (by intro _; rfl) (by constructor <;> omega) ?_
   | refine rd_loadf (by assumption) (by intro _; exact trivial) (by constructor <;> omega) ?_
   | refine needP_intro (by first | omega | (constructor <;> omega)) ?_
   | refine draw_intro 17 [.fl 0, .fl 1, .fl 2, .fl 3, .fl 4, .fl 5, .fl 6, .fl 7, .st 8 [], .fl 9] (by rfl) (by kernel_rfl) ?_
   | refine And.intro ?_ ?_)
  all_goals try first | rfl | (exfalso; simp_all; done)
  refine loop_intro {i : Nat // i ≤ l.length ∧ True} [4, 5, 11, 12, 13, 14, 15, 16, 17, 18, 19, 20, 21, 22, 23, 24, 25, 26] (fun zb => [(5, .v (.s (.int .i64 zb.1)))]) (fun _ => S) (fun zb => l.length - zb.1) ⟨0, Nat.zero_le _, trivial⟩ ?_ rfl ?_
  · (conv => whnf); repeat' (first | exact trivial | exact rfl | apply And.intro)
  rintro ⟨i, hi, hinv⟩; dsimp only
  repeat' ((conv => whnf) <;> first
   | rw [wrapI_i64 (by omega)]
   | refine condP_dec (fun _ => ?_) (fun _ => ?_)
   | refine condP_ndec (fun _ => ?_) (fun _ => ?_)
   | refine condP_true rfl ?_
   | refine condP_false rfl ?_
   | refine condP_not (fun _ => ?_) (fun _ => ?_)
   | refine condP_intro (fun _ => ?_) (fun _ => ?_)
   | refine callP_eq (ev_eqFlow _ _) ?_
   | (refine rd_lenm (by assumption) ?_; intro hml; rw [maxLen_eq] at hml)
   | refine rd_idxm (by assumption) (by intro _; rfl) (by constructor <;> omega) ?_
   | refine rd_loadf (by assumption) (by intro _; exact trivial) (by constructor <;> omega) ?_
   | refine needP_intro (by first | omega | (constructor <;> omega)) ?_
   | refine draw_intro 17 [.fl 0, .fl 1, .fl 2, .fl 3, .fl 4, .fl 5, .fl 6, .fl 7, .st 8 [], .fl 9] (by rfl) (by kernel_rfl) ?_
   | refine And.intro ?_ ?_)
  all_goals first | rfl | (exfalso; simp_all; done) | (refine ⟨⟨i + 1, by omega, trivial⟩, ?_, rfl, by simp; omega⟩; (conv => whnf); repeat' (first | exact trivial | exact rfl | apply And.intro))

theorem ev_eqGrant (x : GGrant) (S : Store) : EvA Try.prog 26 [.agg x.c, .agg x.c] S (fun r S' => r = .v (.s (.bool true)) ∧ S' = S) := by
  refine evA_intro tok Try.func26 (by kernel_rfl) rfl ?_
  repeat' ((conv => whnf) <;> first
   | refine condP_dec (fun _ => ?_) (fun _ => ?_)
   | refine condP_ndec (fun _ => ?_) (fun _ => ?_)
   | refine condP_true rfl ?_
   | refine condP_false rfl ?_
   | refine condP_not (fun _ => ?_) (fun _ => ?_)
   | refine condP_intro (fun _ => ?_) (fun _ => ?_)
   | refine callP_eq (ev_eqPattern _ _) ?_
   | refine needP_intro (by first | omega | (constructor <;> omega)) ?_
   | refine And.intro ?_ ?_)
  all_goals first | rfl | (exfalso; simp_all; done)

theorem ev_eqOpS (l : (List GOp)) (c c' : C) (S : Store) (h : Rd S [.sl 4 (l.map GOp.d)] [c]) (h' : Rd S [.sl 4 (l.map GOp.d)] [c']) : EvA Try.prog 14 [.s c, .s c'] S (fun r S' => r = .v (.s (.bool true)) ∧ S' = S) := by
  refine evA_intro tok Try.func14 (by kernel_rfl) rfl ?_
  repeat' ((conv => whnf) <;> first
   | rw [wrapI_i64 (by omega)]
   | refine condP_dec (fun _ => ?_) (fun _ => ?_)
   | refine condP_ndec (fun _ => ?_) (fun _ => ?_)
   | refine condP_true rfl ?_
   | refine condP_false rfl ?_
   | refine condP_not (fun _ => ?_) (fun _ => ?_)
   | refine condP_intro (fun _ => ?_) (fun _ => ?_)
   | refine callP_eq (ev_eqOp _ _) ?_
   | (refine rd_lenm (by assumption) ?_; intro hml; rw [maxLen_eq] at hml)
   | refine rd_idxm (by assumption) (by intro _; rfl) (by constructor <;> omega) ?_
   | refine rd_loadf (by assumption) (by intro _; exact trivial) (by constructor <;> omega) ?_
   | refine needP_intro (by first | omega | (constructor <;> omega)) ?_
   | refine draw_intro 17 [.fl 0, .fl 1, .fl 2, .fl 3, .fl 4, .fl 5, .fl 6, .fl 7, .st 8 [], .fl 9] (by rfl) (by kernel_rfl) ?_
   | refine And.intro ?_ ?_)
  all_goals try first | rfl | (exfalso; simp_all; done)
  refine loop_intro {i : Nat // i ≤ l.length ∧ True} [4, 5, 11, 12, 13, 14, 15, 16, 17, 18, 19, 20, 21, 22, 23, 24, 25, 26] (fun zb => [(5, .v (.s (.int .i64 zb.1)))]) (fun _ => S) (fun zb => l.length - zb.1) ⟨0, Nat.zero_le _, trivial⟩ ?_ rfl ?_
  · (conv => whnf); repeat' (first | exact trivial | exact rfl | apply And.intro)
  rintro ⟨i, hi, hinv⟩; dsimp only
  repeat' ((conv => whnf) <;> first
   | rw [wrapI_i64 (by omega)]
   | refine condP_dec (fun _ => ?_) (fun _ => ?_)
   | refine condP_ndec (fun _ => ?_) (fun _ => ?_)
   | refine condP_true rfl ?_
   | refine condP_false rfl ?_
   | refine condP_not (fun _ => ?_) (fun _ => ?_)
   | refine condP_intro (fun _ => ?_) (fun _ => ?_)
   | refine callP_eq (ev_eqOp _ _) ?_
   | (refine rd_lenm (by assumption) ?_; intro hml; rw [maxLen_eq] at hml)
   | refine rd_idxm (by assumption) (by intro _; rfl) (by constructor <;> omega) ?_
   | refine rd_loadf (by assumption) (by intro _; exact trivial) (by constructor <;> omega) ?_
   | refine needP_intro (by first | omega | (constructor <;> omega)) ?_
   | refine draw_intro 17 [.fl 0, .fl 1, .fl 2, .fl 3, .fl 4, .fl 5, .fl 6, .fl 7, .st 8 [], .fl 9] (by rfl) (by kernel_rfl) ?_
   | refine And.intro ?_ ?_)
  all_goals first | rfl | (exfalso; simp_all; done) | (refine ⟨⟨i + 1, by omega, trivial⟩, ?_, rfl, by simp; omega⟩; (conv => whnf); repeat' (first | exact trivial | exact rfl | apply And.intro))

theorem ev_eqRule (x : GRule) (S : Store) : EvA Try.prog 28 [.agg x.c, .agg x.c] S (fun r S' => r = .v (.s (.bool true)) ∧ S' = S) := by
  refine evA_intro tok Try.func28 (by kernel_rfl) rfl ?_
  repeat' ((conv => whnf) <;> first
   | refine condP_dec (fun _ => ?_) (fun _ => ?_)
   | refine condP_ndec (fun _ => ?_) (fun _ => ?_)
   | refine condP_true rfl ?_
   | refine condP_false rfl ?_
   | refine condP_not (fun _ => ?_) (fun _ => ?_)
   | refine condP_intro (fun _ => ?_) (fun _ => ?_)
   | refine callP_eq (ev_eqPattern _ _) ?_
   | refine callP_eq (ev_eqSite _ _) ?_
   | refine needP_intro (by first | omega | (constructor <;> omega)) ?_
   | refine And.intro ?_ ?_)
  all_goals first | rfl | (exfalso; simp_all; done)

theorem ev_eqGrantS (l : (List GGrant)) (c c' : C) (S : Store) (h : Rd S [.sl 7 (l.map GGrant.d)] [c]) (h' : Rd S [.sl 7 (l.map GGrant.d)] [c']) : EvA Try.prog 11 [.s c, .s c'] S (fun r S' => r = .v (.s (.bool true)) ∧ S' = S) := by
  refine evA_intro tok Try.func11 (by kernel_rfl) rfl ?_
  repeat' ((conv => whnf) <;> first
   | rw [wrapI_i64 (by omega)]
   | refine condP_dec (fun _ => ?_) (fun _ => ?_)
   | refine condP_ndec (fun _ => ?_) (fun _ => ?_)
   | refine condP_true rfl ?_
   | refine condP_false rfl ?_
   | refine condP_not (fun _ => ?_) (fun _ => ?_)
   | refine condP_intro (fun _ => ?_) (fun _ => ?_)
   | refine callP_eq (ev_eqGrant _ _) ?_
   | (refine rd_lenm (by assumption) ?_; intro hml; rw [maxLen_eq] at hml)
   | refine rd_idxm (by assumption) (by intro _; rfl) (by constructor <;> omega) ?_
   | refine rd_loadf (by assumption) (by intro _; exact trivial) (by constructor <;> omega) ?_
   | refine needP_intro (by first | omega | (constructor <;> omega)) ?_
   | refine draw_intro 17 [.fl 0, .fl 1, .fl 2, .fl 3, .fl 4, .fl 5, .fl 6, .fl 7, .st 8 [], .fl 9] (by rfl) (by kernel_rfl) ?_
   | refine And.intro ?_ ?_)
  all_goals try first | rfl | (exfalso; simp_all; done)
  refine loop_intro {i : Nat // i ≤ l.length ∧ True} [4, 5, 11, 12, 13, 14, 15, 16, 17, 18, 19, 20, 21, 22, 23, 24, 25, 26] (fun zb => [(5, .v (.s (.int .i64 zb.1)))]) (fun _ => S) (fun zb => l.length - zb.1) ⟨0, Nat.zero_le _, trivial⟩ ?_ rfl ?_
  · (conv => whnf); repeat' (first | exact trivial | exact rfl | apply And.intro)
  rintro ⟨i, hi, hinv⟩; dsimp only
  repeat' ((conv => whnf) <;> first
   | rw [wrapI_i64 (by omega)]
   | refine condP_dec (fun _ => ?_) (fun _ => ?_)
   | refine condP_ndec (fun _ => ?_) (fun _ => ?_)
   | refine condP_true rfl ?_
   | refine condP_false rfl ?_
   | refine condP_not (fun _ => ?_) (fun _ => ?_)
   | refine condP_intro (fun _ => ?_) (fun _ => ?_)
   | refine callP_eq (ev_eqGrant _ _) ?_
   | (refine rd_lenm (by assumption) ?_; intro hml; rw [maxLen_eq] at hml)
   | refine rd_idxm (by assumption) (by intro _; rfl) (by constructor <;> omega) ?_
   | refine rd_loadf (by assumption) (by intro _; exact trivial) (by constructor <;> omega) ?_
   | refine needP_intro (by first | omega | (constructor <;> omega)) ?_
   | refine draw_intro 17 [.fl 0, .fl 1, .fl 2, .fl 3, .fl 4, .fl 5, .fl 6, .fl 7, .st 8 [], .fl 9] (by rfl) (by kernel_rfl) ?_
   | refine And.intro ?_ ?_)
  all_goals first | rfl | (exfalso; simp_all; done) | (refine ⟨⟨i + 1, by omega, trivial⟩, ?_, rfl, by simp; omega⟩; (conv => whnf); repeat' (first | exact trivial | exact rfl | apply And.intro))

theorem ev_eqRuleS (l : (List GRule)) (c c' : C) (S : Store) (h : Rd S [.sl 8 (l.map GRule.d)] [c]) (h' : Rd S [.sl 8 (l.map GRule.d)] [c']) : EvA Try.prog 13 [.s c, .s c'] S (fun r S' => r = .v (.s (.bool true)) ∧ S' = S) := by
  refine evA_intro tok Try.func13 (by kernel_rfl) rfl ?_
  repeat' ((conv => whnf) <;> first
   | rw [wrapI_i64 (by omega)]
   | refine condP_dec (fun _ => ?_) (fun _ => ?_)
   | refine condP_ndec (fun _ => ?_) (fun _ => ?_)
   | refine condP_true rfl ?_
   | refine condP_false rfl ?_
   | refine condP_not (fun _ => ?_) (fun _ => ?_)
   | refine condP_intro (fun _ => ?_) (fun _ => ?_)
   | refine callP_eq (ev_eqRule _ _) ?_
   | (refine rd_lenm (by assumption) ?_; intro hml; rw [maxLen_eq] at hml)
   | refine rd_idxm (by assumption) (by intro _; rfl) (by constructor <;> omega) ?_
   | refine rd_loadf (by assumption) (by intro _; exact trivial) (by constructor <;> omega) ?_
   | refine needP_intro (by first | omega | (constructor <;> omega)) ?_
   | refine draw_intro 17 [.fl 0, .fl 1, .fl 2, .fl 3, .fl 4, .fl 5, .fl 6, .fl 7, .st 8 [], .fl 9] (by rfl) (by kernel_rfl) ?_
   | refine And.intro ?_ ?_)
  all_goals try first | rfl | (exfalso; simp_all; done)
  refine loop_intro {i : Nat // i ≤ l.length ∧ True} [4, 5, 11, 12, 13, 14, 15, 16, 17, 18, 19, 20, 21, 22, 23, 24, 25, 26] (fun zb => [(5, .v (.s (.int .i64 zb.1)))]) (fun _ => S) (fun zb => l.length - zb.1) ⟨0, Nat.zero_le _, trivial⟩ ?_ rfl ?_
  · (conv => whnf); repeat' (first | exact trivial | exact rfl | apply And.intro)
  rintro ⟨i, hi, hinv⟩; dsimp only
  repeat' ((conv => whnf) <;> first
   | rw [wrapI_i64 (by omega)]
   | refine condP_dec (fun _ => ?_) (fun _ => ?_)
   | refine condP_ndec (fun _ => ?_) (fun _ => ?_)
   | refine condP_true rfl ?_
   | refine condP_false rfl ?_
   | refine condP_not (fun _ => ?_) (fun _ => ?_)
   | refine condP_intro (fun _ => ?_) (fun _ => ?_)
   | refine callP_eq (ev_eqRule _ _) ?_
   | (refine rd_lenm (by assumption) ?_; intro hml; rw [maxLen_eq] at hml)
   | refine rd_idxm (by assumption) (by intro _; rfl) (by constructor <;> omega) ?_
   | refine rd_loadf (by assumption) (by intro _; exact trivial) (by constructor <;> omega) ?_
   | refine needP_intro (by first | omega | (constructor <;> omega)) ?_
   | refine draw_intro 17 [.fl 0, .fl 1, .fl 2, .fl 3, .fl 4, .fl 5, .fl 6, .fl 7, .st 8 [], .fl 9] (by rfl) (by kernel_rfl) ?_
   | refine And.intro ?_ ?_)
  all_goals first | rfl | (exfalso; simp_all; done) | (refine ⟨⟨i + 1, by omega, trivial⟩, ?_, rfl, by simp; omega⟩; (conv => whnf); repeat' (first | exact trivial | exact rfl | apply And.intro))

theorem ev_eqPackage (x : GPackage) (cs cs' : List C) (S : Store) (h : Rd S x.d cs) (h' : Rd S x.d cs') : EvA Try.prog 6 [.agg cs, .agg cs'] S (fun r S' => r = .v (.s (.bool true)) ∧ S' = S) := by
  obtain ⟨_, _, _, _, rfl, _, _, _, _⟩ := GPackage.inv h
  obtain ⟨_, _, _, _, rfl, _, _, _, _⟩ := GPackage.inv h'
  refine evA_intro tok Try.func6 (by kernel_rfl) rfl ?_
  repeat' ((conv => whnf) <;> first
   | refine condP_dec (fun _ => ?_) (fun _ => ?_)
   | refine condP_ndec (fun _ => ?_) (fun _ => ?_)
   | refine condP_true rfl ?_
   | refine condP_false rfl ?_
   | refine condP_not (fun _ => ?_) (fun _ => ?_)
   | refine condP_intro (fun _ => ?_) (fun _ => ?_)
   | refine callP_eq (ev_eqGrantS _ _ _ _ (by assumption) (by assumption)) ?_
   | refine callP_eq (ev_eqFlowS _ _ _ _ (by assumption) (by assumption)) ?_
   | refine callP_eq (ev_eqRuleS _ _ _ _ (by assumption) (by assumption)) ?_
   | refine callP_eq (ev_eqOpS _ _ _ _ (by assumption) (by assumption)) ?_
   | refine needP_intro (by first | omega | (constructor <;> omega)) ?_
   | refine And.intro ?_ ?_)
  all_goals first | rfl | (exfalso; simp_all; done)

end Go.Proofs.Ytimbmhglengjcaa
