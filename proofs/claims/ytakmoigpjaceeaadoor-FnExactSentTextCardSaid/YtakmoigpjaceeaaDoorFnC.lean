/- The laws' helpers: eq. -/
import Derived.Test.YtakmoigpjaceeaaDoorFnB
namespace Go.Proofs.YtakmoigpjaceeaaDoor
open Go Go.ChangeShapes Go.WideShapes Go.ChangeAt Go.RowKit
set_option linter.unusedVariables false
set_option maxRecDepth 100000

theorem ev_eqSent (x : GSent) (S : Store) : EvA Tryd.prog 24 [.agg x.c, .agg x.c] S (fun r S' => r = .v (.s (.bool true)) ∧ S' = S) := by
  refine evA_intro tok Tryd.func24 (by kernel_rfl) rfl ?_
  repeat' ((conv => whnf) <;> first
   | refine condP_dec (fun _ => ?_) (fun _ => ?_)
   | refine condP_ndec (fun _ => ?_) (fun _ => ?_)
   | refine condP_true rfl ?_
   | refine condP_false rfl ?_
   | refine condP_not (fun _ => ?_) (fun _ => ?_)
   | refine condP_intro (fun _ => ?_) (fun _ => ?_)
   | refine needP_intro (by first | omega | (constructor <;> omega) | fail) ?_
   | refine And.intro ?_ ?_)
  all_goals first | rfl | (exfalso; simp_all; done)

theorem ev_eqSentS (l : (List GSent)) (c c' : C) (S : Store) (h : Rd S [.sl 3 (l.map GSent.d)] [c]) (h' : Rd S [.sl 3 (l.map GSent.d)] [c']) : EvA Tryd.prog 12 [.s c, .s c'] S (fun r S' => r = .v (.s (.bool true)) ∧ S' = S) := by
  refine evA_intro tok Tryd.func12 (by kernel_rfl) rfl ?_
  repeat' ((conv => whnf) <;> first
   | rw [wrapI_i64 (by omega)]
   | refine condP_dec (fun _ => ?_) (fun _ => ?_)
   | refine condP_ndec (fun _ => ?_) (fun _ => ?_)
   | refine condP_true rfl ?_
   | refine condP_false rfl ?_
   | refine condP_not (fun _ => ?_) (fun _ => ?_)
   | refine condP_intro (fun _ => ?_) (fun _ => ?_)
   | refine callP_eq (ev_eqSent _ _) ?_
   | (refine rd_lenm (by assumption) ?_; intro hml; rw [maxLen_eq] at hml)
   | refine rd_idxm (by assumption) (by intro _; rfl) (by constructor <;> omega) ?_
   | refine rd_loadf (by assumption) (by intro _; exact trivial) (by constructor <;> omega) ?_
   | refine needP_intro (by first | omega | (constructor <;> omega) | fail) ?_
   | refine draw_intro 17 [.fl 0, .fl 1, .fl 2, .fl 3, .fl 4, .fl 5, .fl 6, .fl 7, .st 8 [], .fl 9] (by rfl) (by kernel_rfl) ?_
   | refine And.intro ?_ ?_)
  all_goals try first | rfl | (exfalso; simp_all; done)
  refine loop_intro {i : Nat // i ≤ l.length ∧ True} [4, 5, 11, 12, 13, 14, 15, 16, 17, 18, 19, 20, 21, 22, 23, 24, 25, 26] (fun zb => [(5, .v (.s (.int .i64 zb.1)))]) (fun _ => S) (fun zb => l.length - zb.1) ⟨0, Nat.zero_le _, trivial⟩ ?_ rfl ?_
  · (conv => whnf); repeat' (first | exact trivial | exact rfl | apply And.intro)
  rintro ⟨i, hi, hinv⟩; dsimp only
  repeat' ((conv => whnf) <;> first
   | rw [wrapI_i64 (by omega)]
   | refine condP_dec (fun _ => ?_) (fun _ => ?_)
   | refine condP_ndec (fun _ => ?_) (fun _ => ?_)
   | refine condP_true rfl ?_
   | refine condP_false rfl ?_
   | refine condP_not (fun _ => ?_) (fun _ => ?_)
   | refine condP_intro (fun _ => ?_) (fun _ => ?_)
   | refine callP_eq (ev_eqSent _ _) ?_
   | (refine rd_lenm (by assumption) ?_; intro hml; rw [maxLen_eq] at hml)
   | refine rd_idxm (by assumption) (by intro _; rfl) (by constructor <;> omega) ?_
   | refine rd_loadf (by assumption) (by intro _; exact trivial) (by constructor <;> omega) ?_
   | refine needP_intro (by first | omega | (constructor <;> omega) | fail) ?_
   | refine draw_intro 17 [.fl 0, .fl 1, .fl 2, .fl 3, .fl 4, .fl 5, .fl 6, .fl 7, .st 8 [], .fl 9] (by rfl) (by kernel_rfl) ?_
   | refine And.intro ?_ ?_)
  all_goals first | rfl | (exfalso; simp_all; done) | (refine ⟨⟨i + 1, by omega, trivial⟩, ?_, rfl, by simp; omega⟩; (conv => whnf); repeat' (first | exact trivial | exact rfl | apply And.intro))

end Go.Proofs.YtakmoigpjaceeaaDoor
