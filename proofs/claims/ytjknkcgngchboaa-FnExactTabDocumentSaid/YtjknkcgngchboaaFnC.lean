/- The laws' helpers: eq. -/
import Derived.Test.YtjknkcgngchboaaFnB
namespace Go.Proofs.Ytjknkcgngchboaa
open Go Go.ChangeShapes Go.WideShapes Go.ChangeAt Go.RowKit
set_option linter.unusedVariables false
set_option maxRecDepth 100000

theorem ev_eqEdit (x : GEdit) (S : Store) : EvA Try.prog 34 [.agg x.c, .agg x.c] S (fun r S' => r = .v (.s (.bool true)) ∧ S' = S) := by
  refine evA_intro tok Try.func34 (by kernel_rfl) rfl ?_
  repeat' ((conv => whnf) <;> first
   | refine condP_dec (fun _ => ?_) (fun _ => ?_)
   | refine condP_ndec (fun _ => ?_) (fun _ => ?_)
   | refine condP_true rfl ?_
   | refine condP_false rfl ?_
   | refine condP_not (fun _ => ?_) (fun _ => ?_)
   | refine condP_intro (fun _ => ?_) (fun _ => ?_)
   | refine needP_intro (by first | omega | (constructor <;> omega) | fail) ?_
   | refine And.intro ?_ ?_)
  all_goals first | rfl | (exfalso; simp_all; done)

theorem ev_eqIntS (l : (List Int)) (c c' : C) (S : Store) (h : Rd S [.sl 1 (l.map dInt)] [c]) (h' : Rd S [.sl 1 (l.map dInt)] [c']) : EvA Try.prog 25 [.s c, .s c'] S (fun r S' => r = .v (.s (.bool true)) ∧ S' = S) := by
  refine evA_intro tok Try.func25 (by kernel_rfl) rfl ?_
  repeat' ((conv => whnf) <;> first
   | rw [wrapI_i64 (by omega)]
   | refine condP_dec (fun _ => ?_) (fun _ => ?_)
   | refine condP_ndec (fun _ => ?_) (fun _ => ?_)
   | refine condP_true rfl ?_
   | refine condP_false rfl ?_
   | refine condP_not (fun _ => ?_) (fun _ => ?_)
   | refine condP_intro (fun _ => ?_) (fun _ => ?_)
   | (refine rd_lenm (by assumption) ?_; intro hml; rw [maxLen_eq] at hml)
   | refine rd_idxm (by assumption) (by intro _; rfl) (by constructor <;> omega) ?_
   | refine rd_loadf (by assumption) (by intro _; exact trivial) (by constructor <;> omega) ?_
   | refine needP_intro (by first | omega | (constructor <;> omega) | fail) ?_
   | refine draw_intro 17 [.fl 0, .fl 1, .fl 2, .fl 3, .fl 4, .fl 5, .fl 6, .fl 7, .fl 8] (by rfl) (by kernel_rfl) ?_
   | refine And.intro ?_ ?_)
  all_goals try first | rfl | (exfalso; simp_all; done)
  refine loop_intro {i : Nat // i ≤ l.length ∧ True} [4, 5, 11, 12, 13, 14, 15, 16, 17, 18, 19, 20, 21, 22, 23, 24, 25] (fun zb => [(5, .v (.s (.int .i64 zb.1)))]) (fun _ => S) (fun zb => l.length - zb.1) ⟨0, Nat.zero_le _, trivial⟩ ?_ rfl ?_
  · (conv => whnf); repeat' (first | exact trivial | exact rfl | apply And.intro)
  rintro ⟨i, hi, hinv⟩; dsimp only
  repeat' ((conv => whnf) <;> first
   | rw [wrapI_i64 (by omega)]
   | refine condP_dec (fun _ => ?_) (fun _ => ?_)
   | refine condP_ndec (fun _ => ?_) (fun _ => ?_)
   | refine condP_true rfl ?_
   | refine condP_false rfl ?_
   | refine condP_not (fun _ => ?_) (fun _ => ?_)
   | refine condP_intro (fun _ => ?_) (fun _ => ?_)
   | (refine rd_lenm (by assumption) ?_; intro hml; rw [maxLen_eq] at hml)
   | refine rd_idxm (by assumption) (by intro _; rfl) (by constructor <;> omega) ?_
   | refine rd_loadf (by assumption) (by intro _; exact trivial) (by constructor <;> omega) ?_
   | refine needP_intro (by first | omega | (constructor <;> omega) | fail) ?_
   | refine draw_intro 17 [.fl 0, .fl 1, .fl 2, .fl 3, .fl 4, .fl 5, .fl 6, .fl 7, .fl 8] (by rfl) (by kernel_rfl) ?_
   | refine And.intro ?_ ?_)
  all_goals first | rfl | (exfalso; simp_all; done) | (refine ⟨⟨i + 1, by omega, trivial⟩, ?_, rfl, by simp; omega⟩; (conv => whnf); repeat' (first | exact trivial | exact rfl | apply And.intro))

theorem ev_eqNode (x : GNode) (S : Store) : EvA Try.prog 22 [.agg x.c, .agg x.c] S (fun r S' => r = .v (.s (.bool true)) ∧ S' = S) := by
  refine evA_intro tok Try.func22 (by kernel_rfl) rfl ?_
  repeat' ((conv => whnf) <;> first
   | refine condP_dec (fun _ => ?_) (fun _ => ?_)
   | refine condP_ndec (fun _ => ?_) (fun _ => ?_)
   | refine condP_true rfl ?_
   | refine condP_false rfl ?_
   | refine condP_not (fun _ => ?_) (fun _ => ?_)
   | refine condP_intro (fun _ => ?_) (fun _ => ?_)
   | refine needP_intro (by first | omega | (constructor <;> omega) | fail) ?_
   | refine And.intro ?_ ?_)
  all_goals first | rfl | (exfalso; simp_all; done)

theorem ev_eqSite (x : GSite) (S : Store) : EvA Try.prog 23 [.agg x.c, .agg x.c] S (fun r S' => r = .v (.s (.bool true)) ∧ S' = S) := by
  refine evA_intro tok Try.func23 (by kernel_rfl) rfl ?_
  repeat' ((conv => whnf) <;> first
   | refine condP_dec (fun _ => ?_) (fun _ => ?_)
   | refine condP_ndec (fun _ => ?_) (fun _ => ?_)
   | refine condP_true rfl ?_
   | refine condP_false rfl ?_
   | refine condP_not (fun _ => ?_) (fun _ => ?_)
   | refine condP_intro (fun _ => ?_) (fun _ => ?_)
   | refine needP_intro (by first | omega | (constructor <;> omega) | fail) ?_
   | refine And.intro ?_ ?_)
  all_goals first | rfl | (exfalso; simp_all; done)

theorem ev_eqEditS (l : (List GEdit)) (c c' : C) (S : Store) (h : Rd S [.sl 6 (l.map GEdit.d)] [c]) (h' : Rd S [.sl 6 (l.map GEdit.d)] [c']) : EvA Try.prog 24 [.s c, .s c'] S (fun r S' => r = .v (.s (.bool true)) ∧ S' = S) := by
  refine evA_intro tok Try.func24 (by kernel_rfl) rfl ?_
  repeat' ((conv => whnf) <;> first
   | rw [wrapI_i64 (by omega)]
   | refine condP_dec (fun _ => ?_) (fun _ => ?_)
   | refine condP_ndec (fun _ => ?_) (fun _ => ?_)
   | refine condP_true rfl ?_
   | refine condP_false rfl ?_
   | refine condP_not (fun _ => ?_) (fun _ => ?_)
   | refine condP_intro (fun _ => ?_) (fun _ => ?_)
   | refine callP_eq (ev_eqEdit _ _) ?_
   | (refine rd_lenm (by assumption) ?_; intro hml; rw [maxLen_eq] at hml)
   | refine rd_idxm (by assumption) (by intro _; rfl) (by constructor <;> omega) ?_
   | refine rd_loadf (by assumption) (by intro _; exact trivial) (by constructor <;> omega) ?_
   | refine needP_intro (by first | omega | (constructor <;> omega) | fail) ?_
   | refine draw_intro 17 [.fl 0, .fl 1, .fl 2, .fl 3, .fl 4, .fl 5, .fl 6, .fl 7, .st 8 [], .fl 9] (by rfl) (by kernel_rfl) ?_
   | refine And.intro ?_ ?_)
  all_goals try first | rfl | (exfalso; simp_all; done)
  refine loop_intro {i : Nat // i ≤ l.length ∧ True} [4, 5, 11, 12, 13, 14, 15, 16, 17, 18, 19, 20, 21, 22, 23, 24, 25, 26] (fun zb => [(5, .v (.s (.int .i64 zb.1)))]) (fun _ => S) (fun zb => l.length - zb.1) ⟨0, Nat.zero_le _, trivial⟩ ?_ rfl ?_
  · (conv => whnf); repeat' (first | exact trivial | exact rfl | apply And.intro)
  rintro ⟨i, hi, hinv⟩; dsimp only
  repeat' ((conv => whnf) <;> first
   | rw [wrapI_i64 (by omega)]
   | refine condP_dec (fun _ => ?_) (fun _ => ?_)
   | refine condP_ndec (fun _ => ?_) (fun _ => ?_)
   | refine condP_true rfl ?_
   | refine condP_false rfl ?_
   | refine condP_not (fun _ => ?_) (fun _ => ?_)
   | refine condP_intro (fun _ => ?_) (fun _ => ?_)
   | refine callP_eq (ev_eqEdit _ _) ?_
   | (refine rd_lenm (by assumption) ?_; intro hml; rw [maxLen_eq] at hml)
   | refine rd_idxm (by assumption) (by intro _; rfl) (by constructor <;> omega) ?_
   | refine rd_loadf (by assumption) (by intro _; exact trivial) (by constructor <;> omega) ?_
   | refine needP_intro (by first | omega | (constructor <;> omega) | fail) ?_
   | refine draw_intro 17 [.fl 0, .fl 1, .fl 2, .fl 3, .fl 4, .fl 5, .fl 6, .fl 7, .st 8 [], .fl 9] (by rfl) (by kernel_rfl) ?_
   | refine And.intro ?_ ?_)
  all_goals first | rfl | (exfalso; simp_all; done) | (refine ⟨⟨i + 1, by omega, trivial⟩, ?_, rfl, by simp; omega⟩; (conv => whnf); repeat' (first | exact trivial | exact rfl | apply And.intro))

theorem ev_eqNodeS (l : (List GNode)) (c c' : C) (S : Store) (h : Rd S [.sl 5 (l.map GNode.d)] [c]) (h' : Rd S [.sl 5 (l.map GNode.d)] [c']) : EvA Try.prog 8 [.s c, .s c'] S (fun r S' => r = .v (.s (.bool true)) ∧ S' = S) := by
  refine evA_intro tok Try.func8 (by kernel_rfl) rfl ?_
  repeat' ((conv => whnf) <;> first
   | rw [wrapI_i64 (by omega)]
   | refine condP_dec (fun _ => ?_) (fun _ => ?_)
   | refine condP_ndec (fun _ => ?_) (fun _ => ?_)
   | refine condP_true rfl ?_
   | refine condP_false rfl ?_
   | refine condP_not (fun _ => ?_) (fun _ => ?_)
   | refine condP_intro (fun _ => ?_) (fun _ => ?_)
   | refine callP_eq (ev_eqNode _ _) ?_
   | (refine rd_lenm (by assumption) ?_; intro hml; rw [maxLen_eq] at hml)
   | refine rd_idxm (by assumption) (by intro _; rfl) (by constructor <;> omega) ?_
   | refine rd_loadf (by assumption) (by intro _; exact trivial) (by constructor <;> omega) ?_
   | refine needP_intro (by first | omega | (constructor <;> omega) | fail) ?_
   | refine draw_intro 17 [.fl 0, .fl 1, .fl 2, .fl 3, .fl 4, .fl 5, .fl 6, .fl 7, .st 8 [], .fl 9] (by rfl) (by kernel_rfl) ?_
   | refine And.intro ?_ ?_)
  all_goals try first | rfl | (exfalso; simp_all; done)
  refine loop_intro {i : Nat // i ≤ l.length ∧ True} [4, 5, 11, 12, 13, 14, 15, 16, 17, 18, 19, 20, 21, 22, 23, 24, 25, 26] (fun zb => [(5, .v (.s (.int .i64 zb.1)))]) (fun _ => S) (fun zb => l.length - zb.1) ⟨0, Nat.zero_le _, trivial⟩ ?_ rfl ?_
  · (conv => whnf); repeat' (first | exact trivial | exact rfl | apply And.intro)
  rintro ⟨i, hi, hinv⟩; dsimp only
  repeat' ((conv => whnf) <;> first
   | rw [wrapI_i64 (by omega)]
   | refine condP_dec (fun _ => ?_) (fun _ => ?_)
   | refine condP_ndec (fun _ => ?_) (fun _ => ?_)
   | refine condP_true rfl ?_
   | refine condP_false rfl ?_
   | refine condP_not (fun _ => ?_) (fun _ => ?_)
   | refine condP_intro (fun _ => ?_) (fun _ => ?_)
   | refine callP_eq (ev_eqNode _ _) ?_
   | (refine rd_lenm (by assumption) ?_; intro hml; rw [maxLen_eq] at hml)
   | refine rd_idxm (by assumption) (by intro _; rfl) (by constructor <;> omega) ?_
   | refine rd_loadf (by assumption) (by intro _; exact trivial) (by constructor <;> omega) ?_
   | refine needP_intro (by first | omega | (constructor <;> omega) | fail) ?_
   | refine draw_intro 17 [.fl 0, .fl 1, .fl 2, .fl 3, .fl 4, .fl 5, .fl 6, .fl 7, .st 8 [], .fl 9] (by rfl) (by kernel_rfl) ?_
   | refine And.intro ?_ ?_)
  all_goals first | rfl | (exfalso; simp_all; done) | (refine ⟨⟨i + 1, by omega, trivial⟩, ?_, rfl, by simp; omega⟩; (conv => whnf); repeat' (first | exact trivial | exact rfl | apply And.intro))

theorem ev_eqTab (x : GTab) (cs cs' : List C) (S : Store) (h : Rd S x.d cs) (h' : Rd S x.d cs') : EvA Try.prog 9 [.agg cs, .agg cs'] S (fun r S' => r = .v (.s (.bool true)) ∧ S' = S) := by
  obtain ⟨_, _, _, rfl, _, _, _⟩ := GTab.inv h
  obtain ⟨_, _, _, rfl, _, _, _⟩ := GTab.inv h'
  refine evA_intro tok Try.func9 (by kernel_rfl) rfl ?_
  repeat' ((conv => whnf) <;> first
   | refine condP_dec (fun _ => ?_) (fun _ => ?_)
   | refine condP_ndec (fun _ => ?_) (fun _ => ?_)
   | refine condP_true rfl ?_
   | refine condP_false rfl ?_
   | refine condP_not (fun _ => ?_) (fun _ => ?_)
   | refine condP_intro (fun _ => ?_) (fun _ => ?_)
   | refine callP_eq (ev_eqNodeS _ _ _ _ (by assumption) (by assumption)) ?_
   | refine callP_eq (ev_eqSite _ _) ?_
   | refine callP_eq (ev_eqEditS _ _ _ _ (by assumption) (by assumption)) ?_
   | refine callP_eq (ev_eqIntS _ _ _ _ (by assumption) (by assumption)) ?_
   | refine needP_intro (by first | omega | (constructor <;> omega) | fail) ?_
   | refine And.intro ?_ ?_)
  all_goals first | rfl | (exfalso; simp_all; done)

end Go.Proofs.Ytjknkcgngchboaa
