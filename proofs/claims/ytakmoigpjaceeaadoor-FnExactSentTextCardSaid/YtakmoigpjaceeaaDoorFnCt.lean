/- The laws' helpers: to. -/
import Derived.Test.YtakmoigpjaceeaaDoorFnCs
namespace Go.Proofs.YtakmoigpjaceeaaDoor
open Go Go.ChangeShapes Go.WideShapes Go.ChangeAt Go.RowKit
set_option linter.unusedVariables false
set_option maxRecDepth 100000

theorem ev_toPattern (x : GPattern) (S : Store) : EvA Tryd.prog 16 [.agg x.c] S (fun r S' => r = .v (.agg x.c) ∧ S' = S) := by
  refine evA_intro tok Tryd.func16 (by kernel_rfl) rfl ?_
  repeat' ((conv => whnf) <;> first
   | refine needP_intro (by first | omega | (constructor <;> omega) | fail) ?_
   | refine And.intro ?_ ?_)
  all_goals rfl

theorem ev_toSent (x : GSent) (S : Store) : EvA Tryd.prog 21 [.agg x.c] S (fun r S' => r = .v (.agg x.c) ∧ S' = S) := by
  refine evA_intro tok Tryd.func21 (by kernel_rfl) rfl ?_
  repeat' ((conv => whnf) <;> first
   | refine needP_intro (by first | omega | (constructor <;> omega) | fail) ?_
   | refine And.intro ?_ ?_)
  all_goals rfl

theorem ev_toGrant (x : GGrant) (S : Store) : EvA Tryd.prog 6 [.agg x.c] S (fun r S' => r = .v (.agg x.c) ∧ S' = S) := by
  refine evA_intro tok Tryd.func6 (by kernel_rfl) rfl ?_
  repeat' ((conv => whnf) <;> first
   | refine callP_eq (ev_toPattern _ _) ?_
   | refine needP_intro (by first | omega | (constructor <;> omega) | fail) ?_
   | refine And.intro ?_ ?_)
  all_goals rfl

theorem ev_toSentS (l : (List GSent)) (c : C) (S : Store) (h : Rd S [.sl 3 (l.map GSent.d)] [c]) (hz : szL [.sl 3 (l.map GSent.d)] ≤ 1048576) : EvA Tryd.prog 10 [.s c] S (fun r S' => Ext S S' ∧ ∃ c', r = .v (.s c') ∧ Fr S.length S' [.sl 3 (l.map GSent.d)] [c']) := by
  have hzl := sz_len hz
  have hF0 : Fr S.length (S ++ [⟨true, 3, List.replicate l.length [.int .i64 0, .int .i64 0, .int .i64 0]⟩]) [.sl 3 (List.replicate l.length [.x (.int .i64 0), .x (.int .i64 0), .x (.int .i64 0)])] [.sl S.length 0 l.length l.length] := fr_make (repL_x (repL_x (repL_x (repL_0)))) (by rw [maxLen_eq]; omega)
  refine evA_intro tok Tryd.func10 (by kernel_rfl) rfl ?_
  repeat' ((conv => whnf) <;> first
   | rw [wrapI_i64 (by omega)]
   | refine condP_dec (fun _ => ?_) (fun _ => ?_)
   | refine condP_ndec (fun _ => ?_) (fun _ => ?_)
   | refine condP_true rfl ?_
   | refine condP_false rfl ?_
   | refine condP_not (fun _ => ?_) (fun _ => ?_)
   | refine condP_intro (fun _ => ?_) (fun _ => ?_)
   | refine callP_eq (ev_toSent _ _) ?_
   | (refine rd_lenm rdA ?_; intro hml; rw [maxLen_eq] at hml)
   | refine rd_idxm rdA (by intro _; rfl) (by constructor <;> omega) ?_
   | refine rd_loadf rdA (by intro _; exact trivial) (by constructor <;> omega) ?_
   | refine to_idx (by first | assumption | exact Fr.ext (by assumption) (by assumption)) (by omega) (by intro _; rfl) (by rfl) ?_
   | refine needP_intro (by dsimp only [T45, T47]; first | omega | (constructor <;> omega) | fail) ?_
   | (refine to_store (by assumption) (by omega) (by assumption) (by first | assumption | exact Ext.refl _) (by first | assumption | exact fr_flat (by exact trivial)) (by rfl) (by rfl) ?_; intro Sm hEm hFm)
   | refine needP_intro (by first | omega | (constructor <;> omega) | fail) ?_
   | refine And.intro ?_ ?_)
  refine loop_intro {p : Nat × Store // p.1 ≤ l.length ∧ Ext S p.2 ∧ Fr S.length p.2 [.sl 3 ((l.take p.1).map GSent.d ++ List.replicate (l.length - p.1) [.x (.int .i64 0), .x (.int .i64 0), .x (.int .i64 0)])] [.sl S.length 0 l.length l.length]} [4, 8, 9, 10, 11, 12, 13, 14, 15, 16, 17, 18, 19, 20, 21] (fun zb => [(4, .v (.s (.int .i64 zb.1.1)))]) (fun zb => zb.1.2) (fun zb => l.length - zb.1.1) ⟨(0, _), Nat.zero_le _, Ext.push _ _, hF0⟩ ?_ rfl ?_
  · (conv => whnf); repeat' (first | exact trivial | exact rfl | apply And.intro)
  rintro ⟨⟨i, Si⟩, hi, hE, hF⟩; dsimp only
  replace hi : i ≤ l.length := hi
  replace hE : Ext S Si := hE
  replace hF : Fr S.length Si [.sl 3 ((l.take i).map GSent.d ++ List.replicate (l.length - i) [.x (.int .i64 0), .x (.int .i64 0), .x (.int .i64 0)])] [.sl S.length 0 l.length l.length] := hF
  repeat' ((conv => whnf) <;> first
   | rw [wrapI_i64 (by omega)]
   | refine condP_dec (fun _ => ?_) (fun _ => ?_)
   | refine condP_ndec (fun _ => ?_) (fun _ => ?_)
   | refine condP_true rfl ?_
   | refine condP_false rfl ?_
   | refine condP_not (fun _ => ?_) (fun _ => ?_)
   | refine condP_intro (fun _ => ?_) (fun _ => ?_)
   | refine callP_eq (ev_toSent _ _) ?_
   | (refine rd_lenm rdA ?_; intro hml; rw [maxLen_eq] at hml)
   | refine rd_idxm rdA (by intro _; rfl) (by constructor <;> omega) ?_
   | refine rd_loadf rdA (by intro _; exact trivial) (by constructor <;> omega) ?_
   | refine to_idx (by first | assumption | exact Fr.ext (by assumption) (by assumption)) (by omega) (by intro _; rfl) (by rfl) ?_
   | refine needP_intro (by dsimp only [T45, T47]; first | omega | (constructor <;> omega) | fail) ?_
   | (refine to_store (by assumption) (by omega) (by assumption) (by first | assumption | exact Ext.refl _) (by first | assumption | exact fr_flat (by exact trivial)) (by rfl) (by rfl) ?_; intro Sm hEm hFm)
   | refine needP_intro (by first | omega | (constructor <;> omega) | fail) ?_
   | refine And.intro ?_ ?_)
  all_goals first
    | (refine ⟨⟨(i + 1, _), by dsimp only; omega, by assumption, by assumption⟩, ?_, rfl, by dsimp only; omega⟩; (conv => whnf); repeat' (first | exact trivial | exact rfl | apply And.intro))
    | exact hE
    | exact ⟨_, rfl, fr_full hF (by omega)⟩

end Go.Proofs.YtakmoigpjaceeaaDoor
