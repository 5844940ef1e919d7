/- The laws' helpers: to. -/
import Derived.Test.YtjknkcgngchboaaFnCs
namespace Go.Proofs.Ytjknkcgngchboaa
open Go Go.ChangeShapes Go.WideShapes Go.ChangeAt Go.RowKit
set_option linter.unusedVariables false
set_option maxRecDepth 100000

theorem ev_toEdit (x : GEdit) (S : Store) : EvA Try.prog 31 [.agg x.c] S (fun r S' => r = .v (.agg x.c) ∧ S' = S) := by
  refine evA_intro tok Try.func31 (by kernel_rfl) rfl ?_
  repeat' ((conv => whnf) <;> first
   | refine needP_intro (by first | omega | (constructor <;> omega) | fail) ?_
   | refine And.intro ?_ ?_)
  all_goals rfl

theorem ev_toIntS (l : (List Int)) (c : C) (S : Store) (h : Rd S [.sl 1 (l.map dInt)] [c]) (hz : szL [.sl 1 (l.map dInt)] ≤ 1048576) : EvA Try.prog 20 [.s c] S (fun r S' => Ext S S' ∧ ∃ c', r = .v (.s c') ∧ Fr S.length S' [.sl 1 (l.map dInt)] [c']) := by
  have hzl := sz_len hz
  have hF0 : Fr S.length (S ++ [⟨true, 1, List.replicate l.length [.int .i64 0]⟩]) [.sl 1 (List.replicate l.length [.x (.int .i64 0)])] [.sl S.length 0 l.length l.length] := fr_make (repL_x (repL_0)) (by rw [maxLen_eq]; omega)
  refine evA_intro tok Try.func20 (by kernel_rfl) rfl ?_
  repeat' ((conv => whnf) <;> first
   | rw [wrapI_i64 (by omega)]
   | refine condP_dec (fun _ => ?_) (fun _ => ?_)
   | refine condP_ndec (fun _ => ?_) (fun _ => ?_)
   | refine condP_true rfl ?_
   | refine condP_false rfl ?_
   | refine condP_not (fun _ => ?_) (fun _ => ?_)
   | refine condP_intro (fun _ => ?_) (fun _ => ?_)
   | (refine rd_lenm rdA ?_; intro hml; rw [maxLen_eq] at hml)
   | refine rd_idxm rdA (by intro _; rfl) (by constructor <;> omega) ?_
   | refine rd_loadf rdA (by intro _; exact trivial) (by constructor <;> omega) ?_
   | refine to_idx (by first | assumption | exact Fr.ext (by assumption) (by assumption)) (by omega) (by intro _; rfl) (by rfl) ?_
   | refine needP_intro (by dsimp only [T3]; first | omega | (constructor <;> omega) | fail) ?_
   | (refine to_store (by assumption) (by omega) (by assumption) (by first | assumption | exact Ext.refl _) (by first | assumption | exact fr_flat (by exact trivial)) (by rfl) (by rfl) ?_; intro Sm hEm hFm)
   | refine needP_intro (by first | omega | (constructor <;> omega) | fail) ?_
   | refine And.intro ?_ ?_)
  refine loop_intro {p : Nat × Store // p.1 ≤ l.length ∧ Ext S p.2 ∧ Fr S.length p.2 [.sl 1 ((l.take p.1).map dInt ++ List.replicate (l.length - p.1) [.x (.int .i64 0)])] [.sl S.length 0 l.length l.length]} [4, 8, 9, 10, 11, 12, 13, 14, 15, 16, 17, 18, 19, 20] (fun zb => [(4, .v (.s (.int .i64 zb.1.1)))]) (fun zb => zb.1.2) (fun zb => l.length - zb.1.1) ⟨(0, _), Nat.zero_le _, Ext.push _ _, hF0⟩ ?_ rfl ?_
  · (conv => whnf); repeat' (first | exact trivial | exact rfl | apply And.intro)
  rintro ⟨⟨i, Si⟩, hi, hE, hF⟩; dsimp only
  replace hi : i ≤ l.length := hi
  replace hE : Ext S Si := hE
  replace hF : Fr S.length Si [.sl 1 ((l.take i).map dInt ++ List.replicate (l.length - i) [.x (.int .i64 0)])] [.sl S.length 0 l.length l.length] := hF
  repeat' ((conv => whnf) <;> first
   | rw [wrapI_i64 (by omega)]
   | refine condP_dec (fun _ => ?_) (fun _ => ?_)
   | refine condP_ndec (fun _ => ?_) (fun _ => ?_)
   | refine condP_true rfl ?_
   | refine condP_false rfl ?_
   | refine condP_not (fun _ => ?_) (fun _ => ?_)
   | refine condP_intro (fun _ => ?_) (fun _ => ?_)
   | (refine rd_lenm rdA ?_; intro hml; rw [maxLen_eq] at hml)
   | refine rd_idxm rdA (by intro _; rfl) (by constructor <;> omega) ?_
   | refine rd_loadf rdA (by intro _; exact trivial) (by constructor <;> omega) ?_
   | refine to_idx (by first | assumption | exact Fr.ext (by assumption) (by assumption)) (by omega) (by intro _; rfl) (by rfl) ?_
   | refine needP_intro (by dsimp only [T3]; first | omega | (constructor <;> omega) | fail) ?_
   | (refine to_store (by assumption) (by omega) (by assumption) (by first | assumption | exact Ext.refl _) (by first | assumption | exact fr_flat (by exact trivial)) (by rfl) (by rfl) ?_; intro Sm hEm hFm)
   | refine needP_intro (by first | omega | (constructor <;> omega) | fail) ?_
   | refine And.intro ?_ ?_)
  all_goals first
    | (refine ⟨⟨(i + 1, _), by dsimp only; omega, by assumption, by assumption⟩, ?_, rfl, by dsimp only; omega⟩; (conv => whnf); repeat' (first | exact trivial | exact rfl | apply And.intro))
    | exact hE
    | exact ⟨_, rfl, fr_full hF (by omega)⟩

theorem ev_toNode (x : GNode) (S : Store) : EvA Try.prog 30 [.agg x.c] S (fun r S' => r = .v (.agg x.c) ∧ S' = S) := by
  refine evA_intro tok Try.func30 (by kernel_rfl) rfl ?_
  repeat' ((conv => whnf) <;> first
   | refine needP_intro (by first | omega | (constructor <;> omega) | fail) ?_
   | refine And.intro ?_ ?_)
  all_goals rfl

theorem ev_toSite (x : GSite) (S : Store) : EvA Try.prog 17 [.agg x.c] S (fun r S' => r = .v (.agg x.c) ∧ S' = S) := by
  refine evA_intro tok Try.func17 (by kernel_rfl) rfl ?_
  repeat' ((conv => whnf) <;> first
   | refine needP_intro (by first | omega | (constructor <;> omega) | fail) ?_
   | refine And.intro ?_ ?_)
  all_goals rfl

theorem ev_toEditS (l : (List GEdit)) (c : C) (S : Store) (h : Rd S [.sl 6 (l.map GEdit.d)] [c]) (hz : szL [.sl 6 (l.map GEdit.d)] ≤ 1048576) : EvA Try.prog 19 [.s c] S (fun r S' => Ext S S' ∧ ∃ c', r = .v (.s c') ∧ Fr S.length S' [.sl 6 (l.map GEdit.d)] [c']) := by
  have hzl := sz_len hz
  have hF0 : Fr S.length (S ++ [⟨true, 6, List.replicate l.length [.int .i64 0, .int .i64 0, .int .i64 0, .int .i64 0, .int .i64 0, .int .i64 0]⟩]) [.sl 6 (List.replicate l.length [.x (.int .i64 0), .x (.int .i64 0), .x (.int .i64 0), .x (.int .i64 0), .x (.int .i64 0), .x (.int .i64 0)])] [.sl S.length 0 l.length l.length] := fr_make (repL_x (repL_x (repL_x (repL_x (repL_x (repL_x (repL_0))))))) (by rw [maxLen_eq]; omega)
  refine evA_intro tok Try.func19 (by kernel_rfl) rfl ?_
  repeat' ((conv => whnf) <;> first
   | rw [wrapI_i64 (by omega)]
   | refine condP_dec (fun _ => ?_) (fun _ => ?_)
   | refine condP_ndec (fun _ => ?_) (fun _ => ?_)
   | refine condP_true rfl ?_
   | refine condP_false rfl ?_
   | refine condP_not (fun _ => ?_) (fun _ => ?_)
   | refine condP_intro (fun _ => ?_) (fun _ => ?_)
   | refine callP_eq (ev_toEdit _ _) ?_
   | (refine rd_lenm rdA ?_; intro hml; rw [maxLen_eq] at hml)
   | refine rd_idxm rdA (by intro _; rfl) (by constructor <;> omega) ?_
   | refine rd_loadf rdA (by intro _; exact trivial) (by constructor <;> omega) ?_
   | refine to_idx (by first | assumption | exact Fr.ext (by assumption) (by assumption)) (by omega) (by intro _; rfl) (by rfl) ?_
   | refine needP_intro (by dsimp only [T61, T65]; first | omega | (constructor <;> omega) | fail) ?_
   | (refine to_store (by assumption) (by omega) (by assumption) (by first | assumption | exact Ext.refl _) (by first | assumption | exact fr_flat (by exact trivial)) (by rfl) (by rfl) ?_; intro Sm hEm hFm)
   | refine needP_intro (by first | omega | (constructor <;> omega) | fail) ?_
   | refine And.intro ?_ ?_)
  refine loop_intro {p : Nat × Store // p.1 ≤ l.length ∧ Ext S p.2 ∧ Fr S.length p.2 [.sl 6 ((l.take p.1).map GEdit.d ++ List.replicate (l.length - p.1) [.x (.int .i64 0), .x (.int .i64 0), .x (.int .i64 0), .x (.int .i64 0), .x (.int .i64 0), .x (.int .i64 0)])] [.sl S.length 0 l.length l.length]} [4, 8, 9, 10, 11, 12, 13, 14, 15, 16, 17, 18, 19, 20, 21] (fun zb => [(4, .v (.s (.int .i64 zb.1.1)))]) (fun zb => zb.1.2) (fun zb => l.length - zb.1.1) ⟨(0, _), Nat.zero_le _, Ext.push _ _, hF0⟩ ?_ rfl ?_
  · (conv => whnf); repeat' (first | exact trivial | exact rfl | apply And.intro)
  rintro ⟨⟨i, Si⟩, hi, hE, hF⟩; dsimp only
  replace hi : i ≤ l.length := hi
  replace hE : Ext S Si := hE
  replace hF : Fr S.length Si [.sl 6 ((l.take i).map GEdit.d ++ List.replicate (l.length - i) [.x (.int .i64 0), .x (.int .i64 0), .x (.int .i64 0), .x (.int .i64 0), .x (.int .i64 0), .x (.int .i64 0)])] [.sl S.length 0 l.length l.length] := hF
  repeat' ((conv => whnf) <;> first
   | rw [wrapI_i64 (by omega)]
   | refine condP_dec (fun _ => ?_) (fun _ => ?_)
   | refine condP_ndec (fun _ => ?_) (fun _ => ?_)
   | refine condP_true rfl ?_
   | refine condP_false rfl ?_
   | refine condP_not (fun _ => ?_) (fun _ => ?_)
   | refine condP_intro (fun _ => ?_) (fun _ => ?_)
   | refine callP_eq (ev_toEdit _ _) ?_
   | (refine rd_lenm rdA ?_; intro hml; rw [maxLen_eq] at hml)
   | refine rd_idxm rdA (by intro _; rfl) (by constructor <;> omega) ?_
   | refine rd_loadf rdA (by intro _; exact trivial) (by constructor <;> omega) ?_
   | refine to_idx (by first | assumption | exact Fr.ext (by assumption) (by assumption)) (by omega) (by intro _; rfl) (by rfl) ?_
   | refine needP_intro (by dsimp only [T61, T65]; first | omega | (constructor <;> omega) | fail) ?_
   | (refine to_store (by assumption) (by omega) (by assumption) (by first | assumption | exact Ext.refl _) (by first | assumption | exact fr_flat (by exact trivial)) (by rfl) (by rfl) ?_; intro Sm hEm hFm)
   | refine needP_intro (by first | omega | (constructor <;> omega) | fail) ?_
   | refine And.intro ?_ ?_)
  all_goals first
    | (refine ⟨⟨(i + 1, _), by dsimp only; omega, by assumption, by assumption⟩, ?_, rfl, by dsimp only; omega⟩; (conv => whnf); repeat' (first | exact trivial | exact rfl | apply And.intro))
    | exact hE
    | exact ⟨_, rfl, fr_full hF (by omega)⟩

theorem ev_toNodeS (l : (List GNode)) (c : C) (S : Store) (h : Rd S [.sl 5 (l.map GNode.d)] [c]) (hz : szL [.sl 5 (l.map GNode.d)] ≤ 1048576) : EvA Try.prog 18 [.s c] S (fun r S' => Ext S S' ∧ ∃ c', r = .v (.s c') ∧ Fr S.length S' [.sl 5 (l.map GNode.d)] [c']) := by
  have hzl := sz_len hz
  have hF0 : Fr S.length (S ++ [⟨true, 5, List.replicate l.length [.int .i64 0, .int .i64 0, .int .i64 0, .int .i64 0, .int .i64 0]⟩]) [.sl 5 (List.replicate l.length [.x (.int .i64 0), .x (.int .i64 0), .x (.int .i64 0), .x (.int .i64 0), .x (.int .i64 0)])] [.sl S.length 0 l.length l.length] := fr_make (repL_x (repL_x (repL_x (repL_x (repL_x (repL_0)))))) (by rw [maxLen_eq]; omega)
  refine evA_intro tok Try.func18 (by kernel_rfl) rfl ?_
  repeat' ((conv => whnf) <;> first
   | rw [wrapI_i64 (by omega)]
   | refine condP_dec (fun _ => ?_) (fun _ => ?_)
   | refine condP_ndec (fun _ => ?_) (fun _ => ?_)
   | refine condP_true rfl ?_
   | refine condP_false rfl ?_
   | refine condP_not (fun _ => ?_) (fun _ => ?_)
   | refine condP_intro (fun _ => ?_) (fun _ => ?_)
   | refine callP_eq (ev_toNode _ _) ?_
   | (refine rd_lenm rdA ?_; intro hml; rw [maxLen_eq] at hml)
   | refine rd_idxm rdA (by intro _; rfl) (by constructor <;> omega) ?_
   | refine rd_loadf rdA (by intro _; exact trivial) (by constructor <;> omega) ?_
   | refine to_idx (by first | assumption | exact Fr.ext (by assumption) (by assumption)) (by omega) (by intro _; rfl) (by rfl) ?_
   | refine needP_intro (by dsimp only [T52, T63]; first | omega | (constructor <;> omega) | fail) ?_
   | (refine to_store (by assumption) (by omega) (by assumption) (by first | assumption | exact Ext.refl _) (by first | assumption | exact fr_flat (by exact trivial)) (by rfl) (by rfl) ?_; intro Sm hEm hFm)
   | refine needP_intro (by first | omega | (constructor <;> omega) | fail) ?_
   | refine And.intro ?_ ?_)
  refine loop_intro {p : Nat × Store // p.1 ≤ l.length ∧ Ext S p.2 ∧ Fr S.length p.2 [.sl 5 ((l.take p.1).map GNode.d ++ List.replicate (l.length - p.1) [.x (.int .i64 0), .x (.int .i64 0), .x (.int .i64 0), .x (.int .i64 0), .x (.int .i64 0)])] [.sl S.length 0 l.length l.length]} [4, 8, 9, 10, 11, 12, 13, 14, 15, 16, 17, 18, 19, 20, 21] (fun zb => [(4, .v (.s (.int .i64 zb.1.1)))]) (fun zb => zb.1.2) (fun zb => l.length - zb.1.1) ⟨(0, _), Nat.zero_le _, Ext.push _ _, hF0⟩ ?_ rfl ?_
  · (conv => whnf); repeat' (first | exact trivial | exact rfl | apply And.intro)
  rintro ⟨⟨i, Si⟩, hi, hE, hF⟩; dsimp only
  replace hi : i ≤ l.length := hi
  replace hE : Ext S Si := hE
  replace hF : Fr S.length Si [.sl 5 ((l.take i).map GNode.d ++ List.replicate (l.length - i) [.x (.int .i64 0), .x (.int .i64 0), .x (.int .i64 0), .x (.int .i64 0), .x (.int .i64 0)])] [.sl S.length 0 l.length l.length] := hF
  repeat' ((conv => whnf) <;> first
   | rw [wrapI_i64 (by omega)]
   | refine condP_dec (fun _ => ?_) (fun _ => ?_)
   | refine condP_ndec (fun _ => ?_) (fun _ => ?_)
   | refine condP_true rfl ?_
   | refine condP_false rfl ?_
   | refine condP_not (fun _ => ?_) (fun _ => ?_)
   | refine condP_intro (fun _ => ?_) (fun _ => ?_)
   | refine callP_eq (ev_toNode _ _) ?_
   | (refine rd_lenm rdA ?_; intro hml; rw [maxLen_eq] at hml)
   | refine rd_idxm rdA (by intro _; rfl) (by constructor <;> omega) ?_
   | refine rd_loadf rdA (by intro _; exact trivial) (by constructor <;> omega) ?_
   | refine to_idx (by first | assumption | exact Fr.ext (by assumption) (by assumption)) (by omega) (by intro _; rfl) (by rfl) ?_
   | refine needP_intro (by dsimp only [T52, T63]; first | omega | (constructor <;> omega) | fail) ?_
   | (refine to_store (by assumption) (by omega) (by assumption) (by first | assumption | exact Ext.refl _) (by first | assumption | exact fr_flat (by exact trivial)) (by rfl) (by rfl) ?_; intro Sm hEm hFm)
   | refine needP_intro (by first | omega | (constructor <;> omega) | fail) ?_
   | refine And.intro ?_ ?_)
  all_goals first
    | (refine ⟨⟨(i + 1, _), by dsimp only; omega, by assumption, by assumption⟩, ?_, rfl, by dsimp only; omega⟩; (conv => whnf); repeat' (first | exact trivial | exact rfl | apply And.intro))
    | exact hE
    | exact ⟨_, rfl, fr_full hF (by omega)⟩

theorem ev_toTab (x : GTab) (cs : List C) (S : Store) (h : Rd S x.d cs) (hz : szL x.d ≤ 1048576) : EvA Try.prog 6 [.agg cs] S (fun r S' => Ext S S' ∧ ∃ c2 c3 c4, r = .v (.agg [(.int .i64 x.Site.Owner), (.int .i64 x.Site.Sub), c2, c3, c4, (.int .i64 x.Click)]) ∧ Fr S.length S' x.d [(.int .i64 x.Site.Owner), (.int .i64 x.Site.Sub), c2, c3, c4, (.int .i64 x.Click)]) := by
  simp only [GTab.d, szL] at hz
  obtain ⟨_, _, _, rfl, _, _, _⟩ := GTab.inv h
  refine evA_intro tok Try.func6 (by kernel_rfl) rfl ?_
  repeat' ((conv => whnf) <;> first
   | refine callP_eq (ev_toSite _ _) ?_
   | refine needP_intro (by first | omega | (constructor <;> omega) | fail) ?_
   | refine And.intro ?_ ?_)
  refine callP_intro (ev_toNodeS _ _ _ rdA (by (first | omega | (simp only [szL]; omega)))) ?_; rintro _ S0 ⟨e0, d0_0, rfl, f0⟩
  have E0 : Ext S S0 := e0
  repeat' ((conv => whnf) <;> first
   | refine callP_eq (ev_toSite _ _) ?_
   | refine needP_intro (by first | omega | (constructor <;> omega) | fail) ?_
   | refine And.intro ?_ ?_)
  refine callP_intro (ev_toEditS _ _ _ rdA (by (first | omega | (simp only [szL]; omega)))) ?_; rintro _ S1 ⟨e1, d1_0, rfl, f1⟩
  have E1 : Ext S S1 := E0.trans e1
  repeat' ((conv => whnf) <;> first
   | refine callP_eq (ev_toSite _ _) ?_
   | refine needP_intro (by first | omega | (constructor <;> omega) | fail) ?_
   | refine And.intro ?_ ?_)
  refine callP_intro (ev_toIntS _ _ _ rdA (by (first | omega | (simp only [szL]; omega)))) ?_; rintro _ S2 ⟨e2, d2_0, rfl, f2⟩
  have E2 : Ext S S2 := E1.trans e2
  repeat' ((conv => whnf) <;> first
   | refine callP_eq (ev_toSite _ _) ?_
   | refine needP_intro (by first | omega | (constructor <;> omega) | fail) ?_
   | refine And.intro ?_ ?_)
  · exact E2
  · exact ⟨_, _, _, rfl, fr_x (fr_x (fr_sl (fr_seg f0 (Ext.trans e1 (e2))) (fr_sl (fr_seg f1 (e2)) (fr_sl (fr_seg f2 (Ext.refl _)) (fr_x (fr_nil)) (e2).len) (e1).len) (e0).len))⟩

end Go.Proofs.Ytjknkcgngchboaa
