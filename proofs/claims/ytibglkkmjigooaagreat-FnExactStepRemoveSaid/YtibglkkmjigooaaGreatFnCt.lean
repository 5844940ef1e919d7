/- The laws' helpers: to. -/
import Derived.Test.YtibglkkmjigooaaGreatFnCs
namespace Go.Proofs.YtibglkkmjigooaaGreat
open Go Go.ChangeShapes Go.WideShapes Go.ChangeAt Go.RowKit
set_option linter.unusedVariables false
set_option linter.unusedSimpArgs false
set_option maxRecDepth 100000
theorem ev_toEdit (x : GEdit) (S : Store) : EvA Tryz.prog 232 [.agg x.c] S (fun r S' => r = .v (.agg x.c) ∧ S' = S) := by
  refine evA_intro tok Tryz.func232 (by kernel_rfl) rfl ?_
  repeat' ((conv => whnf) <;> first
   | refine And.intro ?_ ?_)
  all_goals rfl
theorem ev_toFlow (x : GFlow) (S : Store) : EvA Tryz.prog 157 [.agg x.c] S (fun r S' => r = .v (.agg x.c) ∧ S' = S) := by
  refine evA_intro tok Tryz.func157 (by kernel_rfl) rfl ?_
  repeat' ((conv => whnf) <;> first
   | refine And.intro ?_ ?_)
  all_goals rfl
theorem ev_toIntS (l : (List Int)) (c : C) (S : Store) (h : Rd S [.sl 1 (l.map dInt)] [c]) (hz : szL [.sl 1 (l.map dInt)] ≤ 1048576) : EvA Tryz.prog 174 [.s c] S (fun r S' => Ext S S' ∧ ∃ c', r = .v (.s c') ∧ Fr S.length S' [.sl 1 (l.map dInt)] [c']) := by
  have hzl := sz_len hz
  have hF0 : Fr S.length (S ++ [⟨true, 1, List.replicate l.length [.int .i64 0]⟩]) [.sl 1 (List.replicate l.length [.x (.int .i64 0)])] [.sl S.length 0 l.length l.length] := fr_make (repL_x (repL_0)) (by rw [maxLen_eq]; omega)
  refine evA_intro tok Tryz.func174 (by kernel_rfl) rfl ?_
  repeat' ((conv => whnf) <;> first
   | refine rE fun hml => ?_ | refine needP_intro (by dsimp only [T3]; first | omega | (constructor <;> omega) | fail) ?_)
  refine loop_intro {p : Nat × Store // p.1 ≤ l.length ∧ Ext S p.2 ∧ Fr S.length p.2 [.sl 1 ((l.take p.1).map dInt ++ List.replicate (l.length - p.1) [.x (.int .i64 0)])] [.sl S.length 0 l.length l.length]} [4, 8, 9, 10, 11, 12, 13, 14, 15, 16, 17, 18, 19, 20] (fun zb => [(4, .v (.s (.int .i64 zb.1.1)))]) (fun zb => zb.1.2) (fun zb => l.length - zb.1.1) ⟨(0, _), Nat.zero_le _, Ext.push _ _, hF0⟩ ?_ rfl ?_
  · (conv => whnf); repeat' (first | exact trivial | exact rfl | apply And.intro)
  rintro ⟨⟨i, Si⟩, hi, hE, hF⟩; dsimp only
  replace hi : i ≤ l.length := hi
  replace hE : Ext S Si := hE
  replace hF : Fr S.length Si [.sl 1 ((l.take i).map dInt ++ List.replicate (l.length - i) [.x (.int .i64 0)])] [.sl S.length 0 l.length l.length] := hF
  repeat' ((conv => whnf) <;> first
   | rw [wrapI_i64 (by omega)] | refine cD (fun _ => ?_) fun _ => ?_ | refine rE fun hml => ?_ | refine rI rdA rf ix ?_ | refine rd_loadf rdA tv ix ?_ | refine to_idx (by first | assumption | exact Fr.ext aN aN) om rf (by rfl) ?_ | (refine to_store aN om aN (by first | assumption | exact Ext.refl _) (by first | assumption | exact fr_flat (by exact trivial)) (by rfl) (by rfl) ?_; intro Sm hEm hFm) | refine And.intro ?_ ?_)
  all_goals first
    | (refine ⟨⟨(i + 1, _), by dsimp only; omega, by assumption, by assumption⟩, ?_, rfl, by dsimp only; omega⟩; (conv => whnf); repeat' (first | exact trivial | exact rfl | apply And.intro))
    | exact hE
    | exact ⟨_, rfl, fr_full hF (by omega)⟩
theorem ev_toNode (x : GNode) (S : Store) : EvA Tryz.prog 231 [.agg x.c] S (fun r S' => r = .v (.agg x.c) ∧ S' = S) := by
  refine evA_intro tok Tryz.func231 (by kernel_rfl) rfl ?_
  repeat' ((conv => whnf) <;> first
   | refine And.intro ?_ ?_)
  all_goals rfl
theorem ev_toOp (x : GOp) (S : Store) : EvA Tryz.prog 158 [.agg x.c] S (fun r S' => r = .v (.agg x.c) ∧ S' = S) := by
  refine evA_intro tok Tryz.func158 (by kernel_rfl) rfl ?_
  repeat' ((conv => whnf) <;> first
   | refine And.intro ?_ ?_)
  all_goals rfl
theorem ev_toPattern (x : GPattern) (S : Store) : EvA Tryz.prog 175 [.agg x.c] S (fun r S' => r = .v (.agg x.c) ∧ S' = S) := by
  refine evA_intro tok Tryz.func175 (by kernel_rfl) rfl ?_
  repeat' ((conv => whnf) <;> first
   | refine And.intro ?_ ?_)
  all_goals rfl
theorem ev_toSite (x : GSite) (S : Store) : EvA Tryz.prog 171 [.agg x.c] S (fun r S' => r = .v (.agg x.c) ∧ S' = S) := by
  refine evA_intro tok Tryz.func171 (by kernel_rfl) rfl ?_
  repeat' ((conv => whnf) <;> first
   | refine And.intro ?_ ?_)
  all_goals rfl
theorem ev_toStored (x : GStored) (S : Store) : EvA Tryz.prog 100 [.agg x.c] S (fun r S' => r = .v (.agg x.c) ∧ S' = S) := by
  refine evA_intro tok Tryz.func100 (by kernel_rfl) rfl ?_
  repeat' ((conv => whnf) <;> first
   | refine And.intro ?_ ?_)
  all_goals rfl
theorem ev_toEditS (l : (List GEdit)) (c : C) (S : Store) (h : Rd S [.sl 6 (l.map GEdit.d)] [c]) (hz : szL [.sl 6 (l.map GEdit.d)] ≤ 1048576) : EvA Tryz.prog 173 [.s c] S (fun r S' => Ext S S' ∧ ∃ c', r = .v (.s c') ∧ Fr S.length S' [.sl 6 (l.map GEdit.d)] [c']) := by
  have hzl := sz_len hz
  have hF0 : Fr S.length (S ++ [⟨true, 6, List.replicate l.length [.int .i64 0, .int .i64 0, .int .i64 0, .int .i64 0, .int .i64 0, .int .i64 0]⟩]) [.sl 6 (List.replicate l.length [.x (.int .i64 0), .x (.int .i64 0), .x (.int .i64 0), .x (.int .i64 0), .x (.int .i64 0), .x (.int .i64 0)])] [.sl S.length 0 l.length l.length] := fr_make (repL_x (repL_x (repL_x (repL_x (repL_x (repL_x (repL_0))))))) (by rw [maxLen_eq]; omega)
  refine evA_intro tok Tryz.func173 (by kernel_rfl) rfl ?_
  repeat' ((conv => whnf) <;> first
   | refine rE fun hml => ?_ | refine needP_intro (by dsimp only [T175, T231]; first | omega | (constructor <;> omega) | fail) ?_)
  refine loop_intro {p : Nat × Store // p.1 ≤ l.length ∧ Ext S p.2 ∧ Fr S.length p.2 [.sl 6 ((l.take p.1).map GEdit.d ++ List.replicate (l.length - p.1) [.x (.int .i64 0), .x (.int .i64 0), .x (.int .i64 0), .x (.int .i64 0), .x (.int .i64 0), .x (.int .i64 0)])] [.sl S.length 0 l.length l.length]} [4, 8, 9, 10, 11, 12, 13, 14, 15, 16, 17, 18, 19, 20, 21] (fun zb => [(4, .v (.s (.int .i64 zb.1.1)))]) (fun zb => zb.1.2) (fun zb => l.length - zb.1.1) ⟨(0, _), Nat.zero_le _, Ext.push _ _, hF0⟩ ?_ rfl ?_
  · (conv => whnf); repeat' (first | exact trivial | exact rfl | apply And.intro)
  rintro ⟨⟨i, Si⟩, hi, hE, hF⟩; dsimp only
  replace hi : i ≤ l.length := hi
  replace hE : Ext S Si := hE
  replace hF : Fr S.length Si [.sl 6 ((l.take i).map GEdit.d ++ List.replicate (l.length - i) [.x (.int .i64 0), .x (.int .i64 0), .x (.int .i64 0), .x (.int .i64 0), .x (.int .i64 0), .x (.int .i64 0)])] [.sl S.length 0 l.length l.length] := hF
  repeat' ((conv => whnf) <;> first
   | rw [wrapI_i64 (by omega)] | refine cD (fun _ => ?_) fun _ => ?_ | refine callP_eq (ev_toEdit _ _) ?_ | refine rE fun hml => ?_ | refine rI rdA rf ix ?_ | refine rd_loadf rdA tv ix ?_ | refine to_idx (by first | assumption | exact Fr.ext aN aN) om rf (by rfl) ?_ | (refine to_store aN om aN (by first | assumption | exact Ext.refl _) (by first | assumption | exact fr_flat (by exact trivial)) (by rfl) (by rfl) ?_; intro Sm hEm hFm) | refine And.intro ?_ ?_)
  all_goals first
    | (refine ⟨⟨(i + 1, _), by dsimp only; omega, by assumption, by assumption⟩, ?_, rfl, by dsimp only; omega⟩; (conv => whnf); repeat' (first | exact trivial | exact rfl | apply And.intro))
    | exact hE
    | exact ⟨_, rfl, fr_full hF (by omega)⟩
theorem ev_toFlowS (l : (List GFlow)) (c : C) (S : Store) (h : Rd S [.sl 3 (l.map GFlow.d)] [c]) (hz : szL [.sl 3 (l.map GFlow.d)] ≤ 1048576) : EvA Tryz.prog 83 [.s c] S (fun r S' => Ext S S' ∧ ∃ c', r = .v (.s c') ∧ Fr S.length S' [.sl 3 (l.map GFlow.d)] [c']) := by
  have hzl := sz_len hz
  have hF0 : Fr S.length (S ++ [⟨true, 3, List.replicate l.length [.int .i64 0, .int .i64 0, .int .i64 0]⟩]) [.sl 3 (List.replicate l.length [.x (.int .i64 0), .x (.int .i64 0), .x (.int .i64 0)])] [.sl S.length 0 l.length l.length] := fr_make (repL_x (repL_x (repL_x (repL_0)))) (by rw [maxLen_eq]; omega)
  refine evA_intro tok Tryz.func83 (by kernel_rfl) rfl ?_
  repeat' ((conv => whnf) <;> first
   | refine rE fun hml => ?_ | refine needP_intro (by dsimp only [T180, T182]; first | omega | (constructor <;> omega) | fail) ?_)
  refine loop_intro {p : Nat × Store // p.1 ≤ l.length ∧ Ext S p.2 ∧ Fr S.length p.2 [.sl 3 ((l.take p.1).map GFlow.d ++ List.replicate (l.length - p.1) [.x (.int .i64 0), .x (.int .i64 0), .x (.int .i64 0)])] [.sl S.length 0 l.length l.length]} [4, 8, 9, 10, 11, 12, 13, 14, 15, 16, 17, 18, 19, 20, 21] (fun zb => [(4, .v (.s (.int .i64 zb.1.1)))]) (fun zb => zb.1.2) (fun zb => l.length - zb.1.1) ⟨(0, _), Nat.zero_le _, Ext.push _ _, hF0⟩ ?_ rfl ?_
  · (conv => whnf); repeat' (first | exact trivial | exact rfl | apply And.intro)
  rintro ⟨⟨i, Si⟩, hi, hE, hF⟩; dsimp only
  replace hi : i ≤ l.length := hi
  replace hE : Ext S Si := hE
  replace hF : Fr S.length Si [.sl 3 ((l.take i).map GFlow.d ++ List.replicate (l.length - i) [.x (.int .i64 0), .x (.int .i64 0), .x (.int .i64 0)])] [.sl S.length 0 l.length l.length] := hF
  repeat' ((conv => whnf) <;> first
   | rw [wrapI_i64 (by omega)] | refine cD (fun _ => ?_) fun _ => ?_ | refine callP_eq (ev_toFlow _ _) ?_ | refine rE fun hml => ?_ | refine rI rdA rf ix ?_ | refine rd_loadf rdA tv ix ?_ | refine to_idx (by first | assumption | exact Fr.ext aN aN) om rf (by rfl) ?_ | (refine to_store aN om aN (by first | assumption | exact Ext.refl _) (by first | assumption | exact fr_flat (by exact trivial)) (by rfl) (by rfl) ?_; intro Sm hEm hFm) | refine And.intro ?_ ?_)
  all_goals first
    | (refine ⟨⟨(i + 1, _), by dsimp only; omega, by assumption, by assumption⟩, ?_, rfl, by dsimp only; omega⟩; (conv => whnf); repeat' (first | exact trivial | exact rfl | apply And.intro))
    | exact hE
    | exact ⟨_, rfl, fr_full hF (by omega)⟩
theorem ev_toGrant (x : GGrant) (S : Store) : EvA Tryz.prog 97 [.agg x.c] S (fun r S' => r = .v (.agg x.c) ∧ S' = S) := by
  refine evA_intro tok Tryz.func97 (by kernel_rfl) rfl ?_
  repeat' ((conv => whnf) <;> first
   | refine callP_eq (ev_toPattern _ _) ?_ | refine And.intro ?_ ?_)
  all_goals rfl
theorem ev_toLimit (x : GLimit) (S : Store) : EvA Tryz.prog 98 [.agg x.c] S (fun r S' => r = .v (.agg x.c) ∧ S' = S) := by
  refine evA_intro tok Tryz.func98 (by kernel_rfl) rfl ?_
  repeat' ((conv => whnf) <;> first
   | refine callP_eq (ev_toPattern _ _) ?_ | refine And.intro ?_ ?_)
  all_goals rfl
theorem ev_toNodeS (l : (List GNode)) (c : C) (S : Store) (h : Rd S [.sl 5 (l.map GNode.d)] [c]) (hz : szL [.sl 5 (l.map GNode.d)] ≤ 1048576) : EvA Tryz.prog 172 [.s c] S (fun r S' => Ext S S' ∧ ∃ c', r = .v (.s c') ∧ Fr S.length S' [.sl 5 (l.map GNode.d)] [c']) := by
  have hzl := sz_len hz
  have hF0 : Fr S.length (S ++ [⟨true, 5, List.replicate l.length [.int .i64 0, .int .i64 0, .int .i64 0, .int .i64 0, .int .i64 0]⟩]) [.sl 5 (List.replicate l.length [.x (.int .i64 0), .x (.int .i64 0), .x (.int .i64 0), .x (.int .i64 0), .x (.int .i64 0)])] [.sl S.length 0 l.length l.length] := fr_make (repL_x (repL_x (repL_x (repL_x (repL_x (repL_0)))))) (by rw [maxLen_eq]; omega)
  refine evA_intro tok Tryz.func172 (by kernel_rfl) rfl ?_
  repeat' ((conv => whnf) <;> first
   | refine rE fun hml => ?_ | refine needP_intro (by dsimp only [T202, T229]; first | omega | (constructor <;> omega) | fail) ?_)
  refine loop_intro {p : Nat × Store // p.1 ≤ l.length ∧ Ext S p.2 ∧ Fr S.length p.2 [.sl 5 ((l.take p.1).map GNode.d ++ List.replicate (l.length - p.1) [.x (.int .i64 0), .x (.int .i64 0), .x (.int .i64 0), .x (.int .i64 0), .x (.int .i64 0)])] [.sl S.length 0 l.length l.length]} [4, 8, 9, 10, 11, 12, 13, 14, 15, 16, 17, 18, 19, 20, 21] (fun zb => [(4, .v (.s (.int .i64 zb.1.1)))]) (fun zb => zb.1.2) (fun zb => l.length - zb.1.1) ⟨(0, _), Nat.zero_le _, Ext.push _ _, hF0⟩ ?_ rfl ?_
  · (conv => whnf); repeat' (first | exact trivial | exact rfl | apply And.intro)
  rintro ⟨⟨i, Si⟩, hi, hE, hF⟩; dsimp only
  replace hi : i ≤ l.length := hi
  replace hE : Ext S Si := hE
  replace hF : Fr S.length Si [.sl 5 ((l.take i).map GNode.d ++ List.replicate (l.length - i) [.x (.int .i64 0), .x (.int .i64 0), .x (.int .i64 0), .x (.int .i64 0), .x (.int .i64 0)])] [.sl S.length 0 l.length l.length] := hF
  repeat' ((conv => whnf) <;> first
   | rw [wrapI_i64 (by omega)] | refine cD (fun _ => ?_) fun _ => ?_ | refine callP_eq (ev_toNode _ _) ?_ | refine rE fun hml => ?_ | refine rI rdA rf ix ?_ | refine rd_loadf rdA tv ix ?_ | refine to_idx (by first | assumption | exact Fr.ext aN aN) om rf (by rfl) ?_ | (refine to_store aN om aN (by first | assumption | exact Ext.refl _) (by first | assumption | exact fr_flat (by exact trivial)) (by rfl) (by rfl) ?_; intro Sm hEm hFm) | refine And.intro ?_ ?_)
  all_goals first
    | (refine ⟨⟨(i + 1, _), by dsimp only; omega, by assumption, by assumption⟩, ?_, rfl, by dsimp only; omega⟩; (conv => whnf); repeat' (first | exact trivial | exact rfl | apply And.intro))
    | exact hE
    | exact ⟨_, rfl, fr_full hF (by omega)⟩
theorem ev_toOpS (l : (List GOp)) (c : C) (S : Store) (h : Rd S [.sl 4 (l.map GOp.d)] [c]) (hz : szL [.sl 4 (l.map GOp.d)] ≤ 1048576) : EvA Tryz.prog 84 [.s c] S (fun r S' => Ext S S' ∧ ∃ c', r = .v (.s c') ∧ Fr S.length S' [.sl 4 (l.map GOp.d)] [c']) := by
  have hzl := sz_len hz
  have hF0 : Fr S.length (S ++ [⟨true, 4, List.replicate l.length [.int .i64 0, .int .i64 0, .int .i64 0, .int .i64 0]⟩]) [.sl 4 (List.replicate l.length [.x (.int .i64 0), .x (.int .i64 0), .x (.int .i64 0), .x (.int .i64 0)])] [.sl S.length 0 l.length l.length] := fr_make (repL_x (repL_x (repL_x (repL_x (repL_0))))) (by rw [maxLen_eq]; omega)
  refine evA_intro tok Tryz.func84 (by kernel_rfl) rfl ?_
  repeat' ((conv => whnf) <;> first
   | refine rE fun hml => ?_ | refine needP_intro (by dsimp only [T184, T186]; first | omega | (constructor <;> omega) | fail) ?_)
  refine loop_intro {p : Nat × Store // p.1 ≤ l.length ∧ Ext S p.2 ∧ Fr S.length p.2 [.sl 4 ((l.take p.1).map GOp.d ++ List.replicate (l.length - p.1) [.x (.int .i64 0), .x (.int .i64 0), .x (.int .i64 0), .x (.int .i64 0)])] [.sl S.length 0 l.length l.length]} [4, 8, 9, 10, 11, 12, 13, 14, 15, 16, 17, 18, 19, 20, 21] (fun zb => [(4, .v (.s (.int .i64 zb.1.1)))]) (fun zb => zb.1.2) (fun zb => l.length - zb.1.1) ⟨(0, _), Nat.zero_le _, Ext.push _ _, hF0⟩ ?_ rfl ?_
  · (conv => whnf); repeat' (first | exact trivial | exact rfl | apply And.intro)
  rintro ⟨⟨i, Si⟩, hi, hE, hF⟩; dsimp only
  replace hi : i ≤ l.length := hi
  replace hE : Ext S Si := hE
  replace hF : Fr S.length Si [.sl 4 ((l.take i).map GOp.d ++ List.replicate (l.length - i) [.x (.int .i64 0), .x (.int .i64 0), .x (.int .i64 0), .x (.int .i64 0)])] [.sl S.length 0 l.length l.length] := hF
  repeat' ((conv => whnf) <;> first
   | rw [wrapI_i64 (by omega)] | refine cD (fun _ => ?_) fun _ => ?_ | refine callP_eq (ev_toOp _ _) ?_ | refine rE fun hml => ?_ | refine rI rdA rf ix ?_ | refine rd_loadf rdA tv ix ?_ | refine to_idx (by first | assumption | exact Fr.ext aN aN) om rf (by rfl) ?_ | (refine to_store aN om aN (by first | assumption | exact Ext.refl _) (by first | assumption | exact fr_flat (by exact trivial)) (by rfl) (by rfl) ?_; intro Sm hEm hFm) | refine And.intro ?_ ?_)
  all_goals first
    | (refine ⟨⟨(i + 1, _), by dsimp only; omega, by assumption, by assumption⟩, ?_, rfl, by dsimp only; omega⟩; (conv => whnf); repeat' (first | exact trivial | exact rfl | apply And.intro))
    | exact hE
    | exact ⟨_, rfl, fr_full hF (by omega)⟩
theorem ev_toRule (x : GRule) (S : Store) : EvA Tryz.prog 99 [.agg x.c] S (fun r S' => r = .v (.agg x.c) ∧ S' = S) := by
  refine evA_intro tok Tryz.func99 (by kernel_rfl) rfl ?_
  repeat' ((conv => whnf) <;> first
   | refine callP_eq (ev_toSite _ _) ?_ | refine callP_eq (ev_toPattern _ _) ?_ | refine And.intro ?_ ?_)
  all_goals rfl
theorem ev_toStoredS (l : (List GStored)) (c : C) (S : Store) (h : Rd S [.sl 4 (l.map GStored.d)] [c]) (hz : szL [.sl 4 (l.map GStored.d)] ≤ 1048576) : EvA Tryz.prog 44 [.s c] S (fun r S' => Ext S S' ∧ ∃ c', r = .v (.s c') ∧ Fr S.length S' [.sl 4 (l.map GStored.d)] [c']) := by
  have hzl := sz_len hz
  have hF0 : Fr S.length (S ++ [⟨true, 4, List.replicate l.length [.int .i64 0, .int .i64 0, .int .i64 0, .int .i64 0]⟩]) [.sl 4 (List.replicate l.length [.x (.int .i64 0), .x (.int .i64 0), .x (.int .i64 0), .x (.int .i64 0)])] [.sl S.length 0 l.length l.length] := fr_make (repL_x (repL_x (repL_x (repL_x (repL_0))))) (by rw [maxLen_eq]; omega)
  refine evA_intro tok Tryz.func44 (by kernel_rfl) rfl ?_
  repeat' ((conv => whnf) <;> first
   | refine rE fun hml => ?_ | refine needP_intro (by dsimp only [T128, T144]; first | omega | (constructor <;> omega) | fail) ?_)
  refine loop_intro {p : Nat × Store // p.1 ≤ l.length ∧ Ext S p.2 ∧ Fr S.length p.2 [.sl 4 ((l.take p.1).map GStored.d ++ List.replicate (l.length - p.1) [.x (.int .i64 0), .x (.int .i64 0), .x (.int .i64 0), .x (.int .i64 0)])] [.sl S.length 0 l.length l.length]} [4, 8, 9, 10, 11, 12, 13, 14, 15, 16, 17, 18, 19, 20, 21] (fun zb => [(4, .v (.s (.int .i64 zb.1.1)))]) (fun zb => zb.1.2) (fun zb => l.length - zb.1.1) ⟨(0, _), Nat.zero_le _, Ext.push _ _, hF0⟩ ?_ rfl ?_
  · (conv => whnf); repeat' (first | exact trivial | exact rfl | apply And.intro)
  rintro ⟨⟨i, Si⟩, hi, hE, hF⟩; dsimp only
  replace hi : i ≤ l.length := hi
  replace hE : Ext S Si := hE
  replace hF : Fr S.length Si [.sl 4 ((l.take i).map GStored.d ++ List.replicate (l.length - i) [.x (.int .i64 0), .x (.int .i64 0), .x (.int .i64 0), .x (.int .i64 0)])] [.sl S.length 0 l.length l.length] := hF
  repeat' ((conv => whnf) <;> first
   | rw [wrapI_i64 (by omega)] | refine cD (fun _ => ?_) fun _ => ?_ | refine callP_eq (ev_toStored _ _) ?_ | refine rE fun hml => ?_ | refine rI rdA rf ix ?_ | refine rd_loadf rdA tv ix ?_ | refine to_idx (by first | assumption | exact Fr.ext aN aN) om rf (by rfl) ?_ | (refine to_store aN om aN (by first | assumption | exact Ext.refl _) (by first | assumption | exact fr_flat (by exact trivial)) (by rfl) (by rfl) ?_; intro Sm hEm hFm) | refine And.intro ?_ ?_)
  all_goals first
    | (refine ⟨⟨(i + 1, _), by dsimp only; omega, by assumption, by assumption⟩, ?_, rfl, by dsimp only; omega⟩; (conv => whnf); repeat' (first | exact trivial | exact rfl | apply And.intro))
    | exact hE
    | exact ⟨_, rfl, fr_full hF (by omega)⟩
theorem ev_toGrantS (l : (List GGrant)) (c : C) (S : Store) (h : Rd S [.sl 7 (l.map GGrant.d)] [c]) (hz : szL [.sl 7 (l.map GGrant.d)] ≤ 1048576) : EvA Tryz.prog 41 [.s c] S (fun r S' => Ext S S' ∧ ∃ c', r = .v (.s c') ∧ Fr S.length S' [.sl 7 (l.map GGrant.d)] [c']) := by
  have hzl := sz_len hz
  have hF0 : Fr S.length (S ++ [⟨true, 7, List.replicate l.length [.int .i64 0, .int .i64 0, .int .i64 0, .int .i64 0, .int .i64 0, .int .i64 0, .bool false]⟩]) [.sl 7 (List.replicate l.length [.x (.int .i64 0), .x (.int .i64 0), .x (.int .i64 0), .x (.int .i64 0), .x (.int .i64 0), .x (.int .i64 0), .x (.bool false)])] [.sl S.length 0 l.length l.length] := fr_make (repL_x (repL_x (repL_x (repL_x (repL_x (repL_x (repL_x (repL_0)))))))) (by rw [maxLen_eq]; omega)
  refine evA_intro tok Tryz.func41 (by kernel_rfl) rfl ?_
  repeat' ((conv => whnf) <;> first
   | refine rE fun hml => ?_ | refine needP_intro (by dsimp only [T124, T134]; first | omega | (constructor <;> omega) | fail) ?_)
  refine loop_intro {p : Nat × Store // p.1 ≤ l.length ∧ Ext S p.2 ∧ Fr S.length p.2 [.sl 7 ((l.take p.1).map GGrant.d ++ List.replicate (l.length - p.1) [.x (.int .i64 0), .x (.int .i64 0), .x (.int .i64 0), .x (.int .i64 0), .x (.int .i64 0), .x (.int .i64 0), .x (.bool false)])] [.sl S.length 0 l.length l.length]} [4, 8, 9, 10, 11, 12, 13, 14, 15, 16, 17, 18, 19, 20, 21] (fun zb => [(4, .v (.s (.int .i64 zb.1.1)))]) (fun zb => zb.1.2) (fun zb => l.length - zb.1.1) ⟨(0, _), Nat.zero_le _, Ext.push _ _, hF0⟩ ?_ rfl ?_
  · (conv => whnf); repeat' (first | exact trivial | exact rfl | apply And.intro)
  rintro ⟨⟨i, Si⟩, hi, hE, hF⟩; dsimp only
  replace hi : i ≤ l.length := hi
  replace hE : Ext S Si := hE
  replace hF : Fr S.length Si [.sl 7 ((l.take i).map GGrant.d ++ List.replicate (l.length - i) [.x (.int .i64 0), .x (.int .i64 0), .x (.int .i64 0), .x (.int .i64 0), .x (.int .i64 0), .x (.int .i64 0), .x (.bool false)])] [.sl S.length 0 l.length l.length] := hF
  repeat' ((conv => whnf) <;> first
   | rw [wrapI_i64 (by omega)] | refine cD (fun _ => ?_) fun _ => ?_ | refine callP_eq (ev_toGrant _ _) ?_ | refine rE fun hml => ?_ | refine rI rdA rf ix ?_ | refine rd_loadf rdA tv ix ?_ | refine to_idx (by first | assumption | exact Fr.ext aN aN) om rf (by rfl) ?_ | (refine to_store aN om aN (by first | assumption | exact Ext.refl _) (by first | assumption | exact fr_flat (by exact trivial)) (by rfl) (by rfl) ?_; intro Sm hEm hFm) | refine And.intro ?_ ?_)
  all_goals first
    | (refine ⟨⟨(i + 1, _), by dsimp only; omega, by assumption, by assumption⟩, ?_, rfl, by dsimp only; omega⟩; (conv => whnf); repeat' (first | exact trivial | exact rfl | apply And.intro))
    | exact hE
    | exact ⟨_, rfl, fr_full hF (by omega)⟩
theorem ev_toLimitS (l : (List GLimit)) (c : C) (S : Store) (h : Rd S [.sl 4 (l.map GLimit.d)] [c]) (hz : szL [.sl 4 (l.map GLimit.d)] ≤ 1048576) : EvA Tryz.prog 42 [.s c] S (fun r S' => Ext S S' ∧ ∃ c', r = .v (.s c') ∧ Fr S.length S' [.sl 4 (l.map GLimit.d)] [c']) := by
  have hzl := sz_len hz
  have hF0 : Fr S.length (S ++ [⟨true, 4, List.replicate l.length [.int .i64 0, .int .i64 0, .int .i64 0, .int .i64 0]⟩]) [.sl 4 (List.replicate l.length [.x (.int .i64 0), .x (.int .i64 0), .x (.int .i64 0), .x (.int .i64 0)])] [.sl S.length 0 l.length l.length] := fr_make (repL_x (repL_x (repL_x (repL_x (repL_0))))) (by rw [maxLen_eq]; omega)
  refine evA_intro tok Tryz.func42 (by kernel_rfl) rfl ?_
  repeat' ((conv => whnf) <;> first
   | refine rE fun hml => ?_ | refine needP_intro (by dsimp only [T136, T139]; first | omega | (constructor <;> omega) | fail) ?_)
  refine loop_intro {p : Nat × Store // p.1 ≤ l.length ∧ Ext S p.2 ∧ Fr S.length p.2 [.sl 4 ((l.take p.1).map GLimit.d ++ List.replicate (l.length - p.1) [.x (.int .i64 0), .x (.int .i64 0), .x (.int .i64 0), .x (.int .i64 0)])] [.sl S.length 0 l.length l.length]} [4, 8, 9, 10, 11, 12, 13, 14, 15, 16, 17, 18, 19, 20, 21] (fun zb => [(4, .v (.s (.int .i64 zb.1.1)))]) (fun zb => zb.1.2) (fun zb => l.length - zb.1.1) ⟨(0, _), Nat.zero_le _, Ext.push _ _, hF0⟩ ?_ rfl ?_
  · (conv => whnf); repeat' (first | exact trivial | exact rfl | apply And.intro)
  rintro ⟨⟨i, Si⟩, hi, hE, hF⟩; dsimp only
  replace hi : i ≤ l.length := hi
  replace hE : Ext S Si := hE
  replace hF : Fr S.length Si [.sl 4 ((l.take i).map GLimit.d ++ List.replicate (l.length - i) [.x (.int .i64 0), .x (.int .i64 0), .x (.int .i64 0), .x (.int .i64 0)])] [.sl S.length 0 l.length l.length] := hF
  repeat' ((conv => whnf) <;> first
   | rw [wrapI_i64 (by omega)] | refine cD (fun _ => ?_) fun _ => ?_ | refine callP_eq (ev_toLimit _ _) ?_ | refine rE fun hml => ?_ | refine rI rdA rf ix ?_ | refine rd_loadf rdA tv ix ?_ | refine to_idx (by first | assumption | exact Fr.ext aN aN) om rf (by rfl) ?_ | (refine to_store aN om aN (by first | assumption | exact Ext.refl _) (by first | assumption | exact fr_flat (by exact trivial)) (by rfl) (by rfl) ?_; intro Sm hEm hFm) | refine And.intro ?_ ?_)
  all_goals first
    | (refine ⟨⟨(i + 1, _), by dsimp only; omega, by assumption, by assumption⟩, ?_, rfl, by dsimp only; omega⟩; (conv => whnf); repeat' (first | exact trivial | exact rfl | apply And.intro))
    | exact hE
    | exact ⟨_, rfl, fr_full hF (by omega)⟩
theorem ev_toRuleS (l : (List GRule)) (c : C) (S : Store) (h : Rd S [.sl 8 (l.map GRule.d)] [c]) (hz : szL [.sl 8 (l.map GRule.d)] ≤ 1048576) : EvA Tryz.prog 43 [.s c] S (fun r S' => Ext S S' ∧ ∃ c', r = .v (.s c') ∧ Fr S.length S' [.sl 8 (l.map GRule.d)] [c']) := by
  have hzl := sz_len hz
  have hF0 : Fr S.length (S ++ [⟨true, 8, List.replicate l.length [.int .i64 0, .int .i64 0, .int .i64 0, .int .i64 0, .int .i64 0, .int .i64 0, .int .i64 0, .int .i64 0]⟩]) [.sl 8 (List.replicate l.length [.x (.int .i64 0), .x (.int .i64 0), .x (.int .i64 0), .x (.int .i64 0), .x (.int .i64 0), .x (.int .i64 0), .x (.int .i64 0), .x (.int .i64 0)])] [.sl S.length 0 l.length l.length] := fr_make (repL_x (repL_x (repL_x (repL_x (repL_x (repL_x (repL_x (repL_x (repL_0))))))))) (by rw [maxLen_eq]; omega)
  refine evA_intro tok Tryz.func43 (by kernel_rfl) rfl ?_
  repeat' ((conv => whnf) <;> first
   | refine rE fun hml => ?_ | refine needP_intro (by dsimp only [T126, T142]; first | omega | (constructor <;> omega) | fail) ?_)
  refine loop_intro {p : Nat × Store // p.1 ≤ l.length ∧ Ext S p.2 ∧ Fr S.length p.2 [.sl 8 ((l.take p.1).map GRule.d ++ List.replicate (l.length - p.1) [.x (.int .i64 0), .x (.int .i64 0), .x (.int .i64 0), .x (.int .i64 0), .x (.int .i64 0), .x (.int .i64 0), .x (.int .i64 0), .x (.int .i64 0)])] [.sl S.length 0 l.length l.length]} [4, 8, 9, 10, 11, 12, 13, 14, 15, 16, 17, 18, 19, 20, 21] (fun zb => [(4, .v (.s (.int .i64 zb.1.1)))]) (fun zb => zb.1.2) (fun zb => l.length - zb.1.1) ⟨(0, _), Nat.zero_le _, Ext.push _ _, hF0⟩ ?_ rfl ?_
  · (conv => whnf); repeat' (first | exact trivial | exact rfl | apply And.intro)
  rintro ⟨⟨i, Si⟩, hi, hE, hF⟩; dsimp only
  replace hi : i ≤ l.length := hi
  replace hE : Ext S Si := hE
  replace hF : Fr S.length Si [.sl 8 ((l.take i).map GRule.d ++ List.replicate (l.length - i) [.x (.int .i64 0), .x (.int .i64 0), .x (.int .i64 0), .x (.int .i64 0), .x (.int .i64 0), .x (.int .i64 0), .x (.int .i64 0), .x (.int .i64 0)])] [.sl S.length 0 l.length l.length] := hF
  repeat' ((conv => whnf) <;> first
   | rw [wrapI_i64 (by omega)] | refine cD (fun _ => ?_) fun _ => ?_ | refine callP_eq (ev_toRule _ _) ?_ | refine rE fun hml => ?_ | refine rI rdA rf ix ?_ | refine rd_loadf rdA tv ix ?_ | refine to_idx (by first | assumption | exact Fr.ext aN aN) om rf (by rfl) ?_ | (refine to_store aN om aN (by first | assumption | exact Ext.refl _) (by first | assumption | exact fr_flat (by exact trivial)) (by rfl) (by rfl) ?_; intro Sm hEm hFm) | refine And.intro ?_ ?_)
  all_goals first
    | (refine ⟨⟨(i + 1, _), by dsimp only; omega, by assumption, by assumption⟩, ?_, rfl, by dsimp only; omega⟩; (conv => whnf); repeat' (first | exact trivial | exact rfl | apply And.intro))
    | exact hE
    | exact ⟨_, rfl, fr_full hF (by omega)⟩
theorem ev_toTab (x : GTab) (cs : List C) (S : Store) (h : Rd S x.d cs) (hz : szL x.d ≤ 1048576) : EvA Tryz.prog 96 [.agg cs] S (fun r S' => Ext S S' ∧ ∃ c2 c3 c4, r = .v (.agg [(.int .i64 x.Site.Owner), (.int .i64 x.Site.Sub), c2, c3, c4, (.int .i64 x.Click)]) ∧ Fr S.length S' x.d [(.int .i64 x.Site.Owner), (.int .i64 x.Site.Sub), c2, c3, c4, (.int .i64 x.Click)]) := by
  simp only [GTab.d, szL] at hz
  obtain ⟨_, _, _, rfl, _, _, _⟩ := GTab.inv h
  refine evA_intro tok Tryz.func96 (by kernel_rfl) rfl ?_
  repeat' ((conv => whnf) <;> first
   | refine callP_eq (ev_toSite _ _) ?_)
  refine callP_intro (ev_toNodeS _ _ _ rdA (by (first | omega | (simp only [szL]; omega)))) ?_; rintro _ S0 ⟨e0, d0_0, rfl, f0⟩
  have E0 : Ext S S0 := e0
  skip
  refine callP_intro (ev_toEditS _ _ _ rdA (by (first | omega | (simp only [szL]; omega)))) ?_; rintro _ S1 ⟨e1, d1_0, rfl, f1⟩
  have E1 : Ext S S1 := E0.trans e1
  skip
  refine callP_intro (ev_toIntS _ _ _ rdA (by (first | omega | (simp only [szL]; omega)))) ?_; rintro _ S2 ⟨e2, d2_0, rfl, f2⟩
  have E2 : Ext S S2 := E1.trans e2
  repeat' ((conv => whnf) <;> first
   | refine And.intro ?_ ?_)
  · exact E2
  · exact ⟨_, _, _, rfl, fr_x (fr_x (fr_sl (fr_seg f0 (Ext.trans e1 (e2))) (fr_sl (fr_seg f1 (e2)) (fr_sl (fr_seg f2 (Ext.refl _)) (fr_x (fr_nil)) (e2).len) (e1).len) (e0).len))⟩
theorem ev_toPackage (x : GPackage) (cs : List C) (S : Store) (h : Rd S x.d cs) (hz : szL x.d ≤ 1048576) : EvA Tryz.prog 21 [.agg cs] S (fun r S' => Ext S S' ∧ ∃ c3 c4 c5 c6, r = .v (.agg [(.int .i64 x.Ext), (.int .i64 x.Author), (.int .i64 x.Version), c3, c4, c5, c6, (.int .i64 x.Seal)]) ∧ Fr S.length S' x.d [(.int .i64 x.Ext), (.int .i64 x.Author), (.int .i64 x.Version), c3, c4, c5, c6, (.int .i64 x.Seal)]) := by
  simp only [GPackage.d, szL] at hz
  obtain ⟨_, _, _, _, rfl, _, _, _, _⟩ := GPackage.inv h
  refine evA_intro tok Tryz.func21 (by kernel_rfl) rfl ?_
  skip
  refine callP_intro (ev_toGrantS _ _ _ rdA (by (first | omega | (simp only [szL]; omega)))) ?_; rintro _ S0 ⟨e0, d0_0, rfl, f0⟩
  have E0 : Ext S S0 := e0
  skip
  refine callP_intro (ev_toFlowS _ _ _ rdA (by (first | omega | (simp only [szL]; omega)))) ?_; rintro _ S1 ⟨e1, d1_0, rfl, f1⟩
  have E1 : Ext S S1 := E0.trans e1
  skip
  refine callP_intro (ev_toRuleS _ _ _ rdA (by (first | omega | (simp only [szL]; omega)))) ?_; rintro _ S2 ⟨e2, d2_0, rfl, f2⟩
  have E2 : Ext S S2 := E1.trans e2
  skip
  refine callP_intro (ev_toOpS _ _ _ rdA (by (first | omega | (simp only [szL]; omega)))) ?_; rintro _ S3 ⟨e3, d3_0, rfl, f3⟩
  have E3 : Ext S S3 := E2.trans e3
  repeat' ((conv => whnf) <;> first
   | refine And.intro ?_ ?_)
  · exact E3
  · exact ⟨_, _, _, _, rfl, fr_x (fr_x (fr_x (fr_sl (fr_seg f0 (Ext.trans e1 (Ext.trans e2 (e3)))) (fr_sl (fr_seg f1 (Ext.trans e2 (e3))) (fr_sl (fr_seg f2 (e3)) (fr_sl (fr_seg f3 (Ext.refl _)) (fr_x (fr_nil)) (e3).len) (e2).len) (e1).len) (e0).len)))⟩
theorem ev_toTabS (l : (List GTab)) (c : C) (S : Store) (h : Rd S [.sl 6 (l.map GTab.d)] [c]) (hz : szL [.sl 6 (l.map GTab.d)] ≤ 1048576) : EvA Tryz.prog 39 [.s c] S (fun r S' => Ext S S' ∧ ∃ c', r = .v (.s c') ∧ Fr S.length S' [.sl 6 (l.map GTab.d)] [c']) := by
  have hzl := sz_len hz
  have hF0 : Fr S.length (S ++ [⟨true, 6, List.replicate l.length [.int .i64 0, .int .i64 0, .nil, .nil, .nil, .int .i64 0]⟩]) [.sl 6 (List.replicate l.length [.x (.int .i64 0), .x (.int .i64 0), .sl 5 [], .sl 6 [], .sl 1 [], .x (.int .i64 0)])] [.sl S.length 0 l.length l.length] := fr_make (repL_x (repL_x (repL_sl0 (repL_sl0 (repL_sl0 (repL_x (repL_0))))))) (by rw [maxLen_eq]; omega)
  refine evA_intro tok Tryz.func39 (by kernel_rfl) rfl ?_
  repeat' ((conv => whnf) <;> first
   | refine rE fun hml => ?_ | refine needP_intro (by dsimp only [T120, T80]; first | omega | (constructor <;> omega) | fail) ?_)
  refine loop_intro {p : Nat × Store // p.1 ≤ l.length ∧ Ext S p.2 ∧ Fr S.length p.2 [.sl 6 ((l.take p.1).map GTab.d ++ List.replicate (l.length - p.1) [.x (.int .i64 0), .x (.int .i64 0), .sl 5 [], .sl 6 [], .sl 1 [], .x (.int .i64 0)])] [.sl S.length 0 l.length l.length]} [4, 8, 9, 10, 11, 12, 13, 14, 15, 16, 17, 18, 19, 20, 21] (fun zb => [(4, .v (.s (.int .i64 zb.1.1)))]) (fun zb => zb.1.2) (fun zb => l.length - zb.1.1) ⟨(0, _), Nat.zero_le _, Ext.push _ _, hF0⟩ ?_ rfl ?_
  · (conv => whnf); repeat' (first | exact trivial | exact rfl | apply And.intro)
  rintro ⟨⟨i, Si⟩, hi, hE, hF⟩; dsimp only
  replace hi : i ≤ l.length := hi
  replace hE : Ext S Si := hE
  replace hF : Fr S.length Si [.sl 6 ((l.take i).map GTab.d ++ List.replicate (l.length - i) [.x (.int .i64 0), .x (.int .i64 0), .sl 5 [], .sl 6 [], .sl 1 [], .x (.int .i64 0)])] [.sl S.length 0 l.length l.length] := hF
  repeat' ((conv => whnf) <;> first
   | rw [wrapI_i64 (by omega)] | refine cD (fun _ => ?_) fun _ => ?_ | (refine callP_intro (ev_toTab _ _ _ rdcA (by (first | omega | exact sz_at hz om | (simp only [szL]; omega)))) ?_; rintro _ Sn ⟨hEn, _, _, _, rfl, hFn⟩) | refine rE fun hml => ?_ | refine rI rdA rf ix ?_ | (refine rd_loadm (f := GTab.d) rdA ix ?_; intro _ hcs; obtain ⟨_, _, _, rfl, _, _, _⟩ := GTab.inv hcs) | refine to_idx (by first | assumption | exact Fr.ext aN aN) om rf (by rfl) ?_ | (refine to_store aN om aN (by first | assumption | exact Ext.refl _) (by first | assumption | exact fr_flat (by exact trivial)) (by rfl) (by rfl) ?_; intro Sm hEm hFm) | refine And.intro ?_ ?_)
  all_goals first
    | (refine ⟨⟨(i + 1, _), by dsimp only; omega, by assumption, by assumption⟩, ?_, rfl, by dsimp only; omega⟩; (conv => whnf); repeat' (first | exact trivial | exact rfl | apply And.intro))
    | exact hE
    | exact ⟨_, rfl, fr_full hF (by omega)⟩
theorem ev_toPackageS (l : (List GPackage)) (c : C) (S : Store) (h : Rd S [.sl 8 (l.map GPackage.d)] [c]) (hz : szL [.sl 8 (l.map GPackage.d)] ≤ 1048576) : EvA Tryz.prog 40 [.s c] S (fun r S' => Ext S S' ∧ ∃ c', r = .v (.s c') ∧ Fr S.length S' [.sl 8 (l.map GPackage.d)] [c']) := by
  have hzl := sz_len hz
  have hF0 : Fr S.length (S ++ [⟨true, 8, List.replicate l.length [.int .i64 0, .int .i64 0, .int .i64 0, .nil, .nil, .nil, .nil, .int .i64 0]⟩]) [.sl 8 (List.replicate l.length [.x (.int .i64 0), .x (.int .i64 0), .x (.int .i64 0), .sl 7 [], .sl 3 [], .sl 8 [], .sl 4 [], .x (.int .i64 0)])] [.sl S.length 0 l.length l.length] := fr_make (repL_x (repL_x (repL_x (repL_sl0 (repL_sl0 (repL_sl0 (repL_sl0 (repL_x (repL_0))))))))) (by rw [maxLen_eq]; omega)
  refine evA_intro tok Tryz.func40 (by kernel_rfl) rfl ?_
  repeat' ((conv => whnf) <;> first
   | refine rE fun hml => ?_ | refine needP_intro (by dsimp only [T51, T57]; first | omega | (constructor <;> omega) | fail) ?_)
  refine loop_intro {p : Nat × Store // p.1 ≤ l.length ∧ Ext S p.2 ∧ Fr S.length p.2 [.sl 8 ((l.take p.1).map GPackage.d ++ List.replicate (l.length - p.1) [.x (.int .i64 0), .x (.int .i64 0), .x (.int .i64 0), .sl 7 [], .sl 3 [], .sl 8 [], .sl 4 [], .x (.int .i64 0)])] [.sl S.length 0 l.length l.length]} [4, 8, 9, 10, 11, 12, 13, 14, 15, 16, 17, 18, 19, 20, 21] (fun zb => [(4, .v (.s (.int .i64 zb.1.1)))]) (fun zb => zb.1.2) (fun zb => l.length - zb.1.1) ⟨(0, _), Nat.zero_le _, Ext.push _ _, hF0⟩ ?_ rfl ?_
  · (conv => whnf); repeat' (first | exact trivial | exact rfl | apply And.intro)
  rintro ⟨⟨i, Si⟩, hi, hE, hF⟩; dsimp only
  replace hi : i ≤ l.length := hi
  replace hE : Ext S Si := hE
  replace hF : Fr S.length Si [.sl 8 ((l.take i).map GPackage.d ++ List.replicate (l.length - i) [.x (.int .i64 0), .x (.int .i64 0), .x (.int .i64 0), .sl 7 [], .sl 3 [], .sl 8 [], .sl 4 [], .x (.int .i64 0)])] [.sl S.length 0 l.length l.length] := hF
  repeat' ((conv => whnf) <;> first
   | rw [wrapI_i64 (by omega)] | refine cD (fun _ => ?_) fun _ => ?_ | (refine callP_intro (ev_toPackage _ _ _ rdcA (by (first | omega | exact sz_at hz om | (simp only [szL]; omega)))) ?_; rintro _ Sn ⟨hEn, _, _, _, _, rfl, hFn⟩) | refine rE fun hml => ?_ | refine rI rdA rf ix ?_ | (refine rd_loadm (f := GPackage.d) rdA ix ?_; intro _ hcs; obtain ⟨_, _, _, _, rfl, _, _, _, _⟩ := GPackage.inv hcs) | refine to_idx (by first | assumption | exact Fr.ext aN aN) om rf (by rfl) ?_ | (refine to_store aN om aN (by first | assumption | exact Ext.refl _) (by first | assumption | exact fr_flat (by exact trivial)) (by rfl) (by rfl) ?_; intro Sm hEm hFm) | refine And.intro ?_ ?_)
  all_goals first
    | (refine ⟨⟨(i + 1, _), by dsimp only; omega, by assumption, by assumption⟩, ?_, rfl, by dsimp only; omega⟩; (conv => whnf); repeat' (first | exact trivial | exact rfl | apply And.intro))
    | exact hE
    | exact ⟨_, rfl, fr_full hF (by omega)⟩
theorem ev_toBrowser (x : GBrowser) (cs : List C) (S : Store) (h : Rd S x.d cs) (hz : szL x.d ≤ 1048576) : EvA Tryz.prog 10 [.agg cs] S (fun r S' => Ext S S' ∧ ∃ c1 c2 c3 c4 c5 c6, r = .v (.agg [(.int .i64 x.Key), c1, c2, c3, c4, c5, c6, (.int .i64 x.Now)]) ∧ Fr S.length S' x.d [(.int .i64 x.Key), c1, c2, c3, c4, c5, c6, (.int .i64 x.Now)]) := by
  simp only [GBrowser.d, szL] at hz
  obtain ⟨_, _, _, _, _, _, rfl, _, _, _, _, _, _⟩ := GBrowser.inv h
  refine evA_intro tok Tryz.func10 (by kernel_rfl) rfl ?_
  skip
  refine callP_intro (ev_toTabS _ _ _ rdA (by (first | omega | (simp only [szL]; omega)))) ?_; rintro _ S0 ⟨e0, d0_0, rfl, f0⟩
  have E0 : Ext S S0 := e0
  skip
  refine callP_intro (ev_toPackageS _ _ _ rdA (by (first | omega | (simp only [szL]; omega)))) ?_; rintro _ S1 ⟨e1, d1_0, rfl, f1⟩
  have E1 : Ext S S1 := E0.trans e1
  skip
  refine callP_intro (ev_toGrantS _ _ _ rdA (by (first | omega | (simp only [szL]; omega)))) ?_; rintro _ S2 ⟨e2, d2_0, rfl, f2⟩
  have E2 : Ext S S2 := E1.trans e2
  skip
  refine callP_intro (ev_toLimitS _ _ _ rdA (by (first | omega | (simp only [szL]; omega)))) ?_; rintro _ S3 ⟨e3, d3_0, rfl, f3⟩
  have E3 : Ext S S3 := E2.trans e3
  skip
  refine callP_intro (ev_toRuleS _ _ _ rdA (by (first | omega | (simp only [szL]; omega)))) ?_; rintro _ S4 ⟨e4, d4_0, rfl, f4⟩
  have E4 : Ext S S4 := E3.trans e4
  skip
  refine callP_intro (ev_toStoredS _ _ _ rdA (by (first | omega | (simp only [szL]; omega)))) ?_; rintro _ S5 ⟨e5, d5_0, rfl, f5⟩
  have E5 : Ext S S5 := E4.trans e5
  repeat' ((conv => whnf) <;> first
   | refine And.intro ?_ ?_)
  · exact E5
  · exact ⟨_, _, _, _, _, _, rfl, fr_x (fr_sl (fr_seg f0 (Ext.trans e1 (Ext.trans e2 (Ext.trans e3 (Ext.trans e4 (e5)))))) (fr_sl (fr_seg f1 (Ext.trans e2 (Ext.trans e3 (Ext.trans e4 (e5))))) (fr_sl (fr_seg f2 (Ext.trans e3 (Ext.trans e4 (e5)))) (fr_sl (fr_seg f3 (Ext.trans e4 (e5))) (fr_sl (fr_seg f4 (e5)) (fr_sl (fr_seg f5 (Ext.refl _)) (fr_x (fr_nil)) (e5).len) (e4).len) (e3).len) (e2).len) (e1).len) (e0).len)⟩
end Go.Proofs.YtibglkkmjigooaaGreat
