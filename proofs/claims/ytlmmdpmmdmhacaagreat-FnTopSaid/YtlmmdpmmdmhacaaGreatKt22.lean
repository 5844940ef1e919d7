/- Copies of packages and browsers. Tabs. Tabs that are opened; copies of browsers. -/
import Derived.Test.YtlmmdpmmdmhacaaGreatKt19
import Derived.Test.YtlmmdpmmdmhacaaGreatKt20
import Derived.Test.YtlmmdpmmdmhacaaGreatKt17
namespace Go.Proofs.YtlmmdpmmdmhacaaGreat
open Go Go.ChangeShapes Go.WideShapes Go.ChangeAt Go.RowKit
set_option linter.unusedVariables false
set_option linter.unusedSimpArgs false
set_option maxRecDepth 100000
theorem zeo (x : GPackage) (cs : List C) (S : Store) (h : Rd S x.d cs) (hz : szL x.d ≤ 4194304) : EvA Tryz.prog 94 [.agg cs] S (fun r S' => Ext S S' ∧ ∃ c3 c4 c5 c6, r = .v (.agg [(.int .i64 x.Ext), (.int .i64 x.Author), (.int .i64 x.Version), c3, c4, c5, c6, (.int .i64 x.Seal)]) ∧ Fr S.length S' x.d [(.int .i64 x.Ext), (.int .i64 x.Author), (.int .i64 x.Version), c3, c4, c5, c6, (.int .i64 x.Seal)]) := by
 simp only [GPackage.d, szL, List.length_map] at hz
 obtain ⟨_, _, _, _, rfl, _, _, _, _⟩ := GPackage.inv h
 refine zac tok Tryz.func94 (by kernel_rfl) rfl ?_
 repeat' ((conv => whnf) <;> first
  | refine zae 3 [.fl 0, .fl 1, .fl 3, .fl 4, .fl 6, .fl 7, .fl 9, .fl 10, .st 2 [3, 4, 6, 7, 9, 10], .fl 12, .st 5 [6, 7, 9, 10, 12], .st 8 [9, 10, 12], .st 11 [12], .st 13 [], .fl 14, .st 15 [], .fl 16, .st 17 [], .fl 18, .st 19 []] (by rfl) (by kernel_rfl) ?_)
 (conv => whnf)
 refine zab (zcu _ _ _ rdA (by omega)) ?_; rintro _ S0 ⟨e0, d0, rfl, f0⟩
 have E0 : Ext S S0 := e0
 repeat' ((conv => whnf) <;> first
  | refine And.intro ?_ ?_)
 (conv => whnf)
 refine zab (zr6 _ _ _ rdA (by omega)) ?_; rintro _ S1 ⟨e1, d1, rfl, f1⟩
 have E1 : Ext S S1 := E0.trans e1
 repeat' ((conv => whnf) <;> first
  | refine And.intro ?_ ?_)
 (conv => whnf)
 refine zab (zh5 _ _ _ rdA (by omega)) ?_; rintro _ S2 ⟨e2, d2, rfl, f2⟩
 have E2 : Ext S S2 := E1.trans e2
 repeat' ((conv => whnf) <;> first
  | refine And.intro ?_ ?_)
 (conv => whnf)
 refine zab (zye _ _ _ rdA (by omega)) ?_; rintro _ S3 ⟨e3, d3, rfl, f3⟩
 have E3 : Ext S S3 := E2.trans e3
 repeat' ((conv => whnf) <;> first
  | refine And.intro ?_ ?_)
 ·exact E3
 ·exact ⟨_, _, _, _, rfl, fr_x (fr_x (fr_x (zil (zfi f0 (Ext.trans e1 (Ext.trans e2 (e3)))) (zil (zfi f1 (Ext.trans e2 (e3))) (zil (zfi f2 (e3)) (zil (zfi f3 (Ext.refl _)) (fr_x (zc2)) (e3).len) (e2).len) (e1).len) (e0).len)))⟩
theorem zpu (x : GPackage) (cs : List C) (S : Store) (h : Rd S x.d cs) (hz : szL x.d ≤ 4194304) : EvA Tryz.prog 186 [.agg cs] S (fun r S' => Ext S S' ∧ ∃ c3 c4 c5 c6, r = .v (.agg [(.int .i64 x.Ext), (.int .i64 x.Author), (.int .i64 x.Version), c3, c4, c5, c6, (.int .i64 x.Seal)]) ∧ Fr S.length S' x.d [(.int .i64 x.Ext), (.int .i64 x.Author), (.int .i64 x.Version), c3, c4, c5, c6, (.int .i64 x.Seal)]) := by
 simp only [GPackage.d, szL, List.length_map] at hz
 obtain ⟨_, _, _, _, rfl, _, _, _, _⟩ := GPackage.inv h
 refine zac tok Tryz.func186 (by kernel_rfl) rfl ?_
 repeat' ((conv => whnf) <;> first
  | (refine zaq (f := GGrant.d) (l := x.Grants) rdA tv (fun _ => ?_)))
 (conv => whnf)
 refine za8 (f := GGrant.d) (by intro _; exact trivial) (by intro _; rfl) (by dsimp only [T108, T120, T199, T225]; omega) (by omega) ?_; intro d0 S0 e0 f0
 have E0 : Ext S S0 := e0
 repeat' ((conv => whnf) <;> first
  | (refine zaq (f := GFlow.d) (l := x.Flows) rdA tv (fun _ => ?_)))
 (conv => whnf)
 refine za8 (f := GFlow.d) (by intro _; exact trivial) (by intro _; rfl) (by dsimp only [T108, T120, T199, T225]; omega) (by omega) ?_; intro d1 S1 e1 f1
 have E1 : Ext S S1 := E0.trans e1
 repeat' ((conv => whnf) <;> first
  | (refine zaq (f := GRule.d) (l := x.Rules) rdA tv (fun _ => ?_)))
 (conv => whnf)
 refine za8 (f := GRule.d) (by intro _; exact trivial) (by intro _; rfl) (by dsimp only [T108, T120, T199, T225]; omega) (by omega) ?_; intro d2 S2 e2 f2
 have E2 : Ext S S2 := E1.trans e2
 repeat' ((conv => whnf) <;> first
  | (refine zaq (f := GOp.d) (l := x.Ops) rdA tv (fun _ => ?_)))
 (conv => whnf)
 refine za8 (f := GOp.d) (by intro _; exact trivial) (by intro _; rfl) (by dsimp only [T108, T120, T199, T225]; omega) (by omega) ?_; intro d3 S3 e3 f3
 have E3 : Ext S S3 := E2.trans e3
 repeat' ((conv => whnf) <;> first
  | refine And.intro ?_ ?_)
 ·exact E3
 ·exact ⟨_, _, _, _, rfl, fr_x (fr_x (fr_x (zil (zfi f0 (Ext.trans e1 (Ext.trans e2 (e3)))) (zil (zfi f1 (Ext.trans e2 (e3))) (zil (zfi f2 (e3)) (zil (zfi f3 (Ext.refl _)) (fr_x (zc2)) (e3).len) (e2).len) (e1).len) (e0).len)))⟩
set_option maxHeartbeats 4000000 in
theorem zao (b : GBrowser) (cs : List C) (S : Store) (h : Rd S b.d cs) (hz : szL b.d ≤ 4194304) : EvA Tryz.prog 92 [.agg cs] S (fun r S' => Ext S S' ∧ ∃ c1 c2 c3 c4 c5 c6, r = .v (.agg [.int .i64 b.Key, c1, c2, c3, c4, c5, c6, .int .i64 b.Now]) ∧ Fr S.length S' b.d [.int .i64 b.Key, c1, c2, c3, c4, c5, c6, .int .i64 b.Now]) := by
 have hzs := hz
 simp only [GBrowser.d, szL, List.length_map] at hzs
 obtain ⟨_, _, _, _, _, _, rfl, _, _, _, _, _, _⟩ := GBrowser.inv h
 have hzt : ∀ (i : Nat) (hi : i < b.Tabs.length), szL (b.Tabs[i]).d ≤ 4194304 := fun i hi => by
  have h1 := zdf (f := GTab.d) (List.getElem_mem hi)
  omega
 have hzp : ∀ (i : Nat) (hi : i < b.Packs.length), szL (b.Packs[i]).d ≤ 4194304 := fun i hi => by
  have h1 := zdf (f := GPackage.d) (List.getElem_mem hi)
  omega
 have E0 : Ext S (S ++ [(⟨true, 6, []⟩ : Row)] ++ [(⟨true, 8, []⟩ : Row)]) := (Ext.push _ _).trans (Ext.push _ _)
 refine zac tok Tryz.func92 (by kernel_rfl) rfl ?_
 repeat' ((conv => whnf) <;> first
  | refine rE fun hml => ?_)
 have f0 : Fr S.length (S ++ [(⟨true, 6, []⟩ : Row)] ++ [(⟨true, 8, []⟩ : Row)]) [.sl 6 ((b.Tabs.take 0).map GTab.d), .sl 8 []] [.sl S.length 0 0 0, .sl (S ++ [(⟨true, 6, []⟩ : Row)]).length 0 0 0] := Fr.join (ds := [.sl 6 []]) (cs := [.sl S.length 0 0 0]) (zba (S := S) (k := 6)) (Ext.push _ _) (zba (S := S ++ [(⟨true, 6, []⟩ : Row)]) (k := 8)) (Ext.push S _).len
 (conv => whnf)
 refine zag {p : Nat × Store × C // p.1 ≤ b.Tabs.length ∧ Ext S p.2.1 ∧ Fr S.length p.2.1 [.sl 6 ((b.Tabs.take p.1).map GTab.d), .sl 8 []] [p.2.2, .sl (S ++ [(⟨true, 6, []⟩ : Row)]).length 0 0 0]} [3, 6, 14, 15, 16, 17, 18, 19, 20, 21, 22, 23] (fun zb => [(14, .v (.s (.int .i64 zb.1.1))), (3, .v (.s zb.1.2.2))]) (fun zb => zb.1.2.1) (fun zb => b.Tabs.length - zb.1.1) ⟨(0, _, _), Nat.zero_le _, E0, f0⟩ okL rfl ?_
 rintro ⟨⟨i, S1, ct⟩, hi, hE1, hF1⟩; dsimp only
 replace hi : i ≤ b.Tabs.length := hi
 replace hE1 : Ext S S1 := hE1
 replace hF1 : Fr S.length S1 [.sl 6 ((b.Tabs.take i).map GTab.d), .sl 8 []] [ct, .sl (S ++ [(⟨true, 6, []⟩ : Row)]).length 0 0 0] := hF1
 by_cases hlt : i < b.Tabs.length
 ·have hzi := hzt i hlt
  have hzk : szL (b.Tabs[((i : Nat) : Int).toNat]'hlt).d ≤ 4194304 := hzi
  repeat' ((conv => whnf) <;> first
   | rw [zad (by omega)] | refine cD (fun _ => ?_) fun _ => ?_ | (refine zab (znt _ _ _ rdcA (by (first | omega | exact sz_at hz om | (simp only [szL]; omega)))) ?_; rintro _ Sn ⟨hEn, _, _, _, rfl, hFn⟩) | refine rE fun hml => ?_ | refine rI rdA rf ix ?_ | (refine zaz (f := GTab.d) rdA ix ?_; intro _ hcs; obtain ⟨_, _, _, rfl, _, _, _⟩ := GTab.inv hcs) | (refine zjw (o := 0) (S0 := S) (S1 := S1) (dy := (b.Tabs[i]).d) (hE1.trans hEn) hF1 hEn hE1.len rfl rfl hFn (by rfl) (by rw [List.length_map, List.length_take]; dsimp only [T48, T58]; omega) (by rw [List.length_map, List.length_take]; omega) ?_; intro cN SN hEN hFN hlN))
  all_goals first
   | (exfalso; omega)
   | (refine ⟨⟨(i + 1, _, _), by dsimp only; omega, by assumption, by rw [List.take_succ_eq_append_getElem hlt, List.map_append]; exact hFN⟩, ?_, rfl, by dsimp only; omega⟩; (conv => whnf); repeat' (first | exact trivial | exact rfl | (show _ = _; congr 3; dsimp only; omega) | apply And.intro))
 rw [List.take_of_length_le (by omega)] at hF1
 clear f0
 repeat' ((conv => whnf) <;> first
  | refine cD (fun _ => ?_) fun _ => ?_ | refine rE fun hml => ?_ | refine rI rdA rf ix ?_ | (refine zaz (f := GTab.d) rdA ix ?_; intro _ hcs; obtain ⟨_, _, _, rfl, _, _, _⟩ := GTab.inv hcs))
 all_goals try (exfalso; omega)
 (conv => whnf)
 refine zag {p : Nat × Store × C // p.1 ≤ b.Packs.length ∧ Ext S p.2.1 ∧ Fr S.length p.2.1 [.sl 6 (b.Tabs.map GTab.d), .sl 8 ((b.Packs.take p.1).map GPackage.d)] [ct, p.2.2]} [4, 8, 27, 28, 29, 30, 31, 32, 33, 34, 35, 36] (fun zb => [(27, .v (.s (.int .i64 zb.1.1))), (4, .v (.s zb.1.2.2))]) (fun zb => zb.1.2.1) (fun zb => b.Packs.length - zb.1.1) ⟨(0, _, _), Nat.zero_le _, hE1, hF1⟩ okL rfl ?_
 rintro ⟨⟨i, Si, ci⟩, hi, hE, hF⟩; dsimp only
 replace hi : i ≤ b.Packs.length := hi
 replace hE : Ext S Si := hE
 replace hF : Fr S.length Si [.sl 6 (b.Tabs.map GTab.d), .sl 8 ((b.Packs.take i).map GPackage.d)] [ct, ci] := hF
 by_cases hlt : i < b.Packs.length
 ·have hzi := hzp i hlt
  have hzk : szL (b.Packs[((i : Nat) : Int).toNat]'hlt).d ≤ 4194304 := hzi
  repeat' ((conv => whnf) <;> first
   | rw [zad (by omega)] | refine cD (fun _ => ?_) fun _ => ?_ | (refine zab (zeo _ _ _ rdcA (by (first | omega | exact sz_at hz om | (simp only [szL]; omega)))) ?_; rintro _ Sn ⟨hEn, _, _, _, _, rfl, hFn⟩) | (refine zab (zcu _ _ _ rdA om) ?_; rintro _ Sn ⟨hEn, cn, rfl, hFn⟩) | (refine zab (zj0 _ _ _ rdA om) ?_; rintro _ Sn ⟨hEn, cn, rfl, hFn⟩) | (refine zab (zh5 _ _ _ rdA om) ?_; rintro _ Sn ⟨hEn, cn, rfl, hFn⟩) | (refine zab (zdb _ _ _ rdA om) ?_; rintro _ Sn ⟨hEn, cn, rfl, hFn⟩) | refine rI rdA rf ix ?_ | (refine zaz (f := GPackage.d) rdA ix ?_; intro _ hcs; obtain ⟨_, _, _, _, rfl, _, _, _, _⟩ := GPackage.inv hcs) | refine zae 41 [.fl 0, .fl 1, .fl 3, .fl 4, .fl 6, .fl 7, .fl 9, .fl 10, .st 2 [3, 4, 6, 7, 9, 10], .fl 12, .st 5 [6, 7, 9, 10, 12], .st 8 [9, 10, 12], .st 11 [12], .st 13 [], .fl 14, .st 15 [], .fl 16, .st 17 [], .fl 18, .st 19 []] (by rfl) (by kernel_rfl) ?_ | (refine zjw (o := 1) (S0 := S) (S1 := Si) (dy := (b.Packs[i]).d) (hE.trans hEn) hF hEn hE.len rfl rfl hFn (by rfl) (by rw [List.length_map, List.length_take]; dsimp only [T48, T58]; omega) (by rw [List.length_map, List.length_take]; omega) ?_; intro cN SN hEN hFN hlN) | refine And.intro ?_ ?_)
  all_goals first
   | (exfalso; omega)
   | (refine ⟨⟨(i + 1, _, _), by dsimp only; omega, by assumption, by rw [List.take_succ_eq_append_getElem hlt, List.map_append]; exact hFN⟩, ?_, rfl, by dsimp only; omega⟩; (conv => whnf); repeat' (first | exact trivial | exact rfl | (show _ = _; congr 3; dsimp only; omega) | apply And.intro))
 rw [List.take_of_length_le (by omega)] at hF
 repeat' ((conv => whnf) <;> first
  | refine cD (fun _ => ?_) fun _ => ?_ | refine rI rdA rf ix ?_ | (refine zaz (f := GPackage.d) rdA ix ?_; intro _ hcs; obtain ⟨_, _, _, _, rfl, _, _, _, _⟩ := GPackage.inv hcs) | refine zae 41 [.fl 0, .fl 1, .fl 3, .fl 4, .fl 6, .fl 7, .fl 9, .fl 10, .st 2 [3, 4, 6, 7, 9, 10], .fl 12, .st 5 [6, 7, 9, 10, 12], .st 8 [9, 10, 12], .st 11 [12], .st 13 [], .fl 14, .st 15 [], .fl 16, .st 17 [], .fl 18, .st 19 []] (by rfl) (by kernel_rfl) ?_)
 all_goals try (exfalso; omega)
 (conv => whnf)
 refine zab (zcu b.Grants _ _ rdA (by omega)) ?_; rintro _ S2 ⟨e0, d0, rfl, f0⟩
 have E1 : Ext S S2 := hE.trans e0
 repeat' ((conv => whnf) <;> first
  | refine And.intro ?_ ?_)
 all_goals try (exfalso; omega)
 (conv => whnf)
 refine zab (zj0 b.Limits _ _ rdA (by omega)) ?_; rintro _ S3 ⟨e1, d1, rfl, f1⟩
 have E2 : Ext S S3 := E1.trans e1
 repeat' ((conv => whnf) <;> first
  | refine And.intro ?_ ?_)
 all_goals try (exfalso; omega)
 (conv => whnf)
 refine zab (zh5 b.Rules _ _ rdA (by omega)) ?_; rintro _ S4 ⟨e2, d2, rfl, f2⟩
 have E3 : Ext S S4 := E2.trans e2
 repeat' ((conv => whnf) <;> first
  | refine And.intro ?_ ?_)
 all_goals try (exfalso; omega)
 (conv => whnf)
 refine zab (zdb b.Store _ _ rdA (by omega)) ?_; rintro _ S5 ⟨e3, d3, rfl, f3⟩
 have E4 : Ext S S5 := E3.trans e3
 have g0 := (((hF.join e0 f0 hE.len).join e1 f1 (hE.trans e0).len).join e2 f2 ((hE.trans e0).trans e1).len).join e3 f3 (((hE.trans e0).trans e1).trans e2).len
 have g1 := (g0.join (Ext.refl _) (ziu (c := .int .i64 b.Now)) ((((hE.trans e0).trans e1).trans e2).trans e3).len)
 have g2 : Fr S.length _ b.d _ := fr_x (c := .int .i64 b.Key) g1
 repeat' ((conv => whnf) <;> first
  | refine And.intro ?_ ?_)
 ·exact (((hE.trans e0).trans e1).trans e2).trans e3
 ·exact ⟨_, _, _, _, _, _, rfl, g2⟩
set_option maxHeartbeats 4000000 in
theorem zyt (b : GBrowser) (cs : List C) (S : Store) (h : Rd S b.d cs) (hz : szL b.d ≤ 4194304) : EvA Tryz.prog 187 [.agg cs] S (fun r S' => Ext S S' ∧ ∃ c1 c2 c3 c4 c5 c6, r = .v (.agg [.int .i64 b.Key, c1, c2, c3, c4, c5, c6, .int .i64 b.Now]) ∧ Fr S.length S' b.d [.int .i64 b.Key, c1, c2, c3, c4, c5, c6, .int .i64 b.Now]) := by
 have hzs := hz
 simp only [GBrowser.d, szL, List.length_map] at hzs
 obtain ⟨_, _, _, _, _, _, rfl, _, _, _, _, _, _⟩ := GBrowser.inv h
 have hzt : ∀ (i : Nat) (hi : i < b.Tabs.length), szL (b.Tabs[i]).d ≤ 4194304 := fun i hi => by
  have h1 := zdf (f := GTab.d) (List.getElem_mem hi)
  omega
 have hzp : ∀ (i : Nat) (hi : i < b.Packs.length), szL (b.Packs[i]).d ≤ 4194304 := fun i hi => by
  have h1 := zdf (f := GPackage.d) (List.getElem_mem hi)
  omega
 refine zac tok Tryz.func187 (by kernel_rfl) rfl ?_
 skip
 (conv => whnf)
 refine zag {p : Nat × Store × C // p.1 ≤ b.Tabs.length ∧ Ext S p.2.1 ∧ Fr S.length p.2.1 [.sl 6 ((b.Tabs.take p.1).map GTab.d)] [p.2.2]} [3, 4, 11, 12, 13, 14, 15, 16, 17, 18, 19, 20, 21, 22, 23, 24, 25, 26, 27, 28] (fun zb => [(4, .v (.s (.int .i64 zb.1.1))), (3, .box [.int .i64 b.Key, zb.1.2.2, .nil, .nil, .nil, .nil, .nil, .int .i64 b.Now])]) (fun zb => zb.1.2.1) (fun zb => b.Tabs.length - zb.1.1) ⟨(0, _, _), Nat.zero_le _, Ext.refl _, za6 (.inl rfl)⟩ okL rfl ?_
 rintro ⟨⟨i, S1, ct⟩, hi, hE1, hF1⟩; dsimp only
 replace hi : i ≤ b.Tabs.length := hi
 replace hE1 : Ext S S1 := hE1
 replace hF1 : Fr S.length S1 [.sl 6 ((b.Tabs.take i).map GTab.d)] [ct] := hF1
 by_cases hlt : i < b.Tabs.length
 ·have hzi := hzt i hlt
  have hzk : szL (b.Tabs[((i : Nat) : Int).toNat]'hlt).d ≤ 4194304 := hzi
  repeat' ((conv => whnf) <;> first
   | rw [zad (by omega)] | refine cD (fun _ => ?_) fun _ => ?_ | (refine zab (zlk _ _ _ rdcA (by (first | omega | exact sz_at hz om | (simp only [szL]; omega)))) ?_; rintro _ Sn ⟨hEn, _, _, _, rfl, hFn⟩) | refine rE fun hml => ?_ | refine rI rdA rf ix ?_ | (refine zaz (f := GTab.d) rdA ix ?_; intro _ hcs; obtain ⟨_, _, _, rfl, _, _, _⟩ := GTab.inv hcs) | refine zae 18 [.fl 0, .fl 1, .fl 2, .fl 3, .fl 4, .fl 5, .fl 6, .st 7 [0, 1], .fl 8, .st 9 [], .fl 10, .st 11 []] (by rfl) (by kernel_rfl) ?_ | refine zae 36 [.fl 0, .fl 1, .fl 2, .fl 3, .fl 4, .fl 5, .fl 6, .st 7 [0, 1], .fl 8, .st 9 [], .fl 10, .st 11 []] (by rfl) (by kernel_rfl) ?_ | (refine zjw (o := 0) (S0 := S) (S1 := S1) (dy := (b.Tabs[i]).d) (hE1.trans hEn) hF1 hEn hE1.len rfl rfl hFn (by rfl) (by rw [List.length_map, List.length_take]; dsimp only [T108, T120, T124, T48, T58, T68]; omega) (by rw [List.length_map, List.length_take]; omega) ?_; intro cN SN hEN hFN hlN) | refine And.intro ?_ ?_)
  all_goals first
   | (exfalso; omega)
   | (refine ⟨⟨(i + 1, _, _), by dsimp only; omega, by assumption, by rw [List.take_succ_eq_append_getElem hlt, List.map_append]; exact hFN⟩, ?_, rfl, by dsimp only; omega⟩; (conv => whnf); repeat' (first | exact trivial | exact rfl | (show _ = _; congr 3; dsimp only; omega) | apply And.intro))
 rw [List.take_of_length_le (by omega)] at hF1
 repeat' ((conv => whnf) <;> first
  | refine cD (fun _ => ?_) fun _ => ?_ | refine rE fun hml => ?_ | refine rI rdA rf ix ?_ | (refine zaz (f := GTab.d) rdA ix ?_; intro _ hcs; obtain ⟨_, _, _, rfl, _, _, _⟩ := GTab.inv hcs) | refine zae 18 [.fl 0, .fl 1, .fl 2, .fl 3, .fl 4, .fl 5, .fl 6, .st 7 [0, 1], .fl 8, .st 9 [], .fl 10, .st 11 []] (by rfl) (by kernel_rfl) ?_ | refine zae 36 [.fl 0, .fl 1, .fl 2, .fl 3, .fl 4, .fl 5, .fl 6, .st 7 [0, 1], .fl 8, .st 9 [], .fl 10, .st 11 []] (by rfl) (by kernel_rfl) ?_)
 all_goals try (exfalso; omega)
 (conv => whnf)
 refine zag {p : Nat × Store × C // p.1 ≤ b.Packs.length ∧ Ext S p.2.1 ∧ Fr S.length p.2.1 [.sl 6 (b.Tabs.map GTab.d), .sl 8 ((b.Packs.take p.1).map GPackage.d)] [ct, p.2.2]} [3, 5, 29, 30, 31, 32, 33, 34, 35, 36, 37, 38, 39, 40, 41, 42, 43, 44, 45, 46] (fun zb => [(5, .v (.s (.int .i64 zb.1.1))), (3, .box [.int .i64 b.Key, ct, zb.1.2.2, .nil, .nil, .nil, .nil, .int .i64 b.Now])]) (fun zb => zb.1.2.1) (fun zb => b.Packs.length - zb.1.1) ⟨(0, _, _), Nat.zero_le _, hE1, hF1.join (ds' := [.sl 8 []]) (cs' := [.nil]) (Ext.refl _) (za6 (.inl rfl)) hE1.len⟩ okL rfl ?_
 rintro ⟨⟨i, Si, ci⟩, hi, hE, hF⟩; dsimp only
 replace hi : i ≤ b.Packs.length := hi
 replace hE : Ext S Si := hE
 replace hF : Fr S.length Si [.sl 6 (b.Tabs.map GTab.d), .sl 8 ((b.Packs.take i).map GPackage.d)] [ct, ci] := hF
 by_cases hlt : i < b.Packs.length
 ·have hzi := hzp i hlt
  have hzk : szL (b.Packs[((i : Nat) : Int).toNat]'hlt).d ≤ 4194304 := hzi
  repeat' ((conv => whnf) <;> first
   | rw [zad (by omega)] | refine cD (fun _ => ?_) fun _ => ?_ | (refine zab (zpu _ _ _ rdcA (by (first | omega | exact sz_at hz om | (simp only [szL]; omega)))) ?_; rintro _ Sn ⟨hEn, _, _, _, _, rfl, hFn⟩) | refine rE fun hml => ?_ | refine rI rdA rf ix ?_ | (refine zaz (f := GPackage.d) rdA ix ?_; intro _ hcs; obtain ⟨_, _, _, _, rfl, _, _, _, _⟩ := GPackage.inv hcs) | refine zae 18 [.fl 0, .fl 1, .fl 2, .fl 3, .fl 4, .fl 5, .fl 6, .st 7 [0, 1], .fl 8, .st 9 [], .fl 10, .st 11 []] (by rfl) (by kernel_rfl) ?_ | refine zae 36 [.fl 0, .fl 1, .fl 2, .fl 3, .fl 4, .fl 5, .fl 6, .st 7 [0, 1], .fl 8, .st 9 [], .fl 10, .st 11 []] (by rfl) (by kernel_rfl) ?_ | (refine zjw (o := 1) (S0 := S) (S1 := Si) (dy := (b.Packs[i]).d) (hE.trans hEn) hF hEn hE.len rfl rfl hFn (by rfl) (by rw [List.length_map, List.length_take]; dsimp only [T108, T120, T124, T48, T58, T68]; omega) (by rw [List.length_map, List.length_take]; omega) ?_; intro cN SN hEN hFN hlN) | refine And.intro ?_ ?_)
  all_goals first
   | (exfalso; omega)
   | (refine ⟨⟨(i + 1, _, _), by dsimp only; omega, by assumption, by rw [List.take_succ_eq_append_getElem hlt, List.map_append]; exact hFN⟩, ?_, rfl, by dsimp only; omega⟩; (conv => whnf); repeat' (first | exact trivial | exact rfl | (show _ = _; congr 3; dsimp only; omega) | apply And.intro))
 rw [List.take_of_length_le (by omega)] at hF
 repeat' ((conv => whnf) <;> first
  | refine cD (fun _ => ?_) fun _ => ?_ | refine rE fun hml => ?_ | refine rI rdA rf ix ?_ | (refine zaz (f := GPackage.d) rdA ix ?_; intro _ hcs; obtain ⟨_, _, _, _, rfl, _, _, _, _⟩ := GPackage.inv hcs) | refine zae 18 [.fl 0, .fl 1, .fl 2, .fl 3, .fl 4, .fl 5, .fl 6, .st 7 [0, 1], .fl 8, .st 9 [], .fl 10, .st 11 []] (by rfl) (by kernel_rfl) ?_ | refine zae 36 [.fl 0, .fl 1, .fl 2, .fl 3, .fl 4, .fl 5, .fl 6, .st 7 [0, 1], .fl 8, .st 9 [], .fl 10, .st 11 []] (by rfl) (by kernel_rfl) ?_ | (refine zaq (f := GGrant.d) (l := b.Grants) rdA tv (fun _ => ?_)))
 all_goals try (exfalso; omega)
 (conv => whnf)
 refine za8 (f := GGrant.d) (by intro _; exact trivial) (by intro _; rfl) (by dsimp only [T108, T120, T124, T48, T58, T68]; omega) (by omega) ?_; intro d0 S2 e0 f0
 have E1 : Ext S S2 := hE.trans e0
 repeat' ((conv => whnf) <;> first
  | (refine zaq (f := GLimit.d) (l := b.Limits) rdA tv (fun _ => ?_)))
 all_goals try (exfalso; omega)
 (conv => whnf)
 refine za8 (f := GLimit.d) (by intro _; exact trivial) (by intro _; rfl) (by dsimp only [T108, T120, T124, T48, T58, T68]; omega) (by omega) ?_; intro d1 S3 e1 f1
 have E2 : Ext S S3 := E1.trans e1
 repeat' ((conv => whnf) <;> first
  | (refine zaq (f := GRule.d) (l := b.Rules) rdA tv (fun _ => ?_)))
 all_goals try (exfalso; omega)
 (conv => whnf)
 refine za8 (f := GRule.d) (by intro _; exact trivial) (by intro _; rfl) (by dsimp only [T108, T120, T124, T48, T58, T68]; omega) (by omega) ?_; intro d2 S4 e2 f2
 have E3 : Ext S S4 := E2.trans e2
 repeat' ((conv => whnf) <;> first
  | (refine zaq (f := GStored.d) (l := b.Store) rdA tv (fun _ => ?_)))
 all_goals try (exfalso; omega)
 (conv => whnf)
 refine za8 (f := GStored.d) (by intro _; exact trivial) (by intro _; rfl) (by dsimp only [T108, T120, T124, T48, T58, T68]; omega) (by omega) ?_; intro d3 S5 e3 f3
 have E4 : Ext S S5 := E3.trans e3
 have g0 := (((hF.join e0 f0 hE.len).join e1 f1 (hE.trans e0).len).join e2 f2 ((hE.trans e0).trans e1).len).join e3 f3 (((hE.trans e0).trans e1).trans e2).len
 have g1 := (g0.join (Ext.refl _) (ziu (c := .int .i64 b.Now)) ((((hE.trans e0).trans e1).trans e2).trans e3).len)
 have g2 : Fr S.length _ b.d _ := fr_x (c := .int .i64 b.Key) g1
 repeat' ((conv => whnf) <;> first
  | refine And.intro ?_ ?_)
 ·exact (((hE.trans e0).trans e1).trans e2).trans e3
 ·exact ⟨_, _, _, _, _, _, rfl, g2⟩
def zl5 (l : List Int) (n : Int) (i : Nat) : Bool := inR n 0 9 && (if i = 0 then true else decide (l.getD (i - 1) 0 < n))
theorem zfr (l : List Int) (n : Int) : zl5 l n 0 = inR n 0 9 := by simp [zl5]
theorem zg1 {l : List Int} {n : Int} {i : Nat} (h0 : 0 < i) (hl : i ≤ l.length) : zl5 l n i = (inR n 0 9 && decide (l[i - 1]'(by omega) < n)) := by
 unfold zl5
 rw [if_neg (by omega), List.getD_eq_getElem?_getD, List.getElem?_eq_getElem (by omega)]; rfl
def zgp (l : List Int) : List Int → Nat → Bool
 | [], _ => true
 | n :: r, i => if zl5 l n i then zgp l r (i + 1) else false
def zcr (t : GTab) : Bool := ze7 t.Site && zck t.Base && decide (t.Edits.length ≤ 40) && inR t.Click (-1) 10000 && t.Edits.all zc4 && zgp t.Hidden t.Hidden 0
theorem and6 {a b c d e f : Bool} (h : (a = false ∨ b = false ∨ c = false ∨ d = false ∨ e = false ∨ f = false)) : (a && b && c && d && e && f) = false := by
 cases a <;> cases b <;> cases c <;> cases d <;> cases e <;> cases f <;> simp at h ⊢
theorem zk3 (t : GTab) (cs : List C) (S : Store) (h : Rd S t.d cs) : EvA Tryz.prog 67 [.agg cs] S (fun r S' => r = .v (.s (.bool (zcr t))) ∧ S' = S) := by
 obtain ⟨_, _, _, rfl, _, _, _⟩ := GTab.inv h
 refine zac tok Tryz.func67 (by kernel_rfl) rfl ?_
 repeat' ((conv => whnf) <;> first
  | refine cD (fun _ => ?_) fun _ => ?_ | refine cT ?_ | refine zar (fun _ _ => ?_) (fun _ _ => ?_) | refine cN (fun _ => ?_) fun _ => ?_ | refine zaa (zat _ _ _ _) ?_ | refine zaa (zeg _ _) ?_ | refine zaa (za3 _ _ _ aN) ?_ | refine rE fun hml => ?_ | refine And.intro ?_ ?_)
 all_goals try first
  | rfl
  | (rw [show zcr t = false from and6 (by first | (simp_all; done) | (right; right; left; simp; omega))]; rfl)
 refine zag {i : Nat // i ≤ t.Edits.length ∧ (t.Edits.drop i).all zc4 = t.Edits.all zc4} [2, 4, 32, 33, 34, 35, 36, 37, 38, 39] (fun zb => [(32, .v (.s (.int .i64 zb.1)))]) (fun _ => S) (fun zb => t.Edits.length - zb.1) ⟨0, Nat.zero_le _, by simp⟩ okL rfl ?_
 rintro ⟨i, hi, hinv⟩; dsimp only
 repeat' ((conv => whnf) <;> first
  | rw [zad (by omega)] | refine cD (fun _ => ?_) fun _ => ?_ | refine cN (fun _ => ?_) fun _ => ?_ | refine zaa (zb1 _ _) ?_ | refine rE fun hml => ?_ | refine rI aN rf ix ?_ | refine zaf aN tv ix ?_ | refine And.intro ?_ ?_)
 all_goals try first
  | rfl
  | (rw [zam (by omega), List.all_cons] at hinv
     rw [show zcr t = false from and6 (by simp_all)]; rfl)
  | (rw [zam (by omega), List.all_cons] at hinv
     (refine ⟨⟨i + 1, by omega, by simp_all⟩, ?_, rfl, by simp; omega⟩; (conv => whnf); repeat' (first | exact trivial | exact rfl | apply And.intro)))
 rw [zak (by omega), List.all_nil] at hinv
 refine zag {i : Nat // i ≤ t.Hidden.length ∧ zgp t.Hidden (t.Hidden.drop i) i = zgp t.Hidden t.Hidden 0} [2, 5, 6, 43, 44, 45, 46, 47, 48, 49, 50, 51, 52, 53, 54, 55, 56, 57, 58, 59, 60, 61, 62, 63, 64, 65] (fun zb => [(43, .v (.s (.int .i64 zb.1)))]) (fun _ => S) (fun zb => t.Hidden.length - zb.1) ⟨0, Nat.zero_le _, by simp⟩ okL rfl ?_
 rintro ⟨i, hi, hinv⟩; dsimp only
 repeat' ((conv => whnf) <;> first
  | rw [zad (by omega)] | refine cD (fun _ => ?_) fun _ => ?_ | refine cT ?_ | refine cF ?_ | refine zar (fun _ _ => ?_) (fun _ _ => ?_) | refine zaa (zat _ _ _ _) ?_ | refine rI aN rf ix ?_ | refine zaf aN tv ix ?_ | refine And.intro ?_ ?_)
 all_goals first
  | rfl
  | (rw [zak (by omega), zgp] at hinv
     rw [show zcr t = true from by
      unfold zcr
      simp_all; omega]; rfl)
  | (have e : zl5 t.Hidden (t.Hidden[i]'(by omega)) i = false := by
      clear hinv
      first
       | (have h0 : i = 0 := by omega
          subst h0; rw [zfr]; simp_all; done)
       | (have h0 : 0 < i := by omega
          rw [zg1 h0 (by omega)]
          first | (simp_all [zb2 h0]; done) | (simp_all [zb2 h0]; intros; omega))
       | (simp_all [zl5]; done)
     rw [zam (by omega), zgp, e] at hinv
     rw [show zcr t = false from and6 (by simp_all)]; rfl)
  | (have e : zl5 t.Hidden (t.Hidden[i]'(by omega)) i = true := by
      clear hinv
      first
       | (have h0 : i = 0 := by omega
          subst h0; rw [zfr]; simp_all; done)
       | (have h0 : 0 < i := by omega
          rw [zg1 h0 (by omega)]
          first | (simp_all [zb2 h0]; done) | (simp_all [zb2 h0]; omega))
     (refine ⟨⟨i + 1, by omega, by rw [zam (by omega), zgp, if_pos e] at hinv; exact hinv⟩, ?_, rfl, by simp; omega⟩; (conv => whnf); repeat' (first | exact trivial | exact rfl | apply And.intro)))
theorem zke (t : GTab) (cs : List C) (S : Store) (h : Rd S t.d cs) : EvA Tryz.prog 318 [.agg cs] S (fun r S' => r = .v (.s (.bool (zcr t))) ∧ S' = S) := by
 obtain ⟨_, _, _, rfl, _, _, _⟩ := GTab.inv h
 refine zac tok Tryz.func318 (by kernel_rfl) rfl ?_
 skip
 all_goals try first
  | rfl
  | (rw [show zcr t = false from and6 (by first | (simp_all; done) | (right; right; left; simp; omega))]; rfl)
 refine zag {i : Nat // i ≤ t.Edits.length ∧ (t.Edits.drop i).all zc4 = t.Edits.all zc4} [2, 3, 5, 6, 7, 8, 9, 10, 11, 12, 13, 14, 15, 16, 17, 18] (fun zb => [(3, .v (.s (.int .i64 zb.1)))]) (fun _ => S) (fun zb => t.Edits.length - zb.1) ⟨0, Nat.zero_le _, by simp⟩ okL rfl ?_
 rintro ⟨i, hi, hinv⟩; dsimp only
 repeat' ((conv => whnf) <;> first
  | rw [zad (by omega)] | refine cD (fun _ => ?_) fun _ => ?_ | refine cN (fun _ => ?_) fun _ => ?_ | refine zaa (zy3 _ _) ?_ | refine rE fun hml => ?_ | refine rI aN rf ix ?_ | refine zaf aN tv ix ?_ | refine And.intro ?_ ?_)
 all_goals try first
  | rfl
  | (rw [zam (by omega), List.all_cons] at hinv
     rw [show zcr t = false from and6 (by simp_all)]; rfl)
  | (rw [zam (by omega), List.all_cons] at hinv
     (refine ⟨⟨i + 1, by omega, by simp_all⟩, ?_, rfl, by simp; omega⟩; (conv => whnf); repeat' (first | exact trivial | exact rfl | apply And.intro)))
 rw [zak (by omega), List.all_nil] at hinv
 refine zag {i : Nat // i ≤ t.Hidden.length ∧ zgp t.Hidden (t.Hidden.drop i) i = zgp t.Hidden t.Hidden 0} [2, 4, 19, 20, 21, 22, 23, 24, 25, 26, 27, 28, 29, 30, 31, 32, 33, 34, 35, 36, 37, 38, 39, 40, 41, 42, 43, 44, 45, 46, 47, 48, 49, 50] (fun zb => [(4, .v (.s (.int .i64 zb.1)))]) (fun _ => S) (fun zb => t.Hidden.length - zb.1) ⟨0, Nat.zero_le _, by simp⟩ okL rfl ?_
 rintro ⟨i, hi, hinv⟩; dsimp only
 repeat' ((conv => whnf) <;> first
  | rw [zad (by omega)] | refine cD (fun _ => ?_) fun _ => ?_ | refine cT ?_ | refine cF ?_ | refine zar (fun _ _ => ?_) (fun _ _ => ?_) | refine cI (fun _ => ?_) fun _ => ?_ | refine zaa (zcp _ _ _ _) ?_ | refine zaa (zpx _ _) ?_ | refine zaa (zoq _ _ _ aN) ?_ | refine rE fun hml => ?_ | refine rI aN rf ix ?_ | refine zaf aN tv ix ?_ | refine zae 26 (iN 25 0 [5]) (by rfl) (by kernel_rfl) ?_ | refine And.intro ?_ ?_)
 all_goals first
  | rfl
  | (rw [zak (by omega), zgp] at hinv
     have hE : zcr t = (ze7 t.Site && zck t.Base && decide (t.Edits.length ≤ 40) && inR t.Click (-1) 10000) := by
      unfold zcr; rw [← hinv]; simp_all
     rw [hE]
     first
      | (have h40 : t.Edits.length ≤ 40 := by omega
         clear hE
         simp_all [zay]; done)
      | (clear hE; simp_all [zay]; done))
  | (rw [zak (by omega), zgp] at hinv
     rw [show zcr t = false from and6 (by first | (simp_all; done) | (right; right; left; simp; omega))]; rfl)
  | (have e : zl5 t.Hidden (t.Hidden[i]'(by omega)) i = false := by
      clear hinv
      first
       | (have h0 : i = 0 := by omega
          subst h0; rw [zfr]; simp_all; done)
       | (have h0 : 0 < i := by omega
          rw [zg1 h0 (by omega)]
          first | (simp_all [zb2 h0]; done) | (simp_all [zb2 h0]; intros; omega))
       | (simp_all [zl5]; done)
     rw [zam (by omega), zgp, e] at hinv
     rw [show zcr t = false from and6 (by simp_all)]; rfl)
  | (have e : zl5 t.Hidden (t.Hidden[i]'(by omega)) i = true := by
      clear hinv
      first
       | (have h0 : i = 0 := by omega
          subst h0; rw [zfr]; simp_all; done)
       | (have h0 : 0 < i := by omega
          rw [zg1 h0 (by omega)]
          first | (simp_all [zb2 h0]; done) | (simp_all [zb2 h0]; omega))
     (refine ⟨⟨i + 1, by omega, by rw [zam (by omega), zgp, if_pos e] at hinv; exact hinv⟩, ?_, rfl, by simp; omega⟩; (conv => whnf); repeat' (first | exact trivial | exact rfl | apply And.intro)))
def zet (s : GSite) (base : List GNode) (hidden : List Int) : GTab := ⟨s, base, [], hidden, -1⟩
def zb7 (s : GSite) (base : List GNode) (hidden : List Int) : GTab × Bool := if zcr (zet s base hidden) then (zet s base hidden, true) else (default, false)
theorem zct {S : Store} {lo k : Nat} {ds : List D} {cs : List C} (h : Fr lo S ds cs) : Fr lo S (.sl k [] :: ds) (.nil :: cs) :=
 zil (mid := lo) ⟨[], by unfold Rep; exact ⟨Nat.zero_le _, .inl ⟨rfl, .inl rfl, rfl⟩⟩, List.nodup_nil, fun _ h => by cases h⟩ h (Nat.le_refl _)
theorem zeu {S : Store} {k : Nat} : Rd S [.sl k []] [.nil] := zkz (q := false) (ids := []) (by unfold Rep; exact ⟨Nat.zero_le _, .inl ⟨rfl, .inl rfl, rfl⟩⟩)
theorem z11 {S : Store} {lo : Nat} : Fr lo S (default : GTab).d [.int .i64 0, .int .i64 0, .nil, .nil, .nil, .int .i64 0] := fr_x (fr_x (zct (zct (zct (fr_x zc2)))))
theorem zsh (s : GSite) (base : List GNode) (hidden : List Int) : szL (zet s base hidden).d = base.length + hidden.length := by
 simp only [zet, GTab.d, szL, List.length_map]
 rw [zbk (f := GNode.d) (by intro x; simp only [szL, GNode.d]), zbk (f := dInt) (by intro x; simp only [szL, dInt]), List.map_nil, szL.szLL]
 simp
theorem zu6 (s : GSite) (base : List GNode) (hidden : List Int) (c c' : C) (S : Store) (h : Rd S [.sl 5 (base.map GNode.d)] [c]) (h' : Rd S [.sl 1 (hidden.map dInt)] [c']) (hz : base.length + hidden.length ≤ 4194304) : EvA Tryz.prog 311 [.agg s.c, .s c, .s c'] S (fun r S' => Ext S S' ∧ ∃ c2 c3 c4, r = .tup [.agg [.int .i64 (zb7 s base hidden).1.Site.Owner, .int .i64 (zb7 s base hidden).1.Site.Sub, c2, c3, c4, .int .i64 (zb7 s base hidden).1.Click], .s (.bool (zb7 s base hidden).2)] ∧ Fr S.length S' (zb7 s base hidden).1.d [.int .i64 (zb7 s base hidden).1.Site.Owner, .int .i64 (zb7 s base hidden).1.Site.Sub, c2, c3, c4, .int .i64 (zb7 s base hidden).1.Click]) := by
 have hsz := zsh s base hidden
 by_cases hT : zcr (zet s base hidden) = true
 ·have ho : zb7 s base hidden = (zet s base hidden, true) := if_pos hT
  rw [ho]
  refine zac tok Tryz.func311 (by kernel_rfl) rfl ?_
  skip
  have hnil : Rd S [.sl 6 (([] : List GEdit).map GEdit.d)] [.nil] := zeu
  have hT1 : Rd S (zet s base hidden).d _ := GTab.rd h hnil h'
  (conv => whnf)
  refine zab (zlk (zet s base hidden) _ _ hT1 (by omega)) ?_; rintro _ S0 ⟨e0, d0, d1, d2, rfl, f0⟩
  repeat' ((conv => whnf) <;> first
   | refine cN (fun _ => ?_) fun _ => ?_ | refine zaa (zke _ _ _ rdcA) ?_ | refine And.intro ?_ ?_)
  all_goals first
   | rfl
   | exact e0
   | (exfalso; simp_all; done)
   | exact ⟨_, _, _, rfl, f0⟩
 ·have ho : zb7 s base hidden = (default, false) := if_neg hT
  rw [ho]
  refine zac tok Tryz.func311 (by kernel_rfl) rfl ?_
  skip
  have hnil : Rd S [.sl 6 (([] : List GEdit).map GEdit.d)] [.nil] := zeu
  have hT1 : Rd S (zet s base hidden).d _ := GTab.rd h hnil h'
  (conv => whnf)
  refine zab (zlk (zet s base hidden) _ _ hT1 (by omega)) ?_; rintro _ S0 ⟨e0, d0, d1, d2, rfl, f0⟩
  repeat' ((conv => whnf) <;> first
   | refine cN (fun _ => ?_) fun _ => ?_ | refine zaa (zke _ _ _ rdcA) ?_ | refine And.intro ?_ ?_)
  all_goals first
   | rfl
   | exact e0
   | (exfalso; simp_all; done)
   | exact ⟨_, _, _, rfl, z11⟩
theorem zvt (s : GSite) (base : List GNode) (hidden : List Int) (c c' : C) (S : Store) (h : Rd S [.sl 5 (base.map GNode.d)] [c]) (h' : Rd S [.sl 1 (hidden.map dInt)] [c']) (hz : base.length + hidden.length ≤ 4194304) : EvA Tryz.prog 104 [.agg s.c, .s c, .s c'] S (fun r S' => Ext S S' ∧ ∃ c2 c3 c4, r = .tup [.agg [.int .i64 (zb7 s base hidden).1.Site.Owner, .int .i64 (zb7 s base hidden).1.Site.Sub, c2, c3, c4, .int .i64 (zb7 s base hidden).1.Click], .s (.bool (zb7 s base hidden).2)] ∧ Fr S.length S' (zb7 s base hidden).1.d [.int .i64 (zb7 s base hidden).1.Site.Owner, .int .i64 (zb7 s base hidden).1.Site.Sub, c2, c3, c4, .int .i64 (zb7 s base hidden).1.Click]) := by
 have hsz := zsh s base hidden
 by_cases hT : zcr (zet s base hidden) = true
 ·have ho : zb7 s base hidden = (zet s base hidden, true) := if_pos hT
  rw [ho]
  refine zac tok Tryz.func104 (by kernel_rfl) rfl ?_
  repeat' ((conv => whnf) <;> first
   | refine zae 9 [.fl 0, .fl 1, .fl 3, .fl 6, .st 2 [0, 3, 6], .st 4 [0, 6], .fl 5, .st 7 []] (by rfl) (by kernel_rfl) ?_)
  (conv => whnf)
  refine zab (zbq base _ _ rdA (by omega)) ?_; rintro _ S0 ⟨e0, d0, rfl, f0⟩
  repeat' ((conv => whnf) <;> first
   | refine And.intro ?_ ?_)
  (conv => whnf)
  refine zab (zjk hidden _ _ rdA (by omega)) ?_; rintro _ S1 ⟨e1, d1, rfl, f1⟩
  have hnil : Rd S1 [.sl 6 (([] : List GEdit).map GEdit.d)] [.nil] := zeu
  have hT1 : Rd S1 (zet s base hidden).d _ := GTab.rd (f0.rd.ext e1) hnil f1.rd
  repeat' ((conv => whnf) <;> first
   | refine cN (fun _ => ?_) fun _ => ?_ | refine zaa (zk3 _ _ _ rdcA) ?_ | refine And.intro ?_ ?_)
  all_goals first
   | rfl
   | exact e0.trans e1
   | (exfalso; simp_all; done)
   | exact ⟨_, _, _, rfl, fr_x (fr_x (zil (zfi f0 e1) (zct (zil (zfi f1 (Ext.refl _)) (fr_x zc2) e1.len)) e0.len))⟩
 ·have ho : zb7 s base hidden = (default, false) := if_neg hT
  rw [ho]
  refine zac tok Tryz.func104 (by kernel_rfl) rfl ?_
  repeat' ((conv => whnf) <;> first
   | refine zae 9 [.fl 0, .fl 1, .fl 3, .fl 6, .st 2 [0, 3, 6], .st 4 [0, 6], .fl 5, .st 7 []] (by rfl) (by kernel_rfl) ?_)
  (conv => whnf)
  refine zab (zbq base _ _ rdA (by omega)) ?_; rintro _ S0 ⟨e0, d0, rfl, f0⟩
  repeat' ((conv => whnf) <;> first
   | refine And.intro ?_ ?_)
  (conv => whnf)
  refine zab (zjk hidden _ _ rdA (by omega)) ?_; rintro _ S1 ⟨e1, d1, rfl, f1⟩
  have hnil : Rd S1 [.sl 6 (([] : List GEdit).map GEdit.d)] [.nil] := zeu
  have hT1 : Rd S1 (zet s base hidden).d _ := GTab.rd (f0.rd.ext e1) hnil f1.rd
  repeat' ((conv => whnf) <;> first
   | refine cN (fun _ => ?_) fun _ => ?_ | refine zaa (zk3 _ _ _ rdcA) ?_ | refine And.intro ?_ ?_)
  all_goals first
   | rfl
   | exact e0.trans e1
   | (exfalso; simp_all; done)
   | exact ⟨_, _, _, rfl, z11⟩
theorem zjq {S : Store} {α : Type} {f : α → List D} {k : Nat} (l : List α) (hf : ∀ x, Flat (f x)) (h : l.length ≤ 9223372036854775807) : Fr S.length (S ++ [⟨true, k, l.map fun x => zdz (f x)⟩]) [.sl k (l.map f)] [.sl S.length 0 l.length l.length] :=
 zih (xs := l.map f) (js := []) (zem hf l) List.nodup_nil (fun _ h => by cases h) (Nat.le_refl _) (by rw [zan]; simpa using h) (by simp)
abbrev exB2 : List GNode := [⟨0, -1, 0, 0, 0⟩]
theorem litN {S : Store} (l : List GNode) (h : l.length ≤ 9) : Fr S.length (S ++ [⟨true, 5, l.map fun x => zdz (GNode.d x)⟩]) [.sl 5 (l.map GNode.d)] [.sl S.length 0 l.length l.length] := zjq l (fun _ => trivial) (by omega)
end Go.Proofs.YtlmmdpmmdmhacaaGreat
