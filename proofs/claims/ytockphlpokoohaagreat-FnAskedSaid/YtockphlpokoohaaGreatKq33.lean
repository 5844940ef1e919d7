/- Copies of packages and browsers. -/
import Derived.Test.YtockphlpokoohaaGreatKq29
import Derived.Test.YtockphlpokoohaaGreatKq23
namespace Go.Proofs.YtockphlpokoohaaGreat
open Go Go.ChangeShapes Go.WideShapes Go.ChangeAt Go.RowKit
set_option linter.unusedVariables false
set_option linter.unusedSimpArgs false
set_option maxRecDepth 100000
theorem ev_l26Copy (x : GPackage) (cs : List C) (S : Store) (h : Rd S x.d cs) (hz : szL x.d ≤ 4194304) : EvA Tryz.prog 205 [.agg cs] S (fun r S' => Ext S S' ∧ ∃ c3 c4 c5 c6, r = .v (.agg [(.int .i64 x.Ext), (.int .i64 x.Author), (.int .i64 x.Version), c3, c4, c5, c6, (.int .i64 x.Seal)]) ∧ Fr S.length S' x.d [(.int .i64 x.Ext), (.int .i64 x.Author), (.int .i64 x.Version), c3, c4, c5, c6, (.int .i64 x.Seal)]) := by
  simp only [GPackage.d, szL, List.length_map] at hz
  obtain ⟨_, _, _, _, rfl, _, _, _, _⟩ := GPackage.inv h
  refine evA_intro tok Tryz.func205 (by kernel_rfl) rfl ?_
  repeat' ((conv => whnf) <;> first
   | (refine rd_elemsf (f := GGrant.d) (l := x.Grants) rdA tv (fun _ => ?_)))
  (conv => whnf)
  refine fr_clone (f := GGrant.d) (by intro _; exact trivial) (by intro _; rfl) (by dsimp only [T151, T170, T188, T253]; omega) (by omega) ?_; intro d0 S0 e0 f0
  have E0 : Ext S S0 := e0
  repeat' ((conv => whnf) <;> first
   | (refine rd_elemsf (f := GFlow.d) (l := x.Flows) rdA tv (fun _ => ?_)))
  (conv => whnf)
  refine fr_clone (f := GFlow.d) (by intro _; exact trivial) (by intro _; rfl) (by dsimp only [T151, T170, T188, T253]; omega) (by omega) ?_; intro d1 S1 e1 f1
  have E1 : Ext S S1 := E0.trans e1
  repeat' ((conv => whnf) <;> first
   | (refine rd_elemsf (f := GRule.d) (l := x.Rules) rdA tv (fun _ => ?_)))
  (conv => whnf)
  refine fr_clone (f := GRule.d) (by intro _; exact trivial) (by intro _; rfl) (by dsimp only [T151, T170, T188, T253]; omega) (by omega) ?_; intro d2 S2 e2 f2
  have E2 : Ext S S2 := E1.trans e2
  repeat' ((conv => whnf) <;> first
   | (refine rd_elemsf (f := GOp.d) (l := x.Ops) rdA tv (fun _ => ?_)))
  (conv => whnf)
  refine fr_clone (f := GOp.d) (by intro _; exact trivial) (by intro _; rfl) (by dsimp only [T151, T170, T188, T253]; omega) (by omega) ?_; intro d3 S3 e3 f3
  have E3 : Ext S S3 := E2.trans e3
  repeat' ((conv => whnf) <;> first
   | refine And.intro ?_ ?_)
  · exact E3
  · exact ⟨_, _, _, _, rfl, fr_x (fr_x (fr_x (fr_sl (fr_seg f0 (Ext.trans e1 (Ext.trans e2 (e3)))) (fr_sl (fr_seg f1 (Ext.trans e2 (e3))) (fr_sl (fr_seg f2 (e3)) (fr_sl (fr_seg f3 (Ext.refl _)) (fr_x (fr_nil)) (e3).len) (e2).len) (e1).len) (e0).len)))⟩
set_option maxHeartbeats 4000000 in
theorem ev_l32Copy (b : GBrowser) (cs : List C) (S : Store) (h : Rd S b.d cs) (hz : szL b.d ≤ 4194304) : EvA Tryz.prog 112 [.agg cs] S (fun r S' => Ext S S' ∧ ∃ c1 c2 c3 c4 c5 c6, r = .v (.agg [.int .i64 b.Key, c1, c2, c3, c4, c5, c6, .int .i64 b.Now]) ∧ Fr S.length S' b.d [.int .i64 b.Key, c1, c2, c3, c4, c5, c6, .int .i64 b.Now]) := by
  have hzs := hz
  simp only [GBrowser.d, szL, List.length_map] at hzs
  obtain ⟨_, _, _, _, _, _, rfl, _, _, _, _, _, _⟩ := GBrowser.inv h
  have hzt : ∀ (i : Nat) (hi : i < b.Tabs.length), szL (b.Tabs[i]).d ≤ 4194304 := fun i hi => by
    have h1 := szLL_mem (f := GTab.d) (List.getElem_mem hi)
    omega
  have hzp : ∀ (i : Nat) (hi : i < b.Packs.length), szL (b.Packs[i]).d ≤ 4194304 := fun i hi => by
    have h1 := szLL_mem (f := GPackage.d) (List.getElem_mem hi)
    omega
  refine evA_intro tok Tryz.func112 (by kernel_rfl) rfl ?_
  skip
  (conv => whnf)
  refine loop_intro {p : Nat × Store × C // p.1 ≤ b.Tabs.length ∧ Ext S p.2.1 ∧ Fr S.length p.2.1 [.sl 6 ((b.Tabs.take p.1).map GTab.d)] [p.2.2]} [3, 4, 11, 12, 13, 14, 15, 16, 17, 18, 19, 20, 21, 22, 23, 24, 25, 26, 27, 28] (fun zb => [(4, .v (.s (.int .i64 zb.1.1))), (3, .box [.int .i64 b.Key, zb.1.2.2, .nil, .nil, .nil, .nil, .nil, .int .i64 b.Now])]) (fun zb => zb.1.2.1) (fun zb => b.Tabs.length - zb.1.1) ⟨(0, _, _), Nat.zero_le _, Ext.refl _, fr_empty (.inl rfl)⟩ ?_ rfl ?_
  · (conv => whnf); repeat' (first | exact trivial | exact rfl | apply And.intro)
  rintro ⟨⟨i, S1, ct⟩, hi, hE1, hF1⟩; dsimp only
  replace hi : i ≤ b.Tabs.length := hi
  replace hE1 : Ext S S1 := hE1
  replace hF1 : Fr S.length S1 [.sl 6 ((b.Tabs.take i).map GTab.d)] [ct] := hF1
  by_cases hlt : i < b.Tabs.length
  · have hzi := hzt i hlt
    have hzk : szL (b.Tabs[((i : Nat) : Int).toNat]'hlt).d ≤ 4194304 := hzi
    repeat' ((conv => whnf) <;> first
     | rw [wrapI_i64 (by omega)] | refine cD (fun _ => ?_) fun _ => ?_ | (refine callP_intro (ev_l31Copy _ _ _ rdcA (by (first | omega | exact sz_at hz om | (simp only [szL]; omega)))) ?_; rintro _ Sn ⟨hEn, _, _, _, rfl, hFn⟩) | refine rE fun hml => ?_ | refine rI rdA rf ix ?_ | (refine rd_loadm (f := GTab.d) rdA ix ?_; intro _ hcs; obtain ⟨_, _, _, rfl, _, _, _⟩ := GTab.inv hcs) | refine draw_intro 18 [.fl 0, .fl 1, .fl 2, .fl 3, .fl 4, .fl 5, .fl 6, .st 7 [0, 1], .fl 8, .st 9 [], .fl 10, .st 11 []] (by rfl) (by kernel_rfl) ?_ | refine draw_intro 36 [.fl 0, .fl 1, .fl 2, .fl 3, .fl 4, .fl 5, .fl 6, .st 7 [0, 1], .fl 8, .st 9 [], .fl 10, .st 11 []] (by rfl) (by kernel_rfl) ?_ | (refine fr_appAt1 (o := 0) (S0 := S) (S1 := S1) (dy := (b.Tabs[i]).d) (hE1.trans hEn) hF1 hEn hE1.len rfl rfl hFn (by rfl) (by rw [List.length_map, List.length_take]; dsimp only [T125, T151, T170, T174, T46, T85]; omega) (by rw [List.length_map, List.length_take]; omega) ?_; intro cN SN hEN hFN hlN) | refine And.intro ?_ ?_)
    all_goals first
      | (exfalso; omega)
      | (refine ⟨⟨(i + 1, _, _), by dsimp only; omega, by assumption, by rw [List.take_succ_eq_append_getElem hlt, List.map_append]; exact hFN⟩, ?_, rfl, by dsimp only; omega⟩; (conv => whnf); repeat' (first | exact trivial | exact rfl | (show _ = _; congr 3; dsimp only; omega) | apply And.intro))
  rw [List.take_of_length_le (by omega)] at hF1
  repeat' ((conv => whnf) <;> first
   | refine cD (fun _ => ?_) fun _ => ?_ | refine rE fun hml => ?_ | refine rI rdA rf ix ?_ | (refine rd_loadm (f := GTab.d) rdA ix ?_; intro _ hcs; obtain ⟨_, _, _, rfl, _, _, _⟩ := GTab.inv hcs) | refine draw_intro 18 [.fl 0, .fl 1, .fl 2, .fl 3, .fl 4, .fl 5, .fl 6, .st 7 [0, 1], .fl 8, .st 9 [], .fl 10, .st 11 []] (by rfl) (by kernel_rfl) ?_ | refine draw_intro 36 [.fl 0, .fl 1, .fl 2, .fl 3, .fl 4, .fl 5, .fl 6, .st 7 [0, 1], .fl 8, .st 9 [], .fl 10, .st 11 []] (by rfl) (by kernel_rfl) ?_)
  all_goals try (exfalso; omega)
  (conv => whnf)
  refine loop_intro {p : Nat × Store × C // p.1 ≤ b.Packs.length ∧ Ext S p.2.1 ∧ Fr S.length p.2.1 [.sl 6 (b.Tabs.map GTab.d), .sl 8 ((b.Packs.take p.1).map GPackage.d)] [ct, p.2.2]} [3, 5, 29, 30, 31, 32, 33, 34, 35, 36, 37, 38, 39, 40, 41, 42, 43, 44, 45, 46] (fun zb => [(5, .v (.s (.int .i64 zb.1.1))), (3, .box [.int .i64 b.Key, ct, zb.1.2.2, .nil, .nil, .nil, .nil, .int .i64 b.Now])]) (fun zb => zb.1.2.1) (fun zb => b.Packs.length - zb.1.1) ⟨(0, _, _), Nat.zero_le _, hE1, hF1.join (ds' := [.sl 8 []]) (cs' := [.nil]) (Ext.refl _) (fr_empty (.inl rfl)) hE1.len⟩ ?_ rfl ?_
  · (conv => whnf); repeat' (first | exact trivial | exact rfl | apply And.intro)
  rintro ⟨⟨i, Si, ci⟩, hi, hE, hF⟩; dsimp only
  replace hi : i ≤ b.Packs.length := hi
  replace hE : Ext S Si := hE
  replace hF : Fr S.length Si [.sl 6 (b.Tabs.map GTab.d), .sl 8 ((b.Packs.take i).map GPackage.d)] [ct, ci] := hF
  by_cases hlt : i < b.Packs.length
  · have hzi := hzp i hlt
    have hzk : szL (b.Packs[((i : Nat) : Int).toNat]'hlt).d ≤ 4194304 := hzi
    repeat' ((conv => whnf) <;> first
     | rw [wrapI_i64 (by omega)] | refine cD (fun _ => ?_) fun _ => ?_ | (refine callP_intro (ev_l26Copy _ _ _ rdcA (by (first | omega | exact sz_at hz om | (simp only [szL]; omega)))) ?_; rintro _ Sn ⟨hEn, _, _, _, _, rfl, hFn⟩) | refine rE fun hml => ?_ | refine rI rdA rf ix ?_ | (refine rd_loadm (f := GPackage.d) rdA ix ?_; intro _ hcs; obtain ⟨_, _, _, _, rfl, _, _, _, _⟩ := GPackage.inv hcs) | refine draw_intro 18 [.fl 0, .fl 1, .fl 2, .fl 3, .fl 4, .fl 5, .fl 6, .st 7 [0, 1], .fl 8, .st 9 [], .fl 10, .st 11 []] (by rfl) (by kernel_rfl) ?_ | refine draw_intro 36 [.fl 0, .fl 1, .fl 2, .fl 3, .fl 4, .fl 5, .fl 6, .st 7 [0, 1], .fl 8, .st 9 [], .fl 10, .st 11 []] (by rfl) (by kernel_rfl) ?_ | (refine fr_appAt1 (o := 1) (S0 := S) (S1 := Si) (dy := (b.Packs[i]).d) (hE.trans hEn) hF hEn hE.len rfl rfl hFn (by rfl) (by rw [List.length_map, List.length_take]; dsimp only [T125, T151, T170, T174, T46, T85]; omega) (by rw [List.length_map, List.length_take]; omega) ?_; intro cN SN hEN hFN hlN) | refine And.intro ?_ ?_)
    all_goals first
      | (exfalso; omega)
      | (refine ⟨⟨(i + 1, _, _), by dsimp only; omega, by assumption, by rw [List.take_succ_eq_append_getElem hlt, List.map_append]; exact hFN⟩, ?_, rfl, by dsimp only; omega⟩; (conv => whnf); repeat' (first | exact trivial | exact rfl | (show _ = _; congr 3; dsimp only; omega) | apply And.intro))
  rw [List.take_of_length_le (by omega)] at hF
  repeat' ((conv => whnf) <;> first
   | refine cD (fun _ => ?_) fun _ => ?_ | refine rE fun hml => ?_ | refine rI rdA rf ix ?_ | (refine rd_loadm (f := GPackage.d) rdA ix ?_; intro _ hcs; obtain ⟨_, _, _, _, rfl, _, _, _, _⟩ := GPackage.inv hcs) | refine draw_intro 18 [.fl 0, .fl 1, .fl 2, .fl 3, .fl 4, .fl 5, .fl 6, .st 7 [0, 1], .fl 8, .st 9 [], .fl 10, .st 11 []] (by rfl) (by kernel_rfl) ?_ | refine draw_intro 36 [.fl 0, .fl 1, .fl 2, .fl 3, .fl 4, .fl 5, .fl 6, .st 7 [0, 1], .fl 8, .st 9 [], .fl 10, .st 11 []] (by rfl) (by kernel_rfl) ?_ | (refine rd_elemsf (f := GGrant.d) (l := b.Grants) rdA tv (fun _ => ?_)))
  all_goals try (exfalso; omega)
  (conv => whnf)
  refine fr_clone (f := GGrant.d) (by intro _; exact trivial) (by intro _; rfl) (by dsimp only [T125, T151, T170, T174, T46, T85]; omega) (by omega) ?_; intro d0 S2 e0 f0
  have E1 : Ext S S2 := hE.trans e0
  repeat' ((conv => whnf) <;> first
   | (refine rd_elemsf (f := GLimit.d) (l := b.Limits) rdA tv (fun _ => ?_)))
  all_goals try (exfalso; omega)
  (conv => whnf)
  refine fr_clone (f := GLimit.d) (by intro _; exact trivial) (by intro _; rfl) (by dsimp only [T125, T151, T170, T174, T46, T85]; omega) (by omega) ?_; intro d1 S3 e1 f1
  have E2 : Ext S S3 := E1.trans e1
  repeat' ((conv => whnf) <;> first
   | (refine rd_elemsf (f := GRule.d) (l := b.Rules) rdA tv (fun _ => ?_)))
  all_goals try (exfalso; omega)
  (conv => whnf)
  refine fr_clone (f := GRule.d) (by intro _; exact trivial) (by intro _; rfl) (by dsimp only [T125, T151, T170, T174, T46, T85]; omega) (by omega) ?_; intro d2 S4 e2 f2
  have E3 : Ext S S4 := E2.trans e2
  repeat' ((conv => whnf) <;> first
   | (refine rd_elemsf (f := GStored.d) (l := b.Store) rdA tv (fun _ => ?_)))
  all_goals try (exfalso; omega)
  (conv => whnf)
  refine fr_clone (f := GStored.d) (by intro _; exact trivial) (by intro _; rfl) (by dsimp only [T125, T151, T170, T174, T46, T85]; omega) (by omega) ?_; intro d3 S5 e3 f3
  have E4 : Ext S S5 := E3.trans e3
  have g0 := (((hF.join e0 f0 hE.len).join e1 f1 (hE.trans e0).len).join e2 f2 ((hE.trans e0).trans e1).len).join e3 f3 (((hE.trans e0).trans e1).trans e2).len
  have g1 := (g0.join (Ext.refl _) (fr_plain (c := .int .i64 b.Now)) ((((hE.trans e0).trans e1).trans e2).trans e3).len)
  have g2 : Fr S.length _ b.d _ := fr_x (c := .int .i64 b.Key) g1
  repeat' ((conv => whnf) <;> first
   | refine And.intro ?_ ?_)
  · exact (((hE.trans e0).trans e1).trans e2).trans e3
  · exact ⟨_, _, _, _, _, _, rfl, g2⟩
end Go.Proofs.YtockphlpokoohaaGreat
