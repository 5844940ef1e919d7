/- Copies of packages and browsers. Tabs. Tabs that are opened; copies of browsers. -/
import Derived.Test.YtlmmdpmmdmhacaaGreatKm23
import Derived.Test.YtlmmdpmmdmhacaaGreatKm24
import Derived.Test.YtlmmdpmmdmhacaaGreatKm20
namespace Go.Proofs.YtlmmdpmmdmhacaaGreat
open Go Go.ChangeShapes Go.WideShapes Go.ChangeAt Go.RowKit
set_option linter.unusedVariables false
set_option linter.unusedSimpArgs false
set_option maxRecDepth 100000
theorem ev_l26Copy (x : GPackage) (cs : List C) (S : Store) (h : Rd S x.d cs) (hz : szL x.d ≤ 4194304) : EvA Tryz.prog 186 [.agg cs] S (fun r S' => Ext S S' ∧ ∃ c3 c4 c5 c6, r = .v (.agg [(.int .i64 x.Ext), (.int .i64 x.Author), (.int .i64 x.Version), c3, c4, c5, c6, (.int .i64 x.Seal)]) ∧ Fr S.length S' x.d [(.int .i64 x.Ext), (.int .i64 x.Author), (.int .i64 x.Version), c3, c4, c5, c6, (.int .i64 x.Seal)]) := by
  simp only [GPackage.d, szL, List.length_map] at hz
  obtain ⟨_, _, _, _, rfl, _, _, _, _⟩ := GPackage.inv h
  refine evA_intro tok Tryz.func186 (by kernel_rfl) rfl ?_
  repeat' ((conv => whnf) <;> first
   | (refine rd_elemsf (f := GGrant.d) (l := x.Grants) rdA tv (fun _ => ?_)))
  (conv => whnf)
  refine fr_clone (f := GGrant.d) (by intro _; exact trivial) (by intro _; rfl) (by dsimp only [T108, T120, T199, T225]; omega) (by omega) ?_; intro d0 S0 e0 f0
  have E0 : Ext S S0 := e0
  repeat' ((conv => whnf) <;> first
   | (refine rd_elemsf (f := GFlow.d) (l := x.Flows) rdA tv (fun _ => ?_)))
  (conv => whnf)
  refine fr_clone (f := GFlow.d) (by intro _; exact trivial) (by intro _; rfl) (by dsimp only [T108, T120, T199, T225]; omega) (by omega) ?_; intro d1 S1 e1 f1
  have E1 : Ext S S1 := E0.trans e1
  repeat' ((conv => whnf) <;> first
   | (refine rd_elemsf (f := GRule.d) (l := x.Rules) rdA tv (fun _ => ?_)))
  (conv => whnf)
  refine fr_clone (f := GRule.d) (by intro _; exact trivial) (by intro _; rfl) (by dsimp only [T108, T120, T199, T225]; omega) (by omega) ?_; intro d2 S2 e2 f2
  have E2 : Ext S S2 := E1.trans e2
  repeat' ((conv => whnf) <;> first
   | (refine rd_elemsf (f := GOp.d) (l := x.Ops) rdA tv (fun _ => ?_)))
  (conv => whnf)
  refine fr_clone (f := GOp.d) (by intro _; exact trivial) (by intro _; rfl) (by dsimp only [T108, T120, T199, T225]; omega) (by omega) ?_; intro d3 S3 e3 f3
  have E3 : Ext S S3 := E2.trans e3
  repeat' ((conv => whnf) <;> first
   | refine And.intro ?_ ?_)
  · exact E3
  · exact ⟨_, _, _, _, rfl, fr_x (fr_x (fr_x (fr_sl (fr_seg f0 (Ext.trans e1 (Ext.trans e2 (e3)))) (fr_sl (fr_seg f1 (Ext.trans e2 (e3))) (fr_sl (fr_seg f2 (e3)) (fr_sl (fr_seg f3 (Ext.refl _)) (fr_x (fr_nil)) (e3).len) (e2).len) (e1).len) (e0).len)))⟩
set_option maxHeartbeats 4000000 in
theorem ev_l32Copy (b : GBrowser) (cs : List C) (S : Store) (h : Rd S b.d cs) (hz : szL b.d ≤ 4194304) : EvA Tryz.prog 187 [.agg cs] S (fun r S' => Ext S S' ∧ ∃ c1 c2 c3 c4 c5 c6, r = .v (.agg [.int .i64 b.Key, c1, c2, c3, c4, c5, c6, .int .i64 b.Now]) ∧ Fr S.length S' b.d [.int .i64 b.Key, c1, c2, c3, c4, c5, c6, .int .i64 b.Now]) := by
  have hzs := hz
  simp only [GBrowser.d, szL, List.length_map] at hzs
  obtain ⟨_, _, _, _, _, _, rfl, _, _, _, _, _, _⟩ := GBrowser.inv h
  have hzt : ∀ (i : Nat) (hi : i < b.Tabs.length), szL (b.Tabs[i]).d ≤ 4194304 := fun i hi => by
    have h1 := szLL_mem (f := GTab.d) (List.getElem_mem hi)
    omega
  have hzp : ∀ (i : Nat) (hi : i < b.Packs.length), szL (b.Packs[i]).d ≤ 4194304 := fun i hi => by
    have h1 := szLL_mem (f := GPackage.d) (List.getElem_mem hi)
    omega
  refine evA_intro tok Tryz.func187 (by kernel_rfl) rfl ?_
  skip
  (conv => whnf)
  refine loop_intro {p : Nat × Store × C // p.1 ≤ b.Tabs.length ∧ Ext S p.2.1 ∧ Fr S.length p.2.1 [.sl 6 ((b.Tabs.take p.1).map GTab.d)] [p.2.2]} [3, 4, 11, 12, 13, 14, 15, 16, 17, 18, 19, 20, 21, 22, 23, 24, 25, 26, 27, 28] (fun zb => [(4, .v (.s (.int .i64 zb.1.1))), (3, .box [.int .i64 b.Key, zb.1.2.2, .nil, .nil, .nil, .nil, .nil, .int .i64 b.Now])]) (fun zb => zb.1.2.1) (fun zb => b.Tabs.length - zb.1.1) ⟨(0, _, _), Nat.zero_le _, Ext.refl _, fr_empty (.inl rfl)⟩ ?_ rfl ?_
  · (conv => whnf); repeat' (first | exact trivial | exact rfl | apply And.intro)
  rintro ⟨⟨i, S1, ct⟩, hi, hE1, hF1⟩; dsimp only
  replace hi : i ≤ b.Tabs.length := hi
  replace hE1 : Ext S S1 := hE1
  replace hF1 : Fr S.length S1 [.sl 6 ((b.Tabs.take i).map GTab.d)] [ct] := hF1
  by_cases hlt : i < b.Tabs.length
  · have hzi := hzt i hlt
    have hzk : szL (b.Tabs[((i : Nat) : Int).toNat]'hlt).d ≤ 4194304 := hzi
    repeat' ((conv => whnf) <;> first
     | rw [wrapI_i64 (by omega)] | refine cD (fun _ => ?_) fun _ => ?_ | (refine callP_intro (ev_l31Copy _ _ _ rdcA (by (first | omega | exact sz_at hz om | (simp only [szL]; omega)))) ?_; rintro _ Sn ⟨hEn, _, _, _, rfl, hFn⟩) | refine rE fun hml => ?_ | refine rI rdA rf ix ?_ | (refine rd_loadm (f := GTab.d) rdA ix ?_; intro _ hcs; obtain ⟨_, _, _, rfl, _, _, _⟩ := GTab.inv hcs) | refine draw_intro 18 [.fl 0, .fl 1, .fl 2, .fl 3, .fl 4, .fl 5, .fl 6, .st 7 [0, 1], .fl 8, .st 9 [], .fl 10, .st 11 []] (by rfl) (by kernel_rfl) ?_ | refine draw_intro 36 [.fl 0, .fl 1, .fl 2, .fl 3, .fl 4, .fl 5, .fl 6, .st 7 [0, 1], .fl 8, .st 9 [], .fl 10, .st 11 []] (by rfl) (by kernel_rfl) ?_ | (refine fr_appAt1 (o := 0) (S0 := S) (S1 := S1) (dy := (b.Tabs[i]).d) (hE1.trans hEn) hF1 hEn hE1.len rfl rfl hFn (by rfl) (by rw [List.length_map, List.length_take]; dsimp only [T108, T120, T124, T48, T58, T68]; omega) (by rw [List.length_map, List.length_take]; omega) ?_; intro cN SN hEN hFN hlN) | refine And.intro ?_ ?_)
    all_goals first
      | (exfalso; omega)
      | (refine ⟨⟨(i + 1, _, _), by dsimp only; omega, by assumption, by rw [List.take_succ_eq_append_getElem hlt, List.map_append]; exact hFN⟩, ?_, rfl, by dsimp only; omega⟩; (conv => whnf); repeat' (first | exact trivial | exact rfl | (show _ = _; congr 3; dsimp only; omega) | apply And.intro))
  rw [List.take_of_length_le (by omega)] at hF1
  repeat' ((conv => whnf) <;> first
   | refine cD (fun _ => ?_) fun _ => ?_ | refine rE fun hml => ?_ | refine rI rdA rf ix ?_ | (refine rd_loadm (f := GTab.d) rdA ix ?_; intro _ hcs; obtain ⟨_, _, _, rfl, _, _, _⟩ := GTab.inv hcs) | refine draw_intro 18 [.fl 0, .fl 1, .fl 2, .fl 3, .fl 4, .fl 5, .fl 6, .st 7 [0, 1], .fl 8, .st 9 [], .fl 10, .st 11 []] (by rfl) (by kernel_rfl) ?_ | refine draw_intro 36 [.fl 0, .fl 1, .fl 2, .fl 3, .fl 4, .fl 5, .fl 6, .st 7 [0, 1], .fl 8, .st 9 [], .fl 10, .st 11 []] (by rfl) (by kernel_rfl) ?_)
  all_goals try (exfalso; omega)
  (conv => whnf)
  refine loop_intro {p : Nat × Store × C // p.1 ≤ b.Packs.length ∧ Ext S p.2.1 ∧ Fr S.length p.2.1 [.sl 6 (b.Tabs.map GTab.d), .sl 8 ((b.Packs.take p.1).map GPackage.d)] [ct, p.2.2]} [3, 5, 29, 30, 31, 32, 33, 34, 35, 36, 37, 38, 39, 40, 41, 42, 43, 44, 45, 46] (fun zb => [(5, .v (.s (.int .i64 zb.1.1))), (3, .box [.int .i64 b.Key, ct, zb.1.2.2, .nil, .nil, .nil, .nil, .int .i64 b.Now])]) (fun zb => zb.1.2.1) (fun zb => b.Packs.length - zb.1.1) ⟨(0, _, _), Nat.zero_le _, hE1, hF1.join (ds' := [.sl 8 []]) (cs' := [.nil]) (Ext.refl _) (fr_empty (.inl rfl)) hE1.len⟩ ?_ rfl ?_
  · (conv => whnf); repeat' (first | exact trivial | exact rfl | apply And.intro)
  rintro ⟨⟨i, Si, ci⟩, hi, hE, hF⟩; dsimp only
  replace hi : i ≤ b.Packs.length := hi
  replace hE : Ext S Si := hE
  replace hF : Fr S.length Si [.sl 6 (b.Tabs.map GTab.d), .sl 8 ((b.Packs.take i).map GPackage.d)] [ct, ci] := hF
  by_cases hlt : i < b.Packs.length
  · have hzi := hzp i hlt
    have hzk : szL (b.Packs[((i : Nat) : Int).toNat]'hlt).d ≤ 4194304 := hzi
    repeat' ((conv => whnf) <;> first
     | rw [wrapI_i64 (by omega)] | refine cD (fun _ => ?_) fun _ => ?_ | (refine callP_intro (ev_l26Copy _ _ _ rdcA (by (first | omega | exact sz_at hz om | (simp only [szL]; omega)))) ?_; rintro _ Sn ⟨hEn, _, _, _, _, rfl, hFn⟩) | refine rE fun hml => ?_ | refine rI rdA rf ix ?_ | (refine rd_loadm (f := GPackage.d) rdA ix ?_; intro _ hcs; obtain ⟨_, _, _, _, rfl, _, _, _, _⟩ := GPackage.inv hcs) | refine draw_intro 18 [.fl 0, .fl 1, .fl 2, .fl 3, .fl 4, .fl 5, .fl 6, .st 7 [0, 1], .fl 8, .st 9 [], .fl 10, .st 11 []] (by rfl) (by kernel_rfl) ?_ | refine draw_intro 36 [.fl 0, .fl 1, .fl 2, .fl 3, .fl 4, .fl 5, .fl 6, .st 7 [0, 1], .fl 8, .st 9 [], .fl 10, .st 11 []] (by rfl) (by kernel_rfl) ?_ | (refine fr_appAt1 (o := 1) (S0 := S) (S1 := Si) (dy := (b.Packs[i]).d) (hE.trans hEn) hF hEn hE.len rfl rfl hFn (by rfl) (by rw [List.length_map, List.length_take]; dsimp only [T108, T120, T124, T48, T58, T68]; omega) (by rw [List.length_map, List.length_take]; omega) ?_; intro cN SN hEN hFN hlN) | refine And.intro ?_ ?_)
    all_goals first
      | (exfalso; omega)
      | (refine ⟨⟨(i + 1, _, _), by dsimp only; omega, by assumption, by rw [List.take_succ_eq_append_getElem hlt, List.map_append]; exact hFN⟩, ?_, rfl, by dsimp only; omega⟩; (conv => whnf); repeat' (first | exact trivial | exact rfl | (show _ = _; congr 3; dsimp only; omega) | apply And.intro))
  rw [List.take_of_length_le (by omega)] at hF
  repeat' ((conv => whnf) <;> first
   | refine cD (fun _ => ?_) fun _ => ?_ | refine rE fun hml => ?_ | refine rI rdA rf ix ?_ | (refine rd_loadm (f := GPackage.d) rdA ix ?_; intro _ hcs; obtain ⟨_, _, _, _, rfl, _, _, _, _⟩ := GPackage.inv hcs) | refine draw_intro 18 [.fl 0, .fl 1, .fl 2, .fl 3, .fl 4, .fl 5, .fl 6, .st 7 [0, 1], .fl 8, .st 9 [], .fl 10, .st 11 []] (by rfl) (by kernel_rfl) ?_ | refine draw_intro 36 [.fl 0, .fl 1, .fl 2, .fl 3, .fl 4, .fl 5, .fl 6, .st 7 [0, 1], .fl 8, .st 9 [], .fl 10, .st 11 []] (by rfl) (by kernel_rfl) ?_ | (refine rd_elemsf (f := GGrant.d) (l := b.Grants) rdA tv (fun _ => ?_)))
  all_goals try (exfalso; omega)
  (conv => whnf)
  refine fr_clone (f := GGrant.d) (by intro _; exact trivial) (by intro _; rfl) (by dsimp only [T108, T120, T124, T48, T58, T68]; omega) (by omega) ?_; intro d0 S2 e0 f0
  have E1 : Ext S S2 := hE.trans e0
  repeat' ((conv => whnf) <;> first
   | (refine rd_elemsf (f := GLimit.d) (l := b.Limits) rdA tv (fun _ => ?_)))
  all_goals try (exfalso; omega)
  (conv => whnf)
  refine fr_clone (f := GLimit.d) (by intro _; exact trivial) (by intro _; rfl) (by dsimp only [T108, T120, T124, T48, T58, T68]; omega) (by omega) ?_; intro d1 S3 e1 f1
  have E2 : Ext S S3 := E1.trans e1
  repeat' ((conv => whnf) <;> first
   | (refine rd_elemsf (f := GRule.d) (l := b.Rules) rdA tv (fun _ => ?_)))
  all_goals try (exfalso; omega)
  (conv => whnf)
  refine fr_clone (f := GRule.d) (by intro _; exact trivial) (by intro _; rfl) (by dsimp only [T108, T120, T124, T48, T58, T68]; omega) (by omega) ?_; intro d2 S4 e2 f2
  have E3 : Ext S S4 := E2.trans e2
  repeat' ((conv => whnf) <;> first
   | (refine rd_elemsf (f := GStored.d) (l := b.Store) rdA tv (fun _ => ?_)))
  all_goals try (exfalso; omega)
  (conv => whnf)
  refine fr_clone (f := GStored.d) (by intro _; exact trivial) (by intro _; rfl) (by dsimp only [T108, T120, T124, T48, T58, T68]; omega) (by omega) ?_; intro d3 S5 e3 f3
  have E4 : Ext S S5 := E3.trans e3
  have g0 := (((hF.join e0 f0 hE.len).join e1 f1 (hE.trans e0).len).join e2 f2 ((hE.trans e0).trans e1).len).join e3 f3 (((hE.trans e0).trans e1).trans e2).len
  have g1 := (g0.join (Ext.refl _) (fr_plain (c := .int .i64 b.Now)) ((((hE.trans e0).trans e1).trans e2).trans e3).len)
  have g2 : Fr S.length _ b.d _ := fr_x (c := .int .i64 b.Key) g1
  repeat' ((conv => whnf) <;> first
   | refine And.intro ?_ ?_)
  · exact (((hE.trans e0).trans e1).trans e2).trans e3
  · exact ⟨_, _, _, _, _, _, rfl, g2⟩
end Go.Proofs.YtlmmdpmmdmhacaaGreat
namespace Go.Proofs.YtlmmdpmmdmhacaaGreat
open Go Go.ChangeShapes Go.WideShapes Go.ChangeAt Go.RowKit
set_option linter.unusedVariables false
set_option linter.unusedSimpArgs false
set_option maxRecDepth 100000
def okHid (l : List Int) (n : Int) (i : Nat) : Bool := inR n 0 9 && (if i = 0 then true else decide (l.getD (i - 1) 0 < n))
theorem okHid_zero (l : List Int) (n : Int) : okHid l n 0 = inR n 0 9 := by simp [okHid]
theorem okHid_pos {l : List Int} {n : Int} {i : Nat} (h0 : 0 < i) (hl : i ≤ l.length) : okHid l n i = (inR n 0 9 && decide (l[i - 1]'(by omega) < n)) := by
  unfold okHid
  rw [if_neg (by omega), List.getD_eq_getElem?_getD, List.getElem?_eq_getElem (by omega)]; rfl
def hidGo (l : List Int) : List Int → Nat → Bool
  | [], _ => true
  | n :: r, i => if okHid l n i then hidGo l r (i + 1) else false
def isTab (t : GTab) : Bool := isSite t.Site && isDoc t.Base && decide (t.Edits.length ≤ 40) && inR t.Click (-1) 10000 && t.Edits.all isEdit && hidGo t.Hidden t.Hidden 0
theorem and6 {a b c d e f : Bool} (h : (a = false ∨ b = false ∨ c = false ∨ d = false ∨ e = false ∨ f = false)) : (a && b && c && d && e && f) = false := by
  cases a <;> cases b <;> cases c <;> cases d <;> cases e <;> cases f <;> simp at h ⊢
theorem ev_sIsTab (t : GTab) (cs : List C) (S : Store) (h : Rd S t.d cs) : EvA Tryz.prog 318 [.agg cs] S (fun r S' => r = .v (.s (.bool (isTab t))) ∧ S' = S) := by
  obtain ⟨_, _, _, rfl, _, _, _⟩ := GTab.inv h
  refine evA_intro tok Tryz.func318 (by kernel_rfl) rfl ?_
  skip
  all_goals try first
    | rfl
    | (rw [show isTab t = false from and6 (by first | (simp_all; done) | (right; right; left; simp; omega))]; rfl)
  refine loop_intro {i : Nat // i ≤ t.Edits.length ∧ (t.Edits.drop i).all isEdit = t.Edits.all isEdit} [2, 3, 5, 6, 7, 8, 9, 10, 11, 12, 13, 14, 15, 16, 17, 18] (fun zb => [(3, .v (.s (.int .i64 zb.1)))]) (fun _ => S) (fun zb => t.Edits.length - zb.1) ⟨0, Nat.zero_le _, by simp⟩ ?_ rfl ?_
  · (conv => whnf); repeat' (first | exact trivial | exact rfl | apply And.intro)
  rintro ⟨i, hi, hinv⟩; dsimp only
  repeat' ((conv => whnf) <;> first
   | rw [wrapI_i64 (by omega)] | refine cD (fun _ => ?_) fun _ => ?_ | refine cN (fun _ => ?_) fun _ => ?_ | refine callP_eq (ev_sIsEdit _ _) ?_ | refine rE fun hml => ?_ | refine rI aN rf ix ?_ | refine rd_loadf aN tv ix ?_ | refine And.intro ?_ ?_)
  all_goals try first
    | rfl
    | (rw [drop_at (by omega), List.all_cons] at hinv
       rw [show isTab t = false from and6 (by simp_all)]; rfl)
    | (rw [drop_at (by omega), List.all_cons] at hinv
       (refine ⟨⟨i + 1, by omega, by simp_all⟩, ?_, rfl, by simp; omega⟩; (conv => whnf); repeat' (first | exact trivial | exact rfl | apply And.intro)))
  rw [drop_end (by omega), List.all_nil] at hinv
  refine loop_intro {i : Nat // i ≤ t.Hidden.length ∧ hidGo t.Hidden (t.Hidden.drop i) i = hidGo t.Hidden t.Hidden 0} [2, 4, 19, 20, 21, 22, 23, 24, 25, 26, 27, 28, 29, 30, 31, 32, 33, 34, 35, 36, 37, 38, 39, 40, 41, 42, 43, 44, 45, 46, 47, 48, 49, 50] (fun zb => [(4, .v (.s (.int .i64 zb.1)))]) (fun _ => S) (fun zb => t.Hidden.length - zb.1) ⟨0, Nat.zero_le _, by simp⟩ ?_ rfl ?_
  · (conv => whnf); repeat' (first | exact trivial | exact rfl | apply And.intro)
  rintro ⟨i, hi, hinv⟩; dsimp only
  repeat' ((conv => whnf) <;> first
   | rw [wrapI_i64 (by omega)] | refine cD (fun _ => ?_) fun _ => ?_ | refine cT ?_ | refine cF ?_ | refine condP_ninR (fun _ _ => ?_) (fun _ _ => ?_) | refine cI (fun _ => ?_) fun _ => ?_ | refine callP_eq (ev_l1In _ _ _ _) ?_ | refine callP_eq (ev_sIsSite _ _) ?_ | refine callP_eq (ev_sIsDocument _ _ _ aN) ?_ | refine rE fun hml => ?_ | refine rI aN rf ix ?_ | refine rd_loadf aN tv ix ?_ | refine draw_intro 26 [.fl 0, .fl 1, .fl 2, .fl 3, .fl 4, .st 5 [], .fl 6, .fl 7, .fl 8, .fl 9, .fl 10, .fl 11, .fl 12, .fl 13, .fl 14, .fl 15, .fl 16, .fl 17, .fl 18, .fl 19, .fl 20, .fl 21, .fl 22, .fl 23, .fl 24] (by rfl) (by kernel_rfl) ?_ | refine And.intro ?_ ?_)
  all_goals first
    | rfl
    | (rw [drop_end (by omega), hidGo] at hinv
       have hE : isTab t = (isSite t.Site && isDoc t.Base && decide (t.Edits.length ≤ 40) && inR t.Click (-1) 10000) := by
         unfold isTab; rw [← hinv]; simp_all
       rw [hE]
       first
         | (have h40 : t.Edits.length ≤ 40 := by omega
            clear hE
            simp_all [resAV]; done)
         | (clear hE; simp_all [resAV]; done))
    | (rw [drop_end (by omega), hidGo] at hinv
       rw [show isTab t = false from and6 (by first | (simp_all; done) | (right; right; left; simp; omega))]; rfl)
    | (have e : okHid t.Hidden (t.Hidden[i]'(by omega)) i = false := by
         clear hinv
         first
           | (have h0 : i = 0 := by omega
              subst h0; rw [okHid_zero]; simp_all; done)
           | (have h0 : 0 < i := by omega
              rw [okHid_pos h0 (by omega)]
              first | (simp_all [pred_toNat h0]; done) | (simp_all [pred_toNat h0]; intros; omega))
           | (simp_all [okHid]; done)
       rw [drop_at (by omega), hidGo, e] at hinv
       rw [show isTab t = false from and6 (by simp_all)]; rfl)
    | (have e : okHid t.Hidden (t.Hidden[i]'(by omega)) i = true := by
         clear hinv
         first
           | (have h0 : i = 0 := by omega
              subst h0; rw [okHid_zero]; simp_all; done)
           | (have h0 : 0 < i := by omega
              rw [okHid_pos h0 (by omega)]
              first | (simp_all [pred_toNat h0]; done) | (simp_all [pred_toNat h0]; omega))
       (refine ⟨⟨i + 1, by omega, by rw [drop_at (by omega), hidGo, if_pos e] at hinv; exact hinv⟩, ?_, rfl, by simp; omega⟩; (conv => whnf); repeat' (first | exact trivial | exact rfl | apply And.intro)))
end Go.Proofs.YtlmmdpmmdmhacaaGreat
namespace Go.Proofs.YtlmmdpmmdmhacaaGreat
open Go Go.ChangeShapes Go.WideShapes Go.ChangeAt Go.RowKit
set_option linter.unusedVariables false
set_option linter.unusedSimpArgs false
set_option maxRecDepth 100000
def newTab (s : GSite) (base : List GNode) (hidden : List Int) : GTab := ⟨s, base, [], hidden, -1⟩
def openTab (s : GSite) (base : List GNode) (hidden : List Int) : GTab × Bool := if isTab (newTab s base hidden) then (newTab s base hidden, true) else (default, false)
theorem fr_slnil {S : Store} {lo k : Nat} {ds : List D} {cs : List C} (h : Fr lo S ds cs) : Fr lo S (.sl k [] :: ds) (.nil :: cs) :=
  fr_sl (mid := lo) ⟨[], by unfold Rep; exact ⟨Nat.zero_le _, .inl ⟨rfl, .inl rfl, rfl⟩⟩, List.nodup_nil, fun _ h => by cases h⟩ h (Nat.le_refl _)
theorem rd_empty0 {S : Store} {k : Nat} : Rd S [.sl k []] [.nil] := rd_one (q := false) (ids := []) (by unfold Rep; exact ⟨Nat.zero_le _, .inl ⟨rfl, .inl rfl, rfl⟩⟩)
theorem fr_tab0 {S : Store} {lo : Nat} : Fr lo S (default : GTab).d [.int .i64 0, .int .i64 0, .nil, .nil, .nil, .int .i64 0] := fr_x (fr_x (fr_slnil (fr_slnil (fr_slnil (fr_x fr_nil)))))
theorem szTab_new (s : GSite) (base : List GNode) (hidden : List Int) : szL (newTab s base hidden).d = base.length + hidden.length := by
  simp only [newTab, GTab.d, szL, List.length_map]
  rw [szLL_flat (f := GNode.d) (by intro x; simp only [szL, GNode.d]), szLL_flat (f := dInt) (by intro x; simp only [szL, dInt]), List.map_nil, szL.szLL]
  simp
theorem ev_sOpenTab (s : GSite) (base : List GNode) (hidden : List Int) (c c' : C) (S : Store) (h : Rd S [.sl 5 (base.map GNode.d)] [c]) (h' : Rd S [.sl 1 (hidden.map dInt)] [c']) (hz : base.length + hidden.length ≤ 4194304) : EvA Tryz.prog 311 [.agg s.c, .s c, .s c'] S (fun r S' => Ext S S' ∧ ∃ c2 c3 c4, r = .tup [.agg [.int .i64 (openTab s base hidden).1.Site.Owner, .int .i64 (openTab s base hidden).1.Site.Sub, c2, c3, c4, .int .i64 (openTab s base hidden).1.Click], .s (.bool (openTab s base hidden).2)] ∧ Fr S.length S' (openTab s base hidden).1.d [.int .i64 (openTab s base hidden).1.Site.Owner, .int .i64 (openTab s base hidden).1.Site.Sub, c2, c3, c4, .int .i64 (openTab s base hidden).1.Click]) := by
  have hsz := szTab_new s base hidden
  by_cases hT : isTab (newTab s base hidden) = true
  · have ho : openTab s base hidden = (newTab s base hidden, true) := if_pos hT
    rw [ho]
    refine evA_intro tok Tryz.func311 (by kernel_rfl) rfl ?_
    skip
    have hnil : Rd S [.sl 6 (([] : List GEdit).map GEdit.d)] [.nil] := rd_empty0
    have hT1 : Rd S (newTab s base hidden).d _ := GTab.rd h hnil h'
    (conv => whnf)
    refine callP_intro (ev_l31Copy (newTab s base hidden) _ _ hT1 (by omega)) ?_; rintro _ S0 ⟨e0, d0, d1, d2, rfl, f0⟩
    repeat' ((conv => whnf) <;> first
     | refine cN (fun _ => ?_) fun _ => ?_ | refine callP_eq (ev_sIsTab _ _ _ rdcA) ?_ | refine And.intro ?_ ?_)
    all_goals first
      | rfl
      | exact e0
      | (exfalso; simp_all; done)
      | exact ⟨_, _, _, rfl, f0⟩
  · have ho : openTab s base hidden = (default, false) := if_neg hT
    rw [ho]
    refine evA_intro tok Tryz.func311 (by kernel_rfl) rfl ?_
    skip
    have hnil : Rd S [.sl 6 (([] : List GEdit).map GEdit.d)] [.nil] := rd_empty0
    have hT1 : Rd S (newTab s base hidden).d _ := GTab.rd h hnil h'
    (conv => whnf)
    refine callP_intro (ev_l31Copy (newTab s base hidden) _ _ hT1 (by omega)) ?_; rintro _ S0 ⟨e0, d0, d1, d2, rfl, f0⟩
    repeat' ((conv => whnf) <;> first
     | refine cN (fun _ => ?_) fun _ => ?_ | refine callP_eq (ev_sIsTab _ _ _ rdcA) ?_ | refine And.intro ?_ ?_)
    all_goals first
      | rfl
      | exact e0
      | (exfalso; simp_all; done)
      | exact ⟨_, _, _, rfl, fr_tab0⟩
theorem fr_litF {S : Store} {α : Type} {f : α → List D} {k : Nat} (l : List α) (hf : ∀ x, Flat (f x)) (h : l.length ≤ 9223372036854775807) : Fr S.length (S ++ [⟨true, k, l.map fun x => flatC (f x)⟩]) [.sl k (l.map f)] [.sl S.length 0 l.length l.length] :=
  fr_push (xs := l.map f) (js := []) (rep2_flat hf l) List.nodup_nil (fun _ h => by cases h) (Nat.le_refl _) (by rw [maxLen_eq]; simpa using h) (by simp)
abbrev exB2 : List GNode := [⟨0, -1, 0, 0, 0⟩]
theorem litN {S : Store} (l : List GNode) (h : l.length ≤ 9) : Fr S.length (S ++ [⟨true, 5, l.map fun x => flatC (GNode.d x)⟩]) [.sl 5 (l.map GNode.d)] [.sl S.length 0 l.length l.length] := fr_litF l (fun _ => trivial) (by omega)
end Go.Proofs.YtlmmdpmmdmhacaaGreat
