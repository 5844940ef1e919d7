/- A text of the proof. A text of the proof. -/
import Derived.Test.YtockphlpokoohaaGreatKe45
import Derived.Test.YtockphlpokoohaaGreatKe37
import Derived.Test.YtockphlpokoohaaGreatKe39
import Derived.Test.YtockphlpokoohaaGreatKe40
import Derived.Test.YtockphlpokoohaaGreatKe44
import Derived.Test.YtockphlpokoohaaGreatKe27
import Derived.Test.YtockphlpokoohaaGreatKe28
import Derived.Test.YtockphlpokoohaaGreatKe33
import Derived.Test.YtockphlpokoohaaGreatKe36
import Derived.Test.YtockphlpokoohaaGreatKe41
namespace Go.Proofs.YtockphlpokoohaaGreat
open Go Go.ChangeShapes Go.WideShapes Go.ChangeAt Go.RowKit
set_option linter.unusedVariables false
set_option linter.unusedSimpArgs false
set_option maxRecDepth 100000
def remAt (b : GBrowser) (ext : Int) (i : Nat) : GBrowser := { b with Tabs := (b.Tabs.take i).map (fun t => tabWithout t ext) ++ b.Tabs.drop i, Packs := b.Packs.take (packOf b ext).toNat ++ b.Packs.drop ((packOf b ext).toNat + 1), Grants := b.Grants.filter (gBut ext), Rules := b.Rules.filter (rBut ext), Store := b.Store.filter (stNot ext) }
def remTo (b : GBrowser) (ext : Int) : GBrowser := { b with Tabs := b.Tabs.map (fun t => tabWithout t ext), Packs := b.Packs.take (packOf b ext).toNat ++ b.Packs.drop ((packOf b ext).toNat + 1), Grants := b.Grants.filter (gBut ext), Rules := b.Rules.filter (rBut ext), Store := b.Store.filter (stNot ext) }
theorem remAt_all (b : GBrowser) (ext : Int) : remAt b ext b.Tabs.length = remTo b ext := by
  unfold remAt remTo; rw [List.take_length, List.drop_length, List.append_nil]
theorem remAt_tab {b : GBrowser} {ext : Int} {i : Nat} (h : i < b.Tabs.length) : ((remAt b ext i).Tabs.map GTab.d)[i]? = some (b.Tabs[i]).d := by
  have hl : ((b.Tabs.take i).map (fun t => tabWithout t ext)).length = i := by rw [List.length_map, List.length_take]; omega
  simp only [remAt, List.getElem?_map]
  rw [List.getElem?_append_right (by omega), hl, Nat.sub_self, List.getElem?_drop, Nat.add_zero, List.getElem?_eq_getElem h]; rfl
theorem remAt_set {b : GBrowser} {ext : Int} {i : Nat} (h : i < b.Tabs.length) : ((remAt b ext i).Tabs.map GTab.d).set i (tabWithout (b.Tabs[i]) ext).d = (remAt b ext (i + 1)).Tabs.map GTab.d := by
  have hl : ((b.Tabs.take i).map (fun t => tabWithout t ext)).length = i := by rw [List.length_map, List.length_take]; omega
  simp only [remAt]
  rw [← List.map_set, List.set_append_right _ _ (Nat.le_of_eq hl), hl, Nat.sub_self, List.take_add_one, List.getElem?_eq_getElem h, List.drop_eq_getElem_cons h, List.set_cons_zero]
  congr 1
  rw [List.map_append, List.append_assoc]; rfl
theorem remAt_len (b : GBrowser) (ext : Int) (i : Nat) (h : i ≤ b.Tabs.length) : (remAt b ext i).Tabs.length = b.Tabs.length := by
  simp only [remAt, List.length_append, List.length_map, List.length_take, List.length_drop]; omega
def stepRemove (b : GBrowser) (ext : Int) : GBrowser × Bool := if 0 ≤ packOf b ext then (remTo b ext, true) else (b, false)
theorem rem_no {b : GBrowser} {ext : Int} (h : ¬ 0 ≤ packOf b ext) : stepRemove b ext = (b, false) := if_neg h
theorem rem_yes {b : GBrowser} {ext : Int} (h : 0 ≤ packOf b ext) : stepRemove b ext = (remTo b ext, true) := if_pos h
set_option maxHeartbeats 4000000 in
theorem ev_iStepRemove (b : GBrowser) (ext : Int) (cs : List C) (S : Store) (h : Rd S b.d cs) (hz : szL b.d ≤ 1048576) : EvA Tryz.prog 46 [.agg cs, .s (.int .i64 ext)] S (fun r S' => Ext S S' ∧ ∃ c1 c2 c3 c4 c5 c6, r = .tup [.agg [.int .i64 (stepRemove b ext).1.Key, c1, c2, c3, c4, c5, c6, .int .i64 (stepRemove b ext).1.Now], .s (.bool (stepRemove b ext).2)] ∧ Fr S.length S' (stepRemove b ext).1.d [.int .i64 (stepRemove b ext).1.Key, c1, c2, c3, c4, c5, c6, .int .i64 (stepRemove b ext).1.Now]) := by
  have hzs := hz
  simp only [GBrowser.d, szL, List.length_map] at hzs
  have hfg := List.length_filter_le (gBut ext) b.Grants
  have hfr := List.length_filter_le (rBut ext) b.Rules
  have hfs := List.length_filter_le (stNot ext) b.Store
  have hB := h
  obtain ⟨b1, b2, b3, b4, b5, b6, rfl, t1, t2, t3, t4, t5, t6⟩ := GBrowser.inv h
  refine evA_intro tok Tryz.func46 (by kernel_rfl) rfl ?_
  repeat' ((conv => whnf) <;> first
   | rw [wrapI_i64 (by omega)] | (show CondP _ _ _; refine cS ?_) | refine cD (fun _ => ?_) fun _ => ?_ | refine cE (fun _ => ?_) fun _ => ?_ | refine cT ?_ | refine cF ?_ | refine cN (fun _ => ?_) fun _ => ?_ | refine cI (fun _ => ?_) fun _ => ?_ | (refine callP_eq (ev_iPackOf _ _ _ _ rdcA) ?_) | refine rE fun hml => ?_ | refine rI rdA rf ix ?_ | (refine rd_loadm (f := GTab.d) rdA ix ?_; intro _ hcs; obtain ⟨_, _, _, rfl, _, _, _⟩ := GTab.inv hcs) | refine nP ?_ | refine draw_intro 48 [.fl 0, .fl 1, .fl 2, .fl 3, .fl 4, .st 5 [0, 1, 2], .fl 6, .st 7 []] (by rfl) (by kernel_rfl) ?_ | refine And.intro ?_ ?_)
  (conv => whnf)
  refine callP_intro (ev_cloneBrowser b _ _ hB (by omega)) ?_; rintro _ S0 ⟨e0, c1, c2, c3, c4, c5, c6, rfl, f0⟩
  by_cases hp : ¬ 0 ≤ packOf b ext
  · rw [rem_no hp]
    repeat' ((conv => whnf) <;> first
     | (refine callP_eq (ev_iPackOf b ext _ _ (hB.ext e0)) ?_) | rw [wrapI_i64 (by omega)] | (show CondP _ _ _; refine cS ?_) | refine cD (fun _ => ?_) fun _ => ?_ | refine cE (fun _ => ?_) fun _ => ?_ | refine cT ?_ | refine cF ?_ | refine cN (fun _ => ?_) fun _ => ?_ | refine cI (fun _ => ?_) fun _ => ?_ | (refine callP_eq (ev_iPackOf _ _ _ _ rdcA) ?_) | (refine callP_intro (ev_iDropStored _ _ _ _ rdA om) ?_; rintro _ Sn ⟨hEn, cn, rfl, hFn⟩) | (refine callP_intro (ev_cloneBrowser _ _ _ rdcA (by (first | omega | exact sz_at hz om | (simp only [szL]; omega)))) ?_; rintro _ Sn ⟨hEn, _, _, _, _, _, _, rfl, hFn⟩) | (refine callP_intro (ev_iTabWithout _ _ _ _ rdcA (by (first | omega | exact sz_at hz om | (simp only [szL]; omega)))) ?_; rintro _ Sn ⟨hEn, _, _, _, rfl, hFn⟩) | refine rE fun hml => ?_ | refine rI rdA rf ix ?_ | (refine rd_loadm (f := GTab.d) rdA ix ?_; intro _ hcs; obtain ⟨_, _, _, rfl, _, _, _⟩ := GTab.inv hcs) | refine nP ?_ | refine draw_intro 48 [.fl 0, .fl 1, .fl 2, .fl 3, .fl 4, .st 5 [0, 1, 2], .fl 6, .st 7 []] (by rfl) (by kernel_rfl) ?_ | refine And.intro ?_ ?_)
    all_goals first
      | exact e0
      | exact ⟨_, _, _, _, _, _, rfl, f0⟩
      | (exfalso; simp_all; done)
      | (exfalso; omega)
  replace hp := Decidable.not_not.1 hp
  rw [rem_yes hp]
  have hpl := (packOf_lt b ext).2
  obtain ⟨kn, hkn⟩ := Int.eq_ofNat_of_zero_le hp
  have hkt : (packOf b ext).toNat = kn := by omega
  have hkl : kn < b.Packs.length := by omega
  have hdel := delPackage_raw.frAt (o := 2) (xs := b.Packs.map GPackage.d) (i := kn) (by decide) delPackage_fok e0 f0 rfl rfl (by rw [List.length_map]; exact hkl)
  rw [← hkn] at hdel
  repeat' ((conv => whnf) <;> first
   | (refine callP_intro hdel ?_; rintro _ SB ⟨hEB0, cB, rfl, J3⟩) | (refine callP_eq (ev_iPackOf b ext _ _ (hB.ext e0)) ?_) | rw [wrapI_i64 (by omega)] | (show CondP _ _ _; refine cS ?_) | refine cD (fun _ => ?_) fun _ => ?_ | refine cE (fun _ => ?_) fun _ => ?_ | refine cT ?_ | refine cF ?_ | refine cN (fun _ => ?_) fun _ => ?_ | refine cI (fun _ => ?_) fun _ => ?_ | (refine callP_eq (ev_iPackOf _ _ _ _ rdcA) ?_) | refine rE fun hml => ?_ | refine rI rdA rf ix ?_ | (refine rd_loadm (f := GTab.d) rdA ix ?_; intro _ hcs; obtain ⟨_, _, _, rfl, _, _, _⟩ := GTab.inv hcs) | refine nP ?_ | refine draw_intro 48 [.fl 0, .fl 1, .fl 2, .fl 3, .fl 4, .st 5 [0, 1, 2], .fl 6, .st 7 []] (by rfl) (by kernel_rfl) ?_ | refine And.intro ?_ ?_)
  all_goals try (exfalso; omega)
  rw [← List.map_take, ← List.map_drop, ← List.map_append] at J3
  have EB := hEB0
  have pg := t3.ext EB
  repeat' ((conv => whnf) <;> first
   | rw [wrapI_i64 (by omega)] | (show CondP _ _ _; refine cS ?_) | refine cD (fun _ => ?_) fun _ => ?_ | refine cE (fun _ => ?_) fun _ => ?_ | refine cT ?_ | refine cF ?_ | refine cN (fun _ => ?_) fun _ => ?_ | refine cI (fun _ => ?_) fun _ => ?_ | (refine callP_eq (ev_iPackOf _ _ _ _ rdcA) ?_) | refine rE fun hml => ?_ | refine rI rdA rf ix ?_ | (refine rd_loadm (f := GTab.d) rdA ix ?_; intro _ hcs; obtain ⟨_, _, _, rfl, _, _, _⟩ := GTab.inv hcs) | refine nP ?_ | refine draw_intro 48 [.fl 0, .fl 1, .fl 2, .fl 3, .fl 4, .st 5 [0, 1, 2], .fl 6, .st 7 []] (by rfl) (by kernel_rfl) ?_ | refine And.intro ?_ ?_)
  (conv => whnf)
  refine callP_intro (ev_grantsBut b.Grants ext _ _ pg (by omega)) ?_; rintro _ S4 ⟨e4, d3, rfl, f4⟩
  have E4 := EB.trans e4
  have J4 := J3.setAt (o := 3) e4 f4 EB.len (by show 3 < 8; decide)
  have pr := t5.ext E4
  repeat' ((conv => whnf) <;> first
   | rw [wrapI_i64 (by omega)] | (show CondP _ _ _; refine cS ?_) | refine cD (fun _ => ?_) fun _ => ?_ | refine cE (fun _ => ?_) fun _ => ?_ | refine cT ?_ | refine cF ?_ | refine cN (fun _ => ?_) fun _ => ?_ | refine cI (fun _ => ?_) fun _ => ?_ | (refine callP_eq (ev_iPackOf _ _ _ _ rdcA) ?_) | refine rE fun hml => ?_ | refine rI rdA rf ix ?_ | (refine rd_loadm (f := GTab.d) rdA ix ?_; intro _ hcs; obtain ⟨_, _, _, rfl, _, _, _⟩ := GTab.inv hcs) | refine nP ?_ | refine draw_intro 48 [.fl 0, .fl 1, .fl 2, .fl 3, .fl 4, .st 5 [0, 1, 2], .fl 6, .st 7 []] (by rfl) (by kernel_rfl) ?_ | refine And.intro ?_ ?_)
  (conv => whnf)
  refine callP_intro (ev_iDropRules b.Rules ext _ _ pr (by omega)) ?_; rintro _ S5 ⟨e5, d5, rfl, f5⟩
  have E5 := E4.trans e5
  have J5 := J4.setAt (o := 5) e5 f5 E4.len (by show 5 < 8; decide)
  have ps := t6.ext E5
  repeat' ((conv => whnf) <;> first
   | rw [wrapI_i64 (by omega)] | (show CondP _ _ _; refine cS ?_) | refine cD (fun _ => ?_) fun _ => ?_ | refine cE (fun _ => ?_) fun _ => ?_ | refine cT ?_ | refine cF ?_ | refine cN (fun _ => ?_) fun _ => ?_ | refine cI (fun _ => ?_) fun _ => ?_ | (refine callP_eq (ev_iPackOf _ _ _ _ rdcA) ?_) | refine rE fun hml => ?_ | refine rI rdA rf ix ?_ | (refine rd_loadm (f := GTab.d) rdA ix ?_; intro _ hcs; obtain ⟨_, _, _, rfl, _, _, _⟩ := GTab.inv hcs) | refine nP ?_ | refine draw_intro 48 [.fl 0, .fl 1, .fl 2, .fl 3, .fl 4, .st 5 [0, 1, 2], .fl 6, .st 7 []] (by rfl) (by kernel_rfl) ?_ | refine And.intro ?_ ?_)
  (conv => whnf)
  refine callP_intro (ev_iDropStored b.Store ext _ _ ps (by omega)) ?_; rintro _ S6 ⟨e6, d6, rfl, f6⟩
  have E6 := E5.trans e6
  have J6 : Fr S.length S6 (remAt b ext 0).d [.int .i64 b.Key, c1, cB, d3, c4, d5, d6, .int .i64 b.Now] := by
    have J := J5.setAt (o := 6) e6 f6 E5.len (by show 6 < 8; decide)
    simp only [remAt, GBrowser.d, hkt]
    exact J
  have pt := t1.ext E6
  repeat' ((conv => whnf) <;> first
   | rw [wrapI_i64 (by omega)] | (show CondP _ _ _; refine cS ?_) | refine cD (fun _ => ?_) fun _ => ?_ | refine cE (fun _ => ?_) fun _ => ?_ | refine cT ?_ | refine cF ?_ | refine cN (fun _ => ?_) fun _ => ?_ | refine cI (fun _ => ?_) fun _ => ?_ | (refine callP_eq (ev_iPackOf _ _ _ _ rdcA) ?_) | refine rE fun hml => ?_ | refine rI rdA rf ix ?_ | (refine rd_loadm (f := GTab.d) rdA ix ?_; intro _ hcs; obtain ⟨_, _, _, rfl, _, _, _⟩ := GTab.inv hcs) | refine nP ?_ | refine draw_intro 48 [.fl 0, .fl 1, .fl 2, .fl 3, .fl 4, .st 5 [0, 1, 2], .fl 6, .st 7 []] (by rfl) (by kernel_rfl) ?_ | (refine rd_lenm pt ?_; intro hml; rw [maxLen_eq] at hml) | refine And.intro ?_ ?_)
  refine loop_intro {q : Nat × Store // q.1 ≤ b.Tabs.length ∧ Ext S q.2 ∧ Fr S.length q.2 (remAt b ext q.1).d [.int .i64 b.Key, c1, cB, d3, c4, d5, d6, .int .i64 b.Now]} [8, 9, 43, 44, 45, 46, 47, 48, 49, 50, 51, 52, 53, 54, 55] (fun zb => [(43, .v (.s (.int .i64 zb.1.1)))]) (fun zb => zb.1.2) (fun zb => b.Tabs.length - zb.1.1) ⟨(0, _), Nat.zero_le _, ⟨E6, J6⟩⟩ ?_ rfl ?_
  · (conv => whnf); repeat' (first | exact trivial | exact rfl | apply And.intro)
  rintro ⟨⟨i, Si⟩, hi, hP⟩; dsimp only
  replace hi : i ≤ b.Tabs.length := hi
  replace hP : Ext S Si ∧ Fr S.length Si (remAt b ext i).d [.int .i64 b.Key, c1, cB, d3, c4, d5, d6, .int .i64 b.Now] := hP
  obtain ⟨hE, hF⟩ := hP
  have hlen := remAt_len b ext i hi
  have ti := t1.ext hE
  have oi : Rd Si [.sl 6 ((remAt b ext i).Tabs.map GTab.d)] [c1] := hF.rdAt (o := 1) rfl rfl
  by_cases hlt : i < b.Tabs.length
  · have hlt0 : 0 ≤ ((i : Nat) : Int) ∧ ((i : Nat) : Int).toNat < b.Tabs.length := ⟨by omega, by rw [Int.toNat_natCast]; exact hlt⟩
    have hlt1 : 0 ≤ ((i : Nat) : Int) ∧ ((i : Nat) : Int).toNat < (remAt b ext i).Tabs.length := by rw [hlen]; exact hlt0
    have hlt2 : 0 ≤ ((i : Nat) : Int) ∧ ((i : Nat) : Int).toNat < ((remAt b ext i).Tabs.map GTab.d).length := by rw [List.length_map]; exact hlt1
    obtain ⟨tcs, htr, htld⟩ := rd_loadx ti hlt0
    have htrR := htr
    obtain ⟨_, _, _, rfl, _, _, _⟩ := GTab.inv htr
    have hzt : szL (b.Tabs[((i : Nat) : Int).toNat]'hlt0.2).d ≤ szL.szLL (b.Tabs.map GTab.d) := szLL_mem (f := GTab.d) (List.getElem_mem hlt0.2)
    repeat' ((conv => whnf) <;> first
     | (refine rd_lenm oi ?_; intro hml2; rw [hlen]) | (refine rI oi rf hlt1 ?_) | (refine rI ti rf hlt0 ?_) | refine htld _ (by first | assumption | exact Ext.refl _) _ ?_ | rw [wrapI_i64 (by omega)] | (show CondP _ _ _; refine cS ?_) | refine cD (fun _ => ?_) fun _ => ?_ | refine cE (fun _ => ?_) fun _ => ?_ | refine cT ?_ | refine cF ?_ | refine cN (fun _ => ?_) fun _ => ?_ | refine cI (fun _ => ?_) fun _ => ?_ | (refine callP_eq (ev_iPackOf _ _ _ _ rdcA) ?_) | refine rE fun hml => ?_ | refine rI rdA rf ix ?_ | (refine rd_loadm (f := GTab.d) rdA ix ?_; intro _ hcs; obtain ⟨_, _, _, rfl, _, _, _⟩ := GTab.inv hcs) | refine nP ?_ | refine draw_intro 48 [.fl 0, .fl 1, .fl 2, .fl 3, .fl 4, .st 5 [0, 1, 2], .fl 6, .st 7 []] (by rfl) (by kernel_rfl) ?_ | refine And.intro ?_ ?_)
    all_goals try (exfalso; omega)
    (conv => whnf)
    refine callP_intro (ev_iTabWithout _ ext _ _ htrR (by omega)) ?_; rintro _ S7 ⟨e7, w1, w2, w3, rfl, f7⟩
    have J := hF.join e7 f7 hE.len
    have E7 := hE.trans e7
    have oj := oi.ext e7
    repeat' ((conv => whnf) <;> first
     | (refine rI oj rf hlt1 ?_) | rw [wrapI_i64 (by omega)] | (show CondP _ _ _; refine cS ?_) | refine cD (fun _ => ?_) fun _ => ?_ | refine cE (fun _ => ?_) fun _ => ?_ | refine cT ?_ | refine cF ?_ | refine cN (fun _ => ?_) fun _ => ?_ | refine cI (fun _ => ?_) fun _ => ?_ | (refine callP_eq (ev_iPackOf _ _ _ _ rdcA) ?_) | refine rE fun hml => ?_ | refine rI rdA rf ix ?_ | (refine rd_loadm (f := GTab.d) rdA ix ?_; intro _ hcs; obtain ⟨_, _, _, rfl, _, _, _⟩ := GTab.inv hcs) | refine nP ?_ | refine draw_intro 48 [.fl 0, .fl 1, .fl 2, .fl 3, .fl 4, .st 5 [0, 1, 2], .fl 6, .st 7 []] (by rfl) (by kernel_rfl) ?_ | (refine fr_stoMv (q := 1) (ds := (remAt b ext i).d) (A := []) (B := (b.Tabs[i]).d) (Z := []) E7 J rfl rfl rfl hlt2 (by rw [List.nil_append, List.append_nil, Int.toNat_natCast]; exact remAt_tab hlt) (by rfl) (by rfl) (by rfl) ?_; intro S8 e8 f8 l8) | refine And.intro ?_ ?_)
    all_goals try (exfalso; omega)
    refine ⟨⟨(i + 1, S8), by dsimp only; omega, e8, ?_⟩, ?_, rfl, by dsimp only; omega⟩
    · dsimp only
      rw [List.nil_append, List.append_nil] at f8
      have f9 : Fr S.length S8 ((remAt b ext i).d.set 1 (.sl 6 (((remAt b ext i).Tabs.map GTab.d).set i (tabWithout (b.Tabs[i]) ext).d))) [.int .i64 b.Key, c1, cB, d3, c4, d5, d6, .int .i64 b.Now] := f8
      rw [remAt_set hlt] at f9
      exact f9
    · (conv => whnf); repeat' (first | exact trivial | exact rfl | apply And.intro)
  · have hie : i = b.Tabs.length := by omega
    subst hie
    rw [remAt_all] at hF
    repeat' ((conv => whnf) <;> first
     | (refine rd_lenm oi ?_; intro hml2; rw [hlen]) | rw [wrapI_i64 (by omega)] | (show CondP _ _ _; refine cS ?_) | refine cD (fun _ => ?_) fun _ => ?_ | refine cE (fun _ => ?_) fun _ => ?_ | refine cT ?_ | refine cF ?_ | refine cN (fun _ => ?_) fun _ => ?_ | refine cI (fun _ => ?_) fun _ => ?_ | (refine callP_eq (ev_iPackOf _ _ _ _ rdcA) ?_) | (refine callP_intro (ev_iDropStored _ _ _ _ rdA om) ?_; rintro _ Sn ⟨hEn, cn, rfl, hFn⟩) | (refine callP_intro (ev_cloneBrowser _ _ _ rdcA (by (first | omega | exact sz_at hz om | (simp only [szL]; omega)))) ?_; rintro _ Sn ⟨hEn, _, _, _, _, _, _, rfl, hFn⟩) | (refine callP_intro (ev_iTabWithout _ _ _ _ rdcA (by (first | omega | exact sz_at hz om | (simp only [szL]; omega)))) ?_; rintro _ Sn ⟨hEn, _, _, _, rfl, hFn⟩) | refine rE fun hml => ?_ | refine rI rdA rf ix ?_ | (refine rd_loadm (f := GTab.d) rdA ix ?_; intro _ hcs; obtain ⟨_, _, _, rfl, _, _, _⟩ := GTab.inv hcs) | refine nP ?_ | refine draw_intro 48 [.fl 0, .fl 1, .fl 2, .fl 3, .fl 4, .st 5 [0, 1, 2], .fl 6, .st 7 []] (by rfl) (by kernel_rfl) ?_ | refine And.intro ?_ ?_)
    all_goals first
      | exact hE
      | exact ⟨_, _, _, _, _, _, rfl, hF⟩
      | (exfalso; omega)
end Go.Proofs.YtockphlpokoohaaGreat
namespace Go.Proofs.YtockphlpokoohaaGreat
open Go Go.ChangeShapes Go.WideShapes Go.ChangeAt Go.RowKit
set_option linter.unusedVariables false
set_option linter.unusedSimpArgs false
set_option maxRecDepth 100000
theorem tabOf_at {b : GBrowser} {tab : Int} (h : inR tab 0 ((b.Tabs.length : Int) - 1) = true) : ∃ hi : tab.toNat < b.Tabs.length, tabOf b tab = b.Tabs[tab.toNat] := by
  have := inR_t h
  refine ⟨by omega, ?_⟩
  unfold tabOf
  rw [List.getD_eq_getElem?_getD, List.getElem?_eq_getElem (by omega)]; rfl
theorem lend_grant {ext : Int} {s : GSite} {tick : Int} {g : GGrant} (h : g ∈ lendGrants ext s tick) : isGrant g = true ∧ isLent g = true ∧ g.Ext = ext := by
  unfold lendGrants at h
  split at h
  · rename_i hk
    unfold lendOk isSite inR at hk
    simp only [Bool.and_eq_true, decide_eq_true_eq] at hk
    have hg : ∀ k, (k = 1 ∨ k = 2) → isGrant (lendG ext s tick k) = true := fun k hk2 => by
      unfold isGrant isPattern inR
      simp only [Bool.and_eq_true, decide_eq_true_eq]
      refine ⟨⟨⟨⟨⟨?_, ?_, ?_⟩, ?_⟩, ?_⟩, ?_⟩, ?_⟩ <;> omega
    have hl : ∀ k, (k = 1 ∨ k = 2) → isLent (lendG ext s tick k) = true := fun k hk2 => by
      unfold isLent
      rw [hg k hk2]
      simp only [Bool.true_and, Bool.and_eq_true, Bool.or_eq_true, Bool.not_eq_true', decide_eq_true_eq, decide_eq_false_iff_not]
      refine ⟨⟨⟨⟨by omega, by omega⟩, hk2⟩, ?_⟩, ?_⟩ <;> trivial
    rcases List.mem_cons.1 h with rfl | h
    · exact ⟨hg 1 (.inl rfl), hl 1 (.inl rfl), rfl⟩
    · rw [List.mem_singleton] at h; subst h
      exact ⟨hg 2 (.inr rfl), hl 2 (.inr rfl), rfl⟩
  · cases h
theorem lendTo_cases (l : List GGrant) (ext : Int) (s : GSite) (tick : Int) : ((lendTo l ext s tick).2 = true → (lendTo l ext s tick).1.length ≤ 16) ∧ ∀ g ∈ (lendTo l ext s tick).1, g ∈ l ∨ (isGrant g = true ∧ isLent g = true ∧ g.Ext = ext) := by
  unfold lendTo
  split
  · exact ⟨fun h => Bool.noConfusion h, fun g hg => .inl hg⟩
  · rename_i hb
    unfold lendBad at hb
    simp only [Bool.or_eq_true, decide_eq_true_eq, not_or] at hb
    refine ⟨fun _ => by dsimp only; omega, fun g hg => ?_⟩
    rcases List.mem_append.1 hg with hg | hg
    · exact .inl hg
    · exact .inr (lend_grant (List.mem_filter.1 hg).1)
theorem clickTab_ok {b : GBrowser} (h : BrOk b) {tab : Int} (ht : inR tab 0 ((b.Tabs.length : Int) - 1) = true) : BrOk (clickTab b tab) := by
  obtain ⟨hi, he⟩ := tabOf_at ht
  have hm : b.Tabs[tab.toNat] ∈ b.Tabs := List.getElem_mem hi
  unfold clickTab
  rw [he]
  have := h.now
  have ht := h.tabs _ hm
  exact h.setTab (t := { b.Tabs[tab.toNat] with Click := b.Now }) ⟨ht.site, ht.doc, ht.len, by dsimp only; omega, ht.eds, ht.hid⟩ fun e he => h.eds _ hm e he
theorem stepClick_ok {b : GBrowser} (h : BrOk b) (tab ext : Int) : BrOk (stepClick b tab ext).1 := by
  unfold stepClick
  split
  · rename_i ht
    have h1 := clickTab_ok h ht
    dsimp only
    split
    · rename_i hc
      unfold clickLend at hc
      simp only [Bool.and_eq_true, decide_eq_true_eq] at hc
      obtain ⟨c1, c2⟩ := lendTo_cases b.Grants ext (tabOf b tab).Site b.Now
      refine h1.grants' (c1 hc.2) fun g hg => ?_
      rcases c2 g hg with hh | ⟨g1, _, g2⟩
      · exact ⟨h.grants g hh, h.gex g hh⟩
      · exact ⟨g1, by rw [g2]; exact packOf_mem.1 hc.1⟩
    · exact h1
  · exact h
theorem tabX_mem {b : GBrowser} {tab : Int} (hi : 0 ≤ tab ∧ tab.toNat < b.Tabs.length) : tabX b tab = b.Tabs[tab.toNat] ∧ b.Tabs[tab.toNat] ∈ b.Tabs := by
  unfold tabX
  rw [List.getD_eq_getElem?_getD, List.getElem?_eq_getElem hi.2]
  exact ⟨rfl, List.getElem_mem hi.2⟩
theorem applyEdit_ed {d : List GNode} {e : GEdit} (h : (applyEdit d e).2 = true) : isEdit e = true := by
  unfold applyEdit at h
  split at h
  · rename_i hk; rw [Bool.and_eq_true] at hk; exact hk.2
  · cases h
theorem appendEd_ok {b : GBrowser} (h : BrOk b) {tab : Int} {e : GEdit} (hi : 0 ≤ tab ∧ tab.toNat < b.Tabs.length) (hb : e.By = 0 ∨ e.By ∈ exts b) : BrOk (appendEd b tab e).1 := by
  unfold appendEd
  split
  · rename_i hk
    unfold mayPut at hk
    simp only [Bool.and_eq_true, decide_eq_true_eq] at hk
    obtain ⟨hx, hm⟩ := tabX_mem hi
    rw [hx] at hk
    have ht := h.tabs _ hm
    show BrOk (putEdit b tab e)
    unfold putEdit
    rw [hx]
    refine h.setTab (ht.edits (by rw [List.length_append, List.length_singleton]; omega) fun y hy => ?_) fun y hy => ?_
    · rcases List.mem_append.1 hy with hy | hy
      · exact ht.eds y hy
      · rw [List.mem_singleton.1 hy]; exact applyEdit_ed hk.1
    · rcases List.mem_append.1 hy with hy | hy
      · exact h.eds _ hm y hy
      · rw [List.mem_singleton.1 hy]; exact hb
  · exact h
theorem pageEdit_ok {b : GBrowser} (h : BrOk b) (tab : Int) (e : GEdit) : BrOk (pageEdit b tab e).1 := by
  unfold pageEdit
  split
  · rename_i ht
    have := inR_t ht
    exact appendEd_ok h (by omega) (.inl rfl)
  · exact h
theorem mayAct_ext {b : GBrowser} {ext tab kind : Int} (h : mayAct b ext tab kind = true) : ext ∈ exts b := by
  unfold mayAct at h
  rw [Bool.and_eq_true, decide_eq_true_eq] at h
  exact packOf_mem.1 h.1
theorem writeTab_ok {b : GBrowser} (h : BrOk b) (ext tab : Int) (e : GEdit) : BrOk (writeTab b ext tab e).1 := by
  unfold writeTab
  split
  · rename_i hk
    rw [Bool.and_eq_true] at hk
    exact appendEd_ok h (mayAct_in hk.1) (.inr (mayAct_ext hk.1))
  · exact h
theorem stepInstall_ok {b : GBrowser} (h : BrOk b) (p : GPackage) : BrOk (stepInstall b p).1 := by
  unfold stepInstall
  split
  · rename_i hk; exact br_iff.1 hk.2.2
  · exact h
theorem stepTick_ok {b : GBrowser} (h : BrOk b) (n : Int) : BrOk (stepTick b n).1 := by
  unfold stepTick
  split
  · rename_i hk
    rw [Bool.and_eq_true] at hk
    have h1 := inR_t hk.1
    have h2 := inR_t hk.2
    exact (h.now' (n := b.Now + n) (by omega)).filterG _
  · exact h
theorem fair_filter {l : List GRule} (h : isFair l = true) (P : GRule → Bool) : isFair (l.filter P) = true := by
  unfold isFair fair1 at h ⊢
  simp only [Bool.and_eq_true, decide_eq_true_eq, List.all_eq_true] at h ⊢
  refine ⟨Nat.le_trans (List.length_filter_le _ _) h.1, fun x hx => ?_⟩
  have hx' := h.2 x (List.mem_filter.1 hx).1
  refine ⟨hx'.1, Nat.le_trans ?_ hx'.2⟩
  exact (List.Sublist.filter _ (List.filter_sublist)).length_le
structure StoreOk (l : List GStored) : Prop where
  len : l.length ≤ 24
  val : ∀ x ∈ l, (1 ≤ x.Ext ∧ x.Ext ≤ 5) ∧ (0 ≤ x.Name ∧ x.Name ≤ 9) ∧ (0 ≤ x.Value ∧ x.Value ≤ 999) ∧ 1 ≤ x.Ver ∧ x.Ver ≤ 999
  asc : l.Pairwise fun x y => stLess x y = true
theorem stLess_trans {x y z : GStored} (h : stLess x y = true) (g : stLess y z = true) : stLess x z = true := by
  unfold stLess at h g ⊢
  simp only [Bool.or_eq_true, Bool.and_eq_true, decide_eq_true_eq] at h g ⊢
  omega
theorem stGo_at (m : List GStored) : ∀ (l : List GStored) (i : Nat), stGo m l i = true → ∀ (j : Nat) (h : j < l.length), okSt m l[j] (i + j) = true
  | [], _, _, j, h => absurd h (by simp)
  | p :: r, i, hg, j, h => by
    rw [stGo] at hg
    split at hg
    · rename_i hp
      match j, h with
      | 0, _ => exact hp
      | j + 1, h =>
        have := stGo_at m r (i + 1) hg j (by simpa using h)
        rw [show i + (j + 1) = i + 1 + j from by omega]; exact this
    · cases hg
theorem stGo_of (m : List GStored) : ∀ (l : List GStored) (i : Nat), (∀ (j : Nat) (h : j < l.length), okSt m l[j] (i + j) = true) → stGo m l i = true
  | [], _, _ => rfl
  | p :: r, i, h => by
    have h0 := h 0 (by simp)
    simp only [List.getElem_cons_zero, Nat.add_zero] at h0
    rw [stGo, if_pos h0]
    exact stGo_of m r (i + 1) fun j hj => by
      have := h (j + 1) (by simpa using hj)
      rw [show i + 1 + j = i + (j + 1) from by omega]; exact this
theorem store_iff {l : List GStored} : isStore l = true ↔ StoreOk l := by
  unfold isStore
  rw [Bool.and_eq_true, decide_eq_true_eq]
  constructor
  · rintro ⟨h0, h⟩
    have h1 := stGo_at l l 0 h
    have hv : ∀ (i : Nat) (hi : i < l.length), (inR (l[i]).Ext 1 5 && inR (l[i]).Name 0 9 && inR (l[i]).Value 0 999 && inR (l[i]).Ver 1 999) = true := fun i hi => by
      have h2 := h1 i hi
      rw [Nat.zero_add] at h2
      unfold okSt at h2
      rw [Bool.and_eq_true] at h2
      exact h2.1
    have hs : ∀ (i : Nat) (hi : i + 1 < l.length), stLess (l[i]) (l[i + 1]) = true := fun i hi => by
      have h2 := h1 (i + 1) hi
      rw [Nat.zero_add, okSt_pos (by omega) (by omega), Bool.and_eq_true] at h2
      have h3 := h2.2
      have e : (((i + 1 : Nat) : Int) - 1).toNat = i := by omega
      simp only [e] at h3
      exact h3
    have hl : ∀ (d i : Nat) (hi : i + d + 1 < l.length), stLess (l[i]'(by omega)) (l[i + d + 1]) = true := fun d => by
      induction d with
      | zero => exact fun i hi => hs i hi
      | succ d ih => exact fun i hi => stLess_trans (ih i (by omega)) (hs (i + d + 1) (by omega))
    refine ⟨h0, fun p hp => ?_, List.pairwise_iff_getElem.2 fun i j hi hj hij => ?_⟩
    · obtain ⟨i, hi, rfl⟩ := List.getElem_of_mem hp
      have := hv i hi
      simp only [inR, Bool.and_eq_true, decide_eq_true_eq] at this
      omega
    · have := hl (j - i - 1) i (by omega)
      simp only [show i + (j - i - 1) + 1 = j from by omega] at this
      exact this
  · intro h
    refine ⟨h.len, stGo_of l l 0 fun j hj => ?_⟩
    rw [Nat.zero_add]
    have hv := h.val _ (List.getElem_mem hj)
    have h4 : (inR (l[j]).Ext 1 5 && inR (l[j]).Name 0 9 && inR (l[j]).Value 0 999 && inR (l[j]).Ver 1 999) = true := by
      simp only [inR, Bool.and_eq_true, decide_eq_true_eq]; omega
    by_cases h0 : j = 0
    · subst h0; rw [okSt_zero]; exact h4
    · rw [okSt_pos (by omega) (by omega), h4, Bool.true_and]
      exact List.pairwise_iff_getElem.1 h.asc _ j (by omega) hj (by omega)
theorem store_filter {l : List GStored} (h : isStore l = true) (P : GStored → Bool) : isStore (l.filter P) = true := by
  rw [store_iff] at h ⊢
  exact ⟨Nat.le_trans (List.length_filter_le _ _) h.len, fun x hx => h.val x (List.mem_filter.1 hx).1, h.asc.sublist List.filter_sublist⟩
theorem cut_sub {α : Type} (l : List α) (i : Nat) : (l.take i ++ l.drop (i + 1)).Sublist l := by
  have : l = l.take i ++ l.drop i := (List.take_append_drop i l).symm
  conv => rhs; rw [this]
  exact List.Sublist.append (List.Sublist.refl _) (by rw [← List.drop_drop]; exact List.drop_sublist _ _)
theorem cut_mem {α : Type} {l : List α} {i : Nat} {x : α} (h : x ∈ l) : x ∈ l.take i ++ l.drop (i + 1) ∨ ∃ hi : i < l.length, x = l[i] := by
  rw [← List.take_append_drop i l, List.mem_append] at h
  rcases h with h | h
  · exact .inl (List.mem_append_left _ h)
  · by_cases hi : i < l.length
    · rw [List.drop_eq_getElem_cons hi] at h
      rcases List.mem_cons.1 h with h | h
      · exact .inr ⟨hi, h⟩
      · exact .inl (List.mem_append_right _ h)
    · rw [List.drop_eq_nil_of_le (by omega)] at h; cases h
abbrev packsBut (b : GBrowser) (ext : Int) : List GPackage := b.Packs.take (packOf b ext).toNat ++ b.Packs.drop ((packOf b ext).toNat + 1)
theorem packsBut_mem {b : GBrowser} {ext : Int} (h : 0 ≤ packOf b ext) {p : GPackage} (hp : p ∈ b.Packs) (hn : p.Ext ≠ ext) : p ∈ packsBut b ext := by
  obtain ⟨hi, he⟩ := packOf_at h
  rcases cut_mem (i := (packOf b ext).toNat) hp with h | ⟨_, e⟩
  · exact h
  · exact absurd (e ▸ he) hn
theorem packsBut_not {b : GBrowser} (hb : BrOk b) {ext : Int} (h : 0 ≤ packOf b ext) {p : GPackage} (hp : p ∈ packsBut b ext) : p.Ext ≠ ext := by
  obtain ⟨hi, he⟩ := packOf_at h
  have ha := List.pairwise_iff_getElem.1 hb.asc
  rcases List.mem_append.1 hp with hp | hp
  · obtain ⟨j, hj, rfl⟩ := List.getElem_of_mem hp
    rw [List.getElem_take]
    rw [List.length_take] at hj
    have := ha j (packOf b ext).toNat (by omega) hi (by omega)
    omega
  · obtain ⟨j, hj, rfl⟩ := List.getElem_of_mem hp
    rw [List.getElem_drop]
    rw [List.length_drop] at hj
    have := ha (packOf b ext).toNat ((packOf b ext).toNat + 1 + j) hi (by omega) (by omega)
    omega
theorem tabW_ok {t : GTab} (h : TabOk t) (ext : Int) : TabOk (tabWithout t ext) :=
  h.edits (Nat.le_trans (List.length_filter_le _ _) h.len) fun e he => h.eds e (List.mem_filter.1 he).1
theorem stepRemove_ok {b : GBrowser} (h : BrOk b) (ext : Int) : BrOk (stepRemove b ext).1 := by
  unfold stepRemove
  split
  · rename_i hp
    have hin : ∀ x ∈ exts b, x ≠ ext → x ∈ (packsBut b ext).map GPackage.Ext := fun x hx hn => by
      obtain ⟨p, hp1, hp2⟩ := List.mem_map.1 hx
      exact List.mem_map.2 ⟨p, packsBut_mem hp hp1 (by rw [hp2]; exact hn), hp2⟩
    have hsub : ∀ p ∈ packsBut b ext, p ∈ b.Packs := fun p hp => (cut_sub _ _).subset hp
    show BrOk (remTo b ext)
    refine ⟨h.key, by have := h.tl; simp only [remTo, List.length_map]; omega, Nat.le_trans (cut_sub _ _).length_le h.pl, Nat.le_trans (List.length_filter_le _ _) h.gl, h.ll, fair_filter h.fair _, store_filter h.store _, h.now, fun p hp => h.sld p (hsub p hp), h.asc.sublist (cut_sub _ _), fun t ht => ?_, fun t ht e he => ?_, fun g hg => h.grants g (List.mem_filter.1 hg).1, fun g hg => ?_, h.lims, fun r hr => ?_, fun x hx => ?_⟩
    · obtain ⟨t0, h0, rfl⟩ := List.mem_map.1 ht
      exact tabW_ok (h.tabs t0 h0) ext
    · obtain ⟨t0, h0, rfl⟩ := List.mem_map.1 ht
      have he' := List.mem_filter.1 he
      refine (h.eds t0 h0 e he'.1).imp id fun hx => hin _ hx ?_
      have := he'.2
      unfold edNot at this
      simpa using this
    · have hg' := List.mem_filter.1 hg
      refine hin _ (h.gex g hg'.1) ?_
      have := hg'.2
      unfold gBut at this
      simpa using this
    · have hg' := List.mem_filter.1 hr
      refine hin _ (h.rex r hg'.1) ?_
      have := hg'.2
      unfold rBut at this
      simpa using this
    · have hg' := List.mem_filter.1 hx
      refine hin _ (h.sex x hg'.1) ?_
      have := hg'.2
      unfold stNot at this
      simpa using this
  · exact h
end Go.Proofs.YtockphlpokoohaaGreat
