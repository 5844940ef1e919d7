/- The step of an update. -/
import Derived.Test.YtibglkkmjigooaaGreatFnZs
namespace Go.Proofs.YtibglkkmjigooaaGreat
open Go Go.ChangeShapes Go.WideShapes Go.ChangeAt Go.RowKit
set_option linter.unusedVariables false
set_option maxRecDepth 100000

def updTo (b : GBrowser) (p : GPackage) : GBrowser := { b with Packs := b.Packs.set (packOf b p.Ext).toNat p, Grants := b.Grants.filter (gBut p.Ext) ++ p.Grants, Rules := b.Rules.filter (rBut p.Ext) ++ p.Rules }
def stepUpdate (b : GBrowser) (p : GPackage) (consent : Bool) : GBrowser × Bool :=
  if 0 ≤ packOf b p.Ext ∧ updCode b.Key (packageOf b p.Ext) p consent = 0 ∧ isBrowser (updTo b p) = true then (updTo b p, true) else (b, false)
theorem szLLu {α : Type} {f : α → List D} (a : α) : ∀ (l : List α) (i : Nat), szL.szLL ((l.set i a).map f) ≤ szL.szLL (l.map f) + szL (f a)
  | [], i => by rw [List.set_nil]; exact Nat.le_add_right _ _
  | x :: l, 0 => by rw [List.set_cons_zero, List.map_cons, List.map_cons, szL.szLL, szL.szLL]; omega
  | x :: l, i + 1 => by have := szLLu (f := f) a l i; rw [List.set_cons_succ, List.map_cons, List.map_cons, szL.szLL, szL.szLL]; omega
theorem szBru (b : GBrowser) : szL b.d = b.Tabs.length + szL.szLL (b.Tabs.map GTab.d) + (b.Packs.length + szL.szLL (b.Packs.map GPackage.d) + (b.Grants.length + (b.Limits.length + (b.Rules.length + b.Store.length)))) := by
  simp only [GBrowser.d, szL, List.length_map]
  rw [szLL_flat (f := GGrant.d) (by intro x; simp only [szL, GGrant.d]), szLL_flat (f := GLimit.d) (by intro x; simp only [szL, GLimit.d]), szLL_flat (f := GRule.d) (by intro x; simp only [szL, GRule.d]), szLL_flat (f := GStored.d) (by intro x; simp only [szL, GStored.d])]
  omega
theorem szPku (p : GPackage) : szL p.d = p.Grants.length + (p.Flows.length + (p.Rules.length + p.Ops.length)) := by
  simp only [GPackage.d, szL, List.length_map]
  rw [szLL_flat (f := GGrant.d) (by intro x; simp only [szL, GGrant.d]), szLL_flat (f := GFlow.d) (by intro x; simp only [szL, GFlow.d]), szLL_flat (f := GRule.d) (by intro x; simp only [szL, GRule.d]), szLL_flat (f := GOp.d) (by intro x; simp only [szL, GOp.d])]
  omega
theorem szUpdTo (b : GBrowser) (p : GPackage) : szL (updTo b p).d ≤ szL b.d + 2 * szL p.d := by
  have h1 := szLLu (f := GPackage.d) p b.Packs (packOf b p.Ext).toNat
  have h2 := List.length_filter_le (gBut p.Ext) b.Grants
  have h3 := List.length_filter_le (rBut p.Ext) b.Rules
  have h4 := szPku p
  rw [szBru, szBru]
  simp only [updTo, List.length_set, List.length_append]
  omega
theorem szStepUpdate (b : GBrowser) (p : GPackage) (consent : Bool) : szL (stepUpdate b p consent).1.d ≤ szL b.d + 2 * szL p.d := by
  unfold stepUpdate
  split
  · exact szUpdTo b p
  · exact Nat.le_add_right _ _
theorem upd_no1 {b : GBrowser} {p : GPackage} {consent : Bool} (h : ¬ 0 ≤ packOf b p.Ext) : stepUpdate b p consent = (b, false) := if_neg fun hh => h hh.1
theorem upd_no2 {b : GBrowser} {p : GPackage} {consent : Bool} (h0 : 0 ≤ packOf b p.Ext) (hl : (packOf b p.Ext).toNat < b.Packs.length) (h : ¬ updCode b.Key (b.Packs[(packOf b p.Ext).toNat]'hl) p consent = 0) : stepUpdate b p consent = (b, false) :=
  if_neg fun hh => h (by rw [← packageOf_in h0 hl]; exact hh.2.1)
theorem upd_no3 {b : GBrowser} {p : GPackage} {consent : Bool} (h : isBrowser (updTo b p) = false) : stepUpdate b p consent = (b, false) := if_neg fun hh => (by rw [h] at hh; cases hh.2.2)
theorem upd_yes {b : GBrowser} {p : GPackage} {consent : Bool} (h0 : 0 ≤ packOf b p.Ext) (hl : (packOf b p.Ext).toNat < b.Packs.length) (h : updCode b.Key (b.Packs[(packOf b p.Ext).toNat]'hl) p consent = 0) (hb : isBrowser (updTo b p) = true) : stepUpdate b p consent = (updTo b p, true) :=
  if_pos ⟨h0, by rw [packageOf_in h0 hl]; exact h, hb⟩
theorem pk_at {l : List GPackage} {i : Nat} (h : i < l.length) : (l.map GPackage.d)[i]? = some (l[i]).d := by simp [h]
set_option maxHeartbeats 4000000 in
theorem ev_sStepUpdate (b : GBrowser) (p : GPackage) (consent : Bool) (cs cs' : List C) (S : Store) (h : Rd S b.d cs) (h' : Rd S p.d cs') (hz : szL b.d ≤ 1048576) (hz' : szL p.d ≤ 1048576) : EvA Tryz.prog 25 [.agg cs, .agg cs', .s (.bool consent)] S (fun r S' => Ext S S' ∧ ∃ c1 c2 c3 c4 c5 c6, r = .tup [.agg [.int .i64 (stepUpdate b p consent).1.Key, c1, c2, c3, c4, c5, c6, .int .i64 (stepUpdate b p consent).1.Now], .s (.bool (stepUpdate b p consent).2)] ∧ Fr S.length S' (stepUpdate b p consent).1.d [.int .i64 (stepUpdate b p consent).1.Key, c1, c2, c3, c4, c5, c6, .int .i64 (stepUpdate b p consent).1.Now]) := by
  have hzs := hz
  simp only [GBrowser.d, szL, List.length_map] at hzs
  have hzq := szPku p
  have hzu := szUpdTo b p
  have hfg := List.length_filter_le (gBut p.Ext) b.Grants
  have hfr := List.length_filter_le (rBut p.Ext) b.Rules
  have hB := h
  have hP := h'
  obtain ⟨_, _, _, _, rfl, p1, p2, p3, p4⟩ := GPackage.inv h'
  obtain ⟨b1, b2, b3, b4, b5, b6, rfl, t1, t2, t3, t4, t5, t6⟩ := GBrowser.inv h
  refine evA_intro tok Tryz.func25 (by kernel_rfl) rfl ?_
  skip
  (conv => whnf)
  refine callP_intro (ev_l32Copy b _ _ hB (by omega)) ?_; rintro _ S0 ⟨e0, c1, c2, c3, c4, c5, c6, rfl, f0⟩
  by_cases hp0 : 0 ≤ packOf b p.Ext
  · have hpl : (packOf b p.Ext).toNat < b.Packs.length := by have := packOf_lt b p.Ext; omega
    have hp1 : 0 ≤ packOf b p.Ext ∧ (packOf b p.Ext).toNat < b.Packs.length := ⟨hp0, hpl⟩
    obtain ⟨pcs, hpr, hpld⟩ := rd_loadx t2 hp1
    have hprR := hpr
    obtain ⟨_, _, _, _, rfl, _, _, _, _⟩ := GPackage.inv hpr
    have hzo : szL (b.Packs[(packOf b p.Ext).toNat]'hpl).d ≤ szL.szLL (b.Packs.map GPackage.d) := szLL_mem (f := GPackage.d) (List.getElem_mem hpl)
    repeat' ((conv => whnf) <;> first
     | (refine callP_eq (ev_sPackOf b p.Ext _ _ (hB.ext e0)) ?_) | refine hpld _ (by first | assumption | exact Ext.refl _) _ ?_ | (show CondP _ _ _; refine cS ?_) | refine rI rdA rf ix ?_ | refine draw_intro 22 [.fl 0, .fl 1, .fl 2, .fl 3, .fl 4, .fl 5, .fl 6, .fl 7, .fl 8, .fl 13, .st 9 [13], .fl 10, .fl 11, .fl 12, .st 14 [12], .st 15 []] (by rfl) (by kernel_rfl) ?_)
    all_goals try (exfalso; omega)
    (conv => whnf)
    refine callP_intro (ev_sUpdPack b.Key (b.Packs[(packOf b p.Ext).toNat]'hpl) p consent _ _ _ (hprR.ext e0) (hP.ext e0) (by omega) (by omega)) ?_; rintro _ S1 ⟨e1, q3, q4, q5, q6, rfl, f1⟩
    have E2 := e0.trans e1
    by_cases hu : ¬ updCode b.Key (b.Packs[(packOf b p.Ext).toNat]'hpl) p consent = 0
    · rw [upd_no2 hp0 hpl hu]
      rw [show updated b.Key (b.Packs[(packOf b p.Ext).toNat]'hpl) p consent = (b.Packs[(packOf b p.Ext).toNat]'hpl, false) from if_neg hu]
      repeat' ((conv => whnf) <;> first
       | refine cT ?_ | refine And.intro ?_ ?_)
      all_goals first
        | exact E2
        | exact ⟨_, _, _, _, _, _, rfl, f0.ext e1⟩
        | (exfalso; simp_all; done)
    replace hu := Decidable.not_not.1 hu
    rw [show updated b.Key (b.Packs[(packOf b p.Ext).toNat]'hpl) p consent = (p, true) from if_pos hu] at f1 ⊢
    have J := f0.join e1 f1 e0.len

    have r2 := J.rdAt (o := 2) (d := .sl 8 (b.Packs.map GPackage.d)) rfl rfl
    have r0 : 0 ≤ packOf b p.Ext ∧ (packOf b p.Ext).toNat < (b.Packs.map GPackage.d).length := by rw [List.length_map]; exact hp1
    repeat' ((conv => whnf) <;> first
     | refine cF ?_ | refine rI rdA rf ix ?_ | refine draw_intro 42 [.fl 0, .fl 1, .fl 2, .fl 3, .fl 5, .fl 6, .st 4 [5, 6], .st 7 [], .fl 8, .st 9 []] (by rfl) (by kernel_rfl) ?_ | refine draw_intro 51 [.fl 0, .fl 1, .fl 2, .fl 3, .fl 5, .fl 6, .st 4 [5, 6], .st 7 [], .fl 8, .st 9 []] (by rfl) (by kernel_rfl) ?_ | (refine fr_stoMv (q := 2) (ds := b.d) (A := []) (B := (b.Packs[(packOf b p.Ext).toNat]'hpl).d) (B' := p.d) (Z := []) E2 J rfl rfl rfl r0 (by rw [List.nil_append, List.append_nil]; exact pk_at hpl) (by rfl) (by rfl) (by rfl) ?_; intro S3 e3 f3 l3) | refine And.intro ?_ ?_)
    all_goals try (exfalso; omega)
    rw [List.nil_append, List.append_nil] at f3
    (conv => whnf)
    refine callP_intro (ev_l35Others b.Grants p.Ext _ _ (t3.ext e3) (by omega)) ?_; rintro _ S4 ⟨e4, d3, rfl, f4⟩
    have pg := p1.ext (e3.trans e4)
    repeat' ((conv => whnf) <;> first
     | (refine rd_elemsf (f := GGrant.d) (l := p.Grants) pg tv (fun _ => ?_)) | refine And.intro ?_ ?_)
    (conv => whnf)
    refine fr_app_flat (f := GGrant.d) (S0 := S3) (l := b.Grants.filter (gBut p.Ext)) (m := p.Grants) (fun _ => trivial) e4 f4 rfl (by intro _; rfl) (by dsimp only [T124, T126]; omega) (by rw [maxLen_eq]; omega) ?_; intro g3 S5 e5 f5 l5
    have E5 := e3.trans e5
    have J5 := f3.setAt (o := 3) e5 f5 e3.len (by show 3 < 8; decide)
    repeat' ((conv => whnf) <;> first
     | refine draw_intro 42 [.fl 0, .fl 1, .fl 2, .fl 3, .fl 5, .fl 6, .st 4 [5, 6], .st 7 [], .fl 8, .st 9 []] (by rfl) (by kernel_rfl) ?_ | refine draw_intro 51 [.fl 0, .fl 1, .fl 2, .fl 3, .fl 5, .fl 6, .st 4 [5, 6], .st 7 [], .fl 8, .st 9 []] (by rfl) (by kernel_rfl) ?_)
    (conv => whnf)
    refine callP_intro (ev_sDropRules b.Rules p.Ext _ _ (t5.ext E5) (by omega)) ?_; rintro _ S6 ⟨e6, d5, rfl, f6⟩
    have pr := p3.ext (E5.trans e6)
    repeat' ((conv => whnf) <;> first
     | (refine rd_elemsf (f := GRule.d) (l := p.Rules) pr tv (fun _ => ?_)) | refine And.intro ?_ ?_)
    (conv => whnf)
    refine fr_app_flat (f := GRule.d) (S0 := S5) (l := b.Rules.filter (rBut p.Ext)) (m := p.Rules) (fun _ => trivial) e6 f6 rfl (by intro _; rfl) (by dsimp only [T124, T126]; omega) (by rw [maxLen_eq]; omega) ?_; intro g5 S7 e7 f7 l7
    have E7 := E5.trans e7
    have J7 : Fr S.length S7 (updTo b p).d [.int .i64 b.Key, c1, c2, g3, c4, g5, c6, .int .i64 b.Now] := by
      have J6 := J5.setAt (o := 5) e7 f7 E5.len (by show 5 < 8; decide)
      simp only [updTo, GBrowser.d]
      rw [List.map_set]
      exact J6
    rcases hk : isBrowser (updTo b p) with _ | _
    · rw [upd_no3 hk]
      repeat' ((conv => whnf) <;> first
       | (refine callP_eq (ev_sIsBrowser (updTo b p) _ _ J7.rd om) ?_) | (show CondP _ _ _; refine cS ?_))
      all_goals try (exfalso; simp_all; done)
      (conv => whnf)
      refine callP_intro (ev_l32Copy b _ _ (hB.ext E7) (by omega)) ?_; rintro _ S8 ⟨e8, g1, g2, g3', g4, g5', g6, rfl, f8⟩
      repeat' ((conv => whnf) <;> first
       | refine And.intro ?_ ?_)
      all_goals first
        | exact E7.trans e8
        | exact ⟨_, _, _, _, _, _, rfl, f8.mono E7.len⟩
    · rw [upd_yes hp0 hpl hu hk]
      repeat' ((conv => whnf) <;> first
       | (refine callP_eq (ev_sIsBrowser (updTo b p) _ _ J7.rd om) ?_) | (show CondP _ _ _; refine cS ?_) | refine And.intro ?_ ?_)
      all_goals first
        | exact E7
        | exact ⟨_, _, _, _, _, _, rfl, J7⟩
        | (exfalso; simp_all; done)
  · rw [upd_no1 hp0]
    repeat' ((conv => whnf) <;> first
     | (refine callP_eq (ev_sPackOf b p.Ext _ _ (hB.ext e0)) ?_) | (show CondP _ _ _; refine cS ?_) | refine And.intro ?_ ?_)
    all_goals first
      | exact e0
      | exact ⟨_, _, _, _, _, _, rfl, f0⟩
      | (exfalso; omega)
set_option maxHeartbeats 4000000 in
theorem ev_iStepUpdate (b : GBrowser) (p : GPackage) (consent : Bool) (cs cs' : List C) (S : Store) (h : Rd S b.d cs) (h' : Rd S p.d cs') (hz : szL b.d ≤ 1048576) (hz' : szL p.d ≤ 1048576) : EvA Tryz.prog 26 [.agg cs, .agg cs', .s (.bool consent)] S (fun r S' => Ext S S' ∧ ∃ c1 c2 c3 c4 c5 c6, r = .tup [.agg [.int .i64 (stepUpdate b p consent).1.Key, c1, c2, c3, c4, c5, c6, .int .i64 (stepUpdate b p consent).1.Now], .s (.bool (stepUpdate b p consent).2)] ∧ Fr S.length S' (stepUpdate b p consent).1.d [.int .i64 (stepUpdate b p consent).1.Key, c1, c2, c3, c4, c5, c6, .int .i64 (stepUpdate b p consent).1.Now]) := by
  have hzs := hz
  simp only [GBrowser.d, szL, List.length_map] at hzs
  have hzq := szPku p
  have hzu := szUpdTo b p
  have hfg := List.length_filter_le (gBut p.Ext) b.Grants
  have hfr := List.length_filter_le (rBut p.Ext) b.Rules
  have hB := h
  have hP := h'
  obtain ⟨_, _, _, _, rfl, p1, p2, p3, p4⟩ := GPackage.inv h'
  obtain ⟨b1, b2, b3, b4, b5, b6, rfl, t1, t2, t3, t4, t5, t6⟩ := GBrowser.inv h
  by_cases hp0 : 0 ≤ packOf b p.Ext
  · have hpl : (packOf b p.Ext).toNat < b.Packs.length := by have := packOf_lt b p.Ext; omega
    have hp1 : 0 ≤ packOf b p.Ext ∧ (packOf b p.Ext).toNat < b.Packs.length := ⟨hp0, hpl⟩
    obtain ⟨pcs, hpr, hpld⟩ := rd_loadx t2 hp1
    have hprR := hpr
    obtain ⟨_, _, _, _, rfl, _, _, _, _⟩ := GPackage.inv hpr
    have hzo : szL (b.Packs[(packOf b p.Ext).toNat]'hpl).d ≤ szL.szLL (b.Packs.map GPackage.d) := szLL_mem (f := GPackage.d) (List.getElem_mem hpl)
    refine evA_intro tok Tryz.func26 (by kernel_rfl) rfl ?_
    repeat' ((conv => whnf) <;> first
     | (refine callP_eq (ev_iPackOf b p.Ext _ _ hB) ?_) | refine hpld _ (by first | assumption | exact Ext.refl _) _ ?_ | (show CondP _ _ _; refine cS ?_) | refine rI rdA rf ix ?_ | refine draw_intro 21 [.fl 0, .fl 1, .fl 2, .fl 3, .fl 4, .fl 5, .fl 6, .fl 7, .fl 8, .fl 13, .st 9 [13], .fl 10, .fl 11, .fl 12, .st 14 [12], .st 15 []] (by rfl) (by kernel_rfl) ?_)
    all_goals try (exfalso; omega)
    (conv => whnf)
    refine callP_intro (ev_iUpdPack b.Key (b.Packs[(packOf b p.Ext).toNat]'hpl) p consent _ _ _ hprR hP (by omega) (by omega)) ?_; rintro _ S1 ⟨e1, q3, q4, q5, q6, rfl, f1⟩
    by_cases hu : ¬ updCode b.Key (b.Packs[(packOf b p.Ext).toNat]'hpl) p consent = 0
    · rw [upd_no2 hp0 hpl hu]
      rw [show updated b.Key (b.Packs[(packOf b p.Ext).toNat]'hpl) p consent = (b.Packs[(packOf b p.Ext).toNat]'hpl, false) from if_neg hu]
      repeat' ((conv => whnf) <;> first
       | refine cT ?_ | refine And.intro ?_ ?_)
      all_goals try (exfalso; simp_all; done)
      (conv => whnf)
      refine callP_intro (ev_cloneBrowser b _ _ (hB.ext e1) (by omega)) ?_; rintro _ S2 ⟨e2, c1, c2, c3, c4, c5, c6, rfl, f2⟩
      repeat' ((conv => whnf) <;> first
       | refine And.intro ?_ ?_)
      all_goals first
        | exact e1.trans e2
        | exact ⟨_, _, _, _, _, _, rfl, f2.mono e1.len⟩
    replace hu := Decidable.not_not.1 hu
    rw [show updated b.Key (b.Packs[(packOf b p.Ext).toNat]'hpl) p consent = (p, true) from if_pos hu] at f1 ⊢
    repeat' ((conv => whnf) <;> first
     | refine cF ?_ | refine And.intro ?_ ?_)
    all_goals try (exfalso; simp_all; done)
    (conv => whnf)
    refine callP_intro (ev_cloneBrowser b _ _ (hB.ext e1) (by omega)) ?_; rintro _ S2 ⟨e2, c1, c2, c3, c4, c5, c6, rfl, f2⟩
    have E2 := e1.trans e2
    have J := (f1.join e2 f2 e1.len).swap rfl

    have r2 := J.rdAt (o := 2) (d := .sl 8 (b.Packs.map GPackage.d)) rfl rfl
    have r0 : 0 ≤ packOf b p.Ext ∧ (packOf b p.Ext).toNat < (b.Packs.map GPackage.d).length := by rw [List.length_map]; exact hp1
    repeat' ((conv => whnf) <;> first
     | refine rI rdA rf ix ?_ | refine draw_intro 44 [.fl 0, .fl 1, .fl 2, .fl 3, .fl 5, .fl 6, .st 4 [5, 6], .st 7 [], .fl 8, .st 9 []] (by rfl) (by kernel_rfl) ?_ | refine draw_intro 53 [.fl 0, .fl 1, .fl 2, .fl 3, .fl 5, .fl 6, .st 4 [5, 6], .st 7 [], .fl 8, .st 9 []] (by rfl) (by kernel_rfl) ?_ | (refine fr_stoMv (q := 2) (ds := b.d) (A := []) (B := (b.Packs[(packOf b p.Ext).toNat]'hpl).d) (B' := p.d) (Z := []) E2 J rfl rfl rfl r0 (by rw [List.nil_append, List.append_nil]; exact pk_at hpl) (by rfl) (by rfl) (by rfl) ?_; intro S3 e3 f3 l3))
    all_goals try (exfalso; omega)
    rw [List.nil_append, List.append_nil] at f3
    (conv => whnf)
    refine callP_intro (ev_grantsBut b.Grants p.Ext _ _ (t3.ext e3) (by omega)) ?_; rintro _ S4 ⟨e4, d3, rfl, f4⟩
    have pg := p1.ext (e3.trans e4)
    repeat' ((conv => whnf) <;> first
     | (refine rd_elemsf (f := GGrant.d) (l := p.Grants) pg tv (fun _ => ?_)) | refine And.intro ?_ ?_)
    (conv => whnf)
    refine fr_app_flat (f := GGrant.d) (S0 := S3) (l := b.Grants.filter (gBut p.Ext)) (m := p.Grants) (fun _ => trivial) e4 f4 rfl (by intro _; rfl) (by dsimp only [T124, T126]; omega) (by rw [maxLen_eq]; omega) ?_; intro g3 S5 e5 f5 l5
    have E5 := e3.trans e5
    have J5 := f3.setAt (o := 3) e5 f5 e3.len (by show 3 < 8; decide)
    repeat' ((conv => whnf) <;> first
     | refine draw_intro 44 [.fl 0, .fl 1, .fl 2, .fl 3, .fl 5, .fl 6, .st 4 [5, 6], .st 7 [], .fl 8, .st 9 []] (by rfl) (by kernel_rfl) ?_ | refine draw_intro 53 [.fl 0, .fl 1, .fl 2, .fl 3, .fl 5, .fl 6, .st 4 [5, 6], .st 7 [], .fl 8, .st 9 []] (by rfl) (by kernel_rfl) ?_)
    (conv => whnf)
    refine callP_intro (ev_iDropRules b.Rules p.Ext _ _ (t5.ext E5) (by omega)) ?_; rintro _ S6 ⟨e6, d5, rfl, f6⟩
    have pr := p3.ext (E5.trans e6)
    repeat' ((conv => whnf) <;> first
     | (refine rd_elemsf (f := GRule.d) (l := p.Rules) pr tv (fun _ => ?_)) | refine And.intro ?_ ?_)
    (conv => whnf)
    refine fr_app_flat (f := GRule.d) (S0 := S5) (l := b.Rules.filter (rBut p.Ext)) (m := p.Rules) (fun _ => trivial) e6 f6 rfl (by intro _; rfl) (by dsimp only [T124, T126]; omega) (by rw [maxLen_eq]; omega) ?_; intro g5 S7 e7 f7 l7
    have E7 := E5.trans e7
    have J7 : Fr S.length S7 (updTo b p).d [.int .i64 b.Key, c1, c2, g3, c4, g5, c6, .int .i64 b.Now] := by
      have J6 := J5.setAt (o := 5) e7 f7 E5.len (by show 5 < 8; decide)
      simp only [updTo, GBrowser.d]
      rw [List.map_set]
      exact J6
    rcases hk : isBrowser (updTo b p) with _ | _
    · rw [upd_no3 hk]
      repeat' ((conv => whnf) <;> first
       | (refine callP_eq (ev_iIsBrowser (updTo b p) _ _ J7.rd om) ?_) | (show CondP _ _ _; refine cS ?_))
      all_goals try (exfalso; simp_all; done)
      (conv => whnf)
      refine callP_intro (ev_cloneBrowser b _ _ (hB.ext E7) (by omega)) ?_; rintro _ S8 ⟨e8, g1, g2, g3', g4, g5', g6, rfl, f8⟩
      repeat' ((conv => whnf) <;> first
       | refine And.intro ?_ ?_)
      all_goals first
        | exact E7.trans e8
        | exact ⟨_, _, _, _, _, _, rfl, f8.mono E7.len⟩
    · rw [upd_yes hp0 hpl hu hk]
      repeat' ((conv => whnf) <;> first
       | (refine callP_eq (ev_iIsBrowser (updTo b p) _ _ J7.rd om) ?_) | (show CondP _ _ _; refine cS ?_) | refine And.intro ?_ ?_)
      all_goals first
        | exact E7
        | exact ⟨_, _, _, _, _, _, rfl, J7⟩
        | (exfalso; simp_all; done)
  · rw [upd_no1 hp0]
    refine evA_intro tok Tryz.func26 (by kernel_rfl) rfl ?_
    repeat' ((conv => whnf) <;> first
     | (refine callP_eq (ev_iPackOf b p.Ext _ _ hB) ?_) | (show CondP _ _ _; refine cS ?_))
    all_goals try (exfalso; omega)
    (conv => whnf)
    refine callP_intro (ev_cloneBrowser b _ _ hB (by omega)) ?_; rintro _ S2 ⟨e2, c1, c2, c3, c4, c5, c6, rfl, f2⟩
    repeat' ((conv => whnf) <;> first
     | refine And.intro ?_ ?_)
    all_goals first
      | exact e2
      | exact ⟨_, _, _, _, _, _, rfl, f2⟩
end Go.Proofs.YtibglkkmjigooaaGreat
