/- What is read of a tab, written to it. Updates of packages; the step of an update. -/
import Derived.Test.YtlmmdpmmdmhacaaGreatKm41
import Derived.Test.YtlmmdpmmdmhacaaGreatKm26
import Derived.Test.YtlmmdpmmdmhacaaGreatKm31
import Derived.Test.YtlmmdpmmdmhacaaGreatKm33
import Derived.Test.YtlmmdpmmdmhacaaGreatKm28
namespace Go.Proofs.YtlmmdpmmdmhacaaGreat
open Go Go.ChangeShapes Go.WideShapes Go.ChangeAt Go.RowKit
set_option linter.unusedVariables false
set_option linter.unusedSimpArgs false
set_option maxRecDepth 100000
def tabX (b : GBrowser) (tab : Int) : GTab := b.Tabs.getD tab.toNat default
theorem tabx_at {l : List GTab} {i : Nat} (h : i < l.length) : (l.map GTab.d)[i]? = some (l[i]).d := by simp [h]
theorem mayAct_in {b : GBrowser} {ext tab kind : Int} (h : mayAct b ext tab kind = true) : 0 ≤ tab ∧ tab.toNat < b.Tabs.length := by
  rcases Classical.em (0 ≤ tab ∧ tab.toNat < b.Tabs.length) with h1 | h1
  · exact h1
  · unfold mayAct at h
    rw [tabNo_out h1, Bool.and_false] at h
    cases h
def docX (t : GTab) : List GNode := runEdits t.Base t.Edits
theorem loadP_det {S : Store} {c : C} {i : Int} {a b : List C} (h : LoadP S c i (fun cs => cs = a)) (g : LoadP S c i (fun cs => cs = b)) : a = b := by
  unfold LoadP at h g
  obtain ⟨l, e1, cs1, e2, _, e3⟩ := h
  obtain ⟨l', e1', cs2, e2', _, e3'⟩ := g
  rw [e1] at e1'; cases e1'
  rw [e2] at e2'; cases e2'
  rw [← e3, ← e3']
def putEdit (b : GBrowser) (tab : Int) (e : GEdit) : GBrowser := { b with Tabs := b.Tabs.set tab.toNat { tabX b tab with Edits := (tabX b tab).Edits ++ [e] } }
def mayPut (b : GBrowser) (tab : Int) (e : GEdit) : Bool := (applyEdit (docX (tabX b tab)) e).2 && decide ((tabX b tab).Edits.length < 40)
def appendEd (b : GBrowser) (tab : Int) (e : GEdit) : GBrowser × Bool := if mayPut b tab e then (putEdit b tab e, true) else (b, false)
def edAs (e : GEdit) (ext : Int) : GEdit := { e with By := ext }
def pageEdit (b : GBrowser) (tab : Int) (e : GEdit) : GBrowser × Bool := if inR tab 0 ((b.Tabs.length : Int) - 1) then appendEd b tab (edAs e 0) else (b, false)
def writeTab (b : GBrowser) (ext tab : Int) (e : GEdit) : GBrowser × Bool := if mayAct b ext tab 2 && mayEdit (docX (tabX b tab)) (tabX b tab).Hidden (edAs e ext) then appendEd b tab (edAs e ext) else (b, false)
theorem tab_hole {b : GBrowser} {tab : Int} {S0 S S2 : Store} {c1 c2 c3 c4 c5 c6 d2 d3 d4 : C} (ht : 0 ≤ tab ∧ tab.toNat < b.Tabs.length) (e2 : Ext S S2) (hE : Ext S0 S2) (h : Fr S0.length S2 b.d [.int .i64 b.Key, c1, c2, c3, c4, c5, c6, .int .i64 b.Now])
    (hld : ∀ S', Ext S S' → ∀ K : List C → Prop, K [.int .i64 (b.Tabs[tab.toNat]'ht.2).Site.Owner, .int .i64 (b.Tabs[tab.toNat]'ht.2).Site.Sub, d2, d3, d4, .int .i64 (b.Tabs[tab.toNat]'ht.2).Click] → LoadP S' c1 tab K) (e : GEdit) (hlen : (b.Tabs[tab.toNat]'ht.2).Edits.length ≤ 40)
    {by' : Nat} (hb : ((b.Tabs[tab.toNat]'ht.2).Edits.length + 1) * by' ≤ 140737488355328) {K : C → Store → Prop}
    (hK : ∀ c' S', Ext S0 S' → S2.length ≤ S'.length → (∀ K' : Prop, K' → IdxP S' c1 6 tab K') → (∀ K' : Store → Prop, (∀ S'', Ext S0 S'' → Fr S0.length S'' (putEdit b tab e).d [.int .i64 b.Key, c1, c2, c3, c4, c5, c6, .int .i64 b.Now] → K' S'') → StoP S' c1 tab 3 [c'] K') → K c' S') : AppP 6 by' S2 d3 [e.c] K := by
  have hto : tabX b tab = b.Tabs[tab.toNat]'ht.2 := getD_at ht.2
  obtain ⟨pcs2, c42, hl2, hr2, hc2, hap⟩ := fr_hole (q := 1) (k := 6) (k2 := 6) (i := tab) (off := 3) (A := [.x (.int .i64 (b.Tabs[tab.toNat]'ht.2).Site.Owner), .x (.int .i64 (b.Tabs[tab.toNat]'ht.2).Site.Sub), .sl 5 ((b.Tabs[tab.toNat]'ht.2).Base.map GNode.d)])
    (Z := [.sl 1 ((b.Tabs[tab.toNat]'ht.2).Hidden.map dInt), .x (.int .i64 (b.Tabs[tab.toNat]'ht.2).Click)]) (ys := (b.Tabs[tab.toNat]'ht.2).Edits.map GEdit.d) hE h rfl rfl (by rw [List.length_map]; exact ht) (tabx_at ht.2) rfl rfl
  have hpc := loadP_det (hld S2 e2 (fun cs => cs = [.int .i64 (b.Tabs[tab.toNat]'ht.2).Site.Owner, .int .i64 (b.Tabs[tab.toNat]'ht.2).Site.Sub, d2, d3, d4, .int .i64 (b.Tabs[tab.toNat]'ht.2).Click]) rfl) (hl2 (fun cs => cs = pcs2) rfl)
  subst hpc
  obtain rfl : d3 = c42 := Option.some.inj hc2
  refine hap [e.d] [e.c] by' (by rw [rep2_cons]; exact ⟨e.c, [], [], [], rfl, rfl, repL_flat (by exact trivial), by rw [rep2_nil]; exact ⟨rfl, rfl⟩⟩) (by intro y hy; simp at hy; subst hy; rfl) (by simpa using hb) (by simp; omega) K ?_
  intro c' S' a1 a2 a3 a4
  refine hK c' S' a1 a2 (fun K' hK' => ?_) (fun K' hK' => a4 K' (fun S'' b1 b2 _ => hK' S'' b1 ?_))
  · have := hld S2 e2 (fun cs => cs.length = 6) rfl
    unfold LoadP at this
    obtain ⟨l, e1, cs1, e2, e3, e4⟩ := this
    unfold IdxP
    exact ⟨l, cs1, by rw [a3]; exact e1, e3, e2, e4, hK'⟩
  · unfold putEdit
    rw [hto]
    simp only [GBrowser.d]
    rw [List.map_set]
    have e : (GTab.d { (b.Tabs[tab.toNat]'ht.2) with Edits := (b.Tabs[tab.toNat]'ht.2).Edits ++ [e] }) = [.x (.int .i64 (b.Tabs[tab.toNat]'ht.2).Site.Owner), .x (.int .i64 (b.Tabs[tab.toNat]'ht.2).Site.Sub), .sl 5 ((b.Tabs[tab.toNat]'ht.2).Base.map GNode.d)] ++ [.sl 6 ((b.Tabs[tab.toNat]'ht.2).Edits.map GEdit.d ++ [e.d])] ++ [.sl 1 ((b.Tabs[tab.toNat]'ht.2).Hidden.map dInt), .x (.int .i64 (b.Tabs[tab.toNat]'ht.2).Click)] := by
      simp only [GTab.d, List.map_append, List.map_cons, List.map_nil]; rfl
    rw [e]; exact b2
theorem appendEd_key (b : GBrowser) (tab : Int) (e : GEdit) : (appendEd b tab e).1.Key = b.Key ∧ (appendEd b tab e).1.Now = b.Now := by
  unfold appendEd; split <;> exact ⟨rfl, rfl⟩
set_option maxHeartbeats 2000000 in
theorem ev_l33Put (b : GBrowser) (tab : Int) (e : GEdit) (cs : List C) (S : Store) (h : Rd S b.d cs) (ht : 0 ≤ tab ∧ tab.toNat < b.Tabs.length) (hz : szL b.d ≤ 2097152) : EvA Tryz.prog 232 [.agg cs, .s (.int .i64 tab), .agg e.c] S (fun r S' => Ext S S' ∧ ∃ c1 c2 c3 c4 c5 c6, r = .tup [.agg [.int .i64 (appendEd b tab e).1.Key, c1, c2, c3, c4, c5, c6, .int .i64 (appendEd b tab e).1.Now], .s (.bool (appendEd b tab e).2)] ∧ Fr S.length S' (appendEd b tab e).1.d [.int .i64 (appendEd b tab e).1.Key, c1, c2, c3, c4, c5, c6, .int .i64 (appendEd b tab e).1.Now]) := by
  have hzs := hz
  simp only [GBrowser.d, szL, List.length_map] at hzs
  have hh := h
  obtain ⟨_, _, _, _, _, _, rfl, r1, _, _, _, _, _⟩ := GBrowser.inv h
  have hto : tabX b tab = (b.Tabs[tab.toNat]'ht.2) := getD_at ht.2
  have hst := szLL_mem (f := GTab.d) (List.getElem_mem ht.2)
  have hst2 : szL (b.Tabs[tab.toNat]'ht.2).d ≤ 2097152 := by omega
  have hst3 := hst2
  simp only [GTab.d, szL, List.length_map] at hst3
  have hrl : (docX (b.Tabs[tab.toNat]'ht.2)).length ≤ max (b.Tabs[tab.toNat]'ht.2).Base.length 16 := runEdits_len _ _
  obtain ⟨pcs, hpr, hpld⟩ := rd_loadx r1 ht
  obtain ⟨d2, d3, d4, rfl, q2, q3, q4⟩ := GTab.inv hpr
  refine evA_intro tok Tryz.func232 (by kernel_rfl) rfl ?_
  skip
  (conv => whnf)
  refine callP_intro (ev_l32Copy b _ _ hh (by omega)) ?_; rintro _ Sc ⟨e0, g1, g2, g3, g4, g5, g6, rfl, f0⟩
  have r1o : Rd Sc [.sl 6 (b.Tabs.map GTab.d)] [g1] := f0.rdAt (o := 1) rfl rfl
  have r1c := r1.ext e0
  obtain ⟨pco, hpo, hplo⟩ := rd_loadx r1o ht
  obtain ⟨o2, o3, o4, rfl, w2, w3, w4⟩ := GTab.inv hpo
  have hplc : ∀ S', Ext Sc S' → ∀ K : List C → Prop, K [.int .i64 (b.Tabs[tab.toNat]'ht.2).Site.Owner, .int .i64 (b.Tabs[tab.toNat]'ht.2).Site.Sub, d2, d3, d4, .int .i64 (b.Tabs[tab.toNat]'ht.2).Click] → LoadP S' _ tab K := fun S' e' K hK => hpld S' (e0.trans e') K hK
  have hprc := hpr.ext e0
  by_cases hp : (applyEdit (docX (b.Tabs[tab.toNat]'ht.2)) e).2 = true ∧ (b.Tabs[tab.toNat]'ht.2).Edits.length < 40
  · obtain ⟨p1, p2⟩ := hp
    rw [show appendEd b tab e = (putEdit b tab e, true) from by unfold appendEd mayPut; rw [hto, p1, decide_eq_true p2]; rfl]
    repeat' ((conv => whnf) <;> first
     | (refine hsA _ ?_; intro SB hEB hFB) | (refine hiA _ ?_) | (refine tab_hole ht E2 (e0.trans E2) (f0.ext E2) hplo e om (by dsimp only [T87]; omega) ?_; intro cA SA hEA hlA hiA hsA) | (refine callP_intro (ev_sApplyEdit (docX (b.Tabs[tab.toNat]'ht.2)) e _ _ (by exact f1.rd) om) ?_; rintro _ S2 ⟨e2, d5, rfl, f2⟩; have E2 := e1.trans e2; have q32 := q3.ext (e0.trans E2); have r12 := r1o.ext E2) | (refine callP_intro (ev_sTabDocument (b.Tabs[tab.toNat]'ht.2) _ _ aN om) ?_; rintro _ S1 ⟨e1, d1, rfl, f1⟩) | (refine hplo _ (by first | exact Ext.refl _ | assumption) _ ?_) | (refine hplc _ (by first | exact Ext.refl _ | assumption) _ ?_) | (show CondP _ _ _; refine cS ?_) | refine rE fun hml => ?_ | refine rI rdA rf ix ?_ | refine draw_intro 20 [.fl 0, .fl 2, .st 1 [2], .st 3 [], .fl 4, .fl 5, .fl 6, .st 7 [6], .st 8 []] (by rfl) (by kernel_rfl) ?_ | refine draw_intro 35 [.fl 0, .fl 1, .fl 2, .fl 3, .fl 4, .fl 5, .fl 6, .fl 7, .fl 8, .fl 9, .fl 10, .st 11 [0, 1, 2], .fl 12, .fl 13, .st 14 []] (by rfl) (by kernel_rfl) ?_ | refine And.intro ?_ ?_)
    all_goals first
      | exact hEB
      | exact ⟨_, _, _, _, _, _, rfl, hFB⟩
      | (exfalso; omega)
  · rw [show appendEd b tab e = (b, false) from by
      unfold appendEd
      rw [if_neg]
      unfold mayPut
      rw [hto]
      simpa only [Bool.and_eq_true, decide_eq_true_eq] using hp]
    have hp2 : (applyEdit (docX (b.Tabs[tab.toNat]'ht.2)) e).2 = false ∨ ((applyEdit (docX (b.Tabs[tab.toNat]'ht.2)) e).2 = true ∧ 40 ≤ (b.Tabs[tab.toNat]'ht.2).Edits.length) := by
      cases hq : (applyEdit (docX (b.Tabs[tab.toNat]'ht.2)) e).2
      · exact .inl rfl
      · exact .inr ⟨rfl, by rcases Nat.lt_or_ge (b.Tabs[tab.toNat]'ht.2).Edits.length 40 with h1 | h1; exact absurd ⟨hq, h1⟩ hp; exact h1⟩
    rcases hp2 with p1 | ⟨p1, p2⟩
    all_goals
      repeat' ((conv => whnf) <;> first
       | (refine callP_intro (ev_sApplyEdit (docX (b.Tabs[tab.toNat]'ht.2)) e _ _ (by exact f1.rd) om) ?_; rintro _ S2 ⟨e2, d5, rfl, f2⟩; have E2 := e1.trans e2; have q32 := q3.ext (e0.trans E2); have r12 := r1o.ext E2) | (refine callP_intro (ev_sTabDocument (b.Tabs[tab.toNat]'ht.2) _ _ aN om) ?_; rintro _ S1 ⟨e1, d1, rfl, f1⟩) | (refine hplc _ (by first | exact Ext.refl _ | assumption) _ ?_) | (show CondP _ _ _; refine cS ?_) | refine cT ?_ | refine rE fun hml => ?_ | refine rI rdA rf ix ?_ | refine draw_intro 20 [.fl 0, .fl 2, .st 1 [2], .st 3 [], .fl 4, .fl 5, .fl 6, .st 7 [6], .st 8 []] (by rfl) (by kernel_rfl) ?_ | refine And.intro ?_ ?_)
      all_goals first
        | exact e0.trans E2
        | exact ⟨_, _, _, _, _, _, rfl, f0.ext E2⟩
        | (exfalso; omega)
theorem in_tabs {b : GBrowser} {tab : Int} : inR tab 0 ((b.Tabs.length : Int) - 1) = true ↔ 0 ≤ tab ∧ tab.toNat < b.Tabs.length := by
  simp only [inR, Bool.and_eq_true, decide_eq_true_eq]; omega
set_option maxHeartbeats 2000000 in
theorem ev_sPageEdit (b : GBrowser) (tab : Int) (e : GEdit) (cs : List C) (S : Store) (h : Rd S b.d cs) (hz : szL b.d ≤ 2097152) : EvA Tryz.prog 162 [.agg cs, .s (.int .i64 tab), .agg e.c] S (fun r S' => Ext S S' ∧ ∃ c1 c2 c3 c4 c5 c6, r = .tup [.agg [.int .i64 (pageEdit b tab e).1.Key, c1, c2, c3, c4, c5, c6, .int .i64 (pageEdit b tab e).1.Now], .s (.bool (pageEdit b tab e).2)] ∧ Fr S.length S' (pageEdit b tab e).1.d [.int .i64 (pageEdit b tab e).1.Key, c1, c2, c3, c4, c5, c6, .int .i64 (pageEdit b tab e).1.Now]) := by
  have hzs := hz
  simp only [GBrowser.d, szL, List.length_map] at hzs
  have hh := h
  obtain ⟨_, _, _, _, _, _, rfl, r1, _, _, _, _, _⟩ := GBrowser.inv h
  cases hk : inR tab 0 ((b.Tabs.length : Int) - 1) with
  | true =>
    have ht := in_tabs.1 hk
    rw [show pageEdit b tab e = appendEd b tab (edAs e 0) from by unfold pageEdit; rw [hk]; rfl]
    refine evA_intro tok Tryz.func162 (by kernel_rfl) rfl ?_
    repeat' ((conv => whnf) <;> first
     | (refine callP_intro (ev_l33Put b tab (edAs e 0) _ _ aN ht om) ?_; rintro _ SP ⟨eP, _, _, _, _, _, _, rfl, fP⟩) | rw [wrapI_i64 (by omega)] | (show CondP _ _ _; refine cS ?_) | refine callP_eq (ev_l1In _ _ _ _) ?_ | refine rE fun hml => ?_ | refine And.intro ?_ ?_)
    all_goals first
      | exact eP
      | exact ⟨_, _, _, _, _, _, rfl, fP⟩
      | (exfalso; omega)
  | false =>
    rw [show pageEdit b tab e = (b, false) from by unfold pageEdit; rw [hk]; rfl]
    refine evA_intro tok Tryz.func162 (by kernel_rfl) rfl ?_
    repeat' ((conv => whnf) <;> first
     | (refine callP_intro (ev_l32Copy b _ _ aN om) ?_; rintro _ SP ⟨eP, _, _, _, _, _, _, rfl, fP⟩) | rw [wrapI_i64 (by omega)] | (show CondP _ _ _; refine cS ?_) | refine callP_eq (ev_l1In _ _ _ _) ?_ | refine rE fun hml => ?_ | refine And.intro ?_ ?_)
    all_goals first
      | exact eP
      | exact ⟨_, _, _, _, _, _, rfl, fP⟩
      | (exfalso; omega)
set_option maxHeartbeats 4000000 in
theorem ev_sWriteTab (b : GBrowser) (ext tab : Int) (e : GEdit) (cs : List C) (S : Store) (h : Rd S b.d cs) (hz : szL b.d ≤ 2097152) : EvA Tryz.prog 165 [.agg cs, .s (.int .i64 ext), .s (.int .i64 tab), .agg e.c] S (fun r S' => Ext S S' ∧ ∃ c1 c2 c3 c4 c5 c6, r = .tup [.agg [.int .i64 (writeTab b ext tab e).1.Key, c1, c2, c3, c4, c5, c6, .int .i64 (writeTab b ext tab e).1.Now], .s (.bool (writeTab b ext tab e).2)] ∧ Fr S.length S' (writeTab b ext tab e).1.d [.int .i64 (writeTab b ext tab e).1.Key, c1, c2, c3, c4, c5, c6, .int .i64 (writeTab b ext tab e).1.Now]) := by
  have hzs := hz
  simp only [GBrowser.d, szL, List.length_map] at hzs
  have hh := h
  obtain ⟨_, _, _, _, _, _, rfl, r1, _, _, _, _, _⟩ := GBrowser.inv h
  cases hm : mayAct b ext tab 2 with
  | false =>
    rw [show writeTab b ext tab e = (b, false) from by unfold writeTab; rw [hm]; rfl]
    refine evA_intro tok Tryz.func165 (by kernel_rfl) rfl ?_
    repeat' ((conv => whnf) <;> first
     | (refine callP_intro (ev_l32Copy b _ _ aN om) ?_; rintro _ SP ⟨eP, _, _, _, _, _, _, rfl, fP⟩) | (show CondP _ _ _; refine cS ?_) | refine cT ?_ | (refine callP_eq (ev_sMayAct _ _ _ _ _ _ rdcA) ?_) | refine draw_intro 12 [.fl 0, .fl 1, .fl 2, .st 3 [], .fl 4, .fl 5, .fl 6, .fl 7, .fl 8, .fl 9, .fl 10, .fl 12, .fl 13, .fl 14, .fl 15, .fl 16, .fl 17, .fl 18, .st 11 [12, 13, 14, 15, 16, 17, 18], .st 19 [], .fl 20, .fl 21] (by rfl) (by kernel_rfl) ?_ | refine And.intro ?_ ?_)
    all_goals first
      | exact eP
      | exact ⟨_, _, _, _, _, _, rfl, fP⟩
      | (exfalso; omega)
  | true =>
    have ht := mayAct_in hm
    have hto : tabX b tab = (b.Tabs[tab.toNat]'ht.2) := getD_at ht.2
    have hst := szLL_mem (f := GTab.d) (List.getElem_mem ht.2)
    have hst2 : szL (b.Tabs[tab.toNat]'ht.2).d ≤ 2097152 := by omega
    have hst3 := hst2
    simp only [GTab.d, szL, List.length_map] at hst3
    have hrl : (docX (b.Tabs[tab.toNat]'ht.2)).length ≤ max (b.Tabs[tab.toNat]'ht.2).Base.length 16 := runEdits_len _ _
    obtain ⟨pcs, hpr, hpld⟩ := rd_loadx r1 ht
    obtain ⟨d2, d3, d4, rfl, q2, q3, q4⟩ := GTab.inv hpr
    cases hme : mayEdit (docX (b.Tabs[tab.toNat]'ht.2)) (b.Tabs[tab.toNat]'ht.2).Hidden (edAs e ext) with
    | false =>
      rw [show writeTab b ext tab e = (b, false) from by unfold writeTab; rw [hm, hto, hme]; rfl]
      refine evA_intro tok Tryz.func165 (by kernel_rfl) rfl ?_
      repeat' ((conv => whnf) <;> first
       | (refine callP_intro (ev_l32Copy b _ _ (by exact hh1) om) ?_; rintro _ SP ⟨eP, _, _, _, _, _, _, rfl, fP⟩) | (refine callP_eq (ev_sMayEdit (docX (b.Tabs[tab.toNat]'ht.2)) (b.Tabs[tab.toNat]'ht.2).Hidden (edAs e ext) _ _ _ (by exact f1.rd) (by exact q41) om) ?_) | (refine callP_intro (ev_sTabDocument (b.Tabs[tab.toNat]'ht.2) _ _ aN om) ?_; rintro _ S1 ⟨e1, d1, rfl, f1⟩; have q41 := q4.ext e1; have hh1 := hh.ext e1) | (refine hpld _ (by first | exact Ext.refl _ | assumption) _ ?_) | (show CondP _ _ _; refine cS ?_) | (refine callP_eq (ev_sMayAct _ _ _ _ _ _ rdcA) ?_) | refine rI rdA rf ix ?_ | refine draw_intro 12 [.fl 0, .fl 1, .fl 2, .st 3 [], .fl 4, .fl 5, .fl 6, .fl 7, .fl 8, .fl 9, .fl 10, .fl 12, .fl 13, .fl 14, .fl 15, .fl 16, .fl 17, .fl 18, .st 11 [12, 13, 14, 15, 16, 17, 18], .st 19 [], .fl 20, .fl 21] (by rfl) (by kernel_rfl) ?_ | refine And.intro ?_ ?_)
      all_goals first
        | exact e1.trans eP
        | exact ⟨_, _, _, _, _, _, rfl, fP.mono e1.len⟩
        | (exfalso; omega)
    | true =>
      rw [show writeTab b ext tab e = appendEd b tab (edAs e ext) from by unfold writeTab; rw [hm, hto, hme]; rfl]
      obtain ⟨hkey, hnow⟩ := appendEd_key b tab (edAs e ext)
      refine evA_intro tok Tryz.func165 (by kernel_rfl) rfl ?_
      repeat' ((conv => whnf) <;> first
       | (refine callP_intro (ev_l33Put b tab (edAs e ext) _ _ (by exact hh1) ht om) ?_; rintro _ SP ⟨eP, _, _, _, _, _, _, rfl, fP⟩) | (refine callP_eq (ev_sMayEdit (docX (b.Tabs[tab.toNat]'ht.2)) (b.Tabs[tab.toNat]'ht.2).Hidden (edAs e ext) _ _ _ (by exact f1.rd) (by exact q41) om) ?_) | (refine callP_intro (ev_sTabDocument (b.Tabs[tab.toNat]'ht.2) _ _ aN om) ?_; rintro _ S1 ⟨e1, d1, rfl, f1⟩; have q41 := q4.ext e1; have hh1 := hh.ext e1) | (refine hpld _ (by first | exact Ext.refl _ | assumption) _ ?_) | (show CondP _ _ _; refine cS ?_) | (refine callP_eq (ev_sMayAct _ _ _ _ _ _ rdcA) ?_) | refine rI rdA rf ix ?_ | refine draw_intro 12 [.fl 0, .fl 1, .fl 2, .st 3 [], .fl 4, .fl 5, .fl 6, .fl 7, .fl 8, .fl 9, .fl 10, .fl 12, .fl 13, .fl 14, .fl 15, .fl 16, .fl 17, .fl 18, .st 11 [12, 13, 14, 15, 16, 17, 18], .st 19 [], .fl 20, .fl 21] (by rfl) (by kernel_rfl) ?_ | refine And.intro ?_ ?_)
      all_goals first
        | exact e1.trans eP
        | exact ⟨_, _, _, _, _, _, rfl, fP.mono e1.len⟩
        | (exfalso; omega)
end Go.Proofs.YtlmmdpmmdmhacaaGreat
namespace Go.Proofs.YtlmmdpmmdmhacaaGreat
open Go Go.ChangeShapes Go.WideShapes Go.ChangeAt Go.RowKit
set_option linter.unusedVariables false
set_option linter.unusedSimpArgs false
set_option maxRecDepth 100000
def gBut (ext : Int) (g : GGrant) : Bool := !decide (g.Ext = ext)
def rBut (ext : Int) (g : GRule) : Bool := !decide (g.Ext = ext)
theorem ev_l35Others (l : List GGrant) (ext : Int) (c : C) (S : Store) (h : Rd S [.sl 7 (l.map GGrant.d)] [c]) (hz : l.length ≤ 4194304) : EvA Tryz.prog 331 [.s c, .s (.int .i64 ext)] S (fun r S' => Ext S S' ∧ ∃ c', r = .v (.s c') ∧ Fr S.length S' [.sl 7 ((l.filter (gBut ext)).map GGrant.d)] [c']) := by
  refine evA_intro tok Tryz.func331 (by kernel_rfl) rfl ?_
  skip
  refine loop_intro {p : Nat × Store × C // p.1 ≤ l.length ∧ Ext S p.2.1 ∧ Fr S.length p.2.1 [.sl 7 (((l.take p.1).filter (gBut ext)).map GGrant.d)] [p.2.2]} [5, 6, 8, 9, 10, 11, 12, 13, 14, 15, 16, 17, 18, 19, 20, 21, 22, 23, 24, 25, 26, 27] (fun zb => [(6, .v (.s (.int .i64 zb.1.1))), (5, .v (.s zb.1.2.2))]) (fun zb => zb.1.2.1) (fun zb => l.length - zb.1.1) ⟨(0, _, _), Nat.zero_le _, Ext.push _ _, fr_lit0⟩ ?_ rfl ?_
  · (conv => whnf); repeat' (first | exact trivial | exact rfl | apply And.intro)
  rintro ⟨⟨i, Si, ci⟩, hi, hE, hF⟩; dsimp only
  replace hi : i ≤ l.length := hi
  replace hE : Ext S Si := hE
  replace hF : Fr S.length Si [.sl 7 (((l.take i).filter (gBut ext)).map GGrant.d)] [ci] := hF
  have hfl := filter_len (gBut ext) l i
  repeat' ((conv => whnf) <;> first
   | rw [wrapI_i64 (by omega)] | refine cD (fun _ => ?_) fun _ => ?_ | refine cE (fun _ => ?_) fun _ => ?_ | refine rE fun hml => ?_ | refine rI rdA rf ix ?_ | refine rd_loadf rdA tv ix ?_ | (refine fr_app1 (f := GGrant.d) aN aN tv (by rfl) rf (by dsimp only [T120]; omega) om ?_; intro cN SN hEN hspec.l35Others) | refine And.intro ?_ ?_)
  all_goals first
    | exact hE
    | (rw [List.take_of_length_le (by omega)] at hF; exact ⟨_, rfl, hF⟩)
    | (refine ⟨⟨(i + 1, _, _), by dsimp only; omega, by assumption, by first | (rw [filter_t (by omega) (by simp_all [gBut])]; assumption) | (rw [filter_f (by omega) (by simp_all [gBut])]; assumption)⟩, ?_, rfl, by dsimp only; omega⟩; (conv => whnf); repeat' (first | exact trivial | exact rfl | apply And.intro))
theorem ev_sDropRules (l : List GRule) (ext : Int) (c : C) (S : Store) (h : Rd S [.sl 8 (l.map GRule.d)] [c]) (hz : l.length ≤ 4194304) : EvA Tryz.prog 332 [.s c, .s (.int .i64 ext)] S (fun r S' => Ext S S' ∧ ∃ c', r = .v (.s c') ∧ Fr S.length S' [.sl 8 ((l.filter (rBut ext)).map GRule.d)] [c']) := by
  refine evA_intro tok Tryz.func332 (by kernel_rfl) rfl ?_
  skip
  refine loop_intro {p : Nat × Store × C // p.1 ≤ l.length ∧ Ext S p.2.1 ∧ Fr S.length p.2.1 [.sl 8 (((l.take p.1).filter (rBut ext)).map GRule.d)] [p.2.2]} [5, 6, 8, 9, 10, 11, 12, 13, 14, 15, 16, 17, 18, 19, 20, 21, 22, 23, 24, 25, 26, 27] (fun zb => [(6, .v (.s (.int .i64 zb.1.1))), (5, .v (.s zb.1.2.2))]) (fun zb => zb.1.2.1) (fun zb => l.length - zb.1.1) ⟨(0, _, _), Nat.zero_le _, Ext.push _ _, fr_lit0⟩ ?_ rfl ?_
  · (conv => whnf); repeat' (first | exact trivial | exact rfl | apply And.intro)
  rintro ⟨⟨i, Si, ci⟩, hi, hE, hF⟩; dsimp only
  replace hi : i ≤ l.length := hi
  replace hE : Ext S Si := hE
  replace hF : Fr S.length Si [.sl 8 (((l.take i).filter (rBut ext)).map GRule.d)] [ci] := hF
  have hfl := filter_len (rBut ext) l i
  repeat' ((conv => whnf) <;> first
   | rw [wrapI_i64 (by omega)] | refine cD (fun _ => ?_) fun _ => ?_ | refine cE (fun _ => ?_) fun _ => ?_ | refine rE fun hml => ?_ | refine rI rdA rf ix ?_ | refine rd_loadf rdA tv ix ?_ | (refine fr_app1 (f := GRule.d) aN aN tv (by rfl) rf (by dsimp only [T108]; omega) om ?_; intro cN SN hEN hspec.DropRules) | refine And.intro ?_ ?_)
  all_goals first
    | exact hE
    | (rw [List.take_of_length_le (by omega)] at hF; exact ⟨_, rfl, hF⟩)
    | (refine ⟨⟨(i + 1, _, _), by dsimp only; omega, by assumption, by first | (rw [filter_t (by omega) (by simp_all [rBut])]; assumption) | (rw [filter_f (by omega) (by simp_all [rBut])]; assumption)⟩, ?_, rfl, by dsimp only; omega⟩; (conv => whnf); repeat' (first | exact trivial | exact rfl | apply And.intro))
def wider (old p : GPackage) : Bool := !withinGrants p.Grants old.Grants || !flowsIn p.Flows old.Flows
theorem ev_sIsWider (old p : GPackage) (cs cs' : List C) (S : Store) (h : Rd S old.d cs) (h' : Rd S p.d cs') : EvA Tryz.prog 367 [.agg cs, .agg cs'] S (fun r S' => r = .v (.s (.bool (wider old p))) ∧ S' = S) := by
  obtain ⟨_, _, _, _, rfl, q1, q2, _, _⟩ := GPackage.inv h
  obtain ⟨_, _, _, _, rfl, p1, p2, _, _⟩ := GPackage.inv h'
  unfold wider
  cases a1 : withinGrants p.Grants old.Grants <;> cases a2 : flowsIn p.Flows old.Flows
  all_goals
    refine evA_intro tok Tryz.func367 (by kernel_rfl) rfl ?_
    repeat' ((conv => whnf) <;> first
     | (refine callP_eq (ev_sFlowsIn p.Flows old.Flows _ _ _ p2 q2) ?_) | (refine callP_eq (ev_sIsWithin p.Grants old.Grants _ _ _ p1 q1) ?_) | (show CondP _ _ _; refine cS ?_) | refine And.intro ?_ ?_)
    all_goals first
      | rfl
      | (rw [a2]; rfl)
      | (exfalso; simp_all; done)
def updCode (key : Int) (old p : GPackage) (consent : Bool) : Int :=
  if isPackage old = true then
    if review key p = 0 then
      if old.Ext = p.Ext then
        if old.Author = p.Author then
          if p.Version ≤ old.Version then 2
          else if wider old p = true then (if consent = true then 0 else 3) else 0
        else 1
      else 1
    else 1
  else 1
theorem updCode_cases (key : Int) (old p : GPackage) (consent : Bool) :
    (isPackage old = false ∧ updCode key old p consent = 1) ∨
    (isPackage old = true ∧ ¬ review key p = 0 ∧ updCode key old p consent = 1) ∨
    (isPackage old = true ∧ review key p = 0 ∧ ¬ old.Ext = p.Ext ∧ updCode key old p consent = 1) ∨
    (isPackage old = true ∧ review key p = 0 ∧ old.Ext = p.Ext ∧ ¬ old.Author = p.Author ∧ updCode key old p consent = 1) ∨
    (isPackage old = true ∧ review key p = 0 ∧ old.Ext = p.Ext ∧ old.Author = p.Author ∧ p.Version ≤ old.Version ∧ updCode key old p consent = 2) ∨
    (isPackage old = true ∧ review key p = 0 ∧ old.Ext = p.Ext ∧ old.Author = p.Author ∧ ¬ p.Version ≤ old.Version ∧ wider old p = false ∧ updCode key old p consent = 0) ∨
    (isPackage old = true ∧ review key p = 0 ∧ old.Ext = p.Ext ∧ old.Author = p.Author ∧ ¬ p.Version ≤ old.Version ∧ wider old p = true ∧ consent = true ∧ updCode key old p consent = 0) ∨
    (isPackage old = true ∧ review key p = 0 ∧ old.Ext = p.Ext ∧ old.Author = p.Author ∧ ¬ p.Version ≤ old.Version ∧ wider old p = true ∧ consent = false ∧ updCode key old p consent = 3) := by
  unfold updCode
  by_cases h1 : isPackage old = true
  · by_cases h2 : review key p = 0
    · by_cases h3 : old.Ext = p.Ext
      · by_cases h4 : old.Author = p.Author
        · by_cases h5 : p.Version ≤ old.Version
          · simp [h1, h2, h3, h4, h5]
          · cases h6 : wider old p <;> cases h7 : consent <;> simp [h1, h2, h3, h4, h5]
        · simp [h1, h2, h3, h4]
      · simp [h1, h2, h3]
    · simp [h1, h2]
  · simp [h1]
set_option maxHeartbeats 2000000 in
theorem ev_sUpdCode (key : Int) (old p : GPackage) (consent : Bool) (cs cs' : List C) (S : Store) (h : Rd S old.d cs) (h' : Rd S p.d cs') (hz : szL p.d ≤ 4194304) : EvA Tryz.prog 358 [.s (.int .i64 key), .agg cs, .agg cs', .s (.bool consent)] S (fun r S' => r = .v (.s (.int .i64 (updCode key old p consent))) ∧ S' = S) := by
  have hR := h
  have hR' := h'
  obtain ⟨_, _, _, _, rfl, _, _, _, _⟩ := GPackage.inv h
  obtain ⟨_, _, _, _, rfl, _, _, _, _⟩ := GPackage.inv h'
  rcases updCode_cases key old p consent with ⟨a1, a0⟩ | ⟨a1, a2, a0⟩ | ⟨a1, a2, a3, a0⟩ | ⟨a1, a2, a3, a4, a0⟩ | ⟨a1, a2, a3, a4, a5, a0⟩ | ⟨a1, a2, a3, a4, a5, a6, a0⟩ | ⟨a1, a2, a3, a4, a5, a6, a7, a0⟩ | ⟨a1, a2, a3, a4, a5, a6, a7, a0⟩
  all_goals
    rw [a0]
    refine evA_intro tok Tryz.func358 (by kernel_rfl) rfl ?_
    repeat' ((conv => whnf) <;> first
     | (refine callP_eq (ev_sIsWider old p _ _ _ hR hR') ?_) | (refine callP_eq (ev_sReview key p _ _ hR' hz) ?_) | (refine callP_eq (ev_sIsPackage old _ _ hR) ?_) | (show CondP _ _ _; refine cS ?_) | refine cT ?_ | refine cF ?_ | refine And.intro ?_ ?_)
    all_goals first
      | rfl
      | (exfalso; simp_all; done)
      | (exfalso; omega)
def updated (key : Int) (old p : GPackage) (consent : Bool) : GPackage × Bool := if updCode key old p consent = 0 then (p, true) else (old, false)
theorem ev_sUpdPack (key : Int) (old p : GPackage) (consent : Bool) (cs cs' : List C) (S : Store) (h : Rd S old.d cs) (h' : Rd S p.d cs') (hz : szL p.d ≤ 4194304) (hz' : szL old.d ≤ 4194304) : EvA Tryz.prog 335 [.s (.int .i64 key), .agg cs, .agg cs', .s (.bool consent)] S (fun r S' => Ext S S' ∧ ∃ c3 c4 c5 c6, r = .tup [.agg [(.int .i64 (updated key old p consent).1.Ext), (.int .i64 (updated key old p consent).1.Author), (.int .i64 (updated key old p consent).1.Version), c3, c4, c5, c6, (.int .i64 (updated key old p consent).1.Seal)], .s (.bool (updated key old p consent).2)] ∧ Fr S.length S' (updated key old p consent).1.d [(.int .i64 (updated key old p consent).1.Ext), (.int .i64 (updated key old p consent).1.Author), (.int .i64 (updated key old p consent).1.Version), c3, c4, c5, c6, (.int .i64 (updated key old p consent).1.Seal)]) := by
  have hR := h
  have hR' := h'
  obtain ⟨_, _, _, _, rfl, _, _, _, _⟩ := GPackage.inv h
  obtain ⟨_, _, _, _, rfl, _, _, _, _⟩ := GPackage.inv h'
  by_cases h0 : updCode key old p consent = 0
  · rw [show updated key old p consent = (p, true) from if_pos h0]
    refine evA_intro tok Tryz.func335 (by kernel_rfl) rfl ?_
    repeat' ((conv => whnf) <;> first
     | (refine callP_eq (ev_sUpdCode key old p consent _ _ _ hR hR' hz) ?_) | (show CondP _ _ _; refine cS ?_))
    all_goals try (exfalso; omega)
    (conv => whnf)
    refine callP_intro (ev_l26Copy p _ _ hR' hz) ?_; rintro _ S1 ⟨e1, c3, c4, c5, c6, rfl, f1⟩
    repeat' ((conv => whnf) <;> first
     | refine And.intro ?_ ?_)
    all_goals first
      | exact e1
      | exact ⟨_, _, _, _, rfl, f1⟩
  · rw [show updated key old p consent = (old, false) from if_neg h0]
    refine evA_intro tok Tryz.func335 (by kernel_rfl) rfl ?_
    repeat' ((conv => whnf) <;> first
     | (refine callP_eq (ev_sUpdCode key old p consent _ _ _ hR hR' hz) ?_) | (show CondP _ _ _; refine cS ?_))
    all_goals try (exfalso; omega)
    (conv => whnf)
    refine callP_intro (ev_l26Copy old _ _ hR hz') ?_; rintro _ S1 ⟨e1, c3, c4, c5, c6, rfl, f1⟩
    repeat' ((conv => whnf) <;> first
     | refine And.intro ?_ ?_)
    all_goals first
      | exact e1
      | exact ⟨_, _, _, _, rfl, f1⟩
end Go.Proofs.YtlmmdpmmdmhacaaGreat
