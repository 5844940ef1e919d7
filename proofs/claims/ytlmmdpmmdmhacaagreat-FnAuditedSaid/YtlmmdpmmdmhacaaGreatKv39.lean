/- Steps that change one part. Edits of documents. -/
import Derived.Test.YtlmmdpmmdmhacaaGreatKv38
import Derived.Test.YtlmmdpmmdmhacaaGreatKv22
import Derived.Test.YtlmmdpmmdmhacaaGreatKv35
import Derived.Test.YtlmmdpmmdmhacaaGreatKv31
namespace Go.Proofs.YtlmmdpmmdmhacaaGreat
open Go Go.ChangeShapes Go.WideShapes Go.ChangeAt Go.RowKit
set_option linter.unusedVariables false
set_option linter.unusedSimpArgs false
set_option maxRecDepth 100000
def stepLimit (b : GBrowser) (x : GLimit) : GBrowser × Bool := if isLimit x && decide (b.Limits.length < 8) then ({ b with Limits := b.Limits ++ [x] }, true) else (b, false)
theorem tab_at {l : List GTab} {i : Nat} (h : i < l.length) : (l.map GTab.d)[i]? = some (l[i]).d := by simp [h]
set_option maxHeartbeats 2000000 in
theorem ev_sStepLimit (b : GBrowser) (x : GLimit) (cs : List C) (S : Store) (h : Rd S b.d cs) (hz : szL b.d ≤ 2097152) : EvA Tryz.prog 275 [.agg cs, .agg x.c] S (fun r S' => Ext S S' ∧ ∃ c1 c2 c3 c4 c5 c6, r = .tup [.agg [.int .i64 (stepLimit b x).1.Key, c1, c2, c3, c4, c5, c6, .int .i64 (stepLimit b x).1.Now], .s (.bool (stepLimit b x).2)] ∧ Fr S.length S' (stepLimit b x).1.d [.int .i64 (stepLimit b x).1.Key, c1, c2, c3, c4, c5, c6, .int .i64 (stepLimit b x).1.Now]) := by
  have hzs := hz
  simp only [GBrowser.d, szL, List.length_map] at hzs
  obtain ⟨_, _, _, _, _, _, rfl, _, _, _, _, _, _⟩ := GBrowser.inv h
  refine evA_intro tok Tryz.func275 (by kernel_rfl) rfl ?_
  skip
  all_goals try (exfalso; omega)
  (conv => whnf)
  refine callP_intro (ev_l32Copy b _ _ h (by omega)) ?_; rintro _ S0 ⟨e0, c1, c2, c3, c4, c5, c6, rfl, f0⟩
  rcases hk : isLimit x && decide (b.Limits.length < 8) with _ | _
  · have hr : stepLimit b x = (b, false) := by unfold stepLimit; rw [hk]; rfl
    rw [hr]
    repeat' ((conv => whnf) <;> first
     | refine cD (fun _ => ?_) fun _ => ?_ | refine cT ?_ | refine cN (fun _ => ?_) fun _ => ?_ | refine callP_eq (ev_sIsLimit _ _) ?_ | refine rE fun hml => ?_ | refine And.intro ?_ ?_)
    all_goals first
      | exact e0
      | exact ⟨_, _, _, _, _, _, rfl, f0⟩
      | (exfalso; simp_all; done)
      | (exfalso; simp_all; omega)
  · have hr : stepLimit b x = ({ b with Limits := b.Limits ++ [x] }, true) := by unfold stepLimit; rw [hk]; rfl
    rw [hr]
    repeat' ((conv => whnf) <;> first
     | refine cD (fun _ => ?_) fun _ => ?_ | refine cT ?_ | refine cN (fun _ => ?_) fun _ => ?_ | refine callP_eq (ev_sIsLimit _ _) ?_ | refine rE fun hml => ?_ | (refine fr_appAtF (f := GLimit.d) (o := 4) (l := b.Limits) (m := [x]) (fun _ => trivial) e0 f0 rfl rfl (by rfl) rf (by dsimp only [T68]; simp; omega) (by simp; omega) ?_; intro cN SN hEN hFN hlN) | refine And.intro ?_ ?_)
    all_goals first
      | exact e0
      | assumption
      | exact ⟨_, _, _, _, _, _, rfl, hFN⟩
      | (exfalso; simp_all; done)
      | (exfalso; simp_all; omega)
def tabOf (b : GBrowser) (tab : Int) : GTab := b.Tabs.getD tab.toNat default
def clickTab (b : GBrowser) (tab : Int) : GBrowser := { b with Tabs := b.Tabs.set tab.toNat { tabOf b tab with Click := b.Now } }
def clickLend (b : GBrowser) (tab ext : Int) : Bool := decide (0 ≤ packOf b ext) && (lendTo b.Grants ext (tabOf b tab).Site b.Now).2
def stepClick (b : GBrowser) (tab ext : Int) : GBrowser × Bool :=
  if inR tab 0 ((b.Tabs.length : Int) - 1) then (if clickLend b tab ext then { clickTab b tab with Grants := (lendTo b.Grants ext (tabOf b tab).Site b.Now).1 } else clickTab b tab, true) else (b, false)
set_option maxHeartbeats 2000000 in
theorem ev_sStepClick (b : GBrowser) (tab ext : Int) (cs : List C) (S : Store) (h : Rd S b.d cs) (hz : szL b.d ≤ 2097152) : EvA Tryz.prog 161 [.agg cs, .s (.int .i64 tab), .s (.int .i64 ext)] S (fun r S' => Ext S S' ∧ ∃ c1 c2 c3 c4 c5 c6, r = .tup [.agg [.int .i64 (stepClick b tab ext).1.Key, c1, c2, c3, c4, c5, c6, .int .i64 (stepClick b tab ext).1.Now], .s (.bool (stepClick b tab ext).2)] ∧ Fr S.length S' (stepClick b tab ext).1.d [.int .i64 (stepClick b tab ext).1.Key, c1, c2, c3, c4, c5, c6, .int .i64 (stepClick b tab ext).1.Now]) := by
  have hzs := hz
  simp only [GBrowser.d, szL, List.length_map] at hzs
  obtain ⟨_, _, _, _, _, _, rfl, _, _, _, _, _, _⟩ := GBrowser.inv h
  refine evA_intro tok Tryz.func161 (by kernel_rfl) rfl ?_
  skip
  all_goals try (exfalso; omega)
  (conv => whnf)
  refine callP_intro (ev_l32Copy b _ _ h (by omega)) ?_; rintro _ S0 ⟨e0, c1, c2, c3, c4, c5, c6, rfl, f0⟩
  rcases hk : inR tab 0 ((b.Tabs.length : Int) - 1) with _ | _
  · have hr : stepClick b tab ext = (b, false) := by unfold stepClick; rw [if_neg (by rw [hk]; decide)]
    rw [hr]
    repeat' ((conv => whnf) <;> first
     | rw [wrapI_i64 (by omega)] | refine condP_ninR (fun _ _ => ?_) (fun _ _ => ?_) | refine callP_eq (ev_l1In _ _ _ _) ?_ | refine rE fun hml => ?_ | refine And.intro ?_ ?_)
    all_goals first
      | exact e0
      | exact ⟨_, _, _, _, _, _, rfl, f0⟩
      | (exfalso; simp [inR] at *; omega)
  · have ht : 0 ≤ tab ∧ tab.toNat < b.Tabs.length := by simp [inR] at hk; omega
    have hto : tabOf b tab = b.Tabs[tab.toNat]'ht.2 := getD_at ht.2
    have hr : stepClick b tab ext = (if clickLend b tab ext then { clickTab b tab with Grants := (lendTo b.Grants ext (tabOf b tab).Site b.Now).1 } else clickTab b tab, true) := by unfold stepClick; rw [if_pos hk]
    have hcl : clickLend b tab ext = (decide (0 ≤ packOf b ext) && (lendTo b.Grants ext (tabOf b tab).Site b.Now).2) := rfl
    rw [hr]
    have r1 := f0.rdAt (o := 1) (d := .sl 6 (b.Tabs.map GTab.d)) rfl rfl
    repeat' ((conv => whnf) <;> first
     | rw [wrapI_i64 (by omega)] | refine condP_ninR (fun _ _ => ?_) (fun _ _ => ?_) | refine callP_eq (ev_l1In _ _ _ _) ?_ | refine rE fun hml => ?_ | refine rI rdA rf ix ?_ | refine And.intro ?_ ?_)
    all_goals try (exfalso; simp [inR] at *; omega)
    (conv => whnf)
    refine fr_stoAt (q := 1) (A := [.x (.int .i64 (b.Tabs[tab.toNat]'ht.2).Site.Owner), .x (.int .i64 (b.Tabs[tab.toNat]'ht.2).Site.Sub), .sl 5 ((b.Tabs[tab.toNat]'ht.2).Base.map GNode.d), .sl 6 ((b.Tabs[tab.toNat]'ht.2).Edits.map GEdit.d), .sl 1 ((b.Tabs[tab.toNat]'ht.2).Hidden.map dInt)]) (B := [.x (.int .i64 (b.Tabs[tab.toNat]'ht.2).Click)]) (B' := [.x (.int .i64 b.Now)]) (Z := []) e0 f0 (Ext.refl _) e0.len rfl rfl fr_plain (by rw [List.length_map]; exact ht) (tab_at ht.2) (by rfl) (by rfl) (by rfl) ?_; intro S1 e1 f1 l1
    have f2 : Fr S.length S1 (clickTab b tab).d [.int .i64 b.Key, c1, c2, c3, c4, c5, c6, .int .i64 b.Now] := by
      have e : (b.Tabs.map GTab.d).set tab.toNat { tabOf b tab with Click := b.Now }.d = (b.Tabs.set tab.toNat { tabOf b tab with Click := b.Now }).map GTab.d := (List.map_set ..).symm
      rw [hto] at e
      unfold clickTab
      rw [hto]
      simp only [GBrowser.d]
      rw [← e]; exact f1
    clear f1 f0
    rcases hp : decide (0 ≤ packOf b ext) with _ | _
    · rw [hp, Bool.false_and] at hcl
      rw [hcl, if_neg (by decide)]
      repeat' ((conv => whnf) <;> first
       | refine cD (fun _ => ?_) fun _ => ?_ | refine cI (fun _ => ?_) fun _ => ?_ | (refine callP_eq (ev_sPackOf _ _ _ _ rdcA) ?_) | (refine callP_intro (ev_sLendTo _ _ _ _ _ _ rdA om) ?_; rintro _ Sn ⟨hEn, cn, rfl, hFn⟩) | refine rI rdA rf ix ?_ | (refine rd_loadm (f := GTab.d) rdA ix ?_; intro _ hcs; obtain ⟨_, _, _, rfl, _, _, _⟩ := GTab.inv hcs) | refine draw_intro 33 [.fl 0, .fl 1, .fl 2, .fl 3, .fl 4, .fl 5, .fl 6, .fl 7, .fl 8, .fl 9, .fl 10, .st 11 [], .fl 12, .fl 13, .fl 14, .st 15 [14], .st 16 []] (by rfl) (by kernel_rfl) ?_ | refine And.intro ?_ ?_)
      all_goals first
        | exact e1
        | exact ⟨_, _, _, _, _, _, rfl, f2⟩
        | (exfalso; simp_all; done)
        | (exfalso; omega)
    · rw [hp, Bool.true_and, hto] at hcl
      repeat' ((conv => whnf) <;> first
       | refine cD (fun _ => ?_) fun _ => ?_ | (refine callP_eq (ev_sPackOf _ _ _ _ rdcA) ?_) | refine rI rdA rf ix ?_ | (refine rd_loadm (f := GTab.d) rdA ix ?_; intro _ hcs; obtain ⟨_, _, _, rfl, _, _, _⟩ := GTab.inv hcs) | refine draw_intro 33 [.fl 0, .fl 1, .fl 2, .fl 3, .fl 4, .fl 5, .fl 6, .fl 7, .fl 8, .fl 9, .fl 10, .st 11 [], .fl 12, .fl 13, .fl 14, .st 15 [14], .st 16 []] (by rfl) (by kernel_rfl) ?_ | refine And.intro ?_ ?_)
      all_goals try first | (exfalso; simp_all; done) | (exfalso; omega)
      (conv => whnf)
      refine callP_intro (ev_sLendTo b.Grants ext (b.Tabs[tab.toNat]'ht.2).Site b.Now _ _ rdA (by omega)) ?_; rintro _ S2 ⟨e2, d2, rfl, f3⟩
      rw [hto]
      rcases hl : (lendTo b.Grants ext (b.Tabs[tab.toNat]'ht.2).Site b.Now).2 with _ | _
      · rw [hl] at hcl
        rw [hcl, if_neg (by decide)]
        repeat' ((conv => whnf) <;> first
         | refine cF ?_ | refine And.intro ?_ ?_)
        all_goals first
          | exact e1.trans e2
          | exact ⟨_, _, _, _, _, _, rfl, f2.ext e2⟩
      · rw [hl] at hcl
        rw [hcl, if_pos rfl]
        have f4 := f2.setAt (o := 3) e2 f3 e1.len (by show 3 < 8; decide)
        repeat' ((conv => whnf) <;> first
         | refine cT ?_ | refine And.intro ?_ ?_)
        all_goals first
          | exact e1.trans e2
          | exact ⟨_, _, _, _, _, _, rfl, f4⟩
def goTab (b : GBrowser) (tab : Int) (s : GSite) : GTab × Bool := openTab s exB2 (tabOf b tab).Hidden
def goTo (b : GBrowser) (tab : Int) (s : GSite) : GBrowser := { b with Tabs := b.Tabs.set tab.toNat (goTab b tab s).1, Grants := b.Grants.filter (notEnd (tabOf b tab).Site) }
def goOk (b : GBrowser) (tab : Int) (s : GSite) : Bool := inR tab 0 ((b.Tabs.length : Int) - 1) && isSite s
def stepGo (b : GBrowser) (tab : Int) (s : GSite) : GBrowser × Bool := if goOk b tab s && (goTab b tab s).2 then (goTo b tab s, true) else (b, false)
set_option maxHeartbeats 2000000 in
theorem ev_sStepGo (b : GBrowser) (tab : Int) (s : GSite) (cs : List C) (S : Store) (h : Rd S b.d cs) (hz : szL b.d ≤ 2097152) : EvA Tryz.prog 276 [.agg cs, .s (.int .i64 tab), .agg s.c] S (fun r S' => Ext S S' ∧ ∃ c1 c2 c3 c4 c5 c6, r = .tup [.agg [.int .i64 (stepGo b tab s).1.Key, c1, c2, c3, c4, c5, c6, .int .i64 (stepGo b tab s).1.Now], .s (.bool (stepGo b tab s).2)] ∧ Fr S.length S' (stepGo b tab s).1.d [.int .i64 (stepGo b tab s).1.Key, c1, c2, c3, c4, c5, c6, .int .i64 (stepGo b tab s).1.Now]) := by
  have hzs := hz
  simp only [GBrowser.d, szL, List.length_map] at hzs
  obtain ⟨_, _, _, _, _, _, rfl, _, _, _, _, _, _⟩ := GBrowser.inv h
  refine evA_intro tok Tryz.func276 (by kernel_rfl) rfl ?_
  skip
  all_goals try (exfalso; omega)
  (conv => whnf)
  refine callP_intro (ev_l32Copy b _ _ h (by omega)) ?_; rintro _ S0 ⟨e0, c1, c2, c3, c4, c5, c6, rfl, f0⟩
  rcases hk : goOk b tab s with _ | _
  · have hr : stepGo b tab s = (b, false) := by unfold stepGo; rw [hk]; rfl
    rw [hr]
    repeat' ((conv => whnf) <;> first
     | rw [wrapI_i64 (by omega)] | refine cT ?_ | refine condP_ninR (fun _ _ => ?_) (fun _ _ => ?_) | refine cN (fun _ => ?_) fun _ => ?_ | refine callP_eq (ev_l1In _ _ _ _) ?_ | refine callP_eq (ev_sIsSite _ _) ?_ | (refine callP_intro (ev_sEndLending _ _ _ _ rdA om) ?_; rintro _ Sn ⟨hEn, cn, rfl, hFn⟩) | refine rE fun hml => ?_ | refine rI rdA rf ix ?_ | (refine rd_loadm (f := GTab.d) rdA ix ?_; intro _ hcs; obtain ⟨_, _, _, rfl, _, _, _⟩ := GTab.inv hcs) | refine draw_intro 26 [.fl 0, .fl 1, .fl 2, .fl 3, .fl 4, .fl 5, .fl 6, .fl 7, .st 8 [], .fl 9, .st 10 []] (by rfl) (by kernel_rfl) ?_ | refine draw_intro 37 [.fl 0, .fl 1, .fl 2, .fl 3, .fl 4, .fl 5, .fl 6, .fl 7, .fl 8, .fl 13, .st 9 [13], .fl 10, .fl 11, .fl 12, .st 14 [12], .st 15 []] (by rfl) (by kernel_rfl) ?_ | refine And.intro ?_ ?_)
    all_goals first
      | exact e0
      | exact ⟨_, _, _, _, _, _, rfl, f0⟩
      | (exfalso; simp [goOk, inR] at *; simp_all; done)
      | (exfalso; simp [goOk, inR] at *; simp_all; omega)
      | (exfalso; simp [goOk, inR] at *; omega)
  · have ht : 0 ≤ tab ∧ tab.toNat < b.Tabs.length := by simp [goOk, inR] at hk; omega
    have hki := hk
    unfold goOk at hki
    simp only [Bool.and_eq_true] at hki
    have hto : tabOf b tab = b.Tabs[tab.toNat]'ht.2 := getD_at ht.2
    have r1 := f0.rdAt (o := 1) (d := .sl 6 (b.Tabs.map GTab.d)) rfl rfl
    have hsh : (b.Tabs[tab.toNat]'ht.2).Hidden.length ≤ 2097152 := by
      have h1 := szLL_mem (f := GTab.d) (List.getElem_mem ht.2)
      simp only [GTab.d, szL, List.length_map] at h1
      omega
    have hgt : goTab b tab s = openTab s exB2 (b.Tabs[tab.toNat]'ht.2).Hidden := by unfold goTab; rw [hto]
    have hgo : goTo b tab s = { b with Tabs := b.Tabs.set tab.toNat (goTab b tab s).1, Grants := b.Grants.filter (notEnd (b.Tabs[tab.toNat]'ht.2).Site) } := by unfold goTo; rw [hto]
    have hsg : stepGo b tab s = if (goTab b tab s).2 then (goTo b tab s, true) else (b, false) := by unfold stepGo; rw [hk, Bool.true_and]
    repeat' ((conv => whnf) <;> first
     | rw [wrapI_i64 (by omega)] | refine cT ?_ | refine condP_ninR (fun _ _ => ?_) (fun _ _ => ?_) | refine cN (fun _ => ?_) fun _ => ?_ | refine callP_eq (ev_l1In _ _ _ _) ?_ | refine callP_eq (ev_sIsSite _ _) ?_ | refine rE fun hml => ?_ | refine rI rdA rf ix ?_ | (refine rd_loadm (f := GTab.d) rdA ix ?_; intro _ hcs; obtain ⟨_, _, _, rfl, _, _, _⟩ := GTab.inv hcs) | refine draw_intro 26 [.fl 0, .fl 1, .fl 2, .fl 3, .fl 4, .fl 5, .fl 6, .fl 7, .st 8 [], .fl 9, .st 10 []] (by rfl) (by kernel_rfl) ?_ | refine And.intro ?_ ?_)
    all_goals try first | (exfalso; omega) | (exfalso; simp_all; done)
    (conv => whnf)
    refine callP_intro (ev_sEndLending b.Grants (b.Tabs[tab.toNat]'ht.2).Site _ _ rdA (by omega)) ?_; rintro _ S3 ⟨e3, d3, rfl, f3⟩
    have E2 := e0.trans e3
    repeat' ((conv => whnf) <;> first
     | refine rI rdA rf ix ?_ | (refine rd_loadm (f := GTab.d) rdA ix ?_; intro _ hcs; obtain ⟨_, _, _, rfl, _, _, _⟩ := GTab.inv hcs) | refine draw_intro 37 [.fl 0, .fl 1, .fl 2, .fl 3, .fl 4, .fl 5, .fl 6, .fl 7, .fl 8, .fl 13, .st 9 [13], .fl 10, .fl 11, .fl 12, .st 14 [12], .st 15 []] (by rfl) (by kernel_rfl) ?_)
    all_goals try first | (exfalso; omega) | (exfalso; simp_all; done)
    (conv => whnf)
    refine callP_intro (ev_sOpenTab s exB2 (b.Tabs[tab.toNat]'ht.2).Hidden _ _ _ (litN exB2 (by decide)).rd rdA (by simp only [List.length_cons, List.length_nil]; omega)) ?_; rintro _ S2 ⟨e2, t2, t3, t4, rfl, f2⟩
    replace e2 := (Ext.push _ _).trans e2
    replace f2 := f2.mono (lo' := S3.length) (Ext.push _ _).len
    rw [← hgt] at *
    have E3 := E2.trans e2
    rcases hq : (goTab b tab s).2 with _ | _
    · rw [hq, if_neg (by decide)] at hsg
      rw [hsg]
      repeat' ((conv => whnf) <;> first
       | refine cT ?_ | refine And.intro ?_ ?_)
      (conv => whnf)
      refine callP_intro (ev_l32Copy b _ _ (h.ext E3) (by omega)) ?_; rintro _ S5 ⟨e5, g1, g2, g3, g4, g5, g6, rfl, f5⟩
      repeat' ((conv => whnf) <;> first
       | refine And.intro ?_ ?_)
      all_goals first
        | exact E3.trans e5
        | exact ⟨_, _, _, _, _, _, rfl, f5.mono E3.len⟩
        | (exfalso; simp_all; done)
    rw [hq, if_pos rfl] at hsg
    rw [hsg]
    have J : Fr S.length S2 (({ b with Grants := b.Grants.filter (notEnd (b.Tabs[tab.toNat]'ht.2).Site) } : GBrowser).d ++ (goTab b tab s).1.d) ([.int .i64 b.Key, c1, c2, d3, c4, c5, c6, .int .i64 b.Now] ++ [.int .i64 (goTab b tab s).1.Site.Owner, .int .i64 (goTab b tab s).1.Site.Sub, t2, t3, t4, .int .i64 (goTab b tab s).1.Click]) := (f0.setAt (o := 3) e3 f3 e0.len (by show 3 < 8; decide)).join e2 f2 E2.len
    repeat' ((conv => whnf) <;> first
     | refine cF ?_ | refine rI rdA rf ix ?_ | (refine fr_stoMv (q := 1) (ds := ({ b with Grants := b.Grants.filter (notEnd (b.Tabs[tab.toNat]'ht.2).Site) } : GBrowser).d) (A := []) (B := (b.Tabs[tab.toNat]'ht.2).d) (B' := (goTab b tab s).1.d) (Z := []) E3 J rfl rfl rfl (by rw [List.length_map]; exact ht) (by rw [List.nil_append, List.append_nil]; exact tab_at ht.2) (by rfl) (by rfl) (by rfl) ?_; intro S5 e5 f5 l5) | refine And.intro ?_ ?_)
    all_goals first
      | exact e5
      | (refine ⟨_, _, _, _, _, _, rfl, ?_⟩
         rw [hgo]
         simp only [GBrowser.d]
         rw [List.map_set]
         rw [List.nil_append, List.append_nil] at f5
         exact f5)
      | (exfalso; simp_all; done)
      | (exfalso; omega)
end Go.Proofs.YtlmmdpmmdmhacaaGreat
namespace Go.Proofs.YtlmmdpmmdmhacaaGreat
open Go Go.ChangeShapes Go.WideShapes Go.ChangeAt Go.RowKit
set_option linter.unusedVariables false
set_option linter.unusedSimpArgs false
set_option maxRecDepth 100000
theorem fr_stoNode {S0 S : Store} {c : C} {l : List GNode} {i v : Int} {off : Nat} {K : Store → Prop} (x0 x' : GNode) (A Z : List D) (o : C) (hE : Ext S0 S) (h : Fr S0.length S [.sl 5 (l.map GNode.d)] [c]) (h0 : 0 ≤ i) (hl : l[i.toNat]? = some x0)
    (hx : x'.d = A ++ [.x (.int .i64 v)] ++ Z) (ho : x0.d = A ++ [.x o] ++ Z) (hA : A.length = off)
    (hK : ∀ S', Ext S0 S' → Fr S0.length S' [.sl 5 ((l.set i.toNat x').map GNode.d)] [c] → K S') : StoP S c i off [.int .i64 v] K := by
  have hlt : i.toNat < l.length := (List.getElem?_eq_some_iff.1 hl).1
  refine fr_sto (A := A) (B := [.x o]) (B' := [.x (.int .i64 v)]) (Z := Z) (k := 5) hE h (Ext.refl S) (fr_x fr_nil) hE.len ⟨h0, by rw [List.length_map]; exact hlt⟩ (by rw [List.getElem?_map, hl, ← ho]; rfl) hA rfl (by rw [← ho]; rfl) fun S' h1 h2 _ => hK S' h1 ?_
  rw [List.map_set, hx]; exact h2
def upGo (d : List GNode) (top : Int) : Nat → Int → Bool
  | 0, _ => false
  | f + 1, id => if id = top then true else if nodeOf d id ≤ 0 then false else upGo d top f (d.getD (nodeOf d id).toNat default).Parent
def above (d : List GNode) (id top : Int) : Bool := upGo d top ((nodeOf d id).toNat + 1) id
def isUnder (d : List GNode) (id top : Int) : Bool := isDoc d && decide (0 ≤ nodeOf d id) && decide (0 ≤ nodeOf d top) && above d id top
theorem nodeOfGo_at (id : Int) : ∀ (l : List GNode) (i : Nat), nodeOfGo id l i = -1 ∨ ∃ j, ∃ h : j < l.length, nodeOfGo id l i = ((i + j : Nat) : Int) ∧ (l[j]'h).Id = id
  | [], i => .inl rfl
  | x :: r, i => by
    rw [nodeOfGo]
    split
    · rename_i h; exact .inr ⟨0, by simp, by simp, h⟩
    · rcases nodeOfGo_at id r (i + 1) with h | ⟨j, hj, h1, h2⟩
      · exact .inl h
      · exact .inr ⟨j + 1, by simp; omega, by rw [h1]; congr 1; omega, by simpa using h2⟩
theorem nodeOf_at {d : List GNode} {id : Int} (h : 0 ≤ nodeOf d id) : ∃ hj : (nodeOf d id).toNat < d.length, (d[(nodeOf d id).toNat]'hj).Id = id := by
  unfold nodeOf at h ⊢
  rcases nodeOfGo_at id d 0 with h1 | ⟨j, hj, h1, h2⟩
  · omega
  · have e : (nodeOfGo id d 0).toNat = j := by rw [h1]; omega
    simp only [e]
    exact ⟨hj, h2⟩
theorem nodeOfGo_mem {x : GNode} : ∀ {l : List GNode}, x ∈ l → ∀ i : Nat, 0 ≤ nodeOfGo x.Id l i
  | y :: r, h, i => by
    rw [nodeOfGo]
    split
    · omega
    · rename_i hne
      rcases List.mem_cons.1 h with rfl | h
      · exact absurd rfl hne
      · exact nodeOfGo_mem h (i + 1)
theorem nodeOf_mem {d : List GNode} {x : GNode} (h : x ∈ d) : 0 ≤ nodeOf d x.Id := nodeOfGo_mem h 0
theorem nodeOf_lt (d : List GNode) (id : Int) : nodeOf d id < d.length ∧ -1 ≤ nodeOf d id := by
  unfold nodeOf
  rcases nodeOfGo_at id d 0 with h1 | ⟨j, hj, h1, h2⟩ <;> omega
theorem nodeOfGo_app (id : Int) : ∀ (l m : List GNode) (i : Nat), nodeOfGo id (l ++ m) i = if 0 ≤ nodeOfGo id l i then nodeOfGo id l i else nodeOfGo id m (i + l.length)
  | [], m, i => by simp [nodeOfGo]
  | x :: r, m, i => by
    rw [List.cons_append, nodeOfGo, nodeOfGo]
    split
    · rw [if_pos (by omega)]
    · rw [nodeOfGo_app id r m (i + 1), List.length_cons, show i + 1 + r.length = i + (r.length + 1) by omega]
theorem nodeOf_take {d : List GNode} {id : Int} {i : Nat} (h : 0 ≤ nodeOf (d.take i) id) : nodeOf d id = nodeOf (d.take i) id ∧ nodeOf d id < i := by
  have e : nodeOf d id = nodeOf (d.take i) id := by
    unfold nodeOf at h ⊢
    have h1 := nodeOfGo_app id (d.take i) (d.drop i) 0
    rw [List.take_append_drop, if_pos h] at h1
    exact h1
  refine ⟨e, ?_⟩
  have := (nodeOf_lt (d.take i) id).1
  rw [List.length_take] at this
  omega
theorem docGo_at (d : List GNode) : ∀ (l : List GNode) (i : Nat), docGo d l i = true → ∀ j (h : j < l.length), okNode d (l[j]'h) (i + j) = true
  | [], i, _, j, h => by cases h
  | x :: r, i, h, j, hj => by
    rw [docGo] at h
    split at h
    · rename_i hx
      cases j with
      | zero => exact hx
      | succ j =>
        have := docGo_at d r (i + 1) h j (by simpa using hj)
        rw [show i + (j + 1) = i + 1 + j by omega]
        simpa using this
    · cases h
theorem doc_ok {d : List GNode} (h : isDoc d = true) : (1 ≤ d.length ∧ d.length ≤ 16) ∧ ∀ j (hj : j < d.length), okNode d (d[j]'hj) j = true := by
  simp only [isDoc, Bool.and_eq_true, decide_eq_true_eq] at h
  exact ⟨h.1, fun j hj => by have := docGo_at d d 0 h.2 j hj; rwa [Nat.zero_add] at this⟩
theorem doc_parent {d : List GNode} (h : isDoc d = true) {j : Nat} (hj : j < d.length) (h0 : 0 < j) : 0 ≤ nodeOf d (d[j]'hj).Parent ∧ nodeOf d (d[j]'hj).Parent < j := by
  have := (doc_ok h).2 j hj
  rw [okNode_pos h0 (by omega)] at this
  simp only [Bool.and_eq_true, decide_eq_true_eq] at this
  have h1 := nodeOf_take this.2.2
  exact ⟨by rw [h1.1]; exact this.2.2, h1.2⟩
theorem doc_ids {d : List GNode} (h : isDoc d = true) : ∀ (j : Nat) (hj : j < d.length), (j : Int) ≤ (d[j]'hj).Id ∧ (j = 0 → (d[j]'hj).Id = 0)
  | 0, hj => by
    have := (doc_ok h).2 0 hj
    rw [okNode_zero] at this
    simp only [Bool.and_eq_true, decide_eq_true_eq] at this
    omega
  | j + 1, hj => by
    have := (doc_ok h).2 (j + 1) hj
    rw [okNode_pos (by omega) (by omega)] at this
    simp only [Bool.and_eq_true, decide_eq_true_eq, Nat.add_sub_cancel] at this
    have ih := (doc_ids h j (by omega)).1
    omega
theorem doc_zero {d : List GNode} (h : isDoc d = true) {id : Int} (hi : 0 ≤ nodeOf d id) : id ≤ 0 ↔ nodeOf d id = 0 := by
  obtain ⟨hj, he⟩ := nodeOf_at hi
  have := doc_ids h _ hj
  rw [he] at this
  constructor
  · intro h1; omega
  · intro h1; have := this.2 (by omega); omega
theorem upGo_more {d : List GNode} (h : isDoc d = true) (top : Int) : ∀ (f g : Nat) (id : Int), (nodeOf d id).toNat < f → (nodeOf d id).toNat < g → upGo d top f id = upGo d top g id
  | 0, g, id, h1, _ => by omega
  | f + 1, 0, id, _, h2 => by omega
  | f + 1, g + 1, id, h1, h2 => by
    rw [upGo, upGo]
    split
    · rfl
    · split
      · rfl
      · rename_i hp
        have hp : ¬ nodeOf d id ≤ 0 := hp
        obtain ⟨hj, _⟩ := nodeOf_at (d := d) (id := id) (by omega)
        have hpar := doc_parent h hj (by omega)
        rw [getD_at hj]
        exact upGo_more h top f g _ (by omega) (by omega)
theorem above_eq {d : List GNode} (h : isDoc d = true) (id top : Int) : above d id top = if id = top then true else if nodeOf d id ≤ 0 then false else above d (d.getD (nodeOf d id).toNat default).Parent top := by
  unfold above
  rw [upGo]
  split
  · rfl
  · split
    · rfl
    · rename_i hp
      obtain ⟨hj, _⟩ := nodeOf_at (d := d) (id := id) (by omega)
      have hpar := doc_parent h hj (by omega)
      rw [getD_at hj]
      exact upGo_more h top _ _ _ (by omega) (by omega)
theorem ev_IsUnder (d : List GNode) (id top : Int) (c : C) (S : Store) (h : Rd S [.sl 5 (d.map GNode.d)] [c]) : EvA Tryz.prog 301 [.s c, .s (.int .i64 id), .s (.int .i64 top)] S (fun r S' => r = .v (.s (.bool (isUnder d id top))) ∧ S' = S) := by
  by_cases hd : isDoc d = true ∧ 0 ≤ nodeOf d id ∧ 0 ≤ nodeOf d top
  · obtain ⟨hd, hi, ht⟩ := hd
    rw [show isUnder d id top = above d id top from by unfold isUnder; simp [hd, hi, ht]]
    refine evA_intro tok Tryz.func301 (by kernel_rfl) rfl ?_
    repeat' ((conv => whnf) <;> first
     | (show CondP _ _ _; refine cS ?_) | refine callP_eq (ev_sNodeOf _ _ _ _ aN) ?_ | refine callP_eq (ev_sIsDocument _ _ _ aN) ?_)
    refine loop_intro {x : Int // above d x top = above d id top ∧ 0 ≤ nodeOf d x} [1, 22, 23, 24, 25, 26, 27, 28, 29, 30, 31, 32, 33, 34, 35] (fun zb => [(1, .v (.s (.int .i64 zb.1)))]) (fun _ => S) (fun zb => (nodeOf d zb.1).toNat) ⟨id, rfl, hi⟩ ?_ rfl ?_
    · (conv => whnf); repeat' (first | exact trivial | exact rfl | apply And.intro)
    rintro ⟨x, hinv, hx0⟩; dsimp only
    have hax := above_eq hd x top
    rw [hinv] at hax
    have hz := doc_zero hd hx0
    by_cases hxt : x = top
    · rw [if_pos hxt] at hax
      rw [hax]
      repeat' ((conv => whnf) <;> first
       | (show CondP _ _ _; refine cS ?_) | refine cF ?_ | refine And.intro ?_ ?_)
      all_goals (show _ = _; rw [decide_eq_true hxt]; rfl)
    · rw [if_neg hxt] at hax
      by_cases hn : nodeOf d x ≤ 0
      · rw [if_pos hn] at hax
        rw [hax]
        have hx1 : x ≤ 0 := hz.2 (by omega)
        repeat' ((conv => whnf) <;> first
         | (show CondP _ _ _; refine cS ?_) | refine And.intro ?_ ?_)
        all_goals (show _ = _; rw [decide_eq_false hxt]; rfl)
      · rw [if_neg hn] at hax
        have hx1 : 0 < x := by
          rcases Int.lt_or_le 0 x with h1 | h1
          · exact h1
          · have := hz.1 h1; omega
        obtain ⟨hj, _⟩ := nodeOf_at (d := d) (id := x) (by omega)
        have hpar := doc_parent hd hj (by omega)
        rw [getD_at hj] at hax
        have hidx : 0 ≤ nodeOf d x ∧ (nodeOf d x).toNat < d.length := ⟨by omega, hj⟩
        repeat' ((conv => whnf) <;> first
         | (show CondP _ _ _; refine cS ?_) | refine callP_eq (ev_sNodeOf _ _ _ _ aN) ?_ | refine rI aN rf ix ?_ | refine rd_loadf aN tv ix ?_)
        all_goals first
          | (refine ⟨⟨(d[(nodeOf d x).toNat]'hj).Parent, hax.symm, hpar.1⟩, ?_, rfl, by dsimp only; omega⟩; (conv => whnf); repeat' (first | exact trivial | exact rfl | apply And.intro))
  · rw [show isUnder d id top = false from by
      unfold isUnder
      cases h1 : isDoc d <;> simp only [h1, Bool.false_and, Bool.true_and] at hd ⊢
      by_cases h2 : 0 ≤ nodeOf d id <;> by_cases h3 : 0 ≤ nodeOf d top <;> simp_all <;> intros <;> omega]
    refine evA_intro tok Tryz.func301 (by kernel_rfl) rfl ?_
    repeat' ((conv => whnf) <;> first
     | refine cD (fun _ => ?_) fun _ => ?_ | refine cT ?_ | refine cN (fun _ => ?_) fun _ => ?_ | refine callP_eq (ev_sNodeOf _ _ _ _ aN) ?_ | refine callP_eq (ev_sIsDocument _ _ _ aN) ?_ | refine And.intro ?_ ?_)
    all_goals first | rfl | (exfalso; simp_all; done) | (exfalso; simp_all; omega)
end Go.Proofs.YtlmmdpmmdmhacaaGreat
