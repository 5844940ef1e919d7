/- What is read of a tab, written to it. Updates of packages; the step of an update. The step of an update. -/
import Derived.Test.YtlmmdpmmdmhacaaGreatKt38
import Derived.Test.YtlmmdpmmdmhacaaGreatKt22
import Derived.Test.YtlmmdpmmdmhacaaGreatKt28
import Derived.Test.YtlmmdpmmdmhacaaGreatKt30
import Derived.Test.YtlmmdpmmdmhacaaGreatKt24
namespace Go.Proofs.YtlmmdpmmdmhacaaGreat
open Go Go.ChangeShapes Go.WideShapes Go.ChangeAt Go.RowKit
set_option linter.unusedVariables false
set_option linter.unusedSimpArgs false
set_option maxRecDepth 100000
def tabX (b : GBrowser) (tab : Int) : GTab := b.Tabs.getD tab.toNat default
theorem z59 {l : List GTab} {i : Nat} (h : i < l.length) : (l.map GTab.d)[i]? = some (l[i]).d := by simp [h]
theorem znl {b : GBrowser} {ext tab kind : Int} (h : zgv b ext tab kind = true) : 0 ≤ tab ∧ tab.toNat < b.Tabs.length := by
 rcases Classical.em (0 ≤ tab ∧ tab.toNat < b.Tabs.length) with h1 | h1
 ·exact h1
 ·unfold zgv at h
  rw [zty h1, Bool.and_false] at h
  cases h
def docX (t : GTab) : List GNode := zdh t.Base t.Edits
theorem z1g {S : Store} {c : C} {i : Int} {a b : List C} (h : LoadP S c i (fun cs => cs = a)) (g : LoadP S c i (fun cs => cs = b)) : a = b := by
 unfold LoadP at h g
 obtain ⟨l, e1, cs1, e2, _, e3⟩ := h
 obtain ⟨l', e1', cs2, e2', _, e3'⟩ := g
 rw [e1] at e1'; cases e1'
 rw [e2] at e2'; cases e2'
 rw [← e3, ← e3']
def zh6 (b : GBrowser) (tab : Int) (e : GEdit) : GBrowser := { b with Tabs := b.Tabs.set tab.toNat { tabX b tab with Edits := (tabX b tab).Edits ++ [e] } }
def zw0 (b : GBrowser) (tab : Int) (e : GEdit) : Bool := (zby (docX (tabX b tab)) e).2 && decide ((tabX b tab).Edits.length < 40)
def zcf (b : GBrowser) (tab : Int) (e : GEdit) : GBrowser × Bool := if zw0 b tab e then (zh6 b tab e, true) else (b, false)
def edAs (e : GEdit) (ext : Int) : GEdit := { e with By := ext }
def zcn (b : GBrowser) (tab : Int) (e : GEdit) : GBrowser × Bool := if inR tab 0 ((b.Tabs.length : Int) - 1) then zcf b tab (edAs e 0) else (b, false)
def zca (b : GBrowser) (ext tab : Int) (e : GEdit) : GBrowser × Bool := if zgv b ext tab 2 && zg9 (docX (tabX b tab)) (tabX b tab).Hidden (edAs e ext) then zcf b tab (edAs e ext) else (b, false)
theorem z3n {b : GBrowser} {tab : Int} {S0 S S2 : Store} {c1 c2 c3 c4 c5 c6 d2 d3 d4 : C} (ht : 0 ≤ tab ∧ tab.toNat < b.Tabs.length) (e2 : Ext S S2) (hE : Ext S0 S2) (h : Fr S0.length S2 b.d [.int .i64 b.Key, c1, c2, c3, c4, c5, c6, .int .i64 b.Now])
 (hld : ∀ S', Ext S S' → ∀ K : List C → Prop, K [.int .i64 (b.Tabs[tab.toNat]'ht.2).Site.Owner, .int .i64 (b.Tabs[tab.toNat]'ht.2).Site.Sub, d2, d3, d4, .int .i64 (b.Tabs[tab.toNat]'ht.2).Click] → LoadP S' c1 tab K) (e : GEdit) (hlen : (b.Tabs[tab.toNat]'ht.2).Edits.length ≤ 40)
 {by' : Nat} (hb : ((b.Tabs[tab.toNat]'ht.2).Edits.length + 1) * by' ≤ 140737488355328) {K : C → Store → Prop}
 (hK : ∀ c' S', Ext S0 S' → S2.length ≤ S'.length → (∀ K' : Prop, K' → IdxP S' c1 6 tab K') → (∀ K' : Store → Prop, (∀ S'', Ext S0 S'' → Fr S0.length S'' (zh6 b tab e).d [.int .i64 b.Key, c1, c2, c3, c4, c5, c6, .int .i64 b.Now] → K' S'') → StoP S' c1 tab 3 [c'] K') → K c' S') : AppP 6 by' S2 d3 [e.c] K := by
 have hto : tabX b tab = b.Tabs[tab.toNat]'ht.2 := zea ht.2
 obtain ⟨pcs2, c42, hl2, hr2, hc2, hap⟩ := z1c (q := 1) (k := 6) (k2 := 6) (i := tab) (off := 3) (A := [.x (.int .i64 (b.Tabs[tab.toNat]'ht.2).Site.Owner), .x (.int .i64 (b.Tabs[tab.toNat]'ht.2).Site.Sub), .sl 5 ((b.Tabs[tab.toNat]'ht.2).Base.map GNode.d)])
  (Z := [.sl 1 ((b.Tabs[tab.toNat]'ht.2).Hidden.map dInt), .x (.int .i64 (b.Tabs[tab.toNat]'ht.2).Click)]) (ys := (b.Tabs[tab.toNat]'ht.2).Edits.map GEdit.d) hE h rfl rfl (by rw [List.length_map]; exact ht) (z59 ht.2) rfl rfl
 have hpc := z1g (hld S2 e2 (fun cs => cs = [.int .i64 (b.Tabs[tab.toNat]'ht.2).Site.Owner, .int .i64 (b.Tabs[tab.toNat]'ht.2).Site.Sub, d2, d3, d4, .int .i64 (b.Tabs[tab.toNat]'ht.2).Click]) rfl) (hl2 (fun cs => cs = pcs2) rfl)
 subst hpc
 obtain rfl : d3 = c42 := Option.some.inj hc2
 refine hap [e.d] [e.c] by' (by rw [zbn]; exact ⟨e.c, [], [], [], rfl, rfl, zbr (by exact trivial), by rw [zc6]; exact ⟨rfl, rfl⟩⟩) (by intro y hy; simp at hy; subst hy; rfl) (by simpa using hb) (by simp; omega) K ?_
 intro c' S' a1 a2 a3 a4
 refine hK c' S' a1 a2 (fun K' hK' => ?_) (fun K' hK' => a4 K' (fun S'' b1 b2 _ => hK' S'' b1 ?_))
 ·have := hld S2 e2 (fun cs => cs.length = 6) rfl
  unfold LoadP at this
  obtain ⟨l, e1, cs1, e2, e3, e4⟩ := this
  unfold IdxP
  exact ⟨l, cs1, by rw [a3]; exact e1, e3, e2, e4, hK'⟩
 ·unfold zh6
  rw [hto]
  simp only [GBrowser.d]
  rw [List.map_set]
  have e : (GTab.d { (b.Tabs[tab.toNat]'ht.2) with Edits := (b.Tabs[tab.toNat]'ht.2).Edits ++ [e] }) = [.x (.int .i64 (b.Tabs[tab.toNat]'ht.2).Site.Owner), .x (.int .i64 (b.Tabs[tab.toNat]'ht.2).Site.Sub), .sl 5 ((b.Tabs[tab.toNat]'ht.2).Base.map GNode.d)] ++ [.sl 6 ((b.Tabs[tab.toNat]'ht.2).Edits.map GEdit.d ++ [e.d])] ++ [.sl 1 ((b.Tabs[tab.toNat]'ht.2).Hidden.map dInt), .x (.int .i64 (b.Tabs[tab.toNat]'ht.2).Click)] := by
   simp only [GTab.d, List.map_append, List.map_cons, List.map_nil]; rfl
  rw [e]; exact b2
theorem zlx (b : GBrowser) (tab : Int) (e : GEdit) : (zcf b tab e).1.Key = b.Key ∧ (zcf b tab e).1.Now = b.Now := by
 unfold zcf; split <;> exact ⟨rfl, rfl⟩
set_option maxHeartbeats 2000000 in
theorem znh (b : GBrowser) (tab : Int) (e : GEdit) {S0 S : Store} (c1 c2 c3 c4 c5 c6 : C) (hE : Ext S0 S) (h : Fr S0.length S b.d [.int .i64 b.Key, c1, c2, c3, c4, c5, c6, .int .i64 b.Now]) (ht : 0 ≤ tab ∧ tab.toNat < b.Tabs.length) (hz : szL b.d ≤ 2097152) :
 EvA Tryz.prog 202 [.agg [.int .i64 b.Key, c1, c2, c3, c4, c5, c6, .int .i64 b.Now], .s (.int .i64 tab), .agg e.c] S (fun r S' => Ext S0 S' ∧ r = .tup [.agg [.int .i64 b.Key, c1, c2, c3, c4, c5, c6, .int .i64 b.Now], .s (.bool (zcf b tab e).2)] ∧ Fr S0.length S' (zcf b tab e).1.d [.int .i64 b.Key, c1, c2, c3, c4, c5, c6, .int .i64 b.Now]) := by
 have hzs := hz
 simp only [GBrowser.d, szL, List.length_map] at hzs
 have r1 : Rd S [.sl 6 (b.Tabs.map GTab.d)] [c1] := h.rdAt (o := 1) rfl rfl
 have hto : tabX b tab = b.Tabs[tab.toNat]'ht.2 := zea ht.2
 have hst := zdf (f := GTab.d) (List.getElem_mem ht.2)
 have hst2 : szL (b.Tabs[tab.toNat]'ht.2).d ≤ 2097152 := by omega
 have hst3 := hst2
 simp only [GTab.d, szL, List.length_map] at hst3
 have hrl : (docX (b.Tabs[tab.toNat]'ht.2)).length ≤ max (b.Tabs[tab.toNat]'ht.2).Base.length 16 := zgl _ _
 obtain ⟨pcs, hpr, hpld⟩ := zd6 r1 ht
 obtain ⟨d2, d3, d4, rfl, q2, q3, q4⟩ := GTab.inv hpr
 by_cases hp : (zby (docX (b.Tabs[tab.toNat]'ht.2)) e).2 = true ∧ (b.Tabs[tab.toNat]'ht.2).Edits.length < 40
 ·obtain ⟨p1, p2⟩ := hp
  rw [show zcf b tab e = (zh6 b tab e, true) from by unfold zcf zw0; rw [hto, p1, decide_eq_true p2]; rfl]
  refine zac tok Tryz.func202 (by kernel_rfl) rfl ?_
  repeat' ((conv => whnf) <;> first
   | (refine hsA _ ?_; intro SB hEB hFB) | (refine hiA _ ?_) | (refine z3n ht E2 (hE.trans E2) (h.ext E2) hpld e om (by dsimp only [T87]; omega) ?_; intro cA SA hEA hlA hiA hsA) | (refine zab (zg6 (docX (b.Tabs[tab.toNat]'ht.2)) e _ _ (by exact f1.rd) om) ?_; rintro _ S2 ⟨e2, d5, rfl, f2⟩; have E2 := e1.trans e2; have q32 := q3.ext E2; have r12 := r1.ext E2) | (refine zab (zdr (b.Tabs[tab.toNat]'ht.2) _ _ aN om) ?_; rintro _ S1 ⟨e1, d1, rfl, f1⟩) | (refine hpld _ (by first | exact Ext.refl _ | assumption) _ ?_) | (show CondP _ _ _; refine cS ?_) | refine rE fun hml => ?_ | refine rI rdA rf ix ?_ | refine zae 11 [.fl 0, .fl 1, .fl 2, .fl 3, .fl 4, .fl 6, .st 5 [6], .st 7 [], .fl 8, .fl 9, .fl 10, .st 11 [10], .st 12 []] (by rfl) (by kernel_rfl) ?_ | refine zae 34 [.fl 0, .fl 1, .fl 2, .fl 3, .fl 4, .fl 5, .fl 6, .fl 7, .fl 8, .fl 9, .fl 10, .st 11 [0, 1, 2], .fl 12, .fl 13, .st 14 []] (by rfl) (by kernel_rfl) ?_ | refine And.intro ?_ ?_)
  all_goals first
   | exact hEB
   | exact ⟨rfl, hFB⟩
   | exact hFB
   | rfl
   | (exfalso; omega)
 ·rw [show zcf b tab e = (b, false) from by
   unfold zcf
   rw [if_neg]
   unfold zw0
   rw [hto]
   simpa only [Bool.and_eq_true, decide_eq_true_eq] using hp]
  have hp2 : (zby (docX (b.Tabs[tab.toNat]'ht.2)) e).2 = false ∨ ((zby (docX (b.Tabs[tab.toNat]'ht.2)) e).2 = true ∧ 40 ≤ (b.Tabs[tab.toNat]'ht.2).Edits.length) := by
   cases hq : (zby (docX (b.Tabs[tab.toNat]'ht.2)) e).2
   ·exact .inl rfl
   ·exact .inr ⟨rfl, by rcases Nat.lt_or_ge (b.Tabs[tab.toNat]'ht.2).Edits.length 40 with h1 | h1; exact absurd ⟨hq, h1⟩ hp; exact h1⟩
  rcases hp2 with p1 | ⟨p1, p2⟩
  all_goals
   refine zac tok Tryz.func202 (by kernel_rfl) rfl ?_
   repeat' ((conv => whnf) <;> first
    | (refine zab (zg6 (docX (b.Tabs[tab.toNat]'ht.2)) e _ _ (by exact f1.rd) om) ?_; rintro _ S2 ⟨e2, d5, rfl, f2⟩; have E2 := e1.trans e2; have q32 := q3.ext E2; have r12 := r1.ext E2) | (refine zab (zdr (b.Tabs[tab.toNat]'ht.2) _ _ aN om) ?_; rintro _ S1 ⟨e1, d1, rfl, f1⟩) | (refine hpld _ (by first | exact Ext.refl _ | assumption) _ ?_) | (show CondP _ _ _; refine cS ?_) | refine cT ?_ | refine rE fun hml => ?_ | refine rI rdA rf ix ?_ | refine zae 11 [.fl 0, .fl 1, .fl 2, .fl 3, .fl 4, .fl 6, .st 5 [6], .st 7 [], .fl 8, .fl 9, .fl 10, .st 11 [10], .st 12 []] (by rfl) (by kernel_rfl) ?_ | refine And.intro ?_ ?_)
   all_goals first
    | exact hE.trans E2
    | exact ⟨rfl, h.ext E2⟩
    | exact h.ext E2
    | rfl
    | (exfalso; omega)
theorem z1v {b : GBrowser} {tab : Int} : inR tab 0 ((b.Tabs.length : Int) - 1) = true ↔ 0 ≤ tab ∧ tab.toNat < b.Tabs.length := by
 simp only [inR, Bool.and_eq_true, decide_eq_true_eq]; omega
set_option maxHeartbeats 2000000 in
theorem zts (b : GBrowser) (tab : Int) (e : GEdit) (cs : List C) (S : Store) (h : Rd S b.d cs) (hz : szL b.d ≤ 2097152) : EvA Tryz.prog 118 [.agg cs, .s (.int .i64 tab), .agg e.c] S (fun r S' => Ext S S' ∧ ∃ c1 c2 c3 c4 c5 c6, r = .tup [.agg [.int .i64 (zcn b tab e).1.Key, c1, c2, c3, c4, c5, c6, .int .i64 (zcn b tab e).1.Now], .s (.bool (zcn b tab e).2)] ∧ Fr S.length S' (zcn b tab e).1.d [.int .i64 (zcn b tab e).1.Key, c1, c2, c3, c4, c5, c6, .int .i64 (zcn b tab e).1.Now]) := by
 have hzs := hz
 simp only [GBrowser.d, szL, List.length_map] at hzs
 have hh := h
 obtain ⟨_, _, _, _, _, _, rfl, r1, _, _, _, _, _⟩ := GBrowser.inv h
 cases hk : inR tab 0 ((b.Tabs.length : Int) - 1) with
 | true =>
   have ht := z1v.1 hk
   rw [show zcn b tab e = zcf b tab (edAs e 0) from by unfold zcn; rw [hk]; rfl]
   obtain ⟨hkey, hnow⟩ := zlx b tab (edAs e 0)
   refine zac tok Tryz.func118 (by kernel_rfl) rfl ?_
   repeat' ((conv => whnf) <;> first
    | (refine zab (znh b tab (edAs e 0) g1 g2 g3 g4 g5 g6 e0 f0 ht om) ?_; rintro _ SP ⟨eP, rfl, fP⟩) | (refine zab (zao b _ _ aN om) ?_; rintro _ Sc ⟨e0, g1, g2, g3, g4, g5, g6, rfl, f0⟩; have r1o : Rd Sc [.sl 6 (b.Tabs.map GTab.d)] [g1] := f0.rdAt (o := 1) rfl rfl; have r1c := r1.ext e0) | (show CondP _ _ _; refine cS ?_) | refine rE fun hml => ?_ | refine And.intro ?_ ?_)
   all_goals first
    | exact eP
    | (rw [hkey, hnow]; exact ⟨_, _, _, _, _, _, rfl, fP⟩)
    | (exfalso; omega)
 | false =>
   have hnt : ¬ (0 ≤ tab ∧ tab.toNat < b.Tabs.length) := fun hc => by rw [z1v.2 hc] at hk; cases hk
   rw [show zcn b tab e = (b, false) from by unfold zcn; rw [hk]; rfl]
   by_cases hneg : tab < 0
   all_goals
    refine zac tok Tryz.func118 (by kernel_rfl) rfl ?_
    repeat' ((conv => whnf) <;> first
     | (refine zab (zao b _ _ aN om) ?_; rintro _ Sc ⟨e0, g1, g2, g3, g4, g5, g6, rfl, f0⟩; have r1o : Rd Sc [.sl 6 (b.Tabs.map GTab.d)] [g1] := f0.rdAt (o := 1) rfl rfl; have r1c := r1.ext e0) | (show CondP _ _ _; refine cS ?_) | refine cT ?_ | refine rE fun hml => ?_ | refine And.intro ?_ ?_)
    all_goals first
     | exact e0
     | exact ⟨_, _, _, _, _, _, rfl, f0⟩
     | (exfalso; omega)
set_option maxHeartbeats 4000000 in
theorem zsw (b : GBrowser) (ext tab : Int) (e : GEdit) (cs : List C) (S : Store) (h : Rd S b.d cs) (hz : szL b.d ≤ 2097152) : EvA Tryz.prog 119 [.agg cs, .s (.int .i64 ext), .s (.int .i64 tab), .agg e.c] S (fun r S' => Ext S S' ∧ ∃ c1 c2 c3 c4 c5 c6, r = .tup [.agg [.int .i64 (zca b ext tab e).1.Key, c1, c2, c3, c4, c5, c6, .int .i64 (zca b ext tab e).1.Now], .s (.bool (zca b ext tab e).2)] ∧ Fr S.length S' (zca b ext tab e).1.d [.int .i64 (zca b ext tab e).1.Key, c1, c2, c3, c4, c5, c6, .int .i64 (zca b ext tab e).1.Now]) := by
 have hzs := hz
 simp only [GBrowser.d, szL, List.length_map] at hzs
 have hh := h
 obtain ⟨_, _, _, _, _, _, rfl, r1, _, _, _, _, _⟩ := GBrowser.inv h
 cases hm : zgv b ext tab 2 with
 | false =>
   rw [show zca b ext tab e = (b, false) from by unfold zca; rw [hm]; rfl]
   refine zac tok Tryz.func119 (by kernel_rfl) rfl ?_
   repeat' ((conv => whnf) <;> first
    | (refine zab (zao b _ _ aN om) ?_; rintro _ Sc ⟨e0, g1, g2, g3, g4, g5, g6, rfl, f0⟩; have r1c := r1.ext e0; have hhc := hh.ext e0) | (show CondP _ _ _; refine cS ?_) | refine cT ?_ | (refine zaa (zgu _ _ _ _ _ _ rdcA) ?_) | refine zae 15 [.fl 0, .fl 1, .fl 2, .st 3 [], .fl 4, .fl 5, .fl 6, .fl 7, .fl 8, .fl 9, .fl 10, .fl 12, .fl 13, .fl 14, .fl 15, .fl 16, .fl 17, .fl 18, .st 11 [12, 13, 14, 15, 16, 17, 18], .st 19 [], .fl 20, .fl 21] (by rfl) (by kernel_rfl) ?_ | refine And.intro ?_ ?_)
   all_goals first
    | exact e0
    | exact ⟨_, _, _, _, _, _, rfl, f0⟩
    | (exfalso; omega)
 | true =>
   have ht := znl hm
   have hto : tabX b tab = (b.Tabs[tab.toNat]'ht.2) := zea ht.2
   have hst := zdf (f := GTab.d) (List.getElem_mem ht.2)
   have hst2 : szL (b.Tabs[tab.toNat]'ht.2).d ≤ 2097152 := by omega
   have hst3 := hst2
   simp only [GTab.d, szL, List.length_map] at hst3
   have hrl : (docX (b.Tabs[tab.toNat]'ht.2)).length ≤ max (b.Tabs[tab.toNat]'ht.2).Base.length 16 := zgl _ _
   obtain ⟨pcs, hpr, hpld⟩ := zd6 r1 ht
   obtain ⟨d2, d3, d4, rfl, q2, q3, q4⟩ := GTab.inv hpr
   cases hme : zg9 (docX (b.Tabs[tab.toNat]'ht.2)) (b.Tabs[tab.toNat]'ht.2).Hidden (edAs e ext) with
   | false =>
     rw [show zca b ext tab e = (b, false) from by unfold zca; rw [hm, hto, hme]; rfl]
     refine zac tok Tryz.func119 (by kernel_rfl) rfl ?_
     repeat' ((conv => whnf) <;> first
      | (refine zaa (znm (docX (b.Tabs[tab.toNat]'ht.2)) (b.Tabs[tab.toNat]'ht.2).Hidden (edAs e ext) _ _ _ (by exact f1.rd) (by exact q41) om) ?_) | (refine zab (zdr (b.Tabs[tab.toNat]'ht.2) _ _ (by first | assumption | exact hpr.ext e0) om) ?_; rintro _ S1 ⟨e1, d1, rfl, f1⟩; have q41 := (q4.ext e0).ext e1; have f01 := f0.ext e1; have E01 := e0.trans e1) | (refine hpld _ (by first | exact Ext.refl _ | assumption | exact e0.trans aN) _ ?_) | (refine zab (zao b _ _ aN om) ?_; rintro _ Sc ⟨e0, g1, g2, g3, g4, g5, g6, rfl, f0⟩; have r1c := r1.ext e0; have hhc := hh.ext e0) | (show CondP _ _ _; refine cS ?_) | (refine zaa (zgu _ _ _ _ _ _ rdcA) ?_) | refine rI rdA rf ix ?_ | refine zae 15 [.fl 0, .fl 1, .fl 2, .st 3 [], .fl 4, .fl 5, .fl 6, .fl 7, .fl 8, .fl 9, .fl 10, .fl 12, .fl 13, .fl 14, .fl 15, .fl 16, .fl 17, .fl 18, .st 11 [12, 13, 14, 15, 16, 17, 18], .st 19 [], .fl 20, .fl 21] (by rfl) (by kernel_rfl) ?_ | refine And.intro ?_ ?_)
     all_goals first
      | exact E01
      | exact ⟨_, _, _, _, _, _, rfl, f01⟩
      | (exfalso; omega)
   | true =>
     rw [show zca b ext tab e = zcf b tab (edAs e ext) from by unfold zca; rw [hm, hto, hme]; rfl]
     obtain ⟨hkey, hnow⟩ := zlx b tab (edAs e ext)
     refine zac tok Tryz.func119 (by kernel_rfl) rfl ?_
     repeat' ((conv => whnf) <;> first
      | (refine zab (znh b tab (edAs e ext) g1 g2 g3 g4 g5 g6 E01 f01 ht om) ?_; rintro _ SP ⟨eP, rfl, fP⟩) | (refine zaa (znm (docX (b.Tabs[tab.toNat]'ht.2)) (b.Tabs[tab.toNat]'ht.2).Hidden (edAs e ext) _ _ _ (by exact f1.rd) (by exact q41) om) ?_) | (refine zab (zdr (b.Tabs[tab.toNat]'ht.2) _ _ (by first | assumption | exact hpr.ext e0) om) ?_; rintro _ S1 ⟨e1, d1, rfl, f1⟩; have q41 := (q4.ext e0).ext e1; have f01 := f0.ext e1; have E01 := e0.trans e1) | (refine hpld _ (by first | exact Ext.refl _ | assumption | exact e0.trans aN) _ ?_) | (refine zab (zao b _ _ aN om) ?_; rintro _ Sc ⟨e0, g1, g2, g3, g4, g5, g6, rfl, f0⟩; have r1c := r1.ext e0; have hhc := hh.ext e0) | (show CondP _ _ _; refine cS ?_) | (refine zaa (zgu _ _ _ _ _ _ rdcA) ?_) | refine rI rdA rf ix ?_ | refine zae 15 [.fl 0, .fl 1, .fl 2, .st 3 [], .fl 4, .fl 5, .fl 6, .fl 7, .fl 8, .fl 9, .fl 10, .fl 12, .fl 13, .fl 14, .fl 15, .fl 16, .fl 17, .fl 18, .st 11 [12, 13, 14, 15, 16, 17, 18], .st 19 [], .fl 20, .fl 21] (by rfl) (by kernel_rfl) ?_ | refine And.intro ?_ ?_)
     all_goals first
      | exact eP
      | (rw [hkey, hnow]; exact ⟨_, _, _, _, _, _, rfl, fP⟩)
      | (exfalso; omega)
theorem Fr.swap {S : Store} {lo : Nat} {ds ds' : List D} {cs cs' : List C} (h : Fr lo S (ds ++ ds') (cs ++ cs')) (hl : cs.length = ds.length) : Fr lo S (ds' ++ ds) (cs' ++ cs) := by
 obtain ⟨ids, hg, hn, hlo⟩ := h
 obtain ⟨p1, p2, ia, jy, s1, s2, h, hy⟩ := hg.split
 obtain ⟨s3, s4⟩ := List.append_inj s1 (by rw [hl, h.len])
 subst s3; subst s4; subst s2
 exact ⟨jy ++ ia, hy.append h, (List.perm_append_comm.nodup_iff).1 hn, fun id hi => hlo id (List.mem_append.2 (List.mem_append.1 hi).symm)⟩
def gBut (ext : Int) (g : GGrant) : Bool := !decide (g.Ext = ext)
def rBut (ext : Int) (g : GRule) : Bool := !decide (g.Ext = ext)
theorem zln (l : List GGrant) (ext : Int) (c : C) (S : Store) (h : Rd S [.sl 7 (l.map GGrant.d)] [c]) (hz : l.length ≤ 4194304) : EvA Tryz.prog 99 [.s c, .s (.int .i64 ext)] S (fun r S' => Ext S S' ∧ ∃ c', r = .v (.s c') ∧ Fr S.length S' [.sl 7 ((l.filter (gBut ext)).map GGrant.d)] [c']) := by
 refine zac tok Tryz.func99 (by kernel_rfl) rfl ?_
 repeat' ((conv => whnf) <;> first
  | refine rE fun hml => ?_)
 refine zag {p : Nat × Store × C // p.1 ≤ l.length ∧ Ext S p.2.1 ∧ Fr S.length p.2.1 [.sl 7 (((l.take p.1).filter (gBut ext)).map GGrant.d)] [p.2.2]} [5, 7, 11, 12, 13, 14, 15, 16, 17, 18, 19, 20, 21, 22, 23] (fun zb => [(11, .v (.s (.int .i64 zb.1.1))), (5, .v (.s zb.1.2.2))]) (fun zb => zb.1.2.1) (fun zb => l.length - zb.1.1) ⟨(0, _, _), Nat.zero_le _, Ext.push _ _, zba⟩ okL rfl ?_
 rintro ⟨⟨i, Si, ci⟩, hi, hE, hF⟩; dsimp only
 replace hi : i ≤ l.length := hi
 replace hE : Ext S Si := hE
 replace hF : Fr S.length Si [.sl 7 (((l.take i).filter (gBut ext)).map GGrant.d)] [ci] := hF
 have hfl := zb9 (gBut ext) l i
 repeat' ((conv => whnf) <;> first
  | rw [zad (by omega)] | refine cD (fun _ => ?_) fun _ => ?_ | refine cE (fun _ => ?_) fun _ => ?_ | refine rI rdA rf ix ?_ | refine zaf rdA tv ix ?_ | (refine zdc (f := GGrant.d) aN aN tv (by rfl) rf (by dsimp only [T120]; omega) om ?_; intro cN SN hEN himpl.grantsBut) | refine And.intro ?_ ?_)
 all_goals first
  | exact hE
  | (rw [List.take_of_length_le (by omega)] at hF; exact ⟨_, rfl, hF⟩)
  | (refine ⟨⟨(i + 1, _, _), by dsimp only; omega, by assumption, by first | (rw [zcz (by omega) (by simp_all [gBut])]; assumption) | (rw [zc0 (by omega) (by simp_all [gBut])]; assumption)⟩, ?_, rfl, by dsimp only; omega⟩; (conv => whnf); repeat' (first | exact trivial | exact rfl | apply And.intro))
theorem zjx (l : List GRule) (ext : Int) (c : C) (S : Store) (h : Rd S [.sl 8 (l.map GRule.d)] [c]) (hz : l.length ≤ 4194304) : EvA Tryz.prog 100 [.s c, .s (.int .i64 ext)] S (fun r S' => Ext S S' ∧ ∃ c', r = .v (.s c') ∧ Fr S.length S' [.sl 8 ((l.filter (rBut ext)).map GRule.d)] [c']) := by
 refine zac tok Tryz.func100 (by kernel_rfl) rfl ?_
 repeat' ((conv => whnf) <;> first
  | refine rE fun hml => ?_)
 refine zag {p : Nat × Store × C // p.1 ≤ l.length ∧ Ext S p.2.1 ∧ Fr S.length p.2.1 [.sl 8 (((l.take p.1).filter (rBut ext)).map GRule.d)] [p.2.2]} [5, 7, 11, 12, 13, 14, 15, 16, 17, 18, 19, 20, 21, 22, 23] (fun zb => [(11, .v (.s (.int .i64 zb.1.1))), (5, .v (.s zb.1.2.2))]) (fun zb => zb.1.2.1) (fun zb => l.length - zb.1.1) ⟨(0, _, _), Nat.zero_le _, Ext.push _ _, zba⟩ okL rfl ?_
 rintro ⟨⟨i, Si, ci⟩, hi, hE, hF⟩; dsimp only
 replace hi : i ≤ l.length := hi
 replace hE : Ext S Si := hE
 replace hF : Fr S.length Si [.sl 8 (((l.take i).filter (rBut ext)).map GRule.d)] [ci] := hF
 have hfl := zb9 (rBut ext) l i
 repeat' ((conv => whnf) <;> first
  | rw [zad (by omega)] | refine cD (fun _ => ?_) fun _ => ?_ | refine cE (fun _ => ?_) fun _ => ?_ | refine rI rdA rf ix ?_ | refine zaf rdA tv ix ?_ | (refine zdc (f := GRule.d) aN aN tv (by rfl) rf (by dsimp only [T108]; omega) om ?_; intro cN SN hEN himpl.DropRules) | refine And.intro ?_ ?_)
 all_goals first
  | exact hE
  | (rw [List.take_of_length_le (by omega)] at hF; exact ⟨_, rfl, hF⟩)
  | (refine ⟨⟨(i + 1, _, _), by dsimp only; omega, by assumption, by first | (rw [zcz (by omega) (by simp_all [rBut])]; assumption) | (rw [zc0 (by omega) (by simp_all [rBut])]; assumption)⟩, ?_, rfl, by dsimp only; omega⟩; (conv => whnf); repeat' (first | exact trivial | exact rfl | apply And.intro))
def zv2 (old p : GPackage) : Bool := !zbv p.Grants old.Grants || !zjf p.Flows old.Flows
theorem zv3 (old p : GPackage) (cs cs' : List C) (S : Store) (h : Rd S old.d cs) (h' : Rd S p.d cs') : EvA Tryz.prog 259 [.agg cs, .agg cs'] S (fun r S' => r = .v (.s (.bool (zv2 old p))) ∧ S' = S) := by
 obtain ⟨_, _, _, _, rfl, q1, q2, _, _⟩ := GPackage.inv h
 obtain ⟨_, _, _, _, rfl, p1, p2, _, _⟩ := GPackage.inv h'
 unfold zv2
 cases a1 : zbv p.Grants old.Grants <;> cases a2 : zjf p.Flows old.Flows
 all_goals
  refine zac tok Tryz.func259 (by kernel_rfl) rfl ?_
  repeat' ((conv => whnf) <;> first
   | (refine zaa (zmv p.Flows old.Flows _ _ _ p2 q2) ?_) | (refine zaa (zl0 p.Grants old.Grants _ _ _ p1 q1) ?_) | (show CondP _ _ _; refine cS ?_) | refine And.intro ?_ ?_)
  all_goals first
   | rfl
   | (rw [a2]; rfl)
   | (exfalso; simp_all; done)
def zdo (key : Int) (old p : GPackage) (consent : Bool) : Int :=
 if zal old = true then
  if zcg key p = 0 then
   if old.Ext = p.Ext then
    if old.Author = p.Author then
     if p.Version ≤ old.Version then 2
     else if zv2 old p = true then (if consent = true then 0 else 3) else 0
    else 1
   else 1
  else 1
 else 1
theorem zk4 (key : Int) (old p : GPackage) (consent : Bool) :
 (zal old = false ∧ zdo key old p consent = 1) ∨
 (zal old = true ∧ ¬ zcg key p = 0 ∧ zdo key old p consent = 1) ∨
 (zal old = true ∧ zcg key p = 0 ∧ ¬ old.Ext = p.Ext ∧ zdo key old p consent = 1) ∨
 (zal old = true ∧ zcg key p = 0 ∧ old.Ext = p.Ext ∧ ¬ old.Author = p.Author ∧ zdo key old p consent = 1) ∨
 (zal old = true ∧ zcg key p = 0 ∧ old.Ext = p.Ext ∧ old.Author = p.Author ∧ p.Version ≤ old.Version ∧ zdo key old p consent = 2) ∨
 (zal old = true ∧ zcg key p = 0 ∧ old.Ext = p.Ext ∧ old.Author = p.Author ∧ ¬ p.Version ≤ old.Version ∧ zv2 old p = false ∧ zdo key old p consent = 0) ∨
 (zal old = true ∧ zcg key p = 0 ∧ old.Ext = p.Ext ∧ old.Author = p.Author ∧ ¬ p.Version ≤ old.Version ∧ zv2 old p = true ∧ consent = true ∧ zdo key old p consent = 0) ∨
 (zal old = true ∧ zcg key p = 0 ∧ old.Ext = p.Ext ∧ old.Author = p.Author ∧ ¬ p.Version ≤ old.Version ∧ zv2 old p = true ∧ consent = false ∧ zdo key old p consent = 3) := by
 unfold zdo
 by_cases h1 : zal old = true
 ·by_cases h2 : zcg key p = 0
  ·by_cases h3 : old.Ext = p.Ext
   ·by_cases h4 : old.Author = p.Author
    ·by_cases h5 : p.Version ≤ old.Version
     ·simp [h1, h2, h3, h4, h5]
     ·cases h6 : zv2 old p <;> cases h7 : consent <;> simp [h1, h2, h3, h4, h5]
    ·simp [h1, h2, h3, h4]
   ·simp [h1, h2, h3]
  ·simp [h1, h2]
 ·simp [h1]
set_option maxHeartbeats 2000000 in
theorem znr (key : Int) (old p : GPackage) (consent : Bool) (cs cs' : List C) (S : Store) (h : Rd S old.d cs) (h' : Rd S p.d cs') (hz : szL p.d ≤ 4194304) : EvA Tryz.prog 191 [.s (.int .i64 key), .agg cs, .agg cs', .s (.bool consent)] S (fun r S' => r = .v (.s (.int .i64 (zdo key old p consent))) ∧ S' = S) := by
 have hR := h
 have hR' := h'
 obtain ⟨_, _, _, _, rfl, _, _, _, _⟩ := GPackage.inv h
 obtain ⟨_, _, _, _, rfl, _, _, _, _⟩ := GPackage.inv h'
 rcases zk4 key old p consent with ⟨a1, a0⟩ | ⟨a1, a2, a0⟩ | ⟨a1, a2, a3, a0⟩ | ⟨a1, a2, a3, a4, a0⟩ | ⟨a1, a2, a3, a4, a5, a0⟩ | ⟨a1, a2, a3, a4, a5, a6, a0⟩ | ⟨a1, a2, a3, a4, a5, a6, a7, a0⟩ | ⟨a1, a2, a3, a4, a5, a6, a7, a0⟩
 all_goals
  rw [a0]
  refine zac tok Tryz.func191 (by kernel_rfl) rfl ?_
  repeat' ((conv => whnf) <;> first
   | (refine zaa (zv3 old p _ _ _ hR hR') ?_) | (refine zaa (zft key p _ _ hR') ?_) | (refine zaa (zcb old _ _ hR) ?_) | (show CondP _ _ _; refine cS ?_) | refine cT ?_ | refine cF ?_ | refine And.intro ?_ ?_)
  all_goals first
   | rfl
   | (exfalso; simp_all; done)
   | (exfalso; omega)
def zes (key : Int) (old p : GPackage) (consent : Bool) : GPackage × Bool := if zdo key old p consent = 0 then (p, true) else (old, false)
theorem zvp (key : Int) (old p : GPackage) (consent : Bool) (cs cs' : List C) (S : Store) (h : Rd S old.d cs) (h' : Rd S p.d cs') (hz : szL p.d ≤ 4194304) (hz' : szL old.d ≤ 4194304) : EvA Tryz.prog 98 [.s (.int .i64 key), .agg cs, .agg cs', .s (.bool consent)] S (fun r S' => Ext S S' ∧ ∃ c3 c4 c5 c6, r = .tup [.agg [(.int .i64 (zes key old p consent).1.Ext), (.int .i64 (zes key old p consent).1.Author), (.int .i64 (zes key old p consent).1.Version), c3, c4, c5, c6, (.int .i64 (zes key old p consent).1.Seal)], .s (.bool (zes key old p consent).2)] ∧ Fr S.length S' (zes key old p consent).1.d [(.int .i64 (zes key old p consent).1.Ext), (.int .i64 (zes key old p consent).1.Author), (.int .i64 (zes key old p consent).1.Version), c3, c4, c5, c6, (.int .i64 (zes key old p consent).1.Seal)]) := by
 have hR := h
 have hR' := h'
 obtain ⟨_, _, _, _, rfl, _, _, _, _⟩ := GPackage.inv h
 obtain ⟨_, _, _, _, rfl, _, _, _, _⟩ := GPackage.inv h'
 by_cases h0 : zdo key old p consent = 0
 ·rw [show zes key old p consent = (p, true) from if_pos h0]
  refine zac tok Tryz.func98 (by kernel_rfl) rfl ?_
  repeat' ((conv => whnf) <;> first
   | (refine zaa (znr key old p consent _ _ _ hR hR' hz) ?_) | (show CondP _ _ _; refine cS ?_))
  all_goals try (exfalso; omega)
  (conv => whnf)
  refine zab (zeo p _ _ hR' hz) ?_; rintro _ S1 ⟨e1, c3, c4, c5, c6, rfl, f1⟩
  repeat' ((conv => whnf) <;> first
   | refine And.intro ?_ ?_)
  all_goals first
   | exact e1
   | exact ⟨_, _, _, _, rfl, f1⟩
 ·rw [show zes key old p consent = (old, false) from if_neg h0]
  refine zac tok Tryz.func98 (by kernel_rfl) rfl ?_
  repeat' ((conv => whnf) <;> first
   | (refine zaa (znr key old p consent _ _ _ hR hR' hz) ?_) | (show CondP _ _ _; refine cS ?_))
  all_goals try (exfalso; omega)
  (conv => whnf)
  refine zab (zeo old _ _ hR hz') ?_; rintro _ S1 ⟨e1, c3, c4, c5, c6, rfl, f1⟩
  repeat' ((conv => whnf) <;> first
   | refine And.intro ?_ ?_)
  all_goals first
   | exact e1
   | exact ⟨_, _, _, _, rfl, f1⟩
def zjz (b : GBrowser) (p : GPackage) : GBrowser := { b with Packs := b.Packs.set (zai b p.Ext).toNat p, Grants := b.Grants.filter (gBut p.Ext) ++ p.Grants, Rules := b.Rules.filter (rBut p.Ext) ++ p.Rules }
def zbi (b : GBrowser) (p : GPackage) (consent : Bool) : GBrowser × Bool :=
 if 0 ≤ zai b p.Ext ∧ zdo b.Key (zau b p.Ext) p consent = 0 ∧ zaj (zjz b p) = true then (zjz b p, true) else (b, false)
theorem z6g {α : Type} {f : α → List D} (a : α) : ∀ (l : List α) (i : Nat), szL.szLL ((l.set i a).map f) ≤ szL.szLL (l.map f) + szL (f a)
 | [], i => by rw [List.set_nil]; exact Nat.le_add_right _ _
 | x :: l, 0 => by rw [List.set_cons_zero, List.map_cons, List.map_cons, szL.szLL, szL.szLL]; omega
 | x :: l, i + 1 => by have := z6g (f := f) a l i; rw [List.set_cons_succ, List.map_cons, List.map_cons, szL.szLL, szL.szLL]; omega
theorem z2o (b : GBrowser) : szL b.d = b.Tabs.length + szL.szLL (b.Tabs.map GTab.d) + (b.Packs.length + szL.szLL (b.Packs.map GPackage.d) + (b.Grants.length + (b.Limits.length + (b.Rules.length + b.Store.length)))) := by
 simp only [GBrowser.d, szL, List.length_map]
 rw [zbk (f := GGrant.d) (by intro x; simp only [szL, GGrant.d]), zbk (f := GLimit.d) (by intro x; simp only [szL, GLimit.d]), zbk (f := GRule.d) (by intro x; simp only [szL, GRule.d]), zbk (f := GStored.d) (by intro x; simp only [szL, GStored.d])]
 omega
theorem z3c (p : GPackage) : szL p.d = p.Grants.length + (p.Flows.length + (p.Rules.length + p.Ops.length)) := by
 simp only [GPackage.d, szL, List.length_map]
 rw [zbk (f := GGrant.d) (by intro x; simp only [szL, GGrant.d]), zbk (f := GFlow.d) (by intro x; simp only [szL, GFlow.d]), zbk (f := GRule.d) (by intro x; simp only [szL, GRule.d]), zbk (f := GOp.d) (by intro x; simp only [szL, GOp.d])]
 omega
theorem z48 (b : GBrowser) (p : GPackage) : szL (zjz b p).d ≤ szL b.d + 2 * szL p.d := by
 have h1 := z6g (f := GPackage.d) p b.Packs (zai b p.Ext).toNat
 have h2 := List.length_filter_le (gBut p.Ext) b.Grants
 have h3 := List.length_filter_le (rBut p.Ext) b.Rules
 have h4 := z3c p
 rw [z2o, z2o]
 simp only [zjz, List.length_set, List.length_append]
 omega
theorem z51 {b : GBrowser} {p : GPackage} {consent : Bool} (h : ¬ 0 ≤ zai b p.Ext) : zbi b p consent = (b, false) := if_neg fun hh => h hh.1
theorem z4s {b : GBrowser} {p : GPackage} {consent : Bool} (h0 : 0 ≤ zai b p.Ext) (hl : (zai b p.Ext).toNat < b.Packs.length) (h : ¬ zdo b.Key (b.Packs[(zai b p.Ext).toNat]'hl) p consent = 0) : zbi b p consent = (b, false) :=
 if_neg fun hh => h (by rw [← ze5 h0 hl]; exact hh.2.1)
theorem z5f {b : GBrowser} {p : GPackage} {consent : Bool} (h : zaj (zjz b p) = false) : zbi b p consent = (b, false) := if_neg fun hh => (by rw [h] at hh; cases hh.2.2)
theorem z4r {b : GBrowser} {p : GPackage} {consent : Bool} (h0 : 0 ≤ zai b p.Ext) (hl : (zai b p.Ext).toNat < b.Packs.length) (h : zdo b.Key (b.Packs[(zai b p.Ext).toNat]'hl) p consent = 0) (hb : zaj (zjz b p) = true) : zbi b p consent = (zjz b p, true) :=
 if_pos ⟨h0, by rw [ze5 h0 hl]; exact h, hb⟩
theorem z7h {l : List GPackage} {i : Nat} (h : i < l.length) : (l.map GPackage.d)[i]? = some (l[i]).d := by simp [h]
set_option maxHeartbeats 4000000 in
theorem zol (b : GBrowser) (p : GPackage) (consent : Bool) (cs cs' : List C) (S : Store) (h : Rd S b.d cs) (h' : Rd S p.d cs') (hz : szL b.d ≤ 1048576) (hz' : szL p.d ≤ 1048576) : EvA Tryz.prog 31 [.agg cs, .agg cs', .s (.bool consent)] S (fun r S' => Ext S S' ∧ ∃ c1 c2 c3 c4 c5 c6, r = .tup [.agg [.int .i64 (zbi b p consent).1.Key, c1, c2, c3, c4, c5, c6, .int .i64 (zbi b p consent).1.Now], .s (.bool (zbi b p consent).2)] ∧ Fr S.length S' (zbi b p consent).1.d [.int .i64 (zbi b p consent).1.Key, c1, c2, c3, c4, c5, c6, .int .i64 (zbi b p consent).1.Now]) := by
 have hzs := hz
 simp only [GBrowser.d, szL, List.length_map] at hzs
 have hzq := z3c p
 have hzu := z48 b p
 have hfg := List.length_filter_le (gBut p.Ext) b.Grants
 have hfr := List.length_filter_le (rBut p.Ext) b.Rules
 have hB := h
 have hP := h'
 obtain ⟨_, _, _, _, rfl, p1, p2, p3, p4⟩ := GPackage.inv h'
 obtain ⟨b1, b2, b3, b4, b5, b6, rfl, t1, t2, t3, t4, t5, t6⟩ := GBrowser.inv h
 by_cases hp0 : 0 ≤ zai b p.Ext
 ·have hpl : (zai b p.Ext).toNat < b.Packs.length := by have := zj5 b p.Ext; omega
  have hp1 : 0 ≤ zai b p.Ext ∧ (zai b p.Ext).toNat < b.Packs.length := ⟨hp0, hpl⟩
  obtain ⟨pcs, hpr, hpld⟩ := zd6 t2 hp1
  have hprR := hpr
  obtain ⟨_, _, _, _, rfl, _, _, _, _⟩ := GPackage.inv hpr
  have hzo : szL (b.Packs[(zai b p.Ext).toNat]'hpl).d ≤ szL.szLL (b.Packs.map GPackage.d) := zdf (f := GPackage.d) (List.getElem_mem hpl)
  refine zac tok Tryz.func31 (by kernel_rfl) rfl ?_
  repeat' ((conv => whnf) <;> first
   | (refine zaa (zbc b p.Ext _ _ hB) ?_) | refine hpld _ (by first | assumption | exact Ext.refl _) _ ?_ | (show CondP _ _ _; refine cS ?_) | refine rI rdA rf ix ?_ | refine zae 21 [.fl 0, .fl 1, .fl 2, .fl 3, .fl 4, .fl 5, .fl 6, .fl 7, .fl 8, .fl 13, .st 9 [13], .fl 10, .fl 11, .fl 12, .st 14 [12], .st 15 []] (by rfl) (by kernel_rfl) ?_)
  all_goals try (exfalso; omega)
  (conv => whnf)
  refine zab (zvp b.Key (b.Packs[(zai b p.Ext).toNat]'hpl) p consent _ _ _ hprR hP (by omega) (by omega)) ?_; rintro _ S1 ⟨e1, q3, q4, q5, q6, rfl, f1⟩
  by_cases hu : ¬ zdo b.Key (b.Packs[(zai b p.Ext).toNat]'hpl) p consent = 0
  ·rw [z4s hp0 hpl hu]
   rw [show zes b.Key (b.Packs[(zai b p.Ext).toNat]'hpl) p consent = (b.Packs[(zai b p.Ext).toNat]'hpl, false) from if_neg hu]
   repeat' ((conv => whnf) <;> first
    | refine cT ?_ | refine And.intro ?_ ?_)
   all_goals try (exfalso; simp_all; done)
   (conv => whnf)
   refine zab (zao b _ _ (hB.ext e1) (by omega)) ?_; rintro _ S2 ⟨e2, c1, c2, c3, c4, c5, c6, rfl, f2⟩
   repeat' ((conv => whnf) <;> first
    | refine And.intro ?_ ?_)
   all_goals first
    | exact e1.trans e2
    | exact ⟨_, _, _, _, _, _, rfl, f2.mono e1.len⟩
  replace hu := Decidable.not_not.1 hu
  rw [show zes b.Key (b.Packs[(zai b p.Ext).toNat]'hpl) p consent = (p, true) from if_pos hu] at f1 ⊢
  repeat' ((conv => whnf) <;> first
   | refine cF ?_ | refine And.intro ?_ ?_)
  all_goals try (exfalso; simp_all; done)
  (conv => whnf)
  refine zab (zao b _ _ (hB.ext e1) (by omega)) ?_; rintro _ S2 ⟨e2, c1, c2, c3, c4, c5, c6, rfl, f2⟩
  have E2 := e1.trans e2
  have J := (f1.join e2 f2 e1.len).swap rfl
  have r2 := J.rdAt (o := 2) (d := .sl 8 (b.Packs.map GPackage.d)) rfl rfl
  have r0 : 0 ≤ zai b p.Ext ∧ (zai b p.Ext).toNat < (b.Packs.map GPackage.d).length := by rw [List.length_map]; exact hp1
  repeat' ((conv => whnf) <;> first
   | refine rI rdA rf ix ?_ | refine zae 44 [.fl 0, .fl 1, .fl 2, .fl 3, .fl 5, .fl 6, .st 4 [5, 6], .st 7 [], .fl 8, .st 9 []] (by rfl) (by kernel_rfl) ?_ | refine zae 53 [.fl 0, .fl 1, .fl 2, .fl 3, .fl 5, .fl 6, .st 4 [5, 6], .st 7 [], .fl 8, .st 9 []] (by rfl) (by kernel_rfl) ?_ | (refine zq9 (q := 2) (ds := b.d) (A := []) (B := (b.Packs[(zai b p.Ext).toNat]'hpl).d) (B' := p.d) (Z := []) E2 J rfl rfl rfl r0 (by rw [List.nil_append, List.append_nil]; exact z7h hpl) (by rfl) (by rfl) (by rfl) ?_; intro S3 e3 f3 l3))
  all_goals try (exfalso; omega)
  rw [List.nil_append, List.append_nil] at f3
  (conv => whnf)
  refine zab (zln b.Grants p.Ext _ _ (t3.ext e3) (by omega)) ?_; rintro _ S4 ⟨e4, d3, rfl, f4⟩
  have pg := p1.ext (e3.trans e4)
  repeat' ((conv => whnf) <;> first
   | (refine zaq (f := GGrant.d) (l := p.Grants) pg tv (fun _ => ?_)) | refine And.intro ?_ ?_)
  (conv => whnf)
  refine zas (f := GGrant.d) (S0 := S3) (l := b.Grants.filter (gBut p.Ext)) (m := p.Grants) (fun _ => trivial) e4 f4 rfl (by intro _; rfl) (by dsimp only [T108, T120]; omega) (by rw [zan]; omega) ?_; intro g3 S5 e5 f5 l5
  have E5 := e3.trans e5
  have J5 := f3.setAt (o := 3) e5 f5 e3.len (by show 3 < 8; decide)
  repeat' ((conv => whnf) <;> first
   | refine zae 44 [.fl 0, .fl 1, .fl 2, .fl 3, .fl 5, .fl 6, .st 4 [5, 6], .st 7 [], .fl 8, .st 9 []] (by rfl) (by kernel_rfl) ?_ | refine zae 53 [.fl 0, .fl 1, .fl 2, .fl 3, .fl 5, .fl 6, .st 4 [5, 6], .st 7 [], .fl 8, .st 9 []] (by rfl) (by kernel_rfl) ?_)
  (conv => whnf)
  refine zab (zjx b.Rules p.Ext _ _ (t5.ext E5) (by omega)) ?_; rintro _ S6 ⟨e6, d5, rfl, f6⟩
  have pr := p3.ext (E5.trans e6)
  repeat' ((conv => whnf) <;> first
   | (refine zaq (f := GRule.d) (l := p.Rules) pr tv (fun _ => ?_)) | refine And.intro ?_ ?_)
  (conv => whnf)
  refine zas (f := GRule.d) (S0 := S5) (l := b.Rules.filter (rBut p.Ext)) (m := p.Rules) (fun _ => trivial) e6 f6 rfl (by intro _; rfl) (by dsimp only [T108, T120]; omega) (by rw [zan]; omega) ?_; intro g5 S7 e7 f7 l7
  have E7 := E5.trans e7
  have J7 : Fr S.length S7 (zjz b p).d [.int .i64 b.Key, c1, c2, g3, c4, g5, c6, .int .i64 b.Now] := by
   have J6 := J5.setAt (o := 5) e7 f7 E5.len (by show 5 < 8; decide)
   simp only [zjz, GBrowser.d]
   rw [List.map_set]
   exact J6
  rcases hk : zaj (zjz b p) with _ | _
  ·rw [z5f hk]
   repeat' ((conv => whnf) <;> first
    | (refine zaa (zev (zjz b p) _ _ J7.rd om) ?_) | (show CondP _ _ _; refine cS ?_))
   all_goals try (exfalso; simp_all; done)
   (conv => whnf)
   refine zab (zao b _ _ (hB.ext E7) (by omega)) ?_; rintro _ S8 ⟨e8, g1, g2, g3', g4, g5', g6, rfl, f8⟩
   repeat' ((conv => whnf) <;> first
    | refine And.intro ?_ ?_)
   all_goals first
    | exact E7.trans e8
    | exact ⟨_, _, _, _, _, _, rfl, f8.mono E7.len⟩
  ·rw [z4r hp0 hpl hu hk]
   repeat' ((conv => whnf) <;> first
    | (refine zaa (zev (zjz b p) _ _ J7.rd om) ?_) | (show CondP _ _ _; refine cS ?_) | refine And.intro ?_ ?_)
   all_goals first
    | exact E7
    | exact ⟨_, _, _, _, _, _, rfl, J7⟩
    | (exfalso; simp_all; done)
 ·rw [z51 hp0]
  refine zac tok Tryz.func31 (by kernel_rfl) rfl ?_
  repeat' ((conv => whnf) <;> first
   | (refine zaa (zbc b p.Ext _ _ hB) ?_) | (show CondP _ _ _; refine cS ?_))
  all_goals try (exfalso; omega)
  (conv => whnf)
  refine zab (zao b _ _ hB (by omega)) ?_; rintro _ S2 ⟨e2, c1, c2, c3, c4, c5, c6, rfl, f2⟩
  repeat' ((conv => whnf) <;> first
   | refine And.intro ?_ ?_)
  all_goals first
   | exact e2
   | exact ⟨_, _, _, _, _, _, rfl, f2⟩
end Go.Proofs.YtlmmdpmmdmhacaaGreat
