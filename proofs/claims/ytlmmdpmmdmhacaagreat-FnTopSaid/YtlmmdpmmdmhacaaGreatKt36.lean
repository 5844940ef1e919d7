/- Steps that change one part. slices.Insert at []Node walked. Edits of documents. -/
import Derived.Test.YtlmmdpmmdmhacaaGreatKt35
import Derived.Test.YtlmmdpmmdmhacaaGreatKt32
import Derived.Test.YtlmmdpmmdmhacaaGreatKt19
import Derived.Test.YtlmmdpmmdmhacaaGreatKt28
namespace Go.Proofs.YtlmmdpmmdmhacaaGreat
open Go Go.ChangeShapes Go.WideShapes Go.ChangeAt Go.RowKit
set_option linter.unusedVariables false
set_option linter.unusedSimpArgs false
set_option maxRecDepth 100000
def zb0 (b : GBrowser) (x : GLimit) : GBrowser × Bool := if zb6 x && decide (b.Limits.length < 8) then ({ b with Limits := b.Limits ++ [x] }, true) else (b, false)
theorem z4g {l : List GTab} {i : Nat} (h : i < l.length) : (l.map GTab.d)[i]? = some (l[i]).d := by simp [h]
set_option maxHeartbeats 2000000 in
theorem zrr (b : GBrowser) (x : GLimit) (cs : List C) (S : Store) (h : Rd S b.d cs) (hz : szL b.d ≤ 2097152) : EvA Tryz.prog 33 [.agg cs, .agg x.c] S (fun r S' => Ext S S' ∧ ∃ c1 c2 c3 c4 c5 c6, r = .tup [.agg [.int .i64 (zb0 b x).1.Key, c1, c2, c3, c4, c5, c6, .int .i64 (zb0 b x).1.Now], .s (.bool (zb0 b x).2)] ∧ Fr S.length S' (zb0 b x).1.d [.int .i64 (zb0 b x).1.Key, c1, c2, c3, c4, c5, c6, .int .i64 (zb0 b x).1.Now]) := by
 have hzs := hz
 simp only [GBrowser.d, szL, List.length_map] at hzs
 obtain ⟨_, _, _, _, _, _, rfl, _, _, _, _, _, _⟩ := GBrowser.inv h
 refine zac tok Tryz.func33 (by kernel_rfl) rfl ?_
 skip
 all_goals try (exfalso; omega)
 (conv => whnf)
 refine zab (zao b _ _ h (by omega)) ?_; rintro _ S0 ⟨e0, c1, c2, c3, c4, c5, c6, rfl, f0⟩
 rcases hk : zb6 x && decide (b.Limits.length < 8) with _ | _
 ·have hr : zb0 b x = (b, false) := by unfold zb0; rw [hk]; rfl
  rw [hr]
  repeat' ((conv => whnf) <;> first
   | refine cD (fun _ => ?_) fun _ => ?_ | refine cT ?_ | refine cN (fun _ => ?_) fun _ => ?_ | refine zaa (zf5 _ _) ?_ | refine rE fun hml => ?_ | refine And.intro ?_ ?_)
  all_goals first
   | exact e0
   | exact ⟨_, _, _, _, _, _, rfl, f0⟩
   | (exfalso; simp_all; done)
   | (exfalso; simp_all; omega)
 ·have hr : zb0 b x = ({ b with Limits := b.Limits ++ [x] }, true) := by unfold zb0; rw [hk]; rfl
  rw [hr]
  repeat' ((conv => whnf) <;> first
   | refine cD (fun _ => ?_) fun _ => ?_ | refine cT ?_ | refine cN (fun _ => ?_) fun _ => ?_ | refine zaa (zf5 _ _) ?_ | refine rE fun hml => ?_ | (refine zcq (f := GLimit.d) (o := 4) (l := b.Limits) (m := [x]) (fun _ => trivial) e0 f0 rfl rfl (by rfl) rf (by dsimp only [T68]; simp; omega) (by simp; omega) ?_; intro cN SN hEN hFN hlN) | refine And.intro ?_ ?_)
  all_goals first
   | exact e0
   | assumption
   | exact ⟨_, _, _, _, _, _, rfl, hFN⟩
   | (exfalso; simp_all; done)
   | (exfalso; simp_all; omega)
def zg2 (b : GBrowser) (tab : Int) : GTab := b.Tabs.getD tab.toNat default
def ze4 (b : GBrowser) (tab : Int) : GBrowser := { b with Tabs := b.Tabs.set tab.toNat { zg2 b tab with Click := b.Now } }
def zkv (b : GBrowser) (tab ext : Int) : Bool := decide (0 ≤ zai b ext) && (zhp b.Grants ext (zg2 b tab).Site b.Now).2
def zbz (b : GBrowser) (tab ext : Int) : GBrowser × Bool :=
 if inR tab 0 ((b.Tabs.length : Int) - 1) then (if zkv b tab ext then { ze4 b tab with Grants := (zhp b.Grants ext (zg2 b tab).Site b.Now).1 } else ze4 b tab, true) else (b, false)
set_option maxHeartbeats 2000000 in
theorem zqw (b : GBrowser) (tab ext : Int) (cs : List C) (S : Store) (h : Rd S b.d cs) (hz : szL b.d ≤ 2097152) : EvA Tryz.prog 35 [.agg cs, .s (.int .i64 tab), .s (.int .i64 ext)] S (fun r S' => Ext S S' ∧ ∃ c1 c2 c3 c4 c5 c6, r = .tup [.agg [.int .i64 (zbz b tab ext).1.Key, c1, c2, c3, c4, c5, c6, .int .i64 (zbz b tab ext).1.Now], .s (.bool (zbz b tab ext).2)] ∧ Fr S.length S' (zbz b tab ext).1.d [.int .i64 (zbz b tab ext).1.Key, c1, c2, c3, c4, c5, c6, .int .i64 (zbz b tab ext).1.Now]) := by
 have hzs := hz
 simp only [GBrowser.d, szL, List.length_map] at hzs
 obtain ⟨_, _, _, _, _, _, rfl, _, _, _, _, _, _⟩ := GBrowser.inv h
 refine zac tok Tryz.func35 (by kernel_rfl) rfl ?_
 skip
 all_goals try (exfalso; omega)
 (conv => whnf)
 refine zab (zao b _ _ h (by omega)) ?_; rintro _ S0 ⟨e0, c1, c2, c3, c4, c5, c6, rfl, f0⟩
 rcases hk : inR tab 0 ((b.Tabs.length : Int) - 1) with _ | _
 ·have hr : zbz b tab ext = (b, false) := by unfold zbz; rw [if_neg (by rw [hk]; decide)]
  rw [hr]
  repeat' ((conv => whnf) <;> first
   | refine cD (fun _ => ?_) fun _ => ?_ | refine cT ?_ | refine rE fun hml => ?_ | refine And.intro ?_ ?_)
  all_goals first
   | exact e0
   | exact ⟨_, _, _, _, _, _, rfl, f0⟩
   | (exfalso; simp [inR] at *; omega)
 ·have ht : 0 ≤ tab ∧ tab.toNat < b.Tabs.length := by simp [inR] at hk; omega
  have hto : zg2 b tab = b.Tabs[tab.toNat]'ht.2 := zea ht.2
  have hr : zbz b tab ext = (if zkv b tab ext then { ze4 b tab with Grants := (zhp b.Grants ext (zg2 b tab).Site b.Now).1 } else ze4 b tab, true) := by unfold zbz; rw [if_pos hk]
  have hcl : zkv b tab ext = (decide (0 ≤ zai b ext) && (zhp b.Grants ext (zg2 b tab).Site b.Now).2) := rfl
  rw [hr]
  have r1 := f0.rdAt (o := 1) (d := .sl 6 (b.Tabs.map GTab.d)) rfl rfl
  repeat' ((conv => whnf) <;> first
   | refine cD (fun _ => ?_) fun _ => ?_ | refine cT ?_ | refine rE fun hml => ?_ | refine rI rdA rf ix ?_ | refine And.intro ?_ ?_)
  all_goals try (exfalso; simp [inR] at *; omega)
  (conv => whnf)
  refine zj6 (q := 1) (A := [.x (.int .i64 (b.Tabs[tab.toNat]'ht.2).Site.Owner), .x (.int .i64 (b.Tabs[tab.toNat]'ht.2).Site.Sub), .sl 5 ((b.Tabs[tab.toNat]'ht.2).Base.map GNode.d), .sl 6 ((b.Tabs[tab.toNat]'ht.2).Edits.map GEdit.d), .sl 1 ((b.Tabs[tab.toNat]'ht.2).Hidden.map dInt)]) (B := [.x (.int .i64 (b.Tabs[tab.toNat]'ht.2).Click)]) (B' := [.x (.int .i64 b.Now)]) (Z := []) e0 f0 (Ext.refl _) e0.len rfl rfl ziu (by rw [List.length_map]; exact ht) (z4g ht.2) (by rfl) (by rfl) (by rfl) ?_; intro S1 e1 f1 l1
  have f2 : Fr S.length S1 (ze4 b tab).d [.int .i64 b.Key, c1, c2, c3, c4, c5, c6, .int .i64 b.Now] := by
   have e : (b.Tabs.map GTab.d).set tab.toNat { zg2 b tab with Click := b.Now }.d = (b.Tabs.set tab.toNat { zg2 b tab with Click := b.Now }).map GTab.d := (List.map_set ..).symm
   rw [hto] at e
   unfold ze4
   rw [hto]
   simp only [GBrowser.d]
   rw [← e]; exact f1
  clear f1 f0
  rcases hp : decide (0 ≤ zai b ext) with _ | _
  ·rw [hp, Bool.false_and] at hcl
   rw [hcl, if_neg (by decide)]
   repeat' ((conv => whnf) <;> first
    | refine cD (fun _ => ?_) fun _ => ?_ | refine cI (fun _ => ?_) fun _ => ?_ | (refine zaa (zbc _ _ _ _ rdcA) ?_) | (refine zab (zo9 _ _ _ _ _ _ rdA om) ?_; rintro _ Sn ⟨hEn, cn, rfl, hFn⟩) | refine rI rdA rf ix ?_ | (refine zaz (f := GTab.d) rdA ix ?_; intro _ hcs; obtain ⟨_, _, _, rfl, _, _, _⟩ := GTab.inv hcs) | refine zae 35 [.fl 0, .fl 1, .fl 2, .fl 3, .fl 4, .fl 5, .fl 6, .fl 7, .fl 8, .fl 9, .fl 10, .st 11 [], .fl 12, .fl 13, .fl 14, .st 15 [14], .st 16 []] (by rfl) (by kernel_rfl) ?_ | refine And.intro ?_ ?_)
   all_goals first
    | exact e1
    | exact ⟨_, _, _, _, _, _, rfl, f2⟩
    | (exfalso; simp_all; done)
    | (exfalso; omega)
  ·rw [hp, Bool.true_and, hto] at hcl
   repeat' ((conv => whnf) <;> first
    | refine cD (fun _ => ?_) fun _ => ?_ | (refine zaa (zbc _ _ _ _ rdcA) ?_) | refine rI rdA rf ix ?_ | (refine zaz (f := GTab.d) rdA ix ?_; intro _ hcs; obtain ⟨_, _, _, rfl, _, _, _⟩ := GTab.inv hcs) | refine zae 35 [.fl 0, .fl 1, .fl 2, .fl 3, .fl 4, .fl 5, .fl 6, .fl 7, .fl 8, .fl 9, .fl 10, .st 11 [], .fl 12, .fl 13, .fl 14, .st 15 [14], .st 16 []] (by rfl) (by kernel_rfl) ?_ | refine And.intro ?_ ?_)
   all_goals try first | (exfalso; simp_all; done) | (exfalso; omega)
   (conv => whnf)
   refine zab (zo9 b.Grants ext (b.Tabs[tab.toNat]'ht.2).Site b.Now _ _ rdA (by omega)) ?_; rintro _ S2 ⟨e2, d2, rfl, f3⟩
   rw [hto]
   rcases hl : (zhp b.Grants ext (b.Tabs[tab.toNat]'ht.2).Site b.Now).2 with _ | _
   ·rw [hl] at hcl
    rw [hcl, if_neg (by decide)]
    repeat' ((conv => whnf) <;> first
     | refine cF ?_ | refine And.intro ?_ ?_)
    all_goals first
     | exact e1.trans e2
     | exact ⟨_, _, _, _, _, _, rfl, f2.ext e2⟩
   ·rw [hl] at hcl
    rw [hcl, if_pos rfl]
    have f4 := f2.setAt (o := 3) e2 f3 e1.len (by show 3 < 8; decide)
    repeat' ((conv => whnf) <;> first
     | refine cT ?_ | refine And.intro ?_ ?_)
    all_goals first
     | exact e1.trans e2
     | exact ⟨_, _, _, _, _, _, rfl, f4⟩
def zi5 (b : GBrowser) (tab : Int) (s : GSite) : GTab × Bool := zb7 s exB2 (zg2 b tab).Hidden
def goTo (b : GBrowser) (tab : Int) (s : GSite) : GBrowser := { b with Tabs := b.Tabs.set tab.toNat (zi5 b tab s).1, Grants := b.Grants.filter (zhs (zg2 b tab).Site) }
def goOk (b : GBrowser) (tab : Int) (s : GSite) : Bool := inR tab 0 ((b.Tabs.length : Int) - 1) && ze7 s
def zew (b : GBrowser) (tab : Int) (s : GSite) : GBrowser × Bool := if goOk b tab s && (zi5 b tab s).2 then (goTo b tab s, true) else (b, false)
set_option maxHeartbeats 2000000 in
theorem zy5 (b : GBrowser) (tab : Int) (s : GSite) (cs : List C) (S : Store) (h : Rd S b.d cs) (hz : szL b.d ≤ 2097152) : EvA Tryz.prog 37 [.agg cs, .s (.int .i64 tab), .agg s.c] S (fun r S' => Ext S S' ∧ ∃ c1 c2 c3 c4 c5 c6, r = .tup [.agg [.int .i64 (zew b tab s).1.Key, c1, c2, c3, c4, c5, c6, .int .i64 (zew b tab s).1.Now], .s (.bool (zew b tab s).2)] ∧ Fr S.length S' (zew b tab s).1.d [.int .i64 (zew b tab s).1.Key, c1, c2, c3, c4, c5, c6, .int .i64 (zew b tab s).1.Now]) := by
 have hzs := hz
 simp only [GBrowser.d, szL, List.length_map] at hzs
 obtain ⟨_, _, _, _, _, _, rfl, _, _, _, _, _, _⟩ := GBrowser.inv h
 refine zac tok Tryz.func37 (by kernel_rfl) rfl ?_
 skip
 all_goals try (exfalso; omega)
 (conv => whnf)
 refine zab (zao b _ _ h (by omega)) ?_; rintro _ S0 ⟨e0, c1, c2, c3, c4, c5, c6, rfl, f0⟩
 rcases hk : goOk b tab s with _ | _
 ·have hr : zew b tab s = (b, false) := by unfold zew; rw [hk]; rfl
  rw [hr]
  repeat' ((conv => whnf) <;> first
   | refine cD (fun _ => ?_) fun _ => ?_ | refine cT ?_ | refine cN (fun _ => ?_) fun _ => ?_ | refine zaa (zeg _ _) ?_ | refine rE fun hml => ?_ | refine rI rdA rf ix ?_ | (refine zaz (f := GTab.d) rdA ix ?_; intro _ hcs; obtain ⟨_, _, _, rfl, _, _, _⟩ := GTab.inv hcs) | refine zae 29 [.fl 0, .fl 1, .fl 2, .fl 3, .fl 4, .fl 5, .fl 6, .fl 7, .fl 8, .fl 13, .st 9 [13], .fl 10, .fl 11, .fl 12, .st 14 [12], .st 15 []] (by rfl) (by kernel_rfl) ?_ | refine And.intro ?_ ?_)
  all_goals first
   | exact e0
   | exact ⟨_, _, _, _, _, _, rfl, f0⟩
   | (exfalso; simp [goOk, inR] at *; simp_all; done)
   | (exfalso; simp [goOk, inR] at *; simp_all; omega)
   | (exfalso; simp [goOk, inR] at *; omega)
 ·have ht : 0 ≤ tab ∧ tab.toNat < b.Tabs.length := by simp [goOk, inR] at hk; omega
  have hki := hk
  unfold goOk at hki
  simp only [Bool.and_eq_true] at hki
  have hto : zg2 b tab = b.Tabs[tab.toNat]'ht.2 := zea ht.2
  have r1 := f0.rdAt (o := 1) (d := .sl 6 (b.Tabs.map GTab.d)) rfl rfl
  have hsh : (b.Tabs[tab.toNat]'ht.2).Hidden.length ≤ 2097152 := by
   have h1 := zdf (f := GTab.d) (List.getElem_mem ht.2)
   simp only [GTab.d, szL, List.length_map] at h1
   omega
  have hgt : zi5 b tab s = zb7 s exB2 (b.Tabs[tab.toNat]'ht.2).Hidden := by unfold zi5; rw [hto]
  have hgo : goTo b tab s = { b with Tabs := b.Tabs.set tab.toNat (zi5 b tab s).1, Grants := b.Grants.filter (zhs (b.Tabs[tab.toNat]'ht.2).Site) } := by unfold goTo; rw [hto]
  have hsg : zew b tab s = if (zi5 b tab s).2 then (goTo b tab s, true) else (b, false) := by unfold zew; rw [hk, Bool.true_and]
  repeat' ((conv => whnf) <;> first
   | refine cD (fun _ => ?_) fun _ => ?_ | refine cT ?_ | refine cN (fun _ => ?_) fun _ => ?_ | refine zaa (zeg _ _) ?_ | refine rE fun hml => ?_ | refine rI rdA rf ix ?_ | (refine zaz (f := GTab.d) rdA ix ?_; intro _ hcs; obtain ⟨_, _, _, rfl, _, _, _⟩ := GTab.inv hcs) | refine zae 29 [.fl 0, .fl 1, .fl 2, .fl 3, .fl 4, .fl 5, .fl 6, .fl 7, .fl 8, .fl 13, .st 9 [13], .fl 10, .fl 11, .fl 12, .st 14 [12], .st 15 []] (by rfl) (by kernel_rfl) ?_ | refine And.intro ?_ ?_)
  all_goals try first | (exfalso; omega) | (exfalso; simp_all; done)
  (conv => whnf)
  refine zab (zvt s exB2 (b.Tabs[tab.toNat]'ht.2).Hidden _ _ _ (litN exB2 (by decide)).rd rdA (by simp only [List.length_cons, List.length_nil]; omega)) ?_; rintro _ S2 ⟨e2, t2, t3, t4, rfl, f2⟩
  replace e2 := (Ext.push _ _).trans e2
  replace f2 := f2.mono (lo' := S0.length) (Ext.push _ _).len
  rw [← hgt] at *
  have E2 := e0.trans e2
  rcases hq : (zi5 b tab s).2 with _ | _
  ·rw [hq, if_neg (by decide)] at hsg
   rw [hsg]
   repeat' ((conv => whnf) <;> first
    | refine cT ?_ | refine And.intro ?_ ?_)
   all_goals first
    | exact E2
    | exact ⟨_, _, _, _, _, _, rfl, f0.ext e2⟩
    | (exfalso; simp_all; done)
  rw [hq, if_pos rfl] at hsg
  rw [hsg]
  repeat' ((conv => whnf) <;> first
   | refine cF ?_ | refine rI rdA rf ix ?_ | (refine zaz (f := GTab.d) rdA ix ?_; intro _ hcs; obtain ⟨_, _, _, rfl, _, _, _⟩ := GTab.inv hcs) | refine zae 44 (iN 11 0 [8, 10]) (by rfl) (by kernel_rfl) ?_ | refine And.intro ?_ ?_)
  all_goals try first | (exfalso; omega) | (exfalso; simp_all; done)
  (conv => whnf)
  refine zab (zor b.Grants (b.Tabs[tab.toNat]'ht.2).Site _ _ rdA (by omega)) ?_; rintro _ S3 ⟨e3, d3, rfl, f3⟩
  have E3 := E2.trans e3
  have J : Fr S.length S3 (({ b with Grants := b.Grants.filter (zhs (b.Tabs[tab.toNat]'ht.2).Site) } : GBrowser).d ++ (zi5 b tab s).1.d) ([.int .i64 b.Key, c1, c2, d3, c4, c5, c6, .int .i64 b.Now] ++ [.int .i64 (zi5 b tab s).1.Site.Owner, .int .i64 (zi5 b tab s).1.Site.Sub, t2, t3, t4, .int .i64 (zi5 b tab s).1.Click]) := (f0.join e2 f2 e0.len).setAt (o := 3) e3 f3 E2.len (by show 3 < 14; decide)
  repeat' ((conv => whnf) <;> first
   | refine rI rdA rf ix ?_ | (refine zq9 (q := 1) (ds := ({ b with Grants := b.Grants.filter (zhs (b.Tabs[tab.toNat]'ht.2).Site) } : GBrowser).d) (A := []) (B := (b.Tabs[tab.toNat]'ht.2).d) (B' := (zi5 b tab s).1.d) (Z := []) E3 J rfl rfl rfl (by rw [List.length_map]; exact ht) (by rw [List.nil_append, List.append_nil]; exact z4g ht.2) (by rfl) (by rfl) (by rfl) ?_; intro S5 e5 f5 l5) | refine And.intro ?_ ?_)
  all_goals first
   | exact e5
   | (refine ⟨_, _, _, _, _, _, rfl, ?_⟩
      rw [hgo]
      simp only [GBrowser.d]
      rw [List.map_set]
      rw [List.nil_append, List.append_nil] at f5
      exact f5)
   | (exfalso; simp_all; done)
   | (exfalso; omega)
end Go.Proofs.YtlmmdpmmdmhacaaGreat
namespace Go.Proofs.YtlmmdpmmdmhacaaGreat
open Go Go.RowKit
set_option linter.unusedVariables false
set_option linter.unusedSimpArgs false
set_option maxHeartbeats 4000000 in
set_option maxRecDepth 100000 in
theorem zr0 (b n c i vb vc : Nat) (cur vcur : Array Value) (e e' : Nat) (w : World) (hi : i < n) (hroom : n + 1 ≤ c) (hc63 : c ≤ 9223372036854775807) (hvb : vb ≠ b)
 (hb : w.heap[b]? = some (.cells cur e (0, 0))) (hsz : cur.size = c * 5) (hv : w.heap[vb]? = some (.cells vcur e' (0, 0))) (hvs : 5 ≤ vcur.size)
 (h1 : ∀ v ∈ (cur.toList.drop (i * 5)).take ((n - i) * 5), v.oneCell' = true) (h1v : ∀ v ∈ vcur.toList.take 5, v.oneCell' = true) :
 Calls Tryz.prog 266 #[.slice (some ⟨b, 0, none⟩) n c, .int .i64 i, .slice (some ⟨vb, 0, none⟩) 1 vc] w fun r w' =>
  r = .returned (.slice (some ⟨b, 0, none⟩) (n + 1) c) ∧ w' = w.drew.setRow b (cur.toList.take (i * 5) ++ vcur.toList.take 5 ++ (cur.toList.drop (i * 5)).take ((n - i) * 5) ++ cur.toList.drop (i * 5 + 5 + (n - i) * 5)).toArray := by
 have hz2 : ¬ ((i : Int) = (n : Int)) := by omega
 have hz3 : ¬ ((c : Int) < (n : Int) + 1) := by omega
 have hinf : (Tryz.prog.info? 139).map (·.size) = some 5 := by kernel_rfl
 have hin : i ≤ n := by omega
 have hdl : ((cur.toList.drop (i * 5)).take ((n - i) * 5)).length = (n - i) * 5 := by
  rw [List.length_take, List.length_drop, Array.length_toList, hsz]; omega
 have hvl : (vcur.toList.take 5).length = 5 := by rw [List.length_take, Array.length_toList]; omega
 have hov : ∀ lb cb, (callFunc 325 #[.slice (some ⟨vb, 0, none⟩) 1 vc, .slice (some ⟨b, (i + 1) * 5, none⟩) lb cb]).run Tryz.prog w = .ok (.value (.bool false)) w := fun lb cb => by
  rw [run_callFunc_extern Tryz.func325 (by kernel_rfl) (by kernel_rfl) (by kernel_rfl) (e := Extern.SlicesOverlaps.overlaps #[45, 45] #[4]) (by kernel_rfl),
   Lib.run_overlaps_apart w 45 4 139 Tryz.underlying45 5 Tryz.sizeOf139 ⟨vb, 0, none⟩ ⟨b, (i + 1) * 5, none⟩ 1 vc lb cb hvb e' e vcur.size cur.size (by simp [World.shape?, hv]) (by simp [World.shape?, hb]) (by omega) (by simp [World.frozen?, hv]) (by simp [World.frozen?, hv])]
  rfl
 obtain ⟨A1, hA1⟩ : ∃ A1 : Array Value, A1 = (cur.toList.take (i * 5 + 5) ++ (cur.toList.drop (i * 5)).take ((n - i) * 5) ++ cur.toList.drop (i * 5 + 5 + (n - i) * 5)).toArray := ⟨_, rfl⟩
 have hcp1 : ∀ ty dc sc, (Builtin.copy_ #[45, 45] ty #[.slice (some ⟨b, (i + 1) * 5, none⟩) (n + 1 - (i + 1)) dc, .slice (some ⟨b, i * 5, none⟩) (n + 1 - i) sc]).run Tryz.prog w.drew = .ok (goInt (Nat.min (n + 1 - i) (n + 1 - (i + 1)))) (w.drew.setRow b A1) := fun ty dc sc => by
  have h := zbo w.drew 45 45 ty 139 5 b ((i + 1) * 5) (n + 1 - (i + 1)) dc ⟨b, i * 5, none⟩ (n + 1 - i) sc cur e _ Tryz.underlying45 hinf hb ?_ (fun j v hj => ?_) ?_ h1
  ·rw [hdl] at h
   rw [hA1, show i * 5 + 5 = (i + 1) * 5 by omega]
   exact h
  ·rw [hdl, show Nat.min (n + 1 - i) (n + 1 - (i + 1)) = n - i by simp only [Nat.min_def]; split <;> omega]
  ·rw [zcl, cell_of_row w.drew _ _ cur e (0, 0) hb]
   rw [List.getElem?_take] at hj
   split at hj
   ·rw [List.getElem?_drop] at hj; simpa using hj
   ·cases hj
  ·rw [hdl, hsz]; omega
 have hA1s : A1.size = c * 5 := by
  rw [hA1]; simp only [List.size_toArray, List.length_append, List.length_take, List.length_drop, Array.length_toList, hsz]; omega
 have hb1 : (w.drew.setRow b A1).heap[b]? = some (.cells A1 e (0, 0)) := setRow_heap w.drew b cur A1 e (0, 0) hb
 have hend : (w.drew.setRow b A1).setRow b (A1.toList.take (i * 5) ++ (vcur.toList.take 5 ++ A1.toList.drop (i * 5 + 5))).toArray = w.drew.setRow b (cur.toList.take (i * 5) ++ vcur.toList.take 5 ++ (cur.toList.drop (i * 5)).take ((n - i) * 5) ++ cur.toList.drop (i * 5 + 5 + (n - i) * 5)).toArray := by
  rw [setRow_setRow, zig 5 (i * 5) ((n - i) * 5) cur.toList (vcur.toList.take 5) (by rw [Array.length_toList, hsz]; omega) A1.toList (by rw [hA1])]
 have hcp2 : ∀ (W : World), W.heap = (w.drew.setRow b A1).heap → ∀ ty dc, (Builtin.copy_ #[45, 45] ty #[.slice (some ⟨b, i * 5, none⟩) (n + 1 - i) dc, .slice (some ⟨vb, 0, none⟩) 1 vc]).run Tryz.prog W = .ok (goInt (Nat.min 1 (n + 1 - i))) (W.setRow b (A1.toList.take (i * 5) ++ (vcur.toList.take 5 ++ A1.toList.drop (i * 5 + 5))).toArray) := fun W hW ty dc => by
  have h := zbo W 45 45 ty 139 5 b (i * 5) (n + 1 - i) dc ⟨vb, 0, none⟩ 1 vc A1 e (vcur.toList.take 5) Tryz.underlying45 hinf (by rw [hW]; exact hb1) ?_ (fun j v hj => ?_) ?_ h1v
  ·rw [hvl] at h
   rw [← List.append_assoc]
   exact h
  ·rw [hvl, show Nat.min 1 (n + 1 - i) = 1 by simp only [Nat.min_def]; split <;> omega]
  ·have hvW : W.heap[vb]? = some (.cells vcur e' (0, 0)) := by rw [hW, setRow_other w.drew _ _ _ hvb]; exact hv
   rw [zcl, cell_of_row W _ _ vcur e' (0, 0) hvW]
   rw [List.getElem?_take] at hj
   split at hj
   ·simpa using hj
   ·cases hj
  ·rw [hvl, hA1s]; omega
 have hw1 : IntKind.i64.wrap ((i : Int) + 1) = (i : Int) + 1 := by rw [IntKind.wrap_i64]; omega
 have hw2 : IntKind.i64.wrap ((n : Int) + 1) = (n : Int) + 1 := by rw [IntKind.wrap_i64]; omega
 have hb1' : (0 : Int) ≤ (i : Int) + 1 := by omega
 have htn : ((i : Int) + 1).toNat = i + 1 := by omega
 have hb2 : ¬ (c = i + 1) := by omega
 have hb3 : (i : Int) ≤ (n : Int) + 1 := by omega
 have hb4 : ¬ (c = i) := by omega
 have ns := Tryz.sizeOf139
 have nu := Tryz.underlying45
 have mixed : Tryz.prog.follows .mixedOrders = true := by kernel_rfl
 clear hA1 hdl hvl hsz hA1s hb1
 rw [← hend]
 clear hend
 go_enter Tryz.func266, Tryz.ntmps266
 go_wp2_with (simp only [hov])
 go_region_law_o (refine zx6 rfl _ _ 45 45 rfl (.slice (some ⟨b, (i + 1) * 5, none⟩) (n + 1 - (i + 1)) (c - (i + 1))) (.slice (some ⟨b, i * 5, none⟩) (n + 1 - i) (c - i)) (by simp [Act.eval, Act.put]) (by simp [Act.eval, Act.put]) (hcp1 _ _ _) ?_)
 go_wp2_with (refine wpc rfl _ _ 45 45 rfl _ _ rfl rfl (hcp2 _ rfl _ _) ?_)
 go_ret
 exact ⟨rfl, rfl⟩
set_option maxHeartbeats 4000000 in
set_option maxRecDepth 100000 in
theorem zt4 (b n c i vb vc : Nat) (cur vcur : Array Value) (e e' : Nat) (w : World) (hi : i < n) (hnc : n ≤ c) (hroom : c < n + 1) (hbig : (n + 1) * 40 ≤ 140737488355328) (hvb : vb ≠ b)
 (hb : w.heap[b]? = some (.cells cur e (0, 0))) (hsz : cur.size = c * 5) (hv : w.heap[vb]? = some (.cells vcur e' (0, 0))) (hvs : 5 ≤ vcur.size)
 (h1 : ∀ v ∈ (cur.toList.drop (i * 5)).take ((n - i) * 5), v.oneCell' = true) (h1v : ∀ v ∈ vcur.toList.take 5, v.oneCell' = true) :
 Calls Tryz.prog 266 #[.slice (some ⟨b, 0, none⟩) n c, .int .i64 i, .slice (some ⟨vb, 0, none⟩) 1 vc] w fun r w' =>
  r = .returned (.slice (some ⟨w.heap.size, 0, none⟩) (n + 1) (grownCap w (n + 1) c 139)) ∧ n + 1 ≤ grownCap w (n + 1) c 139 ∧
  ∃ Z : List Value, Z.length = (grownCap w (n + 1) c 139 - (n + 1)) * 5 ∧ w'.heap = (w.alloc (.cells (cur.toList.take (i * 5) ++ vcur.toList.take 5 ++ (cur.toList.drop (i * 5)).take ((n - i) * 5) ++ Z).toArray 139)).heap ∧ w'.os = w.os ∧ w'.tape = w.tape ∧ w'.output = w.output := by
 have hz2 : ¬ ((i : Int) = (n : Int)) := by omega
 have hz3 : (c : Int) < (n : Int) + 1 := by omega
 obtain ⟨i0, hi0, hz0, hzs, hzb⟩ := info_parts (show (Tryz.prog.info? 139).map (fun i => (i.zero, i.size, i.bytes)) = some (some (.agg #[.int .i64 0, .int .i64 0, .int .i64 0, .int .i64 0, .int .i64 0]), 5, 40) by kernel_rfl)
 have hinf : (Tryz.prog.info? 139).map (·.size) = some 5 := by kernel_rfl
 have hin : i ≤ n := by omega
 have hbw : b < w.heap.size := (Array.getElem?_eq_some_iff.1 hb).1
 have hvw : vb < w.heap.size := (Array.getElem?_eq_some_iff.1 hv).1
 have hdl : ((cur.toList.drop (i * 5)).take ((n - i) * 5)).length = (n - i) * 5 := by
  rw [List.length_take, List.length_drop, Array.length_toList, hsz]; omega
 have hvl : (vcur.toList.take 5).length = 5 := by rw [List.length_take, Array.length_toList]; omega
 have hkk : (n : Int) + 1 - (i : Int) = ((n + 1 - i : Nat) : Int) := by omega
 have hik : i + (n + 1 - i) = n + 1 := by omega
 have hold : (Builtin.firstCells i0.size i (.slice (some ⟨b, 0, none⟩) i c)).run Tryz.prog w.drew = .ok (cur.toList.take (i * 5)).toArray w.drew := by
  rw [hzs]
  exact run_firstCells_some w.drew 5 i ⟨b, 0, none⟩ i c (cur.toList.take (i * 5)) (by rw [List.length_take, Array.length_toList, hsz]; omega) (fun j v hj => by
   rw [zcl, cell_of_row w.drew _ _ cur e (0, 0) hb]
   rw [List.getElem?_take] at hj
   split at hj
   ·simpa using hj
   ·cases hj)
 obtain ⟨G, hG⟩ : ∃ G, G = grownCap w (n + 1) c 139 := ⟨_, rfl⟩
 obtain ⟨Z0, hZ0⟩ : ∃ Z0 : Array Value, Z0 = Builtin.zeroCells (Value.agg #[.int .i64 0, .int .i64 0, .int .i64 0, .int .i64 0, .int .i64 0]).cells (n + 1 - i) ++ Builtin.zeroCells (Value.agg #[.int .i64 0, .int .i64 0, .int .i64 0, .int .i64 0, .int .i64 0]).cells (G - (n + 1)) := ⟨_, rfl⟩
 obtain ⟨ROW, hROW⟩ : ∃ ROW : Array Value, ROW = (cur.toList.take (i * 5) ++ Z0.toList).toArray := ⟨_, rfl⟩
 have hrz : ∀ ty, (Builtin.append_ #[45, 3] ty #[.slice (some ⟨b, 0, none⟩) i c, .int .i64 ((n : Int) + 1 - (i : Int))]).run Tryz.prog w =
  .ok (.slice (some ⟨w.heap.size, 0, none⟩) (n + 1) G) (w.drew.alloc (.cells ROW 139)) := fun ty => by
  have h := Lib.run_append_grow_zeros (P := Tryz.prog) w 45 3 ty 139 i0 _ .i64 .i64 Tryz.underlying45 Tryz.underlying3 hi0 hz0 (some ⟨b, 0, none⟩) i c (cur.toList.take (i * 5)) hold (n + 1 - i) (by omega) (by omega) (by omega) (by omega) (by rw [hzb]; omega) (by rw [hzb, hik]; exact growslice_fits hroom hbig)
  rw [hik, ← hG] at h
  rw [hkk, hROW, hZ0]
  have e1 : (cur.toList.take (i * 5) ++ (Builtin.zeroCells (Value.agg #[.int .i64 0, .int .i64 0, .int .i64 0, .int .i64 0, .int .i64 0]).cells (n + 1 - i) ++ Builtin.zeroCells (Value.agg #[.int .i64 0, .int .i64 0, .int .i64 0, .int .i64 0, .int .i64 0]).cells (G - (n + 1))).toList).toArray = (cur.toList.take (i * 5)).toArray ++ Builtin.zeroCells (Value.agg #[.int .i64 0, .int .i64 0, .int .i64 0, .int .i64 0, .int .i64 0]).cells (n + 1 - i) ++ Builtin.zeroCells (Value.agg #[.int .i64 0, .int .i64 0, .int .i64 0, .int .i64 0, .int .i64 0]).cells (G - (n + 1)) := by
   apply Array.toList_inj.1; simp
  rw [e1]
  exact h
 have hGn : n + 1 ≤ G := by rw [hG]; exact grownCap_ge w _ _ _
 have hG63 : G ≤ 9223372036854775807 := by
  have := grownCap_le_maxLen w (n + 1) c 139 (by unfold maxLen; omega)
  rw [← hG] at this
  unfold maxLen at this
  omega
 have hZl : Z0.toList.length = 5 + (n - i) * 5 + (G - (n + 1)) * 5 := by
  rw [hZ0, Array.length_toList, Array.size_append, size_zeroCells, size_zeroCells]
  show (n + 1 - i) * 5 + (G - (n + 1)) * 5 = _
  omega
 have hROWs : ROW.size = G * 5 := by
  rw [hROW, List.size_toArray, List.length_append, hZl, List.length_take, Array.length_toList, hsz]; omega
 obtain ⟨W1, hW1⟩ : ∃ W1, W1 = w.drew.alloc (.cells ROW 139) := ⟨_, rfl⟩
 rw [← hW1] at hrz
 have hN1 : W1.heap[w.heap.size]? = some (.cells ROW 139 (0, 0)) := by rw [hW1]; exact Go.heap_alloc_new w.drew _
 have hO1 : ∀ x, x < w.heap.size → W1.heap[x]? = w.heap[x]? := fun x hx => by rw [hW1]; exact Go.heap_alloc_old w.drew _ hx
 have hbN : b ≠ w.heap.size := by omega
 have hvN : vb ≠ w.heap.size := by omega
 obtain ⟨B1, hB1⟩ : ∃ B1 : Array Value, B1 = (ROW.toList.take (i * 5) ++ (vcur.toList.take 5 ++ ROW.toList.drop (i * 5 + 5))).toArray := ⟨_, rfl⟩
 have hB1s : B1.size = G * 5 := by
  rw [hB1]; simp only [List.size_toArray, List.length_append, List.length_drop, List.length_take, Array.length_toList, hROWs]; omega
 have hcpA : ∀ (W : World), W.heap = W1.heap → ∀ ty dc, (Builtin.copy_ #[45, 45] ty #[.slice (some ⟨w.heap.size, i * 5, none⟩) (n + 1 - i) dc, .slice (some ⟨vb, 0, none⟩) 1 vc]).run Tryz.prog W = .ok (goInt (Nat.min 1 (n + 1 - i))) (W.setRow w.heap.size B1) := fun W hW ty dc => by
  have h := zbo W 45 45 ty 139 5 w.heap.size (i * 5) (n + 1 - i) dc ⟨vb, 0, none⟩ 1 vc ROW 139 (vcur.toList.take 5) Tryz.underlying45 hinf (by rw [hW]; exact hN1) ?_ (fun j v hj => ?_) ?_ h1v
  ·rw [hvl] at h
   rw [hB1, ← List.append_assoc]
   exact h
  ·rw [hvl, show Nat.min 1 (n + 1 - i) = 1 by simp only [Nat.min_def]; split <;> omega]
  ·have hvW : W.heap[vb]? = some (.cells vcur e' (0, 0)) := by rw [hW, hO1 _ hvw]; exact hv
   rw [zcl, cell_of_row W _ _ vcur e' (0, 0) hvW]
   rw [List.getElem?_take] at hj
   split at hj
   ·simpa using hj
   ·cases hj
  ·rw [hvl, hROWs]; omega
 have hcpB : ∀ (W : World), W.heap = (W1.setRow w.heap.size B1).heap → ∀ ty dc sc, (Builtin.copy_ #[45, 45] ty #[.slice (some ⟨w.heap.size, (i + 1) * 5, none⟩) (n + 1 - (i + 1)) dc, .slice (some ⟨b, i * 5, none⟩) (n - i) sc]).run Tryz.prog W = .ok (goInt (Nat.min (n - i) (n + 1 - (i + 1)))) (W.setRow w.heap.size (B1.toList.take (i * 5 + 5) ++ ((cur.toList.drop (i * 5)).take ((n - i) * 5) ++ B1.toList.drop (i * 5 + 5 + (n - i) * 5))).toArray) := fun W hW ty dc sc => by
  have h := zbo W 45 45 ty 139 5 w.heap.size ((i + 1) * 5) (n + 1 - (i + 1)) dc ⟨b, i * 5, none⟩ (n - i) sc B1 139 ((cur.toList.drop (i * 5)).take ((n - i) * 5)) Tryz.underlying45 hinf (by rw [hW]; exact setRow_heap W1 _ ROW B1 139 (0, 0) hN1) ?_ (fun j v hj => ?_) ?_ h1
  ·rw [hdl] at h
   rw [← List.append_assoc, show i * 5 + 5 = (i + 1) * 5 by omega]
   exact h
  ·rw [hdl, show Nat.min (n - i) (n + 1 - (i + 1)) = n - i by simp only [Nat.min_def]; split <;> omega]
  ·have hbW : W.heap[b]? = some (.cells cur e (0, 0)) := by rw [hW, setRow_other W1 _ _ _ hbN, hO1 _ hbw]; exact hb
   rw [zcl, cell_of_row W _ _ cur e (0, 0) hbW]
   rw [List.getElem?_take] at hj
   split at hj
   ·rw [List.getElem?_drop] at hj; simpa using hj
   ·cases hj
  ·rw [hdl, hB1s]; omega
 have hfin : (B1.toList.take (i * 5 + 5) ++ ((cur.toList.drop (i * 5)).take ((n - i) * 5) ++ B1.toList.drop (i * 5 + 5 + (n - i) * 5))) = cur.toList.take (i * 5) ++ vcur.toList.take 5 ++ (cur.toList.drop (i * 5)).take ((n - i) * 5) ++ Z0.toList.drop (5 + (n - i) * 5) :=
  zji 5 (i * 5) ((n - i) * 5) ((G - (n + 1)) * 5) cur.toList (vcur.toList.take 5) Z0.toList (by rw [Array.length_toList, hsz]; omega) hvl hZl ROW.toList (by rw [hROW]) B1.toList (by rw [hB1])
 have hZd : (Z0.toList.drop (5 + (n - i) * 5)).length = (G - (n + 1)) * 5 := by rw [List.length_drop, hZl]; omega
 have hw1 : IntKind.i64.wrap ((i : Int) + 1) = (i : Int) + 1 := by rw [IntKind.wrap_i64]; omega
 have hw2 : IntKind.i64.wrap ((n : Int) + 1) = (n : Int) + 1 := by rw [IntKind.wrap_i64]; omega
 have hw3 : IntKind.i64.wrap ((n : Int) + 1 - (i : Int)) = (n : Int) + 1 - (i : Int) := by rw [IntKind.wrap_i64]; omega
 have hb1' : (0 : Int) ≤ (i : Int) + 1 := by omega
 have htn : ((i : Int) + 1).toNat = i + 1 := by omega
 have hGi : ¬ (G = i) := by omega
 have hGim : ¬ (G = i + 1) := by omega
 have hci : ¬ (c = i) := by omega
 have hb3 : (i : Int) ≤ (n : Int) := by omega
 have hb3' : (i : Int) ≤ (n : Int) + 1 := by omega
 have hGn1 : (n : Int) + 1 ≤ (G : Int) := by omega
 have ns := Tryz.sizeOf139
 have nu := Tryz.underlying45
 have mixed : Tryz.prog.follows .mixedOrders = true := by kernel_rfl
 rw [← hG]
 subst hW1
 clear hkk hik hold hROW hG hROWs hB1s hB1 hZ0 hZl hdl hvl hsz hi0 hz0 hzs hzb
 go_enter Tryz.func266, Tryz.ntmps266
 go_wp2_with (first
  | (at_builtin; refine Lib.wpList_append_run _ rfl _ _ _ _ rfl _ _ rfl rfl _ _ (hrz _) ?_)
  | (refine wpc rfl _ _ 45 45 rfl _ _ rfl rfl (hcpA _ (by rfl) _ _) ?_)
  | (refine wpc rfl _ _ 45 45 rfl _ _ rfl rfl (hcpB _ (by rfl) _ _ _) ?_))
 go_region_law_o (refine zx6 rfl _ _ 45 45 rfl (.slice (some ⟨w.heap.size, (i + 1) * 5, none⟩) (n + 1 - (i + 1)) (G - (i + 1))) (.slice (some ⟨b, i * 5, none⟩) (n - i) (c - i)) (by simp [Act.eval, Act.put]) (by simp [Act.eval, Act.put]) (hcpB _ (by rfl) 3 (G - (i + 1)) (c - i)) ?_)
 go_wp2
 go_ret
 refine ⟨rfl, hGn, Z0.toList.drop (5 + (n - i) * 5), hZd, ?_, rfl, rfl, rfl⟩
 rw [zrt]
 simp only [List.append_assoc]
theorem zu8 : InsRaw Tryz.prog 266 5 40 139 := ⟨zr0, zt4⟩
theorem zup : FOK Tryz.prog 266 := ⟨Tryz.f266, Tryz.func266, by kernel_rfl, by kernel_rfl⟩
end Go.Proofs.YtlmmdpmmdmhacaaGreat
namespace Go.Proofs.YtlmmdpmmdmhacaaGreat
open Go Go.ChangeShapes Go.WideShapes Go.ChangeAt Go.RowKit
set_option linter.unusedVariables false
set_option linter.unusedSimpArgs false
set_option maxRecDepth 100000
theorem zin {S0 S : Store} {c : C} {l : List GNode} {i v : Int} {off : Nat} {K : Store → Prop} (x0 x' : GNode) (A Z : List D) (o : C) (hE : Ext S0 S) (h : Fr S0.length S [.sl 5 (l.map GNode.d)] [c]) (h0 : 0 ≤ i) (hl : l[i.toNat]? = some x0)
 (hx : x'.d = A ++ [.x (.int .i64 v)] ++ Z) (ho : x0.d = A ++ [.x o] ++ Z) (hA : A.length = off)
 (hK : ∀ S', Ext S0 S' → Fr S0.length S' [.sl 5 ((l.set i.toNat x').map GNode.d)] [c] → K S') : StoP S c i off [.int .i64 v] K := by
 have hlt : i.toNat < l.length := (List.getElem?_eq_some_iff.1 hl).1
 refine z1y (A := A) (B := [.x o]) (B' := [.x (.int .i64 v)]) (Z := Z) (k := 5) hE h (Ext.refl S) (fr_x zc2) hE.len ⟨h0, by rw [List.length_map]; exact hlt⟩ (by rw [List.getElem?_map, hl, ← ho]; rfl) hA rfl (by rw [← ho]; rfl) fun S' h1 h2 _ => hK S' h1 ?_
 rw [List.map_set, hx]; exact h2
theorem zv4 {S : Store} {α : Type} {f : α → List D} {k : Nat} (l : List α) (hf : ∀ x, Flat (f x)) (h : l.length ≤ 9223372036854775807) : Fr S.length (S ++ [⟨true, k, l.map fun x => zdz (f x)⟩]) [.sl k (l.map f)] [.sl S.length 0 l.length l.length] :=
 zih (xs := l.map f) (js := []) (zem hf l) List.nodup_nil (fun _ h => by cases h) (Nat.le_refl _) (by rw [zan]; simpa using h) (by simp)
def upGo (d : List GNode) (top : Int) : Nat → Int → Bool
 | 0, _ => false
 | f + 1, id => if id = top then true else if zah d id ≤ 0 then false else upGo d top f (d.getD (zah d id).toNat default).Parent
def zjg (d : List GNode) (id top : Int) : Bool := upGo d top ((zah d id).toNat + 1) id
def zd9 (d : List GNode) (id top : Int) : Bool := zck d && decide (0 ≤ zah d id) && decide (0 ≤ zah d top) && zjg d id top
theorem zjh (id : Int) : ∀ (l : List GNode) (i : Nat), zbh id l i = -1 ∨ ∃ j, ∃ h : j < l.length, zbh id l i = ((i + j : Nat) : Int) ∧ (l[j]'h).Id = id
 | [], i => .inl rfl
 | x :: r, i => by
   rw [zbh]
   split
   ·rename_i h; exact .inr ⟨0, by simp, by simp, h⟩
   ·rcases zjh id r (i + 1) with h | ⟨j, hj, h1, h2⟩
    ·exact .inl h
    ·exact .inr ⟨j + 1, by simp; omega, by rw [h1]; congr 1; omega, by simpa using h2⟩
theorem zh1 {d : List GNode} {id : Int} (h : 0 ≤ zah d id) : ∃ hj : (zah d id).toNat < d.length, (d[(zah d id).toNat]'hj).Id = id := by
 unfold zah at h ⊢
 rcases zjh id d 0 with h1 | ⟨j, hj, h1, h2⟩
 ·omega
 ·have e : (zbh id d 0).toNat = j := by rw [h1]; omega
  simp only [e]
  exact ⟨hj, h2⟩
theorem z12 (d : List GNode) (id : Int) : zah d id < d.length ∧ -1 ≤ zah d id := by
 unfold zah
 rcases zjh id d 0 with h1 | ⟨j, hj, h1, h2⟩ <;> omega
theorem zlt (id : Int) : ∀ (l m : List GNode) (i : Nat), zbh id (l ++ m) i = if 0 ≤ zbh id l i then zbh id l i else zbh id m (i + l.length)
 | [], m, i => by simp [zbh]
 | x :: r, m, i => by
   rw [List.cons_append, zbh, zbh]
   split
   ·rw [if_pos (by omega)]
   ·rw [zlt id r m (i + 1), List.length_cons, show i + 1 + r.length = i + (r.length + 1) by omega]
theorem zu1 {d : List GNode} {id : Int} {i : Nat} (h : 0 ≤ zah (d.take i) id) : zah d id = zah (d.take i) id ∧ zah d id < i := by
 have e : zah d id = zah (d.take i) id := by
  unfold zah at h ⊢
  have h1 := zlt id (d.take i) (d.drop i) 0
  rw [List.take_append_drop, if_pos h] at h1
  exact h1
 refine ⟨e, ?_⟩
 have := (z12 (d.take i) id).1
 rw [List.length_take] at this
 omega
theorem zxb (d : List GNode) : ∀ (l : List GNode) (i : Nat), zh4 d l i = true → ∀ j (h : j < l.length), zej d (l[j]'h) (i + j) = true
 | [], i, _, j, h => by cases h
 | x :: r, i, h, j, hj => by
   rw [zh4] at h
   split at h
   ·rename_i hx
    cases j with
    | zero => exact hx
    | succ j =>
      have := zxb d r (i + 1) h j (by simpa using hj)
      rw [show i + (j + 1) = i + 1 + j by omega]
      simpa using this
   ·cases h
theorem z1e {d : List GNode} (h : zck d = true) : (1 ≤ d.length ∧ d.length ≤ 16) ∧ ∀ j (hj : j < d.length), zej d (d[j]'hj) j = true := by
 simp only [zck, Bool.and_eq_true, decide_eq_true_eq] at h
 exact ⟨h.1, fun j hj => by have := zxb d d 0 h.2 j hj; rwa [Nat.zero_add] at this⟩
theorem zdv {d : List GNode} (h : zck d = true) {j : Nat} (hj : j < d.length) (h0 : 0 < j) : 0 ≤ zah d (d[j]'hj).Parent ∧ zah d (d[j]'hj).Parent < j := by
 have := (z1e h).2 j hj
 rw [zfu h0 (by omega)] at this
 simp only [Bool.and_eq_true, decide_eq_true_eq] at this
 have h1 := zu1 this.2.2
 exact ⟨by rw [h1.1]; exact this.2.2, h1.2⟩
theorem zs6 {d : List GNode} (h : zck d = true) (top : Int) : ∀ (f g : Nat) (id : Int), (zah d id).toNat < f → (zah d id).toNat < g → upGo d top f id = upGo d top g id
 | 0, g, id, h1, _ => by omega
 | f + 1, 0, id, _, h2 => by omega
 | f + 1, g + 1, id, h1, h2 => by
   rw [upGo, upGo]
   split
   ·rfl
   ·split
    ·rfl
    ·rename_i hp
     have hp : ¬ zah d id ≤ 0 := hp
     obtain ⟨hj, _⟩ := zh1 (d := d) (id := id) (by omega)
     have hpar := zdv h hj (by omega)
     rw [zea hj]
     exact zs6 h top f g _ (by omega) (by omega)
theorem z3u {d : List GNode} (h : zck d = true) (id top : Int) : zjg d id top = if id = top then true else if zah d id ≤ 0 then false else zjg d (d.getD (zah d id).toNat default).Parent top := by
 unfold zjg
 rw [upGo]
 split
 ·rfl
 ·split
  ·rfl
  ·rename_i hp
   obtain ⟨hj, _⟩ := zh1 (d := d) (id := id) (by omega)
   have hpar := zdv h hj (by omega)
   rw [zea hj]
   exact zs6 h top _ _ _ (by omega) (by omega)
theorem zqh (d : List GNode) (id top : Int) (c : C) (S : Store) (h : Rd S [.sl 5 (d.map GNode.d)] [c]) (hd : zck d = true) : EvA Tryz.prog 267 [.s c, .s (.int .i64 id), .s (.int .i64 top)] S (fun r S' => r = .v (.s (.bool (zjg d id top))) ∧ S' = S) := by
 refine zac tok Tryz.func267 (by kernel_rfl) rfl ?_
 skip
 refine zag {x : Int // zjg d x top = zjg d id top} [1, 6, 7, 8, 9, 10, 11, 12, 13, 14, 15, 16, 17, 18, 19, 20] (fun zb => [(1, .v (.s (.int .i64 zb.1)))]) (fun _ => S) (fun zb => (zah d zb.1).toNat) ⟨id, rfl⟩ okL rfl ?_
 rintro ⟨x, hinv⟩; dsimp only
 have hax := z3u hd x top
 rw [hinv] at hax
 by_cases hxt : x = top
 ·rw [if_pos hxt] at hax
  rw [hax]
  repeat' ((conv => whnf) <;> first
   | (show CondP _ _ _; refine cS ?_) | refine And.intro ?_ ?_)
  all_goals rfl
 ·rw [if_neg hxt] at hax
  by_cases hn : zah d x ≤ 0
  ·rw [if_pos hn] at hax
   rw [hax]
   repeat' ((conv => whnf) <;> first
    | (show CondP _ _ _; refine cS ?_) | refine zaa (zax _ _ _ _ aN) ?_ | refine And.intro ?_ ?_)
   all_goals rfl
  ·rw [if_neg hn] at hax
   obtain ⟨hj, _⟩ := zh1 (d := d) (id := x) (by omega)
   have hpar := zdv hd hj (by omega)
   rw [zea hj] at hax
   have hidx : 0 ≤ zah d x ∧ (zah d x).toNat < d.length := ⟨by omega, hj⟩
   repeat' ((conv => whnf) <;> first
    | (show CondP _ _ _; refine cS ?_) | refine zaa (zax _ _ _ _ aN) ?_ | refine rI aN rf ix ?_ | refine zaf aN tv ix ?_)
   all_goals first
    | (refine ⟨⟨(d[(zah d x).toNat]'hj).Parent, hax.symm⟩, ?_, rfl, by dsimp only; omega⟩; (conv => whnf); repeat' (first | exact trivial | exact rfl | apply And.intro))
end Go.Proofs.YtlmmdpmmdmhacaaGreat
