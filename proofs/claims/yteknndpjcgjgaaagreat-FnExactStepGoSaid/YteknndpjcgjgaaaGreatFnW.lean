/- Steps that change one part. -/
import Derived.Test.YteknndpjcgjgaaaGreatFnT
namespace Go.Proofs.YteknndpjcgjgaaaGreat
open Go Go.ChangeShapes Go.WideShapes Go.ChangeAt Go.RowKit
set_option linter.unusedVariables false
set_option maxRecDepth 100000

def stepLimit (b : GBrowser) (x : GLimit) : GBrowser × Bool := if isLimit x && decide (b.Limits.length < 8) then ({ b with Limits := b.Limits ++ [x] }, true) else (b, false)
theorem tab_at {l : List GTab} {i : Nat} (h : i < l.length) : (l.map GTab.d)[i]? = some (l[i]).d := by simp [h]
set_option maxHeartbeats 2000000 in
theorem ev_sStepLimit (b : GBrowser) (x : GLimit) (cs : List C) (S : Store) (h : Rd S b.d cs) (hz : szL b.d ≤ 2097152) : EvA Tryz.prog 7 [.agg cs, .agg x.c] S (fun r S' => Ext S S' ∧ ∃ c1 c2 c3 c4 c5 c6, r = .tup [.agg [.int .i64 (stepLimit b x).1.Key, c1, c2, c3, c4, c5, c6, .int .i64 (stepLimit b x).1.Now], .s (.bool (stepLimit b x).2)] ∧ Fr S.length S' (stepLimit b x).1.d [.int .i64 (stepLimit b x).1.Key, c1, c2, c3, c4, c5, c6, .int .i64 (stepLimit b x).1.Now]) := by
  have hzs := hz
  simp only [GBrowser.d, szL, List.length_map] at hzs
  obtain ⟨_, _, _, _, _, _, rfl, _, _, _, _, _, _⟩ := GBrowser.inv h
  refine evA_intro tok Tryz.func7 (by kernel_rfl) rfl ?_
  repeat' ((conv => whnf) <;> first
   | refine condP_dec (fun _ => ?_) (fun _ => ?_)
   | refine condP_ndec (fun _ => ?_) (fun _ => ?_)
   | refine condP_true rfl ?_
   | refine condP_false rfl ?_
   | refine condP_not (fun _ => ?_) (fun _ => ?_)
   | refine condP_intro (fun _ => ?_) (fun _ => ?_)
   | refine callP_eq (ev_sIsLimit _ _) ?_
   | (refine rd_lenm rdA ?_; intro hml; rw [maxLen_eq] at hml)
   | refine needP_intro (by first | omega | (constructor <;> omega)) ?_
   | refine And.intro ?_ ?_)
  all_goals try (exfalso; omega)
  (conv => whnf)
  refine callP_intro (ev_l32Copy b _ _ h (by omega)) ?_; rintro _ S0 ⟨e0, c1, c2, c3, c4, c5, c6, rfl, f0⟩
  rcases hk : isLimit x && decide (b.Limits.length < 8) with _ | _
  · have hr : stepLimit b x = (b, false) := by unfold stepLimit; rw [hk]; rfl
    rw [hr]
    repeat' ((conv => whnf) <;> first
     | refine condP_dec (fun _ => ?_) (fun _ => ?_)
     | refine condP_ndec (fun _ => ?_) (fun _ => ?_)
     | refine condP_true rfl ?_
     | refine condP_false rfl ?_
     | refine condP_not (fun _ => ?_) (fun _ => ?_)
     | refine condP_intro (fun _ => ?_) (fun _ => ?_)
     | (refine callP_intro (ev_l32Copy _ _ _ rdcA (by (first | omega | exact sz_at hz (by omega) | (simp only [szL]; omega)))) ?_; rintro _ Sn ⟨hEn, _, _, _, _, _, _, rfl, hFn⟩)
     | refine callP_eq (ev_sIsLimit _ _) ?_
     | (refine rd_lenm rdA ?_; intro hml; rw [maxLen_eq] at hml)
     | refine needP_intro (by first | omega | (constructor <;> omega)) ?_
     | refine And.intro ?_ ?_)
    all_goals first
      | exact e0
      | exact ⟨_, _, _, _, _, _, rfl, f0⟩
      | (exfalso; simp_all; done)
      | (exfalso; simp_all; omega)
  · have hr : stepLimit b x = ({ b with Limits := b.Limits ++ [x] }, true) := by unfold stepLimit; rw [hk]; rfl
    rw [hr]
    repeat' ((conv => whnf) <;> first
     | refine condP_dec (fun _ => ?_) (fun _ => ?_)
     | refine condP_ndec (fun _ => ?_) (fun _ => ?_)
     | refine condP_true rfl ?_
     | refine condP_false rfl ?_
     | refine condP_not (fun _ => ?_) (fun _ => ?_)
     | refine condP_intro (fun _ => ?_) (fun _ => ?_)
     | (refine callP_intro (ev_l32Copy _ _ _ rdcA (by (first | omega | exact sz_at hz (by omega) | (simp only [szL]; omega)))) ?_; rintro _ Sn ⟨hEn, _, _, _, _, _, _, rfl, hFn⟩)
     | refine callP_eq (ev_sIsLimit _ _) ?_
     | (refine rd_lenm rdA ?_; intro hml; rw [maxLen_eq] at hml)
     | refine needP_intro (by first | omega | (constructor <;> omega)) ?_
     | (refine fr_appAtF (f := GLimit.d) (o := 4) (l := b.Limits) (m := [x]) (fun _ => trivial) e0 f0 rfl rfl (by rfl) (by intro _; rfl) (by dsimp only [T48]; simp; omega) (by simp; omega) ?_; intro cN SN hEN hFN hlN)
     | refine And.intro ?_ ?_)
    all_goals first
      | exact e0
      | assumption
      | exact ⟨_, _, _, _, _, _, rfl, hFN⟩
      | (exfalso; simp_all; done)
      | (exfalso; simp_all; omega)
set_option maxHeartbeats 2000000 in
theorem ev_iStepLimit (b : GBrowser) (x : GLimit) (cs : List C) (S : Store) (h : Rd S b.d cs) (hz : szL b.d ≤ 2097152) : EvA Tryz.prog 10 [.agg cs, .agg x.c] S (fun r S' => Ext S S' ∧ ∃ c1 c2 c3 c4 c5 c6, r = .tup [.agg [.int .i64 (stepLimit b x).1.Key, c1, c2, c3, c4, c5, c6, .int .i64 (stepLimit b x).1.Now], .s (.bool (stepLimit b x).2)] ∧ Fr S.length S' (stepLimit b x).1.d [.int .i64 (stepLimit b x).1.Key, c1, c2, c3, c4, c5, c6, .int .i64 (stepLimit b x).1.Now]) := by
  have hzs := hz
  simp only [GBrowser.d, szL, List.length_map] at hzs
  obtain ⟨_, _, _, _, _, _, rfl, _, _, _, _, _, _⟩ := GBrowser.inv h
  refine evA_intro tok Tryz.func10 (by kernel_rfl) rfl ?_
  repeat' ((conv => whnf) <;> first
   | refine condP_dec (fun _ => ?_) (fun _ => ?_)
   | refine condP_ndec (fun _ => ?_) (fun _ => ?_)
   | refine condP_true rfl ?_
   | refine condP_false rfl ?_
   | refine condP_not (fun _ => ?_) (fun _ => ?_)
   | refine condP_intro (fun _ => ?_) (fun _ => ?_)
   | refine callP_eq (ev_iIsLimit _ _) ?_
   | (refine rd_lenm rdA ?_; intro hml; rw [maxLen_eq] at hml)
   | refine needP_intro (by first | omega | (constructor <;> omega)) ?_
   | refine And.intro ?_ ?_)
  all_goals try (exfalso; omega)
  (conv => whnf)
  refine callP_intro (ev_cloneBrowser b _ _ h (by omega)) ?_; rintro _ S0 ⟨e0, c1, c2, c3, c4, c5, c6, rfl, f0⟩
  rcases hk : isLimit x && decide (b.Limits.length < 8) with _ | _
  · have hr : stepLimit b x = (b, false) := by unfold stepLimit; rw [hk]; rfl
    rw [hr]
    repeat' ((conv => whnf) <;> first
     | refine condP_dec (fun _ => ?_) (fun _ => ?_)
     | refine condP_ndec (fun _ => ?_) (fun _ => ?_)
     | refine condP_true rfl ?_
     | refine condP_false rfl ?_
     | refine condP_not (fun _ => ?_) (fun _ => ?_)
     | refine condP_intro (fun _ => ?_) (fun _ => ?_)
     | (refine callP_intro (ev_cloneBrowser _ _ _ rdcA (by (first | omega | exact sz_at hz (by omega) | (simp only [szL]; omega)))) ?_; rintro _ Sn ⟨hEn, _, _, _, _, _, _, rfl, hFn⟩)
     | refine callP_eq (ev_iIsLimit _ _) ?_
     | (refine rd_lenm rdA ?_; intro hml; rw [maxLen_eq] at hml)
     | refine needP_intro (by first | omega | (constructor <;> omega)) ?_
     | refine And.intro ?_ ?_)
    all_goals first
      | exact e0
      | exact ⟨_, _, _, _, _, _, rfl, f0⟩
      | (exfalso; simp_all; done)
      | (exfalso; simp_all; omega)
  · have hr : stepLimit b x = ({ b with Limits := b.Limits ++ [x] }, true) := by unfold stepLimit; rw [hk]; rfl
    rw [hr]
    repeat' ((conv => whnf) <;> first
     | refine condP_dec (fun _ => ?_) (fun _ => ?_)
     | refine condP_ndec (fun _ => ?_) (fun _ => ?_)
     | refine condP_true rfl ?_
     | refine condP_false rfl ?_
     | refine condP_not (fun _ => ?_) (fun _ => ?_)
     | refine condP_intro (fun _ => ?_) (fun _ => ?_)
     | (refine callP_intro (ev_cloneBrowser _ _ _ rdcA (by (first | omega | exact sz_at hz (by omega) | (simp only [szL]; omega)))) ?_; rintro _ Sn ⟨hEn, _, _, _, _, _, _, rfl, hFn⟩)
     | refine callP_eq (ev_iIsLimit _ _) ?_
     | (refine rd_lenm rdA ?_; intro hml; rw [maxLen_eq] at hml)
     | refine needP_intro (by first | omega | (constructor <;> omega)) ?_
     | (refine fr_appAtF (f := GLimit.d) (o := 4) (l := b.Limits) (m := [x]) (fun _ => trivial) e0 f0 rfl rfl (by rfl) (by intro _; rfl) (by dsimp only [T48]; simp; omega) (by simp; omega) ?_; intro cN SN hEN hFN hlN)
     | refine And.intro ?_ ?_)
    all_goals first
      | exact e0
      | assumption
      | exact ⟨_, _, _, _, _, _, rfl, hFN⟩
      | (exfalso; simp_all; done)
      | (exfalso; simp_all; omega)
def tabOf (b : GBrowser) (tab : Int) : GTab := b.Tabs.getD tab.toNat default
def clickTab (b : GBrowser) (tab : Int) : GBrowser := { b with Tabs := b.Tabs.set tab.toNat { tabOf b tab with Click := b.Now } }
def clickLend (b : GBrowser) (tab ext : Int) : Bool := decide (0 ≤ packOf b ext) && (lendTo b.Grants ext (tabOf b tab).Site b.Now).2
def stepClick (b : GBrowser) (tab ext : Int) : GBrowser × Bool :=
  if inR tab 0 ((b.Tabs.length : Int) - 1) then (if clickLend b tab ext then { clickTab b tab with Grants := (lendTo b.Grants ext (tabOf b tab).Site b.Now).1 } else clickTab b tab, true) else (b, false)
set_option maxHeartbeats 2000000 in
theorem ev_sStepClick (b : GBrowser) (tab ext : Int) (cs : List C) (S : Store) (h : Rd S b.d cs) (hz : szL b.d ≤ 2097152) : EvA Tryz.prog 14 [.agg cs, .s (.int .i64 tab), .s (.int .i64 ext)] S (fun r S' => Ext S S' ∧ ∃ c1 c2 c3 c4 c5 c6, r = .tup [.agg [.int .i64 (stepClick b tab ext).1.Key, c1, c2, c3, c4, c5, c6, .int .i64 (stepClick b tab ext).1.Now], .s (.bool (stepClick b tab ext).2)] ∧ Fr S.length S' (stepClick b tab ext).1.d [.int .i64 (stepClick b tab ext).1.Key, c1, c2, c3, c4, c5, c6, .int .i64 (stepClick b tab ext).1.Now]) := by
  have hzs := hz
  simp only [GBrowser.d, szL, List.length_map] at hzs
  obtain ⟨_, _, _, _, _, _, rfl, _, _, _, _, _, _⟩ := GBrowser.inv h
  refine evA_intro tok Tryz.func14 (by kernel_rfl) rfl ?_
  repeat' ((conv => whnf) <;> first
   | rw [wrapI_i64 (by omega)]
   | refine condP_dec (fun _ => ?_) (fun _ => ?_)
   | refine condP_ndec (fun _ => ?_) (fun _ => ?_)
   | refine condP_true rfl ?_
   | refine condP_false rfl ?_
   | refine condP_inR (fun _ _ => ?_) (fun _ _ => ?_)
   | refine condP_ninR (fun _ _ => ?_) (fun _ _ => ?_)
   | refine condP_not (fun _ => ?_) (fun _ => ?_)
   | refine condP_intro (fun _ => ?_) (fun _ => ?_)
   | refine callP_eq (ev_l1In _ _ _ _) ?_
   | (refine callP_eq (ev_sPackOf _ _ _ _ rdcA) ?_)
   | (refine rd_lenm rdA ?_; intro hml; rw [maxLen_eq] at hml)
   | refine rd_idxm rdA (by intro _; rfl) (by constructor <;> omega) ?_
   | (refine rd_loadm (f := GTab.d) rdA (by constructor <;> omega) ?_; intro _ hcs; obtain ⟨_, _, _, rfl, _, _, _⟩ := GTab.inv hcs)
   | refine needP_intro (by first | omega | (constructor <;> omega)) ?_
   | refine draw_intro 33 [.fl 0, .fl 1, .fl 2, .fl 3, .fl 4, .fl 5, .fl 6, .fl 7, .fl 8, .fl 9, .fl 10, .st 11 [], .fl 12, .fl 13, .fl 14, .st 15 [14], .st 16 []] (by rfl) (by kernel_rfl) ?_
   | refine And.intro ?_ ?_)
  all_goals try (exfalso; omega)
  (conv => whnf)
  refine callP_intro (ev_l32Copy b _ _ h (by omega)) ?_; rintro _ S0 ⟨e0, c1, c2, c3, c4, c5, c6, rfl, f0⟩
  rcases hk : inR tab 0 ((b.Tabs.length : Int) - 1) with _ | _
  · have hr : stepClick b tab ext = (b, false) := by unfold stepClick; rw [if_neg (by rw [hk]; decide)]
    rw [hr]
    repeat' ((conv => whnf) <;> first
     | rw [wrapI_i64 (by omega)]
     | refine condP_dec (fun _ => ?_) (fun _ => ?_)
     | refine condP_ndec (fun _ => ?_) (fun _ => ?_)
     | refine condP_true rfl ?_
     | refine condP_false rfl ?_
     | refine condP_inR (fun _ _ => ?_) (fun _ _ => ?_)
     | refine condP_ninR (fun _ _ => ?_) (fun _ _ => ?_)
     | refine condP_not (fun _ => ?_) (fun _ => ?_)
     | refine condP_intro (fun _ => ?_) (fun _ => ?_)
     | (refine callP_intro (ev_l32Copy _ _ _ rdcA (by (first | omega | exact sz_at hz (by omega) | (simp only [szL]; omega)))) ?_; rintro _ Sn ⟨hEn, _, _, _, _, _, _, rfl, hFn⟩)
     | refine callP_eq (ev_l1In _ _ _ _) ?_
     | (refine callP_eq (ev_sPackOf _ _ _ _ rdcA) ?_)
     | (refine callP_intro (ev_sLendTo _ _ _ _ _ _ rdA (by omega)) ?_; rintro _ Sn ⟨hEn, cn, rfl, hFn⟩)
     | (refine callP_intro (ev_sLendTo _ _ ⟨_, _⟩ _ _ _ rdA (by omega)) ?_; rintro _ Sn ⟨hEn, cn, rfl, hFn⟩)
     | (refine rd_lenm rdA ?_; intro hml; rw [maxLen_eq] at hml)
     | refine rd_idxm rdA (by intro _; rfl) (by constructor <;> omega) ?_
     | (refine rd_loadm (f := GTab.d) rdA (by constructor <;> omega) ?_; intro _ hcs; obtain ⟨_, _, _, rfl, _, _, _⟩ := GTab.inv hcs)
     | refine needP_intro (by first | omega | (constructor <;> omega)) ?_
     | refine draw_intro 33 [.fl 0, .fl 1, .fl 2, .fl 3, .fl 4, .fl 5, .fl 6, .fl 7, .fl 8, .fl 9, .fl 10, .st 11 [], .fl 12, .fl 13, .fl 14, .st 15 [14], .st 16 []] (by rfl) (by kernel_rfl) ?_
     | refine And.intro ?_ ?_)
    all_goals first
      | exact e0
      | exact ⟨_, _, _, _, _, _, rfl, f0⟩
      | (exfalso; simp [inR] at *; omega)
  · have ht : 0 ≤ tab ∧ tab.toNat < b.Tabs.length := by simp [inR] at hk; omega
    have hto : tabOf b tab = b.Tabs[tab.toNat]'ht.2 := getD_at ht.2
    have hr : stepClick b tab ext = (if clickLend b tab ext then { clickTab b tab with Grants := (lendTo b.Grants ext (tabOf b tab).Site b.Now).1 } else clickTab b tab, true) := by unfold stepClick; rw [if_pos hk]
    have hcl : clickLend b tab ext = (decide (0 ≤ packOf b ext) && (lendTo b.Grants ext (tabOf b tab).Site b.Now).2) := rfl
    rw [hr]
    have r1 := f0.rdAt (o := 1) (d := .sl 6 (b.Tabs.map GTab.d)) rfl rfl
    repeat' ((conv => whnf) <;> first
     | rw [wrapI_i64 (by omega)]
     | refine condP_dec (fun _ => ?_) (fun _ => ?_)
     | refine condP_ndec (fun _ => ?_) (fun _ => ?_)
     | refine condP_true rfl ?_
     | refine condP_false rfl ?_
     | refine condP_inR (fun _ _ => ?_) (fun _ _ => ?_)
     | refine condP_ninR (fun _ _ => ?_) (fun _ _ => ?_)
     | refine condP_not (fun _ => ?_) (fun _ => ?_)
     | refine condP_intro (fun _ => ?_) (fun _ => ?_)
     | refine callP_eq (ev_l1In _ _ _ _) ?_
     | (refine callP_eq (ev_sPackOf _ _ _ _ rdcA) ?_)
     | (refine rd_lenm rdA ?_; intro hml; rw [maxLen_eq] at hml)
     | refine rd_idxm rdA (by intro _; rfl) (by constructor <;> omega) ?_
     | (refine rd_loadm (f := GTab.d) rdA (by constructor <;> omega) ?_; intro _ hcs; obtain ⟨_, _, _, rfl, _, _, _⟩ := GTab.inv hcs)
     | refine needP_intro (by first | omega | (constructor <;> omega)) ?_
     | refine draw_intro 33 [.fl 0, .fl 1, .fl 2, .fl 3, .fl 4, .fl 5, .fl 6, .fl 7, .fl 8, .fl 9, .fl 10, .st 11 [], .fl 12, .fl 13, .fl 14, .st 15 [14], .st 16 []] (by rfl) (by kernel_rfl) ?_
     | refine And.intro ?_ ?_)
    all_goals try (exfalso; simp [inR] at *; omega)
    (conv => whnf)
    refine fr_stoAt (q := 1) (A := [.x (.int .i64 (b.Tabs[tab.toNat]'ht.2).Site.Owner), .x (.int .i64 (b.Tabs[tab.toNat]'ht.2).Site.Sub), .sl 5 ((b.Tabs[tab.toNat]'ht.2).Base.map GNode.d), .sl 6 ((b.Tabs[tab.toNat]'ht.2).Edits.map GEdit.d), .sl 1 ((b.Tabs[tab.toNat]'ht.2).Hidden.map dInt)]) (B := [.x (.int .i64 (b.Tabs[tab.toNat]'ht.2).Click)]) (B' := [.x (.int .i64 b.Now)]) (Z := []) e0 f0 (Ext.refl _) e0.len rfl rfl fr_plain (by rw [List.length_map]; exact ht) (tab_at ht.2) (by rfl) (by rfl) (by rfl) ?_; intro S1 e1 f1 l1
    have f2 : Fr S.length S1 (clickTab b tab).d [.int .i64 b.Key, c1, c2, c3, c4, c5, c6, .int .i64 b.Now] := by
      have e : (b.Tabs.map GTab.d).set tab.toNat { tabOf b tab with Click := b.Now }.d = (b.Tabs.set tab.toNat { tabOf b tab with Click := b.Now }).map GTab.d := (List.map_set ..).symm
      rw [hto] at e
      unfold clickTab
      rw [hto]
      simp only [GBrowser.d]
      rw [← e]; exact f1
    clear f1 f0
    rcases hp : decide (0 ≤ packOf b ext) with _ | _
    · rw [hp, Bool.false_and] at hcl
      rw [hcl, if_neg (by decide)]
      repeat' ((conv => whnf) <;> first
       | rw [wrapI_i64 (by omega)]
       | refine condP_dec (fun _ => ?_) (fun _ => ?_)
       | refine condP_ndec (fun _ => ?_) (fun _ => ?_)
       | refine condP_true rfl ?_
       | refine condP_false rfl ?_
       | refine condP_inR (fun _ _ => ?_) (fun _ _ => ?_)
       | refine condP_ninR (fun _ _ => ?_) (fun _ _ => ?_)
       | refine condP_not (fun _ => ?_) (fun _ => ?_)
       | refine condP_intro (fun _ => ?_) (fun _ => ?_)
       | (refine callP_intro (ev_l32Copy _ _ _ rdcA (by (first | omega | exact sz_at hz (by omega) | (simp only [szL]; omega)))) ?_; rintro _ Sn ⟨hEn, _, _, _, _, _, _, rfl, hFn⟩)
       | refine callP_eq (ev_l1In _ _ _ _) ?_
       | (refine callP_eq (ev_sPackOf _ _ _ _ rdcA) ?_)
       | (refine callP_intro (ev_sLendTo _ _ _ _ _ _ rdA (by omega)) ?_; rintro _ Sn ⟨hEn, cn, rfl, hFn⟩)
       | (refine callP_intro (ev_sLendTo _ _ ⟨_, _⟩ _ _ _ rdA (by omega)) ?_; rintro _ Sn ⟨hEn, cn, rfl, hFn⟩)
       | (refine rd_lenm rdA ?_; intro hml; rw [maxLen_eq] at hml)
       | refine rd_idxm rdA (by intro _; rfl) (by constructor <;> omega) ?_
       | (refine rd_loadm (f := GTab.d) rdA (by constructor <;> omega) ?_; intro _ hcs; obtain ⟨_, _, _, rfl, _, _, _⟩ := GTab.inv hcs)
       | refine needP_intro (by first | omega | (constructor <;> omega)) ?_
       | refine draw_intro 33 [.fl 0, .fl 1, .fl 2, .fl 3, .fl 4, .fl 5, .fl 6, .fl 7, .fl 8, .fl 9, .fl 10, .st 11 [], .fl 12, .fl 13, .fl 14, .st 15 [14], .st 16 []] (by rfl) (by kernel_rfl) ?_
       | refine And.intro ?_ ?_)
      all_goals first
        | exact e1
        | exact ⟨_, _, _, _, _, _, rfl, f2⟩
        | (exfalso; simp_all; done)
        | (exfalso; omega)
    · rw [hp, Bool.true_and, hto] at hcl
      repeat' ((conv => whnf) <;> first
       | rw [wrapI_i64 (by omega)]
       | refine condP_dec (fun _ => ?_) (fun _ => ?_)
       | refine condP_ndec (fun _ => ?_) (fun _ => ?_)
       | refine condP_true rfl ?_
       | refine condP_false rfl ?_
       | refine condP_inR (fun _ _ => ?_) (fun _ _ => ?_)
       | refine condP_ninR (fun _ _ => ?_) (fun _ _ => ?_)
       | refine condP_not (fun _ => ?_) (fun _ => ?_)
       | refine condP_intro (fun _ => ?_) (fun _ => ?_)
       | refine callP_eq (ev_l1In _ _ _ _) ?_
       | (refine callP_eq (ev_sPackOf _ _ _ _ rdcA) ?_)
       | (refine rd_lenm rdA ?_; intro hml; rw [maxLen_eq] at hml)
       | refine rd_idxm rdA (by intro _; rfl) (by constructor <;> omega) ?_
       | (refine rd_loadm (f := GTab.d) rdA (by constructor <;> omega) ?_; intro _ hcs; obtain ⟨_, _, _, rfl, _, _, _⟩ := GTab.inv hcs)
       | refine needP_intro (by first | omega | (constructor <;> omega)) ?_
       | refine draw_intro 33 [.fl 0, .fl 1, .fl 2, .fl 3, .fl 4, .fl 5, .fl 6, .fl 7, .fl 8, .fl 9, .fl 10, .st 11 [], .fl 12, .fl 13, .fl 14, .st 15 [14], .st 16 []] (by rfl) (by kernel_rfl) ?_
       | refine And.intro ?_ ?_)
      all_goals try first | (exfalso; simp_all; done) | (exfalso; omega)
      (conv => whnf)
      refine callP_intro (ev_sLendTo b.Grants ext (b.Tabs[tab.toNat]'ht.2).Site b.Now _ _ rdA (by omega)) ?_; rintro _ S2 ⟨e2, d2, rfl, f3⟩
      rw [hto]
      rcases hl : (lendTo b.Grants ext (b.Tabs[tab.toNat]'ht.2).Site b.Now).2 with _ | _
      · rw [hl] at hcl
        rw [hcl, if_neg (by decide)]
        repeat' ((conv => whnf) <;> first
         | rw [wrapI_i64 (by omega)]
         | refine condP_dec (fun _ => ?_) (fun _ => ?_)
         | refine condP_ndec (fun _ => ?_) (fun _ => ?_)
         | refine condP_true rfl ?_
         | refine condP_false rfl ?_
         | refine condP_inR (fun _ _ => ?_) (fun _ _ => ?_)
         | refine condP_ninR (fun _ _ => ?_) (fun _ _ => ?_)
         | refine condP_not (fun _ => ?_) (fun _ => ?_)
         | refine condP_intro (fun _ => ?_) (fun _ => ?_)
         | (refine callP_intro (ev_l32Copy _ _ _ rdcA (by (first | omega | exact sz_at hz (by omega) | (simp only [szL]; omega)))) ?_; rintro _ Sn ⟨hEn, _, _, _, _, _, _, rfl, hFn⟩)
         | refine callP_eq (ev_l1In _ _ _ _) ?_
         | (refine callP_eq (ev_sPackOf _ _ _ _ rdcA) ?_)
         | (refine callP_intro (ev_sLendTo _ _ _ _ _ _ rdA (by omega)) ?_; rintro _ Sn ⟨hEn, cn, rfl, hFn⟩)
         | (refine callP_intro (ev_sLendTo _ _ ⟨_, _⟩ _ _ _ rdA (by omega)) ?_; rintro _ Sn ⟨hEn, cn, rfl, hFn⟩)
         | (refine rd_lenm rdA ?_; intro hml; rw [maxLen_eq] at hml)
         | refine rd_idxm rdA (by intro _; rfl) (by constructor <;> omega) ?_
         | (refine rd_loadm (f := GTab.d) rdA (by constructor <;> omega) ?_; intro _ hcs; obtain ⟨_, _, _, rfl, _, _, _⟩ := GTab.inv hcs)
         | refine needP_intro (by first | omega | (constructor <;> omega)) ?_
         | refine draw_intro 33 [.fl 0, .fl 1, .fl 2, .fl 3, .fl 4, .fl 5, .fl 6, .fl 7, .fl 8, .fl 9, .fl 10, .st 11 [], .fl 12, .fl 13, .fl 14, .st 15 [14], .st 16 []] (by rfl) (by kernel_rfl) ?_
         | refine And.intro ?_ ?_)
        all_goals first
          | exact e1.trans e2
          | exact ⟨_, _, _, _, _, _, rfl, f2.ext e2⟩
      · rw [hl] at hcl
        rw [hcl, if_pos rfl]
        have f4 := f2.setAt (o := 3) e2 f3 e1.len (by show 3 < 8; decide)
        repeat' ((conv => whnf) <;> first
         | rw [wrapI_i64 (by omega)]
         | refine condP_dec (fun _ => ?_) (fun _ => ?_)
         | refine condP_ndec (fun _ => ?_) (fun _ => ?_)
         | refine condP_true rfl ?_
         | refine condP_false rfl ?_
         | refine condP_inR (fun _ _ => ?_) (fun _ _ => ?_)
         | refine condP_ninR (fun _ _ => ?_) (fun _ _ => ?_)
         | refine condP_not (fun _ => ?_) (fun _ => ?_)
         | refine condP_intro (fun _ => ?_) (fun _ => ?_)
         | (refine callP_intro (ev_l32Copy _ _ _ rdcA (by (first | omega | exact sz_at hz (by omega) | (simp only [szL]; omega)))) ?_; rintro _ Sn ⟨hEn, _, _, _, _, _, _, rfl, hFn⟩)
         | refine callP_eq (ev_l1In _ _ _ _) ?_
         | (refine callP_eq (ev_sPackOf _ _ _ _ rdcA) ?_)
         | (refine callP_intro (ev_sLendTo _ _ _ _ _ _ rdA (by omega)) ?_; rintro _ Sn ⟨hEn, cn, rfl, hFn⟩)
         | (refine callP_intro (ev_sLendTo _ _ ⟨_, _⟩ _ _ _ rdA (by omega)) ?_; rintro _ Sn ⟨hEn, cn, rfl, hFn⟩)
         | (refine rd_lenm rdA ?_; intro hml; rw [maxLen_eq] at hml)
         | refine rd_idxm rdA (by intro _; rfl) (by constructor <;> omega) ?_
         | (refine rd_loadm (f := GTab.d) rdA (by constructor <;> omega) ?_; intro _ hcs; obtain ⟨_, _, _, rfl, _, _, _⟩ := GTab.inv hcs)
         | refine needP_intro (by first | omega | (constructor <;> omega)) ?_
         | refine draw_intro 33 [.fl 0, .fl 1, .fl 2, .fl 3, .fl 4, .fl 5, .fl 6, .fl 7, .fl 8, .fl 9, .fl 10, .st 11 [], .fl 12, .fl 13, .fl 14, .st 15 [14], .st 16 []] (by rfl) (by kernel_rfl) ?_
         | refine And.intro ?_ ?_)
        all_goals first
          | exact e1.trans e2
          | exact ⟨_, _, _, _, _, _, rfl, f4⟩
set_option maxHeartbeats 2000000 in
theorem ev_iStepClick (b : GBrowser) (tab ext : Int) (cs : List C) (S : Store) (h : Rd S b.d cs) (hz : szL b.d ≤ 2097152) : EvA Tryz.prog 15 [.agg cs, .s (.int .i64 tab), .s (.int .i64 ext)] S (fun r S' => Ext S S' ∧ ∃ c1 c2 c3 c4 c5 c6, r = .tup [.agg [.int .i64 (stepClick b tab ext).1.Key, c1, c2, c3, c4, c5, c6, .int .i64 (stepClick b tab ext).1.Now], .s (.bool (stepClick b tab ext).2)] ∧ Fr S.length S' (stepClick b tab ext).1.d [.int .i64 (stepClick b tab ext).1.Key, c1, c2, c3, c4, c5, c6, .int .i64 (stepClick b tab ext).1.Now]) := by
  have hzs := hz
  simp only [GBrowser.d, szL, List.length_map] at hzs
  obtain ⟨_, _, _, _, _, _, rfl, _, _, _, _, _, _⟩ := GBrowser.inv h
  refine evA_intro tok Tryz.func15 (by kernel_rfl) rfl ?_
  repeat' ((conv => whnf) <;> first
   | refine condP_dec (fun _ => ?_) (fun _ => ?_)
   | refine condP_ndec (fun _ => ?_) (fun _ => ?_)
   | refine condP_true rfl ?_
   | refine condP_false rfl ?_
   | refine condP_not (fun _ => ?_) (fun _ => ?_)
   | refine condP_intro (fun _ => ?_) (fun _ => ?_)
   | (refine callP_eq (ev_iPackOf _ _ _ _ rdcA) ?_)
   | (refine rd_lenm rdA ?_; intro hml; rw [maxLen_eq] at hml)
   | refine rd_idxm rdA (by intro _; rfl) (by constructor <;> omega) ?_
   | (refine rd_loadm (f := GTab.d) rdA (by constructor <;> omega) ?_; intro _ hcs; obtain ⟨_, _, _, rfl, _, _, _⟩ := GTab.inv hcs)
   | refine needP_intro (by first | omega | (constructor <;> omega)) ?_
   | refine draw_intro 35 [.fl 0, .fl 1, .fl 2, .fl 3, .fl 4, .fl 5, .fl 6, .fl 7, .fl 8, .fl 9, .fl 10, .st 11 [], .fl 12, .fl 13, .fl 14, .st 15 [14], .st 16 []] (by rfl) (by kernel_rfl) ?_
   | refine And.intro ?_ ?_)
  all_goals try (exfalso; omega)
  (conv => whnf)
  refine callP_intro (ev_cloneBrowser b _ _ h (by omega)) ?_; rintro _ S0 ⟨e0, c1, c2, c3, c4, c5, c6, rfl, f0⟩
  rcases hk : inR tab 0 ((b.Tabs.length : Int) - 1) with _ | _
  · have hr : stepClick b tab ext = (b, false) := by unfold stepClick; rw [if_neg (by rw [hk]; decide)]
    rw [hr]
    repeat' ((conv => whnf) <;> first
     | refine condP_dec (fun _ => ?_) (fun _ => ?_)
     | refine condP_ndec (fun _ => ?_) (fun _ => ?_)
     | refine condP_true rfl ?_
     | refine condP_false rfl ?_
     | refine condP_not (fun _ => ?_) (fun _ => ?_)
     | refine condP_intro (fun _ => ?_) (fun _ => ?_)
     | (refine callP_intro (ev_cloneBrowser _ _ _ rdcA (by (first | omega | exact sz_at hz (by omega) | (simp only [szL]; omega)))) ?_; rintro _ Sn ⟨hEn, _, _, _, _, _, _, rfl, hFn⟩)
     | (refine callP_eq (ev_iPackOf _ _ _ _ rdcA) ?_)
     | (refine callP_intro (ev_iLendTo _ _ _ _ _ _ rdA (by omega)) ?_; rintro _ Sn ⟨hEn, cn, rfl, hFn⟩)
     | (refine callP_intro (ev_iLendTo _ _ ⟨_, _⟩ _ _ _ rdA (by omega)) ?_; rintro _ Sn ⟨hEn, cn, rfl, hFn⟩)
     | (refine rd_lenm rdA ?_; intro hml; rw [maxLen_eq] at hml)
     | refine rd_idxm rdA (by intro _; rfl) (by constructor <;> omega) ?_
     | (refine rd_loadm (f := GTab.d) rdA (by constructor <;> omega) ?_; intro _ hcs; obtain ⟨_, _, _, rfl, _, _, _⟩ := GTab.inv hcs)
     | refine needP_intro (by first | omega | (constructor <;> omega)) ?_
     | refine draw_intro 35 [.fl 0, .fl 1, .fl 2, .fl 3, .fl 4, .fl 5, .fl 6, .fl 7, .fl 8, .fl 9, .fl 10, .st 11 [], .fl 12, .fl 13, .fl 14, .st 15 [14], .st 16 []] (by rfl) (by kernel_rfl) ?_
     | refine And.intro ?_ ?_)
    all_goals first
      | exact e0
      | exact ⟨_, _, _, _, _, _, rfl, f0⟩
      | (exfalso; simp [inR] at *; omega)
  · have ht : 0 ≤ tab ∧ tab.toNat < b.Tabs.length := by simp [inR] at hk; omega
    have hto : tabOf b tab = b.Tabs[tab.toNat]'ht.2 := getD_at ht.2
    have hr : stepClick b tab ext = (if clickLend b tab ext then { clickTab b tab with Grants := (lendTo b.Grants ext (tabOf b tab).Site b.Now).1 } else clickTab b tab, true) := by unfold stepClick; rw [if_pos hk]
    have hcl : clickLend b tab ext = (decide (0 ≤ packOf b ext) && (lendTo b.Grants ext (tabOf b tab).Site b.Now).2) := rfl
    rw [hr]
    have r1 := f0.rdAt (o := 1) (d := .sl 6 (b.Tabs.map GTab.d)) rfl rfl
    repeat' ((conv => whnf) <;> first
     | refine condP_dec (fun _ => ?_) (fun _ => ?_)
     | refine condP_ndec (fun _ => ?_) (fun _ => ?_)
     | refine condP_true rfl ?_
     | refine condP_false rfl ?_
     | refine condP_not (fun _ => ?_) (fun _ => ?_)
     | refine condP_intro (fun _ => ?_) (fun _ => ?_)
     | (refine callP_eq (ev_iPackOf _ _ _ _ rdcA) ?_)
     | (refine rd_lenm rdA ?_; intro hml; rw [maxLen_eq] at hml)
     | refine rd_idxm rdA (by intro _; rfl) (by constructor <;> omega) ?_
     | (refine rd_loadm (f := GTab.d) rdA (by constructor <;> omega) ?_; intro _ hcs; obtain ⟨_, _, _, rfl, _, _, _⟩ := GTab.inv hcs)
     | refine needP_intro (by first | omega | (constructor <;> omega)) ?_
     | refine draw_intro 35 [.fl 0, .fl 1, .fl 2, .fl 3, .fl 4, .fl 5, .fl 6, .fl 7, .fl 8, .fl 9, .fl 10, .st 11 [], .fl 12, .fl 13, .fl 14, .st 15 [14], .st 16 []] (by rfl) (by kernel_rfl) ?_
     | refine And.intro ?_ ?_)
    all_goals try (exfalso; simp [inR] at *; omega)
    (conv => whnf)
    refine fr_stoAt (q := 1) (A := [.x (.int .i64 (b.Tabs[tab.toNat]'ht.2).Site.Owner), .x (.int .i64 (b.Tabs[tab.toNat]'ht.2).Site.Sub), .sl 5 ((b.Tabs[tab.toNat]'ht.2).Base.map GNode.d), .sl 6 ((b.Tabs[tab.toNat]'ht.2).Edits.map GEdit.d), .sl 1 ((b.Tabs[tab.toNat]'ht.2).Hidden.map dInt)]) (B := [.x (.int .i64 (b.Tabs[tab.toNat]'ht.2).Click)]) (B' := [.x (.int .i64 b.Now)]) (Z := []) e0 f0 (Ext.refl _) e0.len rfl rfl fr_plain (by rw [List.length_map]; exact ht) (tab_at ht.2) (by rfl) (by rfl) (by rfl) ?_; intro S1 e1 f1 l1
    have f2 : Fr S.length S1 (clickTab b tab).d [.int .i64 b.Key, c1, c2, c3, c4, c5, c6, .int .i64 b.Now] := by
      have e : (b.Tabs.map GTab.d).set tab.toNat { tabOf b tab with Click := b.Now }.d = (b.Tabs.set tab.toNat { tabOf b tab with Click := b.Now }).map GTab.d := (List.map_set ..).symm
      rw [hto] at e
      unfold clickTab
      rw [hto]
      simp only [GBrowser.d]
      rw [← e]; exact f1
    clear f1 f0
    rcases hp : decide (0 ≤ packOf b ext) with _ | _
    · rw [hp, Bool.false_and] at hcl
      rw [hcl, if_neg (by decide)]
      repeat' ((conv => whnf) <;> first
       | refine condP_dec (fun _ => ?_) (fun _ => ?_)
       | refine condP_ndec (fun _ => ?_) (fun _ => ?_)
       | refine condP_true rfl ?_
       | refine condP_false rfl ?_
       | refine condP_not (fun _ => ?_) (fun _ => ?_)
       | refine condP_intro (fun _ => ?_) (fun _ => ?_)
       | (refine callP_intro (ev_cloneBrowser _ _ _ rdcA (by (first | omega | exact sz_at hz (by omega) | (simp only [szL]; omega)))) ?_; rintro _ Sn ⟨hEn, _, _, _, _, _, _, rfl, hFn⟩)
       | (refine callP_eq (ev_iPackOf _ _ _ _ rdcA) ?_)
       | (refine callP_intro (ev_iLendTo _ _ _ _ _ _ rdA (by omega)) ?_; rintro _ Sn ⟨hEn, cn, rfl, hFn⟩)
       | (refine callP_intro (ev_iLendTo _ _ ⟨_, _⟩ _ _ _ rdA (by omega)) ?_; rintro _ Sn ⟨hEn, cn, rfl, hFn⟩)
       | (refine rd_lenm rdA ?_; intro hml; rw [maxLen_eq] at hml)
       | refine rd_idxm rdA (by intro _; rfl) (by constructor <;> omega) ?_
       | (refine rd_loadm (f := GTab.d) rdA (by constructor <;> omega) ?_; intro _ hcs; obtain ⟨_, _, _, rfl, _, _, _⟩ := GTab.inv hcs)
       | refine needP_intro (by first | omega | (constructor <;> omega)) ?_
       | refine draw_intro 35 [.fl 0, .fl 1, .fl 2, .fl 3, .fl 4, .fl 5, .fl 6, .fl 7, .fl 8, .fl 9, .fl 10, .st 11 [], .fl 12, .fl 13, .fl 14, .st 15 [14], .st 16 []] (by rfl) (by kernel_rfl) ?_
       | refine And.intro ?_ ?_)
      all_goals first
        | exact e1
        | exact ⟨_, _, _, _, _, _, rfl, f2⟩
        | (exfalso; simp_all; done)
        | (exfalso; omega)
    · rw [hp, Bool.true_and, hto] at hcl
      repeat' ((conv => whnf) <;> first
       | refine condP_dec (fun _ => ?_) (fun _ => ?_)
       | refine condP_ndec (fun _ => ?_) (fun _ => ?_)
       | refine condP_true rfl ?_
       | refine condP_false rfl ?_
       | refine condP_not (fun _ => ?_) (fun _ => ?_)
       | refine condP_intro (fun _ => ?_) (fun _ => ?_)
       | (refine callP_eq (ev_iPackOf _ _ _ _ rdcA) ?_)
       | (refine rd_lenm rdA ?_; intro hml; rw [maxLen_eq] at hml)
       | refine rd_idxm rdA (by intro _; rfl) (by constructor <;> omega) ?_
       | (refine rd_loadm (f := GTab.d) rdA (by constructor <;> omega) ?_; intro _ hcs; obtain ⟨_, _, _, rfl, _, _, _⟩ := GTab.inv hcs)
       | refine needP_intro (by first | omega | (constructor <;> omega)) ?_
       | refine draw_intro 35 [.fl 0, .fl 1, .fl 2, .fl 3, .fl 4, .fl 5, .fl 6, .fl 7, .fl 8, .fl 9, .fl 10, .st 11 [], .fl 12, .fl 13, .fl 14, .st 15 [14], .st 16 []] (by rfl) (by kernel_rfl) ?_
       | refine And.intro ?_ ?_)
      all_goals try first | (exfalso; simp_all; done) | (exfalso; omega)
      (conv => whnf)
      refine callP_intro (ev_iLendTo b.Grants ext (b.Tabs[tab.toNat]'ht.2).Site b.Now _ _ rdA (by omega)) ?_; rintro _ S2 ⟨e2, d2, rfl, f3⟩
      rw [hto]
      rcases hl : (lendTo b.Grants ext (b.Tabs[tab.toNat]'ht.2).Site b.Now).2 with _ | _
      · rw [hl] at hcl
        rw [hcl, if_neg (by decide)]
        repeat' ((conv => whnf) <;> first
         | refine condP_dec (fun _ => ?_) (fun _ => ?_)
         | refine condP_ndec (fun _ => ?_) (fun _ => ?_)
         | refine condP_true rfl ?_
         | refine condP_false rfl ?_
         | refine condP_not (fun _ => ?_) (fun _ => ?_)
         | refine condP_intro (fun _ => ?_) (fun _ => ?_)
         | (refine callP_intro (ev_cloneBrowser _ _ _ rdcA (by (first | omega | exact sz_at hz (by omega) | (simp only [szL]; omega)))) ?_; rintro _ Sn ⟨hEn, _, _, _, _, _, _, rfl, hFn⟩)
         | (refine callP_eq (ev_iPackOf _ _ _ _ rdcA) ?_)
         | (refine callP_intro (ev_iLendTo _ _ _ _ _ _ rdA (by omega)) ?_; rintro _ Sn ⟨hEn, cn, rfl, hFn⟩)
         | (refine callP_intro (ev_iLendTo _ _ ⟨_, _⟩ _ _ _ rdA (by omega)) ?_; rintro _ Sn ⟨hEn, cn, rfl, hFn⟩)
         | (refine rd_lenm rdA ?_; intro hml; rw [maxLen_eq] at hml)
         | refine rd_idxm rdA (by intro _; rfl) (by constructor <;> omega) ?_
         | (refine rd_loadm (f := GTab.d) rdA (by constructor <;> omega) ?_; intro _ hcs; obtain ⟨_, _, _, rfl, _, _, _⟩ := GTab.inv hcs)
         | refine needP_intro (by first | omega | (constructor <;> omega)) ?_
         | refine draw_intro 35 [.fl 0, .fl 1, .fl 2, .fl 3, .fl 4, .fl 5, .fl 6, .fl 7, .fl 8, .fl 9, .fl 10, .st 11 [], .fl 12, .fl 13, .fl 14, .st 15 [14], .st 16 []] (by rfl) (by kernel_rfl) ?_
         | refine And.intro ?_ ?_)
        all_goals first
          | exact e1.trans e2
          | exact ⟨_, _, _, _, _, _, rfl, f2.ext e2⟩
      · rw [hl] at hcl
        rw [hcl, if_pos rfl]
        have f4 := f2.setAt (o := 3) e2 f3 e1.len (by show 3 < 8; decide)
        repeat' ((conv => whnf) <;> first
         | refine condP_dec (fun _ => ?_) (fun _ => ?_)
         | refine condP_ndec (fun _ => ?_) (fun _ => ?_)
         | refine condP_true rfl ?_
         | refine condP_false rfl ?_
         | refine condP_not (fun _ => ?_) (fun _ => ?_)
         | refine condP_intro (fun _ => ?_) (fun _ => ?_)
         | (refine callP_intro (ev_cloneBrowser _ _ _ rdcA (by (first | omega | exact sz_at hz (by omega) | (simp only [szL]; omega)))) ?_; rintro _ Sn ⟨hEn, _, _, _, _, _, _, rfl, hFn⟩)
         | (refine callP_eq (ev_iPackOf _ _ _ _ rdcA) ?_)
         | (refine callP_intro (ev_iLendTo _ _ _ _ _ _ rdA (by omega)) ?_; rintro _ Sn ⟨hEn, cn, rfl, hFn⟩)
         | (refine callP_intro (ev_iLendTo _ _ ⟨_, _⟩ _ _ _ rdA (by omega)) ?_; rintro _ Sn ⟨hEn, cn, rfl, hFn⟩)
         | (refine rd_lenm rdA ?_; intro hml; rw [maxLen_eq] at hml)
         | refine rd_idxm rdA (by intro _; rfl) (by constructor <;> omega) ?_
         | (refine rd_loadm (f := GTab.d) rdA (by constructor <;> omega) ?_; intro _ hcs; obtain ⟨_, _, _, rfl, _, _, _⟩ := GTab.inv hcs)
         | refine needP_intro (by first | omega | (constructor <;> omega)) ?_
         | refine draw_intro 35 [.fl 0, .fl 1, .fl 2, .fl 3, .fl 4, .fl 5, .fl 6, .fl 7, .fl 8, .fl 9, .fl 10, .st 11 [], .fl 12, .fl 13, .fl 14, .st 15 [14], .st 16 []] (by rfl) (by kernel_rfl) ?_
         | refine And.intro ?_ ?_)
        all_goals first
          | exact e1.trans e2
          | exact ⟨_, _, _, _, _, _, rfl, f4⟩
def goTab (b : GBrowser) (tab : Int) (s : GSite) : GTab × Bool := openTab s exB2 (tabOf b tab).Hidden
def goTo (b : GBrowser) (tab : Int) (s : GSite) : GBrowser := { b with Tabs := b.Tabs.set tab.toNat (goTab b tab s).1, Grants := b.Grants.filter (notEnd (tabOf b tab).Site) }
def goOk (b : GBrowser) (tab : Int) (s : GSite) : Bool := inR tab 0 ((b.Tabs.length : Int) - 1) && isSite s
def stepGo (b : GBrowser) (tab : Int) (s : GSite) : GBrowser × Bool := if goOk b tab s && (goTab b tab s).2 then (goTo b tab s, true) else (b, false)
set_option maxHeartbeats 2000000 in
theorem ev_sStepGo (b : GBrowser) (tab : Int) (s : GSite) (cs : List C) (S : Store) (h : Rd S b.d cs) (hz : szL b.d ≤ 2097152) : EvA Tryz.prog 16 [.agg cs, .s (.int .i64 tab), .agg s.c] S (fun r S' => Ext S S' ∧ ∃ c1 c2 c3 c4 c5 c6, r = .tup [.agg [.int .i64 (stepGo b tab s).1.Key, c1, c2, c3, c4, c5, c6, .int .i64 (stepGo b tab s).1.Now], .s (.bool (stepGo b tab s).2)] ∧ Fr S.length S' (stepGo b tab s).1.d [.int .i64 (stepGo b tab s).1.Key, c1, c2, c3, c4, c5, c6, .int .i64 (stepGo b tab s).1.Now]) := by
  have hzs := hz
  simp only [GBrowser.d, szL, List.length_map] at hzs
  obtain ⟨_, _, _, _, _, _, rfl, _, _, _, _, _, _⟩ := GBrowser.inv h
  refine evA_intro tok Tryz.func16 (by kernel_rfl) rfl ?_
  repeat' ((conv => whnf) <;> first
   | rw [wrapI_i64 (by omega)]
   | refine condP_dec (fun _ => ?_) (fun _ => ?_)
   | refine condP_ndec (fun _ => ?_) (fun _ => ?_)
   | refine condP_true rfl ?_
   | refine condP_false rfl ?_
   | refine condP_inR (fun _ _ => ?_) (fun _ _ => ?_)
   | refine condP_ninR (fun _ _ => ?_) (fun _ _ => ?_)
   | refine condP_not (fun _ => ?_) (fun _ => ?_)
   | refine condP_intro (fun _ => ?_) (fun _ => ?_)
   | refine callP_eq (ev_l1In _ _ _ _) ?_
   | refine callP_eq (ev_sIsSite _ _) ?_
   | (refine rd_lenm rdA ?_; intro hml; rw [maxLen_eq] at hml)
   | refine rd_idxm rdA (by intro _; rfl) (by constructor <;> omega) ?_
   | (refine rd_loadm (f := GTab.d) rdA (by constructor <;> omega) ?_; intro _ hcs; obtain ⟨_, _, _, rfl, _, _, _⟩ := GTab.inv hcs)
   | refine needP_intro (by first | omega | (constructor <;> omega)) ?_
   | refine draw_intro 26 [.fl 0, .fl 1, .fl 2, .fl 3, .fl 4, .fl 5, .fl 6, .fl 7, .st 8 [], .fl 9, .st 10 []] (by rfl) (by kernel_rfl) ?_
   | refine draw_intro 37 [.fl 0, .fl 1, .fl 2, .fl 3, .fl 4, .fl 5, .fl 6, .fl 7, .fl 8, .fl 13, .st 9 [13], .fl 10, .fl 11, .fl 12, .st 14 [12], .st 15 []] (by rfl) (by kernel_rfl) ?_
   | refine And.intro ?_ ?_)
  all_goals try (exfalso; omega)
  (conv => whnf)
  refine callP_intro (ev_l32Copy b _ _ h (by omega)) ?_; rintro _ S0 ⟨e0, c1, c2, c3, c4, c5, c6, rfl, f0⟩
  rcases hk : goOk b tab s with _ | _
  · have hr : stepGo b tab s = (b, false) := by unfold stepGo; rw [hk]; rfl
    rw [hr]
    repeat' ((conv => whnf) <;> first
     | rw [wrapI_i64 (by omega)]
     | refine condP_dec (fun _ => ?_) (fun _ => ?_)
     | refine condP_ndec (fun _ => ?_) (fun _ => ?_)
     | refine condP_true rfl ?_
     | refine condP_false rfl ?_
     | refine condP_inR (fun _ _ => ?_) (fun _ _ => ?_)
     | refine condP_ninR (fun _ _ => ?_) (fun _ _ => ?_)
     | refine condP_not (fun _ => ?_) (fun _ => ?_)
     | refine condP_intro (fun _ => ?_) (fun _ => ?_)
     | (refine callP_intro (ev_l32Copy _ _ _ rdcA (by (first | omega | exact sz_at hz (by omega) | (simp only [szL]; omega)))) ?_; rintro _ Sn ⟨hEn, _, _, _, _, _, _, rfl, hFn⟩)
     | refine callP_eq (ev_l1In _ _ _ _) ?_
     | refine callP_eq (ev_sIsSite _ _) ?_
     | (refine callP_intro (ev_sEndLending _ _ _ _ rdA (by omega)) ?_; rintro _ Sn ⟨hEn, cn, rfl, hFn⟩)
     | (refine callP_intro (ev_sEndLending _ ⟨_, _⟩ _ _ rdA (by omega)) ?_; rintro _ Sn ⟨hEn, cn, rfl, hFn⟩)
     | (refine callP_intro (ev_sOpenTab _ _ _ _ _ _ rdA rdA (by omega)) ?_; rintro _ Sn ⟨hEn, _, _, _, rfl, hFn⟩)
     | (refine callP_intro (ev_sOpenTab ⟨_, _⟩ _ _ _ _ _ rdA rdA (by omega)) ?_; rintro _ Sn ⟨hEn, _, _, _, rfl, hFn⟩)
     | (refine rd_lenm rdA ?_; intro hml; rw [maxLen_eq] at hml)
     | refine rd_idxm rdA (by intro _; rfl) (by constructor <;> omega) ?_
     | (refine rd_loadm (f := GTab.d) rdA (by constructor <;> omega) ?_; intro _ hcs; obtain ⟨_, _, _, rfl, _, _, _⟩ := GTab.inv hcs)
     | refine needP_intro (by first | omega | (constructor <;> omega)) ?_
     | refine draw_intro 26 [.fl 0, .fl 1, .fl 2, .fl 3, .fl 4, .fl 5, .fl 6, .fl 7, .st 8 [], .fl 9, .st 10 []] (by rfl) (by kernel_rfl) ?_
     | refine draw_intro 37 [.fl 0, .fl 1, .fl 2, .fl 3, .fl 4, .fl 5, .fl 6, .fl 7, .fl 8, .fl 13, .st 9 [13], .fl 10, .fl 11, .fl 12, .st 14 [12], .st 15 []] (by rfl) (by kernel_rfl) ?_
     | refine And.intro ?_ ?_)
    all_goals first
      | exact e0
      | exact ⟨_, _, _, _, _, _, rfl, f0⟩
      | (exfalso; simp [goOk, inR] at *; simp_all; done)
      | (exfalso; simp [goOk, inR] at *; simp_all; omega)
      | (exfalso; simp [goOk, inR] at *; omega)
  · have ht : 0 ≤ tab ∧ tab.toNat < b.Tabs.length := by simp [goOk, inR] at hk; omega
    have hki := hk
    unfold goOk at hki
    simp only [Bool.and_eq_true] at hki
    have hto : tabOf b tab = b.Tabs[tab.toNat]'ht.2 := getD_at ht.2
    have r1 := f0.rdAt (o := 1) (d := .sl 6 (b.Tabs.map GTab.d)) rfl rfl
    have hsh : (b.Tabs[tab.toNat]'ht.2).Hidden.length ≤ 2097152 := by
      have h1 := szLL_mem (f := GTab.d) (List.getElem_mem ht.2)
      simp only [GTab.d, szL, List.length_map] at h1
      omega
    have hgt : goTab b tab s = openTab s exB2 (b.Tabs[tab.toNat]'ht.2).Hidden := by unfold goTab; rw [hto]
    have hgo : goTo b tab s = { b with Tabs := b.Tabs.set tab.toNat (goTab b tab s).1, Grants := b.Grants.filter (notEnd (b.Tabs[tab.toNat]'ht.2).Site) } := by unfold goTo; rw [hto]
    have hsg : stepGo b tab s = if (goTab b tab s).2 then (goTo b tab s, true) else (b, false) := by unfold stepGo; rw [hk, Bool.true_and]
    repeat' ((conv => whnf) <;> first
     | rw [wrapI_i64 (by omega)]
     | refine condP_dec (fun _ => ?_) (fun _ => ?_)
     | refine condP_ndec (fun _ => ?_) (fun _ => ?_)
     | refine condP_true rfl ?_
     | refine condP_false rfl ?_
     | refine condP_inR (fun _ _ => ?_) (fun _ _ => ?_)
     | refine condP_ninR (fun _ _ => ?_) (fun _ _ => ?_)
     | refine condP_not (fun _ => ?_) (fun _ => ?_)
     | refine condP_intro (fun _ => ?_) (fun _ => ?_)
     | refine callP_eq (ev_l1In _ _ _ _) ?_
     | refine callP_eq (ev_sIsSite _ _) ?_
     | (refine rd_lenm rdA ?_; intro hml; rw [maxLen_eq] at hml)
     | refine rd_idxm rdA (by intro _; rfl) (by constructor <;> omega) ?_
     | (refine rd_loadm (f := GTab.d) rdA (by constructor <;> omega) ?_; intro _ hcs; obtain ⟨_, _, _, rfl, _, _, _⟩ := GTab.inv hcs)
     | refine needP_intro (by first | omega | (constructor <;> omega)) ?_
     | refine draw_intro 26 [.fl 0, .fl 1, .fl 2, .fl 3, .fl 4, .fl 5, .fl 6, .fl 7, .st 8 [], .fl 9, .st 10 []] (by rfl) (by kernel_rfl) ?_
     | refine draw_intro 37 [.fl 0, .fl 1, .fl 2, .fl 3, .fl 4, .fl 5, .fl 6, .fl 7, .fl 8, .fl 13, .st 9 [13], .fl 10, .fl 11, .fl 12, .st 14 [12], .st 15 []] (by rfl) (by kernel_rfl) ?_
     | refine And.intro ?_ ?_)
    all_goals try first | (exfalso; omega) | (exfalso; simp_all; done)
    (conv => whnf)
    refine callP_intro (ev_sEndLending b.Grants (b.Tabs[tab.toNat]'ht.2).Site _ _ rdA (by omega)) ?_; rintro _ S3 ⟨e3, d3, rfl, f3⟩
    have E2 := e0.trans e3
    repeat' ((conv => whnf) <;> first
     | rw [wrapI_i64 (by omega)]
     | refine condP_dec (fun _ => ?_) (fun _ => ?_)
     | refine condP_ndec (fun _ => ?_) (fun _ => ?_)
     | refine condP_true rfl ?_
     | refine condP_false rfl ?_
     | refine condP_inR (fun _ _ => ?_) (fun _ _ => ?_)
     | refine condP_ninR (fun _ _ => ?_) (fun _ _ => ?_)
     | refine condP_not (fun _ => ?_) (fun _ => ?_)
     | refine condP_intro (fun _ => ?_) (fun _ => ?_)
     | refine callP_eq (ev_l1In _ _ _ _) ?_
     | refine callP_eq (ev_sIsSite _ _) ?_
     | (refine rd_lenm rdA ?_; intro hml; rw [maxLen_eq] at hml)
     | refine rd_idxm rdA (by intro _; rfl) (by constructor <;> omega) ?_
     | (refine rd_loadm (f := GTab.d) rdA (by constructor <;> omega) ?_; intro _ hcs; obtain ⟨_, _, _, rfl, _, _, _⟩ := GTab.inv hcs)
     | refine needP_intro (by first | omega | (constructor <;> omega)) ?_
     | refine draw_intro 26 [.fl 0, .fl 1, .fl 2, .fl 3, .fl 4, .fl 5, .fl 6, .fl 7, .st 8 [], .fl 9, .st 10 []] (by rfl) (by kernel_rfl) ?_
     | refine draw_intro 37 [.fl 0, .fl 1, .fl 2, .fl 3, .fl 4, .fl 5, .fl 6, .fl 7, .fl 8, .fl 13, .st 9 [13], .fl 10, .fl 11, .fl 12, .st 14 [12], .st 15 []] (by rfl) (by kernel_rfl) ?_
     | refine And.intro ?_ ?_)
    all_goals try first | (exfalso; omega) | (exfalso; simp_all; done)
    (conv => whnf)
    refine callP_intro (ev_sOpenTab s exB2 (b.Tabs[tab.toNat]'ht.2).Hidden _ _ _ (litN exB2 (by decide)).rd rdA (by simp only [List.length_cons, List.length_nil]; omega)) ?_; rintro _ S2 ⟨e2, t2, t3, t4, rfl, f2⟩
    replace e2 := (Ext.push _ _).trans e2
    replace f2 := f2.mono (lo' := S3.length) (Ext.push _ _).len
    rw [← hgt] at *
    have E3 := E2.trans e2
    rcases hq : (goTab b tab s).2 with _ | _
    · rw [hq, if_neg (by decide)] at hsg
      rw [hsg]
      repeat' ((conv => whnf) <;> first
       | rw [wrapI_i64 (by omega)]
       | refine condP_dec (fun _ => ?_) (fun _ => ?_)
       | refine condP_ndec (fun _ => ?_) (fun _ => ?_)
       | refine condP_true rfl ?_
       | refine condP_false rfl ?_
       | refine condP_inR (fun _ _ => ?_) (fun _ _ => ?_)
       | refine condP_ninR (fun _ _ => ?_) (fun _ _ => ?_)
       | refine condP_not (fun _ => ?_) (fun _ => ?_)
       | refine condP_intro (fun _ => ?_) (fun _ => ?_)
       | refine callP_eq (ev_l1In _ _ _ _) ?_
       | refine callP_eq (ev_sIsSite _ _) ?_
       | (refine rd_lenm rdA ?_; intro hml; rw [maxLen_eq] at hml)
       | refine rd_idxm rdA (by intro _; rfl) (by constructor <;> omega) ?_
       | (refine rd_loadm (f := GTab.d) rdA (by constructor <;> omega) ?_; intro _ hcs; obtain ⟨_, _, _, rfl, _, _, _⟩ := GTab.inv hcs)
       | refine needP_intro (by first | omega | (constructor <;> omega)) ?_
       | refine draw_intro 26 [.fl 0, .fl 1, .fl 2, .fl 3, .fl 4, .fl 5, .fl 6, .fl 7, .st 8 [], .fl 9, .st 10 []] (by rfl) (by kernel_rfl) ?_
       | refine draw_intro 37 [.fl 0, .fl 1, .fl 2, .fl 3, .fl 4, .fl 5, .fl 6, .fl 7, .fl 8, .fl 13, .st 9 [13], .fl 10, .fl 11, .fl 12, .st 14 [12], .st 15 []] (by rfl) (by kernel_rfl) ?_
       | refine And.intro ?_ ?_)
      (conv => whnf)
      refine callP_intro (ev_l32Copy b _ _ (h.ext E3) (by omega)) ?_; rintro _ S5 ⟨e5, g1, g2, g3, g4, g5, g6, rfl, f5⟩
      repeat' ((conv => whnf) <;> first
       | rw [wrapI_i64 (by omega)]
       | refine condP_dec (fun _ => ?_) (fun _ => ?_)
       | refine condP_ndec (fun _ => ?_) (fun _ => ?_)
       | refine condP_true rfl ?_
       | refine condP_false rfl ?_
       | refine condP_inR (fun _ _ => ?_) (fun _ _ => ?_)
       | refine condP_ninR (fun _ _ => ?_) (fun _ _ => ?_)
       | refine condP_not (fun _ => ?_) (fun _ => ?_)
       | refine condP_intro (fun _ => ?_) (fun _ => ?_)
       | (refine callP_intro (ev_l32Copy _ _ _ rdcA (by (first | omega | exact sz_at hz (by omega) | (simp only [szL]; omega)))) ?_; rintro _ Sn ⟨hEn, _, _, _, _, _, _, rfl, hFn⟩)
       | refine callP_eq (ev_l1In _ _ _ _) ?_
       | refine callP_eq (ev_sIsSite _ _) ?_
       | (refine callP_intro (ev_sEndLending _ _ _ _ rdA (by omega)) ?_; rintro _ Sn ⟨hEn, cn, rfl, hFn⟩)
       | (refine callP_intro (ev_sEndLending _ ⟨_, _⟩ _ _ rdA (by omega)) ?_; rintro _ Sn ⟨hEn, cn, rfl, hFn⟩)
       | (refine callP_intro (ev_sOpenTab _ _ _ _ _ _ rdA rdA (by omega)) ?_; rintro _ Sn ⟨hEn, _, _, _, rfl, hFn⟩)
       | (refine callP_intro (ev_sOpenTab ⟨_, _⟩ _ _ _ _ _ rdA rdA (by omega)) ?_; rintro _ Sn ⟨hEn, _, _, _, rfl, hFn⟩)
       | (refine rd_lenm rdA ?_; intro hml; rw [maxLen_eq] at hml)
       | refine rd_idxm rdA (by intro _; rfl) (by constructor <;> omega) ?_
       | (refine rd_loadm (f := GTab.d) rdA (by constructor <;> omega) ?_; intro _ hcs; obtain ⟨_, _, _, rfl, _, _, _⟩ := GTab.inv hcs)
       | refine needP_intro (by first | omega | (constructor <;> omega)) ?_
       | refine draw_intro 26 [.fl 0, .fl 1, .fl 2, .fl 3, .fl 4, .fl 5, .fl 6, .fl 7, .st 8 [], .fl 9, .st 10 []] (by rfl) (by kernel_rfl) ?_
       | refine draw_intro 37 [.fl 0, .fl 1, .fl 2, .fl 3, .fl 4, .fl 5, .fl 6, .fl 7, .fl 8, .fl 13, .st 9 [13], .fl 10, .fl 11, .fl 12, .st 14 [12], .st 15 []] (by rfl) (by kernel_rfl) ?_
       | refine And.intro ?_ ?_)
      all_goals first
        | exact E3.trans e5
        | exact ⟨_, _, _, _, _, _, rfl, f5.mono E3.len⟩
        | (exfalso; simp_all; done)
    rw [hq, if_pos rfl] at hsg
    rw [hsg]
    have J : Fr S.length S2 (({ b with Grants := b.Grants.filter (notEnd (b.Tabs[tab.toNat]'ht.2).Site) } : GBrowser).d ++ (goTab b tab s).1.d) ([.int .i64 b.Key, c1, c2, d3, c4, c5, c6, .int .i64 b.Now] ++ [.int .i64 (goTab b tab s).1.Site.Owner, .int .i64 (goTab b tab s).1.Site.Sub, t2, t3, t4, .int .i64 (goTab b tab s).1.Click]) := (f0.setAt (o := 3) e3 f3 e0.len (by show 3 < 8; decide)).join e2 f2 E2.len
    repeat' ((conv => whnf) <;> first
     | rw [wrapI_i64 (by omega)]
     | refine condP_dec (fun _ => ?_) (fun _ => ?_)
     | refine condP_ndec (fun _ => ?_) (fun _ => ?_)
     | refine condP_true rfl ?_
     | refine condP_false rfl ?_
     | refine condP_inR (fun _ _ => ?_) (fun _ _ => ?_)
     | refine condP_ninR (fun _ _ => ?_) (fun _ _ => ?_)
     | refine condP_not (fun _ => ?_) (fun _ => ?_)
     | refine condP_intro (fun _ => ?_) (fun _ => ?_)
     | (refine callP_intro (ev_l32Copy _ _ _ rdcA (by (first | omega | exact sz_at hz (by omega) | (simp only [szL]; omega)))) ?_; rintro _ Sn ⟨hEn, _, _, _, _, _, _, rfl, hFn⟩)
     | refine callP_eq (ev_l1In _ _ _ _) ?_
     | refine callP_eq (ev_sIsSite _ _) ?_
     | (refine callP_intro (ev_sEndLending _ _ _ _ rdA (by omega)) ?_; rintro _ Sn ⟨hEn, cn, rfl, hFn⟩)
     | (refine callP_intro (ev_sEndLending _ ⟨_, _⟩ _ _ rdA (by omega)) ?_; rintro _ Sn ⟨hEn, cn, rfl, hFn⟩)
     | (refine callP_intro (ev_sOpenTab _ _ _ _ _ _ rdA rdA (by omega)) ?_; rintro _ Sn ⟨hEn, _, _, _, rfl, hFn⟩)
     | (refine callP_intro (ev_sOpenTab ⟨_, _⟩ _ _ _ _ _ rdA rdA (by omega)) ?_; rintro _ Sn ⟨hEn, _, _, _, rfl, hFn⟩)
     | (refine rd_lenm rdA ?_; intro hml; rw [maxLen_eq] at hml)
     | refine rd_idxm rdA (by intro _; rfl) (by constructor <;> omega) ?_
     | (refine rd_loadm (f := GTab.d) rdA (by constructor <;> omega) ?_; intro _ hcs; obtain ⟨_, _, _, rfl, _, _, _⟩ := GTab.inv hcs)
     | refine needP_intro (by first | omega | (constructor <;> omega)) ?_
     | refine draw_intro 26 [.fl 0, .fl 1, .fl 2, .fl 3, .fl 4, .fl 5, .fl 6, .fl 7, .st 8 [], .fl 9, .st 10 []] (by rfl) (by kernel_rfl) ?_
     | refine draw_intro 37 [.fl 0, .fl 1, .fl 2, .fl 3, .fl 4, .fl 5, .fl 6, .fl 7, .fl 8, .fl 13, .st 9 [13], .fl 10, .fl 11, .fl 12, .st 14 [12], .st 15 []] (by rfl) (by kernel_rfl) ?_
     | (refine fr_stoMv (q := 1) (ds := ({ b with Grants := b.Grants.filter (notEnd (b.Tabs[tab.toNat]'ht.2).Site) } : GBrowser).d) (A := []) (B := (b.Tabs[tab.toNat]'ht.2).d) (B' := (goTab b tab s).1.d) (Z := []) E3 J rfl rfl rfl (by rw [List.length_map]; exact ht) (by rw [List.nil_append, List.append_nil]; exact tab_at ht.2) (by rfl) (by rfl) (by rfl) ?_; intro S5 e5 f5 l5)
     | refine And.intro ?_ ?_)
    all_goals first
      | exact e5
      | (refine ⟨_, _, _, _, _, _, rfl, ?_⟩
         rw [hgo]
         simp only [GBrowser.d]
         rw [List.map_set]
         rw [List.nil_append, List.append_nil] at f5
         exact f5)
      | (exfalso; simp_all; done)
      | (exfalso; omega)
set_option maxHeartbeats 2000000 in
theorem ev_iStepGo (b : GBrowser) (tab : Int) (s : GSite) (cs : List C) (S : Store) (h : Rd S b.d cs) (hz : szL b.d ≤ 2097152) : EvA Tryz.prog 18 [.agg cs, .s (.int .i64 tab), .agg s.c] S (fun r S' => Ext S S' ∧ ∃ c1 c2 c3 c4 c5 c6, r = .tup [.agg [.int .i64 (stepGo b tab s).1.Key, c1, c2, c3, c4, c5, c6, .int .i64 (stepGo b tab s).1.Now], .s (.bool (stepGo b tab s).2)] ∧ Fr S.length S' (stepGo b tab s).1.d [.int .i64 (stepGo b tab s).1.Key, c1, c2, c3, c4, c5, c6, .int .i64 (stepGo b tab s).1.Now]) := by
  have hzs := hz
  simp only [GBrowser.d, szL, List.length_map] at hzs
  obtain ⟨_, _, _, _, _, _, rfl, _, _, _, _, _, _⟩ := GBrowser.inv h
  refine evA_intro tok Tryz.func18 (by kernel_rfl) rfl ?_
  repeat' ((conv => whnf) <;> first
   | refine condP_dec (fun _ => ?_) (fun _ => ?_)
   | refine condP_ndec (fun _ => ?_) (fun _ => ?_)
   | refine condP_true rfl ?_
   | refine condP_false rfl ?_
   | refine condP_not (fun _ => ?_) (fun _ => ?_)
   | refine condP_intro (fun _ => ?_) (fun _ => ?_)
   | refine callP_eq (ev_iIsSite _ _) ?_
   | (refine rd_lenm rdA ?_; intro hml; rw [maxLen_eq] at hml)
   | refine rd_idxm rdA (by intro _; rfl) (by constructor <;> omega) ?_
   | (refine rd_loadm (f := GTab.d) rdA (by constructor <;> omega) ?_; intro _ hcs; obtain ⟨_, _, _, rfl, _, _, _⟩ := GTab.inv hcs)
   | refine needP_intro (by first | omega | (constructor <;> omega)) ?_
   | refine draw_intro 29 [.fl 0, .fl 1, .fl 2, .fl 3, .fl 4, .fl 5, .fl 6, .fl 7, .fl 8, .fl 13, .st 9 [13], .fl 10, .fl 11, .fl 12, .st 14 [12], .st 15 []] (by rfl) (by kernel_rfl) ?_
   | refine draw_intro 44 [.fl 0, .fl 1, .fl 2, .fl 3, .fl 4, .fl 5, .fl 6, .fl 7, .st 8 [], .fl 9, .st 10 []] (by rfl) (by kernel_rfl) ?_
   | refine And.intro ?_ ?_)
  all_goals try (exfalso; omega)
  (conv => whnf)
  refine callP_intro (ev_cloneBrowser b _ _ h (by omega)) ?_; rintro _ S0 ⟨e0, c1, c2, c3, c4, c5, c6, rfl, f0⟩
  rcases hk : goOk b tab s with _ | _
  · have hr : stepGo b tab s = (b, false) := by unfold stepGo; rw [hk]; rfl
    rw [hr]
    repeat' ((conv => whnf) <;> first
     | refine condP_dec (fun _ => ?_) (fun _ => ?_)
     | refine condP_ndec (fun _ => ?_) (fun _ => ?_)
     | refine condP_true rfl ?_
     | refine condP_false rfl ?_
     | refine condP_not (fun _ => ?_) (fun _ => ?_)
     | refine condP_intro (fun _ => ?_) (fun _ => ?_)
     | (refine callP_intro (ev_cloneBrowser _ _ _ rdcA (by (first | omega | exact sz_at hz (by omega) | (simp only [szL]; omega)))) ?_; rintro _ Sn ⟨hEn, _, _, _, _, _, _, rfl, hFn⟩)
     | refine callP_eq (ev_iIsSite _ _) ?_
     | (refine callP_intro (ev_iOpenTab _ _ _ _ _ _ rdA rdA (by omega)) ?_; rintro _ Sn ⟨hEn, _, _, _, rfl, hFn⟩)
     | (refine callP_intro (ev_iOpenTab ⟨_, _⟩ _ _ _ _ _ rdA rdA (by omega)) ?_; rintro _ Sn ⟨hEn, _, _, _, rfl, hFn⟩)
     | (refine callP_intro (ev_iEndLending _ _ _ _ rdA (by omega)) ?_; rintro _ Sn ⟨hEn, cn, rfl, hFn⟩)
     | (refine callP_intro (ev_iEndLending _ ⟨_, _⟩ _ _ rdA (by omega)) ?_; rintro _ Sn ⟨hEn, cn, rfl, hFn⟩)
     | (refine rd_lenm rdA ?_; intro hml; rw [maxLen_eq] at hml)
     | refine rd_idxm rdA (by intro _; rfl) (by constructor <;> omega) ?_
     | (refine rd_loadm (f := GTab.d) rdA (by constructor <;> omega) ?_; intro _ hcs; obtain ⟨_, _, _, rfl, _, _, _⟩ := GTab.inv hcs)
     | refine needP_intro (by first | omega | (constructor <;> omega)) ?_
     | refine draw_intro 29 [.fl 0, .fl 1, .fl 2, .fl 3, .fl 4, .fl 5, .fl 6, .fl 7, .fl 8, .fl 13, .st 9 [13], .fl 10, .fl 11, .fl 12, .st 14 [12], .st 15 []] (by rfl) (by kernel_rfl) ?_
     | refine draw_intro 44 [.fl 0, .fl 1, .fl 2, .fl 3, .fl 4, .fl 5, .fl 6, .fl 7, .st 8 [], .fl 9, .st 10 []] (by rfl) (by kernel_rfl) ?_
     | refine And.intro ?_ ?_)
    all_goals first
      | exact e0
      | exact ⟨_, _, _, _, _, _, rfl, f0⟩
      | (exfalso; simp [goOk, inR] at *; simp_all; done)
      | (exfalso; simp [goOk, inR] at *; simp_all; omega)
      | (exfalso; simp [goOk, inR] at *; omega)
  · have ht : 0 ≤ tab ∧ tab.toNat < b.Tabs.length := by simp [goOk, inR] at hk; omega
    have hki := hk
    unfold goOk at hki
    simp only [Bool.and_eq_true] at hki
    have hto : tabOf b tab = b.Tabs[tab.toNat]'ht.2 := getD_at ht.2
    have r1 := f0.rdAt (o := 1) (d := .sl 6 (b.Tabs.map GTab.d)) rfl rfl
    have hsh : (b.Tabs[tab.toNat]'ht.2).Hidden.length ≤ 2097152 := by
      have h1 := szLL_mem (f := GTab.d) (List.getElem_mem ht.2)
      simp only [GTab.d, szL, List.length_map] at h1
      omega
    have hgt : goTab b tab s = openTab s exB2 (b.Tabs[tab.toNat]'ht.2).Hidden := by unfold goTab; rw [hto]
    have hgo : goTo b tab s = { b with Tabs := b.Tabs.set tab.toNat (goTab b tab s).1, Grants := b.Grants.filter (notEnd (b.Tabs[tab.toNat]'ht.2).Site) } := by unfold goTo; rw [hto]
    have hsg : stepGo b tab s = if (goTab b tab s).2 then (goTo b tab s, true) else (b, false) := by unfold stepGo; rw [hk, Bool.true_and]
    repeat' ((conv => whnf) <;> first
     | refine condP_dec (fun _ => ?_) (fun _ => ?_)
     | refine condP_ndec (fun _ => ?_) (fun _ => ?_)
     | refine condP_true rfl ?_
     | refine condP_false rfl ?_
     | refine condP_not (fun _ => ?_) (fun _ => ?_)
     | refine condP_intro (fun _ => ?_) (fun _ => ?_)
     | refine callP_eq (ev_iIsSite _ _) ?_
     | (refine rd_lenm rdA ?_; intro hml; rw [maxLen_eq] at hml)
     | refine rd_idxm rdA (by intro _; rfl) (by constructor <;> omega) ?_
     | (refine rd_loadm (f := GTab.d) rdA (by constructor <;> omega) ?_; intro _ hcs; obtain ⟨_, _, _, rfl, _, _, _⟩ := GTab.inv hcs)
     | refine needP_intro (by first | omega | (constructor <;> omega)) ?_
     | refine draw_intro 29 [.fl 0, .fl 1, .fl 2, .fl 3, .fl 4, .fl 5, .fl 6, .fl 7, .fl 8, .fl 13, .st 9 [13], .fl 10, .fl 11, .fl 12, .st 14 [12], .st 15 []] (by rfl) (by kernel_rfl) ?_
     | refine draw_intro 44 [.fl 0, .fl 1, .fl 2, .fl 3, .fl 4, .fl 5, .fl 6, .fl 7, .st 8 [], .fl 9, .st 10 []] (by rfl) (by kernel_rfl) ?_
     | refine And.intro ?_ ?_)
    all_goals try first | (exfalso; omega) | (exfalso; simp_all; done)
    (conv => whnf)
    refine callP_intro (ev_iOpenTab s exB2 (b.Tabs[tab.toNat]'ht.2).Hidden _ _ _ (litN exB2 (by decide)).rd rdA (by simp only [List.length_cons, List.length_nil]; omega)) ?_; rintro _ S2 ⟨e2, t2, t3, t4, rfl, f2⟩
    replace e2 := (Ext.push _ _).trans e2
    replace f2 := f2.mono (lo' := S0.length) (Ext.push _ _).len
    rw [← hgt] at *
    have E2 := e0.trans e2
    rcases hq : (goTab b tab s).2 with _ | _
    · rw [hq, if_neg (by decide)] at hsg
      rw [hsg]
      repeat' ((conv => whnf) <;> first
       | refine condP_dec (fun _ => ?_) (fun _ => ?_)
       | refine condP_ndec (fun _ => ?_) (fun _ => ?_)
       | refine condP_true rfl ?_
       | refine condP_false rfl ?_
       | refine condP_not (fun _ => ?_) (fun _ => ?_)
       | refine condP_intro (fun _ => ?_) (fun _ => ?_)
       | (refine callP_intro (ev_cloneBrowser _ _ _ rdcA (by (first | omega | exact sz_at hz (by omega) | (simp only [szL]; omega)))) ?_; rintro _ Sn ⟨hEn, _, _, _, _, _, _, rfl, hFn⟩)
       | refine callP_eq (ev_iIsSite _ _) ?_
       | (refine callP_intro (ev_iOpenTab _ _ _ _ _ _ rdA rdA (by omega)) ?_; rintro _ Sn ⟨hEn, _, _, _, rfl, hFn⟩)
       | (refine callP_intro (ev_iOpenTab ⟨_, _⟩ _ _ _ _ _ rdA rdA (by omega)) ?_; rintro _ Sn ⟨hEn, _, _, _, rfl, hFn⟩)
       | (refine callP_intro (ev_iEndLending _ _ _ _ rdA (by omega)) ?_; rintro _ Sn ⟨hEn, cn, rfl, hFn⟩)
       | (refine callP_intro (ev_iEndLending _ ⟨_, _⟩ _ _ rdA (by omega)) ?_; rintro _ Sn ⟨hEn, cn, rfl, hFn⟩)
       | (refine rd_lenm rdA ?_; intro hml; rw [maxLen_eq] at hml)
       | refine rd_idxm rdA (by intro _; rfl) (by constructor <;> omega) ?_
       | (refine rd_loadm (f := GTab.d) rdA (by constructor <;> omega) ?_; intro _ hcs; obtain ⟨_, _, _, rfl, _, _, _⟩ := GTab.inv hcs)
       | refine needP_intro (by first | omega | (constructor <;> omega)) ?_
       | refine draw_intro 29 [.fl 0, .fl 1, .fl 2, .fl 3, .fl 4, .fl 5, .fl 6, .fl 7, .fl 8, .fl 13, .st 9 [13], .fl 10, .fl 11, .fl 12, .st 14 [12], .st 15 []] (by rfl) (by kernel_rfl) ?_
       | refine draw_intro 44 [.fl 0, .fl 1, .fl 2, .fl 3, .fl 4, .fl 5, .fl 6, .fl 7, .st 8 [], .fl 9, .st 10 []] (by rfl) (by kernel_rfl) ?_
       | refine And.intro ?_ ?_)
      all_goals first
        | exact E2
        | exact ⟨_, _, _, _, _, _, rfl, f0.ext e2⟩
        | (exfalso; simp_all; done)
    rw [hq, if_pos rfl] at hsg
    rw [hsg]
    repeat' ((conv => whnf) <;> first
     | refine condP_dec (fun _ => ?_) (fun _ => ?_)
     | refine condP_ndec (fun _ => ?_) (fun _ => ?_)
     | refine condP_true rfl ?_
     | refine condP_false rfl ?_
     | refine condP_not (fun _ => ?_) (fun _ => ?_)
     | refine condP_intro (fun _ => ?_) (fun _ => ?_)
     | refine callP_eq (ev_iIsSite _ _) ?_
     | (refine rd_lenm rdA ?_; intro hml; rw [maxLen_eq] at hml)
     | refine rd_idxm rdA (by intro _; rfl) (by constructor <;> omega) ?_
     | (refine rd_loadm (f := GTab.d) rdA (by constructor <;> omega) ?_; intro _ hcs; obtain ⟨_, _, _, rfl, _, _, _⟩ := GTab.inv hcs)
     | refine needP_intro (by first | omega | (constructor <;> omega)) ?_
     | refine draw_intro 29 [.fl 0, .fl 1, .fl 2, .fl 3, .fl 4, .fl 5, .fl 6, .fl 7, .fl 8, .fl 13, .st 9 [13], .fl 10, .fl 11, .fl 12, .st 14 [12], .st 15 []] (by rfl) (by kernel_rfl) ?_
     | refine draw_intro 44 [.fl 0, .fl 1, .fl 2, .fl 3, .fl 4, .fl 5, .fl 6, .fl 7, .st 8 [], .fl 9, .st 10 []] (by rfl) (by kernel_rfl) ?_
     | refine And.intro ?_ ?_)
    all_goals try first | (exfalso; omega) | (exfalso; simp_all; done)
    (conv => whnf)
    refine callP_intro (ev_iEndLending b.Grants (b.Tabs[tab.toNat]'ht.2).Site _ _ rdA (by omega)) ?_; rintro _ S3 ⟨e3, d3, rfl, f3⟩
    have E3 := E2.trans e3
    have J : Fr S.length S3 (({ b with Grants := b.Grants.filter (notEnd (b.Tabs[tab.toNat]'ht.2).Site) } : GBrowser).d ++ (goTab b tab s).1.d) ([.int .i64 b.Key, c1, c2, d3, c4, c5, c6, .int .i64 b.Now] ++ [.int .i64 (goTab b tab s).1.Site.Owner, .int .i64 (goTab b tab s).1.Site.Sub, t2, t3, t4, .int .i64 (goTab b tab s).1.Click]) := (f0.join e2 f2 e0.len).setAt (o := 3) e3 f3 E2.len (by show 3 < 14; decide)
    repeat' ((conv => whnf) <;> first
     | refine condP_dec (fun _ => ?_) (fun _ => ?_)
     | refine condP_ndec (fun _ => ?_) (fun _ => ?_)
     | refine condP_true rfl ?_
     | refine condP_false rfl ?_
     | refine condP_not (fun _ => ?_) (fun _ => ?_)
     | refine condP_intro (fun _ => ?_) (fun _ => ?_)
     | (refine callP_intro (ev_cloneBrowser _ _ _ rdcA (by (first | omega | exact sz_at hz (by omega) | (simp only [szL]; omega)))) ?_; rintro _ Sn ⟨hEn, _, _, _, _, _, _, rfl, hFn⟩)
     | refine callP_eq (ev_iIsSite _ _) ?_
     | (refine callP_intro (ev_iOpenTab _ _ _ _ _ _ rdA rdA (by omega)) ?_; rintro _ Sn ⟨hEn, _, _, _, rfl, hFn⟩)
     | (refine callP_intro (ev_iOpenTab ⟨_, _⟩ _ _ _ _ _ rdA rdA (by omega)) ?_; rintro _ Sn ⟨hEn, _, _, _, rfl, hFn⟩)
     | (refine callP_intro (ev_iEndLending _ _ _ _ rdA (by omega)) ?_; rintro _ Sn ⟨hEn, cn, rfl, hFn⟩)
     | (refine callP_intro (ev_iEndLending _ ⟨_, _⟩ _ _ rdA (by omega)) ?_; rintro _ Sn ⟨hEn, cn, rfl, hFn⟩)
     | (refine rd_lenm rdA ?_; intro hml; rw [maxLen_eq] at hml)
     | refine rd_idxm rdA (by intro _; rfl) (by constructor <;> omega) ?_
     | (refine rd_loadm (f := GTab.d) rdA (by constructor <;> omega) ?_; intro _ hcs; obtain ⟨_, _, _, rfl, _, _, _⟩ := GTab.inv hcs)
     | refine needP_intro (by first | omega | (constructor <;> omega)) ?_
     | refine draw_intro 29 [.fl 0, .fl 1, .fl 2, .fl 3, .fl 4, .fl 5, .fl 6, .fl 7, .fl 8, .fl 13, .st 9 [13], .fl 10, .fl 11, .fl 12, .st 14 [12], .st 15 []] (by rfl) (by kernel_rfl) ?_
     | refine draw_intro 44 [.fl 0, .fl 1, .fl 2, .fl 3, .fl 4, .fl 5, .fl 6, .fl 7, .st 8 [], .fl 9, .st 10 []] (by rfl) (by kernel_rfl) ?_
     | (refine fr_stoMv (q := 1) (ds := ({ b with Grants := b.Grants.filter (notEnd (b.Tabs[tab.toNat]'ht.2).Site) } : GBrowser).d) (A := []) (B := (b.Tabs[tab.toNat]'ht.2).d) (B' := (goTab b tab s).1.d) (Z := []) E3 J rfl rfl rfl (by rw [List.length_map]; exact ht) (by rw [List.nil_append, List.append_nil]; exact tab_at ht.2) (by rfl) (by rfl) (by rfl) ?_; intro S5 e5 f5 l5)
     | refine And.intro ?_ ?_)
    all_goals first
      | exact e5
      | (refine ⟨_, _, _, _, _, _, rfl, ?_⟩
         rw [hgo]
         simp only [GBrowser.d]
         rw [List.map_set]
         rw [List.nil_append, List.append_nil] at f5
         exact f5)
      | (exfalso; simp_all; done)
      | (exfalso; omega)
theorem szLL_set {α : Type} {f : α → List D} (a : α) : ∀ (l : List α) (i : Nat), szL.szLL ((l.set i a).map f) ≤ szL.szLL (l.map f) + szL (f a)
  | [], i => by rw [List.set_nil]; exact Nat.le_add_right _ _
  | x :: l, 0 => by rw [List.set_cons_zero, List.map_cons, List.map_cons, szL.szLL, szL.szLL]; omega
  | x :: l, i + 1 => by have := szLL_set (f := f) a l i; rw [List.set_cons_succ, List.map_cons, List.map_cons, szL.szLL, szL.szLL]; omega
theorem szBr (b : GBrowser) : szL b.d = b.Tabs.length + szL.szLL (b.Tabs.map GTab.d) + (b.Packs.length + szL.szLL (b.Packs.map GPackage.d) + (b.Grants.length + (b.Limits.length + (b.Rules.length + b.Store.length)))) := by
  simp only [GBrowser.d, szL, List.length_map]
  rw [szLL_flat (f := GGrant.d) (by intro x; simp only [szL, GGrant.d]), szLL_flat (f := GLimit.d) (by intro x; simp only [szL, GLimit.d]), szLL_flat (f := GRule.d) (by intro x; simp only [szL, GRule.d]), szLL_flat (f := GStored.d) (by intro x; simp only [szL, GStored.d])]
  omega
theorem szTabOf (b : GBrowser) (tab : Int) : szL (tabOf b tab).d ≤ szL.szLL (b.Tabs.map GTab.d) := by
  unfold tabOf
  by_cases h : tab.toNat < b.Tabs.length
  · rw [getD_at h]; exact szLL_mem (List.getElem_mem h)
  · have e : b.Tabs.getD tab.toNat default = default := by rw [List.getD_eq_getElem?_getD, List.getElem?_eq_none (by omega)]; rfl
    have h0 : szL (default : GTab).d = 0 := by simp [default, instInhabitedGTab.default, GTab.d, szL, szL.szLL]
    rw [e, h0]; exact Nat.zero_le _
theorem szStepLimit (b : GBrowser) (x : GLimit) : szL (stepLimit b x).1.d ≤ szL b.d + 1 := by
  unfold stepLimit
  split
  · rw [szBr, szBr]; simp only [List.length_append, List.length_cons, List.length_nil]; omega
  · exact Nat.le_succ _
theorem lendTo_len (l : List GGrant) (ext : Int) (s : GSite) (tick : Int) : (lendTo l ext s tick).1.length ≤ l.length + 2 := by
  unfold lendTo
  split
  · exact Nat.le_add_right _ _
  · have h1 := lendG_len ext s tick
    have h2 := List.length_filter_le (lendNew l) (lendGrants ext s tick)
    simp only [lendOut, List.length_append]; omega
theorem szClickTab (b : GBrowser) (tab : Int) : szL (clickTab b tab).d ≤ 2 * szL b.d := by
  have h1 := szLL_set (f := GTab.d) { tabOf b tab with Click := b.Now } b.Tabs tab.toNat
  have h2 : szL ({ tabOf b tab with Click := b.Now } : GTab).d = szL (tabOf b tab).d := by simp only [GTab.d, szL]
  have h3 := szTabOf b tab
  rw [szBr, szBr]
  dsimp only at h1 h2
  simp only [clickTab, List.length_set]
  omega
theorem szStepClick (b : GBrowser) (tab ext : Int) : szL (stepClick b tab ext).1.d ≤ 2 * szL b.d + 2 := by
  have h1 := szClickTab b tab
  have h2 := lendTo_len b.Grants ext (tabOf b tab).Site b.Now
  unfold stepClick
  split
  · split
    · have h3 : szL ({ clickTab b tab with Grants := (lendTo b.Grants ext (tabOf b tab).Site b.Now).1 } : GBrowser).d + b.Grants.length = szL (clickTab b tab).d + (lendTo b.Grants ext (tabOf b tab).Site b.Now).1.length := by
        rw [szBr, szBr]; simp only [clickTab]; omega
      dsimp only at h3 ⊢
      omega
    · dsimp only; omega
  · dsimp only; omega
theorem szStepGo (b : GBrowser) (tab : Int) (s : GSite) : szL (stepGo b tab s).1.d ≤ 2 * szL b.d + 1 := by
  unfold stepGo
  split
  · have h1 := szLL_set (f := GTab.d) (goTab b tab s).1 b.Tabs tab.toNat
    have h2 := ot_sz s exB2 (tabOf b tab).Hidden
    have h3 := szTabOf b tab
    have h4 : (tabOf b tab).Hidden.length ≤ szL (tabOf b tab).d := by simp only [GTab.d, szL, List.length_map]; omega
    have h5 := List.length_filter_le (notEnd (tabOf b tab).Site) b.Grants
    have h6 : (goTab b tab s) = openTab s exB2 (tabOf b tab).Hidden := rfl
    rw [← h6] at h2
    have h7 : exB2.length = 1 := rfl
    rw [szBr, szBr]
    simp only [goTo, List.length_set]
    omega
  · exact Nat.le_trans (by omega : szL b.d ≤ 2 * szL b.d) (Nat.le_succ _)
end Go.Proofs.YteknndpjcgjgaaaGreat
