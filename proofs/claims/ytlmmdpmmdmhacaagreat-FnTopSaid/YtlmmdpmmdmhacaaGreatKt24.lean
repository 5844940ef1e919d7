/- Browsers that are ones. -/
import Derived.Test.YtlmmdpmmdmhacaaGreatKt23
import Derived.Test.YtlmmdpmmdmhacaaGreatKt22
namespace Go.Proofs.YtlmmdpmmdmhacaaGreat
open Go Go.ChangeShapes Go.WideShapes Go.ChangeAt Go.RowKit
set_option linter.unusedVariables false
set_option linter.unusedSimpArgs false
set_option maxRecDepth 100000
def zee (b : GBrowser) (p : GPackage) (i : Nat) : Bool := zb4 b.Key p && (if i = 0 then true else decide ((b.Packs.getD (i - 1) default).Ext < p.Ext))
def zd0 (b : GBrowser) : List GPackage → Nat → Bool
 | [], _ => true
 | p :: r, i => if zee b p i then zd0 b r (i + 1) else false
theorem zje {b : GBrowser} {p : GPackage} {i : Nat} (h : i = 0) : zee b p i = zb4 b.Key p := by subst h; simp [zee]
theorem zgw {b : GBrowser} {p : GPackage} {i : Nat} (h0 : 0 < i) (hl : i ≤ b.Packs.length) : zee b p i = (zb4 b.Key p && decide ((b.Packs[((i : Int) - 1).toNat]'(by omega)).Ext < p.Ext)) := by
 unfold zee
 have e : b.Packs.getD (i - 1) default = b.Packs[((i : Int) - 1).toNat]'(by omega) := by
  rw [List.getD_eq_getElem?_getD, List.getElem?_eq_getElem (by omega)]
  simp only [Option.getD_some]
  congr 1; omega
 rw [if_neg (by omega), e]
def edOk (b : GBrowser) (e : GEdit) : Bool := decide (e.By = 0) || decide (0 ≤ zai b e.By)
def zlj (b : GBrowser) (t : GTab) : Bool := zcr t && t.Edits.all fun e => edOk b e
def grOk (b : GBrowser) (g : GGrant) : Bool := za4 g && decide (0 ≤ zai b g.Ext)
def isB0 (b : GBrowser) : Bool := zhw b.Key && inR b.Tabs.length 1 3 && decide (b.Packs.length ≤ 5) && decide (b.Grants.length ≤ 16) && decide (b.Limits.length ≤ 8) && zdm b.Rules && zbw b.Store && inR b.Now 0 10000
def zaj (b : GBrowser) : Bool := isB0 b && zd0 b b.Packs 0 && (b.Tabs.all fun x => zlj b x) && (b.Grants.all fun x => grOk b x) && (b.Limits.all fun x => zb6 x) && (b.Rules.all fun x => decide (0 ≤ zai b x.Ext)) && (b.Store.all fun x => decide (0 ≤ zai b x.Ext))
def zqu (b : GBrowser) : Bool := (b.Tabs.all fun x => zlj b x) && inR b.Tabs.length 1 3
def zg8 (b : GBrowser) : Bool := (b.Grants.all fun x => grOk b x) && (b.Limits.all fun x => zb6 x) && decide (b.Grants.length ≤ 16) && decide (b.Limits.length ≤ 8)
set_option maxHeartbeats 8000000 in
theorem zyu (b : GBrowser) (cs : List C) (S : Store) (h : Rd S b.d cs) (hz : szL b.d ≤ 4194304) : EvA Tryz.prog 255 [.agg cs] S (fun r S' => r = .v (.s (.bool (zqu b))) ∧ S' = S) := by
 have hzs := hz
 simp only [GBrowser.d, szL, List.length_map] at hzs
 obtain ⟨_, _, _, _, _, _, rfl, _, _, _, _, _, _⟩ := GBrowser.inv h
 refine zac tok Tryz.func255 (by kernel_rfl) rfl ?_
 skip
 refine zag {i : Nat // i ≤ b.Tabs.length ∧ (b.Tabs.drop i).all (fun x => zlj b x) = b.Tabs.all fun x => zlj b x} [2, 3, 4, 5, 6, 7, 8, 9, 10, 11, 12, 13, 14, 15, 16, 17, 18, 19, 20, 21, 22, 23, 24, 25, 26, 27, 28, 29, 30, 31, 32, 33, 34, 35, 36, 37, 38, 39, 40, 41, 42, 43, 44, 45, 46, 47, 48] (fun zb => [(3, .v (.s (.int .i64 zb.1)))]) (fun _ => S) (fun zb => b.Tabs.length - zb.1) ⟨0, Nat.zero_le _, rfl⟩ okL rfl ?_
 rintro ⟨i, hi, hinv⟩; dsimp only
 by_cases hlt : i < b.Tabs.length
 ·rw [zam hlt, List.all_cons] at hinv
  have htk : zlj b (b.Tabs[i]'hlt) = (zcr (b.Tabs[((i : Nat) : Int).toNat]'hlt) && (b.Tabs[((i : Nat) : Int).toNat]'hlt).Edits.all fun e => edOk b e) := rfl
  rcases hT : zcr (b.Tabs[((i : Nat) : Int).toNat]'hlt) with _ | _
  ·rw [htk, hT, Bool.false_and, Bool.false_and] at hinv
   rw [show zqu b = false from by unfold zqu; rw [← hinv]; simp]
   clear htk
   repeat' ((conv => whnf) <;> first
    | (show CondP _ _ _; refine cS ?_) | refine zaa (zke _ _ _ rdcB) ?_ | refine rE fun hml => ?_ | refine rI aN rf ix ?_ | (refine zaz (f := GTab.d) aN ix ?_; intro _ hcs; obtain ⟨_, _, _, rfl, _, _, _⟩ := GTab.inv hcs) | refine And.intro ?_ ?_)
   all_goals first | rfl | (exfalso; omega) | (exfalso; simp_all; done)
  ·rw [hT, Bool.true_and] at htk
   rw [htk] at hinv
   clear htk
   repeat' ((conv => whnf) <;> first
    | (show CondP _ _ _; refine cS ?_) | refine zaa (zke _ _ _ rdcB) ?_ | refine rE fun hml => ?_ | refine rI aN rf ix ?_ | (refine zaz (f := GTab.d) aN ix ?_; intro _ hcs; obtain ⟨_, _, _, rfl, _, _, _⟩ := GTab.inv hcs))
   all_goals try first | (exfalso; omega) | (exfalso; simp_all; done)
   refine zag {j : Nat // j ≤ (b.Tabs[((i : Nat) : Int).toNat]'hlt).Edits.length ∧ ((b.Tabs[((i : Nat) : Int).toNat]'hlt).Edits.drop j).all (fun e => edOk b e) = (b.Tabs[((i : Nat) : Int).toNat]'hlt).Edits.all fun e => edOk b e} [2, 4, 5, 20, 21, 22, 23, 24, 25, 26, 27, 28, 29, 30, 31, 32, 33, 34, 35, 36, 37, 38, 39, 40, 41, 42, 43, 44, 45, 46, 47, 48] (fun zb => [(4, .v (.s (.int .i64 zb.1)))]) (fun _ => S) (fun zb => (b.Tabs[((i : Nat) : Int).toNat]'hlt).Edits.length - zb.1) ⟨0, Nat.zero_le _, rfl⟩ okL rfl ?_
   rintro ⟨j, hj, hjnv⟩; dsimp only
   by_cases hjl : j < (b.Tabs[((i : Nat) : Int).toNat]'hlt).Edits.length
   ·rw [zam hjl, List.all_cons] at hjnv
    rcases hQ : edOk b ((b.Tabs[((i : Nat) : Int).toNat]'hlt).Edits[((j : Nat) : Int).toNat]'hjl) with _ | _
    ·rw [show edOk b ((b.Tabs[((i : Nat) : Int).toNat]'hlt).Edits[j]'hjl) = false from hQ, Bool.false_and] at hjnv
     rw [← hjnv, Bool.false_and] at hinv
     rw [show zqu b = false from by unfold zqu; rw [← hinv]; simp]
     unfold edOk at hQ
     simp only [Bool.or_eq_false_iff, decide_eq_false_iff_not] at hQ
     repeat' ((conv => whnf) <;> first
      | (show CondP _ _ _; refine cS ?_) | (refine zaa (zed _ _ _ _ rdcB) ?_) | refine rE fun hml => ?_ | refine rI aN rf ix ?_ | refine zaf aN tv ix ?_ | (refine zaz (f := GTab.d) aN ix ?_; intro _ hcs; obtain ⟨_, _, _, rfl, _, _, _⟩ := GTab.inv hcs) | refine And.intro ?_ ?_)
     all_goals first | rfl | (exfalso; omega) | (exfalso; simp_all; done)
    ·rw [show edOk b ((b.Tabs[((i : Nat) : Int).toNat]'hlt).Edits[j]'hjl) = true from hQ, Bool.true_and] at hjnv
     unfold edOk at hQ
     simp only [Bool.or_eq_true, decide_eq_true_eq] at hQ
     rcases hQ with hQ | hQ
     all_goals
      repeat' ((conv => whnf) <;> first
       | rw [zad (by omega)] | (show CondP _ _ _; refine cS ?_) | refine cE (fun _ => ?_) fun _ => ?_ | refine cF ?_ | (refine zaa (zed _ _ _ _ rdcB) ?_) | refine rE fun hml => ?_ | refine rI aN rf ix ?_ | refine zaf aN tv ix ?_ | (refine zaz (f := GTab.d) aN ix ?_; intro _ hcs; obtain ⟨_, _, _, rfl, _, _, _⟩ := GTab.inv hcs))
      all_goals first
       | (exfalso; omega)
       | (refine ⟨⟨j + 1, by omega, hjnv⟩, ?_, rfl, by dsimp only; omega⟩; (conv => whnf); repeat' (first | exact trivial | exact rfl | apply And.intro))
       | (exfalso; simp_all; done)
   ·rw [zak (by omega), List.all_nil] at hjnv
    rw [← hjnv, Bool.true_and] at hinv
    repeat' ((conv => whnf) <;> first
     | rw [zad (by omega)] | (show CondP _ _ _; refine cS ?_) | refine rE fun hml => ?_ | refine rI aN rf ix ?_ | (refine zaz (f := GTab.d) aN ix ?_; intro _ hcs; obtain ⟨_, _, _, rfl, _, _, _⟩ := GTab.inv hcs))
    all_goals first
     | (exfalso; omega)
     | (refine ⟨⟨i + 1, by omega, hinv⟩, ?_, rfl, by dsimp only; omega⟩; (conv => whnf); repeat' (first | exact trivial | exact rfl | apply And.intro))
     | (exfalso; simp_all; done)
 rw [zak (by omega), List.all_nil] at hinv
 have hp : zqu b = inR b.Tabs.length 1 3 := by unfold zqu; rw [← hinv, Bool.true_and]
 rw [hp]
 repeat' ((conv => whnf) <;> first
  | (show CondP _ _ _; refine cS ?_) | refine zaa (zcp _ _ _ _) ?_ | refine rE fun hml => ?_ | refine And.intro ?_ ?_)
 all_goals first | rfl | (exfalso; omega) | (simp_all [zay]; done)
set_option maxHeartbeats 8000000 in
theorem zt7 (b : GBrowser) (cs : List C) (S : Store) (h : Rd S b.d cs) (hz : szL b.d ≤ 4194304) : EvA Tryz.prog 256 [.agg cs] S (fun r S' => r = .v (.s (.bool (zg8 b))) ∧ S' = S) := by
 have hzs := hz
 simp only [GBrowser.d, szL, List.length_map] at hzs
 obtain ⟨_, _, _, _, _, _, rfl, _, _, _, _, _, _⟩ := GBrowser.inv h
 refine zac tok Tryz.func256 (by kernel_rfl) rfl ?_
 skip
 refine zag {i : Nat // i ≤ b.Grants.length ∧ (b.Grants.drop i).all (fun x => grOk b x) = b.Grants.all fun x => grOk b x} [2, 3, 5, 6, 7, 8, 9, 10, 11, 12, 13, 14, 15, 16, 17, 18, 19, 20, 21, 22, 23, 24, 25, 26, 27, 28, 29] (fun zb => [(3, .v (.s (.int .i64 zb.1)))]) (fun _ => S) (fun zb => b.Grants.length - zb.1) ⟨0, Nat.zero_le _, rfl⟩ okL rfl ?_
 rintro ⟨i, hi, hinv⟩; dsimp only
 by_cases hlt : i < b.Grants.length
 ·rw [zam hlt, List.all_cons] at hinv
  have hgk : grOk b (b.Grants[((i : Nat) : Int).toNat]'hlt) = (za4 (b.Grants[((i : Nat) : Int).toNat]'hlt) && decide (0 ≤ zai b (b.Grants[((i : Nat) : Int).toNat]'hlt).Ext)) := rfl
  rcases hP : (grOk b (b.Grants[((i : Nat) : Int).toNat]'hlt) : Bool) with _ | _
  ·rw [show (grOk b (b.Grants[i])) = false from hP, Bool.false_and] at hinv
   rw [show zg8 b = false from by unfold zg8; rw [← hinv]; simp]
   repeat' ((conv => whnf) <;> first
    | rw [zad (by omega)] | (show CondP _ _ _; refine cS ?_) | refine cD (fun _ => ?_) fun _ => ?_ | refine cT ?_ | refine cN (fun _ => ?_) fun _ => ?_ | (refine zaa (zed _ _ _ _ rdcB) ?_) | refine zaa (zhi _ _) ?_ | refine rE fun hml => ?_ | refine rI aN rf ix ?_ | refine zaf aN tv ix ?_ | refine zae 12 (iN 18 0 [5, 15]) (by rfl) (by kernel_rfl) ?_ | refine And.intro ?_ ?_)
   all_goals first
    | rfl
    | (exfalso; omega)
    | (exfalso; simp_all; done)
    | (exfalso; simp_all; omega)
  ·rw [show (grOk b (b.Grants[i])) = true from hP, Bool.true_and] at hinv
   repeat' ((conv => whnf) <;> first
    | rw [zad (by omega)] | (show CondP _ _ _; refine cS ?_) | refine cD (fun _ => ?_) fun _ => ?_ | refine cT ?_ | refine cN (fun _ => ?_) fun _ => ?_ | (refine zaa (zed _ _ _ _ rdcB) ?_) | refine zaa (zhi _ _) ?_ | refine rE fun hml => ?_ | refine rI aN rf ix ?_ | refine zaf aN tv ix ?_ | refine zae 12 (iN 18 0 [5, 15]) (by rfl) (by kernel_rfl) ?_ | refine And.intro ?_ ?_)
   all_goals first
    | (exfalso; omega)
    | (exfalso; simp_all; done)
    | (exfalso; simp_all; omega)
    | (refine ⟨⟨i + 1, by omega, hinv⟩, ?_, rfl, by dsimp only; omega⟩; (conv => whnf); repeat' (first | exact trivial | exact rfl | apply And.intro))
 rw [zak (by omega), List.all_nil] at hinv
 have hv0 := hinv
 clear hinv
 repeat' ((conv => whnf) <;> first
  | (show CondP _ _ _; refine cS ?_) | refine rE fun hml => ?_)
 all_goals try (exfalso; omega)
 refine zag {i : Nat // i ≤ b.Limits.length ∧ (b.Limits.drop i).all (fun x => zb6 x) = b.Limits.all fun x => zb6 x} [2, 4, 30, 31, 32, 33, 34, 35, 36, 37, 38, 39, 40, 41, 42, 43] (fun zb => [(4, .v (.s (.int .i64 zb.1)))]) (fun _ => S) (fun zb => b.Limits.length - zb.1) ⟨0, Nat.zero_le _, rfl⟩ okL rfl ?_
 rintro ⟨i, hi, hinv⟩; dsimp only
 by_cases hlt : i < b.Limits.length
 ·rw [zam hlt, List.all_cons] at hinv
  rcases hP : (zb6 (b.Limits[((i : Nat) : Int).toNat]'hlt) : Bool) with _ | _
  ·rw [show (zb6 (b.Limits[i])) = false from hP, Bool.false_and] at hinv
   rw [show zg8 b = false from by unfold zg8; rw [← hinv]; simp]
   repeat' ((conv => whnf) <;> first
    | (show CondP _ _ _; refine cS ?_) | refine zaa (zoa _ _) ?_ | refine rE fun hml => ?_ | refine rI aN rf ix ?_ | refine zaf aN tv ix ?_ | refine And.intro ?_ ?_)
   all_goals first
    | rfl
    | (exfalso; omega)
    | (exfalso; simp_all; done)
    | (exfalso; simp_all; omega)
  ·rw [show (zb6 (b.Limits[i])) = true from hP, Bool.true_and] at hinv
   repeat' ((conv => whnf) <;> first
    | rw [zad (by omega)] | (show CondP _ _ _; refine cS ?_) | refine zaa (zoa _ _) ?_ | refine rE fun hml => ?_ | refine rI aN rf ix ?_ | refine zaf aN tv ix ?_)
   all_goals first
    | (exfalso; omega)
    | (exfalso; simp_all; done)
    | (exfalso; simp_all; omega)
    | (refine ⟨⟨i + 1, by omega, hinv⟩, ?_, rfl, by dsimp only; omega⟩; (conv => whnf); repeat' (first | exact trivial | exact rfl | apply And.intro))
 rw [zak (by omega), List.all_nil] at hinv
 have hp : zg8 b = (decide (b.Grants.length ≤ 16) && decide (b.Limits.length ≤ 8)) := by unfold zg8; rw [← hinv, ← hv0]; simp
 rw [hp, show decide (b.Grants.length ≤ 16) = decide ((b.Grants.length : Int) ≤ 16) from decide_eq_decide.2 (by omega), show decide (b.Limits.length ≤ 8) = decide ((b.Limits.length : Int) ≤ 8) from decide_eq_decide.2 (by omega)]
 repeat' ((conv => whnf) <;> first
  | (show CondP _ _ _; refine cS ?_) | refine cD (fun _ => ?_) fun _ => ?_ | refine rE fun hml => ?_ | refine And.intro ?_ ?_)
 all_goals first | rfl | (exfalso; omega) | (simp [zay, *]; done) | (simp_all [zay]; done)
set_option maxHeartbeats 8000000 in
theorem zka (b : GBrowser) (cs : List C) (S : Store) (h : Rd S b.d cs) (hz : szL b.d ≤ 4194304) : EvA Tryz.prog 190 [.agg cs] S (fun r S' => r = .v (.s (.bool (zaj b))) ∧ S' = S) := by
 have hzs := hz
 simp only [GBrowser.d, szL, List.length_map] at hzs
 obtain ⟨_, _, _, _, _, _, rfl, _, _, _, _, _, _⟩ := GBrowser.inv h
 refine zac tok Tryz.func190 (by kernel_rfl) rfl ?_
 skip
 refine zag {i : Nat // i ≤ b.Packs.length ∧ zd0 b (b.Packs.drop i) i = zd0 b b.Packs 0} [2, 3, 6, 7, 8, 9, 10, 11, 12, 13, 14, 15, 16, 17, 18, 19, 20, 21, 22, 23, 24, 25, 26, 27, 28, 29, 30, 31, 32, 33, 34, 35, 36, 37, 38, 39, 40, 41] (fun zb => [(3, .v (.s (.int .i64 zb.1)))]) (fun _ => S) (fun zb => b.Packs.length - zb.1) ⟨0, Nat.zero_le _, rfl⟩ okL rfl ?_
 rintro ⟨i, hi, hinv⟩; dsimp only
 by_cases hlt : i < b.Packs.length
 ·rw [zam hlt, zd0] at hinv
  have hzk : szL (b.Packs[((i : Nat) : Int).toNat]'hlt).d ≤ 4194304 := by
   have h1 := zdf (f := GPackage.d) (List.getElem_mem hlt)
   exact Nat.le_trans h1 (by omega)
  by_cases h0 : i = 0
  ·have hz := zje (b := b) (p := (b.Packs[((i : Nat) : Int).toNat]'hlt)) h0
   rcases hP : zee b (b.Packs[((i : Nat) : Int).toNat]'hlt) i with _ | _
   ·rw [show zee b (b.Packs[i]) i = false from hP, if_neg (by decide)] at hinv
    rw [show zaj b = false from by unfold zaj; rw [← hinv]; simp]
    rw [hz] at hP
    clear hz hinv
    repeat' ((conv => whnf) <;> first
     | (show CondP _ _ _; refine cS ?_) | refine cT ?_ | (refine zaa (zgf _ _ _ _ rdcB (by (first | omega | exact sz_at hz om | (simp only [szL]; omega)))) ?_) | refine rE fun hml => ?_ | refine rI aN rf ix ?_ | (refine zaz (f := GPackage.d) aN ix ?_; intro _ hcs; obtain ⟨_, _, _, _, rfl, _, _, _, _⟩ := GPackage.inv hcs) | refine zae 13 (iN 29 0 [7]) (by rfl) (by kernel_rfl) ?_ | refine And.intro ?_ ?_)
    all_goals first | rfl | (exfalso; omega) | (exfalso; simp_all; done)
   ·rw [show zee b (b.Packs[i]) i = true from hP, if_pos rfl] at hinv
    rw [hz] at hP
    clear hz
    repeat' ((conv => whnf) <;> first
     | rw [zad (by omega)] | (show CondP _ _ _; refine cS ?_) | refine cF ?_ | (refine zaa (zgf _ _ _ _ rdcB (by (first | omega | exact sz_at hz om | (simp only [szL]; omega)))) ?_) | refine rE fun hml => ?_ | refine rI aN rf ix ?_ | (refine zaz (f := GPackage.d) aN ix ?_; intro _ hcs; obtain ⟨_, _, _, _, rfl, _, _, _, _⟩ := GPackage.inv hcs) | refine zae 13 (iN 29 0 [7]) (by rfl) (by kernel_rfl) ?_)
    all_goals first | (exfalso; omega) | (refine ⟨⟨i + 1, by omega, hinv⟩, ?_, rfl, by dsimp only; omega⟩; (conv => whnf); repeat' (first | exact trivial | exact rfl | apply And.intro)) | (exfalso; simp_all; done)
  ·have hz := zgw (b := b) (p := (b.Packs[((i : Nat) : Int).toNat]'hlt)) (i := i) (by omega) (by omega)
   rcases hP : zee b (b.Packs[((i : Nat) : Int).toNat]'hlt) i with _ | _
   ·rw [show zee b (b.Packs[i]) i = false from hP, if_neg (by decide)] at hinv
    rw [show zaj b = false from by unfold zaj; rw [← hinv]; simp]
    rw [hz] at hP
    clear hz hinv
    repeat' ((conv => whnf) <;> first
     | rw [zad (by omega)] | (show CondP _ _ _; refine cS ?_) | refine cD (fun _ => ?_) fun _ => ?_ | refine cT ?_ | refine cN (fun _ => ?_) fun _ => ?_ | (refine zaa (zgf _ _ _ _ rdcB (by (first | omega | exact sz_at hz om | (simp only [szL]; omega)))) ?_) | refine rE fun hml => ?_ | refine rI aN rf ix ?_ | (refine zaz (f := GPackage.d) aN ix ?_; intro _ hcs; obtain ⟨_, _, _, _, rfl, _, _, _, _⟩ := GPackage.inv hcs) | refine zae 13 (iN 29 0 [7]) (by rfl) (by kernel_rfl) ?_ | refine And.intro ?_ ?_)
    all_goals first | rfl | (exfalso; omega) | (exfalso; simp_all; done) | (exfalso; simp_all; omega)
   ·rw [show zee b (b.Packs[i]) i = true from hP, if_pos rfl] at hinv
    rw [hz] at hP
    simp only [Bool.and_eq_true, decide_eq_true_eq] at hP
    clear hz
    repeat' ((conv => whnf) <;> first
     | rw [zad (by omega)] | (show CondP _ _ _; refine cS ?_) | refine cT ?_ | refine cN (fun _ => ?_) fun _ => ?_ | (refine zaa (zgf _ _ _ _ rdcB (by (first | omega | exact sz_at hz om | (simp only [szL]; omega)))) ?_) | refine rE fun hml => ?_ | refine rI aN rf ix ?_ | (refine zaz (f := GPackage.d) aN ix ?_; intro _ hcs; obtain ⟨_, _, _, _, rfl, _, _, _, _⟩ := GPackage.inv hcs) | refine zae 13 (iN 29 0 [7]) (by rfl) (by kernel_rfl) ?_ | refine And.intro ?_ ?_)
    all_goals first | (exfalso; omega) | (refine ⟨⟨i + 1, by omega, hinv⟩, ?_, rfl, by dsimp only; omega⟩; (conv => whnf); repeat' (first | exact trivial | exact rfl | apply And.intro)) | (exfalso; simp_all; done) | (exfalso; simp_all; omega)
 rw [zak (by omega), zd0] at hinv
 have hv0 := hinv
 clear hinv
 repeat' ((conv => whnf) <;> first
  | (show CondP _ _ _; refine cS ?_) | refine rE fun hml => ?_)
 all_goals try (exfalso; omega)
 refine zag {i : Nat // i ≤ b.Rules.length ∧ (b.Rules.drop i).all (fun x => decide (0 ≤ zai b x.Ext)) = b.Rules.all fun x => decide (0 ≤ zai b x.Ext)} [2, 4, 42, 43, 44, 45, 46, 47, 48, 49, 50, 51, 52, 53, 54, 55, 56, 57] (fun zb => [(4, .v (.s (.int .i64 zb.1)))]) (fun _ => S) (fun zb => b.Rules.length - zb.1) ⟨0, Nat.zero_le _, rfl⟩ okL rfl ?_
 rintro ⟨i, hi, hinv⟩; dsimp only
 by_cases hlt : i < b.Rules.length
 ·rw [zam hlt, List.all_cons] at hinv
  rcases hP : (decide (0 ≤ zai b (b.Rules[((i : Nat) : Int).toNat]'hlt).Ext) : Bool) with _ | _
  ·rw [show (decide (0 ≤ zai b (b.Rules[i]).Ext)) = false from hP, Bool.false_and] at hinv
   rw [show zaj b = false from by unfold zaj; rw [← hinv]; simp]
   simp only [decide_eq_false_iff_not, decide_eq_true_eq] at hP
   repeat' ((conv => whnf) <;> first
    | (show CondP _ _ _; refine cS ?_) | (refine zaa (zed _ _ _ _ rdcB) ?_) | refine rE fun hml => ?_ | refine rI aN rf ix ?_ | refine zaf aN tv ix ?_ | refine zae 49 (iN 9 0 [7]) (by rfl) (by kernel_rfl) ?_ | refine zae 65 (iN 9 0 [7]) (by rfl) (by kernel_rfl) ?_ | refine And.intro ?_ ?_)
   all_goals first
    | rfl
    | (exfalso; omega)
    | (exfalso; simp_all; done)
    | (exfalso; simp_all; omega)
  ·rw [show (decide (0 ≤ zai b (b.Rules[i]).Ext)) = true from hP, Bool.true_and] at hinv
   simp only [decide_eq_false_iff_not, decide_eq_true_eq] at hP
   repeat' ((conv => whnf) <;> first
    | rw [zad (by omega)] | (show CondP _ _ _; refine cS ?_) | (refine zaa (zed _ _ _ _ rdcB) ?_) | refine rE fun hml => ?_ | refine rI aN rf ix ?_ | refine zaf aN tv ix ?_ | refine zae 49 (iN 9 0 [7]) (by rfl) (by kernel_rfl) ?_ | refine zae 65 (iN 9 0 [7]) (by rfl) (by kernel_rfl) ?_)
   all_goals first
    | (exfalso; omega)
    | (exfalso; simp_all; done)
    | (exfalso; simp_all; omega)
    | (refine ⟨⟨i + 1, by omega, hinv⟩, ?_, rfl, by dsimp only; omega⟩; (conv => whnf); repeat' (first | exact trivial | exact rfl | apply And.intro))
 rw [zak (by omega), List.all_nil] at hinv
 have hv1 := hinv
 clear hinv
 repeat' ((conv => whnf) <;> first
  | (show CondP _ _ _; refine cS ?_) | refine rE fun hml => ?_)
 all_goals try (exfalso; omega)
 refine zag {i : Nat // i ≤ b.Store.length ∧ (b.Store.drop i).all (fun x => decide (0 ≤ zai b x.Ext)) = b.Store.all fun x => decide (0 ≤ zai b x.Ext)} [2, 5, 58, 59, 60, 61, 62, 63, 64, 65, 66, 67, 68, 69, 70, 71, 72, 73] (fun zb => [(5, .v (.s (.int .i64 zb.1)))]) (fun _ => S) (fun zb => b.Store.length - zb.1) ⟨0, Nat.zero_le _, rfl⟩ okL rfl ?_
 rintro ⟨i, hi, hinv⟩; dsimp only
 by_cases hlt : i < b.Store.length
 ·rw [zam hlt, List.all_cons] at hinv
  rcases hP : (decide (0 ≤ zai b (b.Store[((i : Nat) : Int).toNat]'hlt).Ext) : Bool) with _ | _
  ·rw [show (decide (0 ≤ zai b (b.Store[i]).Ext)) = false from hP, Bool.false_and] at hinv
   rw [show zaj b = false from by unfold zaj; rw [← hinv]; simp]
   simp only [decide_eq_false_iff_not, decide_eq_true_eq] at hP
   repeat' ((conv => whnf) <;> first
    | (show CondP _ _ _; refine cS ?_) | (refine zaa (zed _ _ _ _ rdcB) ?_) | refine rE fun hml => ?_ | refine rI aN rf ix ?_ | refine zaf aN tv ix ?_ | refine zae 49 (iN 9 0 [7]) (by rfl) (by kernel_rfl) ?_ | refine zae 65 (iN 9 0 [7]) (by rfl) (by kernel_rfl) ?_ | refine And.intro ?_ ?_)
   all_goals first
    | rfl
    | (exfalso; omega)
    | (exfalso; simp_all; done)
    | (exfalso; simp_all; omega)
  ·rw [show (decide (0 ≤ zai b (b.Store[i]).Ext)) = true from hP, Bool.true_and] at hinv
   simp only [decide_eq_false_iff_not, decide_eq_true_eq] at hP
   repeat' ((conv => whnf) <;> first
    | rw [zad (by omega)] | (show CondP _ _ _; refine cS ?_) | (refine zaa (zed _ _ _ _ rdcB) ?_) | refine rE fun hml => ?_ | refine rI aN rf ix ?_ | refine zaf aN tv ix ?_ | refine zae 49 (iN 9 0 [7]) (by rfl) (by kernel_rfl) ?_ | refine zae 65 (iN 9 0 [7]) (by rfl) (by kernel_rfl) ?_)
   all_goals first
    | (exfalso; omega)
    | (exfalso; simp_all; done)
    | (exfalso; simp_all; omega)
    | (refine ⟨⟨i + 1, by omega, hinv⟩, ?_, rfl, by dsimp only; omega⟩; (conv => whnf); repeat' (first | exact trivial | exact rfl | apply And.intro))
 rw [zak (by omega), List.all_nil] at hinv
 have hv2 := hinv
 clear hinv
 have hp : zaj b = (zhw b.Key && decide (b.Packs.length ≤ 5) && zqu b && zg8 b && zdm b.Rules && zbw b.Store && inR b.Now 0 10000) := by
  unfold zaj isB0 zqu zg8; rw [← hv0, ← hv1, ← hv2]
  generalize zhw b.Key = a0; generalize inR b.Tabs.length 1 3 = a1; generalize decide (b.Packs.length ≤ 5) = a2; generalize decide (b.Grants.length ≤ 16) = a3; generalize decide (b.Limits.length ≤ 8) = a4; generalize zdm b.Rules = a5; generalize zbw b.Store = a6; generalize inR b.Now 0 10000 = a7; generalize (b.Tabs.all fun x => zlj b x) = a8; generalize (b.Grants.all fun x => grOk b x) = a9; generalize (b.Limits.all fun x => zb6 x) = a10
  cases a0 <;> cases a1 <;> cases a2 <;> cases a5 <;> cases a6 <;> cases a7 <;> cases a8 <;> cases a9 <;> cases a10 <;> simp
 rw [hp, show zhw b.Key = inR b.Key 1 2147483646 from rfl, show decide (b.Packs.length ≤ 5) = decide ((b.Packs.length : Int) ≤ 5) from decide_eq_decide.2 (by omega)]
 repeat' ((conv => whnf) <;> first
  | (show CondP _ _ _; refine cS ?_) | refine cD (fun _ => ?_) fun _ => ?_ | refine cF ?_ | refine zbu (fun _ _ => ?_) (fun _ _ => ?_) | refine cI (fun _ => ?_) fun _ => ?_ | refine zaa (zd1 _ _) ?_ | refine zaa (zcp _ _ _ _) ?_ | refine zaa (zyu _ _ _ rdcB (by first | assumption | omega)) ?_ | refine zaa (zt7 _ _ _ rdcB (by first | assumption | omega)) ?_ | refine zaa (zyh _ _ _ aN om) ?_ | refine zaa (zve _ _ _ aN) ?_ | refine rE fun hml => ?_ | refine And.intro ?_ ?_)
 all_goals first | rfl | (exfalso; omega) | (simp [zay, *]; done) | (simp_all [zay]; done)
set_option maxHeartbeats 8000000 in
theorem zev (b : GBrowser) (cs : List C) (S : Store) (h : Rd S b.d cs) (hz : szL b.d ≤ 4194304) : EvA Tryz.prog 11 [.agg cs] S (fun r S' => r = .v (.s (.bool (zaj b))) ∧ S' = S) := by
 have hzs := hz
 simp only [GBrowser.d, szL, List.length_map] at hzs
 obtain ⟨_, _, _, _, _, _, rfl, _, _, _, _, _, _⟩ := GBrowser.inv h
 refine zac tok Tryz.func11 (by kernel_rfl) rfl ?_
 repeat' ((conv => whnf) <;> first
  | refine cD (fun _ => ?_) fun _ => ?_ | refine cT ?_ | refine zar (fun _ _ => ?_) (fun _ _ => ?_) | refine cN (fun _ => ?_) fun _ => ?_ | refine zaa (ze3 _ _) ?_ | refine zaa (zat _ _ _ _) ?_ | refine zaa (zxp _ _ _ aN om) ?_ | refine zaa (zg7 _ _ _ aN) ?_ | refine rE fun hml => ?_ | refine And.intro ?_ ?_)
 all_goals try (rw [show zaj b = false from by unfold zaj; rw [show isB0 b = false from by unfold isB0 zhw; first | (simp only [*, Bool.false_and, Bool.and_false]; done) | (rw [show decide (b.Packs.length ≤ 5) = false from decide_eq_false (by omega)]; simp; done) | (rw [show decide (b.Grants.length ≤ 16) = false from decide_eq_false (by omega)]; simp; done) | (rw [show decide (b.Limits.length ≤ 8) = false from decide_eq_false (by omega)]; simp; done)]; simp]; rfl)
 have hb0 : isB0 b = true := by unfold isB0 zhw; first | (simp_all; done) | (simp_all; omega)
 refine zag {i : Nat // i ≤ b.Packs.length ∧ zd0 b (b.Packs.drop i) i = zd0 b b.Packs 0} [2, 3, 4, 67, 68, 69, 70, 71, 72, 73, 74, 75, 76, 77, 78, 79, 80, 81, 82, 83, 84, 85, 86, 87, 88, 89, 90, 91, 92, 93] (fun zb => [(67, .v (.s (.int .i64 zb.1)))]) (fun _ => S) (fun zb => b.Packs.length - zb.1) ⟨0, Nat.zero_le _, rfl⟩ okL rfl ?_
 rintro ⟨i, hi, hinv⟩; dsimp only
 by_cases hlt : i < b.Packs.length
 ·rw [zam hlt, zd0] at hinv
  have hzk : szL (b.Packs[((i : Nat) : Int).toNat]'hlt).d ≤ 4194304 := by
   have h1 := zdf (f := GPackage.d) (List.getElem_mem hlt)
   exact Nat.le_trans h1 (by omega)
  by_cases h0 : i = 0
  ·have hz := zje (b := b) (p := (b.Packs[((i : Nat) : Int).toNat]'hlt)) h0
   rcases hP : zee b (b.Packs[((i : Nat) : Int).toNat]'hlt) i with _ | _
   ·rw [show zee b (b.Packs[i]) i = false from hP, if_neg (by decide)] at hinv
    rw [show zaj b = false from by unfold zaj; rw [← hinv]; simp]
    rw [hz] at hP
    clear hz hinv
    repeat' ((conv => whnf) <;> first
     | (show CondP _ _ _; refine cS ?_) | refine cT ?_ | (refine zaa (zdl _ _ _ _ rdcB) ?_) | refine rI aN rf ix ?_ | (refine zaz (f := GPackage.d) aN ix ?_; intro _ hcs; obtain ⟨_, _, _, _, rfl, _, _, _, _⟩ := GPackage.inv hcs) | refine zae 72 (iN 21 0 [3]) (by rfl) (by kernel_rfl) ?_ | refine And.intro ?_ ?_)
    all_goals first | rfl | (exfalso; omega) | (exfalso; simp_all; done)
   ·rw [show zee b (b.Packs[i]) i = true from hP, if_pos rfl] at hinv
    rw [hz] at hP
    clear hz
    repeat' ((conv => whnf) <;> first
     | rw [zad (by omega)] | (show CondP _ _ _; refine cS ?_) | refine cF ?_ | (refine zaa (zdl _ _ _ _ rdcB) ?_) | refine rI aN rf ix ?_ | (refine zaz (f := GPackage.d) aN ix ?_; intro _ hcs; obtain ⟨_, _, _, _, rfl, _, _, _, _⟩ := GPackage.inv hcs) | refine zae 72 (iN 21 0 [3]) (by rfl) (by kernel_rfl) ?_)
    all_goals first | (exfalso; omega) | (refine ⟨⟨i + 1, by omega, hinv⟩, ?_, rfl, by dsimp only; omega⟩; (conv => whnf); repeat' (first | exact trivial | exact rfl | apply And.intro)) | (exfalso; simp_all; done)
  ·have hz := zgw (b := b) (p := (b.Packs[((i : Nat) : Int).toNat]'hlt)) (i := i) (by omega) (by omega)
   rcases hP : zee b (b.Packs[((i : Nat) : Int).toNat]'hlt) i with _ | _
   ·rw [show zee b (b.Packs[i]) i = false from hP, if_neg (by decide)] at hinv
    rw [show zaj b = false from by unfold zaj; rw [← hinv]; simp]
    rw [hz] at hP
    clear hz hinv
    repeat' ((conv => whnf) <;> first
     | rw [zad (by omega)] | (show CondP _ _ _; refine cS ?_) | refine cD (fun _ => ?_) fun _ => ?_ | refine cT ?_ | refine cN (fun _ => ?_) fun _ => ?_ | (refine zaa (zdl _ _ _ _ rdcB) ?_) | refine rI aN rf ix ?_ | (refine zaz (f := GPackage.d) aN ix ?_; intro _ hcs; obtain ⟨_, _, _, _, rfl, _, _, _, _⟩ := GPackage.inv hcs) | refine zae 72 (iN 21 0 [3]) (by rfl) (by kernel_rfl) ?_ | refine And.intro ?_ ?_)
    all_goals first | rfl | (exfalso; omega) | (exfalso; simp_all; done) | (exfalso; simp_all; omega)
   ·rw [show zee b (b.Packs[i]) i = true from hP, if_pos rfl] at hinv
    rw [hz] at hP
    simp only [Bool.and_eq_true, decide_eq_true_eq] at hP
    clear hz
    repeat' ((conv => whnf) <;> first
     | rw [zad (by omega)] | (show CondP _ _ _; refine cS ?_) | refine cT ?_ | refine cN (fun _ => ?_) fun _ => ?_ | (refine zaa (zdl _ _ _ _ rdcB) ?_) | refine rI aN rf ix ?_ | (refine zaz (f := GPackage.d) aN ix ?_; intro _ hcs; obtain ⟨_, _, _, _, rfl, _, _, _, _⟩ := GPackage.inv hcs) | refine zae 72 (iN 21 0 [3]) (by rfl) (by kernel_rfl) ?_ | refine And.intro ?_ ?_)
    all_goals first | (exfalso; omega) | (refine ⟨⟨i + 1, by omega, hinv⟩, ?_, rfl, by dsimp only; omega⟩; (conv => whnf); repeat' (first | exact trivial | exact rfl | apply And.intro)) | (exfalso; simp_all; done) | (exfalso; simp_all; omega)
 rw [zak (by omega), zd0] at hinv
 have hv0 := hinv
 clear hinv
 repeat' ((conv => whnf) <;> first
  | (show CondP _ _ _; refine cS ?_) | refine rE fun hml => ?_)
 all_goals try (exfalso; omega)
 refine zag {i : Nat // i ≤ b.Tabs.length ∧ (b.Tabs.drop i).all (fun x => zlj b x) = b.Tabs.all fun x => zlj b x} [2, 6, 8, 97, 98, 99, 100, 101, 102, 103, 104, 105, 106, 107, 108, 109, 110, 111, 112, 113, 114, 115, 116, 117, 118, 119, 120, 121, 122] (fun zb => [(97, .v (.s (.int .i64 zb.1)))]) (fun _ => S) (fun zb => b.Tabs.length - zb.1) ⟨0, Nat.zero_le _, rfl⟩ okL rfl ?_
 rintro ⟨i, hi, hinv⟩; dsimp only
 by_cases hlt : i < b.Tabs.length
 ·rw [zam hlt, List.all_cons] at hinv
  have htk : zlj b (b.Tabs[i]'hlt) = (zcr (b.Tabs[((i : Nat) : Int).toNat]'hlt) && (b.Tabs[((i : Nat) : Int).toNat]'hlt).Edits.all fun e => edOk b e) := rfl
  rcases hT : zcr (b.Tabs[((i : Nat) : Int).toNat]'hlt) with _ | _
  ·rw [htk, hT, Bool.false_and, Bool.false_and] at hinv
   rw [show zaj b = false from by unfold zaj; rw [← hinv]; simp]
   clear htk
   repeat' ((conv => whnf) <;> first
    | (show CondP _ _ _; refine cS ?_) | refine zaa (zk3 _ _ _ rdcB) ?_ | refine rI aN rf ix ?_ | (refine zaz (f := GTab.d) aN ix ?_; intro _ hcs; obtain ⟨_, _, _, rfl, _, _, _⟩ := GTab.inv hcs) | refine And.intro ?_ ?_)
   all_goals first | rfl | (exfalso; omega) | (exfalso; simp_all; done)
  ·rw [hT, Bool.true_and] at htk
   rw [htk] at hinv
   clear htk
   repeat' ((conv => whnf) <;> first
    | (show CondP _ _ _; refine cS ?_) | refine zaa (zk3 _ _ _ rdcB) ?_ | refine rE fun hml => ?_ | refine rI aN rf ix ?_ | (refine zaz (f := GTab.d) aN ix ?_; intro _ hcs; obtain ⟨_, _, _, rfl, _, _, _⟩ := GTab.inv hcs))
   all_goals try first | (exfalso; omega) | (exfalso; simp_all; done)
   refine zag {j : Nat // j ≤ (b.Tabs[((i : Nat) : Int).toNat]'hlt).Edits.length ∧ ((b.Tabs[((i : Nat) : Int).toNat]'hlt).Edits.drop j).all (fun e => edOk b e) = (b.Tabs[((i : Nat) : Int).toNat]'hlt).Edits.all fun e => edOk b e} [2, 8, 107, 108, 109, 110, 111, 112, 113, 114, 115, 116, 117, 118, 119, 120, 121] (fun zb => [(107, .v (.s (.int .i64 zb.1)))]) (fun _ => S) (fun zb => (b.Tabs[((i : Nat) : Int).toNat]'hlt).Edits.length - zb.1) ⟨0, Nat.zero_le _, rfl⟩ okL rfl ?_
   rintro ⟨j, hj, hjnv⟩; dsimp only
   by_cases hjl : j < (b.Tabs[((i : Nat) : Int).toNat]'hlt).Edits.length
   ·rw [zam hjl, List.all_cons] at hjnv
    rcases hQ : edOk b ((b.Tabs[((i : Nat) : Int).toNat]'hlt).Edits[((j : Nat) : Int).toNat]'hjl) with _ | _
    ·rw [show edOk b ((b.Tabs[((i : Nat) : Int).toNat]'hlt).Edits[j]'hjl) = false from hQ, Bool.false_and] at hjnv
     rw [← hjnv, Bool.false_and] at hinv
     rw [show zaj b = false from by unfold zaj; rw [← hinv]; simp]
     unfold edOk at hQ
     simp only [Bool.or_eq_false_iff, decide_eq_false_iff_not] at hQ
     repeat' ((conv => whnf) <;> first
      | (show CondP _ _ _; refine cS ?_) | (refine zaa (zbc _ _ _ _ rdcB) ?_) | refine rI aN rf ix ?_ | refine zaf aN tv ix ?_ | refine And.intro ?_ ?_)
     all_goals first | rfl | (exfalso; omega) | (exfalso; simp_all; done)
    ·rw [show edOk b ((b.Tabs[((i : Nat) : Int).toNat]'hlt).Edits[j]'hjl) = true from hQ, Bool.true_and] at hjnv
     unfold edOk at hQ
     simp only [Bool.or_eq_true, decide_eq_true_eq] at hQ
     rcases hQ with hQ | hQ
     all_goals
      repeat' ((conv => whnf) <;> first
       | rw [zad (by omega)] | (show CondP _ _ _; refine cS ?_) | refine cE (fun _ => ?_) fun _ => ?_ | refine cF ?_ | (refine zaa (zbc _ _ _ _ rdcB) ?_) | refine rI aN rf ix ?_ | refine zaf aN tv ix ?_)
      all_goals first
       | (exfalso; omega)
       | (refine ⟨⟨j + 1, by omega, hjnv⟩, ?_, rfl, by dsimp only; omega⟩; (conv => whnf); repeat' (first | exact trivial | exact rfl | apply And.intro))
       | (exfalso; simp_all; done)
   ·rw [zak (by omega), List.all_nil] at hjnv
    rw [← hjnv, Bool.true_and] at hinv
    repeat' ((conv => whnf) <;> first
     | rw [zad (by omega)] | (show CondP _ _ _; refine cS ?_))
    all_goals first
     | (exfalso; omega)
     | (refine ⟨⟨i + 1, by omega, hinv⟩, ?_, rfl, by dsimp only; omega⟩; (conv => whnf); repeat' (first | exact trivial | exact rfl | apply And.intro))
     | (exfalso; simp_all; done)
 rw [zak (by omega), List.all_nil] at hinv
 have hv1 := hinv
 clear hinv
 repeat' ((conv => whnf) <;> first
  | (show CondP _ _ _; refine cS ?_) | refine rE fun hml => ?_)
 all_goals try (exfalso; omega)
 refine zag {i : Nat // i ≤ b.Grants.length ∧ (b.Grants.drop i).all (fun x => grOk b x) = b.Grants.all fun x => grOk b x} [2, 10, 126, 127, 128, 129, 130, 131, 132, 133, 134, 135, 136, 137, 138, 139, 140] (fun zb => [(126, .v (.s (.int .i64 zb.1)))]) (fun _ => S) (fun zb => b.Grants.length - zb.1) ⟨0, Nat.zero_le _, rfl⟩ okL rfl ?_
 rintro ⟨i, hi, hinv⟩; dsimp only
 by_cases hlt : i < b.Grants.length
 ·rw [zam hlt, List.all_cons] at hinv
  have hgk : grOk b (b.Grants[((i : Nat) : Int).toNat]'hlt) = (za4 (b.Grants[((i : Nat) : Int).toNat]'hlt) && decide (0 ≤ zai b (b.Grants[((i : Nat) : Int).toNat]'hlt).Ext)) := rfl
  rcases hP : (grOk b (b.Grants[((i : Nat) : Int).toNat]'hlt) : Bool) with _ | _
  ·rw [show (grOk b (b.Grants[i])) = false from hP, Bool.false_and] at hinv
   rw [show zaj b = false from by unfold zaj; rw [← hinv]; simp]
   repeat' ((conv => whnf) <;> first
    | rw [zad (by omega)] | (show CondP _ _ _; refine cS ?_) | refine cD (fun _ => ?_) fun _ => ?_ | refine cT ?_ | refine cN (fun _ => ?_) fun _ => ?_ | (refine zaa (zbc _ _ _ _ rdcB) ?_) | refine zaa (zco _ _) ?_ | refine rI aN rf ix ?_ | refine zaf aN tv ix ?_ | refine And.intro ?_ ?_)
   all_goals first
    | rfl
    | (exfalso; omega)
    | (exfalso; simp_all; done)
    | (exfalso; simp_all; omega)
  ·rw [show (grOk b (b.Grants[i])) = true from hP, Bool.true_and] at hinv
   repeat' ((conv => whnf) <;> first
    | rw [zad (by omega)] | (show CondP _ _ _; refine cS ?_) | refine cD (fun _ => ?_) fun _ => ?_ | refine cT ?_ | refine cN (fun _ => ?_) fun _ => ?_ | (refine zaa (zbc _ _ _ _ rdcB) ?_) | refine zaa (zco _ _) ?_ | refine rI aN rf ix ?_ | refine zaf aN tv ix ?_ | refine And.intro ?_ ?_)
   all_goals first
    | (exfalso; omega)
    | (exfalso; simp_all; done)
    | (exfalso; simp_all; omega)
    | (refine ⟨⟨i + 1, by omega, hinv⟩, ?_, rfl, by dsimp only; omega⟩; (conv => whnf); repeat' (first | exact trivial | exact rfl | apply And.intro))
 rw [zak (by omega), List.all_nil] at hinv
 have hv2 := hinv
 clear hinv
 repeat' ((conv => whnf) <;> first
  | (show CondP _ _ _; refine cS ?_) | refine rE fun hml => ?_)
 all_goals try (exfalso; omega)
 refine zag {i : Nat // i ≤ b.Limits.length ∧ (b.Limits.drop i).all (fun x => zb6 x) = b.Limits.all fun x => zb6 x} [2, 12, 144, 145, 146, 147, 148, 149, 150, 151] (fun zb => [(144, .v (.s (.int .i64 zb.1)))]) (fun _ => S) (fun zb => b.Limits.length - zb.1) ⟨0, Nat.zero_le _, rfl⟩ okL rfl ?_
 rintro ⟨i, hi, hinv⟩; dsimp only
 by_cases hlt : i < b.Limits.length
 ·rw [zam hlt, List.all_cons] at hinv
  rcases hP : (zb6 (b.Limits[((i : Nat) : Int).toNat]'hlt) : Bool) with _ | _
  ·rw [show (zb6 (b.Limits[i])) = false from hP, Bool.false_and] at hinv
   rw [show zaj b = false from by unfold zaj; rw [← hinv]; simp]
   repeat' ((conv => whnf) <;> first
    | (show CondP _ _ _; refine cS ?_) | refine zaa (zf5 _ _) ?_ | refine rI aN rf ix ?_ | refine zaf aN tv ix ?_ | refine And.intro ?_ ?_)
   all_goals first
    | rfl
    | (exfalso; omega)
    | (exfalso; simp_all; done)
    | (exfalso; simp_all; omega)
  ·rw [show (zb6 (b.Limits[i])) = true from hP, Bool.true_and] at hinv
   repeat' ((conv => whnf) <;> first
    | rw [zad (by omega)] | (show CondP _ _ _; refine cS ?_) | refine zaa (zf5 _ _) ?_ | refine rI aN rf ix ?_ | refine zaf aN tv ix ?_)
   all_goals first
    | (exfalso; omega)
    | (exfalso; simp_all; done)
    | (exfalso; simp_all; omega)
    | (refine ⟨⟨i + 1, by omega, hinv⟩, ?_, rfl, by dsimp only; omega⟩; (conv => whnf); repeat' (first | exact trivial | exact rfl | apply And.intro))
 rw [zak (by omega), List.all_nil] at hinv
 have hv3 := hinv
 clear hinv
 repeat' ((conv => whnf) <;> first
  | (show CondP _ _ _; refine cS ?_) | refine rE fun hml => ?_)
 all_goals try (exfalso; omega)
 refine zag {i : Nat // i ≤ b.Rules.length ∧ (b.Rules.drop i).all (fun x => decide (0 ≤ zai b x.Ext)) = b.Rules.all fun x => decide (0 ≤ zai b x.Ext)} [2, 14, 155, 156, 157, 158, 159, 160, 161, 162, 163, 164] (fun zb => [(155, .v (.s (.int .i64 zb.1)))]) (fun _ => S) (fun zb => b.Rules.length - zb.1) ⟨0, Nat.zero_le _, rfl⟩ okL rfl ?_
 rintro ⟨i, hi, hinv⟩; dsimp only
 by_cases hlt : i < b.Rules.length
 ·rw [zam hlt, List.all_cons] at hinv
  rcases hP : (decide (0 ≤ zai b (b.Rules[((i : Nat) : Int).toNat]'hlt).Ext) : Bool) with _ | _
  ·rw [show (decide (0 ≤ zai b (b.Rules[i]).Ext)) = false from hP, Bool.false_and] at hinv
   rw [show zaj b = false from by unfold zaj; rw [← hinv]; simp]
   simp only [decide_eq_false_iff_not, decide_eq_true_eq] at hP
   repeat' ((conv => whnf) <;> first
    | (show CondP _ _ _; refine cS ?_) | (refine zaa (zbc _ _ _ _ rdcB) ?_) | refine rI aN rf ix ?_ | refine zaf aN tv ix ?_ | refine And.intro ?_ ?_)
   all_goals first
    | rfl
    | (exfalso; omega)
    | (exfalso; simp_all; done)
    | (exfalso; simp_all; omega)
  ·rw [show (decide (0 ≤ zai b (b.Rules[i]).Ext)) = true from hP, Bool.true_and] at hinv
   simp only [decide_eq_false_iff_not, decide_eq_true_eq] at hP
   repeat' ((conv => whnf) <;> first
    | rw [zad (by omega)] | (show CondP _ _ _; refine cS ?_) | (refine zaa (zbc _ _ _ _ rdcB) ?_) | refine rI aN rf ix ?_ | refine zaf aN tv ix ?_)
   all_goals first
    | (exfalso; omega)
    | (exfalso; simp_all; done)
    | (exfalso; simp_all; omega)
    | (refine ⟨⟨i + 1, by omega, hinv⟩, ?_, rfl, by dsimp only; omega⟩; (conv => whnf); repeat' (first | exact trivial | exact rfl | apply And.intro))
 rw [zak (by omega), List.all_nil] at hinv
 have hv4 := hinv
 clear hinv
 repeat' ((conv => whnf) <;> first
  | (show CondP _ _ _; refine cS ?_) | refine rE fun hml => ?_)
 all_goals try (exfalso; omega)
 refine zag {i : Nat // i ≤ b.Store.length ∧ (b.Store.drop i).all (fun x => decide (0 ≤ zai b x.Ext)) = b.Store.all fun x => decide (0 ≤ zai b x.Ext)} [2, 16, 168, 169, 170, 171, 172, 173, 174, 175, 176, 177] (fun zb => [(168, .v (.s (.int .i64 zb.1)))]) (fun _ => S) (fun zb => b.Store.length - zb.1) ⟨0, Nat.zero_le _, rfl⟩ okL rfl ?_
 rintro ⟨i, hi, hinv⟩; dsimp only
 by_cases hlt : i < b.Store.length
 ·rw [zam hlt, List.all_cons] at hinv
  rcases hP : (decide (0 ≤ zai b (b.Store[((i : Nat) : Int).toNat]'hlt).Ext) : Bool) with _ | _
  ·rw [show (decide (0 ≤ zai b (b.Store[i]).Ext)) = false from hP, Bool.false_and] at hinv
   rw [show zaj b = false from by unfold zaj; rw [← hinv]; simp]
   simp only [decide_eq_false_iff_not, decide_eq_true_eq] at hP
   repeat' ((conv => whnf) <;> first
    | (show CondP _ _ _; refine cS ?_) | (refine zaa (zbc _ _ _ _ rdcB) ?_) | refine rI aN rf ix ?_ | refine zaf aN tv ix ?_ | refine And.intro ?_ ?_)
   all_goals first
    | rfl
    | (exfalso; omega)
    | (exfalso; simp_all; done)
    | (exfalso; simp_all; omega)
  ·rw [show (decide (0 ≤ zai b (b.Store[i]).Ext)) = true from hP, Bool.true_and] at hinv
   simp only [decide_eq_false_iff_not, decide_eq_true_eq] at hP
   repeat' ((conv => whnf) <;> first
    | rw [zad (by omega)] | (show CondP _ _ _; refine cS ?_) | (refine zaa (zbc _ _ _ _ rdcB) ?_) | refine rI aN rf ix ?_ | refine zaf aN tv ix ?_)
   all_goals first
    | (exfalso; omega)
    | (exfalso; simp_all; done)
    | (exfalso; simp_all; omega)
    | (refine ⟨⟨i + 1, by omega, hinv⟩, ?_, rfl, by dsimp only; omega⟩; (conv => whnf); repeat' (first | exact trivial | exact rfl | apply And.intro))
 rw [zak (by omega), List.all_nil] at hinv
 have hv5 := hinv
 clear hinv
 have hp : zaj b = true := by unfold zaj; rw [hb0, ← hv0, ← hv1, ← hv2, ← hv3, ← hv4, ← hv5]; rfl
 rw [hp]
 repeat' ((conv => whnf) <;> first
  | (show CondP _ _ _; refine cS ?_) | refine And.intro ?_ ?_)
 all_goals first | rfl | (exfalso; omega)
def newB (key : Int) (tabs : List GTab) : GBrowser := ⟨key, tabs, [], [], [], [], [], 0⟩
def zc3 (key : Int) (tabs : List GTab) : GBrowser × Bool := if zaj (newB key tabs) then (newB key tabs, true) else (default, false)
theorem z6l {S : Store} {lo : Nat} : Fr lo S (default : GBrowser).d [.int .i64 0, .nil, .nil, .nil, .nil, .nil, .nil, .int .i64 0] := fr_x (zct (zct (zct (zct (zct (zct (fr_x zc2)))))))
theorem z5a (key : Int) (tabs : List GTab) : szL (newB key tabs).d = tabs.length + szL.szLL (tabs.map GTab.d) := by
 simp only [newB, GBrowser.d, szL, List.length_map, List.map_nil, szL.szLL, List.length_nil]; omega
theorem zom (key : Int) (tabs : List GTab) (c : C) (S : Store) (h : Rd S [.sl 6 (tabs.map GTab.d)] [c]) (hz : tabs.length + szL.szLL (tabs.map GTab.d) ≤ 2097152) : EvA Tryz.prog 185 [.s (.int .i64 key), .s c] S (fun r S' => Ext S S' ∧ ∃ c1 c2 c3 c4 c5 c6, r = .tup [.agg [.int .i64 (zc3 key tabs).1.Key, c1, c2, c3, c4, c5, c6, .int .i64 (zc3 key tabs).1.Now], .s (.bool (zc3 key tabs).2)] ∧ Fr S.length S' (zc3 key tabs).1.d [.int .i64 (zc3 key tabs).1.Key, c1, c2, c3, c4, c5, c6, .int .i64 (zc3 key tabs).1.Now]) := by
 have hsz := z5a key tabs
 have hb : Rd S (newB key tabs).d [.int .i64 key, c, .nil, .nil, .nil, .nil, .nil, .int .i64 0] := GBrowser.rd h zeu zeu zeu zeu zeu
 refine zac tok Tryz.func185 (by kernel_rfl) rfl ?_
 skip
 (conv => whnf)
 refine zab (zyt (newB key tabs) _ _ hb (by omega)) ?_; rintro _ S1 ⟨e1, c1, c2, c3, c4, c5, c6, rfl, f1⟩
 have hr1 := f1.rd
 have hs1 : szL (newB key tabs).d ≤ 4194304 := by omega
 rcases hB : zaj (newB key tabs) with _ | _
 ·rw [show zc3 key tabs = (default, false) from by unfold zc3; rw [if_neg (by rw [hB]; decide)]]
  repeat' ((conv => whnf) <;> first
   | (refine zaa (zka (newB key tabs) _ _ hr1 hs1) ?_) | (show CondP _ _ _; refine cS ?_) | refine And.intro ?_ ?_)
  all_goals first
   | exact e1
   | exact ⟨_, _, _, _, _, _, rfl, z6l⟩
   | (exfalso; simp_all; done)
 ·rw [show zc3 key tabs = (newB key tabs, true) from by unfold zc3; rw [if_pos hB]]
  repeat' ((conv => whnf) <;> first
   | (refine zaa (zka (newB key tabs) _ _ hr1 hs1) ?_) | (show CondP _ _ _; refine cS ?_) | refine And.intro ?_ ?_)
  all_goals first
   | exact e1
   | exact ⟨_, _, _, _, _, _, rfl, f1⟩
   | (exfalso; simp_all; done)
end Go.Proofs.YtlmmdpmmdmhacaaGreat
