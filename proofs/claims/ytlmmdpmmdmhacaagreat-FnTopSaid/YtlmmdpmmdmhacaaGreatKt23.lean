/- Stores, fair rules, seals. -/
import Derived.Test.YtlmmdpmmdmhacaaGreatKt21
import Derived.Test.YtlmmdpmmdmhacaaGreatKt22
namespace Go.Proofs.YtlmmdpmmdmhacaaGreat
open Go Go.ChangeShapes Go.WideShapes Go.ChangeAt Go.RowKit
set_option linter.unusedVariables false
set_option linter.unusedSimpArgs false
set_option maxRecDepth 100000
def zgh (a b : GStored) : Bool := decide (a.Ext < b.Ext) || (decide (a.Ext = b.Ext) && decide (a.Name < b.Name))
theorem z67 (a b : GStored) : decide (0 ≤ orGo [cmpI a.Ext b.Ext, cmpI a.Name b.Name]) = !zgh a b := by
 unfold zgh cmpI orGo orGo
 by_cases h1 : a.Ext < b.Ext
 ·simp [h1]
 ·by_cases h2 : b.Ext < a.Ext
  ·have h3 : ¬ a.Ext = b.Ext := by omega
   simp [h1, h2, h3]
  ·have h3 : a.Ext = b.Ext := by omega
   by_cases h4 : a.Name < b.Name
   ·simp [h3, h4]
   ·by_cases h5 : b.Name < a.Name
    ·simp [h3, h4, h5]
    ·simp [h3, h4, h5, orGo]
theorem zd5 (a b : GStored) (S : Store) : EvA Tryz.prog 135 [.agg a.c, .agg b.c] S (fun r S' => r = .v (.s (.int .i64 (orGo [cmpI a.Ext b.Ext, cmpI a.Name b.Name]))) ∧ S' = S) := by
 refine EvA.drop rfl ?_
 refine zac tok Tryz.func135 (by kernel_rfl) rfl ?_
 repeat' ((conv => whnf) <;> first
  | refine zaa (zpg _ _ _) ?_ | refine zae 5 [.fl 0, .fl 1, .fl 2, .fl 3, .fl 5, .fl 6, .fl 7, .fl 8, .st 4 [5, 6, 7, 8], .st 9 [], .fl 10, .st 11 [], .st 12 []] (by rfl) (by kernel_rfl) ?_ | (refine zaa (z6o [cmpI a.Ext b.Ext, cmpI a.Name b.Name] _ _ (zvh [cmpI a.Ext b.Ext, cmpI a.Name b.Name] (by simp))) ?_) | refine And.intro ?_ ?_)
 all_goals first | rfl | exact Ext.push _ _
theorem zp3 (a : GStored) (b : GStored) (S : Store) : EvA Tryz.prog 321 [.agg a.c, .agg b.c] S (fun r S' => r = .v (.s (.bool (zgh a b))) ∧ S' = S) := by
 refine zac tok Tryz.func321 (by kernel_rfl) rfl ?_
 repeat' ((conv => whnf) <;> first
  | refine cD (fun _ => ?_) fun _ => ?_ | refine And.intro ?_ ?_)
 all_goals first | rfl | (simp_all [zay, zgh]; done) | (simp_all [zay, zgh]; intros; omega)
def okSt (l : List GStored) (x : GStored) (i : Nat) : Bool := inR x.Ext 1 5 && inR x.Name 0 9 && inR x.Value 0 999 && inR x.Ver 1 999 && (if i = 0 then true else zgh (l.getD (i - 1) default) x)
theorem zmz (l : List GStored) (x : GStored) : okSt l x 0 = (inR x.Ext 1 5 && inR x.Name 0 9 && inR x.Value 0 999 && inR x.Ver 1 999) := by simp [okSt]
theorem zmg {l : List GStored} {x : GStored} {i : Nat} (h0 : 0 < i) (hl : i ≤ l.length) : okSt l x i = (inR x.Ext 1 5 && inR x.Name 0 9 && inR x.Value 0 999 && inR x.Ver 1 999 && zgh (l[((i : Int) - 1).toNat]'(by omega)) x) := by
 unfold okSt
 have e : l.getD (i - 1) default = l[((i : Int) - 1).toNat]'(by omega) := by
  rw [List.getD_eq_getElem?_getD, List.getElem?_eq_getElem (by omega)]
  simp only [Option.getD_some]
  congr 1; omega
 rw [if_neg (by omega), e]
def stGo (l : List GStored) : List GStored → Nat → Bool
 | [], _ => true
 | x :: r, i => if okSt l x i then stGo l r (i + 1) else false
def zbw (l : List GStored) : Bool := decide (l.length ≤ 24) && stGo l l 0
set_option maxHeartbeats 2000000 in
theorem zve (l : List GStored) (c : C) (S : Store) (h : Rd S [.sl 4 (l.map GStored.d)] [c]) : EvA Tryz.prog 258 [.s c] S (fun r S' => r = .v (.s (.bool (zbw l))) ∧ S' = S) := by
 refine zac tok Tryz.func258 (by kernel_rfl) rfl ?_
 skip
 all_goals try (rw [show zbw l = false from by unfold zbw; rw [decide_eq_false (by omega), Bool.false_and]]; rfl)
 refine zag {i : Nat // i ≤ l.length ∧ stGo l (l.drop i) i = stGo l l 0} [2, 3, 4, 5, 6, 7, 8, 9, 10, 11, 12, 13, 14, 15, 16, 17, 18, 19, 20, 21, 22, 23, 24, 25, 26, 27, 28, 29, 30, 31, 32, 33, 34, 35, 36, 37, 38, 39, 40, 41, 42, 43, 44, 45, 46, 47, 48] (fun zb => [(3, .v (.s (.int .i64 zb.1)))]) (fun _ => S) (fun zb => l.length - zb.1) ⟨0, Nat.zero_le _, rfl⟩ okL rfl ?_
 rintro ⟨i, hi, hinv⟩; dsimp only
 by_cases hlt : i < l.length
 ·rw [zam hlt, stGo] at hinv
  by_cases h0 : i = 0
  ·have hz := zmz l (l[((i : Nat) : Int).toNat]'hlt)
   rcases hP : okSt l (l[((i : Nat) : Int).toNat]'hlt) i with _ | _
   ·rw [show okSt l l[i] i = false from hP, if_neg (by decide)] at hinv
    rw [show zbw l = false from by unfold zbw; rw [← hinv, Bool.and_false]]
    have hQ : okSt l (l[((i : Nat) : Int).toNat]'hlt) 0 = false := by rw [← hP]; congr 1; omega
    rw [hz] at hQ
    clear hP hz hinv
    repeat' ((conv => whnf) <;> first
     | rw [zad (by omega)] | (show CondP _ _ _; refine cS ?_) | refine cT ?_ | refine cF ?_ | refine zar (fun _ _ => ?_) (fun _ _ => ?_) | refine zaa (zcp _ _ _ _) ?_ | refine rE fun hml => ?_ | refine rI aN rf ix ?_ | refine zaf aN tv ix ?_ | refine zae 37 (iN 12 0 [9]) (by rfl) (by kernel_rfl) ?_ | refine And.intro ?_ ?_)
    all_goals first
     | rfl
     | (exfalso; omega)
     | (exfalso; simp_all; done)
     | (exfalso; simp_all; omega)
   ·rw [show okSt l l[i] i = true from hP, if_pos rfl] at hinv
    have hQ : okSt l (l[((i : Nat) : Int).toNat]'hlt) 0 = true := by rw [← hP]; congr 1; omega
    rw [hz] at hQ
    simp only [Bool.and_eq_true] at hQ
    clear hP hz
    repeat' ((conv => whnf) <;> first
     | rw [zad (by omega)] | (show CondP _ _ _; refine cS ?_) | refine cT ?_ | refine cF ?_ | refine zar (fun _ _ => ?_) (fun _ _ => ?_) | refine zaa (zcp _ _ _ _) ?_ | refine rE fun hml => ?_ | refine rI aN rf ix ?_ | refine zaf aN tv ix ?_ | refine zae 37 (iN 12 0 [9]) (by rfl) (by kernel_rfl) ?_ | refine And.intro ?_ ?_)
    all_goals first
     | (exfalso; omega)
     | (refine ⟨⟨i + 1, by omega, hinv⟩, ?_, rfl, by simp; omega⟩; (conv => whnf); repeat' (first | exact trivial | exact rfl | apply And.intro))
     | (exfalso; simp_all; done)
     | (exfalso; simp_all; omega)
  ·have hz := zmg (l := l) (x := l[((i : Nat) : Int).toNat]'hlt) (i := i) (by omega) (by omega)
   have hcp := z67 (l[((i : Int) - 1).toNat]'(by omega)) (l[((i : Nat) : Int).toNat]'hlt)
   rcases hP : okSt l (l[((i : Nat) : Int).toNat]'hlt) i with _ | _
   ·rw [show okSt l l[i] i = false from hP, if_neg (by decide)] at hinv
    rw [show zbw l = false from by unfold zbw; rw [← hinv, Bool.and_false]]
    rw [hz] at hP
    clear hz hinv
    repeat' ((conv => whnf) <;> first
     | rw [zad (by omega)] | (show CondP _ _ _; refine cS ?_) | refine cT ?_ | refine zar (fun _ _ => ?_) (fun _ _ => ?_) | refine cN (fun _ => ?_) fun _ => ?_ | refine zaa (zcp _ _ _ _) ?_ | refine zaa (zp3 _ _ _) ?_ | refine rE fun hml => ?_ | refine rI aN rf ix ?_ | refine zaf aN tv ix ?_ | refine zae 37 (iN 12 0 [9]) (by rfl) (by kernel_rfl) ?_ | refine And.intro ?_ ?_)
    all_goals first
     | rfl
     | (exfalso; omega)
     | (exfalso; simp_all; done)
     | (exfalso; simp_all; omega)
   ·rw [show okSt l l[i] i = true from hP, if_pos rfl] at hinv
    rw [hz] at hP
    simp only [Bool.and_eq_true] at hP
    clear hz
    repeat' ((conv => whnf) <;> first
     | rw [zad (by omega)] | (show CondP _ _ _; refine cS ?_) | refine cT ?_ | refine zar (fun _ _ => ?_) (fun _ _ => ?_) | refine cN (fun _ => ?_) fun _ => ?_ | refine zaa (zcp _ _ _ _) ?_ | refine zaa (zp3 _ _ _) ?_ | refine rE fun hml => ?_ | refine rI aN rf ix ?_ | refine zaf aN tv ix ?_ | refine zae 37 (iN 12 0 [9]) (by rfl) (by kernel_rfl) ?_ | refine And.intro ?_ ?_)
    all_goals first
     | (exfalso; omega)
     | (refine ⟨⟨i + 1, by omega, hinv⟩, ?_, rfl, by simp; omega⟩; (conv => whnf); repeat' (first | exact trivial | exact rfl | apply And.intro))
     | (exfalso; simp_all; done)
     | (exfalso; simp_all; omega)
 ·rw [zak (by omega), stGo] at hinv
  rw [show zbw l = decide (l.length ≤ 24) from by unfold zbw; rw [← hinv, Bool.and_true]]
  repeat' ((conv => whnf) <;> first
   | (show CondP _ _ _; refine cS ?_) | refine rE fun hml => ?_ | refine And.intro ?_ ?_)
  all_goals first
   | rfl
   | (exfalso; omega)
   | (rw [decide_eq_true (by omega)] <;> rfl)
   | exact congrArg (fun z => AV.v (V.s (C.bool z))) (decide_eq_decide.2 (by omega))
set_option maxHeartbeats 2000000 in
theorem zg7 (l : List GStored) (c : C) (S : Store) (h : Rd S [.sl 4 (l.map GStored.d)] [c]) : EvA Tryz.prog 65 [.s c] S (fun r S' => r = .v (.s (.bool (zbw l))) ∧ S' = S) := by
 refine zac tok Tryz.func65 (by kernel_rfl) rfl ?_
 repeat' ((conv => whnf) <;> first
  | refine cD (fun _ => ?_) fun _ => ?_ | refine rE fun hml => ?_ | refine And.intro ?_ ?_)
 all_goals try (rw [show zbw l = false from by unfold zbw; rw [decide_eq_false (by omega), Bool.false_and]]; rfl)
 refine zag {i : Nat // i ≤ l.length ∧ stGo l (l.drop i) i = stGo l l 0} [2, 3, 4, 10, 11, 12, 13, 14, 15, 16, 17, 18, 19, 20, 21, 22, 23, 24, 25, 26, 27, 28, 29, 30, 31, 32, 33, 34, 35, 36, 37, 38, 39, 40, 41, 42, 43, 44, 45, 46, 47, 48, 49, 50, 51] (fun zb => [(10, .v (.s (.int .i64 zb.1)))]) (fun _ => S) (fun zb => l.length - zb.1) ⟨0, Nat.zero_le _, rfl⟩ okL rfl ?_
 rintro ⟨i, hi, hinv⟩; dsimp only
 by_cases hlt : i < l.length
 ·rw [zam hlt, stGo] at hinv
  by_cases h0 : i = 0
  ·have hz := zmz l (l[((i : Nat) : Int).toNat]'hlt)
   rcases hP : okSt l (l[((i : Nat) : Int).toNat]'hlt) i with _ | _
   ·rw [show okSt l l[i] i = false from hP, if_neg (by decide)] at hinv
    rw [show zbw l = false from by unfold zbw; rw [← hinv, Bool.and_false]]
    have hQ : okSt l (l[((i : Nat) : Int).toNat]'hlt) 0 = false := by rw [← hP]; congr 1; omega
    rw [hz] at hQ
    clear hP hz hinv
    repeat' ((conv => whnf) <;> first
     | rw [zad (by omega)] | (show CondP _ _ _; refine cS ?_) | refine cT ?_ | refine cF ?_ | refine zar (fun _ _ => ?_) (fun _ _ => ?_) | refine zaa (zat _ _ _ _) ?_ | refine rI aN rf ix ?_ | refine zaf aN tv ix ?_ | refine zae 15 (iN 36 0 [2, 7, 13, 19, 32]) (by rfl) (by kernel_rfl) ?_ | refine And.intro ?_ ?_)
    all_goals first
     | rfl
     | (exfalso; omega)
     | (exfalso; simp_all; done)
     | (exfalso; simp_all; omega)
   ·rw [show okSt l l[i] i = true from hP, if_pos rfl] at hinv
    have hQ : okSt l (l[((i : Nat) : Int).toNat]'hlt) 0 = true := by rw [← hP]; congr 1; omega
    rw [hz] at hQ
    simp only [Bool.and_eq_true] at hQ
    clear hP hz
    repeat' ((conv => whnf) <;> first
     | rw [zad (by omega)] | (show CondP _ _ _; refine cS ?_) | refine cT ?_ | refine cF ?_ | refine zar (fun _ _ => ?_) (fun _ _ => ?_) | refine zaa (zat _ _ _ _) ?_ | refine rI aN rf ix ?_ | refine zaf aN tv ix ?_ | refine zae 15 (iN 36 0 [2, 7, 13, 19, 32]) (by rfl) (by kernel_rfl) ?_ | refine And.intro ?_ ?_)
    all_goals first
     | (exfalso; omega)
     | (refine ⟨⟨i + 1, by omega, hinv⟩, ?_, rfl, by simp; omega⟩; (conv => whnf); repeat' (first | exact trivial | exact rfl | apply And.intro))
     | (exfalso; simp_all; done)
     | (exfalso; simp_all; omega)
  ·have hz := zmg (l := l) (x := l[((i : Nat) : Int).toNat]'hlt) (i := i) (by omega) (by omega)
   have hcp := z67 (l[((i : Int) - 1).toNat]'(by omega)) (l[((i : Nat) : Int).toNat]'hlt)
   rcases hP : okSt l (l[((i : Nat) : Int).toNat]'hlt) i with _ | _
   ·rw [show okSt l l[i] i = false from hP, if_neg (by decide)] at hinv
    rw [show zbw l = false from by unfold zbw; rw [← hinv, Bool.and_false]]
    rw [hz] at hP
    clear hz hinv
    repeat' ((conv => whnf) <;> first
     | rw [zad (by omega)] | (show CondP _ _ _; refine cS ?_) | refine cD (fun _ => ?_) fun _ => ?_ | refine cT ?_ | refine zar (fun _ _ => ?_) (fun _ _ => ?_) | refine zaa (zat _ _ _ _) ?_ | refine zaa (zd5 _ _ _) ?_ | refine rI aN rf ix ?_ | refine zaf aN tv ix ?_ | refine zae 15 (iN 36 0 [2, 7, 13, 19, 32]) (by rfl) (by kernel_rfl) ?_ | refine And.intro ?_ ?_)
    all_goals first
     | rfl
     | (exfalso; omega)
     | (exfalso; simp_all; done)
     | (exfalso; simp_all; omega)
   ·rw [show okSt l l[i] i = true from hP, if_pos rfl] at hinv
    rw [hz] at hP
    simp only [Bool.and_eq_true] at hP
    clear hz
    repeat' ((conv => whnf) <;> first
     | rw [zad (by omega)] | (show CondP _ _ _; refine cS ?_) | refine cD (fun _ => ?_) fun _ => ?_ | refine cT ?_ | refine zar (fun _ _ => ?_) (fun _ _ => ?_) | refine zaa (zat _ _ _ _) ?_ | refine zaa (zd5 _ _ _) ?_ | refine rI aN rf ix ?_ | refine zaf aN tv ix ?_ | refine zae 15 (iN 36 0 [2, 7, 13, 19, 32]) (by rfl) (by kernel_rfl) ?_ | refine And.intro ?_ ?_)
    all_goals first
     | (exfalso; omega)
     | (refine ⟨⟨i + 1, by omega, hinv⟩, ?_, rfl, by simp; omega⟩; (conv => whnf); repeat' (first | exact trivial | exact rfl | apply And.intro))
     | (exfalso; simp_all; done)
     | (exfalso; simp_all; omega)
 ·rw [zak (by omega), stGo] at hinv
  rw [show zbw l = decide (l.length ≤ 24) from by unfold zbw; rw [← hinv, Bool.and_true]]
  repeat' ((conv => whnf) <;> first
   | (show CondP _ _ _; refine cS ?_) | refine And.intro ?_ ?_)
  all_goals first
   | rfl
   | (exfalso; omega)
   | (rw [decide_eq_true (by omega)] <;> rfl)
   | exact congrArg (fun z => AV.v (V.s (C.bool z))) (decide_eq_decide.2 (by omega))
def zgy (l : List GRule) (x : GRule) : Bool := zbt x && decide ((l.filter (ruOf x.Ext)).length ≤ 6)
def zdm (l : List GRule) : Bool := decide (l.length ≤ 20) && l.all fun x => zgy l x
theorem zyh (l : List GRule) (c : C) (S : Store) (h : Rd S [.sl 8 (l.map GRule.d)] [c]) (hz : l.length ≤ 4194304) : EvA Tryz.prog 257 [.s c] S (fun r S' => r = .v (.s (.bool (zdm l))) ∧ S' = S) := by
 refine EvA.drop rfl ?_
 refine zac tok Tryz.func257 (by kernel_rfl) rfl ?_
 skip
 all_goals try first
  | (rw [show zdm l = false from by unfold zdm; rw [decide_eq_false (by omega), Bool.false_and]]; rfl)
  | exact Ext.refl _
 refine zag {p : Nat × Store // p.1 ≤ l.length ∧ Ext S p.2 ∧ (l.drop p.1).all (fun x => zgy l x) = l.all fun x => zgy l x} [2, 3, 4, 5, 6, 7, 8, 9, 10, 11, 12, 13, 14, 15, 16, 17, 18, 19, 20, 21, 22, 23, 24, 25, 26] (fun zb => [(3, .v (.s (.int .i64 zb.1.1)))]) (fun zb => zb.1.2) (fun zb => l.length - zb.1.1) ⟨(0, S), Nat.zero_le _, Ext.refl _, rfl⟩ okL rfl ?_
 rintro ⟨⟨i, Si⟩, hi, hE, hinv⟩; dsimp only
 replace hi : i ≤ l.length := hi
 replace hE : Ext S Si := hE
 replace hinv : (l.drop i).all (fun x => zgy l x) = l.all fun x => zgy l x := hinv
 by_cases hlt : i < l.length
 ·rw [zam hlt, List.all_cons] at hinv
  rcases hP : zgy l (l[((i : Nat) : Int).toNat]'hlt) with _ | _
  ·rw [show zgy l l[i] = false from hP, Bool.false_and] at hinv
   rw [show zdm l = false from by unfold zdm; rw [← hinv, Bool.and_false]]
   unfold zgy at hP
   rcases hR : zbt (l[((i : Nat) : Int).toNat]'hlt) with _ | _
   ·clear hP
    repeat' ((conv => whnf) <;> first
     | (show CondP _ _ _; refine cS ?_) | refine cT ?_ | refine zaa (zgt _ _) ?_ | refine rE fun hml => ?_ | refine rI rdA rf ix ?_ | refine zaf rdA tv ix ?_ | refine And.intro ?_ ?_)
    all_goals first
     | rfl
     | exact hE
     | exact hE.trans (by assumption)
     | (exfalso; omega)
   ·rw [hR, Bool.true_and] at hP
    have hP := of_decide_eq_false hP
    repeat' ((conv => whnf) <;> first
     | (show CondP _ _ _; refine cS ?_) | refine zaa (zgt _ _) ?_ | (refine zab (zn3 _ _ _ _ rdA om) ?_; rintro _ Sn ⟨hEn, cn, rfl, hFn⟩) | refine rE fun hml => ?_ | refine rI rdA rf ix ?_ | refine zaf rdA tv ix ?_ | refine And.intro ?_ ?_)
    all_goals first
     | rfl
     | exact hE
     | exact hE.trans (by assumption)
     | (exfalso; omega)
  ·rw [show zgy l l[i] = true from hP, Bool.true_and] at hinv
   unfold zgy at hP
   simp only [Bool.and_eq_true, decide_eq_true_eq] at hP
   obtain ⟨hP1, hP2⟩ := hP
   repeat' ((conv => whnf) <;> first
    | rw [zad (by omega)] | (show CondP _ _ _; refine cS ?_) | refine zaa (zgt _ _) ?_ | (refine zab (zn3 _ _ _ _ rdA om) ?_; rintro _ Sn ⟨hEn, cn, rfl, hFn⟩) | refine rE fun hml => ?_ | refine rI rdA rf ix ?_ | refine zaf rdA tv ix ?_)
   all_goals first
    | (exfalso; omega)
    | (refine ⟨⟨(i + 1, _), by dsimp only; omega, hE.trans (by assumption), hinv⟩, ?_, rfl, by dsimp only; omega⟩; (conv => whnf); repeat' (first | exact trivial | exact rfl | (show _ = _; congr 3; dsimp only; omega) | apply And.intro))
    | (exfalso; simp_all; done)
    | (exfalso; simp_all; omega)
 ·rw [zak (by omega), List.all_nil] at hinv
  rw [show zdm l = decide (l.length ≤ 20) from by unfold zdm; rw [← hinv, Bool.and_true]]
  repeat' ((conv => whnf) <;> first
   | (show CondP _ _ _; refine cS ?_) | refine rE fun hml => ?_ | refine And.intro ?_ ?_)
  all_goals first
   | rfl
   | exact hE
   | (exfalso; omega)
   | (rw [decide_eq_true (by omega)] <;> rfl)
   | exact congrArg (fun z => AV.v (V.s (C.bool z))) (decide_eq_decide.2 (by omega))
theorem zxp (l : List GRule) (c : C) (S : Store) (h : Rd S [.sl 8 (l.map GRule.d)] [c]) (hz : l.length ≤ 4194304) : EvA Tryz.prog 64 [.s c] S (fun r S' => r = .v (.s (.bool (zdm l))) ∧ S' = S) := by
 refine EvA.drop rfl ?_
 refine zac tok Tryz.func64 (by kernel_rfl) rfl ?_
 repeat' ((conv => whnf) <;> first
  | refine cD (fun _ => ?_) fun _ => ?_ | refine rE fun hml => ?_ | refine And.intro ?_ ?_)
 all_goals try first
  | (rw [show zdm l = false from by unfold zdm; rw [decide_eq_false (by omega), Bool.false_and]]; rfl)
  | exact Ext.refl _
 refine zag {p : Nat × Store // p.1 ≤ l.length ∧ Ext S p.2 ∧ (l.drop p.1).all (fun x => zgy l x) = l.all fun x => zgy l x} [2, 4, 10, 11, 12, 13, 14, 15, 16, 17, 18, 19, 20, 21, 22, 23, 24, 25] (fun zb => [(10, .v (.s (.int .i64 zb.1.1)))]) (fun zb => zb.1.2) (fun zb => l.length - zb.1.1) ⟨(0, S), Nat.zero_le _, Ext.refl _, rfl⟩ okL rfl ?_
 rintro ⟨⟨i, Si⟩, hi, hE, hinv⟩; dsimp only
 replace hi : i ≤ l.length := hi
 replace hE : Ext S Si := hE
 replace hinv : (l.drop i).all (fun x => zgy l x) = l.all fun x => zgy l x := hinv
 by_cases hlt : i < l.length
 ·rw [zam hlt, List.all_cons] at hinv
  rcases hP : zgy l (l[((i : Nat) : Int).toNat]'hlt) with _ | _
  ·rw [show zgy l l[i] = false from hP, Bool.false_and] at hinv
   rw [show zdm l = false from by unfold zdm; rw [← hinv, Bool.and_false]]
   unfold zgy at hP
   rcases hR : zbt (l[((i : Nat) : Int).toNat]'hlt) with _ | _
   ·clear hP
    repeat' ((conv => whnf) <;> first
     | (show CondP _ _ _; refine cS ?_) | refine cT ?_ | refine zaa (zez _ _) ?_ | refine rI rdA rf ix ?_ | refine zaf rdA tv ix ?_ | refine And.intro ?_ ?_)
    all_goals first
     | rfl
     | exact hE
     | exact hE.trans (by assumption)
     | (exfalso; omega)
   ·rw [hR, Bool.true_and] at hP
    have hP := of_decide_eq_false hP
    repeat' ((conv => whnf) <;> first
     | (show CondP _ _ _; refine cS ?_) | (refine zab (zjo _ _ _ _ rdA om) ?_; rintro _ Sn ⟨hEn, cn, rfl, hFn⟩) | refine zaa (zez _ _) ?_ | refine rE fun hml => ?_ | refine rI rdA rf ix ?_ | refine zaf rdA tv ix ?_ | refine And.intro ?_ ?_)
    all_goals first
     | rfl
     | exact hE
     | exact hE.trans (by assumption)
     | (exfalso; omega)
  ·rw [show zgy l l[i] = true from hP, Bool.true_and] at hinv
   unfold zgy at hP
   simp only [Bool.and_eq_true, decide_eq_true_eq] at hP
   obtain ⟨hP1, hP2⟩ := hP
   repeat' ((conv => whnf) <;> first
    | rw [zad (by omega)] | (show CondP _ _ _; refine cS ?_) | (refine zab (zjo _ _ _ _ rdA om) ?_; rintro _ Sn ⟨hEn, cn, rfl, hFn⟩) | refine zaa (zez _ _) ?_ | refine rE fun hml => ?_ | refine rI rdA rf ix ?_ | refine zaf rdA tv ix ?_)
   all_goals first
    | (exfalso; omega)
    | (refine ⟨⟨(i + 1, _), by dsimp only; omega, hE.trans (by assumption), hinv⟩, ?_, rfl, by dsimp only; omega⟩; (conv => whnf); repeat' (first | exact trivial | exact rfl | (show _ = _; congr 3; dsimp only; omega) | apply And.intro))
    | (exfalso; simp_all; done)
    | (exfalso; simp_all; omega)
 ·rw [zak (by omega), List.all_nil] at hinv
  rw [show zdm l = decide (l.length ≤ 20) from by unfold zdm; rw [← hinv, Bool.and_true]]
  repeat' ((conv => whnf) <;> first
   | (show CondP _ _ _; refine cS ?_) | refine And.intro ?_ ?_)
  all_goals first
   | rfl
   | exact hE
   | (exfalso; omega)
   | (rw [decide_eq_true (by omega)] <;> rfl)
   | exact congrArg (fun z => AV.v (V.s (C.bool z))) (decide_eq_decide.2 (by omega))
def bitI (b : Bool) : Int := if b then 1 else 0
theorem z4m (b : Bool) (S : Store) : EvA Tryz.prog 272 [.s (.bool b)] S (fun r S' => r = .v (.s (.int .i64 (bitI b))) ∧ S' = S) := by
 cases b
 ·refine zac tok Tryz.func272 (by kernel_rfl) rfl ?_
  repeat' ((conv => whnf) <;> first
   | refine cF ?_ | refine And.intro ?_ ?_)
  all_goals rfl
 ·refine zac tok Tryz.func272 (by kernel_rfl) rfl ?_
  repeat' ((conv => whnf) <;> first
   | refine cT ?_ | refine And.intro ?_ ?_)
  all_goals rfl
def zbp (g : GGrant) : List Int := [g.Pattern.Owner, g.Pattern.Sub, g.Kind, g.From, g.Until, bitI g.Click]
def zch (f : GFlow) : List Int := [f.From, f.To]
def zcy (r : GRule) : List Int := [r.Prio, r.Pattern.Owner, r.Pattern.Sub, r.Sort', r.Action, r.To.Owner, r.To.Sub]
def zd2 (x : GOp) : List Int := [x.Kind, x.A, x.B, x.C]
def pk0 (p : GPackage) : List Int := [p.Ext, p.Author, p.Version, (p.Grants.length : Int)]
def pk1 (p : GPackage) : List Int := pk0 p ++ p.Grants.flatMap zbp ++ [(p.Flows.length : Int)]
def pk2 (p : GPackage) : List Int := pk1 p ++ p.Flows.flatMap zch ++ [(p.Rules.length : Int)]
def pk3 (p : GPackage) : List Int := pk2 p ++ p.Rules.flatMap zcy ++ [(p.Ops.length : Int)]
def pk4 (p : GPackage) : List Int := pk3 p ++ p.Ops.flatMap zd2
def zc8 (p : GPackage) : List Int := if zal p then pk4 p else []
theorem zap {α : Type} {f : α → List Int} {k : Nat} (hf : ∀ x, (f x).length = k) : ∀ l : List α, (l.flatMap f).length = k * l.length
 | [] => rfl
 | x :: l => by rw [List.flatMap_cons, List.length_append, hf, zap hf l, List.length_cons, Nat.mul_succ]; omega
theorem zh3 {α : Type} {f : α → List Int} {l : List α} {i : Nat} (h : i < l.length) : (l.take (i + 1)).flatMap f = (l.take i).flatMap f ++ f l[i] := by
 rw [List.take_succ_eq_append_getElem h, List.flatMap_append]; simp
theorem zoe {p : GPackage} (h : zal p = true) : p.Grants.length ≤ 6 ∧ p.Flows.length ≤ 6 ∧ p.Rules.length ≤ 6 ∧ p.Ops.length ≤ 16 := by
 unfold zal zhu zcv at h
 simp only [Bool.and_eq_true, decide_eq_true_eq] at h
 omega
theorem zsf (p : GPackage) : (zc8 p).length ≤ 200 := by
 unfold zc8
 split
 ·rename_i h
  obtain ⟨h1, h2, h3, h4⟩ := zoe h
  simp only [pk4, pk3, pk2, pk1, pk0, List.length_append, List.length_cons, List.length_nil]
  rw [zap (f := zbp) (k := 6) (fun _ => rfl), zap (f := zch) (k := 2) (fun _ => rfl), zap (f := zcy) (k := 7) (fun _ => rfl), zap (f := zd2) (k := 4) (fun _ => rfl)]
  omega
 ·exact Nat.zero_le _
set_option maxHeartbeats 4000000 in
theorem zia (p : GPackage) (cs : List C) (S : Store) (h : Rd S p.d cs) : EvA Tryz.prog 226 [.agg cs] S (fun r S' => Ext S S' ∧ ∃ d, r = .v (.s d) ∧ Fr S.length S' [.sl 1 ((zc8 p).map dInt)] [d]) := by
 obtain ⟨_, _, _, _, rfl, _, _, _, _⟩ := GPackage.inv h
 rcases hk : zal p with _ | _
 ·rw [show zc8 p = [] from by unfold zc8; rw [hk]; rfl]
  refine zac tok Tryz.func226 (by kernel_rfl) rfl ?_
  repeat' ((conv => whnf) <;> first
   | (show CondP _ _ _; refine cS ?_) | refine zaa (zdt _ _ _ rdcA) ?_ | refine And.intro ?_ ?_)
  all_goals first
   | exact Ext.push _ _
   | exact ⟨_, rfl, zba⟩
 rw [show zc8 p = pk4 p from by unfold zc8; rw [hk]; rfl]
 obtain ⟨h1, h2, h3, h4⟩ := zoe hk
 have hp4 : pk4 p = pk3 p ++ p.Ops.flatMap zd2 := rfl
 have hp3 : pk3 p = pk2 p ++ p.Rules.flatMap zcy ++ [(p.Ops.length : Int)] := rfl
 have hp2 : pk2 p = pk1 p ++ p.Flows.flatMap zch ++ [(p.Rules.length : Int)] := rfl
 have hp1 : pk1 p = pk0 p ++ p.Grants.flatMap zbp ++ [(p.Flows.length : Int)] := rfl
 have hp0 : (pk0 p).length = 4 := rfl
 have f0 : Fr S.length (S ++ [⟨true, 1, (pk0 p).map fun x => zdz (dInt x)⟩]) [.sl 1 ((pk0 p ++ ([] : List GGrant).flatMap zbp).map dInt)] [.sl S.length 0 4 4] := zjq (f := dInt) (pk0 p) (fun _ => trivial) (by rw [hp0]; decide)
 have E0 : Ext S (S ++ [⟨true, 1, (pk0 p).map fun x => zdz (dInt x)⟩]) := Ext.push _ _
 refine zac tok Tryz.func226 (by kernel_rfl) rfl ?_
 repeat' ((conv => whnf) <;> first
  | (show CondP _ _ _; refine cS ?_) | refine zaa (zdt _ _ _ rdcA) ?_ | refine rE fun hml => ?_)
 (conv => whnf)
 refine zag {q : Nat × Store × C // q.1 ≤ p.Grants.length ∧ Ext S q.2.1 ∧ Fr S.length q.2.1 [.sl 1 ((pk0 p ++ (p.Grants.take q.1).flatMap zbp).map dInt)] [q.2.2]} [3, 4, 5, 6, 25, 26, 27, 28, 29, 30, 31, 32, 33, 34, 35, 36, 37, 38, 39, 40, 41, 42, 43, 44, 45, 46, 47, 48, 49, 50, 51, 52, 53, 54] (fun zb => [(4, .v (.s (.int .i64 zb.1.1))), (3, .v (.s zb.1.2.2))]) (fun zb => zb.1.2.1) (fun zb => p.Grants.length - zb.1.1) ⟨(0, _, _), Nat.zero_le _, E0, f0⟩ okL rfl ?_
 clear f0 E0
 rintro ⟨⟨i, Si, ci⟩, hi, hE, hF⟩; dsimp only
 replace hi : i ≤ p.Grants.length := hi
 replace hE : Ext S Si := hE
 replace hF : Fr S.length Si [.sl 1 ((pk0 p ++ (p.Grants.take i).flatMap zbp).map dInt)] [ci] := hF
 have hln : (pk0 p ++ (p.Grants.take i).flatMap zbp).length ≤ 200 := by
  simp only [pk3, pk2, pk1, pk0, List.length_append, List.length_cons, List.length_nil]
  first
   | rw [zap (f := zbp) (k := 6) (fun _ => rfl), zap (f := zch) (k := 2) (fun _ => rfl), zap (f := zcy) (k := 7) (fun _ => rfl), zap (f := zd2) (k := 4) (fun _ => rfl)]
   | rw [zap (f := zbp) (k := 6) (fun _ => rfl), zap (f := zch) (k := 2) (fun _ => rfl), zap (f := zcy) (k := 7) (fun _ => rfl)]
   | rw [zap (f := zbp) (k := 6) (fun _ => rfl), zap (f := zch) (k := 2) (fun _ => rfl)]
   | rw [zap (f := zbp) (k := 6) (fun _ => rfl)]
  rw [List.length_take]
  omega
 by_cases hlt : i < p.Grants.length
 ·have hst : pk0 p ++ (p.Grants.take (i + 1)).flatMap zbp = (pk0 p ++ (p.Grants.take i).flatMap zbp) ++ zbp (p.Grants[((i : Nat) : Int).toNat]'hlt) := by rw [zh3 hlt, List.append_assoc]; rfl
  rcases hck : (p.Grants[((i : Nat) : Int).toNat]'hlt).Click with _ | _
  ·have hgi : zbp (p.Grants[((i : Nat) : Int).toNat]'hlt) = [(p.Grants[((i : Nat) : Int).toNat]'hlt).Pattern.Owner, (p.Grants[((i : Nat) : Int).toNat]'hlt).Pattern.Sub, (p.Grants[((i : Nat) : Int).toNat]'hlt).Kind, (p.Grants[((i : Nat) : Int).toNat]'hlt).From, (p.Grants[((i : Nat) : Int).toNat]'hlt).Until, 0] := by unfold zbp bitI; rw [hck]; rfl
   rw [hgi] at hst
   have hbt : bitI (p.Grants[((i : Nat) : Int).toNat]'hlt).Click = 0 := by rw [hck]; rfl
   repeat' ((conv => whnf) <;> first
    | rw [zad (by omega)] | (show CondP _ _ _; refine cS ?_) | refine rE fun hml => ?_ | refine rI rdA rf ix ?_ | refine zaf rdA tv ix ?_ | (refine zas (f := dInt) (S0 := S) (l := pk0 p ++ (p.Grants.take i).flatMap zbp) (m := [(p.Grants[((i : Nat) : Int).toNat]'hlt).Pattern.Owner, (p.Grants[((i : Nat) : Int).toNat]'hlt).Pattern.Sub, (p.Grants[((i : Nat) : Int).toNat]'hlt).Kind, (p.Grants[((i : Nat) : Int).toNat]'hlt).From, (p.Grants[((i : Nat) : Int).toNat]'hlt).Until, 0]) (fun _ => trivial) hE hF (by rfl) rf (by dsimp only [T3]; first | omega | (simp only [List.length_cons, List.length_nil]; omega)) (by rw [zan]; first | omega | (simp only [List.length_cons, List.length_nil]; omega)) ?_; intro cN SN hEN hFN hlN))
   all_goals first
    | (exfalso; omega)
    | (refine ⟨⟨(i + 1, _, _), by dsimp only; omega, by assumption, by rw [hst]; assumption⟩, ?_, rfl, by dsimp only; omega⟩; (conv => whnf); repeat' (first | exact trivial | exact rfl | (show _ = _; congr 3; dsimp only; omega) | apply And.intro))
  ·have hgi : zbp (p.Grants[((i : Nat) : Int).toNat]'hlt) = [(p.Grants[((i : Nat) : Int).toNat]'hlt).Pattern.Owner, (p.Grants[((i : Nat) : Int).toNat]'hlt).Pattern.Sub, (p.Grants[((i : Nat) : Int).toNat]'hlt).Kind, (p.Grants[((i : Nat) : Int).toNat]'hlt).From, (p.Grants[((i : Nat) : Int).toNat]'hlt).Until, 1] := by unfold zbp bitI; rw [hck]; rfl
   rw [hgi] at hst
   have hbt : bitI (p.Grants[((i : Nat) : Int).toNat]'hlt).Click = 1 := by rw [hck]; rfl
   repeat' ((conv => whnf) <;> first
    | rw [zad (by omega)] | (show CondP _ _ _; refine cS ?_) | refine rE fun hml => ?_ | refine rI rdA rf ix ?_ | refine zaf rdA tv ix ?_ | (refine zas (f := dInt) (S0 := S) (l := pk0 p ++ (p.Grants.take i).flatMap zbp) (m := [(p.Grants[((i : Nat) : Int).toNat]'hlt).Pattern.Owner, (p.Grants[((i : Nat) : Int).toNat]'hlt).Pattern.Sub, (p.Grants[((i : Nat) : Int).toNat]'hlt).Kind, (p.Grants[((i : Nat) : Int).toNat]'hlt).From, (p.Grants[((i : Nat) : Int).toNat]'hlt).Until, 1]) (fun _ => trivial) hE hF (by rfl) rf (by dsimp only [T3]; first | omega | (simp only [List.length_cons, List.length_nil]; omega)) (by rw [zan]; first | omega | (simp only [List.length_cons, List.length_nil]; omega)) ?_; intro cN SN hEN hFN hlN))
   all_goals first
    | (exfalso; omega)
    | (refine ⟨⟨(i + 1, _, _), by dsimp only; omega, by assumption, by rw [hst]; assumption⟩, ?_, rfl, by dsimp only; omega⟩; (conv => whnf); repeat' (first | exact trivial | exact rfl | (show _ = _; congr 3; dsimp only; omega) | apply And.intro))
 rw [List.take_of_length_le (by omega)] at hF
 rw [List.take_of_length_le (by omega)] at hln
 repeat' ((conv => whnf) <;> first
  | (show CondP _ _ _; refine cS ?_) | refine rE fun hml => ?_)
 all_goals try (exfalso; omega)
 (conv => whnf)
 refine zas (f := dInt) (S0 := S) (l := pk0 p ++ p.Grants.flatMap zbp) (m := [(p.Flows.length : Int)]) (fun _ => trivial) hE hF (by rfl) (by intro _; rfl) (by dsimp only [T3]; simp only [List.length_cons, List.length_nil]; omega) (by rw [zan]; simp only [List.length_cons, List.length_nil]; omega) ?_; intro c1 S1 E0 f0 l1
 replace f0 : Fr S.length S1 [.sl 1 ((pk1 p ++ ([] : List GFlow).flatMap zch).map dInt)] [c1] := by rw [List.flatMap_nil, List.append_nil, hp1]; exact f0
 clear hF hE hln hlt hi
 skip
 (conv => whnf)
 refine zag {q : Nat × Store × C // q.1 ≤ p.Flows.length ∧ Ext S q.2.1 ∧ Fr S.length q.2.1 [.sl 1 ((pk1 p ++ (p.Flows.take q.1).flatMap zch).map dInt)] [q.2.2]} [3, 7, 61, 62, 63, 64, 65, 66, 67, 68, 69, 70, 71, 72, 73, 74, 75, 76, 77, 78, 79, 80, 81, 82] (fun zb => [(7, .v (.s (.int .i64 zb.1.1))), (3, .v (.s zb.1.2.2))]) (fun zb => zb.1.2.1) (fun zb => p.Flows.length - zb.1.1) ⟨(0, _, _), Nat.zero_le _, E0, f0⟩ okL rfl ?_
 clear f0 E0
 rintro ⟨⟨i, Si, ci⟩, hi, hE, hF⟩; dsimp only
 replace hi : i ≤ p.Flows.length := hi
 replace hE : Ext S Si := hE
 replace hF : Fr S.length Si [.sl 1 ((pk1 p ++ (p.Flows.take i).flatMap zch).map dInt)] [ci] := hF
 have hln : (pk1 p ++ (p.Flows.take i).flatMap zch).length ≤ 200 := by
  simp only [pk3, pk2, pk1, pk0, List.length_append, List.length_cons, List.length_nil]
  first
   | rw [zap (f := zbp) (k := 6) (fun _ => rfl), zap (f := zch) (k := 2) (fun _ => rfl), zap (f := zcy) (k := 7) (fun _ => rfl), zap (f := zd2) (k := 4) (fun _ => rfl)]
   | rw [zap (f := zbp) (k := 6) (fun _ => rfl), zap (f := zch) (k := 2) (fun _ => rfl), zap (f := zcy) (k := 7) (fun _ => rfl)]
   | rw [zap (f := zbp) (k := 6) (fun _ => rfl), zap (f := zch) (k := 2) (fun _ => rfl)]
   | rw [zap (f := zbp) (k := 6) (fun _ => rfl)]
  rw [List.length_take]
  omega
 by_cases hlt : i < p.Flows.length
 ·have hst : pk1 p ++ (p.Flows.take (i + 1)).flatMap zch = (pk1 p ++ (p.Flows.take i).flatMap zch) ++ zch (p.Flows[((i : Nat) : Int).toNat]'hlt) := by rw [zh3 hlt, List.append_assoc]; rfl
  have hfk : (zch (p.Flows[((i : Nat) : Int).toNat]'hlt)).length = 2 := rfl
  repeat' ((conv => whnf) <;> first
   | rw [zad (by omega)] | (show CondP _ _ _; refine cS ?_) | refine rE fun hml => ?_ | refine rI rdA rf ix ?_ | refine zaf rdA tv ix ?_ | refine zae 68 (iN 16 0 [14, 15]) (by rfl) (by kernel_rfl) ?_ | (refine zas (f := dInt) (S0 := S) (l := pk1 p ++ (p.Flows.take i).flatMap zch) (m := zch (p.Flows[((i : Nat) : Int).toNat]'hlt)) (fun _ => trivial) hE hF (by rfl) rf (by dsimp only [T3]; first | omega | (simp only [List.length_cons, List.length_nil]; omega)) (by rw [zan]; first | omega | (simp only [List.length_cons, List.length_nil]; omega)) ?_; intro cN SN hEN hFN hlN))
  all_goals first
   | (exfalso; omega)
   | (refine ⟨⟨(i + 1, _, _), by dsimp only; omega, by assumption, by rw [hst]; assumption⟩, ?_, rfl, by dsimp only; omega⟩; (conv => whnf); repeat' (first | exact trivial | exact rfl | (show _ = _; congr 3; dsimp only; omega) | apply And.intro))
 rw [List.take_of_length_le (by omega)] at hF
 rw [List.take_of_length_le (by omega)] at hln
 repeat' ((conv => whnf) <;> first
  | (show CondP _ _ _; refine cS ?_) | refine rE fun hml => ?_)
 all_goals try (exfalso; omega)
 (conv => whnf)
 refine zas (f := dInt) (S0 := S) (l := pk1 p ++ p.Flows.flatMap zch) (m := [(p.Rules.length : Int)]) (fun _ => trivial) hE hF (by rfl) (by intro _; rfl) (by dsimp only [T3]; simp only [List.length_cons, List.length_nil]; omega) (by rw [zan]; simp only [List.length_cons, List.length_nil]; omega) ?_; intro c2 S2 E0 f0 l2
 replace f0 : Fr S.length S2 [.sl 1 ((pk2 p ++ ([] : List GRule).flatMap zcy).map dInt)] [c2] := by rw [List.flatMap_nil, List.append_nil, hp2]; exact f0
 clear hF hE hln hlt hi
 skip
 (conv => whnf)
 refine zag {q : Nat × Store × C // q.1 ≤ p.Rules.length ∧ Ext S q.2.1 ∧ Fr S.length q.2.1 [.sl 1 ((pk2 p ++ (p.Rules.take q.1).flatMap zcy).map dInt)] [q.2.2]} [3, 8, 9, 89, 90, 91, 92, 93, 94, 95, 96, 97, 98, 99, 100, 101, 102, 103, 104, 105, 106, 107, 108, 109, 110, 111, 112, 113, 114, 115, 116, 117, 118, 119, 120, 121] (fun zb => [(8, .v (.s (.int .i64 zb.1.1))), (3, .v (.s zb.1.2.2))]) (fun zb => zb.1.2.1) (fun zb => p.Rules.length - zb.1.1) ⟨(0, _, _), Nat.zero_le _, E0, f0⟩ okL rfl ?_
 clear f0 E0
 rintro ⟨⟨i, Si, ci⟩, hi, hE, hF⟩; dsimp only
 replace hi : i ≤ p.Rules.length := hi
 replace hE : Ext S Si := hE
 replace hF : Fr S.length Si [.sl 1 ((pk2 p ++ (p.Rules.take i).flatMap zcy).map dInt)] [ci] := hF
 have hln : (pk2 p ++ (p.Rules.take i).flatMap zcy).length ≤ 200 := by
  simp only [pk3, pk2, pk1, pk0, List.length_append, List.length_cons, List.length_nil]
  first
   | rw [zap (f := zbp) (k := 6) (fun _ => rfl), zap (f := zch) (k := 2) (fun _ => rfl), zap (f := zcy) (k := 7) (fun _ => rfl), zap (f := zd2) (k := 4) (fun _ => rfl)]
   | rw [zap (f := zbp) (k := 6) (fun _ => rfl), zap (f := zch) (k := 2) (fun _ => rfl), zap (f := zcy) (k := 7) (fun _ => rfl)]
   | rw [zap (f := zbp) (k := 6) (fun _ => rfl), zap (f := zch) (k := 2) (fun _ => rfl)]
   | rw [zap (f := zbp) (k := 6) (fun _ => rfl)]
  rw [List.length_take]
  omega
 by_cases hlt : i < p.Rules.length
 ·have hst : pk2 p ++ (p.Rules.take (i + 1)).flatMap zcy = (pk2 p ++ (p.Rules.take i).flatMap zcy) ++ zcy (p.Rules[((i : Nat) : Int).toNat]'hlt) := by rw [zh3 hlt, List.append_assoc]; rfl
  have hfk : (zcy (p.Rules[((i : Nat) : Int).toNat]'hlt)).length = 7 := rfl
  repeat' ((conv => whnf) <;> first
   | rw [zad (by omega)] | (show CondP _ _ _; refine cS ?_) | refine rE fun hml => ?_ | refine rI rdA rf ix ?_ | refine zaf rdA tv ix ?_ | (refine zas (f := dInt) (S0 := S) (l := pk2 p ++ (p.Rules.take i).flatMap zcy) (m := zcy (p.Rules[((i : Nat) : Int).toNat]'hlt)) (fun _ => trivial) hE hF (by rfl) rf (by dsimp only [T3]; first | omega | (simp only [List.length_cons, List.length_nil]; omega)) (by rw [zan]; first | omega | (simp only [List.length_cons, List.length_nil]; omega)) ?_; intro cN SN hEN hFN hlN))
  all_goals first
   | (exfalso; omega)
   | (refine ⟨⟨(i + 1, _, _), by dsimp only; omega, by assumption, by rw [hst]; assumption⟩, ?_, rfl, by dsimp only; omega⟩; (conv => whnf); repeat' (first | exact trivial | exact rfl | (show _ = _; congr 3; dsimp only; omega) | apply And.intro))
 rw [List.take_of_length_le (by omega)] at hF
 rw [List.take_of_length_le (by omega)] at hln
 repeat' ((conv => whnf) <;> first
  | (show CondP _ _ _; refine cS ?_) | refine rE fun hml => ?_)
 all_goals try (exfalso; omega)
 (conv => whnf)
 refine zas (f := dInt) (S0 := S) (l := pk2 p ++ p.Rules.flatMap zcy) (m := [(p.Ops.length : Int)]) (fun _ => trivial) hE hF (by rfl) (by intro _; rfl) (by dsimp only [T3]; simp only [List.length_cons, List.length_nil]; omega) (by rw [zan]; simp only [List.length_cons, List.length_nil]; omega) ?_; intro c3 S3 E0 f0 l3
 replace f0 : Fr S.length S3 [.sl 1 ((pk3 p ++ ([] : List GOp).flatMap zd2).map dInt)] [c3] := by rw [List.flatMap_nil, List.append_nil, hp3]; exact f0
 clear hF hE hln hlt hi
 skip
 (conv => whnf)
 refine zag {q : Nat × Store × C // q.1 ≤ p.Ops.length ∧ Ext S q.2.1 ∧ Fr S.length q.2.1 [.sl 1 ((pk3 p ++ (p.Ops.take q.1).flatMap zd2).map dInt)] [q.2.2]} [3, 10, 128, 129, 130, 131, 132, 133, 134, 135, 136, 137, 138, 139, 140, 141, 142, 143, 144, 145, 146, 147, 148, 149, 150, 151, 152, 153, 154, 155, 156, 157, 158, 159, 160, 161] (fun zb => [(10, .v (.s (.int .i64 zb.1.1))), (3, .v (.s zb.1.2.2))]) (fun zb => zb.1.2.1) (fun zb => p.Ops.length - zb.1.1) ⟨(0, _, _), Nat.zero_le _, E0, f0⟩ okL rfl ?_
 clear f0 E0
 rintro ⟨⟨i, Si, ci⟩, hi, hE, hF⟩; dsimp only
 replace hi : i ≤ p.Ops.length := hi
 replace hE : Ext S Si := hE
 replace hF : Fr S.length Si [.sl 1 ((pk3 p ++ (p.Ops.take i).flatMap zd2).map dInt)] [ci] := hF
 have hln : (pk3 p ++ (p.Ops.take i).flatMap zd2).length ≤ 200 := by
  simp only [pk3, pk2, pk1, pk0, List.length_append, List.length_cons, List.length_nil]
  first
   | rw [zap (f := zbp) (k := 6) (fun _ => rfl), zap (f := zch) (k := 2) (fun _ => rfl), zap (f := zcy) (k := 7) (fun _ => rfl), zap (f := zd2) (k := 4) (fun _ => rfl)]
   | rw [zap (f := zbp) (k := 6) (fun _ => rfl), zap (f := zch) (k := 2) (fun _ => rfl), zap (f := zcy) (k := 7) (fun _ => rfl)]
   | rw [zap (f := zbp) (k := 6) (fun _ => rfl), zap (f := zch) (k := 2) (fun _ => rfl)]
   | rw [zap (f := zbp) (k := 6) (fun _ => rfl)]
  rw [List.length_take]
  omega
 by_cases hlt : i < p.Ops.length
 ·have hst : pk3 p ++ (p.Ops.take (i + 1)).flatMap zd2 = (pk3 p ++ (p.Ops.take i).flatMap zd2) ++ zd2 (p.Ops[((i : Nat) : Int).toNat]'hlt) := by rw [zh3 hlt, List.append_assoc]; rfl
  have hfk : (zd2 (p.Ops[((i : Nat) : Int).toNat]'hlt)).length = 4 := rfl
  repeat' ((conv => whnf) <;> first
   | rw [zad (by omega)] | (show CondP _ _ _; refine cS ?_) | refine rE fun hml => ?_ | refine rI rdA rf ix ?_ | refine zaf rdA tv ix ?_ | refine zae 135 (iN 28 0 [26, 27]) (by rfl) (by kernel_rfl) ?_ | (refine zas (f := dInt) (S0 := S) (l := pk3 p ++ (p.Ops.take i).flatMap zd2) (m := zd2 (p.Ops[((i : Nat) : Int).toNat]'hlt)) (fun _ => trivial) hE hF (by rfl) rf (by dsimp only [T3]; first | omega | (simp only [List.length_cons, List.length_nil]; omega)) (by rw [zan]; first | omega | (simp only [List.length_cons, List.length_nil]; omega)) ?_; intro cN SN hEN hFN hlN))
  all_goals first
   | (exfalso; omega)
   | (refine ⟨⟨(i + 1, _, _), by dsimp only; omega, by assumption, by rw [hst]; assumption⟩, ?_, rfl, by dsimp only; omega⟩; (conv => whnf); repeat' (first | exact trivial | exact rfl | (show _ = _; congr 3; dsimp only; omega) | apply And.intro))
 rw [List.take_of_length_le (by omega)] at hF
 rw [List.take_of_length_le (by omega)] at hln
 repeat' ((conv => whnf) <;> first
  | (show CondP _ _ _; refine cS ?_) | refine rE fun hml => ?_ | refine And.intro ?_ ?_)
 all_goals first
  | exact hE
  | (exfalso; omega)
  | (rw [hp4]; exact ⟨_, rfl, hF⟩)
set_option maxHeartbeats 4000000 in
theorem zii (p : GPackage) (cs : List C) (S : Store) (h : Rd S p.d cs) : EvA Tryz.prog 215 [.agg cs] S (fun r S' => Ext S S' ∧ ∃ d, r = .v (.s d) ∧ Fr S.length S' [.sl 1 ((zc8 p).map dInt)] [d]) := by
 obtain ⟨_, _, _, _, rfl, _, _, _, _⟩ := GPackage.inv h
 rcases hk : zal p with _ | _
 ·rw [show zc8 p = [] from by unfold zc8; rw [hk]; rfl]
  refine zac tok Tryz.func215 (by kernel_rfl) rfl ?_
  repeat' ((conv => whnf) <;> first
   | (show CondP _ _ _; refine cS ?_) | refine zaa (zcb _ _ _ rdcA) ?_ | refine And.intro ?_ ?_)
  all_goals first
   | exact Ext.push _ _
   | exact ⟨_, rfl, zba⟩
 rw [show zc8 p = pk4 p from by unfold zc8; rw [hk]; rfl]
 obtain ⟨h1, h2, h3, h4⟩ := zoe hk
 have hp4 : pk4 p = pk3 p ++ p.Ops.flatMap zd2 := rfl
 have hp3 : pk3 p = pk2 p ++ p.Rules.flatMap zcy ++ [(p.Ops.length : Int)] := rfl
 have hp2 : pk2 p = pk1 p ++ p.Flows.flatMap zch ++ [(p.Rules.length : Int)] := rfl
 have hp1 : pk1 p = pk0 p ++ p.Grants.flatMap zbp ++ [(p.Flows.length : Int)] := rfl
 have hp0 : (pk0 p).length = 4 := rfl
 have f0 : Fr S.length (S ++ [⟨true, 1, (pk0 p).map fun x => zdz (dInt x)⟩]) [.sl 1 ((pk0 p ++ ([] : List GGrant).flatMap zbp).map dInt)] [.sl S.length 0 4 4] := zjq (f := dInt) (pk0 p) (fun _ => trivial) (by rw [hp0]; decide)
 have E0 : Ext S (S ++ [⟨true, 1, (pk0 p).map fun x => zdz (dInt x)⟩]) := Ext.push _ _
 refine zac tok Tryz.func215 (by kernel_rfl) rfl ?_
 repeat' ((conv => whnf) <;> first
  | (show CondP _ _ _; refine cS ?_) | refine zaa (zcb _ _ _ rdcA) ?_ | refine rE fun hml => ?_)
 (conv => whnf)
 refine zag {q : Nat × Store × C // q.1 ≤ p.Grants.length ∧ Ext S q.2.1 ∧ Fr S.length q.2.1 [.sl 1 ((pk0 p ++ (p.Grants.take q.1).flatMap zbp).map dInt)] [q.2.2]} [3, 5, 29, 30, 31, 32, 33, 34, 35, 36, 37, 38, 39, 40, 41, 42, 43, 44, 45, 46, 47, 48, 49, 50, 51] (fun zb => [(29, .v (.s (.int .i64 zb.1.1))), (3, .v (.s zb.1.2.2))]) (fun zb => zb.1.2.1) (fun zb => p.Grants.length - zb.1.1) ⟨(0, _, _), Nat.zero_le _, E0, f0⟩ okL rfl ?_
 clear f0 E0
 rintro ⟨⟨i, Si, ci⟩, hi, hE, hF⟩; dsimp only
 replace hi : i ≤ p.Grants.length := hi
 replace hE : Ext S Si := hE
 replace hF : Fr S.length Si [.sl 1 ((pk0 p ++ (p.Grants.take i).flatMap zbp).map dInt)] [ci] := hF
 have hln : (pk0 p ++ (p.Grants.take i).flatMap zbp).length ≤ 200 := by
  simp only [pk3, pk2, pk1, pk0, List.length_append, List.length_cons, List.length_nil]
  first
   | rw [zap (f := zbp) (k := 6) (fun _ => rfl), zap (f := zch) (k := 2) (fun _ => rfl), zap (f := zcy) (k := 7) (fun _ => rfl), zap (f := zd2) (k := 4) (fun _ => rfl)]
   | rw [zap (f := zbp) (k := 6) (fun _ => rfl), zap (f := zch) (k := 2) (fun _ => rfl), zap (f := zcy) (k := 7) (fun _ => rfl)]
   | rw [zap (f := zbp) (k := 6) (fun _ => rfl), zap (f := zch) (k := 2) (fun _ => rfl)]
   | rw [zap (f := zbp) (k := 6) (fun _ => rfl)]
  rw [List.length_take]
  omega
 by_cases hlt : i < p.Grants.length
 ·have hst : pk0 p ++ (p.Grants.take (i + 1)).flatMap zbp = (pk0 p ++ (p.Grants.take i).flatMap zbp) ++ zbp (p.Grants[((i : Nat) : Int).toNat]'hlt) := by rw [zh3 hlt, List.append_assoc]; rfl
  rcases hck : (p.Grants[((i : Nat) : Int).toNat]'hlt).Click with _ | _
  ·have hgi : zbp (p.Grants[((i : Nat) : Int).toNat]'hlt) = [(p.Grants[((i : Nat) : Int).toNat]'hlt).Pattern.Owner, (p.Grants[((i : Nat) : Int).toNat]'hlt).Pattern.Sub, (p.Grants[((i : Nat) : Int).toNat]'hlt).Kind, (p.Grants[((i : Nat) : Int).toNat]'hlt).From, (p.Grants[((i : Nat) : Int).toNat]'hlt).Until, 0] := by unfold zbp bitI; rw [hck]; rfl
   rw [hgi] at hst
   have hbt : bitI (p.Grants[((i : Nat) : Int).toNat]'hlt).Click = 0 := by rw [hck]; rfl
   repeat' ((conv => whnf) <;> first
    | rw [zad (by omega)] | (show CondP _ _ _; refine cS ?_) | refine zaa (z4m _ _) ?_ | refine rI rdA rf ix ?_ | refine zaf rdA tv ix ?_ | refine zae 33 [.fl 0, .fl 1, .fl 2, .fl 3, .fl 4, .fl 5, .fl 6, .fl 7, .fl 8, .fl 9, .fl 10, .fl 11, .fl 12, .fl 13, .fl 14, .st 15 [0, 1, 2, 3, 4, 5, 6, 7, 8, 9, 10, 11, 12], .fl 16, .st 17 [], .st 18 []] (by rfl) (by kernel_rfl) ?_ | rw [hbt] | (refine zas (f := dInt) (S0 := S) (l := pk0 p ++ (p.Grants.take i).flatMap zbp) (m := [(p.Grants[((i : Nat) : Int).toNat]'hlt).Pattern.Owner, (p.Grants[((i : Nat) : Int).toNat]'hlt).Pattern.Sub, (p.Grants[((i : Nat) : Int).toNat]'hlt).Kind, (p.Grants[((i : Nat) : Int).toNat]'hlt).From, (p.Grants[((i : Nat) : Int).toNat]'hlt).Until, 0]) (fun _ => trivial) hE hF (by rfl) rf (by dsimp only [T3]; first | omega | (simp only [List.length_cons, List.length_nil]; omega)) (by rw [zan]; first | omega | (simp only [List.length_cons, List.length_nil]; omega)) ?_; intro cN SN hEN hFN hlN) | refine And.intro ?_ ?_)
   all_goals first
    | (exfalso; omega)
    | (refine ⟨⟨(i + 1, _, _), by dsimp only; omega, by assumption, by rw [hst]; assumption⟩, ?_, rfl, by dsimp only; omega⟩; (conv => whnf); repeat' (first | exact trivial | exact rfl | (show _ = _; congr 3; dsimp only; omega) | apply And.intro))
  ·have hgi : zbp (p.Grants[((i : Nat) : Int).toNat]'hlt) = [(p.Grants[((i : Nat) : Int).toNat]'hlt).Pattern.Owner, (p.Grants[((i : Nat) : Int).toNat]'hlt).Pattern.Sub, (p.Grants[((i : Nat) : Int).toNat]'hlt).Kind, (p.Grants[((i : Nat) : Int).toNat]'hlt).From, (p.Grants[((i : Nat) : Int).toNat]'hlt).Until, 1] := by unfold zbp bitI; rw [hck]; rfl
   rw [hgi] at hst
   have hbt : bitI (p.Grants[((i : Nat) : Int).toNat]'hlt).Click = 1 := by rw [hck]; rfl
   repeat' ((conv => whnf) <;> first
    | rw [zad (by omega)] | (show CondP _ _ _; refine cS ?_) | refine zaa (z4m _ _) ?_ | refine rI rdA rf ix ?_ | refine zaf rdA tv ix ?_ | refine zae 33 [.fl 0, .fl 1, .fl 2, .fl 3, .fl 4, .fl 5, .fl 6, .fl 7, .fl 8, .fl 9, .fl 10, .fl 11, .fl 12, .fl 13, .fl 14, .st 15 [0, 1, 2, 3, 4, 5, 6, 7, 8, 9, 10, 11, 12], .fl 16, .st 17 [], .st 18 []] (by rfl) (by kernel_rfl) ?_ | rw [hbt] | (refine zas (f := dInt) (S0 := S) (l := pk0 p ++ (p.Grants.take i).flatMap zbp) (m := [(p.Grants[((i : Nat) : Int).toNat]'hlt).Pattern.Owner, (p.Grants[((i : Nat) : Int).toNat]'hlt).Pattern.Sub, (p.Grants[((i : Nat) : Int).toNat]'hlt).Kind, (p.Grants[((i : Nat) : Int).toNat]'hlt).From, (p.Grants[((i : Nat) : Int).toNat]'hlt).Until, 1]) (fun _ => trivial) hE hF (by rfl) rf (by dsimp only [T3]; first | omega | (simp only [List.length_cons, List.length_nil]; omega)) (by rw [zan]; first | omega | (simp only [List.length_cons, List.length_nil]; omega)) ?_; intro cN SN hEN hFN hlN) | refine And.intro ?_ ?_)
   all_goals first
    | (exfalso; omega)
    | (refine ⟨⟨(i + 1, _, _), by dsimp only; omega, by assumption, by rw [hst]; assumption⟩, ?_, rfl, by dsimp only; omega⟩; (conv => whnf); repeat' (first | exact trivial | exact rfl | (show _ = _; congr 3; dsimp only; omega) | apply And.intro))
 rw [List.take_of_length_le (by omega)] at hF
 rw [List.take_of_length_le (by omega)] at hln
 repeat' ((conv => whnf) <;> first
  | (show CondP _ _ _; refine cS ?_) | refine rE fun hml => ?_)
 all_goals try (exfalso; omega)
 (conv => whnf)
 refine zas (f := dInt) (S0 := S) (l := pk0 p ++ p.Grants.flatMap zbp) (m := [(p.Flows.length : Int)]) (fun _ => trivial) hE hF (by rfl) (by intro _; rfl) (by dsimp only [T3]; simp only [List.length_cons, List.length_nil]; omega) (by rw [zan]; simp only [List.length_cons, List.length_nil]; omega) ?_; intro c1 S1 E0 f0 l1
 replace f0 : Fr S.length S1 [.sl 1 ((pk1 p ++ ([] : List GFlow).flatMap zch).map dInt)] [c1] := by rw [List.flatMap_nil, List.append_nil, hp1]; exact f0
 clear hF hE hln hlt hi
 repeat' ((conv => whnf) <;> first
  | refine rE fun hml => ?_)
 (conv => whnf)
 refine zag {q : Nat × Store × C // q.1 ≤ p.Flows.length ∧ Ext S q.2.1 ∧ Fr S.length q.2.1 [.sl 1 ((pk1 p ++ (p.Flows.take q.1).flatMap zch).map dInt)] [q.2.2]} [3, 7, 61, 62, 63, 64, 65, 66, 67, 68, 69, 70, 71, 72] (fun zb => [(61, .v (.s (.int .i64 zb.1.1))), (3, .v (.s zb.1.2.2))]) (fun zb => zb.1.2.1) (fun zb => p.Flows.length - zb.1.1) ⟨(0, _, _), Nat.zero_le _, E0, f0⟩ okL rfl ?_
 clear f0 E0
 rintro ⟨⟨i, Si, ci⟩, hi, hE, hF⟩; dsimp only
 replace hi : i ≤ p.Flows.length := hi
 replace hE : Ext S Si := hE
 replace hF : Fr S.length Si [.sl 1 ((pk1 p ++ (p.Flows.take i).flatMap zch).map dInt)] [ci] := hF
 have hln : (pk1 p ++ (p.Flows.take i).flatMap zch).length ≤ 200 := by
  simp only [pk3, pk2, pk1, pk0, List.length_append, List.length_cons, List.length_nil]
  first
   | rw [zap (f := zbp) (k := 6) (fun _ => rfl), zap (f := zch) (k := 2) (fun _ => rfl), zap (f := zcy) (k := 7) (fun _ => rfl), zap (f := zd2) (k := 4) (fun _ => rfl)]
   | rw [zap (f := zbp) (k := 6) (fun _ => rfl), zap (f := zch) (k := 2) (fun _ => rfl), zap (f := zcy) (k := 7) (fun _ => rfl)]
   | rw [zap (f := zbp) (k := 6) (fun _ => rfl), zap (f := zch) (k := 2) (fun _ => rfl)]
   | rw [zap (f := zbp) (k := 6) (fun _ => rfl)]
  rw [List.length_take]
  omega
 by_cases hlt : i < p.Flows.length
 ·have hst : pk1 p ++ (p.Flows.take (i + 1)).flatMap zch = (pk1 p ++ (p.Flows.take i).flatMap zch) ++ zch (p.Flows[((i : Nat) : Int).toNat]'hlt) := by rw [zh3 hlt, List.append_assoc]; rfl
  have hfk : (zch (p.Flows[((i : Nat) : Int).toNat]'hlt)).length = 2 := rfl
  repeat' ((conv => whnf) <;> first
   | rw [zad (by omega)] | (show CondP _ _ _; refine cS ?_) | refine rI rdA rf ix ?_ | refine zaf rdA tv ix ?_ | (refine zas (f := dInt) (S0 := S) (l := pk1 p ++ (p.Flows.take i).flatMap zch) (m := zch (p.Flows[((i : Nat) : Int).toNat]'hlt)) (fun _ => trivial) hE hF (by rfl) rf (by dsimp only [T3]; first | omega | (simp only [List.length_cons, List.length_nil]; omega)) (by rw [zan]; first | omega | (simp only [List.length_cons, List.length_nil]; omega)) ?_; intro cN SN hEN hFN hlN))
  all_goals first
   | (exfalso; omega)
   | (refine ⟨⟨(i + 1, _, _), by dsimp only; omega, by assumption, by rw [hst]; assumption⟩, ?_, rfl, by dsimp only; omega⟩; (conv => whnf); repeat' (first | exact trivial | exact rfl | (show _ = _; congr 3; dsimp only; omega) | apply And.intro))
 rw [List.take_of_length_le (by omega)] at hF
 rw [List.take_of_length_le (by omega)] at hln
 repeat' ((conv => whnf) <;> first
  | (show CondP _ _ _; refine cS ?_) | refine rE fun hml => ?_)
 all_goals try (exfalso; omega)
 (conv => whnf)
 refine zas (f := dInt) (S0 := S) (l := pk1 p ++ p.Flows.flatMap zch) (m := [(p.Rules.length : Int)]) (fun _ => trivial) hE hF (by rfl) (by intro _; rfl) (by dsimp only [T3]; simp only [List.length_cons, List.length_nil]; omega) (by rw [zan]; simp only [List.length_cons, List.length_nil]; omega) ?_; intro c2 S2 E0 f0 l2
 replace f0 : Fr S.length S2 [.sl 1 ((pk2 p ++ ([] : List GRule).flatMap zcy).map dInt)] [c2] := by rw [List.flatMap_nil, List.append_nil, hp2]; exact f0
 clear hF hE hln hlt hi
 repeat' ((conv => whnf) <;> first
  | refine rE fun hml => ?_)
 (conv => whnf)
 refine zag {q : Nat × Store × C // q.1 ≤ p.Rules.length ∧ Ext S q.2.1 ∧ Fr S.length q.2.1 [.sl 1 ((pk2 p ++ (p.Rules.take q.1).flatMap zcy).map dInt)] [q.2.2]} [3, 9, 82, 83, 84, 85, 86, 87, 88, 89, 90, 91, 92, 93, 94, 95, 96, 97, 98, 99, 100, 101, 102, 103, 104, 105, 106, 107] (fun zb => [(82, .v (.s (.int .i64 zb.1.1))), (3, .v (.s zb.1.2.2))]) (fun zb => zb.1.2.1) (fun zb => p.Rules.length - zb.1.1) ⟨(0, _, _), Nat.zero_le _, E0, f0⟩ okL rfl ?_
 clear f0 E0
 rintro ⟨⟨i, Si, ci⟩, hi, hE, hF⟩; dsimp only
 replace hi : i ≤ p.Rules.length := hi
 replace hE : Ext S Si := hE
 replace hF : Fr S.length Si [.sl 1 ((pk2 p ++ (p.Rules.take i).flatMap zcy).map dInt)] [ci] := hF
 have hln : (pk2 p ++ (p.Rules.take i).flatMap zcy).length ≤ 200 := by
  simp only [pk3, pk2, pk1, pk0, List.length_append, List.length_cons, List.length_nil]
  first
   | rw [zap (f := zbp) (k := 6) (fun _ => rfl), zap (f := zch) (k := 2) (fun _ => rfl), zap (f := zcy) (k := 7) (fun _ => rfl), zap (f := zd2) (k := 4) (fun _ => rfl)]
   | rw [zap (f := zbp) (k := 6) (fun _ => rfl), zap (f := zch) (k := 2) (fun _ => rfl), zap (f := zcy) (k := 7) (fun _ => rfl)]
   | rw [zap (f := zbp) (k := 6) (fun _ => rfl), zap (f := zch) (k := 2) (fun _ => rfl)]
   | rw [zap (f := zbp) (k := 6) (fun _ => rfl)]
  rw [List.length_take]
  omega
 by_cases hlt : i < p.Rules.length
 ·have hst : pk2 p ++ (p.Rules.take (i + 1)).flatMap zcy = (pk2 p ++ (p.Rules.take i).flatMap zcy) ++ zcy (p.Rules[((i : Nat) : Int).toNat]'hlt) := by rw [zh3 hlt, List.append_assoc]; rfl
  have hfk : (zcy (p.Rules[((i : Nat) : Int).toNat]'hlt)).length = 7 := rfl
  repeat' ((conv => whnf) <;> first
   | rw [zad (by omega)] | (show CondP _ _ _; refine cS ?_) | refine rI rdA rf ix ?_ | refine zaf rdA tv ix ?_ | (refine zas (f := dInt) (S0 := S) (l := pk2 p ++ (p.Rules.take i).flatMap zcy) (m := zcy (p.Rules[((i : Nat) : Int).toNat]'hlt)) (fun _ => trivial) hE hF (by rfl) rf (by dsimp only [T3]; first | omega | (simp only [List.length_cons, List.length_nil]; omega)) (by rw [zan]; first | omega | (simp only [List.length_cons, List.length_nil]; omega)) ?_; intro cN SN hEN hFN hlN))
  all_goals first
   | (exfalso; omega)
   | (refine ⟨⟨(i + 1, _, _), by dsimp only; omega, by assumption, by rw [hst]; assumption⟩, ?_, rfl, by dsimp only; omega⟩; (conv => whnf); repeat' (first | exact trivial | exact rfl | (show _ = _; congr 3; dsimp only; omega) | apply And.intro))
 rw [List.take_of_length_le (by omega)] at hF
 rw [List.take_of_length_le (by omega)] at hln
 repeat' ((conv => whnf) <;> first
  | (show CondP _ _ _; refine cS ?_) | refine rE fun hml => ?_)
 all_goals try (exfalso; omega)
 (conv => whnf)
 refine zas (f := dInt) (S0 := S) (l := pk2 p ++ p.Rules.flatMap zcy) (m := [(p.Ops.length : Int)]) (fun _ => trivial) hE hF (by rfl) (by intro _; rfl) (by dsimp only [T3]; simp only [List.length_cons, List.length_nil]; omega) (by rw [zan]; simp only [List.length_cons, List.length_nil]; omega) ?_; intro c3 S3 E0 f0 l3
 replace f0 : Fr S.length S3 [.sl 1 ((pk3 p ++ ([] : List GOp).flatMap zd2).map dInt)] [c3] := by rw [List.flatMap_nil, List.append_nil, hp3]; exact f0
 clear hF hE hln hlt hi
 repeat' ((conv => whnf) <;> first
  | refine rE fun hml => ?_)
 (conv => whnf)
 refine zag {q : Nat × Store × C // q.1 ≤ p.Ops.length ∧ Ext S q.2.1 ∧ Fr S.length q.2.1 [.sl 1 ((pk3 p ++ (p.Ops.take q.1).flatMap zd2).map dInt)] [q.2.2]} [3, 11, 117, 118, 119, 120, 121, 122, 123, 124, 125, 126, 127, 128, 129, 130, 131, 132] (fun zb => [(117, .v (.s (.int .i64 zb.1.1))), (3, .v (.s zb.1.2.2))]) (fun zb => zb.1.2.1) (fun zb => p.Ops.length - zb.1.1) ⟨(0, _, _), Nat.zero_le _, E0, f0⟩ okL rfl ?_
 clear f0 E0
 rintro ⟨⟨i, Si, ci⟩, hi, hE, hF⟩; dsimp only
 replace hi : i ≤ p.Ops.length := hi
 replace hE : Ext S Si := hE
 replace hF : Fr S.length Si [.sl 1 ((pk3 p ++ (p.Ops.take i).flatMap zd2).map dInt)] [ci] := hF
 have hln : (pk3 p ++ (p.Ops.take i).flatMap zd2).length ≤ 200 := by
  simp only [pk3, pk2, pk1, pk0, List.length_append, List.length_cons, List.length_nil]
  first
   | rw [zap (f := zbp) (k := 6) (fun _ => rfl), zap (f := zch) (k := 2) (fun _ => rfl), zap (f := zcy) (k := 7) (fun _ => rfl), zap (f := zd2) (k := 4) (fun _ => rfl)]
   | rw [zap (f := zbp) (k := 6) (fun _ => rfl), zap (f := zch) (k := 2) (fun _ => rfl), zap (f := zcy) (k := 7) (fun _ => rfl)]
   | rw [zap (f := zbp) (k := 6) (fun _ => rfl), zap (f := zch) (k := 2) (fun _ => rfl)]
   | rw [zap (f := zbp) (k := 6) (fun _ => rfl)]
  rw [List.length_take]
  omega
 by_cases hlt : i < p.Ops.length
 ·have hst : pk3 p ++ (p.Ops.take (i + 1)).flatMap zd2 = (pk3 p ++ (p.Ops.take i).flatMap zd2) ++ zd2 (p.Ops[((i : Nat) : Int).toNat]'hlt) := by rw [zh3 hlt, List.append_assoc]; rfl
  have hfk : (zd2 (p.Ops[((i : Nat) : Int).toNat]'hlt)).length = 4 := rfl
  repeat' ((conv => whnf) <;> first
   | rw [zad (by omega)] | (show CondP _ _ _; refine cS ?_) | refine rI rdA rf ix ?_ | refine zaf rdA tv ix ?_ | (refine zas (f := dInt) (S0 := S) (l := pk3 p ++ (p.Ops.take i).flatMap zd2) (m := zd2 (p.Ops[((i : Nat) : Int).toNat]'hlt)) (fun _ => trivial) hE hF (by rfl) rf (by dsimp only [T3]; first | omega | (simp only [List.length_cons, List.length_nil]; omega)) (by rw [zan]; first | omega | (simp only [List.length_cons, List.length_nil]; omega)) ?_; intro cN SN hEN hFN hlN))
  all_goals first
   | (exfalso; omega)
   | (refine ⟨⟨(i + 1, _, _), by dsimp only; omega, by assumption, by rw [hst]; assumption⟩, ?_, rfl, by dsimp only; omega⟩; (conv => whnf); repeat' (first | exact trivial | exact rfl | (show _ = _; congr 3; dsimp only; omega) | apply And.intro))
 rw [List.take_of_length_le (by omega)] at hF
 rw [List.take_of_length_le (by omega)] at hln
 repeat' ((conv => whnf) <;> first
  | (show CondP _ _ _; refine cS ?_) | refine And.intro ?_ ?_)
 all_goals first
  | exact hE
  | (exfalso; omega)
  | (rw [hp4]; exact ⟨_, rfl, hF⟩)
def zfh (key : Int) (p : GPackage) : Int := if zhw key && zal p then zq0 key (zc8 p) else 0
theorem z02 (key : Int) (p : GPackage) (cs : List C) (S : Store) (h : Rd S p.d cs) : EvA Tryz.prog 137 [.s (.int .i64 key), .agg cs] S (fun r S' => r = .v (.s (.int .i64 (zfh key p))) ∧ S' = S) := by
 obtain ⟨_, _, _, _, rfl, _, _, _, _⟩ := GPackage.inv h
 refine EvA.drop rfl ?_
 rcases hk : zhw key && zal p with _ | _
 ·rw [show zfh key p = 0 from by unfold zfh; rw [hk]; rfl]
  refine zac tok Tryz.func137 (by kernel_rfl) rfl ?_
  repeat' ((conv => whnf) <;> first
   | refine cT ?_ | refine cN (fun _ => ?_) fun _ => ?_ | refine zaa (ze3 _ _) ?_ | refine zaa (zcb _ _ _ rdcA) ?_ | refine zaa (zkj _ _ _ _ rdA) ?_ | (refine zab (zii _ _ _ rdcA) ?_; rintro _ Sn ⟨hEn, cn, rfl, hFn⟩) | refine And.intro ?_ ?_)
  all_goals first
   | rfl
   | exact Ext.refl _
   | (exfalso; simp_all; done)
 ·rw [show zfh key p = zq0 key (zc8 p) from by unfold zfh; rw [hk]; rfl]
  simp only [Bool.and_eq_true] at hk
  refine zac tok Tryz.func137 (by kernel_rfl) rfl ?_
  repeat' ((conv => whnf) <;> first
   | refine cT ?_ | refine cN (fun _ => ?_) fun _ => ?_ | refine zaa (ze3 _ _) ?_ | refine zaa (zcb _ _ _ rdcA) ?_ | refine zaa (zkj _ _ _ _ rdA) ?_ | (refine zab (zii _ _ _ rdcA) ?_; rintro _ Sn ⟨hEn, cn, rfl, hFn⟩) | refine And.intro ?_ ?_)
  all_goals first
   | rfl
   | assumption
   | (exfalso; simp_all; done)
def zwg (key : Int) (p : GPackage) : GPackage := { p with Seal := zfh key p }
def zb4 (key : Int) (p : GPackage) : Bool := zal p && zhw key && decide (p.Seal = zfh key p)
theorem zdl (key : Int) (p : GPackage) (cs : List C) (S : Store) (h : Rd S p.d cs) : EvA Tryz.prog 66 [.s (.int .i64 key), .agg cs] S (fun r S' => r = .v (.s (.bool (zb4 key p))) ∧ S' = S) := by
 obtain ⟨_, _, _, _, rfl, _, _, _, _⟩ := GPackage.inv h
 refine zac tok Tryz.func66 (by kernel_rfl) rfl ?_
 repeat' ((conv => whnf) <;> first
  | refine cF ?_ | refine cI (fun _ => ?_) fun _ => ?_ | refine zaa (ze3 _ _) ?_ | refine zaa (zcb _ _ _ rdcB) ?_ | (refine zaa (z02 _ _ _ _ rdcB) ?_) | refine zae 5 [.fl 0, .st 1 [], .fl 2, .fl 3, .st 4 [], .fl 5, .fl 6, .fl 7, .fl 8, .fl 9, .fl 10, .st 11 [7, 8], .fl 12, .fl 13, .st 14 []] (by rfl) (by kernel_rfl) ?_ | refine And.intro ?_ ?_)
 all_goals first
  | rfl
  | (simp_all [zay, zb4]; done)
theorem zfx (key : Int) (p : GPackage) (cs : List C) (S : Store) (h : Rd S p.d cs) (hz : szL p.d ≤ 4194304) : EvA Tryz.prog 153 [.s (.int .i64 key), .agg cs] S (fun r S' => Ext S S' ∧ ∃ c3 c4 c5 c6, r = .v (.agg [.int .i64 p.Ext, .int .i64 p.Author, .int .i64 p.Version, c3, c4, c5, c6, .int .i64 (zfh key p)]) ∧ Fr S.length S' (zwg key p).d [.int .i64 p.Ext, .int .i64 p.Author, .int .i64 p.Version, c3, c4, c5, c6, .int .i64 (zfh key p)]) := by
 obtain ⟨_, _, _, _, rfl, _, _, _, _⟩ := GPackage.inv h
 have hrs : Rd S p.d _ := h
 refine zac tok Tryz.func153 (by kernel_rfl) rfl ?_
 skip
 (conv => whnf)
 refine zab (zpu p _ _ h hz) ?_; rintro _ S1 ⟨e1, c3, c4, c5, c6, rfl, f1⟩
 rcases hk : zhw key && zal p with _ | _
 ·have hs0 : zfh key p = 0 := by unfold zfh; rw [hk]; rfl
  have f2 : Fr S.length S1 (zwg key p).d _ := f1.setX (o := 7) (c' := .int .i64 (zfh key p)) (by show 7 < 8; decide)
  rw [hs0] at f2 ⊢
  repeat' ((conv => whnf) <;> first
   | refine cF ?_ | refine cI (fun _ => ?_) fun _ => ?_ | refine zaa (zd1 _ _) ?_ | refine zaa (zdt _ _ _ rdcA) ?_ | (refine zab (zia _ _ _ rdcA) ?_; rintro _ Sn ⟨hEn, cn, rfl, hFn⟩) | refine And.intro ?_ ?_)
  all_goals first
   | exact e1
   | exact ⟨_, _, _, _, rfl, f2⟩
   | (exfalso; simp_all; done)
 ·have hs0 : zfh key p = zq0 key (zc8 p) := by unfold zfh; rw [hk]; rfl
  simp only [Bool.and_eq_true] at hk
  have hpl := zsf p
  have f2 : Fr S.length S1 (zwg key p).d _ := f1.setX (o := 7) (c' := .int .i64 (zfh key p)) (by show 7 < 8; decide)
  rw [hs0] at f2 ⊢
  repeat' ((conv => whnf) <;> first
   | refine cF ?_ | refine cI (fun _ => ?_) fun _ => ?_ | refine zaa (zd1 _ _) ?_ | refine zaa (zdt _ _ _ rdcA) ?_ | refine zaa (zrz _ _ _ _ rdA (by first | assumption | omega)) ?_ | (refine zab (zia _ _ _ rdcA) ?_; rintro _ Sn ⟨hEn, cn, rfl, hFn⟩) | refine And.intro ?_ ?_)
  all_goals first
   | exact e1.trans (by assumption)
   | exact ⟨_, _, _, _, rfl, f2.ext (by assumption)⟩
   | (exfalso; simp_all; done)
theorem zgf (key : Int) (p : GPackage) (cs : List C) (S : Store) (h : Rd S p.d cs) (hz : szL p.d ≤ 4194304) : EvA Tryz.prog 249 [.s (.int .i64 key), .agg cs] S (fun r S' => r = .v (.s (.bool (zb4 key p))) ∧ S' = S) := by
 obtain ⟨_, _, _, _, rfl, _, _, _, _⟩ := GPackage.inv h
 refine EvA.drop rfl ?_
 rcases hk : zal p && zhw key with _ | _
 ·rw [show zb4 key p = false from by unfold zb4; rw [hk, Bool.false_and]]
  refine zac tok Tryz.func249 (by kernel_rfl) rfl ?_
  repeat' ((conv => whnf) <;> first
   | refine cF ?_ | refine cI (fun _ => ?_) fun _ => ?_ | (refine zab (zfx _ _ _ _ rdcA (by (first | omega | exact sz_at hz om | (simp only [szL]; omega)))) ?_; rintro _ Sn ⟨hEn, _, _, _, _, rfl, hFn⟩) | refine zaa (zd1 _ _) ?_ | refine zaa (zdt _ _ _ rdcA) ?_ | refine zae 5 [.fl 0, .st 1 [], .fl 2, .fl 3, .st 4 [], .fl 5, .fl 6, .fl 7, .fl 8, .fl 11, .fl 12, .st 9 [11, 12], .fl 10, .fl 13, .fl 14, .st 15 []] (by rfl) (by kernel_rfl) ?_ | refine And.intro ?_ ?_)
  all_goals first
   | rfl
   | exact Ext.refl _
   | assumption
   | (exfalso; simp_all; done)
   | (simp_all [zay]; done)
 ·rw [show zb4 key p = decide (zfh key p = p.Seal) from by unfold zb4; rw [hk, Bool.true_and]; exact decide_eq_decide.2 ⟨Eq.symm, Eq.symm⟩]
  simp only [Bool.and_eq_true] at hk
  refine zac tok Tryz.func249 (by kernel_rfl) rfl ?_
  repeat' ((conv => whnf) <;> first
   | refine cF ?_ | refine cI (fun _ => ?_) fun _ => ?_ | (refine zab (zfx _ _ _ _ rdcA (by (first | omega | exact sz_at hz om | (simp only [szL]; omega)))) ?_; rintro _ Sn ⟨hEn, _, _, _, _, rfl, hFn⟩) | refine zaa (zd1 _ _) ?_ | refine zaa (zdt _ _ _ rdcA) ?_ | refine zae 5 [.fl 0, .st 1 [], .fl 2, .fl 3, .st 4 [], .fl 5, .fl 6, .fl 7, .fl 8, .fl 11, .fl 12, .st 9 [11, 12], .fl 10, .fl 13, .fl 14, .st 15 []] (by rfl) (by kernel_rfl) ?_ | refine And.intro ?_ ?_)
  all_goals first
   | rfl
   | assumption
   | exact Ext.refl _
   | (exfalso; simp_all; done)
   | (simp_all [zay]; done)
end Go.Proofs.YtlmmdpmmdmhacaaGreat
