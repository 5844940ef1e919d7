/- What programs send; what leaves. What is granted, traces, the widest extension. What is wrong with a browser. -/
import Derived.Test.YtlmmdpmmdmhacaaGreatKt27
import Derived.Test.YtlmmdpmmdmhacaaGreatKt18
import Derived.Test.YtlmmdpmmdmhacaaGreatKt30
import Derived.Test.YtlmmdpmmdmhacaaGreatKt24
namespace Go.Proofs.YtlmmdpmmdmhacaaGreat
open Go Go.ChangeShapes Go.WideShapes Go.ChangeAt Go.RowKit
set_option linter.unusedVariables false
set_option linter.unusedSimpArgs false
set_option maxRecDepth 100000
def zks (flows : List GFlow) (ext : Int) (s : GSent) : Bool := zfe flows ext s.Label s.To
def zhr (l : List GOp) (values : List Int) (flows : List GFlow) (ext : Int) : List GSent := if zcv l then (mach values l).1.filter (zks flows ext) else []
theorem zzh (l : List GOp) (values : List Int) (flows : List GFlow) (ext : Int) : (zhr l values flows ext).length ≤ 16 := by
 unfold zhr
 split
 ·rename_i h
  exact Nat.le_trans (List.length_filter_le _ _) (zmh values h)
 ·exact Nat.zero_le _
theorem zzb (l : List GOp) (values : List Int) (flows : List GFlow) (ext : Int) (c c' c2 : C) (S : Store) (h : Rd S [.sl 4 (l.map GOp.d)] [c]) (h' : Rd S [.sl 1 (values.map dInt)] [c']) (h2 : Rd S [.sl 3 (flows.map GFlow.d)] [c2]) : EvA Tryz.prog 126 [.s c, .s c', .s c2, .s (.int .i64 ext)] S (fun r S' => Ext S S' ∧ ∃ d, r = .v (.s d) ∧ Fr S.length S' [.sl 3 ((zhr l values flows ext).map GSent.d)] [d]) := by
 rcases ho : zcv l with _ | _
 ·rw [show zhr l values flows ext = [] from by unfold zhr; rw [ho]; rfl]
  refine zac tok Tryz.func126 (by kernel_rfl) rfl ?_
  repeat' ((conv => whnf) <;> first
   | (show CondP _ _ _; refine cS ?_) | refine zaa (zdu _ _ _ rdA) ?_ | refine And.intro ?_ ?_)
  all_goals first
   | exact Ext.push _ _
   | exact ⟨_, rfl, zba⟩
   | (exfalso; simp_all; done)
 ·rw [show zhr l values flows ext = (mach values l).1.filter (zks flows ext) from by unfold zhr; rw [ho]; rfl]
  have hml := zmh values ho
  refine zac tok Tryz.func126 (by kernel_rfl) rfl ?_
  repeat' ((conv => whnf) <;> first
   | (show CondP _ _ _; refine cS ?_) | refine zaa (zdu _ _ _ rdA) ?_)
  (conv => whnf)
  refine zab (zni l values _ _ _ (h.ext (Ext.push _ _)) (h'.ext (Ext.push _ _)) ho) ?_; rintro _ S1 ⟨e1, c3, c4, rfl, f1⟩
  have f0 := (zba (S := S) (k := 3)).join e1 f1 (Ext.push S _).len
  have E1 : Ext S S1 := (Ext.push _ _).trans e1
  generalize (mach values l).1 = x at *
  generalize (mach values l).2.2 = lb at *
  have r1 := f0.rdAt (o := 1) (d := .sl 3 (x.map GSent.d)) rfl rfl
  repeat' ((conv => whnf) <;> first
   | refine rE fun hml => ?_)
  (conv => whnf)
  refine zag {p : Nat × Store × C // p.1 ≤ x.length ∧ Ext S p.2.1 ∧ Fr S.length p.2.1 [.sl 3 (((x.take p.1).filter (zks flows ext)).map GSent.d), .sl 3 (x.map GSent.d), .sl 1 (lb.map dInt)] [p.2.2, c3, c4]} [9, 13, 27, 28, 29, 30, 31, 32, 33, 34, 35, 36, 37, 38, 39, 40, 41, 42] (fun zb => [(27, .v (.s (.int .i64 zb.1.1))), (9, .v (.s zb.1.2.2))]) (fun zb => zb.1.2.1) (fun zb => x.length - zb.1.1) ⟨(0, _, _), Nat.zero_le _, E1, f0⟩ okL rfl ?_
  rintro ⟨⟨i, Si, ci⟩, hi, hE, hF⟩; dsimp only
  replace hi : i ≤ x.length := hi
  replace hE : Ext S Si := hE
  replace hF : Fr S.length Si [.sl 3 (((x.take i).filter (zks flows ext)).map GSent.d), .sl 3 (x.map GSent.d), .sl 1 (lb.map dInt)] [ci, c3, c4] := hF
  have r2 := hF.rdAt (o := 1) (d := .sl 3 (x.map GSent.d)) rfl rfl
  have hfl := zb9 (zks flows ext) x i
  by_cases hlt : i < x.length
  ·rcases hP : zks flows ext (x[((i : Nat) : Int).toNat]'hlt) with _ | _
   ·have hp := zc0 hlt hP
    unfold zks at hP
    repeat' ((conv => whnf) <;> first
     | rw [zad (by omega)] | (show CondP _ _ _; refine cS ?_) | refine zaa (zhe _ _ _ _ _ _ rdA) ?_ | refine rI rdA rf ix ?_ | refine zaf rdA tv ix ?_)
    all_goals first
     | (exfalso; omega)
     | (refine ⟨⟨(i + 1, _, _), by dsimp only; omega, hE, by rw [hp]; exact hF⟩, ?_, rfl, by dsimp only; omega⟩; (conv => whnf); repeat' (first | exact trivial | exact rfl | (show _ = _; congr 3; dsimp only; omega) | apply And.intro))
   ·have hp := zcz hlt hP
    unfold zks at hP
    repeat' ((conv => whnf) <;> first
     | rw [zad (by omega)] | (show CondP _ _ _; refine cS ?_) | refine zaa (zhe _ _ _ _ _ _ rdA) ?_ | refine rI rdA rf ix ?_ | refine zaf rdA tv ix ?_ | (refine zcq (f := GSent.d) (o := 0) (l := (x.take i).filter (zks flows ext)) (m := [x[i]'hlt]) (fun _ => trivial) hE hF rfl rfl (by rfl) rf (by dsimp only [T130]; simp only [List.length_cons, List.length_nil]; omega) (by simp only [List.length_cons, List.length_nil]; omega) ?_; intro cN SN hEN hFN hlN))
    all_goals first
     | (exfalso; omega)
     | (refine ⟨⟨(i + 1, _, _), by dsimp only; omega, by assumption, by rw [hp]; exact hFN⟩, ?_, rfl, by dsimp only; omega⟩; (conv => whnf); repeat' (first | exact trivial | exact rfl | (show _ = _; congr 3; dsimp only; omega) | apply And.intro))
  ·rw [List.take_of_length_le (by omega)] at hF
   repeat' ((conv => whnf) <;> first
    | (show CondP _ _ _; refine cS ?_) | refine And.intro ?_ ?_)
   all_goals first
    | exact hE
    | (exfalso; omega)
    | exact ⟨_, rfl, Fr.left (ds := [_]) (cs := [_]) hF rfl⟩
def zd7 (b : GBrowser) (ext : Int) (values : List Int) : List GSent := if 0 ≤ zai b ext then (zhr (zau b ext).Ops (zd3 b ext values) (zau b ext).Flows ext).filter (fun s => zgc b ext s.To 3) else []
theorem zhz (b : GBrowser) (ext : Int) (values : List Int) (cs : List C) (c : C) (S : Store) (h : Rd S b.d cs) (h' : Rd S [.sl 1 (values.map dInt)] [c]) : EvA Tryz.prog 55 [.agg cs, .s (.int .i64 ext), .s c] S (fun r S' => Ext S S' ∧ ∃ d, r = .v (.s d) ∧ Fr S.length S' [.sl 3 ((zd7 b ext values).map GSent.d)] [d]) := by
 obtain ⟨_, _, _, _, _, _, rfl, _, _, _, _, _, _⟩ := GBrowser.inv h
 by_cases hp0 : 0 ≤ zai b ext
 ·have hpl : (zai b ext).toNat < b.Packs.length := by have := zj5 b ext; omega
  have hp1 : 0 ≤ zai b ext ∧ (zai b ext).toNat < b.Packs.length := ⟨hp0, hpl⟩
  rw [show zd7 b ext values = (zhr (b.Packs[(zai b ext).toNat]'hpl).Ops (zd3 b ext values) (b.Packs[(zai b ext).toNat]'hpl).Flows ext).filter (fun s => zgc b ext s.To 3) from by unfold zd7; rw [if_pos hp0, ze5 hp0 hpl]]
  have hrl := zzh (b.Packs[(zai b ext).toNat]'hpl).Ops (zd3 b ext values) (b.Packs[(zai b ext).toNat]'hpl).Flows ext
  have hpk : Rd S [.sl 8 (b.Packs.map GPackage.d)] _ := (by assumption)
  obtain ⟨pcs, hpr, hpld⟩ := zd6 hpk hp1
  obtain ⟨_, _, _, _, rfl, _, _, _, _⟩ := GPackage.inv hpr
  refine zac tok Tryz.func55 (by kernel_rfl) rfl ?_
  repeat' ((conv => whnf) <;> first
   | refine hpld _ (by first | assumption | exact Ext.push _ _) _ ?_ | (show CondP _ _ _; refine cS ?_) | (refine zaa (zbc _ _ _ _ rdcA) ?_) | refine rI rdA rf ix ?_ | refine zae 18 [.fl 0, .fl 1, .fl 2, .fl 3, .fl 4, .fl 5, .fl 6, .fl 7, .fl 8, .fl 10, .fl 11, .fl 12, .fl 13, .fl 14, .fl 15, .fl 16, .fl 19, .st 9 [0, 1, 2, 3, 4, 5, 10, 11, 12, 13, 14, 15, 16, 19], .st 17 [19], .fl 18] (by rfl) (by kernel_rfl) ?_)
  (conv => whnf)
  refine zab (zqf b ext values _ _ _ (h.ext (Ext.push _ _)) (h'.ext (Ext.push _ _))) ?_; rintro _ S1 ⟨e1, cv, rfl, fv⟩
  have E1 : Ext S S1 := (Ext.push _ _).trans e1
  repeat' ((conv => whnf) <;> first
   | refine hpld _ (by first | assumption | exact Ext.push _ _) _ ?_ | refine rI rdA rf ix ?_ | refine And.intro ?_ ?_)
  (conv => whnf)
  refine zab (zzb (b.Packs[(zai b ext).toNat]'hpl).Ops (zd3 b ext values) (b.Packs[(zai b ext).toNat]'hpl).Flows ext _ _ _ _ rdA fv.rd rdA) ?_; rintro _ S2 ⟨e2, cx, rfl, fx⟩
  have f0 := (zba (S := S) (k := 3)).join (e1.trans e2) (fx.mono e1.len) (Ext.push S _).len
  have E2 : Ext S S2 := E1.trans e2
  generalize zhr (b.Packs[(zai b ext).toNat]'hpl).Ops (zd3 b ext values) (b.Packs[(zai b ext).toNat]'hpl).Flows ext = x at *
  have r1 := f0.rdAt (o := 1) (d := .sl 3 (x.map GSent.d)) rfl rfl
  clear fx fv
  repeat' ((conv => whnf) <;> first
   | refine rE fun hml => ?_ | refine And.intro ?_ ?_)
  (conv => whnf)
  refine zag {p : Nat × Store × C // p.1 ≤ x.length ∧ Ext S p.2.1 ∧ Fr S.length p.2.1 [.sl 3 (((x.take p.1).filter (fun s => zgc b ext s.To 3)).map GSent.d), .sl 3 (x.map GSent.d)] [p.2.2, cx]} [7, 10, 37, 38, 39, 40, 41, 42, 43, 44, 45, 46, 47, 48, 49, 50] (fun zb => [(37, .v (.s (.int .i64 zb.1.1))), (7, .v (.s zb.1.2.2))]) (fun zb => zb.1.2.1) (fun zb => x.length - zb.1.1) ⟨(0, _, _), Nat.zero_le _, E2, f0⟩ okL rfl ?_
  rintro ⟨⟨i, Si, ci⟩, hi, hE, hF⟩; dsimp only
  replace hi : i ≤ x.length := hi
  replace hE : Ext S Si := hE
  replace hF : Fr S.length Si [.sl 3 (((x.take i).filter (fun s => zgc b ext s.To 3)).map GSent.d), .sl 3 (x.map GSent.d)] [ci, cx] := hF
  have r2 := hF.rdAt (o := 1) (d := .sl 3 (x.map GSent.d)) rfl rfl
  have hfl := zb9 (fun s => zgc b ext s.To 3) x i
  have hbr := h.ext hE
  by_cases hlt : i < x.length
  ·rcases hP : zgc b ext (x[((i : Nat) : Int).toNat]'hlt).To 3 with _ | _
   ·have hp := zc0 (P := fun s : GSent => zgc b ext s.To 3) hlt hP
    repeat' ((conv => whnf) <;> first
     | rw [zad (by omega)] | (show CondP _ _ _; refine cS ?_) | (refine zaa (zna _ _ _ _ _ _ rdcA) ?_) | refine rI rdA rf ix ?_ | refine zaf rdA tv ix ?_)
    all_goals first
     | (exfalso; omega)
     | (refine ⟨⟨(i + 1, _, _), by dsimp only; omega, hE, by rw [hp]; exact hF⟩, ?_, rfl, by dsimp only; omega⟩; (conv => whnf); repeat' (first | exact trivial | exact rfl | (show _ = _; congr 3; dsimp only; omega) | apply And.intro))
   ·have hp := zcz (P := fun s : GSent => zgc b ext s.To 3) hlt hP
    repeat' ((conv => whnf) <;> first
     | rw [zad (by omega)] | (show CondP _ _ _; refine cS ?_) | (refine zaa (zna _ _ _ _ _ _ rdcA) ?_) | refine rI rdA rf ix ?_ | refine zaf rdA tv ix ?_ | (refine zcq (f := GSent.d) (o := 0) (l := (x.take i).filter (fun s => zgc b ext s.To 3)) (m := [x[i]'hlt]) (fun _ => trivial) hE hF rfl rfl (by rfl) rf (by dsimp only [T130]; simp only [List.length_cons, List.length_nil]; omega) (by simp only [List.length_cons, List.length_nil]; omega) ?_; intro cN SN hEN hFN hlN))
    all_goals first
     | (exfalso; omega)
     | (refine ⟨⟨(i + 1, _, _), by dsimp only; omega, by assumption, by rw [hp]; exact hFN⟩, ?_, rfl, by dsimp only; omega⟩; (conv => whnf); repeat' (first | exact trivial | exact rfl | (show _ = _; congr 3; dsimp only; omega) | apply And.intro))
  ·rw [List.take_of_length_le (by omega)] at hF
   repeat' ((conv => whnf) <;> first
    | (show CondP _ _ _; refine cS ?_) | refine And.intro ?_ ?_)
   all_goals first
    | exact hE
    | (exfalso; omega)
    | exact ⟨_, rfl, Fr.left (ds := [_]) (cs := [_]) hF rfl⟩
 ·rw [show zd7 b ext values = [] from by unfold zd7; rw [if_neg hp0]]
  refine zac tok Tryz.func55 (by kernel_rfl) rfl ?_
  repeat' ((conv => whnf) <;> first
   | (show CondP _ _ _; refine cS ?_) | (refine zaa (zbc _ _ _ _ rdcA) ?_) | refine And.intro ?_ ?_)
  all_goals first
   | exact Ext.push _ _
   | exact ⟨_, rfl, zba⟩
   | (exfalso; omega)
theorem z5w {S : Store} (x : GGrant) : Rd (S ++ [⟨true, 7, [x.c]⟩]) [.sl 7 ([x].map GGrant.d)] [.sl S.length 0 1 1] := by
 refine Fr.rd (lo := S.length) (zih (xs := [x.d]) (js := []) ?_ List.nodup_nil (fun _ h => by cases h) (Nat.le_refl _) (by rw [zan]; simp) rfl)
 rw [zbn]
 exact ⟨x.c, [], [], [], rfl, rfl, zbr x.flat, by rw [zc6]; exact ⟨rfl, rfl⟩⟩
def gr1 (b : GBrowser) (g : GGrant) : Bool := zfa g || zbv [g] (zau b g.Ext).Grants
def zfw (b : GBrowser) : Bool := b.Grants.all (gr1 b)
theorem zqn (b : GBrowser) (cs : List C) (S : Store) (h : Rd S b.d cs) : EvA Tryz.prog 12 [.agg cs] S (fun r S' => r = .v (.s (.bool (zfw b))) ∧ S' = S) := by
 obtain ⟨_, _, _, _, _, _, rfl, _, _, _, _, _, _⟩ := GBrowser.inv h
 refine EvA.drop rfl ?_
 refine zac tok Tryz.func12 (by kernel_rfl) rfl ?_
 repeat' ((conv => whnf) <;> first
  | refine rE fun hml => ?_)
 refine zag {p : Nat × Store // p.1 ≤ b.Grants.length ∧ Ext S p.2 ∧ (b.Grants.drop p.1).all (gr1 b) = zfw b} [2, 4, 8, 9, 10, 11, 12, 13, 14, 15, 16, 17, 18, 19, 20, 21, 22, 23, 24, 25, 26] (fun zb => [(8, .v (.s (.int .i64 zb.1.1)))]) (fun zb => zb.1.2) (fun zb => b.Grants.length - zb.1.1) ⟨(0, S), Nat.zero_le _, Ext.refl _, rfl⟩ okL rfl ?_
 rintro ⟨⟨i, Si⟩, hi, hE, hinv⟩; dsimp only
 replace hi : i ≤ b.Grants.length := hi
 replace hE : Ext S Si := hE
 replace hinv : (b.Grants.drop i).all (gr1 b) = zfw b := hinv
 by_cases hlt : i < b.Grants.length
 ·rw [zam hlt, List.all_cons] at hinv
  repeat' ((conv => whnf) <;> first
   | rw [zad (by omega)] | refine cD (fun _ => ?_) fun _ => ?_ | refine cF ?_ | refine cN (fun _ => ?_) fun _ => ?_ | refine zaa (zlh _ _) ?_ | (refine zab (ze9 _ _ _ _ rdcA) ?_; rintro _ _ ⟨rfl, _, _, _, _, rfl, _, _, _, _⟩) | refine rI rdA rf ix ?_ | refine zaf rdA tv ix ?_ | refine zae 12 [.fl 0, .st 1 [], .fl 2, .fl 3, .fl 4, .fl 5, .fl 6, .fl 7, .fl 8, .st 9 [4, 5], .fl 10, .st 11 [], .fl 12, .fl 13] (by rfl) (by kernel_rfl) ?_ | (refine zaa (zl0 [b.Grants[((i : Nat) : Int).toNat]'om] _ _ _ _ (z5w _) rdA) ?_) | refine And.intro ?_ ?_)
  all_goals first
   | assumption
   | exact hE.trans (Ext.push _ _)
   | (exfalso; omega)
   | rfl
   | (have hg : gr1 b b.Grants[i] = false := by
       show (zfa b.Grants[i] || zbv [b.Grants[i]] (zau b b.Grants[i].Ext).Grants) = false
       rw [show zfa b.Grants[i] = false from by assumption, show zbv [b.Grants[i]] (zau b b.Grants[i].Ext).Grants = false from by assumption]; rfl
      rw [hg, Bool.false_and] at hinv
      rw [← hinv]; rfl)
   | (have hg : gr1 b b.Grants[i] = true := by
       show (zfa b.Grants[i] || zbv [b.Grants[i]] (zau b b.Grants[i].Ext).Grants) = true
       first
        | (rw [show zfa b.Grants[i] = true from by assumption]; rfl)
        | (rw [show zbv [b.Grants[i]] (zau b b.Grants[i].Ext).Grants = true from by assumption, Bool.or_true])
      rw [hg, Bool.true_and] at hinv
      (refine ⟨⟨(i + 1, _), by dsimp only; omega, by first | assumption | exact hE.trans (Ext.push _ _) | exact hE.trans (by assumption) | exact Ext.trans (by assumption) (by assumption), hinv⟩, ?_, rfl, by dsimp only; omega⟩; (conv => whnf); repeat' (first | exact trivial | exact rfl | (show _ = _; congr 3; dsimp only; omega) | apply And.intro)))
 ·rw [zak (by omega), List.all_nil] at hinv
  repeat' ((conv => whnf) <;> first
   | rw [zad (by omega)] | refine cD (fun _ => ?_) fun _ => ?_ | refine cF ?_ | refine cN (fun _ => ?_) fun _ => ?_ | refine zaa (zlh _ _) ?_ | (refine zab (ze9 _ _ _ _ rdcA) ?_; rintro _ _ ⟨rfl, _, _, _, _, rfl, _, _, _, _⟩) | refine rI rdA rf ix ?_ | refine zaf rdA tv ix ?_ | refine zae 12 [.fl 0, .st 1 [], .fl 2, .fl 3, .fl 4, .fl 5, .fl 6, .fl 7, .fl 8, .st 9 [4, 5], .fl 10, .st 11 [], .fl 12, .fl 13] (by rfl) (by kernel_rfl) ?_ | refine And.intro ?_ ?_)
  all_goals first
   | assumption
   | (exfalso; omega)
   | (rw [← hinv]; rfl)
def zga (ext : Int) : List GTab → Int
 | [] => 0
 | t :: r => ((t.Edits.filter (zrk ext)).length : Int) + zga ext r
theorem ztd (ext : Int) : ∀ a b : List GTab, zga ext (a ++ b) = zga ext a + zga ext b
 | [], b => by rw [List.nil_append, zga]; omega
 | t :: a, b => by rw [List.cons_append, zga, ztd ext a b, zga]; omega
theorem zxz {ext : Int} {l : List GTab} {i : Nat} (h : i < l.length) : zga ext (l.take (i + 1)) = zga ext (l.take i) + ((l[i].Edits.filter (zrk ext)).length : Int) := by
 rw [List.take_succ_eq_append_getElem h, ztd, zga, zga]; omega
theorem zxa (ext : Int) : ∀ l : List GTab, 0 ≤ zga ext l ∧ zga ext l ≤ szL.szLL (l.map GTab.d)
 | [] => by rw [zga]; omega
 | t :: l => by
   have h1 := zxa ext l
   have h2 := List.length_filter_le (zrk ext) t.Edits
   have h3 : t.Edits.length ≤ szL t.d := by simp only [GTab.d, szL, List.length_map]; omega
   rw [zga, List.map_cons, szL.szLL]; omega
def paOf (ext : Int) (p : GPackage) : Bool := decide (p.Ext = ext)
def zpj (b : GBrowser) (ext : Int) : Int := ((b.Grants.filter (grOf ext)).length : Int) + ((b.Rules.filter (ruOf ext)).length : Int) + zj1 b ext
def zkb (b : GBrowser) (ext : Int) : Int := zpj b ext + ((b.Packs.filter (paOf ext)).length : Int) + zga ext b.Tabs
set_option maxHeartbeats 1000000 in
theorem ztv (b : GBrowser) (ext : Int) (cs : List C) (S : Store) (h : Rd S b.d cs) (hz : szL b.d ≤ 1048576) : EvA Tryz.prog 17 [.agg cs, .s (.int .i64 ext)] S (fun r S' => r = .v (.s (.int .i64 (zkb b ext))) ∧ S' = S) := by
 have hzs := hz
 simp only [GBrowser.d, szL, List.length_map] at hzs
 obtain ⟨_, _, _, _, _, _, rfl, _, _, _, _, _, _⟩ := GBrowser.inv h
 have hf1 := List.length_filter_le (grOf ext) b.Grants
 have hf2 := List.length_filter_le (ruOf ext) b.Rules
 have hf3 := List.length_filter_le (stOf ext) b.Store
 have hf6 := List.length_filter_le (paOf ext) b.Packs
 have hf4 : zj1 b ext = ((b.Store.filter (stOf ext)).length : Int) := rfl
 have hf5 : zpj b ext = ((b.Grants.filter (grOf ext)).length : Int) + ((b.Rules.filter (ruOf ext)).length : Int) + ((b.Store.filter (stOf ext)).length : Int) := rfl
 have hzt : ∀ (i : Nat) (hi : i < b.Tabs.length), (b.Tabs[i]).Edits.length ≤ 4194304 := fun i hi => by
  have h1 := zdf (f := GTab.d) (List.getElem_mem hi)
  simp only [GTab.d, szL, List.length_map] at h1
  omega
 refine EvA.drop rfl ?_
 refine zac tok Tryz.func17 (by kernel_rfl) rfl ?_
 repeat' ((conv => whnf) <;> first
  | rw [zad (by omega)] | (refine zaa (zta _ _ _ _ rdcA (by (first | omega | exact sz_at hz om | (simp only [szL]; omega)))) ?_) | (refine zab (zt9 _ _ _ _ rdA om) ?_; rintro _ Sn ⟨hEn, cn, rfl, hFn⟩) | (refine zab (zjo _ _ _ _ rdA om) ?_; rintro _ Sn ⟨hEn, cn, rfl, hFn⟩) | refine rE fun hml => ?_ | refine zae 10 [.fl 0, .fl 1, .fl 2, .fl 5, .fl 6, .fl 7, .fl 11, .fl 12, .st 3 [5, 6, 7, 11, 12], .fl 4, .st 8 [11, 12, 4], .fl 9, .fl 10, .st 13 [4, 9, 10], .fl 14, .st 15 []] (by rfl) (by kernel_rfl) ?_ | refine And.intro ?_ ?_)
 all_goals try exact rfl
 refine zag {p : Nat × Int // p.1 ≤ b.Packs.length ∧ p.2 = zpj b ext + (((b.Packs.take p.1).filter (paOf ext)).length : Int)} [5, 7, 28, 29, 30, 31, 32, 33, 34, 35, 36, 37, 38] (fun zb => [(5, .v (.s (.int .i64 zb.1.2))), (28, .v (.s (.int .i64 zb.1.1)))]) (fun _ => _) (fun zb => b.Packs.length - zb.1.1) ⟨(0, zpj b ext), Nat.zero_le _, by simp⟩ ?_ rfl ?_
 ·(conv => whnf); repeat' (first | exact trivial | exact rfl | (show _ = _; congr 3; omega) | apply And.intro)
 rintro ⟨⟨i, n⟩, hi, hinv⟩; dsimp only
 replace hi : i ≤ b.Packs.length := hi
 replace hinv : n = zpj b ext + (((b.Packs.take i).filter (paOf ext)).length : Int) := hinv
 have hfl := zb9 (paOf ext) b.Packs i
 repeat' ((conv => whnf) <;> first
  | rw [zad (by omega)] | refine cD (fun _ => ?_) fun _ => ?_ | refine rE fun hml => ?_ | refine rI rdA rf ix ?_ | (refine zaz (f := GPackage.d) rdA ix ?_; intro _ hcs; obtain ⟨_, _, _, _, rfl, _, _, _, _⟩ := GPackage.inv hcs))
 all_goals try first
  | (exfalso; omega)
  | (rename_i hc
     have hlt : i < b.Packs.length := by omega
     have hp : paOf ext (b.Packs[((i : Nat) : Int).toNat]'hlt) = true := decide_eq_true hc
     have hft := zcz (P := paOf ext) (l := b.Packs) (i := i) hlt hp
     (refine ⟨⟨(i + 1, n + 1), by dsimp only; omega, by dsimp only; rw [hft, List.length_append, List.length_singleton]; omega⟩, ?_, rfl, by dsimp only; omega⟩; (conv => whnf); repeat' (first | exact trivial | exact rfl | (show _ = _; congr 3; dsimp only; omega) | apply And.intro)))
  | (rename_i hc
     have hlt : i < b.Packs.length := by omega
     have hp : paOf ext (b.Packs[((i : Nat) : Int).toNat]'hlt) = false := decide_eq_false hc
     have hft := zc0 (P := paOf ext) (l := b.Packs) (i := i) hlt hp
     (refine ⟨⟨(i + 1, n), by dsimp only; omega, by dsimp only; rw [hft]; exact hinv⟩, ?_, rfl, by dsimp only; omega⟩; (conv => whnf); repeat' (first | exact trivial | exact rfl | (show _ = _; congr 3; dsimp only; omega) | apply And.intro)))
 rw [List.take_of_length_le (by omega)] at hinv
 refine zag {p : Nat × Int × Store // p.1 ≤ b.Tabs.length ∧ Ext S p.2.2 ∧ p.2.1 = n + zga ext (b.Tabs.take p.1)} [5, 9, 42, 43, 44, 45, 46, 47, 48, 49, 50, 51, 52, 53] (fun zb => [(5, .v (.s (.int .i64 zb.1.2.1))), (42, .v (.s (.int .i64 zb.1.1)))]) (fun zb => zb.1.2.2) (fun zb => b.Tabs.length - zb.1.1) ⟨(0, n, _), Nat.zero_le _, by first | exact Ext.refl _ | assumption | exact Ext.trans (by assumption) (by assumption) | exact Ext.trans (by assumption) (Ext.trans (by assumption) (by assumption)), by dsimp only; rw [List.take_zero, zga]; omega⟩ ?_ rfl ?_
 ·(conv => whnf); repeat' (first | exact trivial | exact rfl | (show _ = _; congr 3; omega) | apply And.intro)
 rintro ⟨⟨j, m, Sj⟩, hj, hE, hjnv⟩; dsimp only
 replace hj : j ≤ b.Tabs.length := hj
 replace hE : Ext S Sj := hE
 replace hjnv : m = n + zga ext (b.Tabs.take j) := hjnv
 have hs1 := zxa ext (b.Tabs.take j)
 have hs2 := z4x (f := GTab.d) b.Tabs j
 by_cases hlt : j < b.Tabs.length
 ·have hzj := hzt j hlt
  have hzk : (b.Tabs[((j : Nat) : Int).toNat]'hlt).Edits.length ≤ 4194304 := hzj
  have hfe := List.length_filter_le (zrk ext) (b.Tabs[((j : Nat) : Int).toNat]'hlt).Edits
  have hsj := zxz (ext := ext) hlt
  repeat' ((conv => whnf) <;> first
   | rw [zad (by omega)] | refine cD (fun _ => ?_) fun _ => ?_ | (refine zab (zn4 _ _ _ _ rdA om) ?_; rintro _ Sn ⟨hEn, cn, rfl, hFn⟩) | refine rE fun hml => ?_ | refine rI rdA rf ix ?_ | (refine zaz (f := GTab.d) rdA ix ?_; intro _ hcs; obtain ⟨_, _, _, rfl, _, _, _⟩ := GTab.inv hcs) | refine And.intro ?_ ?_)
  all_goals first
   | rfl
   | assumption
   | (exfalso; omega)
   | (refine ⟨⟨(j + 1, m + ((b.Tabs[((j : Nat) : Int).toNat]'hlt).Edits.filter (zrk ext)).length, _), by dsimp only; omega, by first | assumption | exact hE.trans (Ext.push _ _) | exact hE.trans (by assumption) | exact Ext.trans (by assumption) (by assumption), by dsimp only; rw [hsj, hjnv]; simp only [Int.toNat_natCast]; omega⟩, ?_, rfl, by dsimp only; omega⟩; (conv => whnf); repeat' (first | exact trivial | exact rfl | (show _ = _; congr 3; dsimp only; omega) | apply And.intro))
 ·rw [List.take_of_length_le (by omega)] at hjnv
  have ht : zkb b ext = m := by unfold zkb; omega
  repeat' ((conv => whnf) <;> first
   | rw [zad (by omega)] | refine cD (fun _ => ?_) fun _ => ?_ | (refine zab (zn4 _ _ _ _ rdA om) ?_; rintro _ Sn ⟨hEn, cn, rfl, hFn⟩) | refine rE fun hml => ?_ | refine rI rdA rf ix ?_ | (refine zaz (f := GTab.d) rdA ix ?_; intro _ hcs; obtain ⟨_, _, _, rfl, _, _, _⟩ := GTab.inv hcs) | refine And.intro ?_ ?_)
  all_goals first
   | rfl
   | assumption
   | (exfalso; omega)
   | (rw [ht] <;> rfl)
theorem zk5 (b : GBrowser) : ∀ (l : List GPackage) (i : Nat), zd0 b l i = true → ∀ (j : Nat) (h : j < l.length), zee b l[j] (i + j) = true
 | [], _, _, j, h => absurd h (by simp)
 | p :: r, i, hg, j, h => by
   rw [zd0] at hg
   split at hg
   ·rename_i hp
    match j, h with
    | 0, _ => exact hp
    | j + 1, h =>
      have := zk5 b r (i + 1) hg j (by simpa using h)
      rw [show i + (j + 1) = i + 1 + j from by omega]; exact this
   ·cases hg
theorem zpm {b : GBrowser} (h : zaj b = true) {i : Nat} (hi : i + 1 < b.Packs.length) : (b.Packs[i]).Ext < (b.Packs[i + 1]).Ext := by
 unfold zaj at h
 simp only [Bool.and_eq_true] at h
 have h1 := zk5 b b.Packs 0 h.1.1.1.1.1.2 (i + 1) hi
 rw [Nat.zero_add, zgw (by omega) (by omega)] at h1
 simp only [Bool.and_eq_true, decide_eq_true_eq] at h1
 have h2 := h1.2
 have e : (((i + 1 : Nat) : Int) - 1).toNat = i := by omega
 simp only [e] at h2
 exact h2
theorem zwy {b : GBrowser} (h : zaj b = true) : ∀ (d i : Nat) (hi : i + d + 1 < b.Packs.length), (b.Packs[i]'(by omega)).Ext < (b.Packs[i + d + 1]).Ext
 | 0, i, hi => zpm h hi
 | d + 1, i, hi => by
   have h1 := zwy h d i (by omega)
   have h2 := zpm h (i := i + d + 1) (by omega)
   exact Int.lt_trans h1 h2
theorem zmp (ext : Int) : ∀ (l : List GPackage) (k i : Nat) (hi : i < l.length), (∀ (j : Nat) (hj : j < i), (l[j]'(by omega)).Ext ≠ ext) → (l[i]).Ext = ext → zc9 ext l k = k + i
 | p :: r, k, 0, _, _, he => by rw [zc9, if_pos (show p.Ext = ext from he)]; rfl
 | p :: r, k, i + 1, hi, hj, he => by
   rw [zc9, if_neg (show ¬ p.Ext = ext from hj 0 (by omega)), zmp ext r (k + 1) i (by simpa using hi) (fun j h => hj (j + 1) (by omega)) he]
   omega
theorem z0v {b : GBrowser} (h : zaj b = true) {i : Nat} (hi : i < b.Packs.length) : zai b (b.Packs[i]).Ext = i := by
 unfold zai
 rw [zmp _ b.Packs 0 i hi (fun j hj e => ?_) rfl]
 ·omega
 ·have := zwy h (i - j - 1) j (by omega)
  simp only [show j + (i - j - 1) + 1 = i from by omega] at this
  omega
theorem zlz {b : GBrowser} (h : zaj b = true) {i : Nat} (hi : i < b.Packs.length) : zau b (b.Packs[i]).Ext = b.Packs[i] := by
 have h1 := z0v h hi
 rw [ze5 (by omega) (by omega)]
 simp only [h1, Int.toNat_natCast]
def zyw (b : GBrowser) (values : List Int) (flows : List GFlow) (ext : Int) : Bool := (zd7 b ext values).all fun s => zfe flows ext s.Label s.To
def zx8 (b : GBrowser) (values : List Int) : Bool := b.Packs.all fun p => zyw b values p.Flows p.Ext
def zy6 (b : GBrowser) (values : List Int) : Bool := b.Packs.all fun p => zyw b values (zau b p.Ext).Flows p.Ext
theorem zzn {b : GBrowser} (h : zaj b = true) (values : List Int) : zy6 b values = zx8 b values := by
 unfold zy6 zx8
 rw [Bool.eq_iff_iff, List.all_eq_true, List.all_eq_true]
 have key : ∀ p ∈ b.Packs, zau b p.Ext = p := fun p hp => by
  obtain ⟨i, hi, rfl⟩ := List.getElem_of_mem hp
  exact zlz h hi
 exact ⟨fun hh p hp => by have := hh p hp; rwa [key p hp] at this, fun hh p hp => by rw [key p hp]; exact hh p hp⟩
set_option maxHeartbeats 2000000 in
theorem zi7 (b : GBrowser) (values : List Int) (cs : List C) (c : C) (S : Store) (h : Rd S b.d cs) (h' : Rd S [.sl 1 (values.map dInt)] [c]) : EvA Tryz.prog 15 [.agg cs, .s c] S (fun r S' => r = .v (.s (.bool (zy6 b values))) ∧ S' = S) := by
 refine EvA.drop rfl ?_
 have hB := h
 obtain ⟨b1, b2, b3, b4, b5, b6, rfl, t1, t2, t3, t4, t5, t6⟩ := GBrowser.inv h
 refine zac tok Tryz.func15 (by kernel_rfl) rfl ?_
 repeat' ((conv => whnf) <;> first
  | refine rE fun hml => ?_)
 (conv => whnf)
 refine zag {p : Nat × Store // p.1 ≤ b.Packs.length ∧ Ext S p.2 ∧ (b.Packs.drop p.1).all (fun p : GPackage => zyw b values (zau b p.Ext).Flows p.Ext) = zy6 b values} [4, 6, 8, 12, 13, 14, 15, 16, 17, 18, 19, 20, 21, 22, 23, 24, 25, 26, 27, 28, 29, 30, 31, 32, 33, 34, 35, 36, 37, 38, 39, 40] (fun zb => [(12, .v (.s (.int .i64 zb.1.1)))]) (fun zb => zb.1.2) (fun zb => b.Packs.length - zb.1.1) ⟨(0, S), Nat.zero_le _, Ext.refl _, rfl⟩ okL rfl ?_
 rintro ⟨⟨i, Si⟩, hi, hE, hinv⟩; dsimp only
 replace hi : i ≤ b.Packs.length := hi
 replace hE : Ext S Si := hE
 replace hinv : (b.Packs.drop i).all (fun p : GPackage => zyw b values (zau b p.Ext).Flows p.Ext) = zy6 b values := hinv
 by_cases hlt : i < b.Packs.length
 ·have hlt' : ((i : Nat) : Int).toNat < b.Packs.length := hlt
  have hinv : ((zd7 b (b.Packs[((i : Nat) : Int).toNat]'hlt').Ext values).all (fun s => zfe (zau b (b.Packs[((i : Nat) : Int).toNat]'hlt').Ext).Flows (b.Packs[((i : Nat) : Int).toNat]'hlt').Ext s.Label s.To) && (b.Packs.drop (i + 1)).all (fun p : GPackage => zyw b values (zau b p.Ext).Flows p.Ext)) = zy6 b values := (zf7 hlt).symm.trans hinv
  obtain ⟨pcs, hpr, hpld⟩ := zd6 t2 (i := ((i : Nat) : Int)) ⟨by omega, hlt'⟩
  obtain ⟨_, _, _, _, rfl, q1, q2, q3, q4⟩ := GPackage.inv hpr
  repeat' ((conv => whnf) <;> first
   | refine hpld _ (by first | assumption | exact Ext.refl _) _ ?_ | (show CondP _ _ _; refine cS ?_) | refine rI rdA rf ix ?_)
  all_goals try (exfalso; omega)
  (conv => whnf)
  refine zab (zhz b (b.Packs[((i : Nat) : Int).toNat]'hlt').Ext values _ _ _ (hB.ext hE) (h'.ext hE)) ?_; rintro _ S2 ⟨e2, cx, rfl, fx⟩
  have E2 := hE.trans e2
  generalize zd7 b (b.Packs[((i : Nat) : Int).toNat]'hlt').Ext values = x at *
  have rx := fx.rd
  have hb2 := hB.ext E2
  have r2 := q2.ext E2
  repeat' ((conv => whnf) <;> first
   | refine rE fun hml => ?_)
  (conv => whnf)
  refine zag {k : Nat // k ≤ x.length ∧ (x.drop k).all (fun s : GSent => zfe (zau b (b.Packs[((i : Nat) : Int).toNat]'hlt').Ext).Flows (b.Packs[((i : Nat) : Int).toNat]'hlt').Ext s.Label s.To) = x.all (fun s : GSent => zfe (zau b (b.Packs[((i : Nat) : Int).toNat]'hlt').Ext).Flows (b.Packs[((i : Nat) : Int).toNat]'hlt').Ext s.Label s.To)} [4, 8, 22, 23, 24, 25, 26, 27, 28, 29, 30, 31, 32, 33, 34, 35, 36, 37, 38, 39] (fun zb => [(22, .v (.s (.int .i64 zb.1)))]) (fun _ => S2) (fun zb => x.length - zb.1) ⟨0, Nat.zero_le _, rfl⟩ okL rfl ?_
  rintro ⟨k, hk, hknv⟩; dsimp only
  by_cases hkl : k < x.length
  ·have hkl' : ((k : Nat) : Int).toNat < x.length := hkl
   have hknv : (zfe (zau b (b.Packs[((i : Nat) : Int).toNat]'hlt').Ext).Flows (b.Packs[((i : Nat) : Int).toNat]'hlt').Ext (x[((k : Nat) : Int).toNat]'hkl').Label (x[((k : Nat) : Int).toNat]'hkl').To && (x.drop (k + 1)).all (fun s : GSent => zfe (zau b (b.Packs[((i : Nat) : Int).toNat]'hlt').Ext).Flows (b.Packs[((i : Nat) : Int).toNat]'hlt').Ext s.Label s.To)) = x.all (fun s : GSent => zfe (zau b (b.Packs[((i : Nat) : Int).toNat]'hlt').Ext).Flows (b.Packs[((i : Nat) : Int).toNat]'hlt').Ext s.Label s.To) := (zf7 hkl).symm.trans hknv
   cases hm : zfe (zau b (b.Packs[((i : Nat) : Int).toNat]'hlt').Ext).Flows (b.Packs[((i : Nat) : Int).toNat]'hlt').Ext (x[((k : Nat) : Int).toNat]'hkl').Label (x[((k : Nat) : Int).toNat]'hkl').To with
   | true =>
     rw [hm, Bool.true_and] at hknv
     repeat' ((conv => whnf) <;> first
      | (refine zaa (zhe (zau b (b.Packs[((i : Nat) : Int).toNat]'hlt').Ext).Flows (b.Packs[((i : Nat) : Int).toNat]'hlt').Ext (x[((k : Nat) : Int).toNat]'hkl').Label (x[((k : Nat) : Int).toNat]'hkl').To _ _ hf4) ?_) | (refine zab (ze9 b (b.Packs[((i : Nat) : Int).toNat]'hlt').Ext _ _ hb2) ?_; rintro _ _ ⟨rfl, _, w4, _, _, rfl, _, hf4, _, _⟩) | rw [zad (by omega)] | (show CondP _ _ _; refine cS ?_) | refine rI rdA rf ix ?_ | refine zaf rdA tv ix ?_ | refine zae 26 [.fl 0, .fl 1, .fl 2, .fl 5, .fl 6, .fl 7, .fl 8, .fl 9, .fl 10, .st 3 [5, 6, 7, 8, 9, 10], .fl 4, .st 11 [], .fl 12] (by rfl) (by kernel_rfl) ?_ | refine And.intro ?_ ?_)
     all_goals first
      | (exfalso; omega)
      | (refine ⟨⟨k + 1, by omega, hknv⟩, ?_, rfl, by dsimp only; omega⟩; (conv => whnf); repeat' (first | exact trivial | exact rfl | apply And.intro))
      | (exfalso; simp_all; done)
   | false =>
     rw [hm, Bool.false_and] at hknv
     rw [← hknv, Bool.false_and] at hinv
     rw [← hinv]
     repeat' ((conv => whnf) <;> first
      | (refine zaa (zhe (zau b (b.Packs[((i : Nat) : Int).toNat]'hlt').Ext).Flows (b.Packs[((i : Nat) : Int).toNat]'hlt').Ext (x[((k : Nat) : Int).toNat]'hkl').Label (x[((k : Nat) : Int).toNat]'hkl').To _ _ hf4) ?_) | (refine zab (ze9 b (b.Packs[((i : Nat) : Int).toNat]'hlt').Ext _ _ hb2) ?_; rintro _ _ ⟨rfl, _, w4, _, _, rfl, _, hf4, _, _⟩) | (show CondP _ _ _; refine cS ?_) | refine rI rdA rf ix ?_ | refine zaf rdA tv ix ?_ | refine zae 26 [.fl 0, .fl 1, .fl 2, .fl 5, .fl 6, .fl 7, .fl 8, .fl 9, .fl 10, .st 3 [5, 6, 7, 8, 9, 10], .fl 4, .st 11 [], .fl 12] (by rfl) (by kernel_rfl) ?_ | refine And.intro ?_ ?_)
     all_goals first
      | rfl
      | exact E2
      | (exfalso; omega)
      | (exfalso; simp_all; done)
  ·rw [zak (by omega), List.all_nil] at hknv
   rw [← hknv, Bool.true_and] at hinv
   repeat' ((conv => whnf) <;> first
    | rw [zad (by omega)] | (show CondP _ _ _; refine cS ?_))
   all_goals first
    | (exfalso; omega)
    | (refine ⟨⟨(i + 1, S2), by dsimp only; omega, E2, hinv⟩, ?_, rfl, by dsimp only; omega⟩; (conv => whnf); repeat' (first | exact trivial | exact rfl | (show _ = _; congr 3; dsimp only; omega) | apply And.intro))
 ·rw [zak (by omega), List.all_nil] at hinv
  rw [← hinv]
  repeat' ((conv => whnf) <;> first
   | (show CondP _ _ _; refine cS ?_) | refine And.intro ?_ ?_)
  all_goals first
   | rfl
   | exact hE
   | (exfalso; omega)
def zrd (b : GBrowser) : ByteArray :=
 if zaj b = true then
  if zfw b = true then
   if zho b = true then
    if zjt b = true then
     if zx8 b [] = true then ⟨#[]⟩ else ⟨#[102, 108, 111, 119]⟩
    else ⟨#[114, 117, 108, 101]⟩
   else ⟨#[114, 101, 118, 105, 101, 119]⟩
  else ⟨#[103, 114, 97, 110, 116]⟩
 else ⟨#[98, 114, 111, 119, 115, 101, 114]⟩
theorem zmw (b : GBrowser) (cs : List C) (S : Store) (h : Rd S b.d cs) (hz : szL b.d ≤ 2097152) : EvA Tryz.prog 10 [.agg cs] S (fun r S' => r = .v (.s (.str (zrd b))) ∧ S' = S) := by
 have hB := h
 obtain ⟨_, _, _, _, _, _, rfl, _, _, _, _, _, _⟩ := GBrowser.inv h
 unfold zrd
 cases a1 : zaj b <;> cases a2 : zfw b <;> cases a3 : zho b <;> cases a4 : zjt b <;> cases a5 : zx8 b []
 all_goals
  try have a6 := (zzn a1 []).trans a5
  refine zac tok Tryz.func10 (by kernel_rfl) rfl ?_
  repeat' ((conv => whnf) <;> first
   | (refine zaa (zi7 b [] _ _ _ hB (za6 (lo := 0) (by first | exact .inl rfl | exact .inr rfl)).rd) ?_) | (refine zaa (zu2 b _ _ hB) ?_) | (refine zaa (zov b _ _ hB hz) ?_) | (refine zaa (zqn b _ _ hB) ?_) | (refine zaa (zev b _ _ hB om) ?_) | (show CondP _ _ _; refine cS ?_) | refine And.intro ?_ ?_)
  all_goals first
   | rfl
   | (exfalso; simp_all; done)
end Go.Proofs.YtlmmdpmmdmhacaaGreat
