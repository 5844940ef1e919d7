/- What programs send; what leaves. -/
import Derived.Test.YtockphlpokoohaaGreatKq40
namespace Go.Proofs.YtockphlpokoohaaGreat
open Go Go.ChangeShapes Go.WideShapes Go.ChangeAt Go.RowKit
set_option linter.unusedVariables false
set_option linter.unusedSimpArgs false
set_option maxRecDepth 100000
def sentOk (flows : List GFlow) (ext : Int) (s : GSent) : Bool := mayFlow flows ext s.Label s.To
def runOps (l : List GOp) (values : List Int) (flows : List GFlow) (ext : Int) : List GSent := if areOps l then (mach values l).1.filter (sentOk flows ext) else []
theorem runOps_len (l : List GOp) (values : List Int) (flows : List GFlow) (ext : Int) : (runOps l values flows ext).length ≤ 16 := by
  unfold runOps
  split
  · rename_i h
    exact Nat.le_trans (List.length_filter_le _ _) (mach_len values h)
  · exact Nat.zero_le _
theorem ev_iRunOps (l : List GOp) (values : List Int) (flows : List GFlow) (ext : Int) (c c' c2 : C) (S : Store) (h : Rd S [.sl 4 (l.map GOp.d)] [c]) (h' : Rd S [.sl 1 (values.map dInt)] [c']) (h2 : Rd S [.sl 3 (flows.map GFlow.d)] [c2]) : EvA Tryz.prog 122 [.s c, .s c', .s c2, .s (.int .i64 ext)] S (fun r S' => Ext S S' ∧ ∃ d, r = .v (.s d) ∧ Fr S.length S' [.sl 3 ((runOps l values flows ext).map GSent.d)] [d]) := by
  rcases ho : areOps l with _ | _
  · rw [show runOps l values flows ext = [] from by unfold runOps; rw [ho]; rfl]
    refine evA_intro tok Tryz.func122 (by kernel_rfl) rfl ?_
    repeat' ((conv => whnf) <;> first
     | rw [wrapI_i64 (by omega)] | (show CondP _ _ _; refine cS ?_) | refine cD (fun _ => ?_) fun _ => ?_ | refine cE (fun _ => ?_) fun _ => ?_ | refine cT ?_ | refine cF ?_ | refine cN (fun _ => ?_) fun _ => ?_ | refine cI (fun _ => ?_) fun _ => ?_ | refine callP_eq (ev_iMayFlow _ _ _ _ _ _ rdA) ?_ | refine callP_eq (ev_iAreOps _ _ _ rdA) ?_ | (refine callP_intro (ev_executed _ _ _ _ _ rdA rdA aN) ?_; rintro _ Sn ⟨hEn, cn, cn2, rfl, hFn⟩) | refine rE fun hml => ?_ | refine rI rdA rf ix ?_ | refine rd_loadf rdA tv ix ?_ | refine nP ?_ | refine And.intro ?_ ?_)
    all_goals first
      | exact Ext.push _ _
      | exact ⟨_, rfl, fr_lit0⟩
      | (exfalso; simp_all; done)
  · rw [show runOps l values flows ext = (mach values l).1.filter (sentOk flows ext) from by unfold runOps; rw [ho]; rfl]
    have hml := mach_len values ho
    refine evA_intro tok Tryz.func122 (by kernel_rfl) rfl ?_
    repeat' ((conv => whnf) <;> first
     | rw [wrapI_i64 (by omega)] | (show CondP _ _ _; refine cS ?_) | refine cD (fun _ => ?_) fun _ => ?_ | refine cE (fun _ => ?_) fun _ => ?_ | refine cT ?_ | refine cF ?_ | refine cN (fun _ => ?_) fun _ => ?_ | refine cI (fun _ => ?_) fun _ => ?_ | refine callP_eq (ev_iMayFlow _ _ _ _ _ _ rdA) ?_ | refine callP_eq (ev_iAreOps _ _ _ rdA) ?_ | refine rE fun hml => ?_ | refine rI rdA rf ix ?_ | refine rd_loadf rdA tv ix ?_ | refine nP ?_ | refine And.intro ?_ ?_)
    (conv => whnf)
    refine callP_intro (ev_executed l values _ _ _ (h.ext (Ext.push _ _)) (h'.ext (Ext.push _ _)) ho) ?_; rintro _ S1 ⟨e1, c3, c4, rfl, f1⟩
    have f0 := (fr_lit0 (S := S) (k := 3)).join e1 f1 (Ext.push S _).len
    have E1 : Ext S S1 := (Ext.push _ _).trans e1
    generalize (mach values l).1 = x at *
    generalize (mach values l).2.2 = lb at *
    have r1 := f0.rdAt (o := 1) (d := .sl 3 (x.map GSent.d)) rfl rfl
    repeat' ((conv => whnf) <;> first
     | rw [wrapI_i64 (by omega)] | (show CondP _ _ _; refine cS ?_) | refine cD (fun _ => ?_) fun _ => ?_ | refine cE (fun _ => ?_) fun _ => ?_ | refine cT ?_ | refine cF ?_ | refine cN (fun _ => ?_) fun _ => ?_ | refine cI (fun _ => ?_) fun _ => ?_ | refine callP_eq (ev_iMayFlow _ _ _ _ _ _ rdA) ?_ | refine callP_eq (ev_iAreOps _ _ _ rdA) ?_ | refine rE fun hml => ?_ | refine rI rdA rf ix ?_ | refine rd_loadf rdA tv ix ?_ | refine nP ?_ | refine And.intro ?_ ?_)
    (conv => whnf)
    refine loop_intro {p : Nat × Store × C // p.1 ≤ x.length ∧ Ext S p.2.1 ∧ Fr S.length p.2.1 [.sl 3 (((x.take p.1).filter (sentOk flows ext)).map GSent.d), .sl 3 (x.map GSent.d), .sl 1 (lb.map dInt)] [p.2.2, c3, c4]} [9, 13, 27, 28, 29, 30, 31, 32, 33, 34, 35, 36, 37, 38, 39, 40, 41, 42] (fun zb => [(27, .v (.s (.int .i64 zb.1.1))), (9, .v (.s zb.1.2.2))]) (fun zb => zb.1.2.1) (fun zb => x.length - zb.1.1) ⟨(0, _, _), Nat.zero_le _, E1, f0⟩ ?_ rfl ?_
    · (conv => whnf); repeat' (first | exact trivial | exact rfl | apply And.intro)
    rintro ⟨⟨i, Si, ci⟩, hi, hE, hF⟩; dsimp only
    replace hi : i ≤ x.length := hi
    replace hE : Ext S Si := hE
    replace hF : Fr S.length Si [.sl 3 (((x.take i).filter (sentOk flows ext)).map GSent.d), .sl 3 (x.map GSent.d), .sl 1 (lb.map dInt)] [ci, c3, c4] := hF
    have r2 := hF.rdAt (o := 1) (d := .sl 3 (x.map GSent.d)) rfl rfl
    have hfl := filter_len (sentOk flows ext) x i
    by_cases hlt : i < x.length
    · rcases hP : sentOk flows ext (x[((i : Nat) : Int).toNat]'hlt) with _ | _
      · have hp := filter_f hlt hP
        unfold sentOk at hP
        repeat' ((conv => whnf) <;> first
         | rw [wrapI_i64 (by omega)] | (show CondP _ _ _; refine cS ?_) | refine cD (fun _ => ?_) fun _ => ?_ | refine cE (fun _ => ?_) fun _ => ?_ | refine cT ?_ | refine cF ?_ | refine cN (fun _ => ?_) fun _ => ?_ | refine cI (fun _ => ?_) fun _ => ?_ | refine callP_eq (ev_iMayFlow _ _ _ _ _ _ rdA) ?_ | refine callP_eq (ev_iAreOps _ _ _ rdA) ?_ | (refine callP_intro (ev_executed _ _ _ _ _ rdA rdA aN) ?_; rintro _ Sn ⟨hEn, cn, cn2, rfl, hFn⟩) | refine rE fun hml => ?_ | refine rI rdA rf ix ?_ | refine rd_loadf rdA tv ix ?_ | refine nP ?_ | refine And.intro ?_ ?_)
        all_goals first
          | (exfalso; omega)
          | (refine ⟨⟨(i + 1, _, _), by dsimp only; omega, hE, by rw [hp]; exact hF⟩, ?_, rfl, by dsimp only; omega⟩; (conv => whnf); repeat' (first | exact trivial | exact rfl | (show _ = _; congr 3; dsimp only; omega) | apply And.intro))
      · have hp := filter_t hlt hP
        unfold sentOk at hP
        repeat' ((conv => whnf) <;> first
         | rw [wrapI_i64 (by omega)] | (show CondP _ _ _; refine cS ?_) | refine cD (fun _ => ?_) fun _ => ?_ | refine cE (fun _ => ?_) fun _ => ?_ | refine cT ?_ | refine cF ?_ | refine cN (fun _ => ?_) fun _ => ?_ | refine cI (fun _ => ?_) fun _ => ?_ | refine callP_eq (ev_iMayFlow _ _ _ _ _ _ rdA) ?_ | refine callP_eq (ev_iAreOps _ _ _ rdA) ?_ | (refine callP_intro (ev_executed _ _ _ _ _ rdA rdA aN) ?_; rintro _ Sn ⟨hEn, cn, cn2, rfl, hFn⟩) | refine rE fun hml => ?_ | refine rI rdA rf ix ?_ | refine rd_loadf rdA tv ix ?_ | refine nP ?_ | (refine fr_appAtF (f := GSent.d) (o := 0) (l := (x.take i).filter (sentOk flows ext)) (m := [x[i]'hlt]) (fun _ => trivial) hE hF rfl rfl (by rfl) rf (by dsimp only [T62]; simp only [List.length_cons, List.length_nil]; omega) (by simp only [List.length_cons, List.length_nil]; omega) ?_; intro cN SN hEN hFN hlN) | refine And.intro ?_ ?_)
        all_goals first
          | (exfalso; omega)
          | (refine ⟨⟨(i + 1, _, _), by dsimp only; omega, by assumption, by rw [hp]; exact hFN⟩, ?_, rfl, by dsimp only; omega⟩; (conv => whnf); repeat' (first | exact trivial | exact rfl | (show _ = _; congr 3; dsimp only; omega) | apply And.intro))
    · rw [List.take_of_length_le (by omega)] at hF
      repeat' ((conv => whnf) <;> first
       | rw [wrapI_i64 (by omega)] | (show CondP _ _ _; refine cS ?_) | refine cD (fun _ => ?_) fun _ => ?_ | refine cE (fun _ => ?_) fun _ => ?_ | refine cT ?_ | refine cF ?_ | refine cN (fun _ => ?_) fun _ => ?_ | refine cI (fun _ => ?_) fun _ => ?_ | refine callP_eq (ev_iMayFlow _ _ _ _ _ _ rdA) ?_ | refine callP_eq (ev_iAreOps _ _ _ rdA) ?_ | (refine callP_intro (ev_executed _ _ _ _ _ rdA rdA aN) ?_; rintro _ Sn ⟨hEn, cn, cn2, rfl, hFn⟩) | refine rE fun hml => ?_ | refine rI rdA rf ix ?_ | refine rd_loadf rdA tv ix ?_ | refine nP ?_ | refine And.intro ?_ ?_)
      all_goals first
        | exact hE
        | (exfalso; omega)
        | exact ⟨_, rfl, Fr.left (ds := [_]) (cs := [_]) hF rfl⟩
def sentFrom (b : GBrowser) (ext : Int) (values : List Int) : List GSent := if 0 ≤ packOf b ext then (runOps (packageOf b ext).Ops (valuesFor b ext values) (packageOf b ext).Flows ext).filter (fun s => mayNow b ext s.To 3) else []
theorem sentFrom_len (b : GBrowser) (ext : Int) (values : List Int) : (sentFrom b ext values).length ≤ 16 := by
  unfold sentFrom
  split
  · exact Nat.le_trans (List.length_filter_le _ _) (runOps_len _ _ _ _)
  · exact Nat.zero_le _
theorem ev_iSentFrom (b : GBrowser) (ext : Int) (values : List Int) (cs : List C) (c : C) (S : Store) (h : Rd S b.d cs) (h' : Rd S [.sl 1 (values.map dInt)] [c]) : EvA Tryz.prog 23 [.agg cs, .s (.int .i64 ext), .s c] S (fun r S' => Ext S S' ∧ ∃ d, r = .v (.s d) ∧ Fr S.length S' [.sl 3 ((sentFrom b ext values).map GSent.d)] [d]) := by
  obtain ⟨_, _, _, _, _, _, rfl, _, _, _, _, _, _⟩ := GBrowser.inv h
  by_cases hp0 : 0 ≤ packOf b ext
  · have hpl : (packOf b ext).toNat < b.Packs.length := by have := packOf_lt b ext; omega
    have hp1 : 0 ≤ packOf b ext ∧ (packOf b ext).toNat < b.Packs.length := ⟨hp0, hpl⟩
    rw [show sentFrom b ext values = (runOps (b.Packs[(packOf b ext).toNat]'hpl).Ops (valuesFor b ext values) (b.Packs[(packOf b ext).toNat]'hpl).Flows ext).filter (fun s => mayNow b ext s.To 3) from by unfold sentFrom; rw [if_pos hp0, packageOf_in hp0 hpl]]
    have hrl := runOps_len (b.Packs[(packOf b ext).toNat]'hpl).Ops (valuesFor b ext values) (b.Packs[(packOf b ext).toNat]'hpl).Flows ext
    have hpk : Rd S [.sl 8 (b.Packs.map GPackage.d)] _ := (by assumption)
    obtain ⟨pcs, hpr, hpld⟩ := rd_loadx hpk hp1
    obtain ⟨_, _, _, _, rfl, _, _, _, _⟩ := GPackage.inv hpr
    refine evA_intro tok Tryz.func23 (by kernel_rfl) rfl ?_
    repeat' ((conv => whnf) <;> first
     | refine hpld _ (by first | assumption | exact Ext.push _ _) _ ?_ | rw [wrapI_i64 (by omega)] | (show CondP _ _ _; refine cS ?_) | refine cD (fun _ => ?_) fun _ => ?_ | refine cE (fun _ => ?_) fun _ => ?_ | refine cT ?_ | refine cF ?_ | refine cN (fun _ => ?_) fun _ => ?_ | refine cI (fun _ => ?_) fun _ => ?_ | (refine callP_eq (ev_iPackOf _ _ _ _ rdcA) ?_) | (refine callP_eq (ev_mayNow _ _ _ _ _ _ rdcA) ?_) | refine rE fun hml => ?_ | refine rI rdA rf ix ?_ | refine rd_loadf rdA tv ix ?_ | (refine rd_loadm (f := GPackage.d) rdA ix ?_; intro _ hcs; obtain ⟨_, _, _, _, rfl, _, _, _, _⟩ := GPackage.inv hcs) | refine nP ?_ | refine draw_intro 18 [.fl 0, .fl 1, .fl 2, .fl 3, .fl 4, .fl 5, .fl 6, .fl 7, .fl 8, .fl 10, .fl 11, .fl 12, .fl 13, .fl 14, .fl 15, .fl 16, .fl 19, .st 9 [0, 1, 2, 3, 4, 5, 10, 11, 12, 13, 14, 15, 16, 19], .st 17 [19], .fl 18] (by rfl) (by kernel_rfl) ?_ | refine And.intro ?_ ?_)
    (conv => whnf)
    refine callP_intro (ev_iValuesFor b ext values _ _ _ (h.ext (Ext.push _ _)) (h'.ext (Ext.push _ _))) ?_; rintro _ S1 ⟨e1, cv, rfl, fv⟩
    have E1 : Ext S S1 := (Ext.push _ _).trans e1
    repeat' ((conv => whnf) <;> first
     | refine hpld _ (by first | assumption | exact Ext.push _ _) _ ?_ | rw [wrapI_i64 (by omega)] | (show CondP _ _ _; refine cS ?_) | refine cD (fun _ => ?_) fun _ => ?_ | refine cE (fun _ => ?_) fun _ => ?_ | refine cT ?_ | refine cF ?_ | refine cN (fun _ => ?_) fun _ => ?_ | refine cI (fun _ => ?_) fun _ => ?_ | (refine callP_eq (ev_iPackOf _ _ _ _ rdcA) ?_) | (refine callP_eq (ev_mayNow _ _ _ _ _ _ rdcA) ?_) | refine rE fun hml => ?_ | refine rI rdA rf ix ?_ | refine rd_loadf rdA tv ix ?_ | (refine rd_loadm (f := GPackage.d) rdA ix ?_; intro _ hcs; obtain ⟨_, _, _, _, rfl, _, _, _, _⟩ := GPackage.inv hcs) | refine nP ?_ | refine draw_intro 18 [.fl 0, .fl 1, .fl 2, .fl 3, .fl 4, .fl 5, .fl 6, .fl 7, .fl 8, .fl 10, .fl 11, .fl 12, .fl 13, .fl 14, .fl 15, .fl 16, .fl 19, .st 9 [0, 1, 2, 3, 4, 5, 10, 11, 12, 13, 14, 15, 16, 19], .st 17 [19], .fl 18] (by rfl) (by kernel_rfl) ?_ | refine And.intro ?_ ?_)
    (conv => whnf)
    refine callP_intro (ev_iRunOps (b.Packs[(packOf b ext).toNat]'hpl).Ops (valuesFor b ext values) (b.Packs[(packOf b ext).toNat]'hpl).Flows ext _ _ _ _ rdA fv.rd rdA) ?_; rintro _ S2 ⟨e2, cx, rfl, fx⟩
    have f0 := (fr_lit0 (S := S) (k := 3)).join (e1.trans e2) (fx.mono e1.len) (Ext.push S _).len
    have E2 : Ext S S2 := E1.trans e2
    generalize runOps (b.Packs[(packOf b ext).toNat]'hpl).Ops (valuesFor b ext values) (b.Packs[(packOf b ext).toNat]'hpl).Flows ext = x at *
    have r1 := f0.rdAt (o := 1) (d := .sl 3 (x.map GSent.d)) rfl rfl
    clear fx fv
    repeat' ((conv => whnf) <;> first
     | rw [wrapI_i64 (by omega)] | (show CondP _ _ _; refine cS ?_) | refine cD (fun _ => ?_) fun _ => ?_ | refine cE (fun _ => ?_) fun _ => ?_ | refine cT ?_ | refine cF ?_ | refine cN (fun _ => ?_) fun _ => ?_ | refine cI (fun _ => ?_) fun _ => ?_ | (refine callP_eq (ev_iPackOf _ _ _ _ rdcA) ?_) | (refine callP_eq (ev_mayNow _ _ _ _ _ _ rdcA) ?_) | refine rE fun hml => ?_ | refine rI rdA rf ix ?_ | refine rd_loadf rdA tv ix ?_ | (refine rd_loadm (f := GPackage.d) rdA ix ?_; intro _ hcs; obtain ⟨_, _, _, _, rfl, _, _, _, _⟩ := GPackage.inv hcs) | refine nP ?_ | refine draw_intro 18 [.fl 0, .fl 1, .fl 2, .fl 3, .fl 4, .fl 5, .fl 6, .fl 7, .fl 8, .fl 10, .fl 11, .fl 12, .fl 13, .fl 14, .fl 15, .fl 16, .fl 19, .st 9 [0, 1, 2, 3, 4, 5, 10, 11, 12, 13, 14, 15, 16, 19], .st 17 [19], .fl 18] (by rfl) (by kernel_rfl) ?_ | refine And.intro ?_ ?_)
    (conv => whnf)
    refine loop_intro {p : Nat × Store × C // p.1 ≤ x.length ∧ Ext S p.2.1 ∧ Fr S.length p.2.1 [.sl 3 (((x.take p.1).filter (fun s => mayNow b ext s.To 3)).map GSent.d), .sl 3 (x.map GSent.d)] [p.2.2, cx]} [7, 10, 37, 38, 39, 40, 41, 42, 43, 44, 45, 46, 47, 48, 49, 50] (fun zb => [(37, .v (.s (.int .i64 zb.1.1))), (7, .v (.s zb.1.2.2))]) (fun zb => zb.1.2.1) (fun zb => x.length - zb.1.1) ⟨(0, _, _), Nat.zero_le _, E2, f0⟩ ?_ rfl ?_
    · (conv => whnf); repeat' (first | exact trivial | exact rfl | apply And.intro)
    rintro ⟨⟨i, Si, ci⟩, hi, hE, hF⟩; dsimp only
    replace hi : i ≤ x.length := hi
    replace hE : Ext S Si := hE
    replace hF : Fr S.length Si [.sl 3 (((x.take i).filter (fun s => mayNow b ext s.To 3)).map GSent.d), .sl 3 (x.map GSent.d)] [ci, cx] := hF
    have r2 := hF.rdAt (o := 1) (d := .sl 3 (x.map GSent.d)) rfl rfl
    have hfl := filter_len (fun s => mayNow b ext s.To 3) x i
    have hbr := h.ext hE
    by_cases hlt : i < x.length
    · rcases hP : mayNow b ext (x[((i : Nat) : Int).toNat]'hlt).To 3 with _ | _
      · have hp := filter_f (P := fun s : GSent => mayNow b ext s.To 3) hlt hP
        repeat' ((conv => whnf) <;> first
         | rw [wrapI_i64 (by omega)] | (show CondP _ _ _; refine cS ?_) | refine cD (fun _ => ?_) fun _ => ?_ | refine cE (fun _ => ?_) fun _ => ?_ | refine cT ?_ | refine cF ?_ | refine cN (fun _ => ?_) fun _ => ?_ | refine cI (fun _ => ?_) fun _ => ?_ | (refine callP_eq (ev_iPackOf _ _ _ _ rdcA) ?_) | (refine callP_intro (ev_iValuesFor _ _ _ _ _ _ rdcA rdA) ?_; rintro _ Sn ⟨hEn, cn, rfl, hFn⟩) | (refine callP_intro (ev_iRunOps _ _ _ _ _ _ _ _ rdA rdA rdA) ?_; rintro _ Sn ⟨hEn, cn, rfl, hFn⟩) | (refine callP_eq (ev_mayNow _ _ _ _ _ _ rdcA) ?_) | refine rE fun hml => ?_ | refine rI rdA rf ix ?_ | refine rd_loadf rdA tv ix ?_ | (refine rd_loadm (f := GPackage.d) rdA ix ?_; intro _ hcs; obtain ⟨_, _, _, _, rfl, _, _, _, _⟩ := GPackage.inv hcs) | refine nP ?_ | refine draw_intro 18 [.fl 0, .fl 1, .fl 2, .fl 3, .fl 4, .fl 5, .fl 6, .fl 7, .fl 8, .fl 10, .fl 11, .fl 12, .fl 13, .fl 14, .fl 15, .fl 16, .fl 19, .st 9 [0, 1, 2, 3, 4, 5, 10, 11, 12, 13, 14, 15, 16, 19], .st 17 [19], .fl 18] (by rfl) (by kernel_rfl) ?_ | refine And.intro ?_ ?_)
        all_goals first
          | (exfalso; omega)
          | (refine ⟨⟨(i + 1, _, _), by dsimp only; omega, hE, by rw [hp]; exact hF⟩, ?_, rfl, by dsimp only; omega⟩; (conv => whnf); repeat' (first | exact trivial | exact rfl | (show _ = _; congr 3; dsimp only; omega) | apply And.intro))
      · have hp := filter_t (P := fun s : GSent => mayNow b ext s.To 3) hlt hP
        repeat' ((conv => whnf) <;> first
         | rw [wrapI_i64 (by omega)] | (show CondP _ _ _; refine cS ?_) | refine cD (fun _ => ?_) fun _ => ?_ | refine cE (fun _ => ?_) fun _ => ?_ | refine cT ?_ | refine cF ?_ | refine cN (fun _ => ?_) fun _ => ?_ | refine cI (fun _ => ?_) fun _ => ?_ | (refine callP_eq (ev_iPackOf _ _ _ _ rdcA) ?_) | (refine callP_intro (ev_iValuesFor _ _ _ _ _ _ rdcA rdA) ?_; rintro _ Sn ⟨hEn, cn, rfl, hFn⟩) | (refine callP_intro (ev_iRunOps _ _ _ _ _ _ _ _ rdA rdA rdA) ?_; rintro _ Sn ⟨hEn, cn, rfl, hFn⟩) | (refine callP_eq (ev_mayNow _ _ _ _ _ _ rdcA) ?_) | refine rE fun hml => ?_ | refine rI rdA rf ix ?_ | refine rd_loadf rdA tv ix ?_ | (refine rd_loadm (f := GPackage.d) rdA ix ?_; intro _ hcs; obtain ⟨_, _, _, _, rfl, _, _, _, _⟩ := GPackage.inv hcs) | refine nP ?_ | refine draw_intro 18 [.fl 0, .fl 1, .fl 2, .fl 3, .fl 4, .fl 5, .fl 6, .fl 7, .fl 8, .fl 10, .fl 11, .fl 12, .fl 13, .fl 14, .fl 15, .fl 16, .fl 19, .st 9 [0, 1, 2, 3, 4, 5, 10, 11, 12, 13, 14, 15, 16, 19], .st 17 [19], .fl 18] (by rfl) (by kernel_rfl) ?_ | (refine fr_appAtF (f := GSent.d) (o := 0) (l := (x.take i).filter (fun s => mayNow b ext s.To 3)) (m := [x[i]'hlt]) (fun _ => trivial) hE hF rfl rfl (by rfl) rf (by dsimp only [T62]; simp only [List.length_cons, List.length_nil]; omega) (by simp only [List.length_cons, List.length_nil]; omega) ?_; intro cN SN hEN hFN hlN) | refine And.intro ?_ ?_)
        all_goals first
          | (exfalso; omega)
          | (refine ⟨⟨(i + 1, _, _), by dsimp only; omega, by assumption, by rw [hp]; exact hFN⟩, ?_, rfl, by dsimp only; omega⟩; (conv => whnf); repeat' (first | exact trivial | exact rfl | (show _ = _; congr 3; dsimp only; omega) | apply And.intro))
    · rw [List.take_of_length_le (by omega)] at hF
      repeat' ((conv => whnf) <;> first
       | rw [wrapI_i64 (by omega)] | (show CondP _ _ _; refine cS ?_) | refine cD (fun _ => ?_) fun _ => ?_ | refine cE (fun _ => ?_) fun _ => ?_ | refine cT ?_ | refine cF ?_ | refine cN (fun _ => ?_) fun _ => ?_ | refine cI (fun _ => ?_) fun _ => ?_ | (refine callP_eq (ev_iPackOf _ _ _ _ rdcA) ?_) | (refine callP_intro (ev_iValuesFor _ _ _ _ _ _ rdcA rdA) ?_; rintro _ Sn ⟨hEn, cn, rfl, hFn⟩) | (refine callP_intro (ev_iRunOps _ _ _ _ _ _ _ _ rdA rdA rdA) ?_; rintro _ Sn ⟨hEn, cn, rfl, hFn⟩) | (refine callP_eq (ev_mayNow _ _ _ _ _ _ rdcA) ?_) | refine rE fun hml => ?_ | refine rI rdA rf ix ?_ | refine rd_loadf rdA tv ix ?_ | (refine rd_loadm (f := GPackage.d) rdA ix ?_; intro _ hcs; obtain ⟨_, _, _, _, rfl, _, _, _, _⟩ := GPackage.inv hcs) | refine nP ?_ | refine draw_intro 18 [.fl 0, .fl 1, .fl 2, .fl 3, .fl 4, .fl 5, .fl 6, .fl 7, .fl 8, .fl 10, .fl 11, .fl 12, .fl 13, .fl 14, .fl 15, .fl 16, .fl 19, .st 9 [0, 1, 2, 3, 4, 5, 10, 11, 12, 13, 14, 15, 16, 19], .st 17 [19], .fl 18] (by rfl) (by kernel_rfl) ?_ | refine And.intro ?_ ?_)
      all_goals first
        | exact hE
        | (exfalso; omega)
        | exact ⟨_, rfl, Fr.left (ds := [_]) (cs := [_]) hF rfl⟩
  · rw [show sentFrom b ext values = [] from by unfold sentFrom; rw [if_neg hp0]]
    refine evA_intro tok Tryz.func23 (by kernel_rfl) rfl ?_
    repeat' ((conv => whnf) <;> first
     | rw [wrapI_i64 (by omega)] | (show CondP _ _ _; refine cS ?_) | refine cD (fun _ => ?_) fun _ => ?_ | refine cE (fun _ => ?_) fun _ => ?_ | refine cT ?_ | refine cF ?_ | refine cN (fun _ => ?_) fun _ => ?_ | refine cI (fun _ => ?_) fun _ => ?_ | (refine callP_eq (ev_iPackOf _ _ _ _ rdcA) ?_) | (refine callP_intro (ev_iValuesFor _ _ _ _ _ _ rdcA rdA) ?_; rintro _ Sn ⟨hEn, cn, rfl, hFn⟩) | (refine callP_intro (ev_iRunOps _ _ _ _ _ _ _ _ rdA rdA rdA) ?_; rintro _ Sn ⟨hEn, cn, rfl, hFn⟩) | (refine callP_eq (ev_mayNow _ _ _ _ _ _ rdcA) ?_) | refine rE fun hml => ?_ | refine rI rdA rf ix ?_ | refine rd_loadf rdA tv ix ?_ | (refine rd_loadm (f := GPackage.d) rdA ix ?_; intro _ hcs; obtain ⟨_, _, _, _, rfl, _, _, _, _⟩ := GPackage.inv hcs) | refine nP ?_ | refine draw_intro 18 [.fl 0, .fl 1, .fl 2, .fl 3, .fl 4, .fl 5, .fl 6, .fl 7, .fl 8, .fl 10, .fl 11, .fl 12, .fl 13, .fl 14, .fl 15, .fl 16, .fl 19, .st 9 [0, 1, 2, 3, 4, 5, 10, 11, 12, 13, 14, 15, 16, 19], .st 17 [19], .fl 18] (by rfl) (by kernel_rfl) ?_ | refine And.intro ?_ ?_)
    all_goals first
      | exact Ext.push _ _
      | exact ⟨_, rfl, fr_lit0⟩
      | (exfalso; omega)
def leaving (b : GBrowser) (values : List Int) : List GSent := b.Packs.flatMap fun p : GPackage => sentFrom b p.Ext values
theorem leaving_take {b : GBrowser} {values : List Int} {i : Nat} (h : i < b.Packs.length) : (b.Packs.take (i + 1)).flatMap (fun p : GPackage => sentFrom b p.Ext values) = (b.Packs.take i).flatMap (fun p : GPackage => sentFrom b p.Ext values) ++ sentFrom b (b.Packs[i]).Ext values := by
  rw [List.take_succ_eq_append_getElem h, List.flatMap_append]; simp
theorem leaving_len (b : GBrowser) (values : List Int) : ∀ l : List GPackage, (l.flatMap fun p : GPackage => sentFrom b p.Ext values).length ≤ 16 * l.length
  | [] => Nat.zero_le _
  | p :: l => by
    rw [List.flatMap_cons, List.length_append, List.length_cons]
    have h1 := sentFrom_len b p.Ext values
    have h2 := leaving_len b values l
    omega
set_option maxHeartbeats 1000000 in
theorem ev_iLeaving (b : GBrowser) (values : List Int) (cs : List C) (c : C) (S : Store) (h : Rd S b.d cs) (h' : Rd S [.sl 1 (values.map dInt)] [c]) (hz : szL b.d ≤ 2097152) : EvA Tryz.prog 34 [.agg cs, .s c] S (fun r S' => Ext S S' ∧ ∃ d, r = .v (.s d) ∧ Fr S.length S' [.sl 3 ((leaving b values).map GSent.d)] [d]) := by
  have hzs := hz
  simp only [GBrowser.d, szL, List.length_map] at hzs
  obtain ⟨_, _, _, _, _, _, rfl, _, _, _, _, _, _⟩ := GBrowser.inv h
  refine evA_intro tok Tryz.func34 (by kernel_rfl) rfl ?_
  repeat' ((conv => whnf) <;> first
   | rw [wrapI_i64 (by omega)] | refine cD (fun _ => ?_) fun _ => ?_ | refine cE (fun _ => ?_) fun _ => ?_ | refine cT ?_ | refine cF ?_ | refine cN (fun _ => ?_) fun _ => ?_ | refine cI (fun _ => ?_) fun _ => ?_ | refine rE fun hml => ?_ | refine rI rdA rf ix ?_ | (refine rd_loadm (f := GPackage.d) rdA ix ?_; intro _ hcs; obtain ⟨_, _, _, _, rfl, _, _, _, _⟩ := GPackage.inv hcs) | refine nP ?_ | refine And.intro ?_ ?_)
  refine loop_intro {p : Nat × Store × C // p.1 ≤ b.Packs.length ∧ Ext S p.2.1 ∧ Fr S.length p.2.1 [.sl 3 (((b.Packs.take p.1).flatMap (fun p : GPackage => sentFrom b p.Ext values)).map GSent.d)] [p.2.2]} [5, 7, 12, 13, 14, 15, 16, 17, 18, 19, 20, 21, 22, 23] (fun zb => [(12, .v (.s (.int .i64 (zb.1.1)))), (5, .v (.s zb.1.2.2))]) (fun zb => zb.1.2.1) (fun zb => b.Packs.length - zb.1.1) ⟨(0, _, _), Nat.zero_le _, Ext.push _ _, fr_lit0⟩ ?_ rfl ?_
  · (conv => whnf); repeat' (first | exact trivial | exact rfl | apply And.intro)
  rintro ⟨⟨i, Si, ci⟩, hi, hE, hF⟩; dsimp only
  replace hi : i ≤ b.Packs.length := hi
  replace hE : Ext S Si := hE
  replace hF : Fr S.length Si [.sl 3 (((b.Packs.take i).flatMap (fun p : GPackage => sentFrom b p.Ext values)).map GSent.d)] [ci] := hF
  have hfl := leaving_len b values (b.Packs.take i)
  rw [List.length_take] at hfl
  have hbr := h.ext hE
  have hvr := h'.ext hE
  by_cases hlt : i < b.Packs.length
  · have hst := leaving_take (values := values) hlt
    have hsl := sentFrom_len b (b.Packs[i]'hlt).Ext values
    repeat' ((conv => whnf) <;> first
     | rw [wrapI_i64 (by omega)] | (show CondP _ _ _; refine cS ?_) | refine cD (fun _ => ?_) fun _ => ?_ | refine cE (fun _ => ?_) fun _ => ?_ | refine cT ?_ | refine cF ?_ | refine cN (fun _ => ?_) fun _ => ?_ | refine cI (fun _ => ?_) fun _ => ?_ | refine rE fun hml => ?_ | refine rI rdA rf ix ?_ | (refine rd_loadm (f := GPackage.d) rdA ix ?_; intro _ hcs; obtain ⟨_, _, _, _, rfl, _, _, _, _⟩ := GPackage.inv hcs) | refine nP ?_ | refine And.intro ?_ ?_)
    all_goals try (exfalso; omega)
    (conv => whnf)
    refine callP_intro (ev_iSentFrom b (b.Packs[((i : Nat) : Int).toNat]'hlt).Ext values _ _ _ hbr hvr) ?_; rintro _ S2 ⟨e2, cx, rfl, fx⟩
    repeat' ((conv => whnf) <;> first
     | rw [wrapI_i64 (by omega)] | (show CondP _ _ _; refine cS ?_) | refine cD (fun _ => ?_) fun _ => ?_ | refine cE (fun _ => ?_) fun _ => ?_ | refine cT ?_ | refine cF ?_ | refine cN (fun _ => ?_) fun _ => ?_ | refine cI (fun _ => ?_) fun _ => ?_ | refine rE fun hml => ?_ | refine rI rdA rf ix ?_ | (refine rd_loadm (f := GPackage.d) rdA ix ?_; intro _ hcs; obtain ⟨_, _, _, _, rfl, _, _, _, _⟩ := GPackage.inv hcs) | refine nP ?_ | (refine rd_elemsf (f := GSent.d) (l := sentFrom b (b.Packs[((i : Nat) : Int).toNat]'hlt).Ext values) fx.rd tv (fun _ => ?_)) | refine And.intro ?_ ?_)
    (conv => whnf)
    refine fr_app_flat (f := GSent.d) (S0 := S) (l := (b.Packs.take i).flatMap (fun p : GPackage => sentFrom b p.Ext values)) (m := sentFrom b (b.Packs[i]'hlt).Ext values) (fun _ => trivial) (hE.trans e2) (hF.ext e2) rfl (by intro _; rfl) (by dsimp only [T62]; omega) (by rw [maxLen_eq]; omega) ?_; intro cN SN hEN hFN hlN
    repeat' ((conv => whnf) <;> first
     | rw [wrapI_i64 (by omega)] | (show CondP _ _ _; refine cS ?_) | refine cD (fun _ => ?_) fun _ => ?_ | refine cE (fun _ => ?_) fun _ => ?_ | refine cT ?_ | refine cF ?_ | refine cN (fun _ => ?_) fun _ => ?_ | refine cI (fun _ => ?_) fun _ => ?_ | (refine callP_intro (ev_iSentFrom _ _ _ _ _ _ rdcA rdA) ?_; rintro _ Sn ⟨hEn, cn, rfl, hFn⟩) | refine rE fun hml => ?_ | refine rI rdA rf ix ?_ | (refine rd_loadm (f := GPackage.d) rdA ix ?_; intro _ hcs; obtain ⟨_, _, _, _, rfl, _, _, _, _⟩ := GPackage.inv hcs) | refine nP ?_ | refine And.intro ?_ ?_)
    all_goals first
      | (exfalso; omega)
      | (refine ⟨⟨(i + 1, _, _), by dsimp only; omega, by assumption, by rw [hst]; assumption⟩, ?_, rfl, by dsimp only; omega⟩; (conv => whnf); repeat' (first | exact trivial | exact rfl | (show _ = _; congr 3; dsimp only; omega) | apply And.intro))
  · rw [List.take_of_length_le (by omega)] at hF
    repeat' ((conv => whnf) <;> first
     | rw [wrapI_i64 (by omega)] | (show CondP _ _ _; refine cS ?_) | refine cD (fun _ => ?_) fun _ => ?_ | refine cE (fun _ => ?_) fun _ => ?_ | refine cT ?_ | refine cF ?_ | refine cN (fun _ => ?_) fun _ => ?_ | refine cI (fun _ => ?_) fun _ => ?_ | (refine callP_intro (ev_iSentFrom _ _ _ _ _ _ rdcA rdA) ?_; rintro _ Sn ⟨hEn, cn, rfl, hFn⟩) | refine rE fun hml => ?_ | refine rI rdA rf ix ?_ | (refine rd_loadm (f := GPackage.d) rdA ix ?_; intro _ hcs; obtain ⟨_, _, _, _, rfl, _, _, _, _⟩ := GPackage.inv hcs) | refine nP ?_ | refine And.intro ?_ ?_)
    all_goals first
      | exact hE
      | (exfalso; omega)
      | exact ⟨_, rfl, hF⟩
end Go.Proofs.YtockphlpokoohaaGreat
