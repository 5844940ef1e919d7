/- What programs send; what leaves. What is granted, traces, the widest extension. -/
import Derived.Test.YtlmmdpmmdmhacaaGreatKv30
import Derived.Test.YtlmmdpmmdmhacaaGreatKv21
namespace Go.Proofs.YtlmmdpmmdmhacaaGreat
open Go Go.ChangeShapes Go.WideShapes Go.ChangeAt Go.RowKit
set_option linter.unusedVariables false
set_option linter.unusedSimpArgs false
set_option maxRecDepth 100000
def sentOk (flows : List GFlow) (ext : Int) (s : GSent) : Bool := mayFlow flows ext s.Label s.To
def runOps (l : List GOp) (values : List Int) (flows : List GFlow) (ext : Int) : List GSent := if areOps l then (mach values l).1.filter (sentOk flows ext) else []
theorem runOps_len (l : List GOp) (values : List Int) (flows : List GFlow) (ext : Int) : (runOps l values flows ext).length ≤ 16 := by
  unfold runOps
  split
  · rename_i h
    exact Nat.le_trans (List.length_filter_le _ _) (mach_len values h)
  · exact Nat.zero_le _
theorem ev_iRunOps (l : List GOp) (values : List Int) (flows : List GFlow) (ext : Int) (c c' c2 : C) (S : Store) (h : Rd S [.sl 4 (l.map GOp.d)] [c]) (h' : Rd S [.sl 1 (values.map dInt)] [c']) (h2 : Rd S [.sl 3 (flows.map GFlow.d)] [c2]) : EvA Tryz.prog 126 [.s c, .s c', .s c2, .s (.int .i64 ext)] S (fun r S' => Ext S S' ∧ ∃ d, r = .v (.s d) ∧ Fr S.length S' [.sl 3 ((runOps l values flows ext).map GSent.d)] [d]) := by
  rcases ho : areOps l with _ | _
  · rw [show runOps l values flows ext = [] from by unfold runOps; rw [ho]; rfl]
    refine evA_intro tok Tryz.func126 (by kernel_rfl) rfl ?_
    repeat' ((conv => whnf) <;> first
     | (show CondP _ _ _; refine cS ?_) | refine callP_eq (ev_iAreOps _ _ _ rdA) ?_ | refine And.intro ?_ ?_)
    all_goals first
      | exact Ext.push _ _
      | exact ⟨_, rfl, fr_lit0⟩
      | (exfalso; simp_all; done)
  · rw [show runOps l values flows ext = (mach values l).1.filter (sentOk flows ext) from by unfold runOps; rw [ho]; rfl]
    have hml := mach_len values ho
    refine evA_intro tok Tryz.func126 (by kernel_rfl) rfl ?_
    repeat' ((conv => whnf) <;> first
     | (show CondP _ _ _; refine cS ?_) | refine callP_eq (ev_iAreOps _ _ _ rdA) ?_)
    (conv => whnf)
    refine callP_intro (ev_executed l values _ _ _ (h.ext (Ext.push _ _)) (h'.ext (Ext.push _ _)) ho) ?_; rintro _ S1 ⟨e1, c3, c4, rfl, f1⟩
    have f0 := (fr_lit0 (S := S) (k := 3)).join e1 f1 (Ext.push S _).len
    have E1 : Ext S S1 := (Ext.push _ _).trans e1
    generalize (mach values l).1 = x at *
    generalize (mach values l).2.2 = lb at *
    have r1 := f0.rdAt (o := 1) (d := .sl 3 (x.map GSent.d)) rfl rfl
    repeat' ((conv => whnf) <;> first
     | refine rE fun hml => ?_)
    (conv => whnf)
    refine loop_intro {p : Nat × Store × C // p.1 ≤ x.length ∧ Ext S p.2.1 ∧ Fr S.length p.2.1 [.sl 3 (((x.take p.1).filter (sentOk flows ext)).map GSent.d), .sl 3 (x.map GSent.d), .sl 1 (lb.map dInt)] [p.2.2, c3, c4]} [9, 13, 27, 28, 29, 30, 31, 32, 33, 34, 35, 36, 37, 38, 39, 40, 41, 42] (fun zb => [(27, .v (.s (.int .i64 zb.1.1))), (9, .v (.s zb.1.2.2))]) (fun zb => zb.1.2.1) (fun zb => x.length - zb.1.1) ⟨(0, _, _), Nat.zero_le _, E1, f0⟩ ?_ rfl ?_
    · (conv => whnf); repeat' (first | exact trivial | exact rfl | apply And.intro)
    rintro ⟨⟨i, Si, ci⟩, hi, hE, hF⟩; dsimp only
    replace hi : i ≤ x.length := hi
    replace hE : Ext S Si := hE
    replace hF : Fr S.length Si [.sl 3 (((x.take i).filter (sentOk flows ext)).map GSent.d), .sl 3 (x.map GSent.d), .sl 1 (lb.map dInt)] [ci, c3, c4] := hF
    have r2 := hF.rdAt (o := 1) (d := .sl 3 (x.map GSent.d)) rfl rfl
    have hfl := filter_len (sentOk flows ext) x i
    by_cases hlt : i < x.length
    · rcases hP : sentOk flows ext (x[((i : Nat) : Int).toNat]'hlt) with _ | _
      · have hp := filter_f hlt hP
        unfold sentOk at hP
        repeat' ((conv => whnf) <;> first
         | rw [wrapI_i64 (by omega)] | (show CondP _ _ _; refine cS ?_) | refine callP_eq (ev_iMayFlow _ _ _ _ _ _ rdA) ?_ | refine rI rdA rf ix ?_ | refine rd_loadf rdA tv ix ?_)
        all_goals first
          | (exfalso; omega)
          | (refine ⟨⟨(i + 1, _, _), by dsimp only; omega, hE, by rw [hp]; exact hF⟩, ?_, rfl, by dsimp only; omega⟩; (conv => whnf); repeat' (first | exact trivial | exact rfl | (show _ = _; congr 3; dsimp only; omega) | apply And.intro))
      · have hp := filter_t hlt hP
        unfold sentOk at hP
        repeat' ((conv => whnf) <;> first
         | rw [wrapI_i64 (by omega)] | (show CondP _ _ _; refine cS ?_) | refine callP_eq (ev_iMayFlow _ _ _ _ _ _ rdA) ?_ | refine rI rdA rf ix ?_ | refine rd_loadf rdA tv ix ?_ | (refine fr_appAtF (f := GSent.d) (o := 0) (l := (x.take i).filter (sentOk flows ext)) (m := [x[i]'hlt]) (fun _ => trivial) hE hF rfl rfl (by rfl) rf (by dsimp only [T130]; simp only [List.length_cons, List.length_nil]; omega) (by simp only [List.length_cons, List.length_nil]; omega) ?_; intro cN SN hEN hFN hlN))
        all_goals first
          | (exfalso; omega)
          | (refine ⟨⟨(i + 1, _, _), by dsimp only; omega, by assumption, by rw [hp]; exact hFN⟩, ?_, rfl, by dsimp only; omega⟩; (conv => whnf); repeat' (first | exact trivial | exact rfl | (show _ = _; congr 3; dsimp only; omega) | apply And.intro))
    · rw [List.take_of_length_le (by omega)] at hF
      repeat' ((conv => whnf) <;> first
       | (show CondP _ _ _; refine cS ?_) | refine And.intro ?_ ?_)
      all_goals first
        | exact hE
        | (exfalso; omega)
        | exact ⟨_, rfl, Fr.left (ds := [_]) (cs := [_]) hF rfl⟩
def sentFrom (b : GBrowser) (ext : Int) (values : List Int) : List GSent := if 0 ≤ packOf b ext then (runOps (packageOf b ext).Ops (valuesFor b ext values) (packageOf b ext).Flows ext).filter (fun s => mayNow b ext s.To 3) else []
theorem ev_iSentFrom (b : GBrowser) (ext : Int) (values : List Int) (cs : List C) (c : C) (S : Store) (h : Rd S b.d cs) (h' : Rd S [.sl 1 (values.map dInt)] [c]) : EvA Tryz.prog 55 [.agg cs, .s (.int .i64 ext), .s c] S (fun r S' => Ext S S' ∧ ∃ d, r = .v (.s d) ∧ Fr S.length S' [.sl 3 ((sentFrom b ext values).map GSent.d)] [d]) := by
  obtain ⟨_, _, _, _, _, _, rfl, _, _, _, _, _, _⟩ := GBrowser.inv h
  by_cases hp0 : 0 ≤ packOf b ext
  · have hpl : (packOf b ext).toNat < b.Packs.length := by have := packOf_lt b ext; omega
    have hp1 : 0 ≤ packOf b ext ∧ (packOf b ext).toNat < b.Packs.length := ⟨hp0, hpl⟩
    rw [show sentFrom b ext values = (runOps (b.Packs[(packOf b ext).toNat]'hpl).Ops (valuesFor b ext values) (b.Packs[(packOf b ext).toNat]'hpl).Flows ext).filter (fun s => mayNow b ext s.To 3) from by unfold sentFrom; rw [if_pos hp0, packageOf_in hp0 hpl]]
    have hrl := runOps_len (b.Packs[(packOf b ext).toNat]'hpl).Ops (valuesFor b ext values) (b.Packs[(packOf b ext).toNat]'hpl).Flows ext
    have hpk : Rd S [.sl 8 (b.Packs.map GPackage.d)] _ := (by assumption)
    obtain ⟨pcs, hpr, hpld⟩ := rd_loadx hpk hp1
    obtain ⟨_, _, _, _, rfl, _, _, _, _⟩ := GPackage.inv hpr
    refine evA_intro tok Tryz.func55 (by kernel_rfl) rfl ?_
    repeat' ((conv => whnf) <;> first
     | refine hpld _ (by first | assumption | exact Ext.push _ _) _ ?_ | (show CondP _ _ _; refine cS ?_) | (refine callP_eq (ev_iPackOf _ _ _ _ rdcA) ?_) | refine rI rdA rf ix ?_ | refine draw_intro 18 [.fl 0, .fl 1, .fl 2, .fl 3, .fl 4, .fl 5, .fl 6, .fl 7, .fl 8, .fl 10, .fl 11, .fl 12, .fl 13, .fl 14, .fl 15, .fl 16, .fl 19, .st 9 [0, 1, 2, 3, 4, 5, 10, 11, 12, 13, 14, 15, 16, 19], .st 17 [19], .fl 18] (by rfl) (by kernel_rfl) ?_)
    (conv => whnf)
    refine callP_intro (ev_iValuesFor b ext values _ _ _ (h.ext (Ext.push _ _)) (h'.ext (Ext.push _ _))) ?_; rintro _ S1 ⟨e1, cv, rfl, fv⟩
    have E1 : Ext S S1 := (Ext.push _ _).trans e1
    repeat' ((conv => whnf) <;> first
     | refine hpld _ (by first | assumption | exact Ext.push _ _) _ ?_ | refine rI rdA rf ix ?_ | refine And.intro ?_ ?_)
    (conv => whnf)
    refine callP_intro (ev_iRunOps (b.Packs[(packOf b ext).toNat]'hpl).Ops (valuesFor b ext values) (b.Packs[(packOf b ext).toNat]'hpl).Flows ext _ _ _ _ rdA fv.rd rdA) ?_; rintro _ S2 ⟨e2, cx, rfl, fx⟩
    have f0 := (fr_lit0 (S := S) (k := 3)).join (e1.trans e2) (fx.mono e1.len) (Ext.push S _).len
    have E2 : Ext S S2 := E1.trans e2
    generalize runOps (b.Packs[(packOf b ext).toNat]'hpl).Ops (valuesFor b ext values) (b.Packs[(packOf b ext).toNat]'hpl).Flows ext = x at *
    have r1 := f0.rdAt (o := 1) (d := .sl 3 (x.map GSent.d)) rfl rfl
    clear fx fv
    repeat' ((conv => whnf) <;> first
     | refine rE fun hml => ?_ | refine And.intro ?_ ?_)
    (conv => whnf)
    refine loop_intro {p : Nat × Store × C // p.1 ≤ x.length ∧ Ext S p.2.1 ∧ Fr S.length p.2.1 [.sl 3 (((x.take p.1).filter (fun s => mayNow b ext s.To 3)).map GSent.d), .sl 3 (x.map GSent.d)] [p.2.2, cx]} [7, 10, 37, 38, 39, 40, 41, 42, 43, 44, 45, 46, 47, 48, 49, 50] (fun zb => [(37, .v (.s (.int .i64 zb.1.1))), (7, .v (.s zb.1.2.2))]) (fun zb => zb.1.2.1) (fun zb => x.length - zb.1.1) ⟨(0, _, _), Nat.zero_le _, E2, f0⟩ ?_ rfl ?_
    · (conv => whnf); repeat' (first | exact trivial | exact rfl | apply And.intro)
    rintro ⟨⟨i, Si, ci⟩, hi, hE, hF⟩; dsimp only
    replace hi : i ≤ x.length := hi
    replace hE : Ext S Si := hE
    replace hF : Fr S.length Si [.sl 3 (((x.take i).filter (fun s => mayNow b ext s.To 3)).map GSent.d), .sl 3 (x.map GSent.d)] [ci, cx] := hF
    have r2 := hF.rdAt (o := 1) (d := .sl 3 (x.map GSent.d)) rfl rfl
    have hfl := filter_len (fun s => mayNow b ext s.To 3) x i
    have hbr := h.ext hE
    by_cases hlt : i < x.length
    · rcases hP : mayNow b ext (x[((i : Nat) : Int).toNat]'hlt).To 3 with _ | _
      · have hp := filter_f (P := fun s : GSent => mayNow b ext s.To 3) hlt hP
        repeat' ((conv => whnf) <;> first
         | rw [wrapI_i64 (by omega)] | (show CondP _ _ _; refine cS ?_) | (refine callP_eq (ev_mayNow _ _ _ _ _ _ rdcA) ?_) | refine rI rdA rf ix ?_ | refine rd_loadf rdA tv ix ?_)
        all_goals first
          | (exfalso; omega)
          | (refine ⟨⟨(i + 1, _, _), by dsimp only; omega, hE, by rw [hp]; exact hF⟩, ?_, rfl, by dsimp only; omega⟩; (conv => whnf); repeat' (first | exact trivial | exact rfl | (show _ = _; congr 3; dsimp only; omega) | apply And.intro))
      · have hp := filter_t (P := fun s : GSent => mayNow b ext s.To 3) hlt hP
        repeat' ((conv => whnf) <;> first
         | rw [wrapI_i64 (by omega)] | (show CondP _ _ _; refine cS ?_) | (refine callP_eq (ev_mayNow _ _ _ _ _ _ rdcA) ?_) | refine rI rdA rf ix ?_ | refine rd_loadf rdA tv ix ?_ | (refine fr_appAtF (f := GSent.d) (o := 0) (l := (x.take i).filter (fun s => mayNow b ext s.To 3)) (m := [x[i]'hlt]) (fun _ => trivial) hE hF rfl rfl (by rfl) rf (by dsimp only [T130]; simp only [List.length_cons, List.length_nil]; omega) (by simp only [List.length_cons, List.length_nil]; omega) ?_; intro cN SN hEN hFN hlN))
        all_goals first
          | (exfalso; omega)
          | (refine ⟨⟨(i + 1, _, _), by dsimp only; omega, by assumption, by rw [hp]; exact hFN⟩, ?_, rfl, by dsimp only; omega⟩; (conv => whnf); repeat' (first | exact trivial | exact rfl | (show _ = _; congr 3; dsimp only; omega) | apply And.intro))
    · rw [List.take_of_length_le (by omega)] at hF
      repeat' ((conv => whnf) <;> first
       | (show CondP _ _ _; refine cS ?_) | refine And.intro ?_ ?_)
      all_goals first
        | exact hE
        | (exfalso; omega)
        | exact ⟨_, rfl, Fr.left (ds := [_]) (cs := [_]) hF rfl⟩
  · rw [show sentFrom b ext values = [] from by unfold sentFrom; rw [if_neg hp0]]
    refine evA_intro tok Tryz.func55 (by kernel_rfl) rfl ?_
    repeat' ((conv => whnf) <;> first
     | (show CondP _ _ _; refine cS ?_) | (refine callP_eq (ev_iPackOf _ _ _ _ rdcA) ?_) | refine And.intro ?_ ?_)
    all_goals first
      | exact Ext.push _ _
      | exact ⟨_, rfl, fr_lit0⟩
      | (exfalso; omega)
end Go.Proofs.YtlmmdpmmdmhacaaGreat
namespace Go.Proofs.YtlmmdpmmdmhacaaGreat
open Go Go.ChangeShapes Go.WideShapes Go.ChangeAt Go.RowKit
set_option linter.unusedVariables false
set_option linter.unusedSimpArgs false
set_option maxRecDepth 100000
theorem rd_lit1 {S : Store} (x : GGrant) : Rd (S ++ [⟨true, 7, [x.c]⟩]) [.sl 7 ([x].map GGrant.d)] [.sl S.length 0 1 1] := by
  refine Fr.rd (lo := S.length) (fr_push (xs := [x.d]) (js := []) ?_ List.nodup_nil (fun _ h => by cases h) (Nat.le_refl _) (by rw [maxLen_eq]; simp) rfl)
  rw [rep2_cons]
  exact ⟨x.c, [], [], [], rfl, rfl, repL_flat x.flat, by rw [rep2_nil]; exact ⟨rfl, rfl⟩⟩
def gr1 (b : GBrowser) (g : GGrant) : Bool := isLent g || withinGrants [g] (packageOf b g.Ext).Grants
def isGranted (b : GBrowser) : Bool := b.Grants.all (gr1 b)
theorem ev_iIsGranted (b : GBrowser) (cs : List C) (S : Store) (h : Rd S b.d cs) : EvA Tryz.prog 12 [.agg cs] S (fun r S' => r = .v (.s (.bool (isGranted b))) ∧ S' = S) := by
  obtain ⟨_, _, _, _, _, _, rfl, _, _, _, _, _, _⟩ := GBrowser.inv h
  refine EvA.drop rfl ?_
  refine evA_intro tok Tryz.func12 (by kernel_rfl) rfl ?_
  repeat' ((conv => whnf) <;> first
   | refine rE fun hml => ?_)
  refine loop_intro {p : Nat × Store // p.1 ≤ b.Grants.length ∧ Ext S p.2 ∧ (b.Grants.drop p.1).all (gr1 b) = isGranted b} [2, 4, 8, 9, 10, 11, 12, 13, 14, 15, 16, 17, 18, 19, 20, 21, 22, 23, 24, 25, 26] (fun zb => [(8, .v (.s (.int .i64 zb.1.1)))]) (fun zb => zb.1.2) (fun zb => b.Grants.length - zb.1.1) ⟨(0, S), Nat.zero_le _, Ext.refl _, rfl⟩ ?_ rfl ?_
  · (conv => whnf); repeat' (first | exact trivial | exact rfl | apply And.intro)
  rintro ⟨⟨i, Si⟩, hi, hE, hinv⟩; dsimp only
  replace hi : i ≤ b.Grants.length := hi
  replace hE : Ext S Si := hE
  replace hinv : (b.Grants.drop i).all (gr1 b) = isGranted b := hinv
  by_cases hlt : i < b.Grants.length
  · rw [drop_at hlt, List.all_cons] at hinv
    repeat' ((conv => whnf) <;> first
     | rw [wrapI_i64 (by omega)] | refine cD (fun _ => ?_) fun _ => ?_ | refine cF ?_ | refine cN (fun _ => ?_) fun _ => ?_ | refine callP_eq (ev_iIsLent _ _) ?_ | (refine callP_intro (ev_packageOf _ _ _ _ rdcA) ?_; rintro _ _ ⟨rfl, _, _, _, _, rfl, _, _, _, _⟩) | refine rI rdA rf ix ?_ | refine rd_loadf rdA tv ix ?_ | refine draw_intro 12 [.fl 0, .st 1 [], .fl 2, .fl 3, .fl 4, .fl 5, .fl 6, .fl 7, .fl 8, .st 9 [4, 5], .fl 10, .st 11 [], .fl 12, .fl 13] (by rfl) (by kernel_rfl) ?_ | (refine callP_eq (ev_iIsWithin [b.Grants[((i : Nat) : Int).toNat]'om] _ _ _ _ (rd_lit1 _) rdA) ?_) | refine And.intro ?_ ?_)
    all_goals first
      | assumption
      | exact hE.trans (Ext.push _ _)
      | (exfalso; omega)
      | rfl
      | (have hg : gr1 b b.Grants[i] = false := by
           show (isLent b.Grants[i] || withinGrants [b.Grants[i]] (packageOf b b.Grants[i].Ext).Grants) = false
           rw [show isLent b.Grants[i] = false from by assumption, show withinGrants [b.Grants[i]] (packageOf b b.Grants[i].Ext).Grants = false from by assumption]; rfl
         rw [hg, Bool.false_and] at hinv
         rw [← hinv]; rfl)
      | (have hg : gr1 b b.Grants[i] = true := by
           show (isLent b.Grants[i] || withinGrants [b.Grants[i]] (packageOf b b.Grants[i].Ext).Grants) = true
           first
             | (rw [show isLent b.Grants[i] = true from by assumption]; rfl)
             | (rw [show withinGrants [b.Grants[i]] (packageOf b b.Grants[i].Ext).Grants = true from by assumption, Bool.or_true])
         rw [hg, Bool.true_and] at hinv
         (refine ⟨⟨(i + 1, _), by dsimp only; omega, by first | assumption | exact hE.trans (Ext.push _ _) | exact hE.trans (by assumption) | exact Ext.trans (by assumption) (by assumption), hinv⟩, ?_, rfl, by dsimp only; omega⟩; (conv => whnf); repeat' (first | exact trivial | exact rfl | (show _ = _; congr 3; dsimp only; omega) | apply And.intro)))
  · rw [drop_end (by omega), List.all_nil] at hinv
    repeat' ((conv => whnf) <;> first
     | rw [wrapI_i64 (by omega)] | refine cD (fun _ => ?_) fun _ => ?_ | refine cF ?_ | refine cN (fun _ => ?_) fun _ => ?_ | refine callP_eq (ev_iIsLent _ _) ?_ | (refine callP_intro (ev_packageOf _ _ _ _ rdcA) ?_; rintro _ _ ⟨rfl, _, _, _, _, rfl, _, _, _, _⟩) | refine rI rdA rf ix ?_ | refine rd_loadf rdA tv ix ?_ | refine draw_intro 12 [.fl 0, .st 1 [], .fl 2, .fl 3, .fl 4, .fl 5, .fl 6, .fl 7, .fl 8, .st 9 [4, 5], .fl 10, .st 11 [], .fl 12, .fl 13] (by rfl) (by kernel_rfl) ?_ | refine And.intro ?_ ?_)
    all_goals first
      | assumption
      | (exfalso; omega)
      | (rw [← hinv]; rfl)
def sumEd (ext : Int) : List GTab → Int
  | [] => 0
  | t :: r => ((t.Edits.filter (edBy1 ext)).length : Int) + sumEd ext r
theorem sumEd_app (ext : Int) : ∀ a b : List GTab, sumEd ext (a ++ b) = sumEd ext a + sumEd ext b
  | [], b => by rw [List.nil_append, sumEd]; omega
  | t :: a, b => by rw [List.cons_append, sumEd, sumEd_app ext a b, sumEd]; omega
theorem sumEd_take {ext : Int} {l : List GTab} {i : Nat} (h : i < l.length) : sumEd ext (l.take (i + 1)) = sumEd ext (l.take i) + ((l[i].Edits.filter (edBy1 ext)).length : Int) := by
  rw [List.take_succ_eq_append_getElem h, sumEd_app, sumEd, sumEd]; omega
theorem sumEd_le (ext : Int) : ∀ l : List GTab, 0 ≤ sumEd ext l ∧ sumEd ext l ≤ szL.szLL (l.map GTab.d)
  | [] => by rw [sumEd]; omega
  | t :: l => by
    have h1 := sumEd_le ext l
    have h2 := List.length_filter_le (edBy1 ext) t.Edits
    have h3 : t.Edits.length ≤ szL t.d := by simp only [GTab.d, szL, List.length_map]; omega
    rw [sumEd, List.map_cons, szL.szLL]; omega
def paOf (ext : Int) (p : GPackage) : Bool := decide (p.Ext = ext)
def trBase (b : GBrowser) (ext : Int) : Int := ((b.Grants.filter (grOf ext)).length : Int) + ((b.Rules.filter (ruOf ext)).length : Int) + storedBy b ext
def tracesOf (b : GBrowser) (ext : Int) : Int := trBase b ext + ((b.Packs.filter (paOf ext)).length : Int) + sumEd ext b.Tabs
set_option maxHeartbeats 1000000 in
theorem ev_iTracesOf (b : GBrowser) (ext : Int) (cs : List C) (S : Store) (h : Rd S b.d cs) (hz : szL b.d ≤ 1048576) : EvA Tryz.prog 17 [.agg cs, .s (.int .i64 ext)] S (fun r S' => r = .v (.s (.int .i64 (tracesOf b ext))) ∧ S' = S) := by
  have hzs := hz
  simp only [GBrowser.d, szL, List.length_map] at hzs
  obtain ⟨_, _, _, _, _, _, rfl, _, _, _, _, _, _⟩ := GBrowser.inv h
  have hf1 := List.length_filter_le (grOf ext) b.Grants
  have hf2 := List.length_filter_le (ruOf ext) b.Rules
  have hf3 := List.length_filter_le (stOf ext) b.Store
  have hf6 := List.length_filter_le (paOf ext) b.Packs
  have hf4 : storedBy b ext = ((b.Store.filter (stOf ext)).length : Int) := rfl
  have hf5 : trBase b ext = ((b.Grants.filter (grOf ext)).length : Int) + ((b.Rules.filter (ruOf ext)).length : Int) + ((b.Store.filter (stOf ext)).length : Int) := rfl
  have hzt : ∀ (i : Nat) (hi : i < b.Tabs.length), (b.Tabs[i]).Edits.length ≤ 4194304 := fun i hi => by
    have h1 := szLL_mem (f := GTab.d) (List.getElem_mem hi)
    simp only [GTab.d, szL, List.length_map] at h1
    omega
  refine EvA.drop rfl ?_
  refine evA_intro tok Tryz.func17 (by kernel_rfl) rfl ?_
  repeat' ((conv => whnf) <;> first
   | rw [wrapI_i64 (by omega)] | (refine callP_eq (ev_iStoredBy _ _ _ _ rdcA (by (first | omega | exact sz_at hz om | (simp only [szL]; omega)))) ?_) | (refine callP_intro (ev_iGrantsOf _ _ _ _ rdA om) ?_; rintro _ Sn ⟨hEn, cn, rfl, hFn⟩) | (refine callP_intro (ev_iRulesOf _ _ _ _ rdA om) ?_; rintro _ Sn ⟨hEn, cn, rfl, hFn⟩) | refine rE fun hml => ?_ | refine draw_intro 10 [.fl 0, .fl 1, .fl 2, .fl 5, .fl 6, .fl 7, .fl 11, .fl 12, .st 3 [5, 6, 7, 11, 12], .fl 4, .st 8 [11, 12, 4], .fl 9, .fl 10, .st 13 [4, 9, 10], .fl 14, .st 15 []] (by rfl) (by kernel_rfl) ?_ | refine And.intro ?_ ?_)
  all_goals try exact rfl
  refine loop_intro {p : Nat × Int // p.1 ≤ b.Packs.length ∧ p.2 = trBase b ext + (((b.Packs.take p.1).filter (paOf ext)).length : Int)} [5, 7, 28, 29, 30, 31, 32, 33, 34, 35, 36, 37, 38] (fun zb => [(5, .v (.s (.int .i64 zb.1.2))), (28, .v (.s (.int .i64 zb.1.1)))]) (fun _ => _) (fun zb => b.Packs.length - zb.1.1) ⟨(0, trBase b ext), Nat.zero_le _, by simp⟩ ?_ rfl ?_
  · (conv => whnf); repeat' (first | exact trivial | exact rfl | (show _ = _; congr 3; omega) | apply And.intro)
  rintro ⟨⟨i, n⟩, hi, hinv⟩; dsimp only
  replace hi : i ≤ b.Packs.length := hi
  replace hinv : n = trBase b ext + (((b.Packs.take i).filter (paOf ext)).length : Int) := hinv
  have hfl := filter_len (paOf ext) b.Packs i
  repeat' ((conv => whnf) <;> first
   | rw [wrapI_i64 (by omega)] | refine cD (fun _ => ?_) fun _ => ?_ | refine rE fun hml => ?_ | refine rI rdA rf ix ?_ | (refine rd_loadm (f := GPackage.d) rdA ix ?_; intro _ hcs; obtain ⟨_, _, _, _, rfl, _, _, _, _⟩ := GPackage.inv hcs))
  all_goals try first
    | (exfalso; omega)
    | (rename_i hc
       have hlt : i < b.Packs.length := by omega
       have hp : paOf ext (b.Packs[((i : Nat) : Int).toNat]'hlt) = true := decide_eq_true hc
       have hft := filter_t (P := paOf ext) (l := b.Packs) (i := i) hlt hp
       (refine ⟨⟨(i + 1, n + 1), by dsimp only; omega, by dsimp only; rw [hft, List.length_append, List.length_singleton]; omega⟩, ?_, rfl, by dsimp only; omega⟩; (conv => whnf); repeat' (first | exact trivial | exact rfl | (show _ = _; congr 3; dsimp only; omega) | apply And.intro)))
    | (rename_i hc
       have hlt : i < b.Packs.length := by omega
       have hp : paOf ext (b.Packs[((i : Nat) : Int).toNat]'hlt) = false := decide_eq_false hc
       have hft := filter_f (P := paOf ext) (l := b.Packs) (i := i) hlt hp
       (refine ⟨⟨(i + 1, n), by dsimp only; omega, by dsimp only; rw [hft]; exact hinv⟩, ?_, rfl, by dsimp only; omega⟩; (conv => whnf); repeat' (first | exact trivial | exact rfl | (show _ = _; congr 3; dsimp only; omega) | apply And.intro)))
  rw [List.take_of_length_le (by omega)] at hinv
  refine loop_intro {p : Nat × Int × Store // p.1 ≤ b.Tabs.length ∧ Ext S p.2.2 ∧ p.2.1 = n + sumEd ext (b.Tabs.take p.1)} [5, 9, 42, 43, 44, 45, 46, 47, 48, 49, 50, 51, 52, 53] (fun zb => [(5, .v (.s (.int .i64 zb.1.2.1))), (42, .v (.s (.int .i64 zb.1.1)))]) (fun zb => zb.1.2.2) (fun zb => b.Tabs.length - zb.1.1) ⟨(0, n, _), Nat.zero_le _, by first | exact Ext.refl _ | assumption | exact Ext.trans (by assumption) (by assumption) | exact Ext.trans (by assumption) (Ext.trans (by assumption) (by assumption)), by dsimp only; rw [List.take_zero, sumEd]; omega⟩ ?_ rfl ?_
  · (conv => whnf); repeat' (first | exact trivial | exact rfl | (show _ = _; congr 3; omega) | apply And.intro)
  rintro ⟨⟨j, m, Sj⟩, hj, hE, hjnv⟩; dsimp only
  replace hj : j ≤ b.Tabs.length := hj
  replace hE : Ext S Sj := hE
  replace hjnv : m = n + sumEd ext (b.Tabs.take j) := hjnv
  have hs1 := sumEd_le ext (b.Tabs.take j)
  have hs2 := szLL_le (f := GTab.d) b.Tabs j
  by_cases hlt : j < b.Tabs.length
  · have hzj := hzt j hlt
    have hzk : (b.Tabs[((j : Nat) : Int).toNat]'hlt).Edits.length ≤ 4194304 := hzj
    have hfe := List.length_filter_le (edBy1 ext) (b.Tabs[((j : Nat) : Int).toNat]'hlt).Edits
    have hsj := sumEd_take (ext := ext) hlt
    repeat' ((conv => whnf) <;> first
     | rw [wrapI_i64 (by omega)] | refine cD (fun _ => ?_) fun _ => ?_ | (refine callP_intro (ev_iEditsBy _ _ _ _ rdA om) ?_; rintro _ Sn ⟨hEn, cn, rfl, hFn⟩) | refine rE fun hml => ?_ | refine rI rdA rf ix ?_ | (refine rd_loadm (f := GTab.d) rdA ix ?_; intro _ hcs; obtain ⟨_, _, _, rfl, _, _, _⟩ := GTab.inv hcs) | refine And.intro ?_ ?_)
    all_goals first
      | rfl
      | assumption
      | (exfalso; omega)
      | (refine ⟨⟨(j + 1, m + ((b.Tabs[((j : Nat) : Int).toNat]'hlt).Edits.filter (edBy1 ext)).length, _), by dsimp only; omega, by first | assumption | exact hE.trans (Ext.push _ _) | exact hE.trans (by assumption) | exact Ext.trans (by assumption) (by assumption), by dsimp only; rw [hsj, hjnv]; simp only [Int.toNat_natCast]; omega⟩, ?_, rfl, by dsimp only; omega⟩; (conv => whnf); repeat' (first | exact trivial | exact rfl | (show _ = _; congr 3; dsimp only; omega) | apply And.intro))
  · rw [List.take_of_length_le (by omega)] at hjnv
    have ht : tracesOf b ext = m := by unfold tracesOf; omega
    repeat' ((conv => whnf) <;> first
     | rw [wrapI_i64 (by omega)] | refine cD (fun _ => ?_) fun _ => ?_ | (refine callP_intro (ev_iEditsBy _ _ _ _ rdA om) ?_; rintro _ Sn ⟨hEn, cn, rfl, hFn⟩) | refine rE fun hml => ?_ | refine rI rdA rf ix ?_ | (refine rd_loadm (f := GTab.d) rdA ix ?_; intro _ hcs; obtain ⟨_, _, _, rfl, _, _, _⟩ := GTab.inv hcs) | refine And.intro ?_ ?_)
    all_goals first
      | rfl
      | assumption
      | (exfalso; omega)
      | (rw [ht] <;> rfl)
end Go.Proofs.YtlmmdpmmdmhacaaGreat
