/- Stores, fair rules, seals. -/
import Derived.Test.YtlmmdpmmdmhacaaGreatKm25
import Derived.Test.YtlmmdpmmdmhacaaGreatKm26
namespace Go.Proofs.YtlmmdpmmdmhacaaGreat
open Go Go.ChangeShapes Go.WideShapes Go.ChangeAt Go.RowKit
set_option linter.unusedVariables false
set_option linter.unusedSimpArgs false
set_option maxRecDepth 100000
def stLess (a b : GStored) : Bool := decide (a.Ext < b.Ext) || (decide (a.Ext = b.Ext) && decide (a.Name < b.Name))
theorem cmpSt (a b : GStored) : decide (0 ≤ orGo [cmpI a.Ext b.Ext, cmpI a.Name b.Name]) = !stLess a b := by
  unfold stLess cmpI orGo orGo
  by_cases h1 : a.Ext < b.Ext
  · simp [h1]
  · by_cases h2 : b.Ext < a.Ext
    · have h3 : ¬ a.Ext = b.Ext := by omega
      simp [h1, h2, h3]
    · have h3 : a.Ext = b.Ext := by omega
      by_cases h4 : a.Name < b.Name
      · simp [h3, h4]
      · by_cases h5 : b.Name < a.Name
        · simp [h3, h4, h5]
        · simp [h3, h4, h5, orGo]
theorem ev_l24Less (a : GStored) (b : GStored) (S : Store) : EvA Tryz.prog 321 [.agg a.c, .agg b.c] S (fun r S' => r = .v (.s (.bool (stLess a b))) ∧ S' = S) := by
  refine evA_intro tok Tryz.func321 (by kernel_rfl) rfl ?_
  repeat' ((conv => whnf) <;> first
   | refine cD (fun _ => ?_) fun _ => ?_ | refine And.intro ?_ ?_)
  all_goals first | rfl | (simp_all [resAV, stLess]; done) | (simp_all [resAV, stLess]; intros; omega)
def okSt (l : List GStored) (x : GStored) (i : Nat) : Bool := inR x.Ext 1 5 && inR x.Name 0 9 && inR x.Value 0 999 && inR x.Ver 1 999 && (if i = 0 then true else stLess (l.getD (i - 1) default) x)
theorem okSt_zero (l : List GStored) (x : GStored) : okSt l x 0 = (inR x.Ext 1 5 && inR x.Name 0 9 && inR x.Value 0 999 && inR x.Ver 1 999) := by simp [okSt]
theorem okSt_pos {l : List GStored} {x : GStored} {i : Nat} (h0 : 0 < i) (hl : i ≤ l.length) : okSt l x i = (inR x.Ext 1 5 && inR x.Name 0 9 && inR x.Value 0 999 && inR x.Ver 1 999 && stLess (l[((i : Int) - 1).toNat]'(by omega)) x) := by
  unfold okSt
  have e : l.getD (i - 1) default = l[((i : Int) - 1).toNat]'(by omega) := by
    rw [List.getD_eq_getElem?_getD, List.getElem?_eq_getElem (by omega)]
    simp only [Option.getD_some]
    congr 1; omega
  rw [if_neg (by omega), e]
def stGo (l : List GStored) : List GStored → Nat → Bool
  | [], _ => true
  | x :: r, i => if okSt l x i then stGo l r (i + 1) else false
def isStore (l : List GStored) : Bool := decide (l.length ≤ 24) && stGo l l 0
set_option maxHeartbeats 2000000 in
theorem ev_sIsStore (l : List GStored) (c : C) (S : Store) (h : Rd S [.sl 4 (l.map GStored.d)] [c]) : EvA Tryz.prog 258 [.s c] S (fun r S' => r = .v (.s (.bool (isStore l))) ∧ S' = S) := by
  refine evA_intro tok Tryz.func258 (by kernel_rfl) rfl ?_
  skip
  all_goals try (rw [show isStore l = false from by unfold isStore; rw [decide_eq_false (by omega), Bool.false_and]]; rfl)
  refine loop_intro {i : Nat // i ≤ l.length ∧ stGo l (l.drop i) i = stGo l l 0} [2, 3, 4, 5, 6, 7, 8, 9, 10, 11, 12, 13, 14, 15, 16, 17, 18, 19, 20, 21, 22, 23, 24, 25, 26, 27, 28, 29, 30, 31, 32, 33, 34, 35, 36, 37, 38, 39, 40, 41, 42, 43, 44, 45, 46, 47, 48] (fun zb => [(3, .v (.s (.int .i64 zb.1)))]) (fun _ => S) (fun zb => l.length - zb.1) ⟨0, Nat.zero_le _, rfl⟩ ?_ rfl ?_
  · (conv => whnf); repeat' (first | exact trivial | exact rfl | apply And.intro)
  rintro ⟨i, hi, hinv⟩; dsimp only
  by_cases hlt : i < l.length
  · rw [drop_at hlt, stGo] at hinv
    by_cases h0 : i = 0
    · have hz := okSt_zero l (l[((i : Nat) : Int).toNat]'hlt)
      rcases hP : okSt l (l[((i : Nat) : Int).toNat]'hlt) i with _ | _
      · rw [show okSt l l[i] i = false from hP, if_neg (by decide)] at hinv
        rw [show isStore l = false from by unfold isStore; rw [← hinv, Bool.and_false]]
        have hQ : okSt l (l[((i : Nat) : Int).toNat]'hlt) 0 = false := by rw [← hP]; congr 1; omega
        rw [hz] at hQ
        clear hP hz hinv
        repeat' ((conv => whnf) <;> first
         | rw [wrapI_i64 (by omega)] | (show CondP _ _ _; refine cS ?_) | refine cT ?_ | refine cF ?_ | refine condP_ninR (fun _ _ => ?_) (fun _ _ => ?_) | refine callP_eq (ev_l1In _ _ _ _) ?_ | refine rE fun hml => ?_ | refine rI aN rf ix ?_ | refine rd_loadf aN tv ix ?_ | refine draw_intro 37 [.fl 0, .fl 1, .fl 2, .fl 3, .fl 4, .fl 5, .fl 6, .fl 7, .fl 8, .st 9 [], .fl 10, .fl 11] (by rfl) (by kernel_rfl) ?_ | refine And.intro ?_ ?_)
        all_goals first
          | rfl
          | (exfalso; omega)
          | (exfalso; simp_all; done)
          | (exfalso; simp_all; omega)
      · rw [show okSt l l[i] i = true from hP, if_pos rfl] at hinv
        have hQ : okSt l (l[((i : Nat) : Int).toNat]'hlt) 0 = true := by rw [← hP]; congr 1; omega
        rw [hz] at hQ
        simp only [Bool.and_eq_true] at hQ
        clear hP hz
        repeat' ((conv => whnf) <;> first
         | rw [wrapI_i64 (by omega)] | (show CondP _ _ _; refine cS ?_) | refine cT ?_ | refine cF ?_ | refine condP_ninR (fun _ _ => ?_) (fun _ _ => ?_) | refine callP_eq (ev_l1In _ _ _ _) ?_ | refine rE fun hml => ?_ | refine rI aN rf ix ?_ | refine rd_loadf aN tv ix ?_ | refine draw_intro 37 [.fl 0, .fl 1, .fl 2, .fl 3, .fl 4, .fl 5, .fl 6, .fl 7, .fl 8, .st 9 [], .fl 10, .fl 11] (by rfl) (by kernel_rfl) ?_ | refine And.intro ?_ ?_)
        all_goals first
          | (exfalso; omega)
          | (refine ⟨⟨i + 1, by omega, hinv⟩, ?_, rfl, by simp; omega⟩; (conv => whnf); repeat' (first | exact trivial | exact rfl | apply And.intro))
          | (exfalso; simp_all; done)
          | (exfalso; simp_all; omega)
    · have hz := okSt_pos (l := l) (x := l[((i : Nat) : Int).toNat]'hlt) (i := i) (by omega) (by omega)
      have hcp := cmpSt (l[((i : Int) - 1).toNat]'(by omega)) (l[((i : Nat) : Int).toNat]'hlt)
      rcases hP : okSt l (l[((i : Nat) : Int).toNat]'hlt) i with _ | _
      · rw [show okSt l l[i] i = false from hP, if_neg (by decide)] at hinv
        rw [show isStore l = false from by unfold isStore; rw [← hinv, Bool.and_false]]
        rw [hz] at hP
        clear hz hinv
        repeat' ((conv => whnf) <;> first
         | rw [wrapI_i64 (by omega)] | (show CondP _ _ _; refine cS ?_) | refine cT ?_ | refine condP_ninR (fun _ _ => ?_) (fun _ _ => ?_) | refine cN (fun _ => ?_) fun _ => ?_ | refine callP_eq (ev_l1In _ _ _ _) ?_ | refine callP_eq (ev_l24Less _ _ _) ?_ | refine rE fun hml => ?_ | refine rI aN rf ix ?_ | refine rd_loadf aN tv ix ?_ | refine draw_intro 37 [.fl 0, .fl 1, .fl 2, .fl 3, .fl 4, .fl 5, .fl 6, .fl 7, .fl 8, .st 9 [], .fl 10, .fl 11] (by rfl) (by kernel_rfl) ?_ | refine And.intro ?_ ?_)
        all_goals first
          | rfl
          | (exfalso; omega)
          | (exfalso; simp_all; done)
          | (exfalso; simp_all; omega)
      · rw [show okSt l l[i] i = true from hP, if_pos rfl] at hinv
        rw [hz] at hP
        simp only [Bool.and_eq_true] at hP
        clear hz
        repeat' ((conv => whnf) <;> first
         | rw [wrapI_i64 (by omega)] | (show CondP _ _ _; refine cS ?_) | refine cT ?_ | refine condP_ninR (fun _ _ => ?_) (fun _ _ => ?_) | refine cN (fun _ => ?_) fun _ => ?_ | refine callP_eq (ev_l1In _ _ _ _) ?_ | refine callP_eq (ev_l24Less _ _ _) ?_ | refine rE fun hml => ?_ | refine rI aN rf ix ?_ | refine rd_loadf aN tv ix ?_ | refine draw_intro 37 [.fl 0, .fl 1, .fl 2, .fl 3, .fl 4, .fl 5, .fl 6, .fl 7, .fl 8, .st 9 [], .fl 10, .fl 11] (by rfl) (by kernel_rfl) ?_ | refine And.intro ?_ ?_)
        all_goals first
          | (exfalso; omega)
          | (refine ⟨⟨i + 1, by omega, hinv⟩, ?_, rfl, by simp; omega⟩; (conv => whnf); repeat' (first | exact trivial | exact rfl | apply And.intro))
          | (exfalso; simp_all; done)
          | (exfalso; simp_all; omega)
  · rw [drop_end (by omega), stGo] at hinv
    rw [show isStore l = decide (l.length ≤ 24) from by unfold isStore; rw [← hinv, Bool.and_true]]
    repeat' ((conv => whnf) <;> first
     | (show CondP _ _ _; refine cS ?_) | refine rE fun hml => ?_ | refine And.intro ?_ ?_)
    all_goals first
      | rfl
      | (exfalso; omega)
      | (rw [decide_eq_true (by omega)] <;> rfl)
      | exact congrArg (fun z => AV.v (V.s (C.bool z))) (decide_eq_decide.2 (by omega))
def fair1 (l : List GRule) (x : GRule) : Bool := isRule x && decide ((l.filter (ruOf x.Ext)).length ≤ 6)
def isFair (l : List GRule) : Bool := decide (l.length ≤ 20) && l.all fun x => fair1 l x
theorem ev_sIsFair (l : List GRule) (c : C) (S : Store) (h : Rd S [.sl 8 (l.map GRule.d)] [c]) (hz : l.length ≤ 4194304) : EvA Tryz.prog 257 [.s c] S (fun r S' => r = .v (.s (.bool (isFair l))) ∧ S' = S) := by
  refine EvA.drop rfl ?_
  refine evA_intro tok Tryz.func257 (by kernel_rfl) rfl ?_
  skip
  all_goals try first
    | (rw [show isFair l = false from by unfold isFair; rw [decide_eq_false (by omega), Bool.false_and]]; rfl)
    | exact Ext.refl _
  refine loop_intro {p : Nat × Store // p.1 ≤ l.length ∧ Ext S p.2 ∧ (l.drop p.1).all (fun x => fair1 l x) = l.all fun x => fair1 l x} [2, 3, 4, 5, 6, 7, 8, 9, 10, 11, 12, 13, 14, 15, 16, 17, 18, 19, 20, 21, 22, 23, 24, 25, 26] (fun zb => [(3, .v (.s (.int .i64 zb.1.1)))]) (fun zb => zb.1.2) (fun zb => l.length - zb.1.1) ⟨(0, S), Nat.zero_le _, Ext.refl _, rfl⟩ ?_ rfl ?_
  · (conv => whnf); repeat' (first | exact trivial | exact rfl | apply And.intro)
  rintro ⟨⟨i, Si⟩, hi, hE, hinv⟩; dsimp only
  replace hi : i ≤ l.length := hi
  replace hE : Ext S Si := hE
  replace hinv : (l.drop i).all (fun x => fair1 l x) = l.all fun x => fair1 l x := hinv
  by_cases hlt : i < l.length
  · rw [drop_at hlt, List.all_cons] at hinv
    rcases hP : fair1 l (l[((i : Nat) : Int).toNat]'hlt) with _ | _
    · rw [show fair1 l l[i] = false from hP, Bool.false_and] at hinv
      rw [show isFair l = false from by unfold isFair; rw [← hinv, Bool.and_false]]
      unfold fair1 at hP
      rcases hR : isRule (l[((i : Nat) : Int).toNat]'hlt) with _ | _
      · clear hP
        repeat' ((conv => whnf) <;> first
         | (show CondP _ _ _; refine cS ?_) | refine cT ?_ | refine callP_eq (ev_sIsRule _ _) ?_ | refine rE fun hml => ?_ | refine rI rdA rf ix ?_ | refine rd_loadf rdA tv ix ?_ | refine And.intro ?_ ?_)
        all_goals first
          | rfl
          | exact hE
          | exact hE.trans (by assumption)
          | (exfalso; omega)
      · rw [hR, Bool.true_and] at hP
        have hP := of_decide_eq_false hP
        repeat' ((conv => whnf) <;> first
         | (show CondP _ _ _; refine cS ?_) | refine callP_eq (ev_sIsRule _ _) ?_ | (refine callP_intro (ev_sRulesOf _ _ _ _ rdA om) ?_; rintro _ Sn ⟨hEn, cn, rfl, hFn⟩) | refine rE fun hml => ?_ | refine rI rdA rf ix ?_ | refine rd_loadf rdA tv ix ?_ | refine And.intro ?_ ?_)
        all_goals first
          | rfl
          | exact hE
          | exact hE.trans (by assumption)
          | (exfalso; omega)
    · rw [show fair1 l l[i] = true from hP, Bool.true_and] at hinv
      unfold fair1 at hP
      simp only [Bool.and_eq_true, decide_eq_true_eq] at hP
      obtain ⟨hP1, hP2⟩ := hP
      repeat' ((conv => whnf) <;> first
       | rw [wrapI_i64 (by omega)] | (show CondP _ _ _; refine cS ?_) | refine callP_eq (ev_sIsRule _ _) ?_ | (refine callP_intro (ev_sRulesOf _ _ _ _ rdA om) ?_; rintro _ Sn ⟨hEn, cn, rfl, hFn⟩) | refine rE fun hml => ?_ | refine rI rdA rf ix ?_ | refine rd_loadf rdA tv ix ?_)
      all_goals first
        | (exfalso; omega)
        | (refine ⟨⟨(i + 1, _), by dsimp only; omega, hE.trans (by assumption), hinv⟩, ?_, rfl, by dsimp only; omega⟩; (conv => whnf); repeat' (first | exact trivial | exact rfl | (show _ = _; congr 3; dsimp only; omega) | apply And.intro))
        | (exfalso; simp_all; done)
        | (exfalso; simp_all; omega)
  · rw [drop_end (by omega), List.all_nil] at hinv
    rw [show isFair l = decide (l.length ≤ 20) from by unfold isFair; rw [← hinv, Bool.and_true]]
    repeat' ((conv => whnf) <;> first
     | (show CondP _ _ _; refine cS ?_) | refine rE fun hml => ?_ | refine And.intro ?_ ?_)
    all_goals first
      | rfl
      | exact hE
      | (exfalso; omega)
      | (rw [decide_eq_true (by omega)] <;> rfl)
      | exact congrArg (fun z => AV.v (V.s (C.bool z))) (decide_eq_decide.2 (by omega))
def bitI (b : Bool) : Int := if b then 1 else 0
def gInts (g : GGrant) : List Int := [g.Pattern.Owner, g.Pattern.Sub, g.Kind, g.From, g.Until, bitI g.Click]
def fInts (f : GFlow) : List Int := [f.From, f.To]
def rInts (r : GRule) : List Int := [r.Prio, r.Pattern.Owner, r.Pattern.Sub, r.Sort', r.Action, r.To.Owner, r.To.Sub]
def oInts (x : GOp) : List Int := [x.Kind, x.A, x.B, x.C]
def pk0 (p : GPackage) : List Int := [p.Ext, p.Author, p.Version, (p.Grants.length : Int)]
def pk1 (p : GPackage) : List Int := pk0 p ++ p.Grants.flatMap gInts ++ [(p.Flows.length : Int)]
def pk2 (p : GPackage) : List Int := pk1 p ++ p.Flows.flatMap fInts ++ [(p.Rules.length : Int)]
def pk3 (p : GPackage) : List Int := pk2 p ++ p.Rules.flatMap rInts ++ [(p.Ops.length : Int)]
def pk4 (p : GPackage) : List Int := pk3 p ++ p.Ops.flatMap oInts
def packInts (p : GPackage) : List Int := if isPackage p then pk4 p else []
theorem fm_len {α : Type} {f : α → List Int} {k : Nat} (hf : ∀ x, (f x).length = k) : ∀ l : List α, (l.flatMap f).length = k * l.length
  | [] => rfl
  | x :: l => by rw [List.flatMap_cons, List.length_append, hf, fm_len hf l, List.length_cons, Nat.mul_succ]; omega
theorem fm_take {α : Type} {f : α → List Int} {l : List α} {i : Nat} (h : i < l.length) : (l.take (i + 1)).flatMap f = (l.take i).flatMap f ++ f l[i] := by
  rw [List.take_succ_eq_append_getElem h, List.flatMap_append]; simp
theorem pack_lens {p : GPackage} (h : isPackage p = true) : p.Grants.length ≤ 6 ∧ p.Flows.length ≤ 6 ∧ p.Rules.length ≤ 6 ∧ p.Ops.length ≤ 16 := by
  unfold isPackage pack0 areOps at h
  simp only [Bool.and_eq_true, decide_eq_true_eq] at h
  omega
theorem packInts_len (p : GPackage) : (packInts p).length ≤ 200 := by
  unfold packInts
  split
  · rename_i h
    obtain ⟨h1, h2, h3, h4⟩ := pack_lens h
    simp only [pk4, pk3, pk2, pk1, pk0, List.length_append, List.length_cons, List.length_nil]
    rw [fm_len (f := gInts) (k := 6) (fun _ => rfl), fm_len (f := fInts) (k := 2) (fun _ => rfl), fm_len (f := rInts) (k := 7) (fun _ => rfl), fm_len (f := oInts) (k := 4) (fun _ => rfl)]
    omega
  · exact Nat.zero_le _
set_option maxHeartbeats 4000000 in
theorem ev_sPackageInts (p : GPackage) (cs : List C) (S : Store) (h : Rd S p.d cs) : EvA Tryz.prog 226 [.agg cs] S (fun r S' => Ext S S' ∧ ∃ d, r = .v (.s d) ∧ Fr S.length S' [.sl 1 ((packInts p).map dInt)] [d]) := by
  obtain ⟨_, _, _, _, rfl, _, _, _, _⟩ := GPackage.inv h
  rcases hk : isPackage p with _ | _
  · rw [show packInts p = [] from by unfold packInts; rw [hk]; rfl]
    refine evA_intro tok Tryz.func226 (by kernel_rfl) rfl ?_
    repeat' ((conv => whnf) <;> first
     | (show CondP _ _ _; refine cS ?_) | refine callP_eq (ev_sIsPackage _ _ _ rdcA) ?_ | refine And.intro ?_ ?_)
    all_goals first
      | exact Ext.push _ _
      | exact ⟨_, rfl, fr_lit0⟩
  rw [show packInts p = pk4 p from by unfold packInts; rw [hk]; rfl]
  obtain ⟨h1, h2, h3, h4⟩ := pack_lens hk
  have hp4 : pk4 p = pk3 p ++ p.Ops.flatMap oInts := rfl
  have hp3 : pk3 p = pk2 p ++ p.Rules.flatMap rInts ++ [(p.Ops.length : Int)] := rfl
  have hp2 : pk2 p = pk1 p ++ p.Flows.flatMap fInts ++ [(p.Rules.length : Int)] := rfl
  have hp1 : pk1 p = pk0 p ++ p.Grants.flatMap gInts ++ [(p.Flows.length : Int)] := rfl
  have hp0 : (pk0 p).length = 4 := rfl
  have f0 : Fr S.length (S ++ [⟨true, 1, (pk0 p).map fun x => flatC (dInt x)⟩]) [.sl 1 ((pk0 p ++ ([] : List GGrant).flatMap gInts).map dInt)] [.sl S.length 0 4 4] := fr_litF (f := dInt) (pk0 p) (fun _ => trivial) (by rw [hp0]; decide)
  have E0 : Ext S (S ++ [⟨true, 1, (pk0 p).map fun x => flatC (dInt x)⟩]) := Ext.push _ _
  refine evA_intro tok Tryz.func226 (by kernel_rfl) rfl ?_
  repeat' ((conv => whnf) <;> first
   | (show CondP _ _ _; refine cS ?_) | refine callP_eq (ev_sIsPackage _ _ _ rdcA) ?_ | refine rE fun hml => ?_)
  (conv => whnf)
  refine loop_intro {q : Nat × Store × C // q.1 ≤ p.Grants.length ∧ Ext S q.2.1 ∧ Fr S.length q.2.1 [.sl 1 ((pk0 p ++ (p.Grants.take q.1).flatMap gInts).map dInt)] [q.2.2]} [3, 4, 5, 6, 25, 26, 27, 28, 29, 30, 31, 32, 33, 34, 35, 36, 37, 38, 39, 40, 41, 42, 43, 44, 45, 46, 47, 48, 49, 50, 51, 52, 53, 54] (fun zb => [(4, .v (.s (.int .i64 zb.1.1))), (3, .v (.s zb.1.2.2))]) (fun zb => zb.1.2.1) (fun zb => p.Grants.length - zb.1.1) ⟨(0, _, _), Nat.zero_le _, E0, f0⟩ ?_ rfl ?_
  · (conv => whnf); repeat' (first | exact trivial | exact rfl | apply And.intro)
  clear f0 E0
  rintro ⟨⟨i, Si, ci⟩, hi, hE, hF⟩; dsimp only
  replace hi : i ≤ p.Grants.length := hi
  replace hE : Ext S Si := hE
  replace hF : Fr S.length Si [.sl 1 ((pk0 p ++ (p.Grants.take i).flatMap gInts).map dInt)] [ci] := hF
  have hln : (pk0 p ++ (p.Grants.take i).flatMap gInts).length ≤ 200 := by
    simp only [pk3, pk2, pk1, pk0, List.length_append, List.length_cons, List.length_nil]
    first
      | rw [fm_len (f := gInts) (k := 6) (fun _ => rfl), fm_len (f := fInts) (k := 2) (fun _ => rfl), fm_len (f := rInts) (k := 7) (fun _ => rfl), fm_len (f := oInts) (k := 4) (fun _ => rfl)]
      | rw [fm_len (f := gInts) (k := 6) (fun _ => rfl), fm_len (f := fInts) (k := 2) (fun _ => rfl), fm_len (f := rInts) (k := 7) (fun _ => rfl)]
      | rw [fm_len (f := gInts) (k := 6) (fun _ => rfl), fm_len (f := fInts) (k := 2) (fun _ => rfl)]
      | rw [fm_len (f := gInts) (k := 6) (fun _ => rfl)]
    rw [List.length_take]
    omega
  by_cases hlt : i < p.Grants.length
  · have hst : pk0 p ++ (p.Grants.take (i + 1)).flatMap gInts = (pk0 p ++ (p.Grants.take i).flatMap gInts) ++ gInts (p.Grants[((i : Nat) : Int).toNat]'hlt) := by rw [fm_take hlt, List.append_assoc]; rfl
    rcases hck : (p.Grants[((i : Nat) : Int).toNat]'hlt).Click with _ | _
    · have hgi : gInts (p.Grants[((i : Nat) : Int).toNat]'hlt) = [(p.Grants[((i : Nat) : Int).toNat]'hlt).Pattern.Owner, (p.Grants[((i : Nat) : Int).toNat]'hlt).Pattern.Sub, (p.Grants[((i : Nat) : Int).toNat]'hlt).Kind, (p.Grants[((i : Nat) : Int).toNat]'hlt).From, (p.Grants[((i : Nat) : Int).toNat]'hlt).Until, 0] := by unfold gInts bitI; rw [hck]; rfl
      rw [hgi] at hst
      have hbt : bitI (p.Grants[((i : Nat) : Int).toNat]'hlt).Click = 0 := by rw [hck]; rfl
      repeat' ((conv => whnf) <;> first
       | rw [wrapI_i64 (by omega)] | (show CondP _ _ _; refine cS ?_) | refine rE fun hml => ?_ | refine rI rdA rf ix ?_ | refine rd_loadf rdA tv ix ?_ | (refine fr_app_flat (f := dInt) (S0 := S) (l := pk0 p ++ (p.Grants.take i).flatMap gInts) (m := [(p.Grants[((i : Nat) : Int).toNat]'hlt).Pattern.Owner, (p.Grants[((i : Nat) : Int).toNat]'hlt).Pattern.Sub, (p.Grants[((i : Nat) : Int).toNat]'hlt).Kind, (p.Grants[((i : Nat) : Int).toNat]'hlt).From, (p.Grants[((i : Nat) : Int).toNat]'hlt).Until, 0]) (fun _ => trivial) hE hF (by rfl) rf (by dsimp only [T3]; first | omega | (simp only [List.length_cons, List.length_nil]; omega)) (by rw [maxLen_eq]; first | omega | (simp only [List.length_cons, List.length_nil]; omega)) ?_; intro cN SN hEN hFN hlN))
      all_goals first
        | (exfalso; omega)
        | (refine ⟨⟨(i + 1, _, _), by dsimp only; omega, by assumption, by rw [hst]; assumption⟩, ?_, rfl, by dsimp only; omega⟩; (conv => whnf); repeat' (first | exact trivial | exact rfl | (show _ = _; congr 3; dsimp only; omega) | apply And.intro))
    · have hgi : gInts (p.Grants[((i : Nat) : Int).toNat]'hlt) = [(p.Grants[((i : Nat) : Int).toNat]'hlt).Pattern.Owner, (p.Grants[((i : Nat) : Int).toNat]'hlt).Pattern.Sub, (p.Grants[((i : Nat) : Int).toNat]'hlt).Kind, (p.Grants[((i : Nat) : Int).toNat]'hlt).From, (p.Grants[((i : Nat) : Int).toNat]'hlt).Until, 1] := by unfold gInts bitI; rw [hck]; rfl
      rw [hgi] at hst
      have hbt : bitI (p.Grants[((i : Nat) : Int).toNat]'hlt).Click = 1 := by rw [hck]; rfl
      repeat' ((conv => whnf) <;> first
       | rw [wrapI_i64 (by omega)] | (show CondP _ _ _; refine cS ?_) | refine rE fun hml => ?_ | refine rI rdA rf ix ?_ | refine rd_loadf rdA tv ix ?_ | (refine fr_app_flat (f := dInt) (S0 := S) (l := pk0 p ++ (p.Grants.take i).flatMap gInts) (m := [(p.Grants[((i : Nat) : Int).toNat]'hlt).Pattern.Owner, (p.Grants[((i : Nat) : Int).toNat]'hlt).Pattern.Sub, (p.Grants[((i : Nat) : Int).toNat]'hlt).Kind, (p.Grants[((i : Nat) : Int).toNat]'hlt).From, (p.Grants[((i : Nat) : Int).toNat]'hlt).Until, 1]) (fun _ => trivial) hE hF (by rfl) rf (by dsimp only [T3]; first | omega | (simp only [List.length_cons, List.length_nil]; omega)) (by rw [maxLen_eq]; first | omega | (simp only [List.length_cons, List.length_nil]; omega)) ?_; intro cN SN hEN hFN hlN))
      all_goals first
        | (exfalso; omega)
        | (refine ⟨⟨(i + 1, _, _), by dsimp only; omega, by assumption, by rw [hst]; assumption⟩, ?_, rfl, by dsimp only; omega⟩; (conv => whnf); repeat' (first | exact trivial | exact rfl | (show _ = _; congr 3; dsimp only; omega) | apply And.intro))
  rw [List.take_of_length_le (by omega)] at hF
  rw [List.take_of_length_le (by omega)] at hln
  repeat' ((conv => whnf) <;> first
   | (show CondP _ _ _; refine cS ?_) | refine rE fun hml => ?_)
  all_goals try (exfalso; omega)
  (conv => whnf)
  refine fr_app_flat (f := dInt) (S0 := S) (l := pk0 p ++ p.Grants.flatMap gInts) (m := [(p.Flows.length : Int)]) (fun _ => trivial) hE hF (by rfl) (by intro _; rfl) (by dsimp only [T3]; simp only [List.length_cons, List.length_nil]; omega) (by rw [maxLen_eq]; simp only [List.length_cons, List.length_nil]; omega) ?_; intro c1 S1 E0 f0 l1
  replace f0 : Fr S.length S1 [.sl 1 ((pk1 p ++ ([] : List GFlow).flatMap fInts).map dInt)] [c1] := by rw [List.flatMap_nil, List.append_nil, hp1]; exact f0
  clear hF hE hln hlt hi
  skip
  (conv => whnf)
  refine loop_intro {q : Nat × Store × C // q.1 ≤ p.Flows.length ∧ Ext S q.2.1 ∧ Fr S.length q.2.1 [.sl 1 ((pk1 p ++ (p.Flows.take q.1).flatMap fInts).map dInt)] [q.2.2]} [3, 7, 61, 62, 63, 64, 65, 66, 67, 68, 69, 70, 71, 72, 73, 74, 75, 76, 77, 78, 79, 80, 81, 82] (fun zb => [(7, .v (.s (.int .i64 zb.1.1))), (3, .v (.s zb.1.2.2))]) (fun zb => zb.1.2.1) (fun zb => p.Flows.length - zb.1.1) ⟨(0, _, _), Nat.zero_le _, E0, f0⟩ ?_ rfl ?_
  · (conv => whnf); repeat' (first | exact trivial | exact rfl | apply And.intro)
  clear f0 E0
  rintro ⟨⟨i, Si, ci⟩, hi, hE, hF⟩; dsimp only
  replace hi : i ≤ p.Flows.length := hi
  replace hE : Ext S Si := hE
  replace hF : Fr S.length Si [.sl 1 ((pk1 p ++ (p.Flows.take i).flatMap fInts).map dInt)] [ci] := hF
  have hln : (pk1 p ++ (p.Flows.take i).flatMap fInts).length ≤ 200 := by
    simp only [pk3, pk2, pk1, pk0, List.length_append, List.length_cons, List.length_nil]
    first
      | rw [fm_len (f := gInts) (k := 6) (fun _ => rfl), fm_len (f := fInts) (k := 2) (fun _ => rfl), fm_len (f := rInts) (k := 7) (fun _ => rfl), fm_len (f := oInts) (k := 4) (fun _ => rfl)]
      | rw [fm_len (f := gInts) (k := 6) (fun _ => rfl), fm_len (f := fInts) (k := 2) (fun _ => rfl), fm_len (f := rInts) (k := 7) (fun _ => rfl)]
      | rw [fm_len (f := gInts) (k := 6) (fun _ => rfl), fm_len (f := fInts) (k := 2) (fun _ => rfl)]
      | rw [fm_len (f := gInts) (k := 6) (fun _ => rfl)]
    rw [List.length_take]
    omega
  by_cases hlt : i < p.Flows.length
  · have hst : pk1 p ++ (p.Flows.take (i + 1)).flatMap fInts = (pk1 p ++ (p.Flows.take i).flatMap fInts) ++ fInts (p.Flows[((i : Nat) : Int).toNat]'hlt) := by rw [fm_take hlt, List.append_assoc]; rfl
    have hfk : (fInts (p.Flows[((i : Nat) : Int).toNat]'hlt)).length = 2 := rfl
    repeat' ((conv => whnf) <;> first
     | rw [wrapI_i64 (by omega)] | (show CondP _ _ _; refine cS ?_) | refine rE fun hml => ?_ | refine rI rdA rf ix ?_ | refine rd_loadf rdA tv ix ?_ | refine draw_intro 68 [.fl 0, .fl 1, .fl 2, .fl 3, .fl 4, .fl 5, .fl 6, .fl 7, .fl 8, .fl 9, .fl 10, .fl 11, .fl 12, .fl 13, .st 14 [], .st 15 []] (by rfl) (by kernel_rfl) ?_ | (refine fr_app_flat (f := dInt) (S0 := S) (l := pk1 p ++ (p.Flows.take i).flatMap fInts) (m := fInts (p.Flows[((i : Nat) : Int).toNat]'hlt)) (fun _ => trivial) hE hF (by rfl) rf (by dsimp only [T3]; first | omega | (simp only [List.length_cons, List.length_nil]; omega)) (by rw [maxLen_eq]; first | omega | (simp only [List.length_cons, List.length_nil]; omega)) ?_; intro cN SN hEN hFN hlN))
    all_goals first
      | (exfalso; omega)
      | (refine ⟨⟨(i + 1, _, _), by dsimp only; omega, by assumption, by rw [hst]; assumption⟩, ?_, rfl, by dsimp only; omega⟩; (conv => whnf); repeat' (first | exact trivial | exact rfl | (show _ = _; congr 3; dsimp only; omega) | apply And.intro))
  rw [List.take_of_length_le (by omega)] at hF
  rw [List.take_of_length_le (by omega)] at hln
  repeat' ((conv => whnf) <;> first
   | (show CondP _ _ _; refine cS ?_) | refine rE fun hml => ?_)
  all_goals try (exfalso; omega)
  (conv => whnf)
  refine fr_app_flat (f := dInt) (S0 := S) (l := pk1 p ++ p.Flows.flatMap fInts) (m := [(p.Rules.length : Int)]) (fun _ => trivial) hE hF (by rfl) (by intro _; rfl) (by dsimp only [T3]; simp only [List.length_cons, List.length_nil]; omega) (by rw [maxLen_eq]; simp only [List.length_cons, List.length_nil]; omega) ?_; intro c2 S2 E0 f0 l2
  replace f0 : Fr S.length S2 [.sl 1 ((pk2 p ++ ([] : List GRule).flatMap rInts).map dInt)] [c2] := by rw [List.flatMap_nil, List.append_nil, hp2]; exact f0
  clear hF hE hln hlt hi
  skip
  (conv => whnf)
  refine loop_intro {q : Nat × Store × C // q.1 ≤ p.Rules.length ∧ Ext S q.2.1 ∧ Fr S.length q.2.1 [.sl 1 ((pk2 p ++ (p.Rules.take q.1).flatMap rInts).map dInt)] [q.2.2]} [3, 8, 9, 89, 90, 91, 92, 93, 94, 95, 96, 97, 98, 99, 100, 101, 102, 103, 104, 105, 106, 107, 108, 109, 110, 111, 112, 113, 114, 115, 116, 117, 118, 119, 120, 121] (fun zb => [(8, .v (.s (.int .i64 zb.1.1))), (3, .v (.s zb.1.2.2))]) (fun zb => zb.1.2.1) (fun zb => p.Rules.length - zb.1.1) ⟨(0, _, _), Nat.zero_le _, E0, f0⟩ ?_ rfl ?_
  · (conv => whnf); repeat' (first | exact trivial | exact rfl | apply And.intro)
  clear f0 E0
  rintro ⟨⟨i, Si, ci⟩, hi, hE, hF⟩; dsimp only
  replace hi : i ≤ p.Rules.length := hi
  replace hE : Ext S Si := hE
  replace hF : Fr S.length Si [.sl 1 ((pk2 p ++ (p.Rules.take i).flatMap rInts).map dInt)] [ci] := hF
  have hln : (pk2 p ++ (p.Rules.take i).flatMap rInts).length ≤ 200 := by
    simp only [pk3, pk2, pk1, pk0, List.length_append, List.length_cons, List.length_nil]
    first
      | rw [fm_len (f := gInts) (k := 6) (fun _ => rfl), fm_len (f := fInts) (k := 2) (fun _ => rfl), fm_len (f := rInts) (k := 7) (fun _ => rfl), fm_len (f := oInts) (k := 4) (fun _ => rfl)]
      | rw [fm_len (f := gInts) (k := 6) (fun _ => rfl), fm_len (f := fInts) (k := 2) (fun _ => rfl), fm_len (f := rInts) (k := 7) (fun _ => rfl)]
      | rw [fm_len (f := gInts) (k := 6) (fun _ => rfl), fm_len (f := fInts) (k := 2) (fun _ => rfl)]
      | rw [fm_len (f := gInts) (k := 6) (fun _ => rfl)]
    rw [List.length_take]
    omega
  by_cases hlt : i < p.Rules.length
  · have hst : pk2 p ++ (p.Rules.take (i + 1)).flatMap rInts = (pk2 p ++ (p.Rules.take i).flatMap rInts) ++ rInts (p.Rules[((i : Nat) : Int).toNat]'hlt) := by rw [fm_take hlt, List.append_assoc]; rfl
    have hfk : (rInts (p.Rules[((i : Nat) : Int).toNat]'hlt)).length = 7 := rfl
    repeat' ((conv => whnf) <;> first
     | rw [wrapI_i64 (by omega)] | (show CondP _ _ _; refine cS ?_) | refine rE fun hml => ?_ | refine rI rdA rf ix ?_ | refine rd_loadf rdA tv ix ?_ | (refine fr_app_flat (f := dInt) (S0 := S) (l := pk2 p ++ (p.Rules.take i).flatMap rInts) (m := rInts (p.Rules[((i : Nat) : Int).toNat]'hlt)) (fun _ => trivial) hE hF (by rfl) rf (by dsimp only [T3]; first | omega | (simp only [List.length_cons, List.length_nil]; omega)) (by rw [maxLen_eq]; first | omega | (simp only [List.length_cons, List.length_nil]; omega)) ?_; intro cN SN hEN hFN hlN))
    all_goals first
      | (exfalso; omega)
      | (refine ⟨⟨(i + 1, _, _), by dsimp only; omega, by assumption, by rw [hst]; assumption⟩, ?_, rfl, by dsimp only; omega⟩; (conv => whnf); repeat' (first | exact trivial | exact rfl | (show _ = _; congr 3; dsimp only; omega) | apply And.intro))
  rw [List.take_of_length_le (by omega)] at hF
  rw [List.take_of_length_le (by omega)] at hln
  repeat' ((conv => whnf) <;> first
   | (show CondP _ _ _; refine cS ?_) | refine rE fun hml => ?_)
  all_goals try (exfalso; omega)
  (conv => whnf)
  refine fr_app_flat (f := dInt) (S0 := S) (l := pk2 p ++ p.Rules.flatMap rInts) (m := [(p.Ops.length : Int)]) (fun _ => trivial) hE hF (by rfl) (by intro _; rfl) (by dsimp only [T3]; simp only [List.length_cons, List.length_nil]; omega) (by rw [maxLen_eq]; simp only [List.length_cons, List.length_nil]; omega) ?_; intro c3 S3 E0 f0 l3
  replace f0 : Fr S.length S3 [.sl 1 ((pk3 p ++ ([] : List GOp).flatMap oInts).map dInt)] [c3] := by rw [List.flatMap_nil, List.append_nil, hp3]; exact f0
  clear hF hE hln hlt hi
  skip
  (conv => whnf)
  refine loop_intro {q : Nat × Store × C // q.1 ≤ p.Ops.length ∧ Ext S q.2.1 ∧ Fr S.length q.2.1 [.sl 1 ((pk3 p ++ (p.Ops.take q.1).flatMap oInts).map dInt)] [q.2.2]} [3, 10, 128, 129, 130, 131, 132, 133, 134, 135, 136, 137, 138, 139, 140, 141, 142, 143, 144, 145, 146, 147, 148, 149, 150, 151, 152, 153, 154, 155, 156, 157, 158, 159, 160, 161] (fun zb => [(10, .v (.s (.int .i64 zb.1.1))), (3, .v (.s zb.1.2.2))]) (fun zb => zb.1.2.1) (fun zb => p.Ops.length - zb.1.1) ⟨(0, _, _), Nat.zero_le _, E0, f0⟩ ?_ rfl ?_
  · (conv => whnf); repeat' (first | exact trivial | exact rfl | apply And.intro)
  clear f0 E0
  rintro ⟨⟨i, Si, ci⟩, hi, hE, hF⟩; dsimp only
  replace hi : i ≤ p.Ops.length := hi
  replace hE : Ext S Si := hE
  replace hF : Fr S.length Si [.sl 1 ((pk3 p ++ (p.Ops.take i).flatMap oInts).map dInt)] [ci] := hF
  have hln : (pk3 p ++ (p.Ops.take i).flatMap oInts).length ≤ 200 := by
    simp only [pk3, pk2, pk1, pk0, List.length_append, List.length_cons, List.length_nil]
    first
      | rw [fm_len (f := gInts) (k := 6) (fun _ => rfl), fm_len (f := fInts) (k := 2) (fun _ => rfl), fm_len (f := rInts) (k := 7) (fun _ => rfl), fm_len (f := oInts) (k := 4) (fun _ => rfl)]
      | rw [fm_len (f := gInts) (k := 6) (fun _ => rfl), fm_len (f := fInts) (k := 2) (fun _ => rfl), fm_len (f := rInts) (k := 7) (fun _ => rfl)]
      | rw [fm_len (f := gInts) (k := 6) (fun _ => rfl), fm_len (f := fInts) (k := 2) (fun _ => rfl)]
      | rw [fm_len (f := gInts) (k := 6) (fun _ => rfl)]
    rw [List.length_take]
    omega
  by_cases hlt : i < p.Ops.length
  · have hst : pk3 p ++ (p.Ops.take (i + 1)).flatMap oInts = (pk3 p ++ (p.Ops.take i).flatMap oInts) ++ oInts (p.Ops[((i : Nat) : Int).toNat]'hlt) := by rw [fm_take hlt, List.append_assoc]; rfl
    have hfk : (oInts (p.Ops[((i : Nat) : Int).toNat]'hlt)).length = 4 := rfl
    repeat' ((conv => whnf) <;> first
     | rw [wrapI_i64 (by omega)] | (show CondP _ _ _; refine cS ?_) | refine rE fun hml => ?_ | refine rI rdA rf ix ?_ | refine rd_loadf rdA tv ix ?_ | refine draw_intro 135 [.fl 0, .fl 1, .fl 2, .fl 3, .fl 4, .fl 5, .fl 6, .fl 7, .fl 8, .fl 9, .fl 10, .fl 11, .fl 12, .fl 13, .fl 14, .fl 15, .fl 16, .fl 17, .fl 18, .fl 19, .fl 20, .fl 21, .fl 22, .fl 23, .fl 24, .fl 25, .st 26 [], .st 27 []] (by rfl) (by kernel_rfl) ?_ | (refine fr_app_flat (f := dInt) (S0 := S) (l := pk3 p ++ (p.Ops.take i).flatMap oInts) (m := oInts (p.Ops[((i : Nat) : Int).toNat]'hlt)) (fun _ => trivial) hE hF (by rfl) rf (by dsimp only [T3]; first | omega | (simp only [List.length_cons, List.length_nil]; omega)) (by rw [maxLen_eq]; first | omega | (simp only [List.length_cons, List.length_nil]; omega)) ?_; intro cN SN hEN hFN hlN))
    all_goals first
      | (exfalso; omega)
      | (refine ⟨⟨(i + 1, _, _), by dsimp only; omega, by assumption, by rw [hst]; assumption⟩, ?_, rfl, by dsimp only; omega⟩; (conv => whnf); repeat' (first | exact trivial | exact rfl | (show _ = _; congr 3; dsimp only; omega) | apply And.intro))
  rw [List.take_of_length_le (by omega)] at hF
  rw [List.take_of_length_le (by omega)] at hln
  repeat' ((conv => whnf) <;> first
   | (show CondP _ _ _; refine cS ?_) | refine rE fun hml => ?_ | refine And.intro ?_ ?_)
  all_goals first
    | exact hE
    | (exfalso; omega)
    | (rw [hp4]; exact ⟨_, rfl, hF⟩)
def sealOf (key : Int) (p : GPackage) : Int := if isKey key && isPackage p then keyed key (packInts p) else 0
def sealed (key : Int) (p : GPackage) : GPackage := { p with Seal := sealOf key p }
def isSealed (key : Int) (p : GPackage) : Bool := isPackage p && isKey key && decide (p.Seal = sealOf key p)
theorem ev_sSealPackage (key : Int) (p : GPackage) (cs : List C) (S : Store) (h : Rd S p.d cs) (hz : szL p.d ≤ 4194304) : EvA Tryz.prog 153 [.s (.int .i64 key), .agg cs] S (fun r S' => Ext S S' ∧ ∃ c3 c4 c5 c6, r = .v (.agg [.int .i64 p.Ext, .int .i64 p.Author, .int .i64 p.Version, c3, c4, c5, c6, .int .i64 (sealOf key p)]) ∧ Fr S.length S' (sealed key p).d [.int .i64 p.Ext, .int .i64 p.Author, .int .i64 p.Version, c3, c4, c5, c6, .int .i64 (sealOf key p)]) := by
  obtain ⟨_, _, _, _, rfl, _, _, _, _⟩ := GPackage.inv h
  have hrs : Rd S p.d _ := h
  refine evA_intro tok Tryz.func153 (by kernel_rfl) rfl ?_
  skip
  (conv => whnf)
  refine callP_intro (ev_l26Copy p _ _ h hz) ?_; rintro _ S1 ⟨e1, c3, c4, c5, c6, rfl, f1⟩
  rcases hk : isKey key && isPackage p with _ | _
  · have hs0 : sealOf key p = 0 := by unfold sealOf; rw [hk]; rfl
    have f2 : Fr S.length S1 (sealed key p).d _ := f1.setX (o := 7) (c' := .int .i64 (sealOf key p)) (by show 7 < 8; decide)
    rw [hs0] at f2 ⊢
    repeat' ((conv => whnf) <;> first
     | refine cF ?_ | refine cI (fun _ => ?_) fun _ => ?_ | refine callP_eq (ev_sIsValidKey _ _) ?_ | refine callP_eq (ev_sIsPackage _ _ _ rdcA) ?_ | (refine callP_intro (ev_sPackageInts _ _ _ rdcA) ?_; rintro _ Sn ⟨hEn, cn, rfl, hFn⟩) | refine And.intro ?_ ?_)
    all_goals first
      | exact e1
      | exact ⟨_, _, _, _, rfl, f2⟩
      | (exfalso; simp_all; done)
  · have hs0 : sealOf key p = keyed key (packInts p) := by unfold sealOf; rw [hk]; rfl
    simp only [Bool.and_eq_true] at hk
    have hpl := packInts_len p
    have f2 : Fr S.length S1 (sealed key p).d _ := f1.setX (o := 7) (c' := .int .i64 (sealOf key p)) (by show 7 < 8; decide)
    rw [hs0] at f2 ⊢
    repeat' ((conv => whnf) <;> first
     | refine cF ?_ | refine cI (fun _ => ?_) fun _ => ?_ | refine callP_eq (ev_sIsValidKey _ _) ?_ | refine callP_eq (ev_sIsPackage _ _ _ rdcA) ?_ | refine callP_eq (ev_sKeyedHash _ _ _ _ rdA (by first | assumption | omega)) ?_ | (refine callP_intro (ev_sPackageInts _ _ _ rdcA) ?_; rintro _ Sn ⟨hEn, cn, rfl, hFn⟩) | refine And.intro ?_ ?_)
    all_goals first
      | exact e1.trans (by assumption)
      | exact ⟨_, _, _, _, rfl, f2.ext (by assumption)⟩
      | (exfalso; simp_all; done)
theorem ev_sIsSealed (key : Int) (p : GPackage) (cs : List C) (S : Store) (h : Rd S p.d cs) (hz : szL p.d ≤ 4194304) : EvA Tryz.prog 249 [.s (.int .i64 key), .agg cs] S (fun r S' => r = .v (.s (.bool (isSealed key p))) ∧ S' = S) := by
  obtain ⟨_, _, _, _, rfl, _, _, _, _⟩ := GPackage.inv h
  refine EvA.drop rfl ?_
  rcases hk : isPackage p && isKey key with _ | _
  · rw [show isSealed key p = false from by unfold isSealed; rw [hk, Bool.false_and]]
    refine evA_intro tok Tryz.func249 (by kernel_rfl) rfl ?_
    repeat' ((conv => whnf) <;> first
     | refine cF ?_ | refine cI (fun _ => ?_) fun _ => ?_ | (refine callP_intro (ev_sSealPackage _ _ _ _ rdcA (by (first | omega | exact sz_at hz om | (simp only [szL]; omega)))) ?_; rintro _ Sn ⟨hEn, _, _, _, _, rfl, hFn⟩) | refine callP_eq (ev_sIsValidKey _ _) ?_ | refine callP_eq (ev_sIsPackage _ _ _ rdcA) ?_ | refine draw_intro 5 [.fl 0, .st 1 [], .fl 2, .fl 3, .st 4 [], .fl 5, .fl 6, .fl 7, .fl 8, .fl 11, .fl 12, .st 9 [11, 12], .fl 10, .fl 13, .fl 14, .st 15 []] (by rfl) (by kernel_rfl) ?_ | refine And.intro ?_ ?_)
    all_goals first
      | rfl
      | exact Ext.refl _
      | assumption
      | (exfalso; simp_all; done)
      | (simp_all [resAV]; done)
  · rw [show isSealed key p = decide (sealOf key p = p.Seal) from by unfold isSealed; rw [hk, Bool.true_and]; exact decide_eq_decide.2 ⟨Eq.symm, Eq.symm⟩]
    simp only [Bool.and_eq_true] at hk
    refine evA_intro tok Tryz.func249 (by kernel_rfl) rfl ?_
    repeat' ((conv => whnf) <;> first
     | refine cF ?_ | refine cI (fun _ => ?_) fun _ => ?_ | (refine callP_intro (ev_sSealPackage _ _ _ _ rdcA (by (first | omega | exact sz_at hz om | (simp only [szL]; omega)))) ?_; rintro _ Sn ⟨hEn, _, _, _, _, rfl, hFn⟩) | refine callP_eq (ev_sIsValidKey _ _) ?_ | refine callP_eq (ev_sIsPackage _ _ _ rdcA) ?_ | refine draw_intro 5 [.fl 0, .st 1 [], .fl 2, .fl 3, .st 4 [], .fl 5, .fl 6, .fl 7, .fl 8, .fl 11, .fl 12, .st 9 [11, 12], .fl 10, .fl 13, .fl 14, .st 15 []] (by rfl) (by kernel_rfl) ?_ | refine And.intro ?_ ?_)
    all_goals first
      | rfl
      | assumption
      | exact Ext.refl _
      | (exfalso; simp_all; done)
      | (simp_all [resAV]; done)
end Go.Proofs.YtlmmdpmmdmhacaaGreat
