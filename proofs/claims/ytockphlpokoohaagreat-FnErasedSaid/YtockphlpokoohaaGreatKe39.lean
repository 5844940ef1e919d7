/- A text of the proof. Lending; steps that change one part. -/
import Derived.Test.YtockphlpokoohaaGreatKe24
import Derived.Test.YtockphlpokoohaaGreatKe38
import Derived.Test.YtockphlpokoohaaGreatKe28
import Derived.Test.YtockphlpokoohaaGreatKe36
import Derived.Test.YtockphlpokoohaaGreatKe25
namespace Go.Proofs.YtockphlpokoohaaGreat
open Go Go.ChangeShapes Go.WideShapes Go.ChangeAt Go.RowKit
set_option linter.unusedVariables false
set_option linter.unusedSimpArgs false
set_option maxRecDepth 100000
def unexp (tick : Int) (g : GGrant) : Bool := isGrant g && decide (tick ≤ g.Until)
def stepTick (b : GBrowser) (n : Int) : GBrowser × Bool := if inR n 1 100 && inR b.Now 0 (10000 - n) then ({ b with Now := b.Now + n, Grants := b.Grants.filter (unexp (b.Now + n)) }, true) else (b, false)
theorem ev_sExpire (l : List GGrant) (tick : Int) (c : C) (S : Store) (h : Rd S [.sl 7 (l.map GGrant.d)] [c]) (hz : l.length ≤ 4194304) : EvA Tryz.prog 284 [.s c, .s (.int .i64 tick)] S (fun r S' => Ext S S' ∧ ∃ c', r = .v (.s c') ∧ Fr S.length S' [.sl 7 ((l.filter (unexp tick)).map GGrant.d)] [c']) := by
  refine evA_intro tok Tryz.func284 (by kernel_rfl) rfl ?_
  repeat' ((conv => whnf) <;> first
   | rw [wrapI_i64 (by omega)] | refine cD (fun _ => ?_) fun _ => ?_ | refine cE (fun _ => ?_) fun _ => ?_ | refine cT ?_ | refine cF ?_ | refine cN (fun _ => ?_) fun _ => ?_ | refine cI (fun _ => ?_) fun _ => ?_ | refine callP_eq (ev_sIsGrant _ _) ?_ | refine rE fun hml => ?_ | refine rI rdA rf ix ?_ | refine rd_loadf rdA tv ix ?_ | refine nP ?_ | refine And.intro ?_ ?_)
  refine loop_intro {p : Nat × Store × C // p.1 ≤ l.length ∧ Ext S p.2.1 ∧ Fr S.length p.2.1 [.sl 7 (((l.take p.1).filter (unexp tick)).map GGrant.d)] [p.2.2]} [5, 6, 8, 9, 10, 11, 12, 13, 14, 15, 16, 17, 18, 19, 20, 21, 22, 23, 24, 25, 26, 27, 28, 29, 30, 31, 32, 33, 34] (fun zb => [(6, .v (.s (.int .i64 zb.1.1))), (5, .v (.s zb.1.2.2))]) (fun zb => zb.1.2.1) (fun zb => l.length - zb.1.1) ⟨(0, _, _), Nat.zero_le _, Ext.push _ _, fr_lit0⟩ ?_ rfl ?_
  · (conv => whnf); repeat' (first | exact trivial | exact rfl | apply And.intro)
  rintro ⟨⟨i, Si, ci⟩, hi, hE, hF⟩; dsimp only
  replace hi : i ≤ l.length := hi
  replace hE : Ext S Si := hE
  replace hF : Fr S.length Si [.sl 7 (((l.take i).filter (unexp tick)).map GGrant.d)] [ci] := hF
  have hfl := filter_len (unexp tick) l i
  repeat' ((conv => whnf) <;> first
   | rw [wrapI_i64 (by omega)] | refine cD (fun _ => ?_) fun _ => ?_ | refine cE (fun _ => ?_) fun _ => ?_ | refine cT ?_ | refine cF ?_ | refine cN (fun _ => ?_) fun _ => ?_ | refine cI (fun _ => ?_) fun _ => ?_ | refine callP_eq (ev_sIsGrant _ _) ?_ | refine rE fun hml => ?_ | refine rI rdA rf ix ?_ | refine rd_loadf rdA tv ix ?_ | refine nP ?_ | (refine fr_app1 (f := GGrant.d) aN aN tv (by rfl) rf (by dsimp only [T170]; omega) om ?_; intro cN SN hEN hFN) | refine And.intro ?_ ?_)
  all_goals first
    | exact hE
    | (rw [List.take_of_length_le (by omega)] at hF; exact ⟨_, rfl, hF⟩)
    | (refine ⟨⟨(i + 1, _, _), by dsimp only; omega, by assumption, by first | (rw [filter_t (by omega) (by simp_all [unexp])]; assumption) | (rw [filter_f (by omega) (by simp_all [unexp])]; assumption)⟩, ?_, rfl, by dsimp only; omega⟩; (conv => whnf); repeat' (first | exact trivial | exact rfl | apply And.intro))
set_option maxHeartbeats 2000000 in
theorem ev_sStepTick (b : GBrowser) (n : Int) (cs : List C) (S : Store) (h : Rd S b.d cs) (hz : szL b.d ≤ 2097152) : EvA Tryz.prog 225 [.agg cs, .s (.int .i64 n)] S (fun r S' => Ext S S' ∧ ∃ c1 c2 c3 c4 c5 c6, r = .tup [.agg [.int .i64 (stepTick b n).1.Key, c1, c2, c3, c4, c5, c6, .int .i64 (stepTick b n).1.Now], .s (.bool (stepTick b n).2)] ∧ Fr S.length S' (stepTick b n).1.d [.int .i64 (stepTick b n).1.Key, c1, c2, c3, c4, c5, c6, .int .i64 (stepTick b n).1.Now]) := by
  have hzs := hz
  simp only [GBrowser.d, szL, List.length_map] at hzs
  have hh := h
  obtain ⟨_, _, _, _, _, _, rfl, r1, r2, r3, r4, r5, r6⟩ := GBrowser.inv h
  rcases hk : inR n 1 100 && inR b.Now 0 (10000 - n) with _ | _
  · rw [show stepTick b n = (b, false) from by unfold stepTick; rw [hk]; rfl]
    have hk' : ¬ ((1 ≤ n ∧ n ≤ 100) ∧ 0 ≤ b.Now ∧ b.Now ≤ 10000 - n) := fun hx => by
      simp only [inR, Bool.and_eq_false_iff, decide_eq_false_iff_not] at hk; omega
    refine evA_intro tok Tryz.func225 (by kernel_rfl) rfl ?_
    repeat' ((conv => whnf) <;> first
     | rw [wrapI_i64 (by omega)] | refine cD (fun _ => ?_) fun _ => ?_ | refine cE (fun _ => ?_) fun _ => ?_ | refine cT ?_ | refine cF ?_ | refine condP_inR (fun _ _ => ?_) (fun _ _ => ?_) | refine condP_ninR (fun _ _ => ?_) (fun _ _ => ?_) | refine cN (fun _ => ?_) fun _ => ?_ | refine cI (fun _ => ?_) fun _ => ?_ | refine callP_eq (ev_l1In _ _ _ _) ?_ | refine nP ?_ | refine And.intro ?_ ?_)
    (conv => whnf)
    refine callP_intro (ev_l32Copy b _ _ hh (by omega)) ?_; rintro _ Sc ⟨e0, g1, g2, g3, g4, g5, g6, rfl, f0⟩
    repeat' ((conv => whnf) <;> first
     | rw [wrapI_i64 (by omega)] | refine cD (fun _ => ?_) fun _ => ?_ | refine cE (fun _ => ?_) fun _ => ?_ | refine cT ?_ | refine cF ?_ | refine condP_inR (fun _ _ => ?_) (fun _ _ => ?_) | refine condP_ninR (fun _ _ => ?_) (fun _ _ => ?_) | refine cN (fun _ => ?_) fun _ => ?_ | refine cI (fun _ => ?_) fun _ => ?_ | (refine callP_intro (ev_l32Copy _ _ _ rdcA (by (first | omega | exact sz_at hz om | (simp only [szL]; omega)))) ?_; rintro _ Sn ⟨hEn, _, _, _, _, _, _, rfl, hFn⟩) | refine callP_eq (ev_l1In _ _ _ _) ?_ | (refine callP_intro (ev_sExpire _ _ _ _ rdA om) ?_; rintro _ Sn ⟨hEn, cn, rfl, hFn⟩) | refine nP ?_ | refine And.intro ?_ ?_)
    all_goals first
      | exact e0
      | exact ⟨_, _, _, _, _, _, rfl, f0⟩
      | (exfalso; omega)
      | (exfalso; simp_all [inR]; omega)
  · rw [show stepTick b n = ({ b with Now := b.Now + n, Grants := b.Grants.filter (unexp (b.Now + n)) }, true) from by unfold stepTick; rw [hk]; rfl]
    have hk' : (1 ≤ n ∧ n ≤ 100) ∧ 0 ≤ b.Now ∧ b.Now ≤ 10000 - n := by
      simp only [inR, Bool.and_eq_true, decide_eq_true_eq] at hk; exact hk
    refine evA_intro tok Tryz.func225 (by kernel_rfl) rfl ?_
    repeat' ((conv => whnf) <;> first
     | rw [wrapI_i64 (by omega)] | refine cD (fun _ => ?_) fun _ => ?_ | refine cE (fun _ => ?_) fun _ => ?_ | refine cT ?_ | refine cF ?_ | refine condP_inR (fun _ _ => ?_) (fun _ _ => ?_) | refine condP_ninR (fun _ _ => ?_) (fun _ _ => ?_) | refine cN (fun _ => ?_) fun _ => ?_ | refine cI (fun _ => ?_) fun _ => ?_ | refine callP_eq (ev_l1In _ _ _ _) ?_ | refine nP ?_ | refine And.intro ?_ ?_)
    (conv => whnf)
    refine callP_intro (ev_l32Copy b _ _ hh (by omega)) ?_; rintro _ Sc ⟨e0, g1, g2, g3, g4, g5, g6, rfl, f0⟩
    have r3c := r3.ext e0
    repeat' ((conv => whnf) <;> first
     | (refine callP_intro (ev_sExpire b.Grants (b.Now + n) _ _ r3c om) ?_; rintro _ S2 ⟨e2, cN, rfl, f2⟩; have fJ := f0.join e2 f2 e0.len) | rw [wrapI_i64 (by omega)] | (show CondP _ _ _; refine cS ?_) | refine cD (fun _ => ?_) fun _ => ?_ | refine cE (fun _ => ?_) fun _ => ?_ | refine cT ?_ | refine cF ?_ | refine condP_inR (fun _ _ => ?_) (fun _ _ => ?_) | refine condP_ninR (fun _ _ => ?_) (fun _ _ => ?_) | refine cN (fun _ => ?_) fun _ => ?_ | refine cI (fun _ => ?_) fun _ => ?_ | (refine callP_intro (ev_l32Copy _ _ _ rdcA (by (first | omega | exact sz_at hz om | (simp only [szL]; omega)))) ?_; rintro _ Sn ⟨hEn, _, _, _, _, _, _, rfl, hFn⟩) | refine callP_eq (ev_l1In _ _ _ _) ?_ | (refine callP_intro (ev_sExpire _ _ _ _ rdA om) ?_; rintro _ Sn ⟨hEn, cn, rfl, hFn⟩) | refine nP ?_ | refine And.intro ?_ ?_)
    all_goals first
      | exact e0.trans e2
      | exact ⟨_, _, _, _, _, _, rfl, ((fJ.putLast (o := 3) rfl (by show 3 < 8; decide)).setX (o := 7) (c' := .int .i64 (b.Now + n)) (by show 7 < 8; decide))⟩
      | (exfalso; omega)
      | (exfalso; simp_all [inR]; omega)
theorem GOutcome.ext_iff' (x y : GOutcome) : x = y ↔ x.Code = y.Code ∧ (x.Site.Owner = y.Site.Owner ∧ x.Site.Sub = y.Site.Sub) ∧ x.Path = y.Path := by
  obtain ⟨a, ⟨b, c⟩, d⟩ := x; obtain ⟨a', ⟨b', c'⟩, d'⟩ := y
  simp only [GOutcome.mk.injEq, GSite.mk.injEq]
theorem GOutcome.dec (x y : GOutcome) : decide (x = y) = decide (x.Code = y.Code ∧ (x.Site.Owner = y.Site.Owner ∧ x.Site.Sub = y.Site.Sub) ∧ x.Path = y.Path) := decide_eq_decide.2 (GOutcome.ext_iff' x y)
end Go.Proofs.YtockphlpokoohaaGreat
namespace Go.Proofs.YtockphlpokoohaaGreat
open Go Go.ChangeShapes Go.WideShapes Go.ChangeAt Go.RowKit
set_option linter.unusedVariables false
set_option linter.unusedSimpArgs false
set_option maxRecDepth 100000
abbrev lendG (ext : Int) (s : GSite) (tick k : Int) : GGrant := ⟨ext, ⟨s.Owner, s.Sub⟩, k, tick, tick + 5, false⟩
abbrev lend2 (ext : Int) (s : GSite) (tick : Int) : List GGrant := [lendG ext s tick 1, lendG ext s tick 2]
def lendOk (ext : Int) (s : GSite) (tick : Int) : Bool := inR ext 1 5 && isSite s && inR tick 0 9995
def lendGrants (ext : Int) (s : GSite) (tick : Int) : List GGrant := if lendOk ext s tick then lend2 ext s tick else []
theorem lendG_len (ext : Int) (s : GSite) (tick : Int) : (lendGrants ext s tick).length ≤ 2 := by unfold lendGrants; split <;> simp
theorem ev_sLendGrants (ext : Int) (s : GSite) (tick : Int) (S : Store) : EvA Tryz.prog 334 [.s (.int .i64 ext), .agg s.c, .s (.int .i64 tick)] S (fun r S' => Ext S S' ∧ ∃ c', r = .v (.s c') ∧ Fr S.length S' [.sl 7 ((lendGrants ext s tick).map GGrant.d)] [c']) := by
  have hr : lendOk ext s tick = true → 0 ≤ tick ∧ tick ≤ 9995 := by intro h; simp [lendOk, inR] at h; omega
  rcases hk : lendOk ext s tick with _ | _
  · have e : lendGrants ext s tick = [] := by unfold lendGrants; rw [if_neg (by rw [hk]; decide)]
    rw [e]
    refine evA_intro tok Tryz.func334 (by kernel_rfl) rfl ?_
    repeat' ((conv => whnf) <;> first
     | rw [wrapI_i64 (by omega)] | refine cD (fun _ => ?_) fun _ => ?_ | refine cE (fun _ => ?_) fun _ => ?_ | refine cT ?_ | refine cF ?_ | refine condP_inR (fun _ _ => ?_) (fun _ _ => ?_) | refine condP_ninR (fun _ _ => ?_) (fun _ _ => ?_) | refine cN (fun _ => ?_) fun _ => ?_ | refine cI (fun _ => ?_) fun _ => ?_ | refine callP_eq (ev_l1In _ _ _ _) ?_ | refine callP_eq (ev_sIsSite _ _) ?_ | refine nP ?_ | refine And.intro ?_ ?_)
    all_goals first
      | exact Ext.push _ _
      | exact ⟨_, rfl, fr_lit0⟩
      | (exfalso; simp_all [lendOk]; done)
  · have e : lendGrants ext s tick = lend2 ext s tick := by unfold lendGrants; rw [if_pos hk]
    have ht := hr hk
    have t3 := fr_litF (S := S) (f := GGrant.d) (k := 7) (lend2 ext s tick) (fun _ => trivial) (by simp)
    rw [e]
    refine evA_intro tok Tryz.func334 (by kernel_rfl) rfl ?_
    repeat' ((conv => whnf) <;> first
     | rw [wrapI_i64 (by omega)] | refine cD (fun _ => ?_) fun _ => ?_ | refine cE (fun _ => ?_) fun _ => ?_ | refine cT ?_ | refine cF ?_ | refine condP_inR (fun _ _ => ?_) (fun _ _ => ?_) | refine condP_ninR (fun _ _ => ?_) (fun _ _ => ?_) | refine cN (fun _ => ?_) fun _ => ?_ | refine cI (fun _ => ?_) fun _ => ?_ | refine callP_eq (ev_l1In _ _ _ _) ?_ | refine callP_eq (ev_sIsSite _ _) ?_ | refine nP ?_ | refine And.intro ?_ ?_)
    all_goals try (exfalso; simp_all [lendOk]; done)
    refine loop_intro {p : Nat × Store × C // p.1 ≤ 2 ∧ Ext S p.2.1 ∧ Fr S.length p.2.1 [.sl 7 (((lend2 ext s tick).take p.1).map GGrant.d)] [p.2.2]} [7, 9, 30, 31, 32, 33, 34, 35, 36, 37, 38, 39, 40, 41, 42, 43] (fun zb => [(9, .v (.s (.int .i64 ((zb.1.1 : Int) + 1)))), (7, .v (.s zb.1.2.2))]) (fun zb => zb.1.2.1) (fun zb => 2 - zb.1.1) ⟨(0, _, _), Nat.zero_le _, Ext.push _ _, fr_lit0⟩ ?_ rfl ?_
    · (conv => whnf); repeat' (first | exact trivial | exact rfl | apply And.intro)
    rintro ⟨⟨i, Si, ci⟩, hi, hE, hF⟩; dsimp only
    replace hi : i ≤ 2 := hi
    replace hE : Ext S Si := hE
    replace hF : Fr S.length Si [.sl 7 (((lend2 ext s tick).take i).map GGrant.d)] [ci] := hF
    rcases Nat.lt_or_ge i 2 with hlt | hlt
    · have hl : ((lend2 ext s tick).take i).length = i := by simp; omega
      have hx : (lend2 ext s tick).take (i + 1) = (lend2 ext s tick).take i ++ [lendG ext s tick ((i : Int) + 1)] := by
        rcases i with _ | _ | i
        · rfl
        · rfl
        · omega
      repeat' ((conv => whnf) <;> first
       | rw [wrapI_i64 (by omega)] | refine cD (fun _ => ?_) fun _ => ?_ | refine cE (fun _ => ?_) fun _ => ?_ | refine cT ?_ | refine cF ?_ | refine condP_inR (fun _ _ => ?_) (fun _ _ => ?_) | refine condP_ninR (fun _ _ => ?_) (fun _ _ => ?_) | refine cN (fun _ => ?_) fun _ => ?_ | refine cI (fun _ => ?_) fun _ => ?_ | refine callP_eq (ev_l1In _ _ _ _) ?_ | refine callP_eq (ev_sIsSite _ _) ?_ | refine nP ?_ | (refine fr_app1 (f := GGrant.d) (x := lendG ext s tick ((i : Int) + 1)) aN aN tv (by rfl) rf (by dsimp only [T170]; omega) om ?_; intro cN SN hEN hFN) | refine And.intro ?_ ?_)
      all_goals first
        | (exfalso; omega)
        | (refine ⟨⟨(i + 1, _, _), by dsimp only; omega, by assumption, by rw [hx]; assumption⟩, ?_, rfl, by dsimp only; omega⟩; (conv => whnf); repeat' (first | exact trivial | exact rfl | (show _ = _; congr 3; dsimp only; omega) | apply And.intro))
    · rw [List.take_of_length_le (by simp; omega)] at hF
      repeat' ((conv => whnf) <;> first
       | rw [wrapI_i64 (by omega)] | refine cD (fun _ => ?_) fun _ => ?_ | refine cE (fun _ => ?_) fun _ => ?_ | refine cT ?_ | refine cF ?_ | refine condP_inR (fun _ _ => ?_) (fun _ _ => ?_) | refine condP_ninR (fun _ _ => ?_) (fun _ _ => ?_) | refine cN (fun _ => ?_) fun _ => ?_ | refine cI (fun _ => ?_) fun _ => ?_ | refine callP_eq (ev_l1In _ _ _ _) ?_ | refine callP_eq (ev_sIsSite _ _) ?_ | refine nP ?_ | refine And.intro ?_ ?_)
      all_goals first
        | (exfalso; omega)
        | exact hE
        | exact ⟨_, rfl, hF⟩
def lendNew (l : List GGrant) (g : GGrant) : Bool := !decide (g ∈ l)
def lendOut (l : List GGrant) (ext : Int) (s : GSite) (tick : Int) : List GGrant := l ++ (lendGrants ext s tick).filter (lendNew l)
def lendBad (l : List GGrant) (ext : Int) (s : GSite) (tick : Int) : Bool := decide ((lendGrants ext s tick).length = 0) || decide (16 < (lendOut l ext s tick).length)
def lendTo (l : List GGrant) (ext : Int) (s : GSite) (tick : Int) : List GGrant × Bool := if lendBad l ext s tick then (l, false) else (lendOut l ext s tick, true)
theorem any_eq_mem (x : GGrant) (l : List GGrant) : (l.any fun y => decide (y = x)) = decide (x ∈ l) := by
  rw [Bool.eq_iff_iff]; simp
theorem ev_sLendTo (l : List GGrant) (ext : Int) (s : GSite) (tick : Int) (c : C) (S : Store) (h : Rd S [.sl 7 (l.map GGrant.d)] [c]) (hz : l.length ≤ 4194300) : EvA Tryz.prog 285 [.s c, .s (.int .i64 ext), .agg s.c, .s (.int .i64 tick)] S (fun r S' => Ext S S' ∧ ∃ c', r = .tup [.s c', .s (.bool (lendTo l ext s tick).2)] ∧ Fr S.length S' [.sl 7 ((lendTo l ext s tick).1.map GGrant.d)] [c']) := by
  have hxl := lendG_len ext s tick
  refine evA_intro tok Tryz.func285 (by kernel_rfl) rfl ?_
  repeat' ((conv => whnf) <;> first
   | rw [wrapI_i64 (by omega)] | refine cD (fun _ => ?_) fun _ => ?_ | refine cE (fun _ => ?_) fun _ => ?_ | refine cT ?_ | refine cF ?_ | refine cN (fun _ => ?_) fun _ => ?_ | refine cI (fun _ => ?_) fun _ => ?_ | refine rE fun hml => ?_ | refine rI rdA rf ix ?_ | refine rd_loadf rdA tv ix ?_ | refine nP ?_ | refine draw_intro 34 [.fl 0, .fl 1, .fl 2, .fl 3, .fl 4, .fl 5, .fl 6, .fl 7, .fl 8, .fl 9, .fl 10, .fl 11, .st 12 []] (by rfl) (by kernel_rfl) ?_ | refine And.intro ?_ ?_)
  (conv => whnf)
  refine callP_intro (ev_sLendGrants ext s tick _) ?_; rintro _ S0 ⟨e0, cx, rfl, fx⟩
  have hx := fx.rd
  have hfin : lendTo l ext s tick = if lendBad l ext s tick then (l, false) else (lendOut l ext s tick, true) := rfl
  have hob : lendBad l ext s tick = (decide ((lendGrants ext s tick).length = 0) || decide (16 < (lendOut l ext s tick).length)) := rfl
  have hout : lendOut l ext s tick = l ++ ((lendGrants ext s tick).filter (lendNew l)) := rfl
  generalize lendGrants ext s tick = x at *
  clear fx
  repeat' ((conv => whnf) <;> first
   | rw [wrapI_i64 (by omega)] | refine cD (fun _ => ?_) fun _ => ?_ | refine cE (fun _ => ?_) fun _ => ?_ | refine cT ?_ | refine cF ?_ | refine cN (fun _ => ?_) fun _ => ?_ | refine cI (fun _ => ?_) fun _ => ?_ | refine rE fun hml => ?_ | refine rI rdA rf ix ?_ | refine rd_loadf rdA tv ix ?_ | refine nP ?_ | refine draw_intro 34 [.fl 0, .fl 1, .fl 2, .fl 3, .fl 4, .fl 5, .fl 6, .fl 7, .fl 8, .fl 9, .fl 10, .fl 11, .st 12 []] (by rfl) (by kernel_rfl) ?_ | (refine rd_elemsf (f := GGrant.d) (l := l) rdA tv (fun _ => ?_)) | refine And.intro ?_ ?_)
  (conv => whnf)
  refine fr_clone (f := GGrant.d) (by intro _; exact trivial) (by intro _; rfl) (by dsimp only [T170]; omega) (by omega) ?_; intro co S1 e1 fo
  repeat' ((conv => whnf) <;> first
   | rw [wrapI_i64 (by omega)] | refine cD (fun _ => ?_) fun _ => ?_ | refine cE (fun _ => ?_) fun _ => ?_ | refine cT ?_ | refine cF ?_ | refine cN (fun _ => ?_) fun _ => ?_ | refine cI (fun _ => ?_) fun _ => ?_ | refine rE fun hml => ?_ | refine rI rdA rf ix ?_ | refine rd_loadf rdA tv ix ?_ | refine nP ?_ | refine draw_intro 34 [.fl 0, .fl 1, .fl 2, .fl 3, .fl 4, .fl 5, .fl 6, .fl 7, .fl 8, .fl 9, .fl 10, .fl 11, .st 12 []] (by rfl) (by kernel_rfl) ?_ | refine And.intro ?_ ?_)
  refine loop_intro {p : Nat × Store × C // p.1 ≤ x.length ∧ Ext S0 p.2.1 ∧ Fr S0.length p.2.1 [.sl 7 ((l ++ (x.take p.1).filter (lendNew l)).map GGrant.d)] [p.2.2]} [11, 12, 13, 14, 22, 23, 24, 25, 26, 27, 28, 29, 30, 31, 32, 33, 34, 35, 36, 37, 38, 39, 40, 41, 42, 43, 44, 45, 46, 47, 48, 49, 50, 51, 52, 53, 54] (fun zb => [(12, .v (.s (.int .i64 zb.1.1))), (11, .v (.s zb.1.2.2))]) (fun zb => zb.1.2.1) (fun zb => x.length - zb.1.1) ⟨(0, _, _), Nat.zero_le _, e1, by rw [List.take_zero, List.filter_nil, List.append_nil]; exact fo⟩ ?_ rfl ?_
  · (conv => whnf); repeat' (first | exact trivial | exact rfl | apply And.intro)
  rintro ⟨⟨i, Si, ci⟩, hi, hE, hF⟩; dsimp only
  replace hi : i ≤ x.length := hi
  replace hE : Ext S0 Si := hE
  replace hF : Fr S0.length Si [.sl 7 ((l ++ (x.take i).filter (lendNew l)).map GGrant.d)] [ci] := hF
  have hfl := filter_len (lendNew l) x i
  have hll : (l ++ (x.take i).filter (lendNew l)).length = l.length + ((x.take i).filter (lendNew l)).length := List.length_append
  by_cases hlt : i < x.length
  · have hrl : Rd Si [.sl 7 (l.map GGrant.d)] [c] := h.ext (e0.trans hE)
    repeat' ((conv => whnf) <;> first
     | rw [wrapI_i64 (by omega)] | refine cD (fun _ => ?_) fun _ => ?_ | refine cE (fun _ => ?_) fun _ => ?_ | refine cT ?_ | refine cF ?_ | refine cN (fun _ => ?_) fun _ => ?_ | refine cI (fun _ => ?_) fun _ => ?_ | (refine callP_intro (ev_sLendGrants _ _ _ _) ?_; rintro _ Sn ⟨hEn, cn, rfl, hFn⟩) | (refine callP_intro (ev_sLendGrants _ ⟨_, _⟩ _ _) ?_; rintro _ Sn ⟨hEn, cn, rfl, hFn⟩) | refine rE fun hml => ?_ | refine rI rdA rf ix ?_ | refine rd_loadf rdA tv ix ?_ | refine nP ?_ | refine draw_intro 34 [.fl 0, .fl 1, .fl 2, .fl 3, .fl 4, .fl 5, .fl 6, .fl 7, .fl 8, .fl 9, .fl 10, .fl 11, .st 12 []] (by rfl) (by kernel_rfl) ?_ | (refine fr_app1 (f := GGrant.d) (x := x[i]'hlt) hF hE tv (by rfl) rf (by dsimp only [T170]; omega) om ?_; intro cN SN hEN hFN) | refine And.intro ?_ ?_)
    all_goals try (exfalso; omega)
    refine loop_intro {p : Nat × Bool // p.1 ≤ l.length ∧ p.2 = (l.take p.1).any fun y => decide (y = x[i]'hlt)} [13, 14, 28, 29, 30, 31, 32, 33, 34, 35, 36, 37, 38, 39, 40, 41, 42, 43, 44, 45] (fun zb => [(14, .v (.s (.int .i64 zb.1.1))), (13, .v (.s (.bool zb.1.2)))]) (fun _ => Si) (fun zb => l.length - zb.1.1) ⟨(0, false), Nat.zero_le _, by simp⟩ ?_ rfl ?_
    · (conv => whnf); repeat' (first | exact trivial | exact rfl | apply And.intro)
    rintro ⟨⟨j, sj⟩, hj, hjnv⟩; dsimp only
    replace hj : j ≤ l.length := hj
    replace hjnv : sj = (l.take j).any fun y => decide (y = x[i]'hlt) := hjnv
    by_cases hjl : j < l.length
    · have hst : ((l.take (j + 1)).any fun y => decide (y = x[i]'hlt)) = (sj || decide (l[j] = x[i]'hlt)) := by rw [List.take_succ_eq_append_getElem hjl, List.any_append, ← hjnv]; simp
      clear hjnv
      rcases sj with _ | _
      · repeat' ((conv => whnf) <;> first
         | rw [wrapI_i64 (by omega)] | refine cD (fun _ => ?_) fun _ => ?_ | refine cE (fun _ => ?_) fun _ => ?_ | refine cT ?_ | refine cF ?_ | refine cN (fun _ => ?_) fun _ => ?_ | refine cI (fun _ => ?_) fun _ => ?_ | (refine callP_intro (ev_sLendGrants _ _ _ _) ?_; rintro _ Sn ⟨hEn, cn, rfl, hFn⟩) | (refine callP_intro (ev_sLendGrants _ ⟨_, _⟩ _ _) ?_; rintro _ Sn ⟨hEn, cn, rfl, hFn⟩) | refine rE fun hml => ?_ | refine rI rdA rf ix ?_ | refine rd_loadf rdA tv ix ?_ | refine nP ?_ | refine draw_intro 34 [.fl 0, .fl 1, .fl 2, .fl 3, .fl 4, .fl 5, .fl 6, .fl 7, .fl 8, .fl 9, .fl 10, .fl 11, .st 12 []] (by rfl) (by kernel_rfl) ?_ | (refine fr_app1 (f := GGrant.d) (x := x[i]'hlt) hF hE tv (by rfl) rf (by dsimp only [T170]; omega) om ?_; intro cN SN hEN hFN) | refine And.intro ?_ ?_)
        all_goals first
          | (exfalso; omega)
          | (refine ⟨⟨(j + 1, false || decide (l[j] = x[i]'hlt)), by dsimp only; omega, hst.symm⟩, ?_, rfl, by dsimp only; omega⟩
             (conv => whnf)
             repeat' (first | exact trivial | exact rfl | exact congrArg (fun z => AV.v (V.s (C.bool z))) (GGrant.eqb (l[j]) (x[i]'hlt)) | apply And.intro))
      · repeat' ((conv => whnf) <;> first
         | rw [wrapI_i64 (by omega)] | refine cD (fun _ => ?_) fun _ => ?_ | refine cE (fun _ => ?_) fun _ => ?_ | refine cT ?_ | refine cF ?_ | refine cN (fun _ => ?_) fun _ => ?_ | refine cI (fun _ => ?_) fun _ => ?_ | (refine callP_intro (ev_sLendGrants _ _ _ _) ?_; rintro _ Sn ⟨hEn, cn, rfl, hFn⟩) | (refine callP_intro (ev_sLendGrants _ ⟨_, _⟩ _ _) ?_; rintro _ Sn ⟨hEn, cn, rfl, hFn⟩) | refine rE fun hml => ?_ | refine rI rdA rf ix ?_ | refine rd_loadf rdA tv ix ?_ | refine nP ?_ | refine draw_intro 34 [.fl 0, .fl 1, .fl 2, .fl 3, .fl 4, .fl 5, .fl 6, .fl 7, .fl 8, .fl 9, .fl 10, .fl 11, .st 12 []] (by rfl) (by kernel_rfl) ?_ | (refine fr_app1 (f := GGrant.d) (x := x[i]'hlt) hF hE tv (by rfl) rf (by dsimp only [T170]; omega) om ?_; intro cN SN hEN hFN) | refine And.intro ?_ ?_)
        all_goals first
          | (exfalso; omega)
          | (refine ⟨⟨(j + 1, true || decide (l[j] = x[i]'hlt)), by dsimp only; omega, hst.symm⟩, ?_, rfl, by dsimp only; omega⟩
             (conv => whnf)
             repeat' (first | exact trivial | exact rfl | apply And.intro))
    · rw [List.take_of_length_le (by omega), any_eq_mem] at hjnv
      rcases hP : lendNew l (x[i]'hlt) with _ | _
      · have hp := filter_f hlt hP
        repeat' ((conv => whnf) <;> first
         | rw [wrapI_i64 (by omega)] | refine cD (fun _ => ?_) fun _ => ?_ | refine cE (fun _ => ?_) fun _ => ?_ | refine cT ?_ | refine cF ?_ | refine cN (fun _ => ?_) fun _ => ?_ | refine cI (fun _ => ?_) fun _ => ?_ | (refine callP_intro (ev_sLendGrants _ _ _ _) ?_; rintro _ Sn ⟨hEn, cn, rfl, hFn⟩) | (refine callP_intro (ev_sLendGrants _ ⟨_, _⟩ _ _) ?_; rintro _ Sn ⟨hEn, cn, rfl, hFn⟩) | refine rE fun hml => ?_ | refine rI rdA rf ix ?_ | refine rd_loadf rdA tv ix ?_ | refine nP ?_ | refine draw_intro 34 [.fl 0, .fl 1, .fl 2, .fl 3, .fl 4, .fl 5, .fl 6, .fl 7, .fl 8, .fl 9, .fl 10, .fl 11, .st 12 []] (by rfl) (by kernel_rfl) ?_ | (refine fr_app1 (f := GGrant.d) (x := x[i]'hlt) hF hE tv (by rfl) rf (by dsimp only [T170]; omega) om ?_; intro cN SN hEN hFN) | refine And.intro ?_ ?_)
        all_goals first
          | (exfalso; omega)
          | (exfalso; simp_all [lendNew]; done)
          | (refine ⟨⟨(i + 1, _, _), by dsimp only; omega, hE, by rw [hp]; exact hF⟩, ?_, rfl, by dsimp only; omega⟩; (conv => whnf); repeat' (first | exact trivial | exact rfl | (show _ = _; congr 3; dsimp only; omega) | apply And.intro))
      · have hp := filter_t hlt hP
        repeat' ((conv => whnf) <;> first
         | rw [wrapI_i64 (by omega)] | refine cD (fun _ => ?_) fun _ => ?_ | refine cE (fun _ => ?_) fun _ => ?_ | refine cT ?_ | refine cF ?_ | refine cN (fun _ => ?_) fun _ => ?_ | refine cI (fun _ => ?_) fun _ => ?_ | (refine callP_intro (ev_sLendGrants _ _ _ _) ?_; rintro _ Sn ⟨hEn, cn, rfl, hFn⟩) | (refine callP_intro (ev_sLendGrants _ ⟨_, _⟩ _ _) ?_; rintro _ Sn ⟨hEn, cn, rfl, hFn⟩) | refine rE fun hml => ?_ | refine rI rdA rf ix ?_ | refine rd_loadf rdA tv ix ?_ | refine nP ?_ | refine draw_intro 34 [.fl 0, .fl 1, .fl 2, .fl 3, .fl 4, .fl 5, .fl 6, .fl 7, .fl 8, .fl 9, .fl 10, .fl 11, .st 12 []] (by rfl) (by kernel_rfl) ?_ | (refine fr_app1 (f := GGrant.d) (x := x[i]'hlt) hF hE tv (by rfl) rf (by dsimp only [T170]; omega) om ?_; intro cN SN hEN hFN) | refine And.intro ?_ ?_)
        all_goals first
          | (exfalso; omega)
          | (exfalso; simp_all [lendNew]; done)
          | (refine ⟨⟨(i + 1, _, _), by dsimp only; omega, by assumption, by rw [hp, ← List.append_assoc]; assumption⟩, ?_, rfl, by dsimp only; omega⟩; (conv => whnf); repeat' (first | exact trivial | exact rfl | (show _ = _; congr 3; dsimp only; omega) | apply And.intro))
  · rw [List.take_of_length_le (by omega), ← hout] at hF
    rw [List.take_of_length_le (by omega), ← hout] at hll
    clear hout
    have hE2 := e0.trans hE
    generalize lendOut l ext s tick = y at *
    rcases hb : lendBad l ext s tick with _ | _
    · rw [hb, if_neg (by decide)] at hfin
      rw [hb] at hob
      rw [hfin]
      repeat' ((conv => whnf) <;> first
       | rw [wrapI_i64 (by omega)] | refine cD (fun _ => ?_) fun _ => ?_ | refine cE (fun _ => ?_) fun _ => ?_ | refine cT ?_ | refine cF ?_ | refine cN (fun _ => ?_) fun _ => ?_ | refine cI (fun _ => ?_) fun _ => ?_ | (refine callP_intro (ev_sLendGrants _ _ _ _) ?_; rintro _ Sn ⟨hEn, cn, rfl, hFn⟩) | (refine callP_intro (ev_sLendGrants _ ⟨_, _⟩ _ _) ?_; rintro _ Sn ⟨hEn, cn, rfl, hFn⟩) | refine rE fun hml => ?_ | refine rI rdA rf ix ?_ | refine rd_loadf rdA tv ix ?_ | refine nP ?_ | refine draw_intro 34 [.fl 0, .fl 1, .fl 2, .fl 3, .fl 4, .fl 5, .fl 6, .fl 7, .fl 8, .fl 9, .fl 10, .fl 11, .st 12 []] (by rfl) (by kernel_rfl) ?_ | (refine rd_elemsf (f := GGrant.d) (l := l) rdA tv (fun _ => ?_)) | (refine fr_clone (f := GGrant.d) tv rf (by dsimp only [T170]; omega) om ?_; intro cX SX hEX hFX) | refine And.intro ?_ ?_)
      all_goals first
        | exact e0.trans hE
        | exact ⟨_, rfl, hF.mono e0.len⟩
        | (exfalso; simp_all; done)
        | (exfalso; simp_all; omega)
        | (exfalso; omega)
    · rw [hb, if_pos rfl] at hfin
      rw [hb] at hob
      rw [hfin]
      repeat' ((conv => whnf) <;> first
       | rw [wrapI_i64 (by omega)] | refine cD (fun _ => ?_) fun _ => ?_ | refine cE (fun _ => ?_) fun _ => ?_ | refine cT ?_ | refine cF ?_ | refine cN (fun _ => ?_) fun _ => ?_ | refine cI (fun _ => ?_) fun _ => ?_ | (refine callP_intro (ev_sLendGrants _ _ _ _) ?_; rintro _ Sn ⟨hEn, cn, rfl, hFn⟩) | (refine callP_intro (ev_sLendGrants _ ⟨_, _⟩ _ _) ?_; rintro _ Sn ⟨hEn, cn, rfl, hFn⟩) | refine rE fun hml => ?_ | refine rI rdA rf ix ?_ | refine rd_loadf rdA tv ix ?_ | refine nP ?_ | refine draw_intro 34 [.fl 0, .fl 1, .fl 2, .fl 3, .fl 4, .fl 5, .fl 6, .fl 7, .fl 8, .fl 9, .fl 10, .fl 11, .st 12 []] (by rfl) (by kernel_rfl) ?_ | (refine rd_elemsf (f := GGrant.d) (l := l) rdA tv (fun _ => ?_)) | (refine fr_clone (f := GGrant.d) tv rf (by dsimp only [T170]; omega) om ?_; intro cX SX hEX hFX) | refine And.intro ?_ ?_)
      all_goals first
        | exact (e0.trans hE).trans (by assumption)
        | (refine ⟨_, rfl, Fr.mono (by assumption) (e0.trans hE).len⟩)
        | (exfalso; simp_all; done)
        | (exfalso; simp_all; omega)
        | (exfalso; omega)
end Go.Proofs.YtockphlpokoohaaGreat
