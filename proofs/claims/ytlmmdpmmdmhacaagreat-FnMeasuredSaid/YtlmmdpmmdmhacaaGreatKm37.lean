/- A text of the proof. A text of the proof. Lending; steps that change one part. -/
import Derived.Test.YtlmmdpmmdmhacaaGreatKm28
import Derived.Test.YtlmmdpmmdmhacaaGreatKm34
import Derived.Test.YtlmmdpmmdmhacaaGreatKm36
import Derived.Test.YtlmmdpmmdmhacaaGreatKm26
import Derived.Test.YtlmmdpmmdmhacaaGreatKm20
import Derived.Test.YtlmmdpmmdmhacaaGreatKm29
namespace Go.Proofs.YtlmmdpmmdmhacaaGreat
open Go Go.ChangeShapes Go.WideShapes Go.ChangeAt Go.RowKit
set_option linter.unusedVariables false
set_option linter.unusedSimpArgs false
set_option maxRecDepth 100000
theorem packGo_mem (ext : Int) : ∀ (l : List GPackage) (i : Nat), (0 ≤ packGo ext l i) ↔ ext ∈ l.map GPackage.Ext
  | [], i => by simp [packGo]
  | p :: r, i => by
    rw [packGo, List.map_cons, List.mem_cons]
    split
    · rename_i h; exact ⟨fun _ => .inl h.symm, fun _ => by omega⟩
    · rename_i h
      rw [packGo_mem ext r (i + 1)]
      exact ⟨.inr, fun hh => hh.resolve_left (fun e => h e.symm)⟩
abbrev exts (b : GBrowser) : List Int := b.Packs.map GPackage.Ext
theorem packOf_mem {b : GBrowser} {ext : Int} : 0 ≤ packOf b ext ↔ ext ∈ exts b := packGo_mem ext b.Packs 0
theorem packGo_at (ext : Int) : ∀ (l : List GPackage) (i : Nat), 0 ≤ packGo ext l i → ∃ j, ∃ h : j < l.length, packGo ext l i = ((i + j : Nat) : Int) ∧ (l[j]'h).Ext = ext
  | [], i, h => by simp [packGo] at h
  | p :: r, i, h => by
    rw [packGo] at h ⊢
    split
    · rename_i he; exact ⟨0, by simp, rfl, he⟩
    · rename_i hn
      rw [if_neg hn] at h
      obtain ⟨j, hj, h1, h2⟩ := packGo_at ext r (i + 1) h
      exact ⟨j + 1, by simpa using hj, by rw [h1]; congr 1; omega, h2⟩
theorem packOf_at {b : GBrowser} {ext : Int} (h : 0 ≤ packOf b ext) : ∃ hi : (packOf b ext).toNat < b.Packs.length, (b.Packs[(packOf b ext).toNat]'hi).Ext = ext := by
  obtain ⟨j, hj, h1, h2⟩ := packGo_at ext b.Packs 0 h
  have e : (packOf b ext).toNat = j := by show (packGo ext b.Packs 0).toNat = j; rw [h1]; omega
  refine ⟨by omega, ?_⟩
  simp only [e]; exact h2
structure TabOk (t : GTab) : Prop where
  site : isSite t.Site = true
  doc : isDoc t.Base = true
  len : t.Edits.length ≤ 40
  click : -1 ≤ t.Click ∧ t.Click ≤ 10000
  eds : ∀ e ∈ t.Edits, isEdit e = true
  hid : hidGo t.Hidden t.Hidden 0 = true
theorem tab_iff {t : GTab} : isTab t = true ↔ TabOk t := by
  unfold isTab
  simp only [Bool.and_eq_true, decide_eq_true_eq, List.all_eq_true, inR]
  exact ⟨fun ⟨⟨⟨⟨⟨a, b⟩, c⟩, d⟩, e⟩, f⟩ => ⟨a, b, c, d, e, f⟩, fun ⟨a, b, c, d, e, f⟩ => ⟨⟨⟨⟨⟨a, b⟩, c⟩, d⟩, e⟩, f⟩⟩
theorem TabOk.edits {t : GTab} (h : TabOk t) {l : List GEdit} (hl : l.length ≤ 40) (he : ∀ e ∈ l, isEdit e = true) : TabOk { t with Edits := l } := ⟨h.site, h.doc, hl, h.click, he, h.hid⟩
structure BrOk (b : GBrowser) : Prop where
  key : isKey b.Key = true
  tl : 1 ≤ b.Tabs.length ∧ b.Tabs.length ≤ 3
  pl : b.Packs.length ≤ 5
  gl : b.Grants.length ≤ 16
  ll : b.Limits.length ≤ 8
  fair : isFair b.Rules = true
  store : isStore b.Store = true
  now : 0 ≤ b.Now ∧ b.Now ≤ 10000
  sld : ∀ p ∈ b.Packs, isSealed b.Key p = true
  asc : b.Packs.Pairwise fun p q => p.Ext < q.Ext
  tabs : ∀ t ∈ b.Tabs, TabOk t
  eds : ∀ t ∈ b.Tabs, ∀ e ∈ t.Edits, e.By = 0 ∨ e.By ∈ exts b
  grants : ∀ g ∈ b.Grants, isGrant g = true
  gex : ∀ g ∈ b.Grants, g.Ext ∈ exts b
  lims : ∀ x ∈ b.Limits, isLimit x = true
  rex : ∀ r ∈ b.Rules, r.Ext ∈ exts b
  sex : ∀ x ∈ b.Store, x.Ext ∈ exts b
theorem packsGo_of (b : GBrowser) : ∀ (l : List GPackage) (i : Nat), (∀ (j : Nat) (h : j < l.length), packIx b l[j] (i + j) = true) → packsGo b l i = true
  | [], _, _ => rfl
  | p :: r, i, h => by
    have h0 := h 0 (by simp)
    simp only [List.getElem_cons_zero, Nat.add_zero] at h0
    rw [packsGo, if_pos h0]
    exact packsGo_of b r (i + 1) fun j hj => by
      have := h (j + 1) (by simpa using hj)
      rw [show i + 1 + j = i + (j + 1) from by omega]; exact this
theorem packs_iff {b : GBrowser} : packsGo b b.Packs 0 = true ↔ (∀ p ∈ b.Packs, isSealed b.Key p = true) ∧ b.Packs.Pairwise fun p q => p.Ext < q.Ext := by
  constructor
  · intro h
    have h1 := packsGo_at b b.Packs 0 h
    have hs : ∀ (i : Nat) (hi : i + 1 < b.Packs.length), (b.Packs[i]).Ext < (b.Packs[i + 1]).Ext := fun i hi => by
      have h2 := h1 (i + 1) hi
      rw [Nat.zero_add, packIx_pos (by omega) (by omega)] at h2
      simp only [Bool.and_eq_true, decide_eq_true_eq] at h2
      have h3 := h2.2
      have e : (((i + 1 : Nat) : Int) - 1).toNat = i := by omega
      simp only [e] at h3
      exact h3
    have hl : ∀ (d i : Nat) (hi : i + d + 1 < b.Packs.length), (b.Packs[i]'(by omega)).Ext < (b.Packs[i + d + 1]).Ext := fun d => by
      induction d with
      | zero => exact fun i hi => hs i hi
      | succ d ih => exact fun i hi => Int.lt_trans (ih i (by omega)) (hs (i + d + 1) (by omega))
    refine ⟨fun p hp => ?_, List.pairwise_iff_getElem.2 fun i j hi hj hij => ?_⟩
    · obtain ⟨i, hi, rfl⟩ := List.getElem_of_mem hp
      have := h1 i hi
      unfold packIx at this
      rw [Bool.and_eq_true] at this
      exact this.1
    · have := hl (j - i - 1) i (by omega)
      simp only [show i + (j - i - 1) + 1 = j from by omega] at this
      exact this
  · rintro ⟨h1, h2⟩
    refine packsGo_of b b.Packs 0 fun j hj => ?_
    rw [Nat.zero_add]
    by_cases h0 : j = 0
    · subst h0; rw [packIx_zero rfl]; exact h1 _ (List.getElem_mem _)
    · rw [packIx_pos (by omega) (by omega), h1 _ (List.getElem_mem _), Bool.true_and, decide_eq_true_eq]
      exact List.pairwise_iff_getElem.1 h2 _ j (by omega) hj (by omega)
theorem br_iff {b : GBrowser} : isBrowser b = true ↔ BrOk b := by
  unfold isBrowser isB0 tabOk edOk grOk
  simp only [Bool.and_eq_true, Bool.or_eq_true, decide_eq_true_eq, List.all_eq_true, packs_iff, packOf_mem, inR]
  constructor
  · rintro ⟨⟨⟨⟨⟨⟨⟨⟨⟨⟨⟨⟨⟨a1, a2⟩, a3⟩, a4⟩, a5⟩, a6⟩, a7⟩, a8⟩, b1, b2⟩, c⟩, d⟩, e⟩, f⟩, g⟩
    exact ⟨a1, by omega, a3, a4, a5, a6, a7, a8, b1, b2, fun t ht => tab_iff.1 (c t ht).1, fun t ht => (c t ht).2, fun x hx => (d x hx).1, fun x hx => (d x hx).2, e, f, g⟩
  · intro h
    exact ⟨⟨⟨⟨⟨⟨⟨⟨⟨⟨⟨⟨⟨h.key, by have := h.tl; omega⟩, h.pl⟩, h.gl⟩, h.ll⟩, h.fair⟩, h.store⟩, h.now⟩, h.sld, h.asc⟩, fun t ht => ⟨tab_iff.2 (h.tabs t ht), h.eds t ht⟩⟩, fun x hx => ⟨h.grants x hx, h.gex x hx⟩⟩, h.lims⟩, h.rex⟩, h.sex⟩
theorem BrOk.tabs' {b : GBrowser} (h : BrOk b) {ts : List GTab} (hl : ts.length = b.Tabs.length) (h1 : ∀ t ∈ ts, TabOk t) (h2 : ∀ t ∈ ts, ∀ e ∈ t.Edits, e.By = 0 ∨ e.By ∈ exts b) : BrOk { b with Tabs := ts } :=
  ⟨h.key, by rw [hl]; exact h.tl, h.pl, h.gl, h.ll, h.fair, h.store, h.now, h.sld, h.asc, h1, h2, h.grants, h.gex, h.lims, h.rex, h.sex⟩
theorem BrOk.setTab {b : GBrowser} (h : BrOk b) {i : Nat} {t : GTab} (h1 : TabOk t) (h2 : ∀ e ∈ t.Edits, e.By = 0 ∨ e.By ∈ exts b) : BrOk { b with Tabs := b.Tabs.set i t } :=
  h.tabs' (List.length_set ..) (fun x hx => (List.mem_or_eq_of_mem_set hx).elim (h.tabs x) fun e => e ▸ h1) fun x hx => (List.mem_or_eq_of_mem_set hx).elim (h.eds x) fun e => e ▸ h2
theorem BrOk.grants' {b : GBrowser} (h : BrOk b) {gs : List GGrant} (hl : gs.length ≤ 16) (h1 : ∀ g ∈ gs, isGrant g = true ∧ g.Ext ∈ exts b) : BrOk { b with Grants := gs } :=
  ⟨h.key, h.tl, h.pl, hl, h.ll, h.fair, h.store, h.now, h.sld, h.asc, h.tabs, h.eds, fun g hg => (h1 g hg).1, fun g hg => (h1 g hg).2, h.lims, h.rex, h.sex⟩
theorem BrOk.filterG {b : GBrowser} (h : BrOk b) (P : GGrant → Bool) : BrOk { b with Grants := b.Grants.filter P } :=
  h.grants' (Nat.le_trans (List.length_filter_le _ _) h.gl) fun g hg => by have := (List.mem_filter.1 hg).1; exact ⟨h.grants g this, h.gex g this⟩
theorem BrOk.now' {b : GBrowser} (h : BrOk b) {n : Int} (hn : 0 ≤ n ∧ n ≤ 10000) : BrOk { b with Now := n } :=
  ⟨h.key, h.tl, h.pl, h.gl, h.ll, h.fair, h.store, hn, h.sld, h.asc, h.tabs, h.eds, h.grants, h.gex, h.lims, h.rex, h.sex⟩
theorem BrOk.limits' {b : GBrowser} (h : BrOk b) {l : List GLimit} (hl : l.length ≤ 8) (h1 : ∀ x ∈ l, isLimit x = true) : BrOk { b with Limits := l } :=
  ⟨h.key, h.tl, h.pl, h.gl, hl, h.fair, h.store, h.now, h.sld, h.asc, h.tabs, h.eds, h.grants, h.gex, h1, h.rex, h.sex⟩
theorem BrOk.store' {b : GBrowser} (h : BrOk b) {l : List GStored} (hs : isStore l = true) (h1 : ∀ x ∈ l, x.Ext ∈ exts b) : BrOk { b with Store := l } :=
  ⟨h.key, h.tl, h.pl, h.gl, h.ll, h.fair, hs, h.now, h.sld, h.asc, h.tabs, h.eds, h.grants, h.gex, h.lims, h.rex, h1⟩
end Go.Proofs.YtlmmdpmmdmhacaaGreat
namespace Go.Proofs.YtlmmdpmmdmhacaaGreat
open Go Go.ChangeShapes Go.WideShapes Go.ChangeAt Go.RowKit
set_option linter.unusedVariables false
set_option linter.unusedSimpArgs false
set_option maxRecDepth 100000
def unexp (tick : Int) (g : GGrant) : Bool := isGrant g && decide (tick ≤ g.Until)
def stepTick (b : GBrowser) (n : Int) : GBrowser × Bool := if inR n 1 100 && inR b.Now 0 (10000 - n) then ({ b with Now := b.Now + n, Grants := b.Grants.filter (unexp (b.Now + n)) }, true) else (b, false)
theorem ev_sExpire (l : List GGrant) (tick : Int) (c : C) (S : Store) (h : Rd S [.sl 7 (l.map GGrant.d)] [c]) (hz : l.length ≤ 4194304) : EvA Tryz.prog 230 [.s c, .s (.int .i64 tick)] S (fun r S' => Ext S S' ∧ ∃ c', r = .v (.s c') ∧ Fr S.length S' [.sl 7 ((l.filter (unexp tick)).map GGrant.d)] [c']) := by
  refine evA_intro tok Tryz.func230 (by kernel_rfl) rfl ?_
  skip
  refine loop_intro {p : Nat × Store × C // p.1 ≤ l.length ∧ Ext S p.2.1 ∧ Fr S.length p.2.1 [.sl 7 (((l.take p.1).filter (unexp tick)).map GGrant.d)] [p.2.2]} [5, 6, 8, 9, 10, 11, 12, 13, 14, 15, 16, 17, 18, 19, 20, 21, 22, 23, 24, 25, 26, 27, 28, 29, 30, 31, 32, 33, 34] (fun zb => [(6, .v (.s (.int .i64 zb.1.1))), (5, .v (.s zb.1.2.2))]) (fun zb => zb.1.2.1) (fun zb => l.length - zb.1.1) ⟨(0, _, _), Nat.zero_le _, Ext.push _ _, fr_lit0⟩ ?_ rfl ?_
  · (conv => whnf); repeat' (first | exact trivial | exact rfl | apply And.intro)
  rintro ⟨⟨i, Si, ci⟩, hi, hE, hF⟩; dsimp only
  replace hi : i ≤ l.length := hi
  replace hE : Ext S Si := hE
  replace hF : Fr S.length Si [.sl 7 (((l.take i).filter (unexp tick)).map GGrant.d)] [ci] := hF
  have hfl := filter_len (unexp tick) l i
  repeat' ((conv => whnf) <;> first
   | rw [wrapI_i64 (by omega)] | refine cD (fun _ => ?_) fun _ => ?_ | refine cF ?_ | refine cI (fun _ => ?_) fun _ => ?_ | refine callP_eq (ev_sIsGrant _ _) ?_ | refine rE fun hml => ?_ | refine rI rdA rf ix ?_ | refine rd_loadf rdA tv ix ?_ | (refine fr_app1 (f := GGrant.d) aN aN tv (by rfl) rf (by dsimp only [T120]; omega) om ?_; intro cN SN hEN hFN) | refine And.intro ?_ ?_)
  all_goals first
    | exact hE
    | (rw [List.take_of_length_le (by omega)] at hF; exact ⟨_, rfl, hF⟩)
    | (refine ⟨⟨(i + 1, _, _), by dsimp only; omega, by assumption, by first | (rw [filter_t (by omega) (by simp_all [unexp])]; assumption) | (rw [filter_f (by omega) (by simp_all [unexp])]; assumption)⟩, ?_, rfl, by dsimp only; omega⟩; (conv => whnf); repeat' (first | exact trivial | exact rfl | apply And.intro))
set_option maxHeartbeats 2000000 in
theorem ev_sStepTick (b : GBrowser) (n : Int) (cs : List C) (S : Store) (h : Rd S b.d cs) (hz : szL b.d ≤ 2097152) : EvA Tryz.prog 160 [.agg cs, .s (.int .i64 n)] S (fun r S' => Ext S S' ∧ ∃ c1 c2 c3 c4 c5 c6, r = .tup [.agg [.int .i64 (stepTick b n).1.Key, c1, c2, c3, c4, c5, c6, .int .i64 (stepTick b n).1.Now], .s (.bool (stepTick b n).2)] ∧ Fr S.length S' (stepTick b n).1.d [.int .i64 (stepTick b n).1.Key, c1, c2, c3, c4, c5, c6, .int .i64 (stepTick b n).1.Now]) := by
  have hzs := hz
  simp only [GBrowser.d, szL, List.length_map] at hzs
  have hh := h
  obtain ⟨_, _, _, _, _, _, rfl, r1, r2, r3, r4, r5, r6⟩ := GBrowser.inv h
  rcases hk : inR n 1 100 && inR b.Now 0 (10000 - n) with _ | _
  · rw [show stepTick b n = (b, false) from by unfold stepTick; rw [hk]; rfl]
    have hk' : ¬ ((1 ≤ n ∧ n ≤ 100) ∧ 0 ≤ b.Now ∧ b.Now ≤ 10000 - n) := fun hx => by
      simp only [inR, Bool.and_eq_false_iff, decide_eq_false_iff_not] at hk; omega
    refine evA_intro tok Tryz.func160 (by kernel_rfl) rfl ?_
    skip
    (conv => whnf)
    refine callP_intro (ev_l32Copy b _ _ hh (by omega)) ?_; rintro _ Sc ⟨e0, g1, g2, g3, g4, g5, g6, rfl, f0⟩
    repeat' ((conv => whnf) <;> first
     | rw [wrapI_i64 (by omega)] | refine cT ?_ | refine condP_ninR (fun _ _ => ?_) (fun _ _ => ?_) | refine callP_eq (ev_l1In _ _ _ _) ?_ | (refine callP_intro (ev_sExpire _ _ _ _ rdA om) ?_; rintro _ Sn ⟨hEn, cn, rfl, hFn⟩) | refine And.intro ?_ ?_)
    all_goals first
      | exact e0
      | exact ⟨_, _, _, _, _, _, rfl, f0⟩
      | (exfalso; omega)
      | (exfalso; simp_all [inR]; omega)
  · rw [show stepTick b n = ({ b with Now := b.Now + n, Grants := b.Grants.filter (unexp (b.Now + n)) }, true) from by unfold stepTick; rw [hk]; rfl]
    have hk' : (1 ≤ n ∧ n ≤ 100) ∧ 0 ≤ b.Now ∧ b.Now ≤ 10000 - n := by
      simp only [inR, Bool.and_eq_true, decide_eq_true_eq] at hk; exact hk
    refine evA_intro tok Tryz.func160 (by kernel_rfl) rfl ?_
    skip
    (conv => whnf)
    refine callP_intro (ev_l32Copy b _ _ hh (by omega)) ?_; rintro _ Sc ⟨e0, g1, g2, g3, g4, g5, g6, rfl, f0⟩
    have r3c := r3.ext e0
    repeat' ((conv => whnf) <;> first
     | (refine callP_intro (ev_sExpire b.Grants (b.Now + n) _ _ r3c om) ?_; rintro _ S2 ⟨e2, cN, rfl, f2⟩; have fJ := f0.join e2 f2 e0.len) | rw [wrapI_i64 (by omega)] | refine cT ?_ | refine condP_ninR (fun _ _ => ?_) (fun _ _ => ?_) | refine callP_eq (ev_l1In _ _ _ _) ?_ | refine And.intro ?_ ?_)
    all_goals first
      | exact e0.trans e2
      | exact ⟨_, _, _, _, _, _, rfl, ((fJ.putLast (o := 3) rfl (by show 3 < 8; decide)).setX (o := 7) (c' := .int .i64 (b.Now + n)) (by show 7 < 8; decide))⟩
      | (exfalso; omega)
      | (exfalso; simp_all [inR]; omega)
end Go.Proofs.YtlmmdpmmdmhacaaGreat
namespace Go.Proofs.YtlmmdpmmdmhacaaGreat
open Go Go.ChangeShapes Go.WideShapes Go.ChangeAt Go.RowKit
set_option linter.unusedVariables false
set_option linter.unusedSimpArgs false
set_option maxRecDepth 100000
abbrev lendG (ext : Int) (s : GSite) (tick k : Int) : GGrant := ⟨ext, ⟨s.Owner, s.Sub⟩, k, tick, tick + 5, false⟩
abbrev lend2 (ext : Int) (s : GSite) (tick : Int) : List GGrant := [lendG ext s tick 1, lendG ext s tick 2]
def lendOk (ext : Int) (s : GSite) (tick : Int) : Bool := inR ext 1 5 && isSite s && inR tick 0 9995
def lendGrants (ext : Int) (s : GSite) (tick : Int) : List GGrant := if lendOk ext s tick then lend2 ext s tick else []
theorem lendG_len (ext : Int) (s : GSite) (tick : Int) : (lendGrants ext s tick).length ≤ 2 := by unfold lendGrants; split <;> simp
theorem ev_sLendGrants (ext : Int) (s : GSite) (tick : Int) (S : Store) : EvA Tryz.prog 292 [.s (.int .i64 ext), .agg s.c, .s (.int .i64 tick)] S (fun r S' => Ext S S' ∧ ∃ c', r = .v (.s c') ∧ Fr S.length S' [.sl 7 ((lendGrants ext s tick).map GGrant.d)] [c']) := by
  have hr : lendOk ext s tick = true → 0 ≤ tick ∧ tick ≤ 9995 := by intro h; simp [lendOk, inR] at h; omega
  rcases hk : lendOk ext s tick with _ | _
  · have e : lendGrants ext s tick = [] := by unfold lendGrants; rw [if_neg (by rw [hk]; decide)]
    rw [e]
    refine evA_intro tok Tryz.func292 (by kernel_rfl) rfl ?_
    repeat' ((conv => whnf) <;> first
     | refine cT ?_ | refine condP_ninR (fun _ _ => ?_) (fun _ _ => ?_) | refine cN (fun _ => ?_) fun _ => ?_ | refine callP_eq (ev_l1In _ _ _ _) ?_ | refine callP_eq (ev_sIsSite _ _) ?_ | refine And.intro ?_ ?_)
    all_goals first
      | exact Ext.push _ _
      | exact ⟨_, rfl, fr_lit0⟩
      | (exfalso; simp_all [lendOk]; done)
  · have e : lendGrants ext s tick = lend2 ext s tick := by unfold lendGrants; rw [if_pos hk]
    have ht := hr hk
    have t3 := fr_litF (S := S) (f := GGrant.d) (k := 7) (lend2 ext s tick) (fun _ => trivial) (by simp)
    rw [e]
    refine evA_intro tok Tryz.func292 (by kernel_rfl) rfl ?_
    repeat' ((conv => whnf) <;> first
     | refine cT ?_ | refine condP_ninR (fun _ _ => ?_) (fun _ _ => ?_) | refine cN (fun _ => ?_) fun _ => ?_ | refine callP_eq (ev_l1In _ _ _ _) ?_ | refine callP_eq (ev_sIsSite _ _) ?_ | refine And.intro ?_ ?_)
    all_goals try (exfalso; simp_all [lendOk]; done)
    refine loop_intro {p : Nat × Store × C // p.1 ≤ 2 ∧ Ext S p.2.1 ∧ Fr S.length p.2.1 [.sl 7 (((lend2 ext s tick).take p.1).map GGrant.d)] [p.2.2]} [7, 9, 30, 31, 32, 33, 34, 35, 36, 37, 38, 39, 40, 41, 42, 43] (fun zb => [(9, .v (.s (.int .i64 ((zb.1.1 : Int) + 1)))), (7, .v (.s zb.1.2.2))]) (fun zb => zb.1.2.1) (fun zb => 2 - zb.1.1) ⟨(0, _, _), Nat.zero_le _, Ext.push _ _, fr_lit0⟩ ?_ rfl ?_
    · (conv => whnf); repeat' (first | exact trivial | exact rfl | apply And.intro)
    rintro ⟨⟨i, Si, ci⟩, hi, hE, hF⟩; dsimp only
    replace hi : i ≤ 2 := hi
    replace hE : Ext S Si := hE
    replace hF : Fr S.length Si [.sl 7 (((lend2 ext s tick).take i).map GGrant.d)] [ci] := hF
    rcases Nat.lt_or_ge i 2 with hlt | hlt
    · have hl : ((lend2 ext s tick).take i).length = i := by simp; omega
      have hx : (lend2 ext s tick).take (i + 1) = (lend2 ext s tick).take i ++ [lendG ext s tick ((i : Int) + 1)] := by
        rcases i with _ | _ | i
        · rfl
        · rfl
        · omega
      repeat' ((conv => whnf) <;> first
       | rw [wrapI_i64 (by omega)] | refine cD (fun _ => ?_) fun _ => ?_ | (refine fr_app1 (f := GGrant.d) (x := lendG ext s tick ((i : Int) + 1)) aN aN tv (by rfl) rf (by dsimp only [T120]; omega) om ?_; intro cN SN hEN hFN) | refine And.intro ?_ ?_)
      all_goals first
        | (exfalso; omega)
        | (refine ⟨⟨(i + 1, _, _), by dsimp only; omega, by assumption, by rw [hx]; assumption⟩, ?_, rfl, by dsimp only; omega⟩; (conv => whnf); repeat' (first | exact trivial | exact rfl | (show _ = _; congr 3; dsimp only; omega) | apply And.intro))
    · rw [List.take_of_length_le (by simp; omega)] at hF
      repeat' ((conv => whnf) <;> first
       | rw [wrapI_i64 (by omega)] | refine cD (fun _ => ?_) fun _ => ?_ | refine And.intro ?_ ?_)
      all_goals first
        | (exfalso; omega)
        | exact hE
        | exact ⟨_, rfl, hF⟩
def notEnd (s : GSite) (x : GGrant) : Bool := !isLent x || !matchSite x.Pattern s
theorem ev_sEndLending (l : List GGrant) (s : GSite) (c : C) (S : Store) (h : Rd S [.sl 7 (l.map GGrant.d)] [c]) (hz : l.length ≤ 4194304) : EvA Tryz.prog 337 [.s c, .agg s.c] S (fun r S' => Ext S S' ∧ ∃ c', r = .v (.s c') ∧ Fr S.length S' [.sl 7 ((l.filter (notEnd s)).map GGrant.d)] [c']) := by
  refine evA_intro tok Tryz.func337 (by kernel_rfl) rfl ?_
  skip
  refine loop_intro {p : Nat × Store × C // p.1 ≤ l.length ∧ Ext S p.2.1 ∧ Fr S.length p.2.1 [.sl 7 (((l.take p.1).filter (notEnd s)).map GGrant.d)] [p.2.2]} [5, 6, 8, 9, 10, 11, 12, 13, 14, 15, 16, 17, 18, 19, 20, 21, 22, 23, 24, 25, 26, 27, 28, 29, 30, 31, 32, 33, 34, 35, 36] (fun zb => [(6, .v (.s (.int .i64 zb.1.1))), (5, .v (.s zb.1.2.2))]) (fun zb => zb.1.2.1) (fun zb => l.length - zb.1.1) ⟨(0, _, _), Nat.zero_le _, Ext.push _ _, fr_lit0⟩ ?_ rfl ?_
  · (conv => whnf); repeat' (first | exact trivial | exact rfl | apply And.intro)
  rintro ⟨⟨i, Si, ci⟩, hi, hE, hF⟩; dsimp only
  replace hi : i ≤ l.length := hi
  replace hE : Ext S Si := hE
  replace hF : Fr S.length Si [.sl 7 (((l.take i).filter (notEnd s)).map GGrant.d)] [ci] := hF
  have hfl := filter_len (notEnd s) l i
  repeat' ((conv => whnf) <;> first
   | rw [wrapI_i64 (by omega)] | refine cD (fun _ => ?_) fun _ => ?_ | refine cT ?_ | refine cN (fun _ => ?_) fun _ => ?_ | refine callP_eq (ev_sIsLent _ _) ?_ | refine callP_eq (ev_sMatchSite _ _ _) ?_ | refine rE fun hml => ?_ | refine rI rdA rf ix ?_ | refine rd_loadf rdA tv ix ?_ | refine draw_intro 14 [.fl 0, .fl 1, .fl 2, .fl 3, .st 4 [], .fl 5, .fl 6, .fl 7, .fl 8, .fl 9, .fl 10, .fl 11, .fl 12, .st 13 [], .fl 14, .fl 15] (by rfl) (by kernel_rfl) ?_ | (refine fr_app1 (f := GGrant.d) aN aN tv (by rfl) rf (by dsimp only [T120]; omega) om ?_; intro cN SN hEN hFN) | refine And.intro ?_ ?_)
  all_goals first
    | exact hE
    | (rw [List.take_of_length_le (by omega)] at hF; exact ⟨_, rfl, hF⟩)
    | (refine ⟨⟨(i + 1, _, _), by dsimp only; omega, by assumption, by first | (rw [filter_t (by omega) (by simp_all [notEnd])]; assumption) | (rw [filter_f (by omega) (by simp_all [notEnd])]; assumption)⟩, ?_, rfl, by dsimp only; omega⟩; (conv => whnf); repeat' (first | exact trivial | exact rfl | apply And.intro))
def lendNew (l : List GGrant) (g : GGrant) : Bool := !decide (g ∈ l)
def lendOut (l : List GGrant) (ext : Int) (s : GSite) (tick : Int) : List GGrant := l ++ (lendGrants ext s tick).filter (lendNew l)
def lendBad (l : List GGrant) (ext : Int) (s : GSite) (tick : Int) : Bool := decide ((lendGrants ext s tick).length = 0) || decide (16 < (lendOut l ext s tick).length)
def lendTo (l : List GGrant) (ext : Int) (s : GSite) (tick : Int) : List GGrant × Bool := if lendBad l ext s tick then (l, false) else (lendOut l ext s tick, true)
theorem any_eq_mem (x : GGrant) (l : List GGrant) : (l.any fun y => decide (y = x)) = decide (x ∈ l) := by
  rw [Bool.eq_iff_iff]; simp
theorem ev_sLendTo (l : List GGrant) (ext : Int) (s : GSite) (tick : Int) (c : C) (S : Store) (h : Rd S [.sl 7 (l.map GGrant.d)] [c]) (hz : l.length ≤ 4194300) : EvA Tryz.prog 231 [.s c, .s (.int .i64 ext), .agg s.c, .s (.int .i64 tick)] S (fun r S' => Ext S S' ∧ ∃ c', r = .tup [.s c', .s (.bool (lendTo l ext s tick).2)] ∧ Fr S.length S' [.sl 7 ((lendTo l ext s tick).1.map GGrant.d)] [c']) := by
  have hxl := lendG_len ext s tick
  refine evA_intro tok Tryz.func231 (by kernel_rfl) rfl ?_
  skip
  (conv => whnf)
  refine callP_intro (ev_sLendGrants ext s tick _) ?_; rintro _ S0 ⟨e0, cx, rfl, fx⟩
  have hx := fx.rd
  have hfin : lendTo l ext s tick = if lendBad l ext s tick then (l, false) else (lendOut l ext s tick, true) := rfl
  have hob : lendBad l ext s tick = (decide ((lendGrants ext s tick).length = 0) || decide (16 < (lendOut l ext s tick).length)) := rfl
  have hout : lendOut l ext s tick = l ++ ((lendGrants ext s tick).filter (lendNew l)) := rfl
  generalize lendGrants ext s tick = x at *
  clear fx
  repeat' ((conv => whnf) <;> first
   | (refine rd_elemsf (f := GGrant.d) (l := l) rdA tv (fun _ => ?_)))
  (conv => whnf)
  refine fr_clone (f := GGrant.d) (by intro _; exact trivial) (by intro _; rfl) (by dsimp only [T120]; omega) (by omega) ?_; intro co S1 e1 fo
  skip
  refine loop_intro {p : Nat × Store × C // p.1 ≤ x.length ∧ Ext S0 p.2.1 ∧ Fr S0.length p.2.1 [.sl 7 ((l ++ (x.take p.1).filter (lendNew l)).map GGrant.d)] [p.2.2]} [11, 12, 13, 14, 22, 23, 24, 25, 26, 27, 28, 29, 30, 31, 32, 33, 34, 35, 36, 37, 38, 39, 40, 41, 42, 43, 44, 45, 46, 47, 48, 49, 50, 51, 52, 53, 54] (fun zb => [(12, .v (.s (.int .i64 zb.1.1))), (11, .v (.s zb.1.2.2))]) (fun zb => zb.1.2.1) (fun zb => x.length - zb.1.1) ⟨(0, _, _), Nat.zero_le _, e1, by rw [List.take_zero, List.filter_nil, List.append_nil]; exact fo⟩ ?_ rfl ?_
  · (conv => whnf); repeat' (first | exact trivial | exact rfl | apply And.intro)
  rintro ⟨⟨i, Si, ci⟩, hi, hE, hF⟩; dsimp only
  replace hi : i ≤ x.length := hi
  replace hE : Ext S0 Si := hE
  replace hF : Fr S0.length Si [.sl 7 ((l ++ (x.take i).filter (lendNew l)).map GGrant.d)] [ci] := hF
  have hfl := filter_len (lendNew l) x i
  have hll : (l ++ (x.take i).filter (lendNew l)).length = l.length + ((x.take i).filter (lendNew l)).length := List.length_append
  by_cases hlt : i < x.length
  · have hrl : Rd Si [.sl 7 (l.map GGrant.d)] [c] := h.ext (e0.trans hE)
    repeat' ((conv => whnf) <;> first
     | refine cD (fun _ => ?_) fun _ => ?_ | refine cT ?_ | refine rE fun hml => ?_ | refine And.intro ?_ ?_)
    all_goals try (exfalso; omega)
    refine loop_intro {p : Nat × Bool // p.1 ≤ l.length ∧ p.2 = (l.take p.1).any fun y => decide (y = x[i]'hlt)} [13, 14, 28, 29, 30, 31, 32, 33, 34, 35, 36, 37, 38, 39, 40, 41, 42, 43, 44, 45] (fun zb => [(14, .v (.s (.int .i64 zb.1.1))), (13, .v (.s (.bool zb.1.2)))]) (fun _ => Si) (fun zb => l.length - zb.1.1) ⟨(0, false), Nat.zero_le _, by simp⟩ ?_ rfl ?_
    · (conv => whnf); repeat' (first | exact trivial | exact rfl | apply And.intro)
    rintro ⟨⟨j, sj⟩, hj, hjnv⟩; dsimp only
    replace hj : j ≤ l.length := hj
    replace hjnv : sj = (l.take j).any fun y => decide (y = x[i]'hlt) := hjnv
    by_cases hjl : j < l.length
    · have hst : ((l.take (j + 1)).any fun y => decide (y = x[i]'hlt)) = (sj || decide (l[j] = x[i]'hlt)) := by rw [List.take_succ_eq_append_getElem hjl, List.any_append, ← hjnv]; simp
      clear hjnv
      rcases sj with _ | _
      · repeat' ((conv => whnf) <;> first
         | rw [wrapI_i64 (by omega)] | refine cD (fun _ => ?_) fun _ => ?_ | refine cT ?_ | refine cF ?_ | refine rE fun hml => ?_ | refine rI rdA rf ix ?_ | refine rd_loadf rdA tv ix ?_ | refine draw_intro 34 [.fl 0, .fl 1, .fl 2, .fl 3, .fl 4, .fl 5, .fl 6, .fl 7, .fl 8, .fl 9, .fl 10, .fl 11, .st 12 []] (by rfl) (by kernel_rfl) ?_ | (refine fr_app1 (f := GGrant.d) (x := x[i]'hlt) hF hE tv (by rfl) rf (by dsimp only [T120]; omega) om ?_; intro cN SN hEN hFN))
        all_goals first
          | (exfalso; omega)
          | (refine ⟨⟨(j + 1, false || decide (l[j] = x[i]'hlt)), by dsimp only; omega, hst.symm⟩, ?_, rfl, by dsimp only; omega⟩
             (conv => whnf)
             repeat' (first | exact trivial | exact rfl | exact congrArg (fun z => AV.v (V.s (C.bool z))) (GGrant.eqb (l[j]) (x[i]'hlt)) | apply And.intro))
      · repeat' ((conv => whnf) <;> first
         | rw [wrapI_i64 (by omega)] | refine cD (fun _ => ?_) fun _ => ?_ | refine cT ?_ | refine cF ?_ | refine rE fun hml => ?_ | refine draw_intro 34 [.fl 0, .fl 1, .fl 2, .fl 3, .fl 4, .fl 5, .fl 6, .fl 7, .fl 8, .fl 9, .fl 10, .fl 11, .st 12 []] (by rfl) (by kernel_rfl) ?_)
        all_goals first
          | (exfalso; omega)
          | (refine ⟨⟨(j + 1, true || decide (l[j] = x[i]'hlt)), by dsimp only; omega, hst.symm⟩, ?_, rfl, by dsimp only; omega⟩
             (conv => whnf)
             repeat' (first | exact trivial | exact rfl | apply And.intro))
    · rw [List.take_of_length_le (by omega), any_eq_mem] at hjnv
      rcases hP : lendNew l (x[i]'hlt) with _ | _
      · have hp := filter_f hlt hP
        repeat' ((conv => whnf) <;> first
         | rw [wrapI_i64 (by omega)] | refine cD (fun _ => ?_) fun _ => ?_ | refine cN (fun _ => ?_) fun _ => ?_ | refine cI (fun _ => ?_) fun _ => ?_ | refine rE fun hml => ?_ | refine rI rdA rf ix ?_ | refine rd_loadf rdA tv ix ?_ | refine draw_intro 34 [.fl 0, .fl 1, .fl 2, .fl 3, .fl 4, .fl 5, .fl 6, .fl 7, .fl 8, .fl 9, .fl 10, .fl 11, .st 12 []] (by rfl) (by kernel_rfl) ?_ | (refine fr_app1 (f := GGrant.d) (x := x[i]'hlt) hF hE tv (by rfl) rf (by dsimp only [T120]; omega) om ?_; intro cN SN hEN hFN))
        all_goals first
          | (exfalso; omega)
          | (exfalso; simp_all [lendNew]; done)
          | (refine ⟨⟨(i + 1, _, _), by dsimp only; omega, hE, by rw [hp]; exact hF⟩, ?_, rfl, by dsimp only; omega⟩; (conv => whnf); repeat' (first | exact trivial | exact rfl | (show _ = _; congr 3; dsimp only; omega) | apply And.intro))
      · have hp := filter_t hlt hP
        repeat' ((conv => whnf) <;> first
         | rw [wrapI_i64 (by omega)] | refine cD (fun _ => ?_) fun _ => ?_ | refine cN (fun _ => ?_) fun _ => ?_ | refine cI (fun _ => ?_) fun _ => ?_ | refine rE fun hml => ?_ | refine rI rdA rf ix ?_ | refine rd_loadf rdA tv ix ?_ | refine draw_intro 34 [.fl 0, .fl 1, .fl 2, .fl 3, .fl 4, .fl 5, .fl 6, .fl 7, .fl 8, .fl 9, .fl 10, .fl 11, .st 12 []] (by rfl) (by kernel_rfl) ?_ | (refine fr_app1 (f := GGrant.d) (x := x[i]'hlt) hF hE tv (by rfl) rf (by dsimp only [T120]; omega) om ?_; intro cN SN hEN hFN))
        all_goals first
          | (exfalso; omega)
          | (exfalso; simp_all [lendNew]; done)
          | (refine ⟨⟨(i + 1, _, _), by dsimp only; omega, by assumption, by rw [hp, ← List.append_assoc]; assumption⟩, ?_, rfl, by dsimp only; omega⟩; (conv => whnf); repeat' (first | exact trivial | exact rfl | (show _ = _; congr 3; dsimp only; omega) | apply And.intro))
  · rw [List.take_of_length_le (by omega), ← hout] at hF
    rw [List.take_of_length_le (by omega), ← hout] at hll
    clear hout
    have hE2 := e0.trans hE
    generalize lendOut l ext s tick = y at *
    rcases hb : lendBad l ext s tick with _ | _
    · rw [hb, if_neg (by decide)] at hfin
      rw [hb] at hob
      rw [hfin]
      repeat' ((conv => whnf) <;> first
       | refine cD (fun _ => ?_) fun _ => ?_ | refine cT ?_ | refine rE fun hml => ?_ | (refine rd_elemsf (f := GGrant.d) (l := l) rdA tv (fun _ => ?_)) | (refine fr_clone (f := GGrant.d) tv rf (by dsimp only [T120]; omega) om ?_; intro cX SX hEX hFX) | refine And.intro ?_ ?_)
      all_goals first
        | exact e0.trans hE
        | exact ⟨_, rfl, hF.mono e0.len⟩
        | (exfalso; simp_all; done)
        | (exfalso; simp_all; omega)
        | (exfalso; omega)
    · rw [hb, if_pos rfl] at hfin
      rw [hb] at hob
      rw [hfin]
      repeat' ((conv => whnf) <;> first
       | refine cD (fun _ => ?_) fun _ => ?_ | refine cT ?_ | refine rE fun hml => ?_ | (refine rd_elemsf (f := GGrant.d) (l := l) rdA tv (fun _ => ?_)) | (refine fr_clone (f := GGrant.d) tv rf (by dsimp only [T120]; omega) om ?_; intro cX SX hEX hFX) | refine And.intro ?_ ?_)
      all_goals first
        | exact (e0.trans hE).trans (by assumption)
        | (refine ⟨_, rfl, Fr.mono (by assumption) (e0.trans hE).len⟩)
        | (exfalso; simp_all; done)
        | (exfalso; simp_all; omega)
        | (exfalso; omega)
end Go.Proofs.YtlmmdpmmdmhacaaGreat
