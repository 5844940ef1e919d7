/- A text of the proof. -/
import Derived.Test.YtockphlpokoohaaGreatKe27
import Derived.Test.YtockphlpokoohaaGreatKe33
import Derived.Test.YtockphlpokoohaaGreatKe36
namespace Go.Proofs.YtockphlpokoohaaGreat
open Go Go.ChangeShapes Go.WideShapes Go.ChangeAt Go.RowKit
set_option linter.unusedVariables false
set_option linter.unusedSimpArgs false
set_option maxRecDepth 100000
theorem packGo_mem (ext : Int) : ∀ (l : List GPackage) (i : Nat), (0 ≤ packGo ext l i) ↔ ext ∈ l.map GPackage.Ext
  | [], i => by simp [packGo]
  | p :: r, i => by
    rw [packGo, List.map_cons, List.mem_cons]
    split
    · rename_i h; exact ⟨fun _ => .inl h.symm, fun _ => by omega⟩
    · rename_i h
      rw [packGo_mem ext r (i + 1)]
      exact ⟨.inr, fun hh => hh.resolve_left (fun e => h e.symm)⟩
abbrev exts (b : GBrowser) : List Int := b.Packs.map GPackage.Ext
theorem packOf_mem {b : GBrowser} {ext : Int} : 0 ≤ packOf b ext ↔ ext ∈ exts b := packGo_mem ext b.Packs 0
theorem packGo_at (ext : Int) : ∀ (l : List GPackage) (i : Nat), 0 ≤ packGo ext l i → ∃ j, ∃ h : j < l.length, packGo ext l i = ((i + j : Nat) : Int) ∧ (l[j]'h).Ext = ext
  | [], i, h => by simp [packGo] at h
  | p :: r, i, h => by
    rw [packGo] at h ⊢
    split
    · rename_i he; exact ⟨0, by simp, rfl, he⟩
    · rename_i hn
      rw [if_neg hn] at h
      obtain ⟨j, hj, h1, h2⟩ := packGo_at ext r (i + 1) h
      exact ⟨j + 1, by simpa using hj, by rw [h1]; congr 1; omega, h2⟩
theorem packOf_at {b : GBrowser} {ext : Int} (h : 0 ≤ packOf b ext) : ∃ hi : (packOf b ext).toNat < b.Packs.length, (b.Packs[(packOf b ext).toNat]'hi).Ext = ext := by
  obtain ⟨j, hj, h1, h2⟩ := packGo_at ext b.Packs 0 h
  have e : (packOf b ext).toNat = j := by show (packGo ext b.Packs 0).toNat = j; rw [h1]; omega
  refine ⟨by omega, ?_⟩
  simp only [e]; exact h2
theorem packOf_neg {b : GBrowser} {ext : Int} (h : ¬ 0 ≤ packOf b ext) : packOf b ext = -1 := by
  have := packOf_lt b ext; omega
structure TabOk (t : GTab) : Prop where
  site : isSite t.Site = true
  doc : isDoc t.Base = true
  len : t.Edits.length ≤ 40
  click : -1 ≤ t.Click ∧ t.Click ≤ 10000
  eds : ∀ e ∈ t.Edits, isEdit e = true
  hid : hidGo t.Hidden t.Hidden 0 = true
theorem tab_iff {t : GTab} : isTab t = true ↔ TabOk t := by
  unfold isTab
  simp only [Bool.and_eq_true, decide_eq_true_eq, List.all_eq_true, inR]
  exact ⟨fun ⟨⟨⟨⟨⟨a, b⟩, c⟩, d⟩, e⟩, f⟩ => ⟨a, b, c, d, e, f⟩, fun ⟨a, b, c, d, e, f⟩ => ⟨⟨⟨⟨⟨a, b⟩, c⟩, d⟩, e⟩, f⟩⟩
theorem TabOk.edits {t : GTab} (h : TabOk t) {l : List GEdit} (hl : l.length ≤ 40) (he : ∀ e ∈ l, isEdit e = true) : TabOk { t with Edits := l } := ⟨h.site, h.doc, hl, h.click, he, h.hid⟩
structure BrOk (b : GBrowser) : Prop where
  key : isKey b.Key = true
  tl : 1 ≤ b.Tabs.length ∧ b.Tabs.length ≤ 3
  pl : b.Packs.length ≤ 5
  gl : b.Grants.length ≤ 16
  ll : b.Limits.length ≤ 8
  fair : isFair b.Rules = true
  store : isStore b.Store = true
  now : 0 ≤ b.Now ∧ b.Now ≤ 10000
  sld : ∀ p ∈ b.Packs, isSealed b.Key p = true
  asc : b.Packs.Pairwise fun p q => p.Ext < q.Ext
  tabs : ∀ t ∈ b.Tabs, TabOk t
  eds : ∀ t ∈ b.Tabs, ∀ e ∈ t.Edits, e.By = 0 ∨ e.By ∈ exts b
  grants : ∀ g ∈ b.Grants, isGrant g = true
  gex : ∀ g ∈ b.Grants, g.Ext ∈ exts b
  lims : ∀ x ∈ b.Limits, isLimit x = true
  rex : ∀ r ∈ b.Rules, r.Ext ∈ exts b
  sex : ∀ x ∈ b.Store, x.Ext ∈ exts b
theorem packsGo_of (b : GBrowser) : ∀ (l : List GPackage) (i : Nat), (∀ (j : Nat) (h : j < l.length), packIx b l[j] (i + j) = true) → packsGo b l i = true
  | [], _, _ => rfl
  | p :: r, i, h => by
    have h0 := h 0 (by simp)
    simp only [List.getElem_cons_zero, Nat.add_zero] at h0
    rw [packsGo, if_pos h0]
    exact packsGo_of b r (i + 1) fun j hj => by
      have := h (j + 1) (by simpa using hj)
      rw [show i + 1 + j = i + (j + 1) from by omega]; exact this
theorem packs_iff {b : GBrowser} : packsGo b b.Packs 0 = true ↔ (∀ p ∈ b.Packs, isSealed b.Key p = true) ∧ b.Packs.Pairwise fun p q => p.Ext < q.Ext := by
  constructor
  · intro h
    have h1 := packsGo_at b b.Packs 0 h
    have hs : ∀ (i : Nat) (hi : i + 1 < b.Packs.length), (b.Packs[i]).Ext < (b.Packs[i + 1]).Ext := fun i hi => by
      have h2 := h1 (i + 1) hi
      rw [Nat.zero_add, packIx_pos (by omega) (by omega)] at h2
      simp only [Bool.and_eq_true, decide_eq_true_eq] at h2
      have h3 := h2.2
      have e : (((i + 1 : Nat) : Int) - 1).toNat = i := by omega
      simp only [e] at h3
      exact h3
    have hl : ∀ (d i : Nat) (hi : i + d + 1 < b.Packs.length), (b.Packs[i]'(by omega)).Ext < (b.Packs[i + d + 1]).Ext := fun d => by
      induction d with
      | zero => exact fun i hi => hs i hi
      | succ d ih => exact fun i hi => Int.lt_trans (ih i (by omega)) (hs (i + d + 1) (by omega))
    refine ⟨fun p hp => ?_, List.pairwise_iff_getElem.2 fun i j hi hj hij => ?_⟩
    · obtain ⟨i, hi, rfl⟩ := List.getElem_of_mem hp
      have := h1 i hi
      unfold packIx at this
      rw [Bool.and_eq_true] at this
      exact this.1
    · have := hl (j - i - 1) i (by omega)
      simp only [show i + (j - i - 1) + 1 = j from by omega] at this
      exact this
  · rintro ⟨h1, h2⟩
    refine packsGo_of b b.Packs 0 fun j hj => ?_
    rw [Nat.zero_add]
    by_cases h0 : j = 0
    · subst h0; rw [packIx_zero rfl]; exact h1 _ (List.getElem_mem _)
    · rw [packIx_pos (by omega) (by omega), h1 _ (List.getElem_mem _), Bool.true_and, decide_eq_true_eq]
      exact List.pairwise_iff_getElem.1 h2 _ j (by omega) hj (by omega)
theorem br_iff {b : GBrowser} : isBrowser b = true ↔ BrOk b := by
  unfold isBrowser isB0 tabOk edOk grOk
  simp only [Bool.and_eq_true, Bool.or_eq_true, decide_eq_true_eq, List.all_eq_true, packs_iff, packOf_mem, inR]
  constructor
  · rintro ⟨⟨⟨⟨⟨⟨⟨⟨⟨⟨⟨⟨⟨a1, a2⟩, a3⟩, a4⟩, a5⟩, a6⟩, a7⟩, a8⟩, b1, b2⟩, c⟩, d⟩, e⟩, f⟩, g⟩
    exact ⟨a1, by omega, a3, a4, a5, a6, a7, a8, b1, b2, fun t ht => tab_iff.1 (c t ht).1, fun t ht => (c t ht).2, fun x hx => (d x hx).1, fun x hx => (d x hx).2, e, f, g⟩
  · intro h
    exact ⟨⟨⟨⟨⟨⟨⟨⟨⟨⟨⟨⟨⟨h.key, by have := h.tl; omega⟩, h.pl⟩, h.gl⟩, h.ll⟩, h.fair⟩, h.store⟩, h.now⟩, h.sld, h.asc⟩, fun t ht => ⟨tab_iff.2 (h.tabs t ht), h.eds t ht⟩⟩, fun x hx => ⟨h.grants x hx, h.gex x hx⟩⟩, h.lims⟩, h.rex⟩, h.sex⟩
theorem BrOk.tabs' {b : GBrowser} (h : BrOk b) {ts : List GTab} (hl : ts.length = b.Tabs.length) (h1 : ∀ t ∈ ts, TabOk t) (h2 : ∀ t ∈ ts, ∀ e ∈ t.Edits, e.By = 0 ∨ e.By ∈ exts b) : BrOk { b with Tabs := ts } :=
  ⟨h.key, by rw [hl]; exact h.tl, h.pl, h.gl, h.ll, h.fair, h.store, h.now, h.sld, h.asc, h1, h2, h.grants, h.gex, h.lims, h.rex, h.sex⟩
theorem BrOk.setTab {b : GBrowser} (h : BrOk b) {i : Nat} {t : GTab} (h1 : TabOk t) (h2 : ∀ e ∈ t.Edits, e.By = 0 ∨ e.By ∈ exts b) : BrOk { b with Tabs := b.Tabs.set i t } :=
  h.tabs' (List.length_set ..) (fun x hx => (List.mem_or_eq_of_mem_set hx).elim (h.tabs x) fun e => e ▸ h1) fun x hx => (List.mem_or_eq_of_mem_set hx).elim (h.eds x) fun e => e ▸ h2
theorem BrOk.grants' {b : GBrowser} (h : BrOk b) {gs : List GGrant} (hl : gs.length ≤ 16) (h1 : ∀ g ∈ gs, isGrant g = true ∧ g.Ext ∈ exts b) : BrOk { b with Grants := gs } :=
  ⟨h.key, h.tl, h.pl, hl, h.ll, h.fair, h.store, h.now, h.sld, h.asc, h.tabs, h.eds, fun g hg => (h1 g hg).1, fun g hg => (h1 g hg).2, h.lims, h.rex, h.sex⟩
theorem BrOk.filterG {b : GBrowser} (h : BrOk b) (P : GGrant → Bool) : BrOk { b with Grants := b.Grants.filter P } :=
  h.grants' (Nat.le_trans (List.length_filter_le _ _) h.gl) fun g hg => by have := (List.mem_filter.1 hg).1; exact ⟨h.grants g this, h.gex g this⟩
theorem BrOk.now' {b : GBrowser} (h : BrOk b) {n : Int} (hn : 0 ≤ n ∧ n ≤ 10000) : BrOk { b with Now := n } :=
  ⟨h.key, h.tl, h.pl, h.gl, h.ll, h.fair, h.store, hn, h.sld, h.asc, h.tabs, h.eds, h.grants, h.gex, h.lims, h.rex, h.sex⟩
theorem BrOk.store' {b : GBrowser} (h : BrOk b) {l : List GStored} (hs : isStore l = true) (h1 : ∀ x ∈ l, x.Ext ∈ exts b) : BrOk { b with Store := l } :=
  ⟨h.key, h.tl, h.pl, h.gl, h.ll, h.fair, hs, h.now, h.sld, h.asc, h.tabs, h.eds, h.grants, h.gex, h.lims, h.rex, h1⟩
end Go.Proofs.YtockphlpokoohaaGreat
