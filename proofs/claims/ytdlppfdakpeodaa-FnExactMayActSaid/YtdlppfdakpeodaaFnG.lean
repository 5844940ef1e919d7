/- Browsers: what is looked up. -/
import Derived.Test.YtdlppfdakpeodaaFnF
namespace Go.Proofs.Ytdlppfdakpeodaa
open Go Go.ChangeShapes Go.WideShapes Go.ChangeAt Go.RowKit
set_option linter.unusedVariables false
set_option maxRecDepth 100000

def packGo (ext : Int) : List GPackage → Nat → Int
  | [], _ => -1
  | p :: r, i => if p.Ext = ext then i else packGo ext r (i + 1)
def packOf (b : GBrowser) (ext : Int) : Int := packGo ext b.Packs 0
theorem packGo_lt (ext : Int) : ∀ (l : List GPackage) (i : Nat), -1 ≤ packGo ext l i ∧ packGo ext l i < i + l.length
  | [], i => by simp only [packGo, List.length_nil]; omega
  | p :: r, i => by
    have := packGo_lt ext r (i + 1)
    simp only [packGo, List.length_cons]
    split <;> omega
theorem packOf_lt (b : GBrowser) (ext : Int) : -1 ≤ packOf b ext ∧ packOf b ext < b.Packs.length := by
  have := packGo_lt ext b.Packs 0
  unfold packOf; omega
theorem ev_sPackOf (b : GBrowser) (ext : Int) (cs : List C) (S : Store) (h : Rd S b.d cs) : EvA Try.prog 18 [.agg cs, .s (.int .i64 ext)] S (fun r S' => r = .v (.s (.int .i64 (packOf b ext))) ∧ S' = S) := by
  obtain ⟨_, _, _, _, _, _, rfl, _, _, _, _, _, _⟩ := GBrowser.inv h
  refine evA_intro tok Try.func18 (by kernel_rfl) rfl ?_
  repeat' ((conv => whnf); first
      | rw [wrapI_i64 (by omega)]
      | refine condP_dec (fun _ => ?_) (fun _ => ?_)
      | refine condP_ndec (fun _ => ?_) (fun _ => ?_)
      | refine condP_true rfl ?_
      | refine condP_false rfl ?_
      | refine condP_not (fun _ => ?_) (fun _ => ?_)
      | refine condP_intro (fun _ => ?_) (fun _ => ?_)
      | (refine rd_lenm (by assumption) ?_; intro hml; rw [maxLen_eq] at hml)
      | refine rd_idxm (by assumption) (by intro _; rfl) (by constructor <;> omega) ?_
      | (refine rd_loadm (f := GPackage.d) (by assumption) (by constructor <;> omega) ?_; intro _ hcs; obtain ⟨_, _, _, _, rfl, _, _, _, _⟩ := GPackage.inv hcs)
      | refine needP_intro (by first | omega | (constructor <;> omega)) ?_
      | refine And.intro ?_ ?_)
  refine loop_intro {i : Nat // i ≤ b.Packs.length ∧ packGo ext (b.Packs.drop i) i = packOf b ext} [4, 5, 6, 7, 8, 9, 10, 11, 12, 13, 14, 15, 16, 17, 18, 19, 20, 21] (fun zb => [(5, .v (.s (.int .i64 zb.1)))]) (fun _ => S) (fun zb => b.Packs.length - zb.1) ⟨0, Nat.zero_le _, rfl⟩ ?_ rfl ?_
  · (conv => whnf); repeat' (first | exact trivial | exact rfl | apply And.intro)
  rintro ⟨i, hi, hinv⟩; dsimp only
  repeat' ((conv => whnf); first
      | rw [wrapI_i64 (by omega)]
      | refine condP_dec (fun _ => ?_) (fun _ => ?_)
      | refine condP_ndec (fun _ => ?_) (fun _ => ?_)
      | refine condP_true rfl ?_
      | refine condP_false rfl ?_
      | refine condP_not (fun _ => ?_) (fun _ => ?_)
      | refine condP_intro (fun _ => ?_) (fun _ => ?_)
      | (refine rd_lenm (by assumption) ?_; intro hml; rw [maxLen_eq] at hml)
      | refine rd_idxm (by assumption) (by intro _; rfl) (by constructor <;> omega) ?_
      | (refine rd_loadm (f := GPackage.d) (by assumption) (by constructor <;> omega) ?_; intro _ hcs; obtain ⟨_, _, _, _, rfl, _, _, _, _⟩ := GPackage.inv hcs)
      | refine needP_intro (by first | omega | (constructor <;> omega)) ?_
      | refine And.intro ?_ ?_)
  all_goals first
    | rfl
    | (rw [drop_at (by omega), packGo] at hinv; rw [if_pos (by assumption)] at hinv; rw [← hinv]; rfl)
    | (rw [drop_end (by omega), packGo] at hinv; rw [← hinv]; rfl)
    | (refine ⟨⟨i + 1, by omega, by rw [drop_at (by omega), packGo] at hinv; rw [if_neg (by assumption)] at hinv; exact hinv⟩, ?_, rfl, by simp; omega⟩; (conv => whnf); repeat' (first | exact trivial | exact rfl | apply And.intro))
theorem ev_iPackOf (b : GBrowser) (ext : Int) (cs : List C) (S : Store) (h : Rd S b.d cs) : EvA Try.prog 19 [.agg cs, .s (.int .i64 ext)] S (fun r S' => r = .v (.s (.int .i64 (packOf b ext))) ∧ S' = S) := by
  obtain ⟨_, _, _, _, _, _, rfl, _, _, _, _, _, _⟩ := GBrowser.inv h
  refine evA_intro tok Try.func19 (by kernel_rfl) rfl ?_
  repeat' ((conv => whnf); first
      | rw [wrapI_i64 (by omega)]
      | refine condP_dec (fun _ => ?_) (fun _ => ?_)
      | refine condP_ndec (fun _ => ?_) (fun _ => ?_)
      | refine condP_true rfl ?_
      | refine condP_false rfl ?_
      | refine condP_not (fun _ => ?_) (fun _ => ?_)
      | refine condP_intro (fun _ => ?_) (fun _ => ?_)
      | (refine rd_lenm (by assumption) ?_; intro hml; rw [maxLen_eq] at hml)
      | refine rd_idxm (by assumption) (by intro _; rfl) (by constructor <;> omega) ?_
      | (refine rd_loadm (f := GPackage.d) (by assumption) (by constructor <;> omega) ?_; intro _ hcs; obtain ⟨_, _, _, _, rfl, _, _, _, _⟩ := GPackage.inv hcs)
      | refine needP_intro (by first | omega | (constructor <;> omega)) ?_
      | refine And.intro ?_ ?_)
  refine loop_intro {i : Nat // i ≤ b.Packs.length ∧ packGo ext (b.Packs.drop i) i = packOf b ext} [4, 5, 6, 10, 11, 12, 13, 14, 15, 16, 17, 18, 19, 20] (fun zb => [(10, .v (.s (.int .i64 zb.1)))]) (fun _ => S) (fun zb => b.Packs.length - zb.1) ⟨0, Nat.zero_le _, rfl⟩ ?_ rfl ?_
  · (conv => whnf); repeat' (first | exact trivial | exact rfl | apply And.intro)
  rintro ⟨i, hi, hinv⟩; dsimp only
  repeat' ((conv => whnf); first
      | rw [wrapI_i64 (by omega)]
      | refine condP_dec (fun _ => ?_) (fun _ => ?_)
      | refine condP_ndec (fun _ => ?_) (fun _ => ?_)
      | refine condP_true rfl ?_
      | refine condP_false rfl ?_
      | refine condP_not (fun _ => ?_) (fun _ => ?_)
      | refine condP_intro (fun _ => ?_) (fun _ => ?_)
      | (refine rd_lenm (by assumption) ?_; intro hml; rw [maxLen_eq] at hml)
      | refine rd_idxm (by assumption) (by intro _; rfl) (by constructor <;> omega) ?_
      | (refine rd_loadm (f := GPackage.d) (by assumption) (by constructor <;> omega) ?_; intro _ hcs; obtain ⟨_, _, _, _, rfl, _, _, _, _⟩ := GPackage.inv hcs)
      | refine needP_intro (by first | omega | (constructor <;> omega)) ?_
      | refine And.intro ?_ ?_)
  all_goals first
    | rfl
    | (rw [drop_at (by omega), packGo] at hinv; rw [if_pos (by assumption)] at hinv; rw [← hinv]; rfl)
    | (rw [drop_end (by omega), packGo] at hinv; rw [← hinv]; rfl)
    | (refine ⟨⟨i + 1, by omega, by rw [drop_at (by omega), packGo] at hinv; rw [if_neg (by assumption)] at hinv; exact hinv⟩, ?_, rfl, by simp; omega⟩; (conv => whnf); repeat' (first | exact trivial | exact rfl | apply And.intro))
def isClicked (t : GTab) (tick : Int) : Bool := inR t.Click 0 10000 && inR tick t.Click (t.Click + 2)
theorem ev_sIsClicked (t : GTab) (tick : Int) (cs : List C) (S : Store) (h : Rd S t.d cs) : EvA Try.prog 74 [.agg cs, .s (.int .i64 tick)] S (fun r S' => r = .v (.s (.bool (isClicked t tick))) ∧ S' = S) := by
  obtain ⟨_, _, _, rfl, _, _, _⟩ := GTab.inv h
  refine evA_intro tok Try.func74 (by kernel_rfl) rfl ?_
  repeat' ((conv => whnf); first
      | rw [wrapI_i64 (by omega)]
      | refine condP_dec (fun _ => ?_) (fun _ => ?_)
      | refine condP_ndec (fun _ => ?_) (fun _ => ?_)
      | refine condP_true rfl ?_
      | refine condP_false rfl ?_
      | refine condP_inR (fun _ _ => ?_) (fun _ _ => ?_)
      | refine condP_ninR (fun _ _ => ?_) (fun _ _ => ?_)
      | refine condP_not (fun _ => ?_) (fun _ => ?_)
      | refine condP_intro (fun _ => ?_) (fun _ => ?_)
      | refine callP_eq (ev_l1In _ _ _ _) ?_
      | refine needP_intro (by first | omega | (constructor <;> omega)) ?_
      | refine And.intro ?_ ?_)
  all_goals first | rfl | (simp_all [resAV, isClicked]; done)
theorem ev_iIsClicked (t : GTab) (tick : Int) (cs : List C) (S : Store) (h : Rd S t.d cs) : EvA Try.prog 76 [.agg cs, .s (.int .i64 tick)] S (fun r S' => r = .v (.s (.bool (isClicked t tick))) ∧ S' = S) := by
  obtain ⟨_, _, _, rfl, _, _, _⟩ := GTab.inv h
  refine evA_intro tok Try.func76 (by kernel_rfl) rfl ?_
  repeat' ((conv => whnf); first
      | rw [wrapI_i64 (by omega)]
      | refine condP_dec (fun _ => ?_) (fun _ => ?_)
      | refine condP_ndec (fun _ => ?_) (fun _ => ?_)
      | refine condP_true rfl ?_
      | refine condP_false rfl ?_
      | refine condP_inR (fun _ _ => ?_) (fun _ _ => ?_)
      | refine condP_ninR (fun _ _ => ?_) (fun _ _ => ?_)
      | refine condP_not (fun _ => ?_) (fun _ => ?_)
      | refine condP_intro (fun _ => ?_) (fun _ => ?_)
      | refine callP_eq (ev_InRange _ _ _ _) ?_
      | refine needP_intro (by first | omega | (constructor <;> omega)) ?_
      | refine And.intro ?_ ?_)
  all_goals first | rfl | (simp_all [resAV, isClicked]; done)
def tabAt (b : GBrowser) (tab : Int) : Option GTab := if 0 ≤ tab then b.Tabs[tab.toNat]? else none
theorem tabAt_in {b : GBrowser} {tab : Int} (h : 0 ≤ tab ∧ tab.toNat < b.Tabs.length) : tabAt b tab = some (b.Tabs[tab.toNat]'h.2) := by
  unfold tabAt; rw [if_pos h.1, List.getElem?_eq_getElem h.2]
theorem tabAt_out {b : GBrowser} {tab : Int} (h : ¬ (0 ≤ tab ∧ tab.toNat < b.Tabs.length)) : tabAt b tab = none := by
  unfold tabAt
  split
  · rw [List.getElem?_eq_none (by omega)]
  · rfl
def mayAct (b : GBrowser) (ext tab kind : Int) : Bool := decide (0 ≤ packOf b ext) && (match tabAt b tab with
  | some t => mayDo b.Grants b.Limits ext t.Site kind b.Now (isClicked t b.Now)
  | none => false)
theorem ev_sMayAct (b : GBrowser) (ext tab kind : Int) (cs : List C) (S : Store) (h : Rd S b.d cs) : EvA Try.prog 30 [.agg cs, .s (.int .i64 ext), .s (.int .i64 tab), .s (.int .i64 kind)] S (fun r S' => r = .v (.s (.bool (mayAct b ext tab kind))) ∧ S' = S) := by
  obtain ⟨_, _, _, _, _, _, rfl, _, _, _, _, _, _⟩ := GBrowser.inv h
  refine evA_intro tok Try.func30 (by kernel_rfl) rfl ?_
  repeat' ((conv => whnf); first
      | rw [wrapI_i64 (by omega)]
      | refine condP_dec (fun _ => ?_) (fun _ => ?_)
      | refine condP_ndec (fun _ => ?_) (fun _ => ?_)
      | refine condP_true rfl ?_
      | refine condP_false rfl ?_
      | refine condP_inR (fun _ _ => ?_) (fun _ _ => ?_)
      | refine condP_ninR (fun _ _ => ?_) (fun _ _ => ?_)
      | refine condP_not (fun _ => ?_) (fun _ => ?_)
      | refine condP_intro (fun _ => ?_) (fun _ => ?_)
      | (refine callP_eq (ev_sPackOf _ _ _ _ (by first | assumption | exact GPackage.rd (by assumption) (by assumption) (by assumption) (by assumption) | exact GTab.rd (by assumption) (by assumption) (by assumption) | exact GOutcome.rd (by assumption))) ?_)
      | refine callP_eq (ev_l1In _ _ _ _) ?_
      | refine callP_eq (ev_sMayDo _ _ _ _ _ _ _ _ _ _ (by assumption) (by assumption)) ?_
      | refine callP_eq (ev_sMayDo _ _ _ ⟨_, _⟩ _ _ _ _ _ _ (by assumption) (by assumption)) ?_
      | (refine callP_eq (ev_sIsClicked _ _ _ _ (by first | assumption | exact GPackage.rd (by assumption) (by assumption) (by assumption) (by assumption) | exact GTab.rd (by assumption) (by assumption) (by assumption) | exact GOutcome.rd (by assumption))) ?_)
      | (refine rd_lenm (by assumption) ?_; intro hml; rw [maxLen_eq] at hml)
      | refine rd_idxm (by assumption) (by intro _; rfl) (by constructor <;> omega) ?_
      | (refine rd_loadm (f := GTab.d) (by assumption) (by constructor <;> omega) ?_; intro _ hcs; obtain ⟨_, _, _, rfl, _, _, _⟩ := GTab.inv hcs)
      | refine needP_intro (by first | omega | (constructor <;> omega)) ?_
      | refine draw_intro [.fl 0, .fl 1, .fl 2, .fl 3, .fl 4, .fl 5, .fl 6, .fl 7, .fl 8, .fl 9, .fl 10, .fl 11, .fl 12, .st 13 [0, 1, 2, 3, 4, 5, 6, 7, 8, 9], .st 14 [], .st 15 []] (by kernel_rfl) ?_
      | refine And.intro ?_ ?_)
  all_goals first
    | rfl
    | (rw [show mayAct b ext tab kind = false from by unfold mayAct; rw [decide_eq_false (by omega), Bool.false_and]]; rfl)
    | (have ht := tabAt_out (b := b) (tab := tab) (by omega)
       simp only [mayAct, ht, Bool.and_false]; rfl)
    | (have ht := tabAt_in (b := b) (tab := tab) (by omega)
       simp only [mayAct, ht]; rw [decide_eq_true (by omega), Bool.true_and]; rfl)
theorem ev_iMayAct (b : GBrowser) (ext tab kind : Int) (cs : List C) (S : Store) (h : Rd S b.d cs) : EvA Try.prog 31 [.agg cs, .s (.int .i64 ext), .s (.int .i64 tab), .s (.int .i64 kind)] S (fun r S' => r = .v (.s (.bool (mayAct b ext tab kind))) ∧ S' = S) := by
  obtain ⟨_, _, _, _, _, _, rfl, _, _, _, _, _, _⟩ := GBrowser.inv h
  refine evA_intro tok Try.func31 (by kernel_rfl) rfl ?_
  repeat' ((conv => whnf); first
      | refine condP_dec (fun _ => ?_) (fun _ => ?_)
      | refine condP_ndec (fun _ => ?_) (fun _ => ?_)
      | refine condP_true rfl ?_
      | refine condP_false rfl ?_
      | refine condP_not (fun _ => ?_) (fun _ => ?_)
      | refine condP_intro (fun _ => ?_) (fun _ => ?_)
      | (refine callP_eq (ev_iPackOf _ _ _ _ (by first | assumption | exact GPackage.rd (by assumption) (by assumption) (by assumption) (by assumption) | exact GTab.rd (by assumption) (by assumption) (by assumption) | exact GOutcome.rd (by assumption))) ?_)
      | refine callP_eq (ev_iMayDo _ _ _ _ _ _ _ _ _ _ (by assumption) (by assumption)) ?_
      | refine callP_eq (ev_iMayDo _ _ _ ⟨_, _⟩ _ _ _ _ _ _ (by assumption) (by assumption)) ?_
      | (refine callP_eq (ev_iIsClicked _ _ _ _ (by first | assumption | exact GPackage.rd (by assumption) (by assumption) (by assumption) (by assumption) | exact GTab.rd (by assumption) (by assumption) (by assumption) | exact GOutcome.rd (by assumption))) ?_)
      | (refine rd_lenm (by assumption) ?_; intro hml; rw [maxLen_eq] at hml)
      | refine rd_idxm (by assumption) (by intro _; rfl) (by constructor <;> omega) ?_
      | (refine rd_loadm (f := GTab.d) (by assumption) (by constructor <;> omega) ?_; intro _ hcs; obtain ⟨_, _, _, rfl, _, _, _⟩ := GTab.inv hcs)
      | refine needP_intro (by first | omega | (constructor <;> omega)) ?_
      | refine draw_intro [.fl 0, .fl 1, .fl 2, .fl 3, .fl 4, .fl 5, .fl 6, .fl 7, .fl 8, .fl 9, .fl 10, .fl 11, .fl 12, .st 13 [0, 1, 2, 3, 4, 5, 6, 7, 8, 9], .st 14 [], .st 15 []] (by kernel_rfl) ?_
      | refine And.intro ?_ ?_)
  all_goals first
    | rfl
    | (rw [show mayAct b ext tab kind = false from by unfold mayAct; rw [decide_eq_false (by omega), Bool.false_and]]; rfl)
    | (have ht := tabAt_out (b := b) (tab := tab) (by omega)
       simp only [mayAct, ht, Bool.and_false]; rfl)
    | (have ht := tabAt_in (b := b) (tab := tab) (by omega)
       simp only [mayAct, ht]; rw [decide_eq_true (by omega), Bool.true_and]; rfl)
def rulesLeft (b : GBrowser) : Int := maxI 0 (20 - b.Rules.length)
theorem maxI_def (x y : Int) : maxI x y = if y > x then y else x := by unfold maxI; rfl
theorem ev_sMax (x y : Int) (S : Store) : EvA Try.prog 43 [.s (.int .i64 x), .s (.int .i64 y)] S (fun r S' => r = .v (.s (.int .i64 (maxI x y))) ∧ S' = S) := by
  refine evA_intro tok Try.func43 (by kernel_rfl) rfl ?_
  repeat' ((conv => whnf); first
      | refine condP_dec (fun _ => ?_) (fun _ => ?_)
      | refine condP_ndec (fun _ => ?_) (fun _ => ?_)
      | refine condP_true rfl ?_
      | refine condP_false rfl ?_
      | refine condP_not (fun _ => ?_) (fun _ => ?_)
      | refine condP_intro (fun _ => ?_) (fun _ => ?_)
      | refine needP_intro (by first | omega | (constructor <;> omega)) ?_
      | refine And.intro ?_ ?_)
  all_goals first | rfl | (rw [maxI_def, if_pos (by omega)]; rfl) | (rw [maxI_def, if_neg (by omega)]; rfl)
theorem ev_sRulesLeft (b : GBrowser) (cs : List C) (S : Store) (h : Rd S b.d cs) : EvA Try.prog 14 [.agg cs] S (fun r S' => r = .v (.s (.int .i64 (rulesLeft b))) ∧ S' = S) := by
  obtain ⟨_, _, _, _, _, _, rfl, _, _, _, _, _, _⟩ := GBrowser.inv h
  refine evA_intro tok Try.func14 (by kernel_rfl) rfl ?_
  repeat' ((conv => whnf); first
      | rw [wrapI_i64 (by omega)]
      | refine callP_eq (ev_sMax _ _ _) ?_
      | (refine rd_lenm (by assumption) ?_; intro hml; rw [maxLen_eq] at hml)
      | refine needP_intro (by first | omega | (constructor <;> omega)) ?_
      | refine And.intro ?_ ?_)
  all_goals rfl
theorem ev_iRulesLeft (b : GBrowser) (cs : List C) (S : Store) (h : Rd S b.d cs) : EvA Try.prog 16 [.agg cs] S (fun r S' => r = .v (.s (.int .i64 (rulesLeft b))) ∧ S' = S) := by
  obtain ⟨_, _, _, _, _, _, rfl, _, _, _, _, _, _⟩ := GBrowser.inv h
  refine evA_intro tok Try.func16 (by kernel_rfl) rfl ?_
  repeat' ((conv => whnf); first
      | rw [wrapI_i64 (by omega)]
      | (refine rd_lenm (by assumption) ?_; intro hml; rw [maxLen_eq] at hml)
      | refine needP_intro (by first | omega | (constructor <;> omega)) ?_
      | refine And.intro ?_ ?_)
  all_goals rfl
theorem flen {α : Type} (P : α → Bool) : ∀ l : List α, (l.filter P).length + (l.filter fun x => !P x).length = l.length
  | [] => rfl
  | x :: l => by
    have := flen P l
    simp only [List.filter_cons]
    cases P x <;> simp <;> omega
def storedBy (b : GBrowser) (ext : Int) : Int := (b.Store.filter (stOf ext)).length
theorem stNot_eq (ext : Int) : stNot ext = fun x => !stOf ext x := rfl
theorem ev_sStoredBy (b : GBrowser) (ext : Int) (cs : List C) (S : Store) (h : Rd S b.d cs) (hz : szL b.d ≤ 1048576) : EvA Try.prog 20 [.agg cs, .s (.int .i64 ext)] S (fun r S' => r = .v (.s (.int .i64 (storedBy b ext))) ∧ S' = S) := by
  have hzs := hz
  simp only [GBrowser.d, szL, List.length_map] at hzs
  obtain ⟨_, _, _, _, _, _, rfl, _, _, _, _, _, _⟩ := GBrowser.inv h
  refine EvA.drop rfl ?_
  refine evA_intro tok Try.func20 (by kernel_rfl) rfl ?_
  repeat' ((conv => whnf); first
      | (refine callP_intro (ev_l30Entries _ _ _ _ (by (first | assumption | exact Fr.rd (by assumption) | exact Rd.ext (by first | assumption | exact Fr.rd (by assumption)) (by (first | assumption | exact Ext.push _ _ | exact Ext.trans (by assumption) (by first | assumption | exact Ext.push _ _) | exact Ext.trans (by assumption) (Ext.trans (by assumption) (by assumption)) | exact Ext.trans (by assumption) (Ext.trans (by assumption) (Ext.trans (by assumption) (by assumption))))))) (by omega)) ?_; rintro _ Sn ⟨hEn, cn, rfl, hFn⟩)
      | (refine rd_lenm (by (first | assumption | exact Fr.rd (by assumption) | exact Rd.ext (by first | assumption | exact Fr.rd (by assumption)) (by (first | assumption | exact Ext.push _ _ | exact Ext.trans (by assumption) (by first | assumption | exact Ext.push _ _) | exact Ext.trans (by assumption) (Ext.trans (by assumption) (by assumption)) | exact Ext.trans (by assumption) (Ext.trans (by assumption) (Ext.trans (by assumption) (by assumption))))))) ?_; intro hml; rw [maxLen_eq] at hml)
      | refine needP_intro (by first | omega | (constructor <;> omega)) ?_
      | refine And.intro ?_ ?_)
  all_goals first
    | rfl
    | (have := flen (stOf ext) b.Store; rw [← stNot_eq] at this
       simp only [resAV, storedBy]; congr 3; omega)
    | exact Ext.refl _
    | assumption
theorem ev_iStoredBy (b : GBrowser) (ext : Int) (cs : List C) (S : Store) (h : Rd S b.d cs) (hz : szL b.d ≤ 1048576) : EvA Try.prog 21 [.agg cs, .s (.int .i64 ext)] S (fun r S' => r = .v (.s (.int .i64 (storedBy b ext))) ∧ S' = S) := by
  have hzs := hz
  simp only [GBrowser.d, szL, List.length_map] at hzs
  obtain ⟨_, _, _, _, _, _, rfl, _, _, _, _, _, _⟩ := GBrowser.inv h
  refine EvA.drop rfl ?_
  refine evA_intro tok Try.func21 (by kernel_rfl) rfl ?_
  repeat' ((conv => whnf); first
      | rw [wrapI_i64 (by omega)]
      | (refine callP_intro (ev_iDropStored _ _ _ _ (by (first | assumption | exact Fr.rd (by assumption) | exact Rd.ext (by first | assumption | exact Fr.rd (by assumption)) (by (first | assumption | exact Ext.push _ _ | exact Ext.trans (by assumption) (by first | assumption | exact Ext.push _ _) | exact Ext.trans (by assumption) (Ext.trans (by assumption) (by assumption)) | exact Ext.trans (by assumption) (Ext.trans (by assumption) (Ext.trans (by assumption) (by assumption))))))) (by omega)) ?_; rintro _ Sn ⟨hEn, cn, rfl, hFn⟩)
      | (refine rd_lenm (by (first | assumption | exact Fr.rd (by assumption) | exact Rd.ext (by first | assumption | exact Fr.rd (by assumption)) (by (first | assumption | exact Ext.push _ _ | exact Ext.trans (by assumption) (by first | assumption | exact Ext.push _ _) | exact Ext.trans (by assumption) (Ext.trans (by assumption) (by assumption)) | exact Ext.trans (by assumption) (Ext.trans (by assumption) (Ext.trans (by assumption) (by assumption))))))) ?_; intro hml; rw [maxLen_eq] at hml)
      | refine needP_intro (by first | omega | (constructor <;> omega)) ?_
      | refine draw_intro [.fl 0, .fl 1, .fl 2, .fl 3, .fl 4, .fl 5, .st 6 [0, 1, 2], .fl 7, .fl 8, .st 9 []] (by kernel_rfl) ?_
      | refine And.intro ?_ ?_)
  all_goals first
    | rfl
    | (have := flen (stOf ext) b.Store; rw [← stNot_eq] at this
       simp only [resAV, storedBy]; congr 3; omega)
    | exact Ext.refl _
    | assumption
theorem edNot_eq (by' : Int) : edBy by' false = edNot by' := by funext x; simp only [edBy, edNot]; cases decide (x.By = by') <;> rfl
theorem edBy1_eq (by' : Int) : edBy by' true = edBy1 by' := by funext x; simp only [edBy, edBy1]; cases decide (x.By = by') <;> rfl
theorem ev_iWithoutBy (l : List GEdit) (by' : Int) (c : C) (S : Store) (h : Rd S [.sl 6 (l.map GEdit.d)] [c]) (hz : l.length ≤ 4194304) : EvA Try.prog 60 [.s c, .s (.int .i64 by')] S (fun r S' => Ext S S' ∧ ∃ c', r = .v (.s c') ∧ Fr S.length S' [.sl 6 ((l.filter (edNot by')).map GEdit.d)] [c']) := by
  rw [← edNot_eq]
  refine evA_intro tok Try.func60 (by kernel_rfl) rfl ?_
  repeat' ((conv => whnf); first
      | (refine callP_intro (ev_editsOf _ _ _ _ _ (by (first | assumption | exact Fr.rd (by assumption) | exact Rd.ext (by first | assumption | exact Fr.rd (by assumption)) (by (first | assumption | exact Ext.push _ _ | exact Ext.trans (by assumption) (by first | assumption | exact Ext.push _ _) | exact Ext.trans (by assumption) (Ext.trans (by assumption) (by assumption)) | exact Ext.trans (by assumption) (Ext.trans (by assumption) (Ext.trans (by assumption) (by assumption))))))) (by omega)) ?_; rintro _ Sn ⟨hEn, cn, rfl, hFn⟩)
      | refine needP_intro (by first | omega | (constructor <;> omega)) ?_
      | refine And.intro ?_ ?_)
  all_goals first | assumption | exact ⟨_, rfl, by assumption⟩
theorem ev_iEditsBy (l : List GEdit) (by' : Int) (c : C) (S : Store) (h : Rd S [.sl 6 (l.map GEdit.d)] [c]) (hz : l.length ≤ 4194304) : EvA Try.prog 72 [.s c, .s (.int .i64 by')] S (fun r S' => Ext S S' ∧ ∃ c', r = .v (.s c') ∧ Fr S.length S' [.sl 6 ((l.filter (edBy1 by')).map GEdit.d)] [c']) := by
  rw [← edBy1_eq]
  refine evA_intro tok Try.func72 (by kernel_rfl) rfl ?_
  repeat' ((conv => whnf); first
      | (refine callP_intro (ev_editsOf _ _ _ _ _ (by (first | assumption | exact Fr.rd (by assumption) | exact Rd.ext (by first | assumption | exact Fr.rd (by assumption)) (by (first | assumption | exact Ext.push _ _ | exact Ext.trans (by assumption) (by first | assumption | exact Ext.push _ _) | exact Ext.trans (by assumption) (Ext.trans (by assumption) (by assumption)) | exact Ext.trans (by assumption) (Ext.trans (by assumption) (Ext.trans (by assumption) (by assumption))))))) (by omega)) ?_; rintro _ Sn ⟨hEn, cn, rfl, hFn⟩)
      | refine needP_intro (by first | omega | (constructor <;> omega)) ?_
      | refine And.intro ?_ ?_)
  all_goals first | assumption | exact ⟨_, rfl, by assumption⟩
def editShare (b : GBrowser) (tab : Int) : Int × Int := match tabAt b tab with
  | some t => (((t.Edits.filter (edNot 0)).length : Int), (t.Edits.length : Int))
  | none => (0, 0)
theorem ev_sEditShare (b : GBrowser) (tab : Int) (cs : List C) (S : Store) (h : Rd S b.d cs) (hz : szL b.d ≤ 1048576) : EvA Try.prog 22 [.agg cs, .s (.int .i64 tab)] S (fun r S' => r = .tup [.s (.int .i64 (editShare b tab).1), .s (.int .i64 (editShare b tab).2)] ∧ S' = S) := by
  have hzs := hz
  simp only [GBrowser.d, szL, List.length_map] at hzs
  obtain ⟨_, _, _, _, _, _, rfl, _, _, _, _, _, _⟩ := GBrowser.inv h
  have hzt : ∀ (i : Nat) (hi : i < b.Tabs.length), (b.Tabs[i]).Edits.length ≤ 4194304 := fun i hi => by
    have h1 := szLL_mem (f := GTab.d) (List.getElem_mem hi)
    simp only [GTab.d, szL, List.length_map] at h1
    omega
  by_cases ht : 0 ≤ tab ∧ tab.toNat < b.Tabs.length
  · have hzq := hzt _ ht.2
    have he : editShare b tab = ((((b.Tabs[tab.toNat]'ht.2).Edits.filter (edNot 0)).length : Int), ((b.Tabs[tab.toNat]'ht.2).Edits.length : Int)) := by unfold editShare; rw [tabAt_in ht]
    rw [he]
    refine EvA.drop rfl ?_
    refine evA_intro tok Try.func22 (by kernel_rfl) rfl ?_
    repeat' ((conv => whnf); first
        | rw [wrapI_i64 (by omega)]
        | refine condP_dec (fun _ => ?_) (fun _ => ?_)
        | refine condP_ndec (fun _ => ?_) (fun _ => ?_)
        | refine condP_true rfl ?_
        | refine condP_false rfl ?_
        | refine condP_inR (fun _ _ => ?_) (fun _ _ => ?_)
        | refine condP_ninR (fun _ _ => ?_) (fun _ _ => ?_)
        | refine condP_not (fun _ => ?_) (fun _ => ?_)
        | refine condP_intro (fun _ => ?_) (fun _ => ?_)
        | refine callP_eq (ev_l1In _ _ _ _) ?_
        | (refine callP_intro (ev_sWithoutBy _ _ _ _ (by (first | assumption | exact Fr.rd (by assumption) | exact Rd.ext (by first | assumption | exact Fr.rd (by assumption)) (by (first | assumption | exact Ext.push _ _ | exact Ext.trans (by assumption) (by first | assumption | exact Ext.push _ _) | exact Ext.trans (by assumption) (Ext.trans (by assumption) (by assumption)) | exact Ext.trans (by assumption) (Ext.trans (by assumption) (Ext.trans (by assumption) (by assumption))))))) (by omega)) ?_; rintro _ Sn ⟨hEn, cn, rfl, hFn⟩)
        | (refine rd_lenm (by (first | assumption | exact Fr.rd (by assumption) | exact Rd.ext (by first | assumption | exact Fr.rd (by assumption)) (by (first | assumption | exact Ext.push _ _ | exact Ext.trans (by assumption) (by first | assumption | exact Ext.push _ _) | exact Ext.trans (by assumption) (Ext.trans (by assumption) (by assumption)) | exact Ext.trans (by assumption) (Ext.trans (by assumption) (Ext.trans (by assumption) (by assumption))))))) ?_; intro hml; rw [maxLen_eq] at hml)
        | refine rd_idxm (by (first | assumption | exact Fr.rd (by assumption) | exact Rd.ext (by first | assumption | exact Fr.rd (by assumption)) (by (first | assumption | exact Ext.push _ _ | exact Ext.trans (by assumption) (by first | assumption | exact Ext.push _ _) | exact Ext.trans (by assumption) (Ext.trans (by assumption) (by assumption)) | exact Ext.trans (by assumption) (Ext.trans (by assumption) (Ext.trans (by assumption) (by assumption))))))) (by intro _; rfl) (by constructor <;> omega) ?_
        | (refine rd_loadm (f := GTab.d) (by (first | assumption | exact Fr.rd (by assumption) | exact Rd.ext (by first | assumption | exact Fr.rd (by assumption)) (by (first | assumption | exact Ext.push _ _ | exact Ext.trans (by assumption) (by first | assumption | exact Ext.push _ _) | exact Ext.trans (by assumption) (Ext.trans (by assumption) (by assumption)) | exact Ext.trans (by assumption) (Ext.trans (by assumption) (Ext.trans (by assumption) (by assumption))))))) (by constructor <;> omega) ?_; intro _ hcs; obtain ⟨_, _, _, rfl, _, _, _⟩ := GTab.inv hcs)
        | refine needP_intro (by first | omega | (constructor <;> omega)) ?_
        | refine And.intro ?_ ?_)
    all_goals first | rfl | exact Ext.refl _ | assumption | (exfalso; omega)
  · have he : editShare b tab = (0, 0) := by unfold editShare; rw [tabAt_out ht]
    rw [he]
    refine EvA.drop rfl ?_
    refine evA_intro tok Try.func22 (by kernel_rfl) rfl ?_
    repeat' ((conv => whnf); first
        | rw [wrapI_i64 (by omega)]
        | refine condP_dec (fun _ => ?_) (fun _ => ?_)
        | refine condP_ndec (fun _ => ?_) (fun _ => ?_)
        | refine condP_true rfl ?_
        | refine condP_false rfl ?_
        | refine condP_inR (fun _ _ => ?_) (fun _ _ => ?_)
        | refine condP_ninR (fun _ _ => ?_) (fun _ _ => ?_)
        | refine condP_not (fun _ => ?_) (fun _ => ?_)
        | refine condP_intro (fun _ => ?_) (fun _ => ?_)
        | refine callP_eq (ev_l1In _ _ _ _) ?_
        | (refine callP_intro (ev_sWithoutBy _ _ _ _ (by (first | assumption | exact Fr.rd (by assumption) | exact Rd.ext (by first | assumption | exact Fr.rd (by assumption)) (by (first | assumption | exact Ext.push _ _ | exact Ext.trans (by assumption) (by first | assumption | exact Ext.push _ _) | exact Ext.trans (by assumption) (Ext.trans (by assumption) (by assumption)) | exact Ext.trans (by assumption) (Ext.trans (by assumption) (Ext.trans (by assumption) (by assumption))))))) (by omega)) ?_; rintro _ Sn ⟨hEn, cn, rfl, hFn⟩)
        | (refine rd_lenm (by (first | assumption | exact Fr.rd (by assumption) | exact Rd.ext (by first | assumption | exact Fr.rd (by assumption)) (by (first | assumption | exact Ext.push _ _ | exact Ext.trans (by assumption) (by first | assumption | exact Ext.push _ _) | exact Ext.trans (by assumption) (Ext.trans (by assumption) (by assumption)) | exact Ext.trans (by assumption) (Ext.trans (by assumption) (Ext.trans (by assumption) (by assumption))))))) ?_; intro hml; rw [maxLen_eq] at hml)
        | refine rd_idxm (by (first | assumption | exact Fr.rd (by assumption) | exact Rd.ext (by first | assumption | exact Fr.rd (by assumption)) (by (first | assumption | exact Ext.push _ _ | exact Ext.trans (by assumption) (by first | assumption | exact Ext.push _ _) | exact Ext.trans (by assumption) (Ext.trans (by assumption) (by assumption)) | exact Ext.trans (by assumption) (Ext.trans (by assumption) (Ext.trans (by assumption) (by assumption))))))) (by intro _; rfl) (by constructor <;> omega) ?_
        | (refine rd_loadm (f := GTab.d) (by (first | assumption | exact Fr.rd (by assumption) | exact Rd.ext (by first | assumption | exact Fr.rd (by assumption)) (by (first | assumption | exact Ext.push _ _ | exact Ext.trans (by assumption) (by first | assumption | exact Ext.push _ _) | exact Ext.trans (by assumption) (Ext.trans (by assumption) (by assumption)) | exact Ext.trans (by assumption) (Ext.trans (by assumption) (Ext.trans (by assumption) (by assumption))))))) (by constructor <;> omega) ?_; intro _ hcs; obtain ⟨_, _, _, rfl, _, _, _⟩ := GTab.inv hcs)
        | refine needP_intro (by first | omega | (constructor <;> omega)) ?_
        | refine And.intro ?_ ?_)
    all_goals first | rfl | exact Ext.refl _ | assumption | (exfalso; omega)
theorem ev_iEditShare (b : GBrowser) (tab : Int) (cs : List C) (S : Store) (h : Rd S b.d cs) (hz : szL b.d ≤ 1048576) : EvA Try.prog 23 [.agg cs, .s (.int .i64 tab)] S (fun r S' => r = .tup [.s (.int .i64 (editShare b tab).1), .s (.int .i64 (editShare b tab).2)] ∧ S' = S) := by
  have hzs := hz
  simp only [GBrowser.d, szL, List.length_map] at hzs
  obtain ⟨_, _, _, _, _, _, rfl, _, _, _, _, _, _⟩ := GBrowser.inv h
  have hzt : ∀ (i : Nat) (hi : i < b.Tabs.length), (b.Tabs[i]).Edits.length ≤ 4194304 := fun i hi => by
    have h1 := szLL_mem (f := GTab.d) (List.getElem_mem hi)
    simp only [GTab.d, szL, List.length_map] at h1
    omega
  by_cases ht : 0 ≤ tab ∧ tab.toNat < b.Tabs.length
  · have hzq := hzt _ ht.2
    have he : editShare b tab = ((((b.Tabs[tab.toNat]'ht.2).Edits.filter (edNot 0)).length : Int), ((b.Tabs[tab.toNat]'ht.2).Edits.length : Int)) := by unfold editShare; rw [tabAt_in ht]
    rw [he]
    refine EvA.drop rfl ?_
    refine evA_intro tok Try.func23 (by kernel_rfl) rfl ?_
    repeat' ((conv => whnf); first
        | refine condP_dec (fun _ => ?_) (fun _ => ?_)
        | refine condP_ndec (fun _ => ?_) (fun _ => ?_)
        | refine condP_true rfl ?_
        | refine condP_false rfl ?_
        | refine condP_not (fun _ => ?_) (fun _ => ?_)
        | refine condP_intro (fun _ => ?_) (fun _ => ?_)
        | (refine callP_intro (ev_iWithoutBy _ _ _ _ (by (first | assumption | exact Fr.rd (by assumption) | exact Rd.ext (by first | assumption | exact Fr.rd (by assumption)) (by (first | assumption | exact Ext.push _ _ | exact Ext.trans (by assumption) (by first | assumption | exact Ext.push _ _) | exact Ext.trans (by assumption) (Ext.trans (by assumption) (by assumption)) | exact Ext.trans (by assumption) (Ext.trans (by assumption) (Ext.trans (by assumption) (by assumption))))))) (by omega)) ?_; rintro _ Sn ⟨hEn, cn, rfl, hFn⟩)
        | (refine rd_lenm (by (first | assumption | exact Fr.rd (by assumption) | exact Rd.ext (by first | assumption | exact Fr.rd (by assumption)) (by (first | assumption | exact Ext.push _ _ | exact Ext.trans (by assumption) (by first | assumption | exact Ext.push _ _) | exact Ext.trans (by assumption) (Ext.trans (by assumption) (by assumption)) | exact Ext.trans (by assumption) (Ext.trans (by assumption) (Ext.trans (by assumption) (by assumption))))))) ?_; intro hml; rw [maxLen_eq] at hml)
        | refine rd_idxm (by (first | assumption | exact Fr.rd (by assumption) | exact Rd.ext (by first | assumption | exact Fr.rd (by assumption)) (by (first | assumption | exact Ext.push _ _ | exact Ext.trans (by assumption) (by first | assumption | exact Ext.push _ _) | exact Ext.trans (by assumption) (Ext.trans (by assumption) (by assumption)) | exact Ext.trans (by assumption) (Ext.trans (by assumption) (Ext.trans (by assumption) (by assumption))))))) (by intro _; rfl) (by constructor <;> omega) ?_
        | (refine rd_loadm (f := GTab.d) (by (first | assumption | exact Fr.rd (by assumption) | exact Rd.ext (by first | assumption | exact Fr.rd (by assumption)) (by (first | assumption | exact Ext.push _ _ | exact Ext.trans (by assumption) (by first | assumption | exact Ext.push _ _) | exact Ext.trans (by assumption) (Ext.trans (by assumption) (by assumption)) | exact Ext.trans (by assumption) (Ext.trans (by assumption) (Ext.trans (by assumption) (by assumption))))))) (by constructor <;> omega) ?_; intro _ hcs; obtain ⟨_, _, _, rfl, _, _, _⟩ := GTab.inv hcs)
        | refine needP_intro (by first | omega | (constructor <;> omega)) ?_
        | refine And.intro ?_ ?_)
    all_goals first | rfl | exact Ext.refl _ | assumption | (exfalso; omega)
  · have he : editShare b tab = (0, 0) := by unfold editShare; rw [tabAt_out ht]
    rw [he]
    refine EvA.drop rfl ?_
    refine evA_intro tok Try.func23 (by kernel_rfl) rfl ?_
    repeat' ((conv => whnf); first
        | refine condP_dec (fun _ => ?_) (fun _ => ?_)
        | refine condP_ndec (fun _ => ?_) (fun _ => ?_)
        | refine condP_true rfl ?_
        | refine condP_false rfl ?_
        | refine condP_not (fun _ => ?_) (fun _ => ?_)
        | refine condP_intro (fun _ => ?_) (fun _ => ?_)
        | (refine callP_intro (ev_iWithoutBy _ _ _ _ (by (first | assumption | exact Fr.rd (by assumption) | exact Rd.ext (by first | assumption | exact Fr.rd (by assumption)) (by (first | assumption | exact Ext.push _ _ | exact Ext.trans (by assumption) (by first | assumption | exact Ext.push _ _) | exact Ext.trans (by assumption) (Ext.trans (by assumption) (by assumption)) | exact Ext.trans (by assumption) (Ext.trans (by assumption) (Ext.trans (by assumption) (by assumption))))))) (by omega)) ?_; rintro _ Sn ⟨hEn, cn, rfl, hFn⟩)
        | (refine rd_lenm (by (first | assumption | exact Fr.rd (by assumption) | exact Rd.ext (by first | assumption | exact Fr.rd (by assumption)) (by (first | assumption | exact Ext.push _ _ | exact Ext.trans (by assumption) (by first | assumption | exact Ext.push _ _) | exact Ext.trans (by assumption) (Ext.trans (by assumption) (by assumption)) | exact Ext.trans (by assumption) (Ext.trans (by assumption) (Ext.trans (by assumption) (by assumption))))))) ?_; intro hml; rw [maxLen_eq] at hml)
        | refine rd_idxm (by (first | assumption | exact Fr.rd (by assumption) | exact Rd.ext (by first | assumption | exact Fr.rd (by assumption)) (by (first | assumption | exact Ext.push _ _ | exact Ext.trans (by assumption) (by first | assumption | exact Ext.push _ _) | exact Ext.trans (by assumption) (Ext.trans (by assumption) (by assumption)) | exact Ext.trans (by assumption) (Ext.trans (by assumption) (Ext.trans (by assumption) (by assumption))))))) (by intro _; rfl) (by constructor <;> omega) ?_
        | (refine rd_loadm (f := GTab.d) (by (first | assumption | exact Fr.rd (by assumption) | exact Rd.ext (by first | assumption | exact Fr.rd (by assumption)) (by (first | assumption | exact Ext.push _ _ | exact Ext.trans (by assumption) (by first | assumption | exact Ext.push _ _) | exact Ext.trans (by assumption) (Ext.trans (by assumption) (by assumption)) | exact Ext.trans (by assumption) (Ext.trans (by assumption) (Ext.trans (by assumption) (by assumption))))))) (by constructor <;> omega) ?_; intro _ hcs; obtain ⟨_, _, _, rfl, _, _, _⟩ := GTab.inv hcs)
        | refine needP_intro (by first | omega | (constructor <;> omega)) ?_
        | refine And.intro ?_ ?_)
    all_goals first | rfl | exact Ext.refl _ | assumption | (exfalso; omega)
end Go.Proofs.Ytdlppfdakpeodaa
