/- Lists that are filtered. -/
import Derived.Test.YtlmmdpmmdmhacaaGreatKm21
namespace Go.Proofs.YtlmmdpmmdmhacaaGreat
set_option linter.unusedVariables false
set_option linter.unusedSimpArgs false
set_option maxRecDepth 100000
section
open Go Go.ChangeShapes Go.WideShapes Go.ChangeAt Go.RowKit
def edBy (by' : Int) (is : Bool) (x : GEdit) : Bool := (decide (x.By = by') == is)
theorem ev_editsOf (l : List GEdit) (by' : Int) (is : Bool) (c : C) (S : Store) (h : Rd S [.sl 6 (l.map GEdit.d)] [c]) (hz : l.length ≤ 4194304) : EvA Tryz.prog 155 [.s c, .s (.int .i64 by'), .s (.bool is)] S (fun r S' => Ext S S' ∧ ∃ c', r = .v (.s c') ∧ Fr S.length S' [.sl 6 ((l.filter (edBy by' is)).map GEdit.d)] [c']) := by
  refine evA_intro tok Tryz.func155 (by kernel_rfl) rfl ?_
  repeat' ((conv => whnf) <;> first
   | refine rE fun hml => ?_)
  refine loop_intro {p : Nat × Store × C // p.1 ≤ l.length ∧ Ext S p.2.1 ∧ Fr S.length p.2.1 [.sl 6 (((l.take p.1).filter (edBy by' is)).map GEdit.d)] [p.2.2]} [7, 9, 13, 14, 15, 16, 17, 18, 19, 20, 21, 22, 23, 24, 25, 26, 27] (fun zb => [(13, .v (.s (.int .i64 zb.1.1))), (7, .v (.s zb.1.2.2))]) (fun zb => zb.1.2.1) (fun zb => l.length - zb.1.1) ⟨(0, _, _), Nat.zero_le _, Ext.push _ _, fr_lit0⟩ ?_ rfl ?_
  · (conv => whnf); repeat' (first | exact trivial | exact rfl | apply And.intro)
  rintro ⟨⟨i, Si, ci⟩, hi, hE, hF⟩; dsimp only
  replace hi : i ≤ l.length := hi
  replace hE : Ext S Si := hE
  replace hF : Fr S.length Si [.sl 6 (((l.take i).filter (edBy by' is)).map GEdit.d)] [ci] := hF
  have hfl := filter_len (edBy by' is) l i
  repeat' ((conv => whnf) <;> first
   | rw [wrapI_i64 (by omega)] | refine cD (fun _ => ?_) fun _ => ?_ | refine rI rdA rf ix ?_ | refine rd_loadf rdA tv ix ?_ | (refine fr_app1 (f := GEdit.d) aN aN tv (by rfl) rf (by dsimp only [T87]; omega) om ?_; intro cN SN hEN hFN) | refine And.intro ?_ ?_)
  all_goals first
    | exact hE
    | (rw [List.take_of_length_le (by omega)] at hF; exact ⟨_, rfl, hF⟩)
    | (refine ⟨⟨(i + 1, _, _), by dsimp only; omega, by assumption, by first | (rw [filter_t (by omega) (by simp_all [edBy])]; assumption) | (rw [filter_f (by omega) (by simp_all [edBy])]; assumption)⟩, ?_, rfl, by dsimp only; omega⟩; (conv => whnf); repeat' (first | exact trivial | exact rfl | apply And.intro))
def edNot (by' : Int) (x : GEdit) : Bool := !decide (x.By = by')
theorem ev_sWithoutBy (l : List GEdit) (by' : Int) (c : C) (S : Store) (h : Rd S [.sl 6 (l.map GEdit.d)] [c]) (hz : l.length ≤ 4194304) : EvA Tryz.prog 357 [.s c, .s (.int .i64 by')] S (fun r S' => Ext S S' ∧ ∃ c', r = .v (.s c') ∧ Fr S.length S' [.sl 6 ((l.filter (edNot by')).map GEdit.d)] [c']) := by
  refine evA_intro tok Tryz.func357 (by kernel_rfl) rfl ?_
  skip
  refine loop_intro {p : Nat × Store × C // p.1 ≤ l.length ∧ Ext S p.2.1 ∧ Fr S.length p.2.1 [.sl 6 (((l.take p.1).filter (edNot by')).map GEdit.d)] [p.2.2]} [5, 6, 8, 9, 10, 11, 12, 13, 14, 15, 16, 17, 18, 19, 20, 21, 22, 23, 24, 25, 26, 27] (fun zb => [(6, .v (.s (.int .i64 zb.1.1))), (5, .v (.s zb.1.2.2))]) (fun zb => zb.1.2.1) (fun zb => l.length - zb.1.1) ⟨(0, _, _), Nat.zero_le _, Ext.push _ _, fr_lit0⟩ ?_ rfl ?_
  · (conv => whnf); repeat' (first | exact trivial | exact rfl | apply And.intro)
  rintro ⟨⟨i, Si, ci⟩, hi, hE, hF⟩; dsimp only
  replace hi : i ≤ l.length := hi
  replace hE : Ext S Si := hE
  replace hF : Fr S.length Si [.sl 6 (((l.take i).filter (edNot by')).map GEdit.d)] [ci] := hF
  have hfl := filter_len (edNot by') l i
  repeat' ((conv => whnf) <;> first
   | rw [wrapI_i64 (by omega)] | refine cD (fun _ => ?_) fun _ => ?_ | refine cE (fun _ => ?_) fun _ => ?_ | refine rE fun hml => ?_ | refine rI rdA rf ix ?_ | refine rd_loadf rdA tv ix ?_ | (refine fr_app1 (f := GEdit.d) aN aN tv (by rfl) rf (by dsimp only [T87]; omega) om ?_; intro cN SN hEN hFN) | refine And.intro ?_ ?_)
  all_goals first
    | exact hE
    | (rw [List.take_of_length_le (by omega)] at hF; exact ⟨_, rfl, hF⟩)
    | (refine ⟨⟨(i + 1, _, _), by dsimp only; omega, by assumption, by first | (rw [filter_t (by omega) (by simp_all [edNot])]; assumption) | (rw [filter_f (by omega) (by simp_all [edNot])]; assumption)⟩, ?_, rfl, by dsimp only; omega⟩; (conv => whnf); repeat' (first | exact trivial | exact rfl | apply And.intro))
def ruOf (ext : Int) (x : GRule) : Bool := decide (x.Ext = ext)
theorem ev_sRulesOf (l : List GRule) (ext : Int) (c : C) (S : Store) (h : Rd S [.sl 8 (l.map GRule.d)] [c]) (hz : l.length ≤ 4194304) : EvA Tryz.prog 320 [.s c, .s (.int .i64 ext)] S (fun r S' => Ext S S' ∧ ∃ c', r = .v (.s c') ∧ Fr S.length S' [.sl 8 ((l.filter (ruOf ext)).map GRule.d)] [c']) := by
  refine evA_intro tok Tryz.func320 (by kernel_rfl) rfl ?_
  skip
  refine loop_intro {p : Nat × Store × C // p.1 ≤ l.length ∧ Ext S p.2.1 ∧ Fr S.length p.2.1 [.sl 8 (((l.take p.1).filter (ruOf ext)).map GRule.d)] [p.2.2]} [5, 6, 8, 9, 10, 11, 12, 13, 14, 15, 16, 17, 18, 19, 20, 21, 22, 23, 24, 25, 26, 27] (fun zb => [(6, .v (.s (.int .i64 zb.1.1))), (5, .v (.s zb.1.2.2))]) (fun zb => zb.1.2.1) (fun zb => l.length - zb.1.1) ⟨(0, _, _), Nat.zero_le _, Ext.push _ _, fr_lit0⟩ ?_ rfl ?_
  · (conv => whnf); repeat' (first | exact trivial | exact rfl | apply And.intro)
  rintro ⟨⟨i, Si, ci⟩, hi, hE, hF⟩; dsimp only
  replace hi : i ≤ l.length := hi
  replace hE : Ext S Si := hE
  replace hF : Fr S.length Si [.sl 8 (((l.take i).filter (ruOf ext)).map GRule.d)] [ci] := hF
  have hfl := filter_len (ruOf ext) l i
  repeat' ((conv => whnf) <;> first
   | rw [wrapI_i64 (by omega)] | refine cD (fun _ => ?_) fun _ => ?_ | refine rE fun hml => ?_ | refine rI rdA rf ix ?_ | refine rd_loadf rdA tv ix ?_ | (refine fr_app1 (f := GRule.d) aN aN tv (by rfl) rf (by dsimp only [T108]; omega) om ?_; intro cN SN hEN hFN) | refine And.intro ?_ ?_)
  all_goals first
    | exact hE
    | (rw [List.take_of_length_le (by omega)] at hF; exact ⟨_, rfl, hF⟩)
    | (refine ⟨⟨(i + 1, _, _), by dsimp only; omega, by assumption, by first | (rw [filter_t (by omega) (by simp_all [ruOf])]; assumption) | (rw [filter_f (by omega) (by simp_all [ruOf])]; assumption)⟩, ?_, rfl, by dsimp only; omega⟩; (conv => whnf); repeat' (first | exact trivial | exact rfl | apply And.intro))
def stNot (ext : Int) (x : GStored) : Bool := !decide (x.Ext = ext)
theorem ev_sDropStored (l : List GStored) (ext : Int) (c : C) (S : Store) (h : Rd S [.sl 4 (l.map GStored.d)] [c]) (hz : l.length ≤ 4194304) : EvA Tryz.prog 333 [.s c, .s (.int .i64 ext)] S (fun r S' => Ext S S' ∧ ∃ c', r = .v (.s c') ∧ Fr S.length S' [.sl 4 ((l.filter (stNot ext)).map GStored.d)] [c']) := by
  refine evA_intro tok Tryz.func333 (by kernel_rfl) rfl ?_
  skip
  refine loop_intro {p : Nat × Store × C // p.1 ≤ l.length ∧ Ext S p.2.1 ∧ Fr S.length p.2.1 [.sl 4 (((l.take p.1).filter (stNot ext)).map GStored.d)] [p.2.2]} [5, 6, 8, 9, 10, 11, 12, 13, 14, 15, 16, 17, 18, 19, 20, 21, 22, 23, 24, 25, 26, 27] (fun zb => [(6, .v (.s (.int .i64 zb.1.1))), (5, .v (.s zb.1.2.2))]) (fun zb => zb.1.2.1) (fun zb => l.length - zb.1.1) ⟨(0, _, _), Nat.zero_le _, Ext.push _ _, fr_lit0⟩ ?_ rfl ?_
  · (conv => whnf); repeat' (first | exact trivial | exact rfl | apply And.intro)
  rintro ⟨⟨i, Si, ci⟩, hi, hE, hF⟩; dsimp only
  replace hi : i ≤ l.length := hi
  replace hE : Ext S Si := hE
  replace hF : Fr S.length Si [.sl 4 (((l.take i).filter (stNot ext)).map GStored.d)] [ci] := hF
  have hfl := filter_len (stNot ext) l i
  repeat' ((conv => whnf) <;> first
   | rw [wrapI_i64 (by omega)] | refine cD (fun _ => ?_) fun _ => ?_ | refine cE (fun _ => ?_) fun _ => ?_ | refine rE fun hml => ?_ | refine rI rdA rf ix ?_ | refine rd_loadf rdA tv ix ?_ | (refine fr_app1 (f := GStored.d) aN aN tv (by rfl) rf (by dsimp only [T124]; omega) om ?_; intro cN SN hEN hFN) | refine And.intro ?_ ?_)
  all_goals first
    | exact hE
    | (rw [List.take_of_length_le (by omega)] at hF; exact ⟨_, rfl, hF⟩)
    | (refine ⟨⟨(i + 1, _, _), by dsimp only; omega, by assumption, by first | (rw [filter_t (by omega) (by simp_all [stNot])]; assumption) | (rw [filter_f (by omega) (by simp_all [stNot])]; assumption)⟩, ?_, rfl, by dsimp only; omega⟩; (conv => whnf); repeat' (first | exact trivial | exact rfl | apply And.intro))
theorem ev_iDropStored (l : List GStored) (ext : Int) (c : C) (S : Store) (h : Rd S [.sl 4 (l.map GStored.d)] [c]) (hz : l.length ≤ 4194304) : EvA Tryz.prog 87 [.s c, .s (.int .i64 ext)] S (fun r S' => Ext S S' ∧ ∃ c', r = .v (.s c') ∧ Fr S.length S' [.sl 4 ((l.filter (stNot ext)).map GStored.d)] [c']) := by
  refine evA_intro tok Tryz.func87 (by kernel_rfl) rfl ?_
  repeat' ((conv => whnf) <;> first
   | refine rE fun hml => ?_)
  refine loop_intro {p : Nat × Store × C // p.1 ≤ l.length ∧ Ext S p.2.1 ∧ Fr S.length p.2.1 [.sl 4 (((l.take p.1).filter (stNot ext)).map GStored.d)] [p.2.2]} [5, 7, 11, 12, 13, 14, 15, 16, 17, 18, 19, 20, 21, 22, 23] (fun zb => [(11, .v (.s (.int .i64 zb.1.1))), (5, .v (.s zb.1.2.2))]) (fun zb => zb.1.2.1) (fun zb => l.length - zb.1.1) ⟨(0, _, _), Nat.zero_le _, Ext.push _ _, fr_lit0⟩ ?_ rfl ?_
  · (conv => whnf); repeat' (first | exact trivial | exact rfl | apply And.intro)
  rintro ⟨⟨i, Si, ci⟩, hi, hE, hF⟩; dsimp only
  replace hi : i ≤ l.length := hi
  replace hE : Ext S Si := hE
  replace hF : Fr S.length Si [.sl 4 (((l.take i).filter (stNot ext)).map GStored.d)] [ci] := hF
  have hfl := filter_len (stNot ext) l i
  repeat' ((conv => whnf) <;> first
   | rw [wrapI_i64 (by omega)] | refine cD (fun _ => ?_) fun _ => ?_ | refine cE (fun _ => ?_) fun _ => ?_ | refine rI rdA rf ix ?_ | refine rd_loadf rdA tv ix ?_ | (refine fr_app1 (f := GStored.d) aN aN tv (by rfl) rf (by dsimp only [T124]; omega) om ?_; intro cN SN hEN hFN) | refine And.intro ?_ ?_)
  all_goals first
    | exact hE
    | (rw [List.take_of_length_le (by omega)] at hF; exact ⟨_, rfl, hF⟩)
    | (refine ⟨⟨(i + 1, _, _), by dsimp only; omega, by assumption, by first | (rw [filter_t (by omega) (by simp_all [stNot])]; assumption) | (rw [filter_f (by omega) (by simp_all [stNot])]; assumption)⟩, ?_, rfl, by dsimp only; omega⟩; (conv => whnf); repeat' (first | exact trivial | exact rfl | apply And.intro))
def stOf (ext : Int) (x : GStored) : Bool := decide (x.Ext = ext)
end
section
open Go Go.ChangeShapes Go.WideShapes Go.ChangeAt Go.RowKit
def packGo (ext : Int) : List GPackage → Nat → Int
  | [], _ => -1
  | p :: r, i => if p.Ext = ext then i else packGo ext r (i + 1)
def packOf (b : GBrowser) (ext : Int) : Int := packGo ext b.Packs 0
theorem packGo_lt (ext : Int) : ∀ (l : List GPackage) (i : Nat), -1 ≤ packGo ext l i ∧ packGo ext l i < i + l.length
  | [], i => by simp only [packGo, List.length_nil]; omega
  | p :: r, i => by
    have := packGo_lt ext r (i + 1)
    simp only [packGo, List.length_cons]
    split <;> omega
theorem packOf_lt (b : GBrowser) (ext : Int) : -1 ≤ packOf b ext ∧ packOf b ext < b.Packs.length := by
  have := packGo_lt ext b.Packs 0
  unfold packOf; omega
theorem ev_sPackOf (b : GBrowser) (ext : Int) (cs : List C) (S : Store) (h : Rd S b.d cs) : EvA Tryz.prog 189 [.agg cs, .s (.int .i64 ext)] S (fun r S' => r = .v (.s (.int .i64 (packOf b ext))) ∧ S' = S) := by
  obtain ⟨_, _, _, _, _, _, rfl, _, _, _, _, _, _⟩ := GBrowser.inv h
  refine evA_intro tok Tryz.func189 (by kernel_rfl) rfl ?_
  skip
  refine loop_intro {i : Nat // i ≤ b.Packs.length ∧ packGo ext (b.Packs.drop i) i = packOf b ext} [4, 5, 6, 7, 8, 9, 10, 11, 12, 13, 14, 15, 16, 17, 18, 19, 20, 21] (fun zb => [(5, .v (.s (.int .i64 zb.1)))]) (fun _ => S) (fun zb => b.Packs.length - zb.1) ⟨0, Nat.zero_le _, rfl⟩ ?_ rfl ?_
  · (conv => whnf); repeat' (first | exact trivial | exact rfl | apply And.intro)
  rintro ⟨i, hi, hinv⟩; dsimp only
  repeat' ((conv => whnf) <;> first
   | rw [wrapI_i64 (by omega)] | refine cD (fun _ => ?_) fun _ => ?_ | refine rE fun hml => ?_ | refine rI aN rf ix ?_ | (refine rd_loadm (f := GPackage.d) aN ix ?_; intro _ hcs; obtain ⟨_, _, _, _, rfl, _, _, _, _⟩ := GPackage.inv hcs) | refine And.intro ?_ ?_)
  all_goals first
    | rfl
    | (rw [drop_at (by omega), packGo] at hinv; rw [if_pos (by assumption)] at hinv; rw [← hinv]; rfl)
    | (rw [drop_end (by omega), packGo] at hinv; rw [← hinv]; rfl)
    | (refine ⟨⟨i + 1, by omega, by rw [drop_at (by omega), packGo] at hinv; rw [if_neg (by assumption)] at hinv; exact hinv⟩, ?_, rfl, by simp; omega⟩; (conv => whnf); repeat' (first | exact trivial | exact rfl | apply And.intro))
theorem ev_iPackOf (b : GBrowser) (ext : Int) (cs : List C) (S : Store) (h : Rd S b.d cs) : EvA Tryz.prog 18 [.agg cs, .s (.int .i64 ext)] S (fun r S' => r = .v (.s (.int .i64 (packOf b ext))) ∧ S' = S) := by
  obtain ⟨_, _, _, _, _, _, rfl, _, _, _, _, _, _⟩ := GBrowser.inv h
  refine evA_intro tok Tryz.func18 (by kernel_rfl) rfl ?_
  repeat' ((conv => whnf) <;> first
   | refine rE fun hml => ?_)
  refine loop_intro {i : Nat // i ≤ b.Packs.length ∧ packGo ext (b.Packs.drop i) i = packOf b ext} [4, 5, 6, 10, 11, 12, 13, 14, 15, 16, 17, 18, 19, 20] (fun zb => [(10, .v (.s (.int .i64 zb.1)))]) (fun _ => S) (fun zb => b.Packs.length - zb.1) ⟨0, Nat.zero_le _, rfl⟩ ?_ rfl ?_
  · (conv => whnf); repeat' (first | exact trivial | exact rfl | apply And.intro)
  rintro ⟨i, hi, hinv⟩; dsimp only
  repeat' ((conv => whnf) <;> first
   | rw [wrapI_i64 (by omega)] | refine cD (fun _ => ?_) fun _ => ?_ | refine rI aN rf ix ?_ | (refine rd_loadm (f := GPackage.d) aN ix ?_; intro _ hcs; obtain ⟨_, _, _, _, rfl, _, _, _, _⟩ := GPackage.inv hcs) | refine And.intro ?_ ?_)
  all_goals first
    | rfl
    | (rw [drop_at (by omega), packGo] at hinv; rw [if_pos (by assumption)] at hinv; rw [← hinv]; rfl)
    | (rw [drop_end (by omega), packGo] at hinv; rw [← hinv]; rfl)
    | (refine ⟨⟨i + 1, by omega, by rw [drop_at (by omega), packGo] at hinv; rw [if_neg (by assumption)] at hinv; exact hinv⟩, ?_, rfl, by simp; omega⟩; (conv => whnf); repeat' (first | exact trivial | exact rfl | apply And.intro))
def isClicked (t : GTab) (tick : Int) : Bool := inR t.Click 0 10000 && inR tick t.Click (t.Click + 2)
theorem ev_sIsClicked (t : GTab) (tick : Int) (cs : List C) (S : Store) (h : Rd S t.d cs) : EvA Tryz.prog 297 [.agg cs, .s (.int .i64 tick)] S (fun r S' => r = .v (.s (.bool (isClicked t tick))) ∧ S' = S) := by
  obtain ⟨_, _, _, rfl, _, _, _⟩ := GTab.inv h
  refine evA_intro tok Tryz.func297 (by kernel_rfl) rfl ?_
  repeat' ((conv => whnf) <;> first
   | rw [wrapI_i64 (by omega)] | refine condP_inR (fun _ _ => ?_) (fun _ _ => ?_) | refine callP_eq (ev_l1In _ _ _ _) ?_ | refine And.intro ?_ ?_)
  all_goals first | rfl | (simp_all [resAV, isClicked]; done)
def tabNo (b : GBrowser) (tab : Int) : Option GTab := if 0 ≤ tab then b.Tabs[tab.toNat]? else none
theorem tabNo_in {b : GBrowser} {tab : Int} (h : 0 ≤ tab ∧ tab.toNat < b.Tabs.length) : tabNo b tab = some (b.Tabs[tab.toNat]'h.2) := by
  unfold tabNo; rw [if_pos h.1, List.getElem?_eq_getElem h.2]
theorem tabNo_out {b : GBrowser} {tab : Int} (h : ¬ (0 ≤ tab ∧ tab.toNat < b.Tabs.length)) : tabNo b tab = none := by
  unfold tabNo
  split
  · rw [List.getElem?_eq_none (by omega)]
  · rfl
def mayAct (b : GBrowser) (ext tab kind : Int) : Bool := decide (0 ≤ packOf b ext) && (match tabNo b tab with
  | some t => mayDo b.Grants b.Limits ext t.Site kind b.Now (isClicked t b.Now)
  | none => false)
theorem ev_sMayAct (b : GBrowser) (ext tab kind : Int) (cs : List C) (S : Store) (h : Rd S b.d cs) : EvA Tryz.prog 234 [.agg cs, .s (.int .i64 ext), .s (.int .i64 tab), .s (.int .i64 kind)] S (fun r S' => r = .v (.s (.bool (mayAct b ext tab kind))) ∧ S' = S) := by
  obtain ⟨_, _, _, _, _, _, rfl, _, _, _, _, _, _⟩ := GBrowser.inv h
  refine evA_intro tok Tryz.func234 (by kernel_rfl) rfl ?_
  repeat' ((conv => whnf) <;> first
   | rw [wrapI_i64 (by omega)] | refine cD (fun _ => ?_) fun _ => ?_ | refine cT ?_ | refine condP_ninR (fun _ _ => ?_) (fun _ _ => ?_) | (refine callP_eq (ev_sPackOf _ _ _ _ rdcB) ?_) | refine callP_eq (ev_l1In _ _ _ _) ?_ | refine callP_eq (ev_sMayDo _ _ _ _ _ _ _ _ _ _ aN aN) ?_ | (refine callP_eq (ev_sIsClicked _ _ _ _ rdcB) ?_) | refine rE fun hml => ?_ | refine rI aN rf ix ?_ | (refine rd_loadm (f := GTab.d) aN ix ?_; intro _ hcs; obtain ⟨_, _, _, rfl, _, _, _⟩ := GTab.inv hcs) | refine draw_intro 28 [.fl 0, .fl 1, .fl 2, .fl 3, .fl 4, .fl 5, .fl 6, .fl 7, .fl 8, .fl 9, .fl 10, .fl 11, .fl 12, .st 13 [0, 1, 2, 3, 4, 5, 6, 7, 8, 9], .st 14 [], .st 15 []] (by rfl) (by kernel_rfl) ?_ | refine And.intro ?_ ?_)
  all_goals first
    | rfl
    | (rw [show mayAct b ext tab kind = false from by unfold mayAct; rw [decide_eq_false (by omega), Bool.false_and]]; rfl)
    | (have ht := tabNo_out (b := b) (tab := tab) (by omega)
       simp only [mayAct, ht, Bool.and_false]; rfl)
    | (have ht := tabNo_in (b := b) (tab := tab) (by omega)
       simp only [mayAct, ht]; rw [decide_eq_true (by omega), Bool.true_and]; rfl)
def rulesLeft (b : GBrowser) : Int := maxI 0 (20 - b.Rules.length)
theorem maxI_def (x y : Int) : maxI x y = if y > x then y else x := by unfold maxI; rfl
theorem ev_iRulesLeft (b : GBrowser) (cs : List C) (S : Store) (h : Rd S b.d cs) : EvA Tryz.prog 27 [.agg cs] S (fun r S' => r = .v (.s (.int .i64 (rulesLeft b))) ∧ S' = S) := by
  obtain ⟨_, _, _, _, _, _, rfl, _, _, _, _, _, _⟩ := GBrowser.inv h
  refine evA_intro tok Tryz.func27 (by kernel_rfl) rfl ?_
  repeat' ((conv => whnf) <;> first
   | rw [wrapI_i64 (by omega)] | refine rE fun hml => ?_ | refine And.intro ?_ ?_)
  all_goals rfl
theorem flen {α : Type} (P : α → Bool) : ∀ l : List α, (l.filter P).length + (l.filter fun x => !P x).length = l.length
  | [] => rfl
  | x :: l => by
    have := flen P l
    simp only [List.filter_cons]
    cases P x <;> simp <;> omega
def storedBy (b : GBrowser) (ext : Int) : Int := (b.Store.filter (stOf ext)).length
theorem stNot_eq (ext : Int) : stNot ext = fun x => !stOf ext x := rfl
theorem ev_iStoredBy (b : GBrowser) (ext : Int) (cs : List C) (S : Store) (h : Rd S b.d cs) (hz : szL b.d ≤ 1048576) : EvA Tryz.prog 26 [.agg cs, .s (.int .i64 ext)] S (fun r S' => r = .v (.s (.int .i64 (storedBy b ext))) ∧ S' = S) := by
  have hzs := hz
  simp only [GBrowser.d, szL, List.length_map] at hzs
  obtain ⟨_, _, _, _, _, _, rfl, _, _, _, _, _, _⟩ := GBrowser.inv h
  refine EvA.drop rfl ?_
  refine evA_intro tok Tryz.func26 (by kernel_rfl) rfl ?_
  repeat' ((conv => whnf) <;> first
   | rw [wrapI_i64 (by omega)] | (refine callP_intro (ev_iDropStored _ _ _ _ rdA om) ?_; rintro _ Sn ⟨hEn, cn, rfl, hFn⟩) | refine rE fun hml => ?_ | refine draw_intro 5 [.fl 0, .fl 1, .fl 2, .fl 3, .fl 4, .fl 5, .st 6 [0, 1, 2], .fl 7, .fl 8, .st 9 []] (by rfl) (by kernel_rfl) ?_ | refine And.intro ?_ ?_)
  all_goals first
    | rfl
    | (have := flen (stOf ext) b.Store; rw [← stNot_eq] at this
       simp only [resAV, storedBy]; congr 3; omega)
    | exact Ext.refl _
    | assumption
theorem edNot_eq (by' : Int) : edBy by' false = edNot by' := by funext x; simp only [edBy, edNot]; cases decide (x.By = by') <;> rfl
theorem ev_iWithoutBy (l : List GEdit) (by' : Int) (c : C) (S : Store) (h : Rd S [.sl 6 (l.map GEdit.d)] [c]) (hz : l.length ≤ 4194304) : EvA Tryz.prog 82 [.s c, .s (.int .i64 by')] S (fun r S' => Ext S S' ∧ ∃ c', r = .v (.s c') ∧ Fr S.length S' [.sl 6 ((l.filter (edNot by')).map GEdit.d)] [c']) := by
  rw [← edNot_eq]
  refine evA_intro tok Tryz.func82 (by kernel_rfl) rfl ?_
  repeat' ((conv => whnf) <;> first
   | (refine callP_intro (ev_editsOf _ _ _ _ _ rdA om) ?_; rintro _ Sn ⟨hEn, cn, rfl, hFn⟩) | refine And.intro ?_ ?_)
  all_goals first | assumption | exact ⟨_, rfl, by assumption⟩
def editShare (b : GBrowser) (tab : Int) : Int × Int := match tabNo b tab with
  | some t => (((t.Edits.filter (edNot 0)).length : Int), (t.Edits.length : Int))
  | none => (0, 0)
theorem ev_iEditShare (b : GBrowser) (tab : Int) (cs : List C) (S : Store) (h : Rd S b.d cs) (hz : szL b.d ≤ 1048576) : EvA Tryz.prog 20 [.agg cs, .s (.int .i64 tab)] S (fun r S' => r = .tup [.s (.int .i64 (editShare b tab).1), .s (.int .i64 (editShare b tab).2)] ∧ S' = S) := by
  have hzs := hz
  simp only [GBrowser.d, szL, List.length_map] at hzs
  obtain ⟨_, _, _, _, _, _, rfl, _, _, _, _, _, _⟩ := GBrowser.inv h
  have hzt : ∀ (i : Nat) (hi : i < b.Tabs.length), (b.Tabs[i]).Edits.length ≤ 4194304 := fun i hi => by
    have h1 := szLL_mem (f := GTab.d) (List.getElem_mem hi)
    simp only [GTab.d, szL, List.length_map] at h1
    omega
  by_cases ht : 0 ≤ tab ∧ tab.toNat < b.Tabs.length
  · have hzq := hzt _ ht.2
    have he : editShare b tab = ((((b.Tabs[tab.toNat]'ht.2).Edits.filter (edNot 0)).length : Int), ((b.Tabs[tab.toNat]'ht.2).Edits.length : Int)) := by unfold editShare; rw [tabNo_in ht]
    rw [he]
    refine EvA.drop rfl ?_
    refine evA_intro tok Tryz.func20 (by kernel_rfl) rfl ?_
    repeat' ((conv => whnf) <;> first
     | refine cD (fun _ => ?_) fun _ => ?_ | refine cT ?_ | (refine callP_intro (ev_iWithoutBy _ _ _ _ rdA om) ?_; rintro _ Sn ⟨hEn, cn, rfl, hFn⟩) | refine rE fun hml => ?_ | refine rI rdA rf ix ?_ | (refine rd_loadm (f := GTab.d) rdA ix ?_; intro _ hcs; obtain ⟨_, _, _, rfl, _, _, _⟩ := GTab.inv hcs) | refine And.intro ?_ ?_)
    all_goals first | rfl | exact Ext.refl _ | assumption | (exfalso; omega)
  · have he : editShare b tab = (0, 0) := by unfold editShare; rw [tabNo_out ht]
    rw [he]
    refine EvA.drop rfl ?_
    refine evA_intro tok Tryz.func20 (by kernel_rfl) rfl ?_
    repeat' ((conv => whnf) <;> first
     | refine cD (fun _ => ?_) fun _ => ?_ | refine cT ?_ | (refine callP_intro (ev_iWithoutBy _ _ _ _ rdA om) ?_; rintro _ Sn ⟨hEn, cn, rfl, hFn⟩) | refine rE fun hml => ?_ | refine rI rdA rf ix ?_ | (refine rd_loadm (f := GTab.d) rdA ix ?_; intro _ hcs; obtain ⟨_, _, _, rfl, _, _, _⟩ := GTab.inv hcs) | refine And.intro ?_ ?_)
    all_goals first | rfl | exact Ext.refl _ | assumption | (exfalso; omega)
end
section
open Go Go.ChangeShapes Go.WideShapes Go.ChangeAt Go.RowKit
def packageOf (b : GBrowser) (ext : Int) : GPackage := if 0 ≤ packOf b ext then b.Packs.getD (packOf b ext).toNat default else default
theorem packageOf_in {b : GBrowser} {ext : Int} (h : 0 ≤ packOf b ext) (h2 : (packOf b ext).toNat < b.Packs.length) : packageOf b ext = b.Packs[(packOf b ext).toNat] := by
  unfold packageOf; rw [if_pos h, List.getD_eq_getElem?_getD, List.getElem?_eq_getElem h2]; rfl
theorem any_take {α : Type} (P : α → Bool) (l : List α) (j : Nat) (h : j < l.length) : (l.take (j + 1)).any P = ((l.take j).any P || P l[j]) := by
  rw [List.take_succ_eq_append_getElem h, List.any_append]; simp
end
section
open Go Go.ChangeShapes Go.WideShapes Go.ChangeAt Go.RowKit
def within1 (x : GGrant) (y : GGrant) : Bool := isGrant x && isGrant y && decide (x.Ext = y.Ext) && decide (x.Kind = y.Kind) && narrower x.Pattern y.Pattern && decide (y.From ≤ x.From) && decide (x.Until ≤ y.Until) && (x.Click || !y.Click)
theorem ev_l11Within (x : GGrant) (y : GGrant) (S : Store) : EvA Tryz.prog 369 [.agg x.c, .agg y.c] S (fun r S' => r = .v (.s (.bool (within1 x y))) ∧ S' = S) := by
  refine evA_intro tok Tryz.func369 (by kernel_rfl) rfl ?_
  repeat' ((conv => whnf) <;> first
   | refine cD (fun _ => ?_) fun _ => ?_ | refine cF ?_ | refine cI (fun _ => ?_) fun _ => ?_ | refine callP_eq (ev_sIsGrant _ _) ?_ | refine callP_eq (ev_sIsNarrower _ _ _) ?_ | refine And.intro ?_ ?_)
  all_goals first | rfl | (simp_all [resAV, within1]; done) | (simp_all [resAV, within1]; intros; omega)
def withinGrants (a b : List GGrant) : Bool := a.all fun x => b.any fun y => within1 x y
theorem ev_sIsWithin (a b : List GGrant) (c c' : C) (S : Store) (h : Rd S [.sl 7 (a.map GGrant.d)] [c]) (h' : Rd S [.sl 7 (b.map GGrant.d)] [c']) : EvA Tryz.prog 368 [.s c, .s c'] S (fun r S' => r = .v (.s (.bool (withinGrants a b))) ∧ S' = S) := by
  refine evA_intro tok Tryz.func368 (by kernel_rfl) rfl ?_
  skip
  refine loop_intro {i : Nat // i ≤ a.length ∧ withinGrants (a.drop i) b = withinGrants a b} [4, 5, 6, 7, 8, 9, 10, 11, 12, 13, 14, 15, 16, 17, 18, 19, 20, 21, 22, 23, 24, 25, 26, 27, 28, 29, 30, 31, 32, 33] (fun zb => [(5, .v (.s (.int .i64 zb.1)))]) (fun _ => S) (fun zb => a.length - zb.1) ⟨0, Nat.zero_le _, rfl⟩ ?_ rfl ?_
  · (conv => whnf); repeat' (first | exact trivial | exact rfl | apply And.intro)
  rintro ⟨i, hi, hinv⟩; dsimp only
  repeat' ((conv => whnf) <;> first
   | refine cD (fun _ => ?_) fun _ => ?_ | refine rE fun hml => ?_ | refine And.intro ?_ ?_)
  all_goals try first
    | rfl
    | (exfalso; omega)
    | (rw [drop_end (by omega)] at hinv; rw [← hinv]; rfl)
  have hi2 : i < a.length := by omega
  rw [drop_at hi2] at hinv
  simp only [withinGrants, List.all_cons] at hinv
  refine loop_intro {p : Nat × Bool // p.1 ≤ b.length ∧ p.2 = (b.take p.1).any fun y => within1 (a[((i : Nat) : Int).toNat]'hi2) y} [6, 7, 14, 15, 16, 17, 18, 19, 20, 21, 22, 23, 24, 25, 26, 27, 28, 29, 30, 31] (fun zb => [(7, .v (.s (.int .i64 zb.1.1))), (6, .v (.s (.bool zb.1.2)))]) (fun _ => S) (fun zb => b.length - zb.1.1) ⟨(0, false), Nat.zero_le _, by simp⟩ ?_ rfl ?_
  · (conv => whnf); repeat' (first | exact trivial | exact rfl | apply And.intro)
  rintro ⟨⟨j, sj⟩, hj, hjnv⟩; dsimp only
  replace hj : j ≤ b.length := hj; dsimp only at hjnv
  repeat' ((conv => whnf) <;> first
   | rw [wrapI_i64 (by omega)] | refine cD (fun _ => ?_) fun _ => ?_ | refine cN (fun _ => ?_) fun _ => ?_ | refine cI (fun _ => ?_) fun _ => ?_ | refine callP_eq (ev_l11Within _ _ _) ?_ | refine rE fun hml => ?_ | refine rI aN rf ix ?_ | refine rd_loadf aN tv ix ?_ | refine draw_intro 20 [.fl 0, .fl 1, .fl 2, .fl 3, .fl 4, .fl 5, .fl 6, .fl 7, .fl 8, .fl 9, .st 10 [], .fl 11, .st 12 []] (by rfl) (by kernel_rfl) ?_ | refine And.intro ?_ ?_)
  all_goals first
    | rfl
    | (exfalso; omega)
    | (refine ⟨⟨(j + 1, true), by dsimp only; omega, ?_⟩, ?_, rfl, by dsimp only; omega⟩
       · dsimp only; rw [any_take _ _ _ (by omega), ← hjnv]; simp_all
       · (conv => whnf); repeat' (first | exact trivial | exact rfl | apply And.intro))
    | (refine ⟨⟨(j + 1, within1 (a[((i : Nat) : Int).toNat]'hi2) (b[j]'(by omega))), by dsimp only; omega, ?_⟩, ?_, rfl, by dsimp only; omega⟩
       · dsimp only; rw [any_take _ _ _ (by omega), ← hjnv]; simp_all
       · (conv => whnf); repeat' (first | exact trivial | exact rfl | apply And.intro))
    | (rw [List.take_of_length_le (by omega)] at hjnv
       simp only [Int.toNat_natCast] at hjnv
       have hs : sj = false := by assumption
       rw [← hjnv, hs, Bool.false_and] at hinv
       unfold withinGrants
       rw [← hinv] <;> rfl)
    | (rw [List.take_of_length_le (by omega)] at hjnv
       simp only [Int.toNat_natCast] at hjnv
       have hs : sj = true := by assumption
       rw [← hjnv, hs, Bool.true_and] at hinv
       (refine ⟨⟨i + 1, by omega, hinv⟩, ?_, rfl, by simp; omega⟩; (conv => whnf); repeat' (first | exact trivial | exact rfl | apply And.intro)))
def powGo (P : Int → Bool) : Nat → List Int
  | 0 => []
  | n + 1 => powGo P n ++ (if P ((n : Int) + 1) then [(n : Int) + 1] else [])
theorem powGo_len (P : Int → Bool) : ∀ n, (powGo P n).length ≤ n
  | 0 => Nat.le_refl _
  | n + 1 => by
    have := powGo_len P n
    rw [powGo, List.length_append]
    split <;> simp <;> omega
theorem powGo_t {P : Int → Bool} {n : Nat} (h : P ((n : Int) + 1) = true) : powGo P (n + 1) = powGo P n ++ [(n : Int) + 1] := by rw [powGo, if_pos h]
theorem powGo_f {P : Int → Bool} {n : Nat} (h : P ((n : Int) + 1) = false) : powGo P (n + 1) = powGo P n := by rw [powGo, if_neg (by simp [h]), List.append_nil]
def powersOf (b : GBrowser) (ext : Int) (s : GSite) : List Int := powGo (fun k => mayDo b.Grants b.Limits ext s k b.Now false) 4
theorem ev_iPowersOf (b : GBrowser) (ext : Int) (s : GSite) (cs : List C) (S : Store) (h : Rd S b.d cs) : EvA Tryz.prog 23 [.agg cs, .s (.int .i64 ext), .agg s.c] S (fun r S' => Ext S S' ∧ ∃ c', r = .v (.s c') ∧ Fr S.length S' [.sl 1 ((powersOf b ext s).map dInt)] [c']) := by
  obtain ⟨_, _, _, _, _, _, rfl, _, _, _, _, _, _⟩ := GBrowser.inv h
  refine evA_intro tok Tryz.func23 (by kernel_rfl) rfl ?_
  skip
  refine loop_intro {p : Nat × Store × C // p.1 ≤ 4 ∧ Ext S p.2.1 ∧ Fr S.length p.2.1 [.sl 1 ((powGo (fun k => mayDo b.Grants b.Limits ext s k b.Now false) p.1).map dInt)] [p.2.2]} [7, 8, 10, 11, 12, 13, 14, 15, 16, 17, 18, 19, 20, 21, 22, 23, 24, 25, 26, 27] (fun zb => [(8, .v (.s (.int .i64 ((zb.1.1 : Int) + 1)))), (7, .v (.s zb.1.2.2))]) (fun zb => zb.1.2.1) (fun zb => 4 - zb.1.1) ⟨(0, _, _), Nat.zero_le _, Ext.push _ _, fr_lit0⟩ ?_ rfl ?_
  · (conv => whnf); repeat' (first | exact trivial | exact rfl | apply And.intro)
  rintro ⟨⟨i, Si, ci⟩, hi, hE, hF⟩; dsimp only
  replace hi : i ≤ 4 := hi
  replace hE : Ext S Si := hE
  replace hF : Fr S.length Si [.sl 1 ((powGo (fun k => mayDo b.Grants b.Limits ext s k b.Now false) i).map dInt)] [ci] := hF
  have hfl := powGo_len (fun k => mayDo b.Grants b.Limits ext s k b.Now false) i
  repeat' ((conv => whnf) <;> first
   | rw [wrapI_i64 (by omega)] | refine cD (fun _ => ?_) fun _ => ?_ | refine cI (fun _ => ?_) fun _ => ?_ | refine callP_eq (ev_iMayDo _ _ _ _ _ _ _ _ _ _ rdA rdA) ?_ | (refine fr_app1 (f := dInt) aN aN tv (by rfl) rf (by dsimp only [T3]; omega) om ?_; intro cN SN hEN hFN) | refine And.intro ?_ ?_)
  all_goals first
    | exact hE
    | (rw [show i = 4 from by omega] at hF; exact ⟨_, rfl, hF⟩)
    | (refine ⟨⟨(i + 1, _, _), by dsimp only; omega, by assumption, by rw [powGo_t (by assumption)]; assumption⟩, ?_, rfl, by dsimp only; omega⟩; (conv => whnf); repeat' (first | exact trivial | exact rfl | (show _ = _; congr 3; dsimp only; omega) | apply And.intro))
    | (refine ⟨⟨(i + 1, _, _), by dsimp only; omega, by assumption, by rw [powGo_f (by assumption)]; assumption⟩, ?_, rfl, by dsimp only; omega⟩; (conv => whnf); repeat' (first | exact trivial | exact rfl | (show _ = _; congr 3; dsimp only; omega) | apply And.intro))
end
end Go.Proofs.YtlmmdpmmdmhacaaGreat
