/- Lists that are filtered. Marking: every plain cell of every element of a value's slices is overwritten, in order; rows other than the value's stay. -/
import Derived.Test.YtockphlpokoohaaGreatKe19
import Derived.Test.YtockphlpokoohaaGreatKe18
namespace Go.Proofs.YtockphlpokoohaaGreat
set_option linter.unusedVariables false
set_option linter.unusedSimpArgs false
set_option maxRecDepth 100000
section
open Go Go.ChangeShapes Go.WideShapes Go.ChangeAt Go.RowKit
def edBy (by' : Int) (is : Bool) (x : GEdit) : Bool := (decide (x.By = by') == is)
theorem ev_editsOf (l : List GEdit) (by' : Int) (is : Bool) (c : C) (S : Store) (h : Rd S [.sl 6 (l.map GEdit.d)] [c]) (hz : l.length ≤ 4194304) : EvA Tryz.prog 143 [.s c, .s (.int .i64 by'), .s (.bool is)] S (fun r S' => Ext S S' ∧ ∃ c', r = .v (.s c') ∧ Fr S.length S' [.sl 6 ((l.filter (edBy by' is)).map GEdit.d)] [c']) := by
  refine evA_intro tok Tryz.func143 (by kernel_rfl) rfl ?_
  repeat' ((conv => whnf) <;> first
   | refine rE fun hml => ?_)
  refine loop_intro {p : Nat × Store × C // p.1 ≤ l.length ∧ Ext S p.2.1 ∧ Fr S.length p.2.1 [.sl 6 (((l.take p.1).filter (edBy by' is)).map GEdit.d)] [p.2.2]} [7, 9, 13, 14, 15, 16, 17, 18, 19, 20, 21, 22, 23, 24, 25, 26, 27] (fun zb => [(13, .v (.s (.int .i64 zb.1.1))), (7, .v (.s zb.1.2.2))]) (fun zb => zb.1.2.1) (fun zb => l.length - zb.1.1) ⟨(0, _, _), Nat.zero_le _, Ext.push _ _, fr_lit0⟩ ?_ rfl ?_
  · (conv => whnf); repeat' (first | exact trivial | exact rfl | apply And.intro)
  rintro ⟨⟨i, Si, ci⟩, hi, hE, hF⟩; dsimp only
  replace hi : i ≤ l.length := hi
  replace hE : Ext S Si := hE
  replace hF : Fr S.length Si [.sl 6 (((l.take i).filter (edBy by' is)).map GEdit.d)] [ci] := hF
  have hfl := filter_len (edBy by' is) l i
  repeat' ((conv => whnf) <;> first
   | rw [wrapI_i64 (by omega)] | refine cD (fun _ => ?_) fun _ => ?_ | refine rI rdA rf ix ?_ | refine rd_loadf rdA tv ix ?_ | (refine fr_app1 (f := GEdit.d) aN aN tv (by rfl) rf (by dsimp only [T76]; omega) om ?_; intro cN SN hEN hFN) | refine And.intro ?_ ?_)
  all_goals first
    | exact hE
    | (rw [List.take_of_length_le (by omega)] at hF; exact ⟨_, rfl, hF⟩)
    | (refine ⟨⟨(i + 1, _, _), by dsimp only; omega, by assumption, by first | (rw [filter_t (by omega) (by simp_all [edBy])]; assumption) | (rw [filter_f (by omega) (by simp_all [edBy])]; assumption)⟩, ?_, rfl, by dsimp only; omega⟩; (conv => whnf); repeat' (first | exact trivial | exact rfl | apply And.intro))
def edBy1 (by' : Int) (x : GEdit) : Bool := decide (x.By = by')
def edNot (by' : Int) (x : GEdit) : Bool := !decide (x.By = by')
def grOf (ext : Int) (x : GGrant) : Bool := decide (x.Ext = ext)
theorem ev_iGrantsOf (l : List GGrant) (ext : Int) (c : C) (S : Store) (h : Rd S [.sl 7 (l.map GGrant.d)] [c]) (hz : l.length ≤ 4194304) : EvA Tryz.prog 47 [.s c, .s (.int .i64 ext)] S (fun r S' => Ext S S' ∧ ∃ c', r = .v (.s c') ∧ Fr S.length S' [.sl 7 ((l.filter (grOf ext)).map GGrant.d)] [c']) := by
  refine evA_intro tok Tryz.func47 (by kernel_rfl) rfl ?_
  repeat' ((conv => whnf) <;> first
   | rw [wrapI_i64 (by omega)] | refine cD (fun _ => ?_) fun _ => ?_ | refine cE (fun _ => ?_) fun _ => ?_ | refine cT ?_ | refine cF ?_ | refine cN (fun _ => ?_) fun _ => ?_ | refine cI (fun _ => ?_) fun _ => ?_ | refine rE fun hml => ?_ | refine rI rdA rf ix ?_ | refine rd_loadf rdA tv ix ?_ | refine nP ?_ | refine And.intro ?_ ?_)
  refine loop_intro {p : Nat × Store × C // p.1 ≤ l.length ∧ Ext S p.2.1 ∧ Fr S.length p.2.1 [.sl 7 (((l.take p.1).filter (grOf ext)).map GGrant.d)] [p.2.2]} [5, 7, 11, 12, 13, 14, 15, 16, 17, 18, 19, 20, 21, 22, 23] (fun zb => [(11, .v (.s (.int .i64 zb.1.1))), (5, .v (.s zb.1.2.2))]) (fun zb => zb.1.2.1) (fun zb => l.length - zb.1.1) ⟨(0, _, _), Nat.zero_le _, Ext.push _ _, fr_lit0⟩ ?_ rfl ?_
  · (conv => whnf); repeat' (first | exact trivial | exact rfl | apply And.intro)
  rintro ⟨⟨i, Si, ci⟩, hi, hE, hF⟩; dsimp only
  replace hi : i ≤ l.length := hi
  replace hE : Ext S Si := hE
  replace hF : Fr S.length Si [.sl 7 (((l.take i).filter (grOf ext)).map GGrant.d)] [ci] := hF
  have hfl := filter_len (grOf ext) l i
  repeat' ((conv => whnf) <;> first
   | rw [wrapI_i64 (by omega)] | refine cD (fun _ => ?_) fun _ => ?_ | refine cE (fun _ => ?_) fun _ => ?_ | refine cT ?_ | refine cF ?_ | refine cN (fun _ => ?_) fun _ => ?_ | refine cI (fun _ => ?_) fun _ => ?_ | refine rE fun hml => ?_ | refine rI rdA rf ix ?_ | refine rd_loadf rdA tv ix ?_ | refine nP ?_ | (refine fr_app1 (f := GGrant.d) aN aN tv (by rfl) rf (by dsimp only [T170]; omega) om ?_; intro cN SN hEN hFN) | refine And.intro ?_ ?_)
  all_goals first
    | exact hE
    | (rw [List.take_of_length_le (by omega)] at hF; exact ⟨_, rfl, hF⟩)
    | (refine ⟨⟨(i + 1, _, _), by dsimp only; omega, by assumption, by first | (rw [filter_t (by omega) (by simp_all [grOf])]; assumption) | (rw [filter_f (by omega) (by simp_all [grOf])]; assumption)⟩, ?_, rfl, by dsimp only; omega⟩; (conv => whnf); repeat' (first | exact trivial | exact rfl | apply And.intro))
def ruOf (ext : Int) (x : GRule) : Bool := decide (x.Ext = ext)
theorem ev_sRulesOf (l : List GRule) (ext : Int) (c : C) (S : Store) (h : Rd S [.sl 8 (l.map GRule.d)] [c]) (hz : l.length ≤ 4194304) : EvA Tryz.prog 373 [.s c, .s (.int .i64 ext)] S (fun r S' => Ext S S' ∧ ∃ c', r = .v (.s c') ∧ Fr S.length S' [.sl 8 ((l.filter (ruOf ext)).map GRule.d)] [c']) := by
  refine evA_intro tok Tryz.func373 (by kernel_rfl) rfl ?_
  skip
  refine loop_intro {p : Nat × Store × C // p.1 ≤ l.length ∧ Ext S p.2.1 ∧ Fr S.length p.2.1 [.sl 8 (((l.take p.1).filter (ruOf ext)).map GRule.d)] [p.2.2]} [5, 6, 8, 9, 10, 11, 12, 13, 14, 15, 16, 17, 18, 19, 20, 21, 22, 23, 24, 25, 26, 27] (fun zb => [(6, .v (.s (.int .i64 zb.1.1))), (5, .v (.s zb.1.2.2))]) (fun zb => zb.1.2.1) (fun zb => l.length - zb.1.1) ⟨(0, _, _), Nat.zero_le _, Ext.push _ _, fr_lit0⟩ ?_ rfl ?_
  · (conv => whnf); repeat' (first | exact trivial | exact rfl | apply And.intro)
  rintro ⟨⟨i, Si, ci⟩, hi, hE, hF⟩; dsimp only
  replace hi : i ≤ l.length := hi
  replace hE : Ext S Si := hE
  replace hF : Fr S.length Si [.sl 8 (((l.take i).filter (ruOf ext)).map GRule.d)] [ci] := hF
  have hfl := filter_len (ruOf ext) l i
  repeat' ((conv => whnf) <;> first
   | rw [wrapI_i64 (by omega)] | refine cD (fun _ => ?_) fun _ => ?_ | refine rE fun hml => ?_ | refine rI rdA rf ix ?_ | refine rd_loadf rdA tv ix ?_ | (refine fr_app1 (f := GRule.d) aN aN tv (by rfl) rf (by dsimp only [T151]; omega) om ?_; intro cN SN hEN hFN) | refine And.intro ?_ ?_)
  all_goals first
    | exact hE
    | (rw [List.take_of_length_le (by omega)] at hF; exact ⟨_, rfl, hF⟩)
    | (refine ⟨⟨(i + 1, _, _), by dsimp only; omega, by assumption, by first | (rw [filter_t (by omega) (by simp_all [ruOf])]; assumption) | (rw [filter_f (by omega) (by simp_all [ruOf])]; assumption)⟩, ?_, rfl, by dsimp only; omega⟩; (conv => whnf); repeat' (first | exact trivial | exact rfl | apply And.intro))
theorem ev_iRulesOf (l : List GRule) (ext : Int) (c : C) (S : Store) (h : Rd S [.sl 8 (l.map GRule.d)] [c]) (hz : l.length ≤ 4194304) : EvA Tryz.prog 48 [.s c, .s (.int .i64 ext)] S (fun r S' => Ext S S' ∧ ∃ c', r = .v (.s c') ∧ Fr S.length S' [.sl 8 ((l.filter (ruOf ext)).map GRule.d)] [c']) := by
  refine evA_intro tok Tryz.func48 (by kernel_rfl) rfl ?_
  repeat' ((conv => whnf) <;> first
   | refine rE fun hml => ?_)
  refine loop_intro {p : Nat × Store × C // p.1 ≤ l.length ∧ Ext S p.2.1 ∧ Fr S.length p.2.1 [.sl 8 (((l.take p.1).filter (ruOf ext)).map GRule.d)] [p.2.2]} [5, 7, 11, 12, 13, 14, 15, 16, 17, 18, 19, 20, 21, 22, 23] (fun zb => [(11, .v (.s (.int .i64 zb.1.1))), (5, .v (.s zb.1.2.2))]) (fun zb => zb.1.2.1) (fun zb => l.length - zb.1.1) ⟨(0, _, _), Nat.zero_le _, Ext.push _ _, fr_lit0⟩ ?_ rfl ?_
  · (conv => whnf); repeat' (first | exact trivial | exact rfl | apply And.intro)
  rintro ⟨⟨i, Si, ci⟩, hi, hE, hF⟩; dsimp only
  replace hi : i ≤ l.length := hi
  replace hE : Ext S Si := hE
  replace hF : Fr S.length Si [.sl 8 (((l.take i).filter (ruOf ext)).map GRule.d)] [ci] := hF
  have hfl := filter_len (ruOf ext) l i
  repeat' ((conv => whnf) <;> first
   | rw [wrapI_i64 (by omega)] | refine cD (fun _ => ?_) fun _ => ?_ | refine rI rdA rf ix ?_ | refine rd_loadf rdA tv ix ?_ | (refine fr_app1 (f := GRule.d) aN aN tv (by rfl) rf (by dsimp only [T151]; omega) om ?_; intro cN SN hEN hFN) | refine And.intro ?_ ?_)
  all_goals first
    | exact hE
    | (rw [List.take_of_length_le (by omega)] at hF; exact ⟨_, rfl, hF⟩)
    | (refine ⟨⟨(i + 1, _, _), by dsimp only; omega, by assumption, by first | (rw [filter_t (by omega) (by simp_all [ruOf])]; assumption) | (rw [filter_f (by omega) (by simp_all [ruOf])]; assumption)⟩, ?_, rfl, by dsimp only; omega⟩; (conv => whnf); repeat' (first | exact trivial | exact rfl | apply And.intro))
def stNot (ext : Int) (x : GStored) : Bool := !decide (x.Ext = ext)
theorem ev_iDropStored (l : List GStored) (ext : Int) (c : C) (S : Store) (h : Rd S [.sl 4 (l.map GStored.d)] [c]) (hz : l.length ≤ 4194304) : EvA Tryz.prog 53 [.s c, .s (.int .i64 ext)] S (fun r S' => Ext S S' ∧ ∃ c', r = .v (.s c') ∧ Fr S.length S' [.sl 4 ((l.filter (stNot ext)).map GStored.d)] [c']) := by
  refine evA_intro tok Tryz.func53 (by kernel_rfl) rfl ?_
  repeat' ((conv => whnf) <;> first
   | refine rE fun hml => ?_)
  refine loop_intro {p : Nat × Store × C // p.1 ≤ l.length ∧ Ext S p.2.1 ∧ Fr S.length p.2.1 [.sl 4 (((l.take p.1).filter (stNot ext)).map GStored.d)] [p.2.2]} [5, 7, 11, 12, 13, 14, 15, 16, 17, 18, 19, 20, 21, 22, 23] (fun zb => [(11, .v (.s (.int .i64 zb.1.1))), (5, .v (.s zb.1.2.2))]) (fun zb => zb.1.2.1) (fun zb => l.length - zb.1.1) ⟨(0, _, _), Nat.zero_le _, Ext.push _ _, fr_lit0⟩ ?_ rfl ?_
  · (conv => whnf); repeat' (first | exact trivial | exact rfl | apply And.intro)
  rintro ⟨⟨i, Si, ci⟩, hi, hE, hF⟩; dsimp only
  replace hi : i ≤ l.length := hi
  replace hE : Ext S Si := hE
  replace hF : Fr S.length Si [.sl 4 (((l.take i).filter (stNot ext)).map GStored.d)] [ci] := hF
  have hfl := filter_len (stNot ext) l i
  repeat' ((conv => whnf) <;> first
   | rw [wrapI_i64 (by omega)] | refine cD (fun _ => ?_) fun _ => ?_ | refine cE (fun _ => ?_) fun _ => ?_ | refine rI rdA rf ix ?_ | refine rd_loadf rdA tv ix ?_ | (refine fr_app1 (f := GStored.d) aN aN tv (by rfl) rf (by dsimp only [T174]; omega) om ?_; intro cN SN hEN hFN) | refine And.intro ?_ ?_)
  all_goals first
    | exact hE
    | (rw [List.take_of_length_le (by omega)] at hF; exact ⟨_, rfl, hF⟩)
    | (refine ⟨⟨(i + 1, _, _), by dsimp only; omega, by assumption, by first | (rw [filter_t (by omega) (by simp_all [stNot])]; assumption) | (rw [filter_f (by omega) (by simp_all [stNot])]; assumption)⟩, ?_, rfl, by dsimp only; omega⟩; (conv => whnf); repeat' (first | exact trivial | exact rfl | apply And.intro))
end
section
open Go Go.ChangeShapes Go.WideShapes Go.ChangeAt Go.RowKit
def packGo (ext : Int) : List GPackage → Nat → Int
  | [], _ => -1
  | p :: r, i => if p.Ext = ext then i else packGo ext r (i + 1)
def packOf (b : GBrowser) (ext : Int) : Int := packGo ext b.Packs 0
theorem packGo_lt (ext : Int) : ∀ (l : List GPackage) (i : Nat), -1 ≤ packGo ext l i ∧ packGo ext l i < i + l.length
  | [], i => by simp only [packGo, List.length_nil]; omega
  | p :: r, i => by
    have := packGo_lt ext r (i + 1)
    simp only [packGo, List.length_cons]
    split <;> omega
theorem packOf_lt (b : GBrowser) (ext : Int) : -1 ≤ packOf b ext ∧ packOf b ext < b.Packs.length := by
  have := packGo_lt ext b.Packs 0
  unfold packOf; omega
theorem ev_sPackOf (b : GBrowser) (ext : Int) (cs : List C) (S : Store) (h : Rd S b.d cs) : EvA Tryz.prog 254 [.agg cs, .s (.int .i64 ext)] S (fun r S' => r = .v (.s (.int .i64 (packOf b ext))) ∧ S' = S) := by
  obtain ⟨_, _, _, _, _, _, rfl, _, _, _, _, _, _⟩ := GBrowser.inv h
  refine evA_intro tok Tryz.func254 (by kernel_rfl) rfl ?_
  skip
  refine loop_intro {i : Nat // i ≤ b.Packs.length ∧ packGo ext (b.Packs.drop i) i = packOf b ext} [4, 5, 6, 7, 8, 9, 10, 11, 12, 13, 14, 15, 16, 17, 18, 19, 20, 21] (fun zb => [(5, .v (.s (.int .i64 zb.1)))]) (fun _ => S) (fun zb => b.Packs.length - zb.1) ⟨0, Nat.zero_le _, rfl⟩ ?_ rfl ?_
  · (conv => whnf); repeat' (first | exact trivial | exact rfl | apply And.intro)
  rintro ⟨i, hi, hinv⟩; dsimp only
  repeat' ((conv => whnf) <;> first
   | rw [wrapI_i64 (by omega)] | refine cD (fun _ => ?_) fun _ => ?_ | refine rE fun hml => ?_ | refine rI aN rf ix ?_ | (refine rd_loadm (f := GPackage.d) aN ix ?_; intro _ hcs; obtain ⟨_, _, _, _, rfl, _, _, _, _⟩ := GPackage.inv hcs) | refine And.intro ?_ ?_)
  all_goals first
    | rfl
    | (rw [drop_at (by omega), packGo] at hinv; rw [if_pos (by assumption)] at hinv; rw [← hinv]; rfl)
    | (rw [drop_end (by omega), packGo] at hinv; rw [← hinv]; rfl)
    | (refine ⟨⟨i + 1, by omega, by rw [drop_at (by omega), packGo] at hinv; rw [if_neg (by assumption)] at hinv; exact hinv⟩, ?_, rfl, by simp; omega⟩; (conv => whnf); repeat' (first | exact trivial | exact rfl | apply And.intro))
theorem ev_iPackOf (b : GBrowser) (ext : Int) (cs : List C) (S : Store) (h : Rd S b.d cs) : EvA Tryz.prog 17 [.agg cs, .s (.int .i64 ext)] S (fun r S' => r = .v (.s (.int .i64 (packOf b ext))) ∧ S' = S) := by
  obtain ⟨_, _, _, _, _, _, rfl, _, _, _, _, _, _⟩ := GBrowser.inv h
  refine evA_intro tok Tryz.func17 (by kernel_rfl) rfl ?_
  repeat' ((conv => whnf) <;> first
   | refine rE fun hml => ?_)
  refine loop_intro {i : Nat // i ≤ b.Packs.length ∧ packGo ext (b.Packs.drop i) i = packOf b ext} [4, 5, 6, 10, 11, 12, 13, 14, 15, 16, 17, 18, 19, 20] (fun zb => [(10, .v (.s (.int .i64 zb.1)))]) (fun _ => S) (fun zb => b.Packs.length - zb.1) ⟨0, Nat.zero_le _, rfl⟩ ?_ rfl ?_
  · (conv => whnf); repeat' (first | exact trivial | exact rfl | apply And.intro)
  rintro ⟨i, hi, hinv⟩; dsimp only
  repeat' ((conv => whnf) <;> first
   | rw [wrapI_i64 (by omega)] | refine cD (fun _ => ?_) fun _ => ?_ | refine rI aN rf ix ?_ | (refine rd_loadm (f := GPackage.d) aN ix ?_; intro _ hcs; obtain ⟨_, _, _, _, rfl, _, _, _, _⟩ := GPackage.inv hcs) | refine And.intro ?_ ?_)
  all_goals first
    | rfl
    | (rw [drop_at (by omega), packGo] at hinv; rw [if_pos (by assumption)] at hinv; rw [← hinv]; rfl)
    | (rw [drop_end (by omega), packGo] at hinv; rw [← hinv]; rfl)
    | (refine ⟨⟨i + 1, by omega, by rw [drop_at (by omega), packGo] at hinv; rw [if_neg (by assumption)] at hinv; exact hinv⟩, ?_, rfl, by simp; omega⟩; (conv => whnf); repeat' (first | exact trivial | exact rfl | apply And.intro))
def isClicked (t : GTab) (tick : Int) : Bool := inR t.Click 0 10000 && inR tick t.Click (t.Click + 2)
theorem ev_sIsClicked (t : GTab) (tick : Int) (cs : List C) (S : Store) (h : Rd S t.d cs) : EvA Tryz.prog 337 [.agg cs, .s (.int .i64 tick)] S (fun r S' => r = .v (.s (.bool (isClicked t tick))) ∧ S' = S) := by
  obtain ⟨_, _, _, rfl, _, _, _⟩ := GTab.inv h
  refine evA_intro tok Tryz.func337 (by kernel_rfl) rfl ?_
  repeat' ((conv => whnf) <;> first
   | rw [wrapI_i64 (by omega)] | refine cD (fun _ => ?_) fun _ => ?_ | refine cE (fun _ => ?_) fun _ => ?_ | refine cT ?_ | refine cF ?_ | refine condP_inR (fun _ _ => ?_) (fun _ _ => ?_) | refine condP_ninR (fun _ _ => ?_) (fun _ _ => ?_) | refine cN (fun _ => ?_) fun _ => ?_ | refine cI (fun _ => ?_) fun _ => ?_ | refine callP_eq (ev_l1In _ _ _ _) ?_ | refine nP ?_ | refine And.intro ?_ ?_)
  all_goals first | rfl | (simp_all [resAV, isClicked]; done)
def tabNo (b : GBrowser) (tab : Int) : Option GTab := if 0 ≤ tab then b.Tabs[tab.toNat]? else none
theorem tabNo_in {b : GBrowser} {tab : Int} (h : 0 ≤ tab ∧ tab.toNat < b.Tabs.length) : tabNo b tab = some (b.Tabs[tab.toNat]'h.2) := by
  unfold tabNo; rw [if_pos h.1, List.getElem?_eq_getElem h.2]
theorem tabNo_out {b : GBrowser} {tab : Int} (h : ¬ (0 ≤ tab ∧ tab.toNat < b.Tabs.length)) : tabNo b tab = none := by
  unfold tabNo
  split
  · rw [List.getElem?_eq_none (by omega)]
  · rfl
def mayAct (b : GBrowser) (ext tab kind : Int) : Bool := decide (0 ≤ packOf b ext) && (match tabNo b tab with
  | some t => mayDo b.Grants b.Limits ext t.Site kind b.Now (isClicked t b.Now)
  | none => false)
theorem ev_sMayAct (b : GBrowser) (ext tab kind : Int) (cs : List C) (S : Store) (h : Rd S b.d cs) : EvA Tryz.prog 287 [.agg cs, .s (.int .i64 ext), .s (.int .i64 tab), .s (.int .i64 kind)] S (fun r S' => r = .v (.s (.bool (mayAct b ext tab kind))) ∧ S' = S) := by
  obtain ⟨_, _, _, _, _, _, rfl, _, _, _, _, _, _⟩ := GBrowser.inv h
  refine evA_intro tok Tryz.func287 (by kernel_rfl) rfl ?_
  repeat' ((conv => whnf) <;> first
   | rw [wrapI_i64 (by omega)] | refine cD (fun _ => ?_) fun _ => ?_ | refine cE (fun _ => ?_) fun _ => ?_ | refine cT ?_ | refine cF ?_ | refine condP_inR (fun _ _ => ?_) (fun _ _ => ?_) | refine condP_ninR (fun _ _ => ?_) (fun _ _ => ?_) | refine cN (fun _ => ?_) fun _ => ?_ | refine cI (fun _ => ?_) fun _ => ?_ | (refine callP_eq (ev_sPackOf _ _ _ _ rdcB) ?_) | refine callP_eq (ev_l1In _ _ _ _) ?_ | refine callP_eq (ev_sMayDo _ _ _ _ _ _ _ _ _ _ aN aN) ?_ | refine callP_eq (ev_sMayDo _ _ _ ⟨_, _⟩ _ _ _ _ _ _ aN aN) ?_ | (refine callP_eq (ev_sIsClicked _ _ _ _ rdcB) ?_) | refine rE fun hml => ?_ | refine rI aN rf ix ?_ | (refine rd_loadm (f := GTab.d) aN ix ?_; intro _ hcs; obtain ⟨_, _, _, rfl, _, _, _⟩ := GTab.inv hcs) | refine nP ?_ | refine draw_intro 28 [.fl 0, .fl 1, .fl 2, .fl 3, .fl 4, .fl 5, .fl 6, .fl 7, .fl 8, .fl 9, .fl 10, .fl 11, .fl 12, .st 13 [0, 1, 2, 3, 4, 5, 6, 7, 8, 9], .st 14 [], .st 15 []] (by rfl) (by kernel_rfl) ?_ | refine And.intro ?_ ?_)
  all_goals first
    | rfl
    | (rw [show mayAct b ext tab kind = false from by unfold mayAct; rw [decide_eq_false (by omega), Bool.false_and]]; rfl)
    | (have ht := tabNo_out (b := b) (tab := tab) (by omega)
       simp only [mayAct, ht, Bool.and_false]; rfl)
    | (have ht := tabNo_in (b := b) (tab := tab) (by omega)
       simp only [mayAct, ht]; rw [decide_eq_true (by omega), Bool.true_and]; rfl)
theorem edNot_eq (by' : Int) : edBy by' false = edNot by' := by funext x; simp only [edBy, edNot]; cases decide (x.By = by') <;> rfl
theorem edBy1_eq (by' : Int) : edBy by' true = edBy1 by' := by funext x; simp only [edBy, edBy1]; cases decide (x.By = by') <;> rfl
theorem ev_iWithoutBy (l : List GEdit) (by' : Int) (c : C) (S : Store) (h : Rd S [.sl 6 (l.map GEdit.d)] [c]) (hz : l.length ≤ 4194304) : EvA Tryz.prog 153 [.s c, .s (.int .i64 by')] S (fun r S' => Ext S S' ∧ ∃ c', r = .v (.s c') ∧ Fr S.length S' [.sl 6 ((l.filter (edNot by')).map GEdit.d)] [c']) := by
  rw [← edNot_eq]
  refine evA_intro tok Tryz.func153 (by kernel_rfl) rfl ?_
  repeat' ((conv => whnf) <;> first
   | (refine callP_intro (ev_editsOf _ _ _ _ _ rdA om) ?_; rintro _ Sn ⟨hEn, cn, rfl, hFn⟩) | refine And.intro ?_ ?_)
  all_goals first | assumption | exact ⟨_, rfl, by assumption⟩
theorem ev_iEditsBy (l : List GEdit) (by' : Int) (c : C) (S : Store) (h : Rd S [.sl 6 (l.map GEdit.d)] [c]) (hz : l.length ≤ 4194304) : EvA Tryz.prog 38 [.s c, .s (.int .i64 by')] S (fun r S' => Ext S S' ∧ ∃ c', r = .v (.s c') ∧ Fr S.length S' [.sl 6 ((l.filter (edBy1 by')).map GEdit.d)] [c']) := by
  rw [← edBy1_eq]
  refine evA_intro tok Tryz.func38 (by kernel_rfl) rfl ?_
  repeat' ((conv => whnf) <;> first
   | (refine callP_intro (ev_editsOf _ _ _ _ _ rdA om) ?_; rintro _ Sn ⟨hEn, cn, rfl, hFn⟩) | refine nP ?_ | refine And.intro ?_ ?_)
  all_goals first | assumption | exact ⟨_, rfl, by assumption⟩
end
section
open Go Go.ChangeShapes Go.WideShapes Go.ChangeAt Go.RowKit
theorem any_take {α : Type} (P : α → Bool) (l : List α) (j : Nat) (h : j < l.length) : (l.take (j + 1)).any P = ((l.take j).any P || P l[j]) := by
  rw [List.take_succ_eq_append_getElem h, List.any_append]; simp
end
section
open Go Go.ChangeShapes Go.WideShapes Go.ChangeAt Go.RowKit
def powGo (P : Int → Bool) : Nat → List Int
  | 0 => []
  | n + 1 => powGo P n ++ (if P ((n : Int) + 1) then [(n : Int) + 1] else [])
theorem powGo_len (P : Int → Bool) : ∀ n, (powGo P n).length ≤ n
  | 0 => Nat.le_refl _
  | n + 1 => by
    have := powGo_len P n
    rw [powGo, List.length_append]
    split <;> simp <;> omega
theorem powGo_t {P : Int → Bool} {n : Nat} (h : P ((n : Int) + 1) = true) : powGo P (n + 1) = powGo P n ++ [(n : Int) + 1] := by rw [powGo, if_pos h]
theorem powGo_f {P : Int → Bool} {n : Nat} (h : P ((n : Int) + 1) = false) : powGo P (n + 1) = powGo P n := by rw [powGo, if_neg (by simp [h]), List.append_nil]
end
end Go.Proofs.YtockphlpokoohaaGreat
namespace Go.Proofs.YtockphlpokoohaaGreat
open Go
set_option linter.unusedVariables false
set_option linter.unusedSimpArgs false
def Mk (ids : List Nat) (S S' : Store) : Prop := S'.length = S.length ∧ ∀ id, id ∉ ids → S'[id]? = S[id]?
theorem Mk.refl (ids : List Nat) (S : Store) : Mk ids S S := ⟨rfl, fun _ _ => rfl⟩
theorem Mk.trans {ids : List Nat} {S1 S2 S3 : Store} (h : Mk ids S1 S2) (g : Mk ids S2 S3) : Mk ids S1 S3 := ⟨g.1.trans h.1, fun id hi => (g.2 id hi).trans (h.2 id hi)⟩
theorem Mk.mono {i j : List Nat} {S S' : Store} (h : Mk i S S') (hs : ∀ id ∈ i, id ∈ j) : Mk j S S' := ⟨h.1, fun id hi => h.2 id fun g => hi (hs id g)⟩
mutual
def cntD : D → Nat
  | .x _ => 1
  | .sl _ xs => cntE xs
def cntL : List D → Nat
  | [] => 0
  | d :: ds => cntD d + cntL ds
def cntE : List (List D) → Nat
  | [] => 0
  | x :: xs => cntL x + cntE xs
end
def cntT : List D → Nat
  | [] => 0
  | .x c :: ds => cntT ds
  | .sl n xs :: ds => cntE xs + cntT ds
section
variable {q : Bool} {S S' S0 : Store}
theorem RepL.setAt : ∀ {e : List D} {cs : List C} {ids : List Nat}, RepL q S e cs ids → ∀ (off : Nat) d, e[off]? = some d → ∃ c' a m b, cs[off]? = some c' ∧ ids = a ++ m ++ b ∧ Rep q S d c' m ∧
    ∀ {S' : Store} {d' : D} {c'' : C} {m' : List Nat}, (∀ id ∈ a ++ b, S'[id]? = S[id]?) → Rep q S' d' c'' m' → RepL q S' (e.set off d') (cs.set off c'') (a ++ m' ++ b)
  | [], cs, ids, h, off, d, hx => by simp at hx
  | y :: e, cs, ids, h, off, d, hx => by
    rw [repL_cons] at h
    obtain ⟨c, cs', i, j, h1, h2, h3, h4⟩ := h
    subst h1; subst h2
    cases off with
    | zero =>
      simp at hx; subst hx
      refine ⟨c, [], i, j, rfl, by simp, h3, fun {S' d' c'' m'} hf hr => ?_⟩
      rw [List.set_cons_zero, List.set_cons_zero, repL_cons]
      exact ⟨c'', cs', m', j, rfl, by simp, hr, h4.frame (fun id hi => hf id (by simp [hi]))⟩
    | succ off =>
      obtain ⟨c1, a, m, b, k1, k2, k3, k4⟩ := h4.setAt off d (by simpa using hx)
      refine ⟨c1, i ++ a, m, b, by simpa using k1, by rw [k2]; simp, k3, fun {S' d' c'' m'} hf hr => ?_⟩
      rw [List.set_cons_succ, List.set_cons_succ, repL_cons]
      exact ⟨c, cs'.set off c'', i, a ++ m' ++ b, rfl, by simp, h3.frame (fun id hi => hf id (by simp [hi])), k4 (fun id hi => hf id (by
        rcases List.mem_append.1 hi with hi | hi <;> simp [hi])) hr⟩
end
section
variable {S S' S0 : Store}
def In (lo hi : Nat) (S : Store) (ds : List D) (cs : List C) : Prop := ∃ ids, RepL true S ds cs ids ∧ ids.Nodup ∧ ∀ id ∈ ids, lo ≤ id ∧ id < hi
def Out (lo hi : Nat) (S S' : Store) : Prop := S'.length = S.length ∧ ∀ id, (id < lo ∨ hi ≤ id) → S'[id]? = S[id]?
theorem Fr.inn {lo : Nat} {ds : List D} {cs : List C} (h : Fr lo S ds cs) : In lo S.length S ds cs := by
  obtain ⟨ids, h, h1, h2⟩ := h
  exact ⟨ids, h, h1, fun id hi => ⟨h2 id hi, h.lt id hi⟩⟩
theorem In.ext {lo hi : Nat} {ds : List D} {cs : List C} (h : In lo hi S ds cs) (e : Ext S S') : In lo hi S' ds cs := by
  obtain ⟨ids, h, h1, h2⟩ := h
  exact ⟨ids, h.frame fun id hi => e.at (h.lt id hi), h1, h2⟩
theorem In.rd {lo hi : Nat} {ds : List D} {cs : List C} (h : In lo hi S ds cs) : Rd S ds cs := by obtain ⟨ids, h, _⟩ := h; exact .of h
theorem In.out {lo hi a b : Nat} {ds : List D} {cs : List C} (h : In a b S ds cs) (o : Out lo hi S S') (hd : b ≤ lo ∨ hi ≤ a) : In a b S' ds cs := by
  obtain ⟨ids, h, h1, h2⟩ := h
  exact ⟨ids, h.frame fun id hi => o.2 id (by have := h2 id hi; omega), h1, h2⟩
theorem Rd.out {lo hi : Nat} {ds : List D} {cs : List C} {S1 : Store} (h : Rd S1 ds cs) (e : Ext S1 S) (o : Out lo hi S S') (hl : S1.length ≤ lo) : Rd S' ds cs := by
  obtain ⟨ids, h⟩ := h
  exact ⟨ids, h.frame fun id hi => by have := h.lt id hi; rw [o.2 id (by omega), e.at this]⟩
def Be (hi : Nat) (S : Store) (ds : List D) (cs : List C) : Prop := ∃ ids, RepL false S ds cs ids ∧ ∀ id ∈ ids, id < hi
theorem Be.rd {hi : Nat} {ds : List D} {cs : List C} (h : Be hi S ds cs) : Rd S ds cs := by obtain ⟨ids, h, _⟩ := h; exact ⟨ids, h⟩
theorem Be.ext {hi : Nat} {ds : List D} {cs : List C} (h : Be hi S ds cs) (e : Ext S S') : Be hi S' ds cs := by
  obtain ⟨ids, h, h2⟩ := h
  exact ⟨ids, h.frame fun id hi => e.at (h.lt id hi), h2⟩
theorem Be.out {lo hi b : Nat} {ds : List D} {cs : List C} (h : Be b S ds cs) (o : Out lo hi S S') (hd : b ≤ lo) : Be b S' ds cs := by
  obtain ⟨ids, h, h2⟩ := h
  exact ⟨ids, h.frame fun id hi => o.2 id (by have := h2 id hi; omega), h2⟩
theorem Out.len {lo hi : Nat} (o : Out lo hi S S') : S'.length = S.length := o.1
theorem Mk.out {lo hi : Nat} {ids : List Nat} (h : Mk ids S S') (hb : ∀ id ∈ ids, lo ≤ id ∧ id < hi) : Out lo hi S S' := ⟨h.1, fun id hi' => h.2 id fun g => by have := hb id g; omega⟩
theorem In.one {lo hi : Nat} {d : D} {c : C} (h : In lo hi S [d] [c]) : ∃ ids, Rep true S d c ids ∧ ids.Nodup ∧ ∀ id ∈ ids, lo ≤ id ∧ id < hi := by
  obtain ⟨ids, h, h1, h2⟩ := h
  rw [repL_cons] at h
  obtain ⟨c1, cs', i, j, g1, g2, g3, g4⟩ := h
  rw [repL_nil] at g4
  simp only [List.cons.injEq] at g1
  obtain ⟨g1, _⟩ := g1
  obtain ⟨_, g5⟩ := g4
  subst g1; subst g5
  rw [List.append_nil] at g2
  subst g2
  exact ⟨_, g3, h1, h2⟩
end
theorem GNode.cT (x : GNode) : cntT x.d = 0 := by
  simp only [GNode.d, Go.Proofs.YtockphlpokoohaaGreat.cntT]
def GNode.m (k : Int) : GNode := ⟨k, k + 1, k + 1 + 1, k + 1 + 1 + 1, k + 1 + 1 + 1 + 1⟩
theorem GEdit.cT (x : GEdit) : cntT x.d = 0 := by
  simp only [GEdit.d, Go.Proofs.YtockphlpokoohaaGreat.cntT]
def GEdit.m (k : Int) : GEdit := ⟨k, k + 1, k + 1 + 1, k + 1 + 1 + 1, k + 1 + 1 + 1 + 1, k + 1 + 1 + 1 + 1 + 1⟩
theorem GSite.cT (x : GSite) : cntT x.d = 0 := by
  simp only [GSite.d, Go.Proofs.YtockphlpokoohaaGreat.cntT]
def GSite.m (k : Int) : GSite := ⟨k, k + 1⟩
theorem GPattern.cT (x : GPattern) : cntT x.d = 0 := by
  simp only [GPattern.d, Go.Proofs.YtockphlpokoohaaGreat.cntT]
def GPattern.m (k : Int) : GPattern := ⟨k, k + 1⟩
theorem GGrant.cT (x : GGrant) : cntT x.d = 0 := by
  simp only [GGrant.d, Go.Proofs.YtockphlpokoohaaGreat.cntT]
def GGrant.m (k : Int) : GGrant := ⟨k, ⟨k + 1, k + 1 + 1⟩, k + 1 + 1 + 1, k + 1 + 1 + 1 + 1, k + 1 + 1 + 1 + 1 + 1, decide (Int.tmod (k + 1 + 1 + 1 + 1 + 1 + 1) 3 = 0)⟩
theorem GLimit.cT (x : GLimit) : cntT x.d = 0 := by
  simp only [GLimit.d, Go.Proofs.YtockphlpokoohaaGreat.cntT]
def GLimit.m (k : Int) : GLimit := ⟨k, ⟨k + 1, k + 1 + 1⟩, k + 1 + 1 + 1⟩
theorem GRule.cT (x : GRule) : cntT x.d = 0 := by
  simp only [GRule.d, Go.Proofs.YtockphlpokoohaaGreat.cntT]
def GRule.m (k : Int) : GRule := ⟨k, k + 1, ⟨k + 1 + 1, k + 1 + 1 + 1⟩, k + 1 + 1 + 1 + 1, k + 1 + 1 + 1 + 1 + 1, ⟨k + 1 + 1 + 1 + 1 + 1 + 1, k + 1 + 1 + 1 + 1 + 1 + 1 + 1⟩⟩
theorem GRequest.cT (x : GRequest) : cntT x.d = 0 := by
  simp only [GRequest.d, Go.Proofs.YtockphlpokoohaaGreat.cntT]
def GRequest.m (k : Int) : GRequest := ⟨⟨k, k + 1⟩, k + 1 + 1⟩
theorem GOutcome.cT (x : GOutcome) : cntT x.d = cntE (x.Path.map GSite.d) := by
  simp only [GOutcome.d, Go.Proofs.YtockphlpokoohaaGreat.cntT]; try omega
theorem GFlow.cT (x : GFlow) : cntT x.d = 0 := by
  simp only [GFlow.d, Go.Proofs.YtockphlpokoohaaGreat.cntT]
def GFlow.m (k : Int) : GFlow := ⟨k, k + 1, k + 1 + 1⟩
theorem GOp.cT (x : GOp) : cntT x.d = 0 := by
  simp only [GOp.d, Go.Proofs.YtockphlpokoohaaGreat.cntT]
def GOp.m (k : Int) : GOp := ⟨k, k + 1, k + 1 + 1, k + 1 + 1 + 1⟩
theorem GSent.cT (x : GSent) : cntT x.d = 0 := by
  simp only [GSent.d, Go.Proofs.YtockphlpokoohaaGreat.cntT]
def GSent.m (k : Int) : GSent := ⟨k, k + 1, k + 1 + 1⟩
theorem GLetter.cT (x : GLetter) : cntT x.d = 0 := by
  simp only [GLetter.d, Go.Proofs.YtockphlpokoohaaGreat.cntT]
def GLetter.m (k : Int) : GLetter := ⟨k, k + 1, k + 1 + 1, k + 1 + 1 + 1⟩
theorem GStored.cT (x : GStored) : cntT x.d = 0 := by
  simp only [GStored.d, Go.Proofs.YtockphlpokoohaaGreat.cntT]
def GStored.m (k : Int) : GStored := ⟨k, k + 1, k + 1 + 1, k + 1 + 1 + 1⟩
theorem GWindow.cT (x : GWindow) : cntT x.d = cntE (x.Base.map GStored.d) + cntE (x.Own.map GStored.d) := by
  simp only [GWindow.d, Go.Proofs.YtockphlpokoohaaGreat.cntT]; try omega
theorem GPackage.cT (x : GPackage) : cntT x.d = cntE (x.Grants.map GGrant.d) + cntE (x.Flows.map GFlow.d) + cntE (x.Rules.map GRule.d) + cntE (x.Ops.map GOp.d) := by
  simp only [GPackage.d, Go.Proofs.YtockphlpokoohaaGreat.cntT]; try omega
theorem GDeed.cT (x : GDeed) : cntT x.d = 0 := by
  simp only [GDeed.d, Go.Proofs.YtockphlpokoohaaGreat.cntT]
def GDeed.m (k : Int) : GDeed := ⟨k, k + 1, k + 1 + 1, k + 1 + 1 + 1, k + 1 + 1 + 1 + 1⟩
theorem GSnapshot.cT (x : GSnapshot) : cntT x.d = cntE (x.Package.Grants.map GGrant.d) + cntE (x.Package.Flows.map GFlow.d) + cntE (x.Package.Rules.map GRule.d) + cntE (x.Package.Ops.map GOp.d) + cntE (x.Entries.map GStored.d) := by
  simp only [GSnapshot.d, Go.Proofs.YtockphlpokoohaaGreat.cntT]; try omega
theorem GTab.cT (x : GTab) : cntT x.d = cntE (x.Base.map GNode.d) + cntE (x.Edits.map GEdit.d) + cntE (x.Hidden.map dInt) := by
  simp only [GTab.d, Go.Proofs.YtockphlpokoohaaGreat.cntT]; try omega
theorem GBrowser.cT (x : GBrowser) : cntT x.d = cntE (x.Tabs.map GTab.d) + cntE (x.Packs.map GPackage.d) + cntE (x.Grants.map GGrant.d) + cntE (x.Limits.map GLimit.d) + cntE (x.Rules.map GRule.d) + cntE (x.Store.map GStored.d) := by
  simp only [GBrowser.d, Go.Proofs.YtockphlpokoohaaGreat.cntT]; try omega
theorem GEvent.cT (x : GEvent) : cntT x.d = cntE (x.Package.Grants.map GGrant.d) + cntE (x.Package.Flows.map GFlow.d) + cntE (x.Package.Rules.map GRule.d) + cntE (x.Package.Ops.map GOp.d) := by
  simp only [GEvent.d, Go.Proofs.YtockphlpokoohaaGreat.cntT]; try omega
end Go.Proofs.YtockphlpokoohaaGreat
