/- Lists that are filtered. Marking: every plain cell of every element of a value's slices is overwritten, in order; rows other than the value's stay. -/
import Derived.Test.YtlmmdpmmdmhacaaGreatKt17
import Derived.Test.YtlmmdpmmdmhacaaGreatKt16
namespace Go.Proofs.YtlmmdpmmdmhacaaGreat
set_option linter.unusedVariables false
set_option linter.unusedSimpArgs false
set_option maxRecDepth 100000
section
open Go Go.ChangeShapes Go.WideShapes Go.ChangeAt Go.RowKit
def edBy (by' : Int) (is : Bool) (x : GEdit) : Bool := (decide (x.By = by') == is)
theorem zo4 (l : List GEdit) (by' : Int) (is : Bool) (c : C) (S : Store) (h : Rd S [.sl 6 (l.map GEdit.d)] [c]) (hz : l.length ≤ 4194304) : EvA Tryz.prog 155 [.s c, .s (.int .i64 by'), .s (.bool is)] S (fun r S' => Ext S S' ∧ ∃ c', r = .v (.s c') ∧ Fr S.length S' [.sl 6 ((l.filter (edBy by' is)).map GEdit.d)] [c']) := by
 refine zac tok Tryz.func155 (by kernel_rfl) rfl ?_
 repeat' ((conv => whnf) <;> first
  | refine rE fun hml => ?_)
 refine zag {p : Nat × Store × C // p.1 ≤ l.length ∧ Ext S p.2.1 ∧ Fr S.length p.2.1 [.sl 6 (((l.take p.1).filter (edBy by' is)).map GEdit.d)] [p.2.2]} [7, 9, 13, 14, 15, 16, 17, 18, 19, 20, 21, 22, 23, 24, 25, 26, 27] (fun zb => [(13, .v (.s (.int .i64 zb.1.1))), (7, .v (.s zb.1.2.2))]) (fun zb => zb.1.2.1) (fun zb => l.length - zb.1.1) ⟨(0, _, _), Nat.zero_le _, Ext.push _ _, zba⟩ okL rfl ?_
 rintro ⟨⟨i, Si, ci⟩, hi, hE, hF⟩; dsimp only
 replace hi : i ≤ l.length := hi
 replace hE : Ext S Si := hE
 replace hF : Fr S.length Si [.sl 6 (((l.take i).filter (edBy by' is)).map GEdit.d)] [ci] := hF
 have hfl := zb9 (edBy by' is) l i
 repeat' ((conv => whnf) <;> first
  | rw [zad (by omega)] | refine cD (fun _ => ?_) fun _ => ?_ | refine rI rdA rf ix ?_ | refine zaf rdA tv ix ?_ | (refine zdc (f := GEdit.d) aN aN tv (by rfl) rf (by dsimp only [T87]; omega) om ?_; intro cN SN hEN hFN) | refine And.intro ?_ ?_)
 all_goals first
  | exact hE
  | (rw [List.take_of_length_le (by omega)] at hF; exact ⟨_, rfl, hF⟩)
  | (refine ⟨⟨(i + 1, _, _), by dsimp only; omega, by assumption, by first | (rw [zcz (by omega) (by simp_all [edBy])]; assumption) | (rw [zc0 (by omega) (by simp_all [edBy])]; assumption)⟩, ?_, rfl, by dsimp only; omega⟩; (conv => whnf); repeat' (first | exact trivial | exact rfl | apply And.intro))
def zrk (by' : Int) (x : GEdit) : Bool := decide (x.By = by')
def zqp (by' : Int) (x : GEdit) : Bool := !decide (x.By = by')
def grOf (ext : Int) (x : GGrant) : Bool := decide (x.Ext = ext)
theorem zt9 (l : List GGrant) (ext : Int) (c : C) (S : Store) (h : Rd S [.sl 7 (l.map GGrant.d)] [c]) (hz : l.length ≤ 4194304) : EvA Tryz.prog 45 [.s c, .s (.int .i64 ext)] S (fun r S' => Ext S S' ∧ ∃ c', r = .v (.s c') ∧ Fr S.length S' [.sl 7 ((l.filter (grOf ext)).map GGrant.d)] [c']) := by
 refine zac tok Tryz.func45 (by kernel_rfl) rfl ?_
 repeat' ((conv => whnf) <;> first
  | refine rE fun hml => ?_)
 refine zag {p : Nat × Store × C // p.1 ≤ l.length ∧ Ext S p.2.1 ∧ Fr S.length p.2.1 [.sl 7 (((l.take p.1).filter (grOf ext)).map GGrant.d)] [p.2.2]} [5, 7, 11, 12, 13, 14, 15, 16, 17, 18, 19, 20, 21, 22, 23] (fun zb => [(11, .v (.s (.int .i64 zb.1.1))), (5, .v (.s zb.1.2.2))]) (fun zb => zb.1.2.1) (fun zb => l.length - zb.1.1) ⟨(0, _, _), Nat.zero_le _, Ext.push _ _, zba⟩ okL rfl ?_
 rintro ⟨⟨i, Si, ci⟩, hi, hE, hF⟩; dsimp only
 replace hi : i ≤ l.length := hi
 replace hE : Ext S Si := hE
 replace hF : Fr S.length Si [.sl 7 (((l.take i).filter (grOf ext)).map GGrant.d)] [ci] := hF
 have hfl := zb9 (grOf ext) l i
 repeat' ((conv => whnf) <;> first
  | rw [zad (by omega)] | refine cD (fun _ => ?_) fun _ => ?_ | refine rI rdA rf ix ?_ | refine zaf rdA tv ix ?_ | (refine zdc (f := GGrant.d) aN aN tv (by rfl) rf (by dsimp only [T120]; omega) om ?_; intro cN SN hEN hFN) | refine And.intro ?_ ?_)
 all_goals first
  | exact hE
  | (rw [List.take_of_length_le (by omega)] at hF; exact ⟨_, rfl, hF⟩)
  | (refine ⟨⟨(i + 1, _, _), by dsimp only; omega, by assumption, by first | (rw [zcz (by omega) (by simp_all [grOf])]; assumption) | (rw [zc0 (by omega) (by simp_all [grOf])]; assumption)⟩, ?_, rfl, by dsimp only; omega⟩; (conv => whnf); repeat' (first | exact trivial | exact rfl | apply And.intro))
def ruOf (ext : Int) (x : GRule) : Bool := decide (x.Ext = ext)
theorem zn3 (l : List GRule) (ext : Int) (c : C) (S : Store) (h : Rd S [.sl 8 (l.map GRule.d)] [c]) (hz : l.length ≤ 4194304) : EvA Tryz.prog 320 [.s c, .s (.int .i64 ext)] S (fun r S' => Ext S S' ∧ ∃ c', r = .v (.s c') ∧ Fr S.length S' [.sl 8 ((l.filter (ruOf ext)).map GRule.d)] [c']) := by
 refine zac tok Tryz.func320 (by kernel_rfl) rfl ?_
 skip
 refine zag {p : Nat × Store × C // p.1 ≤ l.length ∧ Ext S p.2.1 ∧ Fr S.length p.2.1 [.sl 8 (((l.take p.1).filter (ruOf ext)).map GRule.d)] [p.2.2]} [5, 6, 8, 9, 10, 11, 12, 13, 14, 15, 16, 17, 18, 19, 20, 21, 22, 23, 24, 25, 26, 27] (fun zb => [(6, .v (.s (.int .i64 zb.1.1))), (5, .v (.s zb.1.2.2))]) (fun zb => zb.1.2.1) (fun zb => l.length - zb.1.1) ⟨(0, _, _), Nat.zero_le _, Ext.push _ _, zba⟩ okL rfl ?_
 rintro ⟨⟨i, Si, ci⟩, hi, hE, hF⟩; dsimp only
 replace hi : i ≤ l.length := hi
 replace hE : Ext S Si := hE
 replace hF : Fr S.length Si [.sl 8 (((l.take i).filter (ruOf ext)).map GRule.d)] [ci] := hF
 have hfl := zb9 (ruOf ext) l i
 repeat' ((conv => whnf) <;> first
  | rw [zad (by omega)] | refine cD (fun _ => ?_) fun _ => ?_ | refine rE fun hml => ?_ | refine rI rdA rf ix ?_ | refine zaf rdA tv ix ?_ | (refine zdc (f := GRule.d) aN aN tv (by rfl) rf (by dsimp only [T108]; omega) om ?_; intro cN SN hEN hFN) | refine And.intro ?_ ?_)
 all_goals first
  | exact hE
  | (rw [List.take_of_length_le (by omega)] at hF; exact ⟨_, rfl, hF⟩)
  | (refine ⟨⟨(i + 1, _, _), by dsimp only; omega, by assumption, by first | (rw [zcz (by omega) (by simp_all [ruOf])]; assumption) | (rw [zc0 (by omega) (by simp_all [ruOf])]; assumption)⟩, ?_, rfl, by dsimp only; omega⟩; (conv => whnf); repeat' (first | exact trivial | exact rfl | apply And.intro))
theorem zjo (l : List GRule) (ext : Int) (c : C) (S : Store) (h : Rd S [.sl 8 (l.map GRule.d)] [c]) (hz : l.length ≤ 4194304) : EvA Tryz.prog 79 [.s c, .s (.int .i64 ext)] S (fun r S' => Ext S S' ∧ ∃ c', r = .v (.s c') ∧ Fr S.length S' [.sl 8 ((l.filter (ruOf ext)).map GRule.d)] [c']) := by
 refine zac tok Tryz.func79 (by kernel_rfl) rfl ?_
 repeat' ((conv => whnf) <;> first
  | refine rE fun hml => ?_)
 refine zag {p : Nat × Store × C // p.1 ≤ l.length ∧ Ext S p.2.1 ∧ Fr S.length p.2.1 [.sl 8 (((l.take p.1).filter (ruOf ext)).map GRule.d)] [p.2.2]} [5, 7, 11, 12, 13, 14, 15, 16, 17, 18, 19, 20, 21, 22, 23] (fun zb => [(11, .v (.s (.int .i64 zb.1.1))), (5, .v (.s zb.1.2.2))]) (fun zb => zb.1.2.1) (fun zb => l.length - zb.1.1) ⟨(0, _, _), Nat.zero_le _, Ext.push _ _, zba⟩ okL rfl ?_
 rintro ⟨⟨i, Si, ci⟩, hi, hE, hF⟩; dsimp only
 replace hi : i ≤ l.length := hi
 replace hE : Ext S Si := hE
 replace hF : Fr S.length Si [.sl 8 (((l.take i).filter (ruOf ext)).map GRule.d)] [ci] := hF
 have hfl := zb9 (ruOf ext) l i
 repeat' ((conv => whnf) <;> first
  | rw [zad (by omega)] | refine cD (fun _ => ?_) fun _ => ?_ | refine rI rdA rf ix ?_ | refine zaf rdA tv ix ?_ | (refine zdc (f := GRule.d) aN aN tv (by rfl) rf (by dsimp only [T108]; omega) om ?_; intro cN SN hEN hFN) | refine And.intro ?_ ?_)
 all_goals first
  | exact hE
  | (rw [List.take_of_length_le (by omega)] at hF; exact ⟨_, rfl, hF⟩)
  | (refine ⟨⟨(i + 1, _, _), by dsimp only; omega, by assumption, by first | (rw [zcz (by omega) (by simp_all [ruOf])]; assumption) | (rw [zc0 (by omega) (by simp_all [ruOf])]; assumption)⟩, ?_, rfl, by dsimp only; omega⟩; (conv => whnf); repeat' (first | exact trivial | exact rfl | apply And.intro))
def zms (ext : Int) (x : GStored) : Bool := !decide (x.Ext = ext)
theorem zi9 (l : List GStored) (ext : Int) (c : C) (S : Store) (h : Rd S [.sl 4 (l.map GStored.d)] [c]) (hz : l.length ≤ 4194304) : EvA Tryz.prog 87 [.s c, .s (.int .i64 ext)] S (fun r S' => Ext S S' ∧ ∃ c', r = .v (.s c') ∧ Fr S.length S' [.sl 4 ((l.filter (zms ext)).map GStored.d)] [c']) := by
 refine zac tok Tryz.func87 (by kernel_rfl) rfl ?_
 repeat' ((conv => whnf) <;> first
  | refine rE fun hml => ?_)
 refine zag {p : Nat × Store × C // p.1 ≤ l.length ∧ Ext S p.2.1 ∧ Fr S.length p.2.1 [.sl 4 (((l.take p.1).filter (zms ext)).map GStored.d)] [p.2.2]} [5, 7, 11, 12, 13, 14, 15, 16, 17, 18, 19, 20, 21, 22, 23] (fun zb => [(11, .v (.s (.int .i64 zb.1.1))), (5, .v (.s zb.1.2.2))]) (fun zb => zb.1.2.1) (fun zb => l.length - zb.1.1) ⟨(0, _, _), Nat.zero_le _, Ext.push _ _, zba⟩ okL rfl ?_
 rintro ⟨⟨i, Si, ci⟩, hi, hE, hF⟩; dsimp only
 replace hi : i ≤ l.length := hi
 replace hE : Ext S Si := hE
 replace hF : Fr S.length Si [.sl 4 (((l.take i).filter (zms ext)).map GStored.d)] [ci] := hF
 have hfl := zb9 (zms ext) l i
 repeat' ((conv => whnf) <;> first
  | rw [zad (by omega)] | refine cD (fun _ => ?_) fun _ => ?_ | refine cE (fun _ => ?_) fun _ => ?_ | refine rI rdA rf ix ?_ | refine zaf rdA tv ix ?_ | (refine zdc (f := GStored.d) aN aN tv (by rfl) rf (by dsimp only [T124]; omega) om ?_; intro cN SN hEN hFN) | refine And.intro ?_ ?_)
 all_goals first
  | exact hE
  | (rw [List.take_of_length_le (by omega)] at hF; exact ⟨_, rfl, hF⟩)
  | (refine ⟨⟨(i + 1, _, _), by dsimp only; omega, by assumption, by first | (rw [zcz (by omega) (by simp_all [zms])]; assumption) | (rw [zc0 (by omega) (by simp_all [zms])]; assumption)⟩, ?_, rfl, by dsimp only; omega⟩; (conv => whnf); repeat' (first | exact trivial | exact rfl | apply And.intro))
def stOf (ext : Int) (x : GStored) : Bool := decide (x.Ext = ext)
end
section
open Go Go.ChangeShapes Go.WideShapes Go.ChangeAt Go.RowKit
def zc9 (ext : Int) : List GPackage → Nat → Int
 | [], _ => -1
 | p :: r, i => if p.Ext = ext then i else zc9 ext r (i + 1)
def zai (b : GBrowser) (ext : Int) : Int := zc9 ext b.Packs 0
theorem zsp (ext : Int) : ∀ (l : List GPackage) (i : Nat), -1 ≤ zc9 ext l i ∧ zc9 ext l i < i + l.length
 | [], i => by simp only [zc9, List.length_nil]; omega
 | p :: r, i => by
   have := zsp ext r (i + 1)
   simp only [zc9, List.length_cons]
   split <;> omega
theorem zj5 (b : GBrowser) (ext : Int) : -1 ≤ zai b ext ∧ zai b ext < b.Packs.length := by
 have := zsp ext b.Packs 0
 unfold zai; omega
theorem zed (b : GBrowser) (ext : Int) (cs : List C) (S : Store) (h : Rd S b.d cs) : EvA Tryz.prog 189 [.agg cs, .s (.int .i64 ext)] S (fun r S' => r = .v (.s (.int .i64 (zai b ext))) ∧ S' = S) := by
 obtain ⟨_, _, _, _, _, _, rfl, _, _, _, _, _, _⟩ := GBrowser.inv h
 refine zac tok Tryz.func189 (by kernel_rfl) rfl ?_
 skip
 refine zag {i : Nat // i ≤ b.Packs.length ∧ zc9 ext (b.Packs.drop i) i = zai b ext} [4, 5, 6, 7, 8, 9, 10, 11, 12, 13, 14, 15, 16, 17, 18, 19, 20, 21] (fun zb => [(5, .v (.s (.int .i64 zb.1)))]) (fun _ => S) (fun zb => b.Packs.length - zb.1) ⟨0, Nat.zero_le _, rfl⟩ okL rfl ?_
 rintro ⟨i, hi, hinv⟩; dsimp only
 repeat' ((conv => whnf) <;> first
  | rw [zad (by omega)] | refine cD (fun _ => ?_) fun _ => ?_ | refine rE fun hml => ?_ | refine rI aN rf ix ?_ | (refine zaz (f := GPackage.d) aN ix ?_; intro _ hcs; obtain ⟨_, _, _, _, rfl, _, _, _, _⟩ := GPackage.inv hcs) | refine And.intro ?_ ?_)
 all_goals first
  | rfl
  | (rw [zam (by omega), zc9] at hinv; rw [if_pos (by assumption)] at hinv; rw [← hinv]; rfl)
  | (rw [zak (by omega), zc9] at hinv; rw [← hinv]; rfl)
  | (refine ⟨⟨i + 1, by omega, by rw [zam (by omega), zc9] at hinv; rw [if_neg (by assumption)] at hinv; exact hinv⟩, ?_, rfl, by simp; omega⟩; (conv => whnf); repeat' (first | exact trivial | exact rfl | apply And.intro))
theorem zbc (b : GBrowser) (ext : Int) (cs : List C) (S : Store) (h : Rd S b.d cs) : EvA Tryz.prog 18 [.agg cs, .s (.int .i64 ext)] S (fun r S' => r = .v (.s (.int .i64 (zai b ext))) ∧ S' = S) := by
 obtain ⟨_, _, _, _, _, _, rfl, _, _, _, _, _, _⟩ := GBrowser.inv h
 refine zac tok Tryz.func18 (by kernel_rfl) rfl ?_
 repeat' ((conv => whnf) <;> first
  | refine rE fun hml => ?_)
 refine zag {i : Nat // i ≤ b.Packs.length ∧ zc9 ext (b.Packs.drop i) i = zai b ext} [4, 5, 6, 10, 11, 12, 13, 14, 15, 16, 17, 18, 19, 20] (fun zb => [(10, .v (.s (.int .i64 zb.1)))]) (fun _ => S) (fun zb => b.Packs.length - zb.1) ⟨0, Nat.zero_le _, rfl⟩ okL rfl ?_
 rintro ⟨i, hi, hinv⟩; dsimp only
 repeat' ((conv => whnf) <;> first
  | rw [zad (by omega)] | refine cD (fun _ => ?_) fun _ => ?_ | refine rI aN rf ix ?_ | (refine zaz (f := GPackage.d) aN ix ?_; intro _ hcs; obtain ⟨_, _, _, _, rfl, _, _, _, _⟩ := GPackage.inv hcs) | refine And.intro ?_ ?_)
 all_goals first
  | rfl
  | (rw [zam (by omega), zc9] at hinv; rw [if_pos (by assumption)] at hinv; rw [← hinv]; rfl)
  | (rw [zak (by omega), zc9] at hinv; rw [← hinv]; rfl)
  | (refine ⟨⟨i + 1, by omega, by rw [zam (by omega), zc9] at hinv; rw [if_neg (by assumption)] at hinv; exact hinv⟩, ?_, rfl, by simp; omega⟩; (conv => whnf); repeat' (first | exact trivial | exact rfl | apply And.intro))
def zmr (t : GTab) (tick : Int) : Bool := inR t.Click 0 10000 && inR tick t.Click (t.Click + 2)
theorem zqg (t : GTab) (tick : Int) (cs : List C) (S : Store) (h : Rd S t.d cs) : EvA Tryz.prog 261 [.agg cs, .s (.int .i64 tick)] S (fun r S' => r = .v (.s (.bool (zmr t tick))) ∧ S' = S) := by
 obtain ⟨_, _, _, rfl, _, _, _⟩ := GTab.inv h
 refine zac tok Tryz.func261 (by kernel_rfl) rfl ?_
 repeat' ((conv => whnf) <;> first
  | rw [zad (by omega)] | refine zbu (fun _ _ => ?_) (fun _ _ => ?_) | refine zaa (zat _ _ _ _) ?_ | refine And.intro ?_ ?_)
 all_goals first | rfl | (simp_all [zay, zmr]; done)
def z17 (b : GBrowser) (tab : Int) : Option GTab := if 0 ≤ tab then b.Tabs[tab.toNat]? else none
theorem z2g {b : GBrowser} {tab : Int} (h : 0 ≤ tab ∧ tab.toNat < b.Tabs.length) : z17 b tab = some (b.Tabs[tab.toNat]'h.2) := by
 unfold z17; rw [if_pos h.1, List.getElem?_eq_getElem h.2]
theorem zty {b : GBrowser} {tab : Int} (h : ¬ (0 ≤ tab ∧ tab.toNat < b.Tabs.length)) : z17 b tab = none := by
 unfold z17
 split
 ·rw [List.getElem?_eq_none (by omega)]
 ·rfl
def zgv (b : GBrowser) (ext tab kind : Int) : Bool := decide (0 ≤ zai b ext) && (match z17 b tab with
 | some t => zxl b.Grants b.Limits ext t.Site kind b.Now (zmr t b.Now)
 | none => false)
theorem zgu (b : GBrowser) (ext tab kind : Int) (cs : List C) (S : Store) (h : Rd S b.d cs) : EvA Tryz.prog 203 [.agg cs, .s (.int .i64 ext), .s (.int .i64 tab), .s (.int .i64 kind)] S (fun r S' => r = .v (.s (.bool (zgv b ext tab kind))) ∧ S' = S) := by
 obtain ⟨_, _, _, _, _, _, rfl, _, _, _, _, _, _⟩ := GBrowser.inv h
 refine zac tok Tryz.func203 (by kernel_rfl) rfl ?_
 repeat' ((conv => whnf) <;> first
  | refine cD (fun _ => ?_) fun _ => ?_ | refine cT ?_ | (refine zaa (zbc _ _ _ _ rdcB) ?_) | refine zaa (znb _ _ _ _ _ _ _ _ _ _ aN aN) ?_ | (refine zaa (zqg _ _ _ _ rdcB) ?_) | refine rE fun hml => ?_ | refine rI aN rf ix ?_ | (refine zaz (f := GTab.d) aN ix ?_; intro _ hcs; obtain ⟨_, _, _, rfl, _, _, _⟩ := GTab.inv hcs) | refine zae 30 [.fl 0, .fl 1, .fl 2, .fl 3, .fl 4, .fl 5, .fl 6, .fl 7, .fl 8, .fl 9, .fl 10, .fl 11, .fl 12, .st 13 [0, 1, 2, 3, 4, 5, 6, 7, 8, 9], .st 14 [], .st 15 []] (by rfl) (by kernel_rfl) ?_ | refine And.intro ?_ ?_)
 all_goals first
  | rfl
  | (rw [show zgv b ext tab kind = false from by unfold zgv; rw [decide_eq_false (by omega), Bool.false_and]]; rfl)
  | (have ht := zty (b := b) (tab := tab) (by omega)
     simp only [zgv, ht, Bool.and_false]; rfl)
  | (have ht := z2g (b := b) (tab := tab) (by omega)
     simp only [zgv, ht]; rw [decide_eq_true (by omega), Bool.true_and]; rfl)
theorem flen {α : Type} (P : α → Bool) : ∀ l : List α, (l.filter P).length + (l.filter fun x => !P x).length = l.length
 | [] => rfl
 | x :: l => by
   have := flen P l
   simp only [List.filter_cons]
   cases P x <;> simp <;> omega
def zj1 (b : GBrowser) (ext : Int) : Int := (b.Store.filter (stOf ext)).length
theorem z22 (ext : Int) : zms ext = fun x => !stOf ext x := rfl
theorem zta (b : GBrowser) (ext : Int) (cs : List C) (S : Store) (h : Rd S b.d cs) (hz : szL b.d ≤ 1048576) : EvA Tryz.prog 26 [.agg cs, .s (.int .i64 ext)] S (fun r S' => r = .v (.s (.int .i64 (zj1 b ext))) ∧ S' = S) := by
 have hzs := hz
 simp only [GBrowser.d, szL, List.length_map] at hzs
 obtain ⟨_, _, _, _, _, _, rfl, _, _, _, _, _, _⟩ := GBrowser.inv h
 refine EvA.drop rfl ?_
 refine zac tok Tryz.func26 (by kernel_rfl) rfl ?_
 repeat' ((conv => whnf) <;> first
  | rw [zad (by omega)] | (refine zab (zi9 _ _ _ _ rdA om) ?_; rintro _ Sn ⟨hEn, cn, rfl, hFn⟩) | refine rE fun hml => ?_ | refine zae 5 [.fl 0, .fl 1, .fl 2, .fl 3, .fl 4, .fl 5, .st 6 [0, 1, 2], .fl 7, .fl 8, .st 9 []] (by rfl) (by kernel_rfl) ?_ | refine And.intro ?_ ?_)
 all_goals first
  | rfl
  | (have := flen (stOf ext) b.Store; rw [← z22] at this
     simp only [zay, zj1]; congr 3; omega)
  | exact Ext.refl _
  | assumption
theorem z3w (by' : Int) : edBy by' false = zqp by' := by funext x; simp only [edBy, zqp]; cases decide (x.By = by') <;> rfl
theorem z25 (by' : Int) : edBy by' true = zrk by' := by funext x; simp only [edBy, zrk]; cases decide (x.By = by') <;> rfl
theorem zhd (l : List GEdit) (by' : Int) (c : C) (S : Store) (h : Rd S [.sl 6 (l.map GEdit.d)] [c]) (hz : l.length ≤ 4194304) : EvA Tryz.prog 82 [.s c, .s (.int .i64 by')] S (fun r S' => Ext S S' ∧ ∃ c', r = .v (.s c') ∧ Fr S.length S' [.sl 6 ((l.filter (zqp by')).map GEdit.d)] [c']) := by
 rw [← z3w]
 refine zac tok Tryz.func82 (by kernel_rfl) rfl ?_
 repeat' ((conv => whnf) <;> first
  | (refine zab (zo4 _ _ _ _ _ rdA om) ?_; rintro _ Sn ⟨hEn, cn, rfl, hFn⟩) | refine And.intro ?_ ?_)
 all_goals first | assumption | exact ⟨_, rfl, by assumption⟩
theorem zn4 (l : List GEdit) (by' : Int) (c : C) (S : Store) (h : Rd S [.sl 6 (l.map GEdit.d)] [c]) (hz : l.length ≤ 4194304) : EvA Tryz.prog 80 [.s c, .s (.int .i64 by')] S (fun r S' => Ext S S' ∧ ∃ c', r = .v (.s c') ∧ Fr S.length S' [.sl 6 ((l.filter (zrk by')).map GEdit.d)] [c']) := by
 rw [← z25]
 refine zac tok Tryz.func80 (by kernel_rfl) rfl ?_
 repeat' ((conv => whnf) <;> first
  | (refine zab (zo4 _ _ _ _ _ rdA om) ?_; rintro _ Sn ⟨hEn, cn, rfl, hFn⟩) | refine And.intro ?_ ?_)
 all_goals first | assumption | exact ⟨_, rfl, by assumption⟩
end
section
open Go Go.ChangeShapes Go.WideShapes Go.ChangeAt Go.RowKit
def zau (b : GBrowser) (ext : Int) : GPackage := if 0 ≤ zai b ext then b.Packs.getD (zai b ext).toNat default else default
theorem zme {S : Store} {k : Nat} : Rd S [.sl k []] [.nil] := zkz (q := false) (ids := []) (by unfold Rep; exact ⟨Nat.zero_le _, .inl ⟨rfl, .inl rfl, rfl⟩⟩)
theorem ze5 {b : GBrowser} {ext : Int} (h : 0 ≤ zai b ext) (h2 : (zai b ext).toNat < b.Packs.length) : zau b ext = b.Packs[(zai b ext).toNat] := by
 unfold zau; rw [if_pos h, List.getD_eq_getElem?_getD, List.getElem?_eq_getElem h2]; rfl
theorem zq4 {b : GBrowser} {ext : Int} (h : ¬ 0 ≤ zai b ext) : zau b ext = default := by unfold zau; rw [if_neg h]
theorem ze9 (b : GBrowser) (ext : Int) (cs : List C) (S : Store) (h : Rd S b.d cs) : EvA Tryz.prog 72 [.agg cs, .s (.int .i64 ext)] S (fun r S' => S' = S ∧ ∃ c3 c4 c5 c6,
 r = .v (.agg [.int .i64 (zau b ext).Ext, .int .i64 (zau b ext).Author, .int .i64 (zau b ext).Version, c3, c4, c5, c6, .int .i64 (zau b ext).Seal]) ∧ Rd S [.sl 7 ((zau b ext).Grants.map GGrant.d)] [c3] ∧ Rd S [.sl 3 ((zau b ext).Flows.map GFlow.d)] [c4] ∧ Rd S [.sl 8 ((zau b ext).Rules.map GRule.d)] [c5] ∧ Rd S [.sl 4 ((zau b ext).Ops.map GOp.d)] [c6]) := by
 obtain ⟨_, _, _, _, _, _, rfl, _, _, _, _, _, _⟩ := GBrowser.inv h
 have hp := zj5 b ext
 by_cases h0 : 0 ≤ zai b ext
 ·rw [ze5 h0 (by omega)]
  refine zac tok Tryz.func72 (by kernel_rfl) rfl ?_
  repeat' ((conv => whnf) <;> first
   | refine cD (fun _ => ?_) fun _ => ?_ | (refine zaa (zbc _ _ _ _ rdcB) ?_) | refine rI aN rf ix ?_ | (refine zaz (f := GPackage.d) aN ix ?_; intro _ hcs; obtain ⟨_, _, _, _, rfl, _, _, _, _⟩ := GPackage.inv hcs) | refine And.intro ?_ ?_)
  all_goals first | rfl | (exfalso; omega) | exact ⟨_, _, _, _, rfl, by assumption, by assumption, by assumption, by assumption⟩
 ·rw [zq4 h0]
  refine zac tok Tryz.func72 (by kernel_rfl) rfl ?_
  repeat' ((conv => whnf) <;> first
   | refine cD (fun _ => ?_) fun _ => ?_ | (refine zaa (zbc _ _ _ _ rdcB) ?_) | refine rI aN rf ix ?_ | (refine zaz (f := GPackage.d) aN ix ?_; intro _ hcs; obtain ⟨_, _, _, _, rfl, _, _, _, _⟩ := GPackage.inv hcs) | refine And.intro ?_ ?_)
  all_goals first | rfl | (exfalso; omega) | exact ⟨_, _, _, _, rfl, zme, zme, zme, zme⟩
def znj (v : GRule) : List GRule → Nat → Int
 | [], _ => -1
 | x :: r, i => if v = x then i else znj v r (i + 1)
theorem zue (v : GRule) : ∀ (l : List GRule) (i : Nat), (0 ≤ znj v l i) ↔ v ∈ l
 | [], i => by simp [znj]
 | x :: r, i => by
   rw [znj, List.mem_cons]
   split
   ·rename_i h; subst h; simp
   ·rename_i h; rw [zue v r (i + 1)]; simp [h]
theorem zyq (l : List GRule) (v : GRule) (c : C) (S : Store) (h : Rd S [.sl 8 (l.map GRule.d)] [c]) : EvA Tryz.prog 147 [.s c, .agg v.c] S (fun r S' => r = .v (.s (.int .i64 (znj v l 0))) ∧ S' = S) := by
 refine zac tok Tryz.func147 (by kernel_rfl) rfl ?_
 repeat' ((conv => whnf) <;> first
  | refine rE fun hml => ?_)
 refine zag {i : Nat // i ≤ l.length ∧ znj v (l.drop i) i = znj v l 0} [4, 5, 8, 9, 10, 11, 12, 13, 14, 15, 16, 17, 18] (fun zb => [(8, .v (.s (.int .i64 zb.1)))]) (fun _ => S) (fun zb => l.length - zb.1) ⟨0, Nat.zero_le _, rfl⟩ okL rfl ?_
 rintro ⟨i, hi, hinv⟩; dsimp only
 repeat' ((conv => whnf) <;> first
  | rw [zad (by omega)] | refine cD (fun _ => ?_) fun _ => ?_ | refine cI (fun _ => ?_) fun _ => ?_ | refine rI aN rf ix ?_ | refine zaf aN tv ix ?_ | refine zae 11 (iN 6 0 []) (by rfl) (by kernel_rfl) ?_ | refine And.intro ?_ ?_)
 all_goals first
  | rfl
  | (rw [zak (by omega), znj] at hinv; rw [← hinv]; rfl)
  | (rename_i hb; rw [GRule.eqb] at hb; have hb' := of_decide_eq_true hb; rw [zam (by omega), znj] at hinv; have hinv := (if_pos hb').symm.trans hinv; rw [← hinv]; rfl)
  | (rename_i hb; rw [GRule.eqb] at hb; have hb' := of_decide_eq_false hb
     (refine ⟨⟨i + 1, by omega, by rw [zam (by omega), znj] at hinv; exact (if_neg hb').symm.trans hinv⟩, ?_, rfl, by simp; omega⟩; (conv => whnf); repeat' (first | exact trivial | exact rfl | apply And.intro)))
theorem zx0 (l : List GRule) (v : GRule) (c : C) (S : Store) (h : Rd S [.sl 8 (l.map GRule.d)] [c]) : EvA Tryz.prog 74 [.s c, .agg v.c] S (fun r S' => r = .v (.s (.bool (decide (v ∈ l)))) ∧ S' = S) := by
 have e : decide (v ∈ l) = decide (0 ≤ znj v l 0) := by rw [Bool.eq_iff_iff]; simp [zue]
 rw [e]
 refine zac tok Tryz.func74 (by kernel_rfl) rfl ?_
 repeat' ((conv => whnf) <;> first
  | refine zaa (zyq _ _ _ _ aN) ?_ | refine And.intro ?_ ?_)
 all_goals rfl
def zjt (b : GBrowser) : Bool := b.Rules.all fun r => decide (r ∈ (zau b r.Ext).Rules)
theorem zu2 (b : GBrowser) (cs : List C) (S : Store) (h : Rd S b.d cs) : EvA Tryz.prog 14 [.agg cs] S (fun r S' => r = .v (.s (.bool (zjt b))) ∧ S' = S) := by
 obtain ⟨_, _, _, _, _, _, rfl, _, _, _, _, _, _⟩ := GBrowser.inv h
 refine zac tok Tryz.func14 (by kernel_rfl) rfl ?_
 repeat' ((conv => whnf) <;> first
  | refine rE fun hml => ?_)
 refine zag {i : Nat // i ≤ b.Rules.length ∧ ((b.Rules.drop i).all fun r => decide (r ∈ (zau b r.Ext).Rules)) = zjt b} [2, 4, 8, 9, 10, 11, 12, 13, 14, 15, 16, 17, 18, 19, 20] (fun zb => [(8, .v (.s (.int .i64 zb.1)))]) (fun _ => S) (fun zb => b.Rules.length - zb.1) ⟨0, Nat.zero_le _, rfl⟩ okL rfl ?_
 rintro ⟨i, hi, hinv⟩; dsimp only
 repeat' ((conv => whnf) <;> first
  | rw [zad (by omega)] | refine cD (fun _ => ?_) fun _ => ?_ | refine cE (fun _ => ?_) fun _ => ?_ | (refine zab (ze9 _ _ _ _ rdcA) ?_; rintro _ _ ⟨rfl, _, _, _, _, rfl, _, _, _, _⟩) | refine zaa (zx0 _ _ _ _ rdA) ?_ | refine rI rdA rf ix ?_ | refine zaf rdA tv ix ?_ | refine zae 12 [.fl 0, .fl 1, .fl 2, .fl 5, .st 3 [5], .fl 4, .st 6 [], .fl 7] (by rfl) (by kernel_rfl) ?_ | refine And.intro ?_ ?_)
 all_goals first
  | rfl
  | (rw [zak (by omega), List.all_nil] at hinv; rw [← hinv]; rfl)
  | (rw [zam (by omega), List.all_cons] at hinv; rw [show zjt b = false from by rw [← hinv]; simp_all]; rfl)
  | (refine ⟨⟨i + 1, by omega, by rw [zam (by omega), List.all_cons] at hinv; rw [← hinv]; simp_all⟩, ?_, rfl, by simp; omega⟩; (conv => whnf); repeat' (first | exact trivial | exact rfl | apply And.intro))
end
section
open Go Go.ChangeShapes Go.WideShapes Go.ChangeAt Go.RowKit
def zfz (x : GGrant) (y : GGrant) : Bool := za4 x && za4 y && decide (x.Ext = y.Ext) && decide (x.Kind = y.Kind) && zgi x.Pattern y.Pattern && decide (y.From ≤ x.From) && decide (x.Until ≤ y.Until) && (x.Click || !y.Click)
def zbv (a b : List GGrant) : Bool := a.all fun x => b.any fun y => zfz x y
theorem zl0 (a b : List GGrant) (c c' : C) (S : Store) (h : Rd S [.sl 7 (a.map GGrant.d)] [c]) (h' : Rd S [.sl 7 (b.map GGrant.d)] [c']) : EvA Tryz.prog 71 [.s c, .s c'] S (fun r S' => r = .v (.s (.bool (zbv a b))) ∧ S' = S) := by
 refine zac tok Tryz.func71 (by kernel_rfl) rfl ?_
 repeat' ((conv => whnf) <;> first
  | refine rE fun hml => ?_)
 refine zag {i : Nat // i ≤ a.length ∧ zbv (a.drop i) b = zbv a b} [4, 6, 7, 9, 12, 13, 14, 15, 16, 17, 18, 19, 20, 21, 22, 23, 24, 25, 26, 27, 28, 29, 30, 31, 32, 33, 34, 35, 36, 37, 38, 39, 40, 41, 42, 43, 44, 45, 46, 47, 48, 49, 50, 51, 52, 53, 54, 55, 56, 57, 58, 59, 60, 61, 62, 63, 64, 65, 66, 67, 68, 69, 70, 71, 72, 73, 74, 75] (fun zb => [(12, .v (.s (.int .i64 zb.1)))]) (fun _ => S) (fun zb => a.length - zb.1) ⟨0, Nat.zero_le _, rfl⟩ okL rfl ?_
 rintro ⟨i, hi, hinv⟩; dsimp only
 repeat' ((conv => whnf) <;> first
  | refine cD (fun _ => ?_) fun _ => ?_ | refine rE fun hml => ?_ | refine rI aN rf ix ?_ | refine zaf aN tv ix ?_ | refine And.intro ?_ ?_)
 all_goals try first
  | rfl
  | (exfalso; omega)
  | (rw [zak (by omega)] at hinv; rw [← hinv]; rfl)
 have hi2 : i < a.length := by omega
 rw [zam hi2] at hinv
 simp only [zbv, List.all_cons] at hinv
 refine zag {p : Nat × Bool // p.1 ≤ b.length ∧ p.2 = false ∧ ((b.drop p.1).any fun y => zfz (a[((i : Nat) : Int).toNat]'hi2) y) = b.any fun y => zfz (a[((i : Nat) : Int).toNat]'hi2) y} [7, 9, 18, 19, 20, 21, 22, 23, 24, 25, 26, 27, 28, 29, 30, 31, 32, 33, 34, 35, 36, 37, 38, 39, 40, 41, 42, 43, 44, 45, 46, 47, 48, 49, 50, 51, 52, 53, 54, 55, 56, 57, 58, 59, 60, 61, 62, 63, 64, 65, 66, 67, 68, 69, 70, 71, 72] (fun zb => [(18, .v (.s (.int .i64 zb.1.1))), (7, .v (.s (.bool zb.1.2)))]) (fun _ => S) (fun zb => b.length - zb.1.1) ⟨(0, false), Nat.zero_le _, ⟨rfl, by simp⟩⟩ okL rfl ?_
 rintro ⟨⟨j, sj⟩, hj, hjnv⟩; dsimp only
 replace hj : j ≤ b.length := hj; dsimp only at hjnv
 repeat' ((conv => whnf) <;> first
  | rw [zad (by omega)] | refine cD (fun _ => ?_) fun _ => ?_ | refine cT ?_ | refine cF ?_ | refine cN (fun _ => ?_) fun _ => ?_ | refine cI (fun _ => ?_) fun _ => ?_ | refine zaa (zco _ _) ?_ | refine zaa (zgn _ _ _) ?_ | refine rI aN rf ix ?_ | refine zaf aN tv ix ?_ | refine And.intro ?_ ?_)
 all_goals first
  | rfl
  | (exfalso; omega)
  | (obtain ⟨hs, hj2⟩ := hjnv
     rw [zak (by omega), List.any_nil] at hj2
     simp only [Int.toNat_natCast] at hj2
     rw [← hj2, Bool.false_and] at hinv
     unfold zbv
     rw [← hinv] <;> rfl)
  | (obtain ⟨hs, hj2⟩ := hjnv
     have hs2 : sj = true := by assumption
     rw [hs] at hs2; cases hs2)
  | (obtain ⟨hs, hj2⟩ := hjnv
     have hj3 : j < b.length := by omega
     rw [zam hj3, List.any_cons] at hj2
     have hw : zfz (a[((i : Nat) : Int).toNat]'hi2) (b[((j : Nat) : Int).toNat]'hj3) = true := by clear hj2 hinv; simp_all [zfz]
     simp only [Int.toNat_natCast] at hj2 hw
     rw [hw, Bool.true_or] at hj2
     rw [← hj2, Bool.true_and] at hinv
     (refine ⟨⟨i + 1, by omega, hinv⟩, ?_, rfl, by simp; omega⟩; (conv => whnf); repeat' (first | exact trivial | exact rfl | apply And.intro)))
  | (obtain ⟨hs, hj2⟩ := hjnv
     have hj3 : j < b.length := by omega
     rw [zam hj3, List.any_cons] at hj2
     have hw : zfz (a[((i : Nat) : Int).toNat]'hi2) (b[((j : Nat) : Int).toNat]'hj3) = false := by clear hj2 hinv; first | (simp_all [zfz]; done) | (simp_all [zfz]; omega)
     simp only [Int.toNat_natCast] at hj2 hw
     rw [hw, Bool.false_or] at hj2
     refine ⟨⟨(j + 1, sj), by dsimp only; omega, hs, hj2⟩, ?_, rfl, by dsimp only; omega⟩
     (conv => whnf); repeat' (first | exact trivial | exact rfl | apply And.intro))
def zhv (P : Int → Bool) : Nat → List Int
 | 0 => []
 | n + 1 => zhv P n ++ (if P ((n : Int) + 1) then [(n : Int) + 1] else [])
theorem zkk (P : Int → Bool) : ∀ n, (zhv P n).length ≤ n
 | 0 => Nat.le_refl _
 | n + 1 => by
   have := zkk P n
   rw [zhv, List.length_append]
   split <;> simp <;> omega
theorem z0w {P : Int → Bool} {n : Nat} (h : P ((n : Int) + 1) = true) : zhv P (n + 1) = zhv P n ++ [(n : Int) + 1] := by rw [zhv, if_pos h]
theorem z04 {P : Int → Bool} {n : Nat} (h : P ((n : Int) + 1) = false) : zhv P (n + 1) = zhv P n := by rw [zhv, if_neg (by simp [h]), List.append_nil]
end
end Go.Proofs.YtlmmdpmmdmhacaaGreat
namespace Go.Proofs.YtlmmdpmmdmhacaaGreat
open Go
set_option linter.unusedVariables false
set_option linter.unusedSimpArgs false
def Mk (ids : List Nat) (S S' : Store) : Prop := S'.length = S.length ∧ ∀ id, id ∉ ids → S'[id]? = S[id]?
theorem Mk.refl (ids : List Nat) (S : Store) : Mk ids S S := ⟨rfl, fun _ _ => rfl⟩
mutual
def cntD : D → Nat
 | .x _ => 1
 | .sl _ xs => cntE xs
def cntL : List D → Nat
 | [] => 0
 | d :: ds => cntD d + cntL ds
def cntE : List (List D) → Nat
 | [] => 0
 | x :: xs => cntL x + cntE xs
end
def cntT : List D → Nat
 | [] => 0
 | .x c :: ds => cntT ds
 | .sl n xs :: ds => cntE xs + cntT ds
theorem ztx {α : Type} : ∀ {l : List α} {i : Nat} {x : α}, l[i]? = some x → l.set i x = l
 | [], i, x, h => by simp at h
 | y :: l, 0, x, h => by simp at h; rw [h]; rfl
 | y :: l, i + 1, x, h => by rw [List.set_cons_succ, ztx (by simpa using h)]
section
variable {q : Bool} {S S' S0 : Store}
theorem RepL.setAt : ∀ {e : List D} {cs : List C} {ids : List Nat}, RepL q S e cs ids → ∀ (off : Nat) d, e[off]? = some d → ∃ c' a m b, cs[off]? = some c' ∧ ids = a ++ m ++ b ∧ Rep q S d c' m ∧
 ∀ {S' : Store} {d' : D} {c'' : C} {m' : List Nat}, (∀ id ∈ a ++ b, S'[id]? = S[id]?) → Rep q S' d' c'' m' → RepL q S' (e.set off d') (cs.set off c'') (a ++ m' ++ b)
 | [], cs, ids, h, off, d, hx => by simp at hx
 | y :: e, cs, ids, h, off, d, hx => by
   rw [zaw] at h
   obtain ⟨c, cs', i, j, h1, h2, h3, h4⟩ := h
   subst h1; subst h2
   cases off with
   | zero =>
     simp at hx; subst hx
     refine ⟨c, [], i, j, rfl, by simp, h3, fun {S' d' c'' m'} hf hr => ?_⟩
     rw [List.set_cons_zero, List.set_cons_zero, zaw]
     exact ⟨c'', cs', m', j, rfl, by simp, hr, h4.frame (fun id hi => hf id (by simp [hi]))⟩
   | succ off =>
     obtain ⟨c1, a, m, b, k1, k2, k3, k4⟩ := h4.setAt off d (by simpa using hx)
     refine ⟨c1, i ++ a, m, b, by simpa using k1, by rw [k2]; simp, k3, fun {S' d' c'' m'} hf hr => ?_⟩
     rw [List.set_cons_succ, List.set_cons_succ, zaw]
     exact ⟨c, cs'.set off c'', i, a ++ m' ++ b, rfl, by simp, h3.frame (fun id hi => hf id (by simp [hi])), k4 (fun id hi => hf id (by
      rcases List.mem_append.1 hi with hi | hi <;> simp [hi])) hr⟩
end
section
variable {S S' S0 : Store}
def In (lo hi : Nat) (S : Store) (ds : List D) (cs : List C) : Prop := ∃ ids, RepL true S ds cs ids ∧ ids.Nodup ∧ ∀ id ∈ ids, lo ≤ id ∧ id < hi
def Out (lo hi : Nat) (S S' : Store) : Prop := S'.length = S.length ∧ ∀ id, (id < lo ∨ hi ≤ id) → S'[id]? = S[id]?
theorem Fr.inn {lo : Nat} {ds : List D} {cs : List C} (h : Fr lo S ds cs) : In lo S.length S ds cs := by
 obtain ⟨ids, h, h1, h2⟩ := h
 exact ⟨ids, h, h1, fun id hi => ⟨h2 id hi, h.lt id hi⟩⟩
theorem In.ext {lo hi : Nat} {ds : List D} {cs : List C} (h : In lo hi S ds cs) (e : Ext S S') : In lo hi S' ds cs := by
 obtain ⟨ids, h, h1, h2⟩ := h
 exact ⟨ids, h.frame fun id hi => e.at (h.lt id hi), h1, h2⟩
theorem Out.len {lo hi : Nat} (o : Out lo hi S S') : S'.length = S.length := o.1
theorem In.one {lo hi : Nat} {d : D} {c : C} (h : In lo hi S [d] [c]) : ∃ ids, Rep true S d c ids ∧ ids.Nodup ∧ ∀ id ∈ ids, lo ≤ id ∧ id < hi := by
 obtain ⟨ids, h, h1, h2⟩ := h
 rw [zaw] at h
 obtain ⟨c1, cs', i, j, g1, g2, g3, g4⟩ := h
 rw [zce] at g4
 simp only [List.cons.injEq] at g1
 obtain ⟨g1, _⟩ := g1
 obtain ⟨_, g5⟩ := g4
 subst g1; subst g5
 rw [List.append_nil] at g2
 subst g2
 exact ⟨_, g3, h1, h2⟩
end
theorem GNode.cT (x : GNode) : cntT x.d = 0 := by
 simp only [GNode.d, Go.Proofs.YtlmmdpmmdmhacaaGreat.cntT]
def GNode.m (k : Int) : GNode := ⟨k, k + 1, k + 1 + 1, k + 1 + 1 + 1, k + 1 + 1 + 1 + 1⟩
theorem GEdit.cT (x : GEdit) : cntT x.d = 0 := by
 simp only [GEdit.d, Go.Proofs.YtlmmdpmmdmhacaaGreat.cntT]
def GEdit.m (k : Int) : GEdit := ⟨k, k + 1, k + 1 + 1, k + 1 + 1 + 1, k + 1 + 1 + 1 + 1, k + 1 + 1 + 1 + 1 + 1⟩
theorem GSite.cT (x : GSite) : cntT x.d = 0 := by
 simp only [GSite.d, Go.Proofs.YtlmmdpmmdmhacaaGreat.cntT]
def GSite.m (k : Int) : GSite := ⟨k, k + 1⟩
theorem GPattern.cT (x : GPattern) : cntT x.d = 0 := by
 simp only [GPattern.d, Go.Proofs.YtlmmdpmmdmhacaaGreat.cntT]
def GPattern.m (k : Int) : GPattern := ⟨k, k + 1⟩
theorem GGrant.cT (x : GGrant) : cntT x.d = 0 := by
 simp only [GGrant.d, Go.Proofs.YtlmmdpmmdmhacaaGreat.cntT]
def GGrant.m (k : Int) : GGrant := ⟨k, ⟨k + 1, k + 1 + 1⟩, k + 1 + 1 + 1, k + 1 + 1 + 1 + 1, k + 1 + 1 + 1 + 1 + 1, decide (Int.tmod (k + 1 + 1 + 1 + 1 + 1 + 1) 3 = 0)⟩
theorem GLimit.cT (x : GLimit) : cntT x.d = 0 := by
 simp only [GLimit.d, Go.Proofs.YtlmmdpmmdmhacaaGreat.cntT]
def GLimit.m (k : Int) : GLimit := ⟨k, ⟨k + 1, k + 1 + 1⟩, k + 1 + 1 + 1⟩
theorem GRule.cT (x : GRule) : cntT x.d = 0 := by
 simp only [GRule.d, Go.Proofs.YtlmmdpmmdmhacaaGreat.cntT]
def GRule.m (k : Int) : GRule := ⟨k, k + 1, ⟨k + 1 + 1, k + 1 + 1 + 1⟩, k + 1 + 1 + 1 + 1, k + 1 + 1 + 1 + 1 + 1, ⟨k + 1 + 1 + 1 + 1 + 1 + 1, k + 1 + 1 + 1 + 1 + 1 + 1 + 1⟩⟩
theorem GRequest.cT (x : GRequest) : cntT x.d = 0 := by
 simp only [GRequest.d, Go.Proofs.YtlmmdpmmdmhacaaGreat.cntT]
def GRequest.m (k : Int) : GRequest := ⟨⟨k, k + 1⟩, k + 1 + 1⟩
theorem GFlow.cT (x : GFlow) : cntT x.d = 0 := by
 simp only [GFlow.d, Go.Proofs.YtlmmdpmmdmhacaaGreat.cntT]
def GFlow.m (k : Int) : GFlow := ⟨k, k + 1, k + 1 + 1⟩
theorem GOp.cT (x : GOp) : cntT x.d = 0 := by
 simp only [GOp.d, Go.Proofs.YtlmmdpmmdmhacaaGreat.cntT]
def GOp.m (k : Int) : GOp := ⟨k, k + 1, k + 1 + 1, k + 1 + 1 + 1⟩
theorem GSent.cT (x : GSent) : cntT x.d = 0 := by
 simp only [GSent.d, Go.Proofs.YtlmmdpmmdmhacaaGreat.cntT]
def GSent.m (k : Int) : GSent := ⟨k, k + 1, k + 1 + 1⟩
theorem GLetter.cT (x : GLetter) : cntT x.d = 0 := by
 simp only [GLetter.d, Go.Proofs.YtlmmdpmmdmhacaaGreat.cntT]
def GLetter.m (k : Int) : GLetter := ⟨k, k + 1, k + 1 + 1, k + 1 + 1 + 1⟩
theorem GStored.cT (x : GStored) : cntT x.d = 0 := by
 simp only [GStored.d, Go.Proofs.YtlmmdpmmdmhacaaGreat.cntT]
def GStored.m (k : Int) : GStored := ⟨k, k + 1, k + 1 + 1, k + 1 + 1 + 1⟩
theorem GDeed.cT (x : GDeed) : cntT x.d = 0 := by
 simp only [GDeed.d, Go.Proofs.YtlmmdpmmdmhacaaGreat.cntT]
def GDeed.m (k : Int) : GDeed := ⟨k, k + 1, k + 1 + 1, k + 1 + 1 + 1, k + 1 + 1 + 1 + 1⟩
end Go.Proofs.YtlmmdpmmdmhacaaGreat
