/- Lists that are filtered. -/
import Derived.Test.YtfkfoidojmjacaaFnE
namespace Go.Proofs.Ytfkfoidojmjacaa
set_option linter.unusedVariables false
set_option linter.unusedSimpArgs false
set_option maxRecDepth 100000
section
open Go Go.ChangeShapes Go.WideShapes Go.ChangeAt Go.RowKit
def edBy (by' : Int) (is : Bool) (x : GEdit) : Bool := (decide (x.By = by') == is)
theorem ev_editsOf (l : List GEdit) (by' : Int) (is : Bool) (c : C) (S : Store) (h : Rd S [.sl 6 (l.map GEdit.d)] [c]) (hz : l.length ≤ 4194304) : EvA Try.prog 42 [.s c, .s (.int .i64 by'), .s (.bool is)] S (fun r S' => Ext S S' ∧ ∃ c', r = .v (.s c') ∧ Fr S.length S' [.sl 6 ((l.filter (edBy by' is)).map GEdit.d)] [c']) := by
  refine evA_intro tok Try.func42 (by kernel_rfl) rfl ?_
  repeat' ((conv => whnf) <;> first
   | refine rE fun hml => ?_)
  refine loop_intro {p : Nat × Store × C // p.1 ≤ l.length ∧ Ext S p.2.1 ∧ Fr S.length p.2.1 [.sl 6 (((l.take p.1).filter (edBy by' is)).map GEdit.d)] [p.2.2]} [7, 9, 13, 14, 15, 16, 17, 18, 19, 20, 21, 22, 23, 24, 25, 26, 27] (fun zb => [(13, .v (.s (.int .i64 zb.1.1))), (7, .v (.s zb.1.2.2))]) (fun zb => zb.1.2.1) (fun zb => l.length - zb.1.1) ⟨(0, _, _), Nat.zero_le _, Ext.push _ _, fr_lit0⟩ ?_ rfl ?_
  · (conv => whnf); repeat' (first | exact trivial | exact rfl | apply And.intro)
  rintro ⟨⟨i, Si, ci⟩, hi, hE, hF⟩; dsimp only
  replace hi : i ≤ l.length := hi
  replace hE : Ext S Si := hE
  replace hF : Fr S.length Si [.sl 6 (((l.take i).filter (edBy by' is)).map GEdit.d)] [ci] := hF
  have hfl := filter_len (edBy by' is) l i
  repeat' ((conv => whnf) <;> first
   | rw [wrapI_i64 (by omega)] | refine cD (fun _ => ?_) fun _ => ?_ | refine rI rdA rf ix ?_ | refine rd_loadf rdA tv ix ?_ | (refine fr_app1 (f := GEdit.d) aN aN tv (by rfl) rf (by dsimp only [T56]; omega) om ?_; intro cN SN hEN hFN) | refine And.intro ?_ ?_)
  all_goals first
    | exact hE
    | (rw [List.take_of_length_le (by omega)] at hF; exact ⟨_, rfl, hF⟩)
    | (refine ⟨⟨(i + 1, _, _), by dsimp only; omega, by assumption, by first | (rw [filter_t (by omega) (by simp_all [edBy])]; assumption) | (rw [filter_f (by omega) (by simp_all [edBy])]; assumption)⟩, ?_, rfl, by dsimp only; omega⟩; (conv => whnf); repeat' (first | exact trivial | exact rfl | apply And.intro))
def edBy1 (by' : Int) (x : GEdit) : Bool := decide (x.By = by')
def edNot (by' : Int) (x : GEdit) : Bool := !decide (x.By = by')
def grOf (ext : Int) (x : GGrant) : Bool := decide (x.Ext = ext)
def ruOf (ext : Int) (x : GRule) : Bool := decide (x.Ext = ext)
def stNot (ext : Int) (x : GStored) : Bool := !decide (x.Ext = ext)
def stOf (ext : Int) (x : GStored) : Bool := decide (x.Ext = ext)
end
section
open Go Go.ChangeShapes Go.WideShapes Go.ChangeAt Go.RowKit
def packGo (ext : Int) : List GPackage → Nat → Int
  | [], _ => -1
  | p :: r, i => if p.Ext = ext then i else packGo ext r (i + 1)
def packOf (b : GBrowser) (ext : Int) : Int := packGo ext b.Packs 0
theorem packGo_lt (ext : Int) : ∀ (l : List GPackage) (i : Nat), -1 ≤ packGo ext l i ∧ packGo ext l i < i + l.length
  | [], i => by simp only [packGo, List.length_nil]; omega
  | p :: r, i => by
    have := packGo_lt ext r (i + 1)
    simp only [packGo, List.length_cons]
    split <;> omega
theorem packOf_lt (b : GBrowser) (ext : Int) : -1 ≤ packOf b ext ∧ packOf b ext < b.Packs.length := by
  have := packGo_lt ext b.Packs 0
  unfold packOf; omega
def isClicked (t : GTab) (tick : Int) : Bool := inR t.Click 0 10000 && inR tick t.Click (t.Click + 2)
theorem ev_iIsClicked (t : GTab) (tick : Int) (cs : List C) (S : Store) (h : Rd S t.d cs) : EvA Try.prog 14 [.agg cs, .s (.int .i64 tick)] S (fun r S' => r = .v (.s (.bool (isClicked t tick))) ∧ S' = S) := by
  obtain ⟨_, _, _, rfl, _, _, _⟩ := GTab.inv h
  refine evA_intro tok Try.func14 (by kernel_rfl) rfl ?_
  repeat' ((conv => whnf) <;> first
   | rw [wrapI_i64 (by omega)] | refine cD (fun _ => ?_) fun _ => ?_ | refine cE (fun _ => ?_) fun _ => ?_ | refine cT ?_ | refine cF ?_ | refine condP_inR (fun _ _ => ?_) (fun _ _ => ?_) | refine condP_ninR (fun _ _ => ?_) (fun _ _ => ?_) | refine cN (fun _ => ?_) fun _ => ?_ | refine cI (fun _ => ?_) fun _ => ?_ | refine callP_eq (ev_InRange _ _ _ _) ?_ | refine nP ?_ | refine And.intro ?_ ?_)
  all_goals first | rfl | (simp_all [resAV, isClicked]; done)
def tabNo (b : GBrowser) (tab : Int) : Option GTab := if 0 ≤ tab then b.Tabs[tab.toNat]? else none
theorem tabNo_in {b : GBrowser} {tab : Int} (h : 0 ≤ tab ∧ tab.toNat < b.Tabs.length) : tabNo b tab = some (b.Tabs[tab.toNat]'h.2) := by
  unfold tabNo; rw [if_pos h.1, List.getElem?_eq_getElem h.2]
theorem tabNo_out {b : GBrowser} {tab : Int} (h : ¬ (0 ≤ tab ∧ tab.toNat < b.Tabs.length)) : tabNo b tab = none := by
  unfold tabNo
  split
  · rw [List.getElem?_eq_none (by omega)]
  · rfl
def mayAct (b : GBrowser) (ext tab kind : Int) : Bool := decide (0 ≤ packOf b ext) && (match tabNo b tab with
  | some t => mayDo b.Grants b.Limits ext t.Site kind b.Now (isClicked t b.Now)
  | none => false)
def rulesLeft (b : GBrowser) : Int := maxI 0 (20 - b.Rules.length)
theorem maxI_def (x y : Int) : maxI x y = if y > x then y else x := by unfold maxI; rfl
theorem flen {α : Type} (P : α → Bool) : ∀ l : List α, (l.filter P).length + (l.filter fun x => !P x).length = l.length
  | [] => rfl
  | x :: l => by
    have := flen P l
    simp only [List.filter_cons]
    cases P x <;> simp <;> omega
def storedBy (b : GBrowser) (ext : Int) : Int := (b.Store.filter (stOf ext)).length
theorem stNot_eq (ext : Int) : stNot ext = fun x => !stOf ext x := rfl
theorem edNot_eq (by' : Int) : edBy by' false = edNot by' := by funext x; simp only [edBy, edNot]; cases decide (x.By = by') <;> rfl
theorem edBy1_eq (by' : Int) : edBy by' true = edBy1 by' := by funext x; simp only [edBy, edBy1]; cases decide (x.By = by') <;> rfl
theorem ev_iWithoutBy (l : List GEdit) (by' : Int) (c : C) (S : Store) (h : Rd S [.sl 6 (l.map GEdit.d)] [c]) (hz : l.length ≤ 4194304) : EvA Try.prog 22 [.s c, .s (.int .i64 by')] S (fun r S' => Ext S S' ∧ ∃ c', r = .v (.s c') ∧ Fr S.length S' [.sl 6 ((l.filter (edNot by')).map GEdit.d)] [c']) := by
  rw [← edNot_eq]
  refine evA_intro tok Try.func22 (by kernel_rfl) rfl ?_
  repeat' ((conv => whnf) <;> first
   | (refine callP_intro (ev_editsOf _ _ _ _ _ rdA om) ?_; rintro _ Sn ⟨hEn, cn, rfl, hFn⟩) | refine And.intro ?_ ?_)
  all_goals first | assumption | exact ⟨_, rfl, by assumption⟩
def editShare (b : GBrowser) (tab : Int) : Int × Int := match tabNo b tab with
  | some t => (((t.Edits.filter (edNot 0)).length : Int), (t.Edits.length : Int))
  | none => (0, 0)
end
section
open Go Go.ChangeShapes Go.WideShapes Go.ChangeAt Go.RowKit
def packageOf (b : GBrowser) (ext : Int) : GPackage := if 0 ≤ packOf b ext then b.Packs.getD (packOf b ext).toNat default else default
theorem rd_empty {S : Store} {k : Nat} : Rd S [.sl k []] [.nil] := rd_one (q := false) (ids := []) (by unfold Rep; exact ⟨Nat.zero_le _, .inl ⟨rfl, .inl rfl, rfl⟩⟩)
theorem packageOf_in {b : GBrowser} {ext : Int} (h : 0 ≤ packOf b ext) (h2 : (packOf b ext).toNat < b.Packs.length) : packageOf b ext = b.Packs[(packOf b ext).toNat] := by
  unfold packageOf; rw [if_pos h, List.getD_eq_getElem?_getD, List.getElem?_eq_getElem h2]; rfl
theorem packageOf_out {b : GBrowser} {ext : Int} (h : ¬ 0 ≤ packOf b ext) : packageOf b ext = default := by unfold packageOf; rw [if_neg h]
def idxGo (v : GRule) : List GRule → Nat → Int
  | [], _ => -1
  | x :: r, i => if v = x then i else idxGo v r (i + 1)
theorem idxGo_mem (v : GRule) : ∀ (l : List GRule) (i : Nat), (0 ≤ idxGo v l i) ↔ v ∈ l
  | [], i => by simp [idxGo]
  | x :: r, i => by
    rw [idxGo, List.mem_cons]
    split
    · rename_i h; subst h; simp
    · rename_i h; rw [idxGo_mem v r (i + 1)]; simp [h]
def isRuled (b : GBrowser) : Bool := b.Rules.all fun r => decide (r ∈ (packageOf b r.Ext).Rules)
theorem mem_any {α : Type} [DecidableEq α] (v : α) (l : List α) : decide (v ∈ l) = l.any fun x => decide (x = v) := by
  rw [Bool.eq_iff_iff]; simp
theorem any_take {α : Type} (P : α → Bool) (l : List α) (j : Nat) (h : j < l.length) : (l.take (j + 1)).any P = ((l.take j).any P || P l[j]) := by
  rw [List.take_succ_eq_append_getElem h, List.any_append]; simp
end
section
open Go Go.ChangeShapes Go.WideShapes Go.ChangeAt Go.RowKit
def within1 (x : GGrant) (y : GGrant) : Bool := isGrant x && isGrant y && decide (x.Ext = y.Ext) && decide (x.Kind = y.Kind) && narrower x.Pattern y.Pattern && decide (y.From ≤ x.From) && decide (x.Until ≤ y.Until) && (x.Click || !y.Click)
def withinGrants (a b : List GGrant) : Bool := a.all fun x => b.any fun y => within1 x y
def powGo (P : Int → Bool) : Nat → List Int
  | 0 => []
  | n + 1 => powGo P n ++ (if P ((n : Int) + 1) then [(n : Int) + 1] else [])
theorem powGo_len (P : Int → Bool) : ∀ n, (powGo P n).length ≤ n
  | 0 => Nat.le_refl _
  | n + 1 => by
    have := powGo_len P n
    rw [powGo, List.length_append]
    split <;> simp <;> omega
theorem powGo_t {P : Int → Bool} {n : Nat} (h : P ((n : Int) + 1) = true) : powGo P (n + 1) = powGo P n ++ [(n : Int) + 1] := by rw [powGo, if_pos h]
theorem powGo_f {P : Int → Bool} {n : Nat} (h : P ((n : Int) + 1) = false) : powGo P (n + 1) = powGo P n := by rw [powGo, if_neg (by simp [h]), List.append_nil]
def powersOf (b : GBrowser) (ext : Int) (s : GSite) : List Int := powGo (fun k => mayDo b.Grants b.Limits ext s k b.Now false) 4
def installed (b : GBrowser) : List Int := b.Packs.map GPackage.Ext
def ruleOn (b : GBrowser) (s : GSite) (r : GRule) : Bool := !isDenied b.Limits r.Ext s 3
def rulesInForce (b : GBrowser) (s : GSite) : List GRule := b.Rules.filter (ruleOn b s)
end
end Go.Proofs.Ytfkfoidojmjacaa
