/- Patterns, grants, limits. Lists that are filtered. -/
import Derived.Test.YtockphlpokoohaaGreatKq22
namespace Go.Proofs.YtockphlpokoohaaGreat
open Go Go.ChangeShapes Go.WideShapes Go.ChangeAt Go.RowKit
set_option linter.unusedVariables false
set_option linter.unusedSimpArgs false
set_option maxRecDepth 100000
def isPattern (p : GPattern) : Bool := inR p.Owner 0 9 && inR p.Sub (-1) 9
theorem ev_sIsPattern (p : GPattern) (S : Store) : EvA Tryz.prog 382 [.agg p.c] S (fun r S' => r = .v (.s (.bool (isPattern p))) ∧ S' = S) := by
  refine evA_intro tok Tryz.func382 (by kernel_rfl) rfl ?_
  repeat' ((conv => whnf) <;> first
   | refine condP_inR (fun _ _ => ?_) (fun _ _ => ?_) | refine callP_eq (ev_l1In _ _ _ _) ?_ | refine And.intro ?_ ?_)
  all_goals first | rfl | (simp_all [resAV, isPattern]; done) | (simp_all [resAV, isPattern]; intros; omega)
theorem ev_iIsPattern (p : GPattern) (S : Store) : EvA Tryz.prog 199 [.agg p.c] S (fun r S' => r = .v (.s (.bool (isPattern p))) ∧ S' = S) := by
  refine evA_intro tok Tryz.func199 (by kernel_rfl) rfl ?_
  repeat' ((conv => whnf) <;> first
   | refine condP_inR (fun _ _ => ?_) (fun _ _ => ?_) | refine callP_eq (ev_InRange _ _ _ _) ?_ | refine And.intro ?_ ?_)
  all_goals first | rfl | (simp_all [resAV, isPattern]; done) | (simp_all [resAV, isPattern]; intros; omega)
def matchSite (p : GPattern) (s : GSite) : Bool := isPattern p && isSite s && (decide (p.Owner = 0) || decide (p.Owner = s.Owner)) && (decide (p.Sub = -1) || decide (p.Sub = s.Sub))
theorem ev_iMatchSite (p : GPattern) (s : GSite) (S : Store) : EvA Tryz.prog 214 [.agg p.c, .agg s.c] S (fun r S' => r = .v (.s (.bool (matchSite p s))) ∧ S' = S) := by
  refine evA_intro tok Tryz.func214 (by kernel_rfl) rfl ?_
  repeat' ((conv => whnf) <;> first
   | refine cD (fun _ => ?_) fun _ => ?_ | refine cT ?_ | refine cF ?_ | refine cI (fun _ => ?_) fun _ => ?_ | refine callP_eq (ev_iIsSite _ _) ?_ | refine callP_eq (ev_iIsPattern _ _) ?_ | refine And.intro ?_ ?_)
  all_goals first | rfl | (simp_all [resAV, matchSite]; done) | (simp_all [resAV, matchSite]; intros; omega)
def isGrant (g : GGrant) : Bool := inR g.Ext 1 5 && isPattern g.Pattern && inR g.Kind 1 4 && decide (0 ≤ g.From) && decide (g.From ≤ g.Until) && decide (g.Until ≤ 10000)
theorem ev_sIsGrant (g : GGrant) (S : Store) : EvA Tryz.prog 333 [.agg g.c] S (fun r S' => r = .v (.s (.bool (isGrant g))) ∧ S' = S) := by
  refine evA_intro tok Tryz.func333 (by kernel_rfl) rfl ?_
  repeat' ((conv => whnf) <;> first
   | refine cD (fun _ => ?_) fun _ => ?_ | refine cF ?_ | refine condP_inR (fun _ _ => ?_) (fun _ _ => ?_) | refine cI (fun _ => ?_) fun _ => ?_ | refine callP_eq (ev_l1In _ _ _ _) ?_ | refine callP_eq (ev_sIsPattern _ _) ?_ | refine And.intro ?_ ?_)
  all_goals first | rfl | (simp_all [resAV, isGrant]; done) | (simp_all [resAV, isGrant]; intros; omega)
theorem ev_iIsGrant (g : GGrant) (S : Store) : EvA Tryz.prog 109 [.agg g.c] S (fun r S' => r = .v (.s (.bool (isGrant g))) ∧ S' = S) := by
  refine evA_intro tok Tryz.func109 (by kernel_rfl) rfl ?_
  repeat' ((conv => whnf) <;> first
   | refine cD (fun _ => ?_) fun _ => ?_ | refine cF ?_ | refine condP_inR (fun _ _ => ?_) (fun _ _ => ?_) | refine cI (fun _ => ?_) fun _ => ?_ | refine callP_eq (ev_InRange _ _ _ _) ?_ | refine callP_eq (ev_iIsPattern _ _) ?_ | refine And.intro ?_ ?_)
  all_goals first | rfl | (simp_all [resAV, isGrant]; done) | (simp_all [resAV, isGrant]; intros; omega)
def covers (g : GGrant) (ext : Int) (s : GSite) (kind : Int) (tick : Int) (clicked : Bool) : Bool := isGrant g && decide (g.Ext = ext) && decide (g.Kind = kind) && matchSite g.Pattern s && inR tick g.From g.Until && (clicked || !g.Click)
theorem ev_iCovers (g : GGrant) (ext : Int) (s : GSite) (kind : Int) (tick : Int) (clicked : Bool) (S : Store) : EvA Tryz.prog 213 [.agg g.c, .s (.int .i64 ext), .agg s.c, .s (.int .i64 kind), .s (.int .i64 tick), .s (.bool clicked)] S (fun r S' => r = .v (.s (.bool (covers g ext s kind tick clicked))) ∧ S' = S) := by
  refine evA_intro tok Tryz.func213 (by kernel_rfl) rfl ?_
  repeat' ((conv => whnf) <;> first
   | refine cD (fun _ => ?_) fun _ => ?_ | refine cF ?_ | refine condP_inR (fun _ _ => ?_) (fun _ _ => ?_) | refine cI (fun _ => ?_) fun _ => ?_ | refine callP_eq (ev_InRange _ _ _ _) ?_ | refine callP_eq (ev_iIsGrant _ _) ?_ | refine callP_eq (ev_iMatchSite _ _ _) ?_ | refine And.intro ?_ ?_)
  all_goals first | rfl | (simp_all [resAV, covers]; done) | (simp_all [resAV, covers]; intros; omega)
def isAllowed (l : List GGrant) (ext : Int) (s : GSite) (kind : Int) (tick : Int) (clicked : Bool) : Bool := l.any fun x => covers x ext s kind tick clicked
theorem ev_iIsAllowed (l : List GGrant) (ext : Int) (s : GSite) (kind : Int) (tick : Int) (clicked : Bool) (c : C) (S : Store) (h : Rd S [.sl 7 (l.map GGrant.d)] [c]) : EvA Tryz.prog 125 [.s c, .s (.int .i64 ext), .agg s.c, .s (.int .i64 kind), .s (.int .i64 tick), .s (.bool clicked)] S (fun r S' => r = .v (.s (.bool (isAllowed l ext s kind tick clicked))) ∧ S' = S) := by
  refine evA_intro tok Tryz.func125 (by kernel_rfl) rfl ?_
  repeat' ((conv => whnf) <;> first
   | refine rE fun hml => ?_)
  refine loop_intro {i : Nat // i ≤ l.length ∧ isAllowed (l.drop i) ext s kind tick clicked = isAllowed l ext s kind tick clicked} [12, 14, 17, 18, 19, 20, 21, 22, 23, 24, 25, 26, 27, 28] (fun zb => [(17, .v (.s (.int .i64 zb.1)))]) (fun _ => S) (fun zb => l.length - zb.1) ⟨0, Nat.zero_le _, by simp⟩ ?_ rfl ?_
  · (conv => whnf); repeat' (first | exact trivial | exact rfl | apply And.intro)
  rintro ⟨i, hi, hinv⟩; dsimp only
  repeat' ((conv => whnf) <;> first
   | rw [wrapI_i64 (by omega)] | refine cD (fun _ => ?_) fun _ => ?_ | refine cI (fun _ => ?_) fun _ => ?_ | refine callP_eq (ev_iCovers _ _ _ _ _ _ _) ?_ | refine rI aN rf ix ?_ | refine rd_loadf aN tv ix ?_ | refine And.intro ?_ ?_)
  all_goals first
    | rfl
    | (rw [drop_end (by omega)] at hinv; rw [← hinv]; rfl)
    | (rw [drop_at (by omega)] at hinv; simp only [isAllowed, List.any_cons] at hinv
       first
         | (rw [show isAllowed l ext s kind tick clicked = true from by simp only [isAllowed]; rw [← hinv]; simp_all]; rfl)
         | (refine ⟨⟨i + 1, by omega, by simp only [isAllowed]; rw [← hinv]; simp_all⟩, ?_, rfl, by simp; omega⟩; (conv => whnf); repeat' (first | exact trivial | exact rfl | apply And.intro)))
def isLimit (x : GLimit) : Bool := inR x.Ext 0 5 && isPattern x.Pattern && inR x.Kind 0 4
theorem ev_sIsLimit (x : GLimit) (S : Store) : EvA Tryz.prog 372 [.agg x.c] S (fun r S' => r = .v (.s (.bool (isLimit x))) ∧ S' = S) := by
  refine evA_intro tok Tryz.func372 (by kernel_rfl) rfl ?_
  repeat' ((conv => whnf) <;> first
   | refine cF ?_ | refine condP_inR (fun _ _ => ?_) (fun _ _ => ?_) | refine cI (fun _ => ?_) fun _ => ?_ | refine callP_eq (ev_l1In _ _ _ _) ?_ | refine callP_eq (ev_sIsPattern _ _) ?_ | refine And.intro ?_ ?_)
  all_goals first | rfl | (simp_all [resAV, isLimit]; done) | (simp_all [resAV, isLimit]; intros; omega)
theorem ev_iIsLimit (x : GLimit) (S : Store) : EvA Tryz.prog 110 [.agg x.c] S (fun r S' => r = .v (.s (.bool (isLimit x))) ∧ S' = S) := by
  refine evA_intro tok Tryz.func110 (by kernel_rfl) rfl ?_
  repeat' ((conv => whnf) <;> first
   | refine cF ?_ | refine condP_inR (fun _ _ => ?_) (fun _ _ => ?_) | refine cI (fun _ => ?_) fun _ => ?_ | refine callP_eq (ev_InRange _ _ _ _) ?_ | refine callP_eq (ev_iIsPattern _ _) ?_ | refine And.intro ?_ ?_)
  all_goals first | rfl | (simp_all [resAV, isLimit]; done) | (simp_all [resAV, isLimit]; intros; omega)
def denied1 (x : GLimit) (ext : Int) (s : GSite) (kind : Int) : Bool := isLimit x && (decide (x.Ext = 0) || decide (x.Ext = ext)) && (decide (x.Kind = 0) || decide (x.Kind = kind)) && matchSite x.Pattern s
def isDenied (l : List GLimit) (ext : Int) (s : GSite) (kind : Int) : Bool := l.any fun x => denied1 x ext s kind
theorem ev_iIsDenied (l : List GLimit) (ext : Int) (s : GSite) (kind : Int) (c : C) (S : Store) (h : Rd S [.sl 4 (l.map GLimit.d)] [c]) : EvA Tryz.prog 126 [.s c, .s (.int .i64 ext), .agg s.c, .s (.int .i64 kind)] S (fun r S' => r = .v (.s (.bool (isDenied l ext s kind))) ∧ S' = S) := by
  refine evA_intro tok Tryz.func126 (by kernel_rfl) rfl ?_
  repeat' ((conv => whnf) <;> first
   | refine rE fun hml => ?_)
  refine loop_intro {i : Nat // i ≤ l.length ∧ isDenied (l.drop i) ext s kind = isDenied l ext s kind} [8, 10, 13, 14, 15, 16, 17, 18, 19, 20, 21, 22, 23, 24, 25, 26, 27, 28, 29, 30, 31, 32, 33, 34, 35, 36, 37, 38, 39, 40, 41, 42, 43, 44, 45, 46, 47] (fun zb => [(13, .v (.s (.int .i64 zb.1)))]) (fun _ => S) (fun zb => l.length - zb.1) ⟨0, Nat.zero_le _, by simp⟩ ?_ rfl ?_
  · (conv => whnf); repeat' (first | exact trivial | exact rfl | apply And.intro)
  rintro ⟨i, hi, hinv⟩; dsimp only
  repeat' ((conv => whnf) <;> first
   | rw [wrapI_i64 (by omega)] | refine cD (fun _ => ?_) fun _ => ?_ | refine cT ?_ | refine cF ?_ | refine cI (fun _ => ?_) fun _ => ?_ | refine callP_eq (ev_iIsLimit _ _) ?_ | refine callP_eq (ev_iMatchSite _ _ _) ?_ | refine rI aN rf ix ?_ | refine rd_loadf aN tv ix ?_ | refine And.intro ?_ ?_)
  all_goals first
    | rfl
    | (rw [drop_end (by omega)] at hinv; rw [← hinv]; rfl)
    | (rw [drop_at (by omega)] at hinv; simp only [isDenied, List.any_cons] at hinv
       first
         | (rw [show isDenied l ext s kind = true from by simp only [isDenied]; rw [← hinv]; simp_all [denied1]]; rfl)
         | (refine ⟨⟨i + 1, by omega, by simp only [isDenied]; rw [← hinv]; simp_all [denied1]⟩, ?_, rfl, by simp; omega⟩; (conv => whnf); repeat' (first | exact trivial | exact rfl | apply And.intro)))
def mayDo (g : List GGrant) (l : List GLimit) (ext : Int) (s : GSite) (kind tick : Int) (clicked : Bool) : Bool := isAllowed g ext s kind tick clicked && !isDenied l ext s kind
theorem ev_iMayDo (g : List GGrant) (l : List GLimit) (ext : Int) (s : GSite) (kind tick : Int) (clicked : Bool) (c c' : C) (S : Store) (h : Rd S [.sl 7 (g.map GGrant.d)] [c]) (h' : Rd S [.sl 4 (l.map GLimit.d)] [c']) : EvA Tryz.prog 25 [.s c, .s c', .s (.int .i64 ext), .agg s.c, .s (.int .i64 kind), .s (.int .i64 tick), .s (.bool clicked)] S (fun r S' => r = .v (.s (.bool (mayDo g l ext s kind tick clicked))) ∧ S' = S) := by
  refine evA_intro tok Tryz.func25 (by kernel_rfl) rfl ?_
  repeat' ((conv => whnf) <;> first
   | refine cI (fun _ => ?_) fun _ => ?_ | refine callP_eq (ev_iIsAllowed _ _ _ _ _ _ _ _ aN) ?_ | refine callP_eq (ev_iIsDenied _ _ _ _ _ _ aN) ?_ | refine And.intro ?_ ?_)
  all_goals first | rfl | (simp_all [resAV, mayDo]; done)
end Go.Proofs.YtockphlpokoohaaGreat
namespace Go.Proofs.YtockphlpokoohaaGreat
set_option linter.unusedVariables false
set_option linter.unusedSimpArgs false
set_option maxRecDepth 100000
section
open Go Go.ChangeShapes Go.WideShapes Go.ChangeAt Go.RowKit
def ruOf (ext : Int) (x : GRule) : Bool := decide (x.Ext = ext)
theorem ev_sRulesOf (l : List GRule) (ext : Int) (c : C) (S : Store) (h : Rd S [.sl 8 (l.map GRule.d)] [c]) (hz : l.length ≤ 4194304) : EvA Tryz.prog 373 [.s c, .s (.int .i64 ext)] S (fun r S' => Ext S S' ∧ ∃ c', r = .v (.s c') ∧ Fr S.length S' [.sl 8 ((l.filter (ruOf ext)).map GRule.d)] [c']) := by
  refine evA_intro tok Tryz.func373 (by kernel_rfl) rfl ?_
  skip
  refine loop_intro {p : Nat × Store × C // p.1 ≤ l.length ∧ Ext S p.2.1 ∧ Fr S.length p.2.1 [.sl 8 (((l.take p.1).filter (ruOf ext)).map GRule.d)] [p.2.2]} [5, 6, 8, 9, 10, 11, 12, 13, 14, 15, 16, 17, 18, 19, 20, 21, 22, 23, 24, 25, 26, 27] (fun zb => [(6, .v (.s (.int .i64 zb.1.1))), (5, .v (.s zb.1.2.2))]) (fun zb => zb.1.2.1) (fun zb => l.length - zb.1.1) ⟨(0, _, _), Nat.zero_le _, Ext.push _ _, fr_lit0⟩ ?_ rfl ?_
  · (conv => whnf); repeat' (first | exact trivial | exact rfl | apply And.intro)
  rintro ⟨⟨i, Si, ci⟩, hi, hE, hF⟩; dsimp only
  replace hi : i ≤ l.length := hi
  replace hE : Ext S Si := hE
  replace hF : Fr S.length Si [.sl 8 (((l.take i).filter (ruOf ext)).map GRule.d)] [ci] := hF
  have hfl := filter_len (ruOf ext) l i
  repeat' ((conv => whnf) <;> first
   | rw [wrapI_i64 (by omega)] | refine cD (fun _ => ?_) fun _ => ?_ | refine rE fun hml => ?_ | refine rI rdA rf ix ?_ | refine rd_loadf rdA tv ix ?_ | (refine fr_app1 (f := GRule.d) aN aN tv (by rfl) rf (by dsimp only [T151]; omega) om ?_; intro cN SN hEN hFN) | refine And.intro ?_ ?_)
  all_goals first
    | exact hE
    | (rw [List.take_of_length_le (by omega)] at hF; exact ⟨_, rfl, hF⟩)
    | (refine ⟨⟨(i + 1, _, _), by dsimp only; omega, by assumption, by first | (rw [filter_t (by omega) (by simp_all [ruOf])]; assumption) | (rw [filter_f (by omega) (by simp_all [ruOf])]; assumption)⟩, ?_, rfl, by dsimp only; omega⟩; (conv => whnf); repeat' (first | exact trivial | exact rfl | apply And.intro))
end
section
open Go Go.ChangeShapes Go.WideShapes Go.ChangeAt Go.RowKit
def packGo (ext : Int) : List GPackage → Nat → Int
  | [], _ => -1
  | p :: r, i => if p.Ext = ext then i else packGo ext r (i + 1)
def packOf (b : GBrowser) (ext : Int) : Int := packGo ext b.Packs 0
theorem packGo_lt (ext : Int) : ∀ (l : List GPackage) (i : Nat), -1 ≤ packGo ext l i ∧ packGo ext l i < i + l.length
  | [], i => by simp only [packGo, List.length_nil]; omega
  | p :: r, i => by
    have := packGo_lt ext r (i + 1)
    simp only [packGo, List.length_cons]
    split <;> omega
theorem packOf_lt (b : GBrowser) (ext : Int) : -1 ≤ packOf b ext ∧ packOf b ext < b.Packs.length := by
  have := packGo_lt ext b.Packs 0
  unfold packOf; omega
theorem ev_sPackOf (b : GBrowser) (ext : Int) (cs : List C) (S : Store) (h : Rd S b.d cs) : EvA Tryz.prog 254 [.agg cs, .s (.int .i64 ext)] S (fun r S' => r = .v (.s (.int .i64 (packOf b ext))) ∧ S' = S) := by
  obtain ⟨_, _, _, _, _, _, rfl, _, _, _, _, _, _⟩ := GBrowser.inv h
  refine evA_intro tok Tryz.func254 (by kernel_rfl) rfl ?_
  skip
  refine loop_intro {i : Nat // i ≤ b.Packs.length ∧ packGo ext (b.Packs.drop i) i = packOf b ext} [4, 5, 6, 7, 8, 9, 10, 11, 12, 13, 14, 15, 16, 17, 18, 19, 20, 21] (fun zb => [(5, .v (.s (.int .i64 zb.1)))]) (fun _ => S) (fun zb => b.Packs.length - zb.1) ⟨0, Nat.zero_le _, rfl⟩ ?_ rfl ?_
  · (conv => whnf); repeat' (first | exact trivial | exact rfl | apply And.intro)
  rintro ⟨i, hi, hinv⟩; dsimp only
  repeat' ((conv => whnf) <;> first
   | rw [wrapI_i64 (by omega)] | refine cD (fun _ => ?_) fun _ => ?_ | refine rE fun hml => ?_ | refine rI aN rf ix ?_ | (refine rd_loadm (f := GPackage.d) aN ix ?_; intro _ hcs; obtain ⟨_, _, _, _, rfl, _, _, _, _⟩ := GPackage.inv hcs) | refine And.intro ?_ ?_)
  all_goals first
    | rfl
    | (rw [drop_at (by omega), packGo] at hinv; rw [if_pos (by assumption)] at hinv; rw [← hinv]; rfl)
    | (rw [drop_end (by omega), packGo] at hinv; rw [← hinv]; rfl)
    | (refine ⟨⟨i + 1, by omega, by rw [drop_at (by omega), packGo] at hinv; rw [if_neg (by assumption)] at hinv; exact hinv⟩, ?_, rfl, by simp; omega⟩; (conv => whnf); repeat' (first | exact trivial | exact rfl | apply And.intro))
theorem ev_iPackOf (b : GBrowser) (ext : Int) (cs : List C) (S : Store) (h : Rd S b.d cs) : EvA Tryz.prog 17 [.agg cs, .s (.int .i64 ext)] S (fun r S' => r = .v (.s (.int .i64 (packOf b ext))) ∧ S' = S) := by
  obtain ⟨_, _, _, _, _, _, rfl, _, _, _, _, _, _⟩ := GBrowser.inv h
  refine evA_intro tok Tryz.func17 (by kernel_rfl) rfl ?_
  repeat' ((conv => whnf) <;> first
   | refine rE fun hml => ?_)
  refine loop_intro {i : Nat // i ≤ b.Packs.length ∧ packGo ext (b.Packs.drop i) i = packOf b ext} [4, 5, 6, 10, 11, 12, 13, 14, 15, 16, 17, 18, 19, 20] (fun zb => [(10, .v (.s (.int .i64 zb.1)))]) (fun _ => S) (fun zb => b.Packs.length - zb.1) ⟨0, Nat.zero_le _, rfl⟩ ?_ rfl ?_
  · (conv => whnf); repeat' (first | exact trivial | exact rfl | apply And.intro)
  rintro ⟨i, hi, hinv⟩; dsimp only
  repeat' ((conv => whnf) <;> first
   | rw [wrapI_i64 (by omega)] | refine cD (fun _ => ?_) fun _ => ?_ | refine rI aN rf ix ?_ | (refine rd_loadm (f := GPackage.d) aN ix ?_; intro _ hcs; obtain ⟨_, _, _, _, rfl, _, _, _, _⟩ := GPackage.inv hcs) | refine And.intro ?_ ?_)
  all_goals first
    | rfl
    | (rw [drop_at (by omega), packGo] at hinv; rw [if_pos (by assumption)] at hinv; rw [← hinv]; rfl)
    | (rw [drop_end (by omega), packGo] at hinv; rw [← hinv]; rfl)
    | (refine ⟨⟨i + 1, by omega, by rw [drop_at (by omega), packGo] at hinv; rw [if_neg (by assumption)] at hinv; exact hinv⟩, ?_, rfl, by simp; omega⟩; (conv => whnf); repeat' (first | exact trivial | exact rfl | apply And.intro))
end
section
open Go Go.ChangeShapes Go.WideShapes Go.ChangeAt Go.RowKit
def packageOf (b : GBrowser) (ext : Int) : GPackage := if 0 ≤ packOf b ext then b.Packs.getD (packOf b ext).toNat default else default
theorem packageOf_in {b : GBrowser} {ext : Int} (h : 0 ≤ packOf b ext) (h2 : (packOf b ext).toNat < b.Packs.length) : packageOf b ext = b.Packs[(packOf b ext).toNat] := by
  unfold packageOf; rw [if_pos h, List.getD_eq_getElem?_getD, List.getElem?_eq_getElem h2]; rfl
end
section
open Go Go.ChangeShapes Go.WideShapes Go.ChangeAt Go.RowKit
def powGo (P : Int → Bool) : Nat → List Int
  | 0 => []
  | n + 1 => powGo P n ++ (if P ((n : Int) + 1) then [(n : Int) + 1] else [])
theorem powGo_len (P : Int → Bool) : ∀ n, (powGo P n).length ≤ n
  | 0 => Nat.le_refl _
  | n + 1 => by
    have := powGo_len P n
    rw [powGo, List.length_append]
    split <;> simp <;> omega
theorem powGo_t {P : Int → Bool} {n : Nat} (h : P ((n : Int) + 1) = true) : powGo P (n + 1) = powGo P n ++ [(n : Int) + 1] := by rw [powGo, if_pos h]
theorem powGo_f {P : Int → Bool} {n : Nat} (h : P ((n : Int) + 1) = false) : powGo P (n + 1) = powGo P n := by rw [powGo, if_neg (by simp [h]), List.append_nil]
def ruleOn (b : GBrowser) (s : GSite) (r : GRule) : Bool := !isDenied b.Limits r.Ext s 3
def rulesInForce (b : GBrowser) (s : GSite) : List GRule := b.Rules.filter (ruleOn b s)
theorem ev_iRulesInForce (b : GBrowser) (s : GSite) (cs : List C) (S : Store) (h : Rd S b.d cs) (hz : szL b.d ≤ 1048576) : EvA Tryz.prog 30 [.agg cs, .agg s.c] S (fun r S' => Ext S S' ∧ ∃ c', r = .v (.s c') ∧ Fr S.length S' [.sl 8 ((rulesInForce b s).map GRule.d)] [c']) := by
  have hzs := hz
  simp only [GBrowser.d, szL, List.length_map] at hzs
  obtain ⟨_, _, _, _, _, _, rfl, _, _, _, _, _, _⟩ := GBrowser.inv h
  refine evA_intro tok Tryz.func30 (by kernel_rfl) rfl ?_
  repeat' ((conv => whnf) <;> first
   | rw [wrapI_i64 (by omega)] | refine cD (fun _ => ?_) fun _ => ?_ | refine cE (fun _ => ?_) fun _ => ?_ | refine cT ?_ | refine cF ?_ | refine cN (fun _ => ?_) fun _ => ?_ | refine cI (fun _ => ?_) fun _ => ?_ | refine callP_eq (ev_iIsDenied _ _ _ _ _ _ rdA) ?_ | refine callP_eq (ev_iIsDenied _ _ ⟨_, _⟩ _ _ _ rdA) ?_ | refine rE fun hml => ?_ | refine rI rdA rf ix ?_ | refine rd_loadf rdA tv ix ?_ | refine nP ?_ | refine And.intro ?_ ?_)
  refine loop_intro {p : Nat × Store × C // p.1 ≤ b.Rules.length ∧ Ext S p.2.1 ∧ Fr S.length p.2.1 [.sl 8 (((b.Rules.take p.1).filter (ruleOn b s)).map GRule.d)] [p.2.2]} [5, 7, 12, 13, 14, 15, 16, 17, 18, 19, 20, 21, 22, 23, 24, 25, 26, 27] (fun zb => [(12, .v (.s (.int .i64 (zb.1.1)))), (5, .v (.s zb.1.2.2))]) (fun zb => zb.1.2.1) (fun zb => b.Rules.length - zb.1.1) ⟨(0, _, _), Nat.zero_le _, Ext.push _ _, fr_lit0⟩ ?_ rfl ?_
  · (conv => whnf); repeat' (first | exact trivial | exact rfl | apply And.intro)
  rintro ⟨⟨i, Si, ci⟩, hi, hE, hF⟩; dsimp only
  replace hi : i ≤ b.Rules.length := hi
  replace hE : Ext S Si := hE
  replace hF : Fr S.length Si [.sl 8 (((b.Rules.take i).filter (ruleOn b s)).map GRule.d)] [ci] := hF
  have hfl := filter_len (ruleOn b s) b.Rules i
  repeat' ((conv => whnf) <;> first
   | rw [wrapI_i64 (by omega)] | refine cD (fun _ => ?_) fun _ => ?_ | refine cE (fun _ => ?_) fun _ => ?_ | refine cT ?_ | refine cF ?_ | refine cN (fun _ => ?_) fun _ => ?_ | refine cI (fun _ => ?_) fun _ => ?_ | refine callP_eq (ev_iIsDenied _ _ _ _ _ _ rdA) ?_ | refine callP_eq (ev_iIsDenied _ _ ⟨_, _⟩ _ _ _ rdA) ?_ | refine rE fun hml => ?_ | refine rI rdA rf ix ?_ | refine rd_loadf rdA tv ix ?_ | refine nP ?_ | (refine fr_app1 (f := GRule.d) aN aN tv (by rfl) rf (by dsimp only [T151]; omega) om ?_; intro cN SN hEN hFN) | refine And.intro ?_ ?_)
  all_goals first
    | exact hE
    | (rw [List.take_of_length_le (by omega)] at hF; exact ⟨_, rfl, hF⟩)
    | (refine ⟨⟨(i + 1, _, _), by dsimp only; omega, by assumption, by first | (rw [filter_t (by omega) (by simp_all [ruleOn])]; assumption) | (rw [filter_f (by omega) (by simp_all [ruleOn])]; assumption)⟩, ?_, rfl, by dsimp only; omega⟩; (conv => whnf); repeat' (first | exact trivial | exact rfl | (show _ = _; congr 3; dsimp only; omega) | apply And.intro))
end
end Go.Proofs.YtockphlpokoohaaGreat
