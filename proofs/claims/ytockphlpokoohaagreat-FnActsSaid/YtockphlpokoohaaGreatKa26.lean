/- Tabs. Patterns, grants, limits. Lists that are filtered. -/
import Derived.Test.YtockphlpokoohaaGreatKa21
namespace Go.Proofs.YtockphlpokoohaaGreat
open Go Go.ChangeShapes Go.WideShapes Go.ChangeAt Go.RowKit
set_option linter.unusedVariables false
set_option linter.unusedSimpArgs false
set_option maxRecDepth 100000
def okHid (l : List Int) (n : Int) (i : Nat) : Bool := inR n 0 9 && (if i = 0 then true else decide (l.getD (i - 1) 0 < n))
theorem okHid_zero (l : List Int) (n : Int) : okHid l n 0 = inR n 0 9 := by simp [okHid]
theorem okHid_pos {l : List Int} {n : Int} {i : Nat} (h0 : 0 < i) (hl : i ≤ l.length) : okHid l n i = (inR n 0 9 && decide (l[i - 1]'(by omega) < n)) := by
  unfold okHid
  rw [if_neg (by omega), List.getD_eq_getElem?_getD, List.getElem?_eq_getElem (by omega)]; rfl
def hidGo (l : List Int) : List Int → Nat → Bool
  | [], _ => true
  | n :: r, i => if okHid l n i then hidGo l r (i + 1) else false
def isTab (t : GTab) : Bool := isSite t.Site && isDoc t.Base && decide (t.Edits.length ≤ 40) && inR t.Click (-1) 10000 && t.Edits.all isEdit && hidGo t.Hidden t.Hidden 0
theorem and6 {a b c d e f : Bool} (h : (a = false ∨ b = false ∨ c = false ∨ d = false ∨ e = false ∨ f = false)) : (a && b && c && d && e && f) = false := by
  cases a <;> cases b <;> cases c <;> cases d <;> cases e <;> cases f <;> simp at h ⊢
theorem ev_sIsTab (t : GTab) (cs : List C) (S : Store) (h : Rd S t.d cs) : EvA Tryz.prog 322 [.agg cs] S (fun r S' => r = .v (.s (.bool (isTab t))) ∧ S' = S) := by
  obtain ⟨_, _, _, rfl, _, _, _⟩ := GTab.inv h
  refine evA_intro tok Tryz.func322 (by kernel_rfl) rfl ?_
  skip
  all_goals try first
    | rfl
    | (rw [show isTab t = false from and6 (by first | (simp_all; done) | (right; right; left; simp; omega))]; rfl)
  refine loop_intro {i : Nat // i ≤ t.Edits.length ∧ (t.Edits.drop i).all isEdit = t.Edits.all isEdit} [2, 3, 5, 6, 7, 8, 9, 10, 11, 12, 13, 14, 15, 16, 17, 18] (fun zb => [(3, .v (.s (.int .i64 zb.1)))]) (fun _ => S) (fun zb => t.Edits.length - zb.1) ⟨0, Nat.zero_le _, by simp⟩ ?_ rfl ?_
  · (conv => whnf); repeat' (first | exact trivial | exact rfl | apply And.intro)
  rintro ⟨i, hi, hinv⟩; dsimp only
  repeat' ((conv => whnf) <;> first
   | rw [wrapI_i64 (by omega)] | refine cD (fun _ => ?_) fun _ => ?_ | refine cN (fun _ => ?_) fun _ => ?_ | refine callP_eq (ev_sIsEdit _ _) ?_ | refine rE fun hml => ?_ | refine rI aN rf ix ?_ | refine rd_loadf aN tv ix ?_ | refine And.intro ?_ ?_)
  all_goals try first
    | rfl
    | (rw [drop_at (by omega), List.all_cons] at hinv
       rw [show isTab t = false from and6 (by simp_all)]; rfl)
    | (rw [drop_at (by omega), List.all_cons] at hinv
       (refine ⟨⟨i + 1, by omega, by simp_all⟩, ?_, rfl, by simp; omega⟩; (conv => whnf); repeat' (first | exact trivial | exact rfl | apply And.intro)))
  rw [drop_end (by omega), List.all_nil] at hinv
  refine loop_intro {i : Nat // i ≤ t.Hidden.length ∧ hidGo t.Hidden (t.Hidden.drop i) i = hidGo t.Hidden t.Hidden 0} [2, 4, 19, 20, 21, 22, 23, 24, 25, 26, 27, 28, 29, 30, 31, 32, 33, 34, 35, 36, 37, 38, 39, 40, 41, 42, 43, 44, 45, 46, 47, 48, 49, 50] (fun zb => [(4, .v (.s (.int .i64 zb.1)))]) (fun _ => S) (fun zb => t.Hidden.length - zb.1) ⟨0, Nat.zero_le _, by simp⟩ ?_ rfl ?_
  · (conv => whnf); repeat' (first | exact trivial | exact rfl | apply And.intro)
  rintro ⟨i, hi, hinv⟩; dsimp only
  repeat' ((conv => whnf) <;> first
   | rw [wrapI_i64 (by omega)] | refine cD (fun _ => ?_) fun _ => ?_ | refine cT ?_ | refine cF ?_ | refine condP_ninR (fun _ _ => ?_) (fun _ _ => ?_) | refine cI (fun _ => ?_) fun _ => ?_ | refine callP_eq (ev_l1In _ _ _ _) ?_ | refine callP_eq (ev_sIsSite _ _) ?_ | refine callP_eq (ev_sIsDocument _ _ _ aN) ?_ | refine rE fun hml => ?_ | refine rI aN rf ix ?_ | refine rd_loadf aN tv ix ?_ | refine draw_intro 26 [.fl 0, .fl 1, .fl 2, .fl 3, .fl 4, .st 5 [], .fl 6, .fl 7, .fl 8, .fl 9, .fl 10, .fl 11, .fl 12, .fl 13, .fl 14, .fl 15, .fl 16, .fl 17, .fl 18, .fl 19, .fl 20, .fl 21, .fl 22, .fl 23, .fl 24] (by rfl) (by kernel_rfl) ?_ | refine And.intro ?_ ?_)
  all_goals first
    | rfl
    | (rw [drop_end (by omega), hidGo] at hinv
       have hE : isTab t = (isSite t.Site && isDoc t.Base && decide (t.Edits.length ≤ 40) && inR t.Click (-1) 10000) := by
         unfold isTab; rw [← hinv]; simp_all
       rw [hE]
       first
         | (have h40 : t.Edits.length ≤ 40 := by omega
            clear hE
            simp_all [resAV]; done)
         | (clear hE; simp_all [resAV]; done))
    | (rw [drop_end (by omega), hidGo] at hinv
       rw [show isTab t = false from and6 (by first | (simp_all; done) | (right; right; left; simp; omega))]; rfl)
    | (have e : okHid t.Hidden (t.Hidden[i]'(by omega)) i = false := by
         clear hinv
         first
           | (have h0 : i = 0 := by omega
              subst h0; rw [okHid_zero]; simp_all; done)
           | (have h0 : 0 < i := by omega
              rw [okHid_pos h0 (by omega)]
              first | (simp_all [pred_toNat h0]; done) | (simp_all [pred_toNat h0]; intros; omega))
           | (simp_all [okHid]; done)
       rw [drop_at (by omega), hidGo, e] at hinv
       rw [show isTab t = false from and6 (by simp_all)]; rfl)
    | (have e : okHid t.Hidden (t.Hidden[i]'(by omega)) i = true := by
         clear hinv
         first
           | (have h0 : i = 0 := by omega
              subst h0; rw [okHid_zero]; simp_all; done)
           | (have h0 : 0 < i := by omega
              rw [okHid_pos h0 (by omega)]
              first | (simp_all [pred_toNat h0]; done) | (simp_all [pred_toNat h0]; omega))
       (refine ⟨⟨i + 1, by omega, by rw [drop_at (by omega), hidGo, if_pos e] at hinv; exact hinv⟩, ?_, rfl, by simp; omega⟩; (conv => whnf); repeat' (first | exact trivial | exact rfl | apply And.intro)))
end Go.Proofs.YtockphlpokoohaaGreat
namespace Go.Proofs.YtockphlpokoohaaGreat
open Go Go.ChangeShapes Go.WideShapes Go.ChangeAt Go.RowKit
set_option linter.unusedVariables false
set_option linter.unusedSimpArgs false
set_option maxRecDepth 100000
def isPattern (p : GPattern) : Bool := inR p.Owner 0 9 && inR p.Sub (-1) 9
theorem ev_sIsPattern (p : GPattern) (S : Store) : EvA Tryz.prog 382 [.agg p.c] S (fun r S' => r = .v (.s (.bool (isPattern p))) ∧ S' = S) := by
  refine evA_intro tok Tryz.func382 (by kernel_rfl) rfl ?_
  repeat' ((conv => whnf) <;> first
   | refine condP_inR (fun _ _ => ?_) (fun _ _ => ?_) | refine callP_eq (ev_l1In _ _ _ _) ?_ | refine And.intro ?_ ?_)
  all_goals first | rfl | (simp_all [resAV, isPattern]; done) | (simp_all [resAV, isPattern]; intros; omega)
theorem ev_iIsPattern (p : GPattern) (S : Store) : EvA Tryz.prog 199 [.agg p.c] S (fun r S' => r = .v (.s (.bool (isPattern p))) ∧ S' = S) := by
  refine evA_intro tok Tryz.func199 (by kernel_rfl) rfl ?_
  repeat' ((conv => whnf) <;> first
   | refine condP_inR (fun _ _ => ?_) (fun _ _ => ?_) | refine callP_eq (ev_InRange _ _ _ _) ?_ | refine And.intro ?_ ?_)
  all_goals first | rfl | (simp_all [resAV, isPattern]; done) | (simp_all [resAV, isPattern]; intros; omega)
def matchSite (p : GPattern) (s : GSite) : Bool := isPattern p && isSite s && (decide (p.Owner = 0) || decide (p.Owner = s.Owner)) && (decide (p.Sub = -1) || decide (p.Sub = s.Sub))
theorem ev_iMatchSite (p : GPattern) (s : GSite) (S : Store) : EvA Tryz.prog 214 [.agg p.c, .agg s.c] S (fun r S' => r = .v (.s (.bool (matchSite p s))) ∧ S' = S) := by
  refine evA_intro tok Tryz.func214 (by kernel_rfl) rfl ?_
  repeat' ((conv => whnf) <;> first
   | refine cD (fun _ => ?_) fun _ => ?_ | refine cT ?_ | refine cF ?_ | refine cI (fun _ => ?_) fun _ => ?_ | refine callP_eq (ev_iIsSite _ _) ?_ | refine callP_eq (ev_iIsPattern _ _) ?_ | refine And.intro ?_ ?_)
  all_goals first | rfl | (simp_all [resAV, matchSite]; done) | (simp_all [resAV, matchSite]; intros; omega)
def isGrant (g : GGrant) : Bool := inR g.Ext 1 5 && isPattern g.Pattern && inR g.Kind 1 4 && decide (0 ≤ g.From) && decide (g.From ≤ g.Until) && decide (g.Until ≤ 10000)
theorem ev_sIsGrant (g : GGrant) (S : Store) : EvA Tryz.prog 333 [.agg g.c] S (fun r S' => r = .v (.s (.bool (isGrant g))) ∧ S' = S) := by
  refine evA_intro tok Tryz.func333 (by kernel_rfl) rfl ?_
  repeat' ((conv => whnf) <;> first
   | refine cD (fun _ => ?_) fun _ => ?_ | refine cF ?_ | refine condP_inR (fun _ _ => ?_) (fun _ _ => ?_) | refine cI (fun _ => ?_) fun _ => ?_ | refine callP_eq (ev_l1In _ _ _ _) ?_ | refine callP_eq (ev_sIsPattern _ _) ?_ | refine And.intro ?_ ?_)
  all_goals first | rfl | (simp_all [resAV, isGrant]; done) | (simp_all [resAV, isGrant]; intros; omega)
theorem ev_iIsGrant (g : GGrant) (S : Store) : EvA Tryz.prog 109 [.agg g.c] S (fun r S' => r = .v (.s (.bool (isGrant g))) ∧ S' = S) := by
  refine evA_intro tok Tryz.func109 (by kernel_rfl) rfl ?_
  repeat' ((conv => whnf) <;> first
   | refine cD (fun _ => ?_) fun _ => ?_ | refine cF ?_ | refine condP_inR (fun _ _ => ?_) (fun _ _ => ?_) | refine cI (fun _ => ?_) fun _ => ?_ | refine callP_eq (ev_InRange _ _ _ _) ?_ | refine callP_eq (ev_iIsPattern _ _) ?_ | refine And.intro ?_ ?_)
  all_goals first | rfl | (simp_all [resAV, isGrant]; done) | (simp_all [resAV, isGrant]; intros; omega)
def covers (g : GGrant) (ext : Int) (s : GSite) (kind : Int) (tick : Int) (clicked : Bool) : Bool := isGrant g && decide (g.Ext = ext) && decide (g.Kind = kind) && matchSite g.Pattern s && inR tick g.From g.Until && (clicked || !g.Click)
theorem ev_iCovers (g : GGrant) (ext : Int) (s : GSite) (kind : Int) (tick : Int) (clicked : Bool) (S : Store) : EvA Tryz.prog 213 [.agg g.c, .s (.int .i64 ext), .agg s.c, .s (.int .i64 kind), .s (.int .i64 tick), .s (.bool clicked)] S (fun r S' => r = .v (.s (.bool (covers g ext s kind tick clicked))) ∧ S' = S) := by
  refine evA_intro tok Tryz.func213 (by kernel_rfl) rfl ?_
  repeat' ((conv => whnf) <;> first
   | refine cD (fun _ => ?_) fun _ => ?_ | refine cF ?_ | refine condP_inR (fun _ _ => ?_) (fun _ _ => ?_) | refine cI (fun _ => ?_) fun _ => ?_ | refine callP_eq (ev_InRange _ _ _ _) ?_ | refine callP_eq (ev_iIsGrant _ _) ?_ | refine callP_eq (ev_iMatchSite _ _ _) ?_ | refine And.intro ?_ ?_)
  all_goals first | rfl | (simp_all [resAV, covers]; done) | (simp_all [resAV, covers]; intros; omega)
def isAllowed (l : List GGrant) (ext : Int) (s : GSite) (kind : Int) (tick : Int) (clicked : Bool) : Bool := l.any fun x => covers x ext s kind tick clicked
theorem ev_iIsAllowed (l : List GGrant) (ext : Int) (s : GSite) (kind : Int) (tick : Int) (clicked : Bool) (c : C) (S : Store) (h : Rd S [.sl 7 (l.map GGrant.d)] [c]) : EvA Tryz.prog 125 [.s c, .s (.int .i64 ext), .agg s.c, .s (.int .i64 kind), .s (.int .i64 tick), .s (.bool clicked)] S (fun r S' => r = .v (.s (.bool (isAllowed l ext s kind tick clicked))) ∧ S' = S) := by
  refine evA_intro tok Tryz.func125 (by kernel_rfl) rfl ?_
  repeat' ((conv => whnf) <;> first
   | refine rE fun hml => ?_)
  refine loop_intro {i : Nat // i ≤ l.length ∧ isAllowed (l.drop i) ext s kind tick clicked = isAllowed l ext s kind tick clicked} [12, 14, 17, 18, 19, 20, 21, 22, 23, 24, 25, 26, 27, 28] (fun zb => [(17, .v (.s (.int .i64 zb.1)))]) (fun _ => S) (fun zb => l.length - zb.1) ⟨0, Nat.zero_le _, by simp⟩ ?_ rfl ?_
  · (conv => whnf); repeat' (first | exact trivial | exact rfl | apply And.intro)
  rintro ⟨i, hi, hinv⟩; dsimp only
  repeat' ((conv => whnf) <;> first
   | rw [wrapI_i64 (by omega)] | refine cD (fun _ => ?_) fun _ => ?_ | refine cI (fun _ => ?_) fun _ => ?_ | refine callP_eq (ev_iCovers _ _ _ _ _ _ _) ?_ | refine rI aN rf ix ?_ | refine rd_loadf aN tv ix ?_ | refine And.intro ?_ ?_)
  all_goals first
    | rfl
    | (rw [drop_end (by omega)] at hinv; rw [← hinv]; rfl)
    | (rw [drop_at (by omega)] at hinv; simp only [isAllowed, List.any_cons] at hinv
       first
         | (rw [show isAllowed l ext s kind tick clicked = true from by simp only [isAllowed]; rw [← hinv]; simp_all]; rfl)
         | (refine ⟨⟨i + 1, by omega, by simp only [isAllowed]; rw [← hinv]; simp_all⟩, ?_, rfl, by simp; omega⟩; (conv => whnf); repeat' (first | exact trivial | exact rfl | apply And.intro)))
def isLimit (x : GLimit) : Bool := inR x.Ext 0 5 && isPattern x.Pattern && inR x.Kind 0 4
theorem ev_sIsLimit (x : GLimit) (S : Store) : EvA Tryz.prog 372 [.agg x.c] S (fun r S' => r = .v (.s (.bool (isLimit x))) ∧ S' = S) := by
  refine evA_intro tok Tryz.func372 (by kernel_rfl) rfl ?_
  repeat' ((conv => whnf) <;> first
   | refine cF ?_ | refine condP_inR (fun _ _ => ?_) (fun _ _ => ?_) | refine cI (fun _ => ?_) fun _ => ?_ | refine callP_eq (ev_l1In _ _ _ _) ?_ | refine callP_eq (ev_sIsPattern _ _) ?_ | refine And.intro ?_ ?_)
  all_goals first | rfl | (simp_all [resAV, isLimit]; done) | (simp_all [resAV, isLimit]; intros; omega)
theorem ev_iIsLimit (x : GLimit) (S : Store) : EvA Tryz.prog 110 [.agg x.c] S (fun r S' => r = .v (.s (.bool (isLimit x))) ∧ S' = S) := by
  refine evA_intro tok Tryz.func110 (by kernel_rfl) rfl ?_
  repeat' ((conv => whnf) <;> first
   | refine cF ?_ | refine condP_inR (fun _ _ => ?_) (fun _ _ => ?_) | refine cI (fun _ => ?_) fun _ => ?_ | refine callP_eq (ev_InRange _ _ _ _) ?_ | refine callP_eq (ev_iIsPattern _ _) ?_ | refine And.intro ?_ ?_)
  all_goals first | rfl | (simp_all [resAV, isLimit]; done) | (simp_all [resAV, isLimit]; intros; omega)
def denied1 (x : GLimit) (ext : Int) (s : GSite) (kind : Int) : Bool := isLimit x && (decide (x.Ext = 0) || decide (x.Ext = ext)) && (decide (x.Kind = 0) || decide (x.Kind = kind)) && matchSite x.Pattern s
def isDenied (l : List GLimit) (ext : Int) (s : GSite) (kind : Int) : Bool := l.any fun x => denied1 x ext s kind
theorem ev_iIsDenied (l : List GLimit) (ext : Int) (s : GSite) (kind : Int) (c : C) (S : Store) (h : Rd S [.sl 4 (l.map GLimit.d)] [c]) : EvA Tryz.prog 126 [.s c, .s (.int .i64 ext), .agg s.c, .s (.int .i64 kind)] S (fun r S' => r = .v (.s (.bool (isDenied l ext s kind))) ∧ S' = S) := by
  refine evA_intro tok Tryz.func126 (by kernel_rfl) rfl ?_
  repeat' ((conv => whnf) <;> first
   | refine rE fun hml => ?_)
  refine loop_intro {i : Nat // i ≤ l.length ∧ isDenied (l.drop i) ext s kind = isDenied l ext s kind} [8, 10, 13, 14, 15, 16, 17, 18, 19, 20, 21, 22, 23, 24, 25, 26, 27, 28, 29, 30, 31, 32, 33, 34, 35, 36, 37, 38, 39, 40, 41, 42, 43, 44, 45, 46, 47] (fun zb => [(13, .v (.s (.int .i64 zb.1)))]) (fun _ => S) (fun zb => l.length - zb.1) ⟨0, Nat.zero_le _, by simp⟩ ?_ rfl ?_
  · (conv => whnf); repeat' (first | exact trivial | exact rfl | apply And.intro)
  rintro ⟨i, hi, hinv⟩; dsimp only
  repeat' ((conv => whnf) <;> first
   | rw [wrapI_i64 (by omega)] | refine cD (fun _ => ?_) fun _ => ?_ | refine cT ?_ | refine cF ?_ | refine cI (fun _ => ?_) fun _ => ?_ | refine callP_eq (ev_iIsLimit _ _) ?_ | refine callP_eq (ev_iMatchSite _ _ _) ?_ | refine rI aN rf ix ?_ | refine rd_loadf aN tv ix ?_ | refine And.intro ?_ ?_)
  all_goals first
    | rfl
    | (rw [drop_end (by omega)] at hinv; rw [← hinv]; rfl)
    | (rw [drop_at (by omega)] at hinv; simp only [isDenied, List.any_cons] at hinv
       first
         | (rw [show isDenied l ext s kind = true from by simp only [isDenied]; rw [← hinv]; simp_all [denied1]]; rfl)
         | (refine ⟨⟨i + 1, by omega, by simp only [isDenied]; rw [← hinv]; simp_all [denied1]⟩, ?_, rfl, by simp; omega⟩; (conv => whnf); repeat' (first | exact trivial | exact rfl | apply And.intro)))
def mayDo (g : List GGrant) (l : List GLimit) (ext : Int) (s : GSite) (kind tick : Int) (clicked : Bool) : Bool := isAllowed g ext s kind tick clicked && !isDenied l ext s kind
theorem ev_iMayDo (g : List GGrant) (l : List GLimit) (ext : Int) (s : GSite) (kind tick : Int) (clicked : Bool) (c c' : C) (S : Store) (h : Rd S [.sl 7 (g.map GGrant.d)] [c]) (h' : Rd S [.sl 4 (l.map GLimit.d)] [c']) : EvA Tryz.prog 25 [.s c, .s c', .s (.int .i64 ext), .agg s.c, .s (.int .i64 kind), .s (.int .i64 tick), .s (.bool clicked)] S (fun r S' => r = .v (.s (.bool (mayDo g l ext s kind tick clicked))) ∧ S' = S) := by
  refine evA_intro tok Tryz.func25 (by kernel_rfl) rfl ?_
  repeat' ((conv => whnf) <;> first
   | refine cI (fun _ => ?_) fun _ => ?_ | refine callP_eq (ev_iIsAllowed _ _ _ _ _ _ _ _ aN) ?_ | refine callP_eq (ev_iIsDenied _ _ _ _ _ _ aN) ?_ | refine And.intro ?_ ?_)
  all_goals first | rfl | (simp_all [resAV, mayDo]; done)
end Go.Proofs.YtockphlpokoohaaGreat
namespace Go.Proofs.YtockphlpokoohaaGreat
set_option linter.unusedVariables false
set_option linter.unusedSimpArgs false
set_option maxRecDepth 100000
section
open Go Go.ChangeShapes Go.WideShapes Go.ChangeAt Go.RowKit
def edBy (by' : Int) (is : Bool) (x : GEdit) : Bool := (decide (x.By = by') == is)
theorem ev_editsOf (l : List GEdit) (by' : Int) (is : Bool) (c : C) (S : Store) (h : Rd S [.sl 6 (l.map GEdit.d)] [c]) (hz : l.length ≤ 4194304) : EvA Tryz.prog 143 [.s c, .s (.int .i64 by'), .s (.bool is)] S (fun r S' => Ext S S' ∧ ∃ c', r = .v (.s c') ∧ Fr S.length S' [.sl 6 ((l.filter (edBy by' is)).map GEdit.d)] [c']) := by
  refine evA_intro tok Tryz.func143 (by kernel_rfl) rfl ?_
  repeat' ((conv => whnf) <;> first
   | refine rE fun hml => ?_)
  refine loop_intro {p : Nat × Store × C // p.1 ≤ l.length ∧ Ext S p.2.1 ∧ Fr S.length p.2.1 [.sl 6 (((l.take p.1).filter (edBy by' is)).map GEdit.d)] [p.2.2]} [7, 9, 13, 14, 15, 16, 17, 18, 19, 20, 21, 22, 23, 24, 25, 26, 27] (fun zb => [(13, .v (.s (.int .i64 zb.1.1))), (7, .v (.s zb.1.2.2))]) (fun zb => zb.1.2.1) (fun zb => l.length - zb.1.1) ⟨(0, _, _), Nat.zero_le _, Ext.push _ _, fr_lit0⟩ ?_ rfl ?_
  · (conv => whnf); repeat' (first | exact trivial | exact rfl | apply And.intro)
  rintro ⟨⟨i, Si, ci⟩, hi, hE, hF⟩; dsimp only
  replace hi : i ≤ l.length := hi
  replace hE : Ext S Si := hE
  replace hF : Fr S.length Si [.sl 6 (((l.take i).filter (edBy by' is)).map GEdit.d)] [ci] := hF
  have hfl := filter_len (edBy by' is) l i
  repeat' ((conv => whnf) <;> first
   | rw [wrapI_i64 (by omega)] | refine cD (fun _ => ?_) fun _ => ?_ | refine rI rdA rf ix ?_ | refine rd_loadf rdA tv ix ?_ | (refine fr_app1 (f := GEdit.d) aN aN tv (by rfl) rf (by dsimp only [T76]; omega) om ?_; intro cN SN hEN hFN) | refine And.intro ?_ ?_)
  all_goals first
    | exact hE
    | (rw [List.take_of_length_le (by omega)] at hF; exact ⟨_, rfl, hF⟩)
    | (refine ⟨⟨(i + 1, _, _), by dsimp only; omega, by assumption, by first | (rw [filter_t (by omega) (by simp_all [edBy])]; assumption) | (rw [filter_f (by omega) (by simp_all [edBy])]; assumption)⟩, ?_, rfl, by dsimp only; omega⟩; (conv => whnf); repeat' (first | exact trivial | exact rfl | apply And.intro))
def edBy1 (by' : Int) (x : GEdit) : Bool := decide (x.By = by')
def ruOf (ext : Int) (x : GRule) : Bool := decide (x.Ext = ext)
theorem ev_sRulesOf (l : List GRule) (ext : Int) (c : C) (S : Store) (h : Rd S [.sl 8 (l.map GRule.d)] [c]) (hz : l.length ≤ 4194304) : EvA Tryz.prog 373 [.s c, .s (.int .i64 ext)] S (fun r S' => Ext S S' ∧ ∃ c', r = .v (.s c') ∧ Fr S.length S' [.sl 8 ((l.filter (ruOf ext)).map GRule.d)] [c']) := by
  refine evA_intro tok Tryz.func373 (by kernel_rfl) rfl ?_
  skip
  refine loop_intro {p : Nat × Store × C // p.1 ≤ l.length ∧ Ext S p.2.1 ∧ Fr S.length p.2.1 [.sl 8 (((l.take p.1).filter (ruOf ext)).map GRule.d)] [p.2.2]} [5, 6, 8, 9, 10, 11, 12, 13, 14, 15, 16, 17, 18, 19, 20, 21, 22, 23, 24, 25, 26, 27] (fun zb => [(6, .v (.s (.int .i64 zb.1.1))), (5, .v (.s zb.1.2.2))]) (fun zb => zb.1.2.1) (fun zb => l.length - zb.1.1) ⟨(0, _, _), Nat.zero_le _, Ext.push _ _, fr_lit0⟩ ?_ rfl ?_
  · (conv => whnf); repeat' (first | exact trivial | exact rfl | apply And.intro)
  rintro ⟨⟨i, Si, ci⟩, hi, hE, hF⟩; dsimp only
  replace hi : i ≤ l.length := hi
  replace hE : Ext S Si := hE
  replace hF : Fr S.length Si [.sl 8 (((l.take i).filter (ruOf ext)).map GRule.d)] [ci] := hF
  have hfl := filter_len (ruOf ext) l i
  repeat' ((conv => whnf) <;> first
   | rw [wrapI_i64 (by omega)] | refine cD (fun _ => ?_) fun _ => ?_ | refine rE fun hml => ?_ | refine rI rdA rf ix ?_ | refine rd_loadf rdA tv ix ?_ | (refine fr_app1 (f := GRule.d) aN aN tv (by rfl) rf (by dsimp only [T151]; omega) om ?_; intro cN SN hEN hFN) | refine And.intro ?_ ?_)
  all_goals first
    | exact hE
    | (rw [List.take_of_length_le (by omega)] at hF; exact ⟨_, rfl, hF⟩)
    | (refine ⟨⟨(i + 1, _, _), by dsimp only; omega, by assumption, by first | (rw [filter_t (by omega) (by simp_all [ruOf])]; assumption) | (rw [filter_f (by omega) (by simp_all [ruOf])]; assumption)⟩, ?_, rfl, by dsimp only; omega⟩; (conv => whnf); repeat' (first | exact trivial | exact rfl | apply And.intro))
end
section
open Go Go.ChangeShapes Go.WideShapes Go.ChangeAt Go.RowKit
def packGo (ext : Int) : List GPackage → Nat → Int
  | [], _ => -1
  | p :: r, i => if p.Ext = ext then i else packGo ext r (i + 1)
def packOf (b : GBrowser) (ext : Int) : Int := packGo ext b.Packs 0
theorem ev_sPackOf (b : GBrowser) (ext : Int) (cs : List C) (S : Store) (h : Rd S b.d cs) : EvA Tryz.prog 254 [.agg cs, .s (.int .i64 ext)] S (fun r S' => r = .v (.s (.int .i64 (packOf b ext))) ∧ S' = S) := by
  obtain ⟨_, _, _, _, _, _, rfl, _, _, _, _, _, _⟩ := GBrowser.inv h
  refine evA_intro tok Tryz.func254 (by kernel_rfl) rfl ?_
  skip
  refine loop_intro {i : Nat // i ≤ b.Packs.length ∧ packGo ext (b.Packs.drop i) i = packOf b ext} [4, 5, 6, 7, 8, 9, 10, 11, 12, 13, 14, 15, 16, 17, 18, 19, 20, 21] (fun zb => [(5, .v (.s (.int .i64 zb.1)))]) (fun _ => S) (fun zb => b.Packs.length - zb.1) ⟨0, Nat.zero_le _, rfl⟩ ?_ rfl ?_
  · (conv => whnf); repeat' (first | exact trivial | exact rfl | apply And.intro)
  rintro ⟨i, hi, hinv⟩; dsimp only
  repeat' ((conv => whnf) <;> first
   | rw [wrapI_i64 (by omega)] | refine cD (fun _ => ?_) fun _ => ?_ | refine rE fun hml => ?_ | refine rI aN rf ix ?_ | (refine rd_loadm (f := GPackage.d) aN ix ?_; intro _ hcs; obtain ⟨_, _, _, _, rfl, _, _, _, _⟩ := GPackage.inv hcs) | refine And.intro ?_ ?_)
  all_goals first
    | rfl
    | (rw [drop_at (by omega), packGo] at hinv; rw [if_pos (by assumption)] at hinv; rw [← hinv]; rfl)
    | (rw [drop_end (by omega), packGo] at hinv; rw [← hinv]; rfl)
    | (refine ⟨⟨i + 1, by omega, by rw [drop_at (by omega), packGo] at hinv; rw [if_neg (by assumption)] at hinv; exact hinv⟩, ?_, rfl, by simp; omega⟩; (conv => whnf); repeat' (first | exact trivial | exact rfl | apply And.intro))
theorem ev_iPackOf (b : GBrowser) (ext : Int) (cs : List C) (S : Store) (h : Rd S b.d cs) : EvA Tryz.prog 17 [.agg cs, .s (.int .i64 ext)] S (fun r S' => r = .v (.s (.int .i64 (packOf b ext))) ∧ S' = S) := by
  obtain ⟨_, _, _, _, _, _, rfl, _, _, _, _, _, _⟩ := GBrowser.inv h
  refine evA_intro tok Tryz.func17 (by kernel_rfl) rfl ?_
  repeat' ((conv => whnf) <;> first
   | refine rE fun hml => ?_)
  refine loop_intro {i : Nat // i ≤ b.Packs.length ∧ packGo ext (b.Packs.drop i) i = packOf b ext} [4, 5, 6, 10, 11, 12, 13, 14, 15, 16, 17, 18, 19, 20] (fun zb => [(10, .v (.s (.int .i64 zb.1)))]) (fun _ => S) (fun zb => b.Packs.length - zb.1) ⟨0, Nat.zero_le _, rfl⟩ ?_ rfl ?_
  · (conv => whnf); repeat' (first | exact trivial | exact rfl | apply And.intro)
  rintro ⟨i, hi, hinv⟩; dsimp only
  repeat' ((conv => whnf) <;> first
   | rw [wrapI_i64 (by omega)] | refine cD (fun _ => ?_) fun _ => ?_ | refine rI aN rf ix ?_ | (refine rd_loadm (f := GPackage.d) aN ix ?_; intro _ hcs; obtain ⟨_, _, _, _, rfl, _, _, _, _⟩ := GPackage.inv hcs) | refine And.intro ?_ ?_)
  all_goals first
    | rfl
    | (rw [drop_at (by omega), packGo] at hinv; rw [if_pos (by assumption)] at hinv; rw [← hinv]; rfl)
    | (rw [drop_end (by omega), packGo] at hinv; rw [← hinv]; rfl)
    | (refine ⟨⟨i + 1, by omega, by rw [drop_at (by omega), packGo] at hinv; rw [if_neg (by assumption)] at hinv; exact hinv⟩, ?_, rfl, by simp; omega⟩; (conv => whnf); repeat' (first | exact trivial | exact rfl | apply And.intro))
def isClicked (t : GTab) (tick : Int) : Bool := inR t.Click 0 10000 && inR tick t.Click (t.Click + 2)
theorem ev_iIsClicked (t : GTab) (tick : Int) (cs : List C) (S : Store) (h : Rd S t.d cs) : EvA Tryz.prog 142 [.agg cs, .s (.int .i64 tick)] S (fun r S' => r = .v (.s (.bool (isClicked t tick))) ∧ S' = S) := by
  obtain ⟨_, _, _, rfl, _, _, _⟩ := GTab.inv h
  refine evA_intro tok Tryz.func142 (by kernel_rfl) rfl ?_
  repeat' ((conv => whnf) <;> first
   | rw [wrapI_i64 (by omega)] | refine cD (fun _ => ?_) fun _ => ?_ | refine cE (fun _ => ?_) fun _ => ?_ | refine cT ?_ | refine cF ?_ | refine condP_inR (fun _ _ => ?_) (fun _ _ => ?_) | refine condP_ninR (fun _ _ => ?_) (fun _ _ => ?_) | refine cN (fun _ => ?_) fun _ => ?_ | refine cI (fun _ => ?_) fun _ => ?_ | refine callP_eq (ev_InRange _ _ _ _) ?_ | refine nP ?_ | refine And.intro ?_ ?_)
  all_goals first | rfl | (simp_all [resAV, isClicked]; done)
def tabNo (b : GBrowser) (tab : Int) : Option GTab := if 0 ≤ tab then b.Tabs[tab.toNat]? else none
theorem tabNo_in {b : GBrowser} {tab : Int} (h : 0 ≤ tab ∧ tab.toNat < b.Tabs.length) : tabNo b tab = some (b.Tabs[tab.toNat]'h.2) := by
  unfold tabNo; rw [if_pos h.1, List.getElem?_eq_getElem h.2]
theorem tabNo_out {b : GBrowser} {tab : Int} (h : ¬ (0 ≤ tab ∧ tab.toNat < b.Tabs.length)) : tabNo b tab = none := by
  unfold tabNo
  split
  · rw [List.getElem?_eq_none (by omega)]
  · rfl
def mayAct (b : GBrowser) (ext tab kind : Int) : Bool := decide (0 ≤ packOf b ext) && (match tabNo b tab with
  | some t => mayDo b.Grants b.Limits ext t.Site kind b.Now (isClicked t b.Now)
  | none => false)
theorem ev_iMayAct (b : GBrowser) (ext tab kind : Int) (cs : List C) (S : Store) (h : Rd S b.d cs) : EvA Tryz.prog 37 [.agg cs, .s (.int .i64 ext), .s (.int .i64 tab), .s (.int .i64 kind)] S (fun r S' => r = .v (.s (.bool (mayAct b ext tab kind))) ∧ S' = S) := by
  obtain ⟨_, _, _, _, _, _, rfl, _, _, _, _, _, _⟩ := GBrowser.inv h
  refine evA_intro tok Tryz.func37 (by kernel_rfl) rfl ?_
  repeat' ((conv => whnf) <;> first
   | refine cD (fun _ => ?_) fun _ => ?_ | refine cE (fun _ => ?_) fun _ => ?_ | refine cT ?_ | refine cF ?_ | refine cN (fun _ => ?_) fun _ => ?_ | refine cI (fun _ => ?_) fun _ => ?_ | (refine callP_eq (ev_iPackOf _ _ _ _ rdcB) ?_) | refine callP_eq (ev_iMayDo _ _ _ _ _ _ _ _ _ _ aN aN) ?_ | refine callP_eq (ev_iMayDo _ _ _ ⟨_, _⟩ _ _ _ _ _ _ aN aN) ?_ | (refine callP_eq (ev_iIsClicked _ _ _ _ rdcB) ?_) | refine rE fun hml => ?_ | refine rI aN rf ix ?_ | (refine rd_loadm (f := GTab.d) aN ix ?_; intro _ hcs; obtain ⟨_, _, _, rfl, _, _, _⟩ := GTab.inv hcs) | refine nP ?_ | refine draw_intro 30 [.fl 0, .fl 1, .fl 2, .fl 3, .fl 4, .fl 5, .fl 6, .fl 7, .fl 8, .fl 9, .fl 10, .fl 11, .fl 12, .st 13 [0, 1, 2, 3, 4, 5, 6, 7, 8, 9], .st 14 [], .st 15 []] (by rfl) (by kernel_rfl) ?_ | refine And.intro ?_ ?_)
  all_goals first
    | rfl
    | (rw [show mayAct b ext tab kind = false from by unfold mayAct; rw [decide_eq_false (by omega), Bool.false_and]]; rfl)
    | (have ht := tabNo_out (b := b) (tab := tab) (by omega)
       simp only [mayAct, ht, Bool.and_false]; rfl)
    | (have ht := tabNo_in (b := b) (tab := tab) (by omega)
       simp only [mayAct, ht]; rw [decide_eq_true (by omega), Bool.true_and]; rfl)
theorem edBy1_eq (by' : Int) : edBy by' true = edBy1 by' := by funext x; simp only [edBy, edBy1]; cases decide (x.By = by') <;> rfl
theorem ev_iEditsBy (l : List GEdit) (by' : Int) (c : C) (S : Store) (h : Rd S [.sl 6 (l.map GEdit.d)] [c]) (hz : l.length ≤ 4194304) : EvA Tryz.prog 38 [.s c, .s (.int .i64 by')] S (fun r S' => Ext S S' ∧ ∃ c', r = .v (.s c') ∧ Fr S.length S' [.sl 6 ((l.filter (edBy1 by')).map GEdit.d)] [c']) := by
  rw [← edBy1_eq]
  refine evA_intro tok Tryz.func38 (by kernel_rfl) rfl ?_
  repeat' ((conv => whnf) <;> first
   | (refine callP_intro (ev_editsOf _ _ _ _ _ rdA om) ?_; rintro _ Sn ⟨hEn, cn, rfl, hFn⟩) | refine nP ?_ | refine And.intro ?_ ?_)
  all_goals first | assumption | exact ⟨_, rfl, by assumption⟩
end
end Go.Proofs.YtockphlpokoohaaGreat
