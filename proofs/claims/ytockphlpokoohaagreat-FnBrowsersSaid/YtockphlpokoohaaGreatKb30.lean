/- Tabs. Patterns, grants, limits. -/
import Derived.Test.YtockphlpokoohaaGreatKb23
namespace Go.Proofs.YtockphlpokoohaaGreat
open Go Go.ChangeShapes Go.WideShapes Go.ChangeAt Go.RowKit
set_option linter.unusedVariables false
set_option linter.unusedSimpArgs false
set_option maxRecDepth 100000
def okHid (l : List Int) (n : Int) (i : Nat) : Bool := inR n 0 9 && (if i = 0 then true else decide (l.getD (i - 1) 0 < n))
theorem okHid_zero (l : List Int) (n : Int) : okHid l n 0 = inR n 0 9 := by simp [okHid]
theorem okHid_pos {l : List Int} {n : Int} {i : Nat} (h0 : 0 < i) (hl : i ≤ l.length) : okHid l n i = (inR n 0 9 && decide (l[i - 1]'(by omega) < n)) := by
  unfold okHid
  rw [if_neg (by omega), List.getD_eq_getElem?_getD, List.getElem?_eq_getElem (by omega)]; rfl
def hidGo (l : List Int) : List Int → Nat → Bool
  | [], _ => true
  | n :: r, i => if okHid l n i then hidGo l r (i + 1) else false
def isTab (t : GTab) : Bool := isSite t.Site && isDoc t.Base && decide (t.Edits.length ≤ 40) && inR t.Click (-1) 10000 && t.Edits.all isEdit && hidGo t.Hidden t.Hidden 0
theorem and6 {a b c d e f : Bool} (h : (a = false ∨ b = false ∨ c = false ∨ d = false ∨ e = false ∨ f = false)) : (a && b && c && d && e && f) = false := by
  cases a <;> cases b <;> cases c <;> cases d <;> cases e <;> cases f <;> simp at h ⊢
theorem ev_iIsTab (t : GTab) (cs : List C) (S : Store) (h : Rd S t.d cs) : EvA Tryz.prog 108 [.agg cs] S (fun r S' => r = .v (.s (.bool (isTab t))) ∧ S' = S) := by
  obtain ⟨_, _, _, rfl, _, _, _⟩ := GTab.inv h
  refine evA_intro tok Tryz.func108 (by kernel_rfl) rfl ?_
  repeat' ((conv => whnf) <;> first
   | refine cD (fun _ => ?_) fun _ => ?_ | refine cT ?_ | refine condP_ninR (fun _ _ => ?_) (fun _ _ => ?_) | refine cN (fun _ => ?_) fun _ => ?_ | refine callP_eq (ev_InRange _ _ _ _) ?_ | refine callP_eq (ev_iIsSite _ _) ?_ | refine callP_eq (ev_iIsDocument _ _ _ aN) ?_ | refine rE fun hml => ?_ | refine And.intro ?_ ?_)
  all_goals try first
    | rfl
    | (rw [show isTab t = false from and6 (by first | (simp_all; done) | (right; right; left; simp; omega))]; rfl)
  refine loop_intro {i : Nat // i ≤ t.Edits.length ∧ (t.Edits.drop i).all isEdit = t.Edits.all isEdit} [2, 4, 32, 33, 34, 35, 36, 37, 38, 39] (fun zb => [(32, .v (.s (.int .i64 zb.1)))]) (fun _ => S) (fun zb => t.Edits.length - zb.1) ⟨0, Nat.zero_le _, by simp⟩ ?_ rfl ?_
  · (conv => whnf); repeat' (first | exact trivial | exact rfl | apply And.intro)
  rintro ⟨i, hi, hinv⟩; dsimp only
  repeat' ((conv => whnf) <;> first
   | rw [wrapI_i64 (by omega)] | refine cD (fun _ => ?_) fun _ => ?_ | refine cN (fun _ => ?_) fun _ => ?_ | refine callP_eq (ev_iIsEdit _ _) ?_ | refine rE fun hml => ?_ | refine rI aN rf ix ?_ | refine rd_loadf aN tv ix ?_ | refine And.intro ?_ ?_)
  all_goals try first
    | rfl
    | (rw [drop_at (by omega), List.all_cons] at hinv
       rw [show isTab t = false from and6 (by simp_all)]; rfl)
    | (rw [drop_at (by omega), List.all_cons] at hinv
       (refine ⟨⟨i + 1, by omega, by simp_all⟩, ?_, rfl, by simp; omega⟩; (conv => whnf); repeat' (first | exact trivial | exact rfl | apply And.intro)))
  rw [drop_end (by omega), List.all_nil] at hinv
  refine loop_intro {i : Nat // i ≤ t.Hidden.length ∧ hidGo t.Hidden (t.Hidden.drop i) i = hidGo t.Hidden t.Hidden 0} [2, 5, 6, 43, 44, 45, 46, 47, 48, 49, 50, 51, 52, 53, 54, 55, 56, 57, 58, 59, 60, 61, 62, 63, 64, 65] (fun zb => [(43, .v (.s (.int .i64 zb.1)))]) (fun _ => S) (fun zb => t.Hidden.length - zb.1) ⟨0, Nat.zero_le _, by simp⟩ ?_ rfl ?_
  · (conv => whnf); repeat' (first | exact trivial | exact rfl | apply And.intro)
  rintro ⟨i, hi, hinv⟩; dsimp only
  repeat' ((conv => whnf) <;> first
   | rw [wrapI_i64 (by omega)] | refine cD (fun _ => ?_) fun _ => ?_ | refine cT ?_ | refine cF ?_ | refine condP_ninR (fun _ _ => ?_) (fun _ _ => ?_) | refine callP_eq (ev_InRange _ _ _ _) ?_ | refine rI aN rf ix ?_ | refine rd_loadf aN tv ix ?_ | refine And.intro ?_ ?_)
  all_goals first
    | rfl
    | (rw [drop_end (by omega), hidGo] at hinv
       rw [show isTab t = true from by
         unfold isTab
         simp_all; omega]; rfl)
    | (have e : okHid t.Hidden (t.Hidden[i]'(by omega)) i = false := by
         clear hinv
         first
           | (have h0 : i = 0 := by omega
              subst h0; rw [okHid_zero]; simp_all; done)
           | (have h0 : 0 < i := by omega
              rw [okHid_pos h0 (by omega)]
              first | (simp_all [pred_toNat h0]; done) | (simp_all [pred_toNat h0]; intros; omega))
           | (simp_all [okHid]; done)
       rw [drop_at (by omega), hidGo, e] at hinv
       rw [show isTab t = false from and6 (by simp_all)]; rfl)
    | (have e : okHid t.Hidden (t.Hidden[i]'(by omega)) i = true := by
         clear hinv
         first
           | (have h0 : i = 0 := by omega
              subst h0; rw [okHid_zero]; simp_all; done)
           | (have h0 : 0 < i := by omega
              rw [okHid_pos h0 (by omega)]
              first | (simp_all [pred_toNat h0]; done) | (simp_all [pred_toNat h0]; omega))
       (refine ⟨⟨i + 1, by omega, by rw [drop_at (by omega), hidGo, if_pos e] at hinv; exact hinv⟩, ?_, rfl, by simp; omega⟩; (conv => whnf); repeat' (first | exact trivial | exact rfl | apply And.intro)))
theorem ev_sIsTab (t : GTab) (cs : List C) (S : Store) (h : Rd S t.d cs) : EvA Tryz.prog 322 [.agg cs] S (fun r S' => r = .v (.s (.bool (isTab t))) ∧ S' = S) := by
  obtain ⟨_, _, _, rfl, _, _, _⟩ := GTab.inv h
  refine evA_intro tok Tryz.func322 (by kernel_rfl) rfl ?_
  skip
  all_goals try first
    | rfl
    | (rw [show isTab t = false from and6 (by first | (simp_all; done) | (right; right; left; simp; omega))]; rfl)
  refine loop_intro {i : Nat // i ≤ t.Edits.length ∧ (t.Edits.drop i).all isEdit = t.Edits.all isEdit} [2, 3, 5, 6, 7, 8, 9, 10, 11, 12, 13, 14, 15, 16, 17, 18] (fun zb => [(3, .v (.s (.int .i64 zb.1)))]) (fun _ => S) (fun zb => t.Edits.length - zb.1) ⟨0, Nat.zero_le _, by simp⟩ ?_ rfl ?_
  · (conv => whnf); repeat' (first | exact trivial | exact rfl | apply And.intro)
  rintro ⟨i, hi, hinv⟩; dsimp only
  repeat' ((conv => whnf) <;> first
   | rw [wrapI_i64 (by omega)] | refine cD (fun _ => ?_) fun _ => ?_ | refine cN (fun _ => ?_) fun _ => ?_ | refine callP_eq (ev_sIsEdit _ _) ?_ | refine rE fun hml => ?_ | refine rI aN rf ix ?_ | refine rd_loadf aN tv ix ?_ | refine And.intro ?_ ?_)
  all_goals try first
    | rfl
    | (rw [drop_at (by omega), List.all_cons] at hinv
       rw [show isTab t = false from and6 (by simp_all)]; rfl)
    | (rw [drop_at (by omega), List.all_cons] at hinv
       (refine ⟨⟨i + 1, by omega, by simp_all⟩, ?_, rfl, by simp; omega⟩; (conv => whnf); repeat' (first | exact trivial | exact rfl | apply And.intro)))
  rw [drop_end (by omega), List.all_nil] at hinv
  refine loop_intro {i : Nat // i ≤ t.Hidden.length ∧ hidGo t.Hidden (t.Hidden.drop i) i = hidGo t.Hidden t.Hidden 0} [2, 4, 19, 20, 21, 22, 23, 24, 25, 26, 27, 28, 29, 30, 31, 32, 33, 34, 35, 36, 37, 38, 39, 40, 41, 42, 43, 44, 45, 46, 47, 48, 49, 50] (fun zb => [(4, .v (.s (.int .i64 zb.1)))]) (fun _ => S) (fun zb => t.Hidden.length - zb.1) ⟨0, Nat.zero_le _, by simp⟩ ?_ rfl ?_
  · (conv => whnf); repeat' (first | exact trivial | exact rfl | apply And.intro)
  rintro ⟨i, hi, hinv⟩; dsimp only
  repeat' ((conv => whnf) <;> first
   | rw [wrapI_i64 (by omega)] | refine cD (fun _ => ?_) fun _ => ?_ | refine cT ?_ | refine cF ?_ | refine condP_ninR (fun _ _ => ?_) (fun _ _ => ?_) | refine cI (fun _ => ?_) fun _ => ?_ | refine callP_eq (ev_l1In _ _ _ _) ?_ | refine callP_eq (ev_sIsSite _ _) ?_ | refine callP_eq (ev_sIsDocument _ _ _ aN) ?_ | refine rE fun hml => ?_ | refine rI aN rf ix ?_ | refine rd_loadf aN tv ix ?_ | refine draw_intro 26 [.fl 0, .fl 1, .fl 2, .fl 3, .fl 4, .st 5 [], .fl 6, .fl 7, .fl 8, .fl 9, .fl 10, .fl 11, .fl 12, .fl 13, .fl 14, .fl 15, .fl 16, .fl 17, .fl 18, .fl 19, .fl 20, .fl 21, .fl 22, .fl 23, .fl 24] (by rfl) (by kernel_rfl) ?_ | refine And.intro ?_ ?_)
  all_goals first
    | rfl
    | (rw [drop_end (by omega), hidGo] at hinv
       have hE : isTab t = (isSite t.Site && isDoc t.Base && decide (t.Edits.length ≤ 40) && inR t.Click (-1) 10000) := by
         unfold isTab; rw [← hinv]; simp_all
       rw [hE]
       first
         | (have h40 : t.Edits.length ≤ 40 := by omega
            clear hE
            simp_all [resAV]; done)
         | (clear hE; simp_all [resAV]; done))
    | (rw [drop_end (by omega), hidGo] at hinv
       rw [show isTab t = false from and6 (by first | (simp_all; done) | (right; right; left; simp; omega))]; rfl)
    | (have e : okHid t.Hidden (t.Hidden[i]'(by omega)) i = false := by
         clear hinv
         first
           | (have h0 : i = 0 := by omega
              subst h0; rw [okHid_zero]; simp_all; done)
           | (have h0 : 0 < i := by omega
              rw [okHid_pos h0 (by omega)]
              first | (simp_all [pred_toNat h0]; done) | (simp_all [pred_toNat h0]; intros; omega))
           | (simp_all [okHid]; done)
       rw [drop_at (by omega), hidGo, e] at hinv
       rw [show isTab t = false from and6 (by simp_all)]; rfl)
    | (have e : okHid t.Hidden (t.Hidden[i]'(by omega)) i = true := by
         clear hinv
         first
           | (have h0 : i = 0 := by omega
              subst h0; rw [okHid_zero]; simp_all; done)
           | (have h0 : 0 < i := by omega
              rw [okHid_pos h0 (by omega)]
              first | (simp_all [pred_toNat h0]; done) | (simp_all [pred_toNat h0]; omega))
       (refine ⟨⟨i + 1, by omega, by rw [drop_at (by omega), hidGo, if_pos e] at hinv; exact hinv⟩, ?_, rfl, by simp; omega⟩; (conv => whnf); repeat' (first | exact trivial | exact rfl | apply And.intro)))
end Go.Proofs.YtockphlpokoohaaGreat
namespace Go.Proofs.YtockphlpokoohaaGreat
open Go Go.ChangeShapes Go.WideShapes Go.ChangeAt Go.RowKit
set_option linter.unusedVariables false
set_option linter.unusedSimpArgs false
set_option maxRecDepth 100000
def isPattern (p : GPattern) : Bool := inR p.Owner 0 9 && inR p.Sub (-1) 9
theorem ev_sIsPattern (p : GPattern) (S : Store) : EvA Tryz.prog 382 [.agg p.c] S (fun r S' => r = .v (.s (.bool (isPattern p))) ∧ S' = S) := by
  refine evA_intro tok Tryz.func382 (by kernel_rfl) rfl ?_
  repeat' ((conv => whnf) <;> first
   | refine condP_inR (fun _ _ => ?_) (fun _ _ => ?_) | refine callP_eq (ev_l1In _ _ _ _) ?_ | refine And.intro ?_ ?_)
  all_goals first | rfl | (simp_all [resAV, isPattern]; done) | (simp_all [resAV, isPattern]; intros; omega)
theorem ev_iIsPattern (p : GPattern) (S : Store) : EvA Tryz.prog 199 [.agg p.c] S (fun r S' => r = .v (.s (.bool (isPattern p))) ∧ S' = S) := by
  refine evA_intro tok Tryz.func199 (by kernel_rfl) rfl ?_
  repeat' ((conv => whnf) <;> first
   | refine condP_inR (fun _ _ => ?_) (fun _ _ => ?_) | refine callP_eq (ev_InRange _ _ _ _) ?_ | refine And.intro ?_ ?_)
  all_goals first | rfl | (simp_all [resAV, isPattern]; done) | (simp_all [resAV, isPattern]; intros; omega)
def isGrant (g : GGrant) : Bool := inR g.Ext 1 5 && isPattern g.Pattern && inR g.Kind 1 4 && decide (0 ≤ g.From) && decide (g.From ≤ g.Until) && decide (g.Until ≤ 10000)
theorem ev_sIsGrant (g : GGrant) (S : Store) : EvA Tryz.prog 333 [.agg g.c] S (fun r S' => r = .v (.s (.bool (isGrant g))) ∧ S' = S) := by
  refine evA_intro tok Tryz.func333 (by kernel_rfl) rfl ?_
  repeat' ((conv => whnf) <;> first
   | refine cD (fun _ => ?_) fun _ => ?_ | refine cF ?_ | refine condP_inR (fun _ _ => ?_) (fun _ _ => ?_) | refine cI (fun _ => ?_) fun _ => ?_ | refine callP_eq (ev_l1In _ _ _ _) ?_ | refine callP_eq (ev_sIsPattern _ _) ?_ | refine And.intro ?_ ?_)
  all_goals first | rfl | (simp_all [resAV, isGrant]; done) | (simp_all [resAV, isGrant]; intros; omega)
theorem ev_iIsGrant (g : GGrant) (S : Store) : EvA Tryz.prog 109 [.agg g.c] S (fun r S' => r = .v (.s (.bool (isGrant g))) ∧ S' = S) := by
  refine evA_intro tok Tryz.func109 (by kernel_rfl) rfl ?_
  repeat' ((conv => whnf) <;> first
   | refine cD (fun _ => ?_) fun _ => ?_ | refine cF ?_ | refine condP_inR (fun _ _ => ?_) (fun _ _ => ?_) | refine cI (fun _ => ?_) fun _ => ?_ | refine callP_eq (ev_InRange _ _ _ _) ?_ | refine callP_eq (ev_iIsPattern _ _) ?_ | refine And.intro ?_ ?_)
  all_goals first | rfl | (simp_all [resAV, isGrant]; done) | (simp_all [resAV, isGrant]; intros; omega)
def isLimit (x : GLimit) : Bool := inR x.Ext 0 5 && isPattern x.Pattern && inR x.Kind 0 4
theorem ev_sIsLimit (x : GLimit) (S : Store) : EvA Tryz.prog 372 [.agg x.c] S (fun r S' => r = .v (.s (.bool (isLimit x))) ∧ S' = S) := by
  refine evA_intro tok Tryz.func372 (by kernel_rfl) rfl ?_
  repeat' ((conv => whnf) <;> first
   | refine cF ?_ | refine condP_inR (fun _ _ => ?_) (fun _ _ => ?_) | refine cI (fun _ => ?_) fun _ => ?_ | refine callP_eq (ev_l1In _ _ _ _) ?_ | refine callP_eq (ev_sIsPattern _ _) ?_ | refine And.intro ?_ ?_)
  all_goals first | rfl | (simp_all [resAV, isLimit]; done) | (simp_all [resAV, isLimit]; intros; omega)
theorem ev_iIsLimit (x : GLimit) (S : Store) : EvA Tryz.prog 110 [.agg x.c] S (fun r S' => r = .v (.s (.bool (isLimit x))) ∧ S' = S) := by
  refine evA_intro tok Tryz.func110 (by kernel_rfl) rfl ?_
  repeat' ((conv => whnf) <;> first
   | refine cF ?_ | refine condP_inR (fun _ _ => ?_) (fun _ _ => ?_) | refine cI (fun _ => ?_) fun _ => ?_ | refine callP_eq (ev_InRange _ _ _ _) ?_ | refine callP_eq (ev_iIsPattern _ _) ?_ | refine And.intro ?_ ?_)
  all_goals first | rfl | (simp_all [resAV, isLimit]; done) | (simp_all [resAV, isLimit]; intros; omega)
end Go.Proofs.YtockphlpokoohaaGreat
