/- Patterns, grants, limits. -/
import Derived.Test.YtlmmdpmmdmhacaaGreatKm20
namespace Go.Proofs.YtlmmdpmmdmhacaaGreat
open Go Go.ChangeShapes Go.WideShapes Go.ChangeAt Go.RowKit
set_option linter.unusedVariables false
set_option linter.unusedSimpArgs false
set_option maxRecDepth 100000
def isPattern (p : GPattern) : Bool := inR p.Owner 0 9 && inR p.Sub (-1) 9
theorem ev_sIsPattern (p : GPattern) (S : Store) : EvA Tryz.prog 338 [.agg p.c] S (fun r S' => r = .v (.s (.bool (isPattern p))) ∧ S' = S) := by
  refine evA_intro tok Tryz.func338 (by kernel_rfl) rfl ?_
  repeat' ((conv => whnf) <;> first
   | refine condP_inR (fun _ _ => ?_) (fun _ _ => ?_) | refine callP_eq (ev_l1In _ _ _ _) ?_ | refine And.intro ?_ ?_)
  all_goals first | rfl | (simp_all [resAV, isPattern]; done) | (simp_all [resAV, isPattern]; intros; omega)
theorem ev_iIsPattern (p : GPattern) (S : Store) : EvA Tryz.prog 140 [.agg p.c] S (fun r S' => r = .v (.s (.bool (isPattern p))) ∧ S' = S) := by
  refine evA_intro tok Tryz.func140 (by kernel_rfl) rfl ?_
  repeat' ((conv => whnf) <;> first
   | refine condP_inR (fun _ _ => ?_) (fun _ _ => ?_) | refine callP_eq (ev_InRange _ _ _ _) ?_ | refine And.intro ?_ ?_)
  all_goals first | rfl | (simp_all [resAV, isPattern]; done) | (simp_all [resAV, isPattern]; intros; omega)
def matchSite (p : GPattern) (s : GSite) : Bool := isPattern p && isSite s && (decide (p.Owner = 0) || decide (p.Owner = s.Owner)) && (decide (p.Sub = -1) || decide (p.Sub = s.Sub))
theorem ev_sMatchSite (p : GPattern) (s : GSite) (S : Store) : EvA Tryz.prog 360 [.agg p.c, .agg s.c] S (fun r S' => r = .v (.s (.bool (matchSite p s))) ∧ S' = S) := by
  refine evA_intro tok Tryz.func360 (by kernel_rfl) rfl ?_
  repeat' ((conv => whnf) <;> first
   | refine cD (fun _ => ?_) fun _ => ?_ | refine cT ?_ | refine cF ?_ | refine cI (fun _ => ?_) fun _ => ?_ | refine callP_eq (ev_sIsSite _ _) ?_ | refine callP_eq (ev_sIsPattern _ _) ?_ | refine And.intro ?_ ?_)
  all_goals first | rfl | (simp_all [resAV, matchSite]; done) | (simp_all [resAV, matchSite]; intros; omega)
theorem ev_iMatchSite (p : GPattern) (s : GSite) (S : Store) : EvA Tryz.prog 159 [.agg p.c, .agg s.c] S (fun r S' => r = .v (.s (.bool (matchSite p s))) ∧ S' = S) := by
  refine evA_intro tok Tryz.func159 (by kernel_rfl) rfl ?_
  repeat' ((conv => whnf) <;> first
   | refine cD (fun _ => ?_) fun _ => ?_ | refine cT ?_ | refine cF ?_ | refine cI (fun _ => ?_) fun _ => ?_ | refine callP_eq (ev_iIsSite _ _) ?_ | refine callP_eq (ev_iIsPattern _ _) ?_ | refine And.intro ?_ ?_)
  all_goals first | rfl | (simp_all [resAV, matchSite]; done) | (simp_all [resAV, matchSite]; intros; omega)
def narrower (p : GPattern) (q : GPattern) : Bool := isPattern p && isPattern q && (decide (q.Owner = 0) || decide (p.Owner = q.Owner)) && (decide (q.Sub = -1) || decide (p.Sub = q.Sub))
theorem ev_sIsNarrower (p : GPattern) (q : GPattern) (S : Store) : EvA Tryz.prog 314 [.agg p.c, .agg q.c] S (fun r S' => r = .v (.s (.bool (narrower p q))) ∧ S' = S) := by
  refine evA_intro tok Tryz.func314 (by kernel_rfl) rfl ?_
  repeat' ((conv => whnf) <;> first
   | refine cD (fun _ => ?_) fun _ => ?_ | refine cT ?_ | refine cF ?_ | refine cI (fun _ => ?_) fun _ => ?_ | refine callP_eq (ev_sIsPattern _ _) ?_ | refine And.intro ?_ ?_)
  all_goals first | rfl | (simp_all [resAV, narrower]; done) | (simp_all [resAV, narrower]; intros; omega)
def isGrant (g : GGrant) : Bool := inR g.Ext 1 5 && isPattern g.Pattern && inR g.Kind 1 4 && decide (0 ≤ g.From) && decide (g.From ≤ g.Until) && decide (g.Until ≤ 10000)
theorem ev_sIsGrant (g : GGrant) (S : Store) : EvA Tryz.prog 277 [.agg g.c] S (fun r S' => r = .v (.s (.bool (isGrant g))) ∧ S' = S) := by
  refine evA_intro tok Tryz.func277 (by kernel_rfl) rfl ?_
  repeat' ((conv => whnf) <;> first
   | refine cD (fun _ => ?_) fun _ => ?_ | refine cF ?_ | refine condP_inR (fun _ _ => ?_) (fun _ _ => ?_) | refine cI (fun _ => ?_) fun _ => ?_ | refine callP_eq (ev_l1In _ _ _ _) ?_ | refine callP_eq (ev_sIsPattern _ _) ?_ | refine And.intro ?_ ?_)
  all_goals first | rfl | (simp_all [resAV, isGrant]; done) | (simp_all [resAV, isGrant]; intros; omega)
theorem ev_iIsGrant (g : GGrant) (S : Store) : EvA Tryz.prog 68 [.agg g.c] S (fun r S' => r = .v (.s (.bool (isGrant g))) ∧ S' = S) := by
  refine evA_intro tok Tryz.func68 (by kernel_rfl) rfl ?_
  repeat' ((conv => whnf) <;> first
   | refine cD (fun _ => ?_) fun _ => ?_ | refine cF ?_ | refine condP_inR (fun _ _ => ?_) (fun _ _ => ?_) | refine cI (fun _ => ?_) fun _ => ?_ | refine callP_eq (ev_InRange _ _ _ _) ?_ | refine callP_eq (ev_iIsPattern _ _) ?_ | refine And.intro ?_ ?_)
  all_goals first | rfl | (simp_all [resAV, isGrant]; done) | (simp_all [resAV, isGrant]; intros; omega)
def covers (g : GGrant) (ext : Int) (s : GSite) (kind : Int) (tick : Int) (clicked : Bool) : Bool := isGrant g && decide (g.Ext = ext) && decide (g.Kind = kind) && matchSite g.Pattern s && inR tick g.From g.Until && (clicked || !g.Click)
theorem ev_sCovers (g : GGrant) (ext : Int) (s : GSite) (kind : Int) (tick : Int) (clicked : Bool) (S : Store) : EvA Tryz.prog 362 [.agg g.c, .s (.int .i64 ext), .agg s.c, .s (.int .i64 kind), .s (.int .i64 tick), .s (.bool clicked)] S (fun r S' => r = .v (.s (.bool (covers g ext s kind tick clicked))) ∧ S' = S) := by
  refine evA_intro tok Tryz.func362 (by kernel_rfl) rfl ?_
  repeat' ((conv => whnf) <;> first
   | refine cD (fun _ => ?_) fun _ => ?_ | refine cF ?_ | refine condP_inR (fun _ _ => ?_) (fun _ _ => ?_) | refine cI (fun _ => ?_) fun _ => ?_ | refine callP_eq (ev_l1In _ _ _ _) ?_ | refine callP_eq (ev_sIsGrant _ _) ?_ | refine callP_eq (ev_sMatchSite _ _ _) ?_ | refine And.intro ?_ ?_)
  all_goals first | rfl | (simp_all [resAV, covers]; done) | (simp_all [resAV, covers]; intros; omega)
theorem ev_iCovers (g : GGrant) (ext : Int) (s : GSite) (kind : Int) (tick : Int) (clicked : Bool) (S : Store) : EvA Tryz.prog 158 [.agg g.c, .s (.int .i64 ext), .agg s.c, .s (.int .i64 kind), .s (.int .i64 tick), .s (.bool clicked)] S (fun r S' => r = .v (.s (.bool (covers g ext s kind tick clicked))) ∧ S' = S) := by
  refine evA_intro tok Tryz.func158 (by kernel_rfl) rfl ?_
  repeat' ((conv => whnf) <;> first
   | refine cD (fun _ => ?_) fun _ => ?_ | refine cF ?_ | refine condP_inR (fun _ _ => ?_) (fun _ _ => ?_) | refine cI (fun _ => ?_) fun _ => ?_ | refine callP_eq (ev_InRange _ _ _ _) ?_ | refine callP_eq (ev_iIsGrant _ _) ?_ | refine callP_eq (ev_iMatchSite _ _ _) ?_ | refine And.intro ?_ ?_)
  all_goals first | rfl | (simp_all [resAV, covers]; done) | (simp_all [resAV, covers]; intros; omega)
def isAllowed (l : List GGrant) (ext : Int) (s : GSite) (kind : Int) (tick : Int) (clicked : Bool) : Bool := l.any fun x => covers x ext s kind tick clicked
theorem ev_sIsAllowed (l : List GGrant) (ext : Int) (s : GSite) (kind : Int) (tick : Int) (clicked : Bool) (c : C) (S : Store) (h : Rd S [.sl 7 (l.map GGrant.d)] [c]) : EvA Tryz.prog 348 [.s c, .s (.int .i64 ext), .agg s.c, .s (.int .i64 kind), .s (.int .i64 tick), .s (.bool clicked)] S (fun r S' => r = .v (.s (.bool (isAllowed l ext s kind tick clicked))) ∧ S' = S) := by
  refine evA_intro tok Tryz.func348 (by kernel_rfl) rfl ?_
  skip
  refine loop_intro {i : Nat // i ≤ l.length ∧ isAllowed (l.drop i) ext s kind tick clicked = isAllowed l ext s kind tick clicked} [12, 13, 14, 15, 16, 17, 18, 19, 20, 21, 22, 23, 24, 25, 26, 27, 28, 29] (fun zb => [(13, .v (.s (.int .i64 zb.1)))]) (fun _ => S) (fun zb => l.length - zb.1) ⟨0, Nat.zero_le _, by simp⟩ ?_ rfl ?_
  · (conv => whnf); repeat' (first | exact trivial | exact rfl | apply And.intro)
  rintro ⟨i, hi, hinv⟩; dsimp only
  repeat' ((conv => whnf) <;> first
   | rw [wrapI_i64 (by omega)] | refine cD (fun _ => ?_) fun _ => ?_ | refine cI (fun _ => ?_) fun _ => ?_ | refine callP_eq (ev_sCovers _ _ _ _ _ _ _) ?_ | refine rE fun hml => ?_ | refine rI aN rf ix ?_ | refine rd_loadf aN tv ix ?_ | refine draw_intro 20 [.fl 0, .fl 1, .fl 2, .fl 3, .fl 4, .fl 5, .fl 6, .fl 7, .fl 8, .st 9 []] (by rfl) (by kernel_rfl) ?_ | refine And.intro ?_ ?_)
  all_goals first
    | rfl
    | (rw [drop_end (by omega)] at hinv; rw [← hinv]; rfl)
    | (rw [drop_at (by omega)] at hinv; simp only [isAllowed, List.any_cons] at hinv
       first
         | (rw [show isAllowed l ext s kind tick clicked = true from by simp only [isAllowed]; rw [← hinv]; simp_all]; rfl)
         | (refine ⟨⟨i + 1, by omega, by simp only [isAllowed]; rw [← hinv]; simp_all⟩, ?_, rfl, by simp; omega⟩; (conv => whnf); repeat' (first | exact trivial | exact rfl | apply And.intro)))
theorem ev_iIsAllowed (l : List GGrant) (ext : Int) (s : GSite) (kind : Int) (tick : Int) (clicked : Bool) (c : C) (S : Store) (h : Rd S [.sl 7 (l.map GGrant.d)] [c]) : EvA Tryz.prog 85 [.s c, .s (.int .i64 ext), .agg s.c, .s (.int .i64 kind), .s (.int .i64 tick), .s (.bool clicked)] S (fun r S' => r = .v (.s (.bool (isAllowed l ext s kind tick clicked))) ∧ S' = S) := by
  refine evA_intro tok Tryz.func85 (by kernel_rfl) rfl ?_
  repeat' ((conv => whnf) <;> first
   | refine rE fun hml => ?_)
  refine loop_intro {i : Nat // i ≤ l.length ∧ isAllowed (l.drop i) ext s kind tick clicked = isAllowed l ext s kind tick clicked} [12, 14, 17, 18, 19, 20, 21, 22, 23, 24, 25, 26, 27, 28] (fun zb => [(17, .v (.s (.int .i64 zb.1)))]) (fun _ => S) (fun zb => l.length - zb.1) ⟨0, Nat.zero_le _, by simp⟩ ?_ rfl ?_
  · (conv => whnf); repeat' (first | exact trivial | exact rfl | apply And.intro)
  rintro ⟨i, hi, hinv⟩; dsimp only
  repeat' ((conv => whnf) <;> first
   | rw [wrapI_i64 (by omega)] | refine cD (fun _ => ?_) fun _ => ?_ | refine cI (fun _ => ?_) fun _ => ?_ | refine callP_eq (ev_iCovers _ _ _ _ _ _ _) ?_ | refine rI aN rf ix ?_ | refine rd_loadf aN tv ix ?_ | refine And.intro ?_ ?_)
  all_goals first
    | rfl
    | (rw [drop_end (by omega)] at hinv; rw [← hinv]; rfl)
    | (rw [drop_at (by omega)] at hinv; simp only [isAllowed, List.any_cons] at hinv
       first
         | (rw [show isAllowed l ext s kind tick clicked = true from by simp only [isAllowed]; rw [← hinv]; simp_all]; rfl)
         | (refine ⟨⟨i + 1, by omega, by simp only [isAllowed]; rw [← hinv]; simp_all⟩, ?_, rfl, by simp; omega⟩; (conv => whnf); repeat' (first | exact trivial | exact rfl | apply And.intro)))
def isLimit (x : GLimit) : Bool := inR x.Ext 0 5 && isPattern x.Pattern && inR x.Kind 0 4
theorem ev_sIsLimit (x : GLimit) (S : Store) : EvA Tryz.prog 319 [.agg x.c] S (fun r S' => r = .v (.s (.bool (isLimit x))) ∧ S' = S) := by
  refine evA_intro tok Tryz.func319 (by kernel_rfl) rfl ?_
  repeat' ((conv => whnf) <;> first
   | refine cF ?_ | refine condP_inR (fun _ _ => ?_) (fun _ _ => ?_) | refine cI (fun _ => ?_) fun _ => ?_ | refine callP_eq (ev_l1In _ _ _ _) ?_ | refine callP_eq (ev_sIsPattern _ _) ?_ | refine And.intro ?_ ?_)
  all_goals first | rfl | (simp_all [resAV, isLimit]; done) | (simp_all [resAV, isLimit]; intros; omega)
theorem ev_iIsLimit (x : GLimit) (S : Store) : EvA Tryz.prog 69 [.agg x.c] S (fun r S' => r = .v (.s (.bool (isLimit x))) ∧ S' = S) := by
  refine evA_intro tok Tryz.func69 (by kernel_rfl) rfl ?_
  repeat' ((conv => whnf) <;> first
   | refine cF ?_ | refine condP_inR (fun _ _ => ?_) (fun _ _ => ?_) | refine cI (fun _ => ?_) fun _ => ?_ | refine callP_eq (ev_InRange _ _ _ _) ?_ | refine callP_eq (ev_iIsPattern _ _) ?_ | refine And.intro ?_ ?_)
  all_goals first | rfl | (simp_all [resAV, isLimit]; done) | (simp_all [resAV, isLimit]; intros; omega)
def denied1 (x : GLimit) (ext : Int) (s : GSite) (kind : Int) : Bool := isLimit x && (decide (x.Ext = 0) || decide (x.Ext = ext)) && (decide (x.Kind = 0) || decide (x.Kind = kind)) && matchSite x.Pattern s
def isDenied (l : List GLimit) (ext : Int) (s : GSite) (kind : Int) : Bool := l.any fun x => denied1 x ext s kind
theorem ev_sIsDenied (l : List GLimit) (ext : Int) (s : GSite) (kind : Int) (c : C) (S : Store) (h : Rd S [.sl 4 (l.map GLimit.d)] [c]) : EvA Tryz.prog 349 [.s c, .s (.int .i64 ext), .agg s.c, .s (.int .i64 kind)] S (fun r S' => r = .v (.s (.bool (isDenied l ext s kind))) ∧ S' = S) := by
  refine evA_intro tok Tryz.func349 (by kernel_rfl) rfl ?_
  skip
  refine loop_intro {i : Nat // i ≤ l.length ∧ isDenied (l.drop i) ext s kind = isDenied l ext s kind} [8, 9, 10, 11, 12, 13, 14, 15, 16, 17, 18, 19, 20, 21, 22, 23, 24, 25, 26, 27, 28, 29, 30, 31, 32, 33, 34, 35, 36, 37, 38, 39, 40, 41, 42, 43, 44, 45, 46, 47, 48, 49, 50] (fun zb => [(9, .v (.s (.int .i64 zb.1)))]) (fun _ => S) (fun zb => l.length - zb.1) ⟨0, Nat.zero_le _, by simp⟩ ?_ rfl ?_
  · (conv => whnf); repeat' (first | exact trivial | exact rfl | apply And.intro)
  rintro ⟨i, hi, hinv⟩; dsimp only
  repeat' ((conv => whnf) <;> first
   | rw [wrapI_i64 (by omega)] | refine cD (fun _ => ?_) fun _ => ?_ | refine cT ?_ | refine cF ?_ | refine cI (fun _ => ?_) fun _ => ?_ | refine callP_eq (ev_sIsLimit _ _) ?_ | refine callP_eq (ev_sMatchSite _ _ _) ?_ | refine rE fun hml => ?_ | refine rI aN rf ix ?_ | refine rd_loadf aN tv ix ?_ | refine And.intro ?_ ?_)
  all_goals first
    | rfl
    | (rw [drop_end (by omega)] at hinv; rw [← hinv]; rfl)
    | (rw [drop_at (by omega)] at hinv; simp only [isDenied, List.any_cons] at hinv
       first
         | (rw [show isDenied l ext s kind = true from by simp only [isDenied]; rw [← hinv]; simp_all [denied1]]; rfl)
         | (refine ⟨⟨i + 1, by omega, by simp only [isDenied]; rw [← hinv]; simp_all [denied1]⟩, ?_, rfl, by simp; omega⟩; (conv => whnf); repeat' (first | exact trivial | exact rfl | apply And.intro)))
theorem ev_iIsDenied (l : List GLimit) (ext : Int) (s : GSite) (kind : Int) (c : C) (S : Store) (h : Rd S [.sl 4 (l.map GLimit.d)] [c]) : EvA Tryz.prog 86 [.s c, .s (.int .i64 ext), .agg s.c, .s (.int .i64 kind)] S (fun r S' => r = .v (.s (.bool (isDenied l ext s kind))) ∧ S' = S) := by
  refine evA_intro tok Tryz.func86 (by kernel_rfl) rfl ?_
  repeat' ((conv => whnf) <;> first
   | refine rE fun hml => ?_)
  refine loop_intro {i : Nat // i ≤ l.length ∧ isDenied (l.drop i) ext s kind = isDenied l ext s kind} [8, 10, 13, 14, 15, 16, 17, 18, 19, 20, 21, 22, 23, 24, 25, 26, 27, 28, 29, 30, 31, 32, 33, 34, 35, 36, 37, 38, 39, 40, 41, 42, 43, 44, 45, 46, 47] (fun zb => [(13, .v (.s (.int .i64 zb.1)))]) (fun _ => S) (fun zb => l.length - zb.1) ⟨0, Nat.zero_le _, by simp⟩ ?_ rfl ?_
  · (conv => whnf); repeat' (first | exact trivial | exact rfl | apply And.intro)
  rintro ⟨i, hi, hinv⟩; dsimp only
  repeat' ((conv => whnf) <;> first
   | rw [wrapI_i64 (by omega)] | refine cD (fun _ => ?_) fun _ => ?_ | refine cT ?_ | refine cF ?_ | refine cI (fun _ => ?_) fun _ => ?_ | refine callP_eq (ev_iIsLimit _ _) ?_ | refine callP_eq (ev_iMatchSite _ _ _) ?_ | refine rI aN rf ix ?_ | refine rd_loadf aN tv ix ?_ | refine And.intro ?_ ?_)
  all_goals first
    | rfl
    | (rw [drop_end (by omega)] at hinv; rw [← hinv]; rfl)
    | (rw [drop_at (by omega)] at hinv; simp only [isDenied, List.any_cons] at hinv
       first
         | (rw [show isDenied l ext s kind = true from by simp only [isDenied]; rw [← hinv]; simp_all [denied1]]; rfl)
         | (refine ⟨⟨i + 1, by omega, by simp only [isDenied]; rw [← hinv]; simp_all [denied1]⟩, ?_, rfl, by simp; omega⟩; (conv => whnf); repeat' (first | exact trivial | exact rfl | apply And.intro)))
def mayDo (g : List GGrant) (l : List GLimit) (ext : Int) (s : GSite) (kind tick : Int) (clicked : Bool) : Bool := isAllowed g ext s kind tick clicked && !isDenied l ext s kind
theorem ev_sMayDo (g : List GGrant) (l : List GLimit) (ext : Int) (s : GSite) (kind tick : Int) (clicked : Bool) (c c' : C) (S : Store) (h : Rd S [.sl 7 (g.map GGrant.d)] [c]) (h' : Rd S [.sl 4 (l.map GLimit.d)] [c']) : EvA Tryz.prog 296 [.s c, .s c', .s (.int .i64 ext), .agg s.c, .s (.int .i64 kind), .s (.int .i64 tick), .s (.bool clicked)] S (fun r S' => r = .v (.s (.bool (mayDo g l ext s kind tick clicked))) ∧ S' = S) := by
  refine evA_intro tok Tryz.func296 (by kernel_rfl) rfl ?_
  repeat' ((conv => whnf) <;> first
   | refine cI (fun _ => ?_) fun _ => ?_ | refine callP_eq (ev_sIsAllowed _ _ _ _ _ _ _ _ aN) ?_ | refine callP_eq (ev_sIsDenied _ _ _ _ _ _ aN) ?_ | refine And.intro ?_ ?_)
  all_goals first | rfl | (simp_all [resAV, mayDo]; done)
theorem ev_iMayDo (g : List GGrant) (l : List GLimit) (ext : Int) (s : GSite) (kind tick : Int) (clicked : Bool) (c c' : C) (S : Store) (h : Rd S [.sl 7 (g.map GGrant.d)] [c]) (h' : Rd S [.sl 4 (l.map GLimit.d)] [c']) : EvA Tryz.prog 24 [.s c, .s c', .s (.int .i64 ext), .agg s.c, .s (.int .i64 kind), .s (.int .i64 tick), .s (.bool clicked)] S (fun r S' => r = .v (.s (.bool (mayDo g l ext s kind tick clicked))) ∧ S' = S) := by
  refine evA_intro tok Tryz.func24 (by kernel_rfl) rfl ?_
  repeat' ((conv => whnf) <;> first
   | refine cI (fun _ => ?_) fun _ => ?_ | refine callP_eq (ev_iIsAllowed _ _ _ _ _ _ _ _ aN) ?_ | refine callP_eq (ev_iIsDenied _ _ _ _ _ _ aN) ?_ | refine And.intro ?_ ?_)
  all_goals first | rfl | (simp_all [resAV, mayDo]; done)
def isLent (g : GGrant) : Bool := isGrant g && !decide (g.Pattern.Owner = 0) && !decide (g.Pattern.Sub = -1) && (decide (g.Kind = 1) || decide (g.Kind = 2)) && decide (g.Until = g.From + 5) && !g.Click
theorem ev_sIsLent (g : GGrant) (S : Store) : EvA Tryz.prog 359 [.agg g.c] S (fun r S' => r = .v (.s (.bool (isLent g))) ∧ S' = S) := by
  have hg : isGrant g = true → (1 ≤ g.Kind ∧ g.Kind ≤ 4) ∧ 0 ≤ g.From ∧ g.From ≤ g.Until ∧ g.Until ≤ 10000 := by
    intro h; simp [isGrant, inR] at h; omega
  by_cases hG : isGrant g = true
  · have hq := hg hG
    refine evA_intro tok Tryz.func359 (by kernel_rfl) rfl ?_
    repeat' ((conv => whnf) <;> first
     | rw [wrapI_i64 (by omega)] | refine cD (fun _ => ?_) fun _ => ?_ | refine cE (fun _ => ?_) fun _ => ?_ | refine cF ?_ | refine condP_inR (fun _ _ => ?_) (fun _ _ => ?_) | refine cI (fun _ => ?_) fun _ => ?_ | refine callP_eq (ev_l1In _ _ _ _) ?_ | refine callP_eq (ev_sIsGrant _ _) ?_ | refine And.intro ?_ ?_)
    all_goals first | rfl | (simp_all [resAV, isLent]; done) | (simp_all [resAV, isLent]; omega)
  · have hL : isLent g = false := by simp_all [isLent]
    rw [hL]
    refine evA_intro tok Tryz.func359 (by kernel_rfl) rfl ?_
    repeat' ((conv => whnf) <;> first
     | refine cD (fun _ => ?_) fun _ => ?_ | refine cE (fun _ => ?_) fun _ => ?_ | refine cF ?_ | refine condP_inR (fun _ _ => ?_) (fun _ _ => ?_) | refine cI (fun _ => ?_) fun _ => ?_ | refine callP_eq (ev_l1In _ _ _ _) ?_ | refine callP_eq (ev_sIsGrant _ _) ?_ | refine And.intro ?_ ?_)
    all_goals first | rfl | (exfalso; simp_all; done)
end Go.Proofs.YtlmmdpmmdmhacaaGreat
