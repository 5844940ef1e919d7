/- Patterns, grants, limits. -/
import Derived.Test.YtakmoigpjaceeaaDoorFnB
namespace Go.Proofs.YtakmoigpjaceeaaDoor
open Go Go.ChangeShapes Go.WideShapes Go.ChangeAt Go.RowKit
set_option linter.unusedVariables false
set_option maxRecDepth 100000

def isPattern (p : GPattern) : Bool := inR p.Owner 0 9 && inR p.Sub (-1) 9
theorem ev_sIsPattern (p : GPattern) (S : Store) : EvA Tryd.prog 26 [.agg p.c] S (fun r S' => r = .v (.s (.bool (isPattern p))) ∧ S' = S) := by
  refine evA_intro tok Tryd.func26 (by kernel_rfl) rfl ?_
  repeat' ((conv => whnf) <;> first
   | refine condP_dec (fun _ => ?_) (fun _ => ?_)
   | refine condP_ndec (fun _ => ?_) (fun _ => ?_)
   | refine condP_true rfl ?_
   | refine condP_false rfl ?_
   | refine condP_inR (fun _ _ => ?_) (fun _ _ => ?_)
   | refine condP_ninR (fun _ _ => ?_) (fun _ _ => ?_)
   | refine condP_not (fun _ => ?_) (fun _ => ?_)
   | refine condP_intro (fun _ => ?_) (fun _ => ?_)
   | refine callP_eq (ev_l1In _ _ _ _) ?_
   | refine needP_intro (by first | omega | (constructor <;> omega) | fail) ?_
   | refine And.intro ?_ ?_)
  all_goals first | rfl | (simp_all [resAV, isPattern]; done) | (simp_all [resAV, isPattern]; intros; omega)
theorem ev_iIsPattern (p : GPattern) (S : Store) : EvA Tryd.prog 28 [.agg p.c] S (fun r S' => r = .v (.s (.bool (isPattern p))) ∧ S' = S) := by
  refine evA_intro tok Tryd.func28 (by kernel_rfl) rfl ?_
  repeat' ((conv => whnf) <;> first
   | refine condP_dec (fun _ => ?_) (fun _ => ?_)
   | refine condP_ndec (fun _ => ?_) (fun _ => ?_)
   | refine condP_true rfl ?_
   | refine condP_false rfl ?_
   | refine condP_inR (fun _ _ => ?_) (fun _ _ => ?_)
   | refine condP_ninR (fun _ _ => ?_) (fun _ _ => ?_)
   | refine condP_not (fun _ => ?_) (fun _ => ?_)
   | refine condP_intro (fun _ => ?_) (fun _ => ?_)
   | refine callP_eq (ev_InRange _ _ _ _) ?_
   | refine needP_intro (by first | omega | (constructor <;> omega) | fail) ?_
   | refine And.intro ?_ ?_)
  all_goals first | rfl | (simp_all [resAV, isPattern]; done) | (simp_all [resAV, isPattern]; intros; omega)
def matchSite (p : GPattern) (s : GSite) : Bool := isPattern p && isSite s && (decide (p.Owner = 0) || decide (p.Owner = s.Owner)) && (decide (p.Sub = -1) || decide (p.Sub = s.Sub))
def narrower (p : GPattern) (q : GPattern) : Bool := isPattern p && isPattern q && (decide (q.Owner = 0) || decide (p.Owner = q.Owner)) && (decide (q.Sub = -1) || decide (p.Sub = q.Sub))
def isGrant (g : GGrant) : Bool := inR g.Ext 1 5 && isPattern g.Pattern && inR g.Kind 1 4 && decide (0 ≤ g.From) && decide (g.From ≤ g.Until) && decide (g.Until ≤ 10000)
theorem ev_sIsGrant (g : GGrant) (S : Store) : EvA Tryd.prog 13 [.agg g.c] S (fun r S' => r = .v (.s (.bool (isGrant g))) ∧ S' = S) := by
  refine evA_intro tok Tryd.func13 (by kernel_rfl) rfl ?_
  repeat' ((conv => whnf) <;> first
   | refine condP_dec (fun _ => ?_) (fun _ => ?_)
   | refine condP_ndec (fun _ => ?_) (fun _ => ?_)
   | refine condP_true rfl ?_
   | refine condP_false rfl ?_
   | refine condP_inR (fun _ _ => ?_) (fun _ _ => ?_)
   | refine condP_ninR (fun _ _ => ?_) (fun _ _ => ?_)
   | refine condP_not (fun _ => ?_) (fun _ => ?_)
   | refine condP_intro (fun _ => ?_) (fun _ => ?_)
   | refine callP_eq (ev_l1In _ _ _ _) ?_
   | refine callP_eq (ev_sIsPattern _ _) ?_
   | refine callP_eq (ev_sIsPattern ⟨_, _⟩ _) ?_
   | refine needP_intro (by first | omega | (constructor <;> omega) | fail) ?_
   | refine And.intro ?_ ?_)
  all_goals first | rfl | (simp_all [resAV, isGrant]; done) | (simp_all [resAV, isGrant]; intros; omega)
theorem ev_iIsGrant (g : GGrant) (S : Store) : EvA Tryd.prog 17 [.agg g.c] S (fun r S' => r = .v (.s (.bool (isGrant g))) ∧ S' = S) := by
  refine evA_intro tok Tryd.func17 (by kernel_rfl) rfl ?_
  repeat' ((conv => whnf) <;> first
   | refine condP_dec (fun _ => ?_) (fun _ => ?_)
   | refine condP_ndec (fun _ => ?_) (fun _ => ?_)
   | refine condP_true rfl ?_
   | refine condP_false rfl ?_
   | refine condP_inR (fun _ _ => ?_) (fun _ _ => ?_)
   | refine condP_ninR (fun _ _ => ?_) (fun _ _ => ?_)
   | refine condP_not (fun _ => ?_) (fun _ => ?_)
   | refine condP_intro (fun _ => ?_) (fun _ => ?_)
   | refine callP_eq (ev_InRange _ _ _ _) ?_
   | refine callP_eq (ev_iIsPattern _ _) ?_
   | refine callP_eq (ev_iIsPattern ⟨_, _⟩ _) ?_
   | refine needP_intro (by first | omega | (constructor <;> omega) | fail) ?_
   | refine And.intro ?_ ?_)
  all_goals first | rfl | (simp_all [resAV, isGrant]; done) | (simp_all [resAV, isGrant]; intros; omega)
def covers (g : GGrant) (ext : Int) (s : GSite) (kind : Int) (tick : Int) (clicked : Bool) : Bool := isGrant g && decide (g.Ext = ext) && decide (g.Kind = kind) && matchSite g.Pattern s && inR tick g.From g.Until && (clicked || !g.Click)
def isAllowed (l : List GGrant) (ext : Int) (s : GSite) (kind : Int) (tick : Int) (clicked : Bool) : Bool := l.any fun x => covers x ext s kind tick clicked
def isLimit (x : GLimit) : Bool := inR x.Ext 0 5 && isPattern x.Pattern && inR x.Kind 0 4
def denied1 (x : GLimit) (ext : Int) (s : GSite) (kind : Int) : Bool := isLimit x && (decide (x.Ext = 0) || decide (x.Ext = ext)) && (decide (x.Kind = 0) || decide (x.Kind = kind)) && matchSite x.Pattern s
def isDenied (l : List GLimit) (ext : Int) (s : GSite) (kind : Int) : Bool := l.any fun x => denied1 x ext s kind
def mayDo (g : List GGrant) (l : List GLimit) (ext : Int) (s : GSite) (kind tick : Int) (clicked : Bool) : Bool := isAllowed g ext s kind tick clicked && !isDenied l ext s kind
def isLent (g : GGrant) : Bool := isGrant g && !decide (g.Pattern.Owner = 0) && !decide (g.Pattern.Sub = -1) && (decide (g.Kind = 1) || decide (g.Kind = 2)) && decide (g.Until = g.From + 5) && !g.Click
end Go.Proofs.YtakmoigpjaceeaaDoor
