/- FnExactCountKind returns true for every argument, and its arguments read as before. No condition. -/
import Derived.Test.YtffjmmccafgofaaFnCt
import Derived.Test.YtffjmmccafgofaaAeN
namespace Go.Proofs.Ytffjmmccafgofaa
open Go Go.ChangeShapes Go.WideShapes Go.ChangeAt Go.RowKit
set_option linter.unusedVariables false
set_option maxRecDepth 100000

/-- how many events are of a kind, from here on -/
def cntGo (k : Int) : List GEvent → Int → Int
  | [], n => n
  | e :: r, n => cntGo k r (if e.Kind = k then n + 1 else n)
def countKind (l : List GEvent) (k : Int) : Int := cntGo k l 0
theorem ev_iCountKind (l : List GEvent) (k : Int) (c : C) (S : Store) (h : Rd S [.sl 26 (l.map GEvent.d)] [c]) : EvA Try.prog 39 [.s c, .s (.int .i64 k)] S (fun r S' => r = .v (.s (.int .i64 (countKind l k))) ∧ S' = S) := by
  refine evA_intro tok Try.func39 (by kernel_rfl) rfl ?_
  repeat' ((conv => whnf); first
      | rw [wrapI_i64 (by omega)]
      | refine condP_dec (fun _ => ?_) (fun _ => ?_)
      | refine condP_ndec (fun _ => ?_) (fun _ => ?_)
      | refine condP_true rfl ?_
      | refine condP_false rfl ?_
      | refine condP_not (fun _ => ?_) (fun _ => ?_)
      | refine condP_intro (fun _ => ?_) (fun _ => ?_)
      | (refine rd_lenm (by assumption) ?_; intro hml; rw [maxLen_eq] at hml)
      | refine rd_idxm (by assumption) (by intro _; rfl) (by constructor <;> omega) ?_
      | (refine rd_loadm (f := GEvent.d) (by assumption) (by constructor <;> omega) ?_; intro _ hcs; obtain ⟨_, _, _, _, rfl, _, _, _, _⟩ := GEvent.inv hcs)
      | refine needP_intro (by first | omega | (constructor <;> omega)) ?_
      | refine And.intro ?_ ?_)
  refine loop_intro {p : Nat × Int // p.1 ≤ l.length ∧ ((0 ≤ p.2 ∧ p.2 ≤ p.1) ∧ cntGo k (l.drop p.1) p.2 = countKind l k)} [5, 7, 10, 11, 12, 13, 14, 15, 16, 17, 18, 19, 20] (fun b => [(10, .v (.s (.int .i64 b.1.1))), (5, .v (.s (.int .i64 b.1.2)))]) (fun _ => S) (fun b => l.length - b.1.1) ⟨(0, 0), Nat.zero_le _, ⟨by decide, rfl⟩⟩ ?_ rfl ?_
  · (conv => whnf); repeat' (first | exact trivial | exact rfl | apply And.intro)
  rintro ⟨⟨i, st⟩, hi, hinv⟩; dsimp only
  replace hi : i ≤ l.length := hi; dsimp only at hinv
  obtain ⟨hst, hinv⟩ := hinv
  repeat' ((conv => whnf); first
      | rw [wrapI_i64 (by omega)]
      | refine condP_dec (fun _ => ?_) (fun _ => ?_)
      | refine condP_ndec (fun _ => ?_) (fun _ => ?_)
      | refine condP_true rfl ?_
      | refine condP_false rfl ?_
      | refine condP_not (fun _ => ?_) (fun _ => ?_)
      | refine condP_intro (fun _ => ?_) (fun _ => ?_)
      | (refine rd_lenm (by assumption) ?_; intro hml; rw [maxLen_eq] at hml)
      | refine rd_idxm (by assumption) (by intro _; rfl) (by constructor <;> omega) ?_
      | (refine rd_loadm (f := GEvent.d) (by assumption) (by constructor <;> omega) ?_; intro _ hcs; obtain ⟨_, _, _, _, rfl, _, _, _, _⟩ := GEvent.inv hcs)
      | refine needP_intro (by first | omega | (constructor <;> omega)) ?_
      | refine And.intro ?_ ?_)
  all_goals first
    | rfl
    | (rw [drop_end (by omega), cntGo] at hinv; rw [hinv]; rfl)
    | (rw [drop_at (by omega), cntGo] at hinv
       first | rw [if_pos (by assumption)] at hinv | rw [if_neg (by assumption)] at hinv
       refine ⟨⟨(i + 1, _), by dsimp only; omega, by dsimp only; omega, hinv⟩, ?_, rfl, by dsimp only; omega⟩; (conv => whnf); repeat' (first | exact trivial | exact rfl | apply And.intro))
theorem ev_sCountKind (l : List GEvent) (k : Int) (c : C) (S : Store) (h : Rd S [.sl 26 (l.map GEvent.d)] [c]) : EvA Try.prog 37 [.s c, .s (.int .i64 k)] S (fun r S' => r = .v (.s (.int .i64 (countKind l k))) ∧ S' = S) := by
  refine evA_intro tok Try.func37 (by kernel_rfl) rfl ?_
  repeat' ((conv => whnf); first
      | rw [wrapI_i64 (by omega)]
      | refine condP_dec (fun _ => ?_) (fun _ => ?_)
      | refine condP_ndec (fun _ => ?_) (fun _ => ?_)
      | refine condP_true rfl ?_
      | refine condP_false rfl ?_
      | refine condP_not (fun _ => ?_) (fun _ => ?_)
      | refine condP_intro (fun _ => ?_) (fun _ => ?_)
      | (refine rd_lenm (by assumption) ?_; intro hml; rw [maxLen_eq] at hml)
      | refine rd_idxm (by assumption) (by intro _; rfl) (by constructor <;> omega) ?_
      | (refine rd_loadm (f := GEvent.d) (by assumption) (by constructor <;> omega) ?_; intro _ hcs; obtain ⟨_, _, _, _, rfl, _, _, _, _⟩ := GEvent.inv hcs)
      | refine needP_intro (by first | omega | (constructor <;> omega)) ?_
      | refine And.intro ?_ ?_)
  refine loop_intro {p : Nat × Int // p.1 ≤ l.length ∧ ((0 ≤ p.2 ∧ p.2 ≤ p.1) ∧ cntGo k (l.drop p.1) p.2 = countKind l k)} [5, 6, 7, 8, 9, 10, 11, 12, 13, 14, 15, 16, 17, 18, 19, 20, 21] (fun b => [(6, .v (.s (.int .i64 b.1.1))), (5, .v (.s (.int .i64 b.1.2)))]) (fun _ => S) (fun b => l.length - b.1.1) ⟨(0, 0), Nat.zero_le _, ⟨by decide, rfl⟩⟩ ?_ rfl ?_
  · (conv => whnf); repeat' (first | exact trivial | exact rfl | apply And.intro)
  rintro ⟨⟨i, st⟩, hi, hinv⟩; dsimp only
  replace hi : i ≤ l.length := hi; dsimp only at hinv
  obtain ⟨hst, hinv⟩ := hinv
  repeat' ((conv => whnf); first
      | rw [wrapI_i64 (by omega)]
      | refine condP_dec (fun _ => ?_) (fun _ => ?_)
      | refine condP_ndec (fun _ => ?_) (fun _ => ?_)
      | refine condP_true rfl ?_
      | refine condP_false rfl ?_
      | refine condP_not (fun _ => ?_) (fun _ => ?_)
      | refine condP_intro (fun _ => ?_) (fun _ => ?_)
      | (refine rd_lenm (by assumption) ?_; intro hml; rw [maxLen_eq] at hml)
      | refine rd_idxm (by assumption) (by intro _; rfl) (by constructor <;> omega) ?_
      | (refine rd_loadm (f := GEvent.d) (by assumption) (by constructor <;> omega) ?_; intro _ hcs; obtain ⟨_, _, _, _, rfl, _, _, _, _⟩ := GEvent.inv hcs)
      | refine needP_intro (by first | omega | (constructor <;> omega)) ?_
      | refine And.intro ?_ ?_)
  all_goals first
    | rfl
    | (rw [drop_end (by omega), cntGo] at hinv; rw [hinv]; rfl)
    | (rw [drop_at (by omega), cntGo] at hinv
       first | rw [if_pos (by assumption)] at hinv | rw [if_neg (by assumption)] at hinv
       refine ⟨⟨(i + 1, _), by dsimp only; omega, by dsimp only; omega, hinv⟩, ?_, rfl, by dsimp only; omega⟩; (conv => whnf); repeat' (first | exact trivial | exact rfl | apply And.intro))
/-- the law -/
theorem ev_law (l : List GEvent) (c : C) (k : Int) (S : Store) (h : Rd S [.sl 26 (l.map GEvent.d)] [c]) : EvA Try.prog 8 [.s c, .s (.int .i64 k)] S (fun r _ => r = .v (.s (.bool true))) := by
  refine evA_intro tok Try.func8 (by kernel_rfl) rfl ?_
  repeat' ((conv => whnf); first
      | refine condP_szR (by omega) (fun _ _ => ?_) (fun _ _ => ?_)
      | refine condP_dec (fun _ => ?_) (fun _ => ?_)
      | refine condP_ndec (fun _ => ?_) (fun _ => ?_)
      | refine condP_true rfl ?_
      | refine condP_false rfl ?_
      | refine condP_not (fun _ => ?_) (fun _ => ?_)
      | refine condP_intro (fun _ => ?_) (fun _ => ?_)
      | refine callP_eq (ev_szEventS _ _ _ _ (by (first | assumption | exact Fr.rd (by assumption) | exact Rd.ext (by first | assumption | exact Fr.rd (by assumption)) (by (first | assumption | exact Ext.trans (by assumption) (by assumption) | exact Ext.trans (by assumption) (Ext.trans (by assumption) (by assumption)) | exact Ext.trans (by assumption) (Ext.trans (by assumption) (Ext.trans (by assumption) (by assumption))))))) (by omega)) ?_
      | refine callP_eq (ev_sCountKind _ _ _ _ (by (first | assumption | exact Fr.rd (by assumption) | exact Rd.ext (by first | assumption | exact Fr.rd (by assumption)) (by (first | assumption | exact Ext.trans (by assumption) (by assumption) | exact Ext.trans (by assumption) (Ext.trans (by assumption) (by assumption)) | exact Ext.trans (by assumption) (Ext.trans (by assumption) (Ext.trans (by assumption) (by assumption)))))))) ?_
      | (refine callP_intro (ev_toEventS _ _ _ (by (first | assumption | exact Fr.rd (by assumption) | exact Rd.ext (by first | assumption | exact Fr.rd (by assumption)) (by (first | assumption | exact Ext.trans (by assumption) (by assumption) | exact Ext.trans (by assumption) (Ext.trans (by assumption) (by assumption)) | exact Ext.trans (by assumption) (Ext.trans (by assumption) (Ext.trans (by assumption) (by assumption))))))) (by (first | omega | exact sz_at hz (by omega) | (simp only [szL]; omega)))) ?_; rintro _ Sn ⟨hEn, cn, rfl, hFn⟩)
      | refine callP_eq (ev_iCountKind _ _ _ _ (by (first | assumption | exact Fr.rd (by assumption) | exact Rd.ext (by first | assumption | exact Fr.rd (by assumption)) (by (first | assumption | exact Ext.trans (by assumption) (by assumption) | exact Ext.trans (by assumption) (Ext.trans (by assumption) (by assumption)) | exact Ext.trans (by assumption) (Ext.trans (by assumption) (Ext.trans (by assumption) (by assumption)))))))) ?_
      | refine callP_eq (ev_eqEventS _ _ _ _ (by (first | assumption | exact Fr.rd (by assumption) | exact Rd.ext (by first | assumption | exact Fr.rd (by assumption)) (by (first | assumption | exact Ext.trans (by assumption) (by assumption) | exact Ext.trans (by assumption) (Ext.trans (by assumption) (by assumption)) | exact Ext.trans (by assumption) (Ext.trans (by assumption) (Ext.trans (by assumption) (by assumption))))))) (by (first | assumption | exact Fr.rd (by assumption) | exact Rd.ext (by first | assumption | exact Fr.rd (by assumption)) (by (first | assumption | exact Ext.trans (by assumption) (by assumption) | exact Ext.trans (by assumption) (Ext.trans (by assumption) (by assumption)) | exact Ext.trans (by assumption) (Ext.trans (by assumption) (Ext.trans (by assumption) (by assumption)))))))) ?_
      | refine needP_intro (by first | omega | (constructor <;> omega)) ?_
      | refine And.intro ?_ ?_)
  all_goals first | rfl | (exfalso; simp_all; done)

theorem wtT25 {S : Store} (m : Nat) (cs : List C) (h : WT Try.prog S m 25 cs) : ∃ x : GSite, Rd S x.d cs := by
  obtain ⟨m', ps, e, g⟩ := wt_struct Try.underlying25 h
  subst e
  have g0 : All2 (WT Try.prog S m') [3, 3] ps := g
  obtain ⟨p0, q0, e0, w0, g1⟩ := all2_cons g0
  subst e0
  obtain ⟨x0, r0⟩ := wt_int Try.underlying3 w0
  obtain ⟨p1, q1, e1, w1, g2⟩ := all2_cons g1
  subst e1
  obtain ⟨x1, r1⟩ := wt_int Try.underlying3 w1
  have e' := all2_nil g2
  subst e'
  exact ⟨⟨x0, x1⟩, rd_append r0 (rd_append r1 (rd_nil))⟩
theorem wtT100 {S : Store} (m : Nat) (cs : List C) (h : WT Try.prog S m 100 cs) : ∃ x : GPattern, Rd S x.d cs := by
  obtain ⟨m', ps, e, g⟩ := wt_struct Try.underlying100 h
  subst e
  have g0 : All2 (WT Try.prog S m') [3, 3] ps := g
  obtain ⟨p0, q0, e0, w0, g1⟩ := all2_cons g0
  subst e0
  obtain ⟨x0, r0⟩ := wt_int Try.underlying3 w0
  obtain ⟨p1, q1, e1, w1, g2⟩ := all2_cons g1
  subst e1
  obtain ⟨x1, r1⟩ := wt_int Try.underlying3 w1
  have e' := all2_nil g2
  subst e'
  exact ⟨⟨x0, x1⟩, rd_append r0 (rd_append r1 (rd_nil))⟩
theorem wtT102 {S : Store} (m : Nat) (cs : List C) (h : WT Try.prog S m 102 cs) : ∃ x : GLimit, Rd S x.d cs := by
  obtain ⟨m', ps, e, g⟩ := wt_struct Try.underlying102 h
  subst e
  have g0 : All2 (WT Try.prog S m') [3, 100, 3] ps := g
  obtain ⟨p0, q0, e0, w0, g1⟩ := all2_cons g0
  subst e0
  obtain ⟨x0, r0⟩ := wt_int Try.underlying3 w0
  obtain ⟨p1, q1, e1, w1, g2⟩ := all2_cons g1
  subst e1
  obtain ⟨x1, r1⟩ := wtT100 _ _ w1
  obtain ⟨p2, q2, e2, w2, g3⟩ := all2_cons g2
  subst e2
  obtain ⟨x2, r2⟩ := wt_int Try.underlying3 w2
  have e' := all2_nil g3
  subst e'
  exact ⟨⟨x0, x1, x2⟩, rd_append r0 (rd_append r1 (rd_append r2 (rd_nil)))⟩
theorem wtT103 {S : Store} (m : Nat) (cs : List C) (h : WT Try.prog S m 103 cs) : ∃ x : GEdit, Rd S x.d cs := by
  obtain ⟨m', ps, e, g⟩ := wt_struct Try.underlying103 h
  subst e
  have g0 : All2 (WT Try.prog S m') [3, 3, 3, 3, 3, 3] ps := g
  obtain ⟨p0, q0, e0, w0, g1⟩ := all2_cons g0
  subst e0
  obtain ⟨x0, r0⟩ := wt_int Try.underlying3 w0
  obtain ⟨p1, q1, e1, w1, g2⟩ := all2_cons g1
  subst e1
  obtain ⟨x1, r1⟩ := wt_int Try.underlying3 w1
  obtain ⟨p2, q2, e2, w2, g3⟩ := all2_cons g2
  subst e2
  obtain ⟨x2, r2⟩ := wt_int Try.underlying3 w2
  obtain ⟨p3, q3, e3, w3, g4⟩ := all2_cons g3
  subst e3
  obtain ⟨x3, r3⟩ := wt_int Try.underlying3 w3
  obtain ⟨p4, q4, e4, w4, g5⟩ := all2_cons g4
  subst e4
  obtain ⟨x4, r4⟩ := wt_int Try.underlying3 w4
  obtain ⟨p5, q5, e5, w5, g6⟩ := all2_cons g5
  subst e5
  obtain ⟨x5, r5⟩ := wt_int Try.underlying3 w5
  have e' := all2_nil g6
  subst e'
  exact ⟨⟨x0, x1, x2, x3, x4, x5⟩, rd_append r0 (rd_append r1 (rd_append r2 (rd_append r3 (rd_append r4 (rd_append r5 (rd_nil))))))⟩
theorem wtT171 {S : Store} (m : Nat) (cs : List C) (h : WT Try.prog S m 171 cs) : ∃ x : GGrant, Rd S x.d cs := by
  obtain ⟨m', ps, e, g⟩ := wt_struct Try.underlying171 h
  subst e
  have g0 : All2 (WT Try.prog S m') [3, 100, 3, 3, 3, 4] ps := g
  obtain ⟨p0, q0, e0, w0, g1⟩ := all2_cons g0
  subst e0
  obtain ⟨x0, r0⟩ := wt_int Try.underlying3 w0
  obtain ⟨p1, q1, e1, w1, g2⟩ := all2_cons g1
  subst e1
  obtain ⟨x1, r1⟩ := wtT100 _ _ w1
  obtain ⟨p2, q2, e2, w2, g3⟩ := all2_cons g2
  subst e2
  obtain ⟨x2, r2⟩ := wt_int Try.underlying3 w2
  obtain ⟨p3, q3, e3, w3, g4⟩ := all2_cons g3
  subst e3
  obtain ⟨x3, r3⟩ := wt_int Try.underlying3 w3
  obtain ⟨p4, q4, e4, w4, g5⟩ := all2_cons g4
  subst e4
  obtain ⟨x4, r4⟩ := wt_int Try.underlying3 w4
  obtain ⟨p5, q5, e5, w5, g6⟩ := all2_cons g5
  subst e5
  obtain ⟨x5, r5⟩ := wt_bool Try.underlying4 w5
  have e' := all2_nil g6
  subst e'
  exact ⟨⟨x0, x1, x2, x3, x4, x5⟩, rd_append r0 (rd_append r1 (rd_append r2 (rd_append r3 (rd_append r4 (rd_append r5 (rd_nil))))))⟩
theorem wtT104 {S : Store} (m : Nat) (cs : List C) (h : WT Try.prog S m 104 cs) : ∃ l : List GGrant, Rd S [.sl 7 (l.map GGrant.d)] cs :=
  wt_slice Try.underlying104 (by kernel_rfl) (fun m cs h => wtT171 m cs h) h
theorem wtT175 {S : Store} (m : Nat) (cs : List C) (h : WT Try.prog S m 175 cs) : ∃ x : GFlow, Rd S x.d cs := by
  obtain ⟨m', ps, e, g⟩ := wt_struct Try.underlying175 h
  subst e
  have g0 : All2 (WT Try.prog S m') [3, 3, 3] ps := g
  obtain ⟨p0, q0, e0, w0, g1⟩ := all2_cons g0
  subst e0
  obtain ⟨x0, r0⟩ := wt_int Try.underlying3 w0
  obtain ⟨p1, q1, e1, w1, g2⟩ := all2_cons g1
  subst e1
  obtain ⟨x1, r1⟩ := wt_int Try.underlying3 w1
  obtain ⟨p2, q2, e2, w2, g3⟩ := all2_cons g2
  subst e2
  obtain ⟨x2, r2⟩ := wt_int Try.underlying3 w2
  have e' := all2_nil g3
  subst e'
  exact ⟨⟨x0, x1, x2⟩, rd_append r0 (rd_append r1 (rd_append r2 (rd_nil)))⟩
theorem wtT105 {S : Store} (m : Nat) (cs : List C) (h : WT Try.prog S m 105 cs) : ∃ l : List GFlow, Rd S [.sl 3 (l.map GFlow.d)] cs :=
  wt_slice Try.underlying105 (by kernel_rfl) (fun m cs h => wtT175 m cs h) h
theorem wtT180 {S : Store} (m : Nat) (cs : List C) (h : WT Try.prog S m 180 cs) : ∃ x : GRule, Rd S x.d cs := by
  obtain ⟨m', ps, e, g⟩ := wt_struct Try.underlying180 h
  subst e
  have g0 : All2 (WT Try.prog S m') [3, 3, 100, 3, 3, 25] ps := g
  obtain ⟨p0, q0, e0, w0, g1⟩ := all2_cons g0
  subst e0
  obtain ⟨x0, r0⟩ := wt_int Try.underlying3 w0
  obtain ⟨p1, q1, e1, w1, g2⟩ := all2_cons g1
  subst e1
  obtain ⟨x1, r1⟩ := wt_int Try.underlying3 w1
  obtain ⟨p2, q2, e2, w2, g3⟩ := all2_cons g2
  subst e2
  obtain ⟨x2, r2⟩ := wtT100 _ _ w2
  obtain ⟨p3, q3, e3, w3, g4⟩ := all2_cons g3
  subst e3
  obtain ⟨x3, r3⟩ := wt_int Try.underlying3 w3
  obtain ⟨p4, q4, e4, w4, g5⟩ := all2_cons g4
  subst e4
  obtain ⟨x4, r4⟩ := wt_int Try.underlying3 w4
  obtain ⟨p5, q5, e5, w5, g6⟩ := all2_cons g5
  subst e5
  obtain ⟨x5, r5⟩ := wtT25 _ _ w5
  have e' := all2_nil g6
  subst e'
  exact ⟨⟨x0, x1, x2, x3, x4, x5⟩, rd_append r0 (rd_append r1 (rd_append r2 (rd_append r3 (rd_append r4 (rd_append r5 (rd_nil))))))⟩
theorem wtT106 {S : Store} (m : Nat) (cs : List C) (h : WT Try.prog S m 106 cs) : ∃ l : List GRule, Rd S [.sl 8 (l.map GRule.d)] cs :=
  wt_slice Try.underlying106 (by kernel_rfl) (fun m cs h => wtT180 m cs h) h
theorem wtT184 {S : Store} (m : Nat) (cs : List C) (h : WT Try.prog S m 184 cs) : ∃ x : GOp, Rd S x.d cs := by
  obtain ⟨m', ps, e, g⟩ := wt_struct Try.underlying184 h
  subst e
  have g0 : All2 (WT Try.prog S m') [3, 3, 3, 3] ps := g
  obtain ⟨p0, q0, e0, w0, g1⟩ := all2_cons g0
  subst e0
  obtain ⟨x0, r0⟩ := wt_int Try.underlying3 w0
  obtain ⟨p1, q1, e1, w1, g2⟩ := all2_cons g1
  subst e1
  obtain ⟨x1, r1⟩ := wt_int Try.underlying3 w1
  obtain ⟨p2, q2, e2, w2, g3⟩ := all2_cons g2
  subst e2
  obtain ⟨x2, r2⟩ := wt_int Try.underlying3 w2
  obtain ⟨p3, q3, e3, w3, g4⟩ := all2_cons g3
  subst e3
  obtain ⟨x3, r3⟩ := wt_int Try.underlying3 w3
  have e' := all2_nil g4
  subst e'
  exact ⟨⟨x0, x1, x2, x3⟩, rd_append r0 (rd_append r1 (rd_append r2 (rd_append r3 (rd_nil))))⟩
theorem wtT107 {S : Store} (m : Nat) (cs : List C) (h : WT Try.prog S m 107 cs) : ∃ l : List GOp, Rd S [.sl 4 (l.map GOp.d)] cs :=
  wt_slice Try.underlying107 (by kernel_rfl) (fun m cs h => wtT184 m cs h) h
theorem wtT109 {S : Store} (m : Nat) (cs : List C) (h : WT Try.prog S m 109 cs) : ∃ x : GPackage, Rd S x.d cs := by
  obtain ⟨m', ps, e, g⟩ := wt_struct Try.underlying109 h
  subst e
  have g0 : All2 (WT Try.prog S m') [3, 3, 3, 104, 105, 106, 107, 3] ps := g
  obtain ⟨p0, q0, e0, w0, g1⟩ := all2_cons g0
  subst e0
  obtain ⟨x0, r0⟩ := wt_int Try.underlying3 w0
  obtain ⟨p1, q1, e1, w1, g2⟩ := all2_cons g1
  subst e1
  obtain ⟨x1, r1⟩ := wt_int Try.underlying3 w1
  obtain ⟨p2, q2, e2, w2, g3⟩ := all2_cons g2
  subst e2
  obtain ⟨x2, r2⟩ := wt_int Try.underlying3 w2
  obtain ⟨p3, q3, e3, w3, g4⟩ := all2_cons g3
  subst e3
  obtain ⟨x3, r3⟩ := wtT104 _ _ w3
  obtain ⟨p4, q4, e4, w4, g5⟩ := all2_cons g4
  subst e4
  obtain ⟨x4, r4⟩ := wtT105 _ _ w4
  obtain ⟨p5, q5, e5, w5, g6⟩ := all2_cons g5
  subst e5
  obtain ⟨x5, r5⟩ := wtT106 _ _ w5
  obtain ⟨p6, q6, e6, w6, g7⟩ := all2_cons g6
  subst e6
  obtain ⟨x6, r6⟩ := wtT107 _ _ w6
  obtain ⟨p7, q7, e7, w7, g8⟩ := all2_cons g7
  subst e7
  obtain ⟨x7, r7⟩ := wt_int Try.underlying3 w7
  have e' := all2_nil g8
  subst e'
  exact ⟨⟨x0, x1, x2, x3, x4, x5, x6, x7⟩, rd_append r0 (rd_append r1 (rd_append r2 (rd_append r3 (rd_append r4 (rd_append r5 (rd_append r6 (rd_append r7 (rd_nil))))))))⟩
theorem wtT111 {S : Store} (m : Nat) (cs : List C) (h : WT Try.prog S m 111 cs) : ∃ x : GEvent, Rd S x.d cs := by
  obtain ⟨m', ps, e, g⟩ := wt_struct Try.underlying111 h
  subst e
  have g0 : All2 (WT Try.prog S m') [3, 3, 3, 3, 3, 4, 25, 102, 103, 109] ps := g
  obtain ⟨p0, q0, e0, w0, g1⟩ := all2_cons g0
  subst e0
  obtain ⟨x0, r0⟩ := wt_int Try.underlying3 w0
  obtain ⟨p1, q1, e1, w1, g2⟩ := all2_cons g1
  subst e1
  obtain ⟨x1, r1⟩ := wt_int Try.underlying3 w1
  obtain ⟨p2, q2, e2, w2, g3⟩ := all2_cons g2
  subst e2
  obtain ⟨x2, r2⟩ := wt_int Try.underlying3 w2
  obtain ⟨p3, q3, e3, w3, g4⟩ := all2_cons g3
  subst e3
  obtain ⟨x3, r3⟩ := wt_int Try.underlying3 w3
  obtain ⟨p4, q4, e4, w4, g5⟩ := all2_cons g4
  subst e4
  obtain ⟨x4, r4⟩ := wt_int Try.underlying3 w4
  obtain ⟨p5, q5, e5, w5, g6⟩ := all2_cons g5
  subst e5
  obtain ⟨x5, r5⟩ := wt_bool Try.underlying4 w5
  obtain ⟨p6, q6, e6, w6, g7⟩ := all2_cons g6
  subst e6
  obtain ⟨x6, r6⟩ := wtT25 _ _ w6
  obtain ⟨p7, q7, e7, w7, g8⟩ := all2_cons g7
  subst e7
  obtain ⟨x7, r7⟩ := wtT102 _ _ w7
  obtain ⟨p8, q8, e8, w8, g9⟩ := all2_cons g8
  subst e8
  obtain ⟨x8, r8⟩ := wtT103 _ _ w8
  obtain ⟨p9, q9, e9, w9, g10⟩ := all2_cons g9
  subst e9
  obtain ⟨x9, r9⟩ := wtT109 _ _ w9
  have e' := all2_nil g10
  subst e'
  exact ⟨⟨x0, x1, x2, x3, x4, x5, x6, x7, x8, x9⟩, rd_append r0 (rd_append r1 (rd_append r2 (rd_append r3 (rd_append r4 (rd_append r5 (rd_append r6 (rd_append r7 (rd_append r8 (rd_append r9 (rd_nil))))))))))⟩
theorem wtT60 {S : Store} (m : Nat) (cs : List C) (h : WT Try.prog S m 60 cs) : ∃ l : List GEvent, Rd S [.sl 26 (l.map GEvent.d)] cs :=
  wt_slice Try.underlying60 (by kernel_rfl) (fun m cs h => wtT111 m cs h) h
theorem ev_args (S : Store) (avs : List V) (h : All2 (VT Try.prog S 8) Try.f8.params.toList avs) : EvA Try.prog 8 avs S (fun r _ => r = .v (.s (.bool true))) := by
  have g0 : All2 (VT Try.prog S 8) [60, 3] avs := h
  clear h
  obtain ⟨v0, q0, e0, h0, g1⟩ := all2_cons g0
  subst e0
  obtain ⟨c0, f0, w0⟩ := vt_sc Try.underlying60 (by intro fs h; cases h) h0
  subst f0
  obtain ⟨x0, r0⟩ := wtT60 _ _ w0
  obtain ⟨v1, q1, e1, h1, g2⟩ := all2_cons g1
  subst e1
  obtain ⟨c1, f1, w1⟩ := vt_sc Try.underlying3 (by intro fs h; cases h) h1
  subst f1
  obtain ⟨x1, r1⟩ := wt_int Try.underlying3 w1
  have k1 := rd_c r1
  subst k1
  have e' := all2_nil g2
  subst e'
  exact ev_law x0 _ x1 S r0

set_option maxRecDepth 100000 in
theorem ev_calls (H : Type) (enc : TypeId × Value → H) (W : World) (base : Nat) (args : Array Value) (ds gs : List (DataW H)) (before : List MemPlace)
    (hval : ∀ (j : Nat) t v, Try.f8.params[j]? = some t → args[j]? = some v → Value.okWide Try.prog W .any base t v)
    (hW : DataW.Whole enc Try.prog Try.f8.params.toList Rows.fnExactCountKindSpec.vars false W args.toList ds gs before) :
    Calls Try.prog 8 args W fun e W' => ∃ v, e = .returned v ∧ Rows.fnExactCountKindSpec.post enc Try.prog Try.f8 false true false false W args v W' :=
  law_calls (P := Try.prog) (f := 8) (fn := Try.f8) (s := Rows.fnExactCountKindSpec) (m := 8) laidOut (by kernel_rfl) (by kernel_rfl) rfl (fun H ds h => by
    have h : ds.length = 2 := h
    match ds, h with
    | [d0, d1], _ => rfl) (tb := 4) rfl Try.underlying4 (fun S avs _ h => ev_args S avs h) hval hW

set_option maxRecDepth 100000 in
theorem ev_lifted (os : Os) (started : os.Started) (H : Type) (enc : TypeId × Value → H) :
    ReturnsInHanded {} Try.checked os 8 .any (Rows.fnExactCountKindSpec.pre6 enc Try.prog Try.f8 Rows.fnExactCountKindRow.domain false) (Rows.fnExactCountKindSpec.post enc Try.prog Try.f8 false true false false) :=
  returnsInHanded_of_change (C := Try.checked) own started (by kernel_rfl) Try.func8
    (ChangeSpec.witness6 (enc := enc) (C := Try.checked) false ⟨#[], #[.slice none 0 0, .int .i64 0], []⟩ 8 (by kernel_rfl) (by kernel_rfl) (by kernel_rfl) (by kernel_rfl))
    (fun W base args ds gs before hval hW _ _ => ev_calls H enc W base args ds gs before hval hW)

theorem fnExactCountKind_holds : Rows.FnExactCountKindSaid :=
  OpenClaim.holds_of_wide 8 Try.f8 rfl rfl rfl rfl rfl rfl rfl ⟨rfl, rfl, rfl, rfl, rfl⟩ rfl rfl rfl rfl rfl (by kernel_rfl) Try.func8 (by kernel_rfl)
    (of_decide_eq_true (by kernel_rfl)) (by unfold Func.isWrapper; first | (rw [if_pos (by decide +kernel)]; kernel_rfl) | (rw [if_neg (by decide +kernel)]; exact ⟨rfl, rfl⟩))
    (fun os started H enc _ => ev_lifted os started H enc)
end Go.Proofs.Ytffjmmccafgofaa
