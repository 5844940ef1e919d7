/- FnExactTabDocument returns true for every argument, and its arguments read as before. No condition. -/
import Derived.Test.YtjknkcgngchboaaFnCt
import Derived.Test.YtjknkcgngchboaaFnCm
import Derived.Test.YtjknkcgngchboaaFnCh
import Derived.Test.YtjknkcgngchboaaFnNb
import Derived.Test.YtjknkcgngchboaaAeN
namespace Go.Proofs.Ytjknkcgngchboaa
open Go Go.ChangeShapes Go.WideShapes Go.ChangeAt Go.RowKit
set_option linter.unusedVariables false
set_option maxRecDepth 100000

theorem bne_self' (x : Bool) : (!(x == x)) = false := by cases x <;> rfl
set_option maxHeartbeats 8000000 in
/-- the law -/
theorem ev_law (x0 : GTab) (cs0 : List C) (S : Store) (h0 : Rd S x0.d cs0) : EvA Try.prog 3 [.agg cs0] S (fun r _ => r = .v (.s (.bool true))) := by
  obtain ⟨_, _, _, rfl, _, _, _⟩ := GTab.inv h0
  refine evA_intro tok Try.func3 (by kernel_rfl) rfl ?_
  have a0 := h0.be
  repeat' ((conv => whnf) <;> first
   | refine condP_szR (by omega) (fun _ _ => ?_) (fun _ _ => ?_)
   | refine condP_false (bne_self' _) ?_
   | refine condP_dec (fun _ => ?_) (fun _ => ?_)
   | refine condP_ndec (fun _ => ?_) (fun _ => ?_)
   | refine condP_true rfl ?_
   | refine condP_false rfl ?_
   | refine condP_not (fun _ => ?_) (fun _ => ?_)
   | refine condP_intro (fun _ => ?_) (fun _ => ?_)
   | refine callP_eq (ev_szTab _ _ _ _ rdcB (by omega)) ?_
   | refine callP_eq (ev_eqNodeS _ _ _ _ (by assumption) (by assumption)) ?_
   | refine callP_eq (ev_eqTab _ _ _ _ rdcB rdcB) ?_
   | (refine callP_eq (ev_heldNodeS _ _ _ _ (by assumption) (by omega)) ?_)
   | refine needP_intro (by first | omega | (constructor <;> omega) | fail) ?_
   | refine draw_intro 27 [.fl 0, .fl 1, .st 2 [0], .st 3 [], .fl 4] (by rfl) (by kernel_rfl) ?_
   | refine And.intro ?_ ?_)
  all_goals try first | rfl | (exfalso; omega)
  first
    | (refine callP_intro (ev_toTab _ _ _ rdcB (by (first | omega | exact sz_at hz (by omega) | (simp only [szL]; omega)))) ?_; rintro _ Sn ⟨hEn, _, _, _, rfl, hFn⟩)
  have e1 := hEn
  have le1 := e1.len
  replace a0 := a0.ext e1
  have t1 := hFn.inn
  clear hEn hFn
  clear e1
  have r_a0 := a0.rd
  have r_t1 := t1.rd
  repeat' ((conv => whnf) <;> first
   | refine condP_szR (by omega) (fun _ _ => ?_) (fun _ _ => ?_)
   | refine condP_false (bne_self' _) ?_
   | refine condP_dec (fun _ => ?_) (fun _ => ?_)
   | refine condP_ndec (fun _ => ?_) (fun _ => ?_)
   | refine condP_true rfl ?_
   | refine condP_false rfl ?_
   | refine condP_not (fun _ => ?_) (fun _ => ?_)
   | refine condP_intro (fun _ => ?_) (fun _ => ?_)
   | refine callP_eq (ev_szTab _ _ _ _ rdcB (by omega)) ?_
   | refine callP_eq (ev_eqNodeS _ _ _ _ (by assumption) (by assumption)) ?_
   | refine callP_eq (ev_eqTab _ _ _ _ rdcB rdcB) ?_
   | (refine callP_eq (ev_heldNodeS _ _ _ _ (by assumption) (by omega)) ?_)
   | refine needP_intro (by first | omega | (constructor <;> omega) | fail) ?_
   | refine draw_intro 27 [.fl 0, .fl 1, .st 2 [0], .st 3 [], .fl 4] (by rfl) (by kernel_rfl) ?_
   | refine And.intro ?_ ?_)
  all_goals try first | rfl | (exfalso; omega)
  first
    | (refine callP_intro (ev_sTabDocument _ _ _ rdcB (by (first | omega | exact sz_at hz (by omega) | (simp only [szL]; omega)))) ?_; rintro _ Sn ⟨hEn, cn, rfl, hFn⟩)
  have e2 := hEn
  have le2 := e2.len
  replace a0 := a0.ext e2
  replace t1 := t1.ext e2
  have w := hFn.inn
  clear hEn hFn
  clear e2
  clear r_a0 r_t1
  have r_a0 := a0.rd
  have r_w := w.rd
  repeat' ((conv => whnf) <;> first
   | refine condP_szR (by omega) (fun _ _ => ?_) (fun _ _ => ?_)
   | refine condP_false (bne_self' _) ?_
   | refine condP_dec (fun _ => ?_) (fun _ => ?_)
   | refine condP_ndec (fun _ => ?_) (fun _ => ?_)
   | refine condP_true rfl ?_
   | refine condP_false rfl ?_
   | refine condP_not (fun _ => ?_) (fun _ => ?_)
   | refine condP_intro (fun _ => ?_) (fun _ => ?_)
   | refine callP_eq (ev_szTab _ _ _ _ rdcB (by omega)) ?_
   | refine callP_eq (ev_eqNodeS _ _ _ _ (by assumption) (by assumption)) ?_
   | refine callP_eq (ev_eqTab _ _ _ _ rdcB rdcB) ?_
   | (refine callP_eq (ev_heldNodeS _ _ _ _ (by assumption) (by omega)) ?_)
   | refine needP_intro (by first | omega | (constructor <;> omega) | fail) ?_
   | refine draw_intro 27 [.fl 0, .fl 1, .st 2 [0], .st 3 [], .fl 4] (by rfl) (by kernel_rfl) ?_
   | refine And.intro ?_ ?_)
  all_goals try first | rfl | (exfalso; omega)
  first
    | (refine callP_intro (ev_toTab _ _ _ rdcB (by (first | omega | exact sz_at hz (by omega) | (simp only [szL]; omega)))) ?_; rintro _ Sn ⟨hEn, _, _, _, rfl, hFn⟩)
  have e3 := hEn
  have le3 := e3.len
  replace a0 := a0.ext e3
  replace w := w.ext e3
  have x0' := hFn.inn
  clear hEn hFn
  clear e3
  clear r_a0 r_w
  have r_a0 := a0.rd
  have r_w := w.rd
  have r_x0' := x0'.rd
  repeat' ((conv => whnf) <;> first
   | refine condP_szR (by omega) (fun _ _ => ?_) (fun _ _ => ?_)
   | refine condP_false (bne_self' _) ?_
   | refine condP_dec (fun _ => ?_) (fun _ => ?_)
   | refine condP_ndec (fun _ => ?_) (fun _ => ?_)
   | refine condP_true rfl ?_
   | refine condP_false rfl ?_
   | refine condP_not (fun _ => ?_) (fun _ => ?_)
   | refine condP_intro (fun _ => ?_) (fun _ => ?_)
   | refine callP_eq (ev_szTab _ _ _ _ rdcB (by omega)) ?_
   | refine callP_eq (ev_eqNodeS _ _ _ _ (by assumption) (by assumption)) ?_
   | refine callP_eq (ev_eqTab _ _ _ _ rdcB rdcB) ?_
   | (refine callP_eq (ev_heldNodeS _ _ _ _ (by assumption) (by omega)) ?_)
   | refine needP_intro (by first | omega | (constructor <;> omega) | fail) ?_
   | refine draw_intro 27 [.fl 0, .fl 1, .st 2 [0], .st 3 [], .fl 4] (by rfl) (by kernel_rfl) ?_
   | refine And.intro ?_ ?_)
  all_goals try first | rfl | (exfalso; omega)
  first
    | (refine callP_intro (ev_iTabDocument _ _ _ rdcB (by (first | omega | exact sz_at hz (by omega) | (simp only [szL]; omega)))) ?_; rintro _ Sn ⟨hEn, cn, rfl, hFn⟩)
  have e4 := hEn
  have le4 := e4.len
  replace a0 := a0.ext e4
  replace w := w.ext e4
  replace x0' := x0'.ext e4
  have g := hFn.inn
  clear hEn hFn
  clear e4
  clear r_a0 r_w r_x0'
  have r_a0 := a0.rd
  have r_w := w.rd
  have r_x0' := x0'.rd
  have r_g := g.rd
  repeat' ((conv => whnf) <;> first
   | refine condP_szR (by omega) (fun _ _ => ?_) (fun _ _ => ?_)
   | refine condP_false (bne_self' _) ?_
   | refine condP_dec (fun _ => ?_) (fun _ => ?_)
   | refine condP_ndec (fun _ => ?_) (fun _ => ?_)
   | refine condP_true rfl ?_
   | refine condP_false rfl ?_
   | refine condP_not (fun _ => ?_) (fun _ => ?_)
   | refine condP_intro (fun _ => ?_) (fun _ => ?_)
   | refine callP_eq (ev_szTab _ _ _ _ rdcB (by omega)) ?_
   | refine callP_eq (ev_eqNodeS _ _ _ _ (by assumption) (by assumption)) ?_
   | refine callP_eq (ev_eqTab _ _ _ _ rdcB rdcB) ?_
   | (refine callP_eq (ev_heldNodeS _ _ _ _ (by assumption) (by omega)) ?_)
   | refine needP_intro (by first | omega | (constructor <;> omega) | fail) ?_
   | refine draw_intro 27 [.fl 0, .fl 1, .st 2 [0], .st 3 [], .fl 4] (by rfl) (by kernel_rfl) ?_
   | refine And.intro ?_ ?_)
  all_goals try first | rfl | (exfalso; omega)
  first
    | (refine callP_intro (ev_toTab _ _ _ rdcB (by (first | omega | exact sz_at hz (by omega) | (simp only [szL]; omega)))) ?_; rintro _ Sn ⟨hEn, _, _, _, rfl, hFn⟩)
  have e5 := hEn
  have le5 := e5.len
  replace a0 := a0.ext e5
  replace w := w.ext e5
  replace x0' := x0'.ext e5
  replace g := g.ext e5
  have t5 := hFn.inn
  clear hEn hFn
  clear e5
  clear r_a0 r_w r_x0' r_g
  have r_a0 := a0.rd
  have r_w := w.rd
  have r_x0' := x0'.rd
  have r_g := g.rd
  have r_t5 := t5.rd
  have hB0 : (cntT x0.d : Int) ≤ 33554432 := by have := GTab.cntTb x0; omega
  repeat' ((conv => whnf) <;> first
   | refine condP_szR (by omega) (fun _ _ => ?_) (fun _ _ => ?_)
   | refine condP_false (bne_self' _) ?_
   | refine condP_dec (fun _ => ?_) (fun _ => ?_)
   | refine condP_ndec (fun _ => ?_) (fun _ => ?_)
   | refine condP_true rfl ?_
   | refine condP_false rfl ?_
   | refine condP_not (fun _ => ?_) (fun _ => ?_)
   | refine condP_intro (fun _ => ?_) (fun _ => ?_)
   | refine callP_eq (ev_szTab _ _ _ _ rdcB (by omega)) ?_
   | refine callP_eq (ev_eqNodeS _ _ _ _ (by assumption) (by assumption)) ?_
   | refine callP_eq (ev_eqTab _ _ _ _ rdcB rdcB) ?_
   | (refine callP_eq (ev_heldNodeS _ _ _ _ (by assumption) (by omega)) ?_)
   | refine needP_intro (by first | omega | (constructor <;> omega) | fail) ?_
   | refine draw_intro 27 [.fl 0, .fl 1, .st 2 [0], .st 3 [], .fl 4] (by rfl) (by kernel_rfl) ?_
   | refine And.intro ?_ ?_)
  all_goals try first | rfl | (exfalso; omega)
  obtain ⟨ids6, hR6, hn6, hb6⟩ := x0'
  refine callP_intro (ev_markTab _ _ _ _ _ hR6 hn6 (by omega)) ?_; rintro _ S6 ⟨rfl, hM6, hK6⟩
  have o6 := hM6.out hb6
  have le6 := o6.len
  replace a0 := a0.out o6 (by omega)
  replace w := w.out o6 (by omega)
  replace g := g.out o6 (by omega)
  clear r_a0 r_w r_x0' r_g r_t5
  have r_a0 := a0.rd
  have r_w := w.rd
  have r_g := g.rd
  repeat' ((conv => whnf) <;> first
   | refine condP_szR (by omega) (fun _ _ => ?_) (fun _ _ => ?_)
   | refine condP_false (bne_self' _) ?_
   | refine condP_dec (fun _ => ?_) (fun _ => ?_)
   | refine condP_ndec (fun _ => ?_) (fun _ => ?_)
   | refine condP_true rfl ?_
   | refine condP_false rfl ?_
   | refine condP_not (fun _ => ?_) (fun _ => ?_)
   | refine condP_intro (fun _ => ?_) (fun _ => ?_)
   | refine callP_eq (ev_szTab _ _ _ _ rdcB (by omega)) ?_
   | refine callP_eq (ev_eqNodeS _ _ _ _ (by assumption) (by assumption)) ?_
   | refine callP_eq (ev_eqTab _ _ _ _ rdcB rdcB) ?_
   | (refine callP_eq (ev_heldNodeS _ _ _ _ (by assumption) (by omega)) ?_)
   | refine needP_intro (by first | omega | (constructor <;> omega) | fail) ?_
   | refine draw_intro 27 [.fl 0, .fl 1, .st 2 [0], .st 3 [], .fl 4] (by rfl) (by kernel_rfl) ?_
   | refine And.intro ?_ ?_)
  all_goals try first | rfl | (exfalso; omega)
  obtain ⟨ids7, hR7, hn7, hb7⟩ := g.one
  have hB : (0 : Int) ≤ 1 ∧ (1 : Int) + (cntE ((runEdits x0.Base x0.Edits).map GNode.d) : Int) ≤ 4611686018427387904 := by have h1 := cntE_bd (f := GNode.d) GNode.cntb (runEdits x0.Base x0.Edits); rw [szLL_flat (by intro x; simp only [szL, GNode.d])] at h1; have h2 := runEdits_len x0.Edits x0.Base; have hzs : szL x0.d ≤ 1048576 := (by omega); simp only [GTab.d, szL, List.length_map] at hzs; omega
  refine callP_intro (ev_markNodeS _ _ _ _ _ hR7 hn7 (by omega)) ?_; rintro _ S7 ⟨rfl, hM7, hK7⟩
  have o7 := hM7.out hb7
  have le7 := o7.len
  replace a0 := a0.out o7 (by omega)
  replace w := w.out o7 (by omega)
  have g := (rd_one hK7).be
  clear r_a0 r_w r_g
  have r_a0 := a0.rd
  have r_w := w.rd
  have r_g := g.rd
  repeat' ((conv => whnf) <;> first
   | refine condP_szR (by omega) (fun _ _ => ?_) (fun _ _ => ?_)
   | refine condP_false (bne_self' _) ?_
   | refine condP_dec (fun _ => ?_) (fun _ => ?_)
   | refine condP_ndec (fun _ => ?_) (fun _ => ?_)
   | refine condP_true rfl ?_
   | refine condP_false rfl ?_
   | refine condP_not (fun _ => ?_) (fun _ => ?_)
   | refine condP_intro (fun _ => ?_) (fun _ => ?_)
   | refine callP_eq (ev_szTab _ _ _ _ rdcB (by omega)) ?_
   | refine callP_eq (ev_eqNodeS _ _ _ _ (by assumption) (by assumption)) ?_
   | refine callP_eq (ev_eqTab _ _ _ _ rdcB rdcB) ?_
   | (refine callP_eq (ev_heldNodeS _ _ _ _ (by assumption) (by omega)) ?_)
   | refine needP_intro (by first | omega | (constructor <;> omega) | fail) ?_
   | refine draw_intro 27 [.fl 0, .fl 1, .st 2 [0], .st 3 [], .fl 4] (by rfl) (by kernel_rfl) ?_
   | refine And.intro ?_ ?_)
  all_goals try first | rfl | (exfalso; omega)
  first
    | (refine callP_intro (ev_toTab _ _ _ rdcB (by (first | omega | exact sz_at hz (by omega) | (simp only [szL]; omega)))) ?_; rintro _ Sn ⟨hEn, _, _, _, rfl, hFn⟩)
  have e8 := hEn
  have le8 := e8.len
  replace a0 := a0.ext e8
  replace w := w.ext e8
  replace g := g.ext e8
  have t8 := hFn.inn
  clear hEn hFn
  clear e8
  clear r_a0 r_w r_g
  have r_a0 := a0.rd
  have r_w := w.rd
  have r_g := g.rd
  have r_t8 := t8.rd
  repeat' ((conv => whnf) <;> first
   | refine condP_szR (by omega) (fun _ _ => ?_) (fun _ _ => ?_)
   | refine condP_false (bne_self' _) ?_
   | refine condP_dec (fun _ => ?_) (fun _ => ?_)
   | refine condP_ndec (fun _ => ?_) (fun _ => ?_)
   | refine condP_true rfl ?_
   | refine condP_false rfl ?_
   | refine condP_not (fun _ => ?_) (fun _ => ?_)
   | refine condP_intro (fun _ => ?_) (fun _ => ?_)
   | refine callP_eq (ev_szTab _ _ _ _ rdcB (by omega)) ?_
   | refine callP_eq (ev_eqNodeS _ _ _ _ (by assumption) (by assumption)) ?_
   | refine callP_eq (ev_eqTab _ _ _ _ rdcB rdcB) ?_
   | (refine callP_eq (ev_heldNodeS _ _ _ _ (by assumption) (by omega)) ?_)
   | refine needP_intro (by first | omega | (constructor <;> omega) | fail) ?_
   | refine draw_intro 27 [.fl 0, .fl 1, .st 2 [0], .st 3 [], .fl 4] (by rfl) (by kernel_rfl) ?_
   | refine And.intro ?_ ?_)
  all_goals try first | rfl | (exfalso; omega)
  first
    | (refine callP_intro (ev_iTabDocument _ _ _ rdcB (by (first | omega | exact sz_at hz (by omega) | (simp only [szL]; omega)))) ?_; rintro _ Sn ⟨hEn, cn, rfl, hFn⟩)
  have e9 := hEn
  have le9 := e9.len
  replace a0 := a0.ext e9
  replace w := w.ext e9
  replace g := g.ext e9
  replace t8 := t8.ext e9
  have h := hFn.inn
  clear hEn hFn
  clear e9
  clear r_a0 r_w r_g r_t8
  have r_a0 := a0.rd
  have r_w := w.rd
  have r_g := g.rd
  have r_h := h.rd
  repeat' ((conv => whnf) <;> first
   | refine condP_szR (by omega) (fun _ _ => ?_) (fun _ _ => ?_)
   | refine condP_false (bne_self' _) ?_
   | refine condP_dec (fun _ => ?_) (fun _ => ?_)
   | refine condP_ndec (fun _ => ?_) (fun _ => ?_)
   | refine condP_true rfl ?_
   | refine condP_false rfl ?_
   | refine condP_not (fun _ => ?_) (fun _ => ?_)
   | refine condP_intro (fun _ => ?_) (fun _ => ?_)
   | refine callP_eq (ev_szTab _ _ _ _ rdcB (by omega)) ?_
   | refine callP_eq (ev_eqNodeS _ _ _ _ (by assumption) (by assumption)) ?_
   | refine callP_eq (ev_eqTab _ _ _ _ rdcB rdcB) ?_
   | (refine callP_eq (ev_heldNodeS _ _ _ _ (by assumption) (by omega)) ?_)
   | refine needP_intro (by first | omega | (constructor <;> omega) | fail) ?_
   | refine draw_intro 27 [.fl 0, .fl 1, .st 2 [0], .st 3 [], .fl 4] (by rfl) (by kernel_rfl) ?_
   | refine And.intro ?_ ?_)
  all_goals try first | rfl | (exfalso; omega)

theorem wtT23 {S : Store} (m : Nat) (cs : List C) (h : WT Try.prog S m 23 cs) : ∃ x : GSite, Rd S x.d cs := by
  obtain ⟨m', ps, e, g⟩ := wt_struct Try.underlying23 h
  subst e
  have g0 : All2 (WT Try.prog S m') [3, 3] ps := g
  obtain ⟨p0, q0, e0, w0, g1⟩ := all2_cons g0
  subst e0
  obtain ⟨x0, r0⟩ := wt_int Try.underlying3 w0
  obtain ⟨p1, q1, e1, w1, g2⟩ := all2_cons g1
  subst e1
  obtain ⟨x1, r1⟩ := wt_int Try.underlying3 w1
  have e' := all2_nil g2
  subst e'
  exact ⟨⟨x0, x1⟩, rd_append r0 (rd_append r1 (rd_nil))⟩
theorem wtT63 {S : Store} (m : Nat) (cs : List C) (h : WT Try.prog S m 63 cs) : ∃ x : GNode, Rd S x.d cs := by
  obtain ⟨m', ps, e, g⟩ := wt_struct Try.underlying63 h
  subst e
  have g0 : All2 (WT Try.prog S m') [3, 3, 3, 3, 3] ps := g
  obtain ⟨p0, q0, e0, w0, g1⟩ := all2_cons g0
  subst e0
  obtain ⟨x0, r0⟩ := wt_int Try.underlying3 w0
  obtain ⟨p1, q1, e1, w1, g2⟩ := all2_cons g1
  subst e1
  obtain ⟨x1, r1⟩ := wt_int Try.underlying3 w1
  obtain ⟨p2, q2, e2, w2, g3⟩ := all2_cons g2
  subst e2
  obtain ⟨x2, r2⟩ := wt_int Try.underlying3 w2
  obtain ⟨p3, q3, e3, w3, g4⟩ := all2_cons g3
  subst e3
  obtain ⟨x3, r3⟩ := wt_int Try.underlying3 w3
  obtain ⟨p4, q4, e4, w4, g5⟩ := all2_cons g4
  subst e4
  obtain ⟨x4, r4⟩ := wt_int Try.underlying3 w4
  have e' := all2_nil g5
  subst e'
  exact ⟨⟨x0, x1, x2, x3, x4⟩, rd_append r0 (rd_append r1 (rd_append r2 (rd_append r3 (rd_append r4 (rd_nil)))))⟩
theorem wtT24 {S : Store} (m : Nat) (cs : List C) (h : WT Try.prog S m 24 cs) : ∃ l : List GNode, Rd S [.sl 5 (l.map GNode.d)] cs :=
  wt_slice Try.underlying24 (by kernel_rfl) (fun m cs h => wtT63 m cs h) h
theorem wtT65 {S : Store} (m : Nat) (cs : List C) (h : WT Try.prog S m 65 cs) : ∃ x : GEdit, Rd S x.d cs := by
  obtain ⟨m', ps, e, g⟩ := wt_struct Try.underlying65 h
  subst e
  have g0 : All2 (WT Try.prog S m') [3, 3, 3, 3, 3, 3] ps := g
  obtain ⟨p0, q0, e0, w0, g1⟩ := all2_cons g0
  subst e0
  obtain ⟨x0, r0⟩ := wt_int Try.underlying3 w0
  obtain ⟨p1, q1, e1, w1, g2⟩ := all2_cons g1
  subst e1
  obtain ⟨x1, r1⟩ := wt_int Try.underlying3 w1
  obtain ⟨p2, q2, e2, w2, g3⟩ := all2_cons g2
  subst e2
  obtain ⟨x2, r2⟩ := wt_int Try.underlying3 w2
  obtain ⟨p3, q3, e3, w3, g4⟩ := all2_cons g3
  subst e3
  obtain ⟨x3, r3⟩ := wt_int Try.underlying3 w3
  obtain ⟨p4, q4, e4, w4, g5⟩ := all2_cons g4
  subst e4
  obtain ⟨x4, r4⟩ := wt_int Try.underlying3 w4
  obtain ⟨p5, q5, e5, w5, g6⟩ := all2_cons g5
  subst e5
  obtain ⟨x5, r5⟩ := wt_int Try.underlying3 w5
  have e' := all2_nil g6
  subst e'
  exact ⟨⟨x0, x1, x2, x3, x4, x5⟩, rd_append r0 (rd_append r1 (rd_append r2 (rd_append r3 (rd_append r4 (rd_append r5 (rd_nil))))))⟩
theorem wtT25 {S : Store} (m : Nat) (cs : List C) (h : WT Try.prog S m 25 cs) : ∃ l : List GEdit, Rd S [.sl 6 (l.map GEdit.d)] cs :=
  wt_slice Try.underlying25 (by kernel_rfl) (fun m cs h => wtT65 m cs h) h
theorem wtT26 {S : Store} (m : Nat) (cs : List C) (h : WT Try.prog S m 26 cs) : ∃ l : List Int, Rd S [.sl 1 (l.map dInt)] cs :=
  wt_slice Try.underlying26 (by kernel_rfl) (fun m cs h => wt_int Try.underlying3 h) h
theorem wtT28 {S : Store} (m : Nat) (cs : List C) (h : WT Try.prog S m 28 cs) : ∃ x : GTab, Rd S x.d cs := by
  obtain ⟨m', ps, e, g⟩ := wt_struct Try.underlying28 h
  subst e
  have g0 : All2 (WT Try.prog S m') [23, 24, 25, 26, 3] ps := g
  obtain ⟨p0, q0, e0, w0, g1⟩ := all2_cons g0
  subst e0
  obtain ⟨x0, r0⟩ := wtT23 _ _ w0
  obtain ⟨p1, q1, e1, w1, g2⟩ := all2_cons g1
  subst e1
  obtain ⟨x1, r1⟩ := wtT24 _ _ w1
  obtain ⟨p2, q2, e2, w2, g3⟩ := all2_cons g2
  subst e2
  obtain ⟨x2, r2⟩ := wtT25 _ _ w2
  obtain ⟨p3, q3, e3, w3, g4⟩ := all2_cons g3
  subst e3
  obtain ⟨x3, r3⟩ := wtT26 _ _ w3
  obtain ⟨p4, q4, e4, w4, g5⟩ := all2_cons g4
  subst e4
  obtain ⟨x4, r4⟩ := wt_int Try.underlying3 w4
  have e' := all2_nil g5
  subst e'
  exact ⟨⟨x0, x1, x2, x3, x4⟩, rd_append r0 (rd_append r1 (rd_append r2 (rd_append r3 (rd_append r4 (rd_nil)))))⟩
theorem ev_args (S : Store) (avs : List V) (h : All2 (VT Try.prog S 8) Try.f3.params.toList avs) : EvA Try.prog 3 avs S (fun r _ => r = .v (.s (.bool true))) := by
  have g0 : All2 (VT Try.prog S 8) [28] avs := h
  clear h
  obtain ⟨v0, q0, e0, h0, g1⟩ := all2_cons g0
  subst e0
  obtain ⟨cs0, f0, w0⟩ := vt_agg Try.underlying28 h0
  subst f0
  obtain ⟨x0, r0⟩ := wtT28 _ _ w0
  have e' := all2_nil g1
  subst e'
  exact ev_law x0 _ S r0

set_option maxRecDepth 100000 in
theorem ev_calls (H : Type) (enc : TypeId × Value → H) (W : World) (base : Nat) (args : Array Value) (ds gs : List (DataW H)) (before : List MemPlace)
    (hval : ∀ (j : Nat) t v, Try.f3.params[j]? = some t → args[j]? = some v → Value.okWide Try.prog W .any base t v)
    (hW : DataW.Whole enc Try.prog Try.f3.params.toList Rows.fnExactTabDocumentSpec.vars false W args.toList ds gs before) (htab : Tab0 W) :
    Calls Try.prog 3 args W fun e W' => ∃ v, e = .returned v ∧ Rows.fnExactTabDocumentSpec.post enc Try.prog Try.f3 false true false false W args v W' :=
  law_calls (P := Try.prog) (f := 3) (fn := Try.f3) (s := Rows.fnExactTabDocumentSpec) (m := 8) laidOut (by kernel_rfl) (by kernel_rfl) rfl (fun H ds h => by
    have h : ds.length = 1 := h
    match ds, h with
    | [d0], _ => rfl) (tb := 4) rfl Try.underlying4 (fun S avs _ h => ev_args S avs h) hval hW htab

set_option maxRecDepth 100000 in
theorem ev_lifted (os : Os) (started : os.Started) (H : Type) (enc : TypeId × Value → H) :
    ReturnsInHanded {} Try.checked os 3 .any (Rows.fnExactTabDocumentSpec.pre6 enc Try.prog Try.f3 Rows.fnExactTabDocumentRow.domain false) (Rows.fnExactTabDocumentSpec.post enc Try.prog Try.f3 false true false false) :=
  returnsInHanded_of_change (C := Try.checked) own started (by kernel_rfl) Try.func3
    (ChangeSpec.witness6 (enc := enc) (C := Try.checked) false ⟨#[], #[.agg #[.int .i64 0, .int .i64 0, .slice none 0 0, .slice none 0 0, .slice none 0 0, .int .i64 0]], []⟩ 8 (by kernel_rfl) (by kernel_rfl) (by kernel_rfl) (by kernel_rfl))
    (fun W base args ds gs before hval hW _ _ => ev_calls H enc W base args ds gs before hval hW (fun _ _ h => by cases h))

theorem fnExactTabDocument_holds : Rows.FnExactTabDocumentSaid :=
  OpenClaim.holds_of_wide 3 Try.f3 rfl rfl rfl rfl rfl rfl rfl ⟨rfl, rfl, rfl, rfl, rfl⟩ rfl rfl rfl rfl rfl (by kernel_rfl) Try.func3 (by kernel_rfl)
    (of_decide_eq_true (by kernel_rfl)) (by unfold Func.isWrapper; first | (rw [if_pos (by decide +kernel)]; kernel_rfl) | (rw [if_neg (by decide +kernel)]; exact ⟨rfl, rfl⟩))
    (fun os started H enc _ => ev_lifted os started H enc)
end Go.Proofs.Ytjknkcgngchboaa
