/- FnExactStepRemove returns true for every argument, and its arguments read as before. No condition. -/
import Derived.Test.YtibglkkmjigooaaGreatFnCt
import Derived.Test.YtibglkkmjigooaaGreatFnCm
import Derived.Test.YtibglkkmjigooaaGreatFnCh
import Derived.Test.YtibglkkmjigooaaGreatFnZj
import Derived.Test.YtibglkkmjigooaaGreatAeN
namespace Go.Proofs.YtibglkkmjigooaaGreat
open Go Go.ChangeShapes Go.WideShapes Go.ChangeAt Go.RowKit
set_option linter.unusedVariables false
set_option linter.unusedSimpArgs false
set_option maxRecDepth 100000
theorem bne_self' (x : Bool) : (!(x == x)) = false := by cases x <;> rfl
set_option maxHeartbeats 8000000 in
theorem ev_law (x0 : GBrowser) (cs0 : List C) (x1 : Int) (S : Store) (h0 : Rd S x0.d cs0) : EvA Tryz.prog 3 [.agg cs0, .s (.int .i64 x1)] S (fun r _ => r = .v (.s (.bool true))) := by
  obtain ⟨_, _, _, _, _, _, rfl, _, _, _, _, _, _⟩ := GBrowser.inv h0
  refine evA_intro tok Tryz.func3 (by kernel_rfl) rfl ?_
  have a0 := h0.be
  repeat' ((conv => whnf) <;> first
   | refine condP_szR om (fun _ _ => ?_) (fun _ _ => ?_) | refine condP_false (bne_self' _) ?_ | refine cD (fun _ => ?_) fun _ => ?_ | refine cE (fun _ => ?_) fun _ => ?_ | refine cT ?_ | refine cF ?_ | refine cN (fun _ => ?_) fun _ => ?_ | refine cI (fun _ => ?_) fun _ => ?_ | refine callP_eq (ev_szBrowser _ _ _ _ rdcB om) ?_ | refine callP_eq (ev_eqBrowser _ _ _ _ rdcB rdcB) ?_ | (refine callP_eq (ev_heldBrowser _ _ _ _ aN om) ?_) | refine nP ?_ | refine draw_intro 45 [.fl 0, .fl 1, .st 2 [0], .st 3 [], .fl 4] (by rfl) (by kernel_rfl) ?_ | refine And.intro ?_ ?_)
  all_goals try first | rfl | (exfalso; omega)
  first
    | (refine callP_intro (ev_toBrowser _ _ _ rdcB (by (first | omega | exact sz_at hz (by omega) | (simp only [szL]; omega)))) ?_; rintro _ Sn ⟨hEn, _, _, _, _, _, _, rfl, hFn⟩)
  have e1 := hEn
  have le1 := e1.len
  replace a0 := a0.ext e1
  have t1 := hFn.inn
  clear hEn hFn
  clear e1
  have r_a0 := a0.rd
  have r_t1 := t1.rd
  repeat' ((conv => whnf) <;> first
   | refine condP_szR om (fun _ _ => ?_) (fun _ _ => ?_) | refine condP_false (bne_self' _) ?_ | refine cD (fun _ => ?_) fun _ => ?_ | refine cE (fun _ => ?_) fun _ => ?_ | refine cT ?_ | refine cF ?_ | refine cN (fun _ => ?_) fun _ => ?_ | refine cI (fun _ => ?_) fun _ => ?_ | refine callP_eq (ev_szBrowser _ _ _ _ rdcB om) ?_ | refine callP_eq (ev_eqBrowser _ _ _ _ rdcB rdcB) ?_ | (refine callP_eq (ev_heldBrowser _ _ _ _ aN om) ?_) | refine nP ?_ | refine draw_intro 45 [.fl 0, .fl 1, .st 2 [0], .st 3 [], .fl 4] (by rfl) (by kernel_rfl) ?_ | refine And.intro ?_ ?_)
  all_goals try first | rfl | (exfalso; omega)
  first
    | (refine callP_intro (ev_sStepRemove _ _ _ _ rdcB (by (first | omega | exact sz_at hz (by omega) | (simp only [szL]; omega)))) ?_; rintro _ Sn ⟨hEn, _, _, _, _, _, _, rfl, hFn⟩)
  have e2 := hEn
  have le2 := e2.len
  replace a0 := a0.ext e2
  replace t1 := t1.ext e2
  have w := hFn.inn
  clear hEn hFn
  clear e2
  clear r_a0 r_t1
  have r_a0 := a0.rd
  have r_w := w.rd
  repeat' ((conv => whnf) <;> first
   | refine condP_szR om (fun _ _ => ?_) (fun _ _ => ?_) | refine condP_false (bne_self' _) ?_ | refine cD (fun _ => ?_) fun _ => ?_ | refine cE (fun _ => ?_) fun _ => ?_ | refine cT ?_ | refine cF ?_ | refine cN (fun _ => ?_) fun _ => ?_ | refine cI (fun _ => ?_) fun _ => ?_ | refine callP_eq (ev_szBrowser _ _ _ _ rdcB om) ?_ | refine callP_eq (ev_eqBrowser _ _ _ _ rdcB rdcB) ?_ | (refine callP_eq (ev_heldBrowser _ _ _ _ aN om) ?_) | refine nP ?_ | refine draw_intro 45 [.fl 0, .fl 1, .st 2 [0], .st 3 [], .fl 4] (by rfl) (by kernel_rfl) ?_ | refine And.intro ?_ ?_)
  all_goals try first | rfl | (exfalso; omega)
  first
    | (refine callP_intro (ev_toBrowser _ _ _ rdcB (by (first | omega | exact sz_at hz (by omega) | (simp only [szL]; omega)))) ?_; rintro _ Sn ⟨hEn, _, _, _, _, _, _, rfl, hFn⟩)
  have e3 := hEn
  have le3 := e3.len
  replace a0 := a0.ext e3
  replace w := w.ext e3
  have x0' := hFn.inn
  clear hEn hFn
  clear e3
  clear r_a0 r_w
  have r_a0 := a0.rd
  have r_w := w.rd
  have r_x0' := x0'.rd
  repeat' ((conv => whnf) <;> first
   | refine condP_szR om (fun _ _ => ?_) (fun _ _ => ?_) | refine condP_false (bne_self' _) ?_ | refine cD (fun _ => ?_) fun _ => ?_ | refine cE (fun _ => ?_) fun _ => ?_ | refine cT ?_ | refine cF ?_ | refine cN (fun _ => ?_) fun _ => ?_ | refine cI (fun _ => ?_) fun _ => ?_ | refine callP_eq (ev_szBrowser _ _ _ _ rdcB om) ?_ | refine callP_eq (ev_eqBrowser _ _ _ _ rdcB rdcB) ?_ | (refine callP_eq (ev_heldBrowser _ _ _ _ aN om) ?_) | refine nP ?_ | refine draw_intro 45 [.fl 0, .fl 1, .st 2 [0], .st 3 [], .fl 4] (by rfl) (by kernel_rfl) ?_ | refine And.intro ?_ ?_)
  all_goals try first | rfl | (exfalso; omega)
  first
    | (refine callP_intro (ev_iStepRemove _ _ _ _ rdcB (by (first | omega | exact sz_at hz (by omega) | (simp only [szL]; omega)))) ?_; rintro _ Sn ⟨hEn, _, _, _, _, _, _, rfl, hFn⟩)
  have e4 := hEn
  have le4 := e4.len
  replace a0 := a0.ext e4
  replace w := w.ext e4
  replace x0' := x0'.ext e4
  have g := hFn.inn
  clear hEn hFn
  clear e4
  clear r_a0 r_w r_x0'
  have r_a0 := a0.rd
  have r_w := w.rd
  have r_x0' := x0'.rd
  have r_g := g.rd
  repeat' ((conv => whnf) <;> first
   | refine condP_szR om (fun _ _ => ?_) (fun _ _ => ?_) | refine condP_false (bne_self' _) ?_ | refine cD (fun _ => ?_) fun _ => ?_ | refine cE (fun _ => ?_) fun _ => ?_ | refine cT ?_ | refine cF ?_ | refine cN (fun _ => ?_) fun _ => ?_ | refine cI (fun _ => ?_) fun _ => ?_ | refine callP_eq (ev_szBrowser _ _ _ _ rdcB om) ?_ | refine callP_eq (ev_eqBrowser _ _ _ _ rdcB rdcB) ?_ | (refine callP_eq (ev_heldBrowser _ _ _ _ aN om) ?_) | refine nP ?_ | refine draw_intro 45 [.fl 0, .fl 1, .st 2 [0], .st 3 [], .fl 4] (by rfl) (by kernel_rfl) ?_ | refine And.intro ?_ ?_)
  all_goals try first | rfl | (exfalso; omega)
  first
    | (refine callP_intro (ev_toBrowser _ _ _ rdcB (by (first | omega | exact sz_at hz (by omega) | (simp only [szL]; omega)))) ?_; rintro _ Sn ⟨hEn, _, _, _, _, _, _, rfl, hFn⟩)
  have e5 := hEn
  have le5 := e5.len
  replace a0 := a0.ext e5
  replace w := w.ext e5
  replace x0' := x0'.ext e5
  replace g := g.ext e5
  have t5 := hFn.inn
  clear hEn hFn
  clear e5
  clear r_a0 r_w r_x0' r_g
  have r_a0 := a0.rd
  have r_w := w.rd
  have r_x0' := x0'.rd
  have r_g := g.rd
  have r_t5 := t5.rd
  have hB0 : (cntT x0.d : Int) ≤ 33554432 := by have := GBrowser.cntTb x0; omega
  repeat' ((conv => whnf) <;> first
   | refine condP_szR om (fun _ _ => ?_) (fun _ _ => ?_) | refine condP_false (bne_self' _) ?_ | refine cD (fun _ => ?_) fun _ => ?_ | refine cE (fun _ => ?_) fun _ => ?_ | refine cT ?_ | refine cF ?_ | refine cN (fun _ => ?_) fun _ => ?_ | refine cI (fun _ => ?_) fun _ => ?_ | refine callP_eq (ev_szBrowser _ _ _ _ rdcB om) ?_ | refine callP_eq (ev_eqBrowser _ _ _ _ rdcB rdcB) ?_ | (refine callP_eq (ev_heldBrowser _ _ _ _ aN om) ?_) | refine nP ?_ | refine draw_intro 45 [.fl 0, .fl 1, .st 2 [0], .st 3 [], .fl 4] (by rfl) (by kernel_rfl) ?_ | refine And.intro ?_ ?_)
  all_goals try first | rfl | (exfalso; omega)
  obtain ⟨ids6, hR6, hn6, hb6⟩ := x0'
  refine callP_intro (ev_markBrowser _ _ _ _ _ hR6 hn6 (by omega)) ?_; rintro _ S6 ⟨rfl, hM6, hK6⟩
  have o6 := hM6.out hb6
  have le6 := o6.len
  replace a0 := a0.out o6 (by omega)
  replace w := w.out o6 (by omega)
  replace g := g.out o6 (by omega)
  clear r_a0 r_w r_x0' r_g r_t5
  have r_a0 := a0.rd
  have r_w := w.rd
  have r_g := g.rd
  repeat' ((conv => whnf) <;> first
   | refine condP_szR om (fun _ _ => ?_) (fun _ _ => ?_) | refine condP_false (bne_self' _) ?_ | refine cD (fun _ => ?_) fun _ => ?_ | refine cE (fun _ => ?_) fun _ => ?_ | refine cT ?_ | refine cF ?_ | refine cN (fun _ => ?_) fun _ => ?_ | refine cI (fun _ => ?_) fun _ => ?_ | refine callP_eq (ev_szBrowser _ _ _ _ rdcB om) ?_ | refine callP_eq (ev_eqBrowser _ _ _ _ rdcB rdcB) ?_ | (refine callP_eq (ev_heldBrowser _ _ _ _ aN om) ?_) | refine nP ?_ | refine draw_intro 45 [.fl 0, .fl 1, .st 2 [0], .st 3 [], .fl 4] (by rfl) (by kernel_rfl) ?_ | refine And.intro ?_ ?_)
  all_goals try first | rfl | (exfalso; omega)
  obtain ⟨ids7, hR7, hn7, hb7⟩ := g
  have hB : (0 : Int) ≤ 1 ∧ (1 : Int) + (cntT ((stepRemove x0 x1).1).d : Int) ≤ 4611686018427387904 := by have h1 := GBrowser.cntTb (stepRemove x0 x1).1; have h2 := szStepRemove x0 x1; omega
  refine callP_intro (ev_markBrowser _ _ _ _ _ hR7 hn7 (by omega)) ?_; rintro _ S7 ⟨rfl, hM7, hK7⟩
  have o7 := hM7.out hb7
  have le7 := o7.len
  replace a0 := a0.out o7 (by omega)
  replace w := w.out o7 (by omega)
  have g := (Rd.of hK7).be
  clear r_a0 r_w r_g
  have r_a0 := a0.rd
  have r_w := w.rd
  have r_g := g.rd
  repeat' ((conv => whnf) <;> first
   | refine condP_szR om (fun _ _ => ?_) (fun _ _ => ?_) | refine condP_false (bne_self' _) ?_ | refine cD (fun _ => ?_) fun _ => ?_ | refine cE (fun _ => ?_) fun _ => ?_ | refine cT ?_ | refine cF ?_ | refine cN (fun _ => ?_) fun _ => ?_ | refine cI (fun _ => ?_) fun _ => ?_ | refine callP_eq (ev_szBrowser _ _ _ _ rdcB om) ?_ | refine callP_eq (ev_eqBrowser _ _ _ _ rdcB rdcB) ?_ | (refine callP_eq (ev_heldBrowser _ _ _ _ aN om) ?_) | refine nP ?_ | refine draw_intro 45 [.fl 0, .fl 1, .st 2 [0], .st 3 [], .fl 4] (by rfl) (by kernel_rfl) ?_ | refine And.intro ?_ ?_)
  all_goals try first | rfl | (exfalso; omega)
  first
    | (refine callP_intro (ev_toBrowser _ _ _ rdcB (by (first | omega | exact sz_at hz (by omega) | (simp only [szL]; omega)))) ?_; rintro _ Sn ⟨hEn, _, _, _, _, _, _, rfl, hFn⟩)
  have e8 := hEn
  have le8 := e8.len
  replace a0 := a0.ext e8
  replace w := w.ext e8
  replace g := g.ext e8
  have t8 := hFn.inn
  clear hEn hFn
  clear e8
  clear r_a0 r_w r_g
  have r_a0 := a0.rd
  have r_w := w.rd
  have r_g := g.rd
  have r_t8 := t8.rd
  repeat' ((conv => whnf) <;> first
   | refine condP_szR om (fun _ _ => ?_) (fun _ _ => ?_) | refine condP_false (bne_self' _) ?_ | refine cD (fun _ => ?_) fun _ => ?_ | refine cE (fun _ => ?_) fun _ => ?_ | refine cT ?_ | refine cF ?_ | refine cN (fun _ => ?_) fun _ => ?_ | refine cI (fun _ => ?_) fun _ => ?_ | refine callP_eq (ev_szBrowser _ _ _ _ rdcB om) ?_ | refine callP_eq (ev_eqBrowser _ _ _ _ rdcB rdcB) ?_ | (refine callP_eq (ev_heldBrowser _ _ _ _ aN om) ?_) | refine nP ?_ | refine draw_intro 45 [.fl 0, .fl 1, .st 2 [0], .st 3 [], .fl 4] (by rfl) (by kernel_rfl) ?_ | refine And.intro ?_ ?_)
  all_goals try first | rfl | (exfalso; omega)
  first
    | (refine callP_intro (ev_iStepRemove _ _ _ _ rdcB (by (first | omega | exact sz_at hz (by omega) | (simp only [szL]; omega)))) ?_; rintro _ Sn ⟨hEn, _, _, _, _, _, _, rfl, hFn⟩)
  have e9 := hEn
  have le9 := e9.len
  replace a0 := a0.ext e9
  replace w := w.ext e9
  replace g := g.ext e9
  replace t8 := t8.ext e9
  have h := hFn.inn
  clear hEn hFn
  clear e9
  clear r_a0 r_w r_g r_t8
  have r_a0 := a0.rd
  have r_w := w.rd
  have r_g := g.rd
  have r_h := h.rd
  repeat' ((conv => whnf) <;> first
   | refine condP_szR om (fun _ _ => ?_) (fun _ _ => ?_) | refine condP_false (bne_self' _) ?_ | refine cD (fun _ => ?_) fun _ => ?_ | refine cE (fun _ => ?_) fun _ => ?_ | refine cT ?_ | refine cF ?_ | refine cN (fun _ => ?_) fun _ => ?_ | refine cI (fun _ => ?_) fun _ => ?_ | refine callP_eq (ev_szBrowser _ _ _ _ rdcB om) ?_ | refine callP_eq (ev_eqBrowser _ _ _ _ rdcB rdcB) ?_ | (refine callP_eq (ev_heldBrowser _ _ _ _ aN om) ?_) | refine nP ?_ | refine draw_intro 45 [.fl 0, .fl 1, .st 2 [0], .st 3 [], .fl 4] (by rfl) (by kernel_rfl) ?_ | refine And.intro ?_ ?_)
  all_goals try first | rfl | (exfalso; omega)
theorem wtT116 {S : Store} (m : Nat) (cs : List C) (h : WT Tryz.prog S m 116 cs) : ∃ x : GSite, Rd S x.d cs := by
  obtain ⟨m', ps, e, g⟩ := wt_struct Tryz.underlying116 h
  subst e
  have g0 : All2 (WT Tryz.prog S m') [3, 3] ps := g
  obtain ⟨p0, q0, e0, w0, g1⟩ := all2_cons g0
  subst e0
  obtain ⟨x0, r0⟩ := wt_int Tryz.underlying3 w0
  obtain ⟨p1, q1, e1, w1, g2⟩ := all2_cons g1
  subst e1
  obtain ⟨x1, r1⟩ := wt_int Tryz.underlying3 w1
  have e' := all2_nil g2
  subst e'
  exact ⟨⟨x0, x1⟩, rd_append r0 (rd_append r1 (rd_nil))⟩
theorem wtT229 {S : Store} (m : Nat) (cs : List C) (h : WT Tryz.prog S m 229 cs) : ∃ x : GNode, Rd S x.d cs := by
  obtain ⟨m', ps, e, g⟩ := wt_struct Tryz.underlying229 h
  subst e
  have g0 : All2 (WT Tryz.prog S m') [3, 3, 3, 3, 3] ps := g
  obtain ⟨p0, q0, e0, w0, g1⟩ := all2_cons g0
  subst e0
  obtain ⟨x0, r0⟩ := wt_int Tryz.underlying3 w0
  obtain ⟨p1, q1, e1, w1, g2⟩ := all2_cons g1
  subst e1
  obtain ⟨x1, r1⟩ := wt_int Tryz.underlying3 w1
  obtain ⟨p2, q2, e2, w2, g3⟩ := all2_cons g2
  subst e2
  obtain ⟨x2, r2⟩ := wt_int Tryz.underlying3 w2
  obtain ⟨p3, q3, e3, w3, g4⟩ := all2_cons g3
  subst e3
  obtain ⟨x3, r3⟩ := wt_int Tryz.underlying3 w3
  obtain ⟨p4, q4, e4, w4, g5⟩ := all2_cons g4
  subst e4
  obtain ⟨x4, r4⟩ := wt_int Tryz.underlying3 w4
  have e' := all2_nil g5
  subst e'
  exact ⟨⟨x0, x1, x2, x3, x4⟩, rd_append r0 (rd_append r1 (rd_append r2 (rd_append r3 (rd_append r4 (rd_nil)))))⟩
theorem wtT117 {S : Store} (m : Nat) (cs : List C) (h : WT Tryz.prog S m 117 cs) : ∃ l : List GNode, Rd S [.sl 5 (l.map GNode.d)] cs :=
  wt_slice Tryz.underlying117 (by kernel_rfl) (fun m cs h => wtT229 m cs h) h
theorem wtT231 {S : Store} (m : Nat) (cs : List C) (h : WT Tryz.prog S m 231 cs) : ∃ x : GEdit, Rd S x.d cs := by
  obtain ⟨m', ps, e, g⟩ := wt_struct Tryz.underlying231 h
  subst e
  have g0 : All2 (WT Tryz.prog S m') [3, 3, 3, 3, 3, 3] ps := g
  obtain ⟨p0, q0, e0, w0, g1⟩ := all2_cons g0
  subst e0
  obtain ⟨x0, r0⟩ := wt_int Tryz.underlying3 w0
  obtain ⟨p1, q1, e1, w1, g2⟩ := all2_cons g1
  subst e1
  obtain ⟨x1, r1⟩ := wt_int Tryz.underlying3 w1
  obtain ⟨p2, q2, e2, w2, g3⟩ := all2_cons g2
  subst e2
  obtain ⟨x2, r2⟩ := wt_int Tryz.underlying3 w2
  obtain ⟨p3, q3, e3, w3, g4⟩ := all2_cons g3
  subst e3
  obtain ⟨x3, r3⟩ := wt_int Tryz.underlying3 w3
  obtain ⟨p4, q4, e4, w4, g5⟩ := all2_cons g4
  subst e4
  obtain ⟨x4, r4⟩ := wt_int Tryz.underlying3 w4
  obtain ⟨p5, q5, e5, w5, g6⟩ := all2_cons g5
  subst e5
  obtain ⟨x5, r5⟩ := wt_int Tryz.underlying3 w5
  have e' := all2_nil g6
  subst e'
  exact ⟨⟨x0, x1, x2, x3, x4, x5⟩, rd_append r0 (rd_append r1 (rd_append r2 (rd_append r3 (rd_append r4 (rd_append r5 (rd_nil))))))⟩
theorem wtT118 {S : Store} (m : Nat) (cs : List C) (h : WT Tryz.prog S m 118 cs) : ∃ l : List GEdit, Rd S [.sl 6 (l.map GEdit.d)] cs :=
  wt_slice Tryz.underlying118 (by kernel_rfl) (fun m cs h => wtT231 m cs h) h
theorem wtT78 {S : Store} (m : Nat) (cs : List C) (h : WT Tryz.prog S m 78 cs) : ∃ l : List Int, Rd S [.sl 1 (l.map dInt)] cs :=
  wt_slice Tryz.underlying78 (by kernel_rfl) (fun m cs h => wt_int Tryz.underlying3 h) h
theorem wtT120 {S : Store} (m : Nat) (cs : List C) (h : WT Tryz.prog S m 120 cs) : ∃ x : GTab, Rd S x.d cs := by
  obtain ⟨m', ps, e, g⟩ := wt_struct Tryz.underlying120 h
  subst e
  have g0 : All2 (WT Tryz.prog S m') [116, 117, 118, 78, 3] ps := g
  obtain ⟨p0, q0, e0, w0, g1⟩ := all2_cons g0
  subst e0
  obtain ⟨x0, r0⟩ := wtT116 _ _ w0
  obtain ⟨p1, q1, e1, w1, g2⟩ := all2_cons g1
  subst e1
  obtain ⟨x1, r1⟩ := wtT117 _ _ w1
  obtain ⟨p2, q2, e2, w2, g3⟩ := all2_cons g2
  subst e2
  obtain ⟨x2, r2⟩ := wtT118 _ _ w2
  obtain ⟨p3, q3, e3, w3, g4⟩ := all2_cons g3
  subst e3
  obtain ⟨x3, r3⟩ := wtT78 _ _ w3
  obtain ⟨p4, q4, e4, w4, g5⟩ := all2_cons g4
  subst e4
  obtain ⟨x4, r4⟩ := wt_int Tryz.underlying3 w4
  have e' := all2_nil g5
  subst e'
  exact ⟨⟨x0, x1, x2, x3, x4⟩, rd_append r0 (rd_append r1 (rd_append r2 (rd_append r3 (rd_append r4 (rd_nil)))))⟩
theorem wtT22 {S : Store} (m : Nat) (cs : List C) (h : WT Tryz.prog S m 22 cs) : ∃ l : List GTab, Rd S [.sl 6 (l.map GTab.d)] cs :=
  wt_slice Tryz.underlying22 (by kernel_rfl) (fun m cs h => wtT120 m cs h) h
theorem wtT132 {S : Store} (m : Nat) (cs : List C) (h : WT Tryz.prog S m 132 cs) : ∃ x : GPattern, Rd S x.d cs := by
  obtain ⟨m', ps, e, g⟩ := wt_struct Tryz.underlying132 h
  subst e
  have g0 : All2 (WT Tryz.prog S m') [3, 3] ps := g
  obtain ⟨p0, q0, e0, w0, g1⟩ := all2_cons g0
  subst e0
  obtain ⟨x0, r0⟩ := wt_int Tryz.underlying3 w0
  obtain ⟨p1, q1, e1, w1, g2⟩ := all2_cons g1
  subst e1
  obtain ⟨x1, r1⟩ := wt_int Tryz.underlying3 w1
  have e' := all2_nil g2
  subst e'
  exact ⟨⟨x0, x1⟩, rd_append r0 (rd_append r1 (rd_nil))⟩
theorem wtT134 {S : Store} (m : Nat) (cs : List C) (h : WT Tryz.prog S m 134 cs) : ∃ x : GGrant, Rd S x.d cs := by
  obtain ⟨m', ps, e, g⟩ := wt_struct Tryz.underlying134 h
  subst e
  have g0 : All2 (WT Tryz.prog S m') [3, 132, 3, 3, 3, 4] ps := g
  obtain ⟨p0, q0, e0, w0, g1⟩ := all2_cons g0
  subst e0
  obtain ⟨x0, r0⟩ := wt_int Tryz.underlying3 w0
  obtain ⟨p1, q1, e1, w1, g2⟩ := all2_cons g1
  subst e1
  obtain ⟨x1, r1⟩ := wtT132 _ _ w1
  obtain ⟨p2, q2, e2, w2, g3⟩ := all2_cons g2
  subst e2
  obtain ⟨x2, r2⟩ := wt_int Tryz.underlying3 w2
  obtain ⟨p3, q3, e3, w3, g4⟩ := all2_cons g3
  subst e3
  obtain ⟨x3, r3⟩ := wt_int Tryz.underlying3 w3
  obtain ⟨p4, q4, e4, w4, g5⟩ := all2_cons g4
  subst e4
  obtain ⟨x4, r4⟩ := wt_int Tryz.underlying3 w4
  obtain ⟨p5, q5, e5, w5, g6⟩ := all2_cons g5
  subst e5
  obtain ⟨x5, r5⟩ := wt_bool Tryz.underlying4 w5
  have e' := all2_nil g6
  subst e'
  exact ⟨⟨x0, x1, x2, x3, x4, x5⟩, rd_append r0 (rd_append r1 (rd_append r2 (rd_append r3 (rd_append r4 (rd_append r5 (rd_nil))))))⟩
theorem wtT24 {S : Store} (m : Nat) (cs : List C) (h : WT Tryz.prog S m 24 cs) : ∃ l : List GGrant, Rd S [.sl 7 (l.map GGrant.d)] cs :=
  wt_slice Tryz.underlying24 (by kernel_rfl) (fun m cs h => wtT134 m cs h) h
theorem wtT182 {S : Store} (m : Nat) (cs : List C) (h : WT Tryz.prog S m 182 cs) : ∃ x : GFlow, Rd S x.d cs := by
  obtain ⟨m', ps, e, g⟩ := wt_struct Tryz.underlying182 h
  subst e
  have g0 : All2 (WT Tryz.prog S m') [3, 3, 3] ps := g
  obtain ⟨p0, q0, e0, w0, g1⟩ := all2_cons g0
  subst e0
  obtain ⟨x0, r0⟩ := wt_int Tryz.underlying3 w0
  obtain ⟨p1, q1, e1, w1, g2⟩ := all2_cons g1
  subst e1
  obtain ⟨x1, r1⟩ := wt_int Tryz.underlying3 w1
  obtain ⟨p2, q2, e2, w2, g3⟩ := all2_cons g2
  subst e2
  obtain ⟨x2, r2⟩ := wt_int Tryz.underlying3 w2
  have e' := all2_nil g3
  subst e'
  exact ⟨⟨x0, x1, x2⟩, rd_append r0 (rd_append r1 (rd_append r2 (rd_nil)))⟩
theorem wtT48 {S : Store} (m : Nat) (cs : List C) (h : WT Tryz.prog S m 48 cs) : ∃ l : List GFlow, Rd S [.sl 3 (l.map GFlow.d)] cs :=
  wt_slice Tryz.underlying48 (by kernel_rfl) (fun m cs h => wtT182 m cs h) h
theorem wtT142 {S : Store} (m : Nat) (cs : List C) (h : WT Tryz.prog S m 142 cs) : ∃ x : GRule, Rd S x.d cs := by
  obtain ⟨m', ps, e, g⟩ := wt_struct Tryz.underlying142 h
  subst e
  have g0 : All2 (WT Tryz.prog S m') [3, 3, 132, 3, 3, 116] ps := g
  obtain ⟨p0, q0, e0, w0, g1⟩ := all2_cons g0
  subst e0
  obtain ⟨x0, r0⟩ := wt_int Tryz.underlying3 w0
  obtain ⟨p1, q1, e1, w1, g2⟩ := all2_cons g1
  subst e1
  obtain ⟨x1, r1⟩ := wt_int Tryz.underlying3 w1
  obtain ⟨p2, q2, e2, w2, g3⟩ := all2_cons g2
  subst e2
  obtain ⟨x2, r2⟩ := wtT132 _ _ w2
  obtain ⟨p3, q3, e3, w3, g4⟩ := all2_cons g3
  subst e3
  obtain ⟨x3, r3⟩ := wt_int Tryz.underlying3 w3
  obtain ⟨p4, q4, e4, w4, g5⟩ := all2_cons g4
  subst e4
  obtain ⟨x4, r4⟩ := wt_int Tryz.underlying3 w4
  obtain ⟨p5, q5, e5, w5, g6⟩ := all2_cons g5
  subst e5
  obtain ⟨x5, r5⟩ := wtT116 _ _ w5
  have e' := all2_nil g6
  subst e'
  exact ⟨⟨x0, x1, x2, x3, x4, x5⟩, rd_append r0 (rd_append r1 (rd_append r2 (rd_append r3 (rd_append r4 (rd_append r5 (rd_nil))))))⟩
theorem wtT26 {S : Store} (m : Nat) (cs : List C) (h : WT Tryz.prog S m 26 cs) : ∃ l : List GRule, Rd S [.sl 8 (l.map GRule.d)] cs :=
  wt_slice Tryz.underlying26 (by kernel_rfl) (fun m cs h => wtT142 m cs h) h
theorem wtT186 {S : Store} (m : Nat) (cs : List C) (h : WT Tryz.prog S m 186 cs) : ∃ x : GOp, Rd S x.d cs := by
  obtain ⟨m', ps, e, g⟩ := wt_struct Tryz.underlying186 h
  subst e
  have g0 : All2 (WT Tryz.prog S m') [3, 3, 3, 3] ps := g
  obtain ⟨p0, q0, e0, w0, g1⟩ := all2_cons g0
  subst e0
  obtain ⟨x0, r0⟩ := wt_int Tryz.underlying3 w0
  obtain ⟨p1, q1, e1, w1, g2⟩ := all2_cons g1
  subst e1
  obtain ⟨x1, r1⟩ := wt_int Tryz.underlying3 w1
  obtain ⟨p2, q2, e2, w2, g3⟩ := all2_cons g2
  subst e2
  obtain ⟨x2, r2⟩ := wt_int Tryz.underlying3 w2
  obtain ⟨p3, q3, e3, w3, g4⟩ := all2_cons g3
  subst e3
  obtain ⟨x3, r3⟩ := wt_int Tryz.underlying3 w3
  have e' := all2_nil g4
  subst e'
  exact ⟨⟨x0, x1, x2, x3⟩, rd_append r0 (rd_append r1 (rd_append r2 (rd_append r3 (rd_nil))))⟩
theorem wtT49 {S : Store} (m : Nat) (cs : List C) (h : WT Tryz.prog S m 49 cs) : ∃ l : List GOp, Rd S [.sl 4 (l.map GOp.d)] cs :=
  wt_slice Tryz.underlying49 (by kernel_rfl) (fun m cs h => wtT186 m cs h) h
theorem wtT51 {S : Store} (m : Nat) (cs : List C) (h : WT Tryz.prog S m 51 cs) : ∃ x : GPackage, Rd S x.d cs := by
  obtain ⟨m', ps, e, g⟩ := wt_struct Tryz.underlying51 h
  subst e
  have g0 : All2 (WT Tryz.prog S m') [3, 3, 3, 24, 48, 26, 49, 3] ps := g
  obtain ⟨p0, q0, e0, w0, g1⟩ := all2_cons g0
  subst e0
  obtain ⟨x0, r0⟩ := wt_int Tryz.underlying3 w0
  obtain ⟨p1, q1, e1, w1, g2⟩ := all2_cons g1
  subst e1
  obtain ⟨x1, r1⟩ := wt_int Tryz.underlying3 w1
  obtain ⟨p2, q2, e2, w2, g3⟩ := all2_cons g2
  subst e2
  obtain ⟨x2, r2⟩ := wt_int Tryz.underlying3 w2
  obtain ⟨p3, q3, e3, w3, g4⟩ := all2_cons g3
  subst e3
  obtain ⟨x3, r3⟩ := wtT24 _ _ w3
  obtain ⟨p4, q4, e4, w4, g5⟩ := all2_cons g4
  subst e4
  obtain ⟨x4, r4⟩ := wtT48 _ _ w4
  obtain ⟨p5, q5, e5, w5, g6⟩ := all2_cons g5
  subst e5
  obtain ⟨x5, r5⟩ := wtT26 _ _ w5
  obtain ⟨p6, q6, e6, w6, g7⟩ := all2_cons g6
  subst e6
  obtain ⟨x6, r6⟩ := wtT49 _ _ w6
  obtain ⟨p7, q7, e7, w7, g8⟩ := all2_cons g7
  subst e7
  obtain ⟨x7, r7⟩ := wt_int Tryz.underlying3 w7
  have e' := all2_nil g8
  subst e'
  exact ⟨⟨x0, x1, x2, x3, x4, x5, x6, x7⟩, rd_append r0 (rd_append r1 (rd_append r2 (rd_append r3 (rd_append r4 (rd_append r5 (rd_append r6 (rd_append r7 (rd_nil))))))))⟩
theorem wtT23 {S : Store} (m : Nat) (cs : List C) (h : WT Tryz.prog S m 23 cs) : ∃ l : List GPackage, Rd S [.sl 8 (l.map GPackage.d)] cs :=
  wt_slice Tryz.underlying23 (by kernel_rfl) (fun m cs h => wtT51 m cs h) h
theorem wtT139 {S : Store} (m : Nat) (cs : List C) (h : WT Tryz.prog S m 139 cs) : ∃ x : GLimit, Rd S x.d cs := by
  obtain ⟨m', ps, e, g⟩ := wt_struct Tryz.underlying139 h
  subst e
  have g0 : All2 (WT Tryz.prog S m') [3, 132, 3] ps := g
  obtain ⟨p0, q0, e0, w0, g1⟩ := all2_cons g0
  subst e0
  obtain ⟨x0, r0⟩ := wt_int Tryz.underlying3 w0
  obtain ⟨p1, q1, e1, w1, g2⟩ := all2_cons g1
  subst e1
  obtain ⟨x1, r1⟩ := wtT132 _ _ w1
  obtain ⟨p2, q2, e2, w2, g3⟩ := all2_cons g2
  subst e2
  obtain ⟨x2, r2⟩ := wt_int Tryz.underlying3 w2
  have e' := all2_nil g3
  subst e'
  exact ⟨⟨x0, x1, x2⟩, rd_append r0 (rd_append r1 (rd_append r2 (rd_nil)))⟩
theorem wtT25 {S : Store} (m : Nat) (cs : List C) (h : WT Tryz.prog S m 25 cs) : ∃ l : List GLimit, Rd S [.sl 4 (l.map GLimit.d)] cs :=
  wt_slice Tryz.underlying25 (by kernel_rfl) (fun m cs h => wtT139 m cs h) h
theorem wtT144 {S : Store} (m : Nat) (cs : List C) (h : WT Tryz.prog S m 144 cs) : ∃ x : GStored, Rd S x.d cs := by
  obtain ⟨m', ps, e, g⟩ := wt_struct Tryz.underlying144 h
  subst e
  have g0 : All2 (WT Tryz.prog S m') [3, 3, 3, 3] ps := g
  obtain ⟨p0, q0, e0, w0, g1⟩ := all2_cons g0
  subst e0
  obtain ⟨x0, r0⟩ := wt_int Tryz.underlying3 w0
  obtain ⟨p1, q1, e1, w1, g2⟩ := all2_cons g1
  subst e1
  obtain ⟨x1, r1⟩ := wt_int Tryz.underlying3 w1
  obtain ⟨p2, q2, e2, w2, g3⟩ := all2_cons g2
  subst e2
  obtain ⟨x2, r2⟩ := wt_int Tryz.underlying3 w2
  obtain ⟨p3, q3, e3, w3, g4⟩ := all2_cons g3
  subst e3
  obtain ⟨x3, r3⟩ := wt_int Tryz.underlying3 w3
  have e' := all2_nil g4
  subst e'
  exact ⟨⟨x0, x1, x2, x3⟩, rd_append r0 (rd_append r1 (rd_append r2 (rd_append r3 (rd_nil))))⟩
theorem wtT27 {S : Store} (m : Nat) (cs : List C) (h : WT Tryz.prog S m 27 cs) : ∃ l : List GStored, Rd S [.sl 4 (l.map GStored.d)] cs :=
  wt_slice Tryz.underlying27 (by kernel_rfl) (fun m cs h => wtT144 m cs h) h
theorem wtT29 {S : Store} (m : Nat) (cs : List C) (h : WT Tryz.prog S m 29 cs) : ∃ x : GBrowser, Rd S x.d cs := by
  obtain ⟨m', ps, e, g⟩ := wt_struct Tryz.underlying29 h
  subst e
  have g0 : All2 (WT Tryz.prog S m') [3, 22, 23, 24, 25, 26, 27, 3] ps := g
  obtain ⟨p0, q0, e0, w0, g1⟩ := all2_cons g0
  subst e0
  obtain ⟨x0, r0⟩ := wt_int Tryz.underlying3 w0
  obtain ⟨p1, q1, e1, w1, g2⟩ := all2_cons g1
  subst e1
  obtain ⟨x1, r1⟩ := wtT22 _ _ w1
  obtain ⟨p2, q2, e2, w2, g3⟩ := all2_cons g2
  subst e2
  obtain ⟨x2, r2⟩ := wtT23 _ _ w2
  obtain ⟨p3, q3, e3, w3, g4⟩ := all2_cons g3
  subst e3
  obtain ⟨x3, r3⟩ := wtT24 _ _ w3
  obtain ⟨p4, q4, e4, w4, g5⟩ := all2_cons g4
  subst e4
  obtain ⟨x4, r4⟩ := wtT25 _ _ w4
  obtain ⟨p5, q5, e5, w5, g6⟩ := all2_cons g5
  subst e5
  obtain ⟨x5, r5⟩ := wtT26 _ _ w5
  obtain ⟨p6, q6, e6, w6, g7⟩ := all2_cons g6
  subst e6
  obtain ⟨x6, r6⟩ := wtT27 _ _ w6
  obtain ⟨p7, q7, e7, w7, g8⟩ := all2_cons g7
  subst e7
  obtain ⟨x7, r7⟩ := wt_int Tryz.underlying3 w7
  have e' := all2_nil g8
  subst e'
  exact ⟨⟨x0, x1, x2, x3, x4, x5, x6, x7⟩, rd_append r0 (rd_append r1 (rd_append r2 (rd_append r3 (rd_append r4 (rd_append r5 (rd_append r6 (rd_append r7 (rd_nil))))))))⟩
theorem ev_args (S : Store) (avs : List V) (h : All2 (VT Tryz.prog S 8) Tryz.f3.params.toList avs) : EvA Tryz.prog 3 avs S (fun r _ => r = .v (.s (.bool true))) := by
  have g0 : All2 (VT Tryz.prog S 8) [29, 3] avs := h
  clear h
  obtain ⟨v0, q0, e0, h0, g1⟩ := all2_cons g0
  subst e0
  obtain ⟨cs0, f0, w0⟩ := vt_agg Tryz.underlying29 h0
  subst f0
  obtain ⟨x0, r0⟩ := wtT29 _ _ w0
  obtain ⟨v1, q1, e1, h1, g2⟩ := all2_cons g1
  subst e1
  obtain ⟨c1, f1, w1⟩ := vt_sc Tryz.underlying3 (by intro fs h; cases h) h1
  subst f1
  obtain ⟨x1, r1⟩ := wt_int Tryz.underlying3 w1
  have k1 := rd_c r1
  subst k1
  have e' := all2_nil g2
  subst e'
  exact ev_law x0 _ x1 S r0
set_option maxRecDepth 100000 in
theorem ev_calls (H : Type) (enc : TypeId × Value → H) (W : World) (base : Nat) (args : Array Value) (ds gs : List (DataW H)) (before : List MemPlace)
    (hval : ∀ (j : Nat) t v, Tryz.f3.params[j]? = some t → args[j]? = some v → Value.okWide Tryz.prog W .any base t v)
    (hW : DataW.Whole enc Tryz.prog Tryz.f3.params.toList Rows.fnExactStepRemoveSpec.vars false W args.toList ds gs before) (htab : Tab0 W) :
    Calls Tryz.prog 3 args W fun e W' => ∃ v, e = .returned v ∧ Rows.fnExactStepRemoveSpec.post enc Tryz.prog Tryz.f3 false true false false W args v W' :=
  law_calls (P := Tryz.prog) (f := 3) (fn := Tryz.f3) (s := Rows.fnExactStepRemoveSpec) (m := 8) laidOut (by kernel_rfl) (by kernel_rfl) rfl (fun H ds h => by
    have h : ds.length = 2 := h
    match ds, h with
    | [d0, d1], _ => rfl) (tb := 4) rfl Tryz.underlying4 (fun S avs _ h => ev_args S avs h) hval hW htab
set_option maxRecDepth 100000 in
theorem ev_lifted (os : Os) (started : os.Started) (H : Type) (enc : TypeId × Value → H) :
    ReturnsInHanded {} Tryz.checked os 3 .any (Rows.fnExactStepRemoveSpec.pre6 enc Tryz.prog Tryz.f3 Rows.fnExactStepRemoveRow.domain false) (Rows.fnExactStepRemoveSpec.post enc Tryz.prog Tryz.f3 false true false false) :=
  returnsInHanded_of_change (C := Tryz.checked) own started (by kernel_rfl) Tryz.func3
    (ChangeSpec.witness6 (enc := enc) (C := Tryz.checked) false ⟨#[], #[.agg #[.int .i64 0, .slice none 0 0, .slice none 0 0, .slice none 0 0, .slice none 0 0, .slice none 0 0, .slice none 0 0, .int .i64 0], .int .i64 0], []⟩ 8 (by kernel_rfl) (by kernel_rfl) (by kernel_rfl) (by kernel_rfl))
    (fun W base args ds gs before hval hW _ _ => ev_calls H enc W base args ds gs before hval hW (fun _ _ h => by cases h))
set_option maxRecDepth 100000 in
set_option maxHeartbeats 4000000 in
theorem closed : joinedFacts Tryz.prog 3 Tryz.f3 Rows.fnExactStepRemoveSpec Rows.fnExactStepRemoveRow = true := by
  unfold joinedFacts
  iterate 31 refine Bool.and_eq_true_iff.2 ⟨?_, by as_aux_lemma => kernel_rfl⟩
  as_aux_lemma => kernel_rfl
theorem fnExactStepRemove_holds : Rows.FnExactStepRemoveSaid :=
  OpenClaim.holds_of_wide 3 Tryz.f3 rfl rfl rfl rfl rfl rfl rfl ⟨rfl, rfl, rfl, rfl, rfl⟩ rfl rfl rfl rfl rfl (by kernel_rfl) Tryz.func3 closed
    (of_decide_eq_true (by kernel_rfl)) (by unfold Func.isWrapper; first | (rw [if_pos (by decide +kernel)]; kernel_rfl) | (rw [if_neg (by decide +kernel)]; exact ⟨rfl, rfl⟩))
    (fun os started H enc _ => ev_lifted os started H enc)
end Go.Proofs.YtibglkkmjigooaaGreat
