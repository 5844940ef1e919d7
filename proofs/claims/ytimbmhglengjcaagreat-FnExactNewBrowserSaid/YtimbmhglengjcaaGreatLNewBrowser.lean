/- FnExactNewBrowser returns true for every argument, and its arguments read as before. No condition. -/
import Derived.Test.YtimbmhglengjcaaGreatFnCt
import Derived.Test.YtimbmhglengjcaaGreatFnCm
import Derived.Test.YtimbmhglengjcaaGreatFnCh
import Derived.Test.YtimbmhglengjcaaGreatFnZb
import Derived.Test.YtimbmhglengjcaaGreatAeN
namespace Go.Proofs.YtimbmhglengjcaaGreat
open Go Go.ChangeShapes Go.WideShapes Go.ChangeAt Go.RowKit
set_option linter.unusedVariables false
set_option maxRecDepth 100000

theorem bne_self' (x : Bool) : (!(x == x)) = false := by cases x <;> rfl
set_option maxHeartbeats 8000000 in
/-- the law -/
theorem ev_law (x0 : Int) (x1 : List GTab) (c1 : C) (S : Store) (h1 : Rd S [.sl 6 (x1.map GTab.d)] [c1]) : EvA Tryz.prog 6 [.s (.int .i64 x0), .s c1] S (fun r _ => r = .v (.s (.bool true))) := by
  refine evA_intro tok Tryz.func6 (by kernel_rfl) rfl ?_
  have a1 := h1.be
  repeat' ((conv => whnf) <;> first
   | refine condP_szR (by omega) (fun _ _ => ?_) (fun _ _ => ?_)
   | refine condP_false (bne_self' _) ?_
   | refine condP_dec (fun _ => ?_) (fun _ => ?_)
   | refine condP_ndec (fun _ => ?_) (fun _ => ?_)
   | refine condP_true rfl ?_
   | refine condP_false rfl ?_
   | refine condP_not (fun _ => ?_) (fun _ => ?_)
   | refine condP_intro (fun _ => ?_) (fun _ => ?_)
   | refine callP_eq (ev_eqBrowser _ _ _ _ rdcB rdcB) ?_
   | refine callP_eq (ev_szTabS _ _ _ _ (by assumption) (by omega)) ?_
   | refine callP_eq (ev_eqTabS _ _ _ _ (by assumption) (by assumption)) ?_
   | (refine callP_eq (ev_heldBrowser _ _ _ _ (by assumption) (by omega)) ?_)
   | refine needP_intro (by first | omega | (constructor <;> omega)) ?_
   | refine And.intro ?_ ?_)
  all_goals try first | rfl | (exfalso; omega)
  first
    | (refine callP_intro (ev_toTabS _ _ _ (by assumption) (by (first | omega | exact sz_at hz (by omega) | (simp only [szL]; omega)))) ?_; rintro _ Sn ⟨hEn, cn, rfl, hFn⟩)
  have e1 := hEn
  have le1 := e1.len
  replace a1 := a1.ext e1
  have t1 := hFn.inn
  clear hEn hFn
  clear e1
  have r_a1 := a1.rd
  have r_t1 := t1.rd
  repeat' ((conv => whnf) <;> first
   | refine condP_szR (by omega) (fun _ _ => ?_) (fun _ _ => ?_)
   | refine condP_false (bne_self' _) ?_
   | refine condP_dec (fun _ => ?_) (fun _ => ?_)
   | refine condP_ndec (fun _ => ?_) (fun _ => ?_)
   | refine condP_true rfl ?_
   | refine condP_false rfl ?_
   | refine condP_not (fun _ => ?_) (fun _ => ?_)
   | refine condP_intro (fun _ => ?_) (fun _ => ?_)
   | refine callP_eq (ev_eqBrowser _ _ _ _ rdcB rdcB) ?_
   | refine callP_eq (ev_szTabS _ _ _ _ (by assumption) (by omega)) ?_
   | refine callP_eq (ev_eqTabS _ _ _ _ (by assumption) (by assumption)) ?_
   | (refine callP_eq (ev_heldBrowser _ _ _ _ (by assumption) (by omega)) ?_)
   | refine needP_intro (by first | omega | (constructor <;> omega)) ?_
   | refine And.intro ?_ ?_)
  all_goals try first | rfl | (exfalso; omega)
  first
    | (refine callP_intro (ev_sNewBrowser _ _ _ _ (by assumption) (by first | omega | (simp only [szL, List.length_map] at *; omega))) ?_; rintro _ Sn ⟨hEn, _, _, _, _, _, _, rfl, hFn⟩)
  have e2 := hEn
  have le2 := e2.len
  replace a1 := a1.ext e2
  replace t1 := t1.ext e2
  have w := hFn.inn
  clear hEn hFn
  clear e2
  clear r_a1 r_t1
  have r_a1 := a1.rd
  have r_w := w.rd
  repeat' ((conv => whnf) <;> first
   | refine condP_szR (by omega) (fun _ _ => ?_) (fun _ _ => ?_)
   | refine condP_false (bne_self' _) ?_
   | refine condP_dec (fun _ => ?_) (fun _ => ?_)
   | refine condP_ndec (fun _ => ?_) (fun _ => ?_)
   | refine condP_true rfl ?_
   | refine condP_false rfl ?_
   | refine condP_not (fun _ => ?_) (fun _ => ?_)
   | refine condP_intro (fun _ => ?_) (fun _ => ?_)
   | refine callP_eq (ev_eqBrowser _ _ _ _ rdcB rdcB) ?_
   | refine callP_eq (ev_szTabS _ _ _ _ (by assumption) (by omega)) ?_
   | refine callP_eq (ev_eqTabS _ _ _ _ (by assumption) (by assumption)) ?_
   | (refine callP_eq (ev_heldBrowser _ _ _ _ (by assumption) (by omega)) ?_)
   | refine needP_intro (by first | omega | (constructor <;> omega)) ?_
   | refine And.intro ?_ ?_)
  all_goals try first | rfl | (exfalso; omega)
  first
    | (refine callP_intro (ev_toTabS _ _ _ (by assumption) (by (first | omega | exact sz_at hz (by omega) | (simp only [szL]; omega)))) ?_; rintro _ Sn ⟨hEn, cn, rfl, hFn⟩)
  have e3 := hEn
  have le3 := e3.len
  replace a1 := a1.ext e3
  replace w := w.ext e3
  have x1' := hFn.inn
  clear hEn hFn
  clear e3
  clear r_a1 r_w
  have r_a1 := a1.rd
  have r_w := w.rd
  have r_x1' := x1'.rd
  repeat' ((conv => whnf) <;> first
   | refine condP_szR (by omega) (fun _ _ => ?_) (fun _ _ => ?_)
   | refine condP_false (bne_self' _) ?_
   | refine condP_dec (fun _ => ?_) (fun _ => ?_)
   | refine condP_ndec (fun _ => ?_) (fun _ => ?_)
   | refine condP_true rfl ?_
   | refine condP_false rfl ?_
   | refine condP_not (fun _ => ?_) (fun _ => ?_)
   | refine condP_intro (fun _ => ?_) (fun _ => ?_)
   | refine callP_eq (ev_eqBrowser _ _ _ _ rdcB rdcB) ?_
   | refine callP_eq (ev_szTabS _ _ _ _ (by assumption) (by omega)) ?_
   | refine callP_eq (ev_eqTabS _ _ _ _ (by assumption) (by assumption)) ?_
   | (refine callP_eq (ev_heldBrowser _ _ _ _ (by assumption) (by omega)) ?_)
   | refine needP_intro (by first | omega | (constructor <;> omega)) ?_
   | refine And.intro ?_ ?_)
  all_goals try first | rfl | (exfalso; omega)
  first
    | (refine callP_intro (ev_iNewBrowser _ _ _ _ (by assumption) (by first | omega | (simp only [szL, List.length_map] at *; omega))) ?_; rintro _ Sn ⟨hEn, _, _, _, _, _, _, rfl, hFn⟩)
  have e4 := hEn
  have le4 := e4.len
  replace a1 := a1.ext e4
  replace w := w.ext e4
  replace x1' := x1'.ext e4
  have g := hFn.inn
  clear hEn hFn
  clear e4
  clear r_a1 r_w r_x1'
  have r_a1 := a1.rd
  have r_w := w.rd
  have r_x1' := x1'.rd
  have r_g := g.rd
  repeat' ((conv => whnf) <;> first
   | refine condP_szR (by omega) (fun _ _ => ?_) (fun _ _ => ?_)
   | refine condP_false (bne_self' _) ?_
   | refine condP_dec (fun _ => ?_) (fun _ => ?_)
   | refine condP_ndec (fun _ => ?_) (fun _ => ?_)
   | refine condP_true rfl ?_
   | refine condP_false rfl ?_
   | refine condP_not (fun _ => ?_) (fun _ => ?_)
   | refine condP_intro (fun _ => ?_) (fun _ => ?_)
   | refine callP_eq (ev_eqBrowser _ _ _ _ rdcB rdcB) ?_
   | refine callP_eq (ev_szTabS _ _ _ _ (by assumption) (by omega)) ?_
   | refine callP_eq (ev_eqTabS _ _ _ _ (by assumption) (by assumption)) ?_
   | (refine callP_eq (ev_heldBrowser _ _ _ _ (by assumption) (by omega)) ?_)
   | refine needP_intro (by first | omega | (constructor <;> omega)) ?_
   | refine And.intro ?_ ?_)
  all_goals try first | rfl | (exfalso; omega)
  first
    | (refine callP_intro (ev_toTabS _ _ _ (by assumption) (by (first | omega | exact sz_at hz (by omega) | (simp only [szL]; omega)))) ?_; rintro _ Sn ⟨hEn, cn, rfl, hFn⟩)
  have e5 := hEn
  have le5 := e5.len
  replace a1 := a1.ext e5
  replace w := w.ext e5
  replace x1' := x1'.ext e5
  replace g := g.ext e5
  have t5 := hFn.inn
  clear hEn hFn
  clear e5
  clear r_a1 r_w r_x1' r_g
  have r_a1 := a1.rd
  have r_w := w.rd
  have r_x1' := x1'.rd
  have r_g := g.rd
  have r_t5 := t5.rd
  have hB1 : (cntE (x1.map GTab.d) : Int) ≤ 33554432 := by have := cntE_bd (f := GTab.d) GTab.cntb x1; simp only [szL, List.length_map] at *; omega
  repeat' ((conv => whnf) <;> first
   | refine condP_szR (by omega) (fun _ _ => ?_) (fun _ _ => ?_)
   | refine condP_false (bne_self' _) ?_
   | refine condP_dec (fun _ => ?_) (fun _ => ?_)
   | refine condP_ndec (fun _ => ?_) (fun _ => ?_)
   | refine condP_true rfl ?_
   | refine condP_false rfl ?_
   | refine condP_not (fun _ => ?_) (fun _ => ?_)
   | refine condP_intro (fun _ => ?_) (fun _ => ?_)
   | refine callP_eq (ev_eqBrowser _ _ _ _ rdcB rdcB) ?_
   | refine callP_eq (ev_szTabS _ _ _ _ (by assumption) (by omega)) ?_
   | refine callP_eq (ev_eqTabS _ _ _ _ (by assumption) (by assumption)) ?_
   | (refine callP_eq (ev_heldBrowser _ _ _ _ (by assumption) (by omega)) ?_)
   | refine needP_intro (by first | omega | (constructor <;> omega)) ?_
   | refine And.intro ?_ ?_)
  all_goals try first | rfl | (exfalso; omega)
  obtain ⟨ids6, hR6, hn6, hb6⟩ := x1'.one
  refine callP_intro (ev_markTabS _ _ _ _ _ hR6 hn6 (by omega)) ?_; rintro _ S6 ⟨rfl, hM6, hK6⟩
  have o6 := hM6.out hb6
  have le6 := o6.len
  replace a1 := a1.out o6 (by omega)
  replace w := w.out o6 (by omega)
  replace g := g.out o6 (by omega)
  clear r_a1 r_w r_x1' r_g r_t5
  have r_a1 := a1.rd
  have r_w := w.rd
  have r_g := g.rd
  repeat' ((conv => whnf) <;> first
   | refine condP_szR (by omega) (fun _ _ => ?_) (fun _ _ => ?_)
   | refine condP_false (bne_self' _) ?_
   | refine condP_dec (fun _ => ?_) (fun _ => ?_)
   | refine condP_ndec (fun _ => ?_) (fun _ => ?_)
   | refine condP_true rfl ?_
   | refine condP_false rfl ?_
   | refine condP_not (fun _ => ?_) (fun _ => ?_)
   | refine condP_intro (fun _ => ?_) (fun _ => ?_)
   | refine callP_eq (ev_eqBrowser _ _ _ _ rdcB rdcB) ?_
   | refine callP_eq (ev_szTabS _ _ _ _ (by assumption) (by omega)) ?_
   | refine callP_eq (ev_eqTabS _ _ _ _ (by assumption) (by assumption)) ?_
   | (refine callP_eq (ev_heldBrowser _ _ _ _ (by assumption) (by omega)) ?_)
   | refine needP_intro (by first | omega | (constructor <;> omega)) ?_
   | refine And.intro ?_ ?_)
  all_goals try first | rfl | (exfalso; omega)
  obtain ⟨ids7, hR7, hn7, hb7⟩ := g
  have hB : (0 : Int) ≤ 1 ∧ (1 : Int) + (cntT ((newBrowser x0 x1).1).d : Int) ≤ 4611686018427387904 := by have h1 := GBrowser.cntTb (newBrowser x0 x1).1; have h2 := newBr_sz x0 x1; simp only [szL, List.length_map] at *; omega
  refine callP_intro (ev_markBrowser _ _ _ _ _ hR7 hn7 (by omega)) ?_; rintro _ S7 ⟨rfl, hM7, hK7⟩
  have o7 := hM7.out hb7
  have le7 := o7.len
  replace a1 := a1.out o7 (by omega)
  replace w := w.out o7 (by omega)
  have g := (Rd.of hK7).be
  clear r_a1 r_w r_g
  have r_a1 := a1.rd
  have r_w := w.rd
  have r_g := g.rd
  repeat' ((conv => whnf) <;> first
   | refine condP_szR (by omega) (fun _ _ => ?_) (fun _ _ => ?_)
   | refine condP_false (bne_self' _) ?_
   | refine condP_dec (fun _ => ?_) (fun _ => ?_)
   | refine condP_ndec (fun _ => ?_) (fun _ => ?_)
   | refine condP_true rfl ?_
   | refine condP_false rfl ?_
   | refine condP_not (fun _ => ?_) (fun _ => ?_)
   | refine condP_intro (fun _ => ?_) (fun _ => ?_)
   | refine callP_eq (ev_eqBrowser _ _ _ _ rdcB rdcB) ?_
   | refine callP_eq (ev_szTabS _ _ _ _ (by assumption) (by omega)) ?_
   | refine callP_eq (ev_eqTabS _ _ _ _ (by assumption) (by assumption)) ?_
   | (refine callP_eq (ev_heldBrowser _ _ _ _ (by assumption) (by omega)) ?_)
   | refine needP_intro (by first | omega | (constructor <;> omega)) ?_
   | refine And.intro ?_ ?_)
  all_goals try first | rfl | (exfalso; omega)
  first
    | (refine callP_intro (ev_toTabS _ _ _ (by assumption) (by (first | omega | exact sz_at hz (by omega) | (simp only [szL]; omega)))) ?_; rintro _ Sn ⟨hEn, cn, rfl, hFn⟩)
  have e8 := hEn
  have le8 := e8.len
  replace a1 := a1.ext e8
  replace w := w.ext e8
  replace g := g.ext e8
  have t8 := hFn.inn
  clear hEn hFn
  clear e8
  clear r_a1 r_w r_g
  have r_a1 := a1.rd
  have r_w := w.rd
  have r_g := g.rd
  have r_t8 := t8.rd
  repeat' ((conv => whnf) <;> first
   | refine condP_szR (by omega) (fun _ _ => ?_) (fun _ _ => ?_)
   | refine condP_false (bne_self' _) ?_
   | refine condP_dec (fun _ => ?_) (fun _ => ?_)
   | refine condP_ndec (fun _ => ?_) (fun _ => ?_)
   | refine condP_true rfl ?_
   | refine condP_false rfl ?_
   | refine condP_not (fun _ => ?_) (fun _ => ?_)
   | refine condP_intro (fun _ => ?_) (fun _ => ?_)
   | refine callP_eq (ev_eqBrowser _ _ _ _ rdcB rdcB) ?_
   | refine callP_eq (ev_szTabS _ _ _ _ (by assumption) (by omega)) ?_
   | refine callP_eq (ev_eqTabS _ _ _ _ (by assumption) (by assumption)) ?_
   | (refine callP_eq (ev_heldBrowser _ _ _ _ (by assumption) (by omega)) ?_)
   | refine needP_intro (by first | omega | (constructor <;> omega)) ?_
   | refine And.intro ?_ ?_)
  all_goals try first | rfl | (exfalso; omega)
  first
    | (refine callP_intro (ev_iNewBrowser _ _ _ _ (by assumption) (by first | omega | (simp only [szL, List.length_map] at *; omega))) ?_; rintro _ Sn ⟨hEn, _, _, _, _, _, _, rfl, hFn⟩)
  have e9 := hEn
  have le9 := e9.len
  replace a1 := a1.ext e9
  replace w := w.ext e9
  replace g := g.ext e9
  replace t8 := t8.ext e9
  have h := hFn.inn
  clear hEn hFn
  clear e9
  clear r_a1 r_w r_g r_t8
  have r_a1 := a1.rd
  have r_w := w.rd
  have r_g := g.rd
  have r_h := h.rd
  repeat' ((conv => whnf) <;> first
   | refine condP_szR (by omega) (fun _ _ => ?_) (fun _ _ => ?_)
   | refine condP_false (bne_self' _) ?_
   | refine condP_dec (fun _ => ?_) (fun _ => ?_)
   | refine condP_ndec (fun _ => ?_) (fun _ => ?_)
   | refine condP_true rfl ?_
   | refine condP_false rfl ?_
   | refine condP_not (fun _ => ?_) (fun _ => ?_)
   | refine condP_intro (fun _ => ?_) (fun _ => ?_)
   | refine callP_eq (ev_eqBrowser _ _ _ _ rdcB rdcB) ?_
   | refine callP_eq (ev_szTabS _ _ _ _ (by assumption) (by omega)) ?_
   | refine callP_eq (ev_eqTabS _ _ _ _ (by assumption) (by assumption)) ?_
   | (refine callP_eq (ev_heldBrowser _ _ _ _ (by assumption) (by omega)) ?_)
   | refine needP_intro (by first | omega | (constructor <;> omega)) ?_
   | refine And.intro ?_ ?_)
  all_goals try first | rfl | (exfalso; omega)

theorem wtT118 {S : Store} (m : Nat) (cs : List C) (h : WT Tryz.prog S m 118 cs) : ∃ x : GSite, Rd S x.d cs := by
  obtain ⟨m', ps, e, g⟩ := wt_struct Tryz.underlying118 h
  subst e
  have g0 : All2 (WT Tryz.prog S m') [3, 3] ps := g
  obtain ⟨p0, q0, e0, w0, g1⟩ := all2_cons g0
  subst e0
  obtain ⟨x0, r0⟩ := wt_int Tryz.underlying3 w0
  obtain ⟨p1, q1, e1, w1, g2⟩ := all2_cons g1
  subst e1
  obtain ⟨x1, r1⟩ := wt_int Tryz.underlying3 w1
  have e' := all2_nil g2
  subst e'
  exact ⟨⟨x0, x1⟩, rd_append r0 (rd_append r1 (rd_nil))⟩
theorem wtT216 {S : Store} (m : Nat) (cs : List C) (h : WT Tryz.prog S m 216 cs) : ∃ x : GNode, Rd S x.d cs := by
  obtain ⟨m', ps, e, g⟩ := wt_struct Tryz.underlying216 h
  subst e
  have g0 : All2 (WT Tryz.prog S m') [3, 3, 3, 3, 3] ps := g
  obtain ⟨p0, q0, e0, w0, g1⟩ := all2_cons g0
  subst e0
  obtain ⟨x0, r0⟩ := wt_int Tryz.underlying3 w0
  obtain ⟨p1, q1, e1, w1, g2⟩ := all2_cons g1
  subst e1
  obtain ⟨x1, r1⟩ := wt_int Tryz.underlying3 w1
  obtain ⟨p2, q2, e2, w2, g3⟩ := all2_cons g2
  subst e2
  obtain ⟨x2, r2⟩ := wt_int Tryz.underlying3 w2
  obtain ⟨p3, q3, e3, w3, g4⟩ := all2_cons g3
  subst e3
  obtain ⟨x3, r3⟩ := wt_int Tryz.underlying3 w3
  obtain ⟨p4, q4, e4, w4, g5⟩ := all2_cons g4
  subst e4
  obtain ⟨x4, r4⟩ := wt_int Tryz.underlying3 w4
  have e' := all2_nil g5
  subst e'
  exact ⟨⟨x0, x1, x2, x3, x4⟩, rd_append r0 (rd_append r1 (rd_append r2 (rd_append r3 (rd_append r4 (rd_nil)))))⟩
theorem wtT119 {S : Store} (m : Nat) (cs : List C) (h : WT Tryz.prog S m 119 cs) : ∃ l : List GNode, Rd S [.sl 5 (l.map GNode.d)] cs :=
  wt_slice Tryz.underlying119 (by kernel_rfl) (fun m cs h => wtT216 m cs h) h
theorem wtT218 {S : Store} (m : Nat) (cs : List C) (h : WT Tryz.prog S m 218 cs) : ∃ x : GEdit, Rd S x.d cs := by
  obtain ⟨m', ps, e, g⟩ := wt_struct Tryz.underlying218 h
  subst e
  have g0 : All2 (WT Tryz.prog S m') [3, 3, 3, 3, 3, 3] ps := g
  obtain ⟨p0, q0, e0, w0, g1⟩ := all2_cons g0
  subst e0
  obtain ⟨x0, r0⟩ := wt_int Tryz.underlying3 w0
  obtain ⟨p1, q1, e1, w1, g2⟩ := all2_cons g1
  subst e1
  obtain ⟨x1, r1⟩ := wt_int Tryz.underlying3 w1
  obtain ⟨p2, q2, e2, w2, g3⟩ := all2_cons g2
  subst e2
  obtain ⟨x2, r2⟩ := wt_int Tryz.underlying3 w2
  obtain ⟨p3, q3, e3, w3, g4⟩ := all2_cons g3
  subst e3
  obtain ⟨x3, r3⟩ := wt_int Tryz.underlying3 w3
  obtain ⟨p4, q4, e4, w4, g5⟩ := all2_cons g4
  subst e4
  obtain ⟨x4, r4⟩ := wt_int Tryz.underlying3 w4
  obtain ⟨p5, q5, e5, w5, g6⟩ := all2_cons g5
  subst e5
  obtain ⟨x5, r5⟩ := wt_int Tryz.underlying3 w5
  have e' := all2_nil g6
  subst e'
  exact ⟨⟨x0, x1, x2, x3, x4, x5⟩, rd_append r0 (rd_append r1 (rd_append r2 (rd_append r3 (rd_append r4 (rd_append r5 (rd_nil))))))⟩
theorem wtT120 {S : Store} (m : Nat) (cs : List C) (h : WT Tryz.prog S m 120 cs) : ∃ l : List GEdit, Rd S [.sl 6 (l.map GEdit.d)] cs :=
  wt_slice Tryz.underlying120 (by kernel_rfl) (fun m cs h => wtT218 m cs h) h
theorem wtT43 {S : Store} (m : Nat) (cs : List C) (h : WT Tryz.prog S m 43 cs) : ∃ l : List Int, Rd S [.sl 1 (l.map dInt)] cs :=
  wt_slice Tryz.underlying43 (by kernel_rfl) (fun m cs h => wt_int Tryz.underlying3 h) h
theorem wtT122 {S : Store} (m : Nat) (cs : List C) (h : WT Tryz.prog S m 122 cs) : ∃ x : GTab, Rd S x.d cs := by
  obtain ⟨m', ps, e, g⟩ := wt_struct Tryz.underlying122 h
  subst e
  have g0 : All2 (WT Tryz.prog S m') [118, 119, 120, 43, 3] ps := g
  obtain ⟨p0, q0, e0, w0, g1⟩ := all2_cons g0
  subst e0
  obtain ⟨x0, r0⟩ := wtT118 _ _ w0
  obtain ⟨p1, q1, e1, w1, g2⟩ := all2_cons g1
  subst e1
  obtain ⟨x1, r1⟩ := wtT119 _ _ w1
  obtain ⟨p2, q2, e2, w2, g3⟩ := all2_cons g2
  subst e2
  obtain ⟨x2, r2⟩ := wtT120 _ _ w2
  obtain ⟨p3, q3, e3, w3, g4⟩ := all2_cons g3
  subst e3
  obtain ⟨x3, r3⟩ := wtT43 _ _ w3
  obtain ⟨p4, q4, e4, w4, g5⟩ := all2_cons g4
  subst e4
  obtain ⟨x4, r4⟩ := wt_int Tryz.underlying3 w4
  have e' := all2_nil g5
  subst e'
  exact ⟨⟨x0, x1, x2, x3, x4⟩, rd_append r0 (rd_append r1 (rd_append r2 (rd_append r3 (rd_append r4 (rd_nil)))))⟩
theorem wtT22 {S : Store} (m : Nat) (cs : List C) (h : WT Tryz.prog S m 22 cs) : ∃ l : List GTab, Rd S [.sl 6 (l.map GTab.d)] cs :=
  wt_slice Tryz.underlying22 (by kernel_rfl) (fun m cs h => wtT122 m cs h) h
theorem ev_args (S : Store) (avs : List V) (h : All2 (VT Tryz.prog S 8) Tryz.f6.params.toList avs) : EvA Tryz.prog 6 avs S (fun r _ => r = .v (.s (.bool true))) := by
  have g0 : All2 (VT Tryz.prog S 8) [3, 22] avs := h
  clear h
  obtain ⟨v0, q0, e0, h0, g1⟩ := all2_cons g0
  subst e0
  obtain ⟨c0, f0, w0⟩ := vt_sc Tryz.underlying3 (by intro fs h; cases h) h0
  subst f0
  obtain ⟨x0, r0⟩ := wt_int Tryz.underlying3 w0
  have k0 := rd_c r0
  subst k0
  obtain ⟨v1, q1, e1, h1, g2⟩ := all2_cons g1
  subst e1
  obtain ⟨c1, f1, w1⟩ := vt_sc Tryz.underlying22 (by intro fs h; cases h) h1
  subst f1
  obtain ⟨x1, r1⟩ := wtT22 _ _ w1
  have e' := all2_nil g2
  subst e'
  exact ev_law x0 x1 _ S r1

set_option maxRecDepth 100000 in
theorem ev_calls (H : Type) (enc : TypeId × Value → H) (W : World) (base : Nat) (args : Array Value) (ds gs : List (DataW H)) (before : List MemPlace)
    (hval : ∀ (j : Nat) t v, Tryz.f6.params[j]? = some t → args[j]? = some v → Value.okWide Tryz.prog W .any base t v)
    (hW : DataW.Whole enc Tryz.prog Tryz.f6.params.toList Rows.fnExactNewBrowserSpec.vars false W args.toList ds gs before) :
    Calls Tryz.prog 6 args W fun e W' => ∃ v, e = .returned v ∧ Rows.fnExactNewBrowserSpec.post enc Tryz.prog Tryz.f6 false true false false W args v W' :=
  law_calls (P := Tryz.prog) (f := 6) (fn := Tryz.f6) (s := Rows.fnExactNewBrowserSpec) (m := 8) laidOut (by kernel_rfl) (by kernel_rfl) rfl (fun H ds h => by
    have h : ds.length = 2 := h
    match ds, h with
    | [d0, d1], _ => rfl) (tb := 4) rfl Tryz.underlying4 (fun S avs _ h => ev_args S avs h) hval hW

set_option maxRecDepth 100000 in
theorem ev_lifted (os : Os) (started : os.Started) (H : Type) (enc : TypeId × Value → H) :
    ReturnsInHanded {} Tryz.checked os 6 .any (Rows.fnExactNewBrowserSpec.pre6 enc Tryz.prog Tryz.f6 Rows.fnExactNewBrowserRow.domain false) (Rows.fnExactNewBrowserSpec.post enc Tryz.prog Tryz.f6 false true false false) :=
  returnsInHanded_of_change (C := Tryz.checked) own started (by kernel_rfl) Tryz.func6
    (ChangeSpec.witness6 (enc := enc) (C := Tryz.checked) false ⟨#[], #[.int .i64 0, .slice none 0 0], []⟩ 8 (by kernel_rfl) (by kernel_rfl) (by kernel_rfl) (by kernel_rfl))
    (fun W base args ds gs before hval hW _ _ => ev_calls H enc W base args ds gs before hval hW)

theorem fnExactNewBrowser_holds : Rows.FnExactNewBrowserSaid :=
  OpenClaim.holds_of_wide 6 Tryz.f6 rfl rfl rfl rfl rfl rfl rfl ⟨rfl, rfl, rfl, rfl, rfl⟩ rfl rfl rfl rfl rfl (by kernel_rfl) Tryz.func6 (by kernel_rfl)
    (of_decide_eq_true (by kernel_rfl)) (by unfold Func.isWrapper; first | (rw [if_pos (by decide +kernel)]; kernel_rfl) | (rw [if_neg (by decide +kernel)]; exact ⟨rfl, rfl⟩))
    (fun os started H enc _ => ev_lifted os started H enc)
end Go.Proofs.YtimbmhglengjcaaGreat
