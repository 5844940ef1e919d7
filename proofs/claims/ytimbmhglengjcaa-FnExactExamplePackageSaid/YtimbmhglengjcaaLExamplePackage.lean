/- FnExactExamplePackage returns true for every argument, and its arguments read as before. No condition. -/
import Derived.Test.YtimbmhglengjcaaFnCt
import Derived.Test.YtimbmhglengjcaaFnCm
import Derived.Test.YtimbmhglengjcaaFnCh
import Derived.Test.YtimbmhglengjcaaFnZe
import Derived.Test.YtimbmhglengjcaaAeN
namespace Go.Proofs.Ytimbmhglengjcaa
open Go Go.ChangeShapes Go.WideShapes Go.ChangeAt Go.RowKit
set_option linter.unusedVariables false
set_option maxRecDepth 100000

theorem bne_self' (x : Bool) : (!(x == x)) = false := by cases x <;> rfl
set_option maxHeartbeats 8000000 in
/-- the law -/
theorem ev_law (x0 : Int) (S : Store)  : EvA Try.prog 3 [.s (.int .i64 x0)] S (fun r _ => r = .v (.s (.bool true))) := by
  refine evA_intro tok Try.func3 (by kernel_rfl) rfl ?_
  repeat' ((conv => whnf) <;> first
   | refine condP_false (bne_self' _) ?_
   | refine condP_dec (fun _ => ?_) (fun _ => ?_)
   | refine condP_ndec (fun _ => ?_) (fun _ => ?_)
   | refine condP_true rfl ?_
   | refine condP_false rfl ?_
   | refine condP_not (fun _ => ?_) (fun _ => ?_)
   | refine condP_intro (fun _ => ?_) (fun _ => ?_)
   | refine callP_eq (ev_eqPackage _ _ _ _ rdcB rdcB) ?_
   | (refine callP_eq (ev_heldPackage _ _ _ _ (by assumption) (by omega)) ?_)
   | refine needP_intro (by first | omega | (constructor <;> omega)) ?_
   | refine And.intro ?_ ?_)
  all_goals try first | rfl | (exfalso; omega)
  first
    | (refine callP_intro (ev_sExamplePackage _ _) ?_; rintro _ Sn ⟨hEn, _, _, _, _, rfl, hFn⟩)
  have e1 := hEn
  have le1 := e1.len
  have w := hFn.inn
  clear hEn hFn
  clear e1
  have r_w := w.rd
  repeat' ((conv => whnf) <;> first
   | refine condP_false (bne_self' _) ?_
   | refine condP_dec (fun _ => ?_) (fun _ => ?_)
   | refine condP_ndec (fun _ => ?_) (fun _ => ?_)
   | refine condP_true rfl ?_
   | refine condP_false rfl ?_
   | refine condP_not (fun _ => ?_) (fun _ => ?_)
   | refine condP_intro (fun _ => ?_) (fun _ => ?_)
   | refine callP_eq (ev_eqPackage _ _ _ _ rdcB rdcB) ?_
   | (refine callP_eq (ev_heldPackage _ _ _ _ (by assumption) (by omega)) ?_)
   | refine needP_intro (by first | omega | (constructor <;> omega)) ?_
   | refine And.intro ?_ ?_)
  all_goals try first | rfl | (exfalso; omega)
  first
    | (refine callP_intro (ev_iExamplePackage _ _) ?_; rintro _ Sn ⟨hEn, _, _, _, _, rfl, hFn⟩)
  have e2 := hEn
  have le2 := e2.len
  replace w := w.ext e2
  have g := hFn.inn
  clear hEn hFn
  clear e2
  clear r_w
  have r_w := w.rd
  have r_g := g.rd
  repeat' ((conv => whnf) <;> first
   | refine condP_false (bne_self' _) ?_
   | refine condP_dec (fun _ => ?_) (fun _ => ?_)
   | refine condP_ndec (fun _ => ?_) (fun _ => ?_)
   | refine condP_true rfl ?_
   | refine condP_false rfl ?_
   | refine condP_not (fun _ => ?_) (fun _ => ?_)
   | refine condP_intro (fun _ => ?_) (fun _ => ?_)
   | refine callP_eq (ev_eqPackage _ _ _ _ rdcB rdcB) ?_
   | (refine callP_eq (ev_heldPackage _ _ _ _ (by assumption) (by omega)) ?_)
   | refine needP_intro (by first | omega | (constructor <;> omega)) ?_
   | refine And.intro ?_ ?_)
  all_goals try first | rfl | (exfalso; omega)
  obtain ⟨ids3, hR3, hn3, hb3⟩ := g
  have hB : (0 : Int) ≤ 1 ∧ (1 : Int) + (cntT (exPack x0 1 50).d : Int) ≤ 4611686018427387904 := by have h1 := GPackage.cntTb (exPack x0 1 50); have h2 := exPack_sz x0 1 50; omega
  refine callP_intro (ev_markPackage _ _ _ _ _ hR3 hn3 (by omega)) ?_; rintro _ S3 ⟨rfl, hM3, hK3⟩
  have o3 := hM3.out hb3
  have le3 := o3.len
  replace w := w.out o3 (by omega)
  have g := (Rd.of hK3).be
  clear r_w r_g
  have r_w := w.rd
  have r_g := g.rd
  repeat' ((conv => whnf) <;> first
   | refine condP_false (bne_self' _) ?_
   | refine condP_dec (fun _ => ?_) (fun _ => ?_)
   | refine condP_ndec (fun _ => ?_) (fun _ => ?_)
   | refine condP_true rfl ?_
   | refine condP_false rfl ?_
   | refine condP_not (fun _ => ?_) (fun _ => ?_)
   | refine condP_intro (fun _ => ?_) (fun _ => ?_)
   | refine callP_eq (ev_eqPackage _ _ _ _ rdcB rdcB) ?_
   | (refine callP_eq (ev_heldPackage _ _ _ _ (by assumption) (by omega)) ?_)
   | refine needP_intro (by first | omega | (constructor <;> omega)) ?_
   | refine And.intro ?_ ?_)
  all_goals try first | rfl | (exfalso; omega)
  first
    | (refine callP_intro (ev_iExamplePackage _ _) ?_; rintro _ Sn ⟨hEn, _, _, _, _, rfl, hFn⟩)
  have e4 := hEn
  have le4 := e4.len
  replace w := w.ext e4
  replace g := g.ext e4
  have h := hFn.inn
  clear hEn hFn
  clear e4
  clear r_w r_g
  have r_w := w.rd
  have r_g := g.rd
  have r_h := h.rd
  repeat' ((conv => whnf) <;> first
   | refine condP_false (bne_self' _) ?_
   | refine condP_dec (fun _ => ?_) (fun _ => ?_)
   | refine condP_ndec (fun _ => ?_) (fun _ => ?_)
   | refine condP_true rfl ?_
   | refine condP_false rfl ?_
   | refine condP_not (fun _ => ?_) (fun _ => ?_)
   | refine condP_intro (fun _ => ?_) (fun _ => ?_)
   | refine callP_eq (ev_eqPackage _ _ _ _ rdcB rdcB) ?_
   | (refine callP_eq (ev_heldPackage _ _ _ _ (by assumption) (by omega)) ?_)
   | refine needP_intro (by first | omega | (constructor <;> omega)) ?_
   | refine And.intro ?_ ?_)
  all_goals try first | rfl | (exfalso; omega)


theorem ev_args (S : Store) (avs : List V) (h : All2 (VT Try.prog S 8) Try.f3.params.toList avs) : EvA Try.prog 3 avs S (fun r _ => r = .v (.s (.bool true))) := by
  have g0 : All2 (VT Try.prog S 8) [3] avs := h
  clear h
  obtain ⟨v0, q0, e0, h0, g1⟩ := all2_cons g0
  subst e0
  obtain ⟨c0, f0, w0⟩ := vt_sc Try.underlying3 (by intro fs h; cases h) h0
  subst f0
  obtain ⟨x0, r0⟩ := wt_int Try.underlying3 w0
  have k0 := rd_c r0
  subst k0
  have e' := all2_nil g1
  subst e'
  exact ev_law x0 S

set_option maxRecDepth 100000 in
theorem ev_calls (H : Type) (enc : TypeId × Value → H) (W : World) (base : Nat) (args : Array Value) (ds gs : List (DataW H)) (before : List MemPlace)
    (hval : ∀ (j : Nat) t v, Try.f3.params[j]? = some t → args[j]? = some v → Value.okWide Try.prog W .any base t v)
    (hW : DataW.Whole enc Try.prog Try.f3.params.toList Rows.fnExactExamplePackageSpec.vars false W args.toList ds gs before) :
    Calls Try.prog 3 args W fun e W' => ∃ v, e = .returned v ∧ Rows.fnExactExamplePackageSpec.post enc Try.prog Try.f3 false true false false W args v W' :=
  law_calls (P := Try.prog) (f := 3) (fn := Try.f3) (s := Rows.fnExactExamplePackageSpec) (m := 8) laidOut (by kernel_rfl) (by kernel_rfl) rfl (fun H ds h => by
    have h : ds.length = 1 := h
    match ds, h with
    | [d0], _ => rfl) (tb := 4) rfl Try.underlying4 (fun S avs _ h => ev_args S avs h) hval hW

set_option maxRecDepth 100000 in
theorem ev_lifted (os : Os) (started : os.Started) (H : Type) (enc : TypeId × Value → H) :
    ReturnsInHanded {} Try.checked os 3 .any (Rows.fnExactExamplePackageSpec.pre6 enc Try.prog Try.f3 Rows.fnExactExamplePackageRow.domain false) (Rows.fnExactExamplePackageSpec.post enc Try.prog Try.f3 false true false false) :=
  returnsInHanded_of_change (C := Try.checked) own started (by kernel_rfl) Try.func3
    (ChangeSpec.witness6 (enc := enc) (C := Try.checked) false ⟨#[], #[.int .i64 0], []⟩ 8 (by kernel_rfl) (by kernel_rfl) (by kernel_rfl) (by kernel_rfl))
    (fun W base args ds gs before hval hW _ _ => ev_calls H enc W base args ds gs before hval hW)

theorem fnExactExamplePackage_holds : Rows.FnExactExamplePackageSaid :=
  OpenClaim.holds_of_wide 3 Try.f3 rfl rfl rfl rfl rfl rfl rfl ⟨rfl, rfl, rfl, rfl, rfl⟩ rfl rfl rfl rfl rfl (by kernel_rfl) Try.func3 (by kernel_rfl)
    (of_decide_eq_true (by kernel_rfl)) (by unfold Func.isWrapper; first | (rw [if_pos (by decide +kernel)]; kernel_rfl) | (rw [if_neg (by decide +kernel)]; exact ⟨rfl, rfl⟩))
    (fun os started H enc _ => ev_lifted os started H enc)
end Go.Proofs.Ytimbmhglengjcaa
