/- FnTop returns true for every argument. No condition. -/
import Derived.Test.YtlmmdpmmdmhacaaGreatKt47
namespace Go.Proofs.YtlmmdpmmdmhacaaGreat
open Go Go.ChangeShapes Go.WideShapes Go.ChangeAt Go.RowKit
set_option linter.unusedVariables false
set_option linter.unusedSimpArgs false
set_option maxRecDepth 100000
theorem z7c (x0 : List Int) (c0 : C) (S : Store) (h0 : Rd S [.sl 1 (x0.map zot)] [c0]) : EvA Tryz.prog 7 [.s c0] S (fun r _ => r = .v (.s (.bool true))) := z47 x0 c0 S h0
theorem z7i {S : Store} (m : Nat) (cs : List C) (h : WT Tryz.prog S m 22 cs) : ∃ l : List Int, Rd S [.sl 1 (l.map zot)] cs :=
 z3k Tryz.underlying22 (by kernel_rfl) (fun m cs h => z7f Tryz.underlying5 h) h
theorem z5s (S : Store) (avs : List V) (h : All2 (VT Tryz.prog S 8) Tryz.f7.params.toList avs) : EvA Tryz.prog 7 avs S (fun r _ => r = .v (.s (.bool true))) := by
 have g0 : All2 (VT Tryz.prog S 8) [22] avs := h
 clear h
 obtain ⟨v0, q0, e0, h0, g1⟩ := zzl g0
 subst e0
 obtain ⟨c0, f0, w0⟩ := z7o Tryz.underlying22 (by intro fs h; cases h) h0
 subst f0
 obtain ⟨x0, r0⟩ := z7i _ _ w0
 have e' := z36 g1
 subst e'
 exact z7c x0 _ S r0
set_option maxRecDepth 100000 in
theorem z2j (H : Type) (enc : TypeId × Value → H) (W : World) (base : Nat) (args : Array Value) (ds gs : List (DataW H)) (zcw : List MemPlace)
 (hval : ∀ (j : Nat) t v, Tryz.f7.params[j]? = some t → args[j]? = some v → Value.okWide Tryz.prog W .any base t v)
 (hW : DataW.Whole enc Tryz.prog Tryz.f7.params.toList Rows.fnTopSpec.vars false W args.toList ds gs zcw) (htab : Tab0 W) :
 Calls Tryz.prog 7 args W fun e W' => ∃ v, e = .returned v ∧ Rows.fnTopSpec.post enc Tryz.prog Tryz.f7 false true false false W args v W' :=
 z1z (P := Tryz.prog) (f := 7) (fn := Tryz.f7) (s := Rows.fnTopSpec) (m := 8) z5q (by kernel_rfl) (by kernel_rfl) rfl (fun H ds h => by
  have h : ds.length = 1 := h
  match ds, h with
  | [d0], _ => rfl) (tb := 4) rfl Tryz.underlying4 (fun S avs _ h => z5s S avs h) hval hW htab
set_option maxRecDepth 100000 in
theorem zzx (os : Os) (started : os.Started) (H : Type) (enc : TypeId × Value → H) :
 ReturnsInHanded {} Tryz.checked os 7 .any (Rows.fnTopSpec.pre6 enc Tryz.prog Tryz.f7 Rows.fnTopRow.domain false) (Rows.fnTopSpec.post enc Tryz.prog Tryz.f7 false true false false) :=
 returnsInHanded_of_change (C := Tryz.checked) own started (by kernel_rfl) Tryz.func7
  (ChangeSpec.witness6 (enc := enc) (C := Tryz.checked) false ⟨#[], #[.slice none 0 0], []⟩ 8 (by kernel_rfl) (by kernel_rfl) (by kernel_rfl) (by kernel_rfl))
  (fun W base args ds gs zcw hval hW _ _ => z2j H enc W base args ds gs zcw hval hW (fun _ _ h => by cases h))
set_option maxRecDepth 100000 in
set_option maxHeartbeats 4000000 in
theorem z6b : joinedFacts Tryz.prog 7 Tryz.f7 Rows.fnTopSpec Rows.fnTopRow = true := by
 unfold joinedFacts
 iterate 31 refine Bool.and_eq_true_iff.2 ⟨?_, by as_aux_lemma => kernel_rfl⟩
 as_aux_lemma => kernel_rfl
theorem fnTop_holds : Rows.FnTopSaid :=
 OpenClaim.holds_of_wide 7 Tryz.f7 rfl rfl rfl rfl rfl rfl rfl ⟨rfl, rfl, rfl, rfl, rfl⟩ rfl rfl rfl rfl rfl (by kernel_rfl) Tryz.func7 z6b
  (of_decide_eq_true (by kernel_rfl)) (by unfold Func.isWrapper; first | (rw [if_pos (by decide +kernel)]; kernel_rfl) | (rw [if_neg (by decide +kernel)]; exact ⟨rfl, rfl⟩))
  (fun os started H enc _ => zzx os started H enc)
end Go.Proofs.YtlmmdpmmdmhacaaGreat
