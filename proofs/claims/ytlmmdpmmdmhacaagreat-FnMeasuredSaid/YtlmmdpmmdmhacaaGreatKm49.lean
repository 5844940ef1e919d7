/- FnMeasured returns true for every argument. No condition. -/
import Derived.Test.YtlmmdpmmdmhacaaGreatKm48
namespace Go.Proofs.YtlmmdpmmdmhacaaGreat
open Go Go.ChangeShapes Go.WideShapes Go.ChangeAt Go.RowKit
set_option linter.unusedVariables false
set_option linter.unusedSimpArgs false
set_option maxRecDepth 100000
theorem ev_law (x0 : List Int) (c0 : C) (S : Store) (h0 : Rd S [.sl 1 (x0.map dByte)] [c0]) : EvA Tryz.prog 4 [.s c0] S (fun r _ => r = .v (.s (.bool true))) := ev_lawM x0 c0 S h0
theorem wtT22 {S : Store} (m : Nat) (cs : List C) (h : WT Tryz.prog S m 22 cs) : ∃ l : List Int, Rd S [.sl 1 (l.map dByte)] cs :=
  wt_slice Tryz.underlying22 (by kernel_rfl) (fun m cs h => wt_int Tryz.underlying5 h) h
theorem ev_args (S : Store) (avs : List V) (h : All2 (VT Tryz.prog S 8) Tryz.f4.params.toList avs) : EvA Tryz.prog 4 avs S (fun r _ => r = .v (.s (.bool true))) := by
  have g0 : All2 (VT Tryz.prog S 8) [22] avs := h
  clear h
  obtain ⟨v0, q0, e0, h0, g1⟩ := all2_cons g0
  subst e0
  obtain ⟨c0, f0, w0⟩ := vt_sc Tryz.underlying22 (by intro fs h; cases h) h0
  subst f0
  obtain ⟨x0, r0⟩ := wtT22 _ _ w0
  have e' := all2_nil g1
  subst e'
  exact ev_law x0 _ S r0
set_option maxRecDepth 100000 in
theorem ev_calls (H : Type) (enc : TypeId × Value → H) (W : World) (base : Nat) (args : Array Value) (ds gs : List (DataW H)) (before : List MemPlace)
    (hval : ∀ (j : Nat) t v, Tryz.f4.params[j]? = some t → args[j]? = some v → Value.okWide Tryz.prog W .any base t v)
    (hW : DataW.Whole enc Tryz.prog Tryz.f4.params.toList Rows.fnMeasuredSpec.vars false W args.toList ds gs before) (htab : Tab0 W) :
    Calls Tryz.prog 4 args W fun e W' => ∃ v, e = .returned v ∧ Rows.fnMeasuredSpec.post enc Tryz.prog Tryz.f4 false true false false W args v W' :=
  law_calls (P := Tryz.prog) (f := 4) (fn := Tryz.f4) (s := Rows.fnMeasuredSpec) (m := 8) laidOut (by kernel_rfl) (by kernel_rfl) rfl (fun H ds h => by
    have h : ds.length = 1 := h
    match ds, h with
    | [d0], _ => rfl) (tb := 4) rfl Tryz.underlying4 (fun S avs _ h => ev_args S avs h) hval hW htab
set_option maxRecDepth 100000 in
theorem ev_lifted (os : Os) (started : os.Started) (H : Type) (enc : TypeId × Value → H) :
    ReturnsInHanded {} Tryz.checked os 4 .any (Rows.fnMeasuredSpec.pre6 enc Tryz.prog Tryz.f4 Rows.fnMeasuredRow.domain false) (Rows.fnMeasuredSpec.post enc Tryz.prog Tryz.f4 false true false false) :=
  returnsInHanded_of_change (C := Tryz.checked) own started (by kernel_rfl) Tryz.func4
    (ChangeSpec.witness6 (enc := enc) (C := Tryz.checked) false ⟨#[], #[.slice none 0 0], []⟩ 8 (by kernel_rfl) (by kernel_rfl) (by kernel_rfl) (by kernel_rfl))
    (fun W base args ds gs before hval hW _ _ => ev_calls H enc W base args ds gs before hval hW (fun _ _ h => by cases h))
set_option maxRecDepth 100000 in
set_option maxHeartbeats 4000000 in
theorem closed : joinedFacts Tryz.prog 4 Tryz.f4 Rows.fnMeasuredSpec Rows.fnMeasuredRow = true := by
  unfold joinedFacts
  iterate 31 refine Bool.and_eq_true_iff.2 ⟨?_, by as_aux_lemma => kernel_rfl⟩
  as_aux_lemma => kernel_rfl
theorem fnMeasured_holds : Rows.FnMeasuredSaid :=
  OpenClaim.holds_of_wide 4 Tryz.f4 rfl rfl rfl rfl rfl rfl rfl ⟨rfl, rfl, rfl, rfl, rfl⟩ rfl rfl rfl rfl rfl (by kernel_rfl) Tryz.func4 closed
    (of_decide_eq_true (by kernel_rfl)) (by unfold Func.isWrapper; first | (rw [if_pos (by decide +kernel)]; kernel_rfl) | (rw [if_neg (by decide +kernel)]; exact ⟨rfl, rfl⟩))
    (fun os started H enc _ => ev_lifted os started H enc)
end Go.Proofs.YtlmmdpmmdmhacaaGreat
