/- FnExactFormatList returns true for every argument, and its argument reads as before. No condition. -/
import Derived.Test.YtjpffjhpfgipaaaDoorFnCt
import Derived.Test.YtjpffjhpfgipaaaDoorFnMl
import Derived.Test.YtjpffjhpfgipaaaDoorAeN
import Derived.Test.YtjpffjhpfgipaaaDoorTie
import Derived.Test.YtjpffjhpfgipaaaDoorCards
import Derived.LaidMore
import Derived.LaidLaws
import Derived.Handed
import Derived.SevenTiedAt
import Derived.Stop.Joined
namespace Go.Proofs.YtjpffjhpfgipaaaDoor
open Go Go.ChangeShapes Go.WideShapes Go.ChangeAt Go.RowKit
set_option linter.unusedVariables false
set_option maxRecDepth 100000

theorem wt_ints {S : Store} {m : Nat} {t e : TypeId} {cs : List C} (ht : Tryd.prog.underlying t = some (.slice e)) (hc : Tryd.prog.cellsOf e = 1) (he : Tryd.prog.underlying e = some (.int .i64)) (h : WT Tryd.prog S m t cs) : ∃ l : List Int, Rd S [.sl 1 (l.map dInt)] cs ∧ ∀ x ∈ l, -9223372036854775808 ≤ x ∧ x ≤ 9223372036854775807 := by
  obtain ⟨l, hl⟩ := wt_slice (f := fun z : {z : Int // -9223372036854775808 ≤ z ∧ z ≤ 9223372036854775807} => dInt z.1) ht hc (fun m cs h => by
    obtain ⟨z, hz⟩ := wt_int he h
    cases m with
    | zero => exact h.elim
    | succ m =>
      unfold WT at h
      rw [he] at h
      obtain ⟨z, rfl, hw⟩ := h
      have hw : -9223372036854775808 ≤ z ∧ z ≤ 9223372036854775807 := by
        have : IntKind.i64.min ≤ z ∧ z ≤ IntKind.i64.max := by simpa [Lit.wf] using hw
        simpa [IntKind.min, IntKind.max, IntKind.signed, IntKind.bits] using this
      exact ⟨⟨z, hw⟩, by have := rd_c hz; cases this; exact hz⟩) h
  exact ⟨l.map (·.1), by rw [List.map_map]; exact hl, fun x hx => by obtain ⟨y, _, rfl⟩ := List.mem_map.1 hx; exact y.2⟩

/-- the law -/
theorem ev_law (x0 : List Int) (c0 : C) (S : Store) (h0 : Rd S [.sl 1 (x0.map dInt)] [c0]) (hr : ∀ x ∈ x0, -9223372036854775808 ≤ x ∧ x ≤ 9223372036854775807) : EvA Tryd.prog 5 [.s c0] S (fun r _ => r = .v (.s (.bool true))) := by
  have zq0 : szL [.sl 1 (x0.map dInt)] = x0.length := by simp only [szL, List.length_map]; rw [szLL_flat (by intro x; simp only [szL, dInt])]; rfl
  refine evA_intro tok Tryd.func5 (by kernel_rfl) rfl ?_
  repeat' ((conv => whnf) <;> first
   | refine condP_dec (fun _ => ?_) (fun _ => ?_)
   | refine condP_ndec (fun _ => ?_) (fun _ => ?_)
   | refine condP_true rfl ?_
   | refine condP_false rfl ?_
   | refine condP_not (fun _ => ?_) (fun _ => ?_)
   | refine condP_intro (fun _ => ?_) (fun _ => ?_)
   | refine callP_eq (ev_sFormatList _ _ _ rdA (by first | assumption | omega) (by assumption)) ?_
   | (refine callP_intro (ev_toIntS _ _ _ rdA (by (first | omega | exact sz_at hz (by omega) | (simp only [szL]; omega)))) ?_; rintro _ Sn ⟨hEn, cn, rfl, hFn⟩)
   | refine callP_eq (ev_iFormatList _ _ _ rdA (by first | assumption | omega) (by assumption)) ?_
   | refine callP_eq (ev_eqIntS _ _ _ _ rdA rdA) ?_
   | (refine rd_lenm rdA ?_; intro hml; rw [maxLen_eq] at hml)
   | refine needP_intro (by first | omega | (constructor <;> omega) | fail) ?_
   | refine And.intro ?_ ?_)
  all_goals first | rfl | (exfalso; simp_all [eqS_self]; done)

theorem wtT37 {S : Store} (m : Nat) (cs : List C) (h : WT Tryd.prog S m 37 cs) : ∃ l : List Int, Rd S [.sl 1 (l.map dInt)] cs :=
  wt_slice Tryd.underlying37 (by kernel_rfl) (fun m cs h => wt_int Tryd.underlying3 h) h
theorem ev_args (S : Store) (avs : List V) (h : All2 (VT Tryd.prog S 8) Tryd.f5.params.toList avs) : EvA Tryd.prog 5 avs S (fun r _ => r = .v (.s (.bool true))) := by
  have g0 : All2 (VT Tryd.prog S 8) [37] avs := h
  clear h
  obtain ⟨v0, q0, e0, h0, g1⟩ := all2_cons g0
  subst e0
  obtain ⟨c0, f0, w0⟩ := vt_sc Tryd.underlying37 (by intro fs h; cases h) h0
  subst f0
  obtain ⟨x0, r0, hr0⟩ := wt_ints Tryd.underlying37 (by kernel_rfl) Tryd.underlying3 w0
  have e' := all2_nil g1
  subst e'
  exact ev_law x0 _ S r0 hr0

set_option maxRecDepth 100000 in
theorem ev_calls (H : Type) (enc : TypeId × Value → H) (W : World) (base : Nat) (args : Array Value) (ds gs : List (DataW H)) (before : List MemPlace)
    (hval : ∀ (j : Nat) t v, Tryd.f5.params[j]? = some t → args[j]? = some v → Value.okWide Tryd.prog W .any base t v)
    (hW : DataW.Whole enc Tryd.prog Tryd.f5.params.toList Rows.fnExactFormatListSpec.vars false W args.toList ds gs before) (htab : Tab0 W) :
    Calls Tryd.prog 5 args W fun e W' => ∃ v, e = .returned v ∧ Rows.fnExactFormatListSpec.post enc Tryd.prog Tryd.f5 false true false false W args v W' :=
  law_calls (P := Tryd.prog) (f := 5) (fn := Tryd.f5) (s := Rows.fnExactFormatListSpec) (m := 8) laidOut (by kernel_rfl) (by kernel_rfl) rfl (fun H ds h => by
    have h : ds.length = 1 := h
    match ds, h with
    | [d0], _ => rfl) (tb := 4) rfl Tryd.underlying4 (fun S avs _ h => ev_args S avs h) hval hW htab

/-- a world in which the listed variables hold what the text lays in them: as the program's own start leaves them -/
theorem laid_world (os : Os) (args : Array Value) : laidMet Tryd.prog Rows.fnExactFormatListRow.laid ((World.doorLaid Tryd.prog 4000 os).forCall (fun _ _ => 0) ⟨#[], args, []⟩).memory :=
  laidMet_of_run' 8 (by kernel_rfl) (by kernel_rfl)

set_option maxRecDepth 100000 in
theorem ev_lifted (os : Os) (started : os.Started) (H : Type) (enc : TypeId × Value → H) :
    ReturnsInHanded {} Tryd.checked os 5 .any (fun w args => (Rows.fnExactFormatListSpec.pre enc Tryd.prog Tryd.f5 Rows.fnExactFormatListRow.domain false w args ∧ laidMet Tryd.prog Rows.fnExactFormatListRow.laid w) ∧ sizedMet enc Tryd.prog Tryd.f5 (OpenSpec.ofChange Rows.fnExactFormatListSpec) false w args) (Rows.fnExactFormatListSpec.post enc Tryd.prog Tryd.f5 false true false false) := by
  refine returnsInHanded_of_change_and (C := Tryd.checked) (X := fun w _ => laidMet Tryd.prog Rows.fnExactFormatListRow.laid w) (fun _ _ _ hh h => h.of_heap hh) own started (by kernel_rfl) Tryd.func5
    (ChangeSpec.witness_shaped (enc := enc) (C := Tryd.checked) (os := os) (X := fun w _ => laidMet Tryd.prog Rows.fnExactFormatListRow.laid w) false (World.doorLaid Tryd.prog 4000 os) #[.slice none 0 0] 8 rfl (World.shaped_of_RefB (by kernel_rfl) (by kernel_rfl)) (by kernel_rfl) (by kernel_rfl) (by kernel_rfl) (laid_world os _)) ?_
  intro W base args ds gs before hval hW _ _ hL _
  exact ev_calls H enc W base args ds gs before hval hW (by first | exact tab0_of_laid hL | exact fun _ _ h => by cases h)

theorem fnExactFormatList_said : Rows.FnExactFormatListSaid :=
  OpenClaim.holds_of_wide 5 Tryd.f5 rfl rfl rfl rfl rfl rfl rfl ⟨rfl, rfl, rfl, rfl, rfl⟩ rfl rfl rfl rfl rfl (by kernel_rfl) Tryd.func5 (by kernel_rfl)
    (of_decide_eq_true (by kernel_rfl)) (by unfold Func.isWrapper; first | (rw [if_pos (by decide +kernel)]; kernel_rfl) | (rw [if_neg (by decide +kernel)]; exact ⟨rfl, rfl⟩))
    (fun os started H enc _ => ev_lifted os started H enc)

theorem fnExactFormatList_holds : Rows.FnExactFormatListCardSaid :=
  Claim7.holds_tied_plain_at .later [] [.data, .data, .data] true (true, "ffc1c4ca91f0bc701e1b4b07137b463817c7f607e05df32add35b049a01ad5bf") false
    fnExactFormatList_said (fun _ h => by cases h) (by kernel_rfl) (fun _ h => by cases h) fnExactFormatList_row_tie rfl ⟨rfl, rfl⟩ (by kernel_rfl) rfl
    (fun f fn hf hfn => by
      obtain rfl : f = 5 := Option.some.inj ((show Tryd.prog.funcNamed "loop.example/g03001/laws.FnExactFormatList" = some 5 by kernel_rfl).symm.trans hf) |>.symm
      obtain rfl : fn = Tryd.f5 := (Option.some.inj (Tryd.func5.symm.trans hfn)).symm
      exact ⟨by kernel_rfl, fun j t ht => by
        have ht : (#[37] : Array TypeId)[j]? = some t := ht
        have hm : t ∈ [37] := by simpa using Array.mem_of_getElem? ht
        have hall : ([37].all fun u => !Tryd.prog.wantsStandIn u) = true := by kernel_rfl
        exact (show Tryd.prog.wantsStandIn t = false by simpa using List.all_eq_true.1 hall t hm)⟩)
    (by kernel_rfl)
end Go.Proofs.YtjpffjhpfgipaaaDoor
