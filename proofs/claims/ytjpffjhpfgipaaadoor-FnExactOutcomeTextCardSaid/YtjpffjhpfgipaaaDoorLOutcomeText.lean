/- FnExactOutcomeText returns true for every argument, and its argument reads as before. No condition. -/
import Derived.Test.YtjpffjhpfgipaaaDoorFnCt
import Derived.Test.YtjpffjhpfgipaaaDoorFnM
import Derived.Test.YtjpffjhpfgipaaaDoorAeN
import Derived.Test.YtjpffjhpfgipaaaDoorTie
import Derived.Test.YtjpffjhpfgipaaaDoorCards
import Derived.LaidMore
import Derived.LaidLaws
import Derived.Handed
import Derived.SevenTiedAt
import Derived.Stop.Joined
namespace Go.Proofs.YtjpffjhpfgipaaaDoor
open Go Go.ChangeShapes Go.WideShapes Go.ChangeAt Go.RowKit
set_option linter.unusedVariables false
set_option maxRecDepth 100000

/-- the law -/
theorem ev_law (x0 : GOutcome) (cs0 : List C) (S : Store) (h0 : Rd S x0.d cs0) : EvA Tryd.prog 6 [.agg cs0] S (fun r _ => r = .v (.s (.bool true))) := by
  obtain ⟨_, rfl, _⟩ := GOutcome.inv h0
  refine evA_intro tok Tryd.func6 (by kernel_rfl) rfl ?_
  repeat' ((conv => whnf) <;> first
   | refine condP_szR (by omega) (fun _ _ => ?_) (fun _ _ => ?_)
   | refine condP_dec (fun _ => ?_) (fun _ => ?_)
   | refine condP_ndec (fun _ => ?_) (fun _ => ?_)
   | refine condP_true rfl ?_
   | refine condP_false rfl ?_
   | refine condP_not (fun _ => ?_) (fun _ => ?_)
   | refine condP_intro (fun _ => ?_) (fun _ => ?_)
   | refine callP_eq (ev_szOutcome _ _ _ _ rdcA (by omega)) ?_
   | refine callP_eq (ev_sOutcomeText _ _ _ rdcA (by first | assumption | omega)) ?_
   | (refine callP_intro (ev_toOutcome _ _ _ rdcA (by (first | omega | exact sz_at hz (by omega) | (simp only [szL]; omega)))) ?_; rintro _ Sn ⟨hEn, _, rfl, hFn⟩)
   | refine callP_eq (ev_iOutcomeText _ _ _ rdcA (by first | assumption | omega)) ?_
   | refine callP_eq (ev_eqOutcome _ _ _ _ rdcA rdcA) ?_
   | refine needP_intro (by first | omega | (constructor <;> omega)) ?_
   | refine draw_intro 22 [.fl 0, .fl 1, .st 2 [0], .st 3 [], .fl 4] (by rfl) (by kernel_rfl) ?_
   | refine And.intro ?_ ?_)
  all_goals first | rfl | (exfalso; simp_all [eqS_self]; done)

theorem wtT23 {S : Store} (m : Nat) (cs : List C) (h : WT Tryd.prog S m 23 cs) : ∃ x : GSite, Rd S x.d cs := by
  obtain ⟨m', ps, e, g⟩ := wt_struct Tryd.underlying23 h
  subst e
  have g0 : All2 (WT Tryd.prog S m') [3, 3] ps := g
  obtain ⟨p0, q0, e0, w0, g1⟩ := all2_cons g0
  subst e0
  obtain ⟨x0, r0⟩ := wt_int Tryd.underlying3 w0
  obtain ⟨p1, q1, e1, w1, g2⟩ := all2_cons g1
  subst e1
  obtain ⟨x1, r1⟩ := wt_int Tryd.underlying3 w1
  have e' := all2_nil g2
  subst e'
  exact ⟨⟨x0, x1⟩, rd_append r0 (rd_append r1 (rd_nil))⟩
theorem wtT42 {S : Store} (m : Nat) (cs : List C) (h : WT Tryd.prog S m 42 cs) : ∃ l : List GSite, Rd S [.sl 2 (l.map GSite.d)] cs :=
  wt_slice Tryd.underlying42 (by kernel_rfl) (fun m cs h => wtT23 m cs h) h
theorem wtT44 {S : Store} (m : Nat) (cs : List C) (h : WT Tryd.prog S m 44 cs) : ∃ x : GOutcome, Rd S x.d cs := by
  obtain ⟨m', ps, e, g⟩ := wt_struct Tryd.underlying44 h
  subst e
  have g0 : All2 (WT Tryd.prog S m') [3, 23, 42] ps := g
  obtain ⟨p0, q0, e0, w0, g1⟩ := all2_cons g0
  subst e0
  obtain ⟨x0, r0⟩ := wt_int Tryd.underlying3 w0
  obtain ⟨p1, q1, e1, w1, g2⟩ := all2_cons g1
  subst e1
  obtain ⟨x1, r1⟩ := wtT23 _ _ w1
  obtain ⟨p2, q2, e2, w2, g3⟩ := all2_cons g2
  subst e2
  obtain ⟨x2, r2⟩ := wtT42 _ _ w2
  have e' := all2_nil g3
  subst e'
  exact ⟨⟨x0, x1, x2⟩, rd_append r0 (rd_append r1 (rd_append r2 (rd_nil)))⟩
theorem ev_args (S : Store) (avs : List V) (h : All2 (VT Tryd.prog S 8) Tryd.f6.params.toList avs) : EvA Tryd.prog 6 avs S (fun r _ => r = .v (.s (.bool true))) := by
  have g0 : All2 (VT Tryd.prog S 8) [44] avs := h
  clear h
  obtain ⟨v0, q0, e0, h0, g1⟩ := all2_cons g0
  subst e0
  obtain ⟨cs0, f0, w0⟩ := vt_agg Tryd.underlying44 h0
  subst f0
  obtain ⟨x0, r0⟩ := wtT44 _ _ w0
  have e' := all2_nil g1
  subst e'
  exact ev_law x0 _ S r0

set_option maxRecDepth 100000 in
theorem ev_calls (H : Type) (enc : TypeId × Value → H) (W : World) (base : Nat) (args : Array Value) (ds gs : List (DataW H)) (before : List MemPlace)
    (hval : ∀ (j : Nat) t v, Tryd.f6.params[j]? = some t → args[j]? = some v → Value.okWide Tryd.prog W .any base t v)
    (hW : DataW.Whole enc Tryd.prog Tryd.f6.params.toList Rows.fnExactOutcomeTextSpec.vars false W args.toList ds gs before) :
    Calls Tryd.prog 6 args W fun e W' => ∃ v, e = .returned v ∧ Rows.fnExactOutcomeTextSpec.post enc Tryd.prog Tryd.f6 false true false false W args v W' :=
  law_calls (P := Tryd.prog) (f := 6) (fn := Tryd.f6) (s := Rows.fnExactOutcomeTextSpec) (m := 8) laidOut (by kernel_rfl) (by kernel_rfl) rfl (fun H ds h => by
    have h : ds.length = 1 := h
    match ds, h with
    | [d0], _ => rfl) (tb := 4) rfl Tryd.underlying4 (fun S avs _ h => ev_args S avs h) hval hW

/-- a world in which the listed variables hold what the text lays in them: as the program's own start leaves them -/
theorem laid_world (os : Os) (args : Array Value) : laidMet Tryd.prog Rows.fnExactOutcomeTextRow.laid ((World.doorLaid Tryd.prog 4000 os).forCall (fun _ _ => 0) ⟨#[], args, []⟩).memory :=
  laidMet_of_run' 8 (by kernel_rfl) (by kernel_rfl)

set_option maxRecDepth 100000 in
theorem ev_lifted (os : Os) (started : os.Started) (H : Type) (enc : TypeId × Value → H) :
    ReturnsInHanded {} Tryd.checked os 6 .any (fun w args => (Rows.fnExactOutcomeTextSpec.pre enc Tryd.prog Tryd.f6 Rows.fnExactOutcomeTextRow.domain false w args ∧ laidMet Tryd.prog Rows.fnExactOutcomeTextRow.laid w) ∧ sizedMet enc Tryd.prog Tryd.f6 (OpenSpec.ofChange Rows.fnExactOutcomeTextSpec) false w args) (Rows.fnExactOutcomeTextSpec.post enc Tryd.prog Tryd.f6 false true false false) := by
  refine returnsInHanded_of_change_and (C := Tryd.checked) (X := fun w _ => laidMet Tryd.prog Rows.fnExactOutcomeTextRow.laid w) (fun _ _ _ hh h => h.of_heap hh) own started (by kernel_rfl) Tryd.func6
    (ChangeSpec.witness_shaped (enc := enc) (C := Tryd.checked) (os := os) (X := fun w _ => laidMet Tryd.prog Rows.fnExactOutcomeTextRow.laid w) false (World.doorLaid Tryd.prog 4000 os) #[.agg #[.int .i64 0, .int .i64 0, .int .i64 0, .slice none 0 0]] 8 rfl (World.shaped_of_RefB (by kernel_rfl) (by kernel_rfl)) (by kernel_rfl) (by kernel_rfl) (by kernel_rfl) (laid_world os _)) ?_
  intro W base args ds gs before hval hW _ _ _ _
  exact ev_calls H enc W base args ds gs before hval hW

theorem fnExactOutcomeText_said : Rows.FnExactOutcomeTextSaid :=
  OpenClaim.holds_of_wide 6 Tryd.f6 rfl rfl rfl rfl rfl rfl rfl ⟨rfl, rfl, rfl, rfl, rfl⟩ rfl rfl rfl rfl rfl (by kernel_rfl) Tryd.func6 (by kernel_rfl)
    (of_decide_eq_true (by kernel_rfl)) (by unfold Func.isWrapper; first | (rw [if_pos (by decide +kernel)]; kernel_rfl) | (rw [if_neg (by decide +kernel)]; exact ⟨rfl, rfl⟩))
    (fun os started H enc _ => ev_lifted os started H enc)

theorem fnExactOutcomeText_holds : Rows.FnExactOutcomeTextCardSaid :=
  Claim7.holds_tied_plain_at .later [] [.data, .data, .data] true (true, "ffc1c4ca91f0bc701e1b4b07137b463817c7f607e05df32add35b049a01ad5bf") false
    fnExactOutcomeText_said (fun _ h => by cases h) (by kernel_rfl) (fun _ h => by cases h) fnExactOutcomeText_row_tie rfl ⟨rfl, rfl⟩ (by kernel_rfl) rfl
    (fun f fn hf hfn => by
      obtain rfl : f = 6 := Option.some.inj ((show Tryd.prog.funcNamed "loop.example/g03001/laws.FnExactOutcomeText" = some 6 by kernel_rfl).symm.trans hf) |>.symm
      obtain rfl : fn = Tryd.f6 := (Option.some.inj (Tryd.func6.symm.trans hfn)).symm
      exact ⟨by kernel_rfl, fun j t ht => by
        have ht : (#[44] : Array TypeId)[j]? = some t := ht
        have hm : t ∈ [44] := by simpa using Array.mem_of_getElem? ht
        have hall : ([44].all fun u => !Tryd.prog.wantsStandIn u) = true := by kernel_rfl
        exact (show Tryd.prog.wantsStandIn t = false by simpa using List.all_eq_true.1 hall t hm)⟩)
    (by kernel_rfl)
end Go.Proofs.YtjpffjhpfgipaaaDoor
