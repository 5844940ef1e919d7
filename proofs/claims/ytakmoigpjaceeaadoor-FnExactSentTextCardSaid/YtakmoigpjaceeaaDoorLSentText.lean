/- FnExactSentText returns true for every argument, and its argument reads as before. No condition. -/
import Derived.Test.YtakmoigpjaceeaaDoorFnCt
import Derived.Test.YtakmoigpjaceeaaDoorFnXm
import Derived.Test.YtakmoigpjaceeaaDoorAeN
import Derived.Test.YtakmoigpjaceeaaDoorTie
import Derived.Test.YtakmoigpjaceeaaDoorCards
import Derived.LaidMore
import Derived.LaidLaws
import Derived.Handed
import Derived.SevenTiedAt
import Derived.Stop.Joined
namespace Go.Proofs.YtakmoigpjaceeaaDoor
open Go Go.ChangeShapes Go.WideShapes Go.ChangeAt Go.RowKit
set_option linter.unusedVariables false
set_option maxRecDepth 100000

theorem wt_intr {S : Store} {m : Nat} {t : TypeId} {cs : List C} (ht : Tryd.prog.underlying t = some (.int .i64)) (h : WT Tryd.prog S m t cs) : ∃ z : Int, Rd S (dInt z) cs ∧ i64R z := by
  obtain ⟨z, hz⟩ := wt_int ht h
  cases m with
  | zero => exact h.elim
  | succ m =>
    unfold WT at h
    rw [ht] at h
    obtain ⟨z, rfl, hw⟩ := h
    have hw : -9223372036854775808 ≤ z ∧ z ≤ 9223372036854775807 := by
      have : IntKind.i64.min ≤ z ∧ z ≤ IntKind.i64.max := by simpa [Lit.wf] using hw
      simpa [IntKind.min, IntKind.max, IntKind.signed, IntKind.bits] using this
    exact ⟨z, by have := rd_c hz; cases this; exact hz, hw⟩
theorem wt_sents {S : Store} {m : Nat} {cs : List C} (h : WT Tryd.prog S m 32 cs) : ∃ l : List GSent, Rd S [.sl 3 (l.map GSent.d)] cs ∧ ∀ x ∈ l, i64R x.To ∧ i64R x.Value := by
  obtain ⟨l, hl⟩ := wt_slice (f := fun z : {z : GSent // i64R z.To ∧ i64R z.Value} => GSent.d z.1) Tryd.underlying32 (by kernel_rfl) (fun m cs h => by
    obtain ⟨m', ps, e, g⟩ := wt_struct Tryd.underlying47 h
    subst e
    have g0 : All2 (WT Tryd.prog S m') [3, 3, 3] ps := g
    obtain ⟨p0, q0, e0, w0, g1⟩ := all2_cons g0
    subst e0
    obtain ⟨x0, r0, k0⟩ := wt_intr Tryd.underlying3 w0
    obtain ⟨p1, q1, e1, w1, g2⟩ := all2_cons g1
    subst e1
    obtain ⟨x1, r1, k1⟩ := wt_intr Tryd.underlying3 w1
    obtain ⟨p2, q2, e2, w2, g3⟩ := all2_cons g2
    subst e2
    obtain ⟨x2, r2, k2⟩ := wt_intr Tryd.underlying3 w2
    have e' := all2_nil g3
    subst e'
    exact ⟨⟨⟨x0, x1, x2⟩, k0, k1⟩, rd_append r0 (rd_append r1 (rd_append r2 (rd_nil)))⟩) h
  exact ⟨l.map (·.1), by rw [List.map_map]; exact hl, fun x hx => by obtain ⟨y, _, rfl⟩ := List.mem_map.1 hx; exact y.2⟩

/-- the law -/
theorem ev_law (x0 : List GSent) (c0 : C) (S : Store) (h0 : Rd S [.sl 3 (x0.map GSent.d)] [c0]) (hr : ∀ x ∈ x0, i64R x.To ∧ i64R x.Value) : EvA Tryd.prog 4 [.s c0] S (fun r _ => r = .v (.s (.bool true))) := by
  have zq0 : szL [.sl 3 (x0.map GSent.d)] = x0.length := by simp only [szL, List.length_map]; rw [szLL_flat (by intro x; simp only [szL, GSent.d])]; rfl
  refine evA_intro tok Tryd.func4 (by kernel_rfl) rfl ?_
  repeat' ((conv => whnf) <;> first
   | refine condP_szR (by omega) (fun _ _ => ?_) (fun _ _ => ?_)
   | refine condP_dec (fun _ => ?_) (fun _ => ?_)
   | refine condP_ndec (fun _ => ?_) (fun _ => ?_)
   | refine condP_true rfl ?_
   | refine condP_false rfl ?_
   | refine condP_not (fun _ => ?_) (fun _ => ?_)
   | refine condP_intro (fun _ => ?_) (fun _ => ?_)
   | refine callP_eq (ev_szSentS _ _ _ _ rdA (by omega)) ?_
   | refine callP_eq (ev_sSentText _ _ _ rdA (by first | assumption | omega) (by assumption)) ?_
   | (refine callP_intro (ev_toSentS _ _ _ rdA (by (first | omega | exact sz_at hz (by omega) | (simp only [szL]; omega)))) ?_; rintro _ Sn ⟨hEn, cn, rfl, hFn⟩)
   | refine callP_eq (ev_iSentText _ _ _ rdA (by first | assumption | omega) (by assumption)) ?_
   | refine callP_eq (ev_eqSentS _ _ _ _ rdA rdA) ?_
   | refine needP_intro (by first | omega | (constructor <;> omega) | fail) ?_
   | refine And.intro ?_ ?_)
  all_goals first | rfl | (exfalso; simp_all [eqS_self]; done)

theorem wtT47 {S : Store} (m : Nat) (cs : List C) (h : WT Tryd.prog S m 47 cs) : ∃ x : GSent, Rd S x.d cs := by
  obtain ⟨m', ps, e, g⟩ := wt_struct Tryd.underlying47 h
  subst e
  have g0 : All2 (WT Tryd.prog S m') [3, 3, 3] ps := g
  obtain ⟨p0, q0, e0, w0, g1⟩ := all2_cons g0
  subst e0
  obtain ⟨x0, r0⟩ := wt_int Tryd.underlying3 w0
  obtain ⟨p1, q1, e1, w1, g2⟩ := all2_cons g1
  subst e1
  obtain ⟨x1, r1⟩ := wt_int Tryd.underlying3 w1
  obtain ⟨p2, q2, e2, w2, g3⟩ := all2_cons g2
  subst e2
  obtain ⟨x2, r2⟩ := wt_int Tryd.underlying3 w2
  have e' := all2_nil g3
  subst e'
  exact ⟨⟨x0, x1, x2⟩, rd_append r0 (rd_append r1 (rd_append r2 (rd_nil)))⟩
theorem wtT32 {S : Store} (m : Nat) (cs : List C) (h : WT Tryd.prog S m 32 cs) : ∃ l : List GSent, Rd S [.sl 3 (l.map GSent.d)] cs :=
  wt_slice Tryd.underlying32 (by kernel_rfl) (fun m cs h => wtT47 m cs h) h
theorem ev_args (S : Store) (avs : List V) (h : All2 (VT Tryd.prog S 8) Tryd.f4.params.toList avs) : EvA Tryd.prog 4 avs S (fun r _ => r = .v (.s (.bool true))) := by
  have g0 : All2 (VT Tryd.prog S 8) [32] avs := h
  clear h
  obtain ⟨v0, q0, e0, h0, g1⟩ := all2_cons g0
  subst e0
  obtain ⟨c0, f0, w0⟩ := vt_sc Tryd.underlying32 (by intro fs h; cases h) h0
  subst f0
  obtain ⟨x0, r0, hr0⟩ := wt_sents w0
  have e' := all2_nil g1
  subst e'
  exact ev_law x0 _ S r0 hr0

set_option maxRecDepth 100000 in
theorem ev_calls (H : Type) (enc : TypeId × Value → H) (W : World) (base : Nat) (args : Array Value) (ds gs : List (DataW H)) (before : List MemPlace)
    (hval : ∀ (j : Nat) t v, Tryd.f4.params[j]? = some t → args[j]? = some v → Value.okWide Tryd.prog W .any base t v)
    (hW : DataW.Whole enc Tryd.prog Tryd.f4.params.toList Rows.fnExactSentTextSpec.vars false W args.toList ds gs before) (htab : Tab0 W) :
    Calls Tryd.prog 4 args W fun e W' => ∃ v, e = .returned v ∧ Rows.fnExactSentTextSpec.post enc Tryd.prog Tryd.f4 false true false false W args v W' :=
  law_calls (P := Tryd.prog) (f := 4) (fn := Tryd.f4) (s := Rows.fnExactSentTextSpec) (m := 8) laidOut (by kernel_rfl) (by kernel_rfl) rfl (fun H ds h => by
    have h : ds.length = 1 := h
    match ds, h with
    | [d0], _ => rfl) (tb := 4) rfl Tryd.underlying4 (fun S avs _ h => ev_args S avs h) hval hW htab

/-- a world in which the listed variables hold what the text lays in them: as the program's own start leaves them -/
theorem laid_world (os : Os) (args : Array Value) : laidMet Tryd.prog Rows.fnExactSentTextRow.laid ((World.doorLaid Tryd.prog 4000 os).forCall (fun _ _ => 0) ⟨#[], args, []⟩).memory :=
  laidMet_of_run' 8 (by kernel_rfl) (by kernel_rfl)

set_option maxRecDepth 100000 in
theorem ev_lifted (os : Os) (started : os.Started) (H : Type) (enc : TypeId × Value → H) :
    ReturnsInHanded {} Tryd.checked os 4 .any (fun w args => (Rows.fnExactSentTextSpec.pre enc Tryd.prog Tryd.f4 Rows.fnExactSentTextRow.domain false w args ∧ laidMet Tryd.prog Rows.fnExactSentTextRow.laid w) ∧ sizedMet enc Tryd.prog Tryd.f4 (OpenSpec.ofChange Rows.fnExactSentTextSpec) false w args) (Rows.fnExactSentTextSpec.post enc Tryd.prog Tryd.f4 false true false false) := by
  refine returnsInHanded_of_change_and (C := Tryd.checked) (X := fun w _ => laidMet Tryd.prog Rows.fnExactSentTextRow.laid w) (fun _ _ _ hh h => h.of_heap hh) own started (by kernel_rfl) Tryd.func4
    (ChangeSpec.witness_shaped (enc := enc) (C := Tryd.checked) (os := os) (X := fun w _ => laidMet Tryd.prog Rows.fnExactSentTextRow.laid w) false (World.doorLaid Tryd.prog 4000 os) #[.slice none 0 0] 8 rfl (World.shaped_of_RefB (by kernel_rfl) (by kernel_rfl)) (by kernel_rfl) (by kernel_rfl) (by kernel_rfl) (laid_world os _)) ?_
  intro W base args ds gs before hval hW _ _ hL _
  exact ev_calls H enc W base args ds gs before hval hW (by first | exact tab0_of_laid hL | exact fun _ _ h => by cases h)

theorem fnExactSentText_said : Rows.FnExactSentTextSaid :=
  OpenClaim.holds_of_wide 4 Tryd.f4 rfl rfl rfl rfl rfl rfl rfl ⟨rfl, rfl, rfl, rfl, rfl⟩ rfl rfl rfl rfl rfl (by kernel_rfl) Tryd.func4 (by kernel_rfl)
    (of_decide_eq_true (by kernel_rfl)) (by unfold Func.isWrapper; first | (rw [if_pos (by decide +kernel)]; kernel_rfl) | (rw [if_neg (by decide +kernel)]; exact ⟨rfl, rfl⟩))
    (fun os started H enc _ => ev_lifted os started H enc)

theorem fnExactSentText_holds : Rows.FnExactSentTextCardSaid :=
  Claim7.holds_tied_plain_at .later [] [.data, .data, .data] true (true, "8dcb14fd84345f6601a35331b8af37cf458cd7ef0a514828b93898869068ae26") false
    fnExactSentText_said (fun _ h => by cases h) (by kernel_rfl) (fun _ h => by cases h) fnExactSentText_row_tie rfl ⟨rfl, rfl⟩ (by kernel_rfl) rfl
    (fun f fn hf hfn => by
      obtain rfl : f = 4 := Option.some.inj ((show Tryd.prog.funcNamed "loop.example/g03001/laws.FnExactSentText" = some 4 by kernel_rfl).symm.trans hf) |>.symm
      obtain rfl : fn = Tryd.f4 := (Option.some.inj (Tryd.func4.symm.trans hfn)).symm
      exact ⟨by kernel_rfl, fun j t ht => by
        have ht : (#[32] : Array TypeId)[j]? = some t := ht
        have hm : t ∈ [32] := by simpa using Array.mem_of_getElem? ht
        have hall : ([32].all fun u => !Tryd.prog.wantsStandIn u) = true := by kernel_rfl
        exact (show Tryd.prog.wantsStandIn t = false by simpa using List.all_eq_true.1 hall t hm)⟩)
    (by kernel_rfl)
end Go.Proofs.YtakmoigpjaceeaaDoor
