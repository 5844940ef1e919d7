/- FnExactEventName returns true for every argument, and its argument reads as before. No condition. -/
import Derived.Test.YtffjmmccafgofaaRows
import Derived.Test.YtffjmmccafgofaaAeT
namespace Go.Proofs.Ytffjmmccafgofaa
open Go Go.ChangeShapes Go.WideShapes Go.ChangeAt Go.RowKit

theorem wrapI_i64 {n : Int} (h : -9223372036854775808 ≤ n ∧ n ≤ 9223372036854775807) : wrapI .i64 n = n := by
  unfold wrapI; exact IntWalk.i64_in n (by omega)
theorem eqS_self (s : ByteArray) : eqS s s = true := by unfold eqS; simp
theorem elems_new (S : Store) (k : Nat) (xs : List (List C)) (n : Nat) (h : n = xs.length) : elems (S ++ [⟨true, k, xs⟩]) (.sl S.length 0 n n) = some xs := by
  subst h; simp [elems]

/-- spec.l1In -/
theorem ev_l1In (x lo hi : Int) (S : Store) : EvA Try.prog 52 [.s (.int .i64 x), .s (.int .i64 lo), .s (.int .i64 hi)] S (fun r S' => r = .v (.s (.bool (decide (lo ≤ x) && decide (x ≤ hi)))) ∧ S' = S) := by
  refine evA_intro tok Try.func52 (by kernel_rfl) rfl ?_
  conv => whnf
  refine condP_intro (fun h => ?_) (fun h => ?_)
  · conv => whnf
    rw [h]; exact ⟨rfl, rfl⟩
  · conv => whnf
    rw [h]; exact ⟨rfl, rfl⟩

def evName (x : Nat) : ByteArray := ([[], [105, 110, 115, 116, 97, 108, 108], [114, 101, 109, 111, 118, 101], [117, 112, 100, 97, 116, 101], [108, 105, 109, 105, 116], [99, 108, 105, 99, 107], [103, 111], [116, 105, 99, 107], [112, 97, 103, 101], [119, 114, 105, 116, 101], [115, 116, 111, 114, 101]].map (fun l => (⟨l.toArray⟩ : ByteArray))).getD x ⟨#[]⟩
/-- the event's name, as both functions compute it -/
def evRes (x : Int) : ByteArray := bif decide (1 ≤ x) && decide (x ≤ 10) then evName x.toNat else ⟨#[]⟩
theorem ten {x : Int} (h : 1 ≤ x ∧ x ≤ 10) : x = 1 ∨ x = 2 ∨ x = 3 ∨ x = 4 ∨ x = 5 ∨ x = 6 ∨ x = 7 ∨ x = 8 ∨ x = 9 ∨ x = 10 := by omega
theorem evRes_out {x : Int} (h : ¬ (1 ≤ x ∧ x ≤ 10)) : evRes x = ⟨#[]⟩ := by
  unfold evRes
  have : (decide (1 ≤ x) && decide (x ≤ 10)) = false := by
    rw [Bool.and_eq_false_iff, decide_eq_false_iff_not, decide_eq_false_iff_not]; omega
  rw [this]; rfl

/-- impl.EventName -/
theorem ev_impl (x : Int) (S : Store) : EvA Try.prog 11 [.s (.int .i64 x)] S (fun r S' => r = .v (.s (.str (evRes x))) ∧ S' = S) := by
  refine evA_intro tok Try.func11 (by kernel_rfl) rfl ?_
  conv => whnf
  refine condP_intro (fun h => ?_) (fun h => ?_)
  · conv => whnf
    refine condP_true rfl ?_
    conv => whnf
    simp at h
    rw [evRes_out (by omega)]; exact ⟨rfl, rfl⟩
  · conv => whnf
    refine condP_intro (fun h2 => ?_) (fun h2 => ?_)
    · conv => whnf
      simp at h h2
      rw [evRes_out (by omega)]; exact ⟨rfl, rfl⟩
    · conv => whnf
      simp at h h2
      rw [wrapI_i64 (by omega)]
      refine needP_intro (by omega) ?_
      rcases ten ⟨h, h2⟩ with rfl | rfl | rfl | rfl | rfl | rfl | rfl | rfl | rfl | rfl <;> (conv => whnf) <;> exact ⟨rfl, rfl⟩

/-- spec.EventName -/
theorem ev_spec (x : Int) (S : Store) : EvA Try.prog 10 [.s (.int .i64 x)] S (fun r S' => r = .v (.s (.str (evRes x))) ∧ ∃ J, S' = S ++ J) := by
  refine evA_intro tok Try.func10 (by kernel_rfl) rfl ?_
  conv => whnf
  refine callP_eq (ev_l1In _ _ _ _) ?_
  conv => whnf
  refine condP_intro (fun h => ?_) (fun h => ?_)
  · conv => whnf
    simp at h
    rw [evRes_out (by omega)]; exact ⟨rfl, [], by simp⟩
  · conv => whnf
    simp at h
    rcases ten h with rfl | rfl | rfl | rfl | rfl | rfl | rfl | rfl | rfl | rfl <;> refine idxP_intro (elems_new _ _ _ _ rfl) (by omega) (by rfl) (by rfl) ?_ <;> (conv => whnf) <;>
      refine loadP_intro (elems_new _ _ _ _ rfl) (by rfl) (by omega) ?_ <;> (conv => whnf) <;> exact ⟨rfl, _, rfl⟩

/-- the law -/
theorem ev_law (x : Int) (S : Store) : EvA Try.prog 3 [.s (.int .i64 x)] S (fun r _ => r = .v (.s (.bool true))) := by
  refine evA_intro tok Try.func3 (by kernel_rfl) rfl ?_
  conv => whnf
  refine callP_intro (ev_spec _ _) fun r S' ⟨h, J, hJ⟩ => ?_
  subst h
  conv => whnf
  refine callP_eq (ev_impl _ _) ?_
  conv => whnf
  refine condP_false (by rw [eqS_self]; rfl) ?_
  conv => whnf
  rfl

theorem own : ownKnob Try.prog.godebug = none := by kernel_rfl
theorem laidOut : laidOutB Try.prog = true := by kernel_rfl

theorem ev_args (S : Store) (avs : List V) (h : All2 (VT Try.prog S 8) Try.f3.params.toList avs) : EvA Try.prog 3 avs S (fun r _ => r = .v (.s (.bool true))) := by
  rw [show Try.f3.params.toList = [3] from rfl] at h
  obtain ⟨v, _, rfl, h1, h2⟩ := all2_cons h
  obtain rfl := all2_nil h2
  obtain ⟨z, rfl, _⟩ := h1.int Try.underlying3
  exact ev_law z S

set_option maxRecDepth 100000 in
theorem ev_calls (H : Type) (enc : TypeId × Value → H) (W : World) (base : Nat) (args : Array Value) (ds gs : List (DataW H)) (before : List MemPlace)
    (hval : ∀ (j : Nat) t v, Try.f3.params[j]? = some t → args[j]? = some v → Value.okWide Try.prog W .any base t v)
    (hW : DataW.Whole enc Try.prog Try.f3.params.toList Rows.fnExactEventNameSpec.vars false W args.toList ds gs before) :
    Calls Try.prog 3 args W fun e W' => ∃ v, e = .returned v ∧ Rows.fnExactEventNameSpec.post enc Try.prog Try.f3 false true false false W args v W' :=
  law_calls (P := Try.prog) (f := 3) (fn := Try.f3) (s := Rows.fnExactEventNameSpec) (m := 8) laidOut (by kernel_rfl) (by kernel_rfl) rfl (fun H ds h => by
    have h : ds.length = 1 := h
    obtain ⟨d, rfl⟩ := List.length_eq_one_iff.1 h
    rfl) (tb := 4) rfl Try.underlying4 (fun S avs _ h => ev_args S avs h) hval hW

set_option maxRecDepth 100000 in
theorem ev_lifted (os : Os) (started : os.Started) (H : Type) (enc : TypeId × Value → H) :
    ReturnsInHanded {} Try.checked os 3 .any (Rows.fnExactEventNameSpec.pre6 enc Try.prog Try.f3 Rows.fnExactEventNameRow.domain false) (Rows.fnExactEventNameSpec.post enc Try.prog Try.f3 false true false false) :=
  returnsInHanded_of_change (C := Try.checked) own started (by kernel_rfl) Try.func3
    (ChangeSpec.witness6 (enc := enc) (C := Try.checked) false ⟨#[], #[.int .i64 0], []⟩ 8 (by kernel_rfl) (by kernel_rfl) (by kernel_rfl) (by kernel_rfl))
    (fun W base args ds gs before hval hW _ _ => ev_calls H enc W base args ds gs before hval hW)

theorem eventName_holds : Rows.FnExactEventNameSaid :=
  OpenClaim.holds_of_wide 3 Try.f3 rfl rfl rfl rfl rfl rfl rfl ⟨rfl, rfl, rfl, rfl, rfl⟩ rfl rfl rfl rfl rfl (by kernel_rfl) Try.func3 (by kernel_rfl)
    (of_decide_eq_true (by kernel_rfl)) (by unfold Func.isWrapper; first | (rw [if_pos (by decide +kernel)]; kernel_rfl) | (rw [if_neg (by decide +kernel)]; exact ⟨rfl, rfl⟩))
    (fun os started H enc _ => ev_lifted os started H enc)
end Go.Proofs.Ytffjmmccafgofaa
