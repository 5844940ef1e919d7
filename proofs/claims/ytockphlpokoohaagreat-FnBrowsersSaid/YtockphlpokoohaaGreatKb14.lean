/- A law: from what is computed of it to what its statement asks of the call. -/
import Derived.Test.YtockphlpokoohaaGreatKb13
namespace Go.Proofs.YtockphlpokoohaaGreat
open Go Go.ChangeShapes Go.WideShapes Go.RowKit
set_option linter.unusedVariables false
set_option linter.unusedSimpArgs false
section
variable {P : Program} {w : World} {H : Type} {enc : TypeId × Value → H}
@[irreducible] def VT (P : Program) (S : Store) (m : Nat) (t : TypeId) (v : V) : Prop :=
  match P.underlying t with
  | some (.struct _) => ∃ cs, v = .agg cs ∧ WT P S m t cs
  | _ => ∃ c, v = .s c ∧ WT P S m t [c]
theorem VT.ext {S R : Store} {m : Nat} {t : TypeId} {v : V} (h : VT P S m t v) : VT P (S ++ R) m t v := by
  unfold VT at h ⊢
  split at h <;> obtain ⟨c, h1, h2⟩ := h <;> exact ⟨c, h1, h2.ext⟩
theorem argV {m : Nat} {t : TypeId} (hB : wtB P m t = true) {b0 : Nat} {v : Value} (hv : Value.okWide P w .any b0 t v) {d : DataW H} {ps : List MemPlace} (hd : DataW.Trod enc P w 0 (fun _ => true) true t v d ps) {μ : Mp} {S : Store} (hrs : RS μ S w) (hro : RO S) :
    ∃ μ' R av, Ent w μ S μ' R ∧ VR μ' (S ++ R) av v ∧ VT P (S ++ R) m t av := by
  obtain ⟨fuel, hf⟩ := hd
  obtain ⟨μ', R, cs, h1, h2, h3⟩ := entry m t hB fuel _ _ hf μ S hrs hro
  have one : v.cells = #[v] → (∀ fs, P.underlying t ≠ some (.struct fs)) → ∃ μ' R av, Ent w μ S μ' R ∧ VR μ' (S ++ R) av v ∧ VT P (S ++ R) m t av := by
    intro hc hns
    rw [hc] at h2
    have hlen := h2.1
    simp at hlen
    obtain ⟨c, rfl⟩ := List.length_eq_one_iff.1 hlen.symm
    obtain ⟨u, u1, u2⟩ := h2.2 0 c rfl
    simp at u1; subst u1
    refine ⟨μ', R, .s c, h1, u2, ?_⟩
    unfold VT
    split
    · rename_i fs hfs; exact absurd hfs (hns fs)
    · exact ⟨c, rfl, h3⟩
  cases m with
  | zero => cases hB
  | succ m =>
    unfold wtB at hB
    split at hB
    · rename_i ht
      obtain ⟨b, rfl⟩ := okWide_bool ht hv
      exact one rfl (fun fs hfs => by rw [ht] at hfs; cases hfs)
    · rename_i k ht
      obtain ⟨z, rfl⟩ := okWide_int ht hv
      exact one rfl (fun fs hfs => by rw [ht] at hfs; cases hfs)
    · rename_i ht
      obtain ⟨s, rfl⟩ := okWide_string ht hv
      exact one rfl (fun fs hfs => by rw [ht] at hfs; cases hfs)
    · rename_i e ht
      obtain ⟨a, len, cap, rfl⟩ := okWide_slice ht hv
      exact one rfl (fun fs hfs => by rw [ht] at hfs; cases hfs)
    · rename_i fs ht
      unfold Value.okWide at hv
      rw [ht] at hv
      obtain ⟨us, rfl, _, _⟩ := hv
      refine ⟨μ', R, .agg cs, h1, ⟨us, rfl, by have := h2.1; simpa [Value.cells] using this, fun j c hj => ?_⟩, ?_⟩
      · obtain ⟨u, u1, u2⟩ := h2.2 j c hj
        exact ⟨u, by simpa [Value.cells] using u1, u2⟩
      · unfold VT
        rw [ht]
        exact ⟨cs, rfl, h3⟩
    · cases hB
theorem argsV {m b0 : Nat} : ∀ (ts : List TypeId) (vs : List Value) (ds : List (DataW H)) (ps : List MemPlace), ts.all (wtB P m) = true → (∀ (j : Nat) t v, ts[j]? = some t → vs[j]? = some v → Value.okWide P w .any b0 t v) →
    DataW.TrodAll enc P w 0 (fun _ => true) true ts vs ds ps → ∀ μ S, RS μ S w → RO S → ∃ μ' R avs, Ent w μ S μ' R ∧ All2 (VR μ' (S ++ R)) avs vs ∧ All2 (VT P (S ++ R) m) ts avs
  | [], vs, ds, ps, _, _, h, μ, S, hrs, hro => by
    obtain ⟨rfl, rfl, rfl⟩ := trodAll_nil h
    exact ⟨μ, [], [], Ent.refl hrs, trivial, trivial⟩
  | t :: ts, vs, ds, ps, hB, hv, h, μ, S, hrs, hro => by
    obtain ⟨v, vs1, d, ds1, a, b, rfl, rfl, rfl, h1, h2⟩ := trodAll_cons h
    rw [List.all_cons, Bool.and_eq_true] at hB
    obtain ⟨μ1, R1, av, e1, r1, v1⟩ := argV hB.1 (hv 0 t v rfl rfl) h1 hrs hro
    obtain ⟨μ2, R2, avs, e2, r2, v2⟩ := argsV ts vs1 ds1 b hB.2 (fun j t v g1 g2 => hv (j + 1) t v (by simpa using g1) (by simpa using g2)) h2 μ1 (S ++ R1) e1.rs (hro.append e1.ro)
    refine ⟨μ2, R1 ++ R2, av :: avs, e1.trans e2, ?_, ?_⟩
    · rw [← List.append_assoc]; exact ⟨VR.keep e2.keeps r1, r2⟩
    · rw [← List.append_assoc]; exact ⟨v1.ext, v2⟩
theorem all2_nil {α β : Type} {R : α → β → Prop} {bs : List β} (h : All2 R [] bs) : bs = [] := by cases bs <;> first | rfl | exact h.elim
theorem all2_cons {α β : Type} {R : α → β → Prop} {a : α} {as : List α} {bs : List β} (h : All2 R (a :: as) bs) : ∃ b bs', bs = b :: bs' ∧ R a b ∧ All2 R as bs' := by
  cases bs with
  | nil => exact h.elim
  | cons b bs => exact ⟨b, bs, rfl, h.1, h.2⟩
theorem VT.int {S : Store} {m : Nat} {t : TypeId} {k : IntKind} {v : V} (ht : P.underlying t = some (.int k)) (h : VT P S (m + 1) t v) : ∃ z, v = .s (.int k z) ∧ (Lit.int k z).wf = true := by
  unfold VT WT at h
  rw [ht] at h
  obtain ⟨c, rfl, z, hz, hw⟩ := h
  simp only [List.cons.injEq, and_true] at hz
  subst hz
  exact ⟨z, rfl, hw⟩
theorem VT.bool {S : Store} {m : Nat} {t : TypeId} {v : V} (ht : P.underlying t = some .bool) (h : VT P S (m + 1) t v) : ∃ b, v = .s (.bool b) := by
  unfold VT WT at h
  rw [ht] at h
  obtain ⟨c, rfl, b, hb⟩ := h
  simp only [List.cons.injEq, and_true] at hb
  subst hb
  exact ⟨b, rfl⟩
theorem VT.string {S : Store} {m : Nat} {t : TypeId} {v : V} (ht : P.underlying t = some .string) (h : VT P S (m + 1) t v) : ∃ s, v = .s (.str s) ∧ s.size ≤ maxLen := by
  unfold VT WT at h
  rw [ht] at h
  obtain ⟨c, rfl, s, hs, hm⟩ := h
  simp only [List.cons.injEq, and_true] at hs
  subst hs
  exact ⟨s, rfl, hm⟩
theorem trodAll_stays (hl : laidOutB P = true) {W W' : World} {sp : Nat → Bool} : ∀ (ts : List TypeId) (vs : List Value) (ds : List (DataW H)) (ps : List MemPlace), ts.all (fun t => P.readableRec t && decide (t < P.types.size)) = true →
    DataW.TrodAll enc P W 0 (fun _ => true) true ts vs ds ps → (∀ p ∈ ps, W.sameAt W' p) → (∀ p ∈ ps, sp p.block = true) → DataW.TrodAll enc P W' 0 sp true ts vs ds ps
  | [], vs, ds, ps, _, h, _, _ => by
    obtain ⟨rfl, rfl, rfl⟩ := trodAll_nil h
    exact trodAll_mk0
  | t :: ts, vs, ds, ps, hr, h, hs, hp => by
    obtain ⟨v, vs1, d, ds1, a, b, rfl, rfl, rfl, h1, h2⟩ := trodAll_cons h
    rw [List.all_cons, Bool.and_eq_true] at hr
    have hr1 := hr.1
    rw [Bool.and_eq_true] at hr1
    exact ⟨a, b, WideElems.Trod_stays hl hr1.1 (of_decide_eq_true hr1.2) h1 (fun p hx => hs p (List.mem_append.2 (.inl hx))) (fun p hx => hp p (List.mem_append.2 (.inl hx))),
      trodAll_stays hl ts vs1 ds1 b hr.2 h2 (fun p hx => hs p (List.mem_append.2 (.inr hx))) (fun p hx => hp p (List.mem_append.2 (.inr hx))), rfl⟩
theorem trodAll_len : ∀ (ts : List TypeId) (vs : List Value) (ds : List (DataW H)) (ps : List MemPlace) {W : World} {b : Nat} {sp : Nat → Bool} {hd : Bool}, DataW.TrodAll enc P W b sp hd ts vs ds ps → ds.length = ts.length ∧ vs.length = ts.length
  | [], vs, ds, ps, _, _, _, _, h => by obtain ⟨rfl, rfl, rfl⟩ := trodAll_nil h; exact ⟨rfl, rfl⟩
  | t :: ts, vs, ds, ps, _, _, _, _, h => by
    obtain ⟨v, vs1, d, ds1, a, b, rfl, rfl, rfl, h1, h2⟩ := trodAll_cons h
    have := trodAll_len ts vs1 ds1 b h2
    simp [this.1, this.2]
theorem law_post {f : Func} {s : ChangeSpec} {W W' : World} {args : Array Value} {ds gs : List (DataW H)} {before : List MemPlace} (hW : DataW.Whole enc P f.params.toList s.vars false W args.toList ds gs before)
    (hl : laidOutB P = true) (hrd : f.params.toList.all (fun t => P.readableRec t && decide (t < P.types.size)) = true) (hv : s.vars = []) (hs : ∀ ds, ds.length = f.params.size → s.fn H ds = { results := [.lit (.bool true)], args := ds })
    {tb : TypeId} (hres : f.resultTypes = #[tb]) (htb : P.underlying tb = some .bool) (hb : Below W.heap.size W W') : s.post enc P f false true false false W args (.bool true) W' := by
  have hlt : ∀ p ∈ before, p.block < W.heap.size := fun p hp => by simpa using hW.lt p hp
  have hW' := hW
  obtain ⟨p, q, hA, hV, rfl, _, _⟩ := hW
  rw [hv] at hV
  obtain ⟨rfl, rfl⟩ := trodVars_none hV
  rw [List.append_nil] at hW' hlt
  have hlen := (trodAll_len _ _ _ _ hA).1
  have e := hs ds (by simpa using hlen)
  refine ⟨ds, [], p, [], p, [], hW', ?_, ?_, ?_, hb.frame _, fun h => by cases h⟩
  · rw [List.append_nil, e, hres]
    exact trodAll_mk1 (shut_bool htb true)
  · rw [List.append_nil, e]
    exact trodAll_stays hl _ _ _ _ hrd hA (fun x hx => hb.same (hlt x hx)) (fun x hx => by simpa using hlt x hx)
  · rw [hv, List.append_nil, e]
    rfl
theorem Evo.below {μ μ' : Mp} {S S' : Store} {w w' : World} (h : Evo μ S w μ' S' w') (hro : RO S) : Below w.heap.size w w' :=
  ⟨h.os, h.tape, h.output, h.size, fun k hk => h.block k hk fun id row m h1 h2 h3 => by rw [hro row (List.mem_of_getElem? h1)] at h3; cases h3⟩
theorem law_calls {f : Nat} {fn : Func} {s : ChangeSpec} (m : Nat) (hl : laidOutB P = true) (hrd : fn.params.toList.all (fun t => P.readableRec t && decide (t < P.types.size)) = true) (hB : fn.params.toList.all (wtB P m) = true) (hv : s.vars = [])
    (hs : ∀ (H : Type) (ds : List (DataW H)), ds.length = fn.params.size → s.fn H ds = { results := [.lit (.bool true)], args := ds }) {tb : TypeId} (hres : fn.resultTypes = #[tb]) (htb : P.underlying tb = some .bool)
    (hE : ∀ S avs, RO S → All2 (VT P S m) fn.params.toList avs → EvA P f avs S (fun r _ => r = .v (.s (.bool true))))
    {W : World} {base : Nat} {args : Array Value} {ds gs : List (DataW H)} {before : List MemPlace} (hval : ∀ (j : Nat) t v, fn.params[j]? = some t → args[j]? = some v → Value.okWide P W .any base t v)
    (hW : DataW.Whole enc P fn.params.toList s.vars false W args.toList ds gs before) (htab : Tab0 W) :
    Calls P f args W fun e W' => ∃ v, e = .returned v ∧ s.post enc P fn false true false false W args v W' := by
  have hW' := hW
  obtain ⟨p, q, hA, hV, rfl, _, _⟩ := hW
  have hrs : RS (fun _ => none) [] W := ⟨fun id row m h1 => by simp at h1, fun id id' row row' m m' h1 => by simp at h1⟩
  obtain ⟨μ, R, avs, e1, r1, v1⟩ := argsV (m := m) (b0 := base) _ _ _ _ hB (fun j t v h1 h2 => hval j t v (by simpa using h1) (by simpa using h2)) hA (fun _ => none) [] hrs (fun r hr => (nomatch hr))
  have hro : RO ([] ++ R) := RO.append (fun r hr => (nomatch hr)) e1.ro
  have hE1 := hE _ avs hro v1
  refine (hE1.2 μ W args e1.rs ⟨htab, fun g cs hg id row m h1 h2 h3 => by rw [hro row (List.mem_of_getElem? h1)] at h3; cases h3⟩ ⟨?_, fun j v hj => ?_⟩).mono fun e W' he => ?_
  · have := r1.len
    simpa using this
  · have hl := r1.len
    have hj' : j < args.toList.length := by rw [hl]; exact (List.getElem?_eq_some_iff.1 hj).1
    obtain ⟨a, g1, g2⟩ := r1.at j args.toList[j] (List.getElem?_eq_getElem hj')
    rw [hj] at g1; cases g1
    exact ⟨args.toList[j], by simp, g2⟩
  · obtain ⟨_, _, u, μ', rfl, rfl, _, hu, hev⟩ := he
    have hu : u = .bool true := hu
    subst hu
    exact ⟨_, rfl, law_post hW' hl hrd hv (hs H) hres htb (hev.below hro)⟩
end
end Go.Proofs.YtockphlpokoohaaGreat
