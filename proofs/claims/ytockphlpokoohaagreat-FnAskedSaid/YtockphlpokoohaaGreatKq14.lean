/- A law: from what is computed of it to what its statement asks of the call. Regions whose order is open, 1: what one operation looks at, and what it does where only that agrees. -/
import Derived.Test.YtockphlpokoohaaGreatKq13
namespace Go.Proofs.YtockphlpokoohaaGreat
open Go Go.ChangeShapes Go.WideShapes Go.RowKit
set_option linter.unusedVariables false
set_option linter.unusedSimpArgs false
section
variable {P : Program} {w : World} {H : Type} {enc : TypeId × Value → H}
@[irreducible] def VT (P : Program) (S : Store) (m : Nat) (t : TypeId) (v : V) : Prop :=
  match P.underlying t with
  | some (.struct _) => ∃ cs, v = .agg cs ∧ WT P S m t cs
  | _ => ∃ c, v = .s c ∧ WT P S m t [c]
theorem VT.ext {S R : Store} {m : Nat} {t : TypeId} {v : V} (h : VT P S m t v) : VT P (S ++ R) m t v := by
  unfold VT at h ⊢
  split at h <;> obtain ⟨c, h1, h2⟩ := h <;> exact ⟨c, h1, h2.ext⟩
theorem argV {m : Nat} {t : TypeId} (hB : wtB P m t = true) {b0 : Nat} {v : Value} (hv : Value.okWide P w .any b0 t v) {d : DataW H} {ps : List MemPlace} (hd : DataW.Trod enc P w 0 (fun _ => true) true t v d ps) {μ : Mp} {S : Store} (hrs : RS μ S w) (hro : RO S) :
    ∃ μ' R av, Ent w μ S μ' R ∧ VR μ' (S ++ R) av v ∧ VT P (S ++ R) m t av := by
  obtain ⟨fuel, hf⟩ := hd
  obtain ⟨μ', R, cs, h1, h2, h3⟩ := entry m t hB fuel _ _ hf μ S hrs hro
  have one : v.cells = #[v] → (∀ fs, P.underlying t ≠ some (.struct fs)) → ∃ μ' R av, Ent w μ S μ' R ∧ VR μ' (S ++ R) av v ∧ VT P (S ++ R) m t av := by
    intro hc hns
    rw [hc] at h2
    have hlen := h2.1
    simp at hlen
    obtain ⟨c, rfl⟩ := List.length_eq_one_iff.1 hlen.symm
    obtain ⟨u, u1, u2⟩ := h2.2 0 c rfl
    simp at u1; subst u1
    refine ⟨μ', R, .s c, h1, u2, ?_⟩
    unfold VT
    split
    · rename_i fs hfs; exact absurd hfs (hns fs)
    · exact ⟨c, rfl, h3⟩
  cases m with
  | zero => cases hB
  | succ m =>
    unfold wtB at hB
    split at hB
    · rename_i ht
      obtain ⟨b, rfl⟩ := okWide_bool ht hv
      exact one rfl (fun fs hfs => by rw [ht] at hfs; cases hfs)
    · rename_i k ht
      obtain ⟨z, rfl⟩ := okWide_int ht hv
      exact one rfl (fun fs hfs => by rw [ht] at hfs; cases hfs)
    · rename_i ht
      obtain ⟨s, rfl⟩ := okWide_string ht hv
      exact one rfl (fun fs hfs => by rw [ht] at hfs; cases hfs)
    · rename_i e ht
      obtain ⟨a, len, cap, rfl⟩ := okWide_slice ht hv
      exact one rfl (fun fs hfs => by rw [ht] at hfs; cases hfs)
    · rename_i fs ht
      unfold Value.okWide at hv
      rw [ht] at hv
      obtain ⟨us, rfl, _, _⟩ := hv
      refine ⟨μ', R, .agg cs, h1, ⟨us, rfl, by have := h2.1; simpa [Value.cells] using this, fun j c hj => ?_⟩, ?_⟩
      · obtain ⟨u, u1, u2⟩ := h2.2 j c hj
        exact ⟨u, by simpa [Value.cells] using u1, u2⟩
      · unfold VT
        rw [ht]
        exact ⟨cs, rfl, h3⟩
    · cases hB
theorem argsV {m b0 : Nat} : ∀ (ts : List TypeId) (vs : List Value) (ds : List (DataW H)) (ps : List MemPlace), ts.all (wtB P m) = true → (∀ (j : Nat) t v, ts[j]? = some t → vs[j]? = some v → Value.okWide P w .any b0 t v) →
    DataW.TrodAll enc P w 0 (fun _ => true) true ts vs ds ps → ∀ μ S, RS μ S w → RO S → ∃ μ' R avs, Ent w μ S μ' R ∧ All2 (VR μ' (S ++ R)) avs vs ∧ All2 (VT P (S ++ R) m) ts avs
  | [], vs, ds, ps, _, _, h, μ, S, hrs, hro => by
    obtain ⟨rfl, rfl, rfl⟩ := trodAll_nil h
    exact ⟨μ, [], [], Ent.refl hrs, trivial, trivial⟩
  | t :: ts, vs, ds, ps, hB, hv, h, μ, S, hrs, hro => by
    obtain ⟨v, vs1, d, ds1, a, b, rfl, rfl, rfl, h1, h2⟩ := trodAll_cons h
    rw [List.all_cons, Bool.and_eq_true] at hB
    obtain ⟨μ1, R1, av, e1, r1, v1⟩ := argV hB.1 (hv 0 t v rfl rfl) h1 hrs hro
    obtain ⟨μ2, R2, avs, e2, r2, v2⟩ := argsV ts vs1 ds1 b hB.2 (fun j t v g1 g2 => hv (j + 1) t v (by simpa using g1) (by simpa using g2)) h2 μ1 (S ++ R1) e1.rs (hro.append e1.ro)
    refine ⟨μ2, R1 ++ R2, av :: avs, e1.trans e2, ?_, ?_⟩
    · rw [← List.append_assoc]; exact ⟨VR.keep e2.keeps r1, r2⟩
    · rw [← List.append_assoc]; exact ⟨v1.ext, v2⟩
theorem all2_nil {α β : Type} {R : α → β → Prop} {bs : List β} (h : All2 R [] bs) : bs = [] := by cases bs <;> first | rfl | exact h.elim
theorem all2_cons {α β : Type} {R : α → β → Prop} {a : α} {as : List α} {bs : List β} (h : All2 R (a :: as) bs) : ∃ b bs', bs = b :: bs' ∧ R a b ∧ All2 R as bs' := by
  cases bs with
  | nil => exact h.elim
  | cons b bs => exact ⟨b, bs, rfl, h.1, h.2⟩
theorem VT.int {S : Store} {m : Nat} {t : TypeId} {k : IntKind} {v : V} (ht : P.underlying t = some (.int k)) (h : VT P S (m + 1) t v) : ∃ z, v = .s (.int k z) ∧ (Lit.int k z).wf = true := by
  unfold VT WT at h
  rw [ht] at h
  obtain ⟨c, rfl, z, hz, hw⟩ := h
  simp only [List.cons.injEq, and_true] at hz
  subst hz
  exact ⟨z, rfl, hw⟩
theorem VT.bool {S : Store} {m : Nat} {t : TypeId} {v : V} (ht : P.underlying t = some .bool) (h : VT P S (m + 1) t v) : ∃ b, v = .s (.bool b) := by
  unfold VT WT at h
  rw [ht] at h
  obtain ⟨c, rfl, b, hb⟩ := h
  simp only [List.cons.injEq, and_true] at hb
  subst hb
  exact ⟨b, rfl⟩
theorem VT.string {S : Store} {m : Nat} {t : TypeId} {v : V} (ht : P.underlying t = some .string) (h : VT P S (m + 1) t v) : ∃ s, v = .s (.str s) ∧ s.size ≤ maxLen := by
  unfold VT WT at h
  rw [ht] at h
  obtain ⟨c, rfl, s, hs, hm⟩ := h
  simp only [List.cons.injEq, and_true] at hs
  subst hs
  exact ⟨s, rfl, hm⟩
theorem trodAll_stays (hl : laidOutB P = true) {W W' : World} {sp : Nat → Bool} : ∀ (ts : List TypeId) (vs : List Value) (ds : List (DataW H)) (ps : List MemPlace), ts.all (fun t => P.readableRec t && decide (t < P.types.size)) = true →
    DataW.TrodAll enc P W 0 (fun _ => true) true ts vs ds ps → (∀ p ∈ ps, W.sameAt W' p) → (∀ p ∈ ps, sp p.block = true) → DataW.TrodAll enc P W' 0 sp true ts vs ds ps
  | [], vs, ds, ps, _, h, _, _ => by
    obtain ⟨rfl, rfl, rfl⟩ := trodAll_nil h
    exact trodAll_mk0
  | t :: ts, vs, ds, ps, hr, h, hs, hp => by
    obtain ⟨v, vs1, d, ds1, a, b, rfl, rfl, rfl, h1, h2⟩ := trodAll_cons h
    rw [List.all_cons, Bool.and_eq_true] at hr
    have hr1 := hr.1
    rw [Bool.and_eq_true] at hr1
    exact ⟨a, b, WideElems.Trod_stays hl hr1.1 (of_decide_eq_true hr1.2) h1 (fun p hx => hs p (List.mem_append.2 (.inl hx))) (fun p hx => hp p (List.mem_append.2 (.inl hx))),
      trodAll_stays hl ts vs1 ds1 b hr.2 h2 (fun p hx => hs p (List.mem_append.2 (.inr hx))) (fun p hx => hp p (List.mem_append.2 (.inr hx))), rfl⟩
theorem trodAll_len : ∀ (ts : List TypeId) (vs : List Value) (ds : List (DataW H)) (ps : List MemPlace) {W : World} {b : Nat} {sp : Nat → Bool} {hd : Bool}, DataW.TrodAll enc P W b sp hd ts vs ds ps → ds.length = ts.length ∧ vs.length = ts.length
  | [], vs, ds, ps, _, _, _, _, h => by obtain ⟨rfl, rfl, rfl⟩ := trodAll_nil h; exact ⟨rfl, rfl⟩
  | t :: ts, vs, ds, ps, _, _, _, _, h => by
    obtain ⟨v, vs1, d, ds1, a, b, rfl, rfl, rfl, h1, h2⟩ := trodAll_cons h
    have := trodAll_len ts vs1 ds1 b h2
    simp [this.1, this.2]
theorem law_post {f : Func} {s : ChangeSpec} {W W' : World} {args : Array Value} {ds gs : List (DataW H)} {before : List MemPlace} (hW : DataW.Whole enc P f.params.toList s.vars false W args.toList ds gs before)
    (hl : laidOutB P = true) (hrd : f.params.toList.all (fun t => P.readableRec t && decide (t < P.types.size)) = true) (hv : s.vars = []) (hs : ∀ ds, ds.length = f.params.size → s.fn H ds = { results := [.lit (.bool true)], args := ds })
    {tb : TypeId} (hres : f.resultTypes = #[tb]) (htb : P.underlying tb = some .bool) (hb : Below W.heap.size W W') : s.post enc P f false true false false W args (.bool true) W' := by
  have hlt : ∀ p ∈ before, p.block < W.heap.size := fun p hp => by simpa using hW.lt p hp
  have hW' := hW
  obtain ⟨p, q, hA, hV, rfl, _, _⟩ := hW
  rw [hv] at hV
  obtain ⟨rfl, rfl⟩ := trodVars_none hV
  rw [List.append_nil] at hW' hlt
  have hlen := (trodAll_len _ _ _ _ hA).1
  have e := hs ds (by simpa using hlen)
  refine ⟨ds, [], p, [], p, [], hW', ?_, ?_, ?_, hb.frame _, fun h => by cases h⟩
  · rw [List.append_nil, e, hres]
    exact trodAll_mk1 (shut_bool htb true)
  · rw [List.append_nil, e]
    exact trodAll_stays hl _ _ _ _ hrd hA (fun x hx => hb.same (hlt x hx)) (fun x hx => by simpa using hlt x hx)
  · rw [hv, List.append_nil, e]
    rfl
theorem Evo.below {μ μ' : Mp} {S S' : Store} {w w' : World} (h : Evo μ S w μ' S' w') (hro : RO S) : Below w.heap.size w w' :=
  ⟨h.os, h.tape, h.output, h.size, fun k hk => h.block k hk fun id row m h1 h2 h3 => by rw [hro row (List.mem_of_getElem? h1)] at h3; cases h3⟩
theorem law_calls {f : Nat} {fn : Func} {s : ChangeSpec} (m : Nat) (hl : laidOutB P = true) (hrd : fn.params.toList.all (fun t => P.readableRec t && decide (t < P.types.size)) = true) (hB : fn.params.toList.all (wtB P m) = true) (hv : s.vars = [])
    (hs : ∀ (H : Type) (ds : List (DataW H)), ds.length = fn.params.size → s.fn H ds = { results := [.lit (.bool true)], args := ds }) {tb : TypeId} (hres : fn.resultTypes = #[tb]) (htb : P.underlying tb = some .bool)
    (hE : ∀ S avs, RO S → All2 (VT P S m) fn.params.toList avs → EvA P f avs S (fun r _ => r = .v (.s (.bool true))))
    {W : World} {base : Nat} {args : Array Value} {ds gs : List (DataW H)} {before : List MemPlace} (hval : ∀ (j : Nat) t v, fn.params[j]? = some t → args[j]? = some v → Value.okWide P W .any base t v)
    (hW : DataW.Whole enc P fn.params.toList s.vars false W args.toList ds gs before) (htab : Tab0 W) :
    Calls P f args W fun e W' => ∃ v, e = .returned v ∧ s.post enc P fn false true false false W args v W' := by
  have hW' := hW
  obtain ⟨p, q, hA, hV, rfl, _, _⟩ := hW
  have hrs : RS (fun _ => none) [] W := ⟨fun id row m h1 => by simp at h1, fun id id' row row' m m' h1 => by simp at h1⟩
  obtain ⟨μ, R, avs, e1, r1, v1⟩ := argsV (m := m) (b0 := base) _ _ _ _ hB (fun j t v h1 h2 => hval j t v (by simpa using h1) (by simpa using h2)) hA (fun _ => none) [] hrs (fun r hr => (nomatch hr))
  have hro : RO ([] ++ R) := RO.append (fun r hr => (nomatch hr)) e1.ro
  have hE1 := hE _ avs hro v1
  refine (hE1.2 μ W args e1.rs ⟨htab, fun g cs hg id row m h1 h2 h3 => by rw [hro row (List.mem_of_getElem? h1)] at h3; cases h3⟩ ⟨?_, fun j v hj => ?_⟩).mono fun e W' he => ?_
  · have := r1.len
    simpa using this
  · have hl := r1.len
    have hj' : j < args.toList.length := by rw [hl]; exact (List.getElem?_eq_some_iff.1 hj).1
    obtain ⟨a, g1, g2⟩ := r1.at j args.toList[j] (List.getElem?_eq_getElem hj')
    rw [hj] at g1; cases g1
    exact ⟨args.toList[j], by simp, g2⟩
  · obtain ⟨_, _, u, μ', rfl, rfl, _, hu, hev⟩ := he
    have hu : u = .bool true := hu
    subst hu
    exact ⟨_, rfl, law_post hW' hl hrd hv (hs H) hres htb (hev.below hro)⟩
end
end Go.Proofs.YtockphlpokoohaaGreat
namespace Go.Proofs.YtockphlpokoohaaGreat
open Go
set_option linter.unusedVariables false
set_option linter.unusedSimpArgs false
theorem getE_set {env : Env} {d t : Nat} {v : AV} : getE (env.set d v) t = if t = d ∧ d < env.length then v else getE env t := by
  unfold getE
  by_cases h : t = d
  · subst h
    by_cases hl : t < env.length
    · rw [if_pos ⟨rfl, hl⟩]; simp [hl]
    · rw [if_neg (fun x => hl x.2)]
      rw [List.set_eq_of_length_le (by omega)]
  · rw [if_neg (fun x => h x.1)]
    simp [Ne.symm h]
theorem getE_map {env : Env} {f : AV → AV} (hf : f .top = .top) {t : Nat} : getE (env.map f) t = f (getE env t) := by
  unfold getE
  rw [List.getD_eq_getElem?_getD, List.getD_eq_getElem?_getD, List.getElem?_map]
  cases env[t]? <;> simp [hf]
structure Ag (D : List Nat) (e e' : Env) : Prop where
  len : e.length = e'.length
  out : ∀ t, t ∉ D → getE e t = getE e' t
  nob : ∀ t, t ∈ D → ∀ cs, getE e' t ≠ .box cs
section
variable {T : TT} {EV : Nat → List V → Store → (AV → Store → Prop) → Prop} {D : List Nat} {e e' : Env} {S : Store}
theorem Ag.set (h : Ag D e e') (d : Nat) {v : AV} (hv : d ∈ D → ∀ cs, v ≠ .box cs) : Ag D (e.set d v) (e'.set d v) where
  len := by simp [h.len]
  out := fun t ht => by rw [getE_set, getE_set, h.len, h.out t ht]
  nob := fun t ht cs => by
    rw [getE_set]
    split
    · rename_i hh; exact hv (hh.1 ▸ ht) cs
    · exact h.nob t ht cs
theorem Ag.map (h : Ag D e e') (f : AV → AV) (hf : f .top = .top) (hb : ∀ x cs, f x = .box cs → x = .box cs) : Ag D (e.map f) (e'.map f) where
  len := by simp [h.len]
  out := fun t ht => by rw [getE_map hf, getE_map hf, h.out t ht]
  nob := fun t ht cs hx => by
    rw [getE_map hf] at hx
    exact h.nob t ht cs (hb _ _ hx)
theorem unplc_box (d : Nat) (x : AV) (cs : List C) (h : unplc d x = .box cs) : x = .box cs := by
  unfold unplc at h
  split at h
  · rename_i d' o
    cases hb : Nat.beq d' d <;> rw [hb] at h <;> cases h
  · exact h
theorem replV_box (t id : Nat) (x : AV) (cs : List C) (h : replV t id x = .box cs) : x = .box cs := by
  unfold replV at h
  split at h
  · rename_i d' o
    cases hb : Nat.beq d' t <;> rw [hb] at h <;> cases h
  · exact h
theorem Ag.opd (h : Ag D e e') {x : Operand} (hx : ∀ t, x = .tmp t → t ∉ D) : opd e x = opd e' x := by
  cases x with
  | tmp t => simp only [Go.Proofs.YtockphlpokoohaaGreat.opd, h.out t (hx t rfl)]
  | _ => rfl
theorem Ag.box (h : Ag D e e') {d : Nat} {cs : List C} (hd : getE e' d = .box cs) : getE e d = .box cs := by
  rw [h.out d fun hD => h.nob d hD cs hd, hd]
abbrev Sim (D : List Nat) {α : Type} (K' K : α → Env → Store → Prop) : Prop := ∀ x e e' S, Ag D e e' → K' x e' S → K x e S
theorem prom_ag {K' K : AV → Env → Store → Prop} (hK : Sim D K' K) (h : Ag D e e') {x : Operand} (hx : ∀ t, x = .tmp t → t ∉ D) (g : prom e' S x K') : prom e S x K := by
  unfold prom at g ⊢
  cases x with
  | tmp t =>
    simp only at g ⊢
    rw [h.out t (hx t rfl)]
    split at g
    · rename_i k xs hk
      simp only [putK_eq, putE] at g ⊢
      exact hK _ _ _ _ (h.set t (fun hD => absurd hD (hx t rfl))) g
    · rw [h.opd hx]; exact hK _ _ _ _ h g
  | _ => exact hK _ _ _ _ h (by simpa [h.opd hx] using g)
theorem promV_ag {K' K : V → Env → Store → Prop} (hK : Sim D K' K) (h : Ag D e e') {x : Operand} (hx : ∀ t, x = .tmp t → t ∉ D) (g : promV e' S x K') : promV e S x K := by
  unfold promV at g ⊢
  refine prom_ag (fun v e e' S h g => ?_) h hx g
  split at g
  · exact hK _ _ _ _ h g
  · rename_i d
    split at g
    · rename_i cs hcs
      simp only [h.box hcs]
      unfold promBoxK at g ⊢
      simp only [replK_eq, force_eq] at g ⊢
      exact hK _ _ _ _ ((h.map _ rfl (replV_box d S.length)).set d (fun _ cs => by simp)) g
    · exact g.elim
  · exact g.elim
theorem promVs_ag : ∀ {xs : List Operand} {K' K : List V → Env → Store → Prop} {e e' : Env} {S : Store}, Sim D K' K → Ag D e e' → (∀ t, .tmp t ∈ xs → t ∉ D) → promVs e' S xs K' → promVs e S xs K
  | [], _, _, _, _, _, hK, h, _, g => hK _ _ _ _ h g
  | x :: r, K', K, _, _, _, hK, h, hx, g =>
    promV_ag (K' := fun v e S => promVs e S r fun vs e S => K' (v :: vs) e S) (K := fun v e S => promVs e S r fun vs e S => K (v :: vs) e S)
      (fun v e e' S h g => promVs_ag (fun vs e e' S h g => hK _ _ _ _ h g) h (fun t ht => hx t (List.mem_cons_of_mem _ ht)) g) h (fun t ht => hx t (by simp [ht])) g
theorem srcOf_ag {K : List (List C) → Prop} (h : Ag D e e') {x : Operand} (hx : ∀ t, x = .tmp t → t ∉ D) (g : srcOf e' S x K) : srcOf e S x K := by
  unfold srcOf at g ⊢
  split at g
  · rename_i t
    simp only [h.out t (hx t rfl)]; exact g
  · exact g
  · exact g.elim
theorem dStore_ag {K' K : Env → Store → Prop} (hK : ∀ e e' S, Ag D e e' → K' e' S → K e S) (h : Ag D e e') {ys : List C} {loc : AV} (g : dStore e' S ys K' loc) : dStore e S ys K loc := by
  unfold dStore at g ⊢
  split at g
  · rename_i d o
    split at g
    · rename_i cs hcs
      simp only [h.box hcs]
      cases hb : Nat.ble (o + ys.length) cs.length with
      | true =>
        simp only [hb, cond_true, putK_eq, putE] at g ⊢
        exact hK _ _ _ (h.set d (fun hD => absurd hcs (h.nob d hD cs))) g
      | false => simp [hb] at g
    · exact g.elim
  · unfold StoP at g ⊢
    obtain ⟨id, o', n, t, row, cs, h1, h2, h3, h4, h5, h6, h7, h8, h9, g⟩ := g
    exact ⟨id, o', n, t, row, cs, h1, h2, h3, h4, h5, h6, h7, h8, h9, hK _ _ _ h g⟩
  · unfold RowP NeedP at g ⊢
    obtain ⟨row, cs, h1, h2, h3, h4, g⟩ := g
    exact ⟨row, cs, h1, h2, h3, h4, hK _ _ _ h g⟩
  · unfold RowP NeedP at g ⊢
    obtain ⟨row, cs, h1, h2, h3, h4, g⟩ := g
    exact ⟨row, cs, h1, h2, h3, h4, hK _ _ _ h g⟩
  · exact g.elim
end
def opTs (o : Op) : List Nat := o.operands.toList.filterMap fun | .tmp t => some t | _ => none
theorem opTs_mem {o : Op} {t : Nat} (h : .tmp t ∈ o.operands) : t ∈ opTs o := List.mem_filterMap.2 ⟨.tmp t, by simpa using h, rfl⟩
def isSt : Op → Bool
  | .call { callee := .value _, .. } => true
  | .call { callee := .builtin .append, .. } => true
  | .store _ _ _ | .assign _ | .move _ | .build _ _ | .box _ _ | .makeSlice _ _ _ => true
  | _ => false
section
variable {T : TT} {EV : Nat → List V → Store → (AV → Store → Prop) → Prop} {D : List Nat} {S : Store}
theorem callP_mono {f : Nat} {vs : List V} {K K' : AV → Store → Prop} (h : ∀ r S, K r S → K' r S) (g : CallP EV f vs S K) : CallP EV f vs S K' := by
  unfold CallP at g ⊢
  obtain ⟨R, h1, h2⟩ := g
  exact ⟨R, h1, fun r S' hr => h _ _ (h2 r S' hr)⟩
theorem appP_mono {k by' : Nat} {c : C} {ys : List (List C)} {K K' : C → Store → Prop} (h : ∀ r S, K r S → K' r S) (g : AppP k by' S c ys K) : AppP k by' S c ys K' := by
  unfold AppP at g ⊢
  refine ⟨g.1, ?_⟩
  rcases g.2 with ⟨h1, h2, h3, h4⟩ | ⟨h1, h2, h3, h4⟩ | ⟨id, xs, h1, h2, h3, h4⟩
  · exact .inl ⟨h1, h2, fun e => h _ _ (h3 e), fun e => h _ _ (h4 e)⟩
  · exact .inr (.inl ⟨h1, h2, fun e => h _ _ (h3 e), fun e => h _ _ (h4 e)⟩)
  · exact .inr (.inr ⟨id, xs, h1, h2, h3, h _ _ h4⟩)
theorem srcOf_mono {e : Env} {x : Operand} {K K' : List (List C) → Prop} (h : ∀ l, K l → K' l) (g : srcOf e S x K) : srcOf e S x K' := by
  unfold srcOf at g ⊢
  split at g
  · split at g
    · exact h _ g
    · unfold ElemsP at g ⊢
      obtain ⟨l, h1, h2⟩ := g
      exact ⟨l, h1, h _ h2⟩
    · exact g.elim
  · exact h _ g
  · exact g.elim
theorem dOp_ag {o : Op} (ho : isSt o = true) {dst : Option Nat} {K' K : Env → Store → Prop} (hK : ∀ e e' S, Ag D e e' → K' e' S → K e S) {e e' : Env} (h : Ag D e e') (hD : ∀ t ∈ opTs o, t ∉ D) (hd : ∀ d, dst = some d → d ∉ D)
    (g : dOp T EV o dst e' S K') : dOp T EV o dst e S K := by
  have hop : ∀ x, x ∈ o.operands → ∀ t, x = .tmp t → t ∉ D := fun x hx t ht => hD t (opTs_mem (ht ▸ hx))
  have put : ∀ (v : AV) (e e' : Env) (S : Store), Ag D e e' → (putK e' dst v fun e' => K' e' S) → putK e dst v fun e => K e S := by
    intro v e e' S h g
    rw [putK_eq] at g ⊢
    cases dst with
    | none => exact hK _ _ _ h g
    | some d => exact hK _ _ _ (h.set d (fun hx => absurd hx (hd d rfl))) g
  cases o <;> first | cases ho | skip
  case move x =>
    simp only [dOp] at g ⊢
    exact prom_ag (K' := fun v e S => putK e dst v fun e => K' e S) (fun v e e' S h g => put _ _ _ _ h g) h (fun t ht => hop x (by simp [Op.operands]) t ht) g
  case assign x =>
    simp only [dOp] at g ⊢
    exact prom_ag (K' := fun v e S => putK e dst v fun e => K' e S) (fun v e e' S h g => put _ _ _ _ h g) h (fun t ht => hop x (by simp [Op.operands]) t ht) g
  case box t x =>
    simp only [dOp] at g ⊢
    split at g
    · rename_i d
      refine promV_ag (fun v e e' S h g => ?_) h (fun t ht => hop x (by simp [Op.operands]) t ht) g
      simp only [forceL_eq, unplcK_eq, force_eq] at g ⊢
      exact hK _ _ _ ((h.map _ rfl (unplc_box d)).set d (fun hx => absurd hx (hd d rfl))) g
    · exact g.elim
  case build t parts =>
    simp only [dOp] at g ⊢
    refine promVs_ag (fun vs e e' S h g => ?_) h (fun t ht => hop (.tmp t) (by simpa [Op.operands] using ht) t rfl) g
    split at g
    · split at g
      · exact put _ _ _ _ h g
      · exact g.elim
    · split at g
      · split at g
        · exact put _ _ _ _ h g
        · exact g.elim
      · exact g.elim
    · exact g.elim
  case store t x y =>
    simp only [dOp] at g ⊢
    split at g
    · exact g.elim
    · refine promV_ag (fun v e1 e1' S h1 g => ?_) h (fun t ht => hop y (by simp [Op.operands]) t ht) g
      rw [h1.opd (x := x) (fun t ht => hop x (by simp [Op.operands]) t ht)]
      split at g
      · rename_i ti _
        cases hb : Nat.beq v.cells.length ti.sz with
        | true => rw [hb] at g; exact dStore_ag hK h1 g
        | false => rw [hb] at g; exact g.elim
      · exact g.elim
  case makeSlice t l c =>
    cases hl : ciOf l with
    | none =>
      simp only [dOp, hl] at g ⊢
      rw [h.opd (x := l) (fun t ht => hop l (by simp [Op.operands]) t ht), h.opd (x := c) (fun t ht => hop c (by simp [Op.operands]) t ht)]
      split at g
      · split at g
        · split at g
          · unfold NeedP at g ⊢
            exact ⟨g.1, put _ _ _ _ h g.2⟩
          · exact g.elim
        · exact g.elim
      · exact g.elim
    | some n =>
      cases hc : ciOf c with
      | none =>
        simp only [dOp, hl, hc] at g ⊢
        rw [h.opd (x := l) (fun t ht => hop l (by simp [Op.operands]) t ht), h.opd (x := c) (fun t ht => hop c (by simp [Op.operands]) t ht)]
        split at g
        · split at g
          · split at g
            · unfold NeedP at g ⊢
              exact ⟨g.1, put _ _ _ _ h g.2⟩
            · exact g.elim
          · exact g.elim
        · exact g.elim
      | some n' =>
        cases dst with
        | none =>
          simp only [dOp, hl, hc] at g ⊢
          rw [h.opd (x := l) (fun t ht => hop l (by simp [Op.operands]) t ht), h.opd (x := c) (fun t ht => hop c (by simp [Op.operands]) t ht)]
          split at g
          · split at g
            · split at g
              · unfold NeedP at g ⊢
                exact ⟨g.1, put _ _ _ _ h g.2⟩
              · exact g.elim
            · exact g.elim
          · exact g.elim
        | some d =>
          simp only [dOp, hl, hc] at g ⊢
          split at g
          · split at g
            · unfold NeedP at g ⊢
              refine ⟨g.1, ?_⟩
              have g2 := g.2
              simp only [force_eq] at g2 ⊢
              exact hK _ _ _ (h.set d (fun hx => absurd hx (hd d rfl))) g2
            · exact g.elim
          · exact g.elim
  case call c =>
    obtain ⟨callee, args, ats⟩ := c
    cases callee with
    | invoke r m => cases ho
    | value f =>
      simp only [dOp] at g ⊢
      rw [h.opd (x := f) (fun t ht => hop f (by simp [Op.operands, Call.operands]) t ht)]
      split at g
      · refine promVs_ag (fun vs e e' S h g => ?_) h (fun t ht => hop (.tmp t) (by simp [Op.operands, Call.operands]; exact .inr (by simpa using ht)) t rfl) g
        exact callP_mono (fun r S g => put _ _ _ _ h g) g
      · exact g.elim
    | builtin b =>
      cases b <;> first | cases ho | skip
      simp only [dOp] at g ⊢
      unfold dBuiltin at g ⊢
      have ho2 : ∀ x, x ∈ args.toList → ∀ t, x = .tmp t → t ∉ D := fun x hx t ht => hop x (by simp [Op.operands, Call.operands]; simpa using hx) t ht
      generalize args.toList = as at *
      generalize ats.toList = ts at *
      split at g
      · simp at *
      · rename_i s x _
        split at g
        · rename_i t t'
          cases hb : Nat.beq t' t with
          | false => rw [hb] at g; exact g.elim
          | true =>
            rw [hb] at g
            simp only [cond_true] at g ⊢
            split at g
            · split at g
              · refine promV_ag (fun v e1 e1' S h1 g => ?_) h (fun t ht => ho2 s (by simp) t ht) g
                split at g
                · refine srcOf_ag h1 (fun t ht => ho2 x (by simp) t ht) ?_
                  exact srcOf_mono (fun l g => appP_mono (fun c S g => put _ _ _ _ h1 g) g) g
                · exact g.elim
              · exact g.elim
            · exact g.elim
        · exact g.elim
      all_goals first | exact g.elim | simp at *
theorem dOpD_ag {o : Op} (ho : isSt o = true) {dst : Option Nat} {K' K : Env → Store → Prop} (hK : ∀ e e' S, Ag D e e' → K' e' S → K e S) {e e' : Env} (h : Ag D e e') (hD : ∀ t ∈ opTs o, t ∉ D) (hd : ∀ d, dst = some d → d ∉ D)
    (g : dOpD T EV o dst e' S K') : dOpD T EV o dst e S K := by
  cases o <;> first | (cases ho; done) | (exact dOp_ag (T := T) (EV := EV) ho hK h hD hd g) | skip
  case store t x y =>
    cases x with
    | tmp d =>
      have hdD : d ∉ D := hD d (opTs_mem (by simp [Op.operands]))
      simp only [dOpD] at g ⊢
      rw [h.out d hdD]
      cases hx : getE e' d with
      | nb cs =>
        rw [hx] at g
        simp only [unplcK_eq, force_eq] at g ⊢
        exact dOp_ag (T := T) (EV := EV) rfl hK ((h.map _ rfl (unplc_box d)).set d (fun hx => absurd hx hdD)) hD hd g
      | _ => rw [hx] at g; exact dOp_ag (T := T) (EV := EV) rfl hK h hD hd g
    | _ => exact dOp_ag (T := T) (EV := EV) rfl hK h hD hd g
end
end Go.Proofs.YtockphlpokoohaaGreat
