/- The longer operations: literals, calls, conversions, slicings. -/
import Derived.Test.YtlmmdpmmdmhacaaGreatKm07
import Derived.Laws.BytesArg
namespace Go.Proofs.YtlmmdpmmdmhacaaGreat
open Go
set_option linter.unusedVariables false
set_option linter.unusedSimpArgs false
theorem foldl_set_at (off : Nat) : ∀ (l : List Value) (k : Nat) (cs : Array Value), off + k + l.length ≤ cs.size →
    ((l.zipIdx k).foldl (fun cs (x : Value × Nat) => cs.setIfInBounds (off + x.2) x.1) cs).size = cs.size ∧
    ∀ j : Nat, ((l.zipIdx k).foldl (fun cs (x : Value × Nat) => cs.setIfInBounds (off + x.2) x.1) cs)[j]? = if off + k ≤ j ∧ j < off + k + l.length then l[j - (off + k)]? else cs[j]?
  | [], k, cs, _ => by
    refine ⟨rfl, fun j => ?_⟩
    rw [if_neg (by simp)]
    rfl
  | x :: l, k, cs, h => by
    simp only [List.length_cons] at h
    rw [List.zipIdx_cons, List.foldl_cons]
    obtain ⟨h1, h2⟩ := foldl_set_at off l (k + 1) (cs.setIfInBounds (off + k) x) (by simp; omega)
    refine ⟨by rw [h1]; simp, fun j => ?_⟩
    rw [h2 j, List.length_cons]
    by_cases e : j = off + k
    · subst e
      rw [if_neg (by omega), if_pos (by omega), Nat.sub_self]
      rw [Array.getElem?_setIfInBounds, if_pos rfl, if_pos (by omega)]
      rfl
    · by_cases g : off + k + 1 ≤ j ∧ j < off + k + 1 + l.length
      · rw [if_pos (by omega), if_pos (by omega)]
        obtain ⟨m, hm⟩ : ∃ m, j - (off + k) = m + 1 := ⟨j - (off + k) - 1, by omega⟩
        rw [hm, List.getElem?_cons_succ]
        congr 1
        omega
      · rw [if_neg (by omega), if_neg (by omega), Array.getElem?_setIfInBounds, if_neg (by omega)]
def fillOne (off : Nat) (cells v : Array Value) : Array Value := v.zipIdx.foldl (fun cs (x : Value × Nat) => cs.setIfInBounds (off + x.2) x.1) cells
theorem fillOne_at (off : Nat) (cells v : Array Value) (h : off + v.size ≤ cells.size) :
    (fillOne off cells v).size = cells.size ∧ ∀ j : Nat, (fillOne off cells v)[j]? = if off ≤ j ∧ j < off + v.size then v[j - off]? else cells[j]? := by
  have e : fillOne off cells v = (v.toList.zipIdx 0).foldl (fun cs (x : Value × Nat) => cs.setIfInBounds (off + x.2) x.1) cells := by
    unfold fillOne
    rw [← Array.foldl_toList, Array.toList_zipIdx]
  have := foldl_set_at off v.toList 0 cells (by simpa using h)
  rw [e]
  simpa using this
theorem fill_cons {place : Nat → Option (Nat × Nat)} {cells : Array Value} {i : Nat} {v : Value} {rest : List (Nat × Value)} {o z : Nat} (hp : place i = some (o, z)) (h1 : v.cells.size = z) (h2 : o + z ≤ cells.size) :
    Instr.fill place cells ((i, v) :: rest) = Instr.fill place (fillOne o cells v.cells) rest := by
  rw [Instr.fill, hp]
  simp only
  rw [if_neg (by simp [h1]; omega)]
  rfl
section
variable {P : Program} {T : TT} {μ0 : Mp} {S0 : Store} {w0 : World} {μ : Mp} {β : Nat → Nat} {env : Env} {S : Store} {w : World} {a : Act}
theorem agg_fill {cs : List C} {arr : Array Value} {o : Nat} {v : V} {u : Value} (h : AggR μ S cs arr) (hv : VR μ S v u) (hl : o + v.cells.length ≤ cs.length) : AggR μ S (putCells cs o v.cells) (fillOne o arr u.cells) := by
  have hc := hv.cells
  obtain ⟨h1, h2⟩ := fillOne_at o arr u.cells (by rw [hc.1, h.1]; exact hl)
  refine ⟨by rw [h1, putCells_len hl, h.1], fun j c hj => ?_⟩
  rw [putCells_at hl] at hj
  rw [h2, hc.1]
  split at hj
  · rename_i g; rw [if_neg (by omega)]; exact h.2 j c hj
  · rename_i g
    split at hj
    · rename_i g2; rw [if_pos (by omega)]; exact hc.2 _ c hj
    · rename_i g2; rw [if_neg (by omega)]; exact h.2 j c hj
theorem fill_sound {pl pl' : Nat → Option (Nat × Nat)} (hp : ∀ i p, pl i = some p → pl' i = some p) : ∀ (is : List Nat) (vs : List V) (us : List Value) (cs cs' : List C) (arr : Array Value), vs.length = us.length →
    (∀ (i : Nat) v u, vs[i]? = some v → us[i]? = some u → VR μ S v u) → AggR μ S cs arr → fillA pl cs (is.zip vs) = some cs' → ∃ arr', Instr.fill pl' arr (is.zip us) = some arr' ∧ AggR μ S cs' arr'
  | [], vs, us, cs, cs', arr, _, _, h, hf => by simp [fillA] at hf; subst hf; exact ⟨arr, by simp [Instr.fill], h⟩
  | i :: is, [], us, cs, cs', arr, hl, _, h, hf => by
    simp at hl
    have : us = [] := List.eq_nil_of_length_eq_zero hl.symm
    subst this
    simp [fillA] at hf; subst hf; exact ⟨arr, by simp [Instr.fill], h⟩
  | i :: is, v :: vs, [], cs, cs', arr, hl, _, h, hf => by simp at hl
  | i :: is, v :: vs, u :: us, cs, cs', arr, hl, hr, h, hf => by
    rw [List.zip_cons_cons, fillA] at hf
    split at hf
    · rename_i o z hpl
      cases hb : (Nat.beq v.cells.length z && Nat.ble (o + z) cs.length) with
      | false => rw [hb] at hf; cases hf
      | true =>
        rw [hb] at hf
        simp only [cond_true] at hf
        rw [Bool.and_eq_true] at hb
        have e1 := Nat.eq_of_beq_eq_true hb.1
        have e2 := Nat.le_of_ble_eq_true hb.2
        have hv := hr 0 v u rfl rfl
        rw [List.zip_cons_cons, fill_cons (hp i _ hpl) (by rw [hv.cells.1, e1]) (by rw [h.1]; exact e2)]
        exact fill_sound hp is vs us _ cs' _ (by simpa using hl) (fun i v u h1 h2 => hr (i + 1) v u (by simpa using h1) (by simpa using h2)) (agg_fill h hv (by rw [e1]; exact e2)) hf
    · cases hf
theorem zero_run {t : Nat} {ti : TI} (ht : TyOK P t ti) : ∃ z, (zeroValue t).run P w = .ok z w ∧ AggR μ S ti.zero z.cells := by
  obtain ⟨i, z, h1, h2, h3, h4, h5, h6, h7⟩ := ht.info
  refine ⟨z, by simp [zeroValue, typeInfo, h1, h4], by rw [h5, h6], fun j c hj => ?_⟩
  obtain ⟨u, g1, g2⟩ := h7 j c hj
  exact ⟨u, g1, zeroC_cr g2 μ S⟩
theorem mapM_places {fs : List Field} {offs : List Nat} {sz : Nat} (h : ∀ (j : Nat) f, fs[j]? = some f → ∃ i, P.info? f.type = some i ∧ 0 < i.size ∧ offs[j]? = some f.offset ∧ fieldAt offs sz j = some (f.offset, i.size)) :
    ∃ ps : List (Nat × Nat), (fs.mapM fun f => (do pure (f.offset, ← sizeOf f.type) : Sem (Nat × Nat))).run P w = .ok ps w ∧ ps.length = fs.length ∧ ∀ (j : Nat) f, fs[j]? = some f → ∃ i, P.info? f.type = some i ∧ ps[j]? = some (f.offset, i.size) := by
  induction fs generalizing offs with
  | nil => exact ⟨[], by simp, rfl, fun j f hj => by simp at hj⟩
  | cons f fs ih =>
    obtain ⟨i, h1, h2, h3, h4⟩ := h 0 f rfl
    have ih' : ∃ ps : List (Nat × Nat), (fs.mapM fun f => (do pure (f.offset, ← sizeOf f.type) : Sem (Nat × Nat))).run P w = .ok ps w ∧ ps.length = fs.length ∧ ∀ (j : Nat) f, fs[j]? = some f → ∃ i, P.info? f.type = some i ∧ ps[j]? = some (f.offset, i.size) := by
      refine ih (offs := offs.tail) fun j f hj => ?_
      obtain ⟨i, g1, g2, g3, g4⟩ := h (j + 1) f (by simpa using hj)
      refine ⟨i, g1, g2, by rw [← g3]; cases offs <;> simp, ?_⟩
      rw [← g4]
      cases offs <;> simp [fieldAt]
    obtain ⟨ps, g1, g2, g3⟩ := ih'
    refine ⟨(f.offset, i.size) :: ps, ?_, by simp [g2], fun j f' hj => ?_⟩
    · have e : (do pure (f.offset, ← sizeOf f.type) : Sem (Nat × Nat)).run P w = .ok (f.offset, i.size) w := by simp [sizeOf, typeInfo, h1]
      rw [List.mapM_cons, Sem.run_bind, e]
      simp only [Result.andThen]
      rw [Sem.run_bind, g1]
      rfl
    · cases j with
      | zero => simp at hj; subst hj; exact ⟨i, h1, rfl⟩
      | succ j => simpa using g3 j f' (by simpa using hj)
theorem parts_zip (parts : Array (Nat × Operand)) : (parts.map fun (i, x) => (i, a.eval x)).toList = (parts.toList.map (·.1)).zip (parts.toList.map fun x => a.eval x.2) := by
  rw [Array.toList_map]
  generalize parts.toList = l
  induction l with
  | nil => rfl
  | cons x l ih => simp [ih]
theorem parts_rel {parts : Array (Nat × Operand)} {vs : List V} (h4 : ∀ (i : Nat) v x, vs[i]? = some v → (parts.toList.map (·.2))[i]? = some x → VR μ S v (a.eval x)) :
    ∀ (i : Nat) v u, vs[i]? = some v → (parts.toList.map fun x => a.eval x.2)[i]? = some u → VR μ S v u := by
  intro i v u g1 g2
  rw [List.getElem?_map] at g2
  cases hx : parts.toList[i]? with
  | none => rw [hx] at g2; cases g2
  | some x =>
    rw [hx] at g2
    simp only [Option.map_some, Option.some.injEq] at g2
    subst g2
    exact h4 i v x.2 g1 (by rw [List.getElem?_map, hx]; rfl)
theorem op_build {EV : Nat → List V → Store → (AV → Store → Prop) → Prop} (hT : TOK P T) {K : Env → Store → Prop} {next : Act → World → Prop} {Q : Exit → Act → World → Prop} {dst : Option Tmp} {t : TypeId} {parts : Array (Nat × Operand)} {type pos after guard}
    (hn : Next μ0 S0 w0 K next) (hd : a.defers = []) (hst : St μ0 S0 w0 μ β env S a.tmps w) (h : dOp T EV (.build t parts) dst env S K) : Oper.wp P { dst := dst, op := .build t parts, type := type, pos := pos, after := after, guard := guard } a w next Q := by
  simp only [dOp] at h
  obtain ⟨vs, env', S', μ', h1, h2, h3, h4, h5⟩ := promVs_sound hst h
  have hlen : vs.length = (parts.toList.map fun x => a.eval x.2).length := by simpa using h3
  have hrel := parts_rel h4
  split at h1
  · rename_i offs sz _ zero _ _ ht
    split at h1
    · rename_i cs hf
      have hti := hT t _ ht
      obtain ⟨z, hz, hzr⟩ := zero_run (w := w) (μ := μ') (S := S') hti
      obtain ⟨fs, f1, f2, f3⟩ := hti.struct offs rfl
      obtain ⟨ps, g1, g2, g3⟩ := mapM_places (P := P) (w := w) (fs := fs.toList) (offs := offs) (sz := sz) (fun j f hj => f3 j f (by simpa using hj))
      obtain ⟨arr, r1, r2⟩ := fill_sound (pl' := fun i => ps.toArray[i]?) (fun i p hp => by
        have hlt : i < offs.length := by
          unfold fieldAt at hp
          split at hp
          · rename_i e; have := congrArg List.length e; simp at this; omega
          · rename_i e; have := congrArg List.length e; simp at this; omega
          · cases hp
        have hi : i < fs.size := by rw [f2]; exact hlt
        obtain ⟨inf, q1, q2, q3, q4⟩ := f3 i fs[i] (Array.getElem?_eq_getElem hi)
        obtain ⟨inf', q5, q6⟩ := g3 i fs[i] (by simp [hi])
        rw [q1] at q5; cases q5
        rw [q4] at hp
        simp only [List.getElem?_toArray, q6]
        exact hp) _ _ _ _ _ _ hlen hrel hzr hf
      refine fin (x := .v (.agg cs)) (u := .agg arr) hn hd h2 h1 ?_ ⟨arr, rfl, r2⟩
      have hm : (fs.mapM fun f => (do pure (f.offset, ← sizeOf f.type) : Sem (Nat × Nat))).run P w = .ok ps.toArray w := by
        rw [Array.mapM_eq_mapM_toList, Sem.run_map, g1]
        rfl
      have hb : (Instr.build t (parts.map fun (i, x) => (i, a.eval x))).run P w = .ok (.agg arr) w := by
        unfold Instr.build
        rw [Sem.run_bind, hz]
        simp only [Result.andThen]
        rw [Sem.run_bind, run_underlying f1]
        simp only [Result.andThen]
        rw [Sem.run_bind, hm]
        simp only [Result.andThen]
        rw [parts_zip, r1]
        rfl
      simp only [execOp, Sem.run_bind, hb]
      rfl
    · exact h1.elim
  · rename_i n e sz _ zero _ _ ht
    have hti := hT t _ ht
    obtain ⟨z, hz, hzr⟩ := zero_run (w := w) (μ := μ') (S := S') hti
    have f1 := hti.array n e rfl
    split at h1
    · rename_i te he
      split at h1
      · rename_i cs hf
        obtain ⟨arr, r1, r2⟩ := fill_sound (pl' := fun i => some (i * te.sz, te.sz)) (fun i p hp => hp) _ _ _ _ _ _ hlen hrel hzr hf
        refine fin (x := .v (.agg cs)) (u := .agg arr) hn hd h2 h1 ?_ ⟨arr, rfl, r2⟩
        have hb : (Instr.build t (parts.map fun (i, x) => (i, a.eval x))).run P w = .ok (.agg arr) w := by
          unfold Instr.build
          rw [Sem.run_bind, hz]
          simp only [Result.andThen]
          rw [Sem.run_bind, run_underlying f1]
          simp only [Result.andThen]
          rw [Sem.run_bind, (hT e te he).sizeOf w]
          simp only [Result.andThen]
          rw [parts_zip, r1]
          rfl
        simp only [execOp, Sem.run_bind, hb]
        rfl
      · exact h1.elim
    · exact h1.elim
  · exact h1.elim
theorem flat_set {k : Nat} {xs : List (List C)} {us vs : Array Value} {cs : List C} {i : Nat} (h : FlatR μ S k xs us.toList) (hc : AggR μ S cs vs) (hk : cs.length = k) (hi : i < xs.length) : FlatR μ S k (xs.set i cs) (fillOne (i * k) us vs).toList := by
  have hus : us.size = xs.length * k := by simpa using h.1
  have hmul : (i + 1) * k ≤ xs.length * k := Nat.mul_le_mul_right _ hi
  rw [Nat.add_mul, Nat.one_mul] at hmul
  obtain ⟨h1, h2⟩ := fillOne_at (i * k) us vs (by rw [hc.1, hk, hus]; exact hmul)
  refine ⟨by simp [h1, hus], fun i' cs' hi' => ?_⟩
  rw [List.getElem?_set] at hi'
  split at hi'
  · rename_i e; subst e
    simp at hi'
    subst hi'
    refine ⟨hk, fun j c hj => ?_⟩
    obtain ⟨u, u1, u2⟩ := hc.2 j c hj
    have hj' : j < cs.length := (List.getElem?_eq_some_iff.1 hj).1
    refine ⟨u, ?_, u2⟩
    rw [Array.getElem?_toList, h2, if_pos (by rw [hc.1]; omega), Nat.add_sub_cancel_left, u1]
  · rename_i e
    obtain ⟨a1, a2⟩ := h.2 i' cs' hi'
    refine ⟨a1, fun j c hj => ?_⟩
    obtain ⟨u, u1, u2⟩ := a2 j c hj
    have hj' : j < cs'.length := (List.getElem?_eq_some_iff.1 hj).1
    refine ⟨u, ?_, u2⟩
    have hne : ¬ (i * k ≤ i' * k + j ∧ i' * k + j < i * k + vs.size) := by
      rw [hc.1, hk]
      rcases Nat.lt_or_gt_of_ne e with g | g
      · have : (i + 1) * k ≤ i' * k := Nat.mul_le_mul_right _ g
        rw [Nat.add_mul, Nat.one_mul] at this
        omega
      · have : (i' + 1) * k ≤ i * k := Nat.mul_le_mul_right _ g
        rw [Nat.add_mul, Nat.one_mul] at this
        omega
    rw [Array.getElem?_toList, h2, if_neg hne]
    simpa using u1
theorem fillRows_sound {k : Nat} : ∀ (is : List Nat) (vs : List V) (us : List Value) (xs xs' : List (List C)) (arr : Array Value), vs.length = us.length →
    (∀ (i : Nat) v u, vs[i]? = some v → us[i]? = some u → VR μ S v u) → FlatR μ S k xs arr.toList → fillRows k xs (is.zip vs) = some xs' →
    ∃ arr', Instr.fill (fun i => some (i * k, k)) arr (is.zip us) = some arr' ∧ FlatR μ S k xs' arr'.toList ∧ xs'.length = xs.length
  | [], vs, us, xs, xs', arr, _, _, h, hf => by simp [fillRows] at hf; subst hf; exact ⟨arr, by simp [Instr.fill], h, rfl⟩
  | i :: is, [], us, xs, xs', arr, hl, _, h, hf => by
    simp at hl
    have : us = [] := List.eq_nil_of_length_eq_zero hl.symm
    subst this
    simp [fillRows] at hf; subst hf; exact ⟨arr, by simp [Instr.fill], h, rfl⟩
  | i :: is, v :: vs, [], xs, xs', arr, hl, _, h, hf => by simp at hl
  | i :: is, v :: vs, u :: us, xs, xs', arr, hl, hr, h, hf => by
    rw [List.zip_cons_cons, fillRows] at hf
    cases hb : (Nat.beq v.cells.length k && Nat.blt i xs.length) with
    | false => rw [hb] at hf; cases hf
    | true =>
      rw [hb] at hf
      simp only [cond_true] at hf
      rw [Bool.and_eq_true] at hb
      have e1 := Nat.eq_of_beq_eq_true hb.1
      have e2 : i < xs.length := by simpa [Nat.blt_eq] using hb.2
      have hv := (hr 0 v u rfl rfl).cells
      have harr : arr.size = xs.length * k := by simpa using h.1
      have hmul : (i + 1) * k ≤ xs.length * k := Nat.mul_le_mul_right _ e2
      rw [Nat.add_mul, Nat.one_mul] at hmul
      rw [List.zip_cons_cons, fill_cons rfl (by rw [hv.1, e1]) (by omega)]
      obtain ⟨arr', q1, q2, q3⟩ := fillRows_sound is vs us _ xs' _ (by simpa using hl) (fun i v u h1 h2 => hr (i + 1) v u (by simpa using h1) (by simpa using h2)) (flat_set h hv e1 e2) hf
      exact ⟨arr', q1, q2, by simpa using q3⟩
theorem zeros_flat {e : Nat} {te : TI} (hte : TyOK P e te) (n : Nat) : ∃ z : Value, (zeroValue e).run P w = .ok z w ∧ z.cells.size = te.sz ∧
    FlatR μ S te.sz (List.replicate n te.zero) ((Array.range (n * te.sz)).map (fun p => (if n * te.sz = 0 then (#[] : Array Value) else z.cells)[p % (if n * te.sz = 0 then (#[] : Array Value) else z.cells).size]!)).toList := by
  obtain ⟨i, z, h1, h2, h3, h4, h5, h6, h7⟩ := hte.info
  have hp := hte.pos
  refine ⟨z, by simp [zeroValue, typeInfo, h1, h4], h5, by simp, fun i cs hi => ?_⟩
  have hi' : i < n ∧ cs = te.zero := by
    obtain ⟨q1, q2⟩ := List.getElem?_eq_some_iff.1 hi
    simp at q1 q2
    exact ⟨q1, q2.symm⟩
  obtain ⟨hlt, rfl⟩ := hi'
  refine ⟨h6, fun j c hj => ?_⟩
  obtain ⟨u, u1, u2⟩ := h7 j c hj
  have hj' : j < te.sz := by rw [← h6]; exact (List.getElem?_eq_some_iff.1 hj).1
  have : (i + 1) * te.sz ≤ n * te.sz := Nat.mul_le_mul_right _ hlt
  rw [Nat.add_mul, Nat.one_mul] at this
  refine ⟨u, ?_, zeroC_cr u2 μ S⟩
  have e : (i * te.sz + j) % te.sz = j := by rw [Nat.mul_comm, Nat.mul_add_mod]; exact Nat.mod_eq_of_lt hj'
  have hlt' : i * te.sz + j < n * te.sz := by omega
  rw [Array.getElem?_toList, Array.getElem?_map, Array.getElem?_range, if_pos hlt']
  simp only [Option.map_some]
  rw [if_neg (by omega), h5, e, getElem!_def, u1]
theorem op_buildSlice {EV : Nat → List V → Store → (AV → Store → Prop) → Prop} (hT : TOK P T) {K : Env → Store → Prop} {next : Act → World → Prop} {Q : Exit → Act → World → Prop} {dst : Option Tmp} {t : TypeId} {len : Nat} {parts : Array (Nat × Operand)} {type pos after guard}
    (hn : Next μ0 S0 w0 K next) (hd : a.defers = []) (hst : St μ0 S0 w0 μ β env S a.tmps w) (h : dOp T EV (.buildSlice t len parts) dst env S K) : Oper.wp P { dst := dst, op := .buildSlice t len parts, type := type, pos := pos, after := after, guard := guard } a w next Q := by
  simp only [dOp] at h
  obtain ⟨vs, env', S', μ', h1, h2, h3, h4, h5⟩ := promVs_sound hst h
  have hlen : vs.length = (parts.toList.map fun x => a.eval x.2).length := by simpa using h3
  have hrel := parts_rel h4
  split at h1
  · rename_i e _ _ _ _ _ ht
    split at h1
    · rename_i te he
      cases hb : Nat.ble (len * te.sz) 16777216 with
      | false => rw [hb] at h1; exact h1.elim
      | true =>
        rw [hb] at h1
        simp only [cond_true] at h1
        have hle := Nat.le_of_ble_eq_true hb
        split at h1
        · rename_i xs hf
          cases dst with
          | none => exact h1.elim
          | some d =>
            simp only [force_eq] at h1
            obtain ⟨z, z1, z2, z3⟩ := zeros_flat (w := w) (μ := μ') (S := S') (hT e te he) len
            obtain ⟨arr, r1, r2, r3⟩ := fillRows_sound _ _ _ _ _ _ hlen hrel z3 hf
            have hxl : xs.length = len := by rw [r3]; simp
            have hp := (hT e te he).pos
            have hmax : len ≤ maxLen := by
              have : len ≤ len * te.sz := Nat.le_mul_of_pos_right _ hp
              simp only [maxLen]; omega
            refine wp_val (u := .slice (some ⟨w.heap.size, 0, none⟩) len len) (w' := w.alloc (.cells arr e)) ?_ (hn _ _ _ _ _ _ h1 (by rw [put_defers]; exact hd) (h2.freshL (d := d) (x := .lst te.sz xs) rfl (by intro ys h; cases h) (fun β' env' w' e1 e2 => ⟨by rw [e1, hxl], by rw [hxl]; exact hmax, arr, e, by rw [e1]; exact e2, by simpa using r2.1, fun i cs hi => ?_⟩) rfl))
            · have hb : (Instr.buildSlice t len (parts.map fun (i, x) => (i, a.eval x))).run P w = .ok (.slice (some ⟨w.heap.size, 0, none⟩) len len) (w.alloc (.cells arr e)) := by
                unfold Instr.buildSlice
                rw [Sem.run_bind, run_underlying ((hT t _ ht).slice e rfl).2]
                simp only [Result.andThen]
                rw [Sem.run_bind, (hT e te he).sizeOf w]
                simp only [Result.andThen]
                rw [if_neg (by omega)]
                by_cases h0 : len * te.sz = 0
                · rw [if_pos h0] at r1
                  rw [if_pos h0, Sem.run_bind, Sem.run_pure]
                  simp only [Result.andThen]
                  rw [parts_zip, r1]
                  rfl
                · rw [if_neg h0] at r1
                  rw [if_neg h0, Sem.run_bind, z1]
                  simp only [Result.andThen]
                  rw [Sem.run_bind, Sem.run_pure]
                  simp only [Result.andThen]
                  rw [parts_zip, r1]
                  rfl
              simp only [execOp, Sem.run_bind, hb]
              rfl
            · obtain ⟨q1, q2⟩ := r2.2 i cs hi
              exact ⟨q1, fun j c hj => by obtain ⟨u, u1, u2⟩ := q2 j c hj; exact ⟨u, by simpa using u1, u2⟩⟩
        · exact h1.elim
    · exact h1.elim
  · exact h1.elim
end
end Go.Proofs.YtlmmdpmmdmhacaaGreat
