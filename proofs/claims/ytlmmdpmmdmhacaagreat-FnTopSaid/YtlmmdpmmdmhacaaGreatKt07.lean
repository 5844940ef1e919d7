/- The longer operations: literals, calls, conversions, slicings. Slicings, conversions, calls. -/
import Derived.Test.YtlmmdpmmdmhacaaGreatKt06
import Derived.Laws.BytesArg
namespace Go.Proofs.YtlmmdpmmdmhacaaGreat
open Go
set_option linter.unusedVariables false
set_option linter.unusedSimpArgs false
theorem zlr (off : Nat) : ∀ (l : List Value) (k : Nat) (cs : Array Value), off + k + l.length ≤ cs.size →
 ((l.zipIdx k).foldl (fun cs (x : Value × Nat) => cs.setIfInBounds (off + x.2) x.1) cs).size = cs.size ∧
 ∀ j : Nat, ((l.zipIdx k).foldl (fun cs (x : Value × Nat) => cs.setIfInBounds (off + x.2) x.1) cs)[j]? = if off + k ≤ j ∧ j < off + k + l.length then l[j - (off + k)]? else cs[j]?
 | [], k, cs, _ => by
   refine ⟨rfl, fun j => ?_⟩
   rw [if_neg (by simp)]
   rfl
 | x :: l, k, cs, h => by
   simp only [List.length_cons] at h
   rw [List.zipIdx_cons, List.foldl_cons]
   obtain ⟨h1, h2⟩ := zlr off l (k + 1) (cs.setIfInBounds (off + k) x) (by simp; omega)
   refine ⟨by rw [h1]; simp, fun j => ?_⟩
   rw [h2 j, List.length_cons]
   by_cases e : j = off + k
   ·subst e
    rw [if_neg (by omega), if_pos (by omega), Nat.sub_self]
    rw [Array.getElem?_setIfInBounds, if_pos rfl, if_pos (by omega)]
    rfl
   ·by_cases g : off + k + 1 ≤ j ∧ j < off + k + 1 + l.length
    ·rw [if_pos (by omega), if_pos (by omega)]
     obtain ⟨m, hm⟩ : ∃ m, j - (off + k) = m + 1 := ⟨j - (off + k) - 1, by omega⟩
     rw [hm, List.getElem?_cons_succ]
     congr 1
     omega
    ·rw [if_neg (by omega), if_neg (by omega), Array.getElem?_setIfInBounds, if_neg (by omega)]
def zjp (off : Nat) (cells v : Array Value) : Array Value := v.zipIdx.foldl (fun cs (x : Value × Nat) => cs.setIfInBounds (off + x.2) x.1) cells
theorem zo5 (off : Nat) (cells v : Array Value) (h : off + v.size ≤ cells.size) :
 (zjp off cells v).size = cells.size ∧ ∀ j : Nat, (zjp off cells v)[j]? = if off ≤ j ∧ j < off + v.size then v[j - off]? else cells[j]? := by
 have e : zjp off cells v = (v.toList.zipIdx 0).foldl (fun cs (x : Value × Nat) => cs.setIfInBounds (off + x.2) x.1) cells := by
  unfold zjp
  rw [← Array.foldl_toList, Array.toList_zipIdx]
 have := zlr off v.toList 0 cells (by simpa using h)
 rw [e]
 simpa using this
theorem zsg {place : Nat → Option (Nat × Nat)} {cells : Array Value} {i : Nat} {v : Value} {rest : List (Nat × Value)} {o z : Nat} (hp : place i = some (o, z)) (h1 : v.cells.size = z) (h2 : o + z ≤ cells.size) :
 Instr.fill place cells ((i, v) :: rest) = Instr.fill place (zjp o cells v.cells) rest := by
 rw [Instr.fill, hp]
 simp only
 rw [if_neg (by simp [h1]; omega)]
 rfl
section
variable {P : Program} {T : TT} {μ0 : Mp} {S0 : Store} {w0 : World} {μ : Mp} {β : Nat → Nat} {env : Env} {S : Store} {w : World} {a : Act}
theorem z3s {cs : List C} {arr : Array Value} {o : Nat} {v : V} {u : Value} (h : AggR μ S cs arr) (hv : VR μ S v u) (hl : o + v.cells.length ≤ cs.length) : AggR μ S (putCells cs o v.cells) (zjp o arr u.cells) := by
 have hc := hv.cells
 obtain ⟨h1, h2⟩ := zo5 o arr u.cells (by rw [hc.1, h.1]; exact hl)
 refine ⟨by rw [h1, zic hl, h.1], fun j c hj => ?_⟩
 rw [zjm hl] at hj
 rw [h2, hc.1]
 split at hj
 ·rename_i g; rw [if_neg (by omega)]; exact h.2 j c hj
 ·rename_i g
  split at hj
  ·rename_i g2; rw [if_pos (by omega)]; exact hc.2 _ c hj
  ·rename_i g2; rw [if_neg (by omega)]; exact h.2 j c hj
theorem zld {pl pl' : Nat → Option (Nat × Nat)} (hp : ∀ i p, pl i = some p → pl' i = some p) : ∀ (is : List Nat) (vs : List V) (us : List Value) (cs cs' : List C) (arr : Array Value), vs.length = us.length →
 (∀ (i : Nat) v u, vs[i]? = some v → us[i]? = some u → VR μ S v u) → AggR μ S cs arr → zuq pl cs (is.zip vs) = some cs' → ∃ arr', Instr.fill pl' arr (is.zip us) = some arr' ∧ AggR μ S cs' arr'
 | [], vs, us, cs, cs', arr, _, _, h, hf => by simp [zuq] at hf; subst hf; exact ⟨arr, by simp [Instr.fill], h⟩
 | i :: is, [], us, cs, cs', arr, hl, _, h, hf => by
   simp at hl
   have : us = [] := List.eq_nil_of_length_eq_zero hl.symm
   subst this
   simp [zuq] at hf; subst hf; exact ⟨arr, by simp [Instr.fill], h⟩
 | i :: is, v :: vs, [], cs, cs', arr, hl, _, h, hf => by simp at hl
 | i :: is, v :: vs, u :: us, cs, cs', arr, hl, hr, h, hf => by
   rw [List.zip_cons_cons, zuq] at hf
   split at hf
   ·rename_i o z hpl
    cases hb : (Nat.beq v.cells.length z && Nat.ble (o + z) cs.length) with
    | false => rw [hb] at hf; cases hf
    | true =>
      rw [hb] at hf
      simp only [cond_true] at hf
      rw [Bool.and_eq_true] at hb
      have e1 := Nat.eq_of_beq_eq_true hb.1
      have e2 := Nat.le_of_ble_eq_true hb.2
      have hv := hr 0 v u rfl rfl
      rw [List.zip_cons_cons, zsg (hp i _ hpl) (by rw [hv.cells.1, e1]) (by rw [h.1]; exact e2)]
      exact zld hp is vs us _ cs' _ (by simpa using hl) (fun i v u h1 h2 => hr (i + 1) v u (by simpa using h1) (by simpa using h2)) (z3s h hv (by rw [e1]; exact e2)) hf
   ·cases hf
theorem zwz {t : Nat} {ti : TI} (ht : TyOK P t ti) : ∃ z, (zeroValue t).run P w = .ok z w ∧ AggR μ S ti.zero z.cells := by
 obtain ⟨i, z, h1, h2, h3, h4, h5, h6, h7⟩ := ht.info
 refine ⟨z, by simp [zeroValue, typeInfo, h1, h4], by rw [h5, h6], fun j c hj => ?_⟩
 obtain ⟨u, g1, g2⟩ := h7 j c hj
 exact ⟨u, g1, zis g2 μ S⟩
theorem zus {fs : List Field} {offs : List Nat} {sz : Nat} (h : ∀ (j : Nat) f, fs[j]? = some f → ∃ i, P.info? f.type = some i ∧ 0 < i.size ∧ offs[j]? = some f.offset ∧ fieldAt offs sz j = some (f.offset, i.size)) :
 ∃ ps : List (Nat × Nat), (fs.mapM fun f => (do pure (f.offset, ← sizeOf f.type) : Sem (Nat × Nat))).run P w = .ok ps w ∧ ps.length = fs.length ∧ ∀ (j : Nat) f, fs[j]? = some f → ∃ i, P.info? f.type = some i ∧ ps[j]? = some (f.offset, i.size) := by
 induction fs generalizing offs with
 | nil => exact ⟨[], by simp, rfl, fun j f hj => by simp at hj⟩
 | cons f fs ih =>
   obtain ⟨i, h1, h2, h3, h4⟩ := h 0 f rfl
   have ih' : ∃ ps : List (Nat × Nat), (fs.mapM fun f => (do pure (f.offset, ← sizeOf f.type) : Sem (Nat × Nat))).run P w = .ok ps w ∧ ps.length = fs.length ∧ ∀ (j : Nat) f, fs[j]? = some f → ∃ i, P.info? f.type = some i ∧ ps[j]? = some (f.offset, i.size) := by
    refine ih (offs := offs.tail) fun j f hj => ?_
    obtain ⟨i, g1, g2, g3, g4⟩ := h (j + 1) f (by simpa using hj)
    refine ⟨i, g1, g2, by rw [← g3]; cases offs <;> simp, ?_⟩
    rw [← g4]
    cases offs <;> simp [fieldAt]
   obtain ⟨ps, g1, g2, g3⟩ := ih'
   refine ⟨(f.offset, i.size) :: ps, ?_, by simp [g2], fun j f' hj => ?_⟩
   ·have e : (do pure (f.offset, ← sizeOf f.type) : Sem (Nat × Nat)).run P w = .ok (f.offset, i.size) w := by simp [sizeOf, typeInfo, h1]
    rw [List.mapM_cons, Sem.run_bind, e]
    simp only [Result.andThen]
    rw [Sem.run_bind, g1]
    rfl
   ·cases j with
    | zero => simp at hj; subst hj; exact ⟨i, h1, rfl⟩
    | succ j => simpa using g3 j f' (by simpa using hj)
theorem zj8 (parts : Array (Nat × Operand)) : (parts.map fun (i, x) => (i, a.eval x)).toList = (parts.toList.map (·.1)).zip (parts.toList.map fun x => a.eval x.2) := by
 rw [Array.toList_map]
 generalize parts.toList = l
 induction l with
 | nil => rfl
 | cons x l ih => simp [ih]
theorem zs5 {parts : Array (Nat × Operand)} {vs : List V} (h4 : ∀ (i : Nat) v x, vs[i]? = some v → (parts.toList.map (·.2))[i]? = some x → VR μ S v (a.eval x)) :
 ∀ (i : Nat) v u, vs[i]? = some v → (parts.toList.map fun x => a.eval x.2)[i]? = some u → VR μ S v u := by
 intro i v u g1 g2
 rw [List.getElem?_map] at g2
 cases hx : parts.toList[i]? with
 | none => rw [hx] at g2; cases g2
 | some x =>
   rw [hx] at g2
   simp only [Option.map_some, Option.some.injEq] at g2
   subst g2
   exact h4 i v x.2 g1 (by rw [List.getElem?_map, hx]; rfl)
theorem z2x {EV : Nat → List V → Store → (AV → Store → Prop) → Prop} (hT : TOK P T) {K : Env → Store → Prop} {next : Act → World → Prop} {Q : Exit → Act → World → Prop} {dst : Option Tmp} {t : TypeId} {parts : Array (Nat × Operand)} {type pos after guard}
 (hn : Next μ0 S0 w0 K next) (hd : a.defers = []) (hst : St μ0 S0 w0 μ β env S a.tmps w) (h : dOp T EV (.build t parts) dst env S K) : Oper.wp P { dst := dst, op := .build t parts, type := type, pos := pos, after := after, guard := guard } a w next Q := by
 simp only [dOp] at h
 obtain ⟨vs, env', S', μ', h1, h2, h3, h4, h5⟩ := zgg hst h
 have hlen : vs.length = (parts.toList.map fun x => a.eval x.2).length := by simpa using h3
 have hrel := zs5 h4
 split at h1
 ·rename_i offs sz _ zero _ _ ht
  split at h1
  ·rename_i cs hf
   have hti := hT t _ ht
   obtain ⟨z, hz, hzr⟩ := zwz (w := w) (μ := μ') (S := S') hti
   obtain ⟨fs, f1, f2, f3⟩ := hti.struct offs rfl
   obtain ⟨ps, g1, g2, g3⟩ := zus (P := P) (w := w) (fs := fs.toList) (offs := offs) (sz := sz) (fun j f hj => f3 j f (by simpa using hj))
   obtain ⟨arr, r1, r2⟩ := zld (pl' := fun i => ps.toArray[i]?) (fun i p hp => by
    have hlt : i < offs.length := by
     unfold fieldAt at hp
     split at hp
     ·rename_i e; have := congrArg List.length e; simp at this; omega
     ·rename_i e; have := congrArg List.length e; simp at this; omega
     ·cases hp
    have hi : i < fs.size := by rw [f2]; exact hlt
    obtain ⟨inf, q1, q2, q3, q4⟩ := f3 i fs[i] (Array.getElem?_eq_getElem hi)
    obtain ⟨inf', q5, q6⟩ := g3 i fs[i] (by simp [hi])
    rw [q1] at q5; cases q5
    rw [q4] at hp
    simp only [List.getElem?_toArray, q6]
    exact hp) _ _ _ _ _ _ hlen hrel hzr hf
   refine fin (x := .v (.agg cs)) (u := .agg arr) hn hd h2 h1 ?_ ⟨arr, rfl, r2⟩
   have hm : (fs.mapM fun f => (do pure (f.offset, ← sizeOf f.type) : Sem (Nat × Nat))).run P w = .ok ps.toArray w := by
    rw [Array.mapM_eq_mapM_toList, Sem.run_map, g1]
    rfl
   have hb : (Instr.build t (parts.map fun (i, x) => (i, a.eval x))).run P w = .ok (.agg arr) w := by
    unfold Instr.build
    rw [Sem.run_bind, hz]
    simp only [Result.andThen]
    rw [Sem.run_bind, run_underlying f1]
    simp only [Result.andThen]
    rw [Sem.run_bind, hm]
    simp only [Result.andThen]
    rw [zj8, r1]
    rfl
   simp only [execOp, Sem.run_bind, hb]
   rfl
  ·exact h1.elim
 ·rename_i n e sz _ zero _ _ ht
  have hti := hT t _ ht
  obtain ⟨z, hz, hzr⟩ := zwz (w := w) (μ := μ') (S := S') hti
  have f1 := hti.array n e rfl
  split at h1
  ·rename_i te he
   split at h1
   ·rename_i cs hf
    obtain ⟨arr, r1, r2⟩ := zld (pl' := fun i => some (i * te.sz, te.sz)) (fun i p hp => hp) _ _ _ _ _ _ hlen hrel hzr hf
    refine fin (x := .v (.agg cs)) (u := .agg arr) hn hd h2 h1 ?_ ⟨arr, rfl, r2⟩
    have hb : (Instr.build t (parts.map fun (i, x) => (i, a.eval x))).run P w = .ok (.agg arr) w := by
     unfold Instr.build
     rw [Sem.run_bind, hz]
     simp only [Result.andThen]
     rw [Sem.run_bind, run_underlying f1]
     simp only [Result.andThen]
     rw [Sem.run_bind, (hT e te he).sizeOf w]
     simp only [Result.andThen]
     rw [zj8, r1]
     rfl
    simp only [execOp, Sem.run_bind, hb]
    rfl
   ·exact h1.elim
  ·exact h1.elim
 ·exact h1.elim
theorem z20 {k : Nat} {xs : List (List C)} {us vs : Array Value} {cs : List C} {i : Nat} (h : FlatR μ S k xs us.toList) (hc : AggR μ S cs vs) (hk : cs.length = k) (hi : i < xs.length) : FlatR μ S k (xs.set i cs) (zjp (i * k) us vs).toList := by
 have hus : us.size = xs.length * k := by simpa using h.1
 have hmul : (i + 1) * k ≤ xs.length * k := Nat.mul_le_mul_right _ hi
 rw [Nat.add_mul, Nat.one_mul] at hmul
 obtain ⟨h1, h2⟩ := zo5 (i * k) us vs (by rw [hc.1, hk, hus]; exact hmul)
 refine ⟨by simp [h1, hus], fun i' cs' hi' => ?_⟩
 rw [List.getElem?_set] at hi'
 split at hi'
 ·rename_i e; subst e
  simp at hi'
  subst hi'
  refine ⟨hk, fun j c hj => ?_⟩
  obtain ⟨u, u1, u2⟩ := hc.2 j c hj
  have hj' : j < cs.length := (List.getElem?_eq_some_iff.1 hj).1
  refine ⟨u, ?_, u2⟩
  rw [Array.getElem?_toList, h2, if_pos (by rw [hc.1]; omega), Nat.add_sub_cancel_left, u1]
 ·rename_i e
  obtain ⟨a1, a2⟩ := h.2 i' cs' hi'
  refine ⟨a1, fun j c hj => ?_⟩
  obtain ⟨u, u1, u2⟩ := a2 j c hj
  have hj' : j < cs'.length := (List.getElem?_eq_some_iff.1 hj).1
  refine ⟨u, ?_, u2⟩
  have hne : ¬ (i * k ≤ i' * k + j ∧ i' * k + j < i * k + vs.size) := by
   rw [hc.1, hk]
   rcases Nat.lt_or_gt_of_ne e with g | g
   ·have : (i + 1) * k ≤ i' * k := Nat.mul_le_mul_right _ g
    rw [Nat.add_mul, Nat.one_mul] at this
    omega
   ·have : (i' + 1) * k ≤ i * k := Nat.mul_le_mul_right _ g
    rw [Nat.add_mul, Nat.one_mul] at this
    omega
  rw [Array.getElem?_toList, h2, if_neg hne]
  simpa using u1
theorem zja {k : Nat} : ∀ (is : List Nat) (vs : List V) (us : List Value) (xs xs' : List (List C)) (arr : Array Value), vs.length = us.length →
 (∀ (i : Nat) v u, vs[i]? = some v → us[i]? = some u → VR μ S v u) → FlatR μ S k xs arr.toList → zix k xs (is.zip vs) = some xs' →
 ∃ arr', Instr.fill (fun i => some (i * k, k)) arr (is.zip us) = some arr' ∧ FlatR μ S k xs' arr'.toList ∧ xs'.length = xs.length
 | [], vs, us, xs, xs', arr, _, _, h, hf => by simp [zix] at hf; subst hf; exact ⟨arr, by simp [Instr.fill], h, rfl⟩
 | i :: is, [], us, xs, xs', arr, hl, _, h, hf => by
   simp at hl
   have : us = [] := List.eq_nil_of_length_eq_zero hl.symm
   subst this
   simp [zix] at hf; subst hf; exact ⟨arr, by simp [Instr.fill], h, rfl⟩
 | i :: is, v :: vs, [], xs, xs', arr, hl, _, h, hf => by simp at hl
 | i :: is, v :: vs, u :: us, xs, xs', arr, hl, hr, h, hf => by
   rw [List.zip_cons_cons, zix] at hf
   cases hb : (Nat.beq v.cells.length k && Nat.blt i xs.length) with
   | false => rw [hb] at hf; cases hf
   | true =>
     rw [hb] at hf
     simp only [cond_true] at hf
     rw [Bool.and_eq_true] at hb
     have e1 := Nat.eq_of_beq_eq_true hb.1
     have e2 : i < xs.length := by simpa [Nat.blt_eq] using hb.2
     have hv := (hr 0 v u rfl rfl).cells
     have harr : arr.size = xs.length * k := by simpa using h.1
     have hmul : (i + 1) * k ≤ xs.length * k := Nat.mul_le_mul_right _ e2
     rw [Nat.add_mul, Nat.one_mul] at hmul
     rw [List.zip_cons_cons, zsg rfl (by rw [hv.1, e1]) (by omega)]
     obtain ⟨arr', q1, q2, q3⟩ := zja is vs us _ xs' _ (by simpa using hl) (fun i v u h1 h2 => hr (i + 1) v u (by simpa using h1) (by simpa using h2)) (z20 h hv e1 e2) hf
     exact ⟨arr', q1, q2, by simpa using q3⟩
theorem zx3 {e : Nat} {te : TI} (hte : TyOK P e te) (n : Nat) : ∃ z : Value, (zeroValue e).run P w = .ok z w ∧ z.cells.size = te.sz ∧
 FlatR μ S te.sz (List.replicate n te.zero) ((Array.range (n * te.sz)).map (fun p => (if n * te.sz = 0 then (#[] : Array Value) else z.cells)[p % (if n * te.sz = 0 then (#[] : Array Value) else z.cells).size]!)).toList := by
 obtain ⟨i, z, h1, h2, h3, h4, h5, h6, h7⟩ := hte.info
 have hp := hte.pos
 refine ⟨z, by simp [zeroValue, typeInfo, h1, h4], h5, by simp, fun i cs hi => ?_⟩
 have hi' : i < n ∧ cs = te.zero := by
  obtain ⟨q1, q2⟩ := List.getElem?_eq_some_iff.1 hi
  simp at q1 q2
  exact ⟨q1, q2.symm⟩
 obtain ⟨hlt, rfl⟩ := hi'
 refine ⟨h6, fun j c hj => ?_⟩
 obtain ⟨u, u1, u2⟩ := h7 j c hj
 have hj' : j < te.sz := by rw [← h6]; exact (List.getElem?_eq_some_iff.1 hj).1
 have : (i + 1) * te.sz ≤ n * te.sz := Nat.mul_le_mul_right _ hlt
 rw [Nat.add_mul, Nat.one_mul] at this
 refine ⟨u, ?_, zis u2 μ S⟩
 have e : (i * te.sz + j) % te.sz = j := by rw [Nat.mul_comm, Nat.mul_add_mod]; exact Nat.mod_eq_of_lt hj'
 have hlt' : i * te.sz + j < n * te.sz := by omega
 rw [Array.getElem?_toList, Array.getElem?_map, Array.getElem?_range, if_pos hlt']
 simp only [Option.map_some]
 rw [if_neg (by omega), h5, e, getElem!_def, u1]
theorem zrm {EV : Nat → List V → Store → (AV → Store → Prop) → Prop} (hT : TOK P T) {K : Env → Store → Prop} {next : Act → World → Prop} {Q : Exit → Act → World → Prop} {dst : Option Tmp} {t : TypeId} {len : Nat} {parts : Array (Nat × Operand)} {type pos after guard}
 (hn : Next μ0 S0 w0 K next) (hd : a.defers = []) (hst : St μ0 S0 w0 μ β env S a.tmps w) (h : dOp T EV (.buildSlice t len parts) dst env S K) : Oper.wp P { dst := dst, op := .buildSlice t len parts, type := type, pos := pos, after := after, guard := guard } a w next Q := by
 simp only [dOp] at h
 obtain ⟨vs, env', S', μ', h1, h2, h3, h4, h5⟩ := zgg hst h
 have hlen : vs.length = (parts.toList.map fun x => a.eval x.2).length := by simpa using h3
 have hrel := zs5 h4
 split at h1
 ·rename_i e _ _ _ _ _ ht
  split at h1
  ·rename_i te he
   cases hb : Nat.ble (len * te.sz) 16777216 with
   | false => rw [hb] at h1; exact h1.elim
   | true =>
     rw [hb] at h1
     simp only [cond_true] at h1
     have hle := Nat.le_of_ble_eq_true hb
     split at h1
     ·rename_i xs hf
      cases dst with
      | none => exact h1.elim
      | some d =>
        simp only [zb3] at h1
        obtain ⟨z, z1, z2, z3⟩ := zx3 (w := w) (μ := μ') (S := S') (hT e te he) len
        obtain ⟨arr, r1, r2, r3⟩ := zja _ _ _ _ _ _ hlen hrel z3 hf
        have hxl : xs.length = len := by rw [r3]; simp
        have hp := (hT e te he).pos
        have hmax : len ≤ maxLen := by
         have : len ≤ len * te.sz := Nat.le_mul_of_pos_right _ hp
         simp only [maxLen]; omega
        refine znn (u := .slice (some ⟨w.heap.size, 0, none⟩) len len) (w' := w.alloc (.cells arr e)) ?_ (hn _ _ _ _ _ _ h1 (by rw [zcs]; exact hd) (h2.freshL (d := d) (x := .lst te.sz xs) rfl (by intro ys h; cases h) (fun β' env' w' e1 e2 => ⟨by rw [e1, hxl], by rw [hxl]; exact hmax, arr, e, by rw [e1]; exact e2, by simpa using r2.1, fun i cs hi => ?_⟩) rfl))
        ·have hb : (Instr.buildSlice t len (parts.map fun (i, x) => (i, a.eval x))).run P w = .ok (.slice (some ⟨w.heap.size, 0, none⟩) len len) (w.alloc (.cells arr e)) := by
          unfold Instr.buildSlice
          rw [Sem.run_bind, run_underlying ((hT t _ ht).slice e rfl).2]
          simp only [Result.andThen]
          rw [Sem.run_bind, (hT e te he).sizeOf w]
          simp only [Result.andThen]
          rw [if_neg (by omega)]
          by_cases h0 : len * te.sz = 0
          ·rw [if_pos h0] at r1
           rw [if_pos h0, Sem.run_bind, Sem.run_pure]
           simp only [Result.andThen]
           rw [zj8, r1]
           rfl
          ·rw [if_neg h0] at r1
           rw [if_neg h0, Sem.run_bind, z1]
           simp only [Result.andThen]
           rw [Sem.run_bind, Sem.run_pure]
           simp only [Result.andThen]
           rw [zj8, r1]
           rfl
         simp only [execOp, Sem.run_bind, hb]
         rfl
        ·obtain ⟨q1, q2⟩ := r2.2 i cs hi
         exact ⟨q1, fun j c hj => by obtain ⟨u, u1, u2⟩ := q2 j c hj; exact ⟨u, by simpa using u1, u2⟩⟩
     ·exact h1.elim
  ·exact h1.elim
 ·exact h1.elim
end
section
variable {P : Program} {T : TT} {μ0 : Mp} {S0 : Store} {w0 : World} {μ : Mp} {β : Nat → Nat} {env : Env} {S : Store} {w : World} {a : Act}
theorem zec {t d : Nat} {sz by' : Nat} {zero : List C} {eq ft : List Nat} (hT : TOK P T) (ht : T t = some { kd := .scalar d, sz := sz, by' := by', zero := zero, eq := eq, ft := ft }) : ∃ desc, P.underlying t = some desc ∧ ze2 d desc = true :=
 ((hT t _ ht).scalar d rfl).2
theorem zhn {desc : TypeDesc} (h : ze2 20 desc = true) : desc = .string := by cases desc <;> simp [ze2] at h; rfl
theorem z4o {desc : TypeDesc} (h : ze2 4 desc = true) : desc = .int .u8 := by
 cases desc with
 | int k => cases k <;> simp [ze2] at h; rfl
 | _ => simp [ze2] at h
theorem z2r {desc : TypeDesc} {d : Nat} {k : IntKind} (hk : zn0 d = some k) (h : ze2 d desc = true) : desc = .int k := by
 unfold zn0 at hk
 split at hk <;> first | cases hk | skip
 all_goals
  cases desc with
  | int k' => cases k' <;> simp [ze2] at h; rfl
  | _ => simp [ze2] at h
theorem zql {t : Nat} (ht : P.underlying t = some .string) {s : ByteArray} {lo hi : Option Value} {l h : Int}
 (hl : lo = none ∧ l = 0 ∨ ∃ k, lo = some (.int k l)) (hh : hi = none ∧ h = s.size ∨ ∃ k, hi = some (.int k h)) (h0 : 0 ≤ l) (h1 : l ≤ h) (h2 : h ≤ s.size) :
 (Instr.sliceAt t (.string s) lo hi none).run P w = .ok (.string (s.extract l.toNat h.toNat)) w := by
 have h0h : 0 ≤ h := by omega
 rcases hl with ⟨rfl, rfl⟩ | ⟨k, rfl⟩ <;> rcases hh with ⟨rfl, rfl⟩ | ⟨k', rfl⟩
 ·simp [Instr.sliceAt, Instr.slice, run_underlying ht, Instr.sliceBounds]
 ·simp [Instr.sliceAt, Instr.slice, run_underlying ht, Instr.sliceBounds, Instr.sliceBound, asIntOf, h2, h0h]
 ·simp [Instr.sliceAt, Instr.slice, run_underlying ht, Instr.sliceBounds, Instr.sliceBound, asIntOf, h0, h1]
 ·simp [Instr.sliceAt, Instr.slice, run_underlying ht, Instr.sliceBounds, Instr.sliceBound, asIntOf, h2, h0, h0h]
  intro hx; exfalso; omega
theorem z4h (hst : St μ0 S0 w0 μ β env S a.tmps w) {lo : Option Operand} {k : IntKind} {l : Int} (h : (match lo with | some x => opd env x | none => .v (.s (.int .i64 0))) = AV.v (.s (.int k l))) :
 lo.map a.eval = none ∧ l = 0 ∨ ∃ k, lo.map a.eval = some (.int k l) := by
 cases lo with
 | none => simp at h; exact .inl ⟨rfl, h.2.symm⟩
 | some x =>
   simp only at h
   have hx := hst.opd rfl x
   rw [h] at hx
   have hx : a.eval x = .int k l := hx
   exact .inr ⟨k, by simp [hx]⟩
theorem z6w (hst : St μ0 S0 w0 μ β env S a.tmps w) {lo : Option Operand} {k : IntKind} {l n : Int} (h : (match lo with | some x => opd env x | none => .v (.s (.int .i64 n))) = AV.v (.s (.int k l))) :
 lo.map a.eval = none ∧ l = n ∨ ∃ k, lo.map a.eval = some (.int k l) := by
 cases lo with
 | none => simp at h; exact .inl ⟨rfl, h.2.symm⟩
 | some x =>
   simp only at h
   have hx := hst.opd rfl x
   rw [h] at hx
   have hx : a.eval x = .int k l := hx
   exact .inr ⟨k, by simp [hx]⟩
theorem z3z {t e : Nat} {te : TI} (ht : P.underlying t = some (.slice e)) (hte : TyOK P e te) {base : Option Addr} {len cap : Nat} {k k' : IntKind} :
 (Instr.sliceAt t (.slice base len cap) none (some (.int k 0)) (some (.int k' 0))).run P w = .ok (.slice base 0 0) w := by
 simp [Instr.sliceAt, Instr.slice, run_underlying ht, Instr.sliceBounds, Instr.sliceBound, asIntOf, hte.sizeOf]
theorem z1p {EV : Nat → List V → Store → (AV → Store → Prop) → Prop} (hT : TOK P T) {K : Env → Store → Prop} {next : Act → World → Prop} {Q : Exit → Act → World → Prop} {dst : Option Tmp} {t : TypeId} {x i : Operand} {s : ByteArray} {k : IntKind} {j : Int} {type pos after guard}
 (hn : Next μ0 S0 w0 K next) (hd : a.defers = []) (hst : St μ0 S0 w0 μ β env S a.tmps w) (e1 : opd env x = .v (.s (.str s))) (e2 : opd env i = .v (.s (.int k j))) (h : dOp T EV (.index t x i) dst env S K) : Oper.wp P { dst := dst, op := .index t x i, type := type, pos := pos, after := after, guard := guard } a w next Q := by
 simp only [dOp] at h
 have hx := hst.opd rfl x
 have hi := hst.opd rfl i
 rw [e1, e2] at h
 rw [e1] at hx; rw [e2] at hi
 have hi : a.eval i = .int k j := hi
 have hx : a.eval x = .string s := hx
 simp only at h
 split at h
 ·rename_i _ _ _ _ _ ht
  unfold NeedP at h
  obtain ⟨⟨g1, g2⟩, g3⟩ := h
  obtain ⟨desc, d1, d2⟩ := zec hT ht
  obtain rfl := zhn d2
  have hj : j.toNat < s.size := by omega
  have hs : s[j.toNat]? = some s[j.toNat] := by simp [hj]
  refine fin (x := .v (.s (.int .u8 (byteS s j)))) (u := .int .u8 s[j.toNat].toNat) hn hd hst g3 ?_ ?_
  ·simp [execOp, hx, hi, Instr.index, asIntOf, run_underlying d1, g1, hs]
  ·unfold byteS; rw [hs]; rfl
 ·exact h.elim
theorem z3j {EV : Nat → List V → Store → (AV → Store → Prop) → Prop} (hT : TOK P T) {K : Env → Store → Prop} {next : Act → World → Prop} {Q : Exit → Act → World → Prop} {dst : Option Tmp} {t : TypeId} {x : Operand} {lo hi mx : Option Operand} {type pos after guard}
 (hn : Next μ0 S0 w0 K next) (hd : a.defers = []) (hst : St μ0 S0 w0 μ β env S a.tmps w) (h : dOp T EV (.slice t x lo hi mx) dst env S K) : Oper.wp P { dst := dst, op := .slice t x lo hi mx, type := type, pos := pos, after := after, guard := guard } a w next Q := by
 simp only [dOp] at h
 have hx := hst.opd rfl x
 split at h
 ·rename_i e _ _ _ _ _ c ht e1
  rw [e1] at hx
  have hti := ((hT t _ ht).slice e rfl).2
  split at h
  ·split at h
   ·rename_i k' k
    split at h
    ·rename_i te hte
     unfold Cut0P at h
     obtain ⟨xs, g1, g2⟩ := h
     have hu : ∃ base n cap, a.eval x = .slice base n cap ∧ CR μ S (cut0 c) (.slice base 0 0) := by
      cases c with
      | nil => exact ⟨none, 0, 0, hx, rfl⟩
      | zc => obtain ⟨ad, he⟩ := hx; exact ⟨_, _, _, he, ad, rfl⟩
      | sl id o n t => obtain ⟨ad, cap, he, _⟩ := hx; exact ⟨_, _, _, he, ad, rfl⟩
      | _ => simp [elems] at g1
     obtain ⟨base, n, cap, he, hr⟩ := hu
     refine fin (x := .v (.s (cut0 c))) (u := .slice base 0 0) hn hd hst g2 ?_ hr
     have hc : ∀ v, a.eval (.const v) = v := fun _ => rfl
     simp only [execOp, Option.map, hc, he, Sem.run_bind, z3z hti (hT e te hte)]
     rfl
    ·exact h.elim
   ·exact h.elim
  ·exact h.elim
  ·split at h
   ·rename_i k l hl
    have hlo := z4h hst hl
    split at h
    ·rename_i y
     split at h
     ·rename_i k' hh ey
      have hy := hst.opd rfl y
      rw [ey] at hy
      have hy : a.eval y = .int k' hh := hy
      split at h
      ·rename_i te hte
       unfold SliP at h
       obtain ⟨xs, g1, g2, g3, g4, g5, g6⟩ := h
       obtain ⟨base, n, cap, r1, r2, r3, r4⟩ := z1q hst.rs g1 g2 g3 g4 g5 hx
       exact fin (x := .v (.s (cutC c l hh))) hn hd hst g6 (by simp [execOp, r1, hy, ztp hti (hT e te hte) hlo (.inr ⟨k', rfl⟩) g3 g4 (by rw [r3]; exact g5) r2]) r4
      ·exact h.elim
     ·exact h.elim
    ·split at h
     ·rename_i te hte
      unfold SlhP at h
      obtain ⟨xs, g1, g2, g3, g4, g5⟩ := h
      obtain ⟨base, n, cap, r1, r2, r3, r4⟩ := z1q hst.rs g1 g2 g3 g4 (Int.le_refl _) hx
      exact fin (x := .v (.s (cutC c l xs.length))) hn hd hst g5 (by simp [execOp, r1, ztp hti (hT e te hte) hlo (.inl ⟨rfl, by rw [r3]⟩) g3 g4 (by rw [r3]; exact Int.le_refl _) r2]) r4
     ·exact h.elim
   ·exact h.elim
 ·rename_i _ _ _ _ s ht e1
  rw [e1] at hx
  have hx : a.eval x = .string s := hx
  obtain ⟨desc, d1, d2⟩ := zec hT ht
  obtain rfl := zhn d2
  split at h
  ·exact h.elim
  ·split at h
   ·rename_i k l k' hh e2 e3
    unfold NeedP at h
    obtain ⟨⟨g1, g2, g3⟩, g4⟩ := h
    refine fin (x := .v (.s (.str (cutS s l hh)))) (u := .string (s.extract l.toNat hh.toNat)) hn hd hst g4 ?_ (by unfold cutS; rfl)
    simp [execOp, hx, zql d1 (z4h hst e2) (z6w hst e3) g1 g2 g3]
   ·exact h.elim
 ·exact h.elim
theorem zym {EV : Nat → List V → Store → (AV → Store → Prop) → Prop} (hT : TOK P T) {K : Env → Store → Prop} {next : Act → World → Prop} {Q : Exit → Act → World → Prop} {dst : Option Tmp} {s d : TypeId} {x : Operand} {type pos after guard}
 (hn : Next μ0 S0 w0 K next) (hd : a.defers = []) (hst : St μ0 S0 w0 μ β env S a.tmps w) (h : dOp T EV (.convert s d x) dst env S K) : Oper.wp P { dst := dst, op := .convert s d x, type := type, pos := pos, after := after, guard := guard } a w next Q := by
 simp only [dOp] at h
 have hx := hst.opd rfl x
 split at h
 ·rename_i _ _ _ _ _ _ dk _ _ _ _ _ hs hd'
  split at h
  ·rename_i k' n k e1 hk
   rw [e1] at hx
   have hx : a.eval x = .int k' n := hx
   obtain ⟨ds, s1, s2⟩ := zec hT hs
   obtain ⟨dd, d1, d2⟩ := zec hT hd'
   obtain rfl := z2r hk d2
   refine fin (x := .v (.s (.int k (wrapI k n)))) (u := .int k (k.wrap n)) hn hd hst h ?_ (by unfold wrapI; rfl)
   simp [execOp, hx, convert, run_underlying s1, run_underlying d1, Conv.intToInt]
  ·exact h.elim
 ·rename_i e _ _ _ _ _ _ _ _ _ _ hs hd'
  split at h
  ·rename_i _ _ _ _ _ he
   obtain ⟨ys, h1, base, c, hu, h2⟩ := zn6 hst h
   unfold NeedP at h1
   obtain ⟨hall, h3⟩ := h1
   obtain ⟨dd, d1, d2⟩ := zec hT hd'
   obtain rfl := zhn d2
   obtain ⟨de, d3, d4⟩ := zec hT he
   obtain rfl := z4o d4
   have hse := ((hT s _ hs).slice e rfl).2
   refine fin (x := .v (.s (.str (strOf ys)))) (u := .string (strOf ys)) hn hd hst h3 ?_ rfl
   have key : (Conv.bytesToString (.slice base ys.length c)).run P w = .ok (.string (strOf ys)) w := by
    cases base with
    | none =>
      have : ys = [] := Classical.byContradiction fun hne => by obtain ⟨ad, h, _⟩ := h2 hne; cases h
      subst this
      unfold strOf
      simp [Conv.bytesToString, zlb]; rfl
    | some ad =>
      obtain ⟨ns, hns⟩ : ∃ ns : List Int, ys = ns.map fun n => [C.int .u8 n] := by
       clear h2 hu h3
       induction ys with
       | nil => exact ⟨[], rfl⟩
       | cons y ys ih =>
         obtain ⟨n, rfl⟩ := hall y (by simp)
         obtain ⟨ns, rfl⟩ := ih (fun y hy => hall y (by simp [hy]))
         exact ⟨n :: ns, rfl⟩
      have hl : (loadCells ad ys.length).run P w = .ok (ns.map (Value.int .u8)).toArray w := by
       have hlen : ys.length = (ns.map (Value.int .u8)).length := by rw [hns]; simp
       rw [hlen]
       refine run_loadCells_list w ad _ fun j v hj => ?_
       have hne : ys ≠ [] := by
        intro e0
        rw [e0] at hlen
        have := (List.getElem?_eq_some_iff.1 hj).1
        simp at hlen this
        omega
       obtain ⟨ad', e1, h4⟩ := h2 hne
       cases e1
       obtain ⟨news, n1, n2, n3⟩ := h4 1 (fun y hy => by obtain ⟨n, rfl⟩ := hall y hy; rfl)
       rw [List.getElem?_map, Option.map_eq_some_iff] at hj
       obtain ⟨n, q1, q2⟩ := hj
       obtain ⟨r1, r2⟩ := n3 j [C.int .u8 n] (by rw [hns, List.getElem?_map, q1]; rfl)
       obtain ⟨u, u1, u2⟩ := r2 0 _ rfl
       have u2 : u = .int .u8 n := u2
       rw [Nat.mul_one, Nat.add_zero] at u1
       rw [← q2, ← u2]
       exact n1 j u u1
      rw [run_bytesToString w ad ys.length c ns hl, foldl_push_bytes]
      congr 2
      unfold strOf
      rw [hns]
      have : ∀ l : List Int, zlb (l.map fun n => [C.int .u8 n]) = l.map fun n => UInt8.ofNat n.toNat := by
       intro l
       induction l with
       | nil => rfl
       | cons n l ih => simp [zlb, ih]
      rw [this]
      simp
   simp only [execOp, hu, Sem.run_bind, run_convert_bytes_string w s d e base ys.length c hse d3 d1, key]
   rfl
  ·exact h.elim
 ·exact h.elim
theorem z46 {x : AV} {u : Value} (h : AVR μ S x u) : OpdR μ S β env x u := by
 cases x <;> first | exact h.elim | exact h
def Call.consts (args : Array Operand) : Array Bool := args.map fun | .const _ => true | _ => false
theorem zg3 {dst : Option Tmp} {b : Builtin} {args : Array Operand} {ats : Array TypeId} {type pos after guard} :
 (execOp a.eval { dst := dst, op := .call { callee := .builtin b, args := args, argTypes := ats }, type := type, pos := pos, after := after, guard := guard }).run P w =
  (builtin b ats type (Call.consts args) (args.map a.eval)).run P w := by
 simp only [execOp, resolve, invoke, Sem.run_bind, Sem.run_pure, Result.andThen]
 rfl
theorem zzt {dst : Option Tmp} {f : Operand} {g : FuncId} {args : Array Operand} {ats : Array TypeId} {type pos after guard} (hf : a.eval f = .func (.func g) #[] #[]) :
 (execOp a.eval { dst := dst, op := .call { callee := .value f, args := args, argTypes := ats }, type := type, pos := pos, after := after, guard := guard }).run P w =
  (callFunc g (args.map a.eval)).run P w := by
 simp [execOp, resolve, invoke, hf, Deferred.ofValue]
theorem zjv {args : Array Operand} {x y : Operand} (h : args.toList = [x, y]) : args.map a.eval = #[a.eval x, a.eval y] := by
 have : args = #[x, y] := by rw [← Array.toArray_toList (xs := args), h]
 rw [this]; simp
theorem zuw {args : Array Operand} {x : Operand} (h : args.toList = [x]) : args.map a.eval = #[a.eval x] := by
 have : args = #[x] := by rw [← Array.toArray_toList (xs := args), h]
 rw [this]; simp
theorem zyy {EV : Nat → List V → Store → (AV → Store → Prop) → Prop} (hT : TOK P T) {K : Env → Store → Prop} {next : Act → World → Prop} {Q : Exit → Act → World → Prop} {dst : Option Tmp} {b : Builtin} {args : Array Operand} {ats : Array TypeId} {type pos after guard}
 (hn : Next μ0 S0 w0 K next) (hd : a.defers = []) (hst : St μ0 S0 w0 μ β env S a.tmps w) (h : zep T b args.toList ats.toList dst env S K) : Oper.wp P { dst := dst, op := .call { callee := .builtin b, args := args, argTypes := ats }, type := type, pos := pos, after := after, guard := guard } a w next Q := by
 unfold zep at h
 split at h
 ·rename_i x hargs
  have ha := zuw (a := a) hargs
  split at h
  ·rename_i t ty ats' hats
   have h0 : ats[0]? = some ty := by rw [← Array.getElem?_toList, hats]; rfl
   have hrun : ∀ n : Nat, (Builtin.len_ ats type #[a.eval (.tmp t)]).run P w = .ok (goInt n) w → (execOp a.eval { dst := dst, op := .call { callee := .builtin .len, args := args, argTypes := ats }, type := type, pos := pos, after := after, guard := guard }).run P w = .ok (.value (goInt n)) w := by
    intro n hr
    rw [zg3, ha]
    simp only [builtin, Sem.run_bind, hr]
    rfl
   split at h
   ·rename_i e _ _ _ _ _ ht
    have hti := ((hT ty _ ht).slice e rfl).2
    split at h
    ·rename_i k xs hx
     have hs := hst.slot t _ (za5 hx (by simp))
     obtain ⟨h1, _⟩ := hs
     have h1 : a.eval (.tmp t) = .slice (some ⟨β t, 0, none⟩) xs.length xs.length := h1
     exact fin (x := .v (.s (.int .i64 xs.length))) hn hd hst h (hrun xs.length (by simp [Builtin.len_, h0, run_underlying hti, h1])) rfl
    ·rename_i c hx
     have hs := hst.slot t _ (za5 hx (by simp))
     have hs : CR μ S c (a.eval (.tmp t)) := hs
     unfold LenP at h
     obtain ⟨l, h1, h2⟩ := h
     obtain ⟨base, cx, h3, _⟩ := zua hst hs h1
     exact fin (x := .v (.s (.int .i64 l.length))) hn hd hst h2 (hrun l.length (by simp [Builtin.len_, h0, run_underlying hti, h3])) rfl
    ·exact h.elim
   ·rename_i _ _ _ _ _ ht
    obtain ⟨desc, d1, d2⟩ := zec hT ht
    obtain rfl := zhn d2
    split at h
    ·rename_i s hx
     have hs := hst.slot t _ (za5 hx (by simp))
     have hs : a.eval (.tmp t) = .string s := hs
     exact fin (x := .v (.s (.int .i64 s.size))) hn hd hst h (hrun s.size (by simp [Builtin.len_, h0, run_underlying d1, hs])) rfl
    ·exact h.elim
   ·exact h.elim
  ·exact h.elim
 ·rename_i s x hargs
  have ha := zjv (a := a) hargs
  split at h
  ·rename_i t t' hats
   cases hb : Nat.beq t' t with
   | false => rw [hb] at h; exact h.elim
   | true =>
     rw [hb] at h
     simp only [cond_true] at h
     have ht' := Nat.eq_of_beq_eq_true hb
     subst ht'
     have hats' : ats = #[t', t'] := by rw [← Array.toArray_toList (xs := ats), hats]
     split at h
     ·rename_i e _ _ _ _ _ ht
      have hti := ((hT t' _ ht).slice e rfl).2
      split at h
      ·rename_i te he
       obtain ⟨v, env', S', μ', h1, h2, h3, h4⟩ := zf3 hst h
       split at h1
       ·rename_i c
        obtain ⟨ys, h5, h6⟩ := zn6 h2 h1
        obtain ⟨c', S2, μ2, w2, u', k1, k2, k3, k4, k5⟩ := ztn (ty := type) h2.rs hti (hT e te he) h3 h6 h5
        refine fin' (x := .v (.s c')) (u := u') hn hd h2 k1 ?_ k4 k5 k3
        rw [zg3, ha, hats']
        simp only [builtin, Sem.run_bind, k2]
        rfl
       ·exact h1.elim
      ·exact h.elim
     ·exact h.elim
  ·exact h.elim
 ·rename_i x y hargs
  have ha := zjv (a := a) hargs
  split at h
  ·rename_i k p k' q e1 e2
   have hx := hst.opd rfl x
   have hy := hst.opd rfl y
   rw [e1] at hx; rw [e2] at hy
   have hx : a.eval x = .int k p := hx
   have hy : a.eval y = .int k' q := hy
   refine fin (x := .v (.s (.int k (minI p q)))) (u := .int k (if q < p then q else p)) hn hd hst h ?_ (by unfold minI; rfl)
   rw [zg3, ha, hx, hy]
   simp only [builtin, Sem.run_bind, run_min_int2]
   rfl
  ·exact h.elim
 ·rename_i x y hargs
  have ha := zjv (a := a) hargs
  split at h
  ·rename_i k p k' q e1 e2
   have hx := hst.opd rfl x
   have hy := hst.opd rfl y
   rw [e1] at hx; rw [e2] at hy
   have hx : a.eval x = .int k p := hx
   have hy : a.eval y = .int k' q := hy
   refine fin (x := .v (.s (.int k (maxI p q)))) (u := .int k (if q > p then q else p)) hn hd hst h ?_ (by unfold maxI; rfl)
   rw [zg3, ha, hx, hy]
   simp only [builtin, Sem.run_bind, run_max_int2]
   rfl
  ·exact h.elim
 ·exact h.elim
theorem z2q {EV : Nat → List V → Store → (AV → Store → Prop) → Prop} (hEV : ∀ f args S R, EV f args S R → EvA P f args S R) {K : Env → Store → Prop} {next : Act → World → Prop} {Q : Exit → Act → World → Prop} {dst : Option Tmp} {f : Operand} {g : Nat} {args : Array Operand} {ats : Array TypeId} {type pos after guard}
 (hn : Next μ0 S0 w0 K next) (hd : a.defers = []) (hst : St μ0 S0 w0 μ β env S a.tmps w) (hf : opd env f = .v (.s (.fn g)))
 (h : zgx env S args.toList fun vs env S => CallP EV g vs S fun r S => (putK env dst r fun env => K env S)) : Oper.wp P { dst := dst, op := .call { callee := .value f, args := args, argTypes := ats }, type := type, pos := pos, after := after, guard := guard } a w next Q := by
 have hfe := hst.opd rfl f
 rw [hf] at hfe
 have hfe : a.eval f = .func (.func g) #[] #[] := hfe
 obtain ⟨vs, env', S', μ', h1, h2, h3, h4, h5⟩ := zgg hst h
 unfold CallP at h1
 obtain ⟨R, h6, h7⟩ := h1
 obtain ⟨⟨fn, f1, f2, f3⟩, h8⟩ := hEV _ _ _ _ h6
 have hrel : VsR μ' S' vs (args.map a.eval) := by
  refine ⟨by simp at h3; simp [h3], fun j v hj => ?_⟩
  have hlt : j < args.size := by have := (List.getElem?_eq_some_iff.1 hj).1; simp at h3; omega
  exact ⟨a.eval args[j], by simp [hlt], h4 j v args[j] hj (by simp [hlt])⟩
 have hc := h8 μ' w (args.map a.eval) h2.rs (h2.amb.evo h2.evo) hrel
 unfold Oper.wp
 have hr : (callFunc g (args.map a.eval)).run P w = .ok (.enter g (args.map a.eval)) w := by
  have n1 : fn.name ≠ "runtime.NumGoroutine" := by simpa using f2
  simp [callFunc, f1, n1]
  intro hh; rw [hh] at f3; cases f3
 rw [zzt hfe, hr]
 show Calls P g (args.map a.eval) w _
 refine hc.mono fun e w' he => ?_
 obtain ⟨r, S2, u, μ2, r0, rfl, r1, r2, r3⟩ := he
 have h7 := h7 r S2 r0
 simp only [zdd] at h7
 exact hn _ _ _ _ _ _ h7 (by rw [zcs]; exact hd) ((h2.step r1 r3).put (z46 r2) dst rfl)
end
end Go.Proofs.YtlmmdpmmdmhacaaGreat
