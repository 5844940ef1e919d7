/- One operation: what is computed of it holds of the model's. -/
import Derived.Test.YtlmmdpmmdmhacaaGreatKt07
namespace Go.Proofs.YtlmmdpmmdmhacaaGreat
open Go
set_option linter.unusedVariables false
set_option linter.unusedSimpArgs false
section
variable {P : Program} {T : TT} {μ0 : Mp} {S0 : Store} {w0 : World} {μ : Mp} {β : Nat → Nat} {env : Env} {S : Store} {w : World} {a : Act}
theorem zr7 {x : Operand} {n : Int} (h : ciOf x = some n) : ∃ k, x = .const (.int k n) := by
 unfold ciOf at h
 split at h
 ·cases h; exact ⟨_, rfl⟩
 ·cases h
theorem zid {EV : Nat → List V → Store → (AV → Store → Prop) → Prop} (hT : TOK P T) (hEV : ∀ f args S R, EV f args S R → EvA P f args S R) {o : Oper} {K : Env → Store → Prop} {next : Act → World → Prop} {Q : Exit → Act → World → Prop}
 (hn : Next μ0 S0 w0 K next) (hd : a.defers = []) (hst : St μ0 S0 w0 μ β env S a.tmps w) (h : dOp T EV o.op o.dst env S K) : o.wp P a w next Q := by
 obtain ⟨dst, op, type, pos, after, guard⟩ := o
 cases op with
 | move x =>
   simp only [dOp] at h
   obtain ⟨v, env', S', μ', h1, h2, h3, h4⟩ := zi2 hst h
   exact fin hn hd h2 h1 rfl h3
 | assign x =>
   simp only [dOp] at h
   obtain ⟨v, env', S', μ', h1, h2, h3, h4⟩ := zi2 hst h
   exact fin hn hd h2 h1 rfl h3
 | pick c x y =>
   simp only [dOp] at h
   have hc := hst.opd rfl c
   cases hcv : opd env c with
   | v cv =>
     rw [hcv] at h hc
     cases cv with
     | agg _ => exact h.elim
     | s cc => cases cc with
       | bool b0 =>
         simp only at h
         have hc : a.eval c = .bool b0 := hc
         have hx := hst.opd rfl x
         have hy := hst.opd rfl y
         refine fin (u := if b0 then a.eval x else a.eval y) hn hd hst h (by simp [execOp, hc, asBool]) ?_
         unfold zxc
         split
         ·rename_i p q e1 e2
          rw [e1] at hx; rw [e2] at hy
          have hx : a.eval x = .bool p := hx
          have hy : a.eval y = .bool q := hy
          rw [hx, hy]
          cases b0 <;> rfl
         ·cases b0
          ·exact hy
          ·exact hx
       | _ => exact h.elim
   | _ => rw [hcv] at h; exact h.elim
 | alloc t =>
   simp only [dOp] at h
   cases dst with
   | none => exact h.elim
   | some d =>
     cases ht : T t with
     | none => rw [ht] at h; exact h.elim
     | some ti =>
       rw [ht] at h
       simp only [zdj, zh2, zb3] at h
       obtain ⟨i, z, h1, h2, h3, h4, h5, h6, h7⟩ := (hT t ti ht).info
       refine znn (u := .pointer (some ⟨w.heap.size, 0, none⟩)) (w' := w.alloc (.cells z.cells t)) ?_ (hn _ _ _ _ _ _ h (by rw [zcs]; exact hd) (hst.fresh (d := d) (x := .box ti.zero) rfl (fun β' env' w' e1 e2 => ⟨by rw [e1], z.cells, t, by rw [e1]; exact e2, by rw [h5, h6], fun j c hj => ?_⟩) rfl))
       ·simp [execOp, Instr.alloc, zeroValue, typeInfo, h1, h4, newVar, newRow]
       ·obtain ⟨u, g1, g2⟩ := h7 j c hj
        exact ⟨u, g1, zis g2 μ S⟩
 | box t x =>
   simp only [dOp] at h
   cases dst with
   | none => exact h.elim
   | some d =>
     obtain ⟨v, env', S', μ', h1, h2, h3, h4⟩ := zf3 hst h
     simp only [zdj, zh2, zb3] at h1
     have hc := h3.cells
     refine znn (u := .pointer (some ⟨w.heap.size, 0, none⟩)) (w' := w.alloc (.cells (a.eval x).cells t)) ?_ (hn _ _ _ _ _ _ h1 (by rw [zcs]; exact hd) (h2.fresh (d := d) (x := .box v.cells) rfl (fun β' env' w' e1 e2 => ⟨by rw [e1], _, t, by rw [e1]; exact e2, hc⟩) rfl))
     simp [execOp, Instr.box, newVar, newRow]
 | build t parts => exact z2x hT hn hd hst h
 | buildSlice t len parts => exact zrm hT hn hd hst h
 | load t x =>
   simp only [dOp] at h
   cases ht : T t with
   | none => rw [ht] at h; exact h.elim
   | some ti =>
     rw [ht] at h
     obtain ⟨v, val, h1, h2, h3⟩ := zu3 hst (hT t ti ht) (hst.opd rfl x) h
     exact fin hn hd hst h1 (by simp [execOp, h2]) h3
 | store t x y =>
   simp only [dOp] at h
   cases dst with
   | some d => exact h.elim
   | none =>
     obtain ⟨v, env', S', μ', h1, h2, h3, h4⟩ := zf3 hst h
     cases ht : T t with
     | none => rw [ht] at h1; exact h1.elim
     | some ti =>
       rw [ht] at h1
       simp only at h1
       cases hb : Nat.beq v.cells.length ti.sz with
       | false => rw [hb] at h1; exact h1.elim
       | true =>
         rw [hb] at h1
         simp only [cond_true] at h1
         have hlen := Nat.eq_of_beq_eq_true hb
         obtain ⟨env2, S2, w2, g1, g2, g3⟩ := zt8 h2 (hT t ti ht) (h2.opd rfl x) h3.cells hlen h1
         unfold Oper.wp
         have hr : (execOp a.eval { dst := none, op := .store t x y, type, pos, after, guard }).run P w = .ok .skip w2 := by simp [execOp, g2]
         rw [hr]
         exact hn _ _ _ _ _ _ g1 hd g3
 | nilCheck x =>
   simp only [dOp] at h
   have hx := hst.opd rfl x
   cases hv : opd env x with
   | plc d o =>
     rw [hv] at h hx
     obtain ⟨⟨b, o', he⟩, _⟩ := hx
     exact fin (x := .plc d o) (u := a.eval x) hn hd hst h (by simp [execOp, he]) (by rw [← hv]; exact hst.opd rfl x)
   | el c i o =>
     rw [hv] at h hx
     have hp : ∃ b o', a.eval x = .pointer (some ⟨b, o', none⟩) := by
      cases c <;> first | exact hx.elim | exact hx.1
     obtain ⟨b, o', he⟩ := hp
     exact fin (x := .el c i o) (u := a.eval x) hn hd hst h (by simp [execOp, he]) hx
   | pe id o =>
     rw [hv] at h hx
     obtain ⟨⟨ad, he⟩, _⟩ := hx
     exact fin (x := .pe id o) (u := a.eval x) hn hd hst h (by simp [execOp, he]) (by rw [← hv]; exact hst.opd rfl x)
   | v y =>
     rw [hv] at h hx
     cases y with
     | agg _ => exact h.elim
     | s c => cases c with
       | pt id =>
         obtain ⟨⟨ad, he⟩, _⟩ := hx
         exact fin (x := .v (.s (.pt id))) (u := a.eval x) hn hd hst h (by simp [execOp, he]) (by rw [← hv]; exact hst.opd rfl x)
       | _ => exact h.elim
   | _ => rw [hv] at h; exact h.elim
 | extract x i =>
   simp only [dOp] at h
   have hx := hst.opd rfl x
   cases hv : opd env x with
   | tup vs =>
     rw [hv] at h hx
     obtain ⟨us, he, h1, h2⟩ := hx
     simp only at h
     cases hi : vs[i]? with
     | none => rw [hi] at h; exact h.elim
     | some v =>
       rw [hi] at h
       obtain ⟨u, g1, g2⟩ := h2 i v hi
       exact fin (x := .v v) (u := u) hn hd hst h (by simp [execOp, he, Instr.extract, g1]) g2
   | _ => rw [hv] at h; exact h.elim
 | unOp b t x =>
   simp only [dOp] at h
   have hx := hst.opd rfl x
   split at h
   ·rename_i b0 hv
    rw [hv] at hx
    have hx : a.eval x = .bool b0 := hx
    exact fin (x := .v (.s (.bool (!b0)))) (u := .bool (!b0)) hn hd hst h (by simp [execOp, hx, Op.unary]) rfl
   ·rename_i k n hv
    rw [hv] at hx
    have hx : a.eval x = .int k n := hx
    exact fin (x := .v (.s (.int k (wrapI k (0 - n))))) (u := .int k (k.wrap (0 - n))) hn hd hst h (by simp [execOp, hx, Op.unary, Op.intArith]) (by unfold wrapI; rfl)
   ·exact h.elim
 | field t x i =>
   simp only [dOp] at h
   split at h
   ·rename_i offs _ _ _ _ ft ht
    split at h
    ·rename_i o e ho he
     split at h
     ·rename_i te hte
      split at h
      ·rename_i cs hx0
       have hx := hst.opd rfl x
       rw [hx0] at hx
       obtain ⟨us, hu, hag⟩ : VR μ S (.agg cs) (a.eval x) := hx
       obtain ⟨fs, k1, k2⟩ := (hT t _ ht).fld offs rfl
       obtain ⟨f, k3, k4, k5⟩ := k2 i o e ho he
       obtain ⟨v, u, g1, g2, g3⟩ := zz1 (P := P) (w := w) (hT e te hte) h hag
       refine fin (x := .v v) (u := u) hn hd hst g1 ?_ g3
       have : (Instr.field t (a.eval x) i).run P w = .ok u w := by
        simp [Instr.field, run_underlying k1, k3, hu, asAgg, k4, k5, g2]
       simp [execOp, this]
      ·exact h.elim
     ·exact h.elim
    ·exact h.elim
   ·exact h.elim
 | fieldAddr t x i =>
   simp only [dOp] at h
   cases ho : z29 T t i with
   | none => rw [ho] at h; exact h.elim
   | some o' =>
     rw [ho] at h
     simp only at h
     obtain ⟨ti, offs, h1, h2, h3⟩ := zxq ho
     have hx := hst.opd rfl x
     cases hv : opd env x with
     | plc d o =>
       rw [hv] at h hx
       obtain ⟨⟨b, p, he⟩, h4⟩ := hx
       refine fin (x := .plc d (o + o')) (u := .pointer (some ⟨b, p + o', none⟩)) hn hd hst h (by simp [execOp, he, zhh (hT t ti h1) h2 h3]) ⟨⟨_, _, rfl⟩, fun xs hxs => ?_⟩
       have := h4 xs hxs
       rw [he] at this
       simp only [Value.pointer.injEq, Option.some.injEq, Addr.mk.injEq] at this
       rw [this.1, this.2.1]
     | el c j o =>
       rw [hv] at h hx
       cases c with
       | sl id o1 n tt =>
         obtain ⟨⟨b, p, he⟩, row, r1, r2, r3⟩ := hx
         refine fin (x := .el (.sl id o1 n tt) j (o + o')) (u := .pointer (some ⟨b, p + o', none⟩)) hn hd hst h (by simp [execOp, he, zhh (hT t ti h1) h2 h3]) ⟨⟨_, _, rfl⟩, row, r1, r2, fun hl => ?_⟩
         obtain ⟨m, m1, m2, m3, m4, m5⟩ := r3 hl
         rw [he] at m5
         simp only [Value.pointer.injEq, Option.some.injEq, Addr.mk.injEq] at m5
         exact ⟨m, m1, m2, m3, m4, by rw [m5.1, m5.2.1, Nat.add_assoc]⟩
       | _ => exact hx.elim
     | pe id o =>
       rw [hv] at h hx
       obtain ⟨⟨b, he⟩, row, r1, r2, r3, r4⟩ := hx
       refine fin (x := .pe id (o + o')) (u := .pointer (some ⟨b, o + o', none⟩)) hn hd hst h (by simp [execOp, he, zhh (hT t ti h1) h2 h3]) ⟨⟨_, rfl⟩, row, r1, r2, r3, fun hl => ?_⟩
       obtain ⟨m, m1, m2⟩ := r4 hl
       rw [he] at m2
       simp only [Value.pointer.injEq, Option.some.injEq, Addr.mk.injEq] at m2
       exact ⟨m, m1, by rw [m2.1]⟩
     | v y =>
       rw [hv] at h hx
       cases y with
       | agg _ => exact h.elim
       | s c => cases c with
         | pt id =>
           obtain ⟨⟨b, he⟩, row, r1, r2, r3, r4⟩ := hx
           refine fin (x := .pe id o') (u := .pointer (some ⟨b, 0 + o', none⟩)) hn hd hst h (by simp only [execOp, he]; simp [zhh (hT t ti h1) h2 h3]) ⟨⟨b, by rw [Nat.zero_add]⟩, row, r1, r2, r3, fun hl => ?_⟩
           obtain ⟨m, m1, m2⟩ := r4 hl
           rw [he] at m2
           simp only [Value.pointer.injEq, Option.some.injEq, Addr.mk.injEq] at m2
           exact ⟨m, m1, by rw [m2.1, Nat.zero_add]⟩
         | _ => exact h.elim
     | _ => rw [hv] at h; exact h.elim
 | indexAddr t x i =>
   simp only [dOp] at h
   obtain ⟨x', env, S, μ, h, hst, hx, _⟩ := zi2 hst h
   have hi := hst.opd rfl i
   split at h
   ·rename_i c k j e2
    rw [e2] at hi
    have hi : a.eval i = .int k j := hi
    split at h
    ·rename_i e _ _ _ _ _ ht
     split at h
     ·rename_i te hte
      unfold IdxP at h
      obtain ⟨l, cs, g1, g2, g3, g4, g5⟩ := h
      have hti := (hT t _ ht).slice e rfl
      cases c with
      | sl id o n tt =>
        obtain ⟨ad, cap, he, hnc, row', q1, q2, q3⟩ := hx
        obtain ⟨row, r1, r2, r3, r4, r5⟩ := zw9 g1 g3
        obtain rfl : row = row' := Option.some.inj (r1.symm.trans q1)
        obtain ⟨m, m1, m2, m3, m4⟩ := q3 r2
        have had := m3 (by omega)
        have hkk : te.sz = row.k := by rw [← g4]; exact ((hst.rs.ok id row m r1 m1).cells _ _ r5).1
        refine fin (x := .el (.sl id o n tt) j 0) (u := .pointer (some ⟨m.blk, m.base + o * row.k + j.toNat * te.sz, none⟩)) hn hd hst g5 ?_ ⟨⟨_, _, rfl⟩, row, r1, by omega, fun _ => ⟨m, m1, m2, g2, by omega, ?_⟩⟩
        ·rw [had] at he
         simp [execOp, he, hi, z0y hti.2 (hT e te hte) g2 (show j < n by omega)]
        ·rw [hkk, Nat.add_mul, Nat.add_zero, Nat.add_assoc]
      | nil => simp [elems] at g1; subst g1; simp at g3
      | zc => simp [elems] at g1; subst g1; simp at g3
      | _ => simp [elems] at g1
     ·exact h.elim
    ·exact h.elim
   ·rename_i d o k j e2
    rw [e2] at hi
    have hi : a.eval i = .int k j := hi
    obtain ⟨⟨b, p, he⟩, h4⟩ := hx
    split at h
    ·rename_i n e _ _ _ _ _ ht
     split at h
     ·rename_i te hte
      unfold NeedP at h
      obtain ⟨⟨g1, g2⟩, g3⟩ := h
      have hti := (hT t _ ht).array n e rfl
      refine fin (x := .plc d (o + j.toNat * te.sz)) (u := .pointer (some ⟨b, p + j.toNat * te.sz, none⟩)) hn hd hst g3 ?_ ⟨⟨_, _, rfl⟩, fun xs hxs => ?_⟩
      ·simp [execOp, he, hi, Instr.indexAt, asIntOf, run_underlying hti, Instr.sureAddr, (hT e te hte).sizeOf, g1, g2, zcl]
      ·have := h4 xs hxs
       rw [he] at this
       simp only [Value.pointer.injEq, Option.some.injEq, Addr.mk.injEq] at this
       rw [this.1, this.2.1]
     ·exact h.elim
    ·exact h.elim
   ·exact h.elim
 | makeSlice t l c =>
   simp only [dOp] at h
   split at h
   ·rename_i n n' d hl hc
    split at h
    ·rename_i e _ _ _ _ _ ht
     split at h
     ·rename_i te hte
      unfold NeedP at h
      obtain ⟨⟨rfl, g1, g2⟩, g3⟩ := h
      obtain ⟨k, rfl⟩ := zr7 hl
      obtain ⟨k', rfl⟩ := zr7 hc
      have hx : a.eval (.const (.int k n')) = .int k n' := rfl
      have hy : a.eval (.const (.int k' n')) = .int k' n' := rfl
      obtain ⟨m, rfl⟩ := Int.eq_ofNat_of_zero_le g1
      have hti := (hT t _ ht).slice e rfl
      obtain ⟨i, z, i1, i2, i3, hr⟩ := zxh (w := w) (k := k) (k' := k') hti.2 (hT e te hte) g2
      obtain ⟨i', z', j1, _, _, j4, j5, j6, j7⟩ := (hT e te hte).info
      rw [i1] at j1; cases j1
      rw [i2] at j4; cases j4
      have hb1 : 1 ≤ te.by' := (hT e te hte).bpos
      have hp := (hT e te hte).pos
      have hm : m ≤ maxLen := by
       have h5 : m * te.by' ≤ 140737488355328 := by have h := g2; rw [← Int.natCast_mul] at h; omega
       have := Nat.le_trans (Nat.le_mul_of_pos_right m hb1) h5
       simp only [maxLen]; omega
      have hflat : FlatR μ S te.sz (List.replicate m te.zero) ((List.range (m * te.sz)).map (fun p => z.cells[p % te.sz]!)) := by
       refine ⟨by simp, fun i cs hi => ?_⟩
       have hi' : i < m ∧ cs = te.zero := by
        have := List.getElem?_eq_some_iff.1 hi
        obtain ⟨q1, q2⟩ := this
        simp at q1 q2
        exact ⟨q1, q2.symm⟩
       obtain ⟨hlt, rfl⟩ := hi'
       refine ⟨j6, fun j c hj => ?_⟩
       obtain ⟨u, u1, u2⟩ := j7 j c hj
       have hj' : j < te.sz := by rw [← j6]; exact (List.getElem?_eq_some_iff.1 hj).1
       have : (i + 1) * te.sz ≤ m * te.sz := Nat.mul_le_mul_right _ hlt
       rw [Nat.add_mul, Nat.one_mul] at this
       refine ⟨u, ?_, zis u2 μ S⟩
       rw [List.getElem?_map, List.getElem?_range (by omega)]
       have e : (i * te.sz + j) % te.sz = j := by rw [Nat.mul_comm, Nat.mul_add_mod]; exact Nat.mod_eq_of_lt hj'
       simp only [Option.map_some, e]
       rw [getElem!_def, u1]
      have harr : ∀ p, (if m * te.sz = 0 then (#[] : Array Value) else z.cells)[p % (if m * te.sz = 0 then (#[] : Array Value) else z.cells).size]! = if m * te.sz = 0 then default else z.cells[p % te.sz]! := by
       intro p
       split
       ·simp
       ·rw [i3]
      have hz : ∀ (j : Nat) u, ((List.range (m * te.sz)).map (fun p => z.cells[p % te.sz]!))[j]? = some u → ((Array.range (m * te.sz)).map (fun p => (if m * te.sz = 0 then (#[] : Array Value) else z.cells)[p % (if m * te.sz = 0 then (#[] : Array Value) else z.cells).size]!))[j]? = some u := by
       intro j u hj
       have hlt : j < m * te.sz := by have := (List.getElem?_eq_some_iff.1 hj).1; simpa using this
       rw [List.getElem?_map, List.getElem?_range hlt] at hj
       simp only [Option.map_some, Option.some.injEq] at hj
       rw [Array.getElem?_map, Array.getElem?_range, if_pos hlt]
       simp only [Option.map_some, harr]
       rw [if_neg (by omega), hj]
      simp only [zb3, Int.toNat_natCast] at g3
      refine znn (u := .slice (some ⟨w.heap.size, 0, none⟩) m m) (w' := w.alloc (.cells ((Array.range (m * te.sz)).map (fun p => (if m * te.sz = 0 then (#[] : Array Value) else z.cells)[p % (if m * te.sz = 0 then (#[] : Array Value) else z.cells).size]!)) e)) (by simp only [execOp, Sem.run_bind, hx, hy, hr]; rfl) (hn _ _ _ _ _ _ g3 (by rw [zcs]; exact hd) (hst.freshL (d := d) (x := .lst te.sz (List.replicate m te.zero)) rfl (by intro ys h; cases h) (fun β' env' w' e1 e2 => ⟨by rw [e1]; simp, by simpa using hm, _, e, by rw [e1]; exact e2, by simp, fun i cs hi => ?_⟩) rfl))
      obtain ⟨q1, q2⟩ := hflat.2 i cs hi
      exact ⟨q1, fun j c hj => by obtain ⟨u, u1, u2⟩ := q2 j c hj; exact ⟨u, hz _ _ u1, u2⟩⟩
     ·exact h.elim
    ·exact h.elim
   ·split at h
    ·rename_i e _ _ _ _ _ ht
     split at h
     ·rename_i te k n hte hl
      split at h
      ·rename_i k' n' hc
       unfold NeedP at h
       obtain ⟨⟨rfl, g1, g2⟩, g3⟩ := h
       have hx := hst.opd rfl l
       have hy := hst.opd rfl c
       rw [hl] at hx; rw [hc] at hy
       have hx : a.eval l = .int k n' := hx
       have hy : a.eval c = .int k' n' := hy
       obtain ⟨m, rfl⟩ := Int.eq_ofNat_of_zero_le g1
       have hti := (hT t _ ht).slice e rfl
       obtain ⟨i, z, i1, i2, i3, hr⟩ := zxh (w := w) (k := k) (k' := k') hti.2 (hT e te hte) g2
       obtain ⟨i', z', j1, _, _, j4, j5, j6, j7⟩ := (hT e te hte).info
       rw [i1] at j1; cases j1
       rw [i2] at j4; cases j4
       have hb1 : 1 ≤ te.by' := (hT e te hte).bpos
       have hp := (hT e te hte).pos
       have hm : m ≤ maxLen := by
        have h5 : m * te.by' ≤ 140737488355328 := by have h := g2; rw [← Int.natCast_mul] at h; omega
        have := Nat.le_trans (Nat.le_mul_of_pos_right m hb1) h5
        simp only [maxLen]; omega
       have hflat : FlatR μ S te.sz (List.replicate m te.zero) ((List.range (m * te.sz)).map (fun p => z.cells[p % te.sz]!)) := by
        refine ⟨by simp, fun i cs hi => ?_⟩
        have hi' : i < m ∧ cs = te.zero := by
         have := List.getElem?_eq_some_iff.1 hi
         obtain ⟨q1, q2⟩ := this
         simp at q1 q2
         exact ⟨q1, q2.symm⟩
        obtain ⟨hlt, rfl⟩ := hi'
        refine ⟨j6, fun j c hj => ?_⟩
        obtain ⟨u, u1, u2⟩ := j7 j c hj
        have hj' : j < te.sz := by rw [← j6]; exact (List.getElem?_eq_some_iff.1 hj).1
        have : (i + 1) * te.sz ≤ m * te.sz := Nat.mul_le_mul_right _ hlt
        rw [Nat.add_mul, Nat.one_mul] at this
        refine ⟨u, ?_, zis u2 μ S⟩
        rw [List.getElem?_map, List.getElem?_range (by omega)]
        have e : (i * te.sz + j) % te.sz = j := by rw [Nat.mul_comm, Nat.mul_add_mod]; exact Nat.mod_eq_of_lt hj'
        simp only [Option.map_some, e]
        rw [getElem!_def, u1]
       have harr : ∀ p, (if m * te.sz = 0 then (#[] : Array Value) else z.cells)[p % (if m * te.sz = 0 then (#[] : Array Value) else z.cells).size]! = if m * te.sz = 0 then default else z.cells[p % te.sz]! := by
        intro p
        split
        ·simp
        ·rw [i3]
       have hz : ∀ (j : Nat) u, ((List.range (m * te.sz)).map (fun p => z.cells[p % te.sz]!))[j]? = some u → ((Array.range (m * te.sz)).map (fun p => (if m * te.sz = 0 then (#[] : Array Value) else z.cells)[p % (if m * te.sz = 0 then (#[] : Array Value) else z.cells).size]!))[j]? = some u := by
        intro j u hj
        have hlt : j < m * te.sz := by have := (List.getElem?_eq_some_iff.1 hj).1; simpa using this
        rw [List.getElem?_map, List.getElem?_range hlt] at hj
        simp only [Option.map_some, Option.some.injEq] at hj
        rw [Array.getElem?_map, Array.getElem?_range, if_pos hlt]
        simp only [Option.map_some, harr]
        rw [if_neg (by omega), hj]
       obtain ⟨rs, ev, cr⟩ := hst.rs.newRow (w' := w.alloc (.cells ((Array.range (m * te.sz)).map (fun p => (if m * te.sz = 0 then (#[] : Array Value) else z.cells)[p % (if m * te.sz = 0 then (#[] : Array Value) else z.cells).size]!)) e)) (cap := m) hflat hz (by simp) (by simp) hm rfl ⟨rfl, rfl, rfl⟩
       simp only [List.length_replicate] at cr
       exact fin' (x := .v (.s (.sl S.length 0 m m))) hn hd hst g3 (by simp [execOp, hx, hy, hr]) rs ev cr
      ·exact h.elim
     ·exact h.elim
    ·exact h.elim
 | index t x i =>
   simp only [dOp] at h
   have hx := hst.opd rfl x
   have hi := hst.opd rfl i
   split at h
   ·rename_i cs k j e1 e2
    rw [e1] at hx; rw [e2] at hi
    have hi : a.eval i = .int k j := hi
    obtain ⟨us, he, h1, h2⟩ := hx
    split at h
    ·rename_i n e _ _ _ _ _ ht
     split at h
     ·rename_i d _ _ _ _ _ hte
      unfold NeedP at h
      obtain ⟨⟨g1, g2, g3⟩, g4⟩ := h
      have hti := (hT t _ ht).array n e rfl
      have hse := (hT e _ hte)
      obtain ⟨hs1, desc, hd1, hd2⟩ := hse.scalar d rfl
      have hj : j.toNat < cs.length := by omega
      obtain ⟨u, u1, u2⟩ := h2 j.toNat cs[j.toNat] (by simp [hj])
      refine fin (x := .v (.s (cs.getD j.toNat .junk))) (u := u) hn hd hst g4 ?_ ?_
      ·have hag := hse.isAgg w
       have hsz := hse.sizeOf w
       simp only [TK.agg] at hag
       simp only at hs1
       rw [hs1] at hsz
       simp [execOp, he, hi, Instr.index, asIntOf, run_underlying hti, g1, g2, hsz, part, hag, u1]
      ·rw [List.getD_eq_getElem?_getD, List.getElem?_eq_getElem hj]; exact u2
     ·exact h.elim
    ·exact h.elim
   ·rename_i s k j e1 e2
    exact z1p (EV := EV) hT hn hd hst e1 e2 (by simp only [dOp]; rw [e1, e2]; exact h)
   ·exact h.elim
 | binOp b t x y yt =>
   simp only [dOp] at h
   have hx := hst.opd rfl x
   have hy := hst.opd rfl y
   split at h
   ·rename_i p q e1 e2
    rw [e1] at hx; rw [e2] at hy
    obtain ⟨us, hu, hu1⟩ := hx
    obtain ⟨vs, hv, hv1⟩ := hy
    split at h
    ·rename_i _ kd sz by' zero k sh _ ht
     split at h
     ·rename_i r hr
      have hti := hT t _ ht
      obtain ⟨g1, g2⟩ := hti.eq (by simp)
      have hrun := g2 μ S w p q us vs r hu1 hv1 hr
      have hgd : ∀ op, (eqGuard op t x y (.agg us) (.agg vs)).run P w = .ok () w := by
       intro op
       unfold eqGuard
       cases op <;> simp [g1]
      split at h
      ·exact fin (x := .v (.s (.bool r))) (u := .bool r) hn hd hst h (by simp [execOp, hu, hv, hgd, binOp, hrun]) rfl
      ·exact fin (x := .v (.s (.bool (!r)))) (u := .bool (!r)) hn hd hst h (by simp [execOp, hu, hv, hgd, binOp, hrun]) rfl
      ·exact h.elim
     ·exact h.elim
    ·exact h.elim
   ·rename_i c e1 e2
    rw [e1] at hx; rw [e2] at hy
    have hy : a.eval y = .slice none 0 0 := hy
    split at h
    ·rename_i _ _ e _ _ _ _ _ r ht hr
     obtain ⟨ad, n, cap, hu, hnone⟩ := z1i hr hx
     have hti := ((hT t _ ht).slice e rfl).2
     have hrun : (Op.equal t (.slice ad n cap) (.slice none 0 0)).run P w = .ok r w := by
      show (Op.equalIn (9999 + 1) t (.slice ad n cap) (.slice none 0 0)).run P w = _
      rw [Op.equalIn]
      cases ad <;> simp [run_underlying hti, ← hnone]
     have hgd : ∀ op, eqGuard op t x y (.slice ad n cap) (.slice none 0 0) = pure () := by
      intro op
      unfold eqGuard
      cases op <;> rfl
     split at h
     ·exact fin (x := .v (.s (.bool r))) (u := .bool r) hn hd hst h (zki (by rw [hu, hy, hgd, Sem.run_bind]; simp [binOp, hrun])) rfl
     ·exact fin (x := .v (.s (.bool (!r)))) (u := .bool (!r)) hn hd hst h (zki (by rw [hu, hy, hgd, Sem.run_bind]; simp [binOp, hrun])) rfl
     ·exact h.elim
    ·exact h.elim
   ·rename_i p q e1 e2
    rw [e1] at hx; rw [e2] at hy
    split at h
    ·rename_i _ _ _ _ _ ht
     obtain ⟨_, desc, hd1, hd2⟩ := (hT t _ ht).scalar 10 rfl
     have : desc = .bool := by cases desc <;> simp [ze2] at hd2; rfl
     subst this
     obtain ⟨r, val, h1, h2, h3⟩ := zpd t x y h (fun _ _ _ _ _ => hd1) hx hy
     exact fin (x := .v r) hn hd hst h1 (zki h2) h3
    ·exact h.elim
   ·rename_i p q _ hne e1 e2
    rw [e1] at hx; rw [e2] at hy
    obtain ⟨r, val, h1, h2, h3⟩ := zpd t x y h (fun _ b1 b2 hb1 hb2 => by subst hb1; subst hb2; exact (hne _ _ rfl rfl).elim) hx hy
    exact fin (x := .v r) hn hd hst h1 (zki h2) h3
   ·exact h.elim
 | slice t x lo hi mx => exact z3j hT hn hd hst h
 | convert s d x => exact zym hT hn hd hst h
 | call c =>
   obtain ⟨callee, args, ats⟩ := c
   cases callee with
   | builtin b => exact zyy (EV := EV) hT hn hd hst (by simpa only [dOp] using h)
   | value f =>
     simp only [dOp] at h
     split at h
     ·rename_i g e1
      exact z2q hEV hn hd hst e1 h
     ·exact h.elim
   | invoke r n => simp [dOp] at h
 | _ => simp [dOp] at h
end
end Go.Proofs.YtlmmdpmmdmhacaaGreat
