/- Loads, stores and operands: the model's runs of them. Slices: literals handed on, append, make. -/
import Derived.Test.YtlmmdpmmdmhacaaGreatKt04
namespace Go.Proofs.YtlmmdpmmdmhacaaGreat
open Go
set_option linter.unusedVariables false
set_option linter.unusedSimpArgs false
theorem zm9 {α : Type} {l v : List α} {o : Nat} (h : o + v.length ≤ l.length) (j : Nat) :
 (l.take o ++ v ++ l.drop (o + v.length))[j]? = if j < o then l[j]? else if j < o + v.length then v[j - o]? else l[j]? := by
 have h1 : (l.take o).length = o := by rw [List.length_take]; omega
 have h2 : (l.take o ++ v).length = o + v.length := by rw [List.length_append, h1]
 by_cases a : j < o
 ·rw [if_pos a, List.append_assoc, List.getElem?_append_left (by omega), List.getElem?_take, if_pos a]
 ·rw [if_neg a]
  by_cases b : j < o + v.length
  ·rw [if_pos b, List.getElem?_append_left (by omega), List.getElem?_append_right (by omega), h1]
  ·rw [if_neg b, List.getElem?_append_right (by omega), h2, List.getElem?_drop]
   congr 1
   omega
theorem zjm {cs ys : List C} {o : Nat} (h : o + ys.length ≤ cs.length) (j : Nat) :
 (putCells cs o ys)[j]? = if j < o then cs[j]? else if j < o + ys.length then ys[j - o]? else cs[j]? := zm9 h j
theorem zic {cs ys : List C} {o : Nat} (h : o + ys.length ≤ cs.length) : (putCells cs o ys).length = cs.length := by
 unfold putCells
 simp only [List.length_append, List.length_take, List.length_drop]
 omega
section
variable {μ : Mp} {S : Store} {w : World}
theorem AggR.splice {cs ys : List C} {arr vs : Array Value} {o : Nat} (h : AggR μ S cs arr) (hy : AggR μ S ys vs) (hl : o + ys.length ≤ cs.length) :
 AggR μ S (putCells cs o ys) (arr.toList.take o ++ vs.toList ++ arr.toList.drop (o + vs.toList.length)).toArray := by
 have hv : vs.toList.length = ys.length := by simpa using hy.1
 have ha : arr.toList.length = cs.length := by simpa using h.1
 have hfit : o + vs.toList.length ≤ arr.toList.length := by omega
 refine ⟨?_, fun j c hj => ?_⟩
 ·simp only [List.size_toArray, List.length_append, List.length_take, List.length_drop, zic hl]
  omega
 ·rw [zjm hl] at hj
  simp only [List.getElem?_toArray]
  rw [zm9 hfit]
  rw [hv]
  split at hj
  ·rename_i h1; rw [if_pos h1]; simpa using h.2 j c hj
  ·rename_i h1; rw [if_neg h1]
   split at hj
   ·rename_i h2; rw [if_pos h2]; simpa using hy.2 _ c hj
   ·rename_i h2; rw [if_neg h2]; simpa using h.2 j c hj
theorem z1f {u : Value} (h : u.oneCell' = true) : u.cells = #[u] := by
 cases u <;> first | rfl | (simp [Value.oneCell'] at h)
theorem VR.cells {v : V} {u : Value} (h : VR μ S v u) : AggR μ S v.cells u.cells := by
 cases v with
 | s c =>
   have h1 := z1f (CR.one h)
   rw [h1]
   refine ⟨by simp [V.cells], fun j x hj => ?_⟩
   cases j with
   | zero => simp [V.cells] at hj; subst hj; exact ⟨u, by simp, h⟩
   | succ j => simp [V.cells] at hj
 | agg cs =>
   obtain ⟨us, rfl, h2⟩ := h
   exact h2
theorem AggR.ones {cs : List C} {us : Array Value} (h : AggR μ S cs us) : ∀ u ∈ us.toList, u.oneCell' = true := by
 intro u hu
 obtain ⟨j, hj⟩ := List.getElem?_of_mem hu
 have hlt : j < cs.length := by
  have := (List.getElem?_eq_some_iff.1 hj).1
  rw [← h.1]; simpa using this
 obtain ⟨u', h1, h2⟩ := h.2 j cs[j] (by simp)
 have : us.toList[j]? = some u' := by simpa using h1
 rw [hj] at this; cases this
 exact h2.one
end
section
variable {P : Program} {T : TT} {t : Nat} {ti : TI}
theorem TyOK.isAgg (h : TyOK P t ti) (w : World) : (Go.isAgg t).run P w = .ok ti.kd.agg w := by
 unfold Go.isAgg
 cases hk : ti.kd with
 | scalar d =>
   obtain ⟨_, desc, h1, h2⟩ := h.scalar d hk
   simp only [Sem.run_bind, run_underlying h1, Result.andThen_ok, TK.agg]
   cases desc <;> simp [ze2] at h2 <;> rfl
 | struct offs => obtain ⟨fs, h1, _⟩ := h.struct offs hk; simp [run_underlying h1, TK.agg]
 | array n e => simp [run_underlying (h.array n e hk), TK.agg]
 | slice e => simp [run_underlying (h.slice e hk).2, TK.agg]
theorem TyOK.sizeOf (h : TyOK P t ti) (w : World) : (Go.sizeOf t).run P w = .ok ti.sz w := by
 obtain ⟨i, z, h1, h2, _⟩ := h.info
 simp [Go.sizeOf, typeInfo, h1, h2]
theorem zcl (b o j : Nat) : (⟨b, o, none⟩ : Addr).add j = ⟨b, o + j, none⟩ := by
 unfold Addr.add
 split <;> simp_all
variable {μ : Mp} {S : Store} {w : World}
theorem zkq (h : TyOK P t ti) {cs : List C} {K : V → Prop} (hk : getV ti cs K) {b o : Nat} (hc : ∀ (j : Nat) c, cs[j]? = some c → ∃ u, w.cell? ⟨b, o + j, none⟩ = some u ∧ CR μ S c u) :
 ∃ v u, K v ∧ (loadVar t ⟨b, o, none⟩).run P w = .ok u w ∧ VR μ S v u := by
 unfold getV at hk
 cases ha : ti.kd.agg with
 | true =>
   rw [ha] at hk
   simp only [cond_true, zdj] at hk
   cases hn : Nat.beq (cs.take ti.sz).length ti.sz with
   | false => rw [hn] at hk; exact hk.elim
   | true =>
     rw [hn] at hk
     have hn := Nat.eq_of_beq_eq_true hn
     have hlen : ti.sz ≤ cs.length := by rw [List.length_take] at hn; omega
     have hex : ∀ j, j < ti.sz → ∃ u, w.cell? ⟨b, o + j, none⟩ = some u ∧ CR μ S (cs.getD j .junk) u := by
      intro j hj
      have : cs[j]? = some (cs.getD j .junk) := by
       rw [List.getD_eq_getElem?_getD, List.getElem?_eq_getElem (by omega)]; rfl
      exact hc j _ this
     have hus : ∃ us : List Value, us.length = ti.sz ∧ ∀ j u, us[j]? = some u → w.cell? ⟨b, o + j, none⟩ = some u ∧ CR μ S (cs.getD j .junk) u := by
      refine ⟨(List.range ti.sz).map (fun j => (w.cell? ⟨b, o + j, none⟩).getD undef), by simp, fun j u hu => ?_⟩
      simp only [List.getElem?_map, Option.map_eq_some_iff] at hu
      obtain ⟨j', hj', rfl⟩ := hu
      have hjj : j < ti.sz ∧ j' = j := by
       obtain ⟨h1, h2⟩ := List.getElem?_eq_some_iff.1 hj'
       simp at h1 h2
       exact ⟨h1, h2.symm⟩
      obtain ⟨hlt, rfl⟩ := hjj
      obtain ⟨u, h1, h2⟩ := hex _ hlt
      rw [h1]
      exact ⟨rfl, h2⟩
     obtain ⟨us, hl, hu⟩ := hus
     refine ⟨_, .agg us.toArray, hk, ?_, us.toArray, rfl, by simp [hl, hn], fun j c hj => ?_⟩
     ·have hr := run_loadCells_list (P := P) w ⟨b, o, none⟩ us (fun j v hv => by rw [zcl]; exact (hu j v hv).1)
      rw [hl] at hr
      simp only [loadVar, Sem.run_bind, h.isAgg, h.sizeOf, Result.andThen_ok, ha, if_true, hr, Sem.run_pure]
     ·rw [List.getElem?_take] at hj
      split at hj
      ·rename_i hlt
       have hlt' : j < us.length := by omega
       refine ⟨us[j], by simp [hlt'], ?_⟩
       have := (hu j us[j] (by simp)).2
       rw [List.getD_eq_getElem?_getD, hj] at this
       exact this
      ·cases hj
 | false =>
   rw [ha] at hk
   simp only [cond_false] at hk
   cases cs with
   | nil => exact hk.elim
   | cons c r =>
     obtain ⟨u, h1, h2⟩ := hc 0 c rfl
     refine ⟨_, u, hk, ?_, h2⟩
     simp only [Nat.add_zero] at h1
     simp [loadVar, h.isAgg, ha, h1]
end
theorem zz1 {P : Program} {t : Nat} {ti : TI} {μ : Mp} {S : Store} {w : World} (h : TyOK P t ti) {cs : List C} {us : Array Value} {o : Nat} {K : V → Prop} (hk : getV ti (cs.drop o) K) (hc : AggR μ S cs us) :
 ∃ v u, K v ∧ (part t us o).run P w = .ok u w ∧ VR μ S v u := by
 unfold getV at hk
 cases ha : ti.kd.agg with
 | true =>
   rw [ha] at hk
   simp only [cond_true, zdj] at hk
   cases hn : Nat.beq ((cs.drop o).take ti.sz).length ti.sz with
   | false => rw [hn] at hk; exact hk.elim
   | true =>
     rw [hn] at hk
     have hn := Nat.eq_of_beq_eq_true hn
     rw [List.length_take, List.length_drop] at hn
     refine ⟨_, .agg (us.extract o (o + ti.sz)), hk, ?_, _, rfl, ?_, fun j c hj => ?_⟩
     ·unfold part
      rw [Sem.run_bind, h.isAgg, ha]
      simp only [Result.andThen_ok, if_true]
      rw [Sem.run_bind, h.sizeOf]
      simp only [Result.andThen_ok, Sem.run_pure]
     ·have := hc.1
      have hp := h.pos
      simp; omega
     ·rw [List.getElem?_take] at hj
      split at hj
      ·rename_i hlt
       rw [List.getElem?_drop] at hj
       obtain ⟨u, k1, k2⟩ := hc.2 (o + j) c hj
       refine ⟨u, ?_, k2⟩
       rw [Array.getElem?_extract]
       have hs : o + j < us.size := (Array.getElem?_eq_some_iff.1 k1).1
       rw [if_pos (by omega)]
       exact k1
      ·cases hj
 | false =>
   rw [ha] at hk
   simp only [cond_false] at hk
   cases hd : cs.drop o with
   | nil => rw [hd] at hk; exact hk.elim
   | cons c r =>
     rw [hd] at hk
     have h0 : cs[o]? = some c := by
      have := congrArg (fun l => l[0]?) hd
      simpa using this
     obtain ⟨u, h1, h2⟩ := hc.2 o c h0
     refine ⟨_, u, hk, ?_, h2⟩
     unfold part
     rw [Sem.run_bind, h.isAgg, ha]
     simp only [Result.andThen_ok, Bool.false_eq_true, if_false, h1]
     rfl
theorem zr4 {S : Store} {id o n t : Nat} {l : List (List C)} (h : elems S (.sl id o n t) = some l) :
 ∃ row, S[id]? = some row ∧ row.xs.length = t ∧ o + n ≤ t ∧ l = (row.xs.drop o).take n := by
 simp only [elems] at h
 split at h
 ·rename_i row hr
  split at h
  ·rename_i hc; simp at h; exact ⟨row, hr, hc.1, hc.2, h.symm⟩
  ·cases h
 ·cases h
theorem zw9 {S : Store} {id o n t : Nat} {l : List (List C)} {cs : List C} {i : Nat} (h : elems S (.sl id o n t) = some l) (hi : l[i]? = some cs) :
 ∃ row, S[id]? = some row ∧ row.xs.length = t ∧ o + n ≤ t ∧ i < n ∧ row.xs[o + i]? = some cs := by
 obtain ⟨row, h1, h2, h3, rfl⟩ := zr4 h
 rw [List.getElem?_take] at hi
 split at hi
 ·rename_i hlt
  rw [List.getElem?_drop] at hi
  exact ⟨row, h1, h2, h3, hlt, hi⟩
 ·cases hi
section
variable {P : Program} {T : TT}
variable {μ0 : Mp} {S0 : Store} {w0 : World} {μ : Mp} {β : Nat → Nat} {env : Env} {S : Store} {w : World} {a : Act}
theorem PtR.valid {id off : Nat} {u : Value} {row : Row} {cs : List C} (h : PtR μ S id off u) (hr : S[id]? = some row) (hx : row.xs = [cs]) : ∃ m, μ id = some m ∧ u = .pointer (some ⟨m.blk, off, none⟩) := by
 obtain ⟨_, r, h0, h1, h2, hv⟩ := h
 rw [hr] at h0; cases h0
 exact hv (by rw [hx]; rfl)
theorem zu3 (hst : St μ0 S0 w0 μ β env S a.tmps w) {t : Nat} {ti : TI} (ht : TyOK P t ti) {K : V → Prop} {loc : AV} {u : Value} (hl : OpdR μ S β env loc u) (h : zli ti env S K loc) :
 ∃ v val, K v ∧ (Instr.loadAt t u).run P w = .ok val w ∧ VR μ S v val := by
 cases loc with
 | plc d o =>
   simp only [zli] at h
   cases hd : getE env d with
   | box cs =>
     rw [hd] at h
     have hd' := za5 hd (by simp)
     obtain ⟨h1, arr, e, h2, h3⟩ := hst.slot d _ hd'
     have hu := hl.2 cs hd'
     subst hu
     obtain ⟨v, val, k1, k2, k3⟩ := zkq (μ := μ) (S := S) (w := w) (b := β d) (o := o) ht h (fun j c hj => by
      rw [List.getElem?_drop] at hj
      obtain ⟨u, g1, g2⟩ := h3.2 _ c hj
      exact ⟨u, by rw [cell_of_row w _ _ arr e (0, 0) h2]; exact g1, g2⟩)
     exact ⟨v, val, k1, by simp [Instr.loadAt, Instr.sureAddr, k2], k3⟩
   | _ => rw [hd] at h; exact h.elim
 | el c i o =>
   simp only [zli] at h
   unfold LoadP at h
   obtain ⟨l, h1, cs, h2, h3, h4⟩ := h
   cases c with
   | sl id o' n t' =>
     obtain ⟨row, r1, r2, r3, r4, r5⟩ := zw9 h1 h2
     obtain ⟨_, row', q1, q2, q3⟩ := hl
     rw [r1] at q1; cases q1
     obtain ⟨m, m1, m2, m3, m4, rfl⟩ := q3 r2
     have hok := hst.rs.ok id row m r1 m1
     obtain ⟨c1, c2⟩ := hok.cells _ _ r5
     obtain ⟨v, val, k1, k2, k3⟩ := zkq (μ := μ) (S := S) (w := w) (b := m.blk) (o := m.base + (o' + i.toNat) * row.k + o) ht h4 (fun j c hj => by
      rw [List.getElem?_drop] at hj
      obtain ⟨u, g1, g2⟩ := c2 _ c hj
      exact ⟨u, by rw [← g1]; congr 2; omega, g2⟩)
     exact ⟨v, val, k1, by simp [Instr.loadAt, Instr.sureAddr, k2], k3⟩
   | _ => exact hl.elim
 | pe id o =>
   simp only [zli] at h
   unfold RowP at h
   obtain ⟨row, cs, h1, h2, h3, h4⟩ := h
   obtain ⟨m, m1, rfl⟩ := PtR.valid hl h1 h3
   have hok := hst.rs.ok id row m h1 m1
   obtain ⟨c1, c2⟩ := hok.cells 0 cs (by rw [h3]; rfl)
   obtain ⟨hb, _⟩ := hok.mine h2
   obtain ⟨v, val, k1, k2, k3⟩ := zkq (μ := μ) (S := S) (w := w) (b := m.blk) (o := o) ht h4 (fun j c hj => by
    rw [List.getElem?_drop] at hj
    obtain ⟨u, g1, g2⟩ := c2 _ c hj
    exact ⟨u, by rw [← g1, hb]; congr 2; omega, g2⟩)
   exact ⟨v, val, k1, by simp [Instr.loadAt, Instr.sureAddr, k2], k3⟩
 | v x =>
   cases x with
   | agg xs => exact h.elim
   | s c =>
     cases c with
     | pt id =>
       simp only [zli] at h
       unfold RowP at h
       obtain ⟨row, cs, h1, h2, h3, h4⟩ := h
       obtain ⟨m, m1, rfl⟩ := PtR.valid hl h1 h3
       have hok := hst.rs.ok id row m h1 m1
       obtain ⟨c1, c2⟩ := hok.cells 0 cs (by rw [h3]; rfl)
       obtain ⟨hb, _⟩ := hok.mine h2
       obtain ⟨v, val, k1, k2, k3⟩ := zkq (μ := μ) (S := S) (w := w) (b := m.blk) (o := 0) ht h4 (fun j c hj => by
        obtain ⟨u, g1, g2⟩ := c2 _ c hj
        exact ⟨u, by rw [← g1, hb]; congr 2; omega, g2⟩)
       exact ⟨v, val, k1, by simp [Instr.loadAt, Instr.sureAddr, k2], k3⟩
     | _ => exact h.elim
 | _ => exact h.elim
theorem zgm {t : Nat} {ti : TI} (ht : TyOK P t ti) {g o : Nat} {cur : Array Value} {e : Nat} (hg : w.heap[g]? = some (.cells cur e (0, 0))) {v : Value} (hs : v.cells.size = ti.sz) (hfit : o + ti.sz ≤ cur.size) (h1 : ∀ u ∈ v.cells.toList, u.oneCell' = true) :
 (Instr.storeAt t (.pointer (some ⟨g, o, none⟩)) v).run P w = .ok () (w.setRow g (cur.toList.take o ++ v.cells.toList ++ cur.toList.drop (o + v.cells.toList.length)).toArray) := by
 have := run_storeCells_at P g o e v.cells.toList 0 cur w hg (by simp only [Array.length_toList]; omega) h1
 simp only [Nat.add_zero] at this
 simp [Instr.storeAt, Instr.sureAddr, storeVar, ht.sizeOf, hs, this]
theorem zha {row : Row} {m : Loc} (hok : RowOK μ S w row m) {arr : Array Value} {e : Nat} (hb : m.base = 0) (ha : w.heap[m.blk]? = some (.cells arr e (0, 0))) (hsz : arr.size = m.cap * row.k) (hcap : row.xs.length ≤ m.cap)
 {idx : Nat} {cs ys : List C} {off : Nat} (hx : row.xs[idx]? = some cs) (hl : off + ys.length ≤ row.k) {vs : Array Value} (hv : AggR μ S ys vs) :
 (arr.toList.take (idx * row.k + off) ++ vs.toList ++ arr.toList.drop (idx * row.k + off + vs.toList.length)).toArray.size = arr.size ∧
 ∀ (i : Nat) cs', (row.xs.set idx (putCells cs off ys))[i]? = some cs' → cs'.length = row.k ∧ ∀ (j : Nat) c, cs'[j]? = some c →
  ∃ u, (arr.toList.take (idx * row.k + off) ++ vs.toList ++ arr.toList.drop (idx * row.k + off + vs.toList.length)).toArray[i * row.k + j]? = some u ∧ CR μ S c u := by
 have hidx : idx < row.xs.length := (List.getElem?_eq_some_iff.1 hx).1
 obtain ⟨hcl, hcc⟩ := hok.cells idx cs hx
 have hlen : vs.toList.length = ys.length := by simpa using hv.1
 have hmul : (idx + 1) * row.k ≤ m.cap * row.k := Nat.mul_le_mul_right _ (by omega)
 rw [Nat.add_mul, Nat.one_mul] at hmul
 have hfit : idx * row.k + off + vs.toList.length ≤ arr.toList.length := by simp only [Array.length_toList] at hlen ⊢; omega
 have old : ∀ (i : Nat) cs', row.xs[i]? = some cs' → cs'.length = row.k ∧ ∀ (j : Nat) c, cs'[j]? = some c → ∃ u, arr[i * row.k + j]? = some u ∧ CR μ S c u := by
  intro i cs' hi
  obtain ⟨a, b⟩ := hok.cells i cs' hi
  refine ⟨a, fun j c hj => ?_⟩
  obtain ⟨u, h1, h2⟩ := b j c hj
  rw [cell_of_row w _ _ arr e (0, 0) ha, hb, Nat.zero_add] at h1
  exact ⟨u, h1, h2⟩
 refine ⟨by simp only [List.size_toArray, List.length_append, List.length_take, List.length_drop, Array.length_toList] at hfit ⊢; omega, fun i cs' hi => ?_⟩
 simp only [List.getElem?_toArray, zm9 hfit]
 rw [List.getElem?_set] at hi
 split at hi
 ·rename_i e; subst e
  simp only [Option.some.injEq] at hi
  subst hi
  refine ⟨by rw [zic (by omega)]; exact hcl, fun j c hj => ?_⟩
  rw [zjm (by omega)] at hj
  split at hj
  ·rename_i h1
   rw [if_pos (by omega)]
   obtain ⟨u, g1, g2⟩ := (old idx cs hx).2 j c hj
   exact ⟨u, by simpa using g1, g2⟩
  ·rename_i h1
   rw [if_neg (by omega)]
   split at hj
   ·rename_i h2
    rw [if_pos (by omega)]
    obtain ⟨u, g1, g2⟩ := hv.2 _ c hj
    exact ⟨u, by rw [← g1, ← Array.getElem?_toList]; congr 1; omega, g2⟩
   ·rename_i h2
    rw [if_neg (by omega)]
    obtain ⟨u, g1, g2⟩ := (old idx cs hx).2 j c hj
    exact ⟨u, by simpa using g1, g2⟩
 ·rename_i hne
  obtain ⟨h1, h2⟩ := old i cs' hi
  refine ⟨h1, fun j c hj => ?_⟩
  obtain ⟨u, g1, g2⟩ := h2 j c hj
  have hj' : j < row.k := by rw [← h1]; exact (List.getElem?_eq_some_iff.1 hj).1
  have hout : ¬ (idx * row.k + off ≤ i * row.k + j ∧ i * row.k + j < idx * row.k + off + vs.toList.length) := by
   rcases Nat.lt_or_gt_of_ne hne with hlt | hgt
   ·have : (idx + 1) * row.k ≤ i * row.k := Nat.mul_le_mul_right _ hlt
    rw [Nat.add_mul, Nat.one_mul] at this
    omega
   ·have : (i + 1) * row.k ≤ idx * row.k := Nat.mul_le_mul_right _ hgt
    rw [Nat.add_mul, Nat.one_mul] at this
    omega
  refine ⟨u, ?_, g2⟩
  split
  ·simpa using g1
  ·rw [if_neg (by omega)]; simpa using g1
theorem zt8 (hst : St μ0 S0 w0 μ β env S a.tmps w) {t : Nat} {ti : TI} (ht : TyOK P t ti) {K : Env → Store → Prop} {loc : AV} {u val : Value} {ys : List C} (hl : OpdR μ S β env loc u)
 (hv : AggR μ S ys val.cells) (hs : ys.length = ti.sz) (h : zko env S ys K loc) :
 ∃ env' S' w', K env' S' ∧ (Instr.storeAt t u val).run P w = .ok () w' ∧ St μ0 S0 w0 μ β env' S' a.tmps w' := by
 have hsz : val.cells.size = ti.sz := by rw [hv.1, hs]
 cases loc with
 | plc d o =>
   simp only [zko] at h
   cases hd : getE env d with
   | box cs =>
     rw [hd] at h
     simp only at h
     cases hb : Nat.ble (o + ys.length) cs.length with
     | false => rw [hb] at h; exact h.elim
     | true =>
       rw [hb] at h
       simp only [cond_true, zdd, putE] at h
       have hle : o + ys.length ≤ cs.length := Nat.le_of_ble_eq_true hb
       have hd' := za5 hd (by simp)
       obtain ⟨h1, arr, e, h2, h3⟩ := hst.slot d _ hd'
       have hu := hl.2 cs hd'
       subst hu
       exact ⟨_, _, _, h, zgm ht h2 hsz (by rw [h3.1]; omega) hv.ones, hst.setBox hd' (AggR.splice h3 hv hle)⟩
   | _ => rw [hd] at h; exact h.elim
 | el c i o =>
   simp only [zko] at h
   unfold StoP at h
   obtain ⟨id, o', n, t', row, cs, rfl, r1, r2, r3, r4, r5, r6, r7, r8, r9⟩ := h
   obtain ⟨_, row', q1, q2, q3⟩ := hl
   rw [r1] at q1; cases q1
   obtain ⟨m, m1, m2, m3, m4, rfl⟩ := q3 r3
   have hok := hst.rs.ok id row m r1 m1
   obtain ⟨hb, arr, e, g1, g2, g3, g4⟩ := hok.mine r2
   obtain ⟨hcl, _⟩ := hok.cells _ _ r7
   have hidx : o' + i.toNat < row.xs.length := (List.getElem?_eq_some_iff.1 r7).1
   have hmul : (o' + i.toNat + 1) * row.k ≤ m.cap * row.k := Nat.mul_le_mul_right _ (by omega)
   rw [Nat.add_mul, Nat.one_mul] at hmul
   obtain ⟨c1, c2⟩ := zha hok hb g1 g2 g3 r7 r8 hv
   obtain ⟨rs, ev⟩ := hst.rs.setRow (row' := ⟨true, row.k, row.xs.set (o' + i.toNat) (putCells cs o ys)⟩) r1 m1 r2 rfl rfl (by simp) g1 c1 c2
   refine ⟨_, _, _, r9, ?_, hst.step rs ev⟩
   rw [hb, Nat.zero_add]
   exact zgm ht g1 hsz (by rw [g2]; omega) hv.ones
 | pe id o =>
   simp only [zko] at h
   unfold RowP NeedP at h
   obtain ⟨row, cs, h1, h2, h3, h4, h5⟩ := h
   obtain ⟨m, m1, rfl⟩ := PtR.valid hl h1 h3
   have hok := hst.rs.ok id row m h1 m1
   obtain ⟨hb, arr, e, g1, g2, g3, g4⟩ := hok.mine h2
   have hx : row.xs[0]? = some cs := by rw [h3]; rfl
   obtain ⟨hcl, _⟩ := hok.cells _ _ hx
   have hmul : (0 + 1) * row.k ≤ m.cap * row.k := Nat.mul_le_mul_right _ (by rw [h3] at g3; simpa using g3)
   rw [Nat.add_mul, Nat.one_mul] at hmul
   obtain ⟨c1, c2⟩ := zha hok hb g1 g2 g3 hx (by omega : o + ys.length ≤ row.k) hv
   have hset : row.xs.set 0 (putCells cs o ys) = [putCells cs o ys] := by rw [h3]; rfl
   rw [hset] at c2
   obtain ⟨rs, ev⟩ := hst.rs.setRow (row' := ⟨true, row.k, [putCells cs o ys]⟩) h1 m1 h2 rfl rfl (by rw [h3]; rfl) g1 c1 c2
   refine ⟨_, _, w.setRow m.blk (arr.toList.take (0 * row.k + o) ++ val.cells.toList ++ arr.toList.drop (0 * row.k + o + val.cells.toList.length)).toArray, h5, ?_, hst.step ?_ ?_⟩
   ·simp only [Nat.zero_mul, Nat.zero_add]
    exact zgm ht g1 hsz (by rw [g2]; omega) hv.ones
   ·simp only [h1, Option.map_some, Option.getD_some]; exact rs
   ·simp only [h1, Option.map_some, Option.getD_some]; exact ev
 | v x =>
   cases x with
   | agg xs => exact h.elim
   | s c =>
     cases c with
     | pt id =>
       simp only [zko] at h
       unfold RowP NeedP at h
       obtain ⟨row, cs, h1, h2, h3, h4, h5⟩ := h
       obtain ⟨m, m1, rfl⟩ := PtR.valid hl h1 h3
       have hok := hst.rs.ok id row m h1 m1
       obtain ⟨hb, arr, e, g1, g2, g3, g4⟩ := hok.mine h2
       have hx : row.xs[0]? = some cs := by rw [h3]; rfl
       obtain ⟨hcl, _⟩ := hok.cells _ _ hx
       have hmul : (0 + 1) * row.k ≤ m.cap * row.k := Nat.mul_le_mul_right _ (by rw [h3] at g3; simpa using g3)
       rw [Nat.add_mul, Nat.one_mul] at hmul
       obtain ⟨c1, c2⟩ := zha hok hb g1 g2 g3 hx (by omega : 0 + ys.length ≤ row.k) hv
       have hset : row.xs.set 0 (putCells cs 0 ys) = [putCells cs 0 ys] := by rw [h3]; rfl
       rw [hset] at c2
       obtain ⟨rs, ev⟩ := hst.rs.setRow (row' := ⟨true, row.k, [putCells cs 0 ys]⟩) h1 m1 h2 rfl rfl (by rw [h3]; rfl) g1 c1 c2
       refine ⟨_, _, w.setRow m.blk (arr.toList.take (0 * row.k + 0) ++ val.cells.toList ++ arr.toList.drop (0 * row.k + 0 + val.cells.toList.length)).toArray, h5, ?_, hst.step ?_ ?_⟩
       ·have := zgm (o := 0) ht g1 hsz (by rw [g2]; omega) hv.ones
        simp only [Nat.zero_mul, Nat.zero_add] at this ⊢
        exact this
       ·simp only [h1, Option.map_some, Option.getD_some]; exact rs
       ·simp only [h1, Option.map_some, Option.getD_some]; exact ev
     | _ => exact h.elim
 | _ => exact h.elim
end
def FlatR (μ : Mp) (S : Store) (k : Nat) (xs : List (List C)) (us : List Value) : Prop :=
 us.length = xs.length * k ∧ ∀ (i : Nat) cs, xs[i]? = some cs → cs.length = k ∧ ∀ (j : Nat) c, cs[j]? = some c → ∃ u, us[i * k + j]? = some u ∧ CR μ S c u
section
variable {μ μ' : Mp} {S S' : Store} {w w' : World} {k : Nat}
theorem FlatR.nil (μ : Mp) (S : Store) (k : Nat) : FlatR μ S k [] [] := ⟨by simp, fun i cs h => by simp at h⟩
theorem FlatR.append {xs ys : List (List C)} {us vs : List Value} (h : FlatR μ S k xs us) (g : FlatR μ S k ys vs) : FlatR μ S k (xs ++ ys) (us ++ vs) := by
 refine ⟨by rw [List.length_append, List.length_append, h.1, g.1, Nat.add_mul], fun i cs hi => ?_⟩
 by_cases hlt : i < xs.length
 ·rw [List.getElem?_append_left hlt] at hi
  obtain ⟨a, b⟩ := h.2 i cs hi
  refine ⟨a, fun j c hj => ?_⟩
  obtain ⟨u, hu, hc⟩ := b j c hj
  have : i * k + j < us.length := (List.getElem?_eq_some_iff.1 hu).1
  exact ⟨u, by rw [List.getElem?_append_left this]; exact hu, hc⟩
 ·rw [List.getElem?_append_right (by omega)] at hi
  obtain ⟨a, b⟩ := g.2 _ cs hi
  refine ⟨a, fun j c hj => ?_⟩
  obtain ⟨u, hu, hc⟩ := b j c hj
  have e : i * k + j = us.length + ((i - xs.length) * k + j) := by
   rw [h.1, Nat.sub_mul]
   have : xs.length * k ≤ i * k := Nat.mul_le_mul_right _ (by omega)
   omega
  exact ⟨u, by rw [e, List.getElem?_append_right (by omega), Nat.add_sub_cancel_left]; exact hu, hc⟩
theorem FlatR.keep (kp : Keeps μ S μ' S') {xs : List (List C)} {us : List Value} (h : FlatR μ S k xs us) : FlatR μ' S' k xs us :=
 ⟨h.1, fun i cs hi => let ⟨a, b⟩ := h.2 i cs hi; ⟨a, fun j c hj => let ⟨u, hu, hc⟩ := b j c hj; ⟨u, hu, hc.keep kp⟩⟩⟩
theorem FlatR.ones {xs : List (List C)} {us : List Value} (h : FlatR μ S k xs us) : ∀ u ∈ us, u.oneCell' = true := by
 intro u hu
 obtain ⟨p, hp⟩ := List.getElem?_of_mem hu
 have hlt : p < xs.length * k := by rw [← h.1]; exact (List.getElem?_eq_some_iff.1 hp).1
 have hk : 0 < k := Nat.pos_of_ne_zero fun e => by subst e; simp at hlt
 have hi : p / k < xs.length := (Nat.div_lt_iff_lt_mul hk).2 hlt
 obtain ⟨a, b⟩ := h.2 (p / k) xs[p / k] (by simp [hi])
 have hj : p % k < (xs[p / k]).length := by rw [a]; exact Nat.mod_lt _ hk
 obtain ⟨u', h1, h2⟩ := b (p % k) (xs[p / k])[p % k] (by simp [hj])
 have e : p / k * k + p % k = p := by rw [Nat.mul_comm]; exact Nat.div_add_mod p k
 rw [e, hp] at h1; cases h1
 exact h2.one
theorem RowOK.of_flat {row : Row} {m : Loc} {us : List Value} {arr : Array Value} {e : Nat} (ho : row.own = true) (hf : FlatR μ S row.k row.xs us) (hb : m.base = 0)
 (ha : w.heap[m.blk]? = some (.cells arr e (0, 0))) (hp : ∀ (j : Nat) u, us[j]? = some u → arr[j]? = some u) (hs : arr.size = m.cap * row.k) (hc : row.xs.length ≤ m.cap) (hm : m.cap ≤ maxLen) : RowOK μ S w row m := by
 refine ⟨fun i cs hi => ?_, (Array.getElem?_eq_some_iff.1 ha).1, fun _ => ⟨hb, arr, e, ha, hs, hc, hm⟩⟩
 obtain ⟨a, b⟩ := hf.2 i cs hi
 refine ⟨a, fun j c hj => ?_⟩
 obtain ⟨u, hu, hcr⟩ := b j c hj
 refine ⟨u, ?_, hcr⟩
 rw [cell_of_row w _ _ arr e (0, 0) ha, hb, Nat.zero_add]
 exact hp _ u hu
theorem RowOK.flat {row : Row} {m : Loc} (h : RowOK μ S w row m) (ho : row.own = true) : ∃ arr e, w.heap[m.blk]? = some (.cells arr e (0, 0)) ∧ arr.size = m.cap * row.k ∧ FlatR μ S row.k row.xs (arr.toList.take (row.xs.length * row.k)) := by
 obtain ⟨hb, arr, e, h1, h2, h3, h4⟩ := h.mine ho
 have hle : row.xs.length * row.k ≤ m.cap * row.k := Nat.mul_le_mul_right _ h3
 refine ⟨arr, e, h1, h2, by rw [List.length_take, Array.length_toList]; omega, fun i cs hi => ?_⟩
 obtain ⟨a, b⟩ := h.cells i cs hi
 refine ⟨a, fun j c hj => ?_⟩
 obtain ⟨u, hu, hc⟩ := b j c hj
 rw [cell_of_row w _ _ arr e (0, 0) h1, hb, Nat.zero_add] at hu
 have hj' : j < row.k := by rw [← a]; exact (List.getElem?_eq_some_iff.1 hj).1
 have hi' : i < row.xs.length := (List.getElem?_eq_some_iff.1 hi).1
 have : (i + 1) * row.k ≤ row.xs.length * row.k := Nat.mul_le_mul_right _ hi'
 rw [Nat.add_mul, Nat.one_mul] at this
 exact ⟨u, by rw [List.getElem?_take, if_pos (by omega), Array.getElem?_toList]; exact hu, hc⟩
theorem RS.regrow (h : RS μ S w) {row row' : Row} {m m' : Loc} {id : Nat} (hr : S[id]? = some row) (hm : μ id = some m) (ho : row.own = true) (ho' : row'.own = true) (hk : row'.k = row.k) (hl : row.xs.length < row'.xs.length)
 (hs : w.heap.size ≤ w'.heap.size) (hw : w'.os = w.os ∧ w'.tape = w.tape ∧ w'.output = w.output) (hb : ∀ b, b < w.heap.size → b ≠ m.blk → w'.heap[b]? = w.heap[b]?) (hm' : m'.blk = m.blk ∨ w.heap.size ≤ m'.blk)
 (hok : RowOK (upd μ id (some m')) (S.set id row') w' row' m') :
 Keeps μ S (upd μ id (some m')) (S.set id row') ∧ RS (upd μ id (some m')) (S.set id row') w' ∧ Evo μ S w (upd μ id (some m')) (S.set id row') w' := by
 have hlt := (List.getElem?_eq_some_iff.1 hr).1
 have kp : Keeps μ S (upd μ id (some m')) (S.set id row') := by
  intro id' r h'
  by_cases e : id' = id
  ·subst e
   rw [hr] at h'; cases h'
   exact ⟨row', by simp [hlt], ho'.trans ho.symm, hk, by omega, fun e => by omega⟩
  ·exact ⟨r, by rw [List.getElem?_set_ne (Ne.symm e)]; exact h', rfl, rfl, Nat.le_refl _, fun _ => zbb _ _ e⟩
 refine ⟨kp, ⟨fun id' r m1 h1 h2 => ?_, fun id1 id2 r1 r2 m1 m2 h1 h2 h3 h4 hd hown => ?_⟩, ⟨hw.1, hw.2.1, hw.2.2, hs, fun b hb' hn => ?_, fun id' r h' => ?_, fun id' r m1 h1 h2 => ?_⟩⟩
 ·rcases zdi h1 with ⟨rfl, rfl, _⟩ | ⟨hne, g1⟩
  ·rw [za2] at h2; cases h2; exact hok
  ·rw [zbb _ _ hne] at h2
   exact ((h.ok id' r m1 g1 h2).world hs (hb _ (h.ok id' r m1 g1 h2).lt (fun e => h.sep id id' row r m m1 hr g1 hm h2 (Ne.symm hne) ho e.symm))).keep kp
 ·have other : ∀ (i : Nat) (r : Row) (mm : Loc), i ≠ id → S[i]? = some r → μ i = some mm → mm.blk ≠ m'.blk := by
   intro i r mm hi hr' hmm
   rcases hm' with e | e
   ·rw [e]; exact fun x => h.sep id i row r m mm hr hr' hm hmm (Ne.symm hi) ho x.symm
   ·have := (h.ok i r mm hr' hmm).lt
    omega
  rcases zdi h1 with ⟨e1, f1, _⟩ | ⟨n1, g1⟩ <;> rcases zdi h2 with ⟨e2, f2, _⟩ | ⟨n2, g2⟩
  ·exact absurd (e1.trans e2.symm) hd
  ·rw [e1, za2] at h3; cases h3
   rw [zbb _ _ n2] at h4
   exact fun x => other id2 r2 m2 n2 g2 h4 x.symm
  ·rw [e2, za2] at h4; cases h4
   rw [zbb _ _ n1] at h3
   exact other id1 r1 m1 n1 g1 h3
  ·rw [zbb _ _ n1] at h3
   rw [zbb _ _ n2] at h4
   exact h.sep id1 id2 r1 r2 m1 m2 g1 g2 h3 h4 hd hown
 ·exact hb b hb' (fun e => hn id row m hr hm ho e.symm)
 ·by_cases e : id' = id
  ·subst e
   rw [hr] at h'; cases h'
   exact ⟨row', by simp [hlt], ho'.trans ho.symm, hk, by omega, fun e => by omega, fun hf => by rw [ho] at hf; cases hf⟩
  ·exact ⟨r, by rw [List.getElem?_set_ne (Ne.symm e)]; exact h', rfl, rfl, Nat.le_refl _, fun _ => zbb _ _ e, fun _ => rfl⟩
 ·rcases zdi h1 with ⟨rfl, rfl, _⟩ | ⟨hne, g1⟩
  ·rw [za2] at h2; cases h2
   rcases hm' with e | e
   ·exact .inr ⟨id', row, m, hr, hm, ho.trans ho'.symm, e.symm⟩
   ·exact .inl e
  ·rw [zbb _ _ hne] at h2
   exact .inr ⟨id', r, m1, g1, h2, rfl, rfl⟩
theorem RS.newRow (h : RS μ S w) {k cap : Nat} {xs : List (List C)} {us : List Value} {arr : Array Value} {e : Nat} (hf : FlatR μ S k xs us) (hp : ∀ (j : Nat) u, us[j]? = some u → arr[j]? = some u)
 (hs : arr.size = cap * k) (hc : xs.length ≤ cap) (hm : cap ≤ maxLen) (hw : w'.heap = (w.alloc (.cells arr e)).heap) (hw' : w'.os = w.os ∧ w'.tape = w.tape ∧ w'.output = w.output) :
 RS (upd μ S.length (some ⟨w.heap.size, 0, cap⟩)) (S ++ [⟨true, k, xs⟩]) w' ∧ Evo μ S w (upd μ S.length (some ⟨w.heap.size, 0, cap⟩)) (S ++ [⟨true, k, xs⟩]) w' ∧
 CR (upd μ S.length (some ⟨w.heap.size, 0, cap⟩)) (S ++ [⟨true, k, xs⟩]) (.sl S.length 0 xs.length xs.length) (.slice (some ⟨w.heap.size, 0, none⟩) xs.length cap) := by
 have hsz : w.heap.size ≤ w'.heap.size := by rw [hw]; simp
 have hold : ∀ b, b < w.heap.size → w'.heap[b]? = w.heap[b]? := fun b hb => by rw [hw]; exact Go.heap_alloc_old w _ b hb
 have hnew : w'.heap[w.heap.size]? = some (.cells arr e (0, 0)) := by rw [hw]; exact Go.heap_alloc_new w _
 have rs : RS μ S w' := h.world hsz (fun id row m h1 h2 => hold _ (h.ok id row m h1 h2).lt)
 have ev : Evo μ S w μ S w' := ⟨hw'.1, hw'.2.1, hw'.2.2, hsz, fun b hb _ => hold b hb, (Evo.refl μ S w).rows, (Evo.refl μ S w).blks⟩
 refine ⟨rs.push (RowOK.of_flat rfl (hf.keep (zef μ S _ _)) rfl hnew hp hs hc hm) (fun id row m' h1 h2 => ?_), zqi ev _ _ (Nat.le_refl _), ?_⟩
 ·have := (h.ok id row m' h1 h2).lt
  show m'.blk ≠ w.heap.size
  omega
 ·exact ⟨⟨w.heap.size, 0, none⟩, cap, rfl, hc, ⟨true, k, xs⟩, by simp, Nat.le_refl _, fun _ => ⟨_, za2 _ _ _, by simp, fun _ => by simp, fun _ _ _ => ⟨rfl, rfl⟩⟩⟩
end
section
variable {P : Program} {T : TT}
variable {μ0 : Mp} {S0 : Store} {w0 : World} {μ : Mp} {β : Nat → Nat} {env : Env} {S : Store} {w : World} {a : Act}
theorem zi2 (hst : St μ0 S0 w0 μ β env S a.tmps w) {x : Operand} {K : AV → Env → Store → Prop} (h : prom env S x K) :
 ∃ v env' S' μ', K v env' S' ∧ St μ0 S0 w0 μ' β env' S' a.tmps w ∧ OpdR μ' S' β env' v (a.eval x) ∧ Keeps μ S μ' S' := by
 have plain : K (opd env x) env S → ∃ v env' S' μ', K v env' S' ∧ St μ0 S0 w0 μ' β env' S' a.tmps w ∧ OpdR μ' S' β env' v (a.eval x) ∧ Keeps μ S μ' S' :=
  fun h => ⟨_, _, _, _, h, hst, hst.opd rfl x, (Evo.refl μ S w).keeps⟩
 cases x with
 | tmp t =>
   simp only [prom] at h
   cases hx : getE env t with
   | lst k xs =>
     rw [hx] at h
     simp only [zdd, putE] at h
     have ht := za5 hx (by simp)
     obtain ⟨h1, h2⟩ := hst.prom ht
     exact ⟨_, _, _, _, h, h1, h2, zef μ S _ _⟩
   | _ => rw [hx] at h; exact plain h
 | _ => exact plain h
theorem znz {μ μ1 μ2 : Mp} {S S1 S2 : Store} (k1 : Keeps μ S μ1 S1) (k2 : Keeps μ1 S1 μ2 S2) : Keeps μ S μ2 S2 := fun id row h0 => by
 obtain ⟨r1, a1, a2, a3, a4, a5⟩ := k1 id row h0
 obtain ⟨r2, b1, b2, b3, b4, b5⟩ := k2 id r1 a1
 exact ⟨r2, b1, b2.trans a2, b3.trans a3, Nat.le_trans a4 b4, fun e => (b5 (by omega)).trans (a5 (by omega))⟩
theorem zf3 (hst : St μ0 S0 w0 μ β env S a.tmps w) {x : Operand} {K : V → Env → Store → Prop} (h : zl4 env S x K) :
 ∃ v env' S' μ', K v env' S' ∧ St μ0 S0 w0 μ' β env' S' a.tmps w ∧ VR μ' S' v (a.eval x) ∧ Keeps μ S μ' S' := by
 obtain ⟨v, env', S', μ', h1, h2, h3, h4⟩ := zi2 hst h
 split at h1
 ·exact ⟨_, _, _, _, h1, h2, h3, h4⟩
 ·rename_i d
  split at h1
  ·rename_i cs hd
   unfold zru at h1
   simp only [zww, zb3] at h1
   have hd' := za5 hd (by simp)
   obtain ⟨g1, g2⟩ := h2.promBox hd'
   have e1 : a.eval x = .pointer (some ⟨β d, 0, none⟩) := h3.2 cs hd'
   have e2 : a.tmps.getD d undef = .pointer (some ⟨β d, 0, none⟩) := (h2.slot d _ hd').1
   refine ⟨_, _, _, _, h1, g1, ?_, znz h4 (zef μ' S' _ _)⟩
   rw [e1, ← e2]
   exact g2
  ·exact h1.elim
 ·exact h1.elim
theorem zgg : ∀ {xs : List Operand} {env : Env} {S : Store} {μ : Mp} {K : List V → Env → Store → Prop}, St μ0 S0 w0 μ β env S a.tmps w → zgx env S xs K →
 ∃ vs env' S' μ', K vs env' S' ∧ St μ0 S0 w0 μ' β env' S' a.tmps w ∧ vs.length = xs.length ∧ (∀ (i : Nat) v x, vs[i]? = some v → xs[i]? = some x → VR μ' S' v (a.eval x)) ∧ Keeps μ S μ' S'
 | [], env, S, μ, K, hst, h => ⟨[], env, S, μ, h, hst, rfl, fun i v x h1 => by simp at h1, (Evo.refl μ S w).keeps⟩
 | x :: r, env, S, μ, K, hst, h => by
   obtain ⟨v, env1, S1, μ1, h1, st1, hv, k1⟩ := zf3 hst h
   obtain ⟨vs, env2, S2, μ2, h2, st2, hl, hall, k2⟩ := zgg st1 h1
   refine ⟨v :: vs, env2, S2, μ2, h2, st2, by simp [hl], fun i y z hy hz => ?_, znz k1 k2⟩
   cases i with
   | zero => simp at hy hz; subst hy; subst hz; exact VR.keep k2 hv
   | succ i => simp at hy hz; exact hall i y z hy hz
def SrcR (μ : Mp) (S : Store) (w : World) (ys : List (List C)) (u : Value) : Prop :=
 ∃ base c, u = .slice base ys.length c ∧ (ys ≠ [] → ∃ ad, base = some ad ∧ ∀ k, (∀ y ∈ ys, y.length = k) → ∃ news, (∀ (j : Nat) v, news[j]? = some v → w.cell? (ad.add j) = some v) ∧ FlatR μ S k ys news)
theorem z18 {μ : Mp} {S : Store} {w : World} {k : Nat} {ys : List (List C)} {b o : Nat} (hk : ∀ y ∈ ys, y.length = k)
 (h : ∀ (i : Nat) cs, ys[i]? = some cs → ∀ (j : Nat) c, cs[j]? = some c → ∃ u, w.cell? ⟨b, o + (i * k + j), none⟩ = some u ∧ CR μ S c u) :
 ∃ news : List Value, (∀ (j : Nat) v, news[j]? = some v → w.cell? ((⟨b, o, none⟩ : Addr).add j) = some v) ∧ FlatR μ S k ys news := by
 refine ⟨(List.range (ys.length * k)).map (fun p => (w.cell? ⟨b, o + p, none⟩).getD undef), fun j v hj => ?_, by simp, fun i cs hi => ⟨hk cs (List.mem_of_getElem? hi), fun j c hj => ?_⟩⟩
 ·simp only [List.getElem?_map, Option.map_eq_some_iff] at hj
  obtain ⟨p, hp, rfl⟩ := hj
  obtain ⟨h1, h2⟩ := List.getElem?_eq_some_iff.1 hp
  simp at h1 h2
  subst h2
  have hk0 : 0 < k := Nat.pos_of_ne_zero fun e => by subst e; simp at h1
  have hi : j / k < ys.length := (Nat.div_lt_iff_lt_mul hk0).2 h1
  have hj : j % k < (ys[j / k]).length := by rw [hk _ (List.getElem_mem hi)]; exact Nat.mod_lt _ hk0
  obtain ⟨u, hu, _⟩ := h (j / k) ys[j / k] (by simp [hi]) (j % k) (ys[j / k])[j % k] (by simp [hj])
  have e : j / k * k + j % k = j := by rw [Nat.mul_comm]; exact Nat.div_add_mod j k
  rw [e] at hu
  rw [zcl, hu]; rfl
 ·obtain ⟨u, hu, hc⟩ := h i cs hi j c hj
  have hi' : i < ys.length := (List.getElem?_eq_some_iff.1 hi).1
  have hj' : j < k := by rw [← hk cs (List.mem_of_getElem? hi)]; exact (List.getElem?_eq_some_iff.1 hj).1
  have : (i + 1) * k ≤ ys.length * k := Nat.mul_le_mul_right _ hi'
  rw [Nat.add_mul, Nat.one_mul] at this
  refine ⟨u, ?_, hc⟩
  rw [List.getElem?_map, List.getElem?_range (by omega)]
  simp [hu]
theorem zua (hst : St μ0 S0 w0 μ β env S a.tmps w) {c : C} {u : Value} (hc : CR μ S c u) {ys : List (List C)} (he : elems S c = some ys) : SrcR μ S w ys u := by
 cases c with
 | nil => simp [elems] at he; subst he; exact ⟨none, 0, hc, fun h => absurd rfl h⟩
 | zc => simp [elems] at he; subst he; obtain ⟨ad, rfl⟩ := hc; exact ⟨some ad, 0, rfl, fun h => absurd rfl h⟩
 | sl id o n t =>
   obtain ⟨ad, cap, rfl, hn, row', q1, q2, q3⟩ := hc
   obtain ⟨row, r1, r2, r3, rfl⟩ := zr4 he
   obtain rfl : row = row' := Option.some.inj (r1.symm.trans q1)
   obtain ⟨m, m1, m2, m3, m4⟩ := q3 r2
   have hlen : ((row.xs.drop o).take n).length = n := by rw [List.length_take, List.length_drop]; omega
   refine ⟨some ad, cap, by rw [hlen], fun hne => ⟨ad, rfl, fun k hk => ?_⟩⟩
   have hn0 : 0 < n := by
    rcases Nat.eq_zero_or_pos n with e | e
    ·subst e; simp at hne
    ·exact e
   have hok := hst.rs.ok id row m r1 m1
   have hmem : ∀ (i : Nat) cs, ((row.xs.drop o).take n)[i]? = some cs → row.xs[o + i]? = some cs := by
    intro i cs hi
    rw [List.getElem?_take] at hi
    split at hi
    ·rwa [List.getElem?_drop] at hi
    ·cases hi
   have hkk : k = row.k := by
    have h0 : 0 < ((row.xs.drop o).take n).length := by omega
    have hg : ((row.xs.drop o).take n)[0]? = some ((row.xs.drop o).take n)[0] := List.getElem?_eq_getElem h0
    rw [← hk _ (List.getElem_mem h0)]
    exact (hok.cells _ _ (hmem 0 _ hg)).1
   subst hkk
   have := m3 hn0
   subst this
   refine z18 hk fun i cs hi j c hj => ?_
   obtain ⟨_, hcc⟩ := hok.cells _ _ (hmem i cs hi)
   obtain ⟨u, hu, hcr⟩ := hcc j c hj
   refine ⟨u, ?_, hcr⟩
   rw [← hu]
   congr 2
   rw [Nat.add_mul]
   omega
 | _ => simp [elems] at he
theorem zn6 (hst : St μ0 S0 w0 μ β env S a.tmps w) {x : Operand} {K : List (List C) → Prop} (h : zhy env S x K) : ∃ ys, K ys ∧ SrcR μ S w ys (a.eval x) := by
 cases x with
 | tmp t =>
   simp only [zhy] at h
   cases hx : getE env t with
   | lst k xs =>
     rw [hx] at h
     obtain ⟨h1, h0, arr, e, h2, h3, h4⟩ := hst.slot t _ (za5 hx (by simp))
     refine ⟨xs, h, some ⟨β t, 0, none⟩, xs.length, h1, fun hne => ⟨_, rfl, fun k' hk => ?_⟩⟩
     have hkk : k' = k := by
      have h0 : 0 < xs.length := List.length_pos_iff.2 hne
      rw [← hk _ (List.getElem_mem h0)]
      exact (h4 0 xs[0] (by simp)).1
     subst hkk
     refine z18 hk fun i cs hi j c hj => ?_
     obtain ⟨u, hu, hc⟩ := (h4 i cs hi).2 j c hj
     exact ⟨u, by rw [cell_of_row w _ _ arr e (0, 0) h2, Nat.zero_add]; exact hu, hc⟩
   | v y =>
     cases y with
     | s c =>
       rw [hx] at h
       simp only at h
       unfold ElemsP at h
       obtain ⟨l, h1, h2⟩ := h
       exact ⟨l, h2, zua hst (hst.slot t _ (za5 hx (by simp))) h1⟩
     | agg y => rw [hx] at h; exact h.elim
   | _ => rw [hx] at h; exact h.elim
 | const v =>
   cases v with
   | slice b n c =>
     cases b <;> cases n <;> cases c <;> simp only [zhy] at h
     exact ⟨[], h, none, 0, rfl, fun h => absurd rfl h⟩
   | _ => exact h.elim
 | _ => exact h.elim
end
end Go.Proofs.YtlmmdpmmdmhacaaGreat
