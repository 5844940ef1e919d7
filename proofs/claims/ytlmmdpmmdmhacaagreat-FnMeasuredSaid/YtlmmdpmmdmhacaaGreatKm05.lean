/- Loads, stores and operands: the model's runs of them. -/
import Derived.Test.YtlmmdpmmdmhacaaGreatKm04
namespace Go.Proofs.YtlmmdpmmdmhacaaGreat
open Go
set_option linter.unusedVariables false
set_option linter.unusedSimpArgs false
theorem splice_at {α : Type} {l v : List α} {o : Nat} (h : o + v.length ≤ l.length) (j : Nat) :
    (l.take o ++ v ++ l.drop (o + v.length))[j]? = if j < o then l[j]? else if j < o + v.length then v[j - o]? else l[j]? := by
  have h1 : (l.take o).length = o := by rw [List.length_take]; omega
  have h2 : (l.take o ++ v).length = o + v.length := by rw [List.length_append, h1]
  by_cases a : j < o
  · rw [if_pos a, List.append_assoc, List.getElem?_append_left (by omega), List.getElem?_take, if_pos a]
  · rw [if_neg a]
    by_cases b : j < o + v.length
    · rw [if_pos b, List.getElem?_append_left (by omega), List.getElem?_append_right (by omega), h1]
    · rw [if_neg b, List.getElem?_append_right (by omega), h2, List.getElem?_drop]
      congr 1
      omega
theorem putCells_at {cs ys : List C} {o : Nat} (h : o + ys.length ≤ cs.length) (j : Nat) :
    (putCells cs o ys)[j]? = if j < o then cs[j]? else if j < o + ys.length then ys[j - o]? else cs[j]? := splice_at h j
theorem putCells_len {cs ys : List C} {o : Nat} (h : o + ys.length ≤ cs.length) : (putCells cs o ys).length = cs.length := by
  unfold putCells
  simp only [List.length_append, List.length_take, List.length_drop]
  omega
section
variable {μ : Mp} {S : Store} {w : World}
theorem AggR.splice {cs ys : List C} {arr vs : Array Value} {o : Nat} (h : AggR μ S cs arr) (hy : AggR μ S ys vs) (hl : o + ys.length ≤ cs.length) :
    AggR μ S (putCells cs o ys) (arr.toList.take o ++ vs.toList ++ arr.toList.drop (o + vs.toList.length)).toArray := by
  have hv : vs.toList.length = ys.length := by simpa using hy.1
  have ha : arr.toList.length = cs.length := by simpa using h.1
  have hfit : o + vs.toList.length ≤ arr.toList.length := by omega
  refine ⟨?_, fun j c hj => ?_⟩
  · simp only [List.size_toArray, List.length_append, List.length_take, List.length_drop, putCells_len hl]
    omega
  · rw [putCells_at hl] at hj
    simp only [List.getElem?_toArray]
    rw [splice_at hfit]
    rw [hv]
    split at hj
    · rename_i h1; rw [if_pos h1]; simpa using h.2 j c hj
    · rename_i h1; rw [if_neg h1]
      split at hj
      · rename_i h2; rw [if_pos h2]; simpa using hy.2 _ c hj
      · rename_i h2; rw [if_neg h2]; simpa using h.2 j c hj
theorem one_cells {u : Value} (h : u.oneCell' = true) : u.cells = #[u] := by
  cases u <;> first | rfl | (simp [Value.oneCell'] at h)
theorem VR.cells {v : V} {u : Value} (h : VR μ S v u) : AggR μ S v.cells u.cells := by
  cases v with
  | s c =>
    have h1 := one_cells (CR.one h)
    rw [h1]
    refine ⟨by simp [V.cells], fun j x hj => ?_⟩
    cases j with
    | zero => simp [V.cells] at hj; subst hj; exact ⟨u, by simp, h⟩
    | succ j => simp [V.cells] at hj
  | agg cs =>
    obtain ⟨us, rfl, h2⟩ := h
    exact h2
theorem AggR.ones {cs : List C} {us : Array Value} (h : AggR μ S cs us) : ∀ u ∈ us.toList, u.oneCell' = true := by
  intro u hu
  obtain ⟨j, hj⟩ := List.getElem?_of_mem hu
  have hlt : j < cs.length := by
    have := (List.getElem?_eq_some_iff.1 hj).1
    rw [← h.1]; simpa using this
  obtain ⟨u', h1, h2⟩ := h.2 j cs[j] (by simp)
  have : us.toList[j]? = some u' := by simpa using h1
  rw [hj] at this; cases this
  exact h2.one
end
section
variable {P : Program} {T : TT} {t : Nat} {ti : TI}
theorem TyOK.isAgg (h : TyOK P t ti) (w : World) : (Go.isAgg t).run P w = .ok ti.kd.agg w := by
  unfold Go.isAgg
  cases hk : ti.kd with
  | scalar d =>
    obtain ⟨_, desc, h1, h2⟩ := h.scalar d hk
    simp only [Sem.run_bind, run_underlying h1, Result.andThen_ok, TK.agg]
    cases desc <;> simp [scalarD] at h2 <;> rfl
  | struct offs => obtain ⟨fs, h1, _⟩ := h.struct offs hk; simp [run_underlying h1, TK.agg]
  | array n e => simp [run_underlying (h.array n e hk), TK.agg]
  | slice e => simp [run_underlying (h.slice e hk).2, TK.agg]
theorem TyOK.sizeOf (h : TyOK P t ti) (w : World) : (Go.sizeOf t).run P w = .ok ti.sz w := by
  obtain ⟨i, z, h1, h2, _⟩ := h.info
  simp [Go.sizeOf, typeInfo, h1, h2]
theorem add_off (b o j : Nat) : (⟨b, o, none⟩ : Addr).add j = ⟨b, o + j, none⟩ := by
  unfold Addr.add
  split <;> simp_all
variable {μ : Mp} {S : Store} {w : World}
theorem getV_run (h : TyOK P t ti) {cs : List C} {K : V → Prop} (hk : getV ti cs K) {b o : Nat} (hc : ∀ (j : Nat) c, cs[j]? = some c → ∃ u, w.cell? ⟨b, o + j, none⟩ = some u ∧ CR μ S c u) :
    ∃ v u, K v ∧ (loadVar t ⟨b, o, none⟩).run P w = .ok u w ∧ VR μ S v u := by
  unfold getV at hk
  cases ha : ti.kd.agg with
  | true =>
    rw [ha] at hk
    simp only [cond_true, forceL_eq] at hk
    cases hn : Nat.beq (cs.take ti.sz).length ti.sz with
    | false => rw [hn] at hk; exact hk.elim
    | true =>
      rw [hn] at hk
      have hn := Nat.eq_of_beq_eq_true hn
      have hlen : ti.sz ≤ cs.length := by rw [List.length_take] at hn; omega
      have hex : ∀ j, j < ti.sz → ∃ u, w.cell? ⟨b, o + j, none⟩ = some u ∧ CR μ S (cs.getD j .junk) u := by
        intro j hj
        have : cs[j]? = some (cs.getD j .junk) := by
          rw [List.getD_eq_getElem?_getD, List.getElem?_eq_getElem (by omega)]; rfl
        exact hc j _ this
      have hus : ∃ us : List Value, us.length = ti.sz ∧ ∀ j u, us[j]? = some u → w.cell? ⟨b, o + j, none⟩ = some u ∧ CR μ S (cs.getD j .junk) u := by
        refine ⟨(List.range ti.sz).map (fun j => (w.cell? ⟨b, o + j, none⟩).getD undef), by simp, fun j u hu => ?_⟩
        simp only [List.getElem?_map, Option.map_eq_some_iff] at hu
        obtain ⟨j', hj', rfl⟩ := hu
        have hjj : j < ti.sz ∧ j' = j := by
          obtain ⟨h1, h2⟩ := List.getElem?_eq_some_iff.1 hj'
          simp at h1 h2
          exact ⟨h1, h2.symm⟩
        obtain ⟨hlt, rfl⟩ := hjj
        obtain ⟨u, h1, h2⟩ := hex _ hlt
        rw [h1]
        exact ⟨rfl, h2⟩
      obtain ⟨us, hl, hu⟩ := hus
      refine ⟨_, .agg us.toArray, hk, ?_, us.toArray, rfl, by simp [hl, hn], fun j c hj => ?_⟩
      · have hr := run_loadCells_list (P := P) w ⟨b, o, none⟩ us (fun j v hv => by rw [add_off]; exact (hu j v hv).1)
        rw [hl] at hr
        simp only [loadVar, Sem.run_bind, h.isAgg, h.sizeOf, Result.andThen_ok, ha, if_true, hr, Sem.run_pure]
      · rw [List.getElem?_take] at hj
        split at hj
        · rename_i hlt
          have hlt' : j < us.length := by omega
          refine ⟨us[j], by simp [hlt'], ?_⟩
          have := (hu j us[j] (by simp)).2
          rw [List.getD_eq_getElem?_getD, hj] at this
          exact this
        · cases hj
  | false =>
    rw [ha] at hk
    simp only [cond_false] at hk
    cases cs with
    | nil => exact hk.elim
    | cons c r =>
      obtain ⟨u, h1, h2⟩ := hc 0 c rfl
      refine ⟨_, u, hk, ?_, h2⟩
      simp only [Nat.add_zero] at h1
      simp [loadVar, h.isAgg, ha, h1]
end
theorem part_getV {P : Program} {t : Nat} {ti : TI} {μ : Mp} {S : Store} {w : World} (h : TyOK P t ti) {cs : List C} {us : Array Value} {o : Nat} {K : V → Prop} (hk : getV ti (cs.drop o) K) (hc : AggR μ S cs us) :
    ∃ v u, K v ∧ (part t us o).run P w = .ok u w ∧ VR μ S v u := by
  unfold getV at hk
  cases ha : ti.kd.agg with
  | true =>
    rw [ha] at hk
    simp only [cond_true, forceL_eq] at hk
    cases hn : Nat.beq ((cs.drop o).take ti.sz).length ti.sz with
    | false => rw [hn] at hk; exact hk.elim
    | true =>
      rw [hn] at hk
      have hn := Nat.eq_of_beq_eq_true hn
      rw [List.length_take, List.length_drop] at hn
      refine ⟨_, .agg (us.extract o (o + ti.sz)), hk, ?_, _, rfl, ?_, fun j c hj => ?_⟩
      · unfold part
        rw [Sem.run_bind, h.isAgg, ha]
        simp only [Result.andThen_ok, if_true]
        rw [Sem.run_bind, h.sizeOf]
        simp only [Result.andThen_ok, Sem.run_pure]
      · have := hc.1
        have hp := h.pos
        simp; omega
      · rw [List.getElem?_take] at hj
        split at hj
        · rename_i hlt
          rw [List.getElem?_drop] at hj
          obtain ⟨u, k1, k2⟩ := hc.2 (o + j) c hj
          refine ⟨u, ?_, k2⟩
          rw [Array.getElem?_extract]
          have hs : o + j < us.size := (Array.getElem?_eq_some_iff.1 k1).1
          rw [if_pos (by omega)]
          exact k1
        · cases hj
  | false =>
    rw [ha] at hk
    simp only [cond_false] at hk
    cases hd : cs.drop o with
    | nil => rw [hd] at hk; exact hk.elim
    | cons c r =>
      rw [hd] at hk
      have h0 : cs[o]? = some c := by
        have := congrArg (fun l => l[0]?) hd
        simpa using this
      obtain ⟨u, h1, h2⟩ := hc.2 o c h0
      refine ⟨_, u, hk, ?_, h2⟩
      unfold part
      rw [Sem.run_bind, h.isAgg, ha]
      simp only [Result.andThen_ok, Bool.false_eq_true, if_false, h1]
      rfl
theorem elems_sl {S : Store} {id o n t : Nat} {l : List (List C)} (h : elems S (.sl id o n t) = some l) :
    ∃ row, S[id]? = some row ∧ row.xs.length = t ∧ o + n ≤ t ∧ l = (row.xs.drop o).take n := by
  simp only [elems] at h
  split at h
  · rename_i row hr
    split at h
    · rename_i hc; simp at h; exact ⟨row, hr, hc.1, hc.2, h.symm⟩
    · cases h
  · cases h
theorem elems_at {S : Store} {id o n t : Nat} {l : List (List C)} {cs : List C} {i : Nat} (h : elems S (.sl id o n t) = some l) (hi : l[i]? = some cs) :
    ∃ row, S[id]? = some row ∧ row.xs.length = t ∧ o + n ≤ t ∧ i < n ∧ row.xs[o + i]? = some cs := by
  obtain ⟨row, h1, h2, h3, rfl⟩ := elems_sl h
  rw [List.getElem?_take] at hi
  split at hi
  · rename_i hlt
    rw [List.getElem?_drop] at hi
    exact ⟨row, h1, h2, h3, hlt, hi⟩
  · cases hi
section
variable {P : Program} {T : TT}
variable {μ0 : Mp} {S0 : Store} {w0 : World} {μ : Mp} {β : Nat → Nat} {env : Env} {S : Store} {w : World} {a : Act}
theorem PtR.valid {id off : Nat} {u : Value} {row : Row} {cs : List C} (h : PtR μ S id off u) (hr : S[id]? = some row) (hx : row.xs = [cs]) : ∃ m, μ id = some m ∧ u = .pointer (some ⟨m.blk, off, none⟩) := by
  obtain ⟨_, r, h0, h1, h2, hv⟩ := h
  rw [hr] at h0; cases h0
  exact hv (by rw [hx]; rfl)
theorem dLoad_sound (hst : St μ0 S0 w0 μ β env S a.tmps w) {t : Nat} {ti : TI} (ht : TyOK P t ti) {K : V → Prop} {loc : AV} {u : Value} (hl : OpdR μ S β env loc u) (h : dLoad ti env S K loc) :
    ∃ v val, K v ∧ (Instr.loadAt t u).run P w = .ok val w ∧ VR μ S v val := by
  cases loc with
  | plc d o =>
    simp only [dLoad] at h
    cases hd : getE env d with
    | box cs =>
      rw [hd] at h
      have hd' := getE_some hd (by simp)
      obtain ⟨h1, arr, e, h2, h3⟩ := hst.slot d _ hd'
      have hu := hl.2 cs hd'
      subst hu
      obtain ⟨v, val, k1, k2, k3⟩ := getV_run (μ := μ) (S := S) (w := w) (b := β d) (o := o) ht h (fun j c hj => by
        rw [List.getElem?_drop] at hj
        obtain ⟨u, g1, g2⟩ := h3.2 _ c hj
        exact ⟨u, by rw [cell_of_row w _ _ arr e (0, 0) h2]; exact g1, g2⟩)
      exact ⟨v, val, k1, by simp [Instr.loadAt, Instr.sureAddr, k2], k3⟩
    | _ => rw [hd] at h; exact h.elim
  | el c i o =>
    simp only [dLoad] at h
    unfold LoadP at h
    obtain ⟨l, h1, cs, h2, h3, h4⟩ := h
    cases c with
    | sl id o' n t' =>
      obtain ⟨row, r1, r2, r3, r4, r5⟩ := elems_at h1 h2
      obtain ⟨_, row', q1, q2, q3⟩ := hl
      rw [r1] at q1; cases q1
      obtain ⟨m, m1, m2, m3, m4, rfl⟩ := q3 r2
      have hok := hst.rs.ok id row m r1 m1
      obtain ⟨c1, c2⟩ := hok.cells _ _ r5
      obtain ⟨v, val, k1, k2, k3⟩ := getV_run (μ := μ) (S := S) (w := w) (b := m.blk) (o := m.base + (o' + i.toNat) * row.k + o) ht h4 (fun j c hj => by
        rw [List.getElem?_drop] at hj
        obtain ⟨u, g1, g2⟩ := c2 _ c hj
        exact ⟨u, by rw [← g1]; congr 2; omega, g2⟩)
      exact ⟨v, val, k1, by simp [Instr.loadAt, Instr.sureAddr, k2], k3⟩
    | _ => exact hl.elim
  | pe id o =>
    simp only [dLoad] at h
    unfold RowP at h
    obtain ⟨row, cs, h1, h2, h3, h4⟩ := h
    obtain ⟨m, m1, rfl⟩ := PtR.valid hl h1 h3
    have hok := hst.rs.ok id row m h1 m1
    obtain ⟨c1, c2⟩ := hok.cells 0 cs (by rw [h3]; rfl)
    obtain ⟨hb, _⟩ := hok.mine h2
    obtain ⟨v, val, k1, k2, k3⟩ := getV_run (μ := μ) (S := S) (w := w) (b := m.blk) (o := o) ht h4 (fun j c hj => by
      rw [List.getElem?_drop] at hj
      obtain ⟨u, g1, g2⟩ := c2 _ c hj
      exact ⟨u, by rw [← g1, hb]; congr 2; omega, g2⟩)
    exact ⟨v, val, k1, by simp [Instr.loadAt, Instr.sureAddr, k2], k3⟩
  | v x =>
    cases x with
    | agg xs => exact h.elim
    | s c =>
      cases c with
      | pt id =>
        simp only [dLoad] at h
        unfold RowP at h
        obtain ⟨row, cs, h1, h2, h3, h4⟩ := h
        obtain ⟨m, m1, rfl⟩ := PtR.valid hl h1 h3
        have hok := hst.rs.ok id row m h1 m1
        obtain ⟨c1, c2⟩ := hok.cells 0 cs (by rw [h3]; rfl)
        obtain ⟨hb, _⟩ := hok.mine h2
        obtain ⟨v, val, k1, k2, k3⟩ := getV_run (μ := μ) (S := S) (w := w) (b := m.blk) (o := 0) ht h4 (fun j c hj => by
          obtain ⟨u, g1, g2⟩ := c2 _ c hj
          exact ⟨u, by rw [← g1, hb]; congr 2; omega, g2⟩)
        exact ⟨v, val, k1, by simp [Instr.loadAt, Instr.sureAddr, k2], k3⟩
      | _ => exact h.elim
  | _ => exact h.elim
theorem storeVar_run {t : Nat} {ti : TI} (ht : TyOK P t ti) {g o : Nat} {cur : Array Value} {e : Nat} (hg : w.heap[g]? = some (.cells cur e (0, 0))) {v : Value} (hs : v.cells.size = ti.sz) (hfit : o + ti.sz ≤ cur.size) (h1 : ∀ u ∈ v.cells.toList, u.oneCell' = true) :
    (Instr.storeAt t (.pointer (some ⟨g, o, none⟩)) v).run P w = .ok () (w.setRow g (cur.toList.take o ++ v.cells.toList ++ cur.toList.drop (o + v.cells.toList.length)).toArray) := by
  have := run_storeCells_at P g o e v.cells.toList 0 cur w hg (by simp only [Array.length_toList]; omega) h1
  simp only [Nat.add_zero] at this
  simp [Instr.storeAt, Instr.sureAddr, storeVar, ht.sizeOf, hs, this]
theorem set_row_cells {row : Row} {m : Loc} (hok : RowOK μ S w row m) {arr : Array Value} {e : Nat} (hb : m.base = 0) (ha : w.heap[m.blk]? = some (.cells arr e (0, 0))) (hsz : arr.size = m.cap * row.k) (hcap : row.xs.length ≤ m.cap)
    {idx : Nat} {cs ys : List C} {off : Nat} (hx : row.xs[idx]? = some cs) (hl : off + ys.length ≤ row.k) {vs : Array Value} (hv : AggR μ S ys vs) :
    (arr.toList.take (idx * row.k + off) ++ vs.toList ++ arr.toList.drop (idx * row.k + off + vs.toList.length)).toArray.size = arr.size ∧
    ∀ (i : Nat) cs', (row.xs.set idx (putCells cs off ys))[i]? = some cs' → cs'.length = row.k ∧ ∀ (j : Nat) c, cs'[j]? = some c →
      ∃ u, (arr.toList.take (idx * row.k + off) ++ vs.toList ++ arr.toList.drop (idx * row.k + off + vs.toList.length)).toArray[i * row.k + j]? = some u ∧ CR μ S c u := by
  have hidx : idx < row.xs.length := (List.getElem?_eq_some_iff.1 hx).1
  obtain ⟨hcl, hcc⟩ := hok.cells idx cs hx
  have hlen : vs.toList.length = ys.length := by simpa using hv.1
  have hmul : (idx + 1) * row.k ≤ m.cap * row.k := Nat.mul_le_mul_right _ (by omega)
  rw [Nat.add_mul, Nat.one_mul] at hmul
  have hfit : idx * row.k + off + vs.toList.length ≤ arr.toList.length := by simp only [Array.length_toList] at hlen ⊢; omega
  have old : ∀ (i : Nat) cs', row.xs[i]? = some cs' → cs'.length = row.k ∧ ∀ (j : Nat) c, cs'[j]? = some c → ∃ u, arr[i * row.k + j]? = some u ∧ CR μ S c u := by
    intro i cs' hi
    obtain ⟨a, b⟩ := hok.cells i cs' hi
    refine ⟨a, fun j c hj => ?_⟩
    obtain ⟨u, h1, h2⟩ := b j c hj
    rw [cell_of_row w _ _ arr e (0, 0) ha, hb, Nat.zero_add] at h1
    exact ⟨u, h1, h2⟩
  refine ⟨by simp only [List.size_toArray, List.length_append, List.length_take, List.length_drop, Array.length_toList] at hfit ⊢; omega, fun i cs' hi => ?_⟩
  simp only [List.getElem?_toArray, splice_at hfit]
  rw [List.getElem?_set] at hi
  split at hi
  · rename_i e; subst e
    simp only [Option.some.injEq] at hi
    subst hi
    refine ⟨by rw [putCells_len (by omega)]; exact hcl, fun j c hj => ?_⟩
    rw [putCells_at (by omega)] at hj
    split at hj
    · rename_i h1
      rw [if_pos (by omega)]
      obtain ⟨u, g1, g2⟩ := (old idx cs hx).2 j c hj
      exact ⟨u, by simpa using g1, g2⟩
    · rename_i h1
      rw [if_neg (by omega)]
      split at hj
      · rename_i h2
        rw [if_pos (by omega)]
        obtain ⟨u, g1, g2⟩ := hv.2 _ c hj
        exact ⟨u, by rw [← g1, ← Array.getElem?_toList]; congr 1; omega, g2⟩
      · rename_i h2
        rw [if_neg (by omega)]
        obtain ⟨u, g1, g2⟩ := (old idx cs hx).2 j c hj
        exact ⟨u, by simpa using g1, g2⟩
  · rename_i hne
    obtain ⟨h1, h2⟩ := old i cs' hi
    refine ⟨h1, fun j c hj => ?_⟩
    obtain ⟨u, g1, g2⟩ := h2 j c hj
    have hj' : j < row.k := by rw [← h1]; exact (List.getElem?_eq_some_iff.1 hj).1
    have hout : ¬ (idx * row.k + off ≤ i * row.k + j ∧ i * row.k + j < idx * row.k + off + vs.toList.length) := by
      rcases Nat.lt_or_gt_of_ne hne with hlt | hgt
      · have : (idx + 1) * row.k ≤ i * row.k := Nat.mul_le_mul_right _ hlt
        rw [Nat.add_mul, Nat.one_mul] at this
        omega
      · have : (i + 1) * row.k ≤ idx * row.k := Nat.mul_le_mul_right _ hgt
        rw [Nat.add_mul, Nat.one_mul] at this
        omega
    refine ⟨u, ?_, g2⟩
    split
    · simpa using g1
    · rw [if_neg (by omega)]; simpa using g1
theorem dStore_sound (hst : St μ0 S0 w0 μ β env S a.tmps w) {t : Nat} {ti : TI} (ht : TyOK P t ti) {K : Env → Store → Prop} {loc : AV} {u val : Value} {ys : List C} (hl : OpdR μ S β env loc u)
    (hv : AggR μ S ys val.cells) (hs : ys.length = ti.sz) (h : dStore env S ys K loc) :
    ∃ env' S' w', K env' S' ∧ (Instr.storeAt t u val).run P w = .ok () w' ∧ St μ0 S0 w0 μ β env' S' a.tmps w' := by
  have hsz : val.cells.size = ti.sz := by rw [hv.1, hs]
  cases loc with
  | plc d o =>
    simp only [dStore] at h
    cases hd : getE env d with
    | box cs =>
      rw [hd] at h
      simp only at h
      cases hb : Nat.ble (o + ys.length) cs.length with
      | false => rw [hb] at h; exact h.elim
      | true =>
        rw [hb] at h
        simp only [cond_true, putK_eq, putE] at h
        have hle : o + ys.length ≤ cs.length := Nat.le_of_ble_eq_true hb
        have hd' := getE_some hd (by simp)
        obtain ⟨h1, arr, e, h2, h3⟩ := hst.slot d _ hd'
        have hu := hl.2 cs hd'
        subst hu
        exact ⟨_, _, _, h, storeVar_run ht h2 hsz (by rw [h3.1]; omega) hv.ones, hst.setBox hd' (AggR.splice h3 hv hle)⟩
    | _ => rw [hd] at h; exact h.elim
  | el c i o =>
    simp only [dStore] at h
    unfold StoP at h
    obtain ⟨id, o', n, t', row, cs, rfl, r1, r2, r3, r4, r5, r6, r7, r8, r9⟩ := h
    obtain ⟨_, row', q1, q2, q3⟩ := hl
    rw [r1] at q1; cases q1
    obtain ⟨m, m1, m2, m3, m4, rfl⟩ := q3 r3
    have hok := hst.rs.ok id row m r1 m1
    obtain ⟨hb, arr, e, g1, g2, g3, g4⟩ := hok.mine r2
    obtain ⟨hcl, _⟩ := hok.cells _ _ r7
    have hidx : o' + i.toNat < row.xs.length := (List.getElem?_eq_some_iff.1 r7).1
    have hmul : (o' + i.toNat + 1) * row.k ≤ m.cap * row.k := Nat.mul_le_mul_right _ (by omega)
    rw [Nat.add_mul, Nat.one_mul] at hmul
    obtain ⟨c1, c2⟩ := set_row_cells hok hb g1 g2 g3 r7 r8 hv
    obtain ⟨rs, ev⟩ := hst.rs.setRow (row' := ⟨true, row.k, row.xs.set (o' + i.toNat) (putCells cs o ys)⟩) r1 m1 r2 rfl rfl (by simp) g1 c1 c2
    refine ⟨_, _, _, r9, ?_, hst.step rs ev⟩
    rw [hb, Nat.zero_add]
    exact storeVar_run ht g1 hsz (by rw [g2]; omega) hv.ones
  | pe id o =>
    simp only [dStore] at h
    unfold RowP NeedP at h
    obtain ⟨row, cs, h1, h2, h3, h4, h5⟩ := h
    obtain ⟨m, m1, rfl⟩ := PtR.valid hl h1 h3
    have hok := hst.rs.ok id row m h1 m1
    obtain ⟨hb, arr, e, g1, g2, g3, g4⟩ := hok.mine h2
    have hx : row.xs[0]? = some cs := by rw [h3]; rfl
    obtain ⟨hcl, _⟩ := hok.cells _ _ hx
    have hmul : (0 + 1) * row.k ≤ m.cap * row.k := Nat.mul_le_mul_right _ (by rw [h3] at g3; simpa using g3)
    rw [Nat.add_mul, Nat.one_mul] at hmul
    obtain ⟨c1, c2⟩ := set_row_cells hok hb g1 g2 g3 hx (by omega : o + ys.length ≤ row.k) hv
    have hset : row.xs.set 0 (putCells cs o ys) = [putCells cs o ys] := by rw [h3]; rfl
    rw [hset] at c2
    obtain ⟨rs, ev⟩ := hst.rs.setRow (row' := ⟨true, row.k, [putCells cs o ys]⟩) h1 m1 h2 rfl rfl (by rw [h3]; rfl) g1 c1 c2
    refine ⟨_, _, w.setRow m.blk (arr.toList.take (0 * row.k + o) ++ val.cells.toList ++ arr.toList.drop (0 * row.k + o + val.cells.toList.length)).toArray, h5, ?_, hst.step ?_ ?_⟩
    · simp only [Nat.zero_mul, Nat.zero_add]
      exact storeVar_run ht g1 hsz (by rw [g2]; omega) hv.ones
    · simp only [h1, Option.map_some, Option.getD_some]; exact rs
    · simp only [h1, Option.map_some, Option.getD_some]; exact ev
  | v x =>
    cases x with
    | agg xs => exact h.elim
    | s c =>
      cases c with
      | pt id =>
        simp only [dStore] at h
        unfold RowP NeedP at h
        obtain ⟨row, cs, h1, h2, h3, h4, h5⟩ := h
        obtain ⟨m, m1, rfl⟩ := PtR.valid hl h1 h3
        have hok := hst.rs.ok id row m h1 m1
        obtain ⟨hb, arr, e, g1, g2, g3, g4⟩ := hok.mine h2
        have hx : row.xs[0]? = some cs := by rw [h3]; rfl
        obtain ⟨hcl, _⟩ := hok.cells _ _ hx
        have hmul : (0 + 1) * row.k ≤ m.cap * row.k := Nat.mul_le_mul_right _ (by rw [h3] at g3; simpa using g3)
        rw [Nat.add_mul, Nat.one_mul] at hmul
        obtain ⟨c1, c2⟩ := set_row_cells hok hb g1 g2 g3 hx (by omega : 0 + ys.length ≤ row.k) hv
        have hset : row.xs.set 0 (putCells cs 0 ys) = [putCells cs 0 ys] := by rw [h3]; rfl
        rw [hset] at c2
        obtain ⟨rs, ev⟩ := hst.rs.setRow (row' := ⟨true, row.k, [putCells cs 0 ys]⟩) h1 m1 h2 rfl rfl (by rw [h3]; rfl) g1 c1 c2
        refine ⟨_, _, w.setRow m.blk (arr.toList.take (0 * row.k + 0) ++ val.cells.toList ++ arr.toList.drop (0 * row.k + 0 + val.cells.toList.length)).toArray, h5, ?_, hst.step ?_ ?_⟩
        · have := storeVar_run (o := 0) ht g1 hsz (by rw [g2]; omega) hv.ones
          simp only [Nat.zero_mul, Nat.zero_add] at this ⊢
          exact this
        · simp only [h1, Option.map_some, Option.getD_some]; exact rs
        · simp only [h1, Option.map_some, Option.getD_some]; exact ev
      | _ => exact h.elim
  | _ => exact h.elim
end
end Go.Proofs.YtlmmdpmmdmhacaaGreat
