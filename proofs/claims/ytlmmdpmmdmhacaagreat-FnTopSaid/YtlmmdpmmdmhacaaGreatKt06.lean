/- append and make. One operation: what is computed of it holds of the model's. -/
import Derived.Test.YtlmmdpmmdmhacaaGreatKt05
namespace Go.Proofs.YtlmmdpmmdmhacaaGreat
open Go
set_option linter.unusedVariables false
set_option linter.unusedSimpArgs false
section
variable {P : Program}
theorem zf2 (w : World) (t ty e : TypeId) (i : TypeInfo) (ht : P.underlying t = some (.slice e)) (hi : P.info? e = some i) (base b : Option Addr) (sLen sCap c : Nat) (hc : sLen ≤ sCap) :
 (Builtin.append_ #[t, t] ty #[.slice base sLen sCap, .slice b 0 c]).run P w = .ok (.slice base sLen sCap) w := by
 have hf : (Builtin.firstCells i.size 0 (.slice b 0 c)).run P w = .ok #[] w := by
  cases b <;> simp [Builtin.firstCells, loadCells, loadCellsFrom]
 cases base <;> simp [Builtin.append_, run_underlying ht, sizeOf, typeInfo, hi, Builtin.lenOf, hc, hf, storeCells]
theorem zl7 (w : World) (t ty e e' : TypeId) (i : TypeInfo) (ht : P.underlying t = some (.slice e)) (hi : P.info? e = some i)
 (g sLen sCap : Nat) (cur : Array Value) (hg : w.heap[g]? = some (.cells cur e' (0, 0)))
 (a : Addr) (m c : Nat) (news : List Value) (hl : news.length = m * i.size) (hnews : ∀ (j : Nat) u, news[j]? = some u → w.cell? (a.add j) = some u) (h1 : ∀ u ∈ news, u.oneCell' = true)
 (hroom : sLen + m ≤ sCap) (hfit : sLen * i.size + news.length ≤ cur.size) :
 (Builtin.append_ #[t, t] ty #[.slice (some ⟨g, 0, none⟩) sLen sCap, .slice (some a) m c]).run P w =
  .ok (.slice (some ⟨g, 0, none⟩) (sLen + m) sCap) (w.setRow g (cur.toList.take (sLen * i.size) ++ news ++ cur.toList.drop (sLen * i.size + news.length)).toArray) := by
 have hf := run_firstCells_some (P := P) w i.size m a m c news hl hnews
 have hst := run_storeCells_at P g (sLen * i.size) e' news 0 cur w hg (by simpa using hfit) h1
 simp only [Nat.add_zero] at hst
 simp [Builtin.append_, run_underlying ht, sizeOf, typeInfo, hi, Builtin.lenOf, hroom, hf, Addr.add_lit, hst]
variable {μ : Mp} {S : Store} {w : World}
theorem znk {k n cap : Nat} {us : List Value} {z : Array Value} (hz : z.size = k) (hl : us.length = n * k) (hc : n ≤ cap) :
 (us.toArray ++ Builtin.zeroCells z (cap - n)).size = cap * k ∧ ∀ (j : Nat) u, us[j]? = some u → (us.toArray ++ Builtin.zeroCells z (cap - n))[j]? = some u := by
 refine ⟨by rw [Array.size_append, size_zeroCells, List.size_toArray, hl, hz, ← Nat.add_mul]; congr 1; omega, fun j u hj => ?_⟩
 have : j < us.length := (List.getElem?_eq_some_iff.1 hj).1
 rw [Array.getElem?_append_left (by simpa using this)]
 simpa using hj
theorem ztn (hrs : RS μ S w) {t ty e : Nat} {te : TI} (ht : P.underlying t = some (.slice e)) (hte : TyOK P e te) {c : C} {u x : Value} {ys : List (List C)} {K : C → Store → Prop}
 (hu : CR μ S c u) (hx : SrcR μ S w ys x) (h : AppP te.sz te.by' S c ys K) :
 ∃ c' S' μ' w' u', K c' S' ∧ (Builtin.append_ #[t, t] ty #[u, x]).run P w = .ok u' w' ∧ CR μ' S' c' u' ∧ RS μ' S' w' ∧ Evo μ S w μ' S' w' := by
 obtain ⟨i, z, hi, hsz, hby, hz, hzs, _⟩ := hte.info
 have hb1 : 1 ≤ te.by' := hte.bpos
 obtain ⟨base, cx, rfl, hsrc⟩ := hx
 unfold AppP at h
 obtain ⟨hk, h⟩ := h
 rcases h with ⟨rfl, hbd, h1, h2⟩ | ⟨rfl, hbd, h1, h2⟩ | ⟨id, xs, rfl, hrow, hbd, h1⟩
 ·cases hu
  by_cases hy : ys = []
  ·subst hy
   exact ⟨_, _, _, _, _, h1 rfl, zf2 w t ty e i ht hi none base 0 0 cx (Nat.le_refl _), rfl, hrs, Evo.refl _ _ _⟩
  ·obtain ⟨ad, rfl, hnews⟩ := hsrc hy
   obtain ⟨news, n1, n2⟩ := hnews te.sz hk
   have hn : 0 < ys.length := List.length_pos_iff.2 hy
   have hle : ys.length ≤ ys.length * te.by' := Nat.le_mul_of_pos_right _ hb1
   have hm : ys.length ≤ maxLen := by simp only [maxLen]; omega
   have hr := run_append_nil (P := P) w t ty e i z ht hi hz ad ys.length cx news (by rw [n2.1, hsz]) n1 hn (by omega) (by rw [hby]; omega)
   have hge := grownCap_ge w ys.length 0 e
   have hcm := grownCap_le_maxLen w ys.length 0 e hm
   obtain ⟨g1, g2⟩ := znk (z := z.cells) hzs n2.1 hge
   obtain ⟨rs, ev, cr⟩ := hrs.newRow (w' := w.drew.alloc (.cells (news.toArray ++ Builtin.zeroCells z.cells (grownCap w ys.length 0 e - ys.length)) e)) n2 g2 g1 hge hcm rfl ⟨rfl, rfl, rfl⟩
   exact ⟨_, _, _, _, _, h2 hy, hr, cr, rs, ev⟩
 ·obtain ⟨ad0, rfl⟩ := hu
  by_cases hy : ys = []
  ·subst hy
   exact ⟨_, _, _, _, _, h1 rfl, zf2 w t ty e i ht hi (some ad0) base 0 0 cx (Nat.le_refl _), ⟨ad0, rfl⟩, hrs, Evo.refl _ _ _⟩
  ·obtain ⟨ad, rfl, hnews⟩ := hsrc hy
   obtain ⟨news, n1, n2⟩ := hnews te.sz hk
   have hn : 0 < ys.length := List.length_pos_iff.2 hy
   have hle : ys.length ≤ ys.length * te.by' := Nat.le_mul_of_pos_right _ hb1
   have hm : ys.length ≤ maxLen := by simp only [maxLen]; omega
   have hr := run_append_grow (P := P) w t ty e i z ht hi hz ad0 0 0 [] (by simp) (fun j v hj => by simp at hj) ad ys.length cx news (by rw [n2.1, hsz]) n1 (by omega) (by omega) (growslice_fits (by omega) (by rw [Nat.zero_add, hby]; omega))
   simp only [Nat.zero_add] at hr
   have hge := grownCap_ge w ys.length 0 e
   have hcm := grownCap_le_maxLen w ys.length 0 e hm
   obtain ⟨g1, g2⟩ := znk (z := z.cells) hzs n2.1 hge
   obtain ⟨rs, ev, cr⟩ := hrs.newRow (w' := w.drew.alloc (.cells (([] : List Value).toArray ++ news.toArray ++ Builtin.zeroCells z.cells (grownCap w ys.length 0 e - ys.length)) e)) (arr := ([] : List Value).toArray ++ news.toArray ++ Builtin.zeroCells z.cells (grownCap w ys.length 0 e - ys.length)) n2
    (by simpa using g2) (by simpa using g1) hge hcm rfl ⟨rfl, rfl, rfl⟩
   exact ⟨_, _, _, _, _, h2 hy, hr, cr, rs, ev⟩
 ·obtain ⟨ad0, cap, rfl, hnc, row, q1, q2, q3⟩ := hu
  obtain rfl : (⟨true, te.sz, xs⟩ : Row) = row := Option.some.inj (hrow.symm.trans q1)
  obtain ⟨m, m1, m2, m3, m4⟩ := q3 rfl
  obtain ⟨rfl, rfl⟩ := m4 rfl rfl rfl
  have hok := hrs.ok id _ m hrow m1
  obtain ⟨arr, e', a1, a2, a3⟩ := hok.flat rfl
  obtain ⟨hb, arr2, e2, g1, g2, g3, g4⟩ := hok.mine rfl
  by_cases hy : ys = []
  ·subst hy
   refine ⟨_, _, μ, w, _, h1, zf2 w t ty e i ht hi _ base xs.length m.cap cx hnc, ?_⟩
   have hs : S.set id ⟨true, te.sz, xs ++ []⟩ = S := by
    rw [List.append_nil]
    apply List.ext_getElem?
    intro j
    rw [List.getElem?_set]
    split
    ·rename_i e; subst e
     have := (List.getElem?_eq_some_iff.1 hrow).1
     rw [if_pos this, hrow]
    ·rfl
   rw [hs]
   exact ⟨⟨_, _, rfl, hnc, _, q1, q2, q3⟩, hrs, Evo.refl _ _ _⟩
  ·obtain ⟨ad, rfl, hnews⟩ := hsrc hy
   obtain ⟨news, n1, n2⟩ := hnews te.sz hk
   have hn : 0 < ys.length := List.length_pos_iff.2 hy
   have hle : xs.length + ys.length ≤ (xs.length + ys.length) * te.by' := Nat.le_mul_of_pos_right _ hb1
   have hm : xs.length + ys.length ≤ maxLen := by simp only [maxLen]; omega
   have flat := a3.append n2
   simp only at flat a2 a3
   by_cases hroom : xs.length + ys.length ≤ m.cap
   ·have hmul : (xs.length + ys.length) * te.sz ≤ m.cap * te.sz := Nat.mul_le_mul_right _ hroom
    rw [Nat.add_mul] at hmul
    have hfit : xs.length * te.sz + news.length ≤ arr.size := by rw [n2.1, a2]; exact hmul
    have hr := zl7 w t ty e e' i ht hi m.blk xs.length m.cap arr a1 ad ys.length cx news (by rw [n2.1, hsz]) n1 n2.ones hroom (by rw [hsz]; exact hfit)
    rw [hsz] at hr
    have hheap := setRow_heap w m.blk arr (arr.toList.take (xs.length * te.sz) ++ news ++ arr.toList.drop (xs.length * te.sz + news.length)).toArray e' (0, 0) a1
    have hsize : (arr.toList.take (xs.length * te.sz) ++ news ++ arr.toList.drop (xs.length * te.sz + news.length)).toArray.size = m.cap * te.sz := by
     simp only [List.size_toArray, List.length_append, List.length_take, List.length_drop, Array.length_toList]
     omega
    have kp : Keeps μ S (upd μ id (some m)) (S.set id ⟨true, te.sz, xs ++ ys⟩) := by
     have hlt := (List.getElem?_eq_some_iff.1 hrow).1
     intro id' r h'
     by_cases e : id' = id
     ·subst e
      rw [hrow] at h'; cases h'
      exact ⟨⟨true, te.sz, xs ++ ys⟩, by simp [hlt], rfl, rfl, by simp, fun e => absurd (by simpa using e) hy⟩
     ·exact ⟨r, by rw [List.getElem?_set_ne (Ne.symm e)]; exact h', rfl, rfl, Nat.le_refl _, fun _ => zbb _ _ e⟩
    have hok' : RowOK (upd μ id (some m)) (S.set id ⟨true, te.sz, xs ++ ys⟩) (w.setRow m.blk (arr.toList.take (xs.length * te.sz) ++ news ++ arr.toList.drop (xs.length * te.sz + news.length)).toArray) ⟨true, te.sz, xs ++ ys⟩ m :=
     RowOK.of_flat rfl (flat.keep kp) hb hheap (fun j u hj => by
      rw [List.getElem?_toArray]
      have : j < (arr.toList.take (xs.length * te.sz) ++ news).length := (List.getElem?_eq_some_iff.1 hj).1
      rw [List.getElem?_append_left this]; exact hj) hsize (by simpa using hroom) g4
    obtain ⟨_, rs, ev⟩ := hrs.regrow (row' := ⟨true, te.sz, xs ++ ys⟩) (w' := w.setRow m.blk (arr.toList.take (xs.length * te.sz) ++ news ++ arr.toList.drop (xs.length * te.sz + news.length)).toArray) hrow m1 rfl rfl rfl (by show xs.length < (xs ++ ys).length; rw [List.length_append]; omega) (by simp [World.setRow]) ⟨rfl, rfl, rfl⟩ (fun b _ hb => setRow_other w _ _ _ hb) (.inl rfl) hok'
    have hlt := (List.getElem?_eq_some_iff.1 hrow).1
    exact ⟨_, _, _, _, _, h1, hr, ⟨⟨m.blk, 0, none⟩, m.cap, rfl, hroom, ⟨true, te.sz, xs ++ ys⟩, by simp [hlt], by simp, fun _ => ⟨m, za2 _ _ _, by simp, fun _ => by simp [hb], fun _ _ _ => ⟨rfl, rfl⟩⟩⟩, rs, ev⟩
   ·have olds : ∀ (j : Nat) v, (arr.toList.take (xs.length * te.sz))[j]? = some v → w.cell? ((⟨m.blk, 0, none⟩ : Addr).add j) = some v := by
     intro j v hj
     rw [zcl, cell_of_row w _ _ arr e' (0, 0) a1, Nat.zero_add]
     rw [List.getElem?_take] at hj
     split at hj
     ·simpa using hj
     ·cases hj
    have hr := run_append_grow (P := P) w t ty e i z ht hi hz ⟨m.blk, 0, none⟩ xs.length m.cap (arr.toList.take (xs.length * te.sz)) (by rw [a3.1, hsz]) olds ad ys.length cx news (by rw [n2.1, hsz]) n1 (by omega) (by simp only [maxLen] at hm; omega) (growslice_fits (by omega) (by rw [hby]; exact hbd))
    have hge := grownCap_ge w (xs.length + ys.length) m.cap e
    have hcm := grownCap_le_maxLen w (xs.length + ys.length) m.cap e hm
    obtain ⟨f1, f2⟩ := znk (us := arr.toList.take (xs.length * te.sz) ++ news) (z := z.cells) hzs (by rw [flat.1]; simp) hge
    have harr : (arr.toList.take (xs.length * te.sz)).toArray ++ news.toArray = (arr.toList.take (xs.length * te.sz) ++ news).toArray := by simp
    rw [harr] at hr
    have kp : Keeps μ S (upd μ id (some ⟨w.heap.size, 0, grownCap w (xs.length + ys.length) m.cap e⟩)) (S.set id ⟨true, te.sz, xs ++ ys⟩) := by
     have hlt := (List.getElem?_eq_some_iff.1 hrow).1
     intro id' r h'
     by_cases e : id' = id
     ·subst e
      rw [hrow] at h'; cases h'
      exact ⟨⟨true, te.sz, xs ++ ys⟩, by simp [hlt], rfl, rfl, by simp, fun e => absurd (by simpa using e) hy⟩
     ·exact ⟨r, by rw [List.getElem?_set_ne (Ne.symm e)]; exact h', rfl, rfl, Nat.le_refl _, fun _ => zbb _ _ e⟩
    have hheap : (w.drew.alloc (.cells ((arr.toList.take (xs.length * te.sz) ++ news).toArray ++ Builtin.zeroCells z.cells (grownCap w (xs.length + ys.length) m.cap e - (xs.length + ys.length))) e)).heap[w.heap.size]? = some (.cells ((arr.toList.take (xs.length * te.sz) ++ news).toArray ++ Builtin.zeroCells z.cells (grownCap w (xs.length + ys.length) m.cap e - (xs.length + ys.length))) e (0, 0)) := Go.heap_alloc_new w.drew _
    have hok' := RowOK.of_flat (row := ⟨true, te.sz, xs ++ ys⟩) (m := ⟨w.heap.size, 0, grownCap w (xs.length + ys.length) m.cap e⟩) rfl (flat.keep kp) rfl hheap f2 f1 (by simpa using hge) hcm
    obtain ⟨_, rs, ev⟩ := hrs.regrow (row' := ⟨true, te.sz, xs ++ ys⟩) (w' := w.drew.alloc (.cells ((arr.toList.take (xs.length * te.sz) ++ news).toArray ++ Builtin.zeroCells z.cells (grownCap w (xs.length + ys.length) m.cap e - (xs.length + ys.length))) e)) hrow m1 rfl rfl rfl (by show xs.length < (xs ++ ys).length; rw [List.length_append]; omega) (by simp) ⟨rfl, rfl, rfl⟩ (fun b hb _ => Go.heap_alloc_old w.drew _ b hb) (.inr (Nat.le_refl _)) hok'
    have hlt := (List.getElem?_eq_some_iff.1 hrow).1
    exact ⟨_, _, _, _, _, h1, hr, ⟨⟨w.heap.size, 0, none⟩, _, rfl, hge, ⟨true, te.sz, xs ++ ys⟩, by simp [hlt], by simp, fun _ => ⟨_, za2 _ _ _, by simp, fun _ => by simp, fun _ _ _ => ⟨rfl, rfl⟩⟩⟩, rs, ev⟩
end
def FOK (P : Program) (f : Nat) : Prop := ∃ fn, P.funcs[f]? = some fn ∧ (fn.name == "runtime.NumGoroutine") = false ∧ fn.body.isNone = false
def EvA (P : Program) (f : Nat) (args : List V) (S : Store) (R : AV → Store → Prop) : Prop :=
 FOK P f ∧ ∀ (μ : Mp) (w : World) (us : Array Value), RS μ S w → Amb μ S w → VsR μ S args us →
  Calls P f us w (fun e w' => ∃ res S' u μ', R res S' ∧ e = .returned u ∧ RS μ' S' w' ∧ AVR μ' S' res u ∧ Evo μ S w μ' S' w')
theorem EvA.mono {P : Program} {f : Nat} {args : List V} {S : Store} {R R' : AV → Store → Prop} (h : EvA P f args S R) (hr : ∀ r S', R r S' → R' r S') : EvA P f args S R' :=
 ⟨h.1, fun μ w us h1 hA h2 => (h.2 μ w us h1 hA h2).mono fun e w' ⟨r, S', u, μ', a, b⟩ => ⟨r, S', u, μ', hr _ _ a, b⟩⟩
section
variable {P : Program} {T : TT} {μ0 : Mp} {S0 : Store} {w0 : World} {μ : Mp} {β : Nat → Nat} {env : Env} {S : Store} {w : World} {a : Act}
def Next (μ0 : Mp) (S0 : Store) (w0 : World) (K : Env → Store → Prop) (next : Act → World → Prop) : Prop :=
 ∀ env' S' μ' β' a' w', K env' S' → a'.defers = [] → St μ0 S0 w0 μ' β' env' S' a'.tmps w' → next a' w'
theorem zcs (a : Act) (d : Option Tmp) (u : Value) : (a.put d u).defers = a.defers := by
 unfold Act.put; split <;> rfl
theorem znn {o : Oper} {next : Act → World → Prop} {Q : Exit → Act → World → Prop} {u : Value} {w' : World} (hr : (execOp a.eval o).run P w = .ok (.value u) w') (h : next (a.put o.dst u) w') : o.wp P a w next Q := by
 unfold Oper.wp; rw [hr]; exact h
theorem fin {o : Oper} {K : Env → Store → Prop} {next : Act → World → Prop} {Q : Exit → Act → World → Prop} (hn : Next μ0 S0 w0 K next) (hd : a.defers = []) (hst : St μ0 S0 w0 μ β env S a.tmps w) {x : AV} {u : Value}
 (h : putK env o.dst x fun env => K env S) (hr : (execOp a.eval o).run P w = .ok (.value u) w) (hx : OpdR μ S β env x u) : o.wp P a w next Q := by
 rw [zdd] at h
 exact znn hr (hn _ _ _ _ _ _ h (by rw [zcs]; exact hd) (hst.put hx o.dst rfl))
theorem fin' {o : Oper} {K : Env → Store → Prop} {next : Act → World → Prop} {Q : Exit → Act → World → Prop} (hn : Next μ0 S0 w0 K next) (hd : a.defers = []) (hst : St μ0 S0 w0 μ β env S a.tmps w) {x : AV} {u : Value} {S' : Store} {μ' : Mp} {w' : World}
 (h : putK env o.dst x fun env => K env S') (hr : (execOp a.eval o).run P w = .ok (.value u) w') (rs : RS μ' S' w') (ev : Evo μ S w μ' S' w') (hx : OpdR μ' S' β env x u) : o.wp P a w next Q := by
 rw [zdd] at h
 exact znn hr (hn _ _ _ _ _ _ h (by rw [zcs]; exact hd) ((hst.step rs ev).put hx o.dst rfl))
theorem z1i {c : C} {u : Value} {r : Bool} (h : z4w c = some r) (hu : CR μ S c u) : ∃ ad n cap, u = .slice ad n cap ∧ ad.isNone = r := by
 cases c <;> simp [z4w] at h
 case nil => subst h; exact ⟨none, 0, 0, hu, rfl⟩
 case zc => subst h; obtain ⟨ad, rfl⟩ := hu; exact ⟨_, _, _, rfl, rfl⟩
 case sl => subst h; obtain ⟨ad, cap, rfl, _⟩ := hu; exact ⟨_, _, _, rfl, rfl⟩
theorem zd8 {op : BinOp} {k : IntKind} {x y : Int} (t : Nat) (X Y : Operand) {s : Sem Value} (h : binOp op t (.int k x) (.int k y) = s) :
 (do eqGuard op t X Y (.int k x) (.int k y); binOp op t (.int k x) (.int k y) : Sem Value).run P w = s.run P w := by
 have e : eqGuard op t X Y (.int k x) (.int k y) = pure () := by
  unfold eqGuard
  split <;> rfl
 rw [e, h]
 rfl
theorem ztb {op : BinOp} {k : IntKind} {x y : Int} {K : V → Prop} (t : Nat) (X Y : Operand) (h : zpa op k x y K) :
 ∃ r val, K r ∧ (do eqGuard op t X Y (.int k x) (.int k y); binOp op t (.int k x) (.int k y) : Sem Value).run P w = .ok val w ∧ VR μ S r val := by
 cases op <;> simp only [zpa] at h
 case add => exact ⟨_, .int k (k.wrap (x + y)), h, (zd8 t X Y (s := Op.intArith .add k x y) (by simp [binOp])).trans rfl, by unfold wrapI; rfl⟩
 case sub => exact ⟨_, .int k (k.wrap (x - y)), h, (zd8 t X Y (s := Op.intArith .sub k x y) (by simp [binOp])).trans rfl, by unfold wrapI; rfl⟩
 case mul => exact ⟨_, .int k (k.wrap (x * y)), h, (zd8 t X Y (s := Op.intArith .mul k x y) (by simp [binOp])).trans rfl, by unfold wrapI; rfl⟩
 case quo =>
  unfold NeedP at h
  exact ⟨_, .int k (k.wrap (x.tdiv y)), h.2, (zd8 t X Y (s := Op.intDiv .quo k x y) (by simp [binOp])).trans (by simp [Op.intDiv, h.1]), by unfold wrapI; rfl⟩
 case rem =>
  unfold NeedP at h
  exact ⟨_, .int k (x.tmod y), h.2, (zd8 t X Y (s := Op.intDiv .rem k x y) (by simp [binOp])).trans (by simp [Op.intDiv, h.1]), rfl⟩
 case and => exact ⟨_, .int k (k.wrap (BitVec.ofInt k.bits x &&& BitVec.ofInt k.bits y).toNat), h, (zd8 t X Y (s := Op.intBits .and k x y) (by simp [binOp])).trans rfl, by unfold bitsI; rfl⟩
 case or => exact ⟨_, .int k (k.wrap (BitVec.ofInt k.bits x ||| BitVec.ofInt k.bits y).toNat), h, (zd8 t X Y (s := Op.intBits .or k x y) (by simp [binOp])).trans rfl, by unfold bitsI; rfl⟩
 case xor => exact ⟨_, .int k (k.wrap (BitVec.ofInt k.bits x ^^^ BitVec.ofInt k.bits y).toNat), h, (zd8 t X Y (s := Op.intBits .xor k x y) (by simp [binOp])).trans rfl, by unfold bitsI; rfl⟩
 case andNot => exact ⟨_, .int k (k.wrap (BitVec.ofInt k.bits x &&& ~~~BitVec.ofInt k.bits y).toNat), h, (zd8 t X Y (s := Op.intBits .andNot k x y) (by simp [binOp])).trans rfl, by unfold bitsI; rfl⟩
 case lss => exact ⟨_, .bool (decide (x < y)), h, (zd8 t X Y (s := Op.intCmp .lss x y) (by simp [binOp])).trans rfl, rfl⟩
 case leq => exact ⟨_, .bool (decide (x ≤ y)), h, (zd8 t X Y (s := Op.intCmp .leq x y) (by simp [binOp])).trans rfl, rfl⟩
 case gtr => exact ⟨_, .bool (decide (y < x)), h, (zd8 t X Y (s := Op.intCmp .gtr x y) (by simp [binOp])).trans rfl, rfl⟩
 case geq => exact ⟨_, .bool (decide (y ≤ x)), h, (zd8 t X Y (s := Op.intCmp .geq x y) (by simp [binOp])).trans rfl, rfl⟩
 case eql => exact ⟨_, .bool (decide (x = y)), h, (zd8 t X Y (s := Op.intCmp .eql x y) (by simp [binOp])).trans rfl, rfl⟩
 case neq => exact ⟨_, .bool (!decide (x = y)), h, (zd8 t X Y (s := Op.intCmp .neq x y) (by simp [binOp])).trans rfl, rfl⟩
theorem zmx {t : Nat} (ht : P.underlying t = some .bool) (p q : Bool) : (Op.equal t (.bool p) (.bool q)).run P w = .ok (p == q) w := by
 show (Op.equalIn (9999 + 1) t (.bool p) (.bool q)).run P w = _
 rw [Op.equalIn]
 simp [run_underlying ht]
theorem zpd {op : BinOp} {x y : V} {K : V → Prop} {u v : Value} (t : Nat) (X Y : Operand) (h : aBin op x y K) (hb : op = .eql ∨ op = .neq → ∀ b b', x = .s (.bool b) → y = .s (.bool b') → P.underlying t = some .bool)
 (hx : VR μ S x u) (hy : VR μ S y v) :
 ∃ r val, K r ∧ (do eqGuard op t X Y u v; binOp op t u v : Sem Value).run P w = .ok val w ∧ VR μ S r val := by
 unfold aBin at h
 split at h
 ·rename_i k p k' q
  have hx : u = .int k p := hx
  have hy : v = .int k' q := hy
  subst hx; subst hy
  split at h
  ·unfold NeedP at h
   exact ⟨_, .int k (k.wrap (p * 2 ^ (min q.toNat k.bits))), h.2, by simp [eqGuard, binOp, Op.shift, Int.not_lt.2 h.1], by unfold shlI; rfl⟩
  ·unfold NeedP at h
   exact ⟨_, .int k (p.fdiv (2 ^ (min q.toNat k.bits))), h.2, by simp [eqGuard, binOp, Op.shift, Int.not_lt.2 h.1], by unfold shrI; rfl⟩
  ·cases hk : zqe k k' with
   | false => rw [hk] at h; exact h.elim
   | true =>
     rw [hk] at h
     have := zqm hk
     subst this
     exact ztb t X Y h
 ·rename_i p q
  have hx : u = .bool p := hx
  have hy : v = .bool q := hy
  subst hx; subst hy
  split at h
  ·have := hb (.inl rfl) p q rfl rfl
   exact ⟨_, .bool (p == q), h, by simp [eqGuard, binOp, zmx this], rfl⟩
  ·have := hb (.inr rfl) p q rfl rfl
   exact ⟨_, .bool (!(p == q)), h, by simp [eqGuard, binOp, zmx this], rfl⟩
  ·exact h.elim
 ·rename_i p q
  have hx : u = .string p := hx
  have hy : v = .string q := hy
  subst hx; subst hy
  split at h
  ·unfold NeedP at h
   have : ¬ (((p.size + q.size : Nat) : Int) > IntKind.i64.max) := by
    have e : IntKind.i64.max = 9223372036854775807 := by rfl
    rw [e]
    have := h.1
    omega
   exact ⟨_, .string (p ++ q), h.2, by simp only [eqGuard, binOp, Op.stringOp]; rw [if_neg this]; simp, by unfold catS; rfl⟩
  ·exact ⟨_, .bool (p.toList == q.toList), h, by simp [eqGuard, binOp, Op.stringOp], by unfold eqS; rfl⟩
  ·exact ⟨_, .bool (!(p.toList == q.toList)), h, by simp [eqGuard, binOp, Op.stringOp], by unfold eqS; rfl⟩
  ·exact h.elim
 ·exact h.elim
theorem zhh {t : Nat} {ti : TI} (ht : TyOK P t ti) {offs : List Nat} (hk : ti.kd = .struct offs) {i o : Nat} (ho : offs[i]? = some o) (b o' : Nat) :
 (Instr.fieldAt t (.pointer (some ⟨b, o', none⟩)) i).run P w = .ok (.pointer (some ⟨b, o' + o, none⟩)) w := by
 obtain ⟨fs, h1, h2, h3⟩ := ht.struct offs hk
 have hi : i < fs.size := by rw [h2]; exact (List.getElem?_eq_some_iff.1 ho).1
 have hf : fs[i]? = some fs[i] := Array.getElem?_eq_getElem hi
 obtain ⟨inf, g1, g2, g3, g4⟩ := h3 i fs[i] hf
 rw [ho] at g3
 have g3 := Option.some.inj g3
 have hne : inf.size ≠ 0 := by omega
 simp [Instr.fieldAt, run_underlying h1, hf, Instr.sureAddr, fieldPlace, sizeOf, typeInfo, g1, hne, zcl, g3]
theorem zxq {T : TT} {t i o : Nat} (h : z29 T t i = some o) : ∃ ti offs, T t = some ti ∧ ti.kd = .struct offs ∧ offs[i]? = some o := by
 unfold z29 at h
 split at h
 ·rename_i offs _ _ _ _ _ heq; exact ⟨_, offs, heq, rfl, h⟩
 ·cases h
theorem z0y {t e : Nat} {te : TI} (ht : P.underlying t = some (.slice e)) (hte : TyOK P e te) {b o len cap : Nat} {k : IntKind} {i : Int} (h0 : 0 ≤ i) (h1 : i < len) :
 (Instr.indexAt t (.slice (some ⟨b, o, none⟩) len cap) (.int k i)).run P w = .ok (.pointer (some ⟨b, o + i.toNat * te.sz, none⟩)) w := by
 simp [Instr.indexAt, asIntOf, run_underlying ht, hte.sizeOf, h0, h1, zcl]
theorem ztp {t e : Nat} {te : TI} (ht : P.underlying t = some (.slice e)) (hte : TyOK P e te) {base : Option Addr} {len cap : Nat} {lo hi : Option Value} {l h : Int}
 (hl : lo = none ∧ l = 0 ∨ ∃ k, lo = some (.int k l)) (hh : hi = none ∧ h = len ∨ ∃ k, hi = some (.int k h)) (h0 : 0 ≤ l) (h1 : l ≤ h) (h2 : h ≤ len) (hc : len ≤ cap) :
 (Instr.sliceAt t (.slice base len cap) lo hi none).run P w = .ok (.slice (if cap = l.toNat then base else base.map (·.add (l.toNat * te.sz))) (h.toNat - l.toNat) (cap - l.toNat)) w := by
 have hcap : h ≤ (cap : Int) := by omega
 have e1 : h.toNat ≤ cap := by omega
 have e2 : l ≤ (h.toNat : Int) := by omega
 rcases hl with ⟨rfl, rfl⟩ | ⟨k, rfl⟩ <;> rcases hh with ⟨rfl, rfl⟩ | ⟨k', rfl⟩
 ·simp [Instr.sliceAt, Instr.slice, run_underlying ht, Instr.sliceBounds, hte.sizeOf]
 ·simp [Instr.sliceAt, Instr.slice, run_underlying ht, Instr.sliceBounds, Instr.sliceBound, asIntOf, hte.sizeOf, hcap, h1]
 ·have : l ≤ (len : Int) := h1
  simp [Instr.sliceAt, Instr.slice, run_underlying ht, Instr.sliceBounds, Instr.sliceBound, asIntOf, hte.sizeOf, h0, this]
 ·have h0h : 0 ≤ h := by omega
  simp [Instr.sliceAt, Instr.slice, run_underlying ht, Instr.sliceBounds, Instr.sliceBound, asIntOf, hte.sizeOf, hcap, h0, h0h]
  intro hx; exfalso; omega
theorem z1q (hrs : RS μ S w) {c : C} {k : Nat} {l h : Int} {xs : List (List C)} (he : elems S c = some xs) (hk : ∀ y ∈ xs, y.length = k) (h0 : 0 ≤ l) (h1 : l ≤ h) (h2 : h ≤ xs.length) {u : Value} (hu : CR μ S c u) :
 ∃ base len cap, u = .slice base len cap ∧ len ≤ cap ∧ len = xs.length ∧ CR μ S (cutC c l h) (.slice (if cap = l.toNat then base else base.map (·.add (l.toNat * k))) (h.toNat - l.toNat) (cap - l.toNat)) := by
 cases c with
 | nil =>
   simp [elems] at he; subst he
   have e1 : l = 0 := by simp at h2; omega
   have e2 : h = 0 := by simp at h2; omega
   subst e1; subst e2
   exact ⟨none, 0, 0, hu, Nat.le_refl _, rfl, by simp [cutC, CR]⟩
 | zc =>
   simp [elems] at he; subst he
   have e1 : l = 0 := by simp at h2; omega
   have e2 : h = 0 := by simp at h2; omega
   subst e1; subst e2
   obtain ⟨ad, rfl⟩ := hu
   exact ⟨some ad, 0, 0, rfl, Nat.le_refl _, rfl, ad, by simp⟩
 | sl id o n t =>
   obtain ⟨ad, cap, rfl, hn, row', q1, q2, q3⟩ := hu
   obtain ⟨row, r1, r2, r3, rfl⟩ := zr4 he
   obtain rfl : row = row' := Option.some.inj (r1.symm.trans q1)
   obtain ⟨m, m1, m2, m3, m4⟩ := q3 r2
   have hlen : ((row.xs.drop o).take n).length = n := by rw [List.length_take, List.length_drop]; omega
   rw [hlen] at h2
   refine ⟨some ad, n, cap, rfl, hn, hlen.symm, ?_⟩
   have hx : ∃ ad', (if cap = l.toNat then some ad else (some ad).map (·.add (l.toNat * k))) = some ad' ∧ (cap ≠ l.toNat → ad' = ad.add (l.toNat * k)) ∧ (l.toNat = 0 → ad' = ad) := by
    by_cases e : cap = l.toNat
    ·rw [if_pos e]; exact ⟨ad, rfl, fun h => absurd e h, fun _ => rfl⟩
    ·rw [if_neg e]; exact ⟨_, rfl, fun _ => rfl, fun h => by rw [h, Nat.zero_mul]; exact Addr.add_zero' ad⟩
   obtain ⟨ad', e1, e2, e3⟩ := hx
   rw [e1]
   refine ⟨ad', cap - l.toNat, rfl, by omega, row, r1, by omega, fun _ => ⟨m, m1, by omega, fun hlt => ?_, fun ho hz hall => ?_⟩⟩
   ·have hn0 : 0 < n := by omega
    rw [e2 (by omega), m3 hn0, zcl]
    have hkk : k = row.k := by
     have hg : ((row.xs.drop o).take n)[0]? = some ((row.xs.drop o).take n)[0] := List.getElem?_eq_getElem (by omega)
     rw [← hk _ (List.getElem_mem (by omega : 0 < ((row.xs.drop o).take n).length))]
     rw [List.getElem?_take, if_pos hn0, List.getElem?_drop] at hg
     exact ((hrs.ok id row m r1 m1).cells _ _ hg).1
    rw [hkk, Nat.add_mul, Nat.add_assoc]
   ·have hl0 : l.toNat = 0 := by omega
    rw [e3 hl0, hl0, Nat.sub_zero]
    exact m4 ho (by omega) (by omega)
 | _ => simp [elems] at he
theorem zxh {t e : Nat} {te : TI} (ht : P.underlying t = some (.slice e)) (hte : TyOK P e te) {n : Nat} {k k' : IntKind} (hb : (n : Int) * te.by' ≤ 140737488355328) :
 ∃ i z, P.info? e = some i ∧ i.zero = some z ∧ z.cells.size = te.sz ∧ (Instr.makeSlice t (.int k n) (.int k' n)).run P w =
  .ok (.slice (some ⟨w.heap.size, 0, none⟩) n n) (w.alloc (.cells ((Array.range (n * te.sz)).map (fun p => (if n * te.sz = 0 then (#[] : Array Value) else z.cells)[p % (if n * te.sz = 0 then (#[] : Array Value) else z.cells).size]!)) e)) := by
 obtain ⟨i, z, h1, h2, h3, h4, h5, _⟩ := hte.info
 have hb1 : 1 ≤ te.by' := hte.bpos
 have hb' : n * te.by' ≤ 140737488355328 := by have h := hb; rw [← Int.natCast_mul] at h; omega
 have hn : n ≤ 140737488355328 := Nat.le_trans (Nat.le_mul_of_pos_right _ hb1) hb'
 refine ⟨i, z, h1, h4, h5, ?_⟩
 have hw : IntKind.i64.wrap (n : Int) = n := IntWalk.i64_in _ (by omega)
 have hx : (te.by' : Int) * n ≤ 140737488355328 := by rw [Int.mul_comm]; exact hb
 by_cases hz : n * te.sz = 0
 ·simp [Instr.makeSlice, run_underlying ht, asInt, asIntOf, typeInfo, h1, h3, hw, sizeOf, h2, hz, newRow]
  intro hx'; exfalso; omega
 ·simp [Instr.makeSlice, run_underlying ht, asInt, asIntOf, typeInfo, h1, h3, hw, sizeOf, h2, hz, newRow, zeroValue, h4]
  intro hx'; exfalso; omega
theorem zki {dst : Option Tmp} {op : BinOp} {t : TypeId} {x y : Operand} {yt : TypeId} {type pos after guard} {val : Value} (h : (do eqGuard op t x y (a.eval x) (a.eval y); binOp op t (a.eval x) (a.eval y) : Sem Value).run P w = .ok val w) :
 (execOp a.eval { dst := dst, op := .binOp op t x y yt, type := type, pos := pos, after := after, guard := guard }).run P w = .ok (.value val) w := by
 have : execOp a.eval { dst := dst, op := .binOp op t x y yt, type := type, pos := pos, after := after, guard := guard } = ((do eqGuard op t x y (a.eval x) (a.eval y); binOp op t (a.eval x) (a.eval y) : Sem Value) >>= fun v => pure (Next.value v)) := rfl
 rw [this, Sem.run_bind, h]
 rfl
end
end Go.Proofs.YtlmmdpmmdmhacaaGreat
