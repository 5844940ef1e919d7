/- append and make. -/
import Derived.Test.YtockphlpokoohaaGreatKq06
namespace Go.Proofs.YtockphlpokoohaaGreat
open Go
set_option linter.unusedVariables false
set_option linter.unusedSimpArgs false
section
variable {P : Program}
theorem run_append_zero (w : World) (t ty e : TypeId) (i : TypeInfo) (ht : P.underlying t = some (.slice e)) (hi : P.info? e = some i) (base b : Option Addr) (sLen sCap c : Nat) (hc : sLen ≤ sCap) :
    (Builtin.append_ #[t, t] ty #[.slice base sLen sCap, .slice b 0 c]).run P w = .ok (.slice base sLen sCap) w := by
  have hf : (Builtin.firstCells i.size 0 (.slice b 0 c)).run P w = .ok #[] w := by
    cases b <;> simp [Builtin.firstCells, loadCells, loadCellsFrom]
  cases base <;> simp [Builtin.append_, run_underlying ht, sizeOf, typeInfo, hi, Builtin.lenOf, hc, hf, storeCells]
theorem run_append_room' (w : World) (t ty e e' : TypeId) (i : TypeInfo) (ht : P.underlying t = some (.slice e)) (hi : P.info? e = some i)
    (g sLen sCap : Nat) (cur : Array Value) (hg : w.heap[g]? = some (.cells cur e' (0, 0)))
    (a : Addr) (m c : Nat) (news : List Value) (hl : news.length = m * i.size) (hnews : ∀ (j : Nat) u, news[j]? = some u → w.cell? (a.add j) = some u) (h1 : ∀ u ∈ news, u.oneCell' = true)
    (hroom : sLen + m ≤ sCap) (hfit : sLen * i.size + news.length ≤ cur.size) :
    (Builtin.append_ #[t, t] ty #[.slice (some ⟨g, 0, none⟩) sLen sCap, .slice (some a) m c]).run P w =
      .ok (.slice (some ⟨g, 0, none⟩) (sLen + m) sCap) (w.setRow g (cur.toList.take (sLen * i.size) ++ news ++ cur.toList.drop (sLen * i.size + news.length)).toArray) := by
  have hf := run_firstCells_some (P := P) w i.size m a m c news hl hnews
  have hst := run_storeCells_at P g (sLen * i.size) e' news 0 cur w hg (by simpa using hfit) h1
  simp only [Nat.add_zero] at hst
  simp [Builtin.append_, run_underlying ht, sizeOf, typeInfo, hi, Builtin.lenOf, hroom, hf, Addr.add_lit, hst]
variable {μ : Mp} {S : Store} {w : World}
theorem grown_row {k n cap : Nat} {us : List Value} {z : Array Value} (hz : z.size = k) (hl : us.length = n * k) (hc : n ≤ cap) :
    (us.toArray ++ Builtin.zeroCells z (cap - n)).size = cap * k ∧ ∀ (j : Nat) u, us[j]? = some u → (us.toArray ++ Builtin.zeroCells z (cap - n))[j]? = some u := by
  refine ⟨by rw [Array.size_append, size_zeroCells, List.size_toArray, hl, hz, ← Nat.add_mul]; congr 1; omega, fun j u hj => ?_⟩
  have : j < us.length := (List.getElem?_eq_some_iff.1 hj).1
  rw [Array.getElem?_append_left (by simpa using this)]
  simpa using hj
theorem append_sound (hrs : RS μ S w) {t ty e : Nat} {te : TI} (ht : P.underlying t = some (.slice e)) (hte : TyOK P e te) {c : C} {u x : Value} {ys : List (List C)} {K : C → Store → Prop}
    (hu : CR μ S c u) (hx : SrcR μ S w ys x) (h : AppP te.sz te.by' S c ys K) :
    ∃ c' S' μ' w' u', K c' S' ∧ (Builtin.append_ #[t, t] ty #[u, x]).run P w = .ok u' w' ∧ CR μ' S' c' u' ∧ RS μ' S' w' ∧ Evo μ S w μ' S' w' := by
  obtain ⟨i, z, hi, hsz, hby, hz, hzs, _⟩ := hte.info
  have hb1 : 1 ≤ te.by' := hte.bpos
  obtain ⟨base, cx, rfl, hsrc⟩ := hx
  unfold AppP at h
  obtain ⟨hk, h⟩ := h
  rcases h with ⟨rfl, hbd, h1, h2⟩ | ⟨rfl, hbd, h1, h2⟩ | ⟨id, xs, rfl, hrow, hbd, h1⟩
  · cases hu
    by_cases hy : ys = []
    · subst hy
      exact ⟨_, _, _, _, _, h1 rfl, run_append_zero w t ty e i ht hi none base 0 0 cx (Nat.le_refl _), rfl, hrs, Evo.refl _ _ _⟩
    · obtain ⟨ad, rfl, hnews⟩ := hsrc hy
      obtain ⟨news, n1, n2⟩ := hnews te.sz hk
      have hn : 0 < ys.length := List.length_pos_iff.2 hy
      have hle : ys.length ≤ ys.length * te.by' := Nat.le_mul_of_pos_right _ hb1
      have hm : ys.length ≤ maxLen := by simp only [maxLen]; omega
      have hr := run_append_nil (P := P) w t ty e i z ht hi hz ad ys.length cx news (by rw [n2.1, hsz]) n1 hn (by omega) (by rw [hby]; omega)
      have hge := grownCap_ge w ys.length 0 e
      have hcm := grownCap_le_maxLen w ys.length 0 e hm
      obtain ⟨g1, g2⟩ := grown_row (z := z.cells) hzs n2.1 hge
      obtain ⟨rs, ev, cr⟩ := hrs.newRow (w' := w.drew.alloc (.cells (news.toArray ++ Builtin.zeroCells z.cells (grownCap w ys.length 0 e - ys.length)) e)) n2 g2 g1 hge hcm rfl ⟨rfl, rfl, rfl⟩
      exact ⟨_, _, _, _, _, h2 hy, hr, cr, rs, ev⟩
  · obtain ⟨ad0, rfl⟩ := hu
    by_cases hy : ys = []
    · subst hy
      exact ⟨_, _, _, _, _, h1 rfl, run_append_zero w t ty e i ht hi (some ad0) base 0 0 cx (Nat.le_refl _), ⟨ad0, rfl⟩, hrs, Evo.refl _ _ _⟩
    · obtain ⟨ad, rfl, hnews⟩ := hsrc hy
      obtain ⟨news, n1, n2⟩ := hnews te.sz hk
      have hn : 0 < ys.length := List.length_pos_iff.2 hy
      have hle : ys.length ≤ ys.length * te.by' := Nat.le_mul_of_pos_right _ hb1
      have hm : ys.length ≤ maxLen := by simp only [maxLen]; omega
      have hr := run_append_grow (P := P) w t ty e i z ht hi hz ad0 0 0 [] (by simp) (fun j v hj => by simp at hj) ad ys.length cx news (by rw [n2.1, hsz]) n1 (by omega) (by omega) (growslice_fits (by omega) (by rw [Nat.zero_add, hby]; omega))
      simp only [Nat.zero_add] at hr
      have hge := grownCap_ge w ys.length 0 e
      have hcm := grownCap_le_maxLen w ys.length 0 e hm
      obtain ⟨g1, g2⟩ := grown_row (z := z.cells) hzs n2.1 hge
      obtain ⟨rs, ev, cr⟩ := hrs.newRow (w' := w.drew.alloc (.cells (([] : List Value).toArray ++ news.toArray ++ Builtin.zeroCells z.cells (grownCap w ys.length 0 e - ys.length)) e)) (arr := ([] : List Value).toArray ++ news.toArray ++ Builtin.zeroCells z.cells (grownCap w ys.length 0 e - ys.length)) n2
        (by simpa using g2) (by simpa using g1) hge hcm rfl ⟨rfl, rfl, rfl⟩
      exact ⟨_, _, _, _, _, h2 hy, hr, cr, rs, ev⟩
  · obtain ⟨ad0, cap, rfl, hnc, row, q1, q2, q3⟩ := hu
    obtain rfl : (⟨true, te.sz, xs⟩ : Row) = row := Option.some.inj (hrow.symm.trans q1)
    obtain ⟨m, m1, m2, m3, m4⟩ := q3 rfl
    obtain ⟨rfl, rfl⟩ := m4 rfl rfl rfl
    have hok := hrs.ok id _ m hrow m1
    obtain ⟨arr, e', a1, a2, a3⟩ := hok.flat rfl
    obtain ⟨hb, arr2, e2, g1, g2, g3, g4⟩ := hok.mine rfl
    by_cases hy : ys = []
    · subst hy
      refine ⟨_, _, μ, w, _, h1, run_append_zero w t ty e i ht hi _ base xs.length m.cap cx hnc, ?_⟩
      have hs : S.set id ⟨true, te.sz, xs ++ []⟩ = S := by
        rw [List.append_nil]
        apply List.ext_getElem?
        intro j
        rw [List.getElem?_set]
        split
        · rename_i e; subst e
          have := (List.getElem?_eq_some_iff.1 hrow).1
          rw [if_pos this, hrow]
        · rfl
      rw [hs]
      exact ⟨⟨_, _, rfl, hnc, _, q1, q2, q3⟩, hrs, Evo.refl _ _ _⟩
    · obtain ⟨ad, rfl, hnews⟩ := hsrc hy
      obtain ⟨news, n1, n2⟩ := hnews te.sz hk
      have hn : 0 < ys.length := List.length_pos_iff.2 hy
      have hle : xs.length + ys.length ≤ (xs.length + ys.length) * te.by' := Nat.le_mul_of_pos_right _ hb1
      have hm : xs.length + ys.length ≤ maxLen := by simp only [maxLen]; omega
      have flat := a3.append n2
      simp only at flat a2 a3
      by_cases hroom : xs.length + ys.length ≤ m.cap
      · have hmul : (xs.length + ys.length) * te.sz ≤ m.cap * te.sz := Nat.mul_le_mul_right _ hroom
        rw [Nat.add_mul] at hmul
        have hfit : xs.length * te.sz + news.length ≤ arr.size := by rw [n2.1, a2]; exact hmul
        have hr := run_append_room' w t ty e e' i ht hi m.blk xs.length m.cap arr a1 ad ys.length cx news (by rw [n2.1, hsz]) n1 n2.ones hroom (by rw [hsz]; exact hfit)
        rw [hsz] at hr
        have hheap := setRow_heap w m.blk arr (arr.toList.take (xs.length * te.sz) ++ news ++ arr.toList.drop (xs.length * te.sz + news.length)).toArray e' (0, 0) a1
        have hsize : (arr.toList.take (xs.length * te.sz) ++ news ++ arr.toList.drop (xs.length * te.sz + news.length)).toArray.size = m.cap * te.sz := by
          simp only [List.size_toArray, List.length_append, List.length_take, List.length_drop, Array.length_toList]
          omega
        have kp : Keeps μ S (upd μ id (some m)) (S.set id ⟨true, te.sz, xs ++ ys⟩) := by
          have hlt := (List.getElem?_eq_some_iff.1 hrow).1
          intro id' r h'
          by_cases e : id' = id
          · subst e
            rw [hrow] at h'; cases h'
            exact ⟨⟨true, te.sz, xs ++ ys⟩, by simp [hlt], rfl, rfl, by simp, fun e => absurd (by simpa using e) hy⟩
          · exact ⟨r, by rw [List.getElem?_set_ne (Ne.symm e)]; exact h', rfl, rfl, Nat.le_refl _, fun _ => upd_ne _ _ e⟩
        have hok' : RowOK (upd μ id (some m)) (S.set id ⟨true, te.sz, xs ++ ys⟩) (w.setRow m.blk (arr.toList.take (xs.length * te.sz) ++ news ++ arr.toList.drop (xs.length * te.sz + news.length)).toArray) ⟨true, te.sz, xs ++ ys⟩ m :=
          RowOK.of_flat rfl (flat.keep kp) hb hheap (fun j u hj => by
            rw [List.getElem?_toArray]
            have : j < (arr.toList.take (xs.length * te.sz) ++ news).length := (List.getElem?_eq_some_iff.1 hj).1
            rw [List.getElem?_append_left this]; exact hj) hsize (by simpa using hroom) g4
        obtain ⟨_, rs, ev⟩ := hrs.regrow (row' := ⟨true, te.sz, xs ++ ys⟩) (w' := w.setRow m.blk (arr.toList.take (xs.length * te.sz) ++ news ++ arr.toList.drop (xs.length * te.sz + news.length)).toArray) hrow m1 rfl rfl rfl (by show xs.length < (xs ++ ys).length; rw [List.length_append]; omega) (by simp [World.setRow]) ⟨rfl, rfl, rfl⟩ (fun b _ hb => setRow_other w _ _ _ hb) (.inl rfl) hok'
        have hlt := (List.getElem?_eq_some_iff.1 hrow).1
        exact ⟨_, _, _, _, _, h1, hr, ⟨⟨m.blk, 0, none⟩, m.cap, rfl, hroom, ⟨true, te.sz, xs ++ ys⟩, by simp [hlt], by simp, fun _ => ⟨m, upd_same _ _ _, by simp, fun _ => by simp [hb], fun _ _ _ => ⟨rfl, rfl⟩⟩⟩, rs, ev⟩
      · have olds : ∀ (j : Nat) v, (arr.toList.take (xs.length * te.sz))[j]? = some v → w.cell? ((⟨m.blk, 0, none⟩ : Addr).add j) = some v := by
          intro j v hj
          rw [add_off, cell_of_row w _ _ arr e' (0, 0) a1, Nat.zero_add]
          rw [List.getElem?_take] at hj
          split at hj
          · simpa using hj
          · cases hj
        have hr := run_append_grow (P := P) w t ty e i z ht hi hz ⟨m.blk, 0, none⟩ xs.length m.cap (arr.toList.take (xs.length * te.sz)) (by rw [a3.1, hsz]) olds ad ys.length cx news (by rw [n2.1, hsz]) n1 (by omega) (by simp only [maxLen] at hm; omega) (growslice_fits (by omega) (by rw [hby]; exact hbd))
        have hge := grownCap_ge w (xs.length + ys.length) m.cap e
        have hcm := grownCap_le_maxLen w (xs.length + ys.length) m.cap e hm
        obtain ⟨f1, f2⟩ := grown_row (us := arr.toList.take (xs.length * te.sz) ++ news) (z := z.cells) hzs (by rw [flat.1]; simp) hge
        have harr : (arr.toList.take (xs.length * te.sz)).toArray ++ news.toArray = (arr.toList.take (xs.length * te.sz) ++ news).toArray := by simp
        rw [harr] at hr
        have kp : Keeps μ S (upd μ id (some ⟨w.heap.size, 0, grownCap w (xs.length + ys.length) m.cap e⟩)) (S.set id ⟨true, te.sz, xs ++ ys⟩) := by
          have hlt := (List.getElem?_eq_some_iff.1 hrow).1
          intro id' r h'
          by_cases e : id' = id
          · subst e
            rw [hrow] at h'; cases h'
            exact ⟨⟨true, te.sz, xs ++ ys⟩, by simp [hlt], rfl, rfl, by simp, fun e => absurd (by simpa using e) hy⟩
          · exact ⟨r, by rw [List.getElem?_set_ne (Ne.symm e)]; exact h', rfl, rfl, Nat.le_refl _, fun _ => upd_ne _ _ e⟩
        have hheap : (w.drew.alloc (.cells ((arr.toList.take (xs.length * te.sz) ++ news).toArray ++ Builtin.zeroCells z.cells (grownCap w (xs.length + ys.length) m.cap e - (xs.length + ys.length))) e)).heap[w.heap.size]? = some (.cells ((arr.toList.take (xs.length * te.sz) ++ news).toArray ++ Builtin.zeroCells z.cells (grownCap w (xs.length + ys.length) m.cap e - (xs.length + ys.length))) e (0, 0)) := Go.heap_alloc_new w.drew _
        have hok' := RowOK.of_flat (row := ⟨true, te.sz, xs ++ ys⟩) (m := ⟨w.heap.size, 0, grownCap w (xs.length + ys.length) m.cap e⟩) rfl (flat.keep kp) rfl hheap f2 f1 (by simpa using hge) hcm
        obtain ⟨_, rs, ev⟩ := hrs.regrow (row' := ⟨true, te.sz, xs ++ ys⟩) (w' := w.drew.alloc (.cells ((arr.toList.take (xs.length * te.sz) ++ news).toArray ++ Builtin.zeroCells z.cells (grownCap w (xs.length + ys.length) m.cap e - (xs.length + ys.length))) e)) hrow m1 rfl rfl rfl (by show xs.length < (xs ++ ys).length; rw [List.length_append]; omega) (by simp) ⟨rfl, rfl, rfl⟩ (fun b hb _ => Go.heap_alloc_old w.drew _ b hb) (.inr (Nat.le_refl _)) hok'
        have hlt := (List.getElem?_eq_some_iff.1 hrow).1
        exact ⟨_, _, _, _, _, h1, hr, ⟨⟨w.heap.size, 0, none⟩, _, rfl, hge, ⟨true, te.sz, xs ++ ys⟩, by simp [hlt], by simp, fun _ => ⟨_, upd_same _ _ _, by simp, fun _ => by simp, fun _ _ _ => ⟨rfl, rfl⟩⟩⟩, rs, ev⟩
end
end Go.Proofs.YtockphlpokoohaaGreat
