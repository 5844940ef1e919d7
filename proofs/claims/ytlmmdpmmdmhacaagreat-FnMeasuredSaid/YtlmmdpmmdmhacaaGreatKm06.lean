/- Slices: literals handed on, append, make. append and make. -/
import Derived.Test.YtlmmdpmmdmhacaaGreatKm05
namespace Go.Proofs.YtlmmdpmmdmhacaaGreat
open Go
set_option linter.unusedVariables false
set_option linter.unusedSimpArgs false
def FlatR (μ : Mp) (S : Store) (k : Nat) (xs : List (List C)) (us : List Value) : Prop :=
  us.length = xs.length * k ∧ ∀ (i : Nat) cs, xs[i]? = some cs → cs.length = k ∧ ∀ (j : Nat) c, cs[j]? = some c → ∃ u, us[i * k + j]? = some u ∧ CR μ S c u
section
variable {μ μ' : Mp} {S S' : Store} {w w' : World} {k : Nat}
theorem FlatR.nil (μ : Mp) (S : Store) (k : Nat) : FlatR μ S k [] [] := ⟨by simp, fun i cs h => by simp at h⟩
theorem FlatR.append {xs ys : List (List C)} {us vs : List Value} (h : FlatR μ S k xs us) (g : FlatR μ S k ys vs) : FlatR μ S k (xs ++ ys) (us ++ vs) := by
  refine ⟨by rw [List.length_append, List.length_append, h.1, g.1, Nat.add_mul], fun i cs hi => ?_⟩
  by_cases hlt : i < xs.length
  · rw [List.getElem?_append_left hlt] at hi
    obtain ⟨a, b⟩ := h.2 i cs hi
    refine ⟨a, fun j c hj => ?_⟩
    obtain ⟨u, hu, hc⟩ := b j c hj
    have : i * k + j < us.length := (List.getElem?_eq_some_iff.1 hu).1
    exact ⟨u, by rw [List.getElem?_append_left this]; exact hu, hc⟩
  · rw [List.getElem?_append_right (by omega)] at hi
    obtain ⟨a, b⟩ := g.2 _ cs hi
    refine ⟨a, fun j c hj => ?_⟩
    obtain ⟨u, hu, hc⟩ := b j c hj
    have e : i * k + j = us.length + ((i - xs.length) * k + j) := by
      rw [h.1, Nat.sub_mul]
      have : xs.length * k ≤ i * k := Nat.mul_le_mul_right _ (by omega)
      omega
    exact ⟨u, by rw [e, List.getElem?_append_right (by omega), Nat.add_sub_cancel_left]; exact hu, hc⟩
theorem FlatR.keep (kp : Keeps μ S μ' S') {xs : List (List C)} {us : List Value} (h : FlatR μ S k xs us) : FlatR μ' S' k xs us :=
  ⟨h.1, fun i cs hi => let ⟨a, b⟩ := h.2 i cs hi; ⟨a, fun j c hj => let ⟨u, hu, hc⟩ := b j c hj; ⟨u, hu, hc.keep kp⟩⟩⟩
theorem FlatR.ones {xs : List (List C)} {us : List Value} (h : FlatR μ S k xs us) : ∀ u ∈ us, u.oneCell' = true := by
  intro u hu
  obtain ⟨p, hp⟩ := List.getElem?_of_mem hu
  have hlt : p < xs.length * k := by rw [← h.1]; exact (List.getElem?_eq_some_iff.1 hp).1
  have hk : 0 < k := Nat.pos_of_ne_zero fun e => by subst e; simp at hlt
  have hi : p / k < xs.length := (Nat.div_lt_iff_lt_mul hk).2 hlt
  obtain ⟨a, b⟩ := h.2 (p / k) xs[p / k] (by simp [hi])
  have hj : p % k < (xs[p / k]).length := by rw [a]; exact Nat.mod_lt _ hk
  obtain ⟨u', h1, h2⟩ := b (p % k) (xs[p / k])[p % k] (by simp [hj])
  have e : p / k * k + p % k = p := by rw [Nat.mul_comm]; exact Nat.div_add_mod p k
  rw [e, hp] at h1; cases h1
  exact h2.one
theorem RowOK.of_flat {row : Row} {m : Loc} {us : List Value} {arr : Array Value} {e : Nat} (ho : row.own = true) (hf : FlatR μ S row.k row.xs us) (hb : m.base = 0)
    (ha : w.heap[m.blk]? = some (.cells arr e (0, 0))) (hp : ∀ (j : Nat) u, us[j]? = some u → arr[j]? = some u) (hs : arr.size = m.cap * row.k) (hc : row.xs.length ≤ m.cap) (hm : m.cap ≤ maxLen) : RowOK μ S w row m := by
  refine ⟨fun i cs hi => ?_, (Array.getElem?_eq_some_iff.1 ha).1, fun _ => ⟨hb, arr, e, ha, hs, hc, hm⟩⟩
  obtain ⟨a, b⟩ := hf.2 i cs hi
  refine ⟨a, fun j c hj => ?_⟩
  obtain ⟨u, hu, hcr⟩ := b j c hj
  refine ⟨u, ?_, hcr⟩
  rw [cell_of_row w _ _ arr e (0, 0) ha, hb, Nat.zero_add]
  exact hp _ u hu
theorem RowOK.flat {row : Row} {m : Loc} (h : RowOK μ S w row m) (ho : row.own = true) : ∃ arr e, w.heap[m.blk]? = some (.cells arr e (0, 0)) ∧ arr.size = m.cap * row.k ∧ FlatR μ S row.k row.xs (arr.toList.take (row.xs.length * row.k)) := by
  obtain ⟨hb, arr, e, h1, h2, h3, h4⟩ := h.mine ho
  have hle : row.xs.length * row.k ≤ m.cap * row.k := Nat.mul_le_mul_right _ h3
  refine ⟨arr, e, h1, h2, by rw [List.length_take, Array.length_toList]; omega, fun i cs hi => ?_⟩
  obtain ⟨a, b⟩ := h.cells i cs hi
  refine ⟨a, fun j c hj => ?_⟩
  obtain ⟨u, hu, hc⟩ := b j c hj
  rw [cell_of_row w _ _ arr e (0, 0) h1, hb, Nat.zero_add] at hu
  have hj' : j < row.k := by rw [← a]; exact (List.getElem?_eq_some_iff.1 hj).1
  have hi' : i < row.xs.length := (List.getElem?_eq_some_iff.1 hi).1
  have : (i + 1) * row.k ≤ row.xs.length * row.k := Nat.mul_le_mul_right _ hi'
  rw [Nat.add_mul, Nat.one_mul] at this
  exact ⟨u, by rw [List.getElem?_take, if_pos (by omega), Array.getElem?_toList]; exact hu, hc⟩
theorem RS.regrow (h : RS μ S w) {row row' : Row} {m m' : Loc} {id : Nat} (hr : S[id]? = some row) (hm : μ id = some m) (ho : row.own = true) (ho' : row'.own = true) (hk : row'.k = row.k) (hl : row.xs.length < row'.xs.length)
    (hs : w.heap.size ≤ w'.heap.size) (hw : w'.os = w.os ∧ w'.tape = w.tape ∧ w'.output = w.output) (hb : ∀ b, b < w.heap.size → b ≠ m.blk → w'.heap[b]? = w.heap[b]?) (hm' : m'.blk = m.blk ∨ w.heap.size ≤ m'.blk)
    (hok : RowOK (upd μ id (some m')) (S.set id row') w' row' m') :
    Keeps μ S (upd μ id (some m')) (S.set id row') ∧ RS (upd μ id (some m')) (S.set id row') w' ∧ Evo μ S w (upd μ id (some m')) (S.set id row') w' := by
  have hlt := (List.getElem?_eq_some_iff.1 hr).1
  have kp : Keeps μ S (upd μ id (some m')) (S.set id row') := by
    intro id' r h'
    by_cases e : id' = id
    · subst e
      rw [hr] at h'; cases h'
      exact ⟨row', by simp [hlt], ho'.trans ho.symm, hk, by omega, fun e => by omega⟩
    · exact ⟨r, by rw [List.getElem?_set_ne (Ne.symm e)]; exact h', rfl, rfl, Nat.le_refl _, fun _ => upd_ne _ _ e⟩
  refine ⟨kp, ⟨fun id' r m1 h1 h2 => ?_, fun id1 id2 r1 r2 m1 m2 h1 h2 h3 h4 hd hown => ?_⟩, ⟨hw.1, hw.2.1, hw.2.2, hs, fun b hb' hn => ?_, fun id' r h' => ?_, fun id' r m1 h1 h2 => ?_⟩⟩
  · rcases set_cases h1 with ⟨rfl, rfl, _⟩ | ⟨hne, g1⟩
    · rw [upd_same] at h2; cases h2; exact hok
    · rw [upd_ne _ _ hne] at h2
      exact ((h.ok id' r m1 g1 h2).world hs (hb _ (h.ok id' r m1 g1 h2).lt (fun e => h.sep id id' row r m m1 hr g1 hm h2 (Ne.symm hne) ho e.symm))).keep kp
  · have other : ∀ (i : Nat) (r : Row) (mm : Loc), i ≠ id → S[i]? = some r → μ i = some mm → mm.blk ≠ m'.blk := by
      intro i r mm hi hr' hmm
      rcases hm' with e | e
      · rw [e]; exact fun x => h.sep id i row r m mm hr hr' hm hmm (Ne.symm hi) ho x.symm
      · have := (h.ok i r mm hr' hmm).lt
        omega
    rcases set_cases h1 with ⟨e1, f1, _⟩ | ⟨n1, g1⟩ <;> rcases set_cases h2 with ⟨e2, f2, _⟩ | ⟨n2, g2⟩
    · exact absurd (e1.trans e2.symm) hd
    · rw [e1, upd_same] at h3; cases h3
      rw [upd_ne _ _ n2] at h4
      exact fun x => other id2 r2 m2 n2 g2 h4 x.symm
    · rw [e2, upd_same] at h4; cases h4
      rw [upd_ne _ _ n1] at h3
      exact other id1 r1 m1 n1 g1 h3
    · rw [upd_ne _ _ n1] at h3
      rw [upd_ne _ _ n2] at h4
      exact h.sep id1 id2 r1 r2 m1 m2 g1 g2 h3 h4 hd hown
  · exact hb b hb' (fun e => hn id row m hr hm ho e.symm)
  · by_cases e : id' = id
    · subst e
      rw [hr] at h'; cases h'
      exact ⟨row', by simp [hlt], ho'.trans ho.symm, hk, by omega, fun e => by omega, fun hf => by rw [ho] at hf; cases hf⟩
    · exact ⟨r, by rw [List.getElem?_set_ne (Ne.symm e)]; exact h', rfl, rfl, Nat.le_refl _, fun _ => upd_ne _ _ e, fun _ => rfl⟩
  · rcases set_cases h1 with ⟨rfl, rfl, _⟩ | ⟨hne, g1⟩
    · rw [upd_same] at h2; cases h2
      rcases hm' with e | e
      · exact .inr ⟨id', row, m, hr, hm, ho.trans ho'.symm, e.symm⟩
      · exact .inl e
    · rw [upd_ne _ _ hne] at h2
      exact .inr ⟨id', r, m1, g1, h2, rfl, rfl⟩
theorem RS.newRow (h : RS μ S w) {k cap : Nat} {xs : List (List C)} {us : List Value} {arr : Array Value} {e : Nat} (hf : FlatR μ S k xs us) (hp : ∀ (j : Nat) u, us[j]? = some u → arr[j]? = some u)
    (hs : arr.size = cap * k) (hc : xs.length ≤ cap) (hm : cap ≤ maxLen) (hw : w'.heap = (w.alloc (.cells arr e)).heap) (hw' : w'.os = w.os ∧ w'.tape = w.tape ∧ w'.output = w.output) :
    RS (upd μ S.length (some ⟨w.heap.size, 0, cap⟩)) (S ++ [⟨true, k, xs⟩]) w' ∧ Evo μ S w (upd μ S.length (some ⟨w.heap.size, 0, cap⟩)) (S ++ [⟨true, k, xs⟩]) w' ∧
    CR (upd μ S.length (some ⟨w.heap.size, 0, cap⟩)) (S ++ [⟨true, k, xs⟩]) (.sl S.length 0 xs.length xs.length) (.slice (some ⟨w.heap.size, 0, none⟩) xs.length cap) := by
  have hsz : w.heap.size ≤ w'.heap.size := by rw [hw]; simp
  have hold : ∀ b, b < w.heap.size → w'.heap[b]? = w.heap[b]? := fun b hb => by rw [hw]; exact Go.heap_alloc_old w _ b hb
  have hnew : w'.heap[w.heap.size]? = some (.cells arr e (0, 0)) := by rw [hw]; exact Go.heap_alloc_new w _
  have rs : RS μ S w' := h.world hsz (fun id row m h1 h2 => hold _ (h.ok id row m h1 h2).lt)
  have ev : Evo μ S w μ S w' := ⟨hw'.1, hw'.2.1, hw'.2.2, hsz, fun b hb _ => hold b hb, (Evo.refl μ S w).rows, (Evo.refl μ S w).blks⟩
  refine ⟨rs.push (RowOK.of_flat rfl (hf.keep (keeps_push μ S _ _)) rfl hnew hp hs hc hm) (fun id row m' h1 h2 => ?_), evo_push ev _ _ (Nat.le_refl _), ?_⟩
  · have := (h.ok id row m' h1 h2).lt
    show m'.blk ≠ w.heap.size
    omega
  · exact ⟨⟨w.heap.size, 0, none⟩, cap, rfl, hc, ⟨true, k, xs⟩, by simp, Nat.le_refl _, fun _ => ⟨_, upd_same _ _ _, by simp, fun _ => by simp, fun _ _ _ => ⟨rfl, rfl⟩⟩⟩
end
section
variable {P : Program} {T : TT}
variable {μ0 : Mp} {S0 : Store} {w0 : World} {μ : Mp} {β : Nat → Nat} {env : Env} {S : Store} {w : World} {a : Act}
theorem prom_sound (hst : St μ0 S0 w0 μ β env S a.tmps w) {x : Operand} {K : AV → Env → Store → Prop} (h : prom env S x K) :
    ∃ v env' S' μ', K v env' S' ∧ St μ0 S0 w0 μ' β env' S' a.tmps w ∧ OpdR μ' S' β env' v (a.eval x) ∧ Keeps μ S μ' S' := by
  have plain : K (opd env x) env S → ∃ v env' S' μ', K v env' S' ∧ St μ0 S0 w0 μ' β env' S' a.tmps w ∧ OpdR μ' S' β env' v (a.eval x) ∧ Keeps μ S μ' S' :=
    fun h => ⟨_, _, _, _, h, hst, hst.opd rfl x, (Evo.refl μ S w).keeps⟩
  cases x with
  | tmp t =>
    simp only [prom] at h
    cases hx : getE env t with
    | lst k xs =>
      rw [hx] at h
      simp only [putK_eq, putE] at h
      have ht := getE_some hx (by simp)
      obtain ⟨h1, h2⟩ := hst.prom ht
      exact ⟨_, _, _, _, h, h1, h2, keeps_push μ S _ _⟩
    | _ => rw [hx] at h; exact plain h
  | _ => exact plain h
theorem keeps_trans {μ μ1 μ2 : Mp} {S S1 S2 : Store} (k1 : Keeps μ S μ1 S1) (k2 : Keeps μ1 S1 μ2 S2) : Keeps μ S μ2 S2 := fun id row h0 => by
  obtain ⟨r1, a1, a2, a3, a4, a5⟩ := k1 id row h0
  obtain ⟨r2, b1, b2, b3, b4, b5⟩ := k2 id r1 a1
  exact ⟨r2, b1, b2.trans a2, b3.trans a3, Nat.le_trans a4 b4, fun e => (b5 (by omega)).trans (a5 (by omega))⟩
theorem promV_sound (hst : St μ0 S0 w0 μ β env S a.tmps w) {x : Operand} {K : V → Env → Store → Prop} (h : promV env S x K) :
    ∃ v env' S' μ', K v env' S' ∧ St μ0 S0 w0 μ' β env' S' a.tmps w ∧ VR μ' S' v (a.eval x) ∧ Keeps μ S μ' S' := by
  obtain ⟨v, env', S', μ', h1, h2, h3, h4⟩ := prom_sound hst h
  split at h1
  · exact ⟨_, _, _, _, h1, h2, h3, h4⟩
  · rename_i d
    split at h1
    · rename_i cs hd
      unfold promBoxK at h1
      simp only [replK_eq, force_eq] at h1
      have hd' := getE_some hd (by simp)
      obtain ⟨g1, g2⟩ := h2.promBox hd'
      have e1 : a.eval x = .pointer (some ⟨β d, 0, none⟩) := h3.2 cs hd'
      have e2 : a.tmps.getD d undef = .pointer (some ⟨β d, 0, none⟩) := (h2.slot d _ hd').1
      refine ⟨_, _, _, _, h1, g1, ?_, keeps_trans h4 (keeps_push μ' S' _ _)⟩
      rw [e1, ← e2]
      exact g2
    · exact h1.elim
  · exact h1.elim
theorem promVs_sound : ∀ {xs : List Operand} {env : Env} {S : Store} {μ : Mp} {K : List V → Env → Store → Prop}, St μ0 S0 w0 μ β env S a.tmps w → promVs env S xs K →
    ∃ vs env' S' μ', K vs env' S' ∧ St μ0 S0 w0 μ' β env' S' a.tmps w ∧ vs.length = xs.length ∧ (∀ (i : Nat) v x, vs[i]? = some v → xs[i]? = some x → VR μ' S' v (a.eval x)) ∧ Keeps μ S μ' S'
  | [], env, S, μ, K, hst, h => ⟨[], env, S, μ, h, hst, rfl, fun i v x h1 => by simp at h1, (Evo.refl μ S w).keeps⟩
  | x :: r, env, S, μ, K, hst, h => by
    obtain ⟨v, env1, S1, μ1, h1, st1, hv, k1⟩ := promV_sound hst h
    obtain ⟨vs, env2, S2, μ2, h2, st2, hl, hall, k2⟩ := promVs_sound st1 h1
    refine ⟨v :: vs, env2, S2, μ2, h2, st2, by simp [hl], fun i y z hy hz => ?_, keeps_trans k1 k2⟩
    cases i with
    | zero => simp at hy hz; subst hy; subst hz; exact VR.keep k2 hv
    | succ i => simp at hy hz; exact hall i y z hy hz
def SrcR (μ : Mp) (S : Store) (w : World) (ys : List (List C)) (u : Value) : Prop :=
  ∃ base c, u = .slice base ys.length c ∧ (ys ≠ [] → ∃ ad, base = some ad ∧ ∀ k, (∀ y ∈ ys, y.length = k) → ∃ news, (∀ (j : Nat) v, news[j]? = some v → w.cell? (ad.add j) = some v) ∧ FlatR μ S k ys news)
theorem flat_of {μ : Mp} {S : Store} {w : World} {k : Nat} {ys : List (List C)} {b o : Nat} (hk : ∀ y ∈ ys, y.length = k)
    (h : ∀ (i : Nat) cs, ys[i]? = some cs → ∀ (j : Nat) c, cs[j]? = some c → ∃ u, w.cell? ⟨b, o + (i * k + j), none⟩ = some u ∧ CR μ S c u) :
    ∃ news : List Value, (∀ (j : Nat) v, news[j]? = some v → w.cell? ((⟨b, o, none⟩ : Addr).add j) = some v) ∧ FlatR μ S k ys news := by
  refine ⟨(List.range (ys.length * k)).map (fun p => (w.cell? ⟨b, o + p, none⟩).getD undef), fun j v hj => ?_, by simp, fun i cs hi => ⟨hk cs (List.mem_of_getElem? hi), fun j c hj => ?_⟩⟩
  · simp only [List.getElem?_map, Option.map_eq_some_iff] at hj
    obtain ⟨p, hp, rfl⟩ := hj
    obtain ⟨h1, h2⟩ := List.getElem?_eq_some_iff.1 hp
    simp at h1 h2
    subst h2
    have hk0 : 0 < k := Nat.pos_of_ne_zero fun e => by subst e; simp at h1
    have hi : j / k < ys.length := (Nat.div_lt_iff_lt_mul hk0).2 h1
    have hj : j % k < (ys[j / k]).length := by rw [hk _ (List.getElem_mem hi)]; exact Nat.mod_lt _ hk0
    obtain ⟨u, hu, _⟩ := h (j / k) ys[j / k] (by simp [hi]) (j % k) (ys[j / k])[j % k] (by simp [hj])
    have e : j / k * k + j % k = j := by rw [Nat.mul_comm]; exact Nat.div_add_mod j k
    rw [e] at hu
    rw [add_off, hu]; rfl
  · obtain ⟨u, hu, hc⟩ := h i cs hi j c hj
    have hi' : i < ys.length := (List.getElem?_eq_some_iff.1 hi).1
    have hj' : j < k := by rw [← hk cs (List.mem_of_getElem? hi)]; exact (List.getElem?_eq_some_iff.1 hj).1
    have : (i + 1) * k ≤ ys.length * k := Nat.mul_le_mul_right _ hi'
    rw [Nat.add_mul, Nat.one_mul] at this
    refine ⟨u, ?_, hc⟩
    rw [List.getElem?_map, List.getElem?_range (by omega)]
    simp [hu]
theorem elems_src (hst : St μ0 S0 w0 μ β env S a.tmps w) {c : C} {u : Value} (hc : CR μ S c u) {ys : List (List C)} (he : elems S c = some ys) : SrcR μ S w ys u := by
  cases c with
  | nil => simp [elems] at he; subst he; exact ⟨none, 0, hc, fun h => absurd rfl h⟩
  | zc => simp [elems] at he; subst he; obtain ⟨ad, rfl⟩ := hc; exact ⟨some ad, 0, rfl, fun h => absurd rfl h⟩
  | sl id o n t =>
    obtain ⟨ad, cap, rfl, hn, row', q1, q2, q3⟩ := hc
    obtain ⟨row, r1, r2, r3, rfl⟩ := elems_sl he
    obtain rfl : row = row' := Option.some.inj (r1.symm.trans q1)
    obtain ⟨m, m1, m2, m3, m4⟩ := q3 r2
    have hlen : ((row.xs.drop o).take n).length = n := by rw [List.length_take, List.length_drop]; omega
    refine ⟨some ad, cap, by rw [hlen], fun hne => ⟨ad, rfl, fun k hk => ?_⟩⟩
    have hn0 : 0 < n := by
      rcases Nat.eq_zero_or_pos n with e | e
      · subst e; simp at hne
      · exact e
    have hok := hst.rs.ok id row m r1 m1
    have hmem : ∀ (i : Nat) cs, ((row.xs.drop o).take n)[i]? = some cs → row.xs[o + i]? = some cs := by
      intro i cs hi
      rw [List.getElem?_take] at hi
      split at hi
      · rwa [List.getElem?_drop] at hi
      · cases hi
    have hkk : k = row.k := by
      have h0 : 0 < ((row.xs.drop o).take n).length := by omega
      have hg : ((row.xs.drop o).take n)[0]? = some ((row.xs.drop o).take n)[0] := List.getElem?_eq_getElem h0
      rw [← hk _ (List.getElem_mem h0)]
      exact (hok.cells _ _ (hmem 0 _ hg)).1
    subst hkk
    have := m3 hn0
    subst this
    refine flat_of hk fun i cs hi j c hj => ?_
    obtain ⟨_, hcc⟩ := hok.cells _ _ (hmem i cs hi)
    obtain ⟨u, hu, hcr⟩ := hcc j c hj
    refine ⟨u, ?_, hcr⟩
    rw [← hu]
    congr 2
    rw [Nat.add_mul]
    omega
  | _ => simp [elems] at he
theorem srcOf_sound (hst : St μ0 S0 w0 μ β env S a.tmps w) {x : Operand} {K : List (List C) → Prop} (h : srcOf env S x K) : ∃ ys, K ys ∧ SrcR μ S w ys (a.eval x) := by
  cases x with
  | tmp t =>
    simp only [srcOf] at h
    cases hx : getE env t with
    | lst k xs =>
      rw [hx] at h
      obtain ⟨h1, h0, arr, e, h2, h3, h4⟩ := hst.slot t _ (getE_some hx (by simp))
      refine ⟨xs, h, some ⟨β t, 0, none⟩, xs.length, h1, fun hne => ⟨_, rfl, fun k' hk => ?_⟩⟩
      have hkk : k' = k := by
        have h0 : 0 < xs.length := List.length_pos_iff.2 hne
        rw [← hk _ (List.getElem_mem h0)]
        exact (h4 0 xs[0] (by simp)).1
      subst hkk
      refine flat_of hk fun i cs hi j c hj => ?_
      obtain ⟨u, hu, hc⟩ := (h4 i cs hi).2 j c hj
      exact ⟨u, by rw [cell_of_row w _ _ arr e (0, 0) h2, Nat.zero_add]; exact hu, hc⟩
    | v y =>
      cases y with
      | s c =>
        rw [hx] at h
        simp only at h
        unfold ElemsP at h
        obtain ⟨l, h1, h2⟩ := h
        exact ⟨l, h2, elems_src hst (hst.slot t _ (getE_some hx (by simp))) h1⟩
      | agg y => rw [hx] at h; exact h.elim
    | _ => rw [hx] at h; exact h.elim
  | const v =>
    cases v with
    | slice b n c =>
      cases b <;> cases n <;> cases c <;> simp only [srcOf] at h
      exact ⟨[], h, none, 0, rfl, fun h => absurd rfl h⟩
    | _ => exact h.elim
  | _ => exact h.elim
end
end Go.Proofs.YtlmmdpmmdmhacaaGreat
namespace Go.Proofs.YtlmmdpmmdmhacaaGreat
open Go
set_option linter.unusedVariables false
set_option linter.unusedSimpArgs false
section
variable {P : Program}
theorem run_append_zero (w : World) (t ty e : TypeId) (i : TypeInfo) (ht : P.underlying t = some (.slice e)) (hi : P.info? e = some i) (base b : Option Addr) (sLen sCap c : Nat) (hc : sLen ≤ sCap) :
    (Builtin.append_ #[t, t] ty #[.slice base sLen sCap, .slice b 0 c]).run P w = .ok (.slice base sLen sCap) w := by
  have hf : (Builtin.firstCells i.size 0 (.slice b 0 c)).run P w = .ok #[] w := by
    cases b <;> simp [Builtin.firstCells, loadCells, loadCellsFrom]
  cases base <;> simp [Builtin.append_, run_underlying ht, sizeOf, typeInfo, hi, Builtin.lenOf, hc, hf, storeCells]
theorem run_append_room' (w : World) (t ty e e' : TypeId) (i : TypeInfo) (ht : P.underlying t = some (.slice e)) (hi : P.info? e = some i)
    (g sLen sCap : Nat) (cur : Array Value) (hg : w.heap[g]? = some (.cells cur e' (0, 0)))
    (a : Addr) (m c : Nat) (news : List Value) (hl : news.length = m * i.size) (hnews : ∀ (j : Nat) u, news[j]? = some u → w.cell? (a.add j) = some u) (h1 : ∀ u ∈ news, u.oneCell' = true)
    (hroom : sLen + m ≤ sCap) (hfit : sLen * i.size + news.length ≤ cur.size) :
    (Builtin.append_ #[t, t] ty #[.slice (some ⟨g, 0, none⟩) sLen sCap, .slice (some a) m c]).run P w =
      .ok (.slice (some ⟨g, 0, none⟩) (sLen + m) sCap) (w.setRow g (cur.toList.take (sLen * i.size) ++ news ++ cur.toList.drop (sLen * i.size + news.length)).toArray) := by
  have hf := run_firstCells_some (P := P) w i.size m a m c news hl hnews
  have hst := run_storeCells_at P g (sLen * i.size) e' news 0 cur w hg (by simpa using hfit) h1
  simp only [Nat.add_zero] at hst
  simp [Builtin.append_, run_underlying ht, sizeOf, typeInfo, hi, Builtin.lenOf, hroom, hf, Addr.add_lit, hst]
variable {μ : Mp} {S : Store} {w : World}
theorem grown_row {k n cap : Nat} {us : List Value} {z : Array Value} (hz : z.size = k) (hl : us.length = n * k) (hc : n ≤ cap) :
    (us.toArray ++ Builtin.zeroCells z (cap - n)).size = cap * k ∧ ∀ (j : Nat) u, us[j]? = some u → (us.toArray ++ Builtin.zeroCells z (cap - n))[j]? = some u := by
  refine ⟨by rw [Array.size_append, size_zeroCells, List.size_toArray, hl, hz, ← Nat.add_mul]; congr 1; omega, fun j u hj => ?_⟩
  have : j < us.length := (List.getElem?_eq_some_iff.1 hj).1
  rw [Array.getElem?_append_left (by simpa using this)]
  simpa using hj
theorem append_sound (hrs : RS μ S w) {t ty e : Nat} {te : TI} (ht : P.underlying t = some (.slice e)) (hte : TyOK P e te) {c : C} {u x : Value} {ys : List (List C)} {K : C → Store → Prop}
    (hu : CR μ S c u) (hx : SrcR μ S w ys x) (h : AppP te.sz te.by' S c ys K) :
    ∃ c' S' μ' w' u', K c' S' ∧ (Builtin.append_ #[t, t] ty #[u, x]).run P w = .ok u' w' ∧ CR μ' S' c' u' ∧ RS μ' S' w' ∧ Evo μ S w μ' S' w' := by
  obtain ⟨i, z, hi, hsz, hby, hz, hzs, _⟩ := hte.info
  have hb1 : 1 ≤ te.by' := hte.bpos
  obtain ⟨base, cx, rfl, hsrc⟩ := hx
  unfold AppP at h
  obtain ⟨hk, h⟩ := h
  rcases h with ⟨rfl, hbd, h1, h2⟩ | ⟨rfl, hbd, h1, h2⟩ | ⟨id, xs, rfl, hrow, hbd, h1⟩
  · cases hu
    by_cases hy : ys = []
    · subst hy
      exact ⟨_, _, _, _, _, h1 rfl, run_append_zero w t ty e i ht hi none base 0 0 cx (Nat.le_refl _), rfl, hrs, Evo.refl _ _ _⟩
    · obtain ⟨ad, rfl, hnews⟩ := hsrc hy
      obtain ⟨news, n1, n2⟩ := hnews te.sz hk
      have hn : 0 < ys.length := List.length_pos_iff.2 hy
      have hle : ys.length ≤ ys.length * te.by' := Nat.le_mul_of_pos_right _ hb1
      have hm : ys.length ≤ maxLen := by simp only [maxLen]; omega
      have hr := run_append_nil (P := P) w t ty e i z ht hi hz ad ys.length cx news (by rw [n2.1, hsz]) n1 hn (by omega) (by rw [hby]; omega)
      have hge := grownCap_ge w ys.length 0 e
      have hcm := grownCap_le_maxLen w ys.length 0 e hm
      obtain ⟨g1, g2⟩ := grown_row (z := z.cells) hzs n2.1 hge
      obtain ⟨rs, ev, cr⟩ := hrs.newRow (w' := w.drew.alloc (.cells (news.toArray ++ Builtin.zeroCells z.cells (grownCap w ys.length 0 e - ys.length)) e)) n2 g2 g1 hge hcm rfl ⟨rfl, rfl, rfl⟩
      exact ⟨_, _, _, _, _, h2 hy, hr, cr, rs, ev⟩
  · obtain ⟨ad0, rfl⟩ := hu
    by_cases hy : ys = []
    · subst hy
      exact ⟨_, _, _, _, _, h1 rfl, run_append_zero w t ty e i ht hi (some ad0) base 0 0 cx (Nat.le_refl _), ⟨ad0, rfl⟩, hrs, Evo.refl _ _ _⟩
    · obtain ⟨ad, rfl, hnews⟩ := hsrc hy
      obtain ⟨news, n1, n2⟩ := hnews te.sz hk
      have hn : 0 < ys.length := List.length_pos_iff.2 hy
      have hle : ys.length ≤ ys.length * te.by' := Nat.le_mul_of_pos_right _ hb1
      have hm : ys.length ≤ maxLen := by simp only [maxLen]; omega
      have hr := run_append_grow (P := P) w t ty e i z ht hi hz ad0 0 0 [] (by simp) (fun j v hj => by simp at hj) ad ys.length cx news (by rw [n2.1, hsz]) n1 (by omega) (by omega) (growslice_fits (by omega) (by rw [Nat.zero_add, hby]; omega))
      simp only [Nat.zero_add] at hr
      have hge := grownCap_ge w ys.length 0 e
      have hcm := grownCap_le_maxLen w ys.length 0 e hm
      obtain ⟨g1, g2⟩ := grown_row (z := z.cells) hzs n2.1 hge
      obtain ⟨rs, ev, cr⟩ := hrs.newRow (w' := w.drew.alloc (.cells (([] : List Value).toArray ++ news.toArray ++ Builtin.zeroCells z.cells (grownCap w ys.length 0 e - ys.length)) e)) (arr := ([] : List Value).toArray ++ news.toArray ++ Builtin.zeroCells z.cells (grownCap w ys.length 0 e - ys.length)) n2
        (by simpa using g2) (by simpa using g1) hge hcm rfl ⟨rfl, rfl, rfl⟩
      exact ⟨_, _, _, _, _, h2 hy, hr, cr, rs, ev⟩
  · obtain ⟨ad0, cap, rfl, hnc, row, q1, q2, q3⟩ := hu
    obtain rfl : (⟨true, te.sz, xs⟩ : Row) = row := Option.some.inj (hrow.symm.trans q1)
    obtain ⟨m, m1, m2, m3, m4⟩ := q3 rfl
    obtain ⟨rfl, rfl⟩ := m4 rfl rfl rfl
    have hok := hrs.ok id _ m hrow m1
    obtain ⟨arr, e', a1, a2, a3⟩ := hok.flat rfl
    obtain ⟨hb, arr2, e2, g1, g2, g3, g4⟩ := hok.mine rfl
    by_cases hy : ys = []
    · subst hy
      refine ⟨_, _, μ, w, _, h1, run_append_zero w t ty e i ht hi _ base xs.length m.cap cx hnc, ?_⟩
      have hs : S.set id ⟨true, te.sz, xs ++ []⟩ = S := by
        rw [List.append_nil]
        apply List.ext_getElem?
        intro j
        rw [List.getElem?_set]
        split
        · rename_i e; subst e
          have := (List.getElem?_eq_some_iff.1 hrow).1
          rw [if_pos this, hrow]
        · rfl
      rw [hs]
      exact ⟨⟨_, _, rfl, hnc, _, q1, q2, q3⟩, hrs, Evo.refl _ _ _⟩
    · obtain ⟨ad, rfl, hnews⟩ := hsrc hy
      obtain ⟨news, n1, n2⟩ := hnews te.sz hk
      have hn : 0 < ys.length := List.length_pos_iff.2 hy
      have hle : xs.length + ys.length ≤ (xs.length + ys.length) * te.by' := Nat.le_mul_of_pos_right _ hb1
      have hm : xs.length + ys.length ≤ maxLen := by simp only [maxLen]; omega
      have flat := a3.append n2
      simp only at flat a2 a3
      by_cases hroom : xs.length + ys.length ≤ m.cap
      · have hmul : (xs.length + ys.length) * te.sz ≤ m.cap * te.sz := Nat.mul_le_mul_right _ hroom
        rw [Nat.add_mul] at hmul
        have hfit : xs.length * te.sz + news.length ≤ arr.size := by rw [n2.1, a2]; exact hmul
        have hr := run_append_room' w t ty e e' i ht hi m.blk xs.length m.cap arr a1 ad ys.length cx news (by rw [n2.1, hsz]) n1 n2.ones hroom (by rw [hsz]; exact hfit)
        rw [hsz] at hr
        have hheap := setRow_heap w m.blk arr (arr.toList.take (xs.length * te.sz) ++ news ++ arr.toList.drop (xs.length * te.sz + news.length)).toArray e' (0, 0) a1
        have hsize : (arr.toList.take (xs.length * te.sz) ++ news ++ arr.toList.drop (xs.length * te.sz + news.length)).toArray.size = m.cap * te.sz := by
          simp only [List.size_toArray, List.length_append, List.length_take, List.length_drop, Array.length_toList]
          omega
        have kp : Keeps μ S (upd μ id (some m)) (S.set id ⟨true, te.sz, xs ++ ys⟩) := by
          have hlt := (List.getElem?_eq_some_iff.1 hrow).1
          intro id' r h'
          by_cases e : id' = id
          · subst e
            rw [hrow] at h'; cases h'
            exact ⟨⟨true, te.sz, xs ++ ys⟩, by simp [hlt], rfl, rfl, by simp, fun e => absurd (by simpa using e) hy⟩
          · exact ⟨r, by rw [List.getElem?_set_ne (Ne.symm e)]; exact h', rfl, rfl, Nat.le_refl _, fun _ => upd_ne _ _ e⟩
        have hok' : RowOK (upd μ id (some m)) (S.set id ⟨true, te.sz, xs ++ ys⟩) (w.setRow m.blk (arr.toList.take (xs.length * te.sz) ++ news ++ arr.toList.drop (xs.length * te.sz + news.length)).toArray) ⟨true, te.sz, xs ++ ys⟩ m :=
          RowOK.of_flat rfl (flat.keep kp) hb hheap (fun j u hj => by
            rw [List.getElem?_toArray]
            have : j < (arr.toList.take (xs.length * te.sz) ++ news).length := (List.getElem?_eq_some_iff.1 hj).1
            rw [List.getElem?_append_left this]; exact hj) hsize (by simpa using hroom) g4
        obtain ⟨_, rs, ev⟩ := hrs.regrow (row' := ⟨true, te.sz, xs ++ ys⟩) (w' := w.setRow m.blk (arr.toList.take (xs.length * te.sz) ++ news ++ arr.toList.drop (xs.length * te.sz + news.length)).toArray) hrow m1 rfl rfl rfl (by show xs.length < (xs ++ ys).length; rw [List.length_append]; omega) (by simp [World.setRow]) ⟨rfl, rfl, rfl⟩ (fun b _ hb => setRow_other w _ _ _ hb) (.inl rfl) hok'
        have hlt := (List.getElem?_eq_some_iff.1 hrow).1
        exact ⟨_, _, _, _, _, h1, hr, ⟨⟨m.blk, 0, none⟩, m.cap, rfl, hroom, ⟨true, te.sz, xs ++ ys⟩, by simp [hlt], by simp, fun _ => ⟨m, upd_same _ _ _, by simp, fun _ => by simp [hb], fun _ _ _ => ⟨rfl, rfl⟩⟩⟩, rs, ev⟩
      · have olds : ∀ (j : Nat) v, (arr.toList.take (xs.length * te.sz))[j]? = some v → w.cell? ((⟨m.blk, 0, none⟩ : Addr).add j) = some v := by
          intro j v hj
          rw [add_off, cell_of_row w _ _ arr e' (0, 0) a1, Nat.zero_add]
          rw [List.getElem?_take] at hj
          split at hj
          · simpa using hj
          · cases hj
        have hr := run_append_grow (P := P) w t ty e i z ht hi hz ⟨m.blk, 0, none⟩ xs.length m.cap (arr.toList.take (xs.length * te.sz)) (by rw [a3.1, hsz]) olds ad ys.length cx news (by rw [n2.1, hsz]) n1 (by omega) (by simp only [maxLen] at hm; omega) (growslice_fits (by omega) (by rw [hby]; exact hbd))
        have hge := grownCap_ge w (xs.length + ys.length) m.cap e
        have hcm := grownCap_le_maxLen w (xs.length + ys.length) m.cap e hm
        obtain ⟨f1, f2⟩ := grown_row (us := arr.toList.take (xs.length * te.sz) ++ news) (z := z.cells) hzs (by rw [flat.1]; simp) hge
        have harr : (arr.toList.take (xs.length * te.sz)).toArray ++ news.toArray = (arr.toList.take (xs.length * te.sz) ++ news).toArray := by simp
        rw [harr] at hr
        have kp : Keeps μ S (upd μ id (some ⟨w.heap.size, 0, grownCap w (xs.length + ys.length) m.cap e⟩)) (S.set id ⟨true, te.sz, xs ++ ys⟩) := by
          have hlt := (List.getElem?_eq_some_iff.1 hrow).1
          intro id' r h'
          by_cases e : id' = id
          · subst e
            rw [hrow] at h'; cases h'
            exact ⟨⟨true, te.sz, xs ++ ys⟩, by simp [hlt], rfl, rfl, by simp, fun e => absurd (by simpa using e) hy⟩
          · exact ⟨r, by rw [List.getElem?_set_ne (Ne.symm e)]; exact h', rfl, rfl, Nat.le_refl _, fun _ => upd_ne _ _ e⟩
        have hheap : (w.drew.alloc (.cells ((arr.toList.take (xs.length * te.sz) ++ news).toArray ++ Builtin.zeroCells z.cells (grownCap w (xs.length + ys.length) m.cap e - (xs.length + ys.length))) e)).heap[w.heap.size]? = some (.cells ((arr.toList.take (xs.length * te.sz) ++ news).toArray ++ Builtin.zeroCells z.cells (grownCap w (xs.length + ys.length) m.cap e - (xs.length + ys.length))) e (0, 0)) := Go.heap_alloc_new w.drew _
        have hok' := RowOK.of_flat (row := ⟨true, te.sz, xs ++ ys⟩) (m := ⟨w.heap.size, 0, grownCap w (xs.length + ys.length) m.cap e⟩) rfl (flat.keep kp) rfl hheap f2 f1 (by simpa using hge) hcm
        obtain ⟨_, rs, ev⟩ := hrs.regrow (row' := ⟨true, te.sz, xs ++ ys⟩) (w' := w.drew.alloc (.cells ((arr.toList.take (xs.length * te.sz) ++ news).toArray ++ Builtin.zeroCells z.cells (grownCap w (xs.length + ys.length) m.cap e - (xs.length + ys.length))) e)) hrow m1 rfl rfl rfl (by show xs.length < (xs ++ ys).length; rw [List.length_append]; omega) (by simp) ⟨rfl, rfl, rfl⟩ (fun b hb _ => Go.heap_alloc_old w.drew _ b hb) (.inr (Nat.le_refl _)) hok'
        have hlt := (List.getElem?_eq_some_iff.1 hrow).1
        exact ⟨_, _, _, _, _, h1, hr, ⟨⟨w.heap.size, 0, none⟩, _, rfl, hge, ⟨true, te.sz, xs ++ ys⟩, by simp [hlt], by simp, fun _ => ⟨_, upd_same _ _ _, by simp, fun _ => by simp, fun _ _ _ => ⟨rfl, rfl⟩⟩⟩, rs, ev⟩
end
end Go.Proofs.YtlmmdpmmdmhacaaGreat
