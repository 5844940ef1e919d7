/- Data: what lies in cells and rows, as trees. -/
import Derived.Test.YtlmmdpmmdmhacaaGreatKm15
namespace Go.Proofs.YtlmmdpmmdmhacaaGreat
open Go
set_option linter.unusedVariables false
set_option linter.unusedSimpArgs false
inductive D where
  | x (c : C)
  | sl (k : Nat) (xs : List (List D))
mutual
def Rep (q : Bool) (S : Store) : D → C → List Nat → Prop
  | .x c0, c, ids => c = c0 ∧ ids = []
  | .sl k xs, c, ids => xs.length ≤ maxLen ∧ ((xs = [] ∧ (c = .nil ∨ c = .zc) ∧ ids = []) ∨ ∃ id o t row js, c = .sl id o xs.length t ∧ ids = id :: js ∧ S[id]? = some row ∧ row.k = k ∧ row.xs.length = t ∧ o + xs.length ≤ t ∧
      (q = true → o = 0 ∧ xs.length = t ∧ row.own = true) ∧ Rep2 q S xs ((row.xs.drop o).take xs.length) js)
def RepL (q : Bool) (S : Store) : List D → List C → List Nat → Prop
  | [], cs, ids => cs = [] ∧ ids = []
  | d :: ds, cs, ids => ∃ c cs' i j, cs = c :: cs' ∧ ids = i ++ j ∧ Rep q S d c i ∧ RepL q S ds cs' j
def Rep2 (q : Bool) (S : Store) : List (List D) → List (List C) → List Nat → Prop
  | [], rows, ids => rows = [] ∧ ids = []
  | x :: xs, rows, ids => ∃ cs rows' i j, rows = cs :: rows' ∧ ids = i ++ j ∧ RepL q S x cs i ∧ Rep2 q S xs rows' j
end
section
variable {q : Bool} {S S' : Store}
mutual
theorem Rep.frame : ∀ {d : D} {c : C} {ids : List Nat}, Rep q S d c ids → (∀ id ∈ ids, S'[id]? = S[id]?) → Rep q S' d c ids
  | .x c0, c, ids, h, _ => by unfold Rep at h ⊢; exact h
  | .sl k xs, c, ids, h, hf => by
    unfold Rep at h ⊢
    obtain ⟨hl, h⟩ := h
    refine ⟨hl, ?_⟩
    rcases h with h | ⟨id, o, t, row, js, h1, h2, h3, h4, h5, h6, h7, h8⟩
    · exact .inl h
    · subst h2
      exact .inr ⟨id, o, t, row, js, h1, rfl, by rw [hf id (by simp)]; exact h3, h4, h5, h6, h7, Rep2.frame h8 (fun i hi => hf i (by simp [hi]))⟩
theorem RepL.frame : ∀ {ds : List D} {cs : List C} {ids : List Nat}, RepL q S ds cs ids → (∀ id ∈ ids, S'[id]? = S[id]?) → RepL q S' ds cs ids
  | [], cs, ids, h, _ => by unfold RepL at h ⊢; exact h
  | d :: ds, cs, ids, h, hf => by
    unfold RepL at h ⊢
    obtain ⟨c, cs', i, j, h1, h2, h3, h4⟩ := h
    subst h2
    exact ⟨c, cs', i, j, h1, rfl, Rep.frame h3 (fun k hk => hf k (by simp [hk])), RepL.frame h4 (fun k hk => hf k (by simp [hk]))⟩
theorem Rep2.frame : ∀ {xs : List (List D)} {rows : List (List C)} {ids : List Nat}, Rep2 q S xs rows ids → (∀ id ∈ ids, S'[id]? = S[id]?) → Rep2 q S' xs rows ids
  | [], rows, ids, h, _ => by unfold Rep2 at h ⊢; exact h
  | x :: xs, rows, ids, h, hf => by
    unfold Rep2 at h ⊢
    obtain ⟨cs, rows', i, j, h1, h2, h3, h4⟩ := h
    subst h2
    exact ⟨cs, rows', i, j, h1, rfl, RepL.frame h3 (fun k hk => hf k (by simp [hk])), Rep2.frame h4 (fun k hk => hf k (by simp [hk]))⟩
end
mutual
theorem Rep.lt : ∀ {d : D} {c : C} {ids : List Nat}, Rep q S d c ids → ∀ id ∈ ids, id < S.length
  | .x c0, c, ids, h, id, hi => by unfold Rep at h; rw [h.2] at hi; cases hi
  | .sl k xs, c, ids, h, id, hi => by
    unfold Rep at h
    rcases h.2 with h | ⟨id', o, t, row, js, h1, h2, h3, h4, h5, h6, h7, h8⟩
    · rw [h.2.2] at hi; cases hi
    · subst h2
      rcases List.mem_cons.1 hi with rfl | hi
      · exact (List.getElem?_eq_some_iff.1 h3).1
      · exact Rep2.lt h8 id hi
theorem RepL.lt : ∀ {ds : List D} {cs : List C} {ids : List Nat}, RepL q S ds cs ids → ∀ id ∈ ids, id < S.length
  | [], cs, ids, h, id, hi => by unfold RepL at h; rw [h.2] at hi; cases hi
  | d :: ds, cs, ids, h, id, hi => by
    unfold RepL at h
    obtain ⟨c, cs', i, j, h1, h2, h3, h4⟩ := h
    subst h2
    rcases List.mem_append.1 hi with hi | hi
    · exact Rep.lt h3 id hi
    · exact RepL.lt h4 id hi
theorem Rep2.lt : ∀ {xs : List (List D)} {rows : List (List C)} {ids : List Nat}, Rep2 q S xs rows ids → ∀ id ∈ ids, id < S.length
  | [], rows, ids, h, id, hi => by unfold Rep2 at h; rw [h.2] at hi; cases hi
  | x :: xs, rows, ids, h, id, hi => by
    unfold Rep2 at h
    obtain ⟨cs, rows', i, j, h1, h2, h3, h4⟩ := h
    subst h2
    rcases List.mem_append.1 hi with hi | hi
    · exact RepL.lt h3 id hi
    · exact Rep2.lt h4 id hi
end
mutual
theorem Rep.read : ∀ {d : D} {c : C} {ids : List Nat}, Rep q S d c ids → Rep false S d c ids
  | .x c0, c, ids, h => by unfold Rep at h ⊢; exact h
  | .sl k xs, c, ids, h => by
    unfold Rep at h ⊢
    obtain ⟨hl, h⟩ := h
    refine ⟨hl, ?_⟩
    rcases h with h | ⟨id, o, t, row, js, h1, h2, h3, h4, h5, h6, h7, h8⟩
    · exact .inl h
    · exact .inr ⟨id, o, t, row, js, h1, h2, h3, h4, h5, h6, (by intro h; cases h), Rep2.read h8⟩
theorem RepL.read : ∀ {ds : List D} {cs : List C} {ids : List Nat}, RepL q S ds cs ids → RepL false S ds cs ids
  | [], cs, ids, h => by unfold RepL at h ⊢; exact h
  | d :: ds, cs, ids, h => by
    unfold RepL at h ⊢
    obtain ⟨c, cs', i, j, h1, h2, h3, h4⟩ := h
    exact ⟨c, cs', i, j, h1, h2, Rep.read h3, RepL.read h4⟩
theorem Rep2.read : ∀ {xs : List (List D)} {rows : List (List C)} {ids : List Nat}, Rep2 q S xs rows ids → Rep2 false S xs rows ids
  | [], rows, ids, h => by unfold Rep2 at h ⊢; exact h
  | x :: xs, rows, ids, h => by
    unfold Rep2 at h ⊢
    obtain ⟨cs, rows', i, j, h1, h2, h3, h4⟩ := h
    exact ⟨cs, rows', i, j, h1, h2, RepL.read h3, Rep2.read h4⟩
end
theorem repL_nil {cs : List C} {ids : List Nat} : RepL q S [] cs ids ↔ cs = [] ∧ ids = [] := by rw [RepL]
theorem repL_cons {d : D} {ds : List D} {cs : List C} {ids : List Nat} : RepL q S (d :: ds) cs ids ↔ ∃ c cs' i j, cs = c :: cs' ∧ ids = i ++ j ∧ Rep q S d c i ∧ RepL q S ds cs' j := by rw [RepL]
theorem rep_x {c0 c : C} {ids : List Nat} : Rep q S (.x c0) c ids ↔ c = c0 ∧ ids = [] := by rw [Rep]
theorem rep2_nil {cs : List (List C)} {ids : List Nat} : Rep2 q S [] cs ids ↔ cs = [] ∧ ids = [] := by rw [Rep2]
theorem rep2_cons {d : List D} {ds : List (List D)} {cs : List (List C)} {ids : List Nat} : Rep2 q S (d :: ds) cs ids ↔ ∃ c cs' i j, cs = c :: cs' ∧ ids = i ++ j ∧ RepL q S d c i ∧ Rep2 q S ds cs' j := by rw [Rep2]
theorem RepL.len : ∀ {ds : List D} {cs : List C} {ids : List Nat}, RepL q S ds cs ids → cs.length = ds.length
  | [], cs, ids, h => by rw [repL_nil] at h; rw [h.1]; rfl
  | d :: ds, cs, ids, h => by
    rw [repL_cons] at h
    obtain ⟨c, cs', i, j, h1, h2, h3, h4⟩ := h
    subst h1; simp [h4.len]
theorem Rep2.len : ∀ {xs : List (List D)} {rows : List (List C)} {ids : List Nat}, Rep2 q S xs rows ids → rows.length = xs.length
  | [], rows, ids, h => by rw [rep2_nil] at h; rw [h.1]; rfl
  | x :: xs, rows, ids, h => by
    rw [rep2_cons] at h
    obtain ⟨c, cs', i, j, h1, h2, h3, h4⟩ := h
    subst h1; simp [h4.len]
theorem Rep2.at : ∀ {xs : List (List D)} {rows : List (List C)} {ids : List Nat}, Rep2 q S xs rows ids → ∀ (n : Nat) x, xs[n]? = some x → ∃ cs i, rows[n]? = some cs ∧ RepL q S x cs i ∧ ∀ id ∈ i, id ∈ ids
  | [], rows, ids, h, n, x, hx => by simp at hx
  | y :: xs, rows, ids, h, n, x, hx => by
    rw [rep2_cons] at h
    obtain ⟨c, cs', i, j, h1, h2, h3, h4⟩ := h
    subst h1; subst h2
    cases n with
    | zero => simp at hx; subst hx; exact ⟨c, i, rfl, h3, fun id hi => by simp [hi]⟩
    | succ n =>
      obtain ⟨cs, i', k1, k2, k3⟩ := h4.at n x (by simpa using hx)
      exact ⟨cs, i', by simpa using k1, k2, fun id hi => by simp [k3 id hi]⟩
theorem Rep2.append : ∀ {xs ys : List (List D)} {rows rows' : List (List C)} {ids ids' : List Nat}, Rep2 q S xs rows ids → Rep2 q S ys rows' ids' → Rep2 q S (xs ++ ys) (rows ++ rows') (ids ++ ids')
  | [], ys, rows, rows', ids, ids', h, g => by rw [rep2_nil] at h; rw [h.1, h.2]; exact g
  | x :: xs, ys, rows, rows', ids, ids', h, g => by
    rw [rep2_cons] at h
    obtain ⟨c, cs', i, j, h1, h2, h3, h4⟩ := h
    subst h1; subst h2
    rw [List.cons_append, rep2_cons]
    exact ⟨c, cs' ++ rows', i, j ++ ids', rfl, by simp, h3, h4.append g⟩
theorem Rep2.split : ∀ {xs ys : List (List D)} {rows : List (List C)} {ids : List Nat}, Rep2 q S (xs ++ ys) rows ids → ∃ r1 r2 i j, rows = r1 ++ r2 ∧ ids = i ++ j ∧ Rep2 q S xs r1 i ∧ Rep2 q S ys r2 j
  | [], ys, rows, ids, h => ⟨[], rows, [], ids, rfl, rfl, by rw [rep2_nil]; exact ⟨rfl, rfl⟩, h⟩
  | x :: xs, ys, rows, ids, h => by
    rw [List.cons_append, rep2_cons] at h
    obtain ⟨c, cs', i, j, h1, h2, h3, h4⟩ := h
    obtain ⟨r1, r2, i', j', k1, k2, k3, k4⟩ := h4.split
    subst h1; subst h2; subst k1; subst k2
    refine ⟨c :: r1, r2, i ++ i', j', rfl, by simp, ?_, k4⟩
    rw [rep2_cons]
    exact ⟨c, r1, i, i', rfl, rfl, h3, k3⟩
theorem Rep.elems {k : Nat} {xs : List (List D)} {c : C} {ids : List Nat} (h : Rep q S (.sl k xs) c ids) : ∃ rows js, elems S c = some rows ∧ Rep2 q S xs rows js ∧ (∀ id ∈ js, id ∈ ids) ∧ xs.length ≤ maxLen := by
  unfold Rep at h
  obtain ⟨hl, h⟩ := h
  rcases h with ⟨h1, h2, h3⟩ | ⟨id, o, t, row, js, h1, h2, h3, h4, h5, h6, h7, h8⟩
  · subst h1
    refine ⟨[], [], ?_, by rw [rep2_nil]; exact ⟨rfl, rfl⟩, fun id hi => (by cases hi), hl⟩
    rcases h2 with rfl | rfl <;> rfl
  · subst h1
    refine ⟨_, js, ?_, h8, fun id hi => by rw [h2]; simp [hi], hl⟩
    simp [Go.Proofs.YtlmmdpmmdmhacaaGreat.elems, h3, h5, h6]
def Rd (S : Store) (ds : List D) (cs : List C) : Prop := ∃ ids, RepL false S ds cs ids
def Fr (lo : Nat) (S : Store) (ds : List D) (cs : List C) : Prop := ∃ ids, RepL true S ds cs ids ∧ ids.Nodup ∧ ∀ id ∈ ids, lo ≤ id
def Ext (S S' : Store) : Prop := ∃ J, S' = S ++ J
theorem Ext.refl (S : Store) : Ext S S := ⟨[], by simp⟩
theorem Ext.trans {S1 S2 S3 : Store} (h : Ext S1 S2) (g : Ext S2 S3) : Ext S1 S3 := by
  obtain ⟨J, rfl⟩ := h; obtain ⟨J', rfl⟩ := g; exact ⟨J ++ J', by simp⟩
theorem Ext.len (h : Ext S S') : S.length ≤ S'.length := by obtain ⟨J, rfl⟩ := h; simp
theorem Ext.at (h : Ext S S') {id : Nat} (hi : id < S.length) : S'[id]? = S[id]? := by obtain ⟨J, rfl⟩ := h; rw [List.getElem?_append_left hi]
theorem Ext.push (S : Store) (r : Row) : Ext S (S ++ [r]) := ⟨[r], rfl⟩
theorem ext_of (hl : S.length ≤ S'.length) (h : ∀ id, id < S.length → S'[id]? = S[id]?) : Ext S S' := by
  refine ⟨S'.drop S.length, List.ext_getElem? fun i => ?_⟩
  by_cases hi : i < S.length
  · rw [h i hi, List.getElem?_append_left hi]
  · rw [List.getElem?_append_right (by omega), List.getElem?_drop]
    congr 1; omega
theorem Ext.set (h : Ext S S') {id : Nat} (hi : S.length ≤ id) (r : Row) : Ext S (S'.set id r) :=
  ext_of (by simpa using h.len) fun i hl => by rw [List.getElem?_set_ne (by omega), h.at hl]
theorem Rd.ext {ds : List D} {cs : List C} (h : Rd S ds cs) (e : Ext S S') : Rd S' ds cs := by
  obtain ⟨ids, h⟩ := h
  exact ⟨ids, h.frame fun id hi => e.at (h.lt id hi)⟩
theorem Rd.of {ds : List D} {cs : List C} {ids : List Nat} (h : RepL q S ds cs ids) : Rd S ds cs := ⟨ids, h.read⟩
theorem Fr.rd {lo : Nat} {ds : List D} {cs : List C} (h : Fr lo S ds cs) : Rd S ds cs := by obtain ⟨ids, h, _⟩ := h; exact .of h
theorem Fr.ext {lo : Nat} {ds : List D} {cs : List C} (h : Fr lo S ds cs) (e : Ext S S') : Fr lo S' ds cs := by
  obtain ⟨ids, h, h1, h2⟩ := h
  exact ⟨ids, h.frame fun id hi => e.at (h.lt id hi), h1, h2⟩
theorem Fr.mono {lo lo' : Nat} {ds : List D} {cs : List C} (h : Fr lo S ds cs) (e : lo' ≤ lo) : Fr lo' S ds cs := by
  obtain ⟨ids, h, h1, h2⟩ := h
  exact ⟨ids, h, h1, fun id hi => Nat.le_trans e (h2 id hi)⟩
theorem rd_nil : Rd S [] [] := ⟨[], by rw [repL_nil]; exact ⟨rfl, rfl⟩⟩
theorem rd_x {c : C} {ds : List D} {cs : List C} (h : Rd S ds cs) : Rd S (.x c :: ds) (c :: cs) := by
  obtain ⟨ids, h⟩ := h
  exact ⟨[] ++ ids, by rw [repL_cons]; exact ⟨c, cs, [], ids, rfl, rfl, by rw [rep_x]; exact ⟨rfl, rfl⟩, h⟩⟩
theorem rd_sl {d : D} {c : C} {ds : List D} {cs : List C} (h0 : Rd S [d] [c]) (h : Rd S ds cs) : Rd S (d :: ds) (c :: cs) := by
  obtain ⟨i, h0⟩ := h0
  obtain ⟨j, h⟩ := h
  rw [repL_cons] at h0
  obtain ⟨c', cs', i', j', h1, h2, h3, h4⟩ := h0
  rw [repL_nil] at h4
  simp only [List.cons.injEq] at h1
  obtain ⟨h1, _⟩ := h1
  subst h1
  exact ⟨i' ++ j, by rw [repL_cons]; exact ⟨c, cs, i', j, rfl, rfl, h3, h⟩⟩
theorem Rd.cons_x {c0 : C} {ds : List D} {cs : List C} (h : Rd S (.x c0 :: ds) cs) : ∃ cs', cs = c0 :: cs' ∧ Rd S ds cs' := by
  obtain ⟨ids, h⟩ := h
  rw [repL_cons] at h
  obtain ⟨c, cs', i, j, h1, h2, h3, h4⟩ := h
  rw [rep_x] at h3
  exact ⟨cs', by rw [h1, h3.1], j, h4⟩
theorem Rd.cons {d : D} {ds : List D} {cs : List C} (h : Rd S (d :: ds) cs) : ∃ c cs', cs = c :: cs' ∧ Rd S [d] [c] ∧ Rd S ds cs' := by
  obtain ⟨ids, h⟩ := h
  rw [repL_cons] at h
  obtain ⟨c, cs', i, j, h1, h2, h3, h4⟩ := h
  exact ⟨c, cs', h1, ⟨i ++ [], by rw [repL_cons]; exact ⟨c, [], i, [], rfl, rfl, h3, by rw [repL_nil]; exact ⟨rfl, rfl⟩⟩⟩, j, h4⟩
theorem Rd.nil {cs : List C} (h : Rd S [] cs) : cs = [] := by
  obtain ⟨ids, h⟩ := h
  rw [repL_nil] at h
  exact h.1
theorem Rd.one {d : D} {c : C} (h : Rd S [d] [c]) : ∃ ids, Rep false S d c ids := by
  obtain ⟨ids, h⟩ := h
  rw [repL_cons] at h
  obtain ⟨c', cs', i, j, h1, h2, h3, h4⟩ := h
  simp only [List.cons.injEq] at h1
  obtain ⟨h1, _⟩ := h1
  subst h1
  exact ⟨i, h3⟩
theorem rd_one {d : D} {c : C} {ids : List Nat} (h : Rep q S d c ids) : Rd S [d] [c] :=
  .of (q := q) (ids := ids ++ []) (by rw [repL_cons]; exact ⟨c, [], ids, [], rfl, rfl, h, by rw [repL_nil]; exact ⟨rfl, rfl⟩⟩)
theorem rd_len {k : Nat} {xs : List (List D)} {c : C} {K : Nat → Prop} (h : Rd S [.sl k xs] [c]) (hK : xs.length ≤ maxLen → K xs.length) : LenP S c K := by
  obtain ⟨ids, h⟩ := h.one
  obtain ⟨rows, js, h1, h2, h3, h4⟩ := h.elems
  unfold LenP
  exact ⟨rows, h1, by rw [h2.len]; exact hK h4⟩
theorem rd_idx {k : Nat} {xs : List (List D)} {c : C} {n : Nat} {i : Int} {K : Prop} (h : Rd S [.sl k xs] [c]) (hk : ∀ x ∈ xs, x.length = n) (h0 : 0 ≤ i ∧ i.toNat < xs.length) (hK : K) : IdxP S c n i K := by
  obtain ⟨ids, h⟩ := h.one
  obtain ⟨rows, js, h1, h2, h3, h4⟩ := h.elems
  obtain ⟨cs, j, k1, k2, k3⟩ := h2.at i.toNat _ (List.getElem?_eq_getElem h0.2)
  unfold IdxP
  exact ⟨rows, cs, h1, h0.1, k1, by rw [k2.len]; exact hk _ (List.getElem_mem _), hK⟩
theorem rd_load {k : Nat} {xs : List (List D)} {c : C} {i : Int} {K : List C → Prop} (h : Rd S [.sl k xs] [c]) (h0 : 0 ≤ i ∧ i.toNat < xs.length) (hK : ∀ cs, Rd S (xs[i.toNat]'h0.2) cs → K cs) : LoadP S c i K := by
  obtain ⟨ids, h⟩ := h.one
  obtain ⟨rows, js, h1, h2, h3, h4⟩ := h.elems
  obtain ⟨cs, j, k1, k2, k3⟩ := h2.at i.toNat _ (List.getElem?_eq_getElem h0.2)
  exact loadP_intro h1 k1 h0.1 (hK cs (.of k2))
theorem rd_lenm {α : Type} {f : α → List D} {k : Nat} {l : List α} {c : C} {K : Nat → Prop} (h : Rd S [.sl k (l.map f)] [c]) (hK : l.length ≤ maxLen → K l.length) : LenP S c K := by
  refine rd_len h fun h => ?_
  simp only [List.length_map] at h ⊢
  exact hK h
theorem rd_idxm {α : Type} {f : α → List D} {k : Nat} {l : List α} {c : C} {n : Nat} {i : Int} {K : Prop} (h : Rd S [.sl k (l.map f)] [c]) (hk : ∀ x, (f x).length = n) (h0 : 0 ≤ i ∧ i.toNat < l.length) (hK : K) : IdxP S c n i K :=
  rd_idx h (fun x hx => by obtain ⟨y, _, rfl⟩ := List.mem_map.1 hx; exact hk y) (by simpa using h0) hK
theorem rd_loadm {α : Type} {f : α → List D} {k : Nat} {l : List α} {c : C} {i : Int} {K : List C → Prop} (h : Rd S [.sl k (l.map f)] [c]) (h0 : 0 ≤ i ∧ i.toNat < l.length) (hK : ∀ cs, Rd S (f (l[i.toNat]'h0.2)) cs → K cs) : LoadP S c i K :=
  rd_load h (by simpa using h0) fun cs hc => hK cs (by simpa using hc)
theorem rd_cut {k : Nat} {xs : List (List D)} {c : C} {lo hi : Int} (h : Rd S [.sl k xs] [c]) (h0 : 0 ≤ lo ∧ lo ≤ hi ∧ hi ≤ xs.length) : Rd S [.sl k ((xs.drop lo.toNat).take (hi.toNat - lo.toNat))] [cutC c lo hi] := by
  obtain ⟨ids, h⟩ := h.one
  unfold Rep at h
  obtain ⟨hl, h⟩ := h
  have part : ∀ {ys : List (List D)} {rows : List (List C)} {js : List Nat} (a b : Nat), Rep2 false S ys rows js → ∃ js', Rep2 false S ((ys.drop a).take b) ((rows.drop a).take b) js' := by
    intro ys rows js a b g
    have e : ys = ys.take a ++ ((ys.drop a).take b ++ (ys.drop a).drop b) := by rw [List.take_append_drop, List.take_append_drop]
    rw [e] at g
    obtain ⟨r1, r2, i, j, g1, g2, g3, g4⟩ := g.split
    obtain ⟨r3, r4, i', j', k1, k2, k3, k4⟩ := g4.split
    subst g1; subst k1
    have l1 := g3.len
    have l3 := k3.len
    refine ⟨i', ?_⟩
    have : List.take b (List.drop a (r1 ++ (r3 ++ r4))) = r3 := by
      by_cases ha : a ≤ ys.length
      · have h1 : r1.length = a := by rw [l1, List.length_take]; omega
        rw [List.drop_append_of_le_length (by omega), List.drop_eq_nil_of_le (by omega), List.nil_append]
        by_cases hb : b ≤ ys.length - a
        · have h2 : r3.length = b := by rw [l3, List.length_take, List.length_drop]; omega
          rw [List.take_append_of_le_length (by omega), List.take_of_length_le (by omega)]
        · have h2 : r4 = [] := List.eq_nil_of_length_eq_zero (by rw [k4.len, List.length_drop, List.length_drop]; omega)
          subst h2
          rw [List.append_nil, List.take_of_length_le (by rw [l3, List.length_take, List.length_drop]; omega)]
      · have h2 : r3 = [] := List.eq_nil_of_length_eq_zero (by rw [l3, List.length_take, List.length_drop]; omega)
        have h3 : r4 = [] := List.eq_nil_of_length_eq_zero (by rw [k4.len, List.length_drop, List.length_drop]; omega)
        subst h2; subst h3
        rw [List.drop_eq_nil_of_le (by simp [l1]; omega)]; simp
    rw [this]; exact k3
  rcases h with ⟨h1, h2, h3⟩ | ⟨id, o, t, row, js, h1, h2, h3, h4, h5, h6, h7, h8⟩
  · subst h1
    refine rd_one (q := false) (ids := []) ?_
    unfold Rep
    refine ⟨by simp, .inl ⟨by simp, ?_, rfl⟩⟩
    rcases h2 with rfl | rfl <;> simp [cutC]
  · subst h1
    obtain ⟨js', g⟩ := part lo.toNat (hi.toNat - lo.toNat) h8
    have hlen : ((xs.drop lo.toNat).take (hi.toNat - lo.toNat)).length = hi.toNat - lo.toNat := by simp; omega
    refine rd_one (q := false) (ids := id :: js') ?_
    unfold Rep
    refine ⟨by omega, .inr ⟨id, o + lo.toNat, t, row, js', by rw [hlen]; rfl, rfl, h3, h4, h5, by omega, (by intro h; cases h), ?_⟩⟩
    rw [hlen]
    have e : List.take (hi.toNat - lo.toNat) (List.drop (o + lo.toNat) row.xs) = List.take (hi.toNat - lo.toNat) (List.drop lo.toNat (List.take xs.length (List.drop o row.xs))) := by
      rw [List.drop_take, List.take_take, List.drop_drop]
      congr 1
      omega
    rw [e]; exact g
theorem rd_sli {k n : Nat} {xs : List (List D)} {c : C} {lo hi : Int} {K : C → Prop} (h : Rd S [.sl k xs] [c]) (hk : ∀ x ∈ xs, x.length = n) (h0 : 0 ≤ lo ∧ lo ≤ hi ∧ hi ≤ xs.length)
    (hK : ∀ c', Rd S [.sl k ((xs.drop lo.toNat).take (hi.toNat - lo.toNat))] [c'] → K c') : SliP S c n lo hi K := by
  obtain ⟨ids, g⟩ := h.one
  obtain ⟨rows, js, h1, h2, h3, h4⟩ := g.elems
  have hl := h2.len
  unfold SliP
  refine ⟨rows, h1, fun y hy => ?_, h0.1, h0.2.1, by omega, hK _ (rd_cut h h0)⟩
  obtain ⟨i, hi, rfl⟩ := List.mem_iff_getElem.1 hy
  obtain ⟨cs, j, k1, k2, _⟩ := h2.at i _ (List.getElem?_eq_getElem (by omega))
  rw [List.getElem?_eq_getElem hi] at k1; cases k1
  rw [k2.len]; exact hk _ (List.getElem_mem _)
theorem fr_nil {lo : Nat} : Fr lo S [] [] := ⟨[], by rw [repL_nil]; exact ⟨rfl, rfl⟩, List.nodup_nil, fun _ h => (by cases h)⟩
theorem fr_x {lo : Nat} {c : C} {ds : List D} {cs : List C} (h : Fr lo S ds cs) : Fr lo S (.x c :: ds) (c :: cs) := by
  obtain ⟨ids, h, h1, h2⟩ := h
  exact ⟨[] ++ ids, by rw [repL_cons]; exact ⟨c, cs, [], ids, rfl, rfl, by rw [rep_x]; exact ⟨rfl, rfl⟩, h⟩, by simpa using h1, by simpa using h2⟩
theorem Fr.one {lo : Nat} {d : D} {c : C} (h : Fr lo S [d] [c]) : ∃ ids, Rep true S d c ids ∧ ids.Nodup ∧ ∀ id ∈ ids, lo ≤ id := by
  obtain ⟨ids, h, hn, hlo⟩ := h
  rw [repL_cons] at h
  obtain ⟨c', cs', i, j, h1, h2, h3, h4⟩ := h
  simp only [List.cons.injEq] at h1
  obtain ⟨h1, _⟩ := h1
  rw [repL_nil] at h4
  subst h1
  rw [h4.2, List.append_nil] at h2
  subst h2
  exact ⟨ids, h3, hn, hlo⟩
theorem fr_one {lo : Nat} {d : D} {c : C} {ids : List Nat} (h : Rep true S d c ids) (hn : ids.Nodup) (hlo : ∀ id ∈ ids, lo ≤ id) : Fr lo S [d] [c] :=
  ⟨ids ++ [], by rw [repL_cons]; exact ⟨c, [], ids, [], rfl, rfl, h, by rw [repL_nil]; exact ⟨rfl, rfl⟩⟩, by simpa using hn, by simpa using hlo⟩
theorem fr_sl {lo mid : Nat} {d : D} {c : C} {ds : List D} {cs : List C} (h0 : ∃ ids, Rep true S d c ids ∧ ids.Nodup ∧ ∀ id ∈ ids, lo ≤ id ∧ id < mid) (h : Fr mid S ds cs) (hm : lo ≤ mid) : Fr lo S (d :: ds) (c :: cs) := by
  obtain ⟨i, h0, n0, l0⟩ := h0
  obtain ⟨j, h, n1, l1⟩ := h
  refine ⟨i ++ j, by rw [repL_cons]; exact ⟨c, cs, i, j, rfl, rfl, h0, h⟩, ?_, fun id hi => ?_⟩
  · rw [List.nodup_append]
    exact ⟨n0, n1, fun a ha b hb e => by have := (l0 a ha).2; have := l1 b hb; omega⟩
  · rcases List.mem_append.1 hi with hi | hi
    · exact (l0 id hi).1
    · exact Nat.le_trans hm (l1 id hi)
theorem fr_empty {lo k : Nat} {c : C} (h : c = .nil ∨ c = .zc) : Fr lo S [.sl k []] [c] :=
  fr_one (ids := []) (by unfold Rep; exact ⟨Nat.zero_le _, .inl ⟨rfl, h, rfl⟩⟩) List.nodup_nil fun _ h => (by cases h)
theorem fr_push {lo k : Nat} {xs : List (List D)} {rows : List (List C)} {js : List Nat} {n : Nat} (h : Rep2 true S xs rows js) (hn : js.Nodup) (hl : ∀ id ∈ js, lo ≤ id) (hlo : lo ≤ S.length) (hm : xs.length ≤ maxLen) (hx : n = xs.length) :
    Fr lo (S ++ [⟨true, k, rows⟩]) [.sl k xs] [.sl S.length 0 n n] := by
  subst hx
  have hlen := h.len
  refine fr_one (ids := S.length :: js) ?_ (List.nodup_cons.2 ⟨fun hi => by have := h.lt _ hi; omega, hn⟩) fun id hi => ?_
  · unfold Rep
    refine ⟨hm, .inr ⟨S.length, 0, xs.length, ⟨true, k, rows⟩, js, rfl, rfl, by simp, rfl, hlen, by omega, fun _ => ⟨rfl, rfl, rfl⟩, ?_⟩⟩
    rw [List.drop_zero, List.take_of_length_le (by simp [hlen])]
    exact h.frame fun id hi => (Ext.push S _).at (h.lt id hi)
  · rcases List.mem_cons.1 hi with rfl | hi
    · exact hlo
    · exact hl id hi
def Flat : List D → Prop
  | [] => True
  | .x _ :: r => Flat r
  | .sl _ _ :: _ => False
def flatC : List D → List C
  | [] => []
  | .x c :: r => c :: flatC r
  | .sl _ _ :: r => .junk :: flatC r
theorem repL_flat : ∀ {ds : List D}, Flat ds → RepL q S ds (flatC ds) []
  | [], _ => by rw [repL_nil]; exact ⟨rfl, rfl⟩
  | .x c :: r, h => by rw [repL_cons]; exact ⟨c, flatC r, [], [], rfl, rfl, by rw [rep_x]; exact ⟨rfl, rfl⟩, repL_flat (ds := r) h⟩
  | .sl _ _ :: _, h => h.elim
theorem RepL.flat : ∀ {ds : List D} {cs : List C} {ids : List Nat}, Flat ds → RepL q S ds cs ids → cs = flatC ds ∧ ids = []
  | [], cs, ids, _, h => by rw [repL_nil] at h; exact h
  | .x c0 :: r, cs, ids, hf, h => by
    rw [repL_cons] at h
    obtain ⟨c, cs', i, j, h1, h2, h3, h4⟩ := h
    rw [rep_x] at h3
    obtain ⟨h5, h6⟩ := RepL.flat (ds := r) hf h4
    rw [h1, h2, h3.1, h3.2, h5, h6]; exact ⟨rfl, rfl⟩
  | .sl _ _ :: _, _, _, hf, _ => hf.elim
theorem Rd.flat {ds : List D} {cs : List C} (h : Rd S ds cs) (hf : Flat ds) : cs = flatC ds := by
  obtain ⟨ids, h⟩ := h
  exact (h.flat hf).1
theorem rep2_flat {α : Type} {f : α → List D} (hf : ∀ x, Flat (f x)) : ∀ (l : List α), Rep2 q S (l.map f) (l.map fun x => flatC (f x)) []
  | [] => by rw [List.map_nil, rep2_nil]; exact ⟨rfl, rfl⟩
  | x :: l => by rw [List.map_cons, rep2_cons]; exact ⟨_, _, [], [], rfl, rfl, repL_flat (hf x), rep2_flat hf l⟩
end
end Go.Proofs.YtlmmdpmmdmhacaaGreat
