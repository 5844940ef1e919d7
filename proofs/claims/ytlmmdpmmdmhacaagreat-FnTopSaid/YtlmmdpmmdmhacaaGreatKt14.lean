/- Data: what lies in cells and rows, as trees. Data that is written: append, a store into an element; calls that leave nothing. -/
import Derived.Test.YtlmmdpmmdmhacaaGreatKt13
namespace Go.Proofs.YtlmmdpmmdmhacaaGreat
open Go
set_option linter.unusedVariables false
set_option linter.unusedSimpArgs false
inductive D where
 | x (c : C)
 | sl (k : Nat) (xs : List (List D))
mutual
def Rep (q : Bool) (S : Store) : D → C → List Nat → Prop
 | .x c0, c, ids => c = c0 ∧ ids = []
 | .sl k xs, c, ids => xs.length ≤ maxLen ∧ ((xs = [] ∧ (c = .nil ∨ c = .zc) ∧ ids = []) ∨ ∃ id o t row js, c = .sl id o xs.length t ∧ ids = id :: js ∧ S[id]? = some row ∧ row.k = k ∧ row.xs.length = t ∧ o + xs.length ≤ t ∧
    (q = true → o = 0 ∧ xs.length = t ∧ row.own = true) ∧ Rep2 q S xs ((row.xs.drop o).take xs.length) js)
def RepL (q : Bool) (S : Store) : List D → List C → List Nat → Prop
 | [], cs, ids => cs = [] ∧ ids = []
 | d :: ds, cs, ids => ∃ c cs' i j, cs = c :: cs' ∧ ids = i ++ j ∧ Rep q S d c i ∧ RepL q S ds cs' j
def Rep2 (q : Bool) (S : Store) : List (List D) → List (List C) → List Nat → Prop
 | [], rows, ids => rows = [] ∧ ids = []
 | x :: xs, rows, ids => ∃ cs rows' i j, rows = cs :: rows' ∧ ids = i ++ j ∧ RepL q S x cs i ∧ Rep2 q S xs rows' j
end
section
variable {q : Bool} {S S' : Store}
mutual
theorem Rep.frame : ∀ {d : D} {c : C} {ids : List Nat}, Rep q S d c ids → (∀ id ∈ ids, S'[id]? = S[id]?) → Rep q S' d c ids
 | .x c0, c, ids, h, _ => by unfold Rep at h ⊢; exact h
 | .sl k xs, c, ids, h, hf => by
   unfold Rep at h ⊢
   obtain ⟨hl, h⟩ := h
   refine ⟨hl, ?_⟩
   rcases h with h | ⟨id, o, t, row, js, h1, h2, h3, h4, h5, h6, h7, h8⟩
   ·exact .inl h
   ·subst h2
    exact .inr ⟨id, o, t, row, js, h1, rfl, by rw [hf id (by simp)]; exact h3, h4, h5, h6, h7, Rep2.frame h8 (fun i hi => hf i (by simp [hi]))⟩
theorem RepL.frame : ∀ {ds : List D} {cs : List C} {ids : List Nat}, RepL q S ds cs ids → (∀ id ∈ ids, S'[id]? = S[id]?) → RepL q S' ds cs ids
 | [], cs, ids, h, _ => by unfold RepL at h ⊢; exact h
 | d :: ds, cs, ids, h, hf => by
   unfold RepL at h ⊢
   obtain ⟨c, cs', i, j, h1, h2, h3, h4⟩ := h
   subst h2
   exact ⟨c, cs', i, j, h1, rfl, Rep.frame h3 (fun k hk => hf k (by simp [hk])), RepL.frame h4 (fun k hk => hf k (by simp [hk]))⟩
theorem Rep2.frame : ∀ {xs : List (List D)} {rows : List (List C)} {ids : List Nat}, Rep2 q S xs rows ids → (∀ id ∈ ids, S'[id]? = S[id]?) → Rep2 q S' xs rows ids
 | [], rows, ids, h, _ => by unfold Rep2 at h ⊢; exact h
 | x :: xs, rows, ids, h, hf => by
   unfold Rep2 at h ⊢
   obtain ⟨cs, rows', i, j, h1, h2, h3, h4⟩ := h
   subst h2
   exact ⟨cs, rows', i, j, h1, rfl, RepL.frame h3 (fun k hk => hf k (by simp [hk])), Rep2.frame h4 (fun k hk => hf k (by simp [hk]))⟩
end
mutual
theorem Rep.lt : ∀ {d : D} {c : C} {ids : List Nat}, Rep q S d c ids → ∀ id ∈ ids, id < S.length
 | .x c0, c, ids, h, id, hi => by unfold Rep at h; rw [h.2] at hi; cases hi
 | .sl k xs, c, ids, h, id, hi => by
   unfold Rep at h
   rcases h.2 with h | ⟨id', o, t, row, js, h1, h2, h3, h4, h5, h6, h7, h8⟩
   ·rw [h.2.2] at hi; cases hi
   ·subst h2
    rcases List.mem_cons.1 hi with rfl | hi
    ·exact (List.getElem?_eq_some_iff.1 h3).1
    ·exact Rep2.lt h8 id hi
theorem RepL.lt : ∀ {ds : List D} {cs : List C} {ids : List Nat}, RepL q S ds cs ids → ∀ id ∈ ids, id < S.length
 | [], cs, ids, h, id, hi => by unfold RepL at h; rw [h.2] at hi; cases hi
 | d :: ds, cs, ids, h, id, hi => by
   unfold RepL at h
   obtain ⟨c, cs', i, j, h1, h2, h3, h4⟩ := h
   subst h2
   rcases List.mem_append.1 hi with hi | hi
   ·exact Rep.lt h3 id hi
   ·exact RepL.lt h4 id hi
theorem Rep2.lt : ∀ {xs : List (List D)} {rows : List (List C)} {ids : List Nat}, Rep2 q S xs rows ids → ∀ id ∈ ids, id < S.length
 | [], rows, ids, h, id, hi => by unfold Rep2 at h; rw [h.2] at hi; cases hi
 | x :: xs, rows, ids, h, id, hi => by
   unfold Rep2 at h
   obtain ⟨cs, rows', i, j, h1, h2, h3, h4⟩ := h
   subst h2
   rcases List.mem_append.1 hi with hi | hi
   ·exact RepL.lt h3 id hi
   ·exact Rep2.lt h4 id hi
end
mutual
theorem Rep.read : ∀ {d : D} {c : C} {ids : List Nat}, Rep q S d c ids → Rep false S d c ids
 | .x c0, c, ids, h => by unfold Rep at h ⊢; exact h
 | .sl k xs, c, ids, h => by
   unfold Rep at h ⊢
   obtain ⟨hl, h⟩ := h
   refine ⟨hl, ?_⟩
   rcases h with h | ⟨id, o, t, row, js, h1, h2, h3, h4, h5, h6, h7, h8⟩
   ·exact .inl h
   ·exact .inr ⟨id, o, t, row, js, h1, h2, h3, h4, h5, h6, (by intro h; cases h), Rep2.read h8⟩
theorem RepL.read : ∀ {ds : List D} {cs : List C} {ids : List Nat}, RepL q S ds cs ids → RepL false S ds cs ids
 | [], cs, ids, h => by unfold RepL at h ⊢; exact h
 | d :: ds, cs, ids, h => by
   unfold RepL at h ⊢
   obtain ⟨c, cs', i, j, h1, h2, h3, h4⟩ := h
   exact ⟨c, cs', i, j, h1, h2, Rep.read h3, RepL.read h4⟩
theorem Rep2.read : ∀ {xs : List (List D)} {rows : List (List C)} {ids : List Nat}, Rep2 q S xs rows ids → Rep2 false S xs rows ids
 | [], rows, ids, h => by unfold Rep2 at h ⊢; exact h
 | x :: xs, rows, ids, h => by
   unfold Rep2 at h ⊢
   obtain ⟨cs, rows', i, j, h1, h2, h3, h4⟩ := h
   exact ⟨cs, rows', i, j, h1, h2, RepL.read h3, Rep2.read h4⟩
end
theorem zce {cs : List C} {ids : List Nat} : RepL q S [] cs ids ↔ cs = [] ∧ ids = [] := by rw [RepL]
theorem zaw {d : D} {ds : List D} {cs : List C} {ids : List Nat} : RepL q S (d :: ds) cs ids ↔ ∃ c cs' i j, cs = c :: cs' ∧ ids = i ++ j ∧ Rep q S d c i ∧ RepL q S ds cs' j := by rw [RepL]
theorem zse {c0 c : C} {ids : List Nat} : Rep q S (.x c0) c ids ↔ c = c0 ∧ ids = [] := by rw [Rep]
theorem zc6 {cs : List (List C)} {ids : List Nat} : Rep2 q S [] cs ids ↔ cs = [] ∧ ids = [] := by rw [Rep2]
theorem zbn {d : List D} {ds : List (List D)} {cs : List (List C)} {ids : List Nat} : Rep2 q S (d :: ds) cs ids ↔ ∃ c cs' i j, cs = c :: cs' ∧ ids = i ++ j ∧ RepL q S d c i ∧ Rep2 q S ds cs' j := by rw [Rep2]
theorem RepL.len : ∀ {ds : List D} {cs : List C} {ids : List Nat}, RepL q S ds cs ids → cs.length = ds.length
 | [], cs, ids, h => by rw [zce] at h; rw [h.1]; rfl
 | d :: ds, cs, ids, h => by
   rw [zaw] at h
   obtain ⟨c, cs', i, j, h1, h2, h3, h4⟩ := h
   subst h1; simp [h4.len]
theorem Rep2.len : ∀ {xs : List (List D)} {rows : List (List C)} {ids : List Nat}, Rep2 q S xs rows ids → rows.length = xs.length
 | [], rows, ids, h => by rw [zc6] at h; rw [h.1]; rfl
 | x :: xs, rows, ids, h => by
   rw [zbn] at h
   obtain ⟨c, cs', i, j, h1, h2, h3, h4⟩ := h
   subst h1; simp [h4.len]
theorem Rep2.at : ∀ {xs : List (List D)} {rows : List (List C)} {ids : List Nat}, Rep2 q S xs rows ids → ∀ (n : Nat) x, xs[n]? = some x → ∃ cs i, rows[n]? = some cs ∧ RepL q S x cs i ∧ ∀ id ∈ i, id ∈ ids
 | [], rows, ids, h, n, x, hx => by simp at hx
 | y :: xs, rows, ids, h, n, x, hx => by
   rw [zbn] at h
   obtain ⟨c, cs', i, j, h1, h2, h3, h4⟩ := h
   subst h1; subst h2
   cases n with
   | zero => simp at hx; subst hx; exact ⟨c, i, rfl, h3, fun id hi => by simp [hi]⟩
   | succ n =>
     obtain ⟨cs, i', k1, k2, k3⟩ := h4.at n x (by simpa using hx)
     exact ⟨cs, i', by simpa using k1, k2, fun id hi => by simp [k3 id hi]⟩
theorem Rep2.append : ∀ {xs ys : List (List D)} {rows rows' : List (List C)} {ids ids' : List Nat}, Rep2 q S xs rows ids → Rep2 q S ys rows' ids' → Rep2 q S (xs ++ ys) (rows ++ rows') (ids ++ ids')
 | [], ys, rows, rows', ids, ids', h, g => by rw [zc6] at h; rw [h.1, h.2]; exact g
 | x :: xs, ys, rows, rows', ids, ids', h, g => by
   rw [zbn] at h
   obtain ⟨c, cs', i, j, h1, h2, h3, h4⟩ := h
   subst h1; subst h2
   rw [List.cons_append, zbn]
   exact ⟨c, cs' ++ rows', i, j ++ ids', rfl, by simp, h3, h4.append g⟩
theorem Rep2.split : ∀ {xs ys : List (List D)} {rows : List (List C)} {ids : List Nat}, Rep2 q S (xs ++ ys) rows ids → ∃ r1 r2 i j, rows = r1 ++ r2 ∧ ids = i ++ j ∧ Rep2 q S xs r1 i ∧ Rep2 q S ys r2 j
 | [], ys, rows, ids, h => ⟨[], rows, [], ids, rfl, rfl, by rw [zc6]; exact ⟨rfl, rfl⟩, h⟩
 | x :: xs, ys, rows, ids, h => by
   rw [List.cons_append, zbn] at h
   obtain ⟨c, cs', i, j, h1, h2, h3, h4⟩ := h
   obtain ⟨r1, r2, i', j', k1, k2, k3, k4⟩ := h4.split
   subst h1; subst h2; subst k1; subst k2
   refine ⟨c :: r1, r2, i ++ i', j', rfl, by simp, ?_, k4⟩
   rw [zbn]
   exact ⟨c, r1, i, i', rfl, rfl, h3, k3⟩
theorem Rep.elems {k : Nat} {xs : List (List D)} {c : C} {ids : List Nat} (h : Rep q S (.sl k xs) c ids) : ∃ rows js, elems S c = some rows ∧ Rep2 q S xs rows js ∧ (∀ id ∈ js, id ∈ ids) ∧ xs.length ≤ maxLen := by
 unfold Rep at h
 obtain ⟨hl, h⟩ := h
 rcases h with ⟨h1, h2, h3⟩ | ⟨id, o, t, row, js, h1, h2, h3, h4, h5, h6, h7, h8⟩
 ·subst h1
  refine ⟨[], [], ?_, by rw [zc6]; exact ⟨rfl, rfl⟩, fun id hi => (by cases hi), hl⟩
  rcases h2 with rfl | rfl <;> rfl
 ·subst h1
  refine ⟨_, js, ?_, h8, fun id hi => by rw [h2]; simp [hi], hl⟩
  simp [Go.Proofs.YtlmmdpmmdmhacaaGreat.elems, h3, h5, h6]
def Rd (S : Store) (ds : List D) (cs : List C) : Prop := ∃ ids, RepL false S ds cs ids
def Fr (lo : Nat) (S : Store) (ds : List D) (cs : List C) : Prop := ∃ ids, RepL true S ds cs ids ∧ ids.Nodup ∧ ∀ id ∈ ids, lo ≤ id
def Ext (S S' : Store) : Prop := ∃ J, S' = S ++ J
theorem Ext.refl (S : Store) : Ext S S := ⟨[], by simp⟩
theorem Ext.trans {S1 S2 S3 : Store} (h : Ext S1 S2) (g : Ext S2 S3) : Ext S1 S3 := by
 obtain ⟨J, rfl⟩ := h; obtain ⟨J', rfl⟩ := g; exact ⟨J ++ J', by simp⟩
theorem Ext.len (h : Ext S S') : S.length ≤ S'.length := by obtain ⟨J, rfl⟩ := h; simp
theorem Ext.at (h : Ext S S') {id : Nat} (hi : id < S.length) : S'[id]? = S[id]? := by obtain ⟨J, rfl⟩ := h; rw [List.getElem?_append_left hi]
theorem Ext.push (S : Store) (r : Row) : Ext S (S ++ [r]) := ⟨[r], rfl⟩
theorem zh7 (hl : S.length ≤ S'.length) (h : ∀ id, id < S.length → S'[id]? = S[id]?) : Ext S S' := by
 refine ⟨S'.drop S.length, List.ext_getElem? fun i => ?_⟩
 by_cases hi : i < S.length
 ·rw [h i hi, List.getElem?_append_left hi]
 ·rw [List.getElem?_append_right (by omega), List.getElem?_drop]
  congr 1; omega
theorem Ext.set (h : Ext S S') {id : Nat} (hi : S.length ≤ id) (r : Row) : Ext S (S'.set id r) :=
 zh7 (by simpa using h.len) fun i hl => by rw [List.getElem?_set_ne (by omega), h.at hl]
theorem Rd.ext {ds : List D} {cs : List C} (h : Rd S ds cs) (e : Ext S S') : Rd S' ds cs := by
 obtain ⟨ids, h⟩ := h
 exact ⟨ids, h.frame fun id hi => e.at (h.lt id hi)⟩
theorem Rd.of {ds : List D} {cs : List C} {ids : List Nat} (h : RepL q S ds cs ids) : Rd S ds cs := ⟨ids, h.read⟩
theorem Fr.rd {lo : Nat} {ds : List D} {cs : List C} (h : Fr lo S ds cs) : Rd S ds cs := by obtain ⟨ids, h, _⟩ := h; exact .of h
theorem Fr.ext {lo : Nat} {ds : List D} {cs : List C} (h : Fr lo S ds cs) (e : Ext S S') : Fr lo S' ds cs := by
 obtain ⟨ids, h, h1, h2⟩ := h
 exact ⟨ids, h.frame fun id hi => e.at (h.lt id hi), h1, h2⟩
theorem Fr.mono {lo lo' : Nat} {ds : List D} {cs : List C} (h : Fr lo S ds cs) (e : lo' ≤ lo) : Fr lo' S ds cs := by
 obtain ⟨ids, h, h1, h2⟩ := h
 exact ⟨ids, h, h1, fun id hi => Nat.le_trans e (h2 id hi)⟩
theorem zwf : Rd S [] [] := ⟨[], by rw [zce]; exact ⟨rfl, rfl⟩⟩
theorem rd_x {c : C} {ds : List D} {cs : List C} (h : Rd S ds cs) : Rd S (.x c :: ds) (c :: cs) := by
 obtain ⟨ids, h⟩ := h
 exact ⟨[] ++ ids, by rw [zaw]; exact ⟨c, cs, [], ids, rfl, rfl, by rw [zse]; exact ⟨rfl, rfl⟩, h⟩⟩
theorem zlg {d : D} {c : C} {ds : List D} {cs : List C} (h0 : Rd S [d] [c]) (h : Rd S ds cs) : Rd S (d :: ds) (c :: cs) := by
 obtain ⟨i, h0⟩ := h0
 obtain ⟨j, h⟩ := h
 rw [zaw] at h0
 obtain ⟨c', cs', i', j', h1, h2, h3, h4⟩ := h0
 rw [zce] at h4
 simp only [List.cons.injEq] at h1
 obtain ⟨h1, _⟩ := h1
 subst h1
 exact ⟨i' ++ j, by rw [zaw]; exact ⟨c, cs, i', j, rfl, rfl, h3, h⟩⟩
theorem Rd.cons_x {c0 : C} {ds : List D} {cs : List C} (h : Rd S (.x c0 :: ds) cs) : ∃ cs', cs = c0 :: cs' ∧ Rd S ds cs' := by
 obtain ⟨ids, h⟩ := h
 rw [zaw] at h
 obtain ⟨c, cs', i, j, h1, h2, h3, h4⟩ := h
 rw [zse] at h3
 exact ⟨cs', by rw [h1, h3.1], j, h4⟩
theorem Rd.cons {d : D} {ds : List D} {cs : List C} (h : Rd S (d :: ds) cs) : ∃ c cs', cs = c :: cs' ∧ Rd S [d] [c] ∧ Rd S ds cs' := by
 obtain ⟨ids, h⟩ := h
 rw [zaw] at h
 obtain ⟨c, cs', i, j, h1, h2, h3, h4⟩ := h
 exact ⟨c, cs', h1, ⟨i ++ [], by rw [zaw]; exact ⟨c, [], i, [], rfl, rfl, h3, by rw [zce]; exact ⟨rfl, rfl⟩⟩⟩, j, h4⟩
theorem Rd.nil {cs : List C} (h : Rd S [] cs) : cs = [] := by
 obtain ⟨ids, h⟩ := h
 rw [zce] at h
 exact h.1
theorem Rd.one {d : D} {c : C} (h : Rd S [d] [c]) : ∃ ids, Rep false S d c ids := by
 obtain ⟨ids, h⟩ := h
 rw [zaw] at h
 obtain ⟨c', cs', i, j, h1, h2, h3, h4⟩ := h
 simp only [List.cons.injEq] at h1
 obtain ⟨h1, _⟩ := h1
 subst h1
 exact ⟨i, h3⟩
theorem zkz {d : D} {c : C} {ids : List Nat} (h : Rep q S d c ids) : Rd S [d] [c] :=
 .of (q := q) (ids := ids ++ []) (by rw [zaw]; exact ⟨c, [], ids, [], rfl, rfl, h, by rw [zce]; exact ⟨rfl, rfl⟩⟩)
theorem zwi {k : Nat} {xs : List (List D)} {c : C} {K : Nat → Prop} (h : Rd S [.sl k xs] [c]) (hK : xs.length ≤ maxLen → K xs.length) : LenP S c K := by
 obtain ⟨ids, h⟩ := h.one
 obtain ⟨rows, js, h1, h2, h3, h4⟩ := h.elems
 unfold LenP
 exact ⟨rows, h1, by rw [h2.len]; exact hK h4⟩
theorem z60 {k : Nat} {xs : List (List D)} {c : C} {n : Nat} {i : Int} {K : Prop} (h : Rd S [.sl k xs] [c]) (hk : ∀ x ∈ xs, x.length = n) (h0 : 0 ≤ i ∧ i.toNat < xs.length) (hK : K) : IdxP S c n i K := by
 obtain ⟨ids, h⟩ := h.one
 obtain ⟨rows, js, h1, h2, h3, h4⟩ := h.elems
 obtain ⟨cs, j, k1, k2, k3⟩ := h2.at i.toNat _ (List.getElem?_eq_getElem h0.2)
 unfold IdxP
 exact ⟨rows, cs, h1, h0.1, k1, by rw [k2.len]; exact hk _ (List.getElem_mem _), hK⟩
theorem z15 {k : Nat} {xs : List (List D)} {c : C} {i : Int} {K : List C → Prop} (h : Rd S [.sl k xs] [c]) (h0 : 0 ≤ i ∧ i.toNat < xs.length) (hK : ∀ cs, Rd S (xs[i.toNat]'h0.2) cs → K cs) : LoadP S c i K := by
 obtain ⟨ids, h⟩ := h.one
 obtain ⟨rows, js, h1, h2, h3, h4⟩ := h.elems
 obtain ⟨cs, j, k1, k2, k3⟩ := h2.at i.toNat _ (List.getElem?_eq_getElem h0.2)
 exact zey h1 k1 h0.1 (hK cs (.of k2))
theorem zdp {α : Type} {f : α → List D} {k : Nat} {l : List α} {c : C} {K : Nat → Prop} (h : Rd S [.sl k (l.map f)] [c]) (hK : l.length ≤ maxLen → K l.length) : LenP S c K := by
 refine zwi h fun h => ?_
 simp only [List.length_map] at h ⊢
 exact hK h
theorem z4u {α : Type} {f : α → List D} {k : Nat} {l : List α} {c : C} {n : Nat} {i : Int} {K : Prop} (h : Rd S [.sl k (l.map f)] [c]) (hk : ∀ x, (f x).length = n) (h0 : 0 ≤ i ∧ i.toNat < l.length) (hK : K) : IdxP S c n i K :=
 z60 h (fun x hx => by obtain ⟨y, _, rfl⟩ := List.mem_map.1 hx; exact hk y) (by simpa using h0) hK
theorem zaz {α : Type} {f : α → List D} {k : Nat} {l : List α} {c : C} {i : Int} {K : List C → Prop} (h : Rd S [.sl k (l.map f)] [c]) (h0 : 0 ≤ i ∧ i.toNat < l.length) (hK : ∀ cs, Rd S (f (l[i.toNat]'h0.2)) cs → K cs) : LoadP S c i K :=
 z15 h (by simpa using h0) fun cs hc => hK cs (by simpa using hc)
theorem z4k {k : Nat} {xs : List (List D)} {c : C} {lo hi : Int} (h : Rd S [.sl k xs] [c]) (h0 : 0 ≤ lo ∧ lo ≤ hi ∧ hi ≤ xs.length) : Rd S [.sl k ((xs.drop lo.toNat).take (hi.toNat - lo.toNat))] [cutC c lo hi] := by
 obtain ⟨ids, h⟩ := h.one
 unfold Rep at h
 obtain ⟨hl, h⟩ := h
 have part : ∀ {ys : List (List D)} {rows : List (List C)} {js : List Nat} (a b : Nat), Rep2 false S ys rows js → ∃ js', Rep2 false S ((ys.drop a).take b) ((rows.drop a).take b) js' := by
  intro ys rows js a b g
  have e : ys = ys.take a ++ ((ys.drop a).take b ++ (ys.drop a).drop b) := by rw [List.take_append_drop, List.take_append_drop]
  rw [e] at g
  obtain ⟨r1, r2, i, j, g1, g2, g3, g4⟩ := g.split
  obtain ⟨r3, r4, i', j', k1, k2, k3, k4⟩ := g4.split
  subst g1; subst k1
  have l1 := g3.len
  have l3 := k3.len
  refine ⟨i', ?_⟩
  have : List.take b (List.drop a (r1 ++ (r3 ++ r4))) = r3 := by
   by_cases ha : a ≤ ys.length
   ·have h1 : r1.length = a := by rw [l1, List.length_take]; omega
    rw [List.drop_append_of_le_length (by omega), List.drop_eq_nil_of_le (by omega), List.nil_append]
    by_cases hb : b ≤ ys.length - a
    ·have h2 : r3.length = b := by rw [l3, List.length_take, List.length_drop]; omega
     rw [List.take_append_of_le_length (by omega), List.take_of_length_le (by omega)]
    ·have h2 : r4 = [] := List.eq_nil_of_length_eq_zero (by rw [k4.len, List.length_drop, List.length_drop]; omega)
     subst h2
     rw [List.append_nil, List.take_of_length_le (by rw [l3, List.length_take, List.length_drop]; omega)]
   ·have h2 : r3 = [] := List.eq_nil_of_length_eq_zero (by rw [l3, List.length_take, List.length_drop]; omega)
    have h3 : r4 = [] := List.eq_nil_of_length_eq_zero (by rw [k4.len, List.length_drop, List.length_drop]; omega)
    subst h2; subst h3
    rw [List.drop_eq_nil_of_le (by simp [l1]; omega)]; simp
  rw [this]; exact k3
 rcases h with ⟨h1, h2, h3⟩ | ⟨id, o, t, row, js, h1, h2, h3, h4, h5, h6, h7, h8⟩
 ·subst h1
  refine zkz (q := false) (ids := []) ?_
  unfold Rep
  refine ⟨by simp, .inl ⟨by simp, ?_, rfl⟩⟩
  rcases h2 with rfl | rfl <;> simp [cutC]
 ·subst h1
  obtain ⟨js', g⟩ := part lo.toNat (hi.toNat - lo.toNat) h8
  have hlen : ((xs.drop lo.toNat).take (hi.toNat - lo.toNat)).length = hi.toNat - lo.toNat := by simp; omega
  refine zkz (q := false) (ids := id :: js') ?_
  unfold Rep
  refine ⟨by omega, .inr ⟨id, o + lo.toNat, t, row, js', by rw [hlen]; rfl, rfl, h3, h4, h5, by omega, (by intro h; cases h), ?_⟩⟩
  rw [hlen]
  have e : List.take (hi.toNat - lo.toNat) (List.drop (o + lo.toNat) row.xs) = List.take (hi.toNat - lo.toNat) (List.drop lo.toNat (List.take xs.length (List.drop o row.xs))) := by
   rw [List.drop_take, List.take_take, List.drop_drop]
   congr 1
   omega
  rw [e]; exact g
theorem z6k {k n : Nat} {xs : List (List D)} {c : C} {lo hi : Int} {K : C → Prop} (h : Rd S [.sl k xs] [c]) (hk : ∀ x ∈ xs, x.length = n) (h0 : 0 ≤ lo ∧ lo ≤ hi ∧ hi ≤ xs.length)
 (hK : ∀ c', Rd S [.sl k ((xs.drop lo.toNat).take (hi.toNat - lo.toNat))] [c'] → K c') : SliP S c n lo hi K := by
 obtain ⟨ids, g⟩ := h.one
 obtain ⟨rows, js, h1, h2, h3, h4⟩ := g.elems
 have hl := h2.len
 unfold SliP
 refine ⟨rows, h1, fun y hy => ?_, h0.1, h0.2.1, by omega, hK _ (z4k h h0)⟩
 obtain ⟨i, hi, rfl⟩ := List.mem_iff_getElem.1 hy
 obtain ⟨cs, j, k1, k2, _⟩ := h2.at i _ (List.getElem?_eq_getElem (by omega))
 rw [List.getElem?_eq_getElem hi] at k1; cases k1
 rw [k2.len]; exact hk _ (List.getElem_mem _)
theorem zc2 {lo : Nat} : Fr lo S [] [] := ⟨[], by rw [zce]; exact ⟨rfl, rfl⟩, List.nodup_nil, fun _ h => (by cases h)⟩
theorem fr_x {lo : Nat} {c : C} {ds : List D} {cs : List C} (h : Fr lo S ds cs) : Fr lo S (.x c :: ds) (c :: cs) := by
 obtain ⟨ids, h, h1, h2⟩ := h
 exact ⟨[] ++ ids, by rw [zaw]; exact ⟨c, cs, [], ids, rfl, rfl, by rw [zse]; exact ⟨rfl, rfl⟩, h⟩, by simpa using h1, by simpa using h2⟩
theorem Fr.one {lo : Nat} {d : D} {c : C} (h : Fr lo S [d] [c]) : ∃ ids, Rep true S d c ids ∧ ids.Nodup ∧ ∀ id ∈ ids, lo ≤ id := by
 obtain ⟨ids, h, hn, hlo⟩ := h
 rw [zaw] at h
 obtain ⟨c', cs', i, j, h1, h2, h3, h4⟩ := h
 simp only [List.cons.injEq] at h1
 obtain ⟨h1, _⟩ := h1
 rw [zce] at h4
 subst h1
 rw [h4.2, List.append_nil] at h2
 subst h2
 exact ⟨ids, h3, hn, hlo⟩
theorem zqa {lo : Nat} {d : D} {c : C} {ids : List Nat} (h : Rep true S d c ids) (hn : ids.Nodup) (hlo : ∀ id ∈ ids, lo ≤ id) : Fr lo S [d] [c] :=
 ⟨ids ++ [], by rw [zaw]; exact ⟨c, [], ids, [], rfl, rfl, h, by rw [zce]; exact ⟨rfl, rfl⟩⟩, by simpa using hn, by simpa using hlo⟩
theorem zil {lo mid : Nat} {d : D} {c : C} {ds : List D} {cs : List C} (h0 : ∃ ids, Rep true S d c ids ∧ ids.Nodup ∧ ∀ id ∈ ids, lo ≤ id ∧ id < mid) (h : Fr mid S ds cs) (hm : lo ≤ mid) : Fr lo S (d :: ds) (c :: cs) := by
 obtain ⟨i, h0, n0, l0⟩ := h0
 obtain ⟨j, h, n1, l1⟩ := h
 refine ⟨i ++ j, by rw [zaw]; exact ⟨c, cs, i, j, rfl, rfl, h0, h⟩, ?_, fun id hi => ?_⟩
 ·rw [List.nodup_append]
  exact ⟨n0, n1, fun a ha b hb e => by have := (l0 a ha).2; have := l1 b hb; omega⟩
 ·rcases List.mem_append.1 hi with hi | hi
  ·exact (l0 id hi).1
  ·exact Nat.le_trans hm (l1 id hi)
theorem za6 {lo k : Nat} {c : C} (h : c = .nil ∨ c = .zc) : Fr lo S [.sl k []] [c] :=
 zqa (ids := []) (by unfold Rep; exact ⟨Nat.zero_le _, .inl ⟨rfl, h, rfl⟩⟩) List.nodup_nil fun _ h => (by cases h)
theorem zih {lo k : Nat} {xs : List (List D)} {rows : List (List C)} {js : List Nat} {n : Nat} (h : Rep2 true S xs rows js) (hn : js.Nodup) (hl : ∀ id ∈ js, lo ≤ id) (hlo : lo ≤ S.length) (hm : xs.length ≤ maxLen) (hx : n = xs.length) :
 Fr lo (S ++ [⟨true, k, rows⟩]) [.sl k xs] [.sl S.length 0 n n] := by
 subst hx
 have hlen := h.len
 refine zqa (ids := S.length :: js) ?_ (List.nodup_cons.2 ⟨fun hi => by have := h.lt _ hi; omega, hn⟩) fun id hi => ?_
 ·unfold Rep
  refine ⟨hm, .inr ⟨S.length, 0, xs.length, ⟨true, k, rows⟩, js, rfl, rfl, by simp, rfl, hlen, by omega, fun _ => ⟨rfl, rfl, rfl⟩, ?_⟩⟩
  rw [List.drop_zero, List.take_of_length_le (by simp [hlen])]
  exact h.frame fun id hi => (Ext.push S _).at (h.lt id hi)
 ·rcases List.mem_cons.1 hi with rfl | hi
  ·exact hlo
  ·exact hl id hi
def Flat : List D → Prop
 | [] => True
 | .x _ :: r => Flat r
 | .sl _ _ :: _ => False
def zdz : List D → List C
 | [] => []
 | .x c :: r => c :: zdz r
 | .sl _ _ :: r => .junk :: zdz r
theorem zbr : ∀ {ds : List D}, Flat ds → RepL q S ds (zdz ds) []
 | [], _ => by rw [zce]; exact ⟨rfl, rfl⟩
 | .x c :: r, h => by rw [zaw]; exact ⟨c, zdz r, [], [], rfl, rfl, by rw [zse]; exact ⟨rfl, rfl⟩, zbr (ds := r) h⟩
 | .sl _ _ :: _, h => h.elim
theorem RepL.flat : ∀ {ds : List D} {cs : List C} {ids : List Nat}, Flat ds → RepL q S ds cs ids → cs = zdz ds ∧ ids = []
 | [], cs, ids, _, h => by rw [zce] at h; exact h
 | .x c0 :: r, cs, ids, hf, h => by
   rw [zaw] at h
   obtain ⟨c, cs', i, j, h1, h2, h3, h4⟩ := h
   rw [zse] at h3
   obtain ⟨h5, h6⟩ := RepL.flat (ds := r) hf h4
   rw [h1, h2, h3.1, h3.2, h5, h6]; exact ⟨rfl, rfl⟩
 | .sl _ _ :: _, _, _, hf, _ => hf.elim
theorem Rd.flat {ds : List D} {cs : List C} (h : Rd S ds cs) (hf : Flat ds) : cs = zdz ds := by
 obtain ⟨ids, h⟩ := h
 exact (h.flat hf).1
theorem zem {α : Type} {f : α → List D} (hf : ∀ x, Flat (f x)) : ∀ (l : List α), Rep2 q S (l.map f) (l.map fun x => zdz (f x)) []
 | [] => by rw [List.map_nil, zc6]; exact ⟨rfl, rfl⟩
 | x :: l => by rw [List.map_cons, zbn]; exact ⟨_, _, [], [], rfl, rfl, zbr (hf x), zem hf l⟩
end
section
variable {q : Bool} {S S' S0 S1 : Store}
theorem Rep2.setAt : ∀ {xs : List (List D)} {rows : List (List C)} {ids : List Nat}, Rep2 q S xs rows ids → ∀ (n : Nat) x, xs[n]? = some x → ∃ cs pre mid post, rows[n]? = some cs ∧ ids = pre ++ mid ++ post ∧ RepL q S x cs mid ∧
 ∀ {S' : Store} {x' : List D} {cs' : List C} {mid' : List Nat}, (∀ id ∈ pre ++ post, S'[id]? = S[id]?) → RepL q S' x' cs' mid' → Rep2 q S' (xs.set n x') (rows.set n cs') (pre ++ mid' ++ post)
 | [], rows, ids, h, n, x, hx => by simp at hx
 | y :: xs, rows, ids, h, n, x, hx => by
   rw [zbn] at h
   obtain ⟨c, cs', i, j, h1, h2, h3, h4⟩ := h
   subst h1; subst h2
   cases n with
   | zero =>
     simp at hx; subst hx
     refine ⟨c, [], i, j, rfl, by simp, h3, fun {S' x' cs1 mid'} hf hr => ?_⟩
     rw [List.set_cons_zero, List.set_cons_zero, zbn]
     exact ⟨cs1, cs', mid', j, rfl, by simp, hr, h4.frame (fun id hi => hf id (by simp [hi]))⟩
   | succ n =>
     obtain ⟨cs, pre, mid, post, k1, k2, k3, k4⟩ := h4.setAt n x (by simpa using hx)
     refine ⟨cs, i ++ pre, mid, post, by simpa using k1, by rw [k2]; simp, k3, fun {S' x' cs1 mid'} hf hr => ?_⟩
     rw [List.set_cons_succ, List.set_cons_succ, zbn]
     exact ⟨c, cs'.set n cs1, i, pre ++ mid' ++ post, rfl, by simp, h3.frame (fun id hi => hf id (by simp [hi])), k4 (fun id hi => hf id (by
      rcases List.mem_append.1 hi with hi | hi <;> simp [hi])) hr⟩
theorem RepL.append : ∀ {xs ys : List D} {cs cs' : List C} {i j : List Nat}, RepL q S xs cs i → RepL q S ys cs' j → RepL q S (xs ++ ys) (cs ++ cs') (i ++ j)
 | [], ys, cs, cs', i, j, h, g => by rw [zce] at h; rw [h.1, h.2]; exact g
 | x :: xs, ys, cs, cs', i, j, h, g => by
   rw [zaw] at h
   obtain ⟨c, cs1, i', j', h1, h2, h3, h4⟩ := h
   subst h1; subst h2
   rw [List.cons_append, zaw]
   exact ⟨c, cs1 ++ cs', i', j' ++ j, rfl, by simp, h3, h4.append g⟩
theorem RepL.split : ∀ {xs ys : List D} {cs : List C} {ids : List Nat}, RepL q S (xs ++ ys) cs ids → ∃ r1 r2 i j, cs = r1 ++ r2 ∧ ids = i ++ j ∧ RepL q S xs r1 i ∧ RepL q S ys r2 j
 | [], ys, cs, ids, h => ⟨[], cs, [], ids, rfl, rfl, by rw [zce]; exact ⟨rfl, rfl⟩, h⟩
 | x :: xs, ys, cs, ids, h => by
   rw [List.cons_append, zaw] at h
   obtain ⟨c, cs1, i', j', h1, h2, h3, h4⟩ := h
   obtain ⟨r1, r2, i1, j1, k1, k2, k3, k4⟩ := h4.split
   subst h1; subst h2; subst k1; subst k2
   refine ⟨c :: r1, r2, i' ++ i1, j1, rfl, by simp, ?_, k4⟩
   rw [zaw]
   exact ⟨c, r1, i', i1, rfl, rfl, h3, k3⟩
theorem z6p {k by' : Nat} {c : C} {xs yd : List (List D)} {ys : List (List C)} {js : List Nat} {K : C → Store → Prop}
 (hE : Ext S0 S) (h : Fr S0.length S1 [.sl k xs] [c]) (e1 : Ext S1 S) (hy : Rep2 true S yd ys js) (hyn : js.Nodup) (hyl : ∀ id ∈ js, S1.length ≤ id) (h01 : S0.length ≤ S1.length)
 (hk : ∀ y ∈ yd, y.length = k) (hb : (xs.length + yd.length) * by' ≤ 140737488355328) (hm : xs.length + yd.length ≤ maxLen)
 (hK : ∀ c' S', Ext S0 S' → Fr S0.length S' [.sl k (xs ++ yd)] [c'] → S.length ≤ S'.length → K c' S') : AppP k by' S c ys K := by
 obtain ⟨ids, h, hn, hlo⟩ := h.one
 have hid1 : ∀ id ∈ ids, id < S1.length := h.lt
 have h : Rep true S (.sl k xs) c ids := h.frame fun id hi => e1.at (hid1 id hi)
 have hyk : ∀ y ∈ ys, y.length = k := fun y hy' => by
  obtain ⟨i, hi, rfl⟩ := List.mem_iff_getElem.1 hy'
  have hl := hy.len
  obtain ⟨cs, j, k1, k2, _⟩ := hy.at i _ (List.getElem?_eq_getElem (by omega))
  rw [List.getElem?_eq_getElem hi] at k1; cases k1
  rw [k2.len]; exact hk _ (List.getElem_mem _)
 have hyl' : ys.length = yd.length := hy.len
 unfold Rep at h
 obtain ⟨hl, h⟩ := h
 unfold AppP
 refine ⟨hyk, ?_⟩
 have new : xs = [] → ys.length * by' ≤ 140737488355328 ∧ (ys = [] → ∀ c0, (c0 = .nil ∨ c0 = .zc) → K c0 S) ∧ (ys ≠ [] → K (.sl S.length 0 ys.length ys.length) (S ++ [⟨true, k, ys⟩])) := by
  intro hx
  subst hx
  refine ⟨by rw [hyl']; simpa using hb, fun hy0 c0 hc0 => ?_, fun hy0 => ?_⟩
  ·have : yd = [] := List.eq_nil_of_length_eq_zero (by rw [← hyl', hy0]; rfl)
   subst this
   exact hK _ _ hE (za6 hc0) (Nat.le_refl _)
  ·refine hK _ _ (hE.trans (Ext.push S _)) ?_ (by simp)
   exact zih (by simpa using hy) hyn (fun id hi => Nat.le_trans h01 (hyl id hi)) hE.len (by simpa using hm) (by simpa using hyl')
 rcases h with ⟨h1, h2, h3⟩ | ⟨id, o, t, row, js0, h1, h2, h3, h4, h5, h6, h7, h8⟩
 ·obtain ⟨n1, n2, n3⟩ := new h1
  rcases h2 with rfl | rfl
  ·exact .inl ⟨rfl, n1, fun e => n2 e _ (.inl rfl), n3⟩
  ·exact .inr (.inl ⟨rfl, n1, fun e => n2 e _ (.inr rfl), n3⟩)
 ·obtain ⟨ho, ht, hown⟩ := h7 rfl
  subst ho
  have hrl : row.xs.length = xs.length := by omega
  have hrow : row = ⟨true, k, row.xs⟩ := by cases row; simp at hown h4; simp [hown, h4]
  refine .inr (.inr ⟨id, row.xs, by rw [h1, hrl, ht], by rw [h3, ← hrow], by rw [hrl, hyl']; exact hb, ?_⟩)
  have hidl : id < S.length := (List.getElem?_eq_some_iff.1 h3).1
  have hid : S0.length ≤ id := hlo id (by rw [h2]; simp)
  have hid1' : id < S1.length := hid1 id (by rw [h2]; simp)
  rw [h2, List.nodup_cons] at hn
  refine hK _ _ (hE.set hid _) (zqa (ids := id :: (js0 ++ js)) ?_ ?_ ?_) (by simp)
  ·unfold Rep
   refine ⟨by simpa using hm, .inr ⟨id, 0, xs.length + yd.length, ⟨true, k, row.xs ++ ys⟩, js0 ++ js, by rw [hrl, hyl']; simp, rfl, by rw [List.getElem?_set_self hidl], rfl, by simp [hrl, hyl'], by simp, fun _ => ⟨rfl, by simp, rfl⟩, ?_⟩⟩
   have e : List.take (xs ++ yd).length (List.drop 0 (row.xs ++ ys)) = row.xs ++ ys := by
    rw [List.drop_zero, List.take_of_length_le (by simp [hrl, hyl'])]
   simp only [e]
   rw [List.drop_zero, List.take_of_length_le (by omega)] at h8
   refine (h8.frame fun i hi => ?_).append (hy.frame fun i hi => ?_)
   ·exact List.getElem?_set_ne (by rintro rfl; exact hn.1 hi)
   ·exact List.getElem?_set_ne (by have := hyl i hi; omega)
  ·rw [List.nodup_cons, List.nodup_append]
   refine ⟨fun hi => ?_, hn.2, hyn, fun a ha b hb e => ?_⟩
   ·rcases List.mem_append.1 hi with hi | hi
    ·exact hn.1 hi
    ·have := hyl id hi; omega
   ·have := hyl b hb
    have := hid1 a (by rw [h2]; simp [ha])
    omega
  ·intro i hi
   rcases List.mem_cons.1 hi with rfl | hi
   ·exact hid
   ·rcases List.mem_append.1 hi with hi | hi
    ·exact hlo i (by rw [h2]; simp [hi])
    ·exact Nat.le_trans h01 (hyl i hi)
theorem zas {α : Type} {f : α → List D} (hf : ∀ x, Flat (f x)) {k by' : Nat} {c : C} {l m : List α} {ys : List (List C)} {K : C → Store → Prop}
 (hE : Ext S0 S) (h : Fr S0.length S [.sl k (l.map f)] [c]) (hy : ys = m.map fun x => zdz (f x))
 (hk : ∀ x, (f x).length = k) (hb : (l.length + m.length) * by' ≤ 140737488355328) (hm : l.length + m.length ≤ maxLen)
 (hK : ∀ c' S', Ext S0 S' → Fr S0.length S' [.sl k ((l ++ m).map f)] [c'] → S.length ≤ S'.length → K c' S') : AppP k by' S c ys K := by
 subst hy
 exact z6p (S1 := S) (yd := m.map f) hE h (Ext.refl S) (zem hf m) List.nodup_nil (fun _ hi => by cases hi) hE.len (fun y hy => by obtain ⟨x, _, rfl⟩ := List.mem_map.1 hy; exact hk x) (by simpa using hb) (by simpa using hm)
  (fun c' S' h1 h2 h3 => hK c' S' h1 (by simpa using h2) h3)
theorem z1y {k : Nat} {c : C} {xs : List (List D)} {i : Int} {off : Nat} {A B B' Z : List D} {ys : List C} {K : Store → Prop}
 (hE : Ext S0 S) (h : Fr S0.length S1 [.sl k xs] [c]) (e1 : Ext S1 S) (hy : Fr S1.length S B' ys) (h01 : S0.length ≤ S1.length)
 (h0 : 0 ≤ i ∧ i.toNat < xs.length) (hx : xs[i.toNat]? = some (A ++ B ++ Z)) (hA : A.length = off) (hB : B'.length = B.length) (hk : (A ++ B ++ Z).length = k)
 (hK : ∀ S', Ext S0 S' → Fr S0.length S' [.sl k (xs.set i.toNat (A ++ B' ++ Z))] [c] → S'.length = S.length → K S') : StoP S c i off ys K := by
 obtain ⟨ids, h, hn, hlo⟩ := h.one
 have hid1 : ∀ id ∈ ids, id < S1.length := h.lt
 have h : Rep true S (.sl k xs) c ids := h.frame fun id hi => e1.at (hid1 id hi)
 obtain ⟨jy, hy, hyn, hyl⟩ := hy
 have hyL := hy.len
 unfold Rep at h
 obtain ⟨hl, h⟩ := h
 rcases h with ⟨h1, h2, h3⟩ | ⟨id, o, t, row, js, h1, h2, h3, h4, h5, h6, h7, h8⟩
 ·subst h1; simp at h0
 ·obtain ⟨ho, ht, hown⟩ := h7 rfl
  subst ho; subst h1; subst h2
  have hrl : row.xs.length = xs.length := by omega
  rw [List.drop_zero, List.take_of_length_le (by omega)] at h8
  have hidl : id < S.length := (List.getElem?_eq_some_iff.1 h3).1
  have hid : S0.length ≤ id := hlo id (by simp)
  have hid1' : id < S1.length := hid1 id (by simp)
  rw [List.nodup_cons] at hn
  obtain ⟨cs, pre, mid, post, k1, k2, k3, k4⟩ := h8.setAt _ _ hx
  obtain ⟨r1, r2, j1, j2, g1, g2, g3, g4⟩ := k3.split
  obtain ⟨r3, r4, j3, j4, g5, g6, g7, g8⟩ := g3.split
  subst g1; subst g5; subst g2; subst g6; subst k2
  have l3 := g7.len
  have l4 := g8.len
  have l2 := g4.len
  have ePut : putCells (r3 ++ r4 ++ r2) off ys = r3 ++ ys ++ r2 := by
   unfold putCells
   have h3 : r3.length = off := by omega
   have h4 : ys.length = r4.length := by omega
   rw [List.append_assoc r3 r4 r2, List.take_append_of_le_length (by omega), List.take_of_length_le (by omega)]
   congr 1
   rw [h4, ← h3, ← List.length_append, ← List.append_assoc, List.drop_left]
  unfold StoP
  refine ⟨id, 0, xs.length, t, row, r3 ++ r4 ++ r2, rfl, h3, hown, h5, h6, h0.1, by omega, by rw [Nat.zero_add]; exact k1, ?_, ?_⟩
  ·rw [h4, ← hk]; simp; omega
  ·rw [ePut, Nat.zero_add]
   have hlt : S.length = (S.set id ⟨true, row.k, row.xs.set i.toNat (r3 ++ ys ++ r2)⟩).length := by simp
   have memj : ∀ x, x ∈ pre ++ (j3 ++ jy ++ j2) ++ post → x ∈ jy ∨ x ∈ pre ++ (j3 ++ j4 ++ j2) ++ post := by
    intro x hx
    simp only [List.mem_append] at hx ⊢
    rcases hx with (h | (h | h) | h) | h
    ·exact .inr (.inl (.inl h))
    ·exact .inr (.inl (.inr (.inl (.inl h))))
    ·exact .inl h
    ·exact .inr (.inl (.inr (.inr h)))
    ·exact .inr (.inr h)
   refine hK _ (hE.set hid _) (zqa (ids := id :: (pre ++ (j3 ++ jy ++ j2) ++ post)) ?_ ?_ ?_) hlt.symm
   ·have hne : ∀ x ∈ pre ++ (j3 ++ j4 ++ j2) ++ post, (S.set id ⟨true, row.k, row.xs.set i.toNat (r3 ++ ys ++ r2)⟩)[x]? = S[x]? := fun x hx => List.getElem?_set_ne (by rintro rfl; exact hn.1 hx)
    have hney : ∀ x ∈ jy, (S.set id ⟨true, row.k, row.xs.set i.toNat (r3 ++ ys ++ r2)⟩)[x]? = S[x]? := fun x hx => List.getElem?_set_ne (by have := hyl x hx; omega)
    have hr := k4 (S' := S.set id ⟨true, row.k, row.xs.set i.toNat (r3 ++ ys ++ r2)⟩) (x' := A ++ B' ++ Z) (cs' := r3 ++ ys ++ r2) (mid' := j3 ++ jy ++ j2) (fun x hx => hne x (by
     rcases List.mem_append.1 hx with h | h <;> simp [h]))
     (((g7.frame fun x hx => hne x (by simp [hx])).append (hy.frame hney)).append (g4.frame fun x hx => hne x (by simp [hx])))
    unfold Rep
    refine ⟨by simpa using hl, .inr ⟨id, 0, t, ⟨true, row.k, row.xs.set i.toNat (r3 ++ ys ++ r2)⟩, _, by simp, rfl, by rw [List.getElem?_set_self hidl], h4, by simpa using h5, by simpa using h6, fun _ => ⟨rfl, by simpa using ht, rfl⟩, ?_⟩⟩
    simp only
    rw [List.drop_zero, List.take_of_length_le (by simp; omega)]
    exact hr
   ·rw [List.nodup_cons]
    have hn2 := hn.2
    refine ⟨fun hx => ?_, ?_⟩
    ·rcases memj id hx with h | h
     ·have := hyl id h; omega
     ·exact hn.1 h
    ·have far : ∀ x ∈ pre ++ (j3 ++ j4 ++ j2) ++ post, ∀ y ∈ jy, x ≠ y := fun x hx y hy e => by
      have := hid1 x (by simp only [List.mem_cons]; exact .inr hx)
      have := hyl y hy
      omega
     simp only [List.nodup_append, List.mem_append] at hn2 far ⊢
     obtain ⟨⟨a1, ⟨⟨b1, b2, b3⟩, b4, b5⟩, a3⟩, a4, a5⟩ := hn2
     refine ⟨⟨a1, ⟨⟨b1, hyn, fun x hx y hy => far x (.inl (.inr (.inl (.inl hx)))) y hy⟩, b4, fun x hx y hy => ?_⟩, fun x hx y hy => ?_⟩, a4, fun x hx y hy => ?_⟩
     ·rcases hx with hx | hx
      ·exact b5 x (.inl hx) y hy
      ·exact fun e => far y (.inl (.inr (.inr hy))) x hx e.symm
     ·rcases hy with (hy | hy) | hy
      ·exact a3 x hx y (.inl (.inl hy))
      ·exact far x (.inl (.inl hx)) y hy
      ·exact a3 x hx y (.inr hy)
     ·rcases hx with hx | (hx | hx) | hx
      ·exact a5 x (.inl hx) y hy
      ·exact a5 x (.inr (.inl (.inl hx))) y hy
      ·exact fun e => far y (.inr hy) x hx e.symm
      ·exact a5 x (.inr (.inr hx)) y hy
   ·intro x hx
    rcases List.mem_cons.1 hx with rfl | hx
    ·exact hid
    ·rcases memj x hx with h | h
     ·exact Nat.le_trans h01 (hyl x h)
     ·exact hlo x (by simp only [List.mem_cons]; exact .inr h)
def scC : C → Bool
 | .int _ _ | .bool _ | .str _ | .nil | .zc | .fn _ | .junk => true
 | _ => false
def scV : V → Bool
 | .s c => scC c
 | .agg cs => cs.all scC
def scAV : AV → Bool
 | .v x => scV x
 | .tup vs => vs.all scV
 | _ => false
theorem z0n {μ μ' : Mp} {S S' : Store} {c : C} {u : Value} (h : scC c = true) (g : CR μ S c u) : CR μ' S' c u := by
 cases c <;> first | exact g | cases h
theorem z06 {μ μ' : Mp} {S S' : Store} {v : V} {u : Value} (h : scV v = true) (g : VR μ S v u) : VR μ' S' v u := by
 cases v with
 | s c => exact z0n h g
 | agg cs =>
   obtain ⟨us, h1, h2, h3⟩ := g
   refine ⟨us, h1, h2, fun j c hj => ?_⟩
   obtain ⟨u, k1, k2⟩ := h3 j c hj
   have h : cs.all scC = true := h
   rw [List.all_eq_true] at h
   exact ⟨u, k1, z0n (h c (List.mem_of_getElem? hj)) k2⟩
theorem z2n {μ μ' : Mp} {S S' : Store} {x : AV} {u : Value} (h : scAV x = true) (g : AVR μ S x u) : AVR μ' S' x u := by
 cases x <;> first | exact z06 h g | cases h | skip
 rename_i vs
 obtain ⟨us, h1, h2, h3⟩ := g
 refine ⟨us, h1, h2, fun j v hj => ?_⟩
 obtain ⟨u, k1, k2⟩ := h3 j v hj
 have h : vs.all scV = true := h
 rw [List.all_eq_true] at h
 exact ⟨u, k1, z06 (h v (List.mem_of_getElem? hj)) k2⟩
theorem z14 {S J : Store} {id : Nat} {row row0 : Row} (h0 : S[id]? = some row0) (h : (S ++ J)[id]? = some row) : S[id]? = some row := by
 rw [List.getElem?_append_left (List.getElem?_eq_some_iff.1 h0).1] at h; exact h
theorem z5x {μ μ' : Mp} {S J : Store} {c : C} {u u0 : Value} (h : CR μ S c u0) (g : CR μ' (S ++ J) c u) : CR μ' S c u := by
 cases c <;> first | exact g | skip
 ·obtain ⟨_, _, _, _, row0, k0, _⟩ := h
  obtain ⟨ad, cap, h1, h2, row, k1, k2⟩ := g
  exact ⟨ad, cap, h1, h2, row, z14 k0 k1, k2⟩
 ·obtain ⟨_, row0, k0, _⟩ := h
  obtain ⟨h1, row, k1, k2⟩ := g
  exact ⟨h1, row, z14 k0 k1, k2⟩
theorem EvA.drop {P : Program} {f : Nat} {args : List V} {S : Store} {r0 : AV} (hs : scAV r0 = true) (h : EvA P f args S (fun r S' => r = r0 ∧ Ext S S')) : EvA P f args S (fun r S' => r = r0 ∧ S' = S) :=
 ⟨h.1, fun μ w us h1 hA h2 => (h.2 μ w us h1 hA h2).mono fun e w' ⟨r, S', u, μ', ⟨hr, J, hJ⟩, b, c, d, ev⟩ => by
  subst hr; subst hJ
  have hat : ∀ id row, S[id]? = some row → (S ++ J)[id]? = some row := fun id row h => by
   rw [List.getElem?_append_left (List.getElem?_eq_some_iff.1 h).1]; exact h
  refine ⟨r, S, u, μ', ⟨rfl, rfl⟩, b, ⟨fun id row m g1 g2 => ?_, fun id id' row row' m m' g1 g2 => c.sep id id' row row' m m' (hat _ _ g1) (hat _ _ g2)⟩, z2n hs d, ⟨ev.os, ev.tape, ev.output, ev.size, ev.block, fun id row g => ?_, fun id row m g1 g2 => ev.blks id row m (hat _ _ g1) g2⟩⟩
  ·have ok := c.ok id row m (hat _ _ g1) g2
   obtain ⟨row', a1, a2, a3, a4, a5, a6⟩ := ev.rows id row g1
   rw [hat id row g1] at a1; cases a1
   rw [a5 rfl] at g2
   have ok0 := h1.ok id row m g1 g2
   refine ⟨fun i cs hi => ⟨(ok.cells i cs hi).1, fun j c hj => ?_⟩, ok.lt, ok.mine⟩
   obtain ⟨u, k1, k2⟩ := (ok.cells i cs hi).2 j c hj
   obtain ⟨u0, k3, k4⟩ := (ok0.cells i cs hi).2 j c hj
   exact ⟨u, k1, z5x k4 k2⟩
  ·obtain ⟨row', a1, a2, a3, a4, a5, a6⟩ := ev.rows id row g
   rw [hat id row g] at a1; cases a1
   exact ⟨row, g, rfl, rfl, Nat.le_refl _, a5, fun _ => rfl⟩⟩
end
end Go.Proofs.YtlmmdpmmdmhacaaGreat
