/- Draws: a cursor's row, what a draw leaves alone, own data beside it. -/
import Derived.Test.YtfkfoidojmjacaaAeX
import Derived.Test.YtfkfoidojmjacaaAeM
namespace Go.Proofs.Ytfkfoidojmjacaa
set_option linter.unusedVariables false
set_option linter.unusedSimpArgs false
set_option maxRecDepth 100000
open Go Go.RowKit

/-- the cursor at row id: the code's rows lie below it -/
structure Cur (id : Nat) (S : Store) : Prop where
  out : ∃ (c : C) (i h : Int) (l : List Int) (ids : List Nat), S[id]? = some ⟨true, 3, [[c, .int .i64 i, .int .i64 h]]⟩ ∧ RepL false S [.sl 1 (l.map dByte)] [c] ids ∧ (∀ j ∈ ids, j < id) ∧ 0 ≤ i ∧ i ≤ l.length ∧ l.length ≤ 1048576
/-- a draw moves the cursor and makes rows; the others stay -/
structure Drw (id : Nat) (S S' : Store) : Prop where
  cur : Cur id S'
  len : S.length ≤ S'.length
  lt : id < S.length
  same : ∀ j, j < S.length → j ≠ id → S'[j]? = S[j]?
section
variable {id : Nat} {S S1 S2 S' : Store}
theorem Cur.lt (h : Cur id S) : id < S.length := by
  obtain ⟨c, i, hh, l, ids, h1, _⟩ := h.out
  exact (List.getElem?_eq_some_iff.1 h1).1
theorem Cur.frame (h : Cur id S) (hf : ∀ j, j ≤ id → S'[j]? = S[j]?) : Cur id S' := by
  obtain ⟨c, i, hh, l, ids, h1, h2, h3, h4⟩ := h.out
  exact ⟨c, i, hh, l, ids, by rw [hf id (Nat.le_refl _)]; exact h1, h2.frame (fun j hj => hf j (Nat.le_of_lt (h3 j hj))), h3, h4⟩
theorem Cur.ext (h : Cur id S) (e : Ext S S') : Cur id S' := h.frame fun j hj => e.at (Nat.lt_of_le_of_lt hj h.lt)
theorem Drw.refl (h : Cur id S) : Drw id S S := ⟨h, Nat.le_refl _, h.lt, fun _ _ _ => rfl⟩
theorem Drw.trans (h : Drw id S S1) (g : Drw id S1 S2) : Drw id S S2 :=
  ⟨g.cur, Nat.le_trans h.len g.len, h.lt, fun j hj hn => (g.same j (Nat.lt_of_lt_of_le hj h.len) hn).trans (h.same j hj hn)⟩
theorem Drw.ext (h : Drw id S S1) (e : Ext S1 S2) : Drw id S S2 :=
  ⟨h.cur.ext e, Nat.le_trans h.len e.len, h.lt, fun j hj hn => (e.at (Nat.lt_of_lt_of_le hj h.len)).trans (h.same j hj hn)⟩
theorem Drw.of_ext (h : Cur id S) (e : Ext S S') : Drw id S S' := (Drw.refl h).ext e
/-- own rows beside it were changed -/
theorem Drw.own (h : Drw id S S1) (e : Ext (S1.take S.length) S2) : Drw id S S2 := by
  have hl : (S1.take S.length).length = S.length := by rw [List.length_take]; exact Nat.min_eq_left h.len
  have hat : ∀ j, j < S.length → S2[j]? = S1[j]? := fun j hj => by rw [e.at (by omega), List.getElem?_take, if_pos hj]
  exact ⟨h.cur.frame fun j hj => hat j (Nat.lt_of_le_of_lt hj h.lt), by have := e.len; omega, h.lt, fun j hj hn => (hat j hj).trans (h.same j hj hn)⟩
theorem Fr.drw {lo : Nat} {ds : List D} {cs : List C} (h : Fr lo S ds cs) (hl : id < lo) (e : Drw id S S') : Fr lo S' ds cs := by
  obtain ⟨ids, h1, h2, h3⟩ := h
  exact ⟨ids, h1.frame fun j hj => e.same j (h1.lt j hj) (by have := h3 j hj; omega), h2, h3⟩
/-- what was made by a draw joins what there is -/
theorem Fr.joinD {lo : Nat} {ds ds' : List D} {cs cs' : List C} (h : Fr lo S ds cs) (hl : id < lo) (e : Drw id S S') (g : Fr S.length S' ds' cs') (hlo : lo ≤ S.length) : Fr lo S' (ds ++ ds') (cs ++ cs') := by
  obtain ⟨i, h1, h2, h3⟩ := h
  obtain ⟨j, g1, g2, g3⟩ := g
  have hlt := h1.lt
  have h1' : RepL true S' ds cs i := h1.frame fun k hk => e.same k (hlt k hk) (by have := h3 k hk; omega)
  refine ⟨i ++ j, h1'.append g1, ?_, fun k hk => ?_⟩
  · rw [List.nodup_append]
    exact ⟨h2, g2, fun a ha b hb => by have := hlt a ha; have := g3 b hb; omega⟩
  · rcases List.mem_append.1 hk with hk | hk
    · exact h3 k hk
    · exact Nat.le_trans hlo (g3 k hk)
theorem take_len (h : Drw id S S1) : (S1.take S.length).length = S.length := by rw [List.length_take]; exact Nat.min_eq_left h.len
theorem take_ext (S1 : Store) (n : Nat) : Ext (S1.take n) S1 := ⟨S1.drop n, (List.take_append_drop n S1).symm⟩
/-- readable, and not the cursor's row -/
def RdN (id : Nat) (S : Store) (ds : List D) (cs : List C) : Prop := ∃ ids, RepL false S ds cs ids ∧ id ∉ ids
theorem RdN.drw {ds : List D} {cs : List C} (h : RdN id S ds cs) (e : Drw id S S') : RdN id S' ds cs := by
  obtain ⟨ids, h1, h2⟩ := h
  exact ⟨ids, h1.frame fun j hj => e.same j (h1.lt j hj) (fun hh => h2 (hh ▸ hj)), h2⟩
theorem RdN.rd {ds : List D} {cs : List C} (h : RdN id S ds cs) : Rd S ds cs := by
  obtain ⟨ids, h1, h2⟩ := h
  exact ⟨ids, h1⟩
theorem Fr.rdN {lo : Nat} {ds : List D} {cs : List C} (h : Fr lo S ds cs) (hl : id < lo) : RdN id S ds cs := by
  obtain ⟨ids, h1, h2, h3⟩ := h
  exact ⟨ids, h1.read, fun hh => by have := h3 id hh; omega⟩
/-- the cursor's row is written -/
theorem Cur.set {c : C} {i h i' h' : Int} {l : List Int} {ids : List Nat} (h1 : S[id]? = some ⟨true, 3, [[c, .int .i64 i, .int .i64 h]]⟩) (h2 : RepL false S [.sl 1 (l.map dByte)] [c] ids) (h3 : ∀ j ∈ ids, j < id) (hi : 0 ≤ i' ∧ i' ≤ l.length) (hl : l.length ≤ 1048576) {r : Row} (hr : r = ⟨true, 3, [[c, .int .i64 i', .int .i64 h']]⟩) : Drw id S (S.set id r) := by
  subst hr
  have hlt := (List.getElem?_eq_some_iff.1 h1).1
  refine ⟨⟨c, i', h', l, ids, List.getElem?_set_self hlt, h2.frame fun j hj => ?_, h3, hi.1, hi.2, hl⟩, by rw [List.length_set]; exact Nat.le_refl _, hlt, fun j hj hn => List.getElem?_set_ne (Ne.symm hn)⟩
  rw [List.getElem?_set_ne (by have := h3 j hj; omega)]
end
/-- numbers in the rows of a literal -/
inductive IntRows : List (List C) → List Int → Prop
  | nil : IntRows [] []
  | cons {z : Int} {r : List (List C)} {l : List Int} : IntRows r l → IntRows ([.int .i64 z] :: r) (z :: l)
theorem IntRows.eq {r : List (List C)} {l : List Int} (h : IntRows r l) : r = l.map fun z => [C.int .i64 z] := by
  induction h with
  | nil => rfl
  | cons _ ih => rw [ih]; rfl

theorem land255 (n : Nat) : n &&& 255 ≤ 255 := Nat.and_le_right
theorem bits255 (x : Int) : 0 ≤ bitsI .and .i64 x 255 ∧ bitsI .and .i64 x 255 ≤ 255 := by
  have h0 : (BitVec.ofInt IntKind.i64.bits x &&& BitVec.ofInt IntKind.i64.bits 255).toNat ≤ 255 := by
    rw [BitVec.toNat_and]
    refine Nat.le_trans Nat.and_le_right ?_
    decide
  unfold bitsI
  dsimp only
  generalize (BitVec.ofInt IntKind.i64.bits x &&& BitVec.ofInt IntKind.i64.bits 255).toNat = n at h0
  rw [IntKind.wrap_i64]
  omega
end Go.Proofs.Ytfkfoidojmjacaa
