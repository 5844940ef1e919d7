/- slices.Delete of one element at one of several own data; an own row that takes over another's elements. Draws: a cursor's row, what a draw leaves alone, own data beside it. A text of the proof. -/
import Derived.Test.YtlmmdpmmdmhacaaGreatKt28
import Derived.Test.YtlmmdpmmdmhacaaGreatKt32
import Derived.Lib.SlicesDelete
import Derived.Test.YtlmmdpmmdmhacaaGreatKt16
import Derived.Test.YtlmmdpmmdmhacaaGreatKt17
namespace Go.Proofs.YtlmmdpmmdmhacaaGreat
set_option linter.unusedVariables false
set_option linter.unusedSimpArgs false
set_option maxRecDepth 100000
open Go Go.RowKit
section
theorem ztm {P : Program} (w : World) (g o : Nat) (t : TypeId) (cur : Array Value) (vs : List Value) (hg : w.heap[g]? = some (.cells cur t (0, 0))) (hl : o + vs.length ≤ cur.size) (h1 : ∀ v ∈ vs, v.oneCell' = true) :
 w.setCells g o vs = w.setRow g (cur.toList.take o ++ vs ++ cur.toList.drop (o + vs.length)).toArray := by
 have h2 := run_storeCells_at (P := P) g o t vs 0 cur w hg (by simpa using hl) h1
 have h3 := run_storeCells_cells (P := P) g o vs 0 w (fun j hj => by rw [cell_of_row w _ _ cur t (0, 0) hg, Array.getElem?_eq_getElem (by omega)]; rfl) (fun j hj => by simp [World.frozen?, hg]) h1
 rw [h2] at h3
 simp only [Nat.add_zero] at h3
 injection h3 with _ h4
 exact h4.symm
theorem zqk {P : Program} (w : World) (t e ty : TypeId) (z : Value) (ht : P.underlying t = some (.slice e)) (hv : ∀ w, (zeroValue e).run P w = .ok z w) (zs : List Value) (hz : (Builtin.zeroCells z.cells 1).toList = zs) (h1 : ∀ v ∈ zs, v.oneCell' = true)
 (g o n c : Nat) (hn : n = 1) (cur : Array Value) (t' : TypeId) (hg : w.heap[g]? = some (.cells cur t' (0, 0))) (hl : o + zs.length ≤ cur.size) :
 (Builtin.clear_ #[t] ty #[.slice (some ⟨g, o, none⟩) n c]).run P w = .ok (.tuple #[]) (w.setRow g (cur.toList.take o ++ zs ++ cur.toList.drop (o + zs.length)).toArray) := by
 subst hn
 have hst := run_storeCells_at (P := P) g o t' zs 0 cur w hg (by simpa using hl) h1
 simp only [Nat.add_zero] at hst
 simp [Builtin.clear_, run_underlying ht, hv, hz, hst]
end
theorem zxr (i j m : Nat) (L Z : List Value) (hij : i ≤ j) (hL : j + m ≤ L.length) (hZ : Z.length = j - i) (A : List Value) (hA : A = L.take i ++ (L.drop j).take m ++ L.drop (i + m)) :
 A.take (i + m) ++ Z ++ A.drop (i + m + Z.length) = L.take i ++ (L.drop j).take m ++ Z ++ L.drop (j + m) := by
 have h0 : (L.take i ++ (L.drop j).take m).length = i + m := by rw [List.length_append, List.length_take, List.length_take, List.length_drop]; omega
 have h1 : A.take (i + m) = L.take i ++ (L.drop j).take m := by rw [hA]; exact List.take_left' h0
 have h2 : A.drop (i + m + Z.length) = L.drop (j + m) := by
  rw [hA, List.drop_append, List.drop_of_length_le (by omega), h0, List.drop_drop, hZ, List.nil_append]
  congr 1; omega
 rw [h1, h2]
structure DelRaw (P : Program) (F k : Nat) : Prop where
 del : ∀ (b n c i : Nat) (cur : Array Value) (e : Nat) (w : World), i < n → n ≤ c → c ≤ 9223372036854775807 →
  w.heap[b]? = some (.cells cur e (0, 0)) → cur.size = c * k →
  (∀ v ∈ (cur.toList.drop ((i + 1) * k)).take ((n - (i + 1)) * k), v.oneCell' = true) →
  Calls P F #[.slice (some ⟨b, 0, none⟩) n c, .int .i64 i, .int .i64 ((i : Int) + 1)] w fun r w' =>
   r = .returned (.slice (some ⟨b, 0, none⟩) (n - 1) c) ∧ ∃ Z : List Value, Z.length = k ∧ w' = w.drew.setRow b (cur.toList.take (i * k) ++ (cur.toList.drop ((i + 1) * k)).take ((n - (i + 1)) * k) ++ Z ++ cur.toList.drop (n * k)).toArray
theorem DelRaw.ev {P : Program} {F k : Nat} (hR : DelRaw P F k) (hk : 0 < k) (fok : FOK P F) {S : Store} {rows : List (List C)} {id i : Nat} (hrow : S[id]? = some ⟨true, k, rows⟩) (hi : i < rows.length) :
 EvA P F [.s (.sl id 0 rows.length rows.length), .s (.int .i64 i), .s (.int .i64 ((i : Int) + 1))] S (fun r S' => r = .v (.s (.sl S.length 0 (rows.length - 1) (rows.length - 1))) ∧ S' = zf9 S id ⟨true, k, rows⟩ (rows.take i ++ rows.drop (i + 1))) := by
 refine ⟨fok, fun μ w us rs hA hvs => ?_⟩
 obtain ⟨u, x, rfl, hu, hx⟩ := zpy hvs
 have hx : x = .int .i64 ((i : Int) + 1) := hx
 subst hx
 obtain ⟨m, cur, e, m1, rfl, hnc, hcm, hb0, hh, hsz, hf⟩ := zku rs hrow rfl rfl hu
 simp only at hsz hf
 have hnc : rows.length ≤ m.cap := hnc
 have hmulc : rows.length * k ≤ m.cap * k := Nat.mul_le_mul_right _ hnc
 have hik : (i + 1) * k ≤ rows.length * k := Nat.mul_le_mul_right _ hi
 have hik0 : i * k ≤ rows.length * k := Nat.mul_le_mul_right _ (Nat.le_of_lt hi)
 have ht : cur.toList.take (i * k) = (cur.toList.take (rows.length * k)).take (i * k) := by rw [List.take_take]; congr 1; omega
 have hd : (cur.toList.drop ((i + 1) * k)).take ((rows.length - (i + 1)) * k) = (cur.toList.take (rows.length * k)).drop ((i + 1) * k) := by
  rw [List.drop_take, Nat.sub_mul]
 have flat : FlatR μ S k (rows.take i ++ rows.drop (i + 1)) (cur.toList.take (i * k) ++ (cur.toList.drop ((i + 1) * k)).take ((rows.length - (i + 1)) * k)) := by
  rw [ht, hd]
  exact (hf.take i).append (hf.drop (i + 1))
 have hlen : (rows.take i ++ rows.drop (i + 1)).length = rows.length - 1 := by simp; omega
 have h1 : ∀ v ∈ (cur.toList.drop ((i + 1) * k)).take ((rows.length - (i + 1)) * k), v.oneCell' = true := by rw [hd]; exact (hf.drop (i + 1)).ones
 refine (hR.del m.blk rows.length m.cap i cur e w hi hnc (by simp only [maxLen] at hcm; omega) hh hsz h1).mono ?_
 rintro r w' ⟨rfl, Z, hZ, rfl⟩
 have hheap := setRow_heap w.drew m.blk cur (cur.toList.take (i * k) ++ (cur.toList.drop ((i + 1) * k)).take ((rows.length - (i + 1)) * k) ++ Z ++ cur.toList.drop (rows.length * k)).toArray e (0, 0) hh
 have e1 : (i + 1) * k = i * k + k := by rw [Nat.add_mul, Nat.one_mul]
 have e2 : (rows.length - (i + 1)) * k = rows.length * k - (i + 1) * k := Nat.sub_mul ..
 obtain ⟨rs', ev, cr⟩ := rs.shrink (xs := rows.take i ++ rows.drop (i + 1)) (us := cur.toList.take (i * k) ++ (cur.toList.drop ((i + 1) * k)).take ((rows.length - (i + 1)) * k))
  (w' := w.drew.setRow m.blk (cur.toList.take (i * k) ++ (cur.toList.drop ((i + 1) * k)).take ((rows.length - (i + 1)) * k) ++ Z ++ cur.toList.drop (rows.length * k)).toArray)
  hrow m1 rfl ⟨rfl, rfl, rfl, by simp [World.setRow], fun b hb hne => setRow_other w.drew _ _ _ (fun e => hne (by rw [e]))⟩ hheap
  (by simp only [List.size_toArray, List.length_append, List.length_take, List.length_drop, Array.length_toList, hZ]; omega) (by rw [hlen]; omega) hcm hb0 flat
  (fun j u hj => by rw [List.getElem?_toArray, List.append_assoc, List.getElem?_append_left (List.getElem?_eq_some_iff.1 hj).1]; exact hj)
 rw [hlen] at cr
 exact ⟨_, _, _, _, ⟨rfl, rfl⟩, rfl, rs', cr, ev⟩
theorem DelRaw.ids {P : Program} {F k : Nat} (hR : DelRaw P F k) (hk : 0 < k) (fok : FOK P F) {S2 : Store} {xs : List (List D)} {c : C} {i : Nat} {ids : List Nat}
 (h : Rep true S2 (.sl k xs) c ids) (hn : ids.Nodup) (hi : i < xs.length) :
 EvA P F [.s c, .s (.int .i64 i), .s (.int .i64 ((i : Int) + 1))] S2 (fun r S' => ∃ c' ids', r = .v (.s c') ∧ Rep true S' (.sl k (xs.take i ++ xs.drop (i + 1))) c' ids' ∧ ids'.Nodup ∧ (∀ x ∈ ids', x ∈ ids ∨ S2.length ≤ x) ∧ S2.length ≤ S'.length ∧ ∀ x, x < S2.length → x ∉ ids → S'[x]? = S2[x]?) := by
 have hid1 : ∀ id ∈ ids, id < S2.length := h.lt
 unfold Rep at h
 obtain ⟨hl, h⟩ := h
 rcases h with ⟨h1, _, _⟩ | ⟨id, o, t, row, js0, h1, h2, h3, h4, h5, h6, h7, h8⟩
 ·subst h1; cases hi
 obtain ⟨ho, ht, hown⟩ := h7 rfl
 subst ho
 have hrl : row.xs.length = xs.length := by omega
 have hrow : row = ⟨true, k, row.xs⟩ := by cases row; simp at hown h4; simp [hown, h4]
 rw [h2, List.nodup_cons] at hn
 have hrow2 : S2[id]? = some ⟨true, k, row.xs⟩ := by rw [h3, ← hrow]
 refine EvA.mono (R := fun r S' => r = .v (.s (.sl S2.length 0 (row.xs.length - 1) (row.xs.length - 1))) ∧ S' = zf9 S2 id ⟨true, k, row.xs⟩ (row.xs.take i ++ row.xs.drop (i + 1))) ?_ ?_
 ·rw [h1, ← ht, ← hrl]
  exact hR.ev hk fok hrow2 (by omega)
 ·rintro r S' ⟨rfl, rfl⟩
  rw [List.drop_zero, List.take_of_length_le (by omega)] at h8
  have hxl : (xs.take i ++ xs.drop (i + 1)).length = xs.length - 1 := by simp; omega
  have e8 : Rep2 true S2 (xs.take i ++ ((xs.drop i).take 1 ++ xs.drop (i + 1))) row.xs js0 := by
   have : (xs.drop i).take 1 ++ xs.drop (i + 1) = xs.drop i := by
    rw [← List.drop_drop]; exact List.take_append_drop 1 (xs.drop i)
   rw [this, List.take_append_drop]; exact h8
  obtain ⟨r1, r2, j1, j2, g1, g2, g3, g4⟩ := e8.split
  obtain ⟨r3, r4, j3, j4, k1, k2, k3, k4⟩ := g4.split
  subst k1; subst k2
  have hr1 : r1.length = i := by rw [g3.len, List.length_take]; omega
  have hr3 : r3.length = 1 := by rw [k3.len, List.length_take, List.length_drop]; omega
  have t1 : row.xs.take i = r1 := by rw [g1]; exact List.take_left' hr1
  have t2 : row.xs.drop (i + 1) = r4 := by rw [g1, ← List.append_assoc]; exact List.drop_left' (by rw [List.length_append]; omega)
  rw [t1, t2]
  have hkeep : ∀ x, x ≠ id → x < S2.length → (zf9 S2 id ⟨true, k, row.xs⟩ (r1 ++ r4))[x]? = S2[x]? := fun x hx hl2 => by
   unfold zf9
   rw [List.getElem?_append_left (by rw [List.length_set]; exact hl2), List.getElem?_set_ne (Ne.symm hx)]
  have far : ∀ x ∈ js0, x ≠ id := fun x hx e => hn.1 (e ▸ hx)
  have farl : ∀ x ∈ js0, x < S2.length := fun x hx => hid1 x (by rw [h2]; simp [hx])
  have hlast : (zf9 S2 id ⟨true, k, row.xs⟩ (r1 ++ r4))[S2.length]? = some ⟨true, k, r1 ++ r4⟩ := by
   unfold zf9
   have : (S2.set id ⟨true, k, row.xs ++ [[]]⟩).length = S2.length := List.length_set
   rw [← this]; simp
  have h14 : (r1 ++ r4).length = xs.length - 1 := by
   rw [List.length_append, hr1, k4.len, List.length_drop]; omega
  have hn2 := hn.2
  rw [g2, List.nodup_append] at hn2
  obtain ⟨n1, n2, n3⟩ := hn2
  rw [List.nodup_append] at n2
  obtain ⟨n4, n5, n6⟩ := n2
  refine ⟨_, S2.length :: (j1 ++ j4), rfl, ?_, ?_, fun x hx => ?_, by unfold zf9; simp, fun x hx hxi => hkeep x (fun e => hxi (by rw [h2, e]; simp)) hx⟩
  ·unfold Rep
   refine ⟨by rw [hxl]; omega, .inr ⟨S2.length, 0, xs.length - 1, ⟨true, k, r1 ++ r4⟩, j1 ++ j4, by rw [hxl, hrl], rfl, hlast, rfl, h14, by omega, fun _ => ⟨rfl, hxl, rfl⟩, ?_⟩⟩
   have e : List.take (xs.take i ++ xs.drop (i + 1)).length (List.drop 0 (r1 ++ r4)) = r1 ++ r4 := by
    rw [List.drop_zero, List.take_of_length_le (by rw [hxl, h14]; exact Nat.le_refl _)]
   rw [e]
   refine (g3.frame fun x hx => ?_).append (k4.frame fun x hx => ?_)
   ·exact hkeep x (far x (by rw [g2]; simp [hx])) (farl x (by rw [g2]; simp [hx]))
   ·exact hkeep x (far x (by rw [g2]; simp [hx])) (farl x (by rw [g2]; simp [hx]))
  ·rw [List.nodup_cons, List.nodup_append]
   refine ⟨fun hx => ?_, n1, n5, fun a ha b hb => n3 a ha b (by simp [hb])⟩
   have := farl S2.length (by rw [g2]; rcases List.mem_append.1 hx with hx | hx <;> simp [hx])
   omega
  ·simp only [List.mem_cons, List.mem_append] at hx
   rcases hx with rfl | hx | hx
   ·exact .inr (Nat.le_refl _)
   ·exact .inl (by rw [h2, g2]; simp [hx])
   ·exact .inl (by rw [h2, g2]; simp [hx])
section
variable {S0 S S2 : Store}
theorem DelRaw.frAt {P : Program} {F k : Nat} (hR : DelRaw P F k) (hk0 : 0 < k) (fok : FOK P F) {o : Nat} {c : C} {ds : List D} {cs : List C} {xs : List (List D)} {i : Nat}
 (hE : Ext S0 S2) (h : Fr S0.length S2 ds cs) (hd : ds[o]? = some (.sl k xs)) (hc : cs[o]? = some c) (hi : i < xs.length) :
 EvA P F [.s c, .s (.int .i64 i), .s (.int .i64 ((i : Int) + 1))] S2 (fun r S' => Ext S0 S' ∧ ∃ c', r = .v (.s c') ∧ Fr S0.length S' (ds.set o (.sl k (xs.take i ++ xs.drop (i + 1)))) (cs.set o c')) := by
 obtain ⟨ids, h, hna, hlo⟩ := h
 have hlt := h.lt
 obtain ⟨c0, x, m, y, k1, k2, k3, k4⟩ := h.setAt o _ hd
 rw [hc] at k1; cases k1
 subst k2
 simp only [List.nodup_append, List.mem_append] at hna
 obtain ⟨⟨b1, b2, b3⟩, b4, b5⟩ := hna
 refine (hR.ids hk0 fok k3 b2 hi).mono ?_
 rintro _ S' ⟨c', ids', rfl, r1, r2, r3, r4, r5⟩
 have hxy : ∀ i, (i ∈ x ∨ i ∈ y) → S'[i]? = S2[i]? := fun i hi => by
  have hil := hlt i (by rcases hi with hi | hi <;> simp [hi])
  rw [r5 i hil (fun hm => by rcases hi with hi | hi; exact b3 i hi i hm rfl; exact b5 i (.inr hm) i hi rfl)]
 have far : ∀ i, (i ∈ x ∨ i ∈ y) → ∀ i', i' ∈ ids' → i ≠ i' := fun i hi i' hj e => by
  subst e
  rcases r3 i hj with h | h
  ·rcases hi with hi | hi
   ·exact b3 i hi i h rfl
   ·exact b5 i (.inr h) i hi rfl
  ·have := hlt i (by rcases hi with hi | hi <;> simp [hi])
   omega
 refine ⟨?_, c', rfl, x ++ ids' ++ y, k4 (fun i hi => hxy i (by simpa using hi)) r1, ?_, fun i hi => ?_⟩
 ·refine zh7 (Nat.le_trans hE.len r4) fun i hi => ?_
  rw [r5 i (Nat.lt_of_lt_of_le hi hE.len) (fun hm => by have := hlo i (by simp [hm]); omega), hE.at hi]
 ·simp only [List.nodup_append, List.mem_append]
  refine ⟨⟨b1, r2, fun i hi i' hj => far i (.inl hi) i' hj⟩, b4, fun i hi i' hj => ?_⟩
  rcases hi with hi | hi
  ·exact b5 i (.inl hi) i' hj
  ·exact fun e => far i' (.inr hj) i hi e.symm
 ·rcases List.mem_append.1 hi with hi | hi
  ·rcases List.mem_append.1 hi with hi | hi
   ·exact hlo i (by simp [hi])
   ·rcases r3 i hi with h | h
    ·exact hlo i (by simp [h])
    ·exact Nat.le_trans hE.len h
  ·exact hlo i (by simp [hi])
end
section
variable {S0 S S' : Store}
theorem z6e {c : C} {rs : List (List C)} {K : Nat → Prop} (he : elems S c = some rs) (hK : K rs.length) : LenP S c K := by
 unfold LenP; exact ⟨rs, he, hK⟩
theorem z50 {l : List GPackage} {c : C} (h : Rd S [.sl 8 (l.map GPackage.d)] [c]) : ∃ rs : List (List C), rs.length = l.length ∧ elems S c = some rs ∧ (∀ y ∈ rs, y.length = 8) ∧
 ∀ i (hi : i < l.length), ∃ a b f g, rs[i]? = some [.int .i64 l[i].Ext, .int .i64 l[i].Author, .int .i64 l[i].Version, a, b, f, g, .int .i64 l[i].Seal] := by
 obtain ⟨ids, h⟩ := h.one
 obtain ⟨rows, js, h1, h2, _, _⟩ := h.elems
 have hlen := h2.len
 have key : ∀ i (hi : i < l.length), ∃ a b f g, rows[i]? = some [.int .i64 l[i].Ext, .int .i64 l[i].Author, .int .i64 l[i].Version, a, b, f, g, .int .i64 l[i].Seal] := fun i hi => by
  obtain ⟨cs, ii, g1, g2, _⟩ := h2.at i (l[i].d) (by simp [hi])
  obtain ⟨a, b, f, g, e, _⟩ := GPackage.inv (Rd.of g2)
  exact ⟨a, b, f, g, by rw [g1, e]⟩
 refine ⟨rows, by rw [hlen]; simp, h1, fun y hy => ?_, key⟩
 obtain ⟨i, hi, rfl⟩ := List.mem_iff_getElem.1 hy
 obtain ⟨a, b, f, g, e⟩ := key i (by rw [hlen] at hi; simpa using hi)
 rw [List.getElem?_eq_getElem hi] at e
 injection e with e
 rw [e]; rfl
end
open Go Go.RowKit
structure Cur (id : Nat) (S : Store) : Prop where
 out : ∃ (c : C) (i h : Int) (l : List Int) (ids : List Nat), S[id]? = some ⟨true, 3, [[c, .int .i64 i, .int .i64 h]]⟩ ∧ RepL false S [.sl 1 (l.map zot)] [c] ids ∧ (∀ j ∈ ids, j < id) ∧ 0 ≤ i ∧ i ≤ l.length ∧ l.length ≤ 1048576
structure Drw (id : Nat) (S S' : Store) : Prop where
 cur : Cur id S'
 len : S.length ≤ S'.length
 lt : id < S.length
 same : ∀ j, j < S.length → j ≠ id → S'[j]? = S[j]?
section
variable {id : Nat} {S S1 S2 S' : Store}
theorem Cur.lt (h : Cur id S) : id < S.length := by
 obtain ⟨c, i, hh, l, ids, h1, _⟩ := h.out
 exact (List.getElem?_eq_some_iff.1 h1).1
theorem Cur.frame (h : Cur id S) (hf : ∀ j, j ≤ id → S'[j]? = S[j]?) : Cur id S' := by
 obtain ⟨c, i, hh, l, ids, h1, h2, h3, h4⟩ := h.out
 exact ⟨c, i, hh, l, ids, by rw [hf id (Nat.le_refl _)]; exact h1, h2.frame (fun j hj => hf j (Nat.le_of_lt (h3 j hj))), h3, h4⟩
theorem Cur.ext (h : Cur id S) (e : Ext S S') : Cur id S' := h.frame fun j hj => e.at (Nat.lt_of_le_of_lt hj h.lt)
theorem Drw.refl (h : Cur id S) : Drw id S S := ⟨h, Nat.le_refl _, h.lt, fun _ _ _ => rfl⟩
theorem Drw.trans (h : Drw id S S1) (g : Drw id S1 S2) : Drw id S S2 :=
 ⟨g.cur, Nat.le_trans h.len g.len, h.lt, fun j hj hn => (g.same j (Nat.lt_of_lt_of_le hj h.len) hn).trans (h.same j hj hn)⟩
theorem Drw.ext (h : Drw id S S1) (e : Ext S1 S2) : Drw id S S2 :=
 ⟨h.cur.ext e, Nat.le_trans h.len e.len, h.lt, fun j hj hn => (e.at (Nat.lt_of_lt_of_le hj h.len)).trans (h.same j hj hn)⟩
theorem Drw.own (h : Drw id S S1) (e : Ext (S1.take S.length) S2) : Drw id S S2 := by
 have hl : (S1.take S.length).length = S.length := by rw [List.length_take]; exact Nat.min_eq_left h.len
 have hat : ∀ j, j < S.length → S2[j]? = S1[j]? := fun j hj => by rw [e.at (by omega), List.getElem?_take, if_pos hj]
 exact ⟨h.cur.frame fun j hj => hat j (Nat.lt_of_le_of_lt hj h.lt), by have := e.len; omega, h.lt, fun j hj hn => (hat j hj).trans (h.same j hj hn)⟩
theorem Fr.drw {lo : Nat} {ds : List D} {cs : List C} (h : Fr lo S ds cs) (hl : id < lo) (e : Drw id S S') : Fr lo S' ds cs := by
 obtain ⟨ids, h1, h2, h3⟩ := h
 exact ⟨ids, h1.frame fun j hj => e.same j (h1.lt j hj) (by have := h3 j hj; omega), h2, h3⟩
theorem Fr.joinD {lo : Nat} {ds ds' : List D} {cs cs' : List C} (h : Fr lo S ds cs) (hl : id < lo) (e : Drw id S S') (g : Fr S.length S' ds' cs') (hlo : lo ≤ S.length) : Fr lo S' (ds ++ ds') (cs ++ cs') := by
 obtain ⟨i, h1, h2, h3⟩ := h
 obtain ⟨j, g1, g2, g3⟩ := g
 have hlt := h1.lt
 have h1' : RepL true S' ds cs i := h1.frame fun k hk => e.same k (hlt k hk) (by have := h3 k hk; omega)
 refine ⟨i ++ j, h1'.append g1, ?_, fun k hk => ?_⟩
 ·rw [List.nodup_append]
  exact ⟨h2, g2, fun a ha b hb => by have := hlt a ha; have := g3 b hb; omega⟩
 ·rcases List.mem_append.1 hk with hk | hk
  ·exact h3 k hk
  ·exact Nat.le_trans hlo (g3 k hk)
theorem zrf (h : Drw id S S1) : (S1.take S.length).length = S.length := by rw [List.length_take]; exact Nat.min_eq_left h.len
theorem zqj (S1 : Store) (n : Nat) : Ext (S1.take n) S1 := ⟨S1.drop n, (List.take_append_drop n S1).symm⟩
theorem Cur.set {c : C} {i h i' h' : Int} {l : List Int} {ids : List Nat} (h1 : S[id]? = some ⟨true, 3, [[c, .int .i64 i, .int .i64 h]]⟩) (h2 : RepL false S [.sl 1 (l.map zot)] [c] ids) (h3 : ∀ j ∈ ids, j < id) (hi : 0 ≤ i' ∧ i' ≤ l.length) (hl : l.length ≤ 1048576) {r : Row} (hr : r = ⟨true, 3, [[c, .int .i64 i', .int .i64 h']]⟩) : Drw id S (S.set id r) := by
 subst hr
 have hlt := (List.getElem?_eq_some_iff.1 h1).1
 refine ⟨⟨c, i', h', l, ids, List.getElem?_set_self hlt, h2.frame fun j hj => ?_, h3, hi.1, hi.2, hl⟩, by rw [List.length_set]; exact Nat.le_refl _, hlt, fun j hj hn => List.getElem?_set_ne (Ne.symm hn)⟩
 rw [List.getElem?_set_ne (by have := h3 j hj; omega)]
end
inductive IntRows : List (List C) → List Int → Prop
 | nil : IntRows [] []
 | cons {z : Int} {r : List (List C)} {l : List Int} : IntRows r l → IntRows ([.int .i64 z] :: r) (z :: l)
theorem z5h (x : Int) : 0 ≤ bitsI .and .i64 x 255 ∧ bitsI .and .i64 x 255 ≤ 255 := by
 have h0 : (BitVec.ofInt IntKind.i64.bits x &&& BitVec.ofInt IntKind.i64.bits 255).toNat ≤ 255 := by
  rw [BitVec.toNat_and]
  refine Nat.le_trans Nat.and_le_right ?_
  decide
 unfold bitsI
 dsimp only
 generalize (BitVec.ofInt IntKind.i64.bits x &&& BitVec.ofInt IntKind.i64.bits 255).toNat = n at h0
 rw [IntKind.wrap_i64]
 omega
end Go.Proofs.YtlmmdpmmdmhacaaGreat
namespace Go.Proofs.YtlmmdpmmdmhacaaGreat
open Go Go.RowKit
set_option linter.unusedVariables false
set_option linter.unusedSimpArgs false
set_option maxRecDepth 100000
theorem z38 {S : Store} {id : Nat} {r : Row} {cs : List C} {K : List C → Prop} (hlt : id < S.length) (ho : r.own = true) (hx : r.xs = [cs]) (hK : K cs) : RowP (S.set id r) id K :=
 zp2 (List.getElem?_set_self hlt) ho hx hK
theorem z5g {S : Store} {id : Nat} {r : Row} {ds : List D} {cs : List C} {ids : List Nat} (h : RepL false S ds cs ids) (hn : ∀ j ∈ ids, j < id) : Rd (S.set id r) ds cs :=
 ⟨ids, h.frame fun j hj => by rw [List.getElem?_set_ne (by have := hn j hj; omega)]⟩
theorem z7g {S : Store} {id k : Nat} {xs : List (List C)} (h : S[id]? = some ⟨true, k, xs⟩) : ((S[id]?).map Row.k).getD 0 = k := by rw [h]; rfl
theorem z3a {S : Store} {id k : Nat} {xs : List (List C)} (h : id < S.length) : (((S.set id ⟨true, k, xs⟩)[id]?).map Row.k).getD 0 = k := by rw [List.getElem?_set_self h]; rfl
theorem zzv {x n : Int} (h0 : 0 ≤ x) (hn : 0 < n) : 0 ≤ x.tmod n ∧ x.tmod n < n := ⟨Int.tmod_nonneg _ h0, Int.tmod_lt_of_pos _ hn⟩
theorem z57 {x n : Int} (h0 : 0 ≤ x) (hn : 0 < n) : x.tmod n ≤ x := by
 rw [Int.tmod_eq_emod_of_nonneg h0]
 have h1 := Int.emod_add_mul_ediv x n
 have h2 : 0 ≤ n * (x / n) := Int.mul_nonneg (Int.le_of_lt hn) (Int.ediv_nonneg h0 (Int.le_of_lt hn))
 omega
theorem z0c {id : Nat} {S : Store} (h : Cur id S) : EvA Tryz.prog 154 [.s (.pt id)] S (fun r S' => Drw id S S' ∧ ∃ x : Int, (0 ≤ x ∧ x ≤ 255) ∧ r = .v (.s (.int .i64 x))) := by
 have hlt := h.lt
 obtain ⟨c, i, hh, l, ids, h1, h2, h3, h4, h5, h6⟩ := h.out
 have hR : ∀ r, Rd (S.set id r) [.sl 1 (l.map zot)] [c] := fun r => z5g h2 h3
 have hk := z7g h1
 refine zac tok Tryz.func154 (by kernel_rfl) rfl ?_
 repeat' ((conv => whnf) <;> first
  | (refine zdn (by decide) ?_) | (refine zaf (hR _) tv ix ?_) | (refine rI (hR _) rf ix ?_) | (refine zdp (hR _) ?_; intro hml; rw [zan] at hml) | (refine z38 (by first | exact hlt | (simp only [List.length_set]; exact hlt)) rfl rfl ?_) | (refine zp2 h1 rfl rfl ?_) | rw [zad (by omega)] | refine cD (fun _ => ?_) fun _ => ?_ | refine cE (fun _ => ?_) fun _ => ?_ | refine cT ?_ | refine cF ?_ | refine cN (fun _ => ?_) fun _ => ?_ | refine cI (fun _ => ?_) fun _ => ?_ | refine rE fun hml => ?_ | refine rI aN rf ix ?_ | refine zaf aN tv ix ?_ | refine nP ?_ | refine zae 13 (iN 13 0 [12]) (by rfl) (by kernel_rfl) ?_ | refine zae 25 (iN 10 0 []) (by rfl) (by kernel_rfl) ?_ | refine zae 35 (iN 15 0 [14]) (by rfl) (by kernel_rfl) ?_ | (fail) | (refine zdn (by exact Nat.le_of_ble_eq_true rfl) ?_) | refine And.intro ?_ ?_)
 all_goals first
  | exact ⟨_, z5h _, rfl⟩
  | (refine Cur.set (i' := i) (h' := wrapI .i64 (wrapI .i64 (hh * 6364136223846793005) + 1442695040888963407)) h1 h2 h3 (by omega) h6 ?_; rw [hk]; rfl)
  | skip
 all_goals (rw [List.set_set]; refine Cur.set (i' := i + 1) (h' := wrapI .i64 (wrapI .i64 (hh * 6364136223846793005) + 1442695040888963407)) h1 h2 h3 (by omega) h6 ?_; rw [z3a hlt, hk]; rfl)
theorem za7 {id : Nat} {S : Store} (n : Int) (h : Cur id S) : EvA Tryz.prog 78 [.s (.pt id), .s (.int .i64 n)] S (fun r S' => Drw id S S' ∧ ∃ x : Int, (0 ≤ x ∧ x ≤ 16777215 ∧ (0 < n → x < n) ∧ (n ≤ 0 → x = 0)) ∧ r = .v (.s (.int .i64 x))) := by
 have hlt := h.lt
 have hD := Drw.refl h
 have hF : Fr S.length S [] [] := zc2
 refine zac tok Tryz.func78 (by kernel_rfl) rfl ?_
 repeat' ((conv => whnf) <;> first
  | rw [zad (by omega)] | refine cD (fun _ => ?_) fun _ => ?_ | refine cE (fun _ => ?_) fun _ => ?_ | refine cT ?_ | refine cF ?_ | refine cN (fun _ => ?_) fun _ => ?_ | refine cI (fun _ => ?_) fun _ => ?_ | (refine zab (z0c hD.cur) ?_; rintro _ Sn ⟨hDn, xn, hxn, rfl⟩; replace hF := hF.drw hlt hDn; replace hD := hD.trans hDn; clear hDn) | refine nP ?_ | refine And.intro ?_ ?_)
 all_goals first
  | exact hD
  | exact ⟨0, ⟨by omega, by omega, by omega, by omega⟩, rfl⟩
  | (exact ⟨_, ⟨(zzv (by omega) (by omega)).1, Int.le_trans (z57 (by omega) (by omega)) (by omega), fun _ => (zzv (by omega) (by omega)).2, fun _ => by omega⟩, rfl⟩)
theorem zzq {id : Nat} {S : Store} (n : Int) (h : Cur id S) : EvA Tryz.prog 90 [.s (.pt id), .s (.int .i64 n)] S (fun r S' => Drw id S S' ∧ ∃ b : Bool, r = .v (.s (.bool b))) := by
 have hlt := h.lt
 have hD := Drw.refl h
 have hF : Fr S.length S [] [] := zc2
 refine zac tok Tryz.func90 (by kernel_rfl) rfl ?_
 repeat' ((conv => whnf) <;> first
  | (refine zab (za7 _ hD.cur) ?_; rintro _ Sn ⟨hDn, xn, hxn, rfl⟩; replace hF := hF.drw hlt hDn; replace hD := hD.trans hDn; clear hDn) | refine nP ?_ | refine And.intro ?_ ?_)
 all_goals first
  | exact hD
  | exact ⟨_, rfl⟩
theorem z28 {S : Store} {c : C} (l : List Int) (h : Rd S [.sl 1 (l.map zot)] [c]) (hz : l.length ≤ 1048576) : EvA Tryz.prog 76 [.s c] S (fun r S' => Ext S S' ∧ Cur S.length S' ∧ r = .v (.s (.pt S.length))) := by
 refine zac tok Tryz.func76 (by kernel_rfl) rfl ?_
 repeat' ((conv => whnf) <;> first
  | rw [zad (by omega)] | refine cD (fun _ => ?_) fun _ => ?_ | refine cE (fun _ => ?_) fun _ => ?_ | refine cT ?_ | refine cF ?_ | refine cN (fun _ => ?_) fun _ => ?_ | refine cI (fun _ => ?_) fun _ => ?_ | refine rE fun hml => ?_ | refine rI aN rf ix ?_ | refine zaf aN tv ix ?_ | refine nP ?_ | refine And.intro ?_ ?_)
 refine zag {q : Nat × Int // q.1 ≤ l.length} [3, 4, 8, 9, 10, 11, 12, 13, 14, 15, 16, 17, 18, 19, 20, 21, 22, 23, 24, 25, 26, 27] (fun zb => [(4, .v (.s (.int .i64 zb.1.1))), (3, .v (.s (.int .i64 zb.1.2)))]) (fun _ => S) (fun zb => l.length - zb.1.1) ⟨(0, 193017 + (l.length : Int)), Nat.zero_le _⟩ okL rfl ?_
 rintro ⟨⟨i, st⟩, hi⟩; dsimp only
 replace hi : i ≤ l.length := hi
 repeat' ((conv => whnf) <;> first
  | rw [zad (by omega)] | refine cD (fun _ => ?_) fun _ => ?_ | refine cE (fun _ => ?_) fun _ => ?_ | refine cT ?_ | refine cF ?_ | refine cN (fun _ => ?_) fun _ => ?_ | refine cI (fun _ => ?_) fun _ => ?_ | refine rE fun hml => ?_ | refine rI aN rf ix ?_ | refine zaf aN tv ix ?_ | refine nP ?_ | refine And.intro ?_ ?_)
 all_goals first
  | exact Ext.push _ _
  | rfl
  | (refine ⟨⟨(i + 1, bitsI .and .i64 (wrapI .i64 (wrapI .i64 (wrapI .i64 (st * 137) + wrapI .i64 (l[((i : Nat) : Int).toNat]'(by omega))) + 11)) 1073741823), by dsimp only; omega⟩, ?_, rfl, by dsimp only; omega⟩; (conv => whnf); repeat' (first | exact trivial | exact rfl | (rw [zad (by omega)]; exact rfl) | apply And.intro))
  | (obtain ⟨ids, h1⟩ := h
     have hlt := h1.lt
     refine ⟨⟨c, 0, st, l, ids, by rw [List.getElem?_append_right (Nat.le_refl _), Nat.sub_self]; rfl, h1.frame fun j hj => List.getElem?_append_left (hlt j hj), hlt, by omega, by omega, hz⟩⟩)
  | (exfalso; omega)
end Go.Proofs.YtlmmdpmmdmhacaaGreat
