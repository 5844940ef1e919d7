/- slices.Insert of one element at a slice of structs: the library's text walked, on the model itself. -/
import Derived.Test.YtlmmdpmmdmhacaaGreatKt20
import Derived.Lib.Overlaps
import Derived.Lib.AppendZerosOnto
import Derived.Shelf.RegionOpenPlain
import Derived.Laws.Externs
import Derived.Lib.Walk
import Derived.WalkKit
namespace Go.Proofs.YtlmmdpmmdmhacaaGreat
set_option linter.unusedVariables false
set_option linter.unusedSimpArgs false
set_option maxRecDepth 100000
section
open Go Go.RowKit
section
variable {P : Program}
theorem zbo (w : World) (dT sT ty elem : TypeId) (k g o dLen dCap : Nat) (a : Addr) (sLen sCap : Nat) (cur : Array Value) (t : TypeId) (cs : List Value)
 (hu : P.underlying dT = some (.slice elem)) (hs : (P.info? elem).map (·.size) = some k)
 (hg : w.heap[g]? = some (.cells cur t (0, 0))) (hn : cs.length = Nat.min sLen dLen * k)
 (hsrc : ∀ j v, cs[j]? = some v → w.cell? (a.add j) = some v) (hfit : o + cs.length ≤ cur.size) (h1 : ∀ v ∈ cs, v.oneCell' = true) :
 (Builtin.copy_ #[dT, sT] ty #[.slice (some ⟨g, o, none⟩) dLen dCap, .slice (some a) sLen sCap]).run P w =
  .ok (goInt (Nat.min sLen dLen)) (w.setRow g (cur.toList.take o ++ cs ++ cur.toList.drop (o + cs.length)).toArray) := by
 have hl := run_loadCells_list (P := P) w a cs hsrc
 have hst := run_storeCells_at P g o t cs 0 cur w hg (by simpa using hfit) h1
 cases hq : P.info? elem with
 | none => simp [hq] at hs
 | some i =>
   have hi : i.size = k := by simpa [hq] using hs
   simp [Builtin.copy_, run_underlying hu, Builtin.lenOf, Builtin.firstCells, sizeOf, typeInfo, hq, hi, ← hn, hl, hst]
theorem wpc {ops : Array Oper} {rest : List Oper} {o : Oper} {a : Act} {w : World} {Q : Exit → Act → World → Prop} (hgd : o.guard = none) (d s : Operand) (t t' : TypeId)
 (ho : o.op = .call { callee := .builtin .copy, args := #[d, s], argTypes := #[t, t'] }) (v u : Value) (hd : a.eval d = v) (hs : a.eval s = u) {v' : Value} {w' : World}
 (hr : (Builtin.copy_ #[t, t'] o.type #[v, u]).run P w = .ok v' w') (h : wpList P ops Q rest (a.put o.dst v') w') : wpList P ops Q (o :: rest) a w :=
 wpList_plain hgd fun _ hK => by
  unfold Oper.wp execOp
  simp only [ho, resolve, invoke, builtin, Sem.run_bind, Sem.run_pure, Result.andThen_ok, List.map_toArray, List.map_cons, List.map_nil, hd, hs, hr]
  exact hK _ _ h
theorem zx6 {ops : Array Oper} {o : Oper} {a : Act} {w : World} {K : Act → World → Prop} {Q : Exit → Act → World → Prop} {E : Prop}
 (hg : o.guard = none) (d x : Operand) (dT sT : TypeId) (hop : o.op = Op.call { callee := Callee.builtin Builtin.copy, args := #[d, x], argTypes := #[dT, sT] })
 (v u : Value) (hd : a.eval d = v) (hx : a.eval x = u) {v' : Value} {w' : World} (hr : (Builtin.copy_ #[dT, sT] o.type #[v, u]).run P w = .ok v' w') (hK : K (a.put o.dst v') w') :
 if Region.wanted o (yielded ops a.tmps) = true then Oper.wp P o a w K Q else E := by
 have hw : Region.wanted o (yielded ops a.tmps) = true := by simp [Region.wanted, hg]
 rw [if_pos hw]
 unfold Oper.wp
 simp [execOp, hop, resolve, invoke, builtin, hd, hx, hr, Result.andThen]
 exact hK
end
theorem zig (k a m : Nat) (L V : List Value) (hL : a + k + m ≤ L.length) (A : List Value) (hA : A = L.take (a + k) ++ (L.drop a).take m ++ L.drop (a + k + m)) :
 A.take a ++ (V ++ A.drop (a + k)) = L.take a ++ V ++ (L.drop a).take m ++ L.drop (a + k + m) := by
 have h1 : A.take a = L.take a := by
  rw [hA, List.append_assoc, List.take_append_of_le_length (by rw [List.length_take]; omega), List.take_take]; congr 1; omega
 have h2 : A.drop (a + k) = (L.drop a).take m ++ L.drop (a + k + m) := by
  rw [hA, List.append_assoc]
  exact List.drop_left' (by rw [List.length_take]; omega)
 rw [h1, h2]; simp [List.append_assoc]
theorem zrt (w : World) (A B1 B2 : Array Value) (t : Nat) : (((w.alloc (.cells A t)).drew.setRow w.heap.size B1).drew.setRow w.heap.size B2).heap = (w.alloc (.cells B2 t)).heap := by
 have h0 : (w.alloc (.cells A t)).drew.heap[w.heap.size]? = some (.cells A t (0, 0)) := Go.heap_alloc_new w _
 have h1 := setRow_heap _ w.heap.size A B1 t (0, 0) h0
 have h2 := setRow_heap ((w.alloc (.cells A t)).drew.setRow w.heap.size B1).drew w.heap.size B1 B2 t (0, 0) h1
 apply Array.ext_getElem?
 intro j
 by_cases hj : j = w.heap.size
 ·subst hj
  rw [h2]; exact (Go.heap_alloc_new w _).symm
 ·rw [setRow_other _ _ _ _ hj]
  show ((w.alloc (.cells A t)).drew.setRow w.heap.size B1).heap[j]? = _
  rw [setRow_other _ _ _ _ hj]
  by_cases hl : j < w.heap.size
  ·rw [Go.heap_alloc_old w _ hl]; exact Go.heap_alloc_old w _ hl
  ·rw [Array.getElem?_eq_none (by show (w.heap.push _).size ≤ j; rw [Array.size_push]; omega), Array.getElem?_eq_none (by show (w.heap.push _).size ≤ j; rw [Array.size_push]; omega)]
theorem zji (k a m r : Nat) (L V Z : List Value) (hL : a + m ≤ L.length) (hV : V.length = k) (hZ : Z.length = k + m + r) (A : List Value) (hA : A = L.take a ++ Z) (B : List Value) (hB : B = A.take a ++ (V ++ A.drop (a + k))) :
 B.take (a + k) ++ ((L.drop a).take m ++ B.drop (a + k + m)) = L.take a ++ V ++ (L.drop a).take m ++ Z.drop (k + m) := by
 have hla : (L.take a).length = a := by rw [List.length_take]; omega
 have h1 : A.take a = L.take a := by rw [hA]; exact List.take_left' hla
 have h2 : A.drop (a + k) = Z.drop k := by rw [hA, List.drop_append, List.drop_of_length_le (by omega), hla]; simp
 rw [h1, h2] at hB
 have h3 : B.take (a + k) = L.take a ++ V := by rw [hB, ← List.append_assoc]; exact List.take_left' (by rw [List.length_append, hla, hV])
 have h4 : B.drop (a + k + m) = Z.drop (k + m) := by
  rw [hB, ← List.append_assoc, List.drop_append, List.drop_of_length_le (by rw [List.length_append, hla, hV]; omega), List.length_append, hla, hV, List.drop_drop]
  simp
 rw [h3, h4]; simp [List.append_assoc]
end
section
open Go Go.RowKit
structure InsRaw (P : Program) (F k by' te : Nat) : Prop where
 shift : ∀ (b n c i vb vc : Nat) (cur vcur : Array Value) (e e' : Nat) (w : World), i < n → n + 1 ≤ c → c ≤ 9223372036854775807 → vb ≠ b →
  w.heap[b]? = some (.cells cur e (0, 0)) → cur.size = c * k → w.heap[vb]? = some (.cells vcur e' (0, 0)) → k ≤ vcur.size →
  (∀ v ∈ (cur.toList.drop (i * k)).take ((n - i) * k), v.oneCell' = true) → (∀ v ∈ vcur.toList.take k, v.oneCell' = true) →
  Calls P F #[.slice (some ⟨b, 0, none⟩) n c, .int .i64 i, .slice (some ⟨vb, 0, none⟩) 1 vc] w fun r w' =>
   r = .returned (.slice (some ⟨b, 0, none⟩) (n + 1) c) ∧ w' = w.drew.setRow b (cur.toList.take (i * k) ++ vcur.toList.take k ++ (cur.toList.drop (i * k)).take ((n - i) * k) ++ cur.toList.drop (i * k + k + (n - i) * k)).toArray
 grow : ∀ (b n c i vb vc : Nat) (cur vcur : Array Value) (e e' : Nat) (w : World), i < n → n ≤ c → c < n + 1 → (n + 1) * by' ≤ 140737488355328 → vb ≠ b →
  w.heap[b]? = some (.cells cur e (0, 0)) → cur.size = c * k → w.heap[vb]? = some (.cells vcur e' (0, 0)) → k ≤ vcur.size →
  (∀ v ∈ (cur.toList.drop (i * k)).take ((n - i) * k), v.oneCell' = true) → (∀ v ∈ vcur.toList.take k, v.oneCell' = true) →
  Calls P F #[.slice (some ⟨b, 0, none⟩) n c, .int .i64 i, .slice (some ⟨vb, 0, none⟩) 1 vc] w fun r w' =>
   r = .returned (.slice (some ⟨w.heap.size, 0, none⟩) (n + 1) (grownCap w (n + 1) c te)) ∧ n + 1 ≤ grownCap w (n + 1) c te ∧
   ∃ Z : List Value, Z.length = (grownCap w (n + 1) c te - (n + 1)) * k ∧ w'.heap = (w.alloc (.cells (cur.toList.take (i * k) ++ vcur.toList.take k ++ (cur.toList.drop (i * k)).take ((n - i) * k) ++ Z).toArray te)).heap ∧ w'.os = w.os ∧ w'.tape = w.tape ∧ w'.output = w.output
section
variable {μ : Mp} {S : Store} {w : World} {k : Nat}
theorem FlatR.take {xs : List (List C)} {us : List Value} (h : FlatR μ S k xs us) (i : Nat) : FlatR μ S k (xs.take i) (us.take (i * k)) := by
 refine ⟨by rw [List.length_take, List.length_take, h.1, Nat.mul_comm, Nat.mul_comm xs.length, Nat.mul_comm _ k, Nat.mul_min_mul_left], fun j cs hj => ?_⟩
 rw [List.getElem?_take] at hj
 split at hj
 ·rename_i hlt
  obtain ⟨a, b⟩ := h.2 j cs hj
  refine ⟨a, fun m c hm => ?_⟩
  obtain ⟨u, hu, hc⟩ := b m c hm
  have hmk : m < k := by rw [← a]; exact (List.getElem?_eq_some_iff.1 hm).1
  have : (j + 1) * k ≤ i * k := Nat.mul_le_mul_right _ hlt
  rw [Nat.add_mul, Nat.one_mul] at this
  exact ⟨u, by rw [List.getElem?_take, if_pos (by omega)]; exact hu, hc⟩
 ·cases hj
theorem FlatR.drop {xs : List (List C)} {us : List Value} (h : FlatR μ S k xs us) (i : Nat) : FlatR μ S k (xs.drop i) (us.drop (i * k)) := by
 refine ⟨by rw [List.length_drop, List.length_drop, h.1, Nat.sub_mul], fun j cs hj => ?_⟩
 rw [List.getElem?_drop] at hj
 obtain ⟨a, b⟩ := h.2 (i + j) cs hj
 refine ⟨a, fun m c hm => ?_⟩
 obtain ⟨u, hu, hc⟩ := b m c hm
 exact ⟨u, by rw [List.getElem?_drop, show i * k + (j * k + m) = (i + j) * k + m by rw [Nat.add_mul]; omega]; exact hu, hc⟩
theorem zpy {c v : C} {i : Int} {us : Array Value} (h : VsR μ S [.s c, .s (.int .i64 i), .s v] us) : ∃ u x, us = #[u, .int .i64 i, x] ∧ CR μ S c u ∧ CR μ S v x := by
 obtain ⟨hl, hv⟩ := h
 obtain ⟨u, h1, h2⟩ := hv 0 _ rfl
 obtain ⟨y, h3, h4⟩ := hv 1 _ rfl
 obtain ⟨x, h5, h6⟩ := hv 2 _ rfl
 have h4 : y = .int .i64 i := h4
 subst h4
 refine ⟨u, x, ?_, h2, h6⟩
 apply Array.ext
 ·simpa using hl
 ·intro j hj hj2
  have : j = 0 ∨ j = 1 ∨ j = 2 := by simp at hj2; omega
  rcases this with rfl | rfl | rfl
  ·have := (Array.getElem?_eq_some_iff.1 h1).2
   simpa using this
  ·have := (Array.getElem?_eq_some_iff.1 h3).2
   simpa using this
  ·have := (Array.getElem?_eq_some_iff.1 h5).2
   simpa using this
theorem zs8 {xs : List (List C)} {y : List C} {id i : Nat} {m : Loc} (hrow : S[id]? = some ⟨true, k, xs⟩) (hi : i < xs.length) :
 Keeps μ S (upd μ id (some m)) (S.set id ⟨true, k, xs.take i ++ y :: xs.drop i⟩) := by
 have hlt := (List.getElem?_eq_some_iff.1 hrow).1
 intro id' r h'
 by_cases e : id' = id
 ·subst e
  rw [hrow] at h'; cases h'
  have hl : (xs.take i ++ y :: xs.drop i).length = xs.length + 1 := by simp; omega
  exact ⟨⟨true, k, xs.take i ++ y :: xs.drop i⟩, by simp [hlt], rfl, rfl, by rw [hl]; exact Nat.le_succ _, fun e => by rw [hl] at e; simp at e⟩
 ·exact ⟨r, by rw [List.getElem?_set_ne (Ne.symm e)]; exact h', rfl, rfl, Nat.le_refl _, fun _ => zbb _ _ e⟩
end
theorem InsRaw.ev {P : Program} {F k by' te : Nat} (hR : InsRaw P F k by' te) (hk : 0 < k) (hby : 0 < by') (fok : FOK P F) {S : Store} {xs : List (List C)} {y : List C} {id vid i : Nat}
 (hrow : S[id]? = some ⟨true, k, xs⟩) (hv : S[vid]? = some ⟨true, k, [y]⟩) (hne : vid ≠ id) (hi : i < xs.length) (hbig : (xs.length + 1) * by' ≤ 140737488355328) :
 EvA P F [.s (.sl id 0 xs.length xs.length), .s (.int .i64 i), .s (.sl vid 0 1 1)] S (fun r S' => r = .v (.s (.sl id 0 (xs.length + 1) (xs.length + 1))) ∧ S' = S.set id ⟨true, k, xs.take i ++ y :: xs.drop i⟩) := by
 refine ⟨fok, fun μ w us rs hA hvs => ?_⟩
 obtain ⟨u, x, rfl, hu, hx⟩ := zpy hvs
 obtain ⟨m, cur, e, m1, rfl, hnc, hcm, hb0, hh, hsz, hf⟩ := zku rs hrow rfl rfl hu
 obtain ⟨m', vcur, e', v1, rfl, vnc, vcm, vb0, vh, vsz, vf⟩ := zku rs hv rfl rfl hx
 have hblk : m'.blk ≠ m.blk := rs.sep vid id _ _ m' m hv hrow v1 m1 hne rfl
 simp only at hsz hf vsz vf
 have hnc : xs.length ≤ m.cap := hnc
 have vnc : 1 ≤ m'.cap := vnc
 have hvs5 : k ≤ vcur.size := by rw [vsz]; exact Nat.le_mul_of_pos_left _ (by omega)
 have hmulc : xs.length * k ≤ m.cap * k := Nat.mul_le_mul_right _ hnc
 have hik : i * k ≤ xs.length * k := Nat.mul_le_mul_right _ (Nat.le_of_lt hi)
 have ht : cur.toList.take (i * k) = (cur.toList.take (xs.length * k)).take (i * k) := by rw [List.take_take]; congr 1; omega
 have hd : (cur.toList.drop (i * k)).take ((xs.length - i) * k) = (cur.toList.take (xs.length * k)).drop (i * k) := by
  rw [List.drop_take, Nat.sub_mul]
 have vf1 : FlatR μ S k [y] (vcur.toList.take k) := by simpa using vf
 have flat : FlatR μ S k (xs.take i ++ y :: xs.drop i) (cur.toList.take (i * k) ++ vcur.toList.take k ++ (cur.toList.drop (i * k)).take ((xs.length - i) * k)) := by
  rw [ht, hd, List.append_assoc]
  exact (hf.take i).append (vf1.append (hf.drop i))
 have hlen : (xs.take i ++ y :: xs.drop i).length = xs.length + 1 := by simp; omega
 have h1 : ∀ v ∈ (cur.toList.drop (i * k)).take ((xs.length - i) * k), v.oneCell' = true := by rw [hd]; exact (hf.drop i).ones
 have hlt := (List.getElem?_eq_some_iff.1 hrow).1
 by_cases hroom : xs.length + 1 ≤ m.cap
 ·refine (hR.shift m.blk xs.length m.cap i m'.blk m'.cap cur vcur e e' w hi hroom (by simp only [maxLen] at hcm; omega) hblk hh hsz vh hvs5 h1 vf1.ones).mono ?_
  rintro r w' ⟨rfl, rfl⟩
  have hheap := setRow_heap w.drew m.blk cur (cur.toList.take (i * k) ++ vcur.toList.take k ++ (cur.toList.drop (i * k)).take ((xs.length - i) * k) ++ cur.toList.drop (i * k + k + (xs.length - i) * k)).toArray e (0, 0) hh
  have kp := zs8 (μ := μ) (y := y) (m := m) hrow hi
  have hmulr : (xs.length + 1) * k ≤ m.cap * k := Nat.mul_le_mul_right _ hroom
  rw [Nat.add_mul, Nat.one_mul] at hmulr
  have hsub : (xs.length - i) * k = xs.length * k - i * k := Nat.sub_mul ..
  have hok' : RowOK (upd μ id (some m)) (S.set id ⟨true, k, xs.take i ++ y :: xs.drop i⟩) (w.drew.setRow m.blk (cur.toList.take (i * k) ++ vcur.toList.take k ++ (cur.toList.drop (i * k)).take ((xs.length - i) * k) ++ cur.toList.drop (i * k + k + (xs.length - i) * k)).toArray) ⟨true, k, xs.take i ++ y :: xs.drop i⟩ m :=
   RowOK.of_flat rfl (flat.keep kp) hb0 hheap (fun j u hj => by
    rw [List.getElem?_toArray, List.getElem?_append_left (List.getElem?_eq_some_iff.1 hj).1]; exact hj)
    (by simp only [List.size_toArray, List.length_append, List.length_take, List.length_drop, Array.length_toList]; omega) (by rw [hlen]; exact hroom) hcm
  obtain ⟨_, rs', ev⟩ := rs.regrow (row' := ⟨true, k, xs.take i ++ y :: xs.drop i⟩) (w' := w.drew.setRow m.blk (cur.toList.take (i * k) ++ vcur.toList.take k ++ (cur.toList.drop (i * k)).take ((xs.length - i) * k) ++ cur.toList.drop (i * k + k + (xs.length - i) * k)).toArray) hrow m1 rfl rfl rfl (by show xs.length < (xs.take i ++ y :: xs.drop i).length; rw [hlen]; exact Nat.lt_succ_self _) (by simp [World.setRow]) ⟨rfl, rfl, rfl⟩ (fun b _ hb => setRow_other w.drew _ _ _ hb) (.inl rfl) hok'
  exact ⟨_, _, _, _, ⟨rfl, rfl⟩, rfl, rs', ⟨⟨m.blk, 0, none⟩, m.cap, rfl, hroom, ⟨true, k, xs.take i ++ y :: xs.drop i⟩, by simp [hlt], by rw [hlen]; exact Nat.le_refl _, fun _ => ⟨m, za2 _ _ _, by omega, fun _ => by simp [hb0], fun _ _ _ => ⟨rfl, rfl⟩⟩⟩, ev⟩
 ·refine (hR.grow m.blk xs.length m.cap i m'.blk m'.cap cur vcur e e' w hi hnc (by omega) hbig hblk hh hsz vh hvs5 h1 vf1.ones).mono ?_
  rintro r w' ⟨rfl, hge, Z, hZ, hheap', ho, htp, hou⟩
  have hle : xs.length + 1 ≤ (xs.length + 1) * by' := Nat.le_mul_of_pos_right _ hby
  have hcm' := grownCap_le_maxLen w (xs.length + 1) m.cap te (by simp only [maxLen]; omega)
  have hheap : w'.heap[w.heap.size]? = some (.cells (cur.toList.take (i * k) ++ vcur.toList.take k ++ (cur.toList.drop (i * k)).take ((xs.length - i) * k) ++ Z).toArray te (0, 0)) := by rw [hheap']; exact Go.heap_alloc_new w _
  have kp := zs8 (μ := μ) (y := y) (m := ⟨w.heap.size, 0, grownCap w (xs.length + 1) m.cap te⟩) hrow hi
  have hsub : (xs.length - i) * k = xs.length * k - i * k := Nat.sub_mul ..
  have hGk : (xs.length + 1) * k ≤ grownCap w (xs.length + 1) m.cap te * k := Nat.mul_le_mul_right _ hge
  rw [Nat.sub_mul] at hZ
  rw [Nat.add_mul, Nat.one_mul] at hGk hZ
  have hok' := RowOK.of_flat (w := w') (row := ⟨true, k, xs.take i ++ y :: xs.drop i⟩) (m := ⟨w.heap.size, 0, grownCap w (xs.length + 1) m.cap te⟩) rfl (flat.keep kp) rfl hheap (fun j u hj => by
   rw [List.getElem?_toArray, List.getElem?_append_left (List.getElem?_eq_some_iff.1 hj).1]; exact hj)
   (by simp only [List.size_toArray, List.length_append, List.length_take, List.length_drop, Array.length_toList]; omega) (by rw [hlen]; exact hge) hcm'
  obtain ⟨_, rs', ev⟩ := rs.regrow (row' := ⟨true, k, xs.take i ++ y :: xs.drop i⟩) (w' := w') hrow m1 rfl rfl rfl (by show xs.length < (xs.take i ++ y :: xs.drop i).length; rw [hlen]; exact Nat.lt_succ_self _) (by rw [hheap']; simp) ⟨ho, htp, hou⟩ (fun b hb _ => by rw [hheap']; exact Go.heap_alloc_old w _ hb) (.inr (Nat.le_refl _)) hok'
  exact ⟨_, _, _, _, ⟨rfl, rfl⟩, rfl, rs', ⟨⟨w.heap.size, 0, none⟩, _, rfl, hge, ⟨true, k, xs.take i ++ y :: xs.drop i⟩, by simp [hlt], by rw [hlen]; exact Nat.le_refl _, fun _ => ⟨_, za2 _ _ _, by omega, fun _ => by simp, fun _ _ _ => ⟨rfl, rfl⟩⟩⟩, ev⟩
theorem InsRaw.fr {P : Program} {F k by' te : Nat} (hR : InsRaw P F k by' te) (hk : 0 < k) (hby : 0 < by') (fok : FOK P F) {S0 S1 S2 : Store} {xs : List (List D)} {ds : List D} {y : List C} {c : C} {i : Nat}
 (hE : Ext S0 S2) (h : Fr S0.length S1 [.sl k xs] [c]) (e1 : Ext S1 S2) (hy : Fr S1.length S2 ds y) (h01 : S0.length ≤ S1.length) (hd : ds.length = k) (hi : i < xs.length) (hbig : (xs.length + 1) * by' ≤ 140737488355328) :
 EvA P F [.s c, .s (.int .i64 i), .s (.sl S2.length 0 1 1)] (S2 ++ [⟨true, k, [y]⟩]) (fun r S' => Ext S0 S' ∧ ∃ c', r = .v (.s c') ∧ Fr S0.length S' [.sl k (xs.take i ++ ds :: xs.drop i)] [c']) := by
 obtain ⟨ids, h, hn, hlo⟩ := h.one
 have hid1 : ∀ id ∈ ids, id < S1.length := h.lt
 have h : Rep true S2 (.sl k xs) c ids := h.frame fun id hi => e1.at (hid1 id hi)
 obtain ⟨jy, hy, hyn, hyl⟩ := hy
 have hyt := hy.lt
 have h12 := e1.len
 unfold Rep at h
 obtain ⟨hl, h⟩ := h
 rcases h with ⟨h1, _, _⟩ | ⟨id, o, t, row, js0, h1, h2, h3, h4, h5, h6, h7, h8⟩
 ·subst h1; cases hi
 obtain ⟨ho, ht, hown⟩ := h7 rfl
 subst ho
 have hrl : row.xs.length = xs.length := by omega
 have hrow : row = ⟨true, k, row.xs⟩ := by cases row; simp at hown h4; simp [hown, h4]
 have hid : S0.length ≤ id := hlo id (by rw [h2]; simp)
 have hid1' : id < S1.length := hid1 id (by rw [h2]; simp)
 rw [h2, List.nodup_cons] at hn
 have hrow2 : (S2 ++ ([⟨true, k, [y]⟩] : Store))[id]? = some ⟨true, k, row.xs⟩ := by rw [List.getElem?_append_left (by omega), h3, ← hrow]
 refine EvA.mono (R := fun r S' => r = .v (.s (.sl id 0 (row.xs.length + 1) (row.xs.length + 1))) ∧ S' = (S2 ++ ([⟨true, k, [y]⟩] : Store)).set id ⟨true, k, row.xs.take i ++ y :: row.xs.drop i⟩) ?_ ?_
 ·rw [h1, ← ht, ← hrl]
  exact hR.ev hk hby fok hrow2 (by simp) (by omega) (by omega) (by rw [hrl]; exact hbig)
 ·rintro r S' ⟨rfl, rfl⟩
  rw [List.drop_zero, List.take_of_length_le (by omega)] at h8
  have hlt2 : id < (S2 ++ ([⟨true, k, [y]⟩] : Store)).length := by simp; omega
  have hxl : (xs.take i ++ ds :: xs.drop i).length = xs.length + 1 := by simp; omega
  have hrl2 : (row.xs.take i ++ y :: row.xs.drop i).length = xs.length + 1 := by simp; omega
  have e8 : Rep2 true S2 (xs.take i ++ xs.drop i) row.xs js0 := by rw [List.take_append_drop]; exact h8
  obtain ⟨r1, r2, j1, j2, g1, g2, g3, g4⟩ := e8.split
  have hr1 : r1.length = i := by rw [g3.len, List.length_take]; omega
  have t1 : row.xs.take i = r1 := by rw [g1]; exact List.take_left' hr1
  have t2 : row.xs.drop i = r2 := by rw [g1]; exact List.drop_left' hr1
  rw [hrl, t1, t2]
  have hkeep : ∀ x, x ≠ id → x < S2.length → ((S2 ++ ([⟨true, k, [y]⟩] : Store)).set id ⟨true, k, r1 ++ y :: r2⟩)[x]? = S2[x]? := fun x hx hl2 => by
   rw [List.getElem?_set_ne (Ne.symm hx), List.getElem?_append_left hl2]
  have far : ∀ x ∈ js0, x ≠ id := fun x hx e => hn.1 (e ▸ hx)
  have farl : ∀ x ∈ js0, x < S2.length := fun x hx => by have := hid1 x (by rw [h2]; simp [hx]); omega
  refine ⟨(hE.trans (Ext.push S2 _)).set hid _, _, rfl, zqa (ids := id :: (j1 ++ (jy ++ j2))) ?_ ?_ ?_⟩
  ·unfold Rep
   refine ⟨by rw [hxl]; simp only [maxLen]; have : xs.length + 1 ≤ (xs.length + 1) * by' := Nat.le_mul_of_pos_right _ hby; omega, .inr ⟨id, 0, xs.length + 1, ⟨true, k, r1 ++ y :: r2⟩, j1 ++ (jy ++ j2), by rw [hxl], rfl, by rw [List.getElem?_set_self hlt2], rfl, by rw [← t1, ← t2]; exact hrl2, by omega, fun _ => ⟨rfl, hxl, rfl⟩, ?_⟩⟩
   have e : List.take (xs.take i ++ ds :: xs.drop i).length (List.drop 0 (r1 ++ y :: r2)) = r1 ++ y :: r2 := by
    rw [List.drop_zero, List.take_of_length_le (by rw [hxl, ← t1, ← t2, hrl2]; exact Nat.le_refl _)]
   rw [e]
   refine (g3.frame fun x hx => ?_).append ?_
   ·exact hkeep x (far x (by rw [g2]; simp [hx])) (farl x (by rw [g2]; simp [hx]))
   ·rw [zbn]
    refine ⟨y, r2, jy, j2, rfl, rfl, hy.frame fun x hx => hkeep x (by have := hyl x hx; omega) (hyt x hx), g4.frame fun x hx => ?_⟩
    exact hkeep x (far x (by rw [g2]; simp [hx])) (farl x (by rw [g2]; simp [hx]))
  ·have hn2 := hn.2
   rw [g2, List.nodup_append] at hn2
   have fy : ∀ x ∈ js0, ∀ z ∈ jy, x ≠ z := fun x hx z hz => by have := hid1 x (by rw [h2]; simp [hx]); have := hyl z hz; omega
   have iy : ∀ z ∈ jy, z ≠ id := fun z hz => by have := hyl z hz; omega
   rw [List.nodup_cons, List.nodup_append, List.nodup_append]
   refine ⟨fun hx => ?_, hn2.1, ⟨hyn, hn2.2.1, fun a ha b hb => Ne.symm (fy b (by rw [g2]; simp [hb]) a ha)⟩, fun a ha b hb => ?_⟩
   ·simp only [List.mem_append] at hx
    rcases hx with hx | hx | hx
    ·exact far _ (by rw [g2]; simp [hx]) rfl
    ·exact iy _ hx rfl
    ·exact far _ (by rw [g2]; simp [hx]) rfl
   ·rcases List.mem_append.1 hb with hb | hb
    ·exact fy a (by rw [g2]; simp [ha]) b hb
    ·exact hn2.2.2 a ha b hb
  ·intro x hx
   simp only [List.mem_cons, List.mem_append] at hx
   rcases hx with rfl | hx | hx | hx
   ·exact hid
   ·exact hlo x (by rw [h2, g2]; simp [hx])
   ·exact Nat.le_trans h01 (hyl x hx)
   ·exact hlo x (by rw [h2, g2]; simp [hx])
end
section
open Go Go.RowKit
section
variable {S0 S1 S2 : Store}
theorem InsRaw.ids {P : Program} {F k by' te : Nat} (hR : InsRaw P F k by' te) (hk : 0 < k) (hby : 0 < by') (fok : FOK P F) {xs : List (List D)} {ds : List D} {y : List C} {c : C} {i : Nat} {ids jy : List Nat}
 (h : Rep true S2 (.sl k xs) c ids) (hn : ids.Nodup) (hy : RepL true S2 ds y jy) (hyn : jy.Nodup) (hdis : ∀ a ∈ ids, ∀ b ∈ jy, a ≠ b) (hi : i < xs.length) (hbig : (xs.length + 1) * by' ≤ 140737488355328) :
 EvA P F [.s c, .s (.int .i64 i), .s (.sl S2.length 0 1 1)] (S2 ++ [⟨true, k, [y]⟩]) (fun r S' => ∃ c' ids', r = .v (.s c') ∧ Rep true S' (.sl k (xs.take i ++ ds :: xs.drop i)) c' ids' ∧ ids'.Nodup ∧ (∀ x ∈ ids', x ∈ ids ∨ x ∈ jy) ∧ S2.length ≤ S'.length ∧ ∀ x, x < S2.length → x ∉ ids → S'[x]? = S2[x]?) := by
 have hid1 : ∀ id ∈ ids, id < S2.length := h.lt
 have hyt := hy.lt
 unfold Rep at h
 obtain ⟨hl, h⟩ := h
 rcases h with ⟨h1, _, _⟩ | ⟨id, o, t, row, js0, h1, h2, h3, h4, h5, h6, h7, h8⟩
 ·subst h1; cases hi
 obtain ⟨ho, ht, hown⟩ := h7 rfl
 subst ho
 have hrl : row.xs.length = xs.length := by omega
 have hrow : row = ⟨true, k, row.xs⟩ := by cases row; simp at hown h4; simp [hown, h4]
 have hid1' : id < S2.length := hid1 id (by rw [h2]; simp)
 rw [h2, List.nodup_cons] at hn
 have hrow2 : (S2 ++ ([⟨true, k, [y]⟩] : Store))[id]? = some ⟨true, k, row.xs⟩ := by rw [List.getElem?_append_left (by omega), h3, ← hrow]
 refine EvA.mono (R := fun r S' => r = .v (.s (.sl id 0 (row.xs.length + 1) (row.xs.length + 1))) ∧ S' = (S2 ++ ([⟨true, k, [y]⟩] : Store)).set id ⟨true, k, row.xs.take i ++ y :: row.xs.drop i⟩) ?_ ?_
 ·rw [h1, ← ht, ← hrl]
  exact hR.ev hk hby fok hrow2 (by simp) (by omega) (by omega) (by rw [hrl]; exact hbig)
 ·rintro r S' ⟨rfl, rfl⟩
  rw [List.drop_zero, List.take_of_length_le (by omega)] at h8
  have hlt2 : id < (S2 ++ ([⟨true, k, [y]⟩] : Store)).length := by simp; omega
  have hxl : (xs.take i ++ ds :: xs.drop i).length = xs.length + 1 := by simp; omega
  have hrl2 : (row.xs.take i ++ y :: row.xs.drop i).length = xs.length + 1 := by simp; omega
  have e8 : Rep2 true S2 (xs.take i ++ xs.drop i) row.xs js0 := by rw [List.take_append_drop]; exact h8
  obtain ⟨r1, r2, j1, j2, g1, g2, g3, g4⟩ := e8.split
  have hr1 : r1.length = i := by rw [g3.len, List.length_take]; omega
  have t1 : row.xs.take i = r1 := by rw [g1]; exact List.take_left' hr1
  have t2 : row.xs.drop i = r2 := by rw [g1]; exact List.drop_left' hr1
  rw [hrl, t1, t2]
  have hkeep : ∀ x, x ≠ id → x < S2.length → ((S2 ++ ([⟨true, k, [y]⟩] : Store)).set id ⟨true, k, r1 ++ y :: r2⟩)[x]? = S2[x]? := fun x hx hl2 => by
   rw [List.getElem?_set_ne (Ne.symm hx), List.getElem?_append_left hl2]
  have far : ∀ x ∈ js0, x ≠ id := fun x hx e => hn.1 (e ▸ hx)
  have farl : ∀ x ∈ js0, x < S2.length := fun x hx => hid1 x (by rw [h2]; simp [hx])
  have iy : ∀ z ∈ jy, z ≠ id := fun z hz e => hdis id (by rw [h2]; simp) z hz e.symm
  have fy : ∀ x ∈ js0, ∀ z ∈ jy, x ≠ z := fun x hx z hz => hdis x (by rw [h2]; simp [hx]) z hz
  refine ⟨_, id :: (j1 ++ (jy ++ j2)), rfl, ?_, ?_, fun x hx => ?_, by simp, fun x hx hxi => hkeep x (fun e => hxi (by rw [h2, e]; simp)) hx⟩
  ·unfold Rep
   refine ⟨by rw [hxl]; simp only [maxLen]; have : xs.length + 1 ≤ (xs.length + 1) * by' := Nat.le_mul_of_pos_right _ hby; omega, .inr ⟨id, 0, xs.length + 1, ⟨true, k, r1 ++ y :: r2⟩, j1 ++ (jy ++ j2), by rw [hxl], rfl, by rw [List.getElem?_set_self hlt2], rfl, by rw [← t1, ← t2]; exact hrl2, by omega, fun _ => ⟨rfl, hxl, rfl⟩, ?_⟩⟩
   have e : List.take (xs.take i ++ ds :: xs.drop i).length (List.drop 0 (r1 ++ y :: r2)) = r1 ++ y :: r2 := by
    rw [List.drop_zero, List.take_of_length_le (by rw [hxl, ← t1, ← t2, hrl2]; exact Nat.le_refl _)]
   rw [e]
   refine (g3.frame fun x hx => ?_).append ?_
   ·exact hkeep x (far x (by rw [g2]; simp [hx])) (farl x (by rw [g2]; simp [hx]))
   ·rw [zbn]
    refine ⟨y, r2, jy, j2, rfl, rfl, hy.frame fun x hx => hkeep x (iy x hx) (hyt x hx), g4.frame fun x hx => ?_⟩
    exact hkeep x (far x (by rw [g2]; simp [hx])) (farl x (by rw [g2]; simp [hx]))
  ·have hn2 := hn.2
   rw [g2, List.nodup_append] at hn2
   rw [List.nodup_cons, List.nodup_append, List.nodup_append]
   refine ⟨fun hx => ?_, hn2.1, ⟨hyn, hn2.2.1, fun a ha b hb => Ne.symm (fy b (by rw [g2]; simp [hb]) a ha)⟩, fun a ha b hb => ?_⟩
   ·simp only [List.mem_append] at hx
    rcases hx with hx | hx | hx
    ·exact far _ (by rw [g2]; simp [hx]) rfl
    ·exact iy _ hx rfl
    ·exact far _ (by rw [g2]; simp [hx]) rfl
   ·rcases List.mem_append.1 hb with hb | hb
    ·exact fy a (by rw [g2]; simp [ha]) b hb
    ·exact hn2.2.2 a ha b hb
  ·simp only [List.mem_cons, List.mem_append] at hx
   rcases hx with rfl | hx | hx | hx
   ·exact .inl (by rw [h2]; simp)
   ·exact .inl (by rw [h2, g2]; simp [hx])
   ·exact .inr hx
   ·exact .inl (by rw [h2, g2]; simp [hx])
theorem InsRaw.frAt {P : Program} {F k by' te : Nat} (hR : InsRaw P F k by' te) (hk0 : 0 < k) (hby : 0 < by') (fok : FOK P F) {o : Nat} {c : C} {ds : List D} {cs : List C} {xs : List (List D)} {dy : List D} {cy : List C} {i : Nat}
 (hE : Ext S0 S2) (h : Fr S0.length S2 (ds ++ dy) (cs ++ cy)) (hl : cs.length = ds.length) (hd : ds[o]? = some (.sl k xs)) (hc : cs[o]? = some c) (hi : i < xs.length) (hbig : (xs.length + 1) * by' ≤ 140737488355328) :
 EvA P F [.s c, .s (.int .i64 i), .s (.sl S2.length 0 1 1)] (S2 ++ [⟨true, k, [cy]⟩]) (fun r S' => Ext S0 S' ∧ ∃ c', r = .v (.s c') ∧ Fr S0.length S' (ds.set o (.sl k (xs.take i ++ dy :: xs.drop i))) (cs.set o c')) := by
 obtain ⟨ids, hg, hn, hlo⟩ := h
 obtain ⟨p1, p2, ia, jy, s1, s2, h, hy⟩ := hg.split
 obtain ⟨s3, s4⟩ := List.append_inj s1 (by rw [hl, h.len])
 subst s3; subst s4; subst s2
 have hnn := hn
 rw [List.nodup_append] at hnn
 obtain ⟨hna, hyn, hay⟩ := hnn
 have hlt := h.lt
 have hylt := hy.lt
 obtain ⟨c0, x, m, y, k1, k2, k3, k4⟩ := h.setAt o _ hd
 rw [hc] at k1; cases k1
 subst k2
 simp only [List.nodup_append, List.mem_append] at hna
 obtain ⟨⟨b1, b2, b3⟩, b4, b5⟩ := hna
 refine (hR.ids hk0 hby fok k3 b2 hy hyn (fun a ha b hb => hay a (by simp [ha]) b hb) hi hbig).mono ?_
 rintro _ S' ⟨c', ids', rfl, r1, r2, r3, r4, r5⟩
 have hxy : ∀ i, (i ∈ x ∨ i ∈ y) → S'[i]? = S2[i]? := fun i hi => by
  have hil := hlt i (by rcases hi with hi | hi <;> simp [hi])
  rw [r5 i hil (fun hm => by rcases hi with hi | hi; exact b3 i hi i hm rfl; exact b5 i (.inr hm) i hi rfl)]
 have far : ∀ i, (i ∈ x ∨ i ∈ y) → ∀ i', i' ∈ ids' → i ≠ i' := fun i hi i' hj e => by
  subst e
  rcases r3 i hj with h | h
  ·rcases hi with hi | hi
   ·exact b3 i hi i h rfl
   ·exact b5 i (.inr h) i hi rfl
  ·exact hay i (by rcases hi with hi | hi <;> simp [hi]) i h rfl
 refine ⟨?_, c', rfl, x ++ ids' ++ y, k4 (fun i hi => hxy i (by simpa using hi)) r1, ?_, fun i hi => ?_⟩
 ·refine zh7 (Nat.le_trans hE.len r4) fun i hi => ?_
  rw [r5 i (Nat.lt_of_lt_of_le hi hE.len) (fun hm => by have := hlo i (by simp [hm]); omega), hE.at hi]
 ·simp only [List.nodup_append, List.mem_append]
  refine ⟨⟨b1, r2, fun i hi i' hj => far i (.inl hi) i' hj⟩, b4, fun i hi i' hj => ?_⟩
  rcases hi with hi | hi
  ·exact b5 i (.inl hi) i' hj
  ·exact fun e => far i' (.inr hj) i hi e.symm
 ·rcases List.mem_append.1 hi with hi | hi
  ·rcases List.mem_append.1 hi with hi | hi
   ·exact hlo i (by simp [hi])
   ·rcases r3 i hi with h | h
    ·exact hlo i (by simp [h])
    ·exact hlo i (by simp [h])
  ·exact hlo i (by simp [hi])
end
end
end Go.Proofs.YtlmmdpmmdmhacaaGreat
