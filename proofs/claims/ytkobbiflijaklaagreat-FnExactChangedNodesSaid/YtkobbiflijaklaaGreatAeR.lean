/- slices.Insert of one element at a slice of structs: the library's text walked, on the model itself. -/
import Derived.Test.YtkobbiflijaklaaGreatAeQ
import Derived.Lib.Overlaps
import Derived.Lib.AppendZerosOnto
import Derived.Shelf.RegionOpenPlain
import Derived.Laws.Externs
import Derived.Lib.Walk
import Derived.WalkKit
namespace Go.Proofs.YtkobbiflijaklaaGreat
open Go Go.RowKit
set_option linter.unusedVariables false
set_option maxRecDepth 100000

section
variable {P : Program}
theorem run_copy_rowk (w : World) (dT sT ty elem : TypeId) (k g o dLen dCap : Nat) (a : Addr) (sLen sCap : Nat) (cur : Array Value) (t : TypeId) (cs : List Value)
    (hu : P.underlying dT = some (.slice elem)) (hs : (P.info? elem).map (·.size) = some k)
    (hg : w.heap[g]? = some (.cells cur t (0, 0))) (hn : cs.length = Nat.min sLen dLen * k)
    (hsrc : ∀ j v, cs[j]? = some v → w.cell? (a.add j) = some v) (hfit : o + cs.length ≤ cur.size) (h1 : ∀ v ∈ cs, v.oneCell' = true) :
    (Builtin.copy_ #[dT, sT] ty #[.slice (some ⟨g, o, none⟩) dLen dCap, .slice (some a) sLen sCap]).run P w =
      .ok (goInt (Nat.min sLen dLen)) (w.setRow g (cur.toList.take o ++ cs ++ cur.toList.drop (o + cs.length)).toArray) := by
  have hl := run_loadCells_list (P := P) w a cs hsrc
  have hst := run_storeCells_at P g o t cs 0 cur w hg (by simpa using hfit) h1
  cases hq : P.info? elem with
  | none => simp [hq] at hs
  | some i =>
    have hi : i.size = k := by simpa [hq] using hs
    simp [Builtin.copy_, run_underlying hu, Builtin.lenOf, Builtin.firstCells, sizeOf, typeInfo, hq, hi, ← hn, hl, hst]
theorem wpc {ops : Array Oper} {rest : List Oper} {o : Oper} {a : Act} {w : World} {Q : Exit → Act → World → Prop} (hgd : o.guard = none) (d s : Operand) (t t' : TypeId)
    (ho : o.op = .call { callee := .builtin .copy, args := #[d, s], argTypes := #[t, t'] }) (v u : Value) (hd : a.eval d = v) (hs : a.eval s = u) {v' : Value} {w' : World}
    (hr : (Builtin.copy_ #[t, t'] o.type #[v, u]).run P w = .ok v' w') (h : wpList P ops Q rest (a.put o.dst v') w') : wpList P ops Q (o :: rest) a w :=
  wpList_plain hgd fun _ hK => by
    unfold Oper.wp execOp
    simp only [ho, resolve, invoke, builtin, Sem.run_bind, Sem.run_pure, Result.andThen_ok, List.map_toArray, List.map_cons, List.map_nil, hd, hs, hr]
    exact hK _ _ h
theorem stepc {ops : Array Oper} {o : Oper} {a : Act} {w : World} {K : Act → World → Prop} {Q : Exit → Act → World → Prop} {E : Prop}
    (hg : o.guard = none) (d x : Operand) (dT sT : TypeId) (hop : o.op = Op.call { callee := Callee.builtin Builtin.copy, args := #[d, x], argTypes := #[dT, sT] })
    (v u : Value) (hd : a.eval d = v) (hx : a.eval x = u) {v' : Value} {w' : World} (hr : (Builtin.copy_ #[dT, sT] o.type #[v, u]).run P w = .ok v' w') (hK : K (a.put o.dst v') w') :
    if Region.wanted o (yielded ops a.tmps) = true then Oper.wp P o a w K Q else E := by
  have hw : Region.wanted o (yielded ops a.tmps) = true := by simp [Region.wanted, hg]
  rw [if_pos hw]
  unfold Oper.wp
  simp [execOp, hop, resolve, invoke, builtin, hd, hx, hr, Result.andThen]
  exact hK
end

theorem splice_shift (k a m : Nat) (L V : List Value) (hL : a + k + m ≤ L.length) (A : List Value) (hA : A = L.take (a + k) ++ (L.drop a).take m ++ L.drop (a + k + m)) :
    A.take a ++ (V ++ A.drop (a + k)) = L.take a ++ V ++ (L.drop a).take m ++ L.drop (a + k + m) := by
  have h1 : A.take a = L.take a := by
    rw [hA, List.append_assoc, List.take_append_of_le_length (by rw [List.length_take]; omega), List.take_take]; congr 1; omega
  have h2 : A.drop (a + k) = (L.drop a).take m ++ L.drop (a + k + m) := by
    rw [hA, List.append_assoc]
    exact List.drop_left' (by rw [List.length_take]; omega)
  rw [h1, h2]; simp [List.append_assoc]

theorem heap_two (w : World) (A B1 B2 : Array Value) (t : Nat) : (((w.alloc (.cells A t)).drew.setRow w.heap.size B1).drew.setRow w.heap.size B2).heap = (w.alloc (.cells B2 t)).heap := by
  have h0 : (w.alloc (.cells A t)).drew.heap[w.heap.size]? = some (.cells A t (0, 0)) := Go.heap_alloc_new w _
  have h1 := setRow_heap _ w.heap.size A B1 t (0, 0) h0
  have h2 := setRow_heap ((w.alloc (.cells A t)).drew.setRow w.heap.size B1).drew w.heap.size B1 B2 t (0, 0) h1
  apply Array.ext_getElem?
  intro j
  by_cases hj : j = w.heap.size
  · subst hj
    rw [h2]; exact (Go.heap_alloc_new w _).symm
  · rw [setRow_other _ _ _ _ hj]
    show ((w.alloc (.cells A t)).drew.setRow w.heap.size B1).heap[j]? = _
    rw [setRow_other _ _ _ _ hj]
    by_cases hl : j < w.heap.size
    · rw [Go.heap_alloc_old w _ hl]; exact Go.heap_alloc_old w _ hl
    · rw [Array.getElem?_eq_none (by show (w.heap.push _).size ≤ j; rw [Array.size_push]; omega), Array.getElem?_eq_none (by show (w.heap.push _).size ≤ j; rw [Array.size_push]; omega)]

theorem splice_grow (k a m r : Nat) (L V Z : List Value) (hL : a + m ≤ L.length) (hV : V.length = k) (hZ : Z.length = k + m + r) (A : List Value) (hA : A = L.take a ++ Z) (B : List Value) (hB : B = A.take a ++ (V ++ A.drop (a + k))) :
    B.take (a + k) ++ ((L.drop a).take m ++ B.drop (a + k + m)) = L.take a ++ V ++ (L.drop a).take m ++ Z.drop (k + m) := by
  have hla : (L.take a).length = a := by rw [List.length_take]; omega
  have h1 : A.take a = L.take a := by rw [hA]; exact List.take_left' hla
  have h2 : A.drop (a + k) = Z.drop k := by rw [hA, List.drop_append, List.drop_of_length_le (by omega), hla]; simp
  rw [h1, h2] at hB
  have h3 : B.take (a + k) = L.take a ++ V := by rw [hB, ← List.append_assoc]; exact List.take_left' (by rw [List.length_append, hla, hV])
  have h4 : B.drop (a + k + m) = Z.drop (k + m) := by
    rw [hB, ← List.append_assoc, List.drop_append, List.drop_of_length_le (by rw [List.length_append, hla, hV]; omega), List.length_append, hla, hV, List.drop_drop]
    simp
  rw [h3, h4]; simp [List.append_assoc]

end Go.Proofs.YtkobbiflijaklaaGreat
