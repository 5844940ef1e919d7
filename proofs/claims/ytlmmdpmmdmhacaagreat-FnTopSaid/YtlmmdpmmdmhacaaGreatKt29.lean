/- Lists of numbers in order. -/
import Derived.Test.YtlmmdpmmdmhacaaGreatKt25
import Derived.Test.YtlmmdpmmdmhacaaGreatKt28
import Derived.Test.YtlmmdpmmdmhacaaGreatShelf
import Derived.Lib.RowBridge
namespace Go.Proofs.YtlmmdpmmdmhacaaGreat
open Go Go.ChangeShapes Go.WideShapes Go.ChangeAt Go.RowKit
set_option linter.unusedVariables false
set_option linter.unusedSimpArgs false
set_option maxRecDepth 100000
def zf8 (l : List Int) : List Int := l.mergeSort fun x y => decide (x ≤ y)
def ordL (l : List Int) : List Int := Lib.compact (zf8 l)
theorem zm7 (l : List Int) : (zf8 l).length = l.length := List.length_mergeSort l
theorem z33 (l : List Int) : (ordL l).length ≤ l.length := by
 have := Lib.compact_length_le (zf8 l); rw [zm7] at this; exact this
abbrev rowI (l : List Int) : Row := ⟨true, 1, l.map fun z => [C.int .i64 z]⟩
theorem z58 {S0 S : Store} {l : List Int} {c : C} (h : Fr S0.length S [.sl 1 (l.map dInt)] [c]) (hsl : l = [] → ∃ id o n t, c = .sl id o n t) :
 ∃ id, c = .sl id 0 l.length l.length ∧ S[id]? = some (rowI l) ∧ S0.length ≤ id := by
 obtain ⟨ids, h, hn, hlo⟩ := h.one
 unfold Rep at h
 obtain ⟨hl, h⟩ := h
 rcases h with ⟨h1, h2, h3⟩ | ⟨id, o, t, row, js, h1, h2, h3, h4, h5, h6, h7, h8⟩
 ·rw [List.map_eq_nil_iff] at h1
  obtain ⟨a, b, n, d, e⟩ := hsl h1
  rcases h2 with h2 | h2 <;> rw [h2] at e <;> cases e
 ·obtain ⟨ho, ht, hown⟩ := h7 rfl
  subst ho
  rw [List.length_map] at h1 ht h8
  have hrl : row.xs.length = l.length := by omega
  rw [List.drop_zero, List.take_of_length_le (by omega)] at h8
  have hfl : row.xs = l.map fun z => zdz (dInt z) := Rep2.flat (f := dInt) (fun _ => trivial) h8
  refine ⟨id, by rw [h1, ht], ?_, hlo id (by rw [h2]; simp)⟩
  rw [h3]
  cases row
  simp only at hfl hown h4
  rw [hfl, hown, h4]; rfl
theorem zzc {S0 S : Store} {l : List Int} {id : Nat} (h : S[id]? = some (rowI l)) (h0 : S0.length ≤ id) (hl : l.length ≤ 9223372036854775807) : Fr S0.length S [.sl 1 (l.map dInt)] [.sl id 0 l.length l.length] := by
 refine zqa (ids := [id]) ?_ (by simp) (fun x hx => by simp at hx; subst hx; exact h0)
 unfold Rep
 refine ⟨by rw [zan]; simpa using hl, .inr ⟨id, 0, l.length, rowI l, [], by simp, rfl, h, rfl, by simp, by simp, fun _ => ⟨rfl, by simp, rfl⟩, ?_⟩⟩
 rw [List.drop_zero, List.take_of_length_le (by simp)]
 exact zem (f := dInt) (fun _ => trivial) l
theorem z27 {S : Store} {l : List Int} {id : Nat} (hrow : S[id]? = some (rowI l)) (hl : l.length < 4611686018427387904) :
 EvA Tryz.prog 156 [.s (.sl id 0 l.length l.length)] S (fun r S' => r = .tup [] ∧ S' = S.set id (rowI (zf8 l))) := by
 refine ⟨⟨Tryz.f156, Tryz.func156, by kernel_rfl, by kernel_rfl⟩, fun μ w us rs hA hv => ?_⟩
 obtain ⟨u, rfl, hu⟩ := zwq hv
 obtain ⟨m, arr, e, m1, rfl, hnc, hcm, hb0, hh, hsz, hf⟩ := zku rs hrow rfl (by simp) hu
 simp only [List.length_map, Nat.mul_one] at hf hsz
 have ht := zl1 hf
 have hlt : m.blk < w.heap.size := (Array.getElem?_eq_some_iff.1 hh).1
 refine (Tryz.slices_Sort_int m.blk 0 m.cap l w (holds_of_blockI hh ht) hlt hl).mono ?_
 rintro r w' ⟨rfl, n, os, rfl⟩
 have hsl : (zf8 l).length = l.length := zm7 l
 have ha' := heap_sortedI (n := n) (os := os) (zf8 l).toArray hh
 have htk := take_putCellsI arr (zf8 l) (by rw [hsl, hsz]; exact hnc)
 have hok : RowOK μ (S.set id (rowI (zf8 l))) (Sort.grow (Sort.putRow (Value.int .i64) (Sort.ahead w n) m.blk 0 (zf8 l).toArray) os) (rowI (zf8 l)) m := by
  refine RowOK.of_flat (us := (zf8 l).map (Value.int .i64)) rfl zs1 hb0 ha' (fun j u hj => ?_) ?_ (by simp only [List.length_map]; rw [hsl]; exact hnc) hcm
  ·rw [← htk, List.getElem?_take] at hj
   split at hj
   ·rw [← Array.getElem?_toList]; exact hj
   ·cases hj
  ·simp only [Sort.putCells, Array.size_mapIdx]; rw [hsz]; omega
 obtain ⟨rs', ev⟩ := rs.reset (row' := rowI (zf8 l)) hrow m1 rfl rfl rfl (by simp only [List.length_map]; exact hsl) (grownBy_sortedI (g := m.blk) (n := n) (os := os) (zf8 l).toArray) hok
 exact ⟨_, _, _, μ, ⟨rfl, rfl⟩, rfl, rs', ⟨#[], rfl, rfl, fun j v hj => by simp at hj⟩, ev⟩
theorem zvw {S : Store} {l : List Int} {id : Nat} (hrow : S[id]? = some (rowI l)) (hl : l.length < 4611686018427387904) :
 EvA Tryz.prog 157 [.s (.sl id 0 l.length l.length)] S (fun r S' => r = .v (.s (.sl S.length 0 (Lib.compact l).length (Lib.compact l).length)) ∧ S' = zf9 S id (rowI l) ((Lib.compact l).map fun z => [C.int .i64 z])) := by
 refine ⟨⟨Tryz.f157, Tryz.func157, by kernel_rfl, by kernel_rfl⟩, fun μ w us rs hA hv => ?_⟩
 obtain ⟨u, rfl, hu⟩ := zwq hv
 obtain ⟨m, arr, e, m1, rfl, hnc, hcm, hb0, hh, hsz, hf⟩ := zku rs hrow rfl (by simp) hu
 simp only [List.length_map, Nat.mul_one] at hf hsz
 have ht := zl1 hf
 have hcl := Lib.compact_length_le l
 refine (Tryz.slices_Compact_int m.blk 0 m.cap l w (holds_of_blockI hh ht) (by omega) hnc).mono ?_
 rintro r w' ⟨rfl, q, rfl⟩
 have hdl : (Lib.compact l ++ List.replicate (l.length - (Lib.compact l).length) (0 : Int)).length = l.length := by rw [List.length_append, List.length_replicate]; omega
 have ha' := heap_sortedI (n := q) (os := #[]) (Lib.compact l ++ List.replicate (l.length - (Lib.compact l).length) (0 : Int)).toArray hh
 have hg' := grownBy_sortedI (w := w) (g := m.blk) (n := q) (os := #[]) (Lib.compact l ++ List.replicate (l.length - (Lib.compact l).length) (0 : Int)).toArray
 rw [Sort.grow_empty] at ha' hg'
 have htk := take_putCellsI arr (Lib.compact l ++ List.replicate (l.length - (Lib.compact l).length) (0 : Int)) (by rw [hdl, hsz]; exact hnc)
 obtain ⟨rs', ev, cr⟩ := rs.shrink (xs := (Lib.compact l).map fun z => [C.int .i64 z]) (us := (Lib.compact l).map (Value.int .i64)) hrow m1 rfl hg' ha' (by simp only [Sort.putCells, Array.size_mapIdx]; rw [hsz]; omega) (by rw [List.length_map]; omega) hcm hb0 zs1 (fun j u hj => by
  have hj2 : ((Lib.compact l ++ List.replicate (l.length - (Lib.compact l).length) (0 : Int)).map (Value.int .i64))[j]? = some u := by
   rw [List.map_append, List.getElem?_append_left (List.getElem?_eq_some_iff.1 hj).1]; exact hj
  rw [← htk, List.getElem?_take] at hj2
  split at hj2
  ·rw [← Array.getElem?_toList]; exact hj2
  ·cases hj2)
 rw [List.length_map] at cr
 exact ⟨_, _, _, _, ⟨rfl, rfl⟩, rfl, rs', cr, ev⟩
theorem zx9 {S0 S : Store} (l : List Int) (c : C) (hE : Ext S0 S) (h : Fr S0.length S [.sl 1 (l.map dInt)] [c]) (hsl : l = [] → ∃ id o n t, c = .sl id o n t) (hl : l.length ≤ 4194304) :
 EvA Tryz.prog 83 [.s c] S (fun r S' => Ext S0 S' ∧ ∃ c', r = .v (.s c') ∧ Fr S0.length S' [.sl 1 ((ordL l).map dInt)] [c'] ∧ (∃ id n, c' = .sl id 0 n n)) := by
 obtain ⟨id, rfl, hrow, hid⟩ := z58 h hsl
 have hlt := (List.getElem?_eq_some_iff.1 hrow).1
 have hsl' : (zf8 l).length = l.length := zm7 l
 have hol := z33 l
 have hrow2 : (S.set id (rowI (zf8 l)))[id]? = some (rowI (zf8 l)) := List.getElem?_set_self hlt
 have hc2 := zvw (S := S.set id (rowI (zf8 l))) hrow2 (by omega)
 rw [hsl'] at hc2
 refine zac tok Tryz.func83 (by kernel_rfl) rfl ?_
 repeat' ((conv => whnf) <;> first
  | (refine zab hc2 ?_; rintro _ S2 ⟨rfl, rfl⟩) | (refine zab (z27 hrow om) ?_; rintro _ S1 ⟨rfl, rfl⟩) | refine And.intro ?_ ?_)
 ·refine zh7 (by unfold zf9; rw [List.length_append, List.length_set, List.length_set]; have := hE.len; omega) fun i hi => ?_
  have hne : i ≠ id := by omega
  unfold zf9
  have := hE.len
  rw [List.getElem?_append_left (by rw [List.length_set, List.length_set]; omega), List.getElem?_set_ne (Ne.symm hne), List.getElem?_set_ne (Ne.symm hne)]
  exact hE.at hi
 ·refine ⟨_, rfl, ?_, _, _, rfl⟩
  have hlen : (S.set id (rowI (zf8 l))).length = S.length := List.length_set
  refine zzc (l := ordL l) ?_ (by rw [hlen]; exact hE.len) (by omega)
  have h1 : ((S.set id (rowI (zf8 l))).set id ⟨true, (rowI (zf8 l)).k, (rowI (zf8 l)).xs ++ [[]]⟩).length = (S.set id (rowI (zf8 l))).length := List.length_set
  unfold zf9
  rw [List.getElem?_append_right (Nat.le_of_eq h1), h1, Nat.sub_self]; rfl
end Go.Proofs.YtlmmdpmmdmhacaaGreat
