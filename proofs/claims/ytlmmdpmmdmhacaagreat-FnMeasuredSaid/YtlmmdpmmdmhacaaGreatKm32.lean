/- Lists of numbers in order. -/
import Derived.Test.YtlmmdpmmdmhacaaGreatKm29
import Derived.Test.YtlmmdpmmdmhacaaGreatKm31
import Derived.Test.YtlmmdpmmdmhacaaGreatShelf
import Derived.Lib.RowBridge
namespace Go.Proofs.YtlmmdpmmdmhacaaGreat
open Go Go.ChangeShapes Go.WideShapes Go.ChangeAt Go.RowKit
set_option linter.unusedVariables false
set_option linter.unusedSimpArgs false
set_option maxRecDepth 100000
def sortI (l : List Int) : List Int := l.mergeSort fun x y => decide (x ≤ y)
def ordL (l : List Int) : List Int := Lib.compact (sortI l)
theorem sortI_len (l : List Int) : (sortI l).length = l.length := List.length_mergeSort l
theorem ordL_len (l : List Int) : (ordL l).length ≤ l.length := by
  have := Lib.compact_length_le (sortI l); rw [sortI_len] at this; exact this
abbrev rowI (l : List Int) : Row := ⟨true, 1, l.map fun z => [C.int .i64 z]⟩
theorem fr_ints {S0 S : Store} {l : List Int} {c : C} (h : Fr S0.length S [.sl 1 (l.map dInt)] [c]) (hsl : l = [] → ∃ id o n t, c = .sl id o n t) :
    ∃ id, c = .sl id 0 l.length l.length ∧ S[id]? = some (rowI l) ∧ S0.length ≤ id := by
  obtain ⟨ids, h, hn, hlo⟩ := h.one
  unfold Rep at h
  obtain ⟨hl, h⟩ := h
  rcases h with ⟨h1, h2, h3⟩ | ⟨id, o, t, row, js, h1, h2, h3, h4, h5, h6, h7, h8⟩
  · rw [List.map_eq_nil_iff] at h1
    obtain ⟨a, b, n, d, e⟩ := hsl h1
    rcases h2 with h2 | h2 <;> rw [h2] at e <;> cases e
  · obtain ⟨ho, ht, hown⟩ := h7 rfl
    subst ho
    rw [List.length_map] at h1 ht h8
    have hrl : row.xs.length = l.length := by omega
    rw [List.drop_zero, List.take_of_length_le (by omega)] at h8
    have hfl : row.xs = l.map fun z => flatC (dInt z) := Rep2.flat (f := dInt) (fun _ => trivial) h8
    refine ⟨id, by rw [h1, ht], ?_, hlo id (by rw [h2]; simp)⟩
    rw [h3]
    cases row
    simp only at hfl hown h4
    rw [hfl, hown, h4]; rfl
theorem fr_of_ints {S0 S : Store} {l : List Int} {id : Nat} (h : S[id]? = some (rowI l)) (h0 : S0.length ≤ id) (hl : l.length ≤ 9223372036854775807) : Fr S0.length S [.sl 1 (l.map dInt)] [.sl id 0 l.length l.length] := by
  refine fr_one (ids := [id]) ?_ (by simp) (fun x hx => by simp at hx; subst hx; exact h0)
  unfold Rep
  refine ⟨by rw [maxLen_eq]; simpa using hl, .inr ⟨id, 0, l.length, rowI l, [], by simp, rfl, h, rfl, by simp, by simp, fun _ => ⟨rfl, by simp, rfl⟩, ?_⟩⟩
  rw [List.drop_zero, List.take_of_length_le (by simp)]
  exact rep2_flat (f := dInt) (fun _ => trivial) l
theorem ev_SortS {S : Store} {l : List Int} {id : Nat} (hrow : S[id]? = some (rowI l)) (hl : l.length < 4611686018427387904) :
    EvA Tryz.prog 156 [.s (.sl id 0 l.length l.length)] S (fun r S' => r = .tup [] ∧ S' = S.set id (rowI (sortI l))) := by
  refine ⟨⟨Tryz.f156, Tryz.func156, by kernel_rfl, by kernel_rfl⟩, fun μ w us rs hA hv => ?_⟩
  obtain ⟨u, rfl, hu⟩ := one_argC hv
  obtain ⟨m, arr, e, m1, rfl, hnc, hcm, hb0, hh, hsz, hf⟩ := whole_at rs hrow rfl (by simp) hu
  simp only [List.length_map, Nat.mul_one] at hf hsz
  have ht := flat_ints_eq hf
  have hlt : m.blk < w.heap.size := (Array.getElem?_eq_some_iff.1 hh).1
  refine (Tryz.slices_Sort_int m.blk 0 m.cap l w (holds_of_blockI hh ht) hlt hl).mono ?_
  rintro r w' ⟨rfl, n, os, rfl⟩
  have hsl : (sortI l).length = l.length := sortI_len l
  have ha' := heap_sortedI (n := n) (os := os) (sortI l).toArray hh
  have htk := take_putCellsI arr (sortI l) (by rw [hsl, hsz]; exact hnc)
  have hok : RowOK μ (S.set id (rowI (sortI l))) (Sort.grow (Sort.putRow (Value.int .i64) (Sort.ahead w n) m.blk 0 (sortI l).toArray) os) (rowI (sortI l)) m := by
    refine RowOK.of_flat (us := (sortI l).map (Value.int .i64)) rfl flat_ints hb0 ha' (fun j u hj => ?_) ?_ (by simp only [List.length_map]; rw [hsl]; exact hnc) hcm
    · rw [← htk, List.getElem?_take] at hj
      split at hj
      · rw [← Array.getElem?_toList]; exact hj
      · cases hj
    · simp only [Sort.putCells, Array.size_mapIdx]; rw [hsz]; omega
  obtain ⟨rs', ev⟩ := rs.reset (row' := rowI (sortI l)) hrow m1 rfl rfl rfl (by simp only [List.length_map]; exact hsl) (grownBy_sortedI (g := m.blk) (n := n) (os := os) (sortI l).toArray) hok
  exact ⟨_, _, _, μ, ⟨rfl, rfl⟩, rfl, rs', ⟨#[], rfl, rfl, fun j v hj => by simp at hj⟩, ev⟩
theorem ev_CompactS {S : Store} {l : List Int} {id : Nat} (hrow : S[id]? = some (rowI l)) (hl : l.length < 4611686018427387904) :
    EvA Tryz.prog 157 [.s (.sl id 0 l.length l.length)] S (fun r S' => r = .v (.s (.sl S.length 0 (Lib.compact l).length (Lib.compact l).length)) ∧ S' = cutS0 S id (rowI l) ((Lib.compact l).map fun z => [C.int .i64 z])) := by
  refine ⟨⟨Tryz.f157, Tryz.func157, by kernel_rfl, by kernel_rfl⟩, fun μ w us rs hA hv => ?_⟩
  obtain ⟨u, rfl, hu⟩ := one_argC hv
  obtain ⟨m, arr, e, m1, rfl, hnc, hcm, hb0, hh, hsz, hf⟩ := whole_at rs hrow rfl (by simp) hu
  simp only [List.length_map, Nat.mul_one] at hf hsz
  have ht := flat_ints_eq hf
  have hcl := Lib.compact_length_le l
  refine (Tryz.slices_Compact_int m.blk 0 m.cap l w (holds_of_blockI hh ht) (by omega) hnc).mono ?_
  rintro r w' ⟨rfl, q, rfl⟩
  have hdl : (Lib.compact l ++ List.replicate (l.length - (Lib.compact l).length) (0 : Int)).length = l.length := by rw [List.length_append, List.length_replicate]; omega
  have ha' := heap_sortedI (n := q) (os := #[]) (Lib.compact l ++ List.replicate (l.length - (Lib.compact l).length) (0 : Int)).toArray hh
  have hg' := grownBy_sortedI (w := w) (g := m.blk) (n := q) (os := #[]) (Lib.compact l ++ List.replicate (l.length - (Lib.compact l).length) (0 : Int)).toArray
  rw [Sort.grow_empty] at ha' hg'
  have htk := take_putCellsI arr (Lib.compact l ++ List.replicate (l.length - (Lib.compact l).length) (0 : Int)) (by rw [hdl, hsz]; exact hnc)
  obtain ⟨rs', ev, cr⟩ := rs.shrink (xs := (Lib.compact l).map fun z => [C.int .i64 z]) (us := (Lib.compact l).map (Value.int .i64)) hrow m1 rfl hg' ha' (by simp only [Sort.putCells, Array.size_mapIdx]; rw [hsz]; omega) (by rw [List.length_map]; omega) hcm hb0 flat_ints (fun j u hj => by
    have hj2 : ((Lib.compact l ++ List.replicate (l.length - (Lib.compact l).length) (0 : Int)).map (Value.int .i64))[j]? = some u := by
      rw [List.map_append, List.getElem?_append_left (List.getElem?_eq_some_iff.1 hj).1]; exact hj
    rw [← htk, List.getElem?_take] at hj2
    split at hj2
    · rw [← Array.getElem?_toList]; exact hj2
    · cases hj2)
  rw [List.length_map] at cr
  exact ⟨_, _, _, _, ⟨rfl, rfl⟩, rfl, rs', cr, ev⟩
theorem ev_ordered {S0 S : Store} (l : List Int) (c : C) (hE : Ext S0 S) (h : Fr S0.length S [.sl 1 (l.map dInt)] [c]) (hsl : l = [] → ∃ id o n t, c = .sl id o n t) (hl : l.length ≤ 4194304) :
    EvA Tryz.prog 83 [.s c] S (fun r S' => Ext S0 S' ∧ ∃ c', r = .v (.s c') ∧ Fr S0.length S' [.sl 1 ((ordL l).map dInt)] [c'] ∧ (∃ id n, c' = .sl id 0 n n)) := by
  obtain ⟨id, rfl, hrow, hid⟩ := fr_ints h hsl
  have hlt := (List.getElem?_eq_some_iff.1 hrow).1
  have hsl' : (sortI l).length = l.length := sortI_len l
  have hol := ordL_len l
  have hrow2 : (S.set id (rowI (sortI l)))[id]? = some (rowI (sortI l)) := List.getElem?_set_self hlt
  have hc2 := ev_CompactS (S := S.set id (rowI (sortI l))) hrow2 (by omega)
  rw [hsl'] at hc2
  refine evA_intro tok Tryz.func83 (by kernel_rfl) rfl ?_
  repeat' ((conv => whnf) <;> first
   | (refine callP_intro hc2 ?_; rintro _ S2 ⟨rfl, rfl⟩) | (refine callP_intro (ev_SortS hrow om) ?_; rintro _ S1 ⟨rfl, rfl⟩) | refine And.intro ?_ ?_)
  · refine ext_of (by unfold cutS0; rw [List.length_append, List.length_set, List.length_set]; have := hE.len; omega) fun i hi => ?_
    have hne : i ≠ id := by omega
    unfold cutS0
    have := hE.len
    rw [List.getElem?_append_left (by rw [List.length_set, List.length_set]; omega), List.getElem?_set_ne (Ne.symm hne), List.getElem?_set_ne (Ne.symm hne)]
    exact hE.at hi
  · refine ⟨_, rfl, ?_, _, _, rfl⟩
    have hlen : (S.set id (rowI (sortI l))).length = S.length := List.length_set
    refine fr_of_ints (l := ordL l) ?_ (by rw [hlen]; exact hE.len) (by omega)
    have h1 : ((S.set id (rowI (sortI l))).set id ⟨true, (rowI (sortI l)).k, (rowI (sortI l)).xs ++ [[]]⟩).length = (S.set id (rowI (sortI l))).length := List.length_set
    unfold cutS0
    rw [List.getElem?_append_right (Nat.le_of_eq h1), h1, Nat.sub_self]; rfl
theorem putFold (l : List Int) : ∀ a : List Int, a.Pairwise (· < ·) → (l.foldl putI a).Pairwise (· < ·) ∧ ∀ y, y ∈ l.foldl putI a ↔ y ∈ l ∨ y ∈ a := by
  induction l with
  | nil => intro a ha; exact ⟨ha, fun y => by simp⟩
  | cons n r ih =>
    intro a ha
    obtain ⟨h1, h2⟩ := ih (putI a n) (putI_asc n ha)
    refine ⟨h1, fun y => ?_⟩
    rw [List.foldl_cons, h2 y, mem_putI, List.mem_cons]
    constructor
    · rintro (h | h | h) <;> simp [h]
    · rintro ((h | h) | h) <;> simp [h]
theorem asc_ext : ∀ {l m : List Int}, l.Pairwise (· < ·) → m.Pairwise (· < ·) → (∀ y, y ∈ l ↔ y ∈ m) → l = m
  | [], [], _, _, _ => rfl
  | [], y :: m, _, _, h => absurd ((h y).2 (List.mem_cons_self ..)) (by simp)
  | x :: l, [], _, _, h => absurd ((h x).1 (List.mem_cons_self ..)) (by simp)
  | x :: l, y :: m, hl, hm, h => by
    rw [List.pairwise_cons] at hl hm
    have exy : x = y := by
      have h1 := (h x).1 (List.mem_cons_self ..)
      have h2 := (h y).2 (List.mem_cons_self ..)
      rcases List.mem_cons.1 h1 with h1 | h1
      · exact h1
      · rcases List.mem_cons.1 h2 with h2 | h2
        · exact h2.symm
        · have := hl.1 y h2; have := hm.1 x h1; omega
    subst exy
    congr 1
    refine asc_ext hl.2 hm.2 fun y => ⟨fun hy => ?_, fun hy => ?_⟩
    · rcases List.mem_cons.1 ((h y).1 (List.mem_cons_of_mem _ hy)) with rfl | h1
      · have := hl.1 y hy; omega
      · exact h1
    · rcases List.mem_cons.1 ((h y).2 (List.mem_cons_of_mem _ hy)) with rfl | h1
      · have := hm.1 y hy; omega
      · exact h1
theorem comp_inv (s : List Int) (hs : ∀ (i j : Nat) (hi : i < s.length) (hj : j < s.length), i < j → s[i] ≤ s[j]) : ∀ m, m ≤ s.length → (Lib.compactUpTo s.toArray m).Pairwise (· < ·) ∧ (∀ y, y ∈ Lib.compactUpTo s.toArray m ↔ ∃ j, ∃ h : j < s.length, j < m ∧ s[j] = y)
  | 0, _ => by
    refine ⟨by unfold Lib.compactUpTo; simp, fun y => ⟨fun h => ?_, fun ⟨j, _, h, _⟩ => by omega⟩⟩
    unfold Lib.compactUpTo at h; simp at h
  | m + 1, hm => by
    obtain ⟨h1, h2⟩ := comp_inv s hs m (by omega)
    have hml : m < s.length := by omega
    have e1 : s.toArray[m]! = s[m] := by rw [getElem!_pos _ m (by simpa using hml)]; simp
    rw [Lib.compactUpTo_succ, e1]
    cases hk : Lib.keeps s.toArray m with
    | true =>
      rw [if_pos rfl]
      refine ⟨?_, fun y => ?_⟩
      · rw [List.pairwise_append]
        refine ⟨h1, by simp, fun a ha b hb => ?_⟩
        obtain rfl := List.mem_singleton.1 hb
        obtain ⟨j, hj, hjm, rfl⟩ := (h2 a).1 ha
        have h0 : 0 < m := by omega
        have e2 : s.toArray[m - 1]! = s[m - 1] := by rw [getElem!_pos _ (m - 1) (by simp; omega)]; simp
        have hne : s[m] ≠ s[m - 1] := by
          unfold Lib.keeps at hk
          rw [e1, e2] at hk
          have := of_decide_eq_true hk
          rcases this with h | h
          · omega
          · exact h
        have h3 : s[m - 1] ≤ s[m] := hs (m - 1) m (by omega) hml (by omega)
        have h4 : s[j] ≤ s[m - 1] := by
          by_cases e : j = m - 1
          · subst e; exact Int.le_refl _
          · exact hs j (m - 1) hj (by omega) (by omega)
        omega
      · rw [List.mem_append, h2 y, List.mem_singleton]
        constructor
        · rintro (⟨j, hj, hjm, h⟩ | h)
          · exact ⟨j, hj, by omega, h⟩
          · exact ⟨m, hml, by omega, h.symm⟩
        · rintro ⟨j, hj, hjm, h⟩
          by_cases e : j = m
          · subst e; exact .inr h.symm
          · exact .inl ⟨j, hj, by omega, h⟩
    | false =>
      rw [if_neg (by simp), List.append_nil]
      refine ⟨h1, fun y => ?_⟩
      rw [h2 y]
      have hd : ¬ (m = 0 ∨ s.toArray[m]! ≠ s.toArray[m - 1]!) := of_decide_eq_false hk
      have h0 : 0 < m := by omega
      have e2 : s.toArray[m - 1]! = s[m - 1] := by rw [getElem!_pos _ (m - 1) (by simp; omega)]; simp
      rw [e1, e2] at hd
      have he : s[m] = s[m - 1] := Classical.byContradiction fun hh => hd (.inr hh)
      constructor
      · rintro ⟨j, hj, hjm, h⟩; exact ⟨j, hj, by omega, h⟩
      · rintro ⟨j, hj, hjm, h⟩
        by_cases e : j = m
        · subst e; exact ⟨j - 1, by omega, by omega, by rw [← he]; exact h⟩
        · exact ⟨j, hj, by omega, h⟩
theorem sortI_asc (l : List Int) : (sortI l).Pairwise (· ≤ ·) := by
  have h := List.pairwise_mergeSort (le := fun x y : Int => decide (x ≤ y)) (fun a b c h1 h2 => by simp only [decide_eq_true_eq] at *; omega) (fun a b => by simp only [Bool.or_eq_true, decide_eq_true_eq]; omega) l
  exact h.imp fun h => by simpa using h
theorem ordL_put (l : List Int) : ordL l = putAll l := by
  have hp := List.pairwise_iff_getElem.1 (sortI_asc l)
  obtain ⟨h1, h2⟩ := comp_inv (sortI l) hp (sortI l).length (Nat.le_refl _)
  obtain ⟨h3, h4⟩ := putFold l [] List.Pairwise.nil
  refine asc_ext h1 h3 fun y => (h2 y).trans (Iff.trans ?_ (h4 y).symm)
  have hm : y ∈ sortI l ↔ y ∈ l := List.mem_mergeSort
  constructor
  · rintro ⟨j, hj, _, h⟩; exact .inl (hm.1 (by rw [← h]; exact List.getElem_mem _))
  · rintro (h | h)
    · obtain ⟨j, hj, e⟩ := List.mem_iff_getElem.1 (hm.2 h)
      exact ⟨j, hj, hj, e⟩
    · cases h
theorem putAll_len (l : List Int) : (putAll l).length ≤ l.length := by rw [← ordL_put]; exact ordL_len l
end Go.Proofs.YtlmmdpmmdmhacaaGreat
