/- slices.Insert at []Node walked. Edits of documents. -/
import Derived.Test.YtockphlpokoohaaGreatKa24
import Derived.Test.YtockphlpokoohaaGreatKa27
import Derived.Test.YtockphlpokoohaaGreatKa23
namespace Go.Proofs.YtockphlpokoohaaGreat
open Go Go.RowKit
set_option linter.unusedVariables false
set_option linter.unusedSimpArgs false
set_option maxHeartbeats 4000000 in
set_option maxRecDepth 100000 in
theorem insNode_shift (b n c i vb vc : Nat) (cur vcur : Array Value) (e e' : Nat) (w : World) (hi : i < n) (hroom : n + 1 ≤ c) (hc63 : c ≤ 9223372036854775807) (hvb : vb ≠ b)
    (hb : w.heap[b]? = some (.cells cur e (0, 0))) (hsz : cur.size = c * 5) (hv : w.heap[vb]? = some (.cells vcur e' (0, 0))) (hvs : 5 ≤ vcur.size)
    (h1 : ∀ v ∈ (cur.toList.drop (i * 5)).take ((n - i) * 5), v.oneCell' = true) (h1v : ∀ v ∈ vcur.toList.take 5, v.oneCell' = true) :
    Calls Tryz.prog 279 #[.slice (some ⟨b, 0, none⟩) n c, .int .i64 i, .slice (some ⟨vb, 0, none⟩) 1 vc] w fun r w' =>
      r = .returned (.slice (some ⟨b, 0, none⟩) (n + 1) c) ∧ w' = w.drew.setRow b (cur.toList.take (i * 5) ++ vcur.toList.take 5 ++ (cur.toList.drop (i * 5)).take ((n - i) * 5) ++ cur.toList.drop (i * 5 + 5 + (n - i) * 5)).toArray := by
  have hz2 : ¬ ((i : Int) = (n : Int)) := by omega
  have hz3 : ¬ ((c : Int) < (n : Int) + 1) := by omega
  have hinf : (Tryz.prog.info? 88).map (·.size) = some 5 := by kernel_rfl
  have hin : i ≤ n := by omega
  have hdl : ((cur.toList.drop (i * 5)).take ((n - i) * 5)).length = (n - i) * 5 := by
    rw [List.length_take, List.length_drop, Array.length_toList, hsz]; omega
  have hvl : (vcur.toList.take 5).length = 5 := by rw [List.length_take, Array.length_toList]; omega
  have hov : ∀ lb cb, (callFunc 330 #[.slice (some ⟨vb, 0, none⟩) 1 vc, .slice (some ⟨b, (i + 1) * 5, none⟩) lb cb]).run Tryz.prog w = .ok (.value (.bool false)) w := fun lb cb => by
    rw [run_callFunc_extern Tryz.func330 (by kernel_rfl) (by kernel_rfl) (by kernel_rfl) (e := Extern.SlicesOverlaps.overlaps #[83, 83] #[4]) (by kernel_rfl),
      Lib.run_overlaps_apart w 83 4 88 Tryz.underlying83 5 Tryz.sizeOf88 ⟨vb, 0, none⟩ ⟨b, (i + 1) * 5, none⟩ 1 vc lb cb hvb e' e vcur.size cur.size (by simp [World.shape?, hv]) (by simp [World.shape?, hb]) (by omega) (by simp [World.frozen?, hv]) (by simp [World.frozen?, hv])]
    rfl
  obtain ⟨A1, hA1⟩ : ∃ A1 : Array Value, A1 = (cur.toList.take (i * 5 + 5) ++ (cur.toList.drop (i * 5)).take ((n - i) * 5) ++ cur.toList.drop (i * 5 + 5 + (n - i) * 5)).toArray := ⟨_, rfl⟩
  have hcp1 : ∀ ty dc sc, (Builtin.copy_ #[83, 83] ty #[.slice (some ⟨b, (i + 1) * 5, none⟩) (n + 1 - (i + 1)) dc, .slice (some ⟨b, i * 5, none⟩) (n + 1 - i) sc]).run Tryz.prog w.drew = .ok (goInt (Nat.min (n + 1 - i) (n + 1 - (i + 1)))) (w.drew.setRow b A1) := fun ty dc sc => by
    have h := run_copy_rowk w.drew 83 83 ty 88 5 b ((i + 1) * 5) (n + 1 - (i + 1)) dc ⟨b, i * 5, none⟩ (n + 1 - i) sc cur e _ Tryz.underlying83 hinf hb ?_ (fun j v hj => ?_) ?_ h1
    · rw [hdl] at h
      rw [hA1, show i * 5 + 5 = (i + 1) * 5 by omega]
      exact h
    · rw [hdl, show Nat.min (n + 1 - i) (n + 1 - (i + 1)) = n - i by simp only [Nat.min_def]; split <;> omega]
    · rw [add_off, cell_of_row w.drew _ _ cur e (0, 0) hb]
      rw [List.getElem?_take] at hj
      split at hj
      · rw [List.getElem?_drop] at hj; simpa using hj
      · cases hj
    · rw [hdl, hsz]; omega
  have hA1s : A1.size = c * 5 := by
    rw [hA1]; simp only [List.size_toArray, List.length_append, List.length_take, List.length_drop, Array.length_toList, hsz]; omega
  have hb1 : (w.drew.setRow b A1).heap[b]? = some (.cells A1 e (0, 0)) := setRow_heap w.drew b cur A1 e (0, 0) hb
  have hend : (w.drew.setRow b A1).setRow b (A1.toList.take (i * 5) ++ (vcur.toList.take 5 ++ A1.toList.drop (i * 5 + 5))).toArray = w.drew.setRow b (cur.toList.take (i * 5) ++ vcur.toList.take 5 ++ (cur.toList.drop (i * 5)).take ((n - i) * 5) ++ cur.toList.drop (i * 5 + 5 + (n - i) * 5)).toArray := by
    rw [setRow_setRow, splice_shift 5 (i * 5) ((n - i) * 5) cur.toList (vcur.toList.take 5) (by rw [Array.length_toList, hsz]; omega) A1.toList (by rw [hA1])]
  have hcp2 : ∀ (W : World), W.heap = (w.drew.setRow b A1).heap → ∀ ty dc, (Builtin.copy_ #[83, 83] ty #[.slice (some ⟨b, i * 5, none⟩) (n + 1 - i) dc, .slice (some ⟨vb, 0, none⟩) 1 vc]).run Tryz.prog W = .ok (goInt (Nat.min 1 (n + 1 - i))) (W.setRow b (A1.toList.take (i * 5) ++ (vcur.toList.take 5 ++ A1.toList.drop (i * 5 + 5))).toArray) := fun W hW ty dc => by
    have h := run_copy_rowk W 83 83 ty 88 5 b (i * 5) (n + 1 - i) dc ⟨vb, 0, none⟩ 1 vc A1 e (vcur.toList.take 5) Tryz.underlying83 hinf (by rw [hW]; exact hb1) ?_ (fun j v hj => ?_) ?_ h1v
    · rw [hvl] at h
      rw [← List.append_assoc]
      exact h
    · rw [hvl, show Nat.min 1 (n + 1 - i) = 1 by simp only [Nat.min_def]; split <;> omega]
    · have hvW : W.heap[vb]? = some (.cells vcur e' (0, 0)) := by rw [hW, setRow_other w.drew _ _ _ hvb]; exact hv
      rw [add_off, cell_of_row W _ _ vcur e' (0, 0) hvW]
      rw [List.getElem?_take] at hj
      split at hj
      · simpa using hj
      · cases hj
    · rw [hvl, hA1s]; omega
  have hw1 : IntKind.i64.wrap ((i : Int) + 1) = (i : Int) + 1 := by rw [IntKind.wrap_i64]; omega
  have hw2 : IntKind.i64.wrap ((n : Int) + 1) = (n : Int) + 1 := by rw [IntKind.wrap_i64]; omega
  have hb1' : (0 : Int) ≤ (i : Int) + 1 := by omega
  have htn : ((i : Int) + 1).toNat = i + 1 := by omega
  have hb2 : ¬ (c = i + 1) := by omega
  have hb3 : (i : Int) ≤ (n : Int) + 1 := by omega
  have hb4 : ¬ (c = i) := by omega
  have ns := Tryz.sizeOf88
  have nu := Tryz.underlying83
  have mixed : Tryz.prog.follows .mixedOrders = true := by kernel_rfl
  clear hA1 hdl hvl hsz hA1s hb1
  rw [← hend]
  clear hend
  go_enter Tryz.func279, Tryz.ntmps279
  go_wp2_with (simp only [hov])
  go_region_law_o (refine stepc rfl _ _ 83 83 rfl (.slice (some ⟨b, (i + 1) * 5, none⟩) (n + 1 - (i + 1)) (c - (i + 1))) (.slice (some ⟨b, i * 5, none⟩) (n + 1 - i) (c - i)) (by simp [Act.eval, Act.put]) (by simp [Act.eval, Act.put]) (hcp1 _ _ _) ?_)
  go_wp2_with (refine wpc rfl _ _ 83 83 rfl _ _ rfl rfl (hcp2 _ rfl _ _) ?_)
  go_ret
  exact ⟨rfl, rfl⟩
set_option maxHeartbeats 4000000 in
set_option maxRecDepth 100000 in
theorem insNode_grow (b n c i vb vc : Nat) (cur vcur : Array Value) (e e' : Nat) (w : World) (hi : i < n) (hnc : n ≤ c) (hroom : c < n + 1) (hbig : (n + 1) * 40 ≤ 140737488355328) (hvb : vb ≠ b)
    (hb : w.heap[b]? = some (.cells cur e (0, 0))) (hsz : cur.size = c * 5) (hv : w.heap[vb]? = some (.cells vcur e' (0, 0))) (hvs : 5 ≤ vcur.size)
    (h1 : ∀ v ∈ (cur.toList.drop (i * 5)).take ((n - i) * 5), v.oneCell' = true) (h1v : ∀ v ∈ vcur.toList.take 5, v.oneCell' = true) :
    Calls Tryz.prog 279 #[.slice (some ⟨b, 0, none⟩) n c, .int .i64 i, .slice (some ⟨vb, 0, none⟩) 1 vc] w fun r w' =>
      r = .returned (.slice (some ⟨w.heap.size, 0, none⟩) (n + 1) (grownCap w (n + 1) c 88)) ∧ n + 1 ≤ grownCap w (n + 1) c 88 ∧
      ∃ Z : List Value, Z.length = (grownCap w (n + 1) c 88 - (n + 1)) * 5 ∧ w'.heap = (w.alloc (.cells (cur.toList.take (i * 5) ++ vcur.toList.take 5 ++ (cur.toList.drop (i * 5)).take ((n - i) * 5) ++ Z).toArray 88)).heap ∧ w'.os = w.os ∧ w'.tape = w.tape ∧ w'.output = w.output := by
  have hz2 : ¬ ((i : Int) = (n : Int)) := by omega
  have hz3 : (c : Int) < (n : Int) + 1 := by omega
  obtain ⟨i0, hi0, hz0, hzs, hzb⟩ := info_parts (show (Tryz.prog.info? 88).map (fun i => (i.zero, i.size, i.bytes)) = some (some (.agg #[.int .i64 0, .int .i64 0, .int .i64 0, .int .i64 0, .int .i64 0]), 5, 40) by kernel_rfl)
  have hinf : (Tryz.prog.info? 88).map (·.size) = some 5 := by kernel_rfl
  have hin : i ≤ n := by omega
  have hbw : b < w.heap.size := (Array.getElem?_eq_some_iff.1 hb).1
  have hvw : vb < w.heap.size := (Array.getElem?_eq_some_iff.1 hv).1
  have hdl : ((cur.toList.drop (i * 5)).take ((n - i) * 5)).length = (n - i) * 5 := by
    rw [List.length_take, List.length_drop, Array.length_toList, hsz]; omega
  have hvl : (vcur.toList.take 5).length = 5 := by rw [List.length_take, Array.length_toList]; omega
  have hkk : (n : Int) + 1 - (i : Int) = ((n + 1 - i : Nat) : Int) := by omega
  have hik : i + (n + 1 - i) = n + 1 := by omega
  have hold : (Builtin.firstCells i0.size i (.slice (some ⟨b, 0, none⟩) i c)).run Tryz.prog w.drew = .ok (cur.toList.take (i * 5)).toArray w.drew := by
    rw [hzs]
    exact run_firstCells_some w.drew 5 i ⟨b, 0, none⟩ i c (cur.toList.take (i * 5)) (by rw [List.length_take, Array.length_toList, hsz]; omega) (fun j v hj => by
      rw [add_off, cell_of_row w.drew _ _ cur e (0, 0) hb]
      rw [List.getElem?_take] at hj
      split at hj
      · simpa using hj
      · cases hj)
  obtain ⟨G, hG⟩ : ∃ G, G = grownCap w (n + 1) c 88 := ⟨_, rfl⟩
  obtain ⟨Z0, hZ0⟩ : ∃ Z0 : Array Value, Z0 = Builtin.zeroCells (Value.agg #[.int .i64 0, .int .i64 0, .int .i64 0, .int .i64 0, .int .i64 0]).cells (n + 1 - i) ++ Builtin.zeroCells (Value.agg #[.int .i64 0, .int .i64 0, .int .i64 0, .int .i64 0, .int .i64 0]).cells (G - (n + 1)) := ⟨_, rfl⟩
  obtain ⟨ROW, hROW⟩ : ∃ ROW : Array Value, ROW = (cur.toList.take (i * 5) ++ Z0.toList).toArray := ⟨_, rfl⟩
  have hrz : ∀ ty, (Builtin.append_ #[83, 3] ty #[.slice (some ⟨b, 0, none⟩) i c, .int .i64 ((n : Int) + 1 - (i : Int))]).run Tryz.prog w =
      .ok (.slice (some ⟨w.heap.size, 0, none⟩) (n + 1) G) (w.drew.alloc (.cells ROW 88)) := fun ty => by
    have h := Lib.run_append_grow_zeros (P := Tryz.prog) w 83 3 ty 88 i0 _ .i64 .i64 Tryz.underlying83 Tryz.underlying3 hi0 hz0 (some ⟨b, 0, none⟩) i c (cur.toList.take (i * 5)) hold (n + 1 - i) (by omega) (by omega) (by omega) (by omega) (by rw [hzb]; omega) (by rw [hzb, hik]; exact growslice_fits hroom hbig)
    rw [hik, ← hG] at h
    rw [hkk, hROW, hZ0]
    have e1 : (cur.toList.take (i * 5) ++ (Builtin.zeroCells (Value.agg #[.int .i64 0, .int .i64 0, .int .i64 0, .int .i64 0, .int .i64 0]).cells (n + 1 - i) ++ Builtin.zeroCells (Value.agg #[.int .i64 0, .int .i64 0, .int .i64 0, .int .i64 0, .int .i64 0]).cells (G - (n + 1))).toList).toArray = (cur.toList.take (i * 5)).toArray ++ Builtin.zeroCells (Value.agg #[.int .i64 0, .int .i64 0, .int .i64 0, .int .i64 0, .int .i64 0]).cells (n + 1 - i) ++ Builtin.zeroCells (Value.agg #[.int .i64 0, .int .i64 0, .int .i64 0, .int .i64 0, .int .i64 0]).cells (G - (n + 1)) := by
      apply Array.toList_inj.1; simp
    rw [e1]
    exact h
  have hGn : n + 1 ≤ G := by rw [hG]; exact grownCap_ge w _ _ _
  have hG63 : G ≤ 9223372036854775807 := by
    have := grownCap_le_maxLen w (n + 1) c 88 (by unfold maxLen; omega)
    rw [← hG] at this
    unfold maxLen at this
    omega
  have hZl : Z0.toList.length = 5 + (n - i) * 5 + (G - (n + 1)) * 5 := by
    rw [hZ0, Array.length_toList, Array.size_append, size_zeroCells, size_zeroCells]
    show (n + 1 - i) * 5 + (G - (n + 1)) * 5 = _
    omega
  have hROWs : ROW.size = G * 5 := by
    rw [hROW, List.size_toArray, List.length_append, hZl, List.length_take, Array.length_toList, hsz]; omega
  obtain ⟨W1, hW1⟩ : ∃ W1, W1 = w.drew.alloc (.cells ROW 88) := ⟨_, rfl⟩
  rw [← hW1] at hrz
  have hN1 : W1.heap[w.heap.size]? = some (.cells ROW 88 (0, 0)) := by rw [hW1]; exact Go.heap_alloc_new w.drew _
  have hO1 : ∀ x, x < w.heap.size → W1.heap[x]? = w.heap[x]? := fun x hx => by rw [hW1]; exact Go.heap_alloc_old w.drew _ hx
  have hbN : b ≠ w.heap.size := by omega
  have hvN : vb ≠ w.heap.size := by omega
  obtain ⟨B1, hB1⟩ : ∃ B1 : Array Value, B1 = (ROW.toList.take (i * 5) ++ (vcur.toList.take 5 ++ ROW.toList.drop (i * 5 + 5))).toArray := ⟨_, rfl⟩
  have hB1s : B1.size = G * 5 := by
    rw [hB1]; simp only [List.size_toArray, List.length_append, List.length_drop, List.length_take, Array.length_toList, hROWs]; omega
  have hcpA : ∀ (W : World), W.heap = W1.heap → ∀ ty dc, (Builtin.copy_ #[83, 83] ty #[.slice (some ⟨w.heap.size, i * 5, none⟩) (n + 1 - i) dc, .slice (some ⟨vb, 0, none⟩) 1 vc]).run Tryz.prog W = .ok (goInt (Nat.min 1 (n + 1 - i))) (W.setRow w.heap.size B1) := fun W hW ty dc => by
    have h := run_copy_rowk W 83 83 ty 88 5 w.heap.size (i * 5) (n + 1 - i) dc ⟨vb, 0, none⟩ 1 vc ROW 88 (vcur.toList.take 5) Tryz.underlying83 hinf (by rw [hW]; exact hN1) ?_ (fun j v hj => ?_) ?_ h1v
    · rw [hvl] at h
      rw [hB1, ← List.append_assoc]
      exact h
    · rw [hvl, show Nat.min 1 (n + 1 - i) = 1 by simp only [Nat.min_def]; split <;> omega]
    · have hvW : W.heap[vb]? = some (.cells vcur e' (0, 0)) := by rw [hW, hO1 _ hvw]; exact hv
      rw [add_off, cell_of_row W _ _ vcur e' (0, 0) hvW]
      rw [List.getElem?_take] at hj
      split at hj
      · simpa using hj
      · cases hj
    · rw [hvl, hROWs]; omega
  have hcpB : ∀ (W : World), W.heap = (W1.setRow w.heap.size B1).heap → ∀ ty dc sc, (Builtin.copy_ #[83, 83] ty #[.slice (some ⟨w.heap.size, (i + 1) * 5, none⟩) (n + 1 - (i + 1)) dc, .slice (some ⟨b, i * 5, none⟩) (n - i) sc]).run Tryz.prog W = .ok (goInt (Nat.min (n - i) (n + 1 - (i + 1)))) (W.setRow w.heap.size (B1.toList.take (i * 5 + 5) ++ ((cur.toList.drop (i * 5)).take ((n - i) * 5) ++ B1.toList.drop (i * 5 + 5 + (n - i) * 5))).toArray) := fun W hW ty dc sc => by
    have h := run_copy_rowk W 83 83 ty 88 5 w.heap.size ((i + 1) * 5) (n + 1 - (i + 1)) dc ⟨b, i * 5, none⟩ (n - i) sc B1 88 ((cur.toList.drop (i * 5)).take ((n - i) * 5)) Tryz.underlying83 hinf (by rw [hW]; exact setRow_heap W1 _ ROW B1 88 (0, 0) hN1) ?_ (fun j v hj => ?_) ?_ h1
    · rw [hdl] at h
      rw [← List.append_assoc, show i * 5 + 5 = (i + 1) * 5 by omega]
      exact h
    · rw [hdl, show Nat.min (n - i) (n + 1 - (i + 1)) = n - i by simp only [Nat.min_def]; split <;> omega]
    · have hbW : W.heap[b]? = some (.cells cur e (0, 0)) := by rw [hW, setRow_other W1 _ _ _ hbN, hO1 _ hbw]; exact hb
      rw [add_off, cell_of_row W _ _ cur e (0, 0) hbW]
      rw [List.getElem?_take] at hj
      split at hj
      · rw [List.getElem?_drop] at hj; simpa using hj
      · cases hj
    · rw [hdl, hB1s]; omega
  have hfin : (B1.toList.take (i * 5 + 5) ++ ((cur.toList.drop (i * 5)).take ((n - i) * 5) ++ B1.toList.drop (i * 5 + 5 + (n - i) * 5))) = cur.toList.take (i * 5) ++ vcur.toList.take 5 ++ (cur.toList.drop (i * 5)).take ((n - i) * 5) ++ Z0.toList.drop (5 + (n - i) * 5) :=
    splice_grow 5 (i * 5) ((n - i) * 5) ((G - (n + 1)) * 5) cur.toList (vcur.toList.take 5) Z0.toList (by rw [Array.length_toList, hsz]; omega) hvl hZl ROW.toList (by rw [hROW]) B1.toList (by rw [hB1])
  have hZd : (Z0.toList.drop (5 + (n - i) * 5)).length = (G - (n + 1)) * 5 := by rw [List.length_drop, hZl]; omega
  have hw1 : IntKind.i64.wrap ((i : Int) + 1) = (i : Int) + 1 := by rw [IntKind.wrap_i64]; omega
  have hw2 : IntKind.i64.wrap ((n : Int) + 1) = (n : Int) + 1 := by rw [IntKind.wrap_i64]; omega
  have hw3 : IntKind.i64.wrap ((n : Int) + 1 - (i : Int)) = (n : Int) + 1 - (i : Int) := by rw [IntKind.wrap_i64]; omega
  have hb1' : (0 : Int) ≤ (i : Int) + 1 := by omega
  have htn : ((i : Int) + 1).toNat = i + 1 := by omega
  have hGi : ¬ (G = i) := by omega
  have hGim : ¬ (G = i + 1) := by omega
  have hci : ¬ (c = i) := by omega
  have hb3 : (i : Int) ≤ (n : Int) := by omega
  have hb3' : (i : Int) ≤ (n : Int) + 1 := by omega
  have hGn1 : (n : Int) + 1 ≤ (G : Int) := by omega
  have ns := Tryz.sizeOf88
  have nu := Tryz.underlying83
  have mixed : Tryz.prog.follows .mixedOrders = true := by kernel_rfl
  rw [← hG]
  subst hW1
  clear hkk hik hold hROW hG hROWs hB1s hB1 hZ0 hZl hdl hvl hsz hi0 hz0 hzs hzb
  go_enter Tryz.func279, Tryz.ntmps279
  go_wp2_with (first
    | (at_builtin; refine Lib.wpList_append_run _ rfl _ _ _ _ rfl _ _ rfl rfl _ _ (hrz _) ?_)
    | (refine wpc rfl _ _ 83 83 rfl _ _ rfl rfl (hcpA _ (by rfl) _ _) ?_)
    | (refine wpc rfl _ _ 83 83 rfl _ _ rfl rfl (hcpB _ (by rfl) _ _ _) ?_))
  go_region_law_o (refine stepc rfl _ _ 83 83 rfl (.slice (some ⟨w.heap.size, (i + 1) * 5, none⟩) (n + 1 - (i + 1)) (G - (i + 1))) (.slice (some ⟨b, i * 5, none⟩) (n - i) (c - i)) (by simp [Act.eval, Act.put]) (by simp [Act.eval, Act.put]) (hcpB _ (by rfl) 3 (G - (i + 1)) (c - i)) ?_)
  go_wp2
  go_ret
  refine ⟨rfl, hGn, Z0.toList.drop (5 + (n - i) * 5), hZd, ?_, rfl, rfl, rfl⟩
  rw [heap_two]
  simp only [List.append_assoc]
theorem insNode_raw : InsRaw Tryz.prog 279 5 40 88 := ⟨insNode_shift, insNode_grow⟩
theorem insNode_fok : FOK Tryz.prog 279 := ⟨Tryz.f279, Tryz.func279, by kernel_rfl, by kernel_rfl⟩
end Go.Proofs.YtockphlpokoohaaGreat
namespace Go.Proofs.YtockphlpokoohaaGreat
open Go Go.ChangeShapes Go.WideShapes Go.ChangeAt Go.RowKit
set_option linter.unusedVariables false
set_option linter.unusedSimpArgs false
set_option maxRecDepth 100000
theorem fr_stoNode {S0 S : Store} {c : C} {l : List GNode} {i v : Int} {off : Nat} {K : Store → Prop} (x0 x' : GNode) (A Z : List D) (o : C) (hE : Ext S0 S) (h : Fr S0.length S [.sl 5 (l.map GNode.d)] [c]) (h0 : 0 ≤ i) (hl : l[i.toNat]? = some x0)
    (hx : x'.d = A ++ [.x (.int .i64 v)] ++ Z) (ho : x0.d = A ++ [.x o] ++ Z) (hA : A.length = off)
    (hK : ∀ S', Ext S0 S' → Fr S0.length S' [.sl 5 ((l.set i.toNat x').map GNode.d)] [c] → K S') : StoP S c i off [.int .i64 v] K := by
  have hlt : i.toNat < l.length := (List.getElem?_eq_some_iff.1 hl).1
  refine fr_sto (A := A) (B := [.x o]) (B' := [.x (.int .i64 v)]) (Z := Z) (k := 5) hE h (Ext.refl S) (fr_x fr_nil) hE.len ⟨h0, by rw [List.length_map]; exact hlt⟩ (by rw [List.getElem?_map, hl, ← ho]; rfl) hA rfl (by rw [← ho]; rfl) fun S' h1 h2 _ => hK S' h1 ?_
  rw [List.map_set, hx]; exact h2
theorem fr_litG {S : Store} {α : Type} {f : α → List D} {k : Nat} (l : List α) (hf : ∀ x, Flat (f x)) (h : l.length ≤ 9223372036854775807) : Fr S.length (S ++ [⟨true, k, l.map fun x => flatC (f x)⟩]) [.sl k (l.map f)] [.sl S.length 0 l.length l.length] :=
  fr_push (xs := l.map f) (js := []) (rep2_flat hf l) List.nodup_nil (fun _ h => by cases h) (Nat.le_refl _) (by rw [maxLen_eq]; simpa using h) (by simp)
def upGo (d : List GNode) (top : Int) : Nat → Int → Bool
  | 0, _ => false
  | f + 1, id => if id = top then true else if nodeOf d id ≤ 0 then false else upGo d top f (d.getD (nodeOf d id).toNat default).Parent
def above (d : List GNode) (id top : Int) : Bool := upGo d top ((nodeOf d id).toNat + 1) id
def isUnder (d : List GNode) (id top : Int) : Bool := isDoc d && decide (0 ≤ nodeOf d id) && decide (0 ≤ nodeOf d top) && above d id top
theorem nodeOfGo_at (id : Int) : ∀ (l : List GNode) (i : Nat), nodeOfGo id l i = -1 ∨ ∃ j, ∃ h : j < l.length, nodeOfGo id l i = ((i + j : Nat) : Int) ∧ (l[j]'h).Id = id
  | [], i => .inl rfl
  | x :: r, i => by
    rw [nodeOfGo]
    split
    · rename_i h; exact .inr ⟨0, by simp, by simp, h⟩
    · rcases nodeOfGo_at id r (i + 1) with h | ⟨j, hj, h1, h2⟩
      · exact .inl h
      · exact .inr ⟨j + 1, by simp; omega, by rw [h1]; congr 1; omega, by simpa using h2⟩
theorem nodeOf_at {d : List GNode} {id : Int} (h : 0 ≤ nodeOf d id) : ∃ hj : (nodeOf d id).toNat < d.length, (d[(nodeOf d id).toNat]'hj).Id = id := by
  unfold nodeOf at h ⊢
  rcases nodeOfGo_at id d 0 with h1 | ⟨j, hj, h1, h2⟩
  · omega
  · have e : (nodeOfGo id d 0).toNat = j := by rw [h1]; omega
    simp only [e]
    exact ⟨hj, h2⟩
theorem nodeOf_lt (d : List GNode) (id : Int) : nodeOf d id < d.length ∧ -1 ≤ nodeOf d id := by
  unfold nodeOf
  rcases nodeOfGo_at id d 0 with h1 | ⟨j, hj, h1, h2⟩ <;> omega
theorem nodeOfGo_app (id : Int) : ∀ (l m : List GNode) (i : Nat), nodeOfGo id (l ++ m) i = if 0 ≤ nodeOfGo id l i then nodeOfGo id l i else nodeOfGo id m (i + l.length)
  | [], m, i => by simp [nodeOfGo]
  | x :: r, m, i => by
    rw [List.cons_append, nodeOfGo, nodeOfGo]
    split
    · rw [if_pos (by omega)]
    · rw [nodeOfGo_app id r m (i + 1), List.length_cons, show i + 1 + r.length = i + (r.length + 1) by omega]
theorem nodeOf_take {d : List GNode} {id : Int} {i : Nat} (h : 0 ≤ nodeOf (d.take i) id) : nodeOf d id = nodeOf (d.take i) id ∧ nodeOf d id < i := by
  have e : nodeOf d id = nodeOf (d.take i) id := by
    unfold nodeOf at h ⊢
    have h1 := nodeOfGo_app id (d.take i) (d.drop i) 0
    rw [List.take_append_drop, if_pos h] at h1
    exact h1
  refine ⟨e, ?_⟩
  have := (nodeOf_lt (d.take i) id).1
  rw [List.length_take] at this
  omega
theorem docGo_at (d : List GNode) : ∀ (l : List GNode) (i : Nat), docGo d l i = true → ∀ j (h : j < l.length), okNode d (l[j]'h) (i + j) = true
  | [], i, _, j, h => by cases h
  | x :: r, i, h, j, hj => by
    rw [docGo] at h
    split at h
    · rename_i hx
      cases j with
      | zero => exact hx
      | succ j =>
        have := docGo_at d r (i + 1) h j (by simpa using hj)
        rw [show i + (j + 1) = i + 1 + j by omega]
        simpa using this
    · cases h
theorem doc_ok {d : List GNode} (h : isDoc d = true) : (1 ≤ d.length ∧ d.length ≤ 16) ∧ ∀ j (hj : j < d.length), okNode d (d[j]'hj) j = true := by
  simp only [isDoc, Bool.and_eq_true, decide_eq_true_eq] at h
  exact ⟨h.1, fun j hj => by have := docGo_at d d 0 h.2 j hj; rwa [Nat.zero_add] at this⟩
theorem doc_parent {d : List GNode} (h : isDoc d = true) {j : Nat} (hj : j < d.length) (h0 : 0 < j) : 0 ≤ nodeOf d (d[j]'hj).Parent ∧ nodeOf d (d[j]'hj).Parent < j := by
  have := (doc_ok h).2 j hj
  rw [okNode_pos h0 (by omega)] at this
  simp only [Bool.and_eq_true, decide_eq_true_eq] at this
  have h1 := nodeOf_take this.2.2
  exact ⟨by rw [h1.1]; exact this.2.2, h1.2⟩
theorem upGo_more {d : List GNode} (h : isDoc d = true) (top : Int) : ∀ (f g : Nat) (id : Int), (nodeOf d id).toNat < f → (nodeOf d id).toNat < g → upGo d top f id = upGo d top g id
  | 0, g, id, h1, _ => by omega
  | f + 1, 0, id, _, h2 => by omega
  | f + 1, g + 1, id, h1, h2 => by
    rw [upGo, upGo]
    split
    · rfl
    · split
      · rfl
      · rename_i hp
        have hp : ¬ nodeOf d id ≤ 0 := hp
        obtain ⟨hj, _⟩ := nodeOf_at (d := d) (id := id) (by omega)
        have hpar := doc_parent h hj (by omega)
        rw [getD_at hj]
        exact upGo_more h top f g _ (by omega) (by omega)
theorem above_eq {d : List GNode} (h : isDoc d = true) (id top : Int) : above d id top = if id = top then true else if nodeOf d id ≤ 0 then false else above d (d.getD (nodeOf d id).toNat default).Parent top := by
  unfold above
  rw [upGo]
  split
  · rfl
  · split
    · rfl
    · rename_i hp
      obtain ⟨hj, _⟩ := nodeOf_at (d := d) (id := id) (by omega)
      have hpar := doc_parent h hj (by omega)
      rw [getD_at hj]
      exact upGo_more h top _ _ _ (by omega) (by omega)
theorem ev_above (d : List GNode) (id top : Int) (c : C) (S : Store) (h : Rd S [.sl 5 (d.map GNode.d)] [c]) (hd : isDoc d = true) : EvA Tryz.prog 278 [.s c, .s (.int .i64 id), .s (.int .i64 top)] S (fun r S' => r = .v (.s (.bool (above d id top))) ∧ S' = S) := by
  refine evA_intro tok Tryz.func278 (by kernel_rfl) rfl ?_
  repeat' ((conv => whnf) <;> first
   | refine cD (fun _ => ?_) fun _ => ?_ | refine cE (fun _ => ?_) fun _ => ?_ | refine cT ?_ | refine cF ?_ | refine cN (fun _ => ?_) fun _ => ?_ | refine cI (fun _ => ?_) fun _ => ?_ | refine callP_eq (ev_iNodeOf _ _ _ _ aN) ?_ | refine rI aN rf ix ?_ | refine rd_loadf aN tv ix ?_ | refine nP ?_ | refine And.intro ?_ ?_)
  refine loop_intro {x : Int // above d x top = above d id top} [1, 6, 7, 8, 9, 10, 11, 12, 13, 14, 15, 16, 17, 18, 19, 20] (fun zb => [(1, .v (.s (.int .i64 zb.1)))]) (fun _ => S) (fun zb => (nodeOf d zb.1).toNat) ⟨id, rfl⟩ ?_ rfl ?_
  · (conv => whnf); repeat' (first | exact trivial | exact rfl | apply And.intro)
  rintro ⟨x, hinv⟩; dsimp only
  have hax := above_eq hd x top
  rw [hinv] at hax
  by_cases hxt : x = top
  · rw [if_pos hxt] at hax
    rw [hax]
    repeat' ((conv => whnf) <;> first
     | (show CondP _ _ _; refine cS ?_) | refine cD (fun _ => ?_) fun _ => ?_ | refine cE (fun _ => ?_) fun _ => ?_ | refine cT ?_ | refine cF ?_ | refine cN (fun _ => ?_) fun _ => ?_ | refine cI (fun _ => ?_) fun _ => ?_ | refine callP_eq (ev_iNodeOf _ _ _ _ aN) ?_ | refine rI aN rf ix ?_ | refine rd_loadf aN tv ix ?_ | refine nP ?_ | refine And.intro ?_ ?_)
    all_goals rfl
  · rw [if_neg hxt] at hax
    by_cases hn : nodeOf d x ≤ 0
    · rw [if_pos hn] at hax
      rw [hax]
      repeat' ((conv => whnf) <;> first
       | (show CondP _ _ _; refine cS ?_) | refine cD (fun _ => ?_) fun _ => ?_ | refine cE (fun _ => ?_) fun _ => ?_ | refine cT ?_ | refine cF ?_ | refine cN (fun _ => ?_) fun _ => ?_ | refine cI (fun _ => ?_) fun _ => ?_ | refine callP_eq (ev_iNodeOf _ _ _ _ aN) ?_ | refine rI aN rf ix ?_ | refine rd_loadf aN tv ix ?_ | refine nP ?_ | refine And.intro ?_ ?_)
      all_goals rfl
    · rw [if_neg hn] at hax
      obtain ⟨hj, _⟩ := nodeOf_at (d := d) (id := x) (by omega)
      have hpar := doc_parent hd hj (by omega)
      rw [getD_at hj] at hax
      have hidx : 0 ≤ nodeOf d x ∧ (nodeOf d x).toNat < d.length := ⟨by omega, hj⟩
      repeat' ((conv => whnf) <;> first
       | (show CondP _ _ _; refine cS ?_) | refine cD (fun _ => ?_) fun _ => ?_ | refine cE (fun _ => ?_) fun _ => ?_ | refine cT ?_ | refine cF ?_ | refine cN (fun _ => ?_) fun _ => ?_ | refine cI (fun _ => ?_) fun _ => ?_ | refine callP_eq (ev_iNodeOf _ _ _ _ aN) ?_ | refine rI aN rf ix ?_ | refine rd_loadf aN tv ix ?_ | refine nP ?_ | refine And.intro ?_ ?_)
      all_goals first
        | (refine ⟨⟨(d[(nodeOf d x).toNat]'hj).Parent, hax.symm⟩, ?_, rfl, by dsimp only; omega⟩; (conv => whnf); repeat' (first | exact trivial | exact rfl | apply And.intro))
end Go.Proofs.YtockphlpokoohaaGreat
