/- slices.Insert at []Stored walked. -/
import Derived.Test.YtockphlpokoohaaGreatKa24
namespace Go.Proofs.YtockphlpokoohaaGreat
open Go Go.RowKit
set_option linter.unusedVariables false
set_option linter.unusedSimpArgs false
set_option maxHeartbeats 4000000 in
set_option maxRecDepth 100000 in
theorem insStored_shift (b n c i vb vc : Nat) (cur vcur : Array Value) (e e' : Nat) (w : World) (hi : i < n) (hroom : n + 1 ≤ c) (hc63 : c ≤ 9223372036854775807) (hvb : vb ≠ b)
    (hb : w.heap[b]? = some (.cells cur e (0, 0))) (hsz : cur.size = c * 4) (hv : w.heap[vb]? = some (.cells vcur e' (0, 0))) (hvs : 4 ≤ vcur.size)
    (h1 : ∀ v ∈ (cur.toList.drop (i * 4)).take ((n - i) * 4), v.oneCell' = true) (h1v : ∀ v ∈ vcur.toList.take 4, v.oneCell' = true) :
    Calls Tryz.prog 224 #[.slice (some ⟨b, 0, none⟩) n c, .int .i64 i, .slice (some ⟨vb, 0, none⟩) 1 vc] w fun r w' =>
      r = .returned (.slice (some ⟨b, 0, none⟩) (n + 1) c) ∧ w' = w.drew.setRow b (cur.toList.take (i * 4) ++ vcur.toList.take 4 ++ (cur.toList.drop (i * 4)).take ((n - i) * 4) ++ cur.toList.drop (i * 4 + 4 + (n - i) * 4)).toArray := by
  have hz2 : ¬ ((i : Int) = (n : Int)) := by omega
  have hz3 : ¬ ((c : Int) < (n : Int) + 1) := by omega
  have hinf : (Tryz.prog.info? 174).map (·.size) = some 4 := by kernel_rfl
  have hin : i ≤ n := by omega
  have hdl : ((cur.toList.drop (i * 4)).take ((n - i) * 4)).length = (n - i) * 4 := by
    rw [List.length_take, List.length_drop, Array.length_toList, hsz]; omega
  have hvl : (vcur.toList.take 4).length = 4 := by rw [List.length_take, Array.length_toList]; omega
  have hov : ∀ lb cb, (callFunc 281 #[.slice (some ⟨vb, 0, none⟩) 1 vc, .slice (some ⟨b, (i + 1) * 4, none⟩) lb cb]).run Tryz.prog w = .ok (.value (.bool false)) w := fun lb cb => by
    rw [run_callFunc_extern Tryz.func281 (by kernel_rfl) (by kernel_rfl) (by kernel_rfl) (e := Extern.SlicesOverlaps.overlaps #[31, 31] #[4]) (by kernel_rfl),
      Lib.run_overlaps_apart w 31 4 174 Tryz.underlying31 4 Tryz.sizeOf174 ⟨vb, 0, none⟩ ⟨b, (i + 1) * 4, none⟩ 1 vc lb cb hvb e' e vcur.size cur.size (by simp [World.shape?, hv]) (by simp [World.shape?, hb]) (by omega) (by simp [World.frozen?, hv]) (by simp [World.frozen?, hv])]
    rfl
  obtain ⟨A1, hA1⟩ : ∃ A1 : Array Value, A1 = (cur.toList.take (i * 4 + 4) ++ (cur.toList.drop (i * 4)).take ((n - i) * 4) ++ cur.toList.drop (i * 4 + 4 + (n - i) * 4)).toArray := ⟨_, rfl⟩
  have hcp1 : ∀ ty dc sc, (Builtin.copy_ #[31, 31] ty #[.slice (some ⟨b, (i + 1) * 4, none⟩) (n + 1 - (i + 1)) dc, .slice (some ⟨b, i * 4, none⟩) (n + 1 - i) sc]).run Tryz.prog w.drew = .ok (goInt (Nat.min (n + 1 - i) (n + 1 - (i + 1)))) (w.drew.setRow b A1) := fun ty dc sc => by
    have h := run_copy_rowk w.drew 31 31 ty 174 4 b ((i + 1) * 4) (n + 1 - (i + 1)) dc ⟨b, i * 4, none⟩ (n + 1 - i) sc cur e _ Tryz.underlying31 hinf hb ?_ (fun j v hj => ?_) ?_ h1
    · rw [hdl] at h
      rw [hA1, show i * 4 + 4 = (i + 1) * 4 by omega]
      exact h
    · rw [hdl, show Nat.min (n + 1 - i) (n + 1 - (i + 1)) = n - i by simp only [Nat.min_def]; split <;> omega]
    · rw [add_off, cell_of_row w.drew _ _ cur e (0, 0) hb]
      rw [List.getElem?_take] at hj
      split at hj
      · rw [List.getElem?_drop] at hj; simpa using hj
      · cases hj
    · rw [hdl, hsz]; omega
  have hA1s : A1.size = c * 4 := by
    rw [hA1]; simp only [List.size_toArray, List.length_append, List.length_take, List.length_drop, Array.length_toList, hsz]; omega
  have hb1 : (w.drew.setRow b A1).heap[b]? = some (.cells A1 e (0, 0)) := setRow_heap w.drew b cur A1 e (0, 0) hb
  have hend : (w.drew.setRow b A1).setRow b (A1.toList.take (i * 4) ++ (vcur.toList.take 4 ++ A1.toList.drop (i * 4 + 4))).toArray = w.drew.setRow b (cur.toList.take (i * 4) ++ vcur.toList.take 4 ++ (cur.toList.drop (i * 4)).take ((n - i) * 4) ++ cur.toList.drop (i * 4 + 4 + (n - i) * 4)).toArray := by
    rw [setRow_setRow, splice_shift 4 (i * 4) ((n - i) * 4) cur.toList (vcur.toList.take 4) (by rw [Array.length_toList, hsz]; omega) A1.toList (by rw [hA1])]
  have hcp2 : ∀ (W : World), W.heap = (w.drew.setRow b A1).heap → ∀ ty dc, (Builtin.copy_ #[31, 31] ty #[.slice (some ⟨b, i * 4, none⟩) (n + 1 - i) dc, .slice (some ⟨vb, 0, none⟩) 1 vc]).run Tryz.prog W = .ok (goInt (Nat.min 1 (n + 1 - i))) (W.setRow b (A1.toList.take (i * 4) ++ (vcur.toList.take 4 ++ A1.toList.drop (i * 4 + 4))).toArray) := fun W hW ty dc => by
    have h := run_copy_rowk W 31 31 ty 174 4 b (i * 4) (n + 1 - i) dc ⟨vb, 0, none⟩ 1 vc A1 e (vcur.toList.take 4) Tryz.underlying31 hinf (by rw [hW]; exact hb1) ?_ (fun j v hj => ?_) ?_ h1v
    · rw [hvl] at h
      rw [← List.append_assoc]
      exact h
    · rw [hvl, show Nat.min 1 (n + 1 - i) = 1 by simp only [Nat.min_def]; split <;> omega]
    · have hvW : W.heap[vb]? = some (.cells vcur e' (0, 0)) := by rw [hW, setRow_other w.drew _ _ _ hvb]; exact hv
      rw [add_off, cell_of_row W _ _ vcur e' (0, 0) hvW]
      rw [List.getElem?_take] at hj
      split at hj
      · simpa using hj
      · cases hj
    · rw [hvl, hA1s]; omega
  have hw1 : IntKind.i64.wrap ((i : Int) + 1) = (i : Int) + 1 := by rw [IntKind.wrap_i64]; omega
  have hw2 : IntKind.i64.wrap ((n : Int) + 1) = (n : Int) + 1 := by rw [IntKind.wrap_i64]; omega
  have hb1' : (0 : Int) ≤ (i : Int) + 1 := by omega
  have htn : ((i : Int) + 1).toNat = i + 1 := by omega
  have hb2 : ¬ (c = i + 1) := by omega
  have hb3 : (i : Int) ≤ (n : Int) + 1 := by omega
  have hb4 : ¬ (c = i) := by omega
  have ns := Tryz.sizeOf174
  have nu := Tryz.underlying31
  have mixed : Tryz.prog.follows .mixedOrders = true := by kernel_rfl
  clear hA1 hdl hvl hsz hA1s hb1
  rw [← hend]
  clear hend
  go_enter Tryz.func224, Tryz.ntmps224
  go_wp2_with (simp only [hov])
  go_region_law_o (refine stepc rfl _ _ 31 31 rfl (.slice (some ⟨b, (i + 1) * 4, none⟩) (n + 1 - (i + 1)) (c - (i + 1))) (.slice (some ⟨b, i * 4, none⟩) (n + 1 - i) (c - i)) (by simp [Act.eval, Act.put]) (by simp [Act.eval, Act.put]) (hcp1 _ _ _) ?_)
  go_wp2_with (refine wpc rfl _ _ 31 31 rfl _ _ rfl rfl (hcp2 _ rfl _ _) ?_)
  go_ret
  exact ⟨rfl, rfl⟩
set_option maxHeartbeats 4000000 in
set_option maxRecDepth 100000 in
theorem insStored_grow (b n c i vb vc : Nat) (cur vcur : Array Value) (e e' : Nat) (w : World) (hi : i < n) (hnc : n ≤ c) (hroom : c < n + 1) (hbig : (n + 1) * 32 ≤ 140737488355328) (hvb : vb ≠ b)
    (hb : w.heap[b]? = some (.cells cur e (0, 0))) (hsz : cur.size = c * 4) (hv : w.heap[vb]? = some (.cells vcur e' (0, 0))) (hvs : 4 ≤ vcur.size)
    (h1 : ∀ v ∈ (cur.toList.drop (i * 4)).take ((n - i) * 4), v.oneCell' = true) (h1v : ∀ v ∈ vcur.toList.take 4, v.oneCell' = true) :
    Calls Tryz.prog 224 #[.slice (some ⟨b, 0, none⟩) n c, .int .i64 i, .slice (some ⟨vb, 0, none⟩) 1 vc] w fun r w' =>
      r = .returned (.slice (some ⟨w.heap.size, 0, none⟩) (n + 1) (grownCap w (n + 1) c 174)) ∧ n + 1 ≤ grownCap w (n + 1) c 174 ∧
      ∃ Z : List Value, Z.length = (grownCap w (n + 1) c 174 - (n + 1)) * 4 ∧ w'.heap = (w.alloc (.cells (cur.toList.take (i * 4) ++ vcur.toList.take 4 ++ (cur.toList.drop (i * 4)).take ((n - i) * 4) ++ Z).toArray 174)).heap ∧ w'.os = w.os ∧ w'.tape = w.tape ∧ w'.output = w.output := by
  have hz2 : ¬ ((i : Int) = (n : Int)) := by omega
  have hz3 : (c : Int) < (n : Int) + 1 := by omega
  obtain ⟨i0, hi0, hz0, hzs, hzb⟩ := info_parts (show (Tryz.prog.info? 174).map (fun i => (i.zero, i.size, i.bytes)) = some (some (.agg #[.int .i64 0, .int .i64 0, .int .i64 0, .int .i64 0]), 4, 32) by kernel_rfl)
  have hinf : (Tryz.prog.info? 174).map (·.size) = some 4 := by kernel_rfl
  have hin : i ≤ n := by omega
  have hbw : b < w.heap.size := (Array.getElem?_eq_some_iff.1 hb).1
  have hvw : vb < w.heap.size := (Array.getElem?_eq_some_iff.1 hv).1
  have hdl : ((cur.toList.drop (i * 4)).take ((n - i) * 4)).length = (n - i) * 4 := by
    rw [List.length_take, List.length_drop, Array.length_toList, hsz]; omega
  have hvl : (vcur.toList.take 4).length = 4 := by rw [List.length_take, Array.length_toList]; omega
  have hkk : (n : Int) + 1 - (i : Int) = ((n + 1 - i : Nat) : Int) := by omega
  have hik : i + (n + 1 - i) = n + 1 := by omega
  have hold : (Builtin.firstCells i0.size i (.slice (some ⟨b, 0, none⟩) i c)).run Tryz.prog w.drew = .ok (cur.toList.take (i * 4)).toArray w.drew := by
    rw [hzs]
    exact run_firstCells_some w.drew 4 i ⟨b, 0, none⟩ i c (cur.toList.take (i * 4)) (by rw [List.length_take, Array.length_toList, hsz]; omega) (fun j v hj => by
      rw [add_off, cell_of_row w.drew _ _ cur e (0, 0) hb]
      rw [List.getElem?_take] at hj
      split at hj
      · simpa using hj
      · cases hj)
  obtain ⟨G, hG⟩ : ∃ G, G = grownCap w (n + 1) c 174 := ⟨_, rfl⟩
  obtain ⟨Z0, hZ0⟩ : ∃ Z0 : Array Value, Z0 = Builtin.zeroCells (Value.agg #[.int .i64 0, .int .i64 0, .int .i64 0, .int .i64 0]).cells (n + 1 - i) ++ Builtin.zeroCells (Value.agg #[.int .i64 0, .int .i64 0, .int .i64 0, .int .i64 0]).cells (G - (n + 1)) := ⟨_, rfl⟩
  obtain ⟨ROW, hROW⟩ : ∃ ROW : Array Value, ROW = (cur.toList.take (i * 4) ++ Z0.toList).toArray := ⟨_, rfl⟩
  have hrz : ∀ ty, (Builtin.append_ #[31, 3] ty #[.slice (some ⟨b, 0, none⟩) i c, .int .i64 ((n : Int) + 1 - (i : Int))]).run Tryz.prog w =
      .ok (.slice (some ⟨w.heap.size, 0, none⟩) (n + 1) G) (w.drew.alloc (.cells ROW 174)) := fun ty => by
    have h := Lib.run_append_grow_zeros (P := Tryz.prog) w 31 3 ty 174 i0 _ .i64 .i64 Tryz.underlying31 Tryz.underlying3 hi0 hz0 (some ⟨b, 0, none⟩) i c (cur.toList.take (i * 4)) hold (n + 1 - i) (by omega) (by omega) (by omega) (by omega) (by rw [hzb]; omega) (by rw [hzb, hik]; exact growslice_fits hroom hbig)
    rw [hik, ← hG] at h
    rw [hkk, hROW, hZ0]
    have e1 : (cur.toList.take (i * 4) ++ (Builtin.zeroCells (Value.agg #[.int .i64 0, .int .i64 0, .int .i64 0, .int .i64 0]).cells (n + 1 - i) ++ Builtin.zeroCells (Value.agg #[.int .i64 0, .int .i64 0, .int .i64 0, .int .i64 0]).cells (G - (n + 1))).toList).toArray = (cur.toList.take (i * 4)).toArray ++ Builtin.zeroCells (Value.agg #[.int .i64 0, .int .i64 0, .int .i64 0, .int .i64 0]).cells (n + 1 - i) ++ Builtin.zeroCells (Value.agg #[.int .i64 0, .int .i64 0, .int .i64 0, .int .i64 0]).cells (G - (n + 1)) := by
      apply Array.toList_inj.1; simp
    rw [e1]
    exact h
  have hGn : n + 1 ≤ G := by rw [hG]; exact grownCap_ge w _ _ _
  have hG63 : G ≤ 9223372036854775807 := by
    have := grownCap_le_maxLen w (n + 1) c 174 (by unfold maxLen; omega)
    rw [← hG] at this
    unfold maxLen at this
    omega
  have hZl : Z0.toList.length = 4 + (n - i) * 4 + (G - (n + 1)) * 4 := by
    rw [hZ0, Array.length_toList, Array.size_append, size_zeroCells, size_zeroCells]
    show (n + 1 - i) * 4 + (G - (n + 1)) * 4 = _
    omega
  have hROWs : ROW.size = G * 4 := by
    rw [hROW, List.size_toArray, List.length_append, hZl, List.length_take, Array.length_toList, hsz]; omega
  obtain ⟨W1, hW1⟩ : ∃ W1, W1 = w.drew.alloc (.cells ROW 174) := ⟨_, rfl⟩
  rw [← hW1] at hrz
  have hN1 : W1.heap[w.heap.size]? = some (.cells ROW 174 (0, 0)) := by rw [hW1]; exact Go.heap_alloc_new w.drew _
  have hO1 : ∀ x, x < w.heap.size → W1.heap[x]? = w.heap[x]? := fun x hx => by rw [hW1]; exact Go.heap_alloc_old w.drew _ hx
  have hbN : b ≠ w.heap.size := by omega
  have hvN : vb ≠ w.heap.size := by omega
  obtain ⟨B1, hB1⟩ : ∃ B1 : Array Value, B1 = (ROW.toList.take (i * 4) ++ (vcur.toList.take 4 ++ ROW.toList.drop (i * 4 + 4))).toArray := ⟨_, rfl⟩
  have hB1s : B1.size = G * 4 := by
    rw [hB1]; simp only [List.size_toArray, List.length_append, List.length_drop, List.length_take, Array.length_toList, hROWs]; omega
  have hcpA : ∀ (W : World), W.heap = W1.heap → ∀ ty dc, (Builtin.copy_ #[31, 31] ty #[.slice (some ⟨w.heap.size, i * 4, none⟩) (n + 1 - i) dc, .slice (some ⟨vb, 0, none⟩) 1 vc]).run Tryz.prog W = .ok (goInt (Nat.min 1 (n + 1 - i))) (W.setRow w.heap.size B1) := fun W hW ty dc => by
    have h := run_copy_rowk W 31 31 ty 174 4 w.heap.size (i * 4) (n + 1 - i) dc ⟨vb, 0, none⟩ 1 vc ROW 174 (vcur.toList.take 4) Tryz.underlying31 hinf (by rw [hW]; exact hN1) ?_ (fun j v hj => ?_) ?_ h1v
    · rw [hvl] at h
      rw [hB1, ← List.append_assoc]
      exact h
    · rw [hvl, show Nat.min 1 (n + 1 - i) = 1 by simp only [Nat.min_def]; split <;> omega]
    · have hvW : W.heap[vb]? = some (.cells vcur e' (0, 0)) := by rw [hW, hO1 _ hvw]; exact hv
      rw [add_off, cell_of_row W _ _ vcur e' (0, 0) hvW]
      rw [List.getElem?_take] at hj
      split at hj
      · simpa using hj
      · cases hj
    · rw [hvl, hROWs]; omega
  have hcpB : ∀ (W : World), W.heap = (W1.setRow w.heap.size B1).heap → ∀ ty dc sc, (Builtin.copy_ #[31, 31] ty #[.slice (some ⟨w.heap.size, (i + 1) * 4, none⟩) (n + 1 - (i + 1)) dc, .slice (some ⟨b, i * 4, none⟩) (n - i) sc]).run Tryz.prog W = .ok (goInt (Nat.min (n - i) (n + 1 - (i + 1)))) (W.setRow w.heap.size (B1.toList.take (i * 4 + 4) ++ ((cur.toList.drop (i * 4)).take ((n - i) * 4) ++ B1.toList.drop (i * 4 + 4 + (n - i) * 4))).toArray) := fun W hW ty dc sc => by
    have h := run_copy_rowk W 31 31 ty 174 4 w.heap.size ((i + 1) * 4) (n + 1 - (i + 1)) dc ⟨b, i * 4, none⟩ (n - i) sc B1 174 ((cur.toList.drop (i * 4)).take ((n - i) * 4)) Tryz.underlying31 hinf (by rw [hW]; exact setRow_heap W1 _ ROW B1 174 (0, 0) hN1) ?_ (fun j v hj => ?_) ?_ h1
    · rw [hdl] at h
      rw [← List.append_assoc, show i * 4 + 4 = (i + 1) * 4 by omega]
      exact h
    · rw [hdl, show Nat.min (n - i) (n + 1 - (i + 1)) = n - i by simp only [Nat.min_def]; split <;> omega]
    · have hbW : W.heap[b]? = some (.cells cur e (0, 0)) := by rw [hW, setRow_other W1 _ _ _ hbN, hO1 _ hbw]; exact hb
      rw [add_off, cell_of_row W _ _ cur e (0, 0) hbW]
      rw [List.getElem?_take] at hj
      split at hj
      · rw [List.getElem?_drop] at hj; simpa using hj
      · cases hj
    · rw [hdl, hB1s]; omega
  have hfin : (B1.toList.take (i * 4 + 4) ++ ((cur.toList.drop (i * 4)).take ((n - i) * 4) ++ B1.toList.drop (i * 4 + 4 + (n - i) * 4))) = cur.toList.take (i * 4) ++ vcur.toList.take 4 ++ (cur.toList.drop (i * 4)).take ((n - i) * 4) ++ Z0.toList.drop (4 + (n - i) * 4) :=
    splice_grow 4 (i * 4) ((n - i) * 4) ((G - (n + 1)) * 4) cur.toList (vcur.toList.take 4) Z0.toList (by rw [Array.length_toList, hsz]; omega) hvl hZl ROW.toList (by rw [hROW]) B1.toList (by rw [hB1])
  have hZd : (Z0.toList.drop (4 + (n - i) * 4)).length = (G - (n + 1)) * 4 := by rw [List.length_drop, hZl]; omega
  have hw1 : IntKind.i64.wrap ((i : Int) + 1) = (i : Int) + 1 := by rw [IntKind.wrap_i64]; omega
  have hw2 : IntKind.i64.wrap ((n : Int) + 1) = (n : Int) + 1 := by rw [IntKind.wrap_i64]; omega
  have hw3 : IntKind.i64.wrap ((n : Int) + 1 - (i : Int)) = (n : Int) + 1 - (i : Int) := by rw [IntKind.wrap_i64]; omega
  have hb1' : (0 : Int) ≤ (i : Int) + 1 := by omega
  have htn : ((i : Int) + 1).toNat = i + 1 := by omega
  have hGi : ¬ (G = i) := by omega
  have hGim : ¬ (G = i + 1) := by omega
  have hci : ¬ (c = i) := by omega
  have hb3 : (i : Int) ≤ (n : Int) := by omega
  have hb3' : (i : Int) ≤ (n : Int) + 1 := by omega
  have hGn1 : (n : Int) + 1 ≤ (G : Int) := by omega
  have ns := Tryz.sizeOf174
  have nu := Tryz.underlying31
  have mixed : Tryz.prog.follows .mixedOrders = true := by kernel_rfl
  rw [← hG]
  subst hW1
  clear hkk hik hold hROW hG hROWs hB1s hB1 hZ0 hZl hdl hvl hsz hi0 hz0 hzs hzb
  go_enter Tryz.func224, Tryz.ntmps224
  go_wp2_with (first
    | (at_builtin; refine Lib.wpList_append_run _ rfl _ _ _ _ rfl _ _ rfl rfl _ _ (hrz _) ?_)
    | (refine wpc rfl _ _ 31 31 rfl _ _ rfl rfl (hcpA _ (by rfl) _ _) ?_)
    | (refine wpc rfl _ _ 31 31 rfl _ _ rfl rfl (hcpB _ (by rfl) _ _ _) ?_))
  go_region_law_o (refine stepc rfl _ _ 31 31 rfl (.slice (some ⟨w.heap.size, (i + 1) * 4, none⟩) (n + 1 - (i + 1)) (G - (i + 1))) (.slice (some ⟨b, i * 4, none⟩) (n - i) (c - i)) (by simp [Act.eval, Act.put]) (by simp [Act.eval, Act.put]) (hcpB _ (by rfl) 3 (G - (i + 1)) (c - i)) ?_)
  go_wp2
  go_ret
  refine ⟨rfl, hGn, Z0.toList.drop (4 + (n - i) * 4), hZd, ?_, rfl, rfl, rfl⟩
  rw [heap_two]
  simp only [List.append_assoc]
theorem insStored_raw : InsRaw Tryz.prog 224 4 32 174 := ⟨insStored_shift, insStored_grow⟩
theorem insStored_fok : FOK Tryz.prog 224 := ⟨Tryz.f224, Tryz.func224, by kernel_rfl, by kernel_rfl⟩
end Go.Proofs.YtockphlpokoohaaGreat
