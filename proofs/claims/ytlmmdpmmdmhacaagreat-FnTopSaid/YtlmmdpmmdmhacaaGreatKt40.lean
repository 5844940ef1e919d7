/- slices.Insert at []Package walked. A text of the proof. slices.Delete at []Package walked. -/
import Derived.Test.YtlmmdpmmdmhacaaGreatKt32
import Derived.Test.YtlmmdpmmdmhacaaGreatKt39
import Derived.Test.YtlmmdpmmdmhacaaGreatKt33
import Derived.Deep.LoopGhost
import Derived.Deep.RegionLaw
import Derived.Lib.Walk
import Derived.WalkKit
import Derived.Lib.SliceRun
namespace Go.Proofs.YtlmmdpmmdmhacaaGreat
open Go Go.RowKit
set_option linter.unusedVariables false
set_option linter.unusedSimpArgs false
set_option maxHeartbeats 4000000 in
set_option maxRecDepth 100000 in
theorem zl8 (b n c i vb vc : Nat) (cur vcur : Array Value) (e e' : Nat) (w : World) (hi : i < n) (hroom : n + 1 ≤ c) (hc63 : c ≤ 9223372036854775807) (hvb : vb ≠ b)
 (hb : w.heap[b]? = some (.cells cur e (0, 0))) (hsz : cur.size = c * 8) (hv : w.heap[vb]? = some (.cells vcur e' (0, 0))) (hvs : 8 ≤ vcur.size)
 (h1 : ∀ v ∈ (cur.toList.drop (i * 8)).take ((n - i) * 8), v.oneCell' = true) (h1v : ∀ v ∈ vcur.toList.take 8, v.oneCell' = true) :
 Calls Tryz.prog 93 #[.slice (some ⟨b, 0, none⟩) n c, .int .i64 i, .slice (some ⟨vb, 0, none⟩) 1 vc] w fun r w' =>
  r = .returned (.slice (some ⟨b, 0, none⟩) (n + 1) c) ∧ w' = w.drew.setRow b (cur.toList.take (i * 8) ++ vcur.toList.take 8 ++ (cur.toList.drop (i * 8)).take ((n - i) * 8) ++ cur.toList.drop (i * 8 + 8 + (n - i) * 8)).toArray := by
 have hz2 : ¬ ((i : Int) = (n : Int)) := by omega
 have hz3 : ¬ ((c : Int) < (n : Int) + 1) := by omega
 have hinf : (Tryz.prog.info? 58).map (·.size) = some 8 := by kernel_rfl
 have hin : i ≤ n := by omega
 have hdl : ((cur.toList.drop (i * 8)).take ((n - i) * 8)).length = (n - i) * 8 := by
  rw [List.length_take, List.length_drop, Array.length_toList, hsz]; omega
 have hvl : (vcur.toList.take 8).length = 8 := by rw [List.length_take, Array.length_toList]; omega
 have hov : ∀ lb cb, (callFunc 180 #[.slice (some ⟨vb, 0, none⟩) 1 vc, .slice (some ⟨b, (i + 1) * 8, none⟩) lb cb]).run Tryz.prog w = .ok (.value (.bool false)) w := fun lb cb => by
  rw [run_callFunc_extern Tryz.func180 (by kernel_rfl) (by kernel_rfl) (by kernel_rfl) (e := Extern.SlicesOverlaps.overlaps #[25, 25] #[4]) (by kernel_rfl),
   Lib.run_overlaps_apart w 25 4 58 Tryz.underlying25 8 Tryz.sizeOf58 ⟨vb, 0, none⟩ ⟨b, (i + 1) * 8, none⟩ 1 vc lb cb hvb e' e vcur.size cur.size (by simp [World.shape?, hv]) (by simp [World.shape?, hb]) (by omega) (by simp [World.frozen?, hv]) (by simp [World.frozen?, hv])]
  rfl
 obtain ⟨A1, hA1⟩ : ∃ A1 : Array Value, A1 = (cur.toList.take (i * 8 + 8) ++ (cur.toList.drop (i * 8)).take ((n - i) * 8) ++ cur.toList.drop (i * 8 + 8 + (n - i) * 8)).toArray := ⟨_, rfl⟩
 have hcp1 : ∀ ty dc sc, (Builtin.copy_ #[25, 25] ty #[.slice (some ⟨b, (i + 1) * 8, none⟩) (n + 1 - (i + 1)) dc, .slice (some ⟨b, i * 8, none⟩) (n + 1 - i) sc]).run Tryz.prog w.drew = .ok (goInt (Nat.min (n + 1 - i) (n + 1 - (i + 1)))) (w.drew.setRow b A1) := fun ty dc sc => by
  have h := zbo w.drew 25 25 ty 58 8 b ((i + 1) * 8) (n + 1 - (i + 1)) dc ⟨b, i * 8, none⟩ (n + 1 - i) sc cur e _ Tryz.underlying25 hinf hb ?_ (fun j v hj => ?_) ?_ h1
  ·rw [hdl] at h
   rw [hA1, show i * 8 + 8 = (i + 1) * 8 by omega]
   exact h
  ·rw [hdl, show Nat.min (n + 1 - i) (n + 1 - (i + 1)) = n - i by simp only [Nat.min_def]; split <;> omega]
  ·rw [zcl, cell_of_row w.drew _ _ cur e (0, 0) hb]
   rw [List.getElem?_take] at hj
   split at hj
   ·rw [List.getElem?_drop] at hj; simpa using hj
   ·cases hj
  ·rw [hdl, hsz]; omega
 have hA1s : A1.size = c * 8 := by
  rw [hA1]; simp only [List.size_toArray, List.length_append, List.length_take, List.length_drop, Array.length_toList, hsz]; omega
 have hb1 : (w.drew.setRow b A1).heap[b]? = some (.cells A1 e (0, 0)) := setRow_heap w.drew b cur A1 e (0, 0) hb
 have hend : (w.drew.setRow b A1).setRow b (A1.toList.take (i * 8) ++ (vcur.toList.take 8 ++ A1.toList.drop (i * 8 + 8))).toArray = w.drew.setRow b (cur.toList.take (i * 8) ++ vcur.toList.take 8 ++ (cur.toList.drop (i * 8)).take ((n - i) * 8) ++ cur.toList.drop (i * 8 + 8 + (n - i) * 8)).toArray := by
  rw [setRow_setRow, zig 8 (i * 8) ((n - i) * 8) cur.toList (vcur.toList.take 8) (by rw [Array.length_toList, hsz]; omega) A1.toList (by rw [hA1])]
 have hcp2 : ∀ (W : World), W.heap = (w.drew.setRow b A1).heap → ∀ ty dc, (Builtin.copy_ #[25, 25] ty #[.slice (some ⟨b, i * 8, none⟩) (n + 1 - i) dc, .slice (some ⟨vb, 0, none⟩) 1 vc]).run Tryz.prog W = .ok (goInt (Nat.min 1 (n + 1 - i))) (W.setRow b (A1.toList.take (i * 8) ++ (vcur.toList.take 8 ++ A1.toList.drop (i * 8 + 8))).toArray) := fun W hW ty dc => by
  have h := zbo W 25 25 ty 58 8 b (i * 8) (n + 1 - i) dc ⟨vb, 0, none⟩ 1 vc A1 e (vcur.toList.take 8) Tryz.underlying25 hinf (by rw [hW]; exact hb1) ?_ (fun j v hj => ?_) ?_ h1v
  ·rw [hvl] at h
   rw [← List.append_assoc]
   exact h
  ·rw [hvl, show Nat.min 1 (n + 1 - i) = 1 by simp only [Nat.min_def]; split <;> omega]
  ·have hvW : W.heap[vb]? = some (.cells vcur e' (0, 0)) := by rw [hW, setRow_other w.drew _ _ _ hvb]; exact hv
   rw [zcl, cell_of_row W _ _ vcur e' (0, 0) hvW]
   rw [List.getElem?_take] at hj
   split at hj
   ·simpa using hj
   ·cases hj
  ·rw [hvl, hA1s]; omega
 have hw1 : IntKind.i64.wrap ((i : Int) + 1) = (i : Int) + 1 := by rw [IntKind.wrap_i64]; omega
 have hw2 : IntKind.i64.wrap ((n : Int) + 1) = (n : Int) + 1 := by rw [IntKind.wrap_i64]; omega
 have hb1' : (0 : Int) ≤ (i : Int) + 1 := by omega
 have htn : ((i : Int) + 1).toNat = i + 1 := by omega
 have hb2 : ¬ (c = i + 1) := by omega
 have hb3 : (i : Int) ≤ (n : Int) + 1 := by omega
 have hb4 : ¬ (c = i) := by omega
 have ns := Tryz.sizeOf58
 have nu := Tryz.underlying25
 have mixed : Tryz.prog.follows .mixedOrders = true := by kernel_rfl
 clear hA1 hdl hvl hsz hA1s hb1
 rw [← hend]
 clear hend
 go_enter Tryz.func93, Tryz.ntmps93
 go_wp2_with (simp only [hov])
 go_region_law_o (refine zx6 rfl _ _ 25 25 rfl (.slice (some ⟨b, (i + 1) * 8, none⟩) (n + 1 - (i + 1)) (c - (i + 1))) (.slice (some ⟨b, i * 8, none⟩) (n + 1 - i) (c - i)) (by simp [Act.eval, Act.put]) (by simp [Act.eval, Act.put]) (hcp1 _ _ _) ?_)
 go_wp2_with (refine wpc rfl _ _ 25 25 rfl _ _ rfl rfl (hcp2 _ rfl _ _) ?_)
 go_ret
 exact ⟨rfl, rfl⟩
set_option maxHeartbeats 4000000 in
set_option maxRecDepth 100000 in
theorem zmo (b n c i vb vc : Nat) (cur vcur : Array Value) (e e' : Nat) (w : World) (hi : i < n) (hnc : n ≤ c) (hroom : c < n + 1) (hbig : (n + 1) * 128 ≤ 140737488355328) (hvb : vb ≠ b)
 (hb : w.heap[b]? = some (.cells cur e (0, 0))) (hsz : cur.size = c * 8) (hv : w.heap[vb]? = some (.cells vcur e' (0, 0))) (hvs : 8 ≤ vcur.size)
 (h1 : ∀ v ∈ (cur.toList.drop (i * 8)).take ((n - i) * 8), v.oneCell' = true) (h1v : ∀ v ∈ vcur.toList.take 8, v.oneCell' = true) :
 Calls Tryz.prog 93 #[.slice (some ⟨b, 0, none⟩) n c, .int .i64 i, .slice (some ⟨vb, 0, none⟩) 1 vc] w fun r w' =>
  r = .returned (.slice (some ⟨w.heap.size, 0, none⟩) (n + 1) (grownCap w (n + 1) c 58)) ∧ n + 1 ≤ grownCap w (n + 1) c 58 ∧
  ∃ Z : List Value, Z.length = (grownCap w (n + 1) c 58 - (n + 1)) * 8 ∧ w'.heap = (w.alloc (.cells (cur.toList.take (i * 8) ++ vcur.toList.take 8 ++ (cur.toList.drop (i * 8)).take ((n - i) * 8) ++ Z).toArray 58)).heap ∧ w'.os = w.os ∧ w'.tape = w.tape ∧ w'.output = w.output := by
 have hz2 : ¬ ((i : Int) = (n : Int)) := by omega
 have hz3 : (c : Int) < (n : Int) + 1 := by omega
 obtain ⟨i0, hi0, hz0, hzs, hzb⟩ := info_parts (show (Tryz.prog.info? 58).map (fun i => (i.zero, i.size, i.bytes)) = some (some (.agg #[.int .i64 0, .int .i64 0, .int .i64 0, .slice none 0 0, .slice none 0 0, .slice none 0 0, .slice none 0 0, .int .i64 0]), 8, 128) by kernel_rfl)
 have hinf : (Tryz.prog.info? 58).map (·.size) = some 8 := by kernel_rfl
 have hin : i ≤ n := by omega
 have hbw : b < w.heap.size := (Array.getElem?_eq_some_iff.1 hb).1
 have hvw : vb < w.heap.size := (Array.getElem?_eq_some_iff.1 hv).1
 have hdl : ((cur.toList.drop (i * 8)).take ((n - i) * 8)).length = (n - i) * 8 := by
  rw [List.length_take, List.length_drop, Array.length_toList, hsz]; omega
 have hvl : (vcur.toList.take 8).length = 8 := by rw [List.length_take, Array.length_toList]; omega
 have hkk : (n : Int) + 1 - (i : Int) = ((n + 1 - i : Nat) : Int) := by omega
 have hik : i + (n + 1 - i) = n + 1 := by omega
 have hold : (Builtin.firstCells i0.size i (.slice (some ⟨b, 0, none⟩) i c)).run Tryz.prog w.drew = .ok (cur.toList.take (i * 8)).toArray w.drew := by
  rw [hzs]
  exact run_firstCells_some w.drew 8 i ⟨b, 0, none⟩ i c (cur.toList.take (i * 8)) (by rw [List.length_take, Array.length_toList, hsz]; omega) (fun j v hj => by
   rw [zcl, cell_of_row w.drew _ _ cur e (0, 0) hb]
   rw [List.getElem?_take] at hj
   split at hj
   ·simpa using hj
   ·cases hj)
 obtain ⟨G, hG⟩ : ∃ G, G = grownCap w (n + 1) c 58 := ⟨_, rfl⟩
 obtain ⟨Z0, hZ0⟩ : ∃ Z0 : Array Value, Z0 = Builtin.zeroCells (Value.agg #[.int .i64 0, .int .i64 0, .int .i64 0, .slice none 0 0, .slice none 0 0, .slice none 0 0, .slice none 0 0, .int .i64 0]).cells (n + 1 - i) ++ Builtin.zeroCells (Value.agg #[.int .i64 0, .int .i64 0, .int .i64 0, .slice none 0 0, .slice none 0 0, .slice none 0 0, .slice none 0 0, .int .i64 0]).cells (G - (n + 1)) := ⟨_, rfl⟩
 obtain ⟨ROW, hROW⟩ : ∃ ROW : Array Value, ROW = (cur.toList.take (i * 8) ++ Z0.toList).toArray := ⟨_, rfl⟩
 have hrz : ∀ ty, (Builtin.append_ #[25, 3] ty #[.slice (some ⟨b, 0, none⟩) i c, .int .i64 ((n : Int) + 1 - (i : Int))]).run Tryz.prog w =
  .ok (.slice (some ⟨w.heap.size, 0, none⟩) (n + 1) G) (w.drew.alloc (.cells ROW 58)) := fun ty => by
  have h := Lib.run_append_grow_zeros (P := Tryz.prog) w 25 3 ty 58 i0 _ .i64 .i64 Tryz.underlying25 Tryz.underlying3 hi0 hz0 (some ⟨b, 0, none⟩) i c (cur.toList.take (i * 8)) hold (n + 1 - i) (by omega) (by omega) (by omega) (by omega) (by rw [hzb]; omega) (by rw [hzb, hik]; exact growslice_fits hroom hbig)
  rw [hik, ← hG] at h
  rw [hkk, hROW, hZ0]
  have e1 : (cur.toList.take (i * 8) ++ (Builtin.zeroCells (Value.agg #[.int .i64 0, .int .i64 0, .int .i64 0, .slice none 0 0, .slice none 0 0, .slice none 0 0, .slice none 0 0, .int .i64 0]).cells (n + 1 - i) ++ Builtin.zeroCells (Value.agg #[.int .i64 0, .int .i64 0, .int .i64 0, .slice none 0 0, .slice none 0 0, .slice none 0 0, .slice none 0 0, .int .i64 0]).cells (G - (n + 1))).toList).toArray = (cur.toList.take (i * 8)).toArray ++ Builtin.zeroCells (Value.agg #[.int .i64 0, .int .i64 0, .int .i64 0, .slice none 0 0, .slice none 0 0, .slice none 0 0, .slice none 0 0, .int .i64 0]).cells (n + 1 - i) ++ Builtin.zeroCells (Value.agg #[.int .i64 0, .int .i64 0, .int .i64 0, .slice none 0 0, .slice none 0 0, .slice none 0 0, .slice none 0 0, .int .i64 0]).cells (G - (n + 1)) := by
   apply Array.toList_inj.1; simp
  rw [e1]
  exact h
 have hGn : n + 1 ≤ G := by rw [hG]; exact grownCap_ge w _ _ _
 have hG63 : G ≤ 9223372036854775807 := by
  have := grownCap_le_maxLen w (n + 1) c 58 (by unfold maxLen; omega)
  rw [← hG] at this
  unfold maxLen at this
  omega
 have hZl : Z0.toList.length = 8 + (n - i) * 8 + (G - (n + 1)) * 8 := by
  rw [hZ0, Array.length_toList, Array.size_append, size_zeroCells, size_zeroCells]
  show (n + 1 - i) * 8 + (G - (n + 1)) * 8 = _
  omega
 have hROWs : ROW.size = G * 8 := by
  rw [hROW, List.size_toArray, List.length_append, hZl, List.length_take, Array.length_toList, hsz]; omega
 obtain ⟨W1, hW1⟩ : ∃ W1, W1 = w.drew.alloc (.cells ROW 58) := ⟨_, rfl⟩
 rw [← hW1] at hrz
 have hN1 : W1.heap[w.heap.size]? = some (.cells ROW 58 (0, 0)) := by rw [hW1]; exact Go.heap_alloc_new w.drew _
 have hO1 : ∀ x, x < w.heap.size → W1.heap[x]? = w.heap[x]? := fun x hx => by rw [hW1]; exact Go.heap_alloc_old w.drew _ hx
 have hbN : b ≠ w.heap.size := by omega
 have hvN : vb ≠ w.heap.size := by omega
 obtain ⟨B1, hB1⟩ : ∃ B1 : Array Value, B1 = (ROW.toList.take (i * 8) ++ (vcur.toList.take 8 ++ ROW.toList.drop (i * 8 + 8))).toArray := ⟨_, rfl⟩
 have hB1s : B1.size = G * 8 := by
  rw [hB1]; simp only [List.size_toArray, List.length_append, List.length_drop, List.length_take, Array.length_toList, hROWs]; omega
 have hcpA : ∀ (W : World), W.heap = W1.heap → ∀ ty dc, (Builtin.copy_ #[25, 25] ty #[.slice (some ⟨w.heap.size, i * 8, none⟩) (n + 1 - i) dc, .slice (some ⟨vb, 0, none⟩) 1 vc]).run Tryz.prog W = .ok (goInt (Nat.min 1 (n + 1 - i))) (W.setRow w.heap.size B1) := fun W hW ty dc => by
  have h := zbo W 25 25 ty 58 8 w.heap.size (i * 8) (n + 1 - i) dc ⟨vb, 0, none⟩ 1 vc ROW 58 (vcur.toList.take 8) Tryz.underlying25 hinf (by rw [hW]; exact hN1) ?_ (fun j v hj => ?_) ?_ h1v
  ·rw [hvl] at h
   rw [hB1, ← List.append_assoc]
   exact h
  ·rw [hvl, show Nat.min 1 (n + 1 - i) = 1 by simp only [Nat.min_def]; split <;> omega]
  ·have hvW : W.heap[vb]? = some (.cells vcur e' (0, 0)) := by rw [hW, hO1 _ hvw]; exact hv
   rw [zcl, cell_of_row W _ _ vcur e' (0, 0) hvW]
   rw [List.getElem?_take] at hj
   split at hj
   ·simpa using hj
   ·cases hj
  ·rw [hvl, hROWs]; omega
 have hcpB : ∀ (W : World), W.heap = (W1.setRow w.heap.size B1).heap → ∀ ty dc sc, (Builtin.copy_ #[25, 25] ty #[.slice (some ⟨w.heap.size, (i + 1) * 8, none⟩) (n + 1 - (i + 1)) dc, .slice (some ⟨b, i * 8, none⟩) (n - i) sc]).run Tryz.prog W = .ok (goInt (Nat.min (n - i) (n + 1 - (i + 1)))) (W.setRow w.heap.size (B1.toList.take (i * 8 + 8) ++ ((cur.toList.drop (i * 8)).take ((n - i) * 8) ++ B1.toList.drop (i * 8 + 8 + (n - i) * 8))).toArray) := fun W hW ty dc sc => by
  have h := zbo W 25 25 ty 58 8 w.heap.size ((i + 1) * 8) (n + 1 - (i + 1)) dc ⟨b, i * 8, none⟩ (n - i) sc B1 58 ((cur.toList.drop (i * 8)).take ((n - i) * 8)) Tryz.underlying25 hinf (by rw [hW]; exact setRow_heap W1 _ ROW B1 58 (0, 0) hN1) ?_ (fun j v hj => ?_) ?_ h1
  ·rw [hdl] at h
   rw [← List.append_assoc, show i * 8 + 8 = (i + 1) * 8 by omega]
   exact h
  ·rw [hdl, show Nat.min (n - i) (n + 1 - (i + 1)) = n - i by simp only [Nat.min_def]; split <;> omega]
  ·have hbW : W.heap[b]? = some (.cells cur e (0, 0)) := by rw [hW, setRow_other W1 _ _ _ hbN, hO1 _ hbw]; exact hb
   rw [zcl, cell_of_row W _ _ cur e (0, 0) hbW]
   rw [List.getElem?_take] at hj
   split at hj
   ·rw [List.getElem?_drop] at hj; simpa using hj
   ·cases hj
  ·rw [hdl, hB1s]; omega
 have hfin : (B1.toList.take (i * 8 + 8) ++ ((cur.toList.drop (i * 8)).take ((n - i) * 8) ++ B1.toList.drop (i * 8 + 8 + (n - i) * 8))) = cur.toList.take (i * 8) ++ vcur.toList.take 8 ++ (cur.toList.drop (i * 8)).take ((n - i) * 8) ++ Z0.toList.drop (8 + (n - i) * 8) :=
  zji 8 (i * 8) ((n - i) * 8) ((G - (n + 1)) * 8) cur.toList (vcur.toList.take 8) Z0.toList (by rw [Array.length_toList, hsz]; omega) hvl hZl ROW.toList (by rw [hROW]) B1.toList (by rw [hB1])
 have hZd : (Z0.toList.drop (8 + (n - i) * 8)).length = (G - (n + 1)) * 8 := by rw [List.length_drop, hZl]; omega
 have hw1 : IntKind.i64.wrap ((i : Int) + 1) = (i : Int) + 1 := by rw [IntKind.wrap_i64]; omega
 have hw2 : IntKind.i64.wrap ((n : Int) + 1) = (n : Int) + 1 := by rw [IntKind.wrap_i64]; omega
 have hw3 : IntKind.i64.wrap ((n : Int) + 1 - (i : Int)) = (n : Int) + 1 - (i : Int) := by rw [IntKind.wrap_i64]; omega
 have hb1' : (0 : Int) ≤ (i : Int) + 1 := by omega
 have htn : ((i : Int) + 1).toNat = i + 1 := by omega
 have hGi : ¬ (G = i) := by omega
 have hGim : ¬ (G = i + 1) := by omega
 have hci : ¬ (c = i) := by omega
 have hb3 : (i : Int) ≤ (n : Int) := by omega
 have hb3' : (i : Int) ≤ (n : Int) + 1 := by omega
 have hGn1 : (n : Int) + 1 ≤ (G : Int) := by omega
 have ns := Tryz.sizeOf58
 have nu := Tryz.underlying25
 have mixed : Tryz.prog.follows .mixedOrders = true := by kernel_rfl
 rw [← hG]
 subst hW1
 clear hkk hik hold hROW hG hROWs hB1s hB1 hZ0 hZl hdl hvl hsz hi0 hz0 hzs hzb
 go_enter Tryz.func93, Tryz.ntmps93
 go_wp2_with (first
  | (at_builtin; refine Lib.wpList_append_run _ rfl _ _ _ _ rfl _ _ rfl rfl _ _ (hrz _) ?_)
  | (refine wpc rfl _ _ 25 25 rfl _ _ rfl rfl (hcpA _ (by rfl) _ _) ?_)
  | (refine wpc rfl _ _ 25 25 rfl _ _ rfl rfl (hcpB _ (by rfl) _ _ _) ?_))
 go_region_law_o (refine zx6 rfl _ _ 25 25 rfl (.slice (some ⟨w.heap.size, (i + 1) * 8, none⟩) (n + 1 - (i + 1)) (G - (i + 1))) (.slice (some ⟨b, i * 8, none⟩) (n - i) (c - i)) (by simp [Act.eval, Act.put]) (by simp [Act.eval, Act.put]) (hcpB _ (by rfl) 3 (G - (i + 1)) (c - i)) ?_)
 go_wp2
 go_ret
 refine ⟨rfl, hGn, Z0.toList.drop (8 + (n - i) * 8), hZd, ?_, rfl, rfl, rfl⟩
 rw [zrt]
 simp only [List.append_assoc]
theorem zo3 : InsRaw Tryz.prog 93 8 128 58 := ⟨zl8, zmo⟩
theorem zo0 : FOK Tryz.prog 93 := ⟨Tryz.f93, Tryz.func93, by kernel_rfl, by kernel_rfl⟩
end Go.Proofs.YtlmmdpmmdmhacaaGreat
namespace Go.Proofs.YtlmmdpmmdmhacaaGreat
open Go Go.ChangeShapes Go.WideShapes Go.ChangeAt Go.RowKit
set_option linter.unusedVariables false
set_option linter.unusedSimpArgs false
set_option maxRecDepth 100000
def zrg (l : List GPackage) (e : Int) : Nat := (l.takeWhile (fun q => decide (q.Ext < e))).length
theorem z3g (l : List GPackage) (e : Int) : zrg l e ≤ l.length := List.IsPrefix.length_le (List.takeWhile_prefix _)
theorem zxf {e : Int} : ∀ {l : List GPackage} {i : Nat}, i ≤ l.length → (∀ j (h : j < l.length), j < i → (l[j]).Ext < e) → (∀ h : i < l.length, ¬ (l[i]).Ext < e) → zrg l e = i
 | [], i, hi, _, _ => by simp at hi; subst hi; rfl
 | q :: l, 0, _, _, hx => by
   have := hx (by simp)
   simp only [List.getElem_cons_zero] at this
   simp [zrg, List.takeWhile, this]
 | q :: l, i + 1, hi, hb, hx => by
   have h0 := hb 0 (by simp) (by omega)
   simp only [List.getElem_cons_zero] at h0
   have ih := zxf (l := l) (i := i) (e := e) (by simpa using hi) (fun j h hj => by have := hb (j + 1) (by simpa using h) (by omega); simpa using this) (fun h => by have := hx (by simpa using h); simpa using this)
   simp only [zrg] at ih ⊢
   rw [List.takeWhile_cons_of_pos (by simpa using h0), List.length_cons, ih]
def zf6 (b : GBrowser) (p : GPackage) : GBrowser := { b with Packs := b.Packs.take (zrg b.Packs p.Ext) ++ p :: b.Packs.drop (zrg b.Packs p.Ext), Grants := b.Grants ++ p.Grants, Rules := b.Rules ++ p.Rules }
def za9 (b : GBrowser) (p : GPackage) : GBrowser × Bool :=
 if zcg b.Key p = 0 ∧ ¬ 0 ≤ zai b p.Ext ∧ zaj (zf6 b p) = true then (zf6 b p, true) else (b, false)
theorem z3h {α : Type} {f : α → List D} (a : α) (l : List α) (i : Nat) : szL.szLL ((l.take i ++ a :: l.drop i).map f) = szL.szLL (l.map f) + szL (f a) := by
 have happ : ∀ (x y : List (List D)), szL.szLL (x ++ y) = szL.szLL x + szL.szLL y := by
  intro x y
  induction x with
  | nil => rw [List.nil_append, szL.szLL, Nat.zero_add]
  | cons z x ih => rw [List.cons_append, szL.szLL, szL.szLL, ih]; omega
 have h2 : szL.szLL (l.map f) = szL.szLL ((l.take i).map f) + szL.szLL ((l.drop i).map f) := by rw [← happ, ← List.map_append, List.take_append_drop]
 rw [List.map_append, happ, List.map_cons, szL.szLL, h2]; omega
theorem z2t (b : GBrowser) (p : GPackage) : szL (zf6 b p).d ≤ szL b.d + 2 * szL p.d + 1 := by
 have h1 := z3h (f := GPackage.d) p b.Packs (zrg b.Packs p.Ext)
 have h2 := z3g b.Packs p.Ext
 have h4 := z3c p
 rw [z2o, z2o]
 simp only [zf6, List.length_append, List.length_cons, List.length_take, List.length_drop, h1]
 omega
theorem z5u {b : GBrowser} {p : GPackage} (h : ¬ zcg b.Key p = 0) : za9 b p = (b, false) := if_neg fun hh => h hh.1
theorem z5k {b : GBrowser} {p : GPackage} (h : 0 ≤ zai b p.Ext) : za9 b p = (b, false) := if_neg fun hh => hh.2.1 h
theorem z5n {b : GBrowser} {p : GPackage} (h : zaj (zf6 b p) = false) : za9 b p = (b, false) := if_neg fun hh => (by rw [h] at hh; cases hh.2.2)
theorem z42 {b : GBrowser} {p : GPackage} (h1 : zcg b.Key p = 0) (h2 : ¬ 0 ≤ zai b p.Ext) (h3 : zaj (zf6 b p) = true) : za9 b p = (zf6 b p, true) := if_pos ⟨h1, h2, h3⟩
theorem z3e (l : List GPackage) (p : GPackage) (i : Nat) (hi : i ≤ l.length) (hz : l.length ≤ 1048577) {S0 S1 : Store} {o : Nat} {ds : List D} {cs pc : List C} {c : C} (hE : Ext S0 S1) (h : Fr S0.length S1 (ds ++ p.d) (cs ++ pc)) (hl : cs.length = ds.length) (hd : ds[o]? = some (.sl 8 (l.map GPackage.d))) (hc : cs[o]? = some c) :
 EvA Tryz.prog 93 [.s c, .s (.int .i64 i), .s (.sl S1.length 0 1 1)] (S1 ++ [⟨true, 8, [pc]⟩]) (fun r S' => Ext S0 S' ∧ ∃ c', r = .v (.s c') ∧ Fr S0.length S' (ds.set o (.sl 8 ((l.take i ++ p :: l.drop i).map GPackage.d))) (cs.set o c')) := by
 by_cases hlt : i < l.length
 ·refine (zo3.frAt (S0 := S0) (S2 := S1) (xs := l.map GPackage.d) (dy := p.d) (cy := pc) (i := i) (by decide) (by decide) zo0 hE h hl hd hc (by rw [List.length_map]; exact hlt) (by rw [List.length_map]; omega)).mono ?_
  rintro r S' ⟨h1, c', h2, h3⟩
  refine ⟨h1, c', h2, ?_⟩
  rw [List.map_append, List.map_cons, List.map_take, List.map_drop]; exact h3
 ·have he : i = l.length := by omega
  subst he
  have hE' : Ext S0 (S1 ++ [⟨true, 8, [pc]⟩]) := hE.trans (Ext.push _ _)
  have h' := h.ext (Ext.push S1 ⟨true, 8, [pc]⟩)
  have hr' : Rd (S1 ++ [⟨true, 8, [pc]⟩]) [.sl 8 (l.map GPackage.d)] [c] := h'.rdAt (o := o) (by rw [List.getElem?_append_left (List.getElem?_eq_some_iff.1 hd).1]; exact hd) (by rw [List.getElem?_append_left (List.getElem?_eq_some_iff.1 hc).1]; exact hc)
  have hv : elems (S1 ++ [⟨true, 8, [pc]⟩]) (.sl S1.length 0 1 1) = some [pc] := by simp [elems]
  refine zac tok Tryz.func93 (by kernel_rfl) rfl ?_
  repeat' ((conv => whnf) <;> first
   | (show CondP _ _ _; refine cS ?_) | refine cD (fun _ => ?_) fun _ => ?_ | refine rE fun hml => ?_ | (refine zm2 hr' rf om ?_; intro cH hH) | (refine zt6 hv ?_) | (refine z6e hv ?_) | (refine zwl (dy := p.d) hE' h' hl hd hc rfl (by dsimp only [T58]; simp only [List.length_map]; omega) (by simp only [List.length_map]; omega) ?_; intro cB SB hEB hFB hlB) | refine And.intro ?_ ?_)
  all_goals first
   | rfl
   | assumption
   | (refine ⟨_, rfl, ?_⟩; rw [List.take_length, List.drop_length, List.map_append]; exact hFB)
   | (exfalso; simp only [List.length_singleton] at *; omega)
   | (exfalso; omega)
set_option maxHeartbeats 4000000 in
theorem zm6 (b : GBrowser) (p : GPackage) (cs cs' : List C) (S : Store) (h : Rd S b.d cs) (h' : Rd S p.d cs') (hz : szL b.d ≤ 1048576) (hz' : szL p.d ≤ 1048576) : EvA Tryz.prog 29 [.agg cs, .agg cs'] S (fun r S' => Ext S S' ∧ ∃ c1 c2 c3 c4 c5 c6, r = .tup [.agg [.int .i64 (za9 b p).1.Key, c1, c2, c3, c4, c5, c6, .int .i64 (za9 b p).1.Now], .s (.bool (za9 b p).2)] ∧ Fr S.length S' (za9 b p).1.d [.int .i64 (za9 b p).1.Key, c1, c2, c3, c4, c5, c6, .int .i64 (za9 b p).1.Now]) := by
 have hzs := hz
 simp only [GBrowser.d, szL, List.length_map] at hzs
 have hzq := z3c p
 have hzu := z2t b p
 have hB := h
 have hP' := h'
 obtain ⟨_, _, _, _, rfl, p1, p2, p3, p4⟩ := GPackage.inv h'
 obtain ⟨b1, b2, b3, b4, b5, b6, rfl, t1, t2, t3, t4, t5, t6⟩ := GBrowser.inv h
 by_cases hr : ¬ zcg b.Key p = 0
 ·rw [z5u hr]
  refine zac tok Tryz.func29 (by kernel_rfl) rfl ?_
  repeat' ((conv => whnf) <;> first
   | (refine zaa (zft b.Key p _ _ hP') ?_) | (show CondP _ _ _; refine cS ?_) | refine cT ?_)
  all_goals try (exfalso; simp_all; done)
  (conv => whnf)
  refine zab (zao b _ _ hB (by omega)) ?_; rintro _ S0 ⟨e0, c1, c2, c3, c4, c5, c6, rfl, f0⟩
  repeat' ((conv => whnf) <;> first
   | refine And.intro ?_ ?_)
  all_goals first
   | exact e0
   | exact ⟨_, _, _, _, _, _, rfl, f0⟩
   | (exfalso; simp_all; done)
 replace hr := Decidable.not_not.1 hr
 by_cases hp : 0 ≤ zai b p.Ext
 ·rw [z5k hp]
  refine zac tok Tryz.func29 (by kernel_rfl) rfl ?_
  repeat' ((conv => whnf) <;> first
   | (refine zaa (zbc b p.Ext _ _ hB) ?_) | (refine zaa (zft b.Key p _ _ hP') ?_) | (show CondP _ _ _; refine cS ?_))
  all_goals try (exfalso; simp_all; done)
  (conv => whnf)
  refine zab (zao b _ _ hB (by omega)) ?_; rintro _ S0 ⟨e0, c1, c2, c3, c4, c5, c6, rfl, f0⟩
  repeat' ((conv => whnf) <;> first
   | refine And.intro ?_ ?_)
  all_goals first
   | exact e0
   | exact ⟨_, _, _, _, _, _, rfl, f0⟩
   | (exfalso; simp_all; done)
 refine zac tok Tryz.func29 (by kernel_rfl) rfl ?_
 repeat' ((conv => whnf) <;> first
  | (refine zaa (zbc b p.Ext _ _ hB) ?_) | (refine zaa (zft b.Key p _ _ hP') ?_) | (show CondP _ _ _; refine cS ?_))
 all_goals try (exfalso; simp_all; done)
 (conv => whnf)
 refine zab (zao b _ _ hB (by omega)) ?_; rintro _ S0 ⟨e0, c1, c2, c3, c4, c5, c6, rfl, f0⟩
 have r2 : Rd S0 [.sl 8 (b.Packs.map GPackage.d)] [c2] := f0.rdAt (o := 2) rfl rfl
 obtain ⟨rs, hrl, heI, hr8, hrs⟩ := z50 r2
 skip
 all_goals try (exfalso; simp_all; done)
 refine zag {i : Nat // i ≤ b.Packs.length ∧ ∀ j (hj : j < b.Packs.length), j < i → (b.Packs[j]).Ext < p.Ext} [7, 24, 25, 26, 27, 28, 29, 30, 31, 32, 33, 34, 35, 36, 37, 38, 39, 40, 41] (fun zb => [(7, .v (.s (.int .i64 zb.1)))]) (fun _ => S0) (fun zb => b.Packs.length - zb.1) ⟨0, Nat.zero_le _, fun j _ hj => absurd hj (Nat.not_lt_zero j)⟩ okL rfl ?_
 rintro ⟨i, hi, hinv⟩; dsimp only
 by_cases hx : ∃ h : i < b.Packs.length, (b.Packs[i]).Ext < p.Ext
 ·obtain ⟨hlt, hle⟩ := hx
  obtain ⟨a1, a2, a3, a4, hri⟩ := hrs i hlt
  have hri' : rs[((i : Nat) : Int).toNat]? = some [.int .i64 (b.Packs[i]).Ext, .int .i64 (b.Packs[i]).Author, .int .i64 (b.Packs[i]).Version, a1, a2, a3, a4, .int .i64 (b.Packs[i]).Seal] := by rw [Int.toNat_natCast]; exact hri
  repeat' ((conv => whnf) <;> first
   | (refine zey heI hri' om ?_) | rw [zad (by omega)] | (show CondP _ _ _; refine cS ?_) | refine rE fun hml => ?_ | refine rI rdA rf ix ?_ | refine zae 24 (iN 16 0 []) (by rfl) (by kernel_rfl) ?_)
  all_goals try (exfalso; simp_all; done)
  refine ⟨⟨i + 1, by omega, fun j hj hji => ?_⟩, ?_, rfl, by simp; omega⟩
  ·by_cases hj2 : j = i
   ·subst hj2; exact hle
   ·exact hinv j hj (by omega)
  ·(conv => whnf); repeat' (first | exact trivial | exact rfl | apply And.intro)
 ·have hix : zrg b.Packs p.Ext = i := zxf hi hinv (fun h hh => hx ⟨h, hh⟩)
  have hxx : ∀ h : i < b.Packs.length, ¬ (b.Packs[i]).Ext < p.Ext := fun h hh => hx ⟨h, hh⟩
  rcases Nat.lt_or_ge i b.Packs.length with hlt | hlt
  all_goals
   repeat' ((conv => whnf) <;> first
    | (obtain ⟨a1, a2, a3, a4, hri⟩ := hrs i (by omega); have hle := hxx (by omega); refine zey heI (by rw [Int.toNat_natCast]; exact hri) (by omega) ?_) | (show CondP _ _ _; refine cS ?_) | refine cF ?_ | refine rE fun hml => ?_ | refine rI rdA rf ix ?_ | refine zae 24 (iN 16 0 []) (by rfl) (by kernel_rfl) ?_ | refine zae 42 [.fl 0, .fl 1, .fl 2, .fl 3, .st 4 [0, 1, 2], .fl 5, .st 6 [], .fl 7, .st 8 []] (by rfl) (by kernel_rfl) ?_)
  all_goals try (exfalso; simp_all; done)
  all_goals try (exfalso; omega)
  all_goals
   (conv => whnf)
   refine zab (zeo p _ _ (hP'.ext e0) (by omega)) ?_; rintro _ S2 ⟨e2, g3, g4, g5, g6, rfl, f2⟩
   have E2 := e0.trans e2
   have J : Fr S.length S2 (b.d ++ p.d) ([.int .i64 b.Key, c1, c2, c3, c4, c5, c6, .int .i64 b.Now] ++ [.int .i64 p.Ext, .int .i64 p.Author, .int .i64 p.Version, g3, g4, g5, g6, .int .i64 p.Seal]) := f0.join e2 f2 e0.len
   repeat' ((conv => whnf) <;> first
    | (refine zab (z3e b.Packs p i hi om (o := 2) (ds := b.d) (cs := [.int .i64 b.Key, c1, c2, c3, c4, c5, c6, .int .i64 b.Now]) E2 J rfl rfl rfl) ?_; rintro _ SB ⟨hEB0, cB, rfl, J3⟩) | refine And.intro ?_ ?_)
   have EB := hEB0
   have pg := p1.ext EB
   repeat' ((conv => whnf) <;> first
    | (refine zaq (f := GGrant.d) (l := p.Grants) pg tv (fun _ => ?_)))
   (conv => whnf)
   refine zcq (f := GGrant.d) (o := 3) (l := b.Grants) (m := p.Grants) (fun _ => trivial) EB J3 rfl rfl rfl (by intro _; rfl) (by dsimp only [T108, T120]; omega) (by omega) ?_; intro cG SG hEG hFG hlG
   have pr := p3.ext hEG
   repeat' ((conv => whnf) <;> first
    | (refine zaq (f := GRule.d) (l := p.Rules) pr tv (fun _ => ?_)))
   (conv => whnf)
   refine zcq (f := GRule.d) (o := 5) (l := b.Rules) (m := p.Rules) (fun _ => trivial) hEG hFG rfl rfl rfl (by intro _; rfl) (by dsimp only [T108, T120]; omega) (by omega) ?_; intro cR SR hER hFR hlR
   have JR : Fr S.length SR (zf6 b p).d [.int .i64 b.Key, c1, cB, cG, c4, cR, c6, .int .i64 b.Now] := by
    simp only [zf6, GBrowser.d, hix]; exact hFR
   rcases hk : zaj (zf6 b p) with _ | _
   ·rw [z5n hk]
    repeat' ((conv => whnf) <;> first
     | (refine zaa (zev (zf6 b p) _ _ JR.rd om) ?_) | (show CondP _ _ _; refine cS ?_))
    all_goals try (exfalso; simp_all; done)
    (conv => whnf)
    refine zab (zao b _ _ (hB.ext hER) (by omega)) ?_; rintro _ S8 ⟨e8, q1, q2, q3, q4, q5, q6, rfl, f8⟩
    repeat' ((conv => whnf) <;> first
     | refine And.intro ?_ ?_)
    all_goals first
     | exact hER.trans e8
     | exact ⟨_, _, _, _, _, _, rfl, f8.mono hER.len⟩
   ·rw [z42 hr hp hk]
    repeat' ((conv => whnf) <;> first
     | (refine zaa (zev (zf6 b p) _ _ JR.rd om) ?_) | (show CondP _ _ _; refine cS ?_) | refine And.intro ?_ ?_)
    all_goals first
     | exact hER
     | exact ⟨_, _, _, _, _, _, rfl, JR⟩
     | (exfalso; simp_all; done)
end Go.Proofs.YtlmmdpmmdmhacaaGreat
namespace Go.Proofs.YtlmmdpmmdmhacaaGreat
open Go Go.RowKit
set_option linter.unusedVariables false
set_option linter.unusedSimpArgs false
set_option maxHeartbeats 4000000 in
set_option maxRecDepth 100000 in
theorem zox (b n c i : Nat) (cur : Array Value) (e : Nat) (w : World) (hi : i < n) (hnc : n ≤ c) (hc63 : c ≤ 9223372036854775807)
 (hb : w.heap[b]? = some (.cells cur e (0, 0))) (hsz : cur.size = c * 8)
 (h1 : ∀ v ∈ (cur.toList.drop ((i + 1) * 8)).take ((n - (i + 1)) * 8), v.oneCell' = true) :
 Calls Tryz.prog 121 #[.slice (some ⟨b, 0, none⟩) n c, .int .i64 i, .int .i64 ((i : Int) + 1)] w fun r w' =>
  r = .returned (.slice (some ⟨b, 0, none⟩) (n - 1) c) ∧ ∃ Z : List Value, Z.length = 8 ∧ w' = w.drew.setRow b (cur.toList.take (i * 8) ++ (cur.toList.drop ((i + 1) * 8)).take ((n - (i + 1)) * 8) ++ Z ++ cur.toList.drop (n * 8)).toArray := by
 have hinf := info_parts (show (Tryz.prog.info? 58).map (fun i => (i.zero, i.size, i.bytes)) = some (some (.agg #[.int .i64 0, .int .i64 0, .int .i64 0, .slice none 0 0, .slice none 0 0, .slice none 0 0, .slice none 0 0, .int .i64 0]), 8, 128) by kernel_rfl)
 obtain ⟨i0, hi0, hz0, hz1, hz2⟩ := hinf
 obtain ⟨j, hj⟩ : ∃ j, j = i + 1 := ⟨_, rfl⟩
 rw [show ((i : Int) + 1) = (j : Int) by omega]
 have hij : i ≤ j := by omega
 have hjn : j ≤ n := by omega
 have hne : ¬ (i = j) := by omega
 obtain ⟨news, hnews⟩ : ∃ news, news = (cur.toList.drop (j * 8)).take ((n - j) * 8) := ⟨_, rfl⟩
 have hlen : news.length = (n - j) * 8 := by rw [hnews, List.length_take, List.length_drop, Array.length_toList, hsz]; omega
 obtain ⟨A, hA, hsrc⟩ : ∃ A : Addr, (if c = j then (some (⟨b, 0, none⟩ : Addr)) else some ⟨b, j * 8, none⟩) = some A ∧ Hid (∀ t u, news[t]? = some u → w.drew.cell? (A.add t) = some u) := by
  by_cases h : c = j
  ·refine ⟨⟨b, 0, none⟩, by simp [h], fun t u hu => ?_⟩
   have h0 : news.length = 0 := by rw [hlen]; omega
   rw [List.length_eq_zero_iff.1 h0] at hu
   simp at hu
  ·refine ⟨⟨b, j * 8, none⟩, by simp [h], fun t u hu => ?_⟩
   rw [hnews, List.getElem?_take] at hu
   split at hu
   ·rw [List.getElem?_drop] at hu
    rw [zcl, cell_of_row w.drew _ _ cur e (0, 0) hb]; simpa using hu
   ·cases hu
 have s1 : Hid (news.length = (n - j) * 8) := hlen
 have s2 : Hid (∀ u ∈ news, u.oneCell' = true) := by rw [hnews, hj]; exact h1
 have s3 : Hid (∀ t, t < news.length → (w.drew.cell? ⟨b, 0 + i * 8 + t, none⟩).isSome = true ∧ w.drew.frozen? ⟨b, 0 + i * 8 + t, none⟩ = false) := by
  intro t ht
  rw [hlen] at ht
  have hb' : w.drew.heap[b]? = some (.cells cur e (0, 0)) := hb
  refine ⟨?_, by simp [World.frozen?, hb']⟩
  rw [cell_of_row w.drew _ _ cur e (0, 0) hb', Array.getElem?_eq_getElem (by omega)]; rfl
 obtain ⟨W1, hW1⟩ : ∃ W1, W1 = w.drew.setCells b (0 + i * 8) news := ⟨_, rfl⟩
 have hW1r : W1 = w.drew.setRow b (cur.toList.take (i * 8) ++ news ++ cur.toList.drop (i * 8 + (n - j) * 8)).toArray := by
  rw [hW1, ztm (P := Tryz.prog) w.drew b (0 + i * 8) e cur news hb (by rw [hlen]; omega) s2, hlen, Nat.zero_add]
 obtain ⟨A1, hA1⟩ : ∃ A1 : Array Value, A1 = (cur.toList.take (i * 8) ++ news ++ cur.toList.drop (i * 8 + (n - j) * 8)).toArray := ⟨_, rfl⟩
 have hA1s : A1.size = c * 8 := by
  rw [hA1]; simp only [List.size_toArray, List.length_append, List.length_take, List.length_drop, Array.length_toList, hsz, hlen]; omega
 rw [← hA1] at hW1r
 have hg1 : W1.heap[b]? = some (.cells A1 e (0, 0)) := by rw [hW1r]; exact setRow_heap w.drew b cur A1 e (0, 0) hb
 have hZ8 : (Builtin.zeroCells (Value.agg #[.int .i64 0, .int .i64 0, .int .i64 0, .slice none 0 0, .slice none 0 0, .slice none 0 0, .slice none 0 0, .int .i64 0]).cells 1).toList = ([.int .i64 0, .int .i64 0, .int .i64 0, .slice none 0 0, .slice none 0 0, .slice none 0 0, .slice none 0 0, .int .i64 0] : List Value) := by kernel_rfl
 have hzv : ∀ w, (zeroValue 58).run Tryz.prog w = .ok (.agg #[.int .i64 0, .int .i64 0, .int .i64 0, .slice none 0 0, .slice none 0 0, .slice none 0 0, .slice none 0 0, .int .i64 0]) w := fun w => by simp [zeroValue, typeInfo, hi0, hz0]
 have hcl : ∀ ty, (Builtin.clear_ #[25] ty #[.slice (some ⟨b, (i + (n - j)) * 8, none⟩) (n - (i + (n - j))) (c - (i + (n - j)))]).run Tryz.prog W1 = .ok (.tuple #[]) (W1.setRow b (A1.toList.take ((i + (n - j)) * 8) ++ ([.int .i64 0, .int .i64 0, .int .i64 0, .slice none 0 0, .slice none 0 0, .slice none 0 0, .slice none 0 0, .int .i64 0] : List Value) ++ A1.toList.drop ((i + (n - j)) * 8 + 8)).toArray) := fun ty =>
  zqk W1 _ _ ty _ Tryz.underlying25 hzv _ hZ8 (by intro v hv; simp only [List.mem_cons, List.not_mem_nil, or_false] at hv; rcases hv with rfl | rfl | rfl | rfl | rfl | rfl | rfl | rfl <;> rfl) b _ _ _ (by omega) A1 e hg1 (by simp only [List.length_cons, List.length_nil]; omega)
 have X : Aside (W1 = w.drew.setRow b A1) := hW1r
 have XA : Aside (A1 = (cur.toList.take (i * 8) ++ news ++ cur.toList.drop (i * 8 + (n - j) * 8)).toArray) := hA1
 have XN : Aside (news = (cur.toList.drop (j * 8)).take ((n - j) * 8)) := hnews
 have XJ : Aside (j = i + 1) := hj
 have XS : Aside (cur.size = c * 8) := hsz
 have hW : Hid (W1 = w.drew.setCells b (0 + i * 8) news) := hW1
 have hic : i ≤ c := by omega
 have hjc : j ≤ c := by omega
 have hin : i ≤ n := by omega
 have ns := Tryz.sizeOf58
 have nu := Tryz.underlying25
 have mixed : Tryz.prog.follows .mixedOrders = true := by kernel_rfl
 clear hW1 hW1r hg1 hA1 hA1s hnews hlen hj hsz h1 hb
 go_enter Tryz.func121, Tryz.ntmps121
 go_wp2_with fail
 go_region_law_o (refine step_append_room rfl (.tmp 22) (.tmp 25) 25 rfl 58 i0 8 Tryz.underlying25 hi0 hz1 b 0 i c (by simp [Act.eval, Act.put]) A (n - j) (c - j) news (by simp [Act.eval, Act.put]) s1.out hsrc.out s2.out (by omega) s3.out ?_; rw [← hW.out])
 go_wp2
 go_ret
 have hj := XJ.out
 have hsz := XS.out
 refine ⟨by rw [show n - 1 = i + (n - j) by omega]; rfl, ([.int .i64 0, .int .i64 0, .int .i64 0, .slice none 0 0, .slice none 0 0, .slice none 0 0, .slice none 0 0, .int .i64 0] : List Value), rfl, ?_⟩
 rw [X.out, setRow_setRow]
 have h := zxr (i * 8) (j * 8) ((n - j) * 8) cur.toList ([.int .i64 0, .int .i64 0, .int .i64 0, .slice none 0 0, .slice none 0 0, .slice none 0 0, .slice none 0 0, .int .i64 0] : List Value) (by omega) (by rw [Array.length_toList]; omega) (by simp only [List.length_cons, List.length_nil]; omega) A1.toList (by rw [XA.out, XN.out])
 rw [show i * 8 + (n - j) * 8 = (i + (n - j)) * 8 by omega, show j * 8 + (n - j) * 8 = n * 8 by omega] at h
 rw [← hj]
 refine congrArg (fun l => w.drew.setRow b (List.toArray l)) (Eq.trans ?_ h)
 simp only [List.append_assoc, List.cons_append, List.nil_append, List.length_cons, List.length_nil]
theorem zof : DelRaw Tryz.prog 121 8 := ⟨zox⟩
theorem zoh : FOK Tryz.prog 121 := ⟨Tryz.f121, Tryz.func121, by kernel_rfl, by kernel_rfl⟩
end Go.Proofs.YtlmmdpmmdmhacaaGreat
