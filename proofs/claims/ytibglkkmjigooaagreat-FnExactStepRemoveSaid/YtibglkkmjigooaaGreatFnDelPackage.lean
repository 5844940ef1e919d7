/- slices.Delete at []Package walked. -/
import Derived.Test.YtibglkkmjigooaaGreatAeX
import Derived.Deep.LoopGhost
import Derived.Deep.RegionLaw
import Derived.Lib.Walk
import Derived.WalkKit
import Derived.Lib.SliceRun
namespace Go.Proofs.YtibglkkmjigooaaGreat
open Go Go.RowKit
set_option linter.unusedVariables false
set_option linter.unusedSimpArgs false
set_option maxHeartbeats 4000000 in
set_option maxRecDepth 100000 in
theorem delPackage_del (b n c i : Nat) (cur : Array Value) (e : Nat) (w : World) (hi : i < n) (hnc : n ≤ c) (hc63 : c ≤ 9223372036854775807)
    (hb : w.heap[b]? = some (.cells cur e (0, 0))) (hsz : cur.size = c * 8)
    (h1 : ∀ v ∈ (cur.toList.drop ((i + 1) * 8)).take ((n - (i + 1)) * 8), v.oneCell' = true) :
    Calls Tryz.prog 47 #[.slice (some ⟨b, 0, none⟩) n c, .int .i64 i, .int .i64 ((i : Int) + 1)] w fun r w' =>
      r = .returned (.slice (some ⟨b, 0, none⟩) (n - 1) c) ∧ ∃ Z : List Value, Z.length = 8 ∧ w' = w.drew.setRow b (cur.toList.take (i * 8) ++ (cur.toList.drop ((i + 1) * 8)).take ((n - (i + 1)) * 8) ++ Z ++ cur.toList.drop (n * 8)).toArray := by
  have hinf := info_parts (show (Tryz.prog.info? 57).map (fun i => (i.zero, i.size, i.bytes)) = some (some (.agg #[.int .i64 0, .int .i64 0, .int .i64 0, .slice none 0 0, .slice none 0 0, .slice none 0 0, .slice none 0 0, .int .i64 0]), 8, 128) by kernel_rfl)
  obtain ⟨i0, hi0, hz0, hz1, hz2⟩ := hinf
  obtain ⟨j, hj⟩ : ∃ j, j = i + 1 := ⟨_, rfl⟩
  rw [show ((i : Int) + 1) = (j : Int) by omega]
  have hij : i ≤ j := by omega
  have hjn : j ≤ n := by omega
  have hne : ¬ (i = j) := by omega
  obtain ⟨news, hnews⟩ : ∃ news, news = (cur.toList.drop (j * 8)).take ((n - j) * 8) := ⟨_, rfl⟩
  have hlen : news.length = (n - j) * 8 := by rw [hnews, List.length_take, List.length_drop, Array.length_toList, hsz]; omega
  obtain ⟨A, hA, hsrc⟩ : ∃ A : Addr, (if c = j then (some (⟨b, 0, none⟩ : Addr)) else some ⟨b, j * 8, none⟩) = some A ∧ Hid (∀ t u, news[t]? = some u → w.drew.cell? (A.add t) = some u) := by
    by_cases h : c = j
    · refine ⟨⟨b, 0, none⟩, by simp [h], fun t u hu => ?_⟩
      have h0 : news.length = 0 := by rw [hlen]; omega
      rw [List.length_eq_zero_iff.1 h0] at hu
      simp at hu
    · refine ⟨⟨b, j * 8, none⟩, by simp [h], fun t u hu => ?_⟩
      rw [hnews, List.getElem?_take] at hu
      split at hu
      · rw [List.getElem?_drop] at hu
        rw [add_off, cell_of_row w.drew _ _ cur e (0, 0) hb]; simpa using hu
      · cases hu
  have s1 : Hid (news.length = (n - j) * 8) := hlen
  have s2 : Hid (∀ u ∈ news, u.oneCell' = true) := by rw [hnews, hj]; exact h1
  have s3 : Hid (∀ t, t < news.length → (w.drew.cell? ⟨b, 0 + i * 8 + t, none⟩).isSome = true ∧ w.drew.frozen? ⟨b, 0 + i * 8 + t, none⟩ = false) := by
    intro t ht
    rw [hlen] at ht
    have hb' : w.drew.heap[b]? = some (.cells cur e (0, 0)) := hb
    refine ⟨?_, by simp [World.frozen?, hb']⟩
    rw [cell_of_row w.drew _ _ cur e (0, 0) hb', Array.getElem?_eq_getElem (by omega)]; rfl
  obtain ⟨W1, hW1⟩ : ∃ W1, W1 = w.drew.setCells b (0 + i * 8) news := ⟨_, rfl⟩
  have hW1r : W1 = w.drew.setRow b (cur.toList.take (i * 8) ++ news ++ cur.toList.drop (i * 8 + (n - j) * 8)).toArray := by
    rw [hW1, setCells_row (P := Tryz.prog) w.drew b (0 + i * 8) e cur news hb (by rw [hlen]; omega) s2, hlen, Nat.zero_add]
  obtain ⟨A1, hA1⟩ : ∃ A1 : Array Value, A1 = (cur.toList.take (i * 8) ++ news ++ cur.toList.drop (i * 8 + (n - j) * 8)).toArray := ⟨_, rfl⟩
  have hA1s : A1.size = c * 8 := by
    rw [hA1]; simp only [List.size_toArray, List.length_append, List.length_take, List.length_drop, Array.length_toList, hsz, hlen]; omega
  rw [← hA1] at hW1r
  have hg1 : W1.heap[b]? = some (.cells A1 e (0, 0)) := by rw [hW1r]; exact setRow_heap w.drew b cur A1 e (0, 0) hb
  have hZ8 : (Builtin.zeroCells (Value.agg #[.int .i64 0, .int .i64 0, .int .i64 0, .slice none 0 0, .slice none 0 0, .slice none 0 0, .slice none 0 0, .int .i64 0]).cells 1).toList = ([.int .i64 0, .int .i64 0, .int .i64 0, .slice none 0 0, .slice none 0 0, .slice none 0 0, .slice none 0 0, .int .i64 0] : List Value) := by kernel_rfl
  have hzv : ∀ w, (zeroValue 57).run Tryz.prog w = .ok (.agg #[.int .i64 0, .int .i64 0, .int .i64 0, .slice none 0 0, .slice none 0 0, .slice none 0 0, .slice none 0 0, .int .i64 0]) w := fun w => by simp [zeroValue, typeInfo, hi0, hz0]
  have hcl : ∀ ty, (Builtin.clear_ #[32] ty #[.slice (some ⟨b, (i + (n - j)) * 8, none⟩) (n - (i + (n - j))) (c - (i + (n - j)))]).run Tryz.prog W1 = .ok (.tuple #[]) (W1.setRow b (A1.toList.take ((i + (n - j)) * 8) ++ ([.int .i64 0, .int .i64 0, .int .i64 0, .slice none 0 0, .slice none 0 0, .slice none 0 0, .slice none 0 0, .int .i64 0] : List Value) ++ A1.toList.drop ((i + (n - j)) * 8 + 8)).toArray) := fun ty =>
    run_clear_one W1 _ _ ty _ Tryz.underlying32 hzv _ hZ8 (by intro v hv; simp only [List.mem_cons, List.not_mem_nil, or_false] at hv; rcases hv with rfl | rfl | rfl | rfl | rfl | rfl | rfl | rfl <;> rfl) b _ _ _ (by omega) A1 e hg1 (by simp only [List.length_cons, List.length_nil]; omega)
  have X : Aside (W1 = w.drew.setRow b A1) := hW1r
  have XA : Aside (A1 = (cur.toList.take (i * 8) ++ news ++ cur.toList.drop (i * 8 + (n - j) * 8)).toArray) := hA1
  have XN : Aside (news = (cur.toList.drop (j * 8)).take ((n - j) * 8)) := hnews
  have XJ : Aside (j = i + 1) := hj
  have XS : Aside (cur.size = c * 8) := hsz
  have hW : Hid (W1 = w.drew.setCells b (0 + i * 8) news) := hW1
  have hic : i ≤ c := by omega
  have hjc : j ≤ c := by omega
  have hin : i ≤ n := by omega
  have ns := Tryz.sizeOf57
  have nu := Tryz.underlying32
  have mixed : Tryz.prog.follows .mixedOrders = true := by kernel_rfl
  clear hW1 hW1r hg1 hA1 hA1s hnews hlen hj hsz h1 hb
  go_enter Tryz.func47, Tryz.ntmps47
  go_wp2_with fail
  go_region_law_o (refine step_append_room rfl (.tmp 22) (.tmp 25) 32 rfl 57 i0 8 Tryz.underlying32 hi0 hz1 b 0 i c (by simp [Act.eval, Act.put]) A (n - j) (c - j) news (by simp [Act.eval, Act.put]) s1.out hsrc.out s2.out (by omega) s3.out ?_; rw [← hW.out])
  go_wp2
  go_ret
  have hj := XJ.out
  have hsz := XS.out
  refine ⟨by rw [show n - 1 = i + (n - j) by omega]; rfl, ([.int .i64 0, .int .i64 0, .int .i64 0, .slice none 0 0, .slice none 0 0, .slice none 0 0, .slice none 0 0, .int .i64 0] : List Value), rfl, ?_⟩
  rw [X.out, setRow_setRow]
  have h := splice_del (i * 8) (j * 8) ((n - j) * 8) cur.toList ([.int .i64 0, .int .i64 0, .int .i64 0, .slice none 0 0, .slice none 0 0, .slice none 0 0, .slice none 0 0, .int .i64 0] : List Value) (by omega) (by rw [Array.length_toList]; omega) (by simp only [List.length_cons, List.length_nil]; omega) A1.toList (by rw [XA.out, XN.out])
  rw [show i * 8 + (n - j) * 8 = (i + (n - j)) * 8 by omega, show j * 8 + (n - j) * 8 = n * 8 by omega] at h
  rw [← hj]
  refine congrArg (fun l => w.drew.setRow b (List.toArray l)) (Eq.trans ?_ h)
  simp only [List.append_assoc, List.cons_append, List.nil_append, List.length_cons, List.length_nil]
theorem delPackage_raw : DelRaw Tryz.prog 47 8 := ⟨delPackage_del⟩
theorem delPackage_fok : FOK Tryz.prog 47 := ⟨Tryz.f47, Tryz.func47, by kernel_rfl, by kernel_rfl⟩
end Go.Proofs.YtibglkkmjigooaaGreat
