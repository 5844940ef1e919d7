/- A text of the proof. slices.Insert at []Stored walked. -/
import Derived.Test.YtlmmdpmmdmhacaaGreatKt40
import Derived.Test.YtlmmdpmmdmhacaaGreatKt32
namespace Go.Proofs.YtlmmdpmmdmhacaaGreat
open Go Go.ChangeShapes Go.WideShapes Go.ChangeAt Go.RowKit
set_option linter.unusedVariables false
set_option linter.unusedSimpArgs false
set_option maxRecDepth 100000
def zhc (b : GBrowser) (ext : Int) (i : Nat) : GBrowser := { b with Tabs := (b.Tabs.take i).map (fun t => zdw t ext) ++ b.Tabs.drop i, Packs := b.Packs.take (zai b ext).toNat ++ b.Packs.drop ((zai b ext).toNat + 1), Grants := b.Grants.filter (gBut ext), Rules := b.Rules.filter (rBut ext), Store := b.Store.filter (zms ext) }
def zgb (b : GBrowser) (ext : Int) : GBrowser := { b with Tabs := b.Tabs.map (fun t => zdw t ext), Packs := b.Packs.take (zai b ext).toNat ++ b.Packs.drop ((zai b ext).toNat + 1), Grants := b.Grants.filter (gBut ext), Rules := b.Rules.filter (rBut ext), Store := b.Store.filter (zms ext) }
theorem zzs (b : GBrowser) (ext : Int) : zhc b ext b.Tabs.length = zgb b ext := by
 unfold zhc zgb; rw [List.take_length, List.drop_length, List.append_nil]
theorem z00 {b : GBrowser} {ext : Int} {i : Nat} (h : i < b.Tabs.length) : ((zhc b ext i).Tabs.map GTab.d)[i]? = some (b.Tabs[i]).d := by
 have hl : ((b.Tabs.take i).map (fun t => zdw t ext)).length = i := by rw [List.length_map, List.length_take]; omega
 simp only [zhc, List.getElem?_map]
 rw [List.getElem?_append_right (by omega), hl, Nat.sub_self, List.getElem?_drop, Nat.add_zero, List.getElem?_eq_getElem h]; rfl
theorem z1d {b : GBrowser} {ext : Int} {i : Nat} (h : i < b.Tabs.length) : ((zhc b ext i).Tabs.map GTab.d).set i (zdw (b.Tabs[i]) ext).d = (zhc b ext (i + 1)).Tabs.map GTab.d := by
 have hl : ((b.Tabs.take i).map (fun t => zdw t ext)).length = i := by rw [List.length_map, List.length_take]; omega
 simp only [zhc]
 rw [← List.map_set, List.set_append_right _ _ (Nat.le_of_eq hl), hl, Nat.sub_self, List.take_add_one, List.getElem?_eq_getElem h, List.drop_eq_getElem_cons h, List.set_cons_zero]
 congr 1
 rw [List.map_append, List.append_assoc]; rfl
theorem z10 (b : GBrowser) (ext : Int) (i : Nat) (h : i ≤ b.Tabs.length) : (zhc b ext i).Tabs.length = b.Tabs.length := by
 simp only [zhc, List.length_append, List.length_map, List.length_take, List.length_drop]; omega
def zbs (b : GBrowser) (ext : Int) : GBrowser × Bool := if 0 ≤ zai b ext then (zgb b ext, true) else (b, false)
theorem z7d {b : GBrowser} {ext : Int} (h : ¬ 0 ≤ zai b ext) : zbs b ext = (b, false) := if_neg h
theorem zu5 {b : GBrowser} {ext : Int} (h : 0 ≤ zai b ext) : zbs b ext = (zgb b ext, true) := if_pos h
set_option maxHeartbeats 4000000 in
theorem zjb (b : GBrowser) (ext : Int) (cs : List C) (S : Store) (h : Rd S b.d cs) (hz : szL b.d ≤ 1048576) : EvA Tryz.prog 50 [.agg cs, .s (.int .i64 ext)] S (fun r S' => Ext S S' ∧ ∃ c1 c2 c3 c4 c5 c6, r = .tup [.agg [.int .i64 (zbs b ext).1.Key, c1, c2, c3, c4, c5, c6, .int .i64 (zbs b ext).1.Now], .s (.bool (zbs b ext).2)] ∧ Fr S.length S' (zbs b ext).1.d [.int .i64 (zbs b ext).1.Key, c1, c2, c3, c4, c5, c6, .int .i64 (zbs b ext).1.Now]) := by
 have hzs := hz
 simp only [GBrowser.d, szL, List.length_map] at hzs
 have hfg := List.length_filter_le (gBut ext) b.Grants
 have hfr := List.length_filter_le (rBut ext) b.Rules
 have hfs := List.length_filter_le (zms ext) b.Store
 have hB := h
 obtain ⟨b1, b2, b3, b4, b5, b6, rfl, t1, t2, t3, t4, t5, t6⟩ := GBrowser.inv h
 refine zac tok Tryz.func50 (by kernel_rfl) rfl ?_
 skip
 (conv => whnf)
 refine zab (zao b _ _ hB (by omega)) ?_; rintro _ S0 ⟨e0, c1, c2, c3, c4, c5, c6, rfl, f0⟩
 by_cases hp : ¬ 0 ≤ zai b ext
 ·rw [z7d hp]
  repeat' ((conv => whnf) <;> first
   | (refine zaa (zbc b ext _ _ (hB.ext e0)) ?_) | (show CondP _ _ _; refine cS ?_) | refine And.intro ?_ ?_)
  all_goals first
   | exact e0
   | exact ⟨_, _, _, _, _, _, rfl, f0⟩
   | (exfalso; simp_all; done)
   | (exfalso; omega)
 replace hp := Decidable.not_not.1 hp
 rw [zu5 hp]
 have hpl := (zj5 b ext).2
 obtain ⟨kn, hkn⟩ := Int.eq_ofNat_of_zero_le hp
 have hkt : (zai b ext).toNat = kn := by omega
 have hkl : kn < b.Packs.length := by omega
 have hdel := zof.frAt (o := 2) (xs := b.Packs.map GPackage.d) (i := kn) (by decide) zoh e0 f0 rfl rfl (by rw [List.length_map]; exact hkl)
 rw [← hkn] at hdel
 repeat' ((conv => whnf) <;> first
  | (refine zab hdel ?_; rintro _ SB ⟨hEB0, cB, rfl, J3⟩) | (refine zaa (zbc b ext _ _ (hB.ext e0)) ?_) | rw [zad (by omega)] | (show CondP _ _ _; refine cS ?_))
 all_goals try (exfalso; omega)
 rw [← List.map_take, ← List.map_drop, ← List.map_append] at J3
 have EB := hEB0
 have pg := t3.ext EB
 skip
 (conv => whnf)
 refine zab (zln b.Grants ext _ _ pg (by omega)) ?_; rintro _ S4 ⟨e4, d3, rfl, f4⟩
 have E4 := EB.trans e4
 have J4 := J3.setAt (o := 3) e4 f4 EB.len (by show 3 < 8; decide)
 have pr := t5.ext E4
 skip
 (conv => whnf)
 refine zab (zjx b.Rules ext _ _ pr (by omega)) ?_; rintro _ S5 ⟨e5, d5, rfl, f5⟩
 have E5 := E4.trans e5
 have J5 := J4.setAt (o := 5) e5 f5 E4.len (by show 5 < 8; decide)
 have ps := t6.ext E5
 skip
 (conv => whnf)
 refine zab (zi9 b.Store ext _ _ ps (by omega)) ?_; rintro _ S6 ⟨e6, d6, rfl, f6⟩
 have E6 := E5.trans e6
 have J6 : Fr S.length S6 (zhc b ext 0).d [.int .i64 b.Key, c1, cB, d3, c4, d5, d6, .int .i64 b.Now] := by
  have J := J5.setAt (o := 6) e6 f6 E5.len (by show 6 < 8; decide)
  simp only [zhc, GBrowser.d, hkt]
  exact J
 have pt := t1.ext E6
 repeat' ((conv => whnf) <;> first
  | refine rE fun hml => ?_)
 refine zag {q : Nat × Store // q.1 ≤ b.Tabs.length ∧ Ext S q.2 ∧ Fr S.length q.2 (zhc b ext q.1).d [.int .i64 b.Key, c1, cB, d3, c4, d5, d6, .int .i64 b.Now]} [8, 9, 43, 44, 45, 46, 47, 48, 49, 50, 51, 52, 53, 54, 55] (fun zb => [(43, .v (.s (.int .i64 zb.1.1)))]) (fun zb => zb.1.2) (fun zb => b.Tabs.length - zb.1.1) ⟨(0, _), Nat.zero_le _, ⟨E6, J6⟩⟩ okL rfl ?_
 rintro ⟨⟨i, Si⟩, hi, hP⟩; dsimp only
 replace hi : i ≤ b.Tabs.length := hi
 replace hP : Ext S Si ∧ Fr S.length Si (zhc b ext i).d [.int .i64 b.Key, c1, cB, d3, c4, d5, d6, .int .i64 b.Now] := hP
 obtain ⟨hE, hF⟩ := hP
 have hlen := z10 b ext i hi
 have ti := t1.ext hE
 have oi : Rd Si [.sl 6 ((zhc b ext i).Tabs.map GTab.d)] [c1] := hF.rdAt (o := 1) rfl rfl
 by_cases hlt : i < b.Tabs.length
 ·have hlt0 : 0 ≤ ((i : Nat) : Int) ∧ ((i : Nat) : Int).toNat < b.Tabs.length := ⟨by omega, by rw [Int.toNat_natCast]; exact hlt⟩
  have hlt1 : 0 ≤ ((i : Nat) : Int) ∧ ((i : Nat) : Int).toNat < (zhc b ext i).Tabs.length := by rw [hlen]; exact hlt0
  have hlt2 : 0 ≤ ((i : Nat) : Int) ∧ ((i : Nat) : Int).toNat < ((zhc b ext i).Tabs.map GTab.d).length := by rw [List.length_map]; exact hlt1
  obtain ⟨tcs, htr, htld⟩ := zd6 ti hlt0
  have htrR := htr
  obtain ⟨_, _, _, rfl, _, _, _⟩ := GTab.inv htr
  have hzt : szL (b.Tabs[((i : Nat) : Int).toNat]'hlt0.2).d ≤ szL.szLL (b.Tabs.map GTab.d) := zdf (f := GTab.d) (List.getElem_mem hlt0.2)
  repeat' ((conv => whnf) <;> first
   | (refine rI ti rf hlt0 ?_) | refine htld _ (by first | assumption | exact Ext.refl _) _ ?_ | (show CondP _ _ _; refine cS ?_) | refine zae 48 [.fl 0, .fl 1, .fl 2, .fl 3, .fl 4, .st 5 [0, 1, 2], .fl 6, .st 7 []] (by rfl) (by kernel_rfl) ?_)
  all_goals try (exfalso; omega)
  (conv => whnf)
  refine zab (zoi _ ext _ _ htrR (by omega)) ?_; rintro _ S7 ⟨e7, w1, w2, w3, rfl, f7⟩
  have J := hF.join e7 f7 hE.len
  have E7 := hE.trans e7
  have oj := oi.ext e7
  repeat' ((conv => whnf) <;> first
   | (refine rI oj rf hlt1 ?_) | rw [zad (by omega)] | (refine zq9 (q := 1) (ds := (zhc b ext i).d) (A := []) (B := (b.Tabs[i]).d) (Z := []) E7 J rfl rfl rfl hlt2 (by rw [List.nil_append, List.append_nil, Int.toNat_natCast]; exact z00 hlt) (by rfl) (by rfl) (by rfl) ?_; intro S8 e8 f8 l8) | refine And.intro ?_ ?_)
  all_goals try (exfalso; omega)
  refine ⟨⟨(i + 1, S8), by dsimp only; omega, e8, ?_⟩, ?_, rfl, by dsimp only; omega⟩
  ·dsimp only
   rw [List.nil_append, List.append_nil] at f8
   have f9 : Fr S.length S8 ((zhc b ext i).d.set 1 (.sl 6 (((zhc b ext i).Tabs.map GTab.d).set i (zdw (b.Tabs[i]) ext).d))) [.int .i64 b.Key, c1, cB, d3, c4, d5, d6, .int .i64 b.Now] := f8
   rw [z1d hlt] at f9
   exact f9
  ·(conv => whnf); repeat' (first | exact trivial | exact rfl | apply And.intro)
 ·have hie : i = b.Tabs.length := by omega
  subst hie
  rw [zzs] at hF
  repeat' ((conv => whnf) <;> first
   | (show CondP _ _ _; refine cS ?_) | refine And.intro ?_ ?_)
  all_goals first
   | exact hE
   | exact ⟨_, _, _, _, _, _, rfl, hF⟩
   | (exfalso; omega)
end Go.Proofs.YtlmmdpmmdmhacaaGreat
namespace Go.Proofs.YtlmmdpmmdmhacaaGreat
open Go Go.RowKit
set_option linter.unusedVariables false
set_option linter.unusedSimpArgs false
set_option maxHeartbeats 4000000 in
set_option maxRecDepth 100000 in
theorem zno (b n c i vb vc : Nat) (cur vcur : Array Value) (e e' : Nat) (w : World) (hi : i < n) (hroom : n + 1 ≤ c) (hc63 : c ≤ 9223372036854775807) (hvb : vb ≠ b)
 (hb : w.heap[b]? = some (.cells cur e (0, 0))) (hsz : cur.size = c * 4) (hv : w.heap[vb]? = some (.cells vcur e' (0, 0))) (hvs : 4 ≤ vcur.size)
 (h1 : ∀ v ∈ (cur.toList.drop (i * 4)).take ((n - i) * 4), v.oneCell' = true) (h1v : ∀ v ∈ vcur.toList.take 4, v.oneCell' = true) :
 Calls Tryz.prog 265 #[.slice (some ⟨b, 0, none⟩) n c, .int .i64 i, .slice (some ⟨vb, 0, none⟩) 1 vc] w fun r w' =>
  r = .returned (.slice (some ⟨b, 0, none⟩) (n + 1) c) ∧ w' = w.drew.setRow b (cur.toList.take (i * 4) ++ vcur.toList.take 4 ++ (cur.toList.drop (i * 4)).take ((n - i) * 4) ++ cur.toList.drop (i * 4 + 4 + (n - i) * 4)).toArray := by
 have hz2 : ¬ ((i : Int) = (n : Int)) := by omega
 have hz3 : ¬ ((c : Int) < (n : Int) + 1) := by omega
 have hinf : (Tryz.prog.info? 124).map (·.size) = some 4 := by kernel_rfl
 have hin : i ≤ n := by omega
 have hdl : ((cur.toList.drop (i * 4)).take ((n - i) * 4)).length = (n - i) * 4 := by
  rw [List.length_take, List.length_drop, Array.length_toList, hsz]; omega
 have hvl : (vcur.toList.take 4).length = 4 := by rw [List.length_take, Array.length_toList]; omega
 have hov : ∀ lb cb, (callFunc 323 #[.slice (some ⟨vb, 0, none⟩) 1 vc, .slice (some ⟨b, (i + 1) * 4, none⟩) lb cb]).run Tryz.prog w = .ok (.value (.bool false)) w := fun lb cb => by
  rw [run_callFunc_extern Tryz.func323 (by kernel_rfl) (by kernel_rfl) (by kernel_rfl) (e := Extern.SlicesOverlaps.overlaps #[29, 29] #[4]) (by kernel_rfl),
   Lib.run_overlaps_apart w 29 4 124 Tryz.underlying29 4 Tryz.sizeOf124 ⟨vb, 0, none⟩ ⟨b, (i + 1) * 4, none⟩ 1 vc lb cb hvb e' e vcur.size cur.size (by simp [World.shape?, hv]) (by simp [World.shape?, hb]) (by omega) (by simp [World.frozen?, hv]) (by simp [World.frozen?, hv])]
  rfl
 obtain ⟨A1, hA1⟩ : ∃ A1 : Array Value, A1 = (cur.toList.take (i * 4 + 4) ++ (cur.toList.drop (i * 4)).take ((n - i) * 4) ++ cur.toList.drop (i * 4 + 4 + (n - i) * 4)).toArray := ⟨_, rfl⟩
 have hcp1 : ∀ ty dc sc, (Builtin.copy_ #[29, 29] ty #[.slice (some ⟨b, (i + 1) * 4, none⟩) (n + 1 - (i + 1)) dc, .slice (some ⟨b, i * 4, none⟩) (n + 1 - i) sc]).run Tryz.prog w.drew = .ok (goInt (Nat.min (n + 1 - i) (n + 1 - (i + 1)))) (w.drew.setRow b A1) := fun ty dc sc => by
  have h := zbo w.drew 29 29 ty 124 4 b ((i + 1) * 4) (n + 1 - (i + 1)) dc ⟨b, i * 4, none⟩ (n + 1 - i) sc cur e _ Tryz.underlying29 hinf hb ?_ (fun j v hj => ?_) ?_ h1
  ·rw [hdl] at h
   rw [hA1, show i * 4 + 4 = (i + 1) * 4 by omega]
   exact h
  ·rw [hdl, show Nat.min (n + 1 - i) (n + 1 - (i + 1)) = n - i by simp only [Nat.min_def]; split <;> omega]
  ·rw [zcl, cell_of_row w.drew _ _ cur e (0, 0) hb]
   rw [List.getElem?_take] at hj
   split at hj
   ·rw [List.getElem?_drop] at hj; simpa using hj
   ·cases hj
  ·rw [hdl, hsz]; omega
 have hA1s : A1.size = c * 4 := by
  rw [hA1]; simp only [List.size_toArray, List.length_append, List.length_take, List.length_drop, Array.length_toList, hsz]; omega
 have hb1 : (w.drew.setRow b A1).heap[b]? = some (.cells A1 e (0, 0)) := setRow_heap w.drew b cur A1 e (0, 0) hb
 have hend : (w.drew.setRow b A1).setRow b (A1.toList.take (i * 4) ++ (vcur.toList.take 4 ++ A1.toList.drop (i * 4 + 4))).toArray = w.drew.setRow b (cur.toList.take (i * 4) ++ vcur.toList.take 4 ++ (cur.toList.drop (i * 4)).take ((n - i) * 4) ++ cur.toList.drop (i * 4 + 4 + (n - i) * 4)).toArray := by
  rw [setRow_setRow, zig 4 (i * 4) ((n - i) * 4) cur.toList (vcur.toList.take 4) (by rw [Array.length_toList, hsz]; omega) A1.toList (by rw [hA1])]
 have hcp2 : ∀ (W : World), W.heap = (w.drew.setRow b A1).heap → ∀ ty dc, (Builtin.copy_ #[29, 29] ty #[.slice (some ⟨b, i * 4, none⟩) (n + 1 - i) dc, .slice (some ⟨vb, 0, none⟩) 1 vc]).run Tryz.prog W = .ok (goInt (Nat.min 1 (n + 1 - i))) (W.setRow b (A1.toList.take (i * 4) ++ (vcur.toList.take 4 ++ A1.toList.drop (i * 4 + 4))).toArray) := fun W hW ty dc => by
  have h := zbo W 29 29 ty 124 4 b (i * 4) (n + 1 - i) dc ⟨vb, 0, none⟩ 1 vc A1 e (vcur.toList.take 4) Tryz.underlying29 hinf (by rw [hW]; exact hb1) ?_ (fun j v hj => ?_) ?_ h1v
  ·rw [hvl] at h
   rw [← List.append_assoc]
   exact h
  ·rw [hvl, show Nat.min 1 (n + 1 - i) = 1 by simp only [Nat.min_def]; split <;> omega]
  ·have hvW : W.heap[vb]? = some (.cells vcur e' (0, 0)) := by rw [hW, setRow_other w.drew _ _ _ hvb]; exact hv
   rw [zcl, cell_of_row W _ _ vcur e' (0, 0) hvW]
   rw [List.getElem?_take] at hj
   split at hj
   ·simpa using hj
   ·cases hj
  ·rw [hvl, hA1s]; omega
 have hw1 : IntKind.i64.wrap ((i : Int) + 1) = (i : Int) + 1 := by rw [IntKind.wrap_i64]; omega
 have hw2 : IntKind.i64.wrap ((n : Int) + 1) = (n : Int) + 1 := by rw [IntKind.wrap_i64]; omega
 have hb1' : (0 : Int) ≤ (i : Int) + 1 := by omega
 have htn : ((i : Int) + 1).toNat = i + 1 := by omega
 have hb2 : ¬ (c = i + 1) := by omega
 have hb3 : (i : Int) ≤ (n : Int) + 1 := by omega
 have hb4 : ¬ (c = i) := by omega
 have ns := Tryz.sizeOf124
 have nu := Tryz.underlying29
 have mixed : Tryz.prog.follows .mixedOrders = true := by kernel_rfl
 clear hA1 hdl hvl hsz hA1s hb1
 rw [← hend]
 clear hend
 go_enter Tryz.func265, Tryz.ntmps265
 go_wp2_with (simp only [hov])
 go_region_law_o (refine zx6 rfl _ _ 29 29 rfl (.slice (some ⟨b, (i + 1) * 4, none⟩) (n + 1 - (i + 1)) (c - (i + 1))) (.slice (some ⟨b, i * 4, none⟩) (n + 1 - i) (c - i)) (by simp [Act.eval, Act.put]) (by simp [Act.eval, Act.put]) (hcp1 _ _ _) ?_)
 go_wp2_with (refine wpc rfl _ _ 29 29 rfl _ _ rfl rfl (hcp2 _ rfl _ _) ?_)
 go_ret
 exact ⟨rfl, rfl⟩
set_option maxHeartbeats 4000000 in
set_option maxRecDepth 100000 in
theorem zon (b n c i vb vc : Nat) (cur vcur : Array Value) (e e' : Nat) (w : World) (hi : i < n) (hnc : n ≤ c) (hroom : c < n + 1) (hbig : (n + 1) * 32 ≤ 140737488355328) (hvb : vb ≠ b)
 (hb : w.heap[b]? = some (.cells cur e (0, 0))) (hsz : cur.size = c * 4) (hv : w.heap[vb]? = some (.cells vcur e' (0, 0))) (hvs : 4 ≤ vcur.size)
 (h1 : ∀ v ∈ (cur.toList.drop (i * 4)).take ((n - i) * 4), v.oneCell' = true) (h1v : ∀ v ∈ vcur.toList.take 4, v.oneCell' = true) :
 Calls Tryz.prog 265 #[.slice (some ⟨b, 0, none⟩) n c, .int .i64 i, .slice (some ⟨vb, 0, none⟩) 1 vc] w fun r w' =>
  r = .returned (.slice (some ⟨w.heap.size, 0, none⟩) (n + 1) (grownCap w (n + 1) c 124)) ∧ n + 1 ≤ grownCap w (n + 1) c 124 ∧
  ∃ Z : List Value, Z.length = (grownCap w (n + 1) c 124 - (n + 1)) * 4 ∧ w'.heap = (w.alloc (.cells (cur.toList.take (i * 4) ++ vcur.toList.take 4 ++ (cur.toList.drop (i * 4)).take ((n - i) * 4) ++ Z).toArray 124)).heap ∧ w'.os = w.os ∧ w'.tape = w.tape ∧ w'.output = w.output := by
 have hz2 : ¬ ((i : Int) = (n : Int)) := by omega
 have hz3 : (c : Int) < (n : Int) + 1 := by omega
 obtain ⟨i0, hi0, hz0, hzs, hzb⟩ := info_parts (show (Tryz.prog.info? 124).map (fun i => (i.zero, i.size, i.bytes)) = some (some (.agg #[.int .i64 0, .int .i64 0, .int .i64 0, .int .i64 0]), 4, 32) by kernel_rfl)
 have hinf : (Tryz.prog.info? 124).map (·.size) = some 4 := by kernel_rfl
 have hin : i ≤ n := by omega
 have hbw : b < w.heap.size := (Array.getElem?_eq_some_iff.1 hb).1
 have hvw : vb < w.heap.size := (Array.getElem?_eq_some_iff.1 hv).1
 have hdl : ((cur.toList.drop (i * 4)).take ((n - i) * 4)).length = (n - i) * 4 := by
  rw [List.length_take, List.length_drop, Array.length_toList, hsz]; omega
 have hvl : (vcur.toList.take 4).length = 4 := by rw [List.length_take, Array.length_toList]; omega
 have hkk : (n : Int) + 1 - (i : Int) = ((n + 1 - i : Nat) : Int) := by omega
 have hik : i + (n + 1 - i) = n + 1 := by omega
 have hold : (Builtin.firstCells i0.size i (.slice (some ⟨b, 0, none⟩) i c)).run Tryz.prog w.drew = .ok (cur.toList.take (i * 4)).toArray w.drew := by
  rw [hzs]
  exact run_firstCells_some w.drew 4 i ⟨b, 0, none⟩ i c (cur.toList.take (i * 4)) (by rw [List.length_take, Array.length_toList, hsz]; omega) (fun j v hj => by
   rw [zcl, cell_of_row w.drew _ _ cur e (0, 0) hb]
   rw [List.getElem?_take] at hj
   split at hj
   ·simpa using hj
   ·cases hj)
 obtain ⟨G, hG⟩ : ∃ G, G = grownCap w (n + 1) c 124 := ⟨_, rfl⟩
 obtain ⟨Z0, hZ0⟩ : ∃ Z0 : Array Value, Z0 = Builtin.zeroCells (Value.agg #[.int .i64 0, .int .i64 0, .int .i64 0, .int .i64 0]).cells (n + 1 - i) ++ Builtin.zeroCells (Value.agg #[.int .i64 0, .int .i64 0, .int .i64 0, .int .i64 0]).cells (G - (n + 1)) := ⟨_, rfl⟩
 obtain ⟨ROW, hROW⟩ : ∃ ROW : Array Value, ROW = (cur.toList.take (i * 4) ++ Z0.toList).toArray := ⟨_, rfl⟩
 have hrz : ∀ ty, (Builtin.append_ #[29, 3] ty #[.slice (some ⟨b, 0, none⟩) i c, .int .i64 ((n : Int) + 1 - (i : Int))]).run Tryz.prog w =
  .ok (.slice (some ⟨w.heap.size, 0, none⟩) (n + 1) G) (w.drew.alloc (.cells ROW 124)) := fun ty => by
  have h := Lib.run_append_grow_zeros (P := Tryz.prog) w 29 3 ty 124 i0 _ .i64 .i64 Tryz.underlying29 Tryz.underlying3 hi0 hz0 (some ⟨b, 0, none⟩) i c (cur.toList.take (i * 4)) hold (n + 1 - i) (by omega) (by omega) (by omega) (by omega) (by rw [hzb]; omega) (by rw [hzb, hik]; exact growslice_fits hroom hbig)
  rw [hik, ← hG] at h
  rw [hkk, hROW, hZ0]
  have e1 : (cur.toList.take (i * 4) ++ (Builtin.zeroCells (Value.agg #[.int .i64 0, .int .i64 0, .int .i64 0, .int .i64 0]).cells (n + 1 - i) ++ Builtin.zeroCells (Value.agg #[.int .i64 0, .int .i64 0, .int .i64 0, .int .i64 0]).cells (G - (n + 1))).toList).toArray = (cur.toList.take (i * 4)).toArray ++ Builtin.zeroCells (Value.agg #[.int .i64 0, .int .i64 0, .int .i64 0, .int .i64 0]).cells (n + 1 - i) ++ Builtin.zeroCells (Value.agg #[.int .i64 0, .int .i64 0, .int .i64 0, .int .i64 0]).cells (G - (n + 1)) := by
   apply Array.toList_inj.1; simp
  rw [e1]
  exact h
 have hGn : n + 1 ≤ G := by rw [hG]; exact grownCap_ge w _ _ _
 have hG63 : G ≤ 9223372036854775807 := by
  have := grownCap_le_maxLen w (n + 1) c 124 (by unfold maxLen; omega)
  rw [← hG] at this
  unfold maxLen at this
  omega
 have hZl : Z0.toList.length = 4 + (n - i) * 4 + (G - (n + 1)) * 4 := by
  rw [hZ0, Array.length_toList, Array.size_append, size_zeroCells, size_zeroCells]
  show (n + 1 - i) * 4 + (G - (n + 1)) * 4 = _
  omega
 have hROWs : ROW.size = G * 4 := by
  rw [hROW, List.size_toArray, List.length_append, hZl, List.length_take, Array.length_toList, hsz]; omega
 obtain ⟨W1, hW1⟩ : ∃ W1, W1 = w.drew.alloc (.cells ROW 124) := ⟨_, rfl⟩
 rw [← hW1] at hrz
 have hN1 : W1.heap[w.heap.size]? = some (.cells ROW 124 (0, 0)) := by rw [hW1]; exact Go.heap_alloc_new w.drew _
 have hO1 : ∀ x, x < w.heap.size → W1.heap[x]? = w.heap[x]? := fun x hx => by rw [hW1]; exact Go.heap_alloc_old w.drew _ hx
 have hbN : b ≠ w.heap.size := by omega
 have hvN : vb ≠ w.heap.size := by omega
 obtain ⟨B1, hB1⟩ : ∃ B1 : Array Value, B1 = (ROW.toList.take (i * 4) ++ (vcur.toList.take 4 ++ ROW.toList.drop (i * 4 + 4))).toArray := ⟨_, rfl⟩
 have hB1s : B1.size = G * 4 := by
  rw [hB1]; simp only [List.size_toArray, List.length_append, List.length_drop, List.length_take, Array.length_toList, hROWs]; omega
 have hcpA : ∀ (W : World), W.heap = W1.heap → ∀ ty dc, (Builtin.copy_ #[29, 29] ty #[.slice (some ⟨w.heap.size, i * 4, none⟩) (n + 1 - i) dc, .slice (some ⟨vb, 0, none⟩) 1 vc]).run Tryz.prog W = .ok (goInt (Nat.min 1 (n + 1 - i))) (W.setRow w.heap.size B1) := fun W hW ty dc => by
  have h := zbo W 29 29 ty 124 4 w.heap.size (i * 4) (n + 1 - i) dc ⟨vb, 0, none⟩ 1 vc ROW 124 (vcur.toList.take 4) Tryz.underlying29 hinf (by rw [hW]; exact hN1) ?_ (fun j v hj => ?_) ?_ h1v
  ·rw [hvl] at h
   rw [hB1, ← List.append_assoc]
   exact h
  ·rw [hvl, show Nat.min 1 (n + 1 - i) = 1 by simp only [Nat.min_def]; split <;> omega]
  ·have hvW : W.heap[vb]? = some (.cells vcur e' (0, 0)) := by rw [hW, hO1 _ hvw]; exact hv
   rw [zcl, cell_of_row W _ _ vcur e' (0, 0) hvW]
   rw [List.getElem?_take] at hj
   split at hj
   ·simpa using hj
   ·cases hj
  ·rw [hvl, hROWs]; omega
 have hcpB : ∀ (W : World), W.heap = (W1.setRow w.heap.size B1).heap → ∀ ty dc sc, (Builtin.copy_ #[29, 29] ty #[.slice (some ⟨w.heap.size, (i + 1) * 4, none⟩) (n + 1 - (i + 1)) dc, .slice (some ⟨b, i * 4, none⟩) (n - i) sc]).run Tryz.prog W = .ok (goInt (Nat.min (n - i) (n + 1 - (i + 1)))) (W.setRow w.heap.size (B1.toList.take (i * 4 + 4) ++ ((cur.toList.drop (i * 4)).take ((n - i) * 4) ++ B1.toList.drop (i * 4 + 4 + (n - i) * 4))).toArray) := fun W hW ty dc sc => by
  have h := zbo W 29 29 ty 124 4 w.heap.size ((i + 1) * 4) (n + 1 - (i + 1)) dc ⟨b, i * 4, none⟩ (n - i) sc B1 124 ((cur.toList.drop (i * 4)).take ((n - i) * 4)) Tryz.underlying29 hinf (by rw [hW]; exact setRow_heap W1 _ ROW B1 124 (0, 0) hN1) ?_ (fun j v hj => ?_) ?_ h1
  ·rw [hdl] at h
   rw [← List.append_assoc, show i * 4 + 4 = (i + 1) * 4 by omega]
   exact h
  ·rw [hdl, show Nat.min (n - i) (n + 1 - (i + 1)) = n - i by simp only [Nat.min_def]; split <;> omega]
  ·have hbW : W.heap[b]? = some (.cells cur e (0, 0)) := by rw [hW, setRow_other W1 _ _ _ hbN, hO1 _ hbw]; exact hb
   rw [zcl, cell_of_row W _ _ cur e (0, 0) hbW]
   rw [List.getElem?_take] at hj
   split at hj
   ·rw [List.getElem?_drop] at hj; simpa using hj
   ·cases hj
  ·rw [hdl, hB1s]; omega
 have hfin : (B1.toList.take (i * 4 + 4) ++ ((cur.toList.drop (i * 4)).take ((n - i) * 4) ++ B1.toList.drop (i * 4 + 4 + (n - i) * 4))) = cur.toList.take (i * 4) ++ vcur.toList.take 4 ++ (cur.toList.drop (i * 4)).take ((n - i) * 4) ++ Z0.toList.drop (4 + (n - i) * 4) :=
  zji 4 (i * 4) ((n - i) * 4) ((G - (n + 1)) * 4) cur.toList (vcur.toList.take 4) Z0.toList (by rw [Array.length_toList, hsz]; omega) hvl hZl ROW.toList (by rw [hROW]) B1.toList (by rw [hB1])
 have hZd : (Z0.toList.drop (4 + (n - i) * 4)).length = (G - (n + 1)) * 4 := by rw [List.length_drop, hZl]; omega
 have hw1 : IntKind.i64.wrap ((i : Int) + 1) = (i : Int) + 1 := by rw [IntKind.wrap_i64]; omega
 have hw2 : IntKind.i64.wrap ((n : Int) + 1) = (n : Int) + 1 := by rw [IntKind.wrap_i64]; omega
 have hw3 : IntKind.i64.wrap ((n : Int) + 1 - (i : Int)) = (n : Int) + 1 - (i : Int) := by rw [IntKind.wrap_i64]; omega
 have hb1' : (0 : Int) ≤ (i : Int) + 1 := by omega
 have htn : ((i : Int) + 1).toNat = i + 1 := by omega
 have hGi : ¬ (G = i) := by omega
 have hGim : ¬ (G = i + 1) := by omega
 have hci : ¬ (c = i) := by omega
 have hb3 : (i : Int) ≤ (n : Int) := by omega
 have hb3' : (i : Int) ≤ (n : Int) + 1 := by omega
 have hGn1 : (n : Int) + 1 ≤ (G : Int) := by omega
 have ns := Tryz.sizeOf124
 have nu := Tryz.underlying29
 have mixed : Tryz.prog.follows .mixedOrders = true := by kernel_rfl
 rw [← hG]
 subst hW1
 clear hkk hik hold hROW hG hROWs hB1s hB1 hZ0 hZl hdl hvl hsz hi0 hz0 hzs hzb
 go_enter Tryz.func265, Tryz.ntmps265
 go_wp2_with (first
  | (at_builtin; refine Lib.wpList_append_run _ rfl _ _ _ _ rfl _ _ rfl rfl _ _ (hrz _) ?_)
  | (refine wpc rfl _ _ 29 29 rfl _ _ rfl rfl (hcpA _ (by rfl) _ _) ?_)
  | (refine wpc rfl _ _ 29 29 rfl _ _ rfl rfl (hcpB _ (by rfl) _ _ _) ?_))
 go_region_law_o (refine zx6 rfl _ _ 29 29 rfl (.slice (some ⟨w.heap.size, (i + 1) * 4, none⟩) (n + 1 - (i + 1)) (G - (i + 1))) (.slice (some ⟨b, i * 4, none⟩) (n - i) (c - i)) (by simp [Act.eval, Act.put]) (by simp [Act.eval, Act.put]) (hcpB _ (by rfl) 3 (G - (i + 1)) (c - i)) ?_)
 go_wp2
 go_ret
 refine ⟨rfl, hGn, Z0.toList.drop (4 + (n - i) * 4), hZd, ?_, rfl, rfl, rfl⟩
 rw [zrt]
 simp only [List.append_assoc]
theorem zqc : InsRaw Tryz.prog 265 4 32 124 := ⟨zno, zon⟩
theorem zqt : FOK Tryz.prog 265 := ⟨Tryz.f265, Tryz.func265, by kernel_rfl, by kernel_rfl⟩
end Go.Proofs.YtlmmdpmmdmhacaaGreat
