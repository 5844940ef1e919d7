/- A text of the proof. A text of the proof. -/
import Derived.Test.YtlmmdpmmdmhacaaGreatKm43
import Derived.Test.YtlmmdpmmdmhacaaGreatKm35
import Derived.Deep.LoopGhost
import Derived.Deep.RegionLaw
import Derived.Lib.Walk
import Derived.WalkKit
import Derived.Lib.SliceRun
import Derived.Test.YtlmmdpmmdmhacaaGreatKm37
import Derived.Test.YtlmmdpmmdmhacaaGreatKm38
import Derived.Test.YtlmmdpmmdmhacaaGreatKm42
import Derived.Test.YtlmmdpmmdmhacaaGreatKm28
import Derived.Test.YtlmmdpmmdmhacaaGreatKm29
import Derived.Test.YtlmmdpmmdmhacaaGreatKm34
import Derived.Test.YtlmmdpmmdmhacaaGreatKm36
import Derived.Test.YtlmmdpmmdmhacaaGreatKm39
namespace Go.Proofs.YtlmmdpmmdmhacaaGreat
open Go Go.ChangeShapes Go.WideShapes Go.ChangeAt Go.RowKit
set_option linter.unusedVariables false
set_option linter.unusedSimpArgs false
set_option maxRecDepth 100000
def remAt (b : GBrowser) (ext : Int) (i : Nat) : GBrowser := { b with Tabs := (b.Tabs.take i).map (fun t => tabWithout t ext) ++ b.Tabs.drop i, Packs := b.Packs.take (packOf b ext).toNat ++ b.Packs.drop ((packOf b ext).toNat + 1), Grants := b.Grants.filter (gBut ext), Rules := b.Rules.filter (rBut ext), Store := b.Store.filter (stNot ext) }
def remTo (b : GBrowser) (ext : Int) : GBrowser := { b with Tabs := b.Tabs.map (fun t => tabWithout t ext), Packs := b.Packs.take (packOf b ext).toNat ++ b.Packs.drop ((packOf b ext).toNat + 1), Grants := b.Grants.filter (gBut ext), Rules := b.Rules.filter (rBut ext), Store := b.Store.filter (stNot ext) }
theorem remAt_all (b : GBrowser) (ext : Int) : remAt b ext b.Tabs.length = remTo b ext := by
  unfold remAt remTo; rw [List.take_length, List.drop_length, List.append_nil]
theorem remAt_tab {b : GBrowser} {ext : Int} {i : Nat} (h : i < b.Tabs.length) : ((remAt b ext i).Tabs.map GTab.d)[i]? = some (b.Tabs[i]).d := by
  have hl : ((b.Tabs.take i).map (fun t => tabWithout t ext)).length = i := by rw [List.length_map, List.length_take]; omega
  simp only [remAt, List.getElem?_map]
  rw [List.getElem?_append_right (by omega), hl, Nat.sub_self, List.getElem?_drop, Nat.add_zero, List.getElem?_eq_getElem h]; rfl
theorem remAt_set {b : GBrowser} {ext : Int} {i : Nat} (h : i < b.Tabs.length) : ((remAt b ext i).Tabs.map GTab.d).set i (tabWithout (b.Tabs[i]) ext).d = (remAt b ext (i + 1)).Tabs.map GTab.d := by
  have hl : ((b.Tabs.take i).map (fun t => tabWithout t ext)).length = i := by rw [List.length_map, List.length_take]; omega
  simp only [remAt]
  rw [← List.map_set, List.set_append_right _ _ (Nat.le_of_eq hl), hl, Nat.sub_self, List.take_add_one, List.getElem?_eq_getElem h, List.drop_eq_getElem_cons h, List.set_cons_zero]
  congr 1
  rw [List.map_append, List.append_assoc]; rfl
theorem remAt_len (b : GBrowser) (ext : Int) (i : Nat) (h : i ≤ b.Tabs.length) : (remAt b ext i).Tabs.length = b.Tabs.length := by
  simp only [remAt, List.length_append, List.length_map, List.length_take, List.length_drop]; omega
def stepRemove (b : GBrowser) (ext : Int) : GBrowser × Bool := if 0 ≤ packOf b ext then (remTo b ext, true) else (b, false)
theorem rem_no {b : GBrowser} {ext : Int} (h : ¬ 0 ≤ packOf b ext) : stepRemove b ext = (b, false) := if_neg h
theorem rem_yes {b : GBrowser} {ext : Int} (h : 0 ≤ packOf b ext) : stepRemove b ext = (remTo b ext, true) := if_pos h
def plx (rs : List (List C)) (k i : Nat) : List (List C) := (rs.take i).take k ++ (rs.take i).drop (k + 1)
theorem plx_ne {rs : List (List C)} {k i : Nat} {r : List C} (h : rs[i]? = some r) (hn : i ≠ k) : plx rs k i ++ [r] = plx rs k (i + 1) := by
  have hl : (rs.take i).length = i := by rw [List.length_take]; have := (List.getElem?_eq_some_iff.1 h).1; omega
  unfold plx
  rw [List.take_add_one, h]
  show _ = List.take k (rs.take i ++ [r]) ++ List.drop (k + 1) (rs.take i ++ [r])
  rw [List.take_append, List.drop_append, hl]
  rcases Nat.lt_or_gt_of_ne hn with h1 | h1
  · rw [List.drop_of_length_le (by omega), show k - i = (k - i - 1) + 1 by omega, show k + 1 - i = (k - i) + 1 by omega]; simp
  · rw [show k - i = 0 by omega, show k + 1 - i = 0 by omega]; simp
theorem plx_eq {rs : List (List C)} {k : Nat} {r : List C} (h : rs[k]? = some r) : plx rs k k = plx rs k (k + 1) := by
  have hl : (rs.take k).length = k := by rw [List.length_take]; have := (List.getElem?_eq_some_iff.1 h).1; omega
  unfold plx
  rw [List.take_add_one, h]
  show _ = List.take k (rs.take k ++ [r]) ++ List.drop (k + 1) (rs.take k ++ [r])
  rw [List.take_append, List.drop_append, hl, List.drop_of_length_le (by omega)]; simp
theorem plx_len (rs : List (List C)) (k i : Nat) : (plx rs k i).length ≤ rs.length := by
  unfold plx; simp only [List.length_append, List.length_take, List.length_drop]; omega
theorem plx_start {S : Store} (rs : List (List C)) (k : Nat) : Fr S.length (S ++ [⟨true, 8, []⟩]) [.sl 8 ((plx rs k 0).map (List.map D.x))] [.sl S.length 0 0 0] := by
  rw [show plx rs k 0 = [] by simp [plx]]; exact fr_lit0
theorem rem_rep {S : Store} {l : List GPackage} {rs rows : List (List C)} {js jy : List Nat} {k : Nat} (hk : k < l.length) (he : rows = rs) (h : Rep2 true S (l.map GPackage.d) rows js) (hn : (js ++ jy).Nodup) :
    ∃ js', Rep2 true S ((l.take k ++ l.drop (k + 1)).map GPackage.d) (plx rs k rs.length) js' ∧ js'.Nodup ∧ ∀ x ∈ js', x ∈ js ∨ x ∈ jy := by
  subst he
  have hpl : plx rows k rows.length = rows.take k ++ rows.drop (k + 1) := by unfold plx; rw [List.take_length]
  rw [hpl]
  rw [show l.map GPackage.d = (l.take k).map GPackage.d ++ (((l.drop k).take 1).map GPackage.d ++ (l.drop (k + 1)).map GPackage.d) by rw [← List.map_append, ← List.map_append, ← List.drop_drop, List.take_append_drop, List.take_append_drop]] at h
  obtain ⟨r1, r2, j1, j2, g1, g2, g3, g4⟩ := h.split
  obtain ⟨r3, r4, j3, j4, k1, k2, k3, k4⟩ := g4.split
  subst k1; subst k2
  have hr1 : r1.length = k := by rw [g3.len, List.length_map, List.length_take]; omega
  have hr3 : r3.length = 1 := by rw [k3.len, List.length_map, List.length_take, List.length_drop]; omega
  have t1 : rows.take k = r1 := by rw [g1]; exact List.take_left' hr1
  have t2 : rows.drop (k + 1) = r4 := by rw [g1, ← List.append_assoc]; exact List.drop_left' (by rw [List.length_append]; omega)
  rw [t1, t2]
  subst g2
  simp only [List.nodup_append, List.mem_append] at hn
  obtain ⟨⟨n1, ⟨n2, n3, n4⟩, n5⟩, n6, n7⟩ := hn
  refine ⟨j1 ++ j4, ?_, ?_, fun x hx => ?_⟩
  · rw [List.map_append]; exact g3.append k4
  · rw [List.nodup_append]; exact ⟨n1, n3, fun a ha b hb => n5 a ha b (.inr hb)⟩
  · simp only [List.mem_append] at hx ⊢
    rcases hx with hx | hx
    · exact .inl (.inl hx)
    · exact .inl (.inr (.inr hx))
set_option maxHeartbeats 4000000 in
theorem ev_sStepRemove (b : GBrowser) (ext : Int) (cs : List C) (S : Store) (h : Rd S b.d cs) (hz : szL b.d ≤ 1048576) : EvA Tryz.prog 273 [.agg cs, .s (.int .i64 ext)] S (fun r S' => Ext S S' ∧ ∃ c1 c2 c3 c4 c5 c6, r = .tup [.agg [.int .i64 (stepRemove b ext).1.Key, c1, c2, c3, c4, c5, c6, .int .i64 (stepRemove b ext).1.Now], .s (.bool (stepRemove b ext).2)] ∧ Fr S.length S' (stepRemove b ext).1.d [.int .i64 (stepRemove b ext).1.Key, c1, c2, c3, c4, c5, c6, .int .i64 (stepRemove b ext).1.Now]) := by
  have hzs := hz
  simp only [GBrowser.d, szL, List.length_map] at hzs
  have hfg := List.length_filter_le (gBut ext) b.Grants
  have hfr := List.length_filter_le (rBut ext) b.Rules
  have hfs := List.length_filter_le (stNot ext) b.Store
  have hB := h
  obtain ⟨b1, b2, b3, b4, b5, b6, rfl, t1, t2, t3, t4, t5, t6⟩ := GBrowser.inv h
  refine evA_intro tok Tryz.func273 (by kernel_rfl) rfl ?_
  skip
  (conv => whnf)
  refine callP_intro (ev_l32Copy b _ _ hB (by omega)) ?_; rintro _ S0 ⟨e0, c1, c2, c3, c4, c5, c6, rfl, f0⟩
  by_cases hp : ¬ 0 ≤ packOf b ext
  · rw [rem_no hp]
    repeat' ((conv => whnf) <;> first
     | (refine callP_eq (ev_sPackOf b ext _ _ (hB.ext e0)) ?_) | (show CondP _ _ _; refine cS ?_) | refine And.intro ?_ ?_)
    all_goals first
      | exact e0
      | exact ⟨_, _, _, _, _, _, rfl, f0⟩
      | (exfalso; simp_all; done)
      | (exfalso; omega)
  replace hp := Decidable.not_not.1 hp
  rw [rem_yes hp]
  have hpl := (packOf_lt b ext).2
  obtain ⟨kn, hkn⟩ := Int.eq_ofNat_of_zero_le hp
  have hkt : (packOf b ext).toNat = kn := by omega
  have hkl : kn < b.Packs.length := by omega
  have r2 : Rd S0 [.sl 8 (b.Packs.map GPackage.d)] [c2] := f0.rdAt (o := 2) rfl rfl
  obtain ⟨rs, hrl, hre, hr8, hrs⟩ := pk_rows r2
  repeat' ((conv => whnf) <;> first
   | (refine callP_eq (ev_sPackOf b ext _ _ (hB.ext e0)) ?_) | (show CondP _ _ _; refine cS ?_))
  all_goals try (exfalso; omega)
  refine loop_intro {q : Nat × Store × C // q.1 ≤ b.Packs.length ∧ Ext S0 q.2.1 ∧ Fr S0.length q.2.1 [.sl 8 ((plx rs kn q.1).map (List.map D.x))] [q.2.2]} [8, 9, 20, 21, 22, 23, 24, 25, 26, 27, 28, 29, 30, 31, 32, 33, 34, 35, 36, 37] (fun zb => [(9, .v (.s (.int .i64 (zb.1.1)))), (8, .v (.s zb.1.2.2))]) (fun zb => zb.1.2.1) (fun zb => b.Packs.length - zb.1.1) ⟨(0, _, _), Nat.zero_le _, ⟨Ext.push _ _, plx_start _ _⟩⟩ ?_ rfl ?_
  · (conv => whnf); repeat' (first | exact trivial | exact rfl | apply And.intro)
  rintro ⟨⟨i, Si, ci⟩, hi, hP⟩; dsimp only
  replace hi : i ≤ b.Packs.length := hi
  replace hP : Ext S0 Si ∧ Fr S0.length Si [.sl 8 ((plx rs kn i).map (List.map D.x))] [ci] := hP
  obtain ⟨hE, hF⟩ := hP
  have heI := elemsE hre hE
  have rdI := r2.ext hE
  have hpx := plx_len rs kn i
  by_cases hlt : i < b.Packs.length
  · obtain ⟨a1, a2, a3, a4, hri⟩ := hrs i hlt
    have hri' : rs[((i : Nat) : Int).toNat]? = some [.int .i64 (b.Packs[i]).Ext, .int .i64 (b.Packs[i]).Author, .int .i64 (b.Packs[i]).Version, a1, a2, a3, a4, .int .i64 (b.Packs[i]).Seal] := by rw [Int.toNat_natCast]; exact hri
    by_cases hik : i = kn
    · have hik2 : ((i : Nat) : Int) = packOf b ext := by omega
      repeat' ((conv => whnf) <;> first
       | rw [wrapI_i64 (by omega)] | (show CondP _ _ _; refine cS ?_) | refine rE fun hml => ?_)
      all_goals try (exfalso; omega)
      refine ⟨⟨(i + 1, Si, ci), by dsimp only; omega, hE, ?_⟩, ?_, rfl, by dsimp only; omega⟩
      · dsimp only; subst hik; rw [← plx_eq hri]; exact hF
      · (conv => whnf); repeat' (first | exact trivial | exact rfl | apply And.intro)
    · have hik2 : ¬ ((i : Nat) : Int) = packOf b ext := by omega
      repeat' ((conv => whnf) <;> first
       | (refine loadP_intro heI hri' om ?_) | rw [wrapI_i64 (by omega)] | (show CondP _ _ _; refine cS ?_) | refine rE fun hml => ?_ | refine rI rdA rf ix ?_ | (refine plain_app (rs := plx rs kn i) (ys := [[.int .i64 (b.Packs[i]).Ext, .int .i64 (b.Packs[i]).Author, .int .i64 (b.Packs[i]).Version, a1, a2, a3, a4, .int .i64 (b.Packs[i]).Seal]]) hE hF (by intro y hy; rw [List.mem_singleton.1 hy]; rfl) (by dsimp only [T58]; simp only [List.length_singleton]; omega) (by rw [maxLen_eq]; simp only [List.length_singleton]; omega) ?_; intro cN SN hEN hFN hlN))
      all_goals try (exfalso; omega)
      refine ⟨⟨(i + 1, SN, cN), by dsimp only; omega, hEN, ?_⟩, ?_, rfl, by dsimp only; omega⟩
      · dsimp only; rw [← plx_ne hri hik]; exact hFN
      · (conv => whnf); repeat' (first | exact trivial | exact rfl | apply And.intro)
  have hie : i = b.Packs.length := by omega
  subst hie
  rw [← hrl] at hF
  have hEB := hE
  have J2 : Fr S.length Si (b.d ++ (.sl 8 ((plx rs kn rs.length).map (List.map D.x)) :: [])) ([.int .i64 b.Key, c1, c2, c3, c4, c5, c6, .int .i64 b.Now] ++ (ci :: [])) := f0.join hE hF e0.len
  have J3 := J2.refit (o := 2) (xs := b.Packs.map GPackage.d) (xs' := (b.Packs.take kn ++ b.Packs.drop (kn + 1)).map GPackage.d) rfl rfl rfl (fun rows js jy h1 h2 h3 h4 => rem_rep hkl (by rw [heI] at h1; exact (Option.some.inj h1).symm) h2 h4)
  clear hF J2
  repeat' ((conv => whnf) <;> first
   | (show CondP _ _ _; refine cS ?_) | refine rE fun hml => ?_)
  all_goals try (exfalso; omega)
  have EB := e0.trans hEB
  have pg := t3.ext EB
  skip
  (conv => whnf)
  refine callP_intro (ev_l35Others b.Grants ext _ _ pg (by omega)) ?_; rintro _ S4 ⟨e4, d3, rfl, f4⟩
  have E4 := EB.trans e4
  have J4 := J3.setAt (o := 3) e4 f4 EB.len (by show 3 < 8; decide)
  have pr := t5.ext E4
  skip
  (conv => whnf)
  refine callP_intro (ev_sDropRules b.Rules ext _ _ pr (by omega)) ?_; rintro _ S5 ⟨e5, d5, rfl, f5⟩
  have E5 := E4.trans e5
  have J5 := J4.setAt (o := 5) e5 f5 E4.len (by show 5 < 8; decide)
  have ps := t6.ext E5
  skip
  (conv => whnf)
  refine callP_intro (ev_sDropStored b.Store ext _ _ ps (by omega)) ?_; rintro _ S6 ⟨e6, d6, rfl, f6⟩
  have E6 := E5.trans e6
  have J6 : Fr S.length S6 (remAt b ext 0).d [.int .i64 b.Key, c1, ci, d3, c4, d5, d6, .int .i64 b.Now] := by
    have J := J5.setAt (o := 6) e6 f6 E5.len (by show 6 < 8; decide)
    simp only [remAt, GBrowser.d, hkt]
    exact J
  have pt := t1.ext E6
  skip
  refine loop_intro {q : Nat × Store // q.1 ≤ b.Tabs.length ∧ Ext S q.2 ∧ Fr S.length q.2 (remAt b ext q.1).d [.int .i64 b.Key, c1, ci, d3, c4, d5, d6, .int .i64 b.Now]} [10, 55, 56, 57, 58, 59, 60, 61, 62, 63, 64, 65, 66, 67, 68, 69, 70, 71, 72] (fun zb => [(10, .v (.s (.int .i64 zb.1.1)))]) (fun zb => zb.1.2) (fun zb => b.Tabs.length - zb.1.1) ⟨(0, _), Nat.zero_le _, ⟨E6, J6⟩⟩ ?_ rfl ?_
  · (conv => whnf); repeat' (first | exact trivial | exact rfl | apply And.intro)
  rintro ⟨⟨i, Si⟩, hi, hP⟩; dsimp only
  replace hi : i ≤ b.Tabs.length := hi
  replace hP : Ext S Si ∧ Fr S.length Si (remAt b ext i).d [.int .i64 b.Key, c1, ci, d3, c4, d5, d6, .int .i64 b.Now] := hP
  obtain ⟨hE, hF⟩ := hP
  have hlen := remAt_len b ext i hi
  have ti := t1.ext hE
  have oi : Rd Si [.sl 6 ((remAt b ext i).Tabs.map GTab.d)] [c1] := hF.rdAt (o := 1) rfl rfl
  by_cases hlt : i < b.Tabs.length
  · have hlt0 : 0 ≤ ((i : Nat) : Int) ∧ ((i : Nat) : Int).toNat < b.Tabs.length := ⟨by omega, by rw [Int.toNat_natCast]; exact hlt⟩
    have hlt1 : 0 ≤ ((i : Nat) : Int) ∧ ((i : Nat) : Int).toNat < (remAt b ext i).Tabs.length := by rw [hlen]; exact hlt0
    have hlt2 : 0 ≤ ((i : Nat) : Int) ∧ ((i : Nat) : Int).toNat < ((remAt b ext i).Tabs.map GTab.d).length := by rw [List.length_map]; exact hlt1
    obtain ⟨tcs, htr, htld⟩ := rd_loadx ti hlt0
    have htrR := htr
    obtain ⟨_, _, _, rfl, _, _, _⟩ := GTab.inv htr
    have hzt : szL (b.Tabs[((i : Nat) : Int).toNat]'hlt0.2).d ≤ szL.szLL (b.Tabs.map GTab.d) := szLL_mem (f := GTab.d) (List.getElem_mem hlt0.2)
    repeat' ((conv => whnf) <;> first
     | (refine rd_lenm oi ?_; intro hml2; rw [hlen]) | (refine rI ti rf hlt0 ?_) | refine htld _ (by first | assumption | exact Ext.refl _) _ ?_ | (show CondP _ _ _; refine cS ?_) | refine draw_intro 62 [.fl 0, .fl 1, .fl 2, .fl 3, .fl 4, .fl 5, .fl 6, .fl 7, .fl 8, .st 9 [0, 1, 2], .fl 10, .st 11 []] (by rfl) (by kernel_rfl) ?_)
    all_goals try (exfalso; omega)
    (conv => whnf)
    refine callP_intro (ev_sTabWithout _ ext _ _ htrR (by omega)) ?_; rintro _ S7 ⟨e7, w1, w2, w3, rfl, f7⟩
    have J := hF.join e7 f7 hE.len
    have E7 := hE.trans e7
    have oj := oi.ext e7
    repeat' ((conv => whnf) <;> first
     | (refine rI oj rf hlt1 ?_) | rw [wrapI_i64 (by omega)] | (refine fr_stoMv (q := 1) (ds := (remAt b ext i).d) (A := []) (B := (b.Tabs[i]).d) (Z := []) E7 J rfl rfl rfl hlt2 (by rw [List.nil_append, List.append_nil, Int.toNat_natCast]; exact remAt_tab hlt) (by rfl) (by rfl) (by rfl) ?_; intro S8 e8 f8 l8) | refine And.intro ?_ ?_)
    all_goals try (exfalso; omega)
    refine ⟨⟨(i + 1, S8), by dsimp only; omega, e8, ?_⟩, ?_, rfl, by dsimp only; omega⟩
    · dsimp only
      rw [List.nil_append, List.append_nil] at f8
      have f9 : Fr S.length S8 ((remAt b ext i).d.set 1 (.sl 6 (((remAt b ext i).Tabs.map GTab.d).set i (tabWithout (b.Tabs[i]) ext).d))) [.int .i64 b.Key, c1, ci, d3, c4, d5, d6, .int .i64 b.Now] := f8
      rw [remAt_set hlt] at f9
      exact f9
    · (conv => whnf); repeat' (first | exact trivial | exact rfl | apply And.intro)
  · have hie : i = b.Tabs.length := by omega
    subst hie
    rw [remAt_all] at hF
    repeat' ((conv => whnf) <;> first
     | (refine rd_lenm oi ?_; intro hml2; rw [hlen]) | (show CondP _ _ _; refine cS ?_) | refine And.intro ?_ ?_)
    all_goals first
      | exact hE
      | exact ⟨_, _, _, _, _, _, rfl, hF⟩
      | (exfalso; omega)
end Go.Proofs.YtlmmdpmmdmhacaaGreat
namespace Go.Proofs.YtlmmdpmmdmhacaaGreat
open Go Go.ChangeShapes Go.WideShapes Go.ChangeAt Go.RowKit
set_option linter.unusedVariables false
set_option linter.unusedSimpArgs false
set_option maxRecDepth 100000
theorem tabOf_at {b : GBrowser} {tab : Int} (h : inR tab 0 ((b.Tabs.length : Int) - 1) = true) : ∃ hi : tab.toNat < b.Tabs.length, tabOf b tab = b.Tabs[tab.toNat] := by
  have := inR_t h
  refine ⟨by omega, ?_⟩
  unfold tabOf
  rw [List.getD_eq_getElem?_getD, List.getElem?_eq_getElem (by omega)]; rfl
theorem stepLimit_ok {b : GBrowser} (h : BrOk b) (x : GLimit) : BrOk (stepLimit b x).1 := by
  unfold stepLimit
  split
  · rename_i hk
    simp only [Bool.and_eq_true, decide_eq_true_eq] at hk
    exact h.limits' (by rw [List.length_append, List.length_singleton]; omega) fun y hy => by
      rcases List.mem_append.1 hy with hy | hy
      · exact h.lims y hy
      · rw [List.mem_singleton.1 hy]; exact hk.1
  · exact h
theorem lend_grant {ext : Int} {s : GSite} {tick : Int} {g : GGrant} (h : g ∈ lendGrants ext s tick) : isGrant g = true ∧ isLent g = true ∧ g.Ext = ext := by
  unfold lendGrants at h
  split at h
  · rename_i hk
    unfold lendOk isSite inR at hk
    simp only [Bool.and_eq_true, decide_eq_true_eq] at hk
    have hg : ∀ k, (k = 1 ∨ k = 2) → isGrant (lendG ext s tick k) = true := fun k hk2 => by
      unfold isGrant isPattern inR
      simp only [Bool.and_eq_true, decide_eq_true_eq]
      refine ⟨⟨⟨⟨⟨?_, ?_, ?_⟩, ?_⟩, ?_⟩, ?_⟩, ?_⟩ <;> omega
    have hl : ∀ k, (k = 1 ∨ k = 2) → isLent (lendG ext s tick k) = true := fun k hk2 => by
      unfold isLent
      rw [hg k hk2]
      simp only [Bool.true_and, Bool.and_eq_true, Bool.or_eq_true, Bool.not_eq_true', decide_eq_true_eq, decide_eq_false_iff_not]
      refine ⟨⟨⟨⟨by omega, by omega⟩, hk2⟩, ?_⟩, ?_⟩ <;> trivial
    rcases List.mem_cons.1 h with rfl | h
    · exact ⟨hg 1 (.inl rfl), hl 1 (.inl rfl), rfl⟩
    · rw [List.mem_singleton] at h; subst h
      exact ⟨hg 2 (.inr rfl), hl 2 (.inr rfl), rfl⟩
  · cases h
theorem lendTo_cases (l : List GGrant) (ext : Int) (s : GSite) (tick : Int) : ((lendTo l ext s tick).2 = true → (lendTo l ext s tick).1.length ≤ 16) ∧ ∀ g ∈ (lendTo l ext s tick).1, g ∈ l ∨ (isGrant g = true ∧ isLent g = true ∧ g.Ext = ext) := by
  unfold lendTo
  split
  · exact ⟨fun h => Bool.noConfusion h, fun g hg => .inl hg⟩
  · rename_i hb
    unfold lendBad at hb
    simp only [Bool.or_eq_true, decide_eq_true_eq, not_or] at hb
    refine ⟨fun _ => by dsimp only; omega, fun g hg => ?_⟩
    rcases List.mem_append.1 hg with hg | hg
    · exact .inl hg
    · exact .inr (lend_grant (List.mem_filter.1 hg).1)
theorem clickTab_ok {b : GBrowser} (h : BrOk b) {tab : Int} (ht : inR tab 0 ((b.Tabs.length : Int) - 1) = true) : BrOk (clickTab b tab) := by
  obtain ⟨hi, he⟩ := tabOf_at ht
  have hm : b.Tabs[tab.toNat] ∈ b.Tabs := List.getElem_mem hi
  unfold clickTab
  rw [he]
  have := h.now
  have ht := h.tabs _ hm
  exact h.setTab (t := { b.Tabs[tab.toNat] with Click := b.Now }) ⟨ht.site, ht.doc, ht.len, by dsimp only; omega, ht.eds, ht.hid⟩ fun e he => h.eds _ hm e he
theorem stepClick_ok {b : GBrowser} (h : BrOk b) (tab ext : Int) : BrOk (stepClick b tab ext).1 := by
  unfold stepClick
  split
  · rename_i ht
    have h1 := clickTab_ok h ht
    dsimp only
    split
    · rename_i hc
      unfold clickLend at hc
      simp only [Bool.and_eq_true, decide_eq_true_eq] at hc
      obtain ⟨c1, c2⟩ := lendTo_cases b.Grants ext (tabOf b tab).Site b.Now
      refine h1.grants' (c1 hc.2) fun g hg => ?_
      rcases c2 g hg with hh | ⟨g1, _, g2⟩
      · exact ⟨h.grants g hh, h.gex g hh⟩
      · exact ⟨g1, by rw [g2]; exact packOf_mem.1 hc.1⟩
    · exact h1
  · exact h
theorem stepGo_ok {b : GBrowser} (h : BrOk b) (tab : Int) (s : GSite) : BrOk (stepGo b tab s).1 := by
  unfold stepGo
  split
  · rename_i hk
    simp only [Bool.and_eq_true] at hk
    have h2 := hk.2
    unfold goTab openTab at h2
    have ho : goTab b tab s = (newTab s exB2 (tabOf b tab).Hidden, true) := by
      unfold goTab openTab
      split
      · rfl
      · rename_i hn; rw [if_neg hn] at h2; cases h2
    have ht : isTab (newTab s exB2 (tabOf b tab).Hidden) = true := by
      split at h2
      · assumption
      · cases h2
    show BrOk (goTo b tab s)
    unfold goTo
    rw [ho]
    exact (h.filterG (notEnd (tabOf b tab).Site)).setTab (tab_iff.1 ht) fun e he => by cases he
  · exact h
theorem tabX_mem {b : GBrowser} {tab : Int} (hi : 0 ≤ tab ∧ tab.toNat < b.Tabs.length) : tabX b tab = b.Tabs[tab.toNat] ∧ b.Tabs[tab.toNat] ∈ b.Tabs := by
  unfold tabX
  rw [List.getD_eq_getElem?_getD, List.getElem?_eq_getElem hi.2]
  exact ⟨rfl, List.getElem_mem hi.2⟩
theorem applyEdit_ed {d : List GNode} {e : GEdit} (h : (applyEdit d e).2 = true) : isEdit e = true := by
  unfold applyEdit at h
  split at h
  · rename_i hk; rw [Bool.and_eq_true] at hk; exact hk.2
  · cases h
theorem appendEd_ok {b : GBrowser} (h : BrOk b) {tab : Int} {e : GEdit} (hi : 0 ≤ tab ∧ tab.toNat < b.Tabs.length) (hb : e.By = 0 ∨ e.By ∈ exts b) : BrOk (appendEd b tab e).1 := by
  unfold appendEd
  split
  · rename_i hk
    unfold mayPut at hk
    simp only [Bool.and_eq_true, decide_eq_true_eq] at hk
    obtain ⟨hx, hm⟩ := tabX_mem hi
    rw [hx] at hk
    have ht := h.tabs _ hm
    show BrOk (putEdit b tab e)
    unfold putEdit
    rw [hx]
    refine h.setTab (ht.edits (by rw [List.length_append, List.length_singleton]; omega) fun y hy => ?_) fun y hy => ?_
    · rcases List.mem_append.1 hy with hy | hy
      · exact ht.eds y hy
      · rw [List.mem_singleton.1 hy]; exact applyEdit_ed hk.1
    · rcases List.mem_append.1 hy with hy | hy
      · exact h.eds _ hm y hy
      · rw [List.mem_singleton.1 hy]; exact hb
  · exact h
theorem pageEdit_ok {b : GBrowser} (h : BrOk b) (tab : Int) (e : GEdit) : BrOk (pageEdit b tab e).1 := by
  unfold pageEdit
  split
  · rename_i ht
    have := inR_t ht
    exact appendEd_ok h (by omega) (.inl rfl)
  · exact h
theorem mayAct_ext {b : GBrowser} {ext tab kind : Int} (h : mayAct b ext tab kind = true) : ext ∈ exts b := by
  unfold mayAct at h
  rw [Bool.and_eq_true, decide_eq_true_eq] at h
  exact packOf_mem.1 h.1
theorem writeTab_ok {b : GBrowser} (h : BrOk b) (ext tab : Int) (e : GEdit) : BrOk (writeTab b ext tab e).1 := by
  unfold writeTab
  split
  · rename_i hk
    rw [Bool.and_eq_true] at hk
    exact appendEd_ok h (mayAct_in hk.1) (.inr (mayAct_ext hk.1))
  · exact h
theorem stepInstall_ok {b : GBrowser} (h : BrOk b) (p : GPackage) : BrOk (stepInstall b p).1 := by
  unfold stepInstall
  split
  · rename_i hk; exact br_iff.1 hk.2.2
  · exact h
theorem stepUpdate_ok {b : GBrowser} (h : BrOk b) (p : GPackage) (c : Bool) : BrOk (stepUpdate b p c).1 := by
  unfold stepUpdate
  split
  · rename_i hk; exact br_iff.1 hk.2.2
  · exact h
theorem stepTick_ok {b : GBrowser} (h : BrOk b) (n : Int) : BrOk (stepTick b n).1 := by
  unfold stepTick
  split
  · rename_i hk
    rw [Bool.and_eq_true] at hk
    have h1 := inR_t hk.1
    have h2 := inR_t hk.2
    exact (h.now' (n := b.Now + n) (by omega)).filterG _
  · exact h
theorem fair_filter {l : List GRule} (h : isFair l = true) (P : GRule → Bool) : isFair (l.filter P) = true := by
  unfold isFair fair1 at h ⊢
  simp only [Bool.and_eq_true, decide_eq_true_eq, List.all_eq_true] at h ⊢
  refine ⟨Nat.le_trans (List.length_filter_le _ _) h.1, fun x hx => ?_⟩
  have hx' := h.2 x (List.mem_filter.1 hx).1
  refine ⟨hx'.1, Nat.le_trans ?_ hx'.2⟩
  exact (List.Sublist.filter _ (List.filter_sublist)).length_le
structure StoreOk (l : List GStored) : Prop where
  len : l.length ≤ 24
  val : ∀ x ∈ l, (1 ≤ x.Ext ∧ x.Ext ≤ 5) ∧ (0 ≤ x.Name ∧ x.Name ≤ 9) ∧ (0 ≤ x.Value ∧ x.Value ≤ 999) ∧ 1 ≤ x.Ver ∧ x.Ver ≤ 999
  asc : l.Pairwise fun x y => stLess x y = true
theorem stLess_trans {x y z : GStored} (h : stLess x y = true) (g : stLess y z = true) : stLess x z = true := by
  unfold stLess at h g ⊢
  simp only [Bool.or_eq_true, Bool.and_eq_true, decide_eq_true_eq] at h g ⊢
  omega
theorem stGo_at (m : List GStored) : ∀ (l : List GStored) (i : Nat), stGo m l i = true → ∀ (j : Nat) (h : j < l.length), okSt m l[j] (i + j) = true
  | [], _, _, j, h => absurd h (by simp)
  | p :: r, i, hg, j, h => by
    rw [stGo] at hg
    split at hg
    · rename_i hp
      match j, h with
      | 0, _ => exact hp
      | j + 1, h =>
        have := stGo_at m r (i + 1) hg j (by simpa using h)
        rw [show i + (j + 1) = i + 1 + j from by omega]; exact this
    · cases hg
theorem stGo_of (m : List GStored) : ∀ (l : List GStored) (i : Nat), (∀ (j : Nat) (h : j < l.length), okSt m l[j] (i + j) = true) → stGo m l i = true
  | [], _, _ => rfl
  | p :: r, i, h => by
    have h0 := h 0 (by simp)
    simp only [List.getElem_cons_zero, Nat.add_zero] at h0
    rw [stGo, if_pos h0]
    exact stGo_of m r (i + 1) fun j hj => by
      have := h (j + 1) (by simpa using hj)
      rw [show i + 1 + j = i + (j + 1) from by omega]; exact this
theorem store_iff {l : List GStored} : isStore l = true ↔ StoreOk l := by
  unfold isStore
  rw [Bool.and_eq_true, decide_eq_true_eq]
  constructor
  · rintro ⟨h0, h⟩
    have h1 := stGo_at l l 0 h
    have hv : ∀ (i : Nat) (hi : i < l.length), (inR (l[i]).Ext 1 5 && inR (l[i]).Name 0 9 && inR (l[i]).Value 0 999 && inR (l[i]).Ver 1 999) = true := fun i hi => by
      have h2 := h1 i hi
      rw [Nat.zero_add] at h2
      unfold okSt at h2
      rw [Bool.and_eq_true] at h2
      exact h2.1
    have hs : ∀ (i : Nat) (hi : i + 1 < l.length), stLess (l[i]) (l[i + 1]) = true := fun i hi => by
      have h2 := h1 (i + 1) hi
      rw [Nat.zero_add, okSt_pos (by omega) (by omega), Bool.and_eq_true] at h2
      have h3 := h2.2
      have e : (((i + 1 : Nat) : Int) - 1).toNat = i := by omega
      simp only [e] at h3
      exact h3
    have hl : ∀ (d i : Nat) (hi : i + d + 1 < l.length), stLess (l[i]'(by omega)) (l[i + d + 1]) = true := fun d => by
      induction d with
      | zero => exact fun i hi => hs i hi
      | succ d ih => exact fun i hi => stLess_trans (ih i (by omega)) (hs (i + d + 1) (by omega))
    refine ⟨h0, fun p hp => ?_, List.pairwise_iff_getElem.2 fun i j hi hj hij => ?_⟩
    · obtain ⟨i, hi, rfl⟩ := List.getElem_of_mem hp
      have := hv i hi
      simp only [inR, Bool.and_eq_true, decide_eq_true_eq] at this
      omega
    · have := hl (j - i - 1) i (by omega)
      simp only [show i + (j - i - 1) + 1 = j from by omega] at this
      exact this
  · intro h
    refine ⟨h.len, stGo_of l l 0 fun j hj => ?_⟩
    rw [Nat.zero_add]
    have hv := h.val _ (List.getElem_mem hj)
    have h4 : (inR (l[j]).Ext 1 5 && inR (l[j]).Name 0 9 && inR (l[j]).Value 0 999 && inR (l[j]).Ver 1 999) = true := by
      simp only [inR, Bool.and_eq_true, decide_eq_true_eq]; omega
    by_cases h0 : j = 0
    · subst h0; rw [okSt_zero]; exact h4
    · rw [okSt_pos (by omega) (by omega), h4, Bool.true_and]
      exact List.pairwise_iff_getElem.1 h.asc _ j (by omega) hj (by omega)
theorem store_filter {l : List GStored} (h : isStore l = true) (P : GStored → Bool) : isStore (l.filter P) = true := by
  rw [store_iff] at h ⊢
  exact ⟨Nat.le_trans (List.length_filter_le _ _) h.len, fun x hx => h.val x (List.mem_filter.1 hx).1, h.asc.sublist List.filter_sublist⟩
theorem cut_sub {α : Type} (l : List α) (i : Nat) : (l.take i ++ l.drop (i + 1)).Sublist l := by
  have : l = l.take i ++ l.drop i := (List.take_append_drop i l).symm
  conv => rhs; rw [this]
  exact List.Sublist.append (List.Sublist.refl _) (by rw [← List.drop_drop]; exact List.drop_sublist _ _)
theorem cut_mem {α : Type} {l : List α} {i : Nat} {x : α} (h : x ∈ l) : x ∈ l.take i ++ l.drop (i + 1) ∨ ∃ hi : i < l.length, x = l[i] := by
  rw [← List.take_append_drop i l, List.mem_append] at h
  rcases h with h | h
  · exact .inl (List.mem_append_left _ h)
  · by_cases hi : i < l.length
    · rw [List.drop_eq_getElem_cons hi] at h
      rcases List.mem_cons.1 h with h | h
      · exact .inr ⟨hi, h⟩
      · exact .inl (List.mem_append_right _ h)
    · rw [List.drop_eq_nil_of_le (by omega)] at h; cases h
abbrev packsBut (b : GBrowser) (ext : Int) : List GPackage := b.Packs.take (packOf b ext).toNat ++ b.Packs.drop ((packOf b ext).toNat + 1)
theorem packsBut_mem {b : GBrowser} {ext : Int} (h : 0 ≤ packOf b ext) {p : GPackage} (hp : p ∈ b.Packs) (hn : p.Ext ≠ ext) : p ∈ packsBut b ext := by
  obtain ⟨hi, he⟩ := packOf_at h
  rcases cut_mem (i := (packOf b ext).toNat) hp with h | ⟨_, e⟩
  · exact h
  · exact absurd (e ▸ he) hn
theorem tabW_ok {t : GTab} (h : TabOk t) (ext : Int) : TabOk (tabWithout t ext) :=
  h.edits (Nat.le_trans (List.length_filter_le _ _) h.len) fun e he => h.eds e (List.mem_filter.1 he).1
theorem stepRemove_ok {b : GBrowser} (h : BrOk b) (ext : Int) : BrOk (stepRemove b ext).1 := by
  unfold stepRemove
  split
  · rename_i hp
    have hin : ∀ x ∈ exts b, x ≠ ext → x ∈ (packsBut b ext).map GPackage.Ext := fun x hx hn => by
      obtain ⟨p, hp1, hp2⟩ := List.mem_map.1 hx
      exact List.mem_map.2 ⟨p, packsBut_mem hp hp1 (by rw [hp2]; exact hn), hp2⟩
    have hsub : ∀ p ∈ packsBut b ext, p ∈ b.Packs := fun p hp => (cut_sub _ _).subset hp
    show BrOk (remTo b ext)
    refine ⟨h.key, by have := h.tl; simp only [remTo, List.length_map]; omega, Nat.le_trans (cut_sub _ _).length_le h.pl, Nat.le_trans (List.length_filter_le _ _) h.gl, h.ll, fair_filter h.fair _, store_filter h.store _, h.now, fun p hp => h.sld p (hsub p hp), h.asc.sublist (cut_sub _ _), fun t ht => ?_, fun t ht e he => ?_, fun g hg => h.grants g (List.mem_filter.1 hg).1, fun g hg => ?_, h.lims, fun r hr => ?_, fun x hx => ?_⟩
    · obtain ⟨t0, h0, rfl⟩ := List.mem_map.1 ht
      exact tabW_ok (h.tabs t0 h0) ext
    · obtain ⟨t0, h0, rfl⟩ := List.mem_map.1 ht
      have he' := List.mem_filter.1 he
      refine (h.eds t0 h0 e he'.1).imp id fun hx => hin _ hx ?_
      have := he'.2
      unfold edNot at this
      simpa using this
    · have hg' := List.mem_filter.1 hg
      refine hin _ (h.gex g hg'.1) ?_
      have := hg'.2
      unfold gBut at this
      simpa using this
    · have hg' := List.mem_filter.1 hr
      refine hin _ (h.rex r hg'.1) ?_
      have := hg'.2
      unfold rBut at this
      simpa using this
    · have hg' := List.mem_filter.1 hx
      refine hin _ (h.sex x hg'.1) ?_
      have := hg'.2
      unfold stNot at this
      simpa using this
  · exact h
end Go.Proofs.YtlmmdpmmdmhacaaGreat
