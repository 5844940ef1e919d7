/- A text of the proof. -/
import Derived.Test.YtibglkkmjigooaaGreatFnZt
import Derived.Test.YtibglkkmjigooaaGreatAeS
import Derived.Test.YtibglkkmjigooaaGreatAeX
import Derived.Test.YtibglkkmjigooaaGreatFnDelPackage
namespace Go.Proofs.YtibglkkmjigooaaGreat
open Go Go.ChangeShapes Go.WideShapes Go.ChangeAt Go.RowKit
set_option linter.unusedVariables false
set_option linter.unusedSimpArgs false
set_option maxRecDepth 100000
def remAt (b : GBrowser) (ext : Int) (i : Nat) : GBrowser := { b with Tabs := (b.Tabs.take i).map (fun t => tabWithout t ext) ++ b.Tabs.drop i, Packs := b.Packs.take (packOf b ext).toNat ++ b.Packs.drop ((packOf b ext).toNat + 1), Grants := b.Grants.filter (gBut ext), Rules := b.Rules.filter (rBut ext), Store := b.Store.filter (stNot ext) }
def remTo (b : GBrowser) (ext : Int) : GBrowser := { b with Tabs := b.Tabs.map (fun t => tabWithout t ext), Packs := b.Packs.take (packOf b ext).toNat ++ b.Packs.drop ((packOf b ext).toNat + 1), Grants := b.Grants.filter (gBut ext), Rules := b.Rules.filter (rBut ext), Store := b.Store.filter (stNot ext) }
theorem remAt_all (b : GBrowser) (ext : Int) : remAt b ext b.Tabs.length = remTo b ext := by
  unfold remAt remTo; rw [List.take_length, List.drop_length, List.append_nil]
theorem remAt_tab {b : GBrowser} {ext : Int} {i : Nat} (h : i < b.Tabs.length) : ((remAt b ext i).Tabs.map GTab.d)[i]? = some (b.Tabs[i]).d := by
  have hl : ((b.Tabs.take i).map (fun t => tabWithout t ext)).length = i := by rw [List.length_map, List.length_take]; omega
  simp only [remAt, List.getElem?_map]
  rw [List.getElem?_append_right (by omega), hl, Nat.sub_self, List.getElem?_drop, Nat.add_zero, List.getElem?_eq_getElem h]; rfl
theorem remAt_set {b : GBrowser} {ext : Int} {i : Nat} (h : i < b.Tabs.length) : ((remAt b ext i).Tabs.map GTab.d).set i (tabWithout (b.Tabs[i]) ext).d = (remAt b ext (i + 1)).Tabs.map GTab.d := by
  have hl : ((b.Tabs.take i).map (fun t => tabWithout t ext)).length = i := by rw [List.length_map, List.length_take]; omega
  simp only [remAt]
  rw [← List.map_set, List.set_append_right _ _ (Nat.le_of_eq hl), hl, Nat.sub_self, List.take_add_one, List.getElem?_eq_getElem h, List.drop_eq_getElem_cons h, List.set_cons_zero]
  congr 1
  rw [List.map_append, List.append_assoc]; rfl
theorem remAt_len (b : GBrowser) (ext : Int) (i : Nat) (h : i ≤ b.Tabs.length) : (remAt b ext i).Tabs.length = b.Tabs.length := by
  simp only [remAt, List.length_append, List.length_map, List.length_take, List.length_drop]; omega
def stepRemove (b : GBrowser) (ext : Int) : GBrowser × Bool := if 0 ≤ packOf b ext then (remTo b ext, true) else (b, false)
theorem rem_no {b : GBrowser} {ext : Int} (h : ¬ 0 ≤ packOf b ext) : stepRemove b ext = (b, false) := if_neg h
theorem rem_yes {b : GBrowser} {ext : Int} (h : 0 ≤ packOf b ext) : stepRemove b ext = (remTo b ext, true) := if_pos h
theorem szTabs (ext : Int) : ∀ (l : List GTab), szL.szLL ((l.map (fun t => tabWithout t ext)).map GTab.d) ≤ szL.szLL (l.map GTab.d)
  | [] => Nat.le_refl _
  | t :: l => by
    rw [List.map_cons, List.map_cons, List.map_cons, szL.szLL, szL.szLL]
    have h1 := szTabs ext l
    have h2 : szL (tabWithout t ext).d ≤ szL t.d := by
      have := List.length_filter_le (edNot ext) t.Edits
      simp only [tabWithout, GTab.d, szL, List.length_map]
      rw [szLL_flat (f := GEdit.d) (by intro x; simp only [szL, GEdit.d]), szLL_flat (f := GEdit.d) (by intro x; simp only [szL, GEdit.d])]
      omega
    omega
theorem szRemTo (b : GBrowser) (ext : Int) : szL (remTo b ext).d ≤ szL b.d := by
  have h1 := List.length_filter_le (gBut ext) b.Grants
  have h2 := List.length_filter_le (rBut ext) b.Rules
  have h3 := List.length_filter_le (stNot ext) b.Store
  have h4 := szTabs ext b.Tabs
  have h5 : szL.szLL (b.Packs.map GPackage.d) = szL.szLL ((b.Packs.take (packOf b ext).toNat).map GPackage.d) + (szL.szLL (((b.Packs.drop (packOf b ext).toNat).take 1).map GPackage.d) + szL.szLL ((b.Packs.drop ((packOf b ext).toNat + 1)).map GPackage.d)) := by
    rw [← szLL_app, ← szLL_app, ← List.map_append, ← List.map_append, ← List.drop_drop, List.take_append_drop, List.take_append_drop]
  rw [szBru, szBru]
  simp only [remTo, List.length_map, List.length_append, List.length_take, List.length_drop, List.map_append, szLL_app]
  omega
theorem szStepRemove (b : GBrowser) (ext : Int) : szL (stepRemove b ext).1.d ≤ szL b.d := by
  unfold stepRemove
  split
  · exact szRemTo b ext
  · exact Nat.le_refl _
def plx (rs : List (List C)) (k i : Nat) : List (List C) := (rs.take i).take k ++ (rs.take i).drop (k + 1)
theorem plx_ne {rs : List (List C)} {k i : Nat} {r : List C} (h : rs[i]? = some r) (hn : i ≠ k) : plx rs k i ++ [r] = plx rs k (i + 1) := by
  have hl : (rs.take i).length = i := by rw [List.length_take]; have := (List.getElem?_eq_some_iff.1 h).1; omega
  unfold plx
  rw [List.take_add_one, h]
  show _ = List.take k (rs.take i ++ [r]) ++ List.drop (k + 1) (rs.take i ++ [r])
  rw [List.take_append, List.drop_append, hl]
  rcases Nat.lt_or_gt_of_ne hn with h1 | h1
  · rw [List.drop_of_length_le (by omega), show k - i = (k - i - 1) + 1 by omega, show k + 1 - i = (k - i) + 1 by omega]; simp
  · rw [show k - i = 0 by omega, show k + 1 - i = 0 by omega]; simp
theorem plx_eq {rs : List (List C)} {k : Nat} {r : List C} (h : rs[k]? = some r) : plx rs k k = plx rs k (k + 1) := by
  have hl : (rs.take k).length = k := by rw [List.length_take]; have := (List.getElem?_eq_some_iff.1 h).1; omega
  unfold plx
  rw [List.take_add_one, h]
  show _ = List.take k (rs.take k ++ [r]) ++ List.drop (k + 1) (rs.take k ++ [r])
  rw [List.take_append, List.drop_append, hl, List.drop_of_length_le (by omega)]; simp
theorem plx_len (rs : List (List C)) (k i : Nat) : (plx rs k i).length ≤ rs.length := by
  unfold plx; simp only [List.length_append, List.length_take, List.length_drop]; omega
theorem plx_start {S : Store} (rs : List (List C)) (k : Nat) : Fr S.length (S ++ [⟨true, 8, []⟩]) [.sl 8 ((plx rs k 0).map (List.map D.x))] [.sl S.length 0 0 0] := by
  rw [show plx rs k 0 = [] by simp [plx]]; exact fr_lit0
theorem rem_rep {S : Store} {l : List GPackage} {rs rows : List (List C)} {js jy : List Nat} {k : Nat} (hk : k < l.length) (he : rows = rs) (h : Rep2 true S (l.map GPackage.d) rows js) (hn : (js ++ jy).Nodup) :
    ∃ js', Rep2 true S ((l.take k ++ l.drop (k + 1)).map GPackage.d) (plx rs k rs.length) js' ∧ js'.Nodup ∧ ∀ x ∈ js', x ∈ js ∨ x ∈ jy := by
  subst he
  have hpl : plx rows k rows.length = rows.take k ++ rows.drop (k + 1) := by unfold plx; rw [List.take_length]
  rw [hpl]
  rw [show l.map GPackage.d = (l.take k).map GPackage.d ++ (((l.drop k).take 1).map GPackage.d ++ (l.drop (k + 1)).map GPackage.d) by rw [← List.map_append, ← List.map_append, ← List.drop_drop, List.take_append_drop, List.take_append_drop]] at h
  obtain ⟨r1, r2, j1, j2, g1, g2, g3, g4⟩ := h.split
  obtain ⟨r3, r4, j3, j4, k1, k2, k3, k4⟩ := g4.split
  subst k1; subst k2
  have hr1 : r1.length = k := by rw [g3.len, List.length_map, List.length_take]; omega
  have hr3 : r3.length = 1 := by rw [k3.len, List.length_map, List.length_take, List.length_drop]; omega
  have t1 : rows.take k = r1 := by rw [g1]; exact List.take_left' hr1
  have t2 : rows.drop (k + 1) = r4 := by rw [g1, ← List.append_assoc]; exact List.drop_left' (by rw [List.length_append]; omega)
  rw [t1, t2]
  subst g2
  simp only [List.nodup_append, List.mem_append] at hn
  obtain ⟨⟨n1, ⟨n2, n3, n4⟩, n5⟩, n6, n7⟩ := hn
  refine ⟨j1 ++ j4, ?_, ?_, fun x hx => ?_⟩
  · rw [List.map_append]; exact g3.append k4
  · rw [List.nodup_append]; exact ⟨n1, n3, fun a ha b hb => n5 a ha b (.inr hb)⟩
  · simp only [List.mem_append] at hx ⊢
    rcases hx with hx | hx
    · exact .inl (.inl hx)
    · exact .inl (.inr (.inr hx))
set_option maxHeartbeats 4000000 in
theorem ev_sStepRemove (b : GBrowser) (ext : Int) (cs : List C) (S : Store) (h : Rd S b.d cs) (hz : szL b.d ≤ 1048576) : EvA Tryz.prog 9 [.agg cs, .s (.int .i64 ext)] S (fun r S' => Ext S S' ∧ ∃ c1 c2 c3 c4 c5 c6, r = .tup [.agg [.int .i64 (stepRemove b ext).1.Key, c1, c2, c3, c4, c5, c6, .int .i64 (stepRemove b ext).1.Now], .s (.bool (stepRemove b ext).2)] ∧ Fr S.length S' (stepRemove b ext).1.d [.int .i64 (stepRemove b ext).1.Key, c1, c2, c3, c4, c5, c6, .int .i64 (stepRemove b ext).1.Now]) := by
  have hzs := hz
  simp only [GBrowser.d, szL, List.length_map] at hzs
  have hfg := List.length_filter_le (gBut ext) b.Grants
  have hfr := List.length_filter_le (rBut ext) b.Rules
  have hfs := List.length_filter_le (stNot ext) b.Store
  have hB := h
  obtain ⟨b1, b2, b3, b4, b5, b6, rfl, t1, t2, t3, t4, t5, t6⟩ := GBrowser.inv h
  refine evA_intro tok Tryz.func9 (by kernel_rfl) rfl ?_
  repeat' ((conv => whnf) <;> first
   | rw [wrapI_i64 (by omega)] | (show CondP _ _ _; refine cS ?_) | refine cD (fun _ => ?_) fun _ => ?_ | refine cE (fun _ => ?_) fun _ => ?_ | refine cT ?_ | refine cF ?_ | refine cN (fun _ => ?_) fun _ => ?_ | refine cI (fun _ => ?_) fun _ => ?_ | (refine callP_eq (ev_sPackOf _ _ _ _ rdcA) ?_) | refine rE fun hml => ?_ | refine rI rdA rf ix ?_ | (refine rd_loadm (f := GPackage.d) rdA ix ?_; intro _ hcs; obtain ⟨_, _, _, _, rfl, _, _, _, _⟩ := GPackage.inv hcs) | (refine rd_loadm (f := GTab.d) rdA ix ?_; intro _ hcs; obtain ⟨_, _, _, rfl, _, _, _⟩ := GTab.inv hcs) | refine nP ?_ | refine draw_intro 62 [.fl 0, .fl 1, .fl 2, .fl 3, .fl 4, .fl 5, .fl 6, .fl 7, .fl 8, .st 9 [0, 1, 2], .fl 10, .st 11 []] (by rfl) (by kernel_rfl) ?_ | refine And.intro ?_ ?_)
  (conv => whnf)
  refine callP_intro (ev_l32Copy b _ _ hB (by omega)) ?_; rintro _ S0 ⟨e0, c1, c2, c3, c4, c5, c6, rfl, f0⟩
  by_cases hp : ¬ 0 ≤ packOf b ext
  · rw [rem_no hp]
    repeat' ((conv => whnf) <;> first
     | (refine callP_eq (ev_sPackOf b ext _ _ (hB.ext e0)) ?_) | rw [wrapI_i64 (by omega)] | (show CondP _ _ _; refine cS ?_) | refine cD (fun _ => ?_) fun _ => ?_ | refine cE (fun _ => ?_) fun _ => ?_ | refine cT ?_ | refine cF ?_ | refine cN (fun _ => ?_) fun _ => ?_ | refine cI (fun _ => ?_) fun _ => ?_ | (refine callP_intro (ev_l32Copy _ _ _ rdcA (by (first | omega | exact sz_at hz om | (simp only [szL]; omega)))) ?_; rintro _ Sn ⟨hEn, _, _, _, _, _, _, rfl, hFn⟩) | (refine callP_eq (ev_sPackOf _ _ _ _ rdcA) ?_) | (refine callP_intro (ev_sDropStored _ _ _ _ rdA om) ?_; rintro _ Sn ⟨hEn, cn, rfl, hFn⟩) | (refine callP_intro (ev_sTabWithout _ _ _ _ rdcA (by (first | omega | exact sz_at hz om | (simp only [szL]; omega)))) ?_; rintro _ Sn ⟨hEn, _, _, _, rfl, hFn⟩) | refine rE fun hml => ?_ | refine rI rdA rf ix ?_ | (refine rd_loadm (f := GPackage.d) rdA ix ?_; intro _ hcs; obtain ⟨_, _, _, _, rfl, _, _, _, _⟩ := GPackage.inv hcs) | (refine rd_loadm (f := GTab.d) rdA ix ?_; intro _ hcs; obtain ⟨_, _, _, rfl, _, _, _⟩ := GTab.inv hcs) | refine nP ?_ | refine draw_intro 62 [.fl 0, .fl 1, .fl 2, .fl 3, .fl 4, .fl 5, .fl 6, .fl 7, .fl 8, .st 9 [0, 1, 2], .fl 10, .st 11 []] (by rfl) (by kernel_rfl) ?_ | refine And.intro ?_ ?_)
    all_goals first
      | exact e0
      | exact ⟨_, _, _, _, _, _, rfl, f0⟩
      | (exfalso; simp_all; done)
      | (exfalso; omega)
  replace hp := Decidable.not_not.1 hp
  rw [rem_yes hp]
  have hpl := (packOf_lt b ext).2
  obtain ⟨kn, hkn⟩ := Int.eq_ofNat_of_zero_le hp
  have hkt : (packOf b ext).toNat = kn := by omega
  have hkl : kn < b.Packs.length := by omega
  have r2 : Rd S0 [.sl 8 (b.Packs.map GPackage.d)] [c2] := f0.rdAt (o := 2) rfl rfl
  obtain ⟨rs, hrl, hre, hr8, hrs⟩ := pk_rows r2
  repeat' ((conv => whnf) <;> first
   | (refine callP_eq (ev_sPackOf b ext _ _ (hB.ext e0)) ?_) | rw [wrapI_i64 (by omega)] | (show CondP _ _ _; refine cS ?_) | refine cD (fun _ => ?_) fun _ => ?_ | refine cE (fun _ => ?_) fun _ => ?_ | refine cT ?_ | refine cF ?_ | refine cN (fun _ => ?_) fun _ => ?_ | refine cI (fun _ => ?_) fun _ => ?_ | (refine callP_eq (ev_sPackOf _ _ _ _ rdcA) ?_) | refine rE fun hml => ?_ | refine rI rdA rf ix ?_ | (refine rd_loadm (f := GPackage.d) rdA ix ?_; intro _ hcs; obtain ⟨_, _, _, _, rfl, _, _, _, _⟩ := GPackage.inv hcs) | (refine rd_loadm (f := GTab.d) rdA ix ?_; intro _ hcs; obtain ⟨_, _, _, rfl, _, _, _⟩ := GTab.inv hcs) | refine nP ?_ | refine draw_intro 62 [.fl 0, .fl 1, .fl 2, .fl 3, .fl 4, .fl 5, .fl 6, .fl 7, .fl 8, .st 9 [0, 1, 2], .fl 10, .st 11 []] (by rfl) (by kernel_rfl) ?_ | refine And.intro ?_ ?_)
  all_goals try (exfalso; omega)
  refine loop_intro {q : Nat × Store × C // q.1 ≤ b.Packs.length ∧ Ext S0 q.2.1 ∧ Fr S0.length q.2.1 [.sl 8 ((plx rs kn q.1).map (List.map D.x))] [q.2.2]} [8, 9, 20, 21, 22, 23, 24, 25, 26, 27, 28, 29, 30, 31, 32, 33, 34, 35, 36, 37] (fun zb => [(9, .v (.s (.int .i64 (zb.1.1)))), (8, .v (.s zb.1.2.2))]) (fun zb => zb.1.2.1) (fun zb => b.Packs.length - zb.1.1) ⟨(0, _, _), Nat.zero_le _, ⟨Ext.push _ _, plx_start _ _⟩⟩ ?_ rfl ?_
  · (conv => whnf); repeat' (first | exact trivial | exact rfl | apply And.intro)
  rintro ⟨⟨i, Si, ci⟩, hi, hP⟩; dsimp only
  replace hi : i ≤ b.Packs.length := hi
  replace hP : Ext S0 Si ∧ Fr S0.length Si [.sl 8 ((plx rs kn i).map (List.map D.x))] [ci] := hP
  obtain ⟨hE, hF⟩ := hP
  have heI := elemsE hre hE
  have rdI := r2.ext hE
  have hpx := plx_len rs kn i
  by_cases hlt : i < b.Packs.length
  · obtain ⟨a1, a2, a3, a4, hri⟩ := hrs i hlt
    have hri' : rs[((i : Nat) : Int).toNat]? = some [.int .i64 (b.Packs[i]).Ext, .int .i64 (b.Packs[i]).Author, .int .i64 (b.Packs[i]).Version, a1, a2, a3, a4, .int .i64 (b.Packs[i]).Seal] := by rw [Int.toNat_natCast]; exact hri
    by_cases hik : i = kn
    · have hik2 : ((i : Nat) : Int) = packOf b ext := by omega
      repeat' ((conv => whnf) <;> first
       | rw [wrapI_i64 (by omega)] | (show CondP _ _ _; refine cS ?_) | refine cD (fun _ => ?_) fun _ => ?_ | refine cE (fun _ => ?_) fun _ => ?_ | refine cT ?_ | refine cF ?_ | refine cN (fun _ => ?_) fun _ => ?_ | refine cI (fun _ => ?_) fun _ => ?_ | (refine callP_intro (ev_l32Copy _ _ _ rdcA (by (first | omega | exact sz_at hz om | (simp only [szL]; omega)))) ?_; rintro _ Sn ⟨hEn, _, _, _, _, _, _, rfl, hFn⟩) | (refine callP_eq (ev_sPackOf _ _ _ _ rdcA) ?_) | (refine callP_intro (ev_sDropStored _ _ _ _ rdA om) ?_; rintro _ Sn ⟨hEn, cn, rfl, hFn⟩) | (refine callP_intro (ev_sTabWithout _ _ _ _ rdcA (by (first | omega | exact sz_at hz om | (simp only [szL]; omega)))) ?_; rintro _ Sn ⟨hEn, _, _, _, rfl, hFn⟩) | refine rE fun hml => ?_ | refine rI rdA rf ix ?_ | (refine rd_loadm (f := GPackage.d) rdA ix ?_; intro _ hcs; obtain ⟨_, _, _, _, rfl, _, _, _, _⟩ := GPackage.inv hcs) | (refine rd_loadm (f := GTab.d) rdA ix ?_; intro _ hcs; obtain ⟨_, _, _, rfl, _, _, _⟩ := GTab.inv hcs) | refine nP ?_ | refine draw_intro 62 [.fl 0, .fl 1, .fl 2, .fl 3, .fl 4, .fl 5, .fl 6, .fl 7, .fl 8, .st 9 [0, 1, 2], .fl 10, .st 11 []] (by rfl) (by kernel_rfl) ?_ | (refine rI rdI rf ix ?_) | refine And.intro ?_ ?_)
      all_goals try (exfalso; omega)
      refine ⟨⟨(i + 1, Si, ci), by dsimp only; omega, hE, ?_⟩, ?_, rfl, by dsimp only; omega⟩
      · dsimp only; subst hik; rw [← plx_eq hri]; exact hF
      · (conv => whnf); repeat' (first | exact trivial | exact rfl | apply And.intro)
    · have hik2 : ¬ ((i : Nat) : Int) = packOf b ext := by omega
      repeat' ((conv => whnf) <;> first
       | (refine loadP_intro heI hri' om ?_) | rw [wrapI_i64 (by omega)] | (show CondP _ _ _; refine cS ?_) | refine cD (fun _ => ?_) fun _ => ?_ | refine cE (fun _ => ?_) fun _ => ?_ | refine cT ?_ | refine cF ?_ | refine cN (fun _ => ?_) fun _ => ?_ | refine cI (fun _ => ?_) fun _ => ?_ | (refine callP_intro (ev_l32Copy _ _ _ rdcA (by (first | omega | exact sz_at hz om | (simp only [szL]; omega)))) ?_; rintro _ Sn ⟨hEn, _, _, _, _, _, _, rfl, hFn⟩) | (refine callP_eq (ev_sPackOf _ _ _ _ rdcA) ?_) | (refine callP_intro (ev_sDropStored _ _ _ _ rdA om) ?_; rintro _ Sn ⟨hEn, cn, rfl, hFn⟩) | (refine callP_intro (ev_sTabWithout _ _ _ _ rdcA (by (first | omega | exact sz_at hz om | (simp only [szL]; omega)))) ?_; rintro _ Sn ⟨hEn, _, _, _, rfl, hFn⟩) | refine rE fun hml => ?_ | refine rI rdA rf ix ?_ | (refine rd_loadm (f := GPackage.d) rdA ix ?_; intro _ hcs; obtain ⟨_, _, _, _, rfl, _, _, _, _⟩ := GPackage.inv hcs) | (refine rd_loadm (f := GTab.d) rdA ix ?_; intro _ hcs; obtain ⟨_, _, _, rfl, _, _, _⟩ := GTab.inv hcs) | refine nP ?_ | refine draw_intro 62 [.fl 0, .fl 1, .fl 2, .fl 3, .fl 4, .fl 5, .fl 6, .fl 7, .fl 8, .st 9 [0, 1, 2], .fl 10, .st 11 []] (by rfl) (by kernel_rfl) ?_ | (refine rI rdI rf ix ?_) | (refine plain_app (rs := plx rs kn i) (ys := [[.int .i64 (b.Packs[i]).Ext, .int .i64 (b.Packs[i]).Author, .int .i64 (b.Packs[i]).Version, a1, a2, a3, a4, .int .i64 (b.Packs[i]).Seal]]) hE hF (by intro y hy; rw [List.mem_singleton.1 hy]; rfl) (by dsimp only [T57]; simp only [List.length_singleton]; omega) (by rw [maxLen_eq]; simp only [List.length_singleton]; omega) ?_; intro cN SN hEN hFN hlN) | refine And.intro ?_ ?_)
      all_goals try (exfalso; omega)
      refine ⟨⟨(i + 1, SN, cN), by dsimp only; omega, hEN, ?_⟩, ?_, rfl, by dsimp only; omega⟩
      · dsimp only; rw [← plx_ne hri hik]; exact hFN
      · (conv => whnf); repeat' (first | exact trivial | exact rfl | apply And.intro)
  have hie : i = b.Packs.length := by omega
  subst hie
  rw [← hrl] at hF
  have hEB := hE
  have J2 : Fr S.length Si (b.d ++ (.sl 8 ((plx rs kn rs.length).map (List.map D.x)) :: [])) ([.int .i64 b.Key, c1, c2, c3, c4, c5, c6, .int .i64 b.Now] ++ (ci :: [])) := f0.join hE hF e0.len
  have J3 := J2.refit (o := 2) (xs := b.Packs.map GPackage.d) (xs' := (b.Packs.take kn ++ b.Packs.drop (kn + 1)).map GPackage.d) rfl rfl rfl (fun rows js jy h1 h2 h3 h4 => rem_rep hkl (by rw [heI] at h1; exact (Option.some.inj h1).symm) h2 h4)
  clear hF J2
  repeat' ((conv => whnf) <;> first
   | rw [wrapI_i64 (by omega)] | (show CondP _ _ _; refine cS ?_) | refine cD (fun _ => ?_) fun _ => ?_ | refine cE (fun _ => ?_) fun _ => ?_ | refine cT ?_ | refine cF ?_ | refine cN (fun _ => ?_) fun _ => ?_ | refine cI (fun _ => ?_) fun _ => ?_ | (refine callP_eq (ev_sPackOf _ _ _ _ rdcA) ?_) | refine rE fun hml => ?_ | refine rI rdA rf ix ?_ | (refine rd_loadm (f := GPackage.d) rdA ix ?_; intro _ hcs; obtain ⟨_, _, _, _, rfl, _, _, _, _⟩ := GPackage.inv hcs) | (refine rd_loadm (f := GTab.d) rdA ix ?_; intro _ hcs; obtain ⟨_, _, _, rfl, _, _, _⟩ := GTab.inv hcs) | refine nP ?_ | refine draw_intro 62 [.fl 0, .fl 1, .fl 2, .fl 3, .fl 4, .fl 5, .fl 6, .fl 7, .fl 8, .st 9 [0, 1, 2], .fl 10, .st 11 []] (by rfl) (by kernel_rfl) ?_ | refine And.intro ?_ ?_)
  all_goals try (exfalso; omega)
  have EB := e0.trans hEB
  have pg := t3.ext EB
  repeat' ((conv => whnf) <;> first
   | rw [wrapI_i64 (by omega)] | (show CondP _ _ _; refine cS ?_) | refine cD (fun _ => ?_) fun _ => ?_ | refine cE (fun _ => ?_) fun _ => ?_ | refine cT ?_ | refine cF ?_ | refine cN (fun _ => ?_) fun _ => ?_ | refine cI (fun _ => ?_) fun _ => ?_ | (refine callP_eq (ev_sPackOf _ _ _ _ rdcA) ?_) | refine rE fun hml => ?_ | refine rI rdA rf ix ?_ | (refine rd_loadm (f := GPackage.d) rdA ix ?_; intro _ hcs; obtain ⟨_, _, _, _, rfl, _, _, _, _⟩ := GPackage.inv hcs) | (refine rd_loadm (f := GTab.d) rdA ix ?_; intro _ hcs; obtain ⟨_, _, _, rfl, _, _, _⟩ := GTab.inv hcs) | refine nP ?_ | refine draw_intro 62 [.fl 0, .fl 1, .fl 2, .fl 3, .fl 4, .fl 5, .fl 6, .fl 7, .fl 8, .st 9 [0, 1, 2], .fl 10, .st 11 []] (by rfl) (by kernel_rfl) ?_ | refine And.intro ?_ ?_)
  (conv => whnf)
  refine callP_intro (ev_l35Others b.Grants ext _ _ pg (by omega)) ?_; rintro _ S4 ⟨e4, d3, rfl, f4⟩
  have E4 := EB.trans e4
  have J4 := J3.setAt (o := 3) e4 f4 EB.len (by show 3 < 8; decide)
  have pr := t5.ext E4
  repeat' ((conv => whnf) <;> first
   | rw [wrapI_i64 (by omega)] | (show CondP _ _ _; refine cS ?_) | refine cD (fun _ => ?_) fun _ => ?_ | refine cE (fun _ => ?_) fun _ => ?_ | refine cT ?_ | refine cF ?_ | refine cN (fun _ => ?_) fun _ => ?_ | refine cI (fun _ => ?_) fun _ => ?_ | (refine callP_eq (ev_sPackOf _ _ _ _ rdcA) ?_) | refine rE fun hml => ?_ | refine rI rdA rf ix ?_ | (refine rd_loadm (f := GPackage.d) rdA ix ?_; intro _ hcs; obtain ⟨_, _, _, _, rfl, _, _, _, _⟩ := GPackage.inv hcs) | (refine rd_loadm (f := GTab.d) rdA ix ?_; intro _ hcs; obtain ⟨_, _, _, rfl, _, _, _⟩ := GTab.inv hcs) | refine nP ?_ | refine draw_intro 62 [.fl 0, .fl 1, .fl 2, .fl 3, .fl 4, .fl 5, .fl 6, .fl 7, .fl 8, .st 9 [0, 1, 2], .fl 10, .st 11 []] (by rfl) (by kernel_rfl) ?_ | refine And.intro ?_ ?_)
  (conv => whnf)
  refine callP_intro (ev_sDropRules b.Rules ext _ _ pr (by omega)) ?_; rintro _ S5 ⟨e5, d5, rfl, f5⟩
  have E5 := E4.trans e5
  have J5 := J4.setAt (o := 5) e5 f5 E4.len (by show 5 < 8; decide)
  have ps := t6.ext E5
  repeat' ((conv => whnf) <;> first
   | rw [wrapI_i64 (by omega)] | (show CondP _ _ _; refine cS ?_) | refine cD (fun _ => ?_) fun _ => ?_ | refine cE (fun _ => ?_) fun _ => ?_ | refine cT ?_ | refine cF ?_ | refine cN (fun _ => ?_) fun _ => ?_ | refine cI (fun _ => ?_) fun _ => ?_ | (refine callP_eq (ev_sPackOf _ _ _ _ rdcA) ?_) | refine rE fun hml => ?_ | refine rI rdA rf ix ?_ | (refine rd_loadm (f := GPackage.d) rdA ix ?_; intro _ hcs; obtain ⟨_, _, _, _, rfl, _, _, _, _⟩ := GPackage.inv hcs) | (refine rd_loadm (f := GTab.d) rdA ix ?_; intro _ hcs; obtain ⟨_, _, _, rfl, _, _, _⟩ := GTab.inv hcs) | refine nP ?_ | refine draw_intro 62 [.fl 0, .fl 1, .fl 2, .fl 3, .fl 4, .fl 5, .fl 6, .fl 7, .fl 8, .st 9 [0, 1, 2], .fl 10, .st 11 []] (by rfl) (by kernel_rfl) ?_ | refine And.intro ?_ ?_)
  (conv => whnf)
  refine callP_intro (ev_sDropStored b.Store ext _ _ ps (by omega)) ?_; rintro _ S6 ⟨e6, d6, rfl, f6⟩
  have E6 := E5.trans e6
  have J6 : Fr S.length S6 (remAt b ext 0).d [.int .i64 b.Key, c1, ci, d3, c4, d5, d6, .int .i64 b.Now] := by
    have J := J5.setAt (o := 6) e6 f6 E5.len (by show 6 < 8; decide)
    simp only [remAt, GBrowser.d, hkt]
    exact J
  have pt := t1.ext E6
  repeat' ((conv => whnf) <;> first
   | rw [wrapI_i64 (by omega)] | (show CondP _ _ _; refine cS ?_) | refine cD (fun _ => ?_) fun _ => ?_ | refine cE (fun _ => ?_) fun _ => ?_ | refine cT ?_ | refine cF ?_ | refine cN (fun _ => ?_) fun _ => ?_ | refine cI (fun _ => ?_) fun _ => ?_ | (refine callP_eq (ev_sPackOf _ _ _ _ rdcA) ?_) | refine rE fun hml => ?_ | refine rI rdA rf ix ?_ | (refine rd_loadm (f := GPackage.d) rdA ix ?_; intro _ hcs; obtain ⟨_, _, _, _, rfl, _, _, _, _⟩ := GPackage.inv hcs) | (refine rd_loadm (f := GTab.d) rdA ix ?_; intro _ hcs; obtain ⟨_, _, _, rfl, _, _, _⟩ := GTab.inv hcs) | refine nP ?_ | refine draw_intro 62 [.fl 0, .fl 1, .fl 2, .fl 3, .fl 4, .fl 5, .fl 6, .fl 7, .fl 8, .st 9 [0, 1, 2], .fl 10, .st 11 []] (by rfl) (by kernel_rfl) ?_ | (refine rd_lenm pt ?_; intro hml; rw [maxLen_eq] at hml) | refine And.intro ?_ ?_)
  refine loop_intro {q : Nat × Store // q.1 ≤ b.Tabs.length ∧ Ext S q.2 ∧ Fr S.length q.2 (remAt b ext q.1).d [.int .i64 b.Key, c1, ci, d3, c4, d5, d6, .int .i64 b.Now]} [10, 55, 56, 57, 58, 59, 60, 61, 62, 63, 64, 65, 66, 67, 68, 69, 70, 71, 72] (fun zb => [(10, .v (.s (.int .i64 zb.1.1)))]) (fun zb => zb.1.2) (fun zb => b.Tabs.length - zb.1.1) ⟨(0, _), Nat.zero_le _, ⟨E6, J6⟩⟩ ?_ rfl ?_
  · (conv => whnf); repeat' (first | exact trivial | exact rfl | apply And.intro)
  rintro ⟨⟨i, Si⟩, hi, hP⟩; dsimp only
  replace hi : i ≤ b.Tabs.length := hi
  replace hP : Ext S Si ∧ Fr S.length Si (remAt b ext i).d [.int .i64 b.Key, c1, ci, d3, c4, d5, d6, .int .i64 b.Now] := hP
  obtain ⟨hE, hF⟩ := hP
  have hlen := remAt_len b ext i hi
  have ti := t1.ext hE
  have oi : Rd Si [.sl 6 ((remAt b ext i).Tabs.map GTab.d)] [c1] := hF.rdAt (o := 1) rfl rfl
  by_cases hlt : i < b.Tabs.length
  · have hlt0 : 0 ≤ ((i : Nat) : Int) ∧ ((i : Nat) : Int).toNat < b.Tabs.length := ⟨by omega, by rw [Int.toNat_natCast]; exact hlt⟩
    have hlt1 : 0 ≤ ((i : Nat) : Int) ∧ ((i : Nat) : Int).toNat < (remAt b ext i).Tabs.length := by rw [hlen]; exact hlt0
    have hlt2 : 0 ≤ ((i : Nat) : Int) ∧ ((i : Nat) : Int).toNat < ((remAt b ext i).Tabs.map GTab.d).length := by rw [List.length_map]; exact hlt1
    obtain ⟨tcs, htr, htld⟩ := rd_loadx ti hlt0
    have htrR := htr
    obtain ⟨_, _, _, rfl, _, _, _⟩ := GTab.inv htr
    have hzt : szL (b.Tabs[((i : Nat) : Int).toNat]'hlt0.2).d ≤ szL.szLL (b.Tabs.map GTab.d) := szLL_mem (f := GTab.d) (List.getElem_mem hlt0.2)
    repeat' ((conv => whnf) <;> first
     | (refine rd_lenm oi ?_; intro hml2; rw [hlen]) | (refine rI oi rf hlt1 ?_) | (refine rI ti rf hlt0 ?_) | refine htld _ (by first | assumption | exact Ext.refl _) _ ?_ | rw [wrapI_i64 (by omega)] | (show CondP _ _ _; refine cS ?_) | refine cD (fun _ => ?_) fun _ => ?_ | refine cE (fun _ => ?_) fun _ => ?_ | refine cT ?_ | refine cF ?_ | refine cN (fun _ => ?_) fun _ => ?_ | refine cI (fun _ => ?_) fun _ => ?_ | (refine callP_eq (ev_sPackOf _ _ _ _ rdcA) ?_) | refine rE fun hml => ?_ | refine rI rdA rf ix ?_ | (refine rd_loadm (f := GPackage.d) rdA ix ?_; intro _ hcs; obtain ⟨_, _, _, _, rfl, _, _, _, _⟩ := GPackage.inv hcs) | (refine rd_loadm (f := GTab.d) rdA ix ?_; intro _ hcs; obtain ⟨_, _, _, rfl, _, _, _⟩ := GTab.inv hcs) | refine nP ?_ | refine draw_intro 62 [.fl 0, .fl 1, .fl 2, .fl 3, .fl 4, .fl 5, .fl 6, .fl 7, .fl 8, .st 9 [0, 1, 2], .fl 10, .st 11 []] (by rfl) (by kernel_rfl) ?_ | refine And.intro ?_ ?_)
    all_goals try (exfalso; omega)
    (conv => whnf)
    refine callP_intro (ev_sTabWithout _ ext _ _ htrR (by omega)) ?_; rintro _ S7 ⟨e7, w1, w2, w3, rfl, f7⟩
    have J := hF.join e7 f7 hE.len
    have E7 := hE.trans e7
    have oj := oi.ext e7
    repeat' ((conv => whnf) <;> first
     | (refine rI oj rf hlt1 ?_) | rw [wrapI_i64 (by omega)] | (show CondP _ _ _; refine cS ?_) | refine cD (fun _ => ?_) fun _ => ?_ | refine cE (fun _ => ?_) fun _ => ?_ | refine cT ?_ | refine cF ?_ | refine cN (fun _ => ?_) fun _ => ?_ | refine cI (fun _ => ?_) fun _ => ?_ | (refine callP_eq (ev_sPackOf _ _ _ _ rdcA) ?_) | refine rE fun hml => ?_ | refine rI rdA rf ix ?_ | (refine rd_loadm (f := GPackage.d) rdA ix ?_; intro _ hcs; obtain ⟨_, _, _, _, rfl, _, _, _, _⟩ := GPackage.inv hcs) | (refine rd_loadm (f := GTab.d) rdA ix ?_; intro _ hcs; obtain ⟨_, _, _, rfl, _, _, _⟩ := GTab.inv hcs) | refine nP ?_ | refine draw_intro 62 [.fl 0, .fl 1, .fl 2, .fl 3, .fl 4, .fl 5, .fl 6, .fl 7, .fl 8, .st 9 [0, 1, 2], .fl 10, .st 11 []] (by rfl) (by kernel_rfl) ?_ | (refine fr_stoMv (q := 1) (ds := (remAt b ext i).d) (A := []) (B := (b.Tabs[i]).d) (Z := []) E7 J rfl rfl rfl hlt2 (by rw [List.nil_append, List.append_nil, Int.toNat_natCast]; exact remAt_tab hlt) (by rfl) (by rfl) (by rfl) ?_; intro S8 e8 f8 l8) | refine And.intro ?_ ?_)
    all_goals try (exfalso; omega)
    refine ⟨⟨(i + 1, S8), by dsimp only; omega, e8, ?_⟩, ?_, rfl, by dsimp only; omega⟩
    · dsimp only
      rw [List.nil_append, List.append_nil] at f8
      have f9 : Fr S.length S8 ((remAt b ext i).d.set 1 (.sl 6 (((remAt b ext i).Tabs.map GTab.d).set i (tabWithout (b.Tabs[i]) ext).d))) [.int .i64 b.Key, c1, ci, d3, c4, d5, d6, .int .i64 b.Now] := f8
      rw [remAt_set hlt] at f9
      exact f9
    · (conv => whnf); repeat' (first | exact trivial | exact rfl | apply And.intro)
  · have hie : i = b.Tabs.length := by omega
    subst hie
    rw [remAt_all] at hF
    repeat' ((conv => whnf) <;> first
     | (refine rd_lenm oi ?_; intro hml2; rw [hlen]) | rw [wrapI_i64 (by omega)] | (show CondP _ _ _; refine cS ?_) | refine cD (fun _ => ?_) fun _ => ?_ | refine cE (fun _ => ?_) fun _ => ?_ | refine cT ?_ | refine cF ?_ | refine cN (fun _ => ?_) fun _ => ?_ | refine cI (fun _ => ?_) fun _ => ?_ | (refine callP_intro (ev_l32Copy _ _ _ rdcA (by (first | omega | exact sz_at hz om | (simp only [szL]; omega)))) ?_; rintro _ Sn ⟨hEn, _, _, _, _, _, _, rfl, hFn⟩) | (refine callP_eq (ev_sPackOf _ _ _ _ rdcA) ?_) | (refine callP_intro (ev_sDropStored _ _ _ _ rdA om) ?_; rintro _ Sn ⟨hEn, cn, rfl, hFn⟩) | (refine callP_intro (ev_sTabWithout _ _ _ _ rdcA (by (first | omega | exact sz_at hz om | (simp only [szL]; omega)))) ?_; rintro _ Sn ⟨hEn, _, _, _, rfl, hFn⟩) | refine rE fun hml => ?_ | refine rI rdA rf ix ?_ | (refine rd_loadm (f := GPackage.d) rdA ix ?_; intro _ hcs; obtain ⟨_, _, _, _, rfl, _, _, _, _⟩ := GPackage.inv hcs) | (refine rd_loadm (f := GTab.d) rdA ix ?_; intro _ hcs; obtain ⟨_, _, _, rfl, _, _, _⟩ := GTab.inv hcs) | refine nP ?_ | refine draw_intro 62 [.fl 0, .fl 1, .fl 2, .fl 3, .fl 4, .fl 5, .fl 6, .fl 7, .fl 8, .st 9 [0, 1, 2], .fl 10, .st 11 []] (by rfl) (by kernel_rfl) ?_ | refine And.intro ?_ ?_)
    all_goals first
      | exact hE
      | exact ⟨_, _, _, _, _, _, rfl, hF⟩
      | (exfalso; omega)
set_option maxHeartbeats 4000000 in
theorem ev_iStepRemove (b : GBrowser) (ext : Int) (cs : List C) (S : Store) (h : Rd S b.d cs) (hz : szL b.d ≤ 1048576) : EvA Tryz.prog 11 [.agg cs, .s (.int .i64 ext)] S (fun r S' => Ext S S' ∧ ∃ c1 c2 c3 c4 c5 c6, r = .tup [.agg [.int .i64 (stepRemove b ext).1.Key, c1, c2, c3, c4, c5, c6, .int .i64 (stepRemove b ext).1.Now], .s (.bool (stepRemove b ext).2)] ∧ Fr S.length S' (stepRemove b ext).1.d [.int .i64 (stepRemove b ext).1.Key, c1, c2, c3, c4, c5, c6, .int .i64 (stepRemove b ext).1.Now]) := by
  have hzs := hz
  simp only [GBrowser.d, szL, List.length_map] at hzs
  have hfg := List.length_filter_le (gBut ext) b.Grants
  have hfr := List.length_filter_le (rBut ext) b.Rules
  have hfs := List.length_filter_le (stNot ext) b.Store
  have hB := h
  obtain ⟨b1, b2, b3, b4, b5, b6, rfl, t1, t2, t3, t4, t5, t6⟩ := GBrowser.inv h
  refine evA_intro tok Tryz.func11 (by kernel_rfl) rfl ?_
  repeat' ((conv => whnf) <;> first
   | rw [wrapI_i64 (by omega)] | (show CondP _ _ _; refine cS ?_) | refine cD (fun _ => ?_) fun _ => ?_ | refine cE (fun _ => ?_) fun _ => ?_ | refine cT ?_ | refine cF ?_ | refine cN (fun _ => ?_) fun _ => ?_ | refine cI (fun _ => ?_) fun _ => ?_ | (refine callP_eq (ev_iPackOf _ _ _ _ rdcA) ?_) | refine rE fun hml => ?_ | refine rI rdA rf ix ?_ | (refine rd_loadm (f := GTab.d) rdA ix ?_; intro _ hcs; obtain ⟨_, _, _, rfl, _, _, _⟩ := GTab.inv hcs) | refine nP ?_ | refine draw_intro 48 [.fl 0, .fl 1, .fl 2, .fl 3, .fl 4, .st 5 [0, 1, 2], .fl 6, .st 7 []] (by rfl) (by kernel_rfl) ?_ | refine And.intro ?_ ?_)
  (conv => whnf)
  refine callP_intro (ev_cloneBrowser b _ _ hB (by omega)) ?_; rintro _ S0 ⟨e0, c1, c2, c3, c4, c5, c6, rfl, f0⟩
  by_cases hp : ¬ 0 ≤ packOf b ext
  · rw [rem_no hp]
    repeat' ((conv => whnf) <;> first
     | (refine callP_eq (ev_iPackOf b ext _ _ (hB.ext e0)) ?_) | rw [wrapI_i64 (by omega)] | (show CondP _ _ _; refine cS ?_) | refine cD (fun _ => ?_) fun _ => ?_ | refine cE (fun _ => ?_) fun _ => ?_ | refine cT ?_ | refine cF ?_ | refine cN (fun _ => ?_) fun _ => ?_ | refine cI (fun _ => ?_) fun _ => ?_ | (refine callP_intro (ev_cloneBrowser _ _ _ rdcA (by (first | omega | exact sz_at hz om | (simp only [szL]; omega)))) ?_; rintro _ Sn ⟨hEn, _, _, _, _, _, _, rfl, hFn⟩) | (refine callP_eq (ev_iPackOf _ _ _ _ rdcA) ?_) | (refine callP_intro (ev_iDropStored _ _ _ _ rdA om) ?_; rintro _ Sn ⟨hEn, cn, rfl, hFn⟩) | (refine callP_intro (ev_iTabWithout _ _ _ _ rdcA (by (first | omega | exact sz_at hz om | (simp only [szL]; omega)))) ?_; rintro _ Sn ⟨hEn, _, _, _, rfl, hFn⟩) | refine rE fun hml => ?_ | refine rI rdA rf ix ?_ | (refine rd_loadm (f := GTab.d) rdA ix ?_; intro _ hcs; obtain ⟨_, _, _, rfl, _, _, _⟩ := GTab.inv hcs) | refine nP ?_ | refine draw_intro 48 [.fl 0, .fl 1, .fl 2, .fl 3, .fl 4, .st 5 [0, 1, 2], .fl 6, .st 7 []] (by rfl) (by kernel_rfl) ?_ | refine And.intro ?_ ?_)
    all_goals first
      | exact e0
      | exact ⟨_, _, _, _, _, _, rfl, f0⟩
      | (exfalso; simp_all; done)
      | (exfalso; omega)
  replace hp := Decidable.not_not.1 hp
  rw [rem_yes hp]
  have hpl := (packOf_lt b ext).2
  obtain ⟨kn, hkn⟩ := Int.eq_ofNat_of_zero_le hp
  have hkt : (packOf b ext).toNat = kn := by omega
  have hkl : kn < b.Packs.length := by omega
  have hdel := delPackage_raw.frAt (o := 2) (xs := b.Packs.map GPackage.d) (i := kn) (by decide) delPackage_fok e0 f0 rfl rfl (by rw [List.length_map]; exact hkl)
  rw [← hkn] at hdel
  repeat' ((conv => whnf) <;> first
   | (refine callP_intro hdel ?_; rintro _ SB ⟨hEB0, cB, rfl, J3⟩) | (refine callP_eq (ev_iPackOf b ext _ _ (hB.ext e0)) ?_) | rw [wrapI_i64 (by omega)] | (show CondP _ _ _; refine cS ?_) | refine cD (fun _ => ?_) fun _ => ?_ | refine cE (fun _ => ?_) fun _ => ?_ | refine cT ?_ | refine cF ?_ | refine cN (fun _ => ?_) fun _ => ?_ | refine cI (fun _ => ?_) fun _ => ?_ | (refine callP_eq (ev_iPackOf _ _ _ _ rdcA) ?_) | refine rE fun hml => ?_ | refine rI rdA rf ix ?_ | (refine rd_loadm (f := GTab.d) rdA ix ?_; intro _ hcs; obtain ⟨_, _, _, rfl, _, _, _⟩ := GTab.inv hcs) | refine nP ?_ | refine draw_intro 48 [.fl 0, .fl 1, .fl 2, .fl 3, .fl 4, .st 5 [0, 1, 2], .fl 6, .st 7 []] (by rfl) (by kernel_rfl) ?_ | refine And.intro ?_ ?_)
  all_goals try (exfalso; omega)
  rw [← List.map_take, ← List.map_drop, ← List.map_append] at J3
  have EB := hEB0
  have pg := t3.ext EB
  repeat' ((conv => whnf) <;> first
   | rw [wrapI_i64 (by omega)] | (show CondP _ _ _; refine cS ?_) | refine cD (fun _ => ?_) fun _ => ?_ | refine cE (fun _ => ?_) fun _ => ?_ | refine cT ?_ | refine cF ?_ | refine cN (fun _ => ?_) fun _ => ?_ | refine cI (fun _ => ?_) fun _ => ?_ | (refine callP_eq (ev_iPackOf _ _ _ _ rdcA) ?_) | refine rE fun hml => ?_ | refine rI rdA rf ix ?_ | (refine rd_loadm (f := GTab.d) rdA ix ?_; intro _ hcs; obtain ⟨_, _, _, rfl, _, _, _⟩ := GTab.inv hcs) | refine nP ?_ | refine draw_intro 48 [.fl 0, .fl 1, .fl 2, .fl 3, .fl 4, .st 5 [0, 1, 2], .fl 6, .st 7 []] (by rfl) (by kernel_rfl) ?_ | refine And.intro ?_ ?_)
  (conv => whnf)
  refine callP_intro (ev_grantsBut b.Grants ext _ _ pg (by omega)) ?_; rintro _ S4 ⟨e4, d3, rfl, f4⟩
  have E4 := EB.trans e4
  have J4 := J3.setAt (o := 3) e4 f4 EB.len (by show 3 < 8; decide)
  have pr := t5.ext E4
  repeat' ((conv => whnf) <;> first
   | rw [wrapI_i64 (by omega)] | (show CondP _ _ _; refine cS ?_) | refine cD (fun _ => ?_) fun _ => ?_ | refine cE (fun _ => ?_) fun _ => ?_ | refine cT ?_ | refine cF ?_ | refine cN (fun _ => ?_) fun _ => ?_ | refine cI (fun _ => ?_) fun _ => ?_ | (refine callP_eq (ev_iPackOf _ _ _ _ rdcA) ?_) | refine rE fun hml => ?_ | refine rI rdA rf ix ?_ | (refine rd_loadm (f := GTab.d) rdA ix ?_; intro _ hcs; obtain ⟨_, _, _, rfl, _, _, _⟩ := GTab.inv hcs) | refine nP ?_ | refine draw_intro 48 [.fl 0, .fl 1, .fl 2, .fl 3, .fl 4, .st 5 [0, 1, 2], .fl 6, .st 7 []] (by rfl) (by kernel_rfl) ?_ | refine And.intro ?_ ?_)
  (conv => whnf)
  refine callP_intro (ev_iDropRules b.Rules ext _ _ pr (by omega)) ?_; rintro _ S5 ⟨e5, d5, rfl, f5⟩
  have E5 := E4.trans e5
  have J5 := J4.setAt (o := 5) e5 f5 E4.len (by show 5 < 8; decide)
  have ps := t6.ext E5
  repeat' ((conv => whnf) <;> first
   | rw [wrapI_i64 (by omega)] | (show CondP _ _ _; refine cS ?_) | refine cD (fun _ => ?_) fun _ => ?_ | refine cE (fun _ => ?_) fun _ => ?_ | refine cT ?_ | refine cF ?_ | refine cN (fun _ => ?_) fun _ => ?_ | refine cI (fun _ => ?_) fun _ => ?_ | (refine callP_eq (ev_iPackOf _ _ _ _ rdcA) ?_) | refine rE fun hml => ?_ | refine rI rdA rf ix ?_ | (refine rd_loadm (f := GTab.d) rdA ix ?_; intro _ hcs; obtain ⟨_, _, _, rfl, _, _, _⟩ := GTab.inv hcs) | refine nP ?_ | refine draw_intro 48 [.fl 0, .fl 1, .fl 2, .fl 3, .fl 4, .st 5 [0, 1, 2], .fl 6, .st 7 []] (by rfl) (by kernel_rfl) ?_ | refine And.intro ?_ ?_)
  (conv => whnf)
  refine callP_intro (ev_iDropStored b.Store ext _ _ ps (by omega)) ?_; rintro _ S6 ⟨e6, d6, rfl, f6⟩
  have E6 := E5.trans e6
  have J6 : Fr S.length S6 (remAt b ext 0).d [.int .i64 b.Key, c1, cB, d3, c4, d5, d6, .int .i64 b.Now] := by
    have J := J5.setAt (o := 6) e6 f6 E5.len (by show 6 < 8; decide)
    simp only [remAt, GBrowser.d, hkt]
    exact J
  have pt := t1.ext E6
  repeat' ((conv => whnf) <;> first
   | rw [wrapI_i64 (by omega)] | (show CondP _ _ _; refine cS ?_) | refine cD (fun _ => ?_) fun _ => ?_ | refine cE (fun _ => ?_) fun _ => ?_ | refine cT ?_ | refine cF ?_ | refine cN (fun _ => ?_) fun _ => ?_ | refine cI (fun _ => ?_) fun _ => ?_ | (refine callP_eq (ev_iPackOf _ _ _ _ rdcA) ?_) | refine rE fun hml => ?_ | refine rI rdA rf ix ?_ | (refine rd_loadm (f := GTab.d) rdA ix ?_; intro _ hcs; obtain ⟨_, _, _, rfl, _, _, _⟩ := GTab.inv hcs) | refine nP ?_ | refine draw_intro 48 [.fl 0, .fl 1, .fl 2, .fl 3, .fl 4, .st 5 [0, 1, 2], .fl 6, .st 7 []] (by rfl) (by kernel_rfl) ?_ | (refine rd_lenm pt ?_; intro hml; rw [maxLen_eq] at hml) | refine And.intro ?_ ?_)
  refine loop_intro {q : Nat × Store // q.1 ≤ b.Tabs.length ∧ Ext S q.2 ∧ Fr S.length q.2 (remAt b ext q.1).d [.int .i64 b.Key, c1, cB, d3, c4, d5, d6, .int .i64 b.Now]} [8, 9, 43, 44, 45, 46, 47, 48, 49, 50, 51, 52, 53, 54, 55] (fun zb => [(43, .v (.s (.int .i64 zb.1.1)))]) (fun zb => zb.1.2) (fun zb => b.Tabs.length - zb.1.1) ⟨(0, _), Nat.zero_le _, ⟨E6, J6⟩⟩ ?_ rfl ?_
  · (conv => whnf); repeat' (first | exact trivial | exact rfl | apply And.intro)
  rintro ⟨⟨i, Si⟩, hi, hP⟩; dsimp only
  replace hi : i ≤ b.Tabs.length := hi
  replace hP : Ext S Si ∧ Fr S.length Si (remAt b ext i).d [.int .i64 b.Key, c1, cB, d3, c4, d5, d6, .int .i64 b.Now] := hP
  obtain ⟨hE, hF⟩ := hP
  have hlen := remAt_len b ext i hi
  have ti := t1.ext hE
  have oi : Rd Si [.sl 6 ((remAt b ext i).Tabs.map GTab.d)] [c1] := hF.rdAt (o := 1) rfl rfl
  by_cases hlt : i < b.Tabs.length
  · have hlt0 : 0 ≤ ((i : Nat) : Int) ∧ ((i : Nat) : Int).toNat < b.Tabs.length := ⟨by omega, by rw [Int.toNat_natCast]; exact hlt⟩
    have hlt1 : 0 ≤ ((i : Nat) : Int) ∧ ((i : Nat) : Int).toNat < (remAt b ext i).Tabs.length := by rw [hlen]; exact hlt0
    have hlt2 : 0 ≤ ((i : Nat) : Int) ∧ ((i : Nat) : Int).toNat < ((remAt b ext i).Tabs.map GTab.d).length := by rw [List.length_map]; exact hlt1
    obtain ⟨tcs, htr, htld⟩ := rd_loadx ti hlt0
    have htrR := htr
    obtain ⟨_, _, _, rfl, _, _, _⟩ := GTab.inv htr
    have hzt : szL (b.Tabs[((i : Nat) : Int).toNat]'hlt0.2).d ≤ szL.szLL (b.Tabs.map GTab.d) := szLL_mem (f := GTab.d) (List.getElem_mem hlt0.2)
    repeat' ((conv => whnf) <;> first
     | (refine rd_lenm oi ?_; intro hml2; rw [hlen]) | (refine rI oi rf hlt1 ?_) | (refine rI ti rf hlt0 ?_) | refine htld _ (by first | assumption | exact Ext.refl _) _ ?_ | rw [wrapI_i64 (by omega)] | (show CondP _ _ _; refine cS ?_) | refine cD (fun _ => ?_) fun _ => ?_ | refine cE (fun _ => ?_) fun _ => ?_ | refine cT ?_ | refine cF ?_ | refine cN (fun _ => ?_) fun _ => ?_ | refine cI (fun _ => ?_) fun _ => ?_ | (refine callP_eq (ev_iPackOf _ _ _ _ rdcA) ?_) | refine rE fun hml => ?_ | refine rI rdA rf ix ?_ | (refine rd_loadm (f := GTab.d) rdA ix ?_; intro _ hcs; obtain ⟨_, _, _, rfl, _, _, _⟩ := GTab.inv hcs) | refine nP ?_ | refine draw_intro 48 [.fl 0, .fl 1, .fl 2, .fl 3, .fl 4, .st 5 [0, 1, 2], .fl 6, .st 7 []] (by rfl) (by kernel_rfl) ?_ | refine And.intro ?_ ?_)
    all_goals try (exfalso; omega)
    (conv => whnf)
    refine callP_intro (ev_iTabWithout _ ext _ _ htrR (by omega)) ?_; rintro _ S7 ⟨e7, w1, w2, w3, rfl, f7⟩
    have J := hF.join e7 f7 hE.len
    have E7 := hE.trans e7
    have oj := oi.ext e7
    repeat' ((conv => whnf) <;> first
     | (refine rI oj rf hlt1 ?_) | rw [wrapI_i64 (by omega)] | (show CondP _ _ _; refine cS ?_) | refine cD (fun _ => ?_) fun _ => ?_ | refine cE (fun _ => ?_) fun _ => ?_ | refine cT ?_ | refine cF ?_ | refine cN (fun _ => ?_) fun _ => ?_ | refine cI (fun _ => ?_) fun _ => ?_ | (refine callP_eq (ev_iPackOf _ _ _ _ rdcA) ?_) | refine rE fun hml => ?_ | refine rI rdA rf ix ?_ | (refine rd_loadm (f := GTab.d) rdA ix ?_; intro _ hcs; obtain ⟨_, _, _, rfl, _, _, _⟩ := GTab.inv hcs) | refine nP ?_ | refine draw_intro 48 [.fl 0, .fl 1, .fl 2, .fl 3, .fl 4, .st 5 [0, 1, 2], .fl 6, .st 7 []] (by rfl) (by kernel_rfl) ?_ | (refine fr_stoMv (q := 1) (ds := (remAt b ext i).d) (A := []) (B := (b.Tabs[i]).d) (Z := []) E7 J rfl rfl rfl hlt2 (by rw [List.nil_append, List.append_nil, Int.toNat_natCast]; exact remAt_tab hlt) (by rfl) (by rfl) (by rfl) ?_; intro S8 e8 f8 l8) | refine And.intro ?_ ?_)
    all_goals try (exfalso; omega)
    refine ⟨⟨(i + 1, S8), by dsimp only; omega, e8, ?_⟩, ?_, rfl, by dsimp only; omega⟩
    · dsimp only
      rw [List.nil_append, List.append_nil] at f8
      have f9 : Fr S.length S8 ((remAt b ext i).d.set 1 (.sl 6 (((remAt b ext i).Tabs.map GTab.d).set i (tabWithout (b.Tabs[i]) ext).d))) [.int .i64 b.Key, c1, cB, d3, c4, d5, d6, .int .i64 b.Now] := f8
      rw [remAt_set hlt] at f9
      exact f9
    · (conv => whnf); repeat' (first | exact trivial | exact rfl | apply And.intro)
  · have hie : i = b.Tabs.length := by omega
    subst hie
    rw [remAt_all] at hF
    repeat' ((conv => whnf) <;> first
     | (refine rd_lenm oi ?_; intro hml2; rw [hlen]) | rw [wrapI_i64 (by omega)] | (show CondP _ _ _; refine cS ?_) | refine cD (fun _ => ?_) fun _ => ?_ | refine cE (fun _ => ?_) fun _ => ?_ | refine cT ?_ | refine cF ?_ | refine cN (fun _ => ?_) fun _ => ?_ | refine cI (fun _ => ?_) fun _ => ?_ | (refine callP_intro (ev_cloneBrowser _ _ _ rdcA (by (first | omega | exact sz_at hz om | (simp only [szL]; omega)))) ?_; rintro _ Sn ⟨hEn, _, _, _, _, _, _, rfl, hFn⟩) | (refine callP_eq (ev_iPackOf _ _ _ _ rdcA) ?_) | (refine callP_intro (ev_iDropStored _ _ _ _ rdA om) ?_; rintro _ Sn ⟨hEn, cn, rfl, hFn⟩) | (refine callP_intro (ev_iTabWithout _ _ _ _ rdcA (by (first | omega | exact sz_at hz om | (simp only [szL]; omega)))) ?_; rintro _ Sn ⟨hEn, _, _, _, rfl, hFn⟩) | refine rE fun hml => ?_ | refine rI rdA rf ix ?_ | (refine rd_loadm (f := GTab.d) rdA ix ?_; intro _ hcs; obtain ⟨_, _, _, rfl, _, _, _⟩ := GTab.inv hcs) | refine nP ?_ | refine draw_intro 48 [.fl 0, .fl 1, .fl 2, .fl 3, .fl 4, .st 5 [0, 1, 2], .fl 6, .st 7 []] (by rfl) (by kernel_rfl) ?_ | refine And.intro ?_ ?_)
    all_goals first
      | exact hE
      | exact ⟨_, _, _, _, _, _, rfl, hF⟩
      | (exfalso; omega)
end Go.Proofs.YtibglkkmjigooaaGreat
