/- A text of the proof. slices.Delete at []Package walked. -/
import Derived.Test.YtockphlpokoohaaGreatKe44
import Derived.Test.YtockphlpokoohaaGreatKe33
import Derived.Test.YtockphlpokoohaaGreatKe34
import Derived.Deep.LoopGhost
import Derived.Deep.RegionLaw
import Derived.Lib.Walk
import Derived.WalkKit
import Derived.Lib.SliceRun
namespace Go.Proofs.YtockphlpokoohaaGreat
open Go Go.ChangeShapes Go.WideShapes Go.ChangeAt Go.RowKit
set_option linter.unusedVariables false
set_option linter.unusedSimpArgs false
set_option maxRecDepth 100000
def insIx (l : List GPackage) (e : Int) : Nat := (l.takeWhile (fun q => decide (q.Ext < e))).length
theorem insIx_le (l : List GPackage) (e : Int) : insIx l e ≤ l.length := List.IsPrefix.length_le (List.takeWhile_prefix _)
theorem insIx_eq {e : Int} : ∀ {l : List GPackage} {i : Nat}, i ≤ l.length → (∀ j (h : j < l.length), j < i → (l[j]).Ext < e) → (∀ h : i < l.length, ¬ (l[i]).Ext < e) → insIx l e = i
  | [], i, hi, _, _ => by simp at hi; subst hi; rfl
  | q :: l, 0, _, _, hx => by
    have := hx (by simp)
    simp only [List.getElem_cons_zero] at this
    simp [insIx, List.takeWhile, this]
  | q :: l, i + 1, hi, hb, hx => by
    have h0 := hb 0 (by simp) (by omega)
    simp only [List.getElem_cons_zero] at h0
    have ih := insIx_eq (l := l) (i := i) (e := e) (by simpa using hi) (fun j h hj => by have := hb (j + 1) (by simpa using h) (by omega); simpa using this) (fun h => by have := hx (by simpa using h); simpa using this)
    simp only [insIx] at ih ⊢
    rw [List.takeWhile_cons_of_pos (by simpa using h0), List.length_cons, ih]
def instTo (b : GBrowser) (p : GPackage) : GBrowser := { b with Packs := b.Packs.take (insIx b.Packs p.Ext) ++ p :: b.Packs.drop (insIx b.Packs p.Ext), Grants := b.Grants ++ p.Grants, Rules := b.Rules ++ p.Rules }
def stepInstall (b : GBrowser) (p : GPackage) : GBrowser × Bool :=
  if review b.Key p = 0 ∧ ¬ 0 ≤ packOf b p.Ext ∧ isBrowser (instTo b p) = true then (instTo b p, true) else (b, false)
theorem szLL_ins {α : Type} {f : α → List D} (a : α) (l : List α) (i : Nat) : szL.szLL ((l.take i ++ a :: l.drop i).map f) = szL.szLL (l.map f) + szL (f a) := by
  have happ : ∀ (x y : List (List D)), szL.szLL (x ++ y) = szL.szLL x + szL.szLL y := by
    intro x y
    induction x with
    | nil => rw [List.nil_append, szL.szLL, Nat.zero_add]
    | cons z x ih => rw [List.cons_append, szL.szLL, szL.szLL, ih]; omega
  have h2 : szL.szLL (l.map f) = szL.szLL ((l.take i).map f) + szL.szLL ((l.drop i).map f) := by rw [← happ, ← List.map_append, List.take_append_drop]
  rw [List.map_append, happ, List.map_cons, szL.szLL, h2]; omega
theorem szInstTo (b : GBrowser) (p : GPackage) : szL (instTo b p).d ≤ szL b.d + 2 * szL p.d + 1 := by
  have h1 := szLL_ins (f := GPackage.d) p b.Packs (insIx b.Packs p.Ext)
  have h2 := insIx_le b.Packs p.Ext
  have h4 := szPku p
  rw [szBru, szBru]
  simp only [instTo, List.length_append, List.length_cons, List.length_take, List.length_drop, h1]
  omega
theorem ins_no1 {b : GBrowser} {p : GPackage} (h : ¬ review b.Key p = 0) : stepInstall b p = (b, false) := if_neg fun hh => h hh.1
theorem ins_no2 {b : GBrowser} {p : GPackage} (h : 0 ≤ packOf b p.Ext) : stepInstall b p = (b, false) := if_neg fun hh => hh.2.1 h
theorem ins_no3 {b : GBrowser} {p : GPackage} (h : isBrowser (instTo b p) = false) : stepInstall b p = (b, false) := if_neg fun hh => (by rw [h] at hh; cases hh.2.2)
theorem ins_yes {b : GBrowser} {p : GPackage} (h1 : review b.Key p = 0) (h2 : ¬ 0 ≤ packOf b p.Ext) (h3 : isBrowser (instTo b p) = true) : stepInstall b p = (instTo b p, true) := if_pos ⟨h1, h2, h3⟩
theorem ins_rep {S : Store} {l : List GPackage} {p : GPackage} {rs rows : List (List C)} {js jy : List Nat} {pc : List C} {i : Nat} (hi : i ≤ l.length) (he : rows = rs) (h : Rep2 true S (l.map GPackage.d) rows js) (hy : RepL true S p.d pc jy) (hn : (js ++ jy).Nodup) :
    ∃ js', Rep2 true S ((l.take i ++ p :: l.drop i).map GPackage.d) ((rs.take i ++ [pc]) ++ rs.drop i) js' ∧ js'.Nodup ∧ ∀ x ∈ js', x ∈ js ∨ x ∈ jy := by
  subst he
  rw [show l.map GPackage.d = (l.take i).map GPackage.d ++ (l.drop i).map GPackage.d by rw [← List.map_append, List.take_append_drop]] at h
  obtain ⟨r1, r2, j1, j2, g1, g2, g3, g4⟩ := h.split
  have hr1 : r1.length = i := by rw [g3.len, List.length_map, List.length_take]; omega
  have t1 : rows.take i = r1 := by rw [g1]; exact List.take_left' hr1
  have t2 : rows.drop i = r2 := by rw [g1]; exact List.drop_left' hr1
  rw [t1, t2]
  subst g2
  simp only [List.nodup_append, List.mem_append] at hn
  obtain ⟨⟨n1, n2, n3⟩, n4, n5⟩ := hn
  refine ⟨j1 ++ (jy ++ j2), ?_, ?_, fun x hx => ?_⟩
  · rw [List.map_append, List.map_cons, List.append_assoc, List.singleton_append]
    exact g3.append (by rw [rep2_cons]; exact ⟨pc, r2, jy, j2, rfl, rfl, hy, g4⟩)
  · simp only [List.nodup_append, List.mem_append]
    refine ⟨n1, ⟨n4, n2, fun a ha b hb e => n5 b (.inr hb) a ha e.symm⟩, fun a ha b hb => ?_⟩
    rcases hb with hb | hb
    · exact n5 a (.inl ha) b hb
    · exact n3 a ha b hb
  · simp only [List.mem_append] at hx ⊢
    rcases hx with hx | hx | hx
    · exact .inl (.inl hx)
    · exact .inr hx
    · exact .inl (.inr hx)
set_option maxHeartbeats 4000000 in
theorem ev_sStepInstall (b : GBrowser) (p : GPackage) (cs cs' : List C) (S : Store) (h : Rd S b.d cs) (h' : Rd S p.d cs') (hz : szL b.d ≤ 1048576) (hz' : szL p.d ≤ 1048576) : EvA Tryz.prog 170 [.agg cs, .agg cs'] S (fun r S' => Ext S S' ∧ ∃ c1 c2 c3 c4 c5 c6, r = .tup [.agg [.int .i64 (stepInstall b p).1.Key, c1, c2, c3, c4, c5, c6, .int .i64 (stepInstall b p).1.Now], .s (.bool (stepInstall b p).2)] ∧ Fr S.length S' (stepInstall b p).1.d [.int .i64 (stepInstall b p).1.Key, c1, c2, c3, c4, c5, c6, .int .i64 (stepInstall b p).1.Now]) := by
  have hzs := hz
  simp only [GBrowser.d, szL, List.length_map] at hzs
  have hzq := szPku p
  have hzu := szInstTo b p
  have hB := h
  have hP' := h'
  obtain ⟨_, _, _, _, rfl, p1, p2, p3, p4⟩ := GPackage.inv h'
  obtain ⟨b1, b2, b3, b4, b5, b6, rfl, t1, t2, t3, t4, t5, t6⟩ := GBrowser.inv h
  refine evA_intro tok Tryz.func170 (by kernel_rfl) rfl ?_
  repeat' ((conv => whnf) <;> first
   | rw [wrapI_i64 (by omega)] | (show CondP _ _ _; refine cS ?_) | refine cD (fun _ => ?_) fun _ => ?_ | refine cE (fun _ => ?_) fun _ => ?_ | refine cT ?_ | refine cF ?_ | refine cN (fun _ => ?_) fun _ => ?_ | refine cI (fun _ => ?_) fun _ => ?_ | (refine callP_eq (ev_sPackOf _ _ _ _ rdcA) ?_) | refine callP_eq (ev_sIsBrowser _ _ _ rdcA (by first | assumption | omega)) ?_ | refine rE fun hml => ?_ | refine rI rdA rf ix ?_ | (refine rd_loadm (f := GPackage.d) rdA ix ?_; intro _ hcs; obtain ⟨_, _, _, _, rfl, _, _, _, _⟩ := GPackage.inv hcs) | (refine rd_slif rdA rf om ?_; intro cSl hSl) | refine nP ?_ | refine draw_intro 25 [.fl 0, .fl 1, .fl 2, .fl 3, .fl 4, .fl 5, .fl 6, .fl 7, .fl 8, .fl 9, .fl 10, .fl 11, .fl 12, .fl 13, .fl 14, .fl 15] (by rfl) (by kernel_rfl) ?_ | refine draw_intro 51 [.fl 0, .fl 1, .fl 5, .fl 6, .fl 7, .fl 8, .st 2 [0, 5, 6, 7, 8], .fl 3, .st 4 [5, 6, 7, 8], .st 9 [], .fl 10, .st 11 []] (by rfl) (by kernel_rfl) ?_ | refine And.intro ?_ ?_)
  (conv => whnf)
  refine callP_intro (ev_l32Copy b _ _ hB (by omega)) ?_; rintro _ S0 ⟨e0, c1, c2, c3, c4, c5, c6, rfl, f0⟩
  by_cases hr : ¬ review b.Key p = 0
  · rw [ins_no1 hr]
    repeat' ((conv => whnf) <;> first
     | (refine callP_eq (ev_sReview b.Key p _ _ (hP'.ext e0) om) ?_) | rw [wrapI_i64 (by omega)] | (show CondP _ _ _; refine cS ?_) | refine cD (fun _ => ?_) fun _ => ?_ | refine cE (fun _ => ?_) fun _ => ?_ | refine cT ?_ | refine cF ?_ | refine cN (fun _ => ?_) fun _ => ?_ | refine cI (fun _ => ?_) fun _ => ?_ | (refine callP_intro (ev_l32Copy _ _ _ rdcA (by (first | omega | exact sz_at hz om | (simp only [szL]; omega)))) ?_; rintro _ Sn ⟨hEn, _, _, _, _, _, _, rfl, hFn⟩) | (refine callP_intro (ev_l26Copy _ _ _ rdcA (by (first | omega | exact sz_at hz om | (simp only [szL]; omega)))) ?_; rintro _ Sn ⟨hEn, _, _, _, _, rfl, hFn⟩) | (refine callP_eq (ev_sPackOf _ _ _ _ rdcA) ?_) | refine callP_eq (ev_sIsBrowser _ _ _ rdcA (by first | assumption | omega)) ?_ | refine rE fun hml => ?_ | refine rI rdA rf ix ?_ | (refine rd_loadm (f := GPackage.d) rdA ix ?_; intro _ hcs; obtain ⟨_, _, _, _, rfl, _, _, _, _⟩ := GPackage.inv hcs) | (refine rd_slif rdA rf om ?_; intro cSl hSl) | refine nP ?_ | refine draw_intro 25 [.fl 0, .fl 1, .fl 2, .fl 3, .fl 4, .fl 5, .fl 6, .fl 7, .fl 8, .fl 9, .fl 10, .fl 11, .fl 12, .fl 13, .fl 14, .fl 15] (by rfl) (by kernel_rfl) ?_ | refine draw_intro 51 [.fl 0, .fl 1, .fl 5, .fl 6, .fl 7, .fl 8, .st 2 [0, 5, 6, 7, 8], .fl 3, .st 4 [5, 6, 7, 8], .st 9 [], .fl 10, .st 11 []] (by rfl) (by kernel_rfl) ?_ | refine And.intro ?_ ?_)
    all_goals first
      | exact e0
      | exact ⟨_, _, _, _, _, _, rfl, f0⟩
      | (exfalso; simp_all; done)
  replace hr := Decidable.not_not.1 hr
  by_cases hp : 0 ≤ packOf b p.Ext
  · rw [ins_no2 hp]
    repeat' ((conv => whnf) <;> first
     | (refine callP_eq (ev_sPackOf b p.Ext _ _ (hB.ext e0)) ?_) | (refine callP_eq (ev_sReview b.Key p _ _ (hP'.ext e0) om) ?_) | rw [wrapI_i64 (by omega)] | (show CondP _ _ _; refine cS ?_) | refine cD (fun _ => ?_) fun _ => ?_ | refine cE (fun _ => ?_) fun _ => ?_ | refine cT ?_ | refine cF ?_ | refine cN (fun _ => ?_) fun _ => ?_ | refine cI (fun _ => ?_) fun _ => ?_ | (refine callP_intro (ev_l32Copy _ _ _ rdcA (by (first | omega | exact sz_at hz om | (simp only [szL]; omega)))) ?_; rintro _ Sn ⟨hEn, _, _, _, _, _, _, rfl, hFn⟩) | (refine callP_intro (ev_l26Copy _ _ _ rdcA (by (first | omega | exact sz_at hz om | (simp only [szL]; omega)))) ?_; rintro _ Sn ⟨hEn, _, _, _, _, rfl, hFn⟩) | (refine callP_eq (ev_sPackOf _ _ _ _ rdcA) ?_) | refine callP_eq (ev_sIsBrowser _ _ _ rdcA (by first | assumption | omega)) ?_ | refine rE fun hml => ?_ | refine rI rdA rf ix ?_ | (refine rd_loadm (f := GPackage.d) rdA ix ?_; intro _ hcs; obtain ⟨_, _, _, _, rfl, _, _, _, _⟩ := GPackage.inv hcs) | (refine rd_slif rdA rf om ?_; intro cSl hSl) | refine nP ?_ | refine draw_intro 25 [.fl 0, .fl 1, .fl 2, .fl 3, .fl 4, .fl 5, .fl 6, .fl 7, .fl 8, .fl 9, .fl 10, .fl 11, .fl 12, .fl 13, .fl 14, .fl 15] (by rfl) (by kernel_rfl) ?_ | refine draw_intro 51 [.fl 0, .fl 1, .fl 5, .fl 6, .fl 7, .fl 8, .st 2 [0, 5, 6, 7, 8], .fl 3, .st 4 [5, 6, 7, 8], .st 9 [], .fl 10, .st 11 []] (by rfl) (by kernel_rfl) ?_ | refine And.intro ?_ ?_)
    all_goals first
      | exact e0
      | exact ⟨_, _, _, _, _, _, rfl, f0⟩
      | (exfalso; simp_all; done)
  have r2 : Rd S0 [.sl 8 (b.Packs.map GPackage.d)] [c2] := f0.rdAt (o := 2) rfl rfl
  obtain ⟨rs, hrl, hre, hr8, hrs⟩ := pk_rows r2
  repeat' ((conv => whnf) <;> first
   | (refine callP_eq (ev_sPackOf b p.Ext _ _ (hB.ext e0)) ?_) | (refine callP_eq (ev_sReview b.Key p _ _ (hP'.ext e0) om) ?_) | rw [wrapI_i64 (by omega)] | (show CondP _ _ _; refine cS ?_) | refine cD (fun _ => ?_) fun _ => ?_ | refine cE (fun _ => ?_) fun _ => ?_ | refine cT ?_ | refine cF ?_ | refine cN (fun _ => ?_) fun _ => ?_ | refine cI (fun _ => ?_) fun _ => ?_ | (refine callP_eq (ev_sPackOf _ _ _ _ rdcA) ?_) | refine callP_eq (ev_sIsBrowser _ _ _ rdcA (by first | assumption | omega)) ?_ | refine rE fun hml => ?_ | refine rI rdA rf ix ?_ | (refine rd_loadm (f := GPackage.d) rdA ix ?_; intro _ hcs; obtain ⟨_, _, _, _, rfl, _, _, _, _⟩ := GPackage.inv hcs) | (refine rd_slif rdA rf om ?_; intro cSl hSl) | refine nP ?_ | refine draw_intro 25 [.fl 0, .fl 1, .fl 2, .fl 3, .fl 4, .fl 5, .fl 6, .fl 7, .fl 8, .fl 9, .fl 10, .fl 11, .fl 12, .fl 13, .fl 14, .fl 15] (by rfl) (by kernel_rfl) ?_ | refine draw_intro 51 [.fl 0, .fl 1, .fl 5, .fl 6, .fl 7, .fl 8, .st 2 [0, 5, 6, 7, 8], .fl 3, .st 4 [5, 6, 7, 8], .st 9 [], .fl 10, .st 11 []] (by rfl) (by kernel_rfl) ?_ | refine And.intro ?_ ?_)
  all_goals try (exfalso; simp_all; done)
  refine loop_intro {q : Nat × Store × C // q.1 ≤ b.Packs.length ∧ (∀ j (hj : j < b.Packs.length), j < q.1 → (b.Packs[j]).Ext < p.Ext) ∧ Ext S0 q.2.1 ∧ Fr S0.length q.2.1 [.sl 8 ((rs.take q.1).map (List.map D.x))] [q.2.2]} [7, 8, 25, 26, 27, 28, 29, 30, 31, 32, 33, 34, 35, 36, 37, 38, 39, 40, 41, 42, 43, 44, 45, 46, 47, 48, 49, 50] (fun zb => [(8, .v (.s (.int .i64 (zb.1.1)))), (7, .v (.s zb.1.2.2))]) (fun zb => zb.1.2.1) (fun zb => b.Packs.length - zb.1.1) ⟨(0, _, _), Nat.zero_le _, ⟨fun j _ hj => absurd hj (Nat.not_lt_zero j), Ext.push _ _, fr_lit0⟩⟩ ?_ rfl ?_
  · (conv => whnf); repeat' (first | exact trivial | exact rfl | apply And.intro)
  rintro ⟨⟨i, Si, ci⟩, hi, hP⟩; dsimp only
  replace hi : i ≤ b.Packs.length := hi
  replace hP : (∀ j (hj : j < b.Packs.length), j < i → (b.Packs[j]).Ext < p.Ext) ∧ Ext S0 Si ∧ Fr S0.length Si [.sl 8 ((rs.take i).map (List.map D.x))] [ci] := hP
  obtain ⟨hb, hE, hF⟩ := hP
  have heI := elemsE hre hE
  have rdI := r2.ext hE
  by_cases hx : ∃ h : i < b.Packs.length, (b.Packs[i]).Ext < p.Ext
  · obtain ⟨hlt, hle⟩ := hx
    obtain ⟨a1, a2, a3, a4, hri⟩ := hrs i hlt
    have hri' : rs[((i : Nat) : Int).toNat]? = some [.int .i64 (b.Packs[i]).Ext, .int .i64 (b.Packs[i]).Author, .int .i64 (b.Packs[i]).Version, a1, a2, a3, a4, .int .i64 (b.Packs[i]).Seal] := by rw [Int.toNat_natCast]; exact hri
    repeat' ((conv => whnf) <;> first
     | (refine loadP_intro heI hri' om ?_) | rw [wrapI_i64 (by omega)] | (show CondP _ _ _; refine cS ?_) | refine cD (fun _ => ?_) fun _ => ?_ | refine cE (fun _ => ?_) fun _ => ?_ | refine cT ?_ | refine cF ?_ | refine cN (fun _ => ?_) fun _ => ?_ | refine cI (fun _ => ?_) fun _ => ?_ | (refine callP_intro (ev_l32Copy _ _ _ rdcA (by (first | omega | exact sz_at hz om | (simp only [szL]; omega)))) ?_; rintro _ Sn ⟨hEn, _, _, _, _, _, _, rfl, hFn⟩) | (refine callP_intro (ev_l26Copy _ _ _ rdcA (by (first | omega | exact sz_at hz om | (simp only [szL]; omega)))) ?_; rintro _ Sn ⟨hEn, _, _, _, _, rfl, hFn⟩) | (refine callP_eq (ev_sPackOf _ _ _ _ rdcA) ?_) | refine callP_eq (ev_sIsBrowser _ _ _ rdcA (by first | assumption | omega)) ?_ | refine rE fun hml => ?_ | refine rI rdA rf ix ?_ | (refine rd_loadm (f := GPackage.d) rdA ix ?_; intro _ hcs; obtain ⟨_, _, _, _, rfl, _, _, _, _⟩ := GPackage.inv hcs) | (refine rd_slif rdA rf om ?_; intro cSl hSl) | refine nP ?_ | refine draw_intro 25 [.fl 0, .fl 1, .fl 2, .fl 3, .fl 4, .fl 5, .fl 6, .fl 7, .fl 8, .fl 9, .fl 10, .fl 11, .fl 12, .fl 13, .fl 14, .fl 15] (by rfl) (by kernel_rfl) ?_ | refine draw_intro 51 [.fl 0, .fl 1, .fl 5, .fl 6, .fl 7, .fl 8, .st 2 [0, 5, 6, 7, 8], .fl 3, .st 4 [5, 6, 7, 8], .st 9 [], .fl 10, .st 11 []] (by rfl) (by kernel_rfl) ?_ | (refine rI rdI rf ix ?_) | (refine plain_app (rs := rs.take i) (ys := [[.int .i64 (b.Packs[i]).Ext, .int .i64 (b.Packs[i]).Author, .int .i64 (b.Packs[i]).Version, a1, a2, a3, a4, .int .i64 (b.Packs[i]).Seal]]) hE hF (by intro y hy; rw [List.mem_singleton.1 hy]; rfl) (by dsimp only [T151, T170, T46]; simp only [List.length_take, List.length_singleton]; omega) (by rw [maxLen_eq]; simp only [List.length_take, List.length_singleton]; omega) ?_; intro cN SN hEN hFN hlN) | refine And.intro ?_ ?_)
    all_goals try (exfalso; simp_all; done)
    refine ⟨⟨(i + 1, SN, cN), by dsimp only; omega, fun j hj hji => ?_, hEN, ?_⟩, ?_, rfl, by dsimp only; omega⟩
    · by_cases hj2 : j = i
      · subst hj2; exact hle
      · exact hb j hj (by dsimp only at hji; omega)
    · dsimp only; rw [List.take_add_one, hri]; exact hFN
    · (conv => whnf); repeat' (first | exact trivial | exact rfl | apply And.intro)
  · have hix : insIx b.Packs p.Ext = i := insIx_eq hi hb (fun h hh => hx ⟨h, hh⟩)
    have hPI := hP'.ext (e0.trans hE)
    have hxx : ∀ h : i < b.Packs.length, ¬ (b.Packs[i]).Ext < p.Ext := fun h hh => hx ⟨h, hh⟩
    rcases Nat.lt_or_ge i b.Packs.length with hlt | hlt
    all_goals
      repeat' ((conv => whnf) <;> first
       | (obtain ⟨a1, a2, a3, a4, hri⟩ := hrs i (by omega); have hle := hxx (by omega); refine loadP_intro heI (by rw [Int.toNat_natCast]; exact hri) (by omega) ?_) | rw [wrapI_i64 (by omega)] | (show CondP _ _ _; refine cS ?_) | refine cD (fun _ => ?_) fun _ => ?_ | refine cE (fun _ => ?_) fun _ => ?_ | refine cT ?_ | refine cF ?_ | refine cN (fun _ => ?_) fun _ => ?_ | refine cI (fun _ => ?_) fun _ => ?_ | (refine callP_eq (ev_sPackOf _ _ _ _ rdcA) ?_) | refine callP_eq (ev_sIsBrowser _ _ _ rdcA (by first | assumption | omega)) ?_ | refine rE fun hml => ?_ | refine rI rdA rf ix ?_ | (refine rd_loadm (f := GPackage.d) rdA ix ?_; intro _ hcs; obtain ⟨_, _, _, _, rfl, _, _, _, _⟩ := GPackage.inv hcs) | (refine rd_slif rdA rf om ?_; intro cSl hSl) | refine nP ?_ | refine draw_intro 25 [.fl 0, .fl 1, .fl 2, .fl 3, .fl 4, .fl 5, .fl 6, .fl 7, .fl 8, .fl 9, .fl 10, .fl 11, .fl 12, .fl 13, .fl 14, .fl 15] (by rfl) (by kernel_rfl) ?_ | refine draw_intro 51 [.fl 0, .fl 1, .fl 5, .fl 6, .fl 7, .fl 8, .st 2 [0, 5, 6, 7, 8], .fl 3, .st 4 [5, 6, 7, 8], .st 9 [], .fl 10, .st 11 []] (by rfl) (by kernel_rfl) ?_ | (refine rI rdI rf ix ?_) | (refine slh_intro (rs := rs) (elemsE hre aN) hr8 om ?_) | refine And.intro ?_ ?_)
    all_goals try (exfalso; simp_all; done)
    all_goals try (exfalso; omega)
    all_goals
      (conv => whnf)
      refine callP_intro (ev_l26Copy p _ _ hPI (by omega)) ?_; rintro _ S2 ⟨e2, g3, g4, g5, g6, rfl, f2⟩
      have hE2 := hE.trans e2
      have J : Fr S0.length S2 (.sl 8 ((rs.take i).map (List.map D.x)) :: p.d) (ci :: [.int .i64 p.Ext, .int .i64 p.Author, .int .i64 p.Version, g3, g4, g5, g6, .int .i64 p.Seal]) := hF.join e2 f2 hE.len
      have he2 := elemsE hre hE2
      repeat' ((conv => whnf) <;> first
       | rw [wrapI_i64 (by omega)] | (show CondP _ _ _; refine cS ?_) | refine cD (fun _ => ?_) fun _ => ?_ | refine cE (fun _ => ?_) fun _ => ?_ | refine cT ?_ | refine cF ?_ | refine cN (fun _ => ?_) fun _ => ?_ | refine cI (fun _ => ?_) fun _ => ?_ | (refine callP_eq (ev_sPackOf _ _ _ _ rdcA) ?_) | refine callP_eq (ev_sIsBrowser _ _ _ rdcA (by first | assumption | omega)) ?_ | refine rE fun hml => ?_ | refine rI rdA rf ix ?_ | (refine rd_loadm (f := GPackage.d) rdA ix ?_; intro _ hcs; obtain ⟨_, _, _, _, rfl, _, _, _, _⟩ := GPackage.inv hcs) | (refine rd_slif rdA rf om ?_; intro cSl hSl) | refine nP ?_ | refine draw_intro 25 [.fl 0, .fl 1, .fl 2, .fl 3, .fl 4, .fl 5, .fl 6, .fl 7, .fl 8, .fl 9, .fl 10, .fl 11, .fl 12, .fl 13, .fl 14, .fl 15] (by rfl) (by kernel_rfl) ?_ | refine draw_intro 51 [.fl 0, .fl 1, .fl 5, .fl 6, .fl 7, .fl 8, .st 2 [0, 5, 6, 7, 8], .fl 3, .st 4 [5, 6, 7, 8], .st 9 [], .fl 10, .st 11 []] (by rfl) (by kernel_rfl) ?_ | (refine slh_intro (rs := rs) (elemsE hre aN) hr8 om ?_) | (refine plain_appAt (o := 0) (rs := rs.take i) (ys := [[.int .i64 p.Ext, .int .i64 p.Author, .int .i64 p.Version, g3, g4, g5, g6, .int .i64 p.Seal]]) hE2 J rfl rfl (by intro y hy; rw [List.mem_singleton.1 hy]; rfl) (by dsimp only [T151, T170, T46]; simp only [List.length_take, List.length_singleton]; omega) (by rw [maxLen_eq]; simp only [List.length_take, List.length_singleton]; omega) ?_; intro cA SA hEA hFA hlA) | (refine elemsP_intro (elems_cut (elemsE hre hEA) om) ?_) | (refine plain_appAt (o := 0) (rs := rs.take i ++ [[.int .i64 p.Ext, .int .i64 p.Author, .int .i64 p.Version, g3, g4, g5, g6, .int .i64 p.Seal]]) hEA hFA rfl rfl (ys := rs.drop i) (fun y hy => hr8 y (List.mem_of_mem_drop hy)) (by dsimp only [T151, T170, T46]; simp only [List.length_append, List.length_take, List.length_drop, List.length_singleton]; omega) (by rw [maxLen_eq]; simp only [List.length_append, List.length_take, List.length_drop, List.length_singleton]; omega) ?_; intro cB SB hEB hFB hlB) | refine And.intro ?_ ?_)
      have J2 : Fr S.length SB (b.d ++ (.sl 8 (((rs.take i ++ [[.int .i64 p.Ext, .int .i64 p.Author, .int .i64 p.Version, g3, g4, g5, g6, .int .i64 p.Seal]]) ++ rs.drop i).map (List.map D.x)) :: p.d)) ([.int .i64 b.Key, c1, c2, c3, c4, c5, c6, .int .i64 b.Now] ++ (cB :: [.int .i64 p.Ext, .int .i64 p.Author, .int .i64 p.Version, g3, g4, g5, g6, .int .i64 p.Seal])) := f0.join hEB hFB e0.len
      have heB := elemsE hre hEB
      have J3 := J2.refit (o := 2) (xs := b.Packs.map GPackage.d) (xs' := (b.Packs.take i ++ p :: b.Packs.drop i).map GPackage.d) rfl rfl rfl (fun rows js jy h1 h2 h3 h4 => ins_rep hi (by rw [heB] at h1; exact (Option.some.inj h1).symm) h2 h3 h4)
      have EB := e0.trans hEB
      have pg := p1.ext EB
      repeat' ((conv => whnf) <;> first
       | rw [wrapI_i64 (by omega)] | (show CondP _ _ _; refine cS ?_) | refine cD (fun _ => ?_) fun _ => ?_ | refine cE (fun _ => ?_) fun _ => ?_ | refine cT ?_ | refine cF ?_ | refine cN (fun _ => ?_) fun _ => ?_ | refine cI (fun _ => ?_) fun _ => ?_ | (refine callP_eq (ev_sPackOf _ _ _ _ rdcA) ?_) | refine callP_eq (ev_sIsBrowser _ _ _ rdcA (by first | assumption | omega)) ?_ | refine rE fun hml => ?_ | refine rI rdA rf ix ?_ | (refine rd_loadm (f := GPackage.d) rdA ix ?_; intro _ hcs; obtain ⟨_, _, _, _, rfl, _, _, _, _⟩ := GPackage.inv hcs) | (refine rd_slif rdA rf om ?_; intro cSl hSl) | refine nP ?_ | refine draw_intro 25 [.fl 0, .fl 1, .fl 2, .fl 3, .fl 4, .fl 5, .fl 6, .fl 7, .fl 8, .fl 9, .fl 10, .fl 11, .fl 12, .fl 13, .fl 14, .fl 15] (by rfl) (by kernel_rfl) ?_ | refine draw_intro 51 [.fl 0, .fl 1, .fl 5, .fl 6, .fl 7, .fl 8, .st 2 [0, 5, 6, 7, 8], .fl 3, .st 4 [5, 6, 7, 8], .st 9 [], .fl 10, .st 11 []] (by rfl) (by kernel_rfl) ?_ | (refine rd_elemsf (f := GGrant.d) (l := p.Grants) pg tv (fun _ => ?_)) | refine And.intro ?_ ?_)
      (conv => whnf)
      refine fr_appAtF (f := GGrant.d) (o := 3) (l := b.Grants) (m := p.Grants) (fun _ => trivial) EB J3 rfl rfl rfl (by intro _; rfl) (by dsimp only [T151, T170, T46]; omega) (by omega) ?_; intro cG SG hEG hFG hlG
      have pr := p3.ext hEG
      repeat' ((conv => whnf) <;> first
       | rw [wrapI_i64 (by omega)] | (show CondP _ _ _; refine cS ?_) | refine cD (fun _ => ?_) fun _ => ?_ | refine cE (fun _ => ?_) fun _ => ?_ | refine cT ?_ | refine cF ?_ | refine cN (fun _ => ?_) fun _ => ?_ | refine cI (fun _ => ?_) fun _ => ?_ | (refine callP_eq (ev_sPackOf _ _ _ _ rdcA) ?_) | refine callP_eq (ev_sIsBrowser _ _ _ rdcA (by first | assumption | omega)) ?_ | refine rE fun hml => ?_ | refine rI rdA rf ix ?_ | (refine rd_loadm (f := GPackage.d) rdA ix ?_; intro _ hcs; obtain ⟨_, _, _, _, rfl, _, _, _, _⟩ := GPackage.inv hcs) | (refine rd_slif rdA rf om ?_; intro cSl hSl) | refine nP ?_ | refine draw_intro 25 [.fl 0, .fl 1, .fl 2, .fl 3, .fl 4, .fl 5, .fl 6, .fl 7, .fl 8, .fl 9, .fl 10, .fl 11, .fl 12, .fl 13, .fl 14, .fl 15] (by rfl) (by kernel_rfl) ?_ | refine draw_intro 51 [.fl 0, .fl 1, .fl 5, .fl 6, .fl 7, .fl 8, .st 2 [0, 5, 6, 7, 8], .fl 3, .st 4 [5, 6, 7, 8], .st 9 [], .fl 10, .st 11 []] (by rfl) (by kernel_rfl) ?_ | (refine rd_elemsf (f := GRule.d) (l := p.Rules) pr tv (fun _ => ?_)) | refine And.intro ?_ ?_)
      (conv => whnf)
      refine fr_appAtF (f := GRule.d) (o := 5) (l := b.Rules) (m := p.Rules) (fun _ => trivial) hEG hFG rfl rfl rfl (by intro _; rfl) (by dsimp only [T151, T170, T46]; omega) (by omega) ?_; intro cR SR hER hFR hlR
      have JR : Fr S.length SR (instTo b p).d [.int .i64 b.Key, c1, cB, cG, c4, cR, c6, .int .i64 b.Now] := by
        simp only [instTo, GBrowser.d, hix]; exact hFR
      rcases hk : isBrowser (instTo b p) with _ | _
      · rw [ins_no3 hk]
        repeat' ((conv => whnf) <;> first
         | (refine callP_eq (ev_sIsBrowser (instTo b p) _ _ JR.rd om) ?_) | rw [wrapI_i64 (by omega)] | (show CondP _ _ _; refine cS ?_) | refine cD (fun _ => ?_) fun _ => ?_ | refine cE (fun _ => ?_) fun _ => ?_ | refine cT ?_ | refine cF ?_ | refine cN (fun _ => ?_) fun _ => ?_ | refine cI (fun _ => ?_) fun _ => ?_ | (refine callP_eq (ev_sPackOf _ _ _ _ rdcA) ?_) | refine callP_eq (ev_sIsBrowser _ _ _ rdcA (by first | assumption | omega)) ?_ | refine rE fun hml => ?_ | refine rI rdA rf ix ?_ | (refine rd_loadm (f := GPackage.d) rdA ix ?_; intro _ hcs; obtain ⟨_, _, _, _, rfl, _, _, _, _⟩ := GPackage.inv hcs) | (refine rd_slif rdA rf om ?_; intro cSl hSl) | refine nP ?_ | refine draw_intro 25 [.fl 0, .fl 1, .fl 2, .fl 3, .fl 4, .fl 5, .fl 6, .fl 7, .fl 8, .fl 9, .fl 10, .fl 11, .fl 12, .fl 13, .fl 14, .fl 15] (by rfl) (by kernel_rfl) ?_ | refine draw_intro 51 [.fl 0, .fl 1, .fl 5, .fl 6, .fl 7, .fl 8, .st 2 [0, 5, 6, 7, 8], .fl 3, .st 4 [5, 6, 7, 8], .st 9 [], .fl 10, .st 11 []] (by rfl) (by kernel_rfl) ?_ | refine And.intro ?_ ?_)
        all_goals try (exfalso; simp_all; done)
        (conv => whnf)
        refine callP_intro (ev_l32Copy b _ _ (hB.ext hER) (by omega)) ?_; rintro _ S8 ⟨e8, q1, q2, q3, q4, q5, q6, rfl, f8⟩
        repeat' ((conv => whnf) <;> first
         | rw [wrapI_i64 (by omega)] | (show CondP _ _ _; refine cS ?_) | refine cD (fun _ => ?_) fun _ => ?_ | refine cE (fun _ => ?_) fun _ => ?_ | refine cT ?_ | refine cF ?_ | refine cN (fun _ => ?_) fun _ => ?_ | refine cI (fun _ => ?_) fun _ => ?_ | (refine callP_intro (ev_l32Copy _ _ _ rdcA (by (first | omega | exact sz_at hz om | (simp only [szL]; omega)))) ?_; rintro _ Sn ⟨hEn, _, _, _, _, _, _, rfl, hFn⟩) | (refine callP_intro (ev_l26Copy _ _ _ rdcA (by (first | omega | exact sz_at hz om | (simp only [szL]; omega)))) ?_; rintro _ Sn ⟨hEn, _, _, _, _, rfl, hFn⟩) | (refine callP_eq (ev_sPackOf _ _ _ _ rdcA) ?_) | refine callP_eq (ev_sIsBrowser _ _ _ rdcA (by first | assumption | omega)) ?_ | refine rE fun hml => ?_ | refine rI rdA rf ix ?_ | (refine rd_loadm (f := GPackage.d) rdA ix ?_; intro _ hcs; obtain ⟨_, _, _, _, rfl, _, _, _, _⟩ := GPackage.inv hcs) | (refine rd_slif rdA rf om ?_; intro cSl hSl) | refine nP ?_ | refine draw_intro 25 [.fl 0, .fl 1, .fl 2, .fl 3, .fl 4, .fl 5, .fl 6, .fl 7, .fl 8, .fl 9, .fl 10, .fl 11, .fl 12, .fl 13, .fl 14, .fl 15] (by rfl) (by kernel_rfl) ?_ | refine draw_intro 51 [.fl 0, .fl 1, .fl 5, .fl 6, .fl 7, .fl 8, .st 2 [0, 5, 6, 7, 8], .fl 3, .st 4 [5, 6, 7, 8], .st 9 [], .fl 10, .st 11 []] (by rfl) (by kernel_rfl) ?_ | refine And.intro ?_ ?_)
        all_goals first
          | exact hER.trans e8
          | exact ⟨_, _, _, _, _, _, rfl, f8.mono hER.len⟩
      · rw [ins_yes hr hp hk]
        repeat' ((conv => whnf) <;> first
         | (refine callP_eq (ev_sIsBrowser (instTo b p) _ _ JR.rd om) ?_) | rw [wrapI_i64 (by omega)] | (show CondP _ _ _; refine cS ?_) | refine cD (fun _ => ?_) fun _ => ?_ | refine cE (fun _ => ?_) fun _ => ?_ | refine cT ?_ | refine cF ?_ | refine cN (fun _ => ?_) fun _ => ?_ | refine cI (fun _ => ?_) fun _ => ?_ | (refine callP_intro (ev_l32Copy _ _ _ rdcA (by (first | omega | exact sz_at hz om | (simp only [szL]; omega)))) ?_; rintro _ Sn ⟨hEn, _, _, _, _, _, _, rfl, hFn⟩) | (refine callP_intro (ev_l26Copy _ _ _ rdcA (by (first | omega | exact sz_at hz om | (simp only [szL]; omega)))) ?_; rintro _ Sn ⟨hEn, _, _, _, _, rfl, hFn⟩) | (refine callP_eq (ev_sPackOf _ _ _ _ rdcA) ?_) | refine callP_eq (ev_sIsBrowser _ _ _ rdcA (by first | assumption | omega)) ?_ | refine rE fun hml => ?_ | refine rI rdA rf ix ?_ | (refine rd_loadm (f := GPackage.d) rdA ix ?_; intro _ hcs; obtain ⟨_, _, _, _, rfl, _, _, _, _⟩ := GPackage.inv hcs) | (refine rd_slif rdA rf om ?_; intro cSl hSl) | refine nP ?_ | refine draw_intro 25 [.fl 0, .fl 1, .fl 2, .fl 3, .fl 4, .fl 5, .fl 6, .fl 7, .fl 8, .fl 9, .fl 10, .fl 11, .fl 12, .fl 13, .fl 14, .fl 15] (by rfl) (by kernel_rfl) ?_ | refine draw_intro 51 [.fl 0, .fl 1, .fl 5, .fl 6, .fl 7, .fl 8, .st 2 [0, 5, 6, 7, 8], .fl 3, .st 4 [5, 6, 7, 8], .st 9 [], .fl 10, .st 11 []] (by rfl) (by kernel_rfl) ?_ | refine And.intro ?_ ?_)
        all_goals first
          | exact hER
          | exact ⟨_, _, _, _, _, _, rfl, JR⟩
          | (exfalso; simp_all; done)
end Go.Proofs.YtockphlpokoohaaGreat
namespace Go.Proofs.YtockphlpokoohaaGreat
open Go Go.RowKit
set_option linter.unusedVariables false
set_option linter.unusedSimpArgs false
set_option maxHeartbeats 4000000 in
set_option maxRecDepth 100000 in
theorem delPackage_del (b n c i : Nat) (cur : Array Value) (e : Nat) (w : World) (hi : i < n) (hnc : n ≤ c) (hc63 : c ≤ 9223372036854775807)
    (hb : w.heap[b]? = some (.cells cur e (0, 0))) (hsz : cur.size = c * 8)
    (h1 : ∀ v ∈ (cur.toList.drop ((i + 1) * 8)).take ((n - (i + 1)) * 8), v.oneCell' = true) :
    Calls Tryz.prog 148 #[.slice (some ⟨b, 0, none⟩) n c, .int .i64 i, .int .i64 ((i : Int) + 1)] w fun r w' =>
      r = .returned (.slice (some ⟨b, 0, none⟩) (n - 1) c) ∧ ∃ Z : List Value, Z.length = 8 ∧ w' = w.drew.setRow b (cur.toList.take (i * 8) ++ (cur.toList.drop ((i + 1) * 8)).take ((n - (i + 1)) * 8) ++ Z ++ cur.toList.drop (n * 8)).toArray := by
  have hinf := info_parts (show (Tryz.prog.info? 46).map (fun i => (i.zero, i.size, i.bytes)) = some (some (.agg #[.int .i64 0, .int .i64 0, .int .i64 0, .slice none 0 0, .slice none 0 0, .slice none 0 0, .slice none 0 0, .int .i64 0]), 8, 128) by kernel_rfl)
  obtain ⟨i0, hi0, hz0, hz1, hz2⟩ := hinf
  obtain ⟨j, hj⟩ : ∃ j, j = i + 1 := ⟨_, rfl⟩
  rw [show ((i : Int) + 1) = (j : Int) by omega]
  have hij : i ≤ j := by omega
  have hjn : j ≤ n := by omega
  have hne : ¬ (i = j) := by omega
  obtain ⟨news, hnews⟩ : ∃ news, news = (cur.toList.drop (j * 8)).take ((n - j) * 8) := ⟨_, rfl⟩
  have hlen : news.length = (n - j) * 8 := by rw [hnews, List.length_take, List.length_drop, Array.length_toList, hsz]; omega
  obtain ⟨A, hA, hsrc⟩ : ∃ A : Addr, (if c = j then (some (⟨b, 0, none⟩ : Addr)) else some ⟨b, j * 8, none⟩) = some A ∧ Hid (∀ t u, news[t]? = some u → w.drew.cell? (A.add t) = some u) := by
    by_cases h : c = j
    · refine ⟨⟨b, 0, none⟩, by simp [h], fun t u hu => ?_⟩
      have h0 : news.length = 0 := by rw [hlen]; omega
      rw [List.length_eq_zero_iff.1 h0] at hu
      simp at hu
    · refine ⟨⟨b, j * 8, none⟩, by simp [h], fun t u hu => ?_⟩
      rw [hnews, List.getElem?_take] at hu
      split at hu
      · rw [List.getElem?_drop] at hu
        rw [add_off, cell_of_row w.drew _ _ cur e (0, 0) hb]; simpa using hu
      · cases hu
  have s1 : Hid (news.length = (n - j) * 8) := hlen
  have s2 : Hid (∀ u ∈ news, u.oneCell' = true) := by rw [hnews, hj]; exact h1
  have s3 : Hid (∀ t, t < news.length → (w.drew.cell? ⟨b, 0 + i * 8 + t, none⟩).isSome = true ∧ w.drew.frozen? ⟨b, 0 + i * 8 + t, none⟩ = false) := by
    intro t ht
    rw [hlen] at ht
    have hb' : w.drew.heap[b]? = some (.cells cur e (0, 0)) := hb
    refine ⟨?_, by simp [World.frozen?, hb']⟩
    rw [cell_of_row w.drew _ _ cur e (0, 0) hb', Array.getElem?_eq_getElem (by omega)]; rfl
  obtain ⟨W1, hW1⟩ : ∃ W1, W1 = w.drew.setCells b (0 + i * 8) news := ⟨_, rfl⟩
  have hW1r : W1 = w.drew.setRow b (cur.toList.take (i * 8) ++ news ++ cur.toList.drop (i * 8 + (n - j) * 8)).toArray := by
    rw [hW1, setCells_row (P := Tryz.prog) w.drew b (0 + i * 8) e cur news hb (by rw [hlen]; omega) s2, hlen, Nat.zero_add]
  obtain ⟨A1, hA1⟩ : ∃ A1 : Array Value, A1 = (cur.toList.take (i * 8) ++ news ++ cur.toList.drop (i * 8 + (n - j) * 8)).toArray := ⟨_, rfl⟩
  have hA1s : A1.size = c * 8 := by
    rw [hA1]; simp only [List.size_toArray, List.length_append, List.length_take, List.length_drop, Array.length_toList, hsz, hlen]; omega
  rw [← hA1] at hW1r
  have hg1 : W1.heap[b]? = some (.cells A1 e (0, 0)) := by rw [hW1r]; exact setRow_heap w.drew b cur A1 e (0, 0) hb
  have hZ8 : (Builtin.zeroCells (Value.agg #[.int .i64 0, .int .i64 0, .int .i64 0, .slice none 0 0, .slice none 0 0, .slice none 0 0, .slice none 0 0, .int .i64 0]).cells 1).toList = ([.int .i64 0, .int .i64 0, .int .i64 0, .slice none 0 0, .slice none 0 0, .slice none 0 0, .slice none 0 0, .int .i64 0] : List Value) := by kernel_rfl
  have hzv : ∀ w, (zeroValue 46).run Tryz.prog w = .ok (.agg #[.int .i64 0, .int .i64 0, .int .i64 0, .slice none 0 0, .slice none 0 0, .slice none 0 0, .slice none 0 0, .int .i64 0]) w := fun w => by simp [zeroValue, typeInfo, hi0, hz0]
  have hcl : ∀ ty, (Builtin.clear_ #[27] ty #[.slice (some ⟨b, (i + (n - j)) * 8, none⟩) (n - (i + (n - j))) (c - (i + (n - j)))]).run Tryz.prog W1 = .ok (.tuple #[]) (W1.setRow b (A1.toList.take ((i + (n - j)) * 8) ++ ([.int .i64 0, .int .i64 0, .int .i64 0, .slice none 0 0, .slice none 0 0, .slice none 0 0, .slice none 0 0, .int .i64 0] : List Value) ++ A1.toList.drop ((i + (n - j)) * 8 + 8)).toArray) := fun ty =>
    run_clear_one W1 _ _ ty _ Tryz.underlying27 hzv _ hZ8 (by intro v hv; simp only [List.mem_cons, List.not_mem_nil, or_false] at hv; rcases hv with rfl | rfl | rfl | rfl | rfl | rfl | rfl | rfl <;> rfl) b _ _ _ (by omega) A1 e hg1 (by simp only [List.length_cons, List.length_nil]; omega)
  have X : Aside (W1 = w.drew.setRow b A1) := hW1r
  have XA : Aside (A1 = (cur.toList.take (i * 8) ++ news ++ cur.toList.drop (i * 8 + (n - j) * 8)).toArray) := hA1
  have XN : Aside (news = (cur.toList.drop (j * 8)).take ((n - j) * 8)) := hnews
  have XJ : Aside (j = i + 1) := hj
  have XS : Aside (cur.size = c * 8) := hsz
  have hW : Hid (W1 = w.drew.setCells b (0 + i * 8) news) := hW1
  have hic : i ≤ c := by omega
  have hjc : j ≤ c := by omega
  have hin : i ≤ n := by omega
  have ns := Tryz.sizeOf46
  have nu := Tryz.underlying27
  have mixed : Tryz.prog.follows .mixedOrders = true := by kernel_rfl
  clear hW1 hW1r hg1 hA1 hA1s hnews hlen hj hsz h1 hb
  go_enter Tryz.func148, Tryz.ntmps148
  go_wp2_with fail
  go_region_law_o (refine step_append_room rfl (.tmp 22) (.tmp 25) 27 rfl 46 i0 8 Tryz.underlying27 hi0 hz1 b 0 i c (by simp [Act.eval, Act.put]) A (n - j) (c - j) news (by simp [Act.eval, Act.put]) s1.out hsrc.out s2.out (by omega) s3.out ?_; rw [← hW.out])
  go_wp2
  go_ret
  have hj := XJ.out
  have hsz := XS.out
  refine ⟨by rw [show n - 1 = i + (n - j) by omega]; rfl, ([.int .i64 0, .int .i64 0, .int .i64 0, .slice none 0 0, .slice none 0 0, .slice none 0 0, .slice none 0 0, .int .i64 0] : List Value), rfl, ?_⟩
  rw [X.out, setRow_setRow]
  have h := splice_del (i * 8) (j * 8) ((n - j) * 8) cur.toList ([.int .i64 0, .int .i64 0, .int .i64 0, .slice none 0 0, .slice none 0 0, .slice none 0 0, .slice none 0 0, .int .i64 0] : List Value) (by omega) (by rw [Array.length_toList]; omega) (by simp only [List.length_cons, List.length_nil]; omega) A1.toList (by rw [XA.out, XN.out])
  rw [show i * 8 + (n - j) * 8 = (i + (n - j)) * 8 by omega, show j * 8 + (n - j) * 8 = n * 8 by omega] at h
  rw [← hj]
  refine congrArg (fun l => w.drew.setRow b (List.toArray l)) (Eq.trans ?_ h)
  simp only [List.append_assoc, List.cons_append, List.nil_append, List.length_cons, List.length_nil]
theorem delPackage_raw : DelRaw Tryz.prog 148 8 := ⟨delPackage_del⟩
theorem delPackage_fok : FOK Tryz.prog 148 := ⟨Tryz.f148, Tryz.func148, by kernel_rfl, by kernel_rfl⟩
end Go.Proofs.YtockphlpokoohaaGreat
