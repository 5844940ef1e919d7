/- The step of an update. A text of the proof. -/
import Derived.Test.YtlmmdpmmdmhacaaGreatKm42
import Derived.Test.YtlmmdpmmdmhacaaGreatKm34
import Derived.Test.YtlmmdpmmdmhacaaGreatKm35
namespace Go.Proofs.YtlmmdpmmdmhacaaGreat
open Go Go.ChangeShapes Go.WideShapes Go.ChangeAt Go.RowKit
set_option linter.unusedVariables false
set_option linter.unusedSimpArgs false
set_option maxRecDepth 100000
def updTo (b : GBrowser) (p : GPackage) : GBrowser := { b with Packs := b.Packs.set (packOf b p.Ext).toNat p, Grants := b.Grants.filter (gBut p.Ext) ++ p.Grants, Rules := b.Rules.filter (rBut p.Ext) ++ p.Rules }
def stepUpdate (b : GBrowser) (p : GPackage) (consent : Bool) : GBrowser × Bool :=
  if 0 ≤ packOf b p.Ext ∧ updCode b.Key (packageOf b p.Ext) p consent = 0 ∧ isBrowser (updTo b p) = true then (updTo b p, true) else (b, false)
theorem szLLu {α : Type} {f : α → List D} (a : α) : ∀ (l : List α) (i : Nat), szL.szLL ((l.set i a).map f) ≤ szL.szLL (l.map f) + szL (f a)
  | [], i => by rw [List.set_nil]; exact Nat.le_add_right _ _
  | x :: l, 0 => by rw [List.set_cons_zero, List.map_cons, List.map_cons, szL.szLL, szL.szLL]; omega
  | x :: l, i + 1 => by have := szLLu (f := f) a l i; rw [List.set_cons_succ, List.map_cons, List.map_cons, szL.szLL, szL.szLL]; omega
theorem szBru (b : GBrowser) : szL b.d = b.Tabs.length + szL.szLL (b.Tabs.map GTab.d) + (b.Packs.length + szL.szLL (b.Packs.map GPackage.d) + (b.Grants.length + (b.Limits.length + (b.Rules.length + b.Store.length)))) := by
  simp only [GBrowser.d, szL, List.length_map]
  rw [szLL_flat (f := GGrant.d) (by intro x; simp only [szL, GGrant.d]), szLL_flat (f := GLimit.d) (by intro x; simp only [szL, GLimit.d]), szLL_flat (f := GRule.d) (by intro x; simp only [szL, GRule.d]), szLL_flat (f := GStored.d) (by intro x; simp only [szL, GStored.d])]
  omega
theorem szPku (p : GPackage) : szL p.d = p.Grants.length + (p.Flows.length + (p.Rules.length + p.Ops.length)) := by
  simp only [GPackage.d, szL, List.length_map]
  rw [szLL_flat (f := GGrant.d) (by intro x; simp only [szL, GGrant.d]), szLL_flat (f := GFlow.d) (by intro x; simp only [szL, GFlow.d]), szLL_flat (f := GRule.d) (by intro x; simp only [szL, GRule.d]), szLL_flat (f := GOp.d) (by intro x; simp only [szL, GOp.d])]
  omega
theorem szUpdTo (b : GBrowser) (p : GPackage) : szL (updTo b p).d ≤ szL b.d + 2 * szL p.d := by
  have h1 := szLLu (f := GPackage.d) p b.Packs (packOf b p.Ext).toNat
  have h2 := List.length_filter_le (gBut p.Ext) b.Grants
  have h3 := List.length_filter_le (rBut p.Ext) b.Rules
  have h4 := szPku p
  rw [szBru, szBru]
  simp only [updTo, List.length_set, List.length_append]
  omega
theorem upd_no1 {b : GBrowser} {p : GPackage} {consent : Bool} (h : ¬ 0 ≤ packOf b p.Ext) : stepUpdate b p consent = (b, false) := if_neg fun hh => h hh.1
theorem upd_no2 {b : GBrowser} {p : GPackage} {consent : Bool} (h0 : 0 ≤ packOf b p.Ext) (hl : (packOf b p.Ext).toNat < b.Packs.length) (h : ¬ updCode b.Key (b.Packs[(packOf b p.Ext).toNat]'hl) p consent = 0) : stepUpdate b p consent = (b, false) :=
  if_neg fun hh => h (by rw [← packageOf_in h0 hl]; exact hh.2.1)
theorem upd_no3 {b : GBrowser} {p : GPackage} {consent : Bool} (h : isBrowser (updTo b p) = false) : stepUpdate b p consent = (b, false) := if_neg fun hh => (by rw [h] at hh; cases hh.2.2)
theorem upd_yes {b : GBrowser} {p : GPackage} {consent : Bool} (h0 : 0 ≤ packOf b p.Ext) (hl : (packOf b p.Ext).toNat < b.Packs.length) (h : updCode b.Key (b.Packs[(packOf b p.Ext).toNat]'hl) p consent = 0) (hb : isBrowser (updTo b p) = true) : stepUpdate b p consent = (updTo b p, true) :=
  if_pos ⟨h0, by rw [packageOf_in h0 hl]; exact h, hb⟩
theorem pk_at {l : List GPackage} {i : Nat} (h : i < l.length) : (l.map GPackage.d)[i]? = some (l[i]).d := by simp [h]
set_option maxHeartbeats 4000000 in
theorem ev_sStepUpdate (b : GBrowser) (p : GPackage) (consent : Bool) (cs cs' : List C) (S : Store) (h : Rd S b.d cs) (h' : Rd S p.d cs') (hz : szL b.d ≤ 1048576) (hz' : szL p.d ≤ 1048576) : EvA Tryz.prog 274 [.agg cs, .agg cs', .s (.bool consent)] S (fun r S' => Ext S S' ∧ ∃ c1 c2 c3 c4 c5 c6, r = .tup [.agg [.int .i64 (stepUpdate b p consent).1.Key, c1, c2, c3, c4, c5, c6, .int .i64 (stepUpdate b p consent).1.Now], .s (.bool (stepUpdate b p consent).2)] ∧ Fr S.length S' (stepUpdate b p consent).1.d [.int .i64 (stepUpdate b p consent).1.Key, c1, c2, c3, c4, c5, c6, .int .i64 (stepUpdate b p consent).1.Now]) := by
  have hzs := hz
  simp only [GBrowser.d, szL, List.length_map] at hzs
  have hzq := szPku p
  have hzu := szUpdTo b p
  have hfg := List.length_filter_le (gBut p.Ext) b.Grants
  have hfr := List.length_filter_le (rBut p.Ext) b.Rules
  have hB := h
  have hP := h'
  obtain ⟨_, _, _, _, rfl, p1, p2, p3, p4⟩ := GPackage.inv h'
  obtain ⟨b1, b2, b3, b4, b5, b6, rfl, t1, t2, t3, t4, t5, t6⟩ := GBrowser.inv h
  refine evA_intro tok Tryz.func274 (by kernel_rfl) rfl ?_
  skip
  (conv => whnf)
  refine callP_intro (ev_l32Copy b _ _ hB (by omega)) ?_; rintro _ S0 ⟨e0, c1, c2, c3, c4, c5, c6, rfl, f0⟩
  by_cases hp0 : 0 ≤ packOf b p.Ext
  · have hpl : (packOf b p.Ext).toNat < b.Packs.length := by have := packOf_lt b p.Ext; omega
    have hp1 : 0 ≤ packOf b p.Ext ∧ (packOf b p.Ext).toNat < b.Packs.length := ⟨hp0, hpl⟩
    obtain ⟨pcs, hpr, hpld⟩ := rd_loadx t2 hp1
    have hprR := hpr
    obtain ⟨_, _, _, _, rfl, _, _, _, _⟩ := GPackage.inv hpr
    have hzo : szL (b.Packs[(packOf b p.Ext).toNat]'hpl).d ≤ szL.szLL (b.Packs.map GPackage.d) := szLL_mem (f := GPackage.d) (List.getElem_mem hpl)
    repeat' ((conv => whnf) <;> first
     | (refine callP_eq (ev_sPackOf b p.Ext _ _ (hB.ext e0)) ?_) | refine hpld _ (by first | assumption | exact Ext.refl _) _ ?_ | (show CondP _ _ _; refine cS ?_) | refine rI rdA rf ix ?_ | refine draw_intro 22 [.fl 0, .fl 1, .fl 2, .fl 3, .fl 4, .fl 5, .fl 6, .fl 7, .fl 8, .fl 13, .st 9 [13], .fl 10, .fl 11, .fl 12, .st 14 [12], .st 15 []] (by rfl) (by kernel_rfl) ?_)
    all_goals try (exfalso; omega)
    (conv => whnf)
    refine callP_intro (ev_sUpdPack b.Key (b.Packs[(packOf b p.Ext).toNat]'hpl) p consent _ _ _ (hprR.ext e0) (hP.ext e0) (by omega) (by omega)) ?_; rintro _ S1 ⟨e1, q3, q4, q5, q6, rfl, f1⟩
    have E2 := e0.trans e1
    by_cases hu : ¬ updCode b.Key (b.Packs[(packOf b p.Ext).toNat]'hpl) p consent = 0
    · rw [upd_no2 hp0 hpl hu]
      rw [show updated b.Key (b.Packs[(packOf b p.Ext).toNat]'hpl) p consent = (b.Packs[(packOf b p.Ext).toNat]'hpl, false) from if_neg hu]
      repeat' ((conv => whnf) <;> first
       | refine cT ?_ | refine And.intro ?_ ?_)
      all_goals first
        | exact E2
        | exact ⟨_, _, _, _, _, _, rfl, f0.ext e1⟩
        | (exfalso; simp_all; done)
    replace hu := Decidable.not_not.1 hu
    rw [show updated b.Key (b.Packs[(packOf b p.Ext).toNat]'hpl) p consent = (p, true) from if_pos hu] at f1 ⊢
    have J := f0.join e1 f1 e0.len
    have r2 := J.rdAt (o := 2) (d := .sl 8 (b.Packs.map GPackage.d)) rfl rfl
    have r0 : 0 ≤ packOf b p.Ext ∧ (packOf b p.Ext).toNat < (b.Packs.map GPackage.d).length := by rw [List.length_map]; exact hp1
    repeat' ((conv => whnf) <;> first
     | refine cF ?_ | refine rI rdA rf ix ?_ | refine draw_intro 42 [.fl 0, .fl 1, .fl 2, .fl 3, .fl 5, .fl 6, .st 4 [5, 6], .st 7 [], .fl 8, .st 9 []] (by rfl) (by kernel_rfl) ?_ | refine draw_intro 51 [.fl 0, .fl 1, .fl 2, .fl 3, .fl 5, .fl 6, .st 4 [5, 6], .st 7 [], .fl 8, .st 9 []] (by rfl) (by kernel_rfl) ?_ | (refine fr_stoMv (q := 2) (ds := b.d) (A := []) (B := (b.Packs[(packOf b p.Ext).toNat]'hpl).d) (B' := p.d) (Z := []) E2 J rfl rfl rfl r0 (by rw [List.nil_append, List.append_nil]; exact pk_at hpl) (by rfl) (by rfl) (by rfl) ?_; intro S3 e3 f3 l3) | refine And.intro ?_ ?_)
    all_goals try (exfalso; omega)
    rw [List.nil_append, List.append_nil] at f3
    (conv => whnf)
    refine callP_intro (ev_l35Others b.Grants p.Ext _ _ (t3.ext e3) (by omega)) ?_; rintro _ S4 ⟨e4, d3, rfl, f4⟩
    have pg := p1.ext (e3.trans e4)
    repeat' ((conv => whnf) <;> first
     | (refine rd_elemsf (f := GGrant.d) (l := p.Grants) pg tv (fun _ => ?_)) | refine And.intro ?_ ?_)
    (conv => whnf)
    refine fr_app_flat (f := GGrant.d) (S0 := S3) (l := b.Grants.filter (gBut p.Ext)) (m := p.Grants) (fun _ => trivial) e4 f4 rfl (by intro _; rfl) (by dsimp only [T108, T120]; omega) (by rw [maxLen_eq]; omega) ?_; intro g3 S5 e5 f5 l5
    have E5 := e3.trans e5
    have J5 := f3.setAt (o := 3) e5 f5 e3.len (by show 3 < 8; decide)
    repeat' ((conv => whnf) <;> first
     | refine draw_intro 42 [.fl 0, .fl 1, .fl 2, .fl 3, .fl 5, .fl 6, .st 4 [5, 6], .st 7 [], .fl 8, .st 9 []] (by rfl) (by kernel_rfl) ?_ | refine draw_intro 51 [.fl 0, .fl 1, .fl 2, .fl 3, .fl 5, .fl 6, .st 4 [5, 6], .st 7 [], .fl 8, .st 9 []] (by rfl) (by kernel_rfl) ?_)
    (conv => whnf)
    refine callP_intro (ev_sDropRules b.Rules p.Ext _ _ (t5.ext E5) (by omega)) ?_; rintro _ S6 ⟨e6, d5, rfl, f6⟩
    have pr := p3.ext (E5.trans e6)
    repeat' ((conv => whnf) <;> first
     | (refine rd_elemsf (f := GRule.d) (l := p.Rules) pr tv (fun _ => ?_)) | refine And.intro ?_ ?_)
    (conv => whnf)
    refine fr_app_flat (f := GRule.d) (S0 := S5) (l := b.Rules.filter (rBut p.Ext)) (m := p.Rules) (fun _ => trivial) e6 f6 rfl (by intro _; rfl) (by dsimp only [T108, T120]; omega) (by rw [maxLen_eq]; omega) ?_; intro g5 S7 e7 f7 l7
    have E7 := E5.trans e7
    have J7 : Fr S.length S7 (updTo b p).d [.int .i64 b.Key, c1, c2, g3, c4, g5, c6, .int .i64 b.Now] := by
      have J6 := J5.setAt (o := 5) e7 f7 E5.len (by show 5 < 8; decide)
      simp only [updTo, GBrowser.d]
      rw [List.map_set]
      exact J6
    rcases hk : isBrowser (updTo b p) with _ | _
    · rw [upd_no3 hk]
      repeat' ((conv => whnf) <;> first
       | (refine callP_eq (ev_sIsBrowser (updTo b p) _ _ J7.rd om) ?_) | (show CondP _ _ _; refine cS ?_))
      all_goals try (exfalso; simp_all; done)
      (conv => whnf)
      refine callP_intro (ev_l32Copy b _ _ (hB.ext E7) (by omega)) ?_; rintro _ S8 ⟨e8, g1, g2, g3', g4, g5', g6, rfl, f8⟩
      repeat' ((conv => whnf) <;> first
       | refine And.intro ?_ ?_)
      all_goals first
        | exact E7.trans e8
        | exact ⟨_, _, _, _, _, _, rfl, f8.mono E7.len⟩
    · rw [upd_yes hp0 hpl hu hk]
      repeat' ((conv => whnf) <;> first
       | (refine callP_eq (ev_sIsBrowser (updTo b p) _ _ J7.rd om) ?_) | (show CondP _ _ _; refine cS ?_) | refine And.intro ?_ ?_)
      all_goals first
        | exact E7
        | exact ⟨_, _, _, _, _, _, rfl, J7⟩
        | (exfalso; simp_all; done)
  · rw [upd_no1 hp0]
    repeat' ((conv => whnf) <;> first
     | (refine callP_eq (ev_sPackOf b p.Ext _ _ (hB.ext e0)) ?_) | (show CondP _ _ _; refine cS ?_) | refine And.intro ?_ ?_)
    all_goals first
      | exact e0
      | exact ⟨_, _, _, _, _, _, rfl, f0⟩
      | (exfalso; omega)
end Go.Proofs.YtlmmdpmmdmhacaaGreat
namespace Go.Proofs.YtlmmdpmmdmhacaaGreat
open Go Go.ChangeShapes Go.WideShapes Go.ChangeAt Go.RowKit
set_option linter.unusedVariables false
set_option linter.unusedSimpArgs false
set_option maxRecDepth 100000
def insIx (l : List GPackage) (e : Int) : Nat := (l.takeWhile (fun q => decide (q.Ext < e))).length
theorem insIx_le (l : List GPackage) (e : Int) : insIx l e ≤ l.length := List.IsPrefix.length_le (List.takeWhile_prefix _)
theorem insIx_eq {e : Int} : ∀ {l : List GPackage} {i : Nat}, i ≤ l.length → (∀ j (h : j < l.length), j < i → (l[j]).Ext < e) → (∀ h : i < l.length, ¬ (l[i]).Ext < e) → insIx l e = i
  | [], i, hi, _, _ => by simp at hi; subst hi; rfl
  | q :: l, 0, _, _, hx => by
    have := hx (by simp)
    simp only [List.getElem_cons_zero] at this
    simp [insIx, List.takeWhile, this]
  | q :: l, i + 1, hi, hb, hx => by
    have h0 := hb 0 (by simp) (by omega)
    simp only [List.getElem_cons_zero] at h0
    have ih := insIx_eq (l := l) (i := i) (e := e) (by simpa using hi) (fun j h hj => by have := hb (j + 1) (by simpa using h) (by omega); simpa using this) (fun h => by have := hx (by simpa using h); simpa using this)
    simp only [insIx] at ih ⊢
    rw [List.takeWhile_cons_of_pos (by simpa using h0), List.length_cons, ih]
def instTo (b : GBrowser) (p : GPackage) : GBrowser := { b with Packs := b.Packs.take (insIx b.Packs p.Ext) ++ p :: b.Packs.drop (insIx b.Packs p.Ext), Grants := b.Grants ++ p.Grants, Rules := b.Rules ++ p.Rules }
def stepInstall (b : GBrowser) (p : GPackage) : GBrowser × Bool :=
  if review b.Key p = 0 ∧ ¬ 0 ≤ packOf b p.Ext ∧ isBrowser (instTo b p) = true then (instTo b p, true) else (b, false)
theorem szLL_ins {α : Type} {f : α → List D} (a : α) (l : List α) (i : Nat) : szL.szLL ((l.take i ++ a :: l.drop i).map f) = szL.szLL (l.map f) + szL (f a) := by
  have happ : ∀ (x y : List (List D)), szL.szLL (x ++ y) = szL.szLL x + szL.szLL y := by
    intro x y
    induction x with
    | nil => rw [List.nil_append, szL.szLL, Nat.zero_add]
    | cons z x ih => rw [List.cons_append, szL.szLL, szL.szLL, ih]; omega
  have h2 : szL.szLL (l.map f) = szL.szLL ((l.take i).map f) + szL.szLL ((l.drop i).map f) := by rw [← happ, ← List.map_append, List.take_append_drop]
  rw [List.map_append, happ, List.map_cons, szL.szLL, h2]; omega
theorem szInstTo (b : GBrowser) (p : GPackage) : szL (instTo b p).d ≤ szL b.d + 2 * szL p.d + 1 := by
  have h1 := szLL_ins (f := GPackage.d) p b.Packs (insIx b.Packs p.Ext)
  have h2 := insIx_le b.Packs p.Ext
  have h4 := szPku p
  rw [szBru, szBru]
  simp only [instTo, List.length_append, List.length_cons, List.length_take, List.length_drop, h1]
  omega
theorem ins_no1 {b : GBrowser} {p : GPackage} (h : ¬ review b.Key p = 0) : stepInstall b p = (b, false) := if_neg fun hh => h hh.1
theorem ins_no2 {b : GBrowser} {p : GPackage} (h : 0 ≤ packOf b p.Ext) : stepInstall b p = (b, false) := if_neg fun hh => hh.2.1 h
theorem ins_no3 {b : GBrowser} {p : GPackage} (h : isBrowser (instTo b p) = false) : stepInstall b p = (b, false) := if_neg fun hh => (by rw [h] at hh; cases hh.2.2)
theorem ins_yes {b : GBrowser} {p : GPackage} (h1 : review b.Key p = 0) (h2 : ¬ 0 ≤ packOf b p.Ext) (h3 : isBrowser (instTo b p) = true) : stepInstall b p = (instTo b p, true) := if_pos ⟨h1, h2, h3⟩
theorem ins_rep {S : Store} {l : List GPackage} {p : GPackage} {rs rows : List (List C)} {js jy : List Nat} {pc : List C} {i : Nat} (hi : i ≤ l.length) (he : rows = rs) (h : Rep2 true S (l.map GPackage.d) rows js) (hy : RepL true S p.d pc jy) (hn : (js ++ jy).Nodup) :
    ∃ js', Rep2 true S ((l.take i ++ p :: l.drop i).map GPackage.d) ((rs.take i ++ [pc]) ++ rs.drop i) js' ∧ js'.Nodup ∧ ∀ x ∈ js', x ∈ js ∨ x ∈ jy := by
  subst he
  rw [show l.map GPackage.d = (l.take i).map GPackage.d ++ (l.drop i).map GPackage.d by rw [← List.map_append, List.take_append_drop]] at h
  obtain ⟨r1, r2, j1, j2, g1, g2, g3, g4⟩ := h.split
  have hr1 : r1.length = i := by rw [g3.len, List.length_map, List.length_take]; omega
  have t1 : rows.take i = r1 := by rw [g1]; exact List.take_left' hr1
  have t2 : rows.drop i = r2 := by rw [g1]; exact List.drop_left' hr1
  rw [t1, t2]
  subst g2
  simp only [List.nodup_append, List.mem_append] at hn
  obtain ⟨⟨n1, n2, n3⟩, n4, n5⟩ := hn
  refine ⟨j1 ++ (jy ++ j2), ?_, ?_, fun x hx => ?_⟩
  · rw [List.map_append, List.map_cons, List.append_assoc, List.singleton_append]
    exact g3.append (by rw [rep2_cons]; exact ⟨pc, r2, jy, j2, rfl, rfl, hy, g4⟩)
  · simp only [List.nodup_append, List.mem_append]
    refine ⟨n1, ⟨n4, n2, fun a ha b hb e => n5 b (.inr hb) a ha e.symm⟩, fun a ha b hb => ?_⟩
    rcases hb with hb | hb
    · exact n5 a (.inl ha) b hb
    · exact n3 a ha b hb
  · simp only [List.mem_append] at hx ⊢
    rcases hx with hx | hx | hx
    · exact .inl (.inl hx)
    · exact .inr hx
    · exact .inl (.inr hx)
set_option maxHeartbeats 4000000 in
theorem ev_sStepInstall (b : GBrowser) (p : GPackage) (cs cs' : List C) (S : Store) (h : Rd S b.d cs) (h' : Rd S p.d cs') (hz : szL b.d ≤ 1048576) (hz' : szL p.d ≤ 1048576) : EvA Tryz.prog 97 [.agg cs, .agg cs'] S (fun r S' => Ext S S' ∧ ∃ c1 c2 c3 c4 c5 c6, r = .tup [.agg [.int .i64 (stepInstall b p).1.Key, c1, c2, c3, c4, c5, c6, .int .i64 (stepInstall b p).1.Now], .s (.bool (stepInstall b p).2)] ∧ Fr S.length S' (stepInstall b p).1.d [.int .i64 (stepInstall b p).1.Key, c1, c2, c3, c4, c5, c6, .int .i64 (stepInstall b p).1.Now]) := by
  have hzs := hz
  simp only [GBrowser.d, szL, List.length_map] at hzs
  have hzq := szPku p
  have hzu := szInstTo b p
  have hB := h
  have hP' := h'
  obtain ⟨_, _, _, _, rfl, p1, p2, p3, p4⟩ := GPackage.inv h'
  obtain ⟨b1, b2, b3, b4, b5, b6, rfl, t1, t2, t3, t4, t5, t6⟩ := GBrowser.inv h
  refine evA_intro tok Tryz.func97 (by kernel_rfl) rfl ?_
  skip
  (conv => whnf)
  refine callP_intro (ev_l32Copy b _ _ hB (by omega)) ?_; rintro _ S0 ⟨e0, c1, c2, c3, c4, c5, c6, rfl, f0⟩
  by_cases hr : ¬ review b.Key p = 0
  · rw [ins_no1 hr]
    repeat' ((conv => whnf) <;> first
     | (refine callP_eq (ev_sReview b.Key p _ _ (hP'.ext e0) om) ?_) | (show CondP _ _ _; refine cS ?_) | refine cT ?_ | refine And.intro ?_ ?_)
    all_goals first
      | exact e0
      | exact ⟨_, _, _, _, _, _, rfl, f0⟩
      | (exfalso; simp_all; done)
  replace hr := Decidable.not_not.1 hr
  by_cases hp : 0 ≤ packOf b p.Ext
  · rw [ins_no2 hp]
    repeat' ((conv => whnf) <;> first
     | (refine callP_eq (ev_sPackOf b p.Ext _ _ (hB.ext e0)) ?_) | (refine callP_eq (ev_sReview b.Key p _ _ (hP'.ext e0) om) ?_) | (show CondP _ _ _; refine cS ?_) | refine And.intro ?_ ?_)
    all_goals first
      | exact e0
      | exact ⟨_, _, _, _, _, _, rfl, f0⟩
      | (exfalso; simp_all; done)
  have r2 : Rd S0 [.sl 8 (b.Packs.map GPackage.d)] [c2] := f0.rdAt (o := 2) rfl rfl
  obtain ⟨rs, hrl, hre, hr8, hrs⟩ := pk_rows r2
  repeat' ((conv => whnf) <;> first
   | (refine callP_eq (ev_sPackOf b p.Ext _ _ (hB.ext e0)) ?_) | (refine callP_eq (ev_sReview b.Key p _ _ (hP'.ext e0) om) ?_) | (show CondP _ _ _; refine cS ?_))
  all_goals try (exfalso; simp_all; done)
  refine loop_intro {q : Nat × Store × C // q.1 ≤ b.Packs.length ∧ (∀ j (hj : j < b.Packs.length), j < q.1 → (b.Packs[j]).Ext < p.Ext) ∧ Ext S0 q.2.1 ∧ Fr S0.length q.2.1 [.sl 8 ((rs.take q.1).map (List.map D.x))] [q.2.2]} [7, 8, 25, 26, 27, 28, 29, 30, 31, 32, 33, 34, 35, 36, 37, 38, 39, 40, 41, 42, 43, 44, 45, 46, 47, 48, 49, 50] (fun zb => [(8, .v (.s (.int .i64 (zb.1.1)))), (7, .v (.s zb.1.2.2))]) (fun zb => zb.1.2.1) (fun zb => b.Packs.length - zb.1.1) ⟨(0, _, _), Nat.zero_le _, ⟨fun j _ hj => absurd hj (Nat.not_lt_zero j), Ext.push _ _, fr_lit0⟩⟩ ?_ rfl ?_
  · (conv => whnf); repeat' (first | exact trivial | exact rfl | apply And.intro)
  rintro ⟨⟨i, Si, ci⟩, hi, hP⟩; dsimp only
  replace hi : i ≤ b.Packs.length := hi
  replace hP : (∀ j (hj : j < b.Packs.length), j < i → (b.Packs[j]).Ext < p.Ext) ∧ Ext S0 Si ∧ Fr S0.length Si [.sl 8 ((rs.take i).map (List.map D.x))] [ci] := hP
  obtain ⟨hb, hE, hF⟩ := hP
  have heI := elemsE hre hE
  have rdI := r2.ext hE
  by_cases hx : ∃ h : i < b.Packs.length, (b.Packs[i]).Ext < p.Ext
  · obtain ⟨hlt, hle⟩ := hx
    obtain ⟨a1, a2, a3, a4, hri⟩ := hrs i hlt
    have hri' : rs[((i : Nat) : Int).toNat]? = some [.int .i64 (b.Packs[i]).Ext, .int .i64 (b.Packs[i]).Author, .int .i64 (b.Packs[i]).Version, a1, a2, a3, a4, .int .i64 (b.Packs[i]).Seal] := by rw [Int.toNat_natCast]; exact hri
    repeat' ((conv => whnf) <;> first
     | (refine loadP_intro heI hri' om ?_) | rw [wrapI_i64 (by omega)] | (show CondP _ _ _; refine cS ?_) | refine rE fun hml => ?_ | refine rI rdA rf ix ?_ | refine draw_intro 25 [.fl 0, .fl 1, .fl 2, .fl 3, .fl 4, .fl 5, .fl 6, .fl 7, .fl 8, .fl 9, .fl 10, .fl 11, .fl 12, .fl 13, .fl 14, .fl 15] (by rfl) (by kernel_rfl) ?_ | (refine plain_app (rs := rs.take i) (ys := [[.int .i64 (b.Packs[i]).Ext, .int .i64 (b.Packs[i]).Author, .int .i64 (b.Packs[i]).Version, a1, a2, a3, a4, .int .i64 (b.Packs[i]).Seal]]) hE hF (by intro y hy; rw [List.mem_singleton.1 hy]; rfl) (by dsimp only [T108, T120, T58]; simp only [List.length_take, List.length_singleton]; omega) (by rw [maxLen_eq]; simp only [List.length_take, List.length_singleton]; omega) ?_; intro cN SN hEN hFN hlN))
    all_goals try (exfalso; simp_all; done)
    refine ⟨⟨(i + 1, SN, cN), by dsimp only; omega, fun j hj hji => ?_, hEN, ?_⟩, ?_, rfl, by dsimp only; omega⟩
    · by_cases hj2 : j = i
      · subst hj2; exact hle
      · exact hb j hj (by dsimp only at hji; omega)
    · dsimp only; rw [List.take_add_one, hri]; exact hFN
    · (conv => whnf); repeat' (first | exact trivial | exact rfl | apply And.intro)
  · have hix : insIx b.Packs p.Ext = i := insIx_eq hi hb (fun h hh => hx ⟨h, hh⟩)
    have hPI := hP'.ext (e0.trans hE)
    have hxx : ∀ h : i < b.Packs.length, ¬ (b.Packs[i]).Ext < p.Ext := fun h hh => hx ⟨h, hh⟩
    rcases Nat.lt_or_ge i b.Packs.length with hlt | hlt
    all_goals
      repeat' ((conv => whnf) <;> first
       | (obtain ⟨a1, a2, a3, a4, hri⟩ := hrs i (by omega); have hle := hxx (by omega); refine loadP_intro heI (by rw [Int.toNat_natCast]; exact hri) (by omega) ?_) | (show CondP _ _ _; refine cS ?_) | refine cF ?_ | refine rE fun hml => ?_ | refine rI rdA rf ix ?_ | refine draw_intro 25 [.fl 0, .fl 1, .fl 2, .fl 3, .fl 4, .fl 5, .fl 6, .fl 7, .fl 8, .fl 9, .fl 10, .fl 11, .fl 12, .fl 13, .fl 14, .fl 15] (by rfl) (by kernel_rfl) ?_ | refine draw_intro 51 [.fl 0, .fl 1, .fl 5, .fl 6, .fl 7, .fl 8, .st 2 [0, 5, 6, 7, 8], .fl 3, .st 4 [5, 6, 7, 8], .st 9 [], .fl 10, .st 11 []] (by rfl) (by kernel_rfl) ?_ | (refine slh_intro (rs := rs) (elemsE hre aN) hr8 om ?_))
    all_goals try (exfalso; simp_all; done)
    all_goals try (exfalso; omega)
    all_goals
      (conv => whnf)
      refine callP_intro (ev_l26Copy p _ _ hPI (by omega)) ?_; rintro _ S2 ⟨e2, g3, g4, g5, g6, rfl, f2⟩
      have hE2 := hE.trans e2
      have J : Fr S0.length S2 (.sl 8 ((rs.take i).map (List.map D.x)) :: p.d) (ci :: [.int .i64 p.Ext, .int .i64 p.Author, .int .i64 p.Version, g3, g4, g5, g6, .int .i64 p.Seal]) := hF.join e2 f2 hE.len
      have he2 := elemsE hre hE2
      repeat' ((conv => whnf) <;> first
       | (refine slh_intro (rs := rs) (elemsE hre aN) hr8 om ?_) | (refine plain_appAt (o := 0) (rs := rs.take i) (ys := [[.int .i64 p.Ext, .int .i64 p.Author, .int .i64 p.Version, g3, g4, g5, g6, .int .i64 p.Seal]]) hE2 J rfl rfl (by intro y hy; rw [List.mem_singleton.1 hy]; rfl) (by dsimp only [T108, T120, T58]; simp only [List.length_take, List.length_singleton]; omega) (by rw [maxLen_eq]; simp only [List.length_take, List.length_singleton]; omega) ?_; intro cA SA hEA hFA hlA) | (refine elemsP_intro (elems_cut (elemsE hre hEA) om) ?_) | (refine plain_appAt (o := 0) (rs := rs.take i ++ [[.int .i64 p.Ext, .int .i64 p.Author, .int .i64 p.Version, g3, g4, g5, g6, .int .i64 p.Seal]]) hEA hFA rfl rfl (ys := rs.drop i) (fun y hy => hr8 y (List.mem_of_mem_drop hy)) (by dsimp only [T108, T120, T58]; simp only [List.length_append, List.length_take, List.length_drop, List.length_singleton]; omega) (by rw [maxLen_eq]; simp only [List.length_append, List.length_take, List.length_drop, List.length_singleton]; omega) ?_; intro cB SB hEB hFB hlB) | refine And.intro ?_ ?_)
      have J2 : Fr S.length SB (b.d ++ (.sl 8 (((rs.take i ++ [[.int .i64 p.Ext, .int .i64 p.Author, .int .i64 p.Version, g3, g4, g5, g6, .int .i64 p.Seal]]) ++ rs.drop i).map (List.map D.x)) :: p.d)) ([.int .i64 b.Key, c1, c2, c3, c4, c5, c6, .int .i64 b.Now] ++ (cB :: [.int .i64 p.Ext, .int .i64 p.Author, .int .i64 p.Version, g3, g4, g5, g6, .int .i64 p.Seal])) := f0.join hEB hFB e0.len
      have heB := elemsE hre hEB
      have J3 := J2.refit (o := 2) (xs := b.Packs.map GPackage.d) (xs' := (b.Packs.take i ++ p :: b.Packs.drop i).map GPackage.d) rfl rfl rfl (fun rows js jy h1 h2 h3 h4 => ins_rep hi (by rw [heB] at h1; exact (Option.some.inj h1).symm) h2 h3 h4)
      have EB := e0.trans hEB
      have pg := p1.ext EB
      repeat' ((conv => whnf) <;> first
       | (refine rd_elemsf (f := GGrant.d) (l := p.Grants) pg tv (fun _ => ?_)))
      (conv => whnf)
      refine fr_appAtF (f := GGrant.d) (o := 3) (l := b.Grants) (m := p.Grants) (fun _ => trivial) EB J3 rfl rfl rfl (by intro _; rfl) (by dsimp only [T108, T120, T58]; omega) (by omega) ?_; intro cG SG hEG hFG hlG
      have pr := p3.ext hEG
      repeat' ((conv => whnf) <;> first
       | (refine rd_elemsf (f := GRule.d) (l := p.Rules) pr tv (fun _ => ?_)))
      (conv => whnf)
      refine fr_appAtF (f := GRule.d) (o := 5) (l := b.Rules) (m := p.Rules) (fun _ => trivial) hEG hFG rfl rfl rfl (by intro _; rfl) (by dsimp only [T108, T120, T58]; omega) (by omega) ?_; intro cR SR hER hFR hlR
      have JR : Fr S.length SR (instTo b p).d [.int .i64 b.Key, c1, cB, cG, c4, cR, c6, .int .i64 b.Now] := by
        simp only [instTo, GBrowser.d, hix]; exact hFR
      rcases hk : isBrowser (instTo b p) with _ | _
      · rw [ins_no3 hk]
        repeat' ((conv => whnf) <;> first
         | (refine callP_eq (ev_sIsBrowser (instTo b p) _ _ JR.rd om) ?_) | (show CondP _ _ _; refine cS ?_))
        all_goals try (exfalso; simp_all; done)
        (conv => whnf)
        refine callP_intro (ev_l32Copy b _ _ (hB.ext hER) (by omega)) ?_; rintro _ S8 ⟨e8, q1, q2, q3, q4, q5, q6, rfl, f8⟩
        repeat' ((conv => whnf) <;> first
         | refine And.intro ?_ ?_)
        all_goals first
          | exact hER.trans e8
          | exact ⟨_, _, _, _, _, _, rfl, f8.mono hER.len⟩
      · rw [ins_yes hr hp hk]
        repeat' ((conv => whnf) <;> first
         | (refine callP_eq (ev_sIsBrowser (instTo b p) _ _ JR.rd om) ?_) | (show CondP _ _ _; refine cS ?_) | refine And.intro ?_ ?_)
        all_goals first
          | exact hER
          | exact ⟨_, _, _, _, _, _, rfl, JR⟩
          | (exfalso; simp_all; done)
end Go.Proofs.YtlmmdpmmdmhacaaGreat
