/- A text of the proof. -/
import Derived.Test.YtockphlpokoohaaGreatKa39
import Derived.Test.YtockphlpokoohaaGreatKa42
import Derived.Test.YtockphlpokoohaaGreatKa45
import Derived.Test.YtockphlpokoohaaGreatKa46
import Derived.Test.YtockphlpokoohaaGreatKa47
namespace Go.Proofs.YtockphlpokoohaaGreat
open Go Go.ChangeShapes Go.WideShapes Go.ChangeAt Go.RowKit
set_option linter.unusedVariables false
set_option linter.unusedSimpArgs false
set_option maxRecDepth 100000
theorem putEdit_tab {b : GBrowser} {tab : Int} (e : GEdit) (hi : 0 ≤ tab ∧ tab.toNat < b.Tabs.length) : ∃ h2 : 0 ≤ tab ∧ tab.toNat < (putEdit b tab e).Tabs.length, ((putEdit b tab e).Tabs[tab.toNat]'h2.2).Edits = (b.Tabs[tab.toNat]'hi.2).Edits ++ [e] := by
  refine ⟨⟨hi.1, by unfold putEdit; rw [List.length_set]; exact hi.2⟩, ?_⟩
  simp only [putEdit, List.getElem_set_self]
  have : tabX b tab = b.Tabs[tab.toNat]'hi.2 := by unfold tabX; rw [List.getD_eq_getElem?_getD, List.getElem?_eq_getElem hi.2]; rfl
  rw [this]
theorem appendEd_cases (b : GBrowser) (tab : Int) (e : GEdit) : appendEd b tab e = (putEdit b tab e, true) ∨ appendEd b tab e = (b, false) := by
  unfold appendEd; split
  · exact .inl rfl
  · exact .inr rfl
theorem write_cases (b : GBrowser) (ext tab : Int) (e : GEdit) : ((0 ≤ tab ∧ tab.toNat < b.Tabs.length) ∧ mayAct b ext tab 2 = true ∧ writeTab b ext tab e = (putEdit b tab (edAs e ext), true)) ∨ writeTab b ext tab e = (b, false) := by
  unfold writeTab; split
  · rename_i h
    rw [Bool.and_eq_true] at h
    exact (appendEd_cases b tab (edAs e ext)).imp (fun g => ⟨mayAct_in h.1, h.1, g⟩) id
  · exact .inr rfl
theorem page_cases (b : GBrowser) (tab : Int) (e : GEdit) : ((0 ≤ tab ∧ tab.toNat < b.Tabs.length) ∧ pageEdit b tab e = (putEdit b tab (edAs e 0), true)) ∨ pageEdit b tab e = (b, false) := by
  unfold pageEdit; split
  · rename_i h
    have := inR_t h
    exact (appendEd_cases b tab (edAs e 0)).imp (fun g => ⟨by omega, g⟩) id
  · exact .inr rfl
def stIs (ext name : Int) (x : GStored) : Prop := x.Ext = ext ∧ x.Name = name
theorem plcSt_none {ext name : Int} : ∀ {l : List GStored} {i : Nat}, plcSt ext name l i < 0 → ∀ x ∈ l, ¬ stIs ext name x
  | [], i, _, x, hx => by cases hx
  | y :: r, i, h, x, hx => by
    rw [plcSt] at h
    split at h
    · omega
    · rename_i hn
      rcases List.mem_cons.1 hx with rfl | hx
      · exact hn
      · exact plcSt_none h x hx
theorem plcSt_first {ext name : Int} : ∀ {l m : List GStored} {x : GStored} {i : Nat}, (∀ y ∈ l, ¬ stIs ext name y) → stIs ext name x → plcSt ext name (l ++ x :: m) i = ((i + l.length : Nat) : Int)
  | [], m, x, i, _, hx => by rw [List.nil_append, plcSt, if_pos (show x.Ext = ext ∧ x.Name = name from hx)]; rfl
  | y :: r, m, x, i, h, hx => by
    rw [List.cons_append, plcSt, if_neg (show ¬ (y.Ext = ext ∧ y.Name = name) from h y (List.mem_cons_self ..)), plcSt_first (fun z hz => h z (List.mem_cons_of_mem _ hz)) hx, List.length_cons]
    congr 1; omega
theorem plcSt_split {ext name : Int} : ∀ {l : List GStored} {i : Nat}, 0 ≤ plcSt ext name l i → ∃ p x q, l = p ++ x :: q ∧ plcSt ext name l i = ((i + p.length : Nat) : Int) ∧ (∀ y ∈ p, ¬ stIs ext name y)
  | [], i, h => by simp [plcSt] at h
  | y :: r, i, h => by
    rw [plcSt] at h ⊢
    split
    · exact ⟨[], y, r, rfl, rfl, fun _ hz => by cases hz⟩
    · rename_i hn
      rw [if_neg hn] at h
      obtain ⟨p, x, q, h1, h2, h3⟩ := plcSt_split h
      refine ⟨y :: p, x, q, by rw [h1]; rfl, by rw [h2, List.length_cons]; congr 1; omega, fun z hz => ?_⟩
      rcases List.mem_cons.1 hz with rfl | hz
      · exact hn
      · exact h3 z hz
theorem getSt_at {ext name value ver : Int} {p q : List GStored} (hp : ∀ y ∈ p, ¬ stIs ext name y) : getSt (p ++ ⟨ext, name, value, ver⟩ :: q) ext name = (value, true) := by
  have h := plcSt_first (m := q) (x := ⟨ext, name, value, ver⟩) (i := 0) hp ⟨rfl, rfl⟩
  unfold getSt
  rw [h, if_neg (by omega)]
  congr 1
  rw [List.getD_eq_getElem?_getD, List.getElem?_append_right (by omega)]
  simp
theorem getSt_put (l : List GStored) (ext name value : Int) : getSt (putRaw l ext name value) ext name = (value, true) := by
  unfold putRaw
  split
  · rename_i h
    obtain ⟨p, x, q, h1, h2, h3⟩ := plcSt_split h
    have e : (plcSt ext name l 0).toNat = p.length := by rw [h2]; omega
    generalize wrapI .i64 ((l.getD (plcSt ext name l 0).toNat default).Ver + 1) = ver
    rw [e, h1, List.set_append_right _ _ (Nat.le_refl _), Nat.sub_self, List.set_cons_zero]
    exact getSt_at h3
  · rename_i h
    exact getSt_at fun y hy => plcSt_none (i := 0) (by omega) y (List.mem_of_mem_take hy)
theorem store_cases (b : GBrowser) (ext tab name value : Int) : (mayAct b ext tab 4 = true ∧ ∃ ss, storeFor b ext tab name value = ({ b with Store := ss }, true) ∧ getSt ss ext name = (value, true)) ∨ storeFor b ext tab name value = (b, false) := by
  unfold storeFor putSt
  split
  · rename_i h
    split
    · exact .inl ⟨h, _, rfl, getSt_put _ _ _ _⟩
    · exact .inr rfl
  · exact .inr rfl
theorem seenBy_open {d : List GNode} {hidden : List Int} {by' : Int} {x : GNode} (h : x ∈ seenBy d hidden by') : x.By = by' ∨ ¬ x.Tag ∈ hidden := by
  unfold seenBy seenTo at h
  split at h
  · obtain ⟨k, hk, rfl⟩ := List.mem_map.1 h
    have h2 := (List.mem_filter.1 hk).2
    unfold sees at h2
    rw [seesF, Bool.and_eq_true] at h2
    have h3 := h2.1
    unfold openTo at h3
    rw [Bool.or_eq_true, decide_eq_true_eq, Bool.not_eq_true', decide_eq_false_iff_not] at h3
    exact h3
  · cases h
theorem readTab_no {b : GBrowser} {ext tab : Int} (h : mayAct b ext tab 1 = false) : readTab b ext tab = [] := by unfold readTab; rw [h]; rfl
theorem readTab_open {b : GBrowser} {ext tab : Int} {x : GNode} (h : x ∈ readTab b ext tab) : ∃ hi : 0 ≤ tab ∧ tab.toNat < b.Tabs.length, x.By = ext ∨ ¬ x.Tag ∈ (b.Tabs[tab.toNat]'hi.2).Hidden := by
  unfold readTab at h
  split at h
  · rename_i hm
    have hi := mayAct_in hm
    refine ⟨hi, ?_⟩
    have := seenBy_open h
    have e : tabX b tab = b.Tabs[tab.toNat]'hi.2 := by unfold tabX; rw [List.getD_eq_getElem?_getD, List.getElem?_eq_getElem hi.2]; rfl
    rw [e] at this
    exact this
  · cases h
theorem edBy1_app (l : List GEdit) (e : GEdit) (ext : Int) (h : e.By = ext) : ((l ++ [e]).filter (edBy1 ext)).length = (l.filter (edBy1 ext)).length + 1 := by
  rw [List.filter_append, List.length_append]
  have : edBy1 ext e = true := decide_eq_true h
  simp [this]
theorem tabs_len {b : GBrowser} {i : Nat} (hi : i < b.Tabs.length) {n : Nat} (h : szL b.d ≤ n) : (b.Tabs[i]).Edits.length ≤ n := by
  have h1 := szLL_mem (f := GTab.d) (List.getElem_mem hi)
  have h2 := tab_szD (b.Tabs[i])
  have h3 := br_szD b
  omega
structure StA (x0 : List Int) (c0 : C) where
  S : Store
  b : GBrowser
  ext : Int
  tab : Int
  c1 : C
  c2 : C
  c3 : C
  c4 : C
  c5 : C
  c6 : C
  hc : Rd S [.sl 1 (x0.map dByte)] [c0]
  hb : szL b.d ≤ 250
  qb : Rd S b.d [.int .i64 b.Key, c1, c2, c3, c4, c5, c6, .int .i64 b.Now]
set_option maxHeartbeats 8000000 in
theorem ev_law (x0 : List Int) (c0 : C) (S : Store) (h0 : Rd S [.sl 1 (x0.map dByte)] [c0]) : EvA Tryz.prog 5 [.s c0] S (fun r _ => r = .v (.s (.bool true))) := by
  refine evA_introS tok Tryz.func5 (by kernel_rfl) rfl ?_
  have hz1 : ¬ 1048576 < (x0.length : Int) → x0.length ≤ 1048576 := fun h => by omega
  by_cases hbig : 1048576 < (x0.length : Int)
  · refine sm_den tok ?_
    repeat' ((conv => whnf) <;> first
     | rw [wrapI_i64 (by omega)] | (show CondP _ _ _; refine cS ?_) | refine cD (fun _ => ?_) fun _ => ?_ | refine cE (fun _ => ?_) fun _ => ?_ | refine cT ?_ | refine cF ?_ | refine cN (fun _ => ?_) fun _ => ?_ | refine cI (fun _ => ?_) fun _ => ?_ | refine callP_eq (ev_big _ _ _ rdA) ?_ | refine callP_eq (ev_contains _ _ _ _ rdA) ?_ | (refine callP_eq (ev_iEqualBrowsers _ _ _ _ _ rdcA rdcA) ?_) | (refine callP_intro (ev_DrawWriteTab _ rdA om) ?_; rintro _ Sn ⟨hEn, bn, en, tn, wn, hbn, _, _, _, _, _, _, rfl, hFn⟩) | (refine callP_intro (ev_iWriteTab _ _ _ _ _ _ rdcA (by (first | omega | exact sz_at hz om | (simp only [szL]; omega)))) ?_; rintro _ Sn ⟨hEn, _, _, _, _, _, _, rfl, hFn⟩) | (refine callP_eq (ev_iMayAct _ _ _ _ _ _ rdcA) ?_) | (refine callP_intro (ev_iEditsBy _ _ _ _ rdA om) ?_; rintro _ Sn ⟨hEn, cn, rfl, hFn⟩) | (refine callP_intro (ev_iReadTab _ _ _ _ _ rdcA (by (first | omega | exact sz_at hz om | (simp only [szL]; omega)))) ?_; rintro _ Sn ⟨hEn, cn, rfl, hFn⟩) | (refine callP_intro (ev_DrawStoreFor _ rdA om) ?_; rintro _ Sn ⟨hEn, bn, en, tn, nn, vn, hbn, _, _, _, _, _, _, rfl, hFn⟩) | (refine callP_intro (ev_iStoreFor _ _ _ _ _ _ _ rdcA (by (first | omega | exact sz_at hz om | (simp only [szL]; omega)))) ?_; rintro _ Sn ⟨hEn, _, _, _, _, _, _, rfl, hFn⟩) | refine callP_eq (ev_GetStored _ _ _ _ _ rdA) ?_ | (refine callP_intro (ev_DrawPageEdit _ rdA om) ?_; rintro _ Sn ⟨hEn, bn, tn, wn, hbn, _, _, _, _, _, _, rfl, hFn⟩) | (refine callP_intro (ev_iPageEdit _ _ _ _ _ rdcA (by (first | omega | exact sz_at hz om | (simp only [szL]; omega)))) ?_; rintro _ Sn ⟨hEn, _, _, _, _, _, _, rfl, hFn⟩) | refine rE fun hml => ?_ | refine rI rdA rf ix ?_ | refine rd_loadf rdA tv ix ?_ | (refine rd_loadm (f := GTab.d) rdA ix ?_; intro _ hcs; obtain ⟨_, _, _, rfl, _, _, _⟩ := GTab.inv hcs) | refine nP ?_ | refine draw_intro 42 [.fl 0, .fl 1, .fl 2, .fl 3, .fl 4, .st 5 [], .fl 6, .fl 7, .fl 8, .fl 9, .fl 10, .fl 11, .fl 12, .fl 13, .fl 14, .fl 17, .fl 18, .fl 19, .fl 20, .fl 21, .fl 22, .fl 23, .st 15 [17, 18, 19, 20, 21, 22, 23], .fl 16, .st 24 [16], .fl 25, .fl 26, .fl 27, .fl 28, .fl 29, .fl 30, .fl 31, .fl 32, .fl 33, .fl 34, .fl 35, .st 36 [], .fl 37, .fl 38, .fl 39] (by rfl) (by kernel_rfl) ?_ | refine draw_intro 102 [.fl 0, .fl 1, .fl 2, .fl 3, .fl 4, .fl 5, .fl 6, .fl 7, .fl 8, .fl 9, .fl 10, .st 11 [], .fl 12, .fl 13, .fl 14, .fl 15, .fl 16, .fl 17, .fl 18, .fl 19, .fl 20] (by rfl) (by kernel_rfl) ?_ | refine draw_intro 187 [.fl 0, .fl 1, .fl 2, .fl 3, .fl 4, .fl 5, .fl 6, .fl 7, .fl 8, .fl 9, .fl 10, .fl 11, .fl 12, .fl 13, .fl 14, .fl 15, .fl 16, .fl 17, .fl 18, .fl 19, .fl 20, .fl 21, .fl 22, .fl 23, .fl 24, .st 25 [], .fl 26, .fl 27, .st 28 []] (by rfl) (by kernel_rfl) ?_ | refine And.intro ?_ ?_)
    all_goals first
      | rfl
      | (exfalso; omega)
  have hz := hz1 hbig
  refine sm_cut tok 4 215 (fun q : StA x0 c0 => [(0, .v (.s c0)), (3, .box [.int .i64 q.b.Key, q.c1, q.c2, q.c3, q.c4, q.c5, q.c6, .int .i64 q.b.Now]), (4, .v (.s (.int .i64 q.ext))), (5, .v (.s (.int .i64 q.tab)))]) (fun q => q.S) rfl ?_ ?_
  · repeat' ((conv => whnf) <;> first
     | rw [wrapI_i64 (by omega)] | (show CondP _ _ _; refine cS ?_) | refine cD (fun _ => ?_) fun _ => ?_ | refine cE (fun _ => ?_) fun _ => ?_ | refine cT ?_ | refine cF ?_ | refine cN (fun _ => ?_) fun _ => ?_ | refine cI (fun _ => ?_) fun _ => ?_ | refine callP_eq (ev_big _ _ _ rdA) ?_ | refine callP_eq (ev_contains _ _ _ _ rdA) ?_ | (refine callP_eq (ev_iEqualBrowsers _ _ _ _ _ rdcA rdcA) ?_) | (refine callP_eq (ev_iMayAct _ _ _ _ _ _ rdcA) ?_) | refine callP_eq (ev_GetStored _ _ _ _ _ rdA) ?_ | refine rE fun hml => ?_ | refine rI rdA rf ix ?_ | refine rd_loadf rdA tv ix ?_ | (refine rd_loadm (f := GTab.d) rdA ix ?_; intro _ hcs; obtain ⟨_, _, _, rfl, _, _, _⟩ := GTab.inv hcs) | refine nP ?_ | refine draw_intro 42 [.fl 0, .fl 1, .fl 2, .fl 3, .fl 4, .st 5 [], .fl 6, .fl 7, .fl 8, .fl 9, .fl 10, .fl 11, .fl 12, .fl 13, .fl 14, .fl 17, .fl 18, .fl 19, .fl 20, .fl 21, .fl 22, .fl 23, .st 15 [17, 18, 19, 20, 21, 22, 23], .fl 16, .st 24 [16], .fl 25, .fl 26, .fl 27, .fl 28, .fl 29, .fl 30, .fl 31, .fl 32, .fl 33, .fl 34, .fl 35, .st 36 [], .fl 37, .fl 38, .fl 39] (by rfl) (by kernel_rfl) ?_ | refine draw_intro 102 [.fl 0, .fl 1, .fl 2, .fl 3, .fl 4, .fl 5, .fl 6, .fl 7, .fl 8, .fl 9, .fl 10, .st 11 [], .fl 12, .fl 13, .fl 14, .fl 15, .fl 16, .fl 17, .fl 18, .fl 19, .fl 20] (by rfl) (by kernel_rfl) ?_ | refine draw_intro 187 [.fl 0, .fl 1, .fl 2, .fl 3, .fl 4, .fl 5, .fl 6, .fl 7, .fl 8, .fl 9, .fl 10, .fl 11, .fl 12, .fl 13, .fl 14, .fl 15, .fl 16, .fl 17, .fl 18, .fl 19, .fl 20, .fl 21, .fl 22, .fl 23, .fl 24, .st 25 [], .fl 26, .fl 27, .st 28 []] (by rfl) (by kernel_rfl) ?_ | refine And.intro ?_ ?_)
    (conv => whnf)
    refine callP_intro (ev_DrawWriteTab x0 h0 hz) ?_; rintro _ S1 ⟨e1, b, ext, tab, w, hb, c1, c2, c3, c4, c5, c6, rfl, f1⟩
    have hc := h0.ext e1
    have r1 := f1.rd
    repeat' ((conv => whnf) <;> first
     | rw [wrapI_i64 (by omega)] | (show CondP _ _ _; refine cS ?_) | refine cD (fun _ => ?_) fun _ => ?_ | refine cE (fun _ => ?_) fun _ => ?_ | refine cT ?_ | refine cF ?_ | refine cN (fun _ => ?_) fun _ => ?_ | refine cI (fun _ => ?_) fun _ => ?_ | refine callP_eq (ev_big _ _ _ rdA) ?_ | refine callP_eq (ev_contains _ _ _ _ rdA) ?_ | (refine callP_eq (ev_iEqualBrowsers _ _ _ _ _ rdcA rdcA) ?_) | (refine callP_eq (ev_iMayAct _ _ _ _ _ _ rdcA) ?_) | refine callP_eq (ev_GetStored _ _ _ _ _ rdA) ?_ | refine rE fun hml => ?_ | refine rI rdA rf ix ?_ | refine rd_loadf rdA tv ix ?_ | (refine rd_loadm (f := GTab.d) rdA ix ?_; intro _ hcs; obtain ⟨_, _, _, rfl, _, _, _⟩ := GTab.inv hcs) | refine nP ?_ | refine draw_intro 42 [.fl 0, .fl 1, .fl 2, .fl 3, .fl 4, .st 5 [], .fl 6, .fl 7, .fl 8, .fl 9, .fl 10, .fl 11, .fl 12, .fl 13, .fl 14, .fl 17, .fl 18, .fl 19, .fl 20, .fl 21, .fl 22, .fl 23, .st 15 [17, 18, 19, 20, 21, 22, 23], .fl 16, .st 24 [16], .fl 25, .fl 26, .fl 27, .fl 28, .fl 29, .fl 30, .fl 31, .fl 32, .fl 33, .fl 34, .fl 35, .st 36 [], .fl 37, .fl 38, .fl 39] (by rfl) (by kernel_rfl) ?_ | refine draw_intro 102 [.fl 0, .fl 1, .fl 2, .fl 3, .fl 4, .fl 5, .fl 6, .fl 7, .fl 8, .fl 9, .fl 10, .st 11 [], .fl 12, .fl 13, .fl 14, .fl 15, .fl 16, .fl 17, .fl 18, .fl 19, .fl 20] (by rfl) (by kernel_rfl) ?_ | refine draw_intro 187 [.fl 0, .fl 1, .fl 2, .fl 3, .fl 4, .fl 5, .fl 6, .fl 7, .fl 8, .fl 9, .fl 10, .fl 11, .fl 12, .fl 13, .fl 14, .fl 15, .fl 16, .fl 17, .fl 18, .fl 19, .fl 20, .fl 21, .fl 22, .fl 23, .fl 24, .st 25 [], .fl 26, .fl 27, .st 28 []] (by rfl) (by kernel_rfl) ?_ | refine And.intro ?_ ?_)
    (conv => whnf)
    refine callP_intro (ev_iWriteTab b ext tab w _ _ r1 (by omega)) ?_; rintro _ S2 ⟨e2, d1, d2, d3, d4, d5, d6, rfl, f2⟩
    replace hc := hc.ext e2
    have qb := r1.ext e2
    obtain ⟨_, _, _, _, _, _, hk0, t1, _, _, _, _, _⟩ := GBrowser.inv qb
    simp only [List.cons.injEq, true_and, and_true] at hk0
    obtain ⟨rfl, rfl, rfl, rfl, rfl, rfl⟩ := hk0
    rcases write_cases b ext tab w with ⟨hi, hm, hw⟩ | hw
    case inl =>
      rw [hw] at f2 ⊢
      have r2 : Rd S2 (putEdit b tab (edAs w ext)).d [.int .i64 (putEdit b tab (edAs w ext)).Key, d1, d2, d3, d4, d5, d6, .int .i64 (putEdit b tab (edAs w ext)).Now] := f2.rd
      obtain ⟨_, _, _, _, _, _, hk1, p1, _, _, _, _, _⟩ := GBrowser.inv r2
      simp only [List.cons.injEq, true_and, and_true] at hk1
      obtain ⟨rfl, rfl, rfl, rfl, rfl, rfl⟩ := hk1
      obtain ⟨h2, he⟩ := putEdit_tab (edAs w ext) hi
      have hlx := tabs_len hi.2 hb.1
      have hly : ((putEdit b tab (edAs w ext)).Tabs[tab.toNat]'h2.2).Edits.length ≤ 251 := by rw [he, List.length_append, List.length_singleton]; omega
      have hcnt := edBy1_app (b.Tabs[tab.toNat]'hi.2).Edits (edAs w ext) ext rfl
      rw [← he] at hcnt
      have hfl := List.length_filter_le (edBy1 ext) (b.Tabs[tab.toNat]'hi.2).Edits
      obtain ⟨pcs, hpr, hpld⟩ := rd_loadx p1 (i := tab) h2
      obtain ⟨_, _, _, rfl, a1, a2, a3⟩ := GTab.inv hpr
      obtain ⟨ycs, hyr, hyld⟩ := rd_loadx t1 (i := tab) hi
      obtain ⟨_, _, _, rfl, y1, y2, y3⟩ := GTab.inv hyr
      repeat' ((conv => whnf) <;> first
       | (refine hyld _ (Ext.refl _) _ ?_) | (refine hpld _ (Ext.refl _) _ ?_) | (refine callP_eq (ev_iMayAct b ext tab 2 _ _ qb) ?_) | rw [wrapI_i64 (by omega)] | (show CondP _ _ _; refine cS ?_) | refine cD (fun _ => ?_) fun _ => ?_ | refine cE (fun _ => ?_) fun _ => ?_ | refine cT ?_ | refine cF ?_ | refine cN (fun _ => ?_) fun _ => ?_ | refine cI (fun _ => ?_) fun _ => ?_ | refine callP_eq (ev_big _ _ _ rdA) ?_ | refine callP_eq (ev_contains _ _ _ _ rdA) ?_ | (refine callP_eq (ev_iEqualBrowsers _ _ _ _ _ rdcA rdcA) ?_) | (refine callP_eq (ev_iMayAct _ _ _ _ _ _ rdcA) ?_) | refine callP_eq (ev_GetStored _ _ _ _ _ rdA) ?_ | refine rE fun hml => ?_ | refine rI rdA rf ix ?_ | refine rd_loadf rdA tv ix ?_ | (refine rd_loadm (f := GTab.d) rdA ix ?_; intro _ hcs; obtain ⟨_, _, _, rfl, _, _, _⟩ := GTab.inv hcs) | refine nP ?_ | refine draw_intro 42 [.fl 0, .fl 1, .fl 2, .fl 3, .fl 4, .st 5 [], .fl 6, .fl 7, .fl 8, .fl 9, .fl 10, .fl 11, .fl 12, .fl 13, .fl 14, .fl 17, .fl 18, .fl 19, .fl 20, .fl 21, .fl 22, .fl 23, .st 15 [17, 18, 19, 20, 21, 22, 23], .fl 16, .st 24 [16], .fl 25, .fl 26, .fl 27, .fl 28, .fl 29, .fl 30, .fl 31, .fl 32, .fl 33, .fl 34, .fl 35, .st 36 [], .fl 37, .fl 38, .fl 39] (by rfl) (by kernel_rfl) ?_ | refine draw_intro 102 [.fl 0, .fl 1, .fl 2, .fl 3, .fl 4, .fl 5, .fl 6, .fl 7, .fl 8, .fl 9, .fl 10, .st 11 [], .fl 12, .fl 13, .fl 14, .fl 15, .fl 16, .fl 17, .fl 18, .fl 19, .fl 20] (by rfl) (by kernel_rfl) ?_ | refine draw_intro 187 [.fl 0, .fl 1, .fl 2, .fl 3, .fl 4, .fl 5, .fl 6, .fl 7, .fl 8, .fl 9, .fl 10, .fl 11, .fl 12, .fl 13, .fl 14, .fl 15, .fl 16, .fl 17, .fl 18, .fl 19, .fl 20, .fl 21, .fl 22, .fl 23, .fl 24, .st 25 [], .fl 26, .fl 27, .st 28 []] (by rfl) (by kernel_rfl) ?_ | (refine rI p1 rf h2 ?_) | (refine rI t1 rf hi ?_) | refine And.intro ?_ ?_)
      all_goals try (exfalso; simp_all; done)
      (conv => whnf)
      refine callP_intro (ev_iEditsBy _ ext _ _ a2 (by omega)) ?_; rintro _ S3 ⟨e3, k3, rfl, f3⟩
      have g3 := f3.rd
      repeat' ((conv => whnf) <;> first
       | (refine hyld _ e3 _ ?_) | rw [wrapI_i64 (by omega)] | (show CondP _ _ _; refine cS ?_) | refine cD (fun _ => ?_) fun _ => ?_ | refine cE (fun _ => ?_) fun _ => ?_ | refine cT ?_ | refine cF ?_ | refine cN (fun _ => ?_) fun _ => ?_ | refine cI (fun _ => ?_) fun _ => ?_ | refine callP_eq (ev_big _ _ _ rdA) ?_ | refine callP_eq (ev_contains _ _ _ _ rdA) ?_ | (refine callP_eq (ev_iEqualBrowsers _ _ _ _ _ rdcA rdcA) ?_) | (refine callP_eq (ev_iMayAct _ _ _ _ _ _ rdcA) ?_) | refine callP_eq (ev_GetStored _ _ _ _ _ rdA) ?_ | refine rE fun hml => ?_ | refine rI rdA rf ix ?_ | refine rd_loadf rdA tv ix ?_ | (refine rd_loadm (f := GTab.d) rdA ix ?_; intro _ hcs; obtain ⟨_, _, _, rfl, _, _, _⟩ := GTab.inv hcs) | refine nP ?_ | refine draw_intro 42 [.fl 0, .fl 1, .fl 2, .fl 3, .fl 4, .st 5 [], .fl 6, .fl 7, .fl 8, .fl 9, .fl 10, .fl 11, .fl 12, .fl 13, .fl 14, .fl 17, .fl 18, .fl 19, .fl 20, .fl 21, .fl 22, .fl 23, .st 15 [17, 18, 19, 20, 21, 22, 23], .fl 16, .st 24 [16], .fl 25, .fl 26, .fl 27, .fl 28, .fl 29, .fl 30, .fl 31, .fl 32, .fl 33, .fl 34, .fl 35, .st 36 [], .fl 37, .fl 38, .fl 39] (by rfl) (by kernel_rfl) ?_ | refine draw_intro 102 [.fl 0, .fl 1, .fl 2, .fl 3, .fl 4, .fl 5, .fl 6, .fl 7, .fl 8, .fl 9, .fl 10, .st 11 [], .fl 12, .fl 13, .fl 14, .fl 15, .fl 16, .fl 17, .fl 18, .fl 19, .fl 20] (by rfl) (by kernel_rfl) ?_ | refine draw_intro 187 [.fl 0, .fl 1, .fl 2, .fl 3, .fl 4, .fl 5, .fl 6, .fl 7, .fl 8, .fl 9, .fl 10, .fl 11, .fl 12, .fl 13, .fl 14, .fl 15, .fl 16, .fl 17, .fl 18, .fl 19, .fl 20, .fl 21, .fl 22, .fl 23, .fl 24, .st 25 [], .fl 26, .fl 27, .st 28 []] (by rfl) (by kernel_rfl) ?_ | (refine rI (t1.ext e3) rf hi ?_) | refine And.intro ?_ ?_)
      (conv => whnf)
      refine callP_intro (ev_iEditsBy _ ext _ _ (y2.ext e3) (by omega)) ?_; rintro _ S4 ⟨e4, k4, rfl, f4⟩
      have g4 := f4.rd
      have g34 := g3.ext e4
      repeat' ((conv => whnf) <;> first
       | (refine rd_lenm g4 ?_; intro hml) | (refine rd_lenm g34 ?_; intro hml) | rw [wrapI_i64 (by omega)] | (show CondP _ _ _; refine cS ?_) | refine cD (fun _ => ?_) fun _ => ?_ | refine cE (fun _ => ?_) fun _ => ?_ | refine cT ?_ | refine cF ?_ | refine cN (fun _ => ?_) fun _ => ?_ | refine cI (fun _ => ?_) fun _ => ?_ | refine callP_eq (ev_big _ _ _ rdA) ?_ | refine callP_eq (ev_contains _ _ _ _ rdA) ?_ | (refine callP_eq (ev_iEqualBrowsers _ _ _ _ _ rdcA rdcA) ?_) | (refine callP_eq (ev_iMayAct _ _ _ _ _ _ rdcA) ?_) | refine callP_eq (ev_GetStored _ _ _ _ _ rdA) ?_ | refine rE fun hml => ?_ | refine rI rdA rf ix ?_ | refine rd_loadf rdA tv ix ?_ | (refine rd_loadm (f := GTab.d) rdA ix ?_; intro _ hcs; obtain ⟨_, _, _, rfl, _, _, _⟩ := GTab.inv hcs) | refine nP ?_ | refine draw_intro 42 [.fl 0, .fl 1, .fl 2, .fl 3, .fl 4, .st 5 [], .fl 6, .fl 7, .fl 8, .fl 9, .fl 10, .fl 11, .fl 12, .fl 13, .fl 14, .fl 17, .fl 18, .fl 19, .fl 20, .fl 21, .fl 22, .fl 23, .st 15 [17, 18, 19, 20, 21, 22, 23], .fl 16, .st 24 [16], .fl 25, .fl 26, .fl 27, .fl 28, .fl 29, .fl 30, .fl 31, .fl 32, .fl 33, .fl 34, .fl 35, .st 36 [], .fl 37, .fl 38, .fl 39] (by rfl) (by kernel_rfl) ?_ | refine draw_intro 102 [.fl 0, .fl 1, .fl 2, .fl 3, .fl 4, .fl 5, .fl 6, .fl 7, .fl 8, .fl 9, .fl 10, .st 11 [], .fl 12, .fl 13, .fl 14, .fl 15, .fl 16, .fl 17, .fl 18, .fl 19, .fl 20] (by rfl) (by kernel_rfl) ?_ | refine draw_intro 187 [.fl 0, .fl 1, .fl 2, .fl 3, .fl 4, .fl 5, .fl 6, .fl 7, .fl 8, .fl 9, .fl 10, .fl 11, .fl 12, .fl 13, .fl 14, .fl 15, .fl 16, .fl 17, .fl 18, .fl 19, .fl 20, .fl 21, .fl 22, .fl 23, .fl 24, .st 25 [], .fl 26, .fl 27, .st 28 []] (by rfl) (by kernel_rfl) ?_ | refine And.intro ?_ ?_)
      all_goals try (exfalso; omega)
      replace hc := hc.ext (e3.trans e4)
      replace qb := qb.ext (e3.trans e4)
      replace t1 := t1.ext (e3.trans e4)
      (conv => whnf)
      exact ⟨⟨_, b, ext, tab, _, _, _, _, _, _, hc, hb.1, qb⟩, rfl, ⟨rfl, rfl, rfl, rfl, trivial⟩, rfl⟩
    case inr =>
      rw [hw] at f2 ⊢
      have r2 := f2.rd
      have hself : decide (b = b) = true := decide_eq_true rfl
      repeat' ((conv => whnf) <;> first
       | (refine callP_eq (ev_iEqualBrowsers b b _ _ _ r2 qb) ?_) | rw [wrapI_i64 (by omega)] | (show CondP _ _ _; refine cS ?_) | refine cD (fun _ => ?_) fun _ => ?_ | refine cE (fun _ => ?_) fun _ => ?_ | refine cT ?_ | refine cF ?_ | refine cN (fun _ => ?_) fun _ => ?_ | refine cI (fun _ => ?_) fun _ => ?_ | refine callP_eq (ev_big _ _ _ rdA) ?_ | refine callP_eq (ev_contains _ _ _ _ rdA) ?_ | (refine callP_eq (ev_iEqualBrowsers _ _ _ _ _ rdcA rdcA) ?_) | (refine callP_eq (ev_iMayAct _ _ _ _ _ _ rdcA) ?_) | refine callP_eq (ev_GetStored _ _ _ _ _ rdA) ?_ | refine rE fun hml => ?_ | refine rI rdA rf ix ?_ | refine rd_loadf rdA tv ix ?_ | (refine rd_loadm (f := GTab.d) rdA ix ?_; intro _ hcs; obtain ⟨_, _, _, rfl, _, _, _⟩ := GTab.inv hcs) | refine nP ?_ | refine draw_intro 42 [.fl 0, .fl 1, .fl 2, .fl 3, .fl 4, .st 5 [], .fl 6, .fl 7, .fl 8, .fl 9, .fl 10, .fl 11, .fl 12, .fl 13, .fl 14, .fl 17, .fl 18, .fl 19, .fl 20, .fl 21, .fl 22, .fl 23, .st 15 [17, 18, 19, 20, 21, 22, 23], .fl 16, .st 24 [16], .fl 25, .fl 26, .fl 27, .fl 28, .fl 29, .fl 30, .fl 31, .fl 32, .fl 33, .fl 34, .fl 35, .st 36 [], .fl 37, .fl 38, .fl 39] (by rfl) (by kernel_rfl) ?_ | refine draw_intro 102 [.fl 0, .fl 1, .fl 2, .fl 3, .fl 4, .fl 5, .fl 6, .fl 7, .fl 8, .fl 9, .fl 10, .st 11 [], .fl 12, .fl 13, .fl 14, .fl 15, .fl 16, .fl 17, .fl 18, .fl 19, .fl 20] (by rfl) (by kernel_rfl) ?_ | refine draw_intro 187 [.fl 0, .fl 1, .fl 2, .fl 3, .fl 4, .fl 5, .fl 6, .fl 7, .fl 8, .fl 9, .fl 10, .fl 11, .fl 12, .fl 13, .fl 14, .fl 15, .fl 16, .fl 17, .fl 18, .fl 19, .fl 20, .fl 21, .fl 22, .fl 23, .fl 24, .st 25 [], .fl 26, .fl 27, .st 28 []] (by rfl) (by kernel_rfl) ?_ | refine And.intro ?_ ?_)
      all_goals try (exfalso; simp_all; done)
      (conv => whnf)
      exact ⟨⟨_, b, ext, tab, _, _, _, _, _, _, hc, hb.1, qb⟩, rfl, ⟨rfl, rfl, rfl, rfl, trivial⟩, rfl⟩
  rintro ⟨S4, b, ext, tab, c1, c2, c3, c4, c5, c6, hc, hb, qb⟩
  obtain ⟨_, _, _, _, _, _, hk0, t1, _, _, _, _, _⟩ := GBrowser.inv qb
  simp only [List.cons.injEq, true_and, and_true] at hk0
  obtain ⟨rfl, rfl, rfl, rfl, rfl, rfl⟩ := hk0
  refine sm_cut tok 2 215 (fun q : StC x0 c0 => [(0, .v (.s c0))]) (fun q => q.S) rfl ?_ ?_
  · repeat' ((conv => whnf) <;> first
     | rw [wrapI_i64 (by omega)] | (show CondP _ _ _; refine cS ?_) | refine cD (fun _ => ?_) fun _ => ?_ | refine cE (fun _ => ?_) fun _ => ?_ | refine cT ?_ | refine cF ?_ | refine cN (fun _ => ?_) fun _ => ?_ | refine cI (fun _ => ?_) fun _ => ?_ | refine callP_eq (ev_big _ _ _ rdA) ?_ | refine callP_eq (ev_contains _ _ _ _ rdA) ?_ | (refine callP_eq (ev_iEqualBrowsers _ _ _ _ _ rdcA rdcA) ?_) | (refine callP_eq (ev_iMayAct _ _ _ _ _ _ rdcA) ?_) | refine callP_eq (ev_GetStored _ _ _ _ _ rdA) ?_ | refine rE fun hml => ?_ | refine rI rdA rf ix ?_ | refine rd_loadf rdA tv ix ?_ | (refine rd_loadm (f := GTab.d) rdA ix ?_; intro _ hcs; obtain ⟨_, _, _, rfl, _, _, _⟩ := GTab.inv hcs) | refine nP ?_ | refine draw_intro 42 [.fl 0, .fl 1, .fl 2, .fl 3, .fl 4, .st 5 [], .fl 6, .fl 7, .fl 8, .fl 9, .fl 10, .fl 11, .fl 12, .fl 13, .fl 14, .fl 17, .fl 18, .fl 19, .fl 20, .fl 21, .fl 22, .fl 23, .st 15 [17, 18, 19, 20, 21, 22, 23], .fl 16, .st 24 [16], .fl 25, .fl 26, .fl 27, .fl 28, .fl 29, .fl 30, .fl 31, .fl 32, .fl 33, .fl 34, .fl 35, .st 36 [], .fl 37, .fl 38, .fl 39] (by rfl) (by kernel_rfl) ?_ | refine draw_intro 102 [.fl 0, .fl 1, .fl 2, .fl 3, .fl 4, .fl 5, .fl 6, .fl 7, .fl 8, .fl 9, .fl 10, .st 11 [], .fl 12, .fl 13, .fl 14, .fl 15, .fl 16, .fl 17, .fl 18, .fl 19, .fl 20] (by rfl) (by kernel_rfl) ?_ | refine draw_intro 187 [.fl 0, .fl 1, .fl 2, .fl 3, .fl 4, .fl 5, .fl 6, .fl 7, .fl 8, .fl 9, .fl 10, .fl 11, .fl 12, .fl 13, .fl 14, .fl 15, .fl 16, .fl 17, .fl 18, .fl 19, .fl 20, .fl 21, .fl 22, .fl 23, .fl 24, .st 25 [], .fl 26, .fl 27, .st 28 []] (by rfl) (by kernel_rfl) ?_ | refine And.intro ?_ ?_)
    (conv => whnf)
    refine callP_intro (ev_iReadTab b ext tab _ _ qb (by omega)) ?_; rintro _ S5 ⟨e5, kS, rfl, f5⟩
    have qS := f5.rd
    replace hc := hc.ext e5
    replace qb := qb.ext e5
    replace t1 := t1.ext e5
    clear f5 e5
    by_cases hs0 : (readTab b ext tab).length = 0
    case' neg =>
      have hm1 : mayAct b ext tab 1 = true := by
        cases h : mayAct b ext tab 1 with
        | true => rfl
        | false => rw [readTab_no h] at hs0; exact absurd rfl hs0
    all_goals
      repeat' ((conv => whnf) <;> first
       | (refine callP_eq (ev_iMayAct b ext tab 1 _ _ qb) ?_) | rw [wrapI_i64 (by omega)] | (show CondP _ _ _; refine cS ?_) | refine cD (fun _ => ?_) fun _ => ?_ | refine cE (fun _ => ?_) fun _ => ?_ | refine cT ?_ | refine cF ?_ | refine cN (fun _ => ?_) fun _ => ?_ | refine cI (fun _ => ?_) fun _ => ?_ | refine callP_eq (ev_big _ _ _ rdA) ?_ | refine callP_eq (ev_contains _ _ _ _ rdA) ?_ | (refine callP_eq (ev_iEqualBrowsers _ _ _ _ _ rdcA rdcA) ?_) | (refine callP_eq (ev_iMayAct _ _ _ _ _ _ rdcA) ?_) | refine callP_eq (ev_GetStored _ _ _ _ _ rdA) ?_ | refine rE fun hml => ?_ | refine rI rdA rf ix ?_ | refine rd_loadf rdA tv ix ?_ | (refine rd_loadm (f := GTab.d) rdA ix ?_; intro _ hcs; obtain ⟨_, _, _, rfl, _, _, _⟩ := GTab.inv hcs) | refine nP ?_ | refine draw_intro 42 [.fl 0, .fl 1, .fl 2, .fl 3, .fl 4, .st 5 [], .fl 6, .fl 7, .fl 8, .fl 9, .fl 10, .fl 11, .fl 12, .fl 13, .fl 14, .fl 17, .fl 18, .fl 19, .fl 20, .fl 21, .fl 22, .fl 23, .st 15 [17, 18, 19, 20, 21, 22, 23], .fl 16, .st 24 [16], .fl 25, .fl 26, .fl 27, .fl 28, .fl 29, .fl 30, .fl 31, .fl 32, .fl 33, .fl 34, .fl 35, .st 36 [], .fl 37, .fl 38, .fl 39] (by rfl) (by kernel_rfl) ?_ | refine draw_intro 102 [.fl 0, .fl 1, .fl 2, .fl 3, .fl 4, .fl 5, .fl 6, .fl 7, .fl 8, .fl 9, .fl 10, .st 11 [], .fl 12, .fl 13, .fl 14, .fl 15, .fl 16, .fl 17, .fl 18, .fl 19, .fl 20] (by rfl) (by kernel_rfl) ?_ | refine draw_intro 187 [.fl 0, .fl 1, .fl 2, .fl 3, .fl 4, .fl 5, .fl 6, .fl 7, .fl 8, .fl 9, .fl 10, .fl 11, .fl 12, .fl 13, .fl 14, .fl 15, .fl 16, .fl 17, .fl 18, .fl 19, .fl 20, .fl 21, .fl 22, .fl 23, .fl 24, .st 25 [], .fl 26, .fl 27, .st 28 []] (by rfl) (by kernel_rfl) ?_ | refine And.intro ?_ ?_)
      all_goals try (exfalso; simp_all; done)
    all_goals
      refine loop_intro {i : Nat // i ≤ (readTab b ext tab).length ∧ True} [2, 10, 96, 97, 98, 99, 100, 101, 102, 103, 104, 105, 106, 107, 108, 109, 110, 111, 112, 113, 114, 115, 116, 117, 118, 119, 120, 121, 122] (fun zb => [(10, .v (.s (.int .i64 zb.1)))]) (fun _ => S5) (fun zb => (readTab b ext tab).length - zb.1) ⟨0, Nat.zero_le _, trivial⟩ ?_ rfl ?_
      · (conv => whnf); repeat' (first | exact trivial | exact rfl | apply And.intro)
      rintro ⟨i, hi, hinv⟩; dsimp only
      by_cases hlt : i < (readTab b ext tab).length
      · have hlt' : ((i : Nat) : Int).toNat < (readTab b ext tab).length := by simpa using hlt
        obtain ⟨hi2, hop⟩ := readTab_open (List.getElem_mem hlt')
        obtain ⟨zcs, hzr, hzld⟩ := rd_loadx t1 (i := tab) hi2
        obtain ⟨_, _, _, rfl, z1, z2, z3⟩ := GTab.inv hzr
        rcases hop with hop | hop
        · by_cases hin : ((readTab b ext tab)[((i : Nat) : Int).toNat]'hlt').Tag ∈ (b.Tabs[tab.toNat]'hi2.2).Hidden
          · have hcn := ev_contains (b.Tabs[tab.toNat]'hi2.2).Hidden ((readTab b ext tab)[((i : Nat) : Int).toNat]'hlt').Tag _ _ z3
            rw [decide_eq_true hin] at hcn
            repeat' ((conv => whnf) <;> first
             | (refine hzld _ (Ext.refl _) _ ?_) | (refine callP_eq hcn ?_) | rw [wrapI_i64 (by omega)] | (show CondP _ _ _; refine cS ?_) | refine cD (fun _ => ?_) fun _ => ?_ | refine cE (fun _ => ?_) fun _ => ?_ | refine cT ?_ | refine cF ?_ | refine cN (fun _ => ?_) fun _ => ?_ | refine cI (fun _ => ?_) fun _ => ?_ | refine callP_eq (ev_big _ _ _ rdA) ?_ | refine callP_eq (ev_contains _ _ _ _ rdA) ?_ | (refine callP_eq (ev_iEqualBrowsers _ _ _ _ _ rdcA rdcA) ?_) | (refine callP_intro (ev_DrawWriteTab _ rdA om) ?_; rintro _ Sn ⟨hEn, bn, en, tn, wn, hbn, _, _, _, _, _, _, rfl, hFn⟩) | (refine callP_intro (ev_iWriteTab _ _ _ _ _ _ rdcA (by (first | omega | exact sz_at hz om | (simp only [szL]; omega)))) ?_; rintro _ Sn ⟨hEn, _, _, _, _, _, _, rfl, hFn⟩) | (refine callP_eq (ev_iMayAct _ _ _ _ _ _ rdcA) ?_) | (refine callP_intro (ev_iEditsBy _ _ _ _ rdA om) ?_; rintro _ Sn ⟨hEn, cn, rfl, hFn⟩) | (refine callP_intro (ev_iReadTab _ _ _ _ _ rdcA (by (first | omega | exact sz_at hz om | (simp only [szL]; omega)))) ?_; rintro _ Sn ⟨hEn, cn, rfl, hFn⟩) | (refine callP_intro (ev_DrawStoreFor _ rdA om) ?_; rintro _ Sn ⟨hEn, bn, en, tn, nn, vn, hbn, _, _, _, _, _, _, rfl, hFn⟩) | (refine callP_intro (ev_iStoreFor _ _ _ _ _ _ _ rdcA (by (first | omega | exact sz_at hz om | (simp only [szL]; omega)))) ?_; rintro _ Sn ⟨hEn, _, _, _, _, _, _, rfl, hFn⟩) | refine callP_eq (ev_GetStored _ _ _ _ _ rdA) ?_ | (refine callP_intro (ev_DrawPageEdit _ rdA om) ?_; rintro _ Sn ⟨hEn, bn, tn, wn, hbn, _, _, _, _, _, _, rfl, hFn⟩) | (refine callP_intro (ev_iPageEdit _ _ _ _ _ rdcA (by (first | omega | exact sz_at hz om | (simp only [szL]; omega)))) ?_; rintro _ Sn ⟨hEn, _, _, _, _, _, _, rfl, hFn⟩) | refine rE fun hml => ?_ | refine rI rdA rf ix ?_ | refine rd_loadf rdA tv ix ?_ | (refine rd_loadm (f := GTab.d) rdA ix ?_; intro _ hcs; obtain ⟨_, _, _, rfl, _, _, _⟩ := GTab.inv hcs) | refine nP ?_ | refine draw_intro 42 [.fl 0, .fl 1, .fl 2, .fl 3, .fl 4, .st 5 [], .fl 6, .fl 7, .fl 8, .fl 9, .fl 10, .fl 11, .fl 12, .fl 13, .fl 14, .fl 17, .fl 18, .fl 19, .fl 20, .fl 21, .fl 22, .fl 23, .st 15 [17, 18, 19, 20, 21, 22, 23], .fl 16, .st 24 [16], .fl 25, .fl 26, .fl 27, .fl 28, .fl 29, .fl 30, .fl 31, .fl 32, .fl 33, .fl 34, .fl 35, .st 36 [], .fl 37, .fl 38, .fl 39] (by rfl) (by kernel_rfl) ?_ | refine draw_intro 102 [.fl 0, .fl 1, .fl 2, .fl 3, .fl 4, .fl 5, .fl 6, .fl 7, .fl 8, .fl 9, .fl 10, .st 11 [], .fl 12, .fl 13, .fl 14, .fl 15, .fl 16, .fl 17, .fl 18, .fl 19, .fl 20] (by rfl) (by kernel_rfl) ?_ | refine draw_intro 187 [.fl 0, .fl 1, .fl 2, .fl 3, .fl 4, .fl 5, .fl 6, .fl 7, .fl 8, .fl 9, .fl 10, .fl 11, .fl 12, .fl 13, .fl 14, .fl 15, .fl 16, .fl 17, .fl 18, .fl 19, .fl 20, .fl 21, .fl 22, .fl 23, .fl 24, .st 25 [], .fl 26, .fl 27, .st 28 []] (by rfl) (by kernel_rfl) ?_ | (refine rI t1 rf hi2 ?_) | refine And.intro ?_ ?_)
            all_goals first
              | (exfalso; omega)
              | (refine ⟨⟨i + 1, by omega, trivial⟩, ?_, rfl, by simp; omega⟩; (conv => whnf); repeat' (first | exact trivial | exact rfl | apply And.intro))
          · have hcn := ev_contains (b.Tabs[tab.toNat]'hi2.2).Hidden ((readTab b ext tab)[((i : Nat) : Int).toNat]'hlt').Tag _ _ z3
            rw [decide_eq_false hin] at hcn
            repeat' ((conv => whnf) <;> first
             | (refine hzld _ (Ext.refl _) _ ?_) | (refine callP_eq hcn ?_) | rw [wrapI_i64 (by omega)] | (show CondP _ _ _; refine cS ?_) | refine cD (fun _ => ?_) fun _ => ?_ | refine cE (fun _ => ?_) fun _ => ?_ | refine cT ?_ | refine cF ?_ | refine cN (fun _ => ?_) fun _ => ?_ | refine cI (fun _ => ?_) fun _ => ?_ | refine callP_eq (ev_big _ _ _ rdA) ?_ | refine callP_eq (ev_contains _ _ _ _ rdA) ?_ | (refine callP_eq (ev_iEqualBrowsers _ _ _ _ _ rdcA rdcA) ?_) | (refine callP_intro (ev_DrawWriteTab _ rdA om) ?_; rintro _ Sn ⟨hEn, bn, en, tn, wn, hbn, _, _, _, _, _, _, rfl, hFn⟩) | (refine callP_intro (ev_iWriteTab _ _ _ _ _ _ rdcA (by (first | omega | exact sz_at hz om | (simp only [szL]; omega)))) ?_; rintro _ Sn ⟨hEn, _, _, _, _, _, _, rfl, hFn⟩) | (refine callP_eq (ev_iMayAct _ _ _ _ _ _ rdcA) ?_) | (refine callP_intro (ev_iEditsBy _ _ _ _ rdA om) ?_; rintro _ Sn ⟨hEn, cn, rfl, hFn⟩) | (refine callP_intro (ev_iReadTab _ _ _ _ _ rdcA (by (first | omega | exact sz_at hz om | (simp only [szL]; omega)))) ?_; rintro _ Sn ⟨hEn, cn, rfl, hFn⟩) | (refine callP_intro (ev_DrawStoreFor _ rdA om) ?_; rintro _ Sn ⟨hEn, bn, en, tn, nn, vn, hbn, _, _, _, _, _, _, rfl, hFn⟩) | (refine callP_intro (ev_iStoreFor _ _ _ _ _ _ _ rdcA (by (first | omega | exact sz_at hz om | (simp only [szL]; omega)))) ?_; rintro _ Sn ⟨hEn, _, _, _, _, _, _, rfl, hFn⟩) | refine callP_eq (ev_GetStored _ _ _ _ _ rdA) ?_ | (refine callP_intro (ev_DrawPageEdit _ rdA om) ?_; rintro _ Sn ⟨hEn, bn, tn, wn, hbn, _, _, _, _, _, _, rfl, hFn⟩) | (refine callP_intro (ev_iPageEdit _ _ _ _ _ rdcA (by (first | omega | exact sz_at hz om | (simp only [szL]; omega)))) ?_; rintro _ Sn ⟨hEn, _, _, _, _, _, _, rfl, hFn⟩) | refine rE fun hml => ?_ | refine rI rdA rf ix ?_ | refine rd_loadf rdA tv ix ?_ | (refine rd_loadm (f := GTab.d) rdA ix ?_; intro _ hcs; obtain ⟨_, _, _, rfl, _, _, _⟩ := GTab.inv hcs) | refine nP ?_ | refine draw_intro 42 [.fl 0, .fl 1, .fl 2, .fl 3, .fl 4, .st 5 [], .fl 6, .fl 7, .fl 8, .fl 9, .fl 10, .fl 11, .fl 12, .fl 13, .fl 14, .fl 17, .fl 18, .fl 19, .fl 20, .fl 21, .fl 22, .fl 23, .st 15 [17, 18, 19, 20, 21, 22, 23], .fl 16, .st 24 [16], .fl 25, .fl 26, .fl 27, .fl 28, .fl 29, .fl 30, .fl 31, .fl 32, .fl 33, .fl 34, .fl 35, .st 36 [], .fl 37, .fl 38, .fl 39] (by rfl) (by kernel_rfl) ?_ | refine draw_intro 102 [.fl 0, .fl 1, .fl 2, .fl 3, .fl 4, .fl 5, .fl 6, .fl 7, .fl 8, .fl 9, .fl 10, .st 11 [], .fl 12, .fl 13, .fl 14, .fl 15, .fl 16, .fl 17, .fl 18, .fl 19, .fl 20] (by rfl) (by kernel_rfl) ?_ | refine draw_intro 187 [.fl 0, .fl 1, .fl 2, .fl 3, .fl 4, .fl 5, .fl 6, .fl 7, .fl 8, .fl 9, .fl 10, .fl 11, .fl 12, .fl 13, .fl 14, .fl 15, .fl 16, .fl 17, .fl 18, .fl 19, .fl 20, .fl 21, .fl 22, .fl 23, .fl 24, .st 25 [], .fl 26, .fl 27, .st 28 []] (by rfl) (by kernel_rfl) ?_ | (refine rI t1 rf hi2 ?_) | refine And.intro ?_ ?_)
            all_goals first
              | (exfalso; omega)
              | (refine ⟨⟨i + 1, by omega, trivial⟩, ?_, rfl, by simp; omega⟩; (conv => whnf); repeat' (first | exact trivial | exact rfl | apply And.intro))
        · have hcn := ev_contains (b.Tabs[tab.toNat]'hi2.2).Hidden ((readTab b ext tab)[((i : Nat) : Int).toNat]'hlt').Tag _ _ z3
          rw [decide_eq_false hop] at hcn
          repeat' ((conv => whnf) <;> first
           | (refine hzld _ (Ext.refl _) _ ?_) | (refine callP_eq hcn ?_) | rw [wrapI_i64 (by omega)] | (show CondP _ _ _; refine cS ?_) | refine cD (fun _ => ?_) fun _ => ?_ | refine cE (fun _ => ?_) fun _ => ?_ | refine cT ?_ | refine cF ?_ | refine cN (fun _ => ?_) fun _ => ?_ | refine cI (fun _ => ?_) fun _ => ?_ | refine callP_eq (ev_big _ _ _ rdA) ?_ | refine callP_eq (ev_contains _ _ _ _ rdA) ?_ | (refine callP_eq (ev_iEqualBrowsers _ _ _ _ _ rdcA rdcA) ?_) | (refine callP_intro (ev_DrawWriteTab _ rdA om) ?_; rintro _ Sn ⟨hEn, bn, en, tn, wn, hbn, _, _, _, _, _, _, rfl, hFn⟩) | (refine callP_intro (ev_iWriteTab _ _ _ _ _ _ rdcA (by (first | omega | exact sz_at hz om | (simp only [szL]; omega)))) ?_; rintro _ Sn ⟨hEn, _, _, _, _, _, _, rfl, hFn⟩) | (refine callP_eq (ev_iMayAct _ _ _ _ _ _ rdcA) ?_) | (refine callP_intro (ev_iEditsBy _ _ _ _ rdA om) ?_; rintro _ Sn ⟨hEn, cn, rfl, hFn⟩) | (refine callP_intro (ev_iReadTab _ _ _ _ _ rdcA (by (first | omega | exact sz_at hz om | (simp only [szL]; omega)))) ?_; rintro _ Sn ⟨hEn, cn, rfl, hFn⟩) | (refine callP_intro (ev_DrawStoreFor _ rdA om) ?_; rintro _ Sn ⟨hEn, bn, en, tn, nn, vn, hbn, _, _, _, _, _, _, rfl, hFn⟩) | (refine callP_intro (ev_iStoreFor _ _ _ _ _ _ _ rdcA (by (first | omega | exact sz_at hz om | (simp only [szL]; omega)))) ?_; rintro _ Sn ⟨hEn, _, _, _, _, _, _, rfl, hFn⟩) | refine callP_eq (ev_GetStored _ _ _ _ _ rdA) ?_ | (refine callP_intro (ev_DrawPageEdit _ rdA om) ?_; rintro _ Sn ⟨hEn, bn, tn, wn, hbn, _, _, _, _, _, _, rfl, hFn⟩) | (refine callP_intro (ev_iPageEdit _ _ _ _ _ rdcA (by (first | omega | exact sz_at hz om | (simp only [szL]; omega)))) ?_; rintro _ Sn ⟨hEn, _, _, _, _, _, _, rfl, hFn⟩) | refine rE fun hml => ?_ | refine rI rdA rf ix ?_ | refine rd_loadf rdA tv ix ?_ | (refine rd_loadm (f := GTab.d) rdA ix ?_; intro _ hcs; obtain ⟨_, _, _, rfl, _, _, _⟩ := GTab.inv hcs) | refine nP ?_ | refine draw_intro 42 [.fl 0, .fl 1, .fl 2, .fl 3, .fl 4, .st 5 [], .fl 6, .fl 7, .fl 8, .fl 9, .fl 10, .fl 11, .fl 12, .fl 13, .fl 14, .fl 17, .fl 18, .fl 19, .fl 20, .fl 21, .fl 22, .fl 23, .st 15 [17, 18, 19, 20, 21, 22, 23], .fl 16, .st 24 [16], .fl 25, .fl 26, .fl 27, .fl 28, .fl 29, .fl 30, .fl 31, .fl 32, .fl 33, .fl 34, .fl 35, .st 36 [], .fl 37, .fl 38, .fl 39] (by rfl) (by kernel_rfl) ?_ | refine draw_intro 102 [.fl 0, .fl 1, .fl 2, .fl 3, .fl 4, .fl 5, .fl 6, .fl 7, .fl 8, .fl 9, .fl 10, .st 11 [], .fl 12, .fl 13, .fl 14, .fl 15, .fl 16, .fl 17, .fl 18, .fl 19, .fl 20] (by rfl) (by kernel_rfl) ?_ | refine draw_intro 187 [.fl 0, .fl 1, .fl 2, .fl 3, .fl 4, .fl 5, .fl 6, .fl 7, .fl 8, .fl 9, .fl 10, .fl 11, .fl 12, .fl 13, .fl 14, .fl 15, .fl 16, .fl 17, .fl 18, .fl 19, .fl 20, .fl 21, .fl 22, .fl 23, .fl 24, .st 25 [], .fl 26, .fl 27, .st 28 []] (by rfl) (by kernel_rfl) ?_ | (refine rI t1 rf hi2 ?_) | refine And.intro ?_ ?_)
          all_goals first
            | (exfalso; omega)
            | (refine ⟨⟨i + 1, by omega, trivial⟩, ?_, rfl, by simp; omega⟩; (conv => whnf); repeat' (first | exact trivial | exact rfl | apply And.intro))
      repeat' ((conv => whnf) <;> first
       | rw [wrapI_i64 (by omega)] | (show CondP _ _ _; refine cS ?_) | refine cD (fun _ => ?_) fun _ => ?_ | refine cE (fun _ => ?_) fun _ => ?_ | refine cT ?_ | refine cF ?_ | refine cN (fun _ => ?_) fun _ => ?_ | refine cI (fun _ => ?_) fun _ => ?_ | refine callP_eq (ev_big _ _ _ rdA) ?_ | refine callP_eq (ev_contains _ _ _ _ rdA) ?_ | (refine callP_eq (ev_iEqualBrowsers _ _ _ _ _ rdcA rdcA) ?_) | (refine callP_intro (ev_DrawWriteTab _ rdA om) ?_; rintro _ Sn ⟨hEn, bn, en, tn, wn, hbn, _, _, _, _, _, _, rfl, hFn⟩) | (refine callP_intro (ev_iWriteTab _ _ _ _ _ _ rdcA (by (first | omega | exact sz_at hz om | (simp only [szL]; omega)))) ?_; rintro _ Sn ⟨hEn, _, _, _, _, _, _, rfl, hFn⟩) | (refine callP_eq (ev_iMayAct _ _ _ _ _ _ rdcA) ?_) | (refine callP_intro (ev_iEditsBy _ _ _ _ rdA om) ?_; rintro _ Sn ⟨hEn, cn, rfl, hFn⟩) | (refine callP_intro (ev_iReadTab _ _ _ _ _ rdcA (by (first | omega | exact sz_at hz om | (simp only [szL]; omega)))) ?_; rintro _ Sn ⟨hEn, cn, rfl, hFn⟩) | (refine callP_intro (ev_DrawStoreFor _ rdA om) ?_; rintro _ Sn ⟨hEn, bn, en, tn, nn, vn, hbn, _, _, _, _, _, _, rfl, hFn⟩) | (refine callP_intro (ev_iStoreFor _ _ _ _ _ _ _ rdcA (by (first | omega | exact sz_at hz om | (simp only [szL]; omega)))) ?_; rintro _ Sn ⟨hEn, _, _, _, _, _, _, rfl, hFn⟩) | refine callP_eq (ev_GetStored _ _ _ _ _ rdA) ?_ | (refine callP_intro (ev_DrawPageEdit _ rdA om) ?_; rintro _ Sn ⟨hEn, bn, tn, wn, hbn, _, _, _, _, _, _, rfl, hFn⟩) | (refine callP_intro (ev_iPageEdit _ _ _ _ _ rdcA (by (first | omega | exact sz_at hz om | (simp only [szL]; omega)))) ?_; rintro _ Sn ⟨hEn, _, _, _, _, _, _, rfl, hFn⟩) | refine rE fun hml => ?_ | refine rI rdA rf ix ?_ | refine rd_loadf rdA tv ix ?_ | (refine rd_loadm (f := GTab.d) rdA ix ?_; intro _ hcs; obtain ⟨_, _, _, rfl, _, _, _⟩ := GTab.inv hcs) | refine nP ?_ | refine draw_intro 42 [.fl 0, .fl 1, .fl 2, .fl 3, .fl 4, .st 5 [], .fl 6, .fl 7, .fl 8, .fl 9, .fl 10, .fl 11, .fl 12, .fl 13, .fl 14, .fl 17, .fl 18, .fl 19, .fl 20, .fl 21, .fl 22, .fl 23, .st 15 [17, 18, 19, 20, 21, 22, 23], .fl 16, .st 24 [16], .fl 25, .fl 26, .fl 27, .fl 28, .fl 29, .fl 30, .fl 31, .fl 32, .fl 33, .fl 34, .fl 35, .st 36 [], .fl 37, .fl 38, .fl 39] (by rfl) (by kernel_rfl) ?_ | refine draw_intro 102 [.fl 0, .fl 1, .fl 2, .fl 3, .fl 4, .fl 5, .fl 6, .fl 7, .fl 8, .fl 9, .fl 10, .st 11 [], .fl 12, .fl 13, .fl 14, .fl 15, .fl 16, .fl 17, .fl 18, .fl 19, .fl 20] (by rfl) (by kernel_rfl) ?_ | refine draw_intro 187 [.fl 0, .fl 1, .fl 2, .fl 3, .fl 4, .fl 5, .fl 6, .fl 7, .fl 8, .fl 9, .fl 10, .fl 11, .fl 12, .fl 13, .fl 14, .fl 15, .fl 16, .fl 17, .fl 18, .fl 19, .fl 20, .fl 21, .fl 22, .fl 23, .fl 24, .st 25 [], .fl 26, .fl 27, .st 28 []] (by rfl) (by kernel_rfl) ?_ | refine And.intro ?_ ?_)
      all_goals first
        | (exfalso; omega)
        | exact ⟨⟨_, hc⟩, rfl, ⟨rfl, trivial⟩, rfl⟩
  rintro ⟨S5, hc⟩
  refine sm_cut tok 3 215 (fun q : StC x0 c0 => [(0, .v (.s c0))]) (fun q => q.S) rfl ?_ ?_
  · repeat' ((conv => whnf) <;> first
     | rw [wrapI_i64 (by omega)] | (show CondP _ _ _; refine cS ?_) | refine cD (fun _ => ?_) fun _ => ?_ | refine cE (fun _ => ?_) fun _ => ?_ | refine cT ?_ | refine cF ?_ | refine cN (fun _ => ?_) fun _ => ?_ | refine cI (fun _ => ?_) fun _ => ?_ | refine callP_eq (ev_big _ _ _ rdA) ?_ | refine callP_eq (ev_contains _ _ _ _ rdA) ?_ | (refine callP_eq (ev_iEqualBrowsers _ _ _ _ _ rdcA rdcA) ?_) | (refine callP_eq (ev_iMayAct _ _ _ _ _ _ rdcA) ?_) | refine callP_eq (ev_GetStored _ _ _ _ _ rdA) ?_ | refine rE fun hml => ?_ | refine rI rdA rf ix ?_ | refine rd_loadf rdA tv ix ?_ | (refine rd_loadm (f := GTab.d) rdA ix ?_; intro _ hcs; obtain ⟨_, _, _, rfl, _, _, _⟩ := GTab.inv hcs) | refine nP ?_ | refine draw_intro 42 [.fl 0, .fl 1, .fl 2, .fl 3, .fl 4, .st 5 [], .fl 6, .fl 7, .fl 8, .fl 9, .fl 10, .fl 11, .fl 12, .fl 13, .fl 14, .fl 17, .fl 18, .fl 19, .fl 20, .fl 21, .fl 22, .fl 23, .st 15 [17, 18, 19, 20, 21, 22, 23], .fl 16, .st 24 [16], .fl 25, .fl 26, .fl 27, .fl 28, .fl 29, .fl 30, .fl 31, .fl 32, .fl 33, .fl 34, .fl 35, .st 36 [], .fl 37, .fl 38, .fl 39] (by rfl) (by kernel_rfl) ?_ | refine draw_intro 102 [.fl 0, .fl 1, .fl 2, .fl 3, .fl 4, .fl 5, .fl 6, .fl 7, .fl 8, .fl 9, .fl 10, .st 11 [], .fl 12, .fl 13, .fl 14, .fl 15, .fl 16, .fl 17, .fl 18, .fl 19, .fl 20] (by rfl) (by kernel_rfl) ?_ | refine draw_intro 187 [.fl 0, .fl 1, .fl 2, .fl 3, .fl 4, .fl 5, .fl 6, .fl 7, .fl 8, .fl 9, .fl 10, .fl 11, .fl 12, .fl 13, .fl 14, .fl 15, .fl 16, .fl 17, .fl 18, .fl 19, .fl 20, .fl 21, .fl 22, .fl 23, .fl 24, .st 25 [], .fl 26, .fl 27, .st 28 []] (by rfl) (by kernel_rfl) ?_ | refine And.intro ?_ ?_)
    (conv => whnf)
    refine callP_intro (ev_DrawStoreFor x0 hc hz) ?_; rintro _ S6 ⟨e6, c, who, wh, name, value, hbc, k1, k2, k3, k4, k5, k6, rfl, f6⟩
    replace hc := hc.ext e6
    have r6 := f6.rd
    repeat' ((conv => whnf) <;> first
     | rw [wrapI_i64 (by omega)] | (show CondP _ _ _; refine cS ?_) | refine cD (fun _ => ?_) fun _ => ?_ | refine cE (fun _ => ?_) fun _ => ?_ | refine cT ?_ | refine cF ?_ | refine cN (fun _ => ?_) fun _ => ?_ | refine cI (fun _ => ?_) fun _ => ?_ | refine callP_eq (ev_big _ _ _ rdA) ?_ | refine callP_eq (ev_contains _ _ _ _ rdA) ?_ | (refine callP_eq (ev_iEqualBrowsers _ _ _ _ _ rdcA rdcA) ?_) | (refine callP_eq (ev_iMayAct _ _ _ _ _ _ rdcA) ?_) | refine callP_eq (ev_GetStored _ _ _ _ _ rdA) ?_ | refine rE fun hml => ?_ | refine rI rdA rf ix ?_ | refine rd_loadf rdA tv ix ?_ | (refine rd_loadm (f := GTab.d) rdA ix ?_; intro _ hcs; obtain ⟨_, _, _, rfl, _, _, _⟩ := GTab.inv hcs) | refine nP ?_ | refine draw_intro 42 [.fl 0, .fl 1, .fl 2, .fl 3, .fl 4, .st 5 [], .fl 6, .fl 7, .fl 8, .fl 9, .fl 10, .fl 11, .fl 12, .fl 13, .fl 14, .fl 17, .fl 18, .fl 19, .fl 20, .fl 21, .fl 22, .fl 23, .st 15 [17, 18, 19, 20, 21, 22, 23], .fl 16, .st 24 [16], .fl 25, .fl 26, .fl 27, .fl 28, .fl 29, .fl 30, .fl 31, .fl 32, .fl 33, .fl 34, .fl 35, .st 36 [], .fl 37, .fl 38, .fl 39] (by rfl) (by kernel_rfl) ?_ | refine draw_intro 102 [.fl 0, .fl 1, .fl 2, .fl 3, .fl 4, .fl 5, .fl 6, .fl 7, .fl 8, .fl 9, .fl 10, .st 11 [], .fl 12, .fl 13, .fl 14, .fl 15, .fl 16, .fl 17, .fl 18, .fl 19, .fl 20] (by rfl) (by kernel_rfl) ?_ | refine draw_intro 187 [.fl 0, .fl 1, .fl 2, .fl 3, .fl 4, .fl 5, .fl 6, .fl 7, .fl 8, .fl 9, .fl 10, .fl 11, .fl 12, .fl 13, .fl 14, .fl 15, .fl 16, .fl 17, .fl 18, .fl 19, .fl 20, .fl 21, .fl 22, .fl 23, .fl 24, .st 25 [], .fl 26, .fl 27, .st 28 []] (by rfl) (by kernel_rfl) ?_ | refine And.intro ?_ ?_)
    (conv => whnf)
    refine callP_intro (ev_iStoreFor c who wh name value _ _ r6 (by omega)) ?_; rintro _ S7 ⟨e7, m1, m2, m3, m4, m5, m6, rfl, f7⟩
    replace hc := hc.ext e7
    replace r6 := r6.ext e7
    rcases store_cases c who wh name value with ⟨hm4, ss, hs, hg⟩ | hs
    case inl =>
      rw [hs] at f7 ⊢
      have r7 : Rd S7 [.sl 4 (ss.map GStored.d)] [m6] := f7.rdAt (o := 6) rfl rfl
      have hge := ev_GetStored ss who name _ _ r7
      rw [hg] at hge
      repeat' ((conv => whnf) <;> first
       | (refine callP_eq hge ?_) | (refine callP_eq (ev_iMayAct c who wh 4 _ _ r6) ?_) | rw [wrapI_i64 (by omega)] | (show CondP _ _ _; refine cS ?_) | refine cD (fun _ => ?_) fun _ => ?_ | refine cE (fun _ => ?_) fun _ => ?_ | refine cT ?_ | refine cF ?_ | refine cN (fun _ => ?_) fun _ => ?_ | refine cI (fun _ => ?_) fun _ => ?_ | refine callP_eq (ev_big _ _ _ rdA) ?_ | refine callP_eq (ev_contains _ _ _ _ rdA) ?_ | (refine callP_eq (ev_iEqualBrowsers _ _ _ _ _ rdcA rdcA) ?_) | (refine callP_eq (ev_iMayAct _ _ _ _ _ _ rdcA) ?_) | refine callP_eq (ev_GetStored _ _ _ _ _ rdA) ?_ | refine rE fun hml => ?_ | refine rI rdA rf ix ?_ | refine rd_loadf rdA tv ix ?_ | (refine rd_loadm (f := GTab.d) rdA ix ?_; intro _ hcs; obtain ⟨_, _, _, rfl, _, _, _⟩ := GTab.inv hcs) | refine nP ?_ | refine draw_intro 42 [.fl 0, .fl 1, .fl 2, .fl 3, .fl 4, .st 5 [], .fl 6, .fl 7, .fl 8, .fl 9, .fl 10, .fl 11, .fl 12, .fl 13, .fl 14, .fl 17, .fl 18, .fl 19, .fl 20, .fl 21, .fl 22, .fl 23, .st 15 [17, 18, 19, 20, 21, 22, 23], .fl 16, .st 24 [16], .fl 25, .fl 26, .fl 27, .fl 28, .fl 29, .fl 30, .fl 31, .fl 32, .fl 33, .fl 34, .fl 35, .st 36 [], .fl 37, .fl 38, .fl 39] (by rfl) (by kernel_rfl) ?_ | refine draw_intro 102 [.fl 0, .fl 1, .fl 2, .fl 3, .fl 4, .fl 5, .fl 6, .fl 7, .fl 8, .fl 9, .fl 10, .st 11 [], .fl 12, .fl 13, .fl 14, .fl 15, .fl 16, .fl 17, .fl 18, .fl 19, .fl 20] (by rfl) (by kernel_rfl) ?_ | refine draw_intro 187 [.fl 0, .fl 1, .fl 2, .fl 3, .fl 4, .fl 5, .fl 6, .fl 7, .fl 8, .fl 9, .fl 10, .fl 11, .fl 12, .fl 13, .fl 14, .fl 15, .fl 16, .fl 17, .fl 18, .fl 19, .fl 20, .fl 21, .fl 22, .fl 23, .fl 24, .st 25 [], .fl 26, .fl 27, .st 28 []] (by rfl) (by kernel_rfl) ?_ | refine And.intro ?_ ?_)
      all_goals try (exfalso; simp_all; done)
      (conv => whnf)
      exact ⟨⟨_, hc⟩, rfl, ⟨rfl, trivial⟩, rfl⟩
    case inr =>
      rw [hs] at f7 ⊢
      have r7 := f7.rd
      have hself : decide (c = c) = true := decide_eq_true rfl
      repeat' ((conv => whnf) <;> first
       | (refine callP_eq (ev_iEqualBrowsers c c _ _ _ r7 r6) ?_) | rw [wrapI_i64 (by omega)] | (show CondP _ _ _; refine cS ?_) | refine cD (fun _ => ?_) fun _ => ?_ | refine cE (fun _ => ?_) fun _ => ?_ | refine cT ?_ | refine cF ?_ | refine cN (fun _ => ?_) fun _ => ?_ | refine cI (fun _ => ?_) fun _ => ?_ | refine callP_eq (ev_big _ _ _ rdA) ?_ | refine callP_eq (ev_contains _ _ _ _ rdA) ?_ | (refine callP_eq (ev_iEqualBrowsers _ _ _ _ _ rdcA rdcA) ?_) | (refine callP_eq (ev_iMayAct _ _ _ _ _ _ rdcA) ?_) | refine callP_eq (ev_GetStored _ _ _ _ _ rdA) ?_ | refine rE fun hml => ?_ | refine rI rdA rf ix ?_ | refine rd_loadf rdA tv ix ?_ | (refine rd_loadm (f := GTab.d) rdA ix ?_; intro _ hcs; obtain ⟨_, _, _, rfl, _, _, _⟩ := GTab.inv hcs) | refine nP ?_ | refine draw_intro 42 [.fl 0, .fl 1, .fl 2, .fl 3, .fl 4, .st 5 [], .fl 6, .fl 7, .fl 8, .fl 9, .fl 10, .fl 11, .fl 12, .fl 13, .fl 14, .fl 17, .fl 18, .fl 19, .fl 20, .fl 21, .fl 22, .fl 23, .st 15 [17, 18, 19, 20, 21, 22, 23], .fl 16, .st 24 [16], .fl 25, .fl 26, .fl 27, .fl 28, .fl 29, .fl 30, .fl 31, .fl 32, .fl 33, .fl 34, .fl 35, .st 36 [], .fl 37, .fl 38, .fl 39] (by rfl) (by kernel_rfl) ?_ | refine draw_intro 102 [.fl 0, .fl 1, .fl 2, .fl 3, .fl 4, .fl 5, .fl 6, .fl 7, .fl 8, .fl 9, .fl 10, .st 11 [], .fl 12, .fl 13, .fl 14, .fl 15, .fl 16, .fl 17, .fl 18, .fl 19, .fl 20] (by rfl) (by kernel_rfl) ?_ | refine draw_intro 187 [.fl 0, .fl 1, .fl 2, .fl 3, .fl 4, .fl 5, .fl 6, .fl 7, .fl 8, .fl 9, .fl 10, .fl 11, .fl 12, .fl 13, .fl 14, .fl 15, .fl 16, .fl 17, .fl 18, .fl 19, .fl 20, .fl 21, .fl 22, .fl 23, .fl 24, .st 25 [], .fl 26, .fl 27, .st 28 []] (by rfl) (by kernel_rfl) ?_ | refine And.intro ?_ ?_)
      all_goals try (exfalso; simp_all; done)
      (conv => whnf)
      exact ⟨⟨_, hc⟩, rfl, ⟨rfl, trivial⟩, rfl⟩
  rintro ⟨S7, hc⟩
  refine sm_den tok ?_
  · repeat' ((conv => whnf) <;> first
     | rw [wrapI_i64 (by omega)] | (show CondP _ _ _; refine cS ?_) | refine cD (fun _ => ?_) fun _ => ?_ | refine cE (fun _ => ?_) fun _ => ?_ | refine cT ?_ | refine cF ?_ | refine cN (fun _ => ?_) fun _ => ?_ | refine cI (fun _ => ?_) fun _ => ?_ | refine callP_eq (ev_big _ _ _ rdA) ?_ | refine callP_eq (ev_contains _ _ _ _ rdA) ?_ | (refine callP_eq (ev_iEqualBrowsers _ _ _ _ _ rdcA rdcA) ?_) | (refine callP_eq (ev_iMayAct _ _ _ _ _ _ rdcA) ?_) | refine callP_eq (ev_GetStored _ _ _ _ _ rdA) ?_ | refine rE fun hml => ?_ | refine rI rdA rf ix ?_ | refine rd_loadf rdA tv ix ?_ | (refine rd_loadm (f := GTab.d) rdA ix ?_; intro _ hcs; obtain ⟨_, _, _, rfl, _, _, _⟩ := GTab.inv hcs) | refine nP ?_ | refine draw_intro 42 [.fl 0, .fl 1, .fl 2, .fl 3, .fl 4, .st 5 [], .fl 6, .fl 7, .fl 8, .fl 9, .fl 10, .fl 11, .fl 12, .fl 13, .fl 14, .fl 17, .fl 18, .fl 19, .fl 20, .fl 21, .fl 22, .fl 23, .st 15 [17, 18, 19, 20, 21, 22, 23], .fl 16, .st 24 [16], .fl 25, .fl 26, .fl 27, .fl 28, .fl 29, .fl 30, .fl 31, .fl 32, .fl 33, .fl 34, .fl 35, .st 36 [], .fl 37, .fl 38, .fl 39] (by rfl) (by kernel_rfl) ?_ | refine draw_intro 102 [.fl 0, .fl 1, .fl 2, .fl 3, .fl 4, .fl 5, .fl 6, .fl 7, .fl 8, .fl 9, .fl 10, .st 11 [], .fl 12, .fl 13, .fl 14, .fl 15, .fl 16, .fl 17, .fl 18, .fl 19, .fl 20] (by rfl) (by kernel_rfl) ?_ | refine draw_intro 187 [.fl 0, .fl 1, .fl 2, .fl 3, .fl 4, .fl 5, .fl 6, .fl 7, .fl 8, .fl 9, .fl 10, .fl 11, .fl 12, .fl 13, .fl 14, .fl 15, .fl 16, .fl 17, .fl 18, .fl 19, .fl 20, .fl 21, .fl 22, .fl 23, .fl 24, .st 25 [], .fl 26, .fl 27, .st 28 []] (by rfl) (by kernel_rfl) ?_ | refine And.intro ?_ ?_)
    (conv => whnf)
    refine callP_intro (ev_DrawPageEdit x0 hc hz) ?_; rintro _ S8 ⟨e8, p, t, f, hbp, n1, n2, n3, n4, n5, n6, rfl, f8⟩
    have r8 := f8.rd
    repeat' ((conv => whnf) <;> first
     | rw [wrapI_i64 (by omega)] | (show CondP _ _ _; refine cS ?_) | refine cD (fun _ => ?_) fun _ => ?_ | refine cE (fun _ => ?_) fun _ => ?_ | refine cT ?_ | refine cF ?_ | refine cN (fun _ => ?_) fun _ => ?_ | refine cI (fun _ => ?_) fun _ => ?_ | refine callP_eq (ev_big _ _ _ rdA) ?_ | refine callP_eq (ev_contains _ _ _ _ rdA) ?_ | (refine callP_eq (ev_iEqualBrowsers _ _ _ _ _ rdcA rdcA) ?_) | (refine callP_eq (ev_iMayAct _ _ _ _ _ _ rdcA) ?_) | refine callP_eq (ev_GetStored _ _ _ _ _ rdA) ?_ | refine rE fun hml => ?_ | refine rI rdA rf ix ?_ | refine rd_loadf rdA tv ix ?_ | (refine rd_loadm (f := GTab.d) rdA ix ?_; intro _ hcs; obtain ⟨_, _, _, rfl, _, _, _⟩ := GTab.inv hcs) | refine nP ?_ | refine draw_intro 42 [.fl 0, .fl 1, .fl 2, .fl 3, .fl 4, .st 5 [], .fl 6, .fl 7, .fl 8, .fl 9, .fl 10, .fl 11, .fl 12, .fl 13, .fl 14, .fl 17, .fl 18, .fl 19, .fl 20, .fl 21, .fl 22, .fl 23, .st 15 [17, 18, 19, 20, 21, 22, 23], .fl 16, .st 24 [16], .fl 25, .fl 26, .fl 27, .fl 28, .fl 29, .fl 30, .fl 31, .fl 32, .fl 33, .fl 34, .fl 35, .st 36 [], .fl 37, .fl 38, .fl 39] (by rfl) (by kernel_rfl) ?_ | refine draw_intro 102 [.fl 0, .fl 1, .fl 2, .fl 3, .fl 4, .fl 5, .fl 6, .fl 7, .fl 8, .fl 9, .fl 10, .st 11 [], .fl 12, .fl 13, .fl 14, .fl 15, .fl 16, .fl 17, .fl 18, .fl 19, .fl 20] (by rfl) (by kernel_rfl) ?_ | refine draw_intro 187 [.fl 0, .fl 1, .fl 2, .fl 3, .fl 4, .fl 5, .fl 6, .fl 7, .fl 8, .fl 9, .fl 10, .fl 11, .fl 12, .fl 13, .fl 14, .fl 15, .fl 16, .fl 17, .fl 18, .fl 19, .fl 20, .fl 21, .fl 22, .fl 23, .fl 24, .st 25 [], .fl 26, .fl 27, .st 28 []] (by rfl) (by kernel_rfl) ?_ | refine And.intro ?_ ?_)
    (conv => whnf)
    refine callP_intro (ev_iPageEdit p t f _ _ r8 (by omega)) ?_; rintro _ S9 ⟨e9, o1, o2, o3, o4, o5, o6, rfl, f9⟩
    replace r8 := r8.ext e9
    rcases page_cases p t f with ⟨hit, hs⟩ | hs
    · rw [hs] at f9 ⊢
      have r9 : Rd S9 [.sl 6 ((putEdit p t (edAs f 0)).Tabs.map GTab.d)] [o1] := f9.rdAt (o := 1) rfl rfl
      obtain ⟨_, _, _, _, _, _, hk0, q1, _, _, _, _, _⟩ := GBrowser.inv r8
      simp only [List.cons.injEq, true_and, and_true] at hk0
      obtain ⟨rfl, rfl, rfl, rfl, rfl, rfl⟩ := hk0
      obtain ⟨h2, he⟩ := putEdit_tab (edAs f 0) hit
      have hlx := tabs_len hit.2 hbp.1
      have hly : ((putEdit p t (edAs f 0)).Tabs[t.toNat]'h2.2).Edits.length = (p.Tabs[t.toNat]'hit.2).Edits.length + 1 := by rw [he, List.length_append, List.length_singleton]
      obtain ⟨pcs, hpr, hpld⟩ := rd_loadx r9 (i := t) h2
      obtain ⟨_, _, _, rfl, a1, a2, a3⟩ := GTab.inv hpr
      obtain ⟨ycs, hyr, hyld⟩ := rd_loadx q1 (i := t) hit
      obtain ⟨_, _, _, rfl, y1, y2, y3⟩ := GTab.inv hyr
      repeat' ((conv => whnf) <;> first
       | (refine rd_lenm y2 ?_; intro hml) | (refine rd_lenm a2 ?_; intro hml) | (refine hyld _ (Ext.refl _) _ ?_) | (refine hpld _ (Ext.refl _) _ ?_) | rw [wrapI_i64 (by omega)] | (show CondP _ _ _; refine cS ?_) | refine cD (fun _ => ?_) fun _ => ?_ | refine cE (fun _ => ?_) fun _ => ?_ | refine cT ?_ | refine cF ?_ | refine cN (fun _ => ?_) fun _ => ?_ | refine cI (fun _ => ?_) fun _ => ?_ | refine callP_eq (ev_big _ _ _ rdA) ?_ | refine callP_eq (ev_contains _ _ _ _ rdA) ?_ | (refine callP_eq (ev_iEqualBrowsers _ _ _ _ _ rdcA rdcA) ?_) | (refine callP_intro (ev_DrawWriteTab _ rdA om) ?_; rintro _ Sn ⟨hEn, bn, en, tn, wn, hbn, _, _, _, _, _, _, rfl, hFn⟩) | (refine callP_intro (ev_iWriteTab _ _ _ _ _ _ rdcA (by (first | omega | exact sz_at hz om | (simp only [szL]; omega)))) ?_; rintro _ Sn ⟨hEn, _, _, _, _, _, _, rfl, hFn⟩) | (refine callP_eq (ev_iMayAct _ _ _ _ _ _ rdcA) ?_) | (refine callP_intro (ev_iEditsBy _ _ _ _ rdA om) ?_; rintro _ Sn ⟨hEn, cn, rfl, hFn⟩) | (refine callP_intro (ev_iReadTab _ _ _ _ _ rdcA (by (first | omega | exact sz_at hz om | (simp only [szL]; omega)))) ?_; rintro _ Sn ⟨hEn, cn, rfl, hFn⟩) | (refine callP_intro (ev_DrawStoreFor _ rdA om) ?_; rintro _ Sn ⟨hEn, bn, en, tn, nn, vn, hbn, _, _, _, _, _, _, rfl, hFn⟩) | (refine callP_intro (ev_iStoreFor _ _ _ _ _ _ _ rdcA (by (first | omega | exact sz_at hz om | (simp only [szL]; omega)))) ?_; rintro _ Sn ⟨hEn, _, _, _, _, _, _, rfl, hFn⟩) | refine callP_eq (ev_GetStored _ _ _ _ _ rdA) ?_ | (refine callP_intro (ev_DrawPageEdit _ rdA om) ?_; rintro _ Sn ⟨hEn, bn, tn, wn, hbn, _, _, _, _, _, _, rfl, hFn⟩) | (refine callP_intro (ev_iPageEdit _ _ _ _ _ rdcA (by (first | omega | exact sz_at hz om | (simp only [szL]; omega)))) ?_; rintro _ Sn ⟨hEn, _, _, _, _, _, _, rfl, hFn⟩) | refine rE fun hml => ?_ | refine rI rdA rf ix ?_ | refine rd_loadf rdA tv ix ?_ | (refine rd_loadm (f := GTab.d) rdA ix ?_; intro _ hcs; obtain ⟨_, _, _, rfl, _, _, _⟩ := GTab.inv hcs) | refine nP ?_ | refine draw_intro 42 [.fl 0, .fl 1, .fl 2, .fl 3, .fl 4, .st 5 [], .fl 6, .fl 7, .fl 8, .fl 9, .fl 10, .fl 11, .fl 12, .fl 13, .fl 14, .fl 17, .fl 18, .fl 19, .fl 20, .fl 21, .fl 22, .fl 23, .st 15 [17, 18, 19, 20, 21, 22, 23], .fl 16, .st 24 [16], .fl 25, .fl 26, .fl 27, .fl 28, .fl 29, .fl 30, .fl 31, .fl 32, .fl 33, .fl 34, .fl 35, .st 36 [], .fl 37, .fl 38, .fl 39] (by rfl) (by kernel_rfl) ?_ | refine draw_intro 102 [.fl 0, .fl 1, .fl 2, .fl 3, .fl 4, .fl 5, .fl 6, .fl 7, .fl 8, .fl 9, .fl 10, .st 11 [], .fl 12, .fl 13, .fl 14, .fl 15, .fl 16, .fl 17, .fl 18, .fl 19, .fl 20] (by rfl) (by kernel_rfl) ?_ | refine draw_intro 187 [.fl 0, .fl 1, .fl 2, .fl 3, .fl 4, .fl 5, .fl 6, .fl 7, .fl 8, .fl 9, .fl 10, .fl 11, .fl 12, .fl 13, .fl 14, .fl 15, .fl 16, .fl 17, .fl 18, .fl 19, .fl 20, .fl 21, .fl 22, .fl 23, .fl 24, .st 25 [], .fl 26, .fl 27, .st 28 []] (by rfl) (by kernel_rfl) ?_ | (refine rI r9 rf h2 ?_) | (refine rI q1 rf hit ?_) | refine And.intro ?_ ?_)
      all_goals first
        | rfl
        | (exfalso; omega)
        | (show _ = _; simp [resAV]; done)
        | (show _ = _; simp [resAV]; omega)
    · rw [hs] at f9 ⊢
      have r9 := f9.rd
      have hself : decide (p = p) = true := decide_eq_true rfl
      repeat' ((conv => whnf) <;> first
       | (refine callP_eq (ev_iEqualBrowsers p p _ _ _ r9 r8) ?_) | rw [wrapI_i64 (by omega)] | (show CondP _ _ _; refine cS ?_) | refine cD (fun _ => ?_) fun _ => ?_ | refine cE (fun _ => ?_) fun _ => ?_ | refine cT ?_ | refine cF ?_ | refine cN (fun _ => ?_) fun _ => ?_ | refine cI (fun _ => ?_) fun _ => ?_ | refine callP_eq (ev_big _ _ _ rdA) ?_ | refine callP_eq (ev_contains _ _ _ _ rdA) ?_ | (refine callP_eq (ev_iEqualBrowsers _ _ _ _ _ rdcA rdcA) ?_) | (refine callP_intro (ev_DrawWriteTab _ rdA om) ?_; rintro _ Sn ⟨hEn, bn, en, tn, wn, hbn, _, _, _, _, _, _, rfl, hFn⟩) | (refine callP_intro (ev_iWriteTab _ _ _ _ _ _ rdcA (by (first | omega | exact sz_at hz om | (simp only [szL]; omega)))) ?_; rintro _ Sn ⟨hEn, _, _, _, _, _, _, rfl, hFn⟩) | (refine callP_eq (ev_iMayAct _ _ _ _ _ _ rdcA) ?_) | (refine callP_intro (ev_iEditsBy _ _ _ _ rdA om) ?_; rintro _ Sn ⟨hEn, cn, rfl, hFn⟩) | (refine callP_intro (ev_iReadTab _ _ _ _ _ rdcA (by (first | omega | exact sz_at hz om | (simp only [szL]; omega)))) ?_; rintro _ Sn ⟨hEn, cn, rfl, hFn⟩) | (refine callP_intro (ev_DrawStoreFor _ rdA om) ?_; rintro _ Sn ⟨hEn, bn, en, tn, nn, vn, hbn, _, _, _, _, _, _, rfl, hFn⟩) | (refine callP_intro (ev_iStoreFor _ _ _ _ _ _ _ rdcA (by (first | omega | exact sz_at hz om | (simp only [szL]; omega)))) ?_; rintro _ Sn ⟨hEn, _, _, _, _, _, _, rfl, hFn⟩) | refine callP_eq (ev_GetStored _ _ _ _ _ rdA) ?_ | (refine callP_intro (ev_DrawPageEdit _ rdA om) ?_; rintro _ Sn ⟨hEn, bn, tn, wn, hbn, _, _, _, _, _, _, rfl, hFn⟩) | (refine callP_intro (ev_iPageEdit _ _ _ _ _ rdcA (by (first | omega | exact sz_at hz om | (simp only [szL]; omega)))) ?_; rintro _ Sn ⟨hEn, _, _, _, _, _, _, rfl, hFn⟩) | refine rE fun hml => ?_ | refine rI rdA rf ix ?_ | refine rd_loadf rdA tv ix ?_ | (refine rd_loadm (f := GTab.d) rdA ix ?_; intro _ hcs; obtain ⟨_, _, _, rfl, _, _, _⟩ := GTab.inv hcs) | refine nP ?_ | refine draw_intro 42 [.fl 0, .fl 1, .fl 2, .fl 3, .fl 4, .st 5 [], .fl 6, .fl 7, .fl 8, .fl 9, .fl 10, .fl 11, .fl 12, .fl 13, .fl 14, .fl 17, .fl 18, .fl 19, .fl 20, .fl 21, .fl 22, .fl 23, .st 15 [17, 18, 19, 20, 21, 22, 23], .fl 16, .st 24 [16], .fl 25, .fl 26, .fl 27, .fl 28, .fl 29, .fl 30, .fl 31, .fl 32, .fl 33, .fl 34, .fl 35, .st 36 [], .fl 37, .fl 38, .fl 39] (by rfl) (by kernel_rfl) ?_ | refine draw_intro 102 [.fl 0, .fl 1, .fl 2, .fl 3, .fl 4, .fl 5, .fl 6, .fl 7, .fl 8, .fl 9, .fl 10, .st 11 [], .fl 12, .fl 13, .fl 14, .fl 15, .fl 16, .fl 17, .fl 18, .fl 19, .fl 20] (by rfl) (by kernel_rfl) ?_ | refine draw_intro 187 [.fl 0, .fl 1, .fl 2, .fl 3, .fl 4, .fl 5, .fl 6, .fl 7, .fl 8, .fl 9, .fl 10, .fl 11, .fl 12, .fl 13, .fl 14, .fl 15, .fl 16, .fl 17, .fl 18, .fl 19, .fl 20, .fl 21, .fl 22, .fl 23, .fl 24, .st 25 [], .fl 26, .fl 27, .st 28 []] (by rfl) (by kernel_rfl) ?_ | refine And.intro ?_ ?_)
      all_goals first
        | rfl
        | (exfalso; omega)
        | (show _ = _; simp [resAV]; done)
end Go.Proofs.YtockphlpokoohaaGreat
