/- A text of the proof. -/
import Derived.Test.YtockphlpokoohaaGreatKb45
namespace Go.Proofs.YtockphlpokoohaaGreat
open Go Go.ChangeShapes Go.WideShapes Go.ChangeAt Go.RowKit
set_option linter.unusedVariables false
set_option linter.unusedSimpArgs false
set_option maxRecDepth 100000
set_option maxHeartbeats 4000000 in
theorem ev_DrawNewBrowser {S : Store} {c : C} (l : List Int) (hr : Rd S [.sl 1 (l.map dByte)] [c]) (hz : l.length ≤ 1048576) : EvA Tryz.prog 13 [.s c] S (fun r S' => Ext S S' ∧ ∃ (key : Int) (ts : List GTab), ts.length + szL.szLL (ts.map GTab.d) ≤ 100 ∧ ∃ c', r = .tup [.s (.int .i64 key), .s c'] ∧ Fr S.length S' [.sl 6 (ts.map GTab.d)] [c']) := by
  refine evA_intro tok Tryz.func13 (by kernel_rfl) rfl ?_
  repeat' ((conv => whnf) <;> first
   | rw [wrapI_i64 (by omega)] | refine cD (fun _ => ?_) fun _ => ?_ | refine cE (fun _ => ?_) fun _ => ?_ | refine cT ?_ | refine cF ?_ | refine cN (fun _ => ?_) fun _ => ?_ | refine cI (fun _ => ?_) fun _ => ?_ | refine rE fun hml => ?_ | refine rI rdA rf ix ?_ | (refine rd_loadm (f := GTab.d) rdA ix ?_; intro _ hcs; obtain ⟨_, _, _, rfl, _, _, _⟩ := GTab.inv hcs) | refine nP ?_ | refine And.intro ?_ ?_)
  (conv => whnf)
  refine callP_intro (ev_l1New l hr hz) ?_; rintro _ S1 ⟨hE, h, rfl⟩
  have hlt := h.lt
  have hD := Drw.refl h
  repeat' ((conv => whnf) <;> first
   | rw [wrapI_i64 (by omega)] | refine cD (fun _ => ?_) fun _ => ?_ | refine cE (fun _ => ?_) fun _ => ?_ | refine cT ?_ | refine cF ?_ | refine cN (fun _ => ?_) fun _ => ?_ | refine cI (fun _ => ?_) fun _ => ?_ | refine rE fun hml => ?_ | refine rI rdA rf ix ?_ | (refine rd_loadm (f := GTab.d) rdA ix ?_; intro _ hcs; obtain ⟨_, _, _, rfl, _, _, _⟩ := GTab.inv hcs) | refine nP ?_ | refine And.intro ?_ ?_)
  (conv => whnf)
  have hD1 := hD.push ⟨true, 6, []⟩
  have hF1 : Fr S1.length (S1 ++ [⟨true, 6, []⟩]) [.sl 6 (([] : List GTab).map GTab.d)] [.sl S1.length 0 0 0] := fr_lit0
  refine callP_intro (ev_l1Below _ hD1.cur) ?_; rintro _ Sn ⟨hDn, xn, hxn, rfl⟩
  replace hF1 := hF1.drw hlt hDn
  replace hD1 := hD1.trans hDn
  obtain ⟨n, rfl⟩ := Int.eq_ofNat_of_zero_le hxn.1
  repeat' ((conv => whnf) <;> first
   | rw [wrapI_i64 (by omega)] | refine cD (fun _ => ?_) fun _ => ?_ | refine cE (fun _ => ?_) fun _ => ?_ | refine cT ?_ | refine cF ?_ | refine cN (fun _ => ?_) fun _ => ?_ | refine cI (fun _ => ?_) fun _ => ?_ | refine rE fun hml => ?_ | refine rI rdA rf ix ?_ | (refine rd_loadm (f := GTab.d) rdA ix ?_; intro _ hcs; obtain ⟨_, _, _, rfl, _, _, _⟩ := GTab.inv hcs) | refine nP ?_ | refine And.intro ?_ ?_)
  refine loop_intro {q : Nat × Store × C // q.1 ≤ 4 ∧ Drw S.length S1 q.2.1 ∧ ∃ l : List GTab, (∀ t ∈ l, t.Base.length ≤ 7 ∧ t.Edits.length ≤ 5 ∧ t.Hidden.length ≤ 2) ∧ l.length + q.1 ≤ 4 ∧ Fr S1.length q.2.1 [.sl 6 (l.map GTab.d)] [q.2.2]} [5, 6, 12, 13, 14, 15, 16, 17, 18, 19, 20] (fun zb => [(6, .v (.s (.int .i64 (zb.1.1 : Nat)))), (5, .v (.s zb.1.2.2))]) (fun zb => zb.1.2.1) (fun zb => zb.1.1) ⟨(n, _, _), by have := hxn.2.2.1 (by omega); dsimp only; omega, hD1, [], fun _ h => (by cases h), by have := hxn.2.2.1 (by omega); simp; omega, hF1⟩ ?_ rfl ?_
  · (conv => whnf); repeat' (first | exact trivial | exact rfl | apply And.intro)
  rintro ⟨⟨k, Si, ci⟩, hk, hP⟩; dsimp only
  clear hD hD1 hF1 hDn hxn
  replace hk : k ≤ 4 := hk
  obtain ⟨hD, l, hz, hl, hF⟩ : Drw S.length S1 Si ∧ ∃ l : List GTab, (∀ t ∈ l, t.Base.length ≤ 7 ∧ t.Edits.length ≤ 5 ∧ t.Hidden.length ≤ 2) ∧ l.length + k ≤ 4 ∧ Fr S1.length Si [.sl 6 (l.map GTab.d)] [ci] := hP
  have hszm : szL.szLL (l.map GTab.d) ≤ l.length * 14 := szLL_max fun t ht => by have := hz t ht; have := tab_szD t; omega
  by_cases hk0 : 0 < k
  · repeat' ((conv => whnf) <;> first
     | rw [wrapI_i64 (by omega)] | (show CondP _ _ _; refine cS ?_) | refine cD (fun _ => ?_) fun _ => ?_ | refine cE (fun _ => ?_) fun _ => ?_ | refine cT ?_ | refine cF ?_ | refine cN (fun _ => ?_) fun _ => ?_ | refine cI (fun _ => ?_) fun _ => ?_ | refine rE fun hml => ?_ | refine rI rdA rf ix ?_ | (refine rd_loadm (f := GTab.d) rdA ix ?_; intro _ hcs; obtain ⟨_, _, _, rfl, _, _, _⟩ := GTab.inv hcs) | refine nP ?_ | refine And.intro ?_ ?_)
    (conv => whnf)
    refine callP_intro (ev_l32Tab hD.cur) ?_; rintro _ S2 ⟨hDn, t, hTt, hbt, hnt, hzt, e2, e3, e4, rfl, hFn⟩
    replace hF := hF.joinD hlt hDn hFn hD.len
    replace hD := hD.trans hDn
    clear hDn hFn
    repeat' ((conv => whnf) <;> first
     | rw [wrapI_i64 (by omega)] | (show CondP _ _ _; refine cS ?_) | refine cD (fun _ => ?_) fun _ => ?_ | refine cE (fun _ => ?_) fun _ => ?_ | refine cT ?_ | refine cF ?_ | refine cN (fun _ => ?_) fun _ => ?_ | refine cI (fun _ => ?_) fun _ => ?_ | (refine callP_intro (ev_l1New _ rdA om) ?_; rintro _ Sn ⟨hEn, hCn, rfl⟩) | (refine callP_intro (ev_l1Below _ hD.cur) ?_; rintro _ Sn ⟨hDn, xn, hxn, rfl⟩; replace hF := hF.drw hlt hDn; replace hD := hD.trans hDn; clear hDn) | (refine callP_intro (ev_l32Tab hD.cur) ?_; rintro _ Sn ⟨hDn, tn, htn, hbn, hbzn, hzn, c2, c3, c4, rfl, hFn⟩; replace hF := hF.joinD hlt hDn hFn hD.len; replace hD := hD.trans hDn; clear hDn hFn) | (refine callP_intro (ev_l1Once _ hD.cur) ?_; rintro _ Sn ⟨hDn, bn, rfl⟩; replace hF := hF.drw hlt hDn; replace hD := hD.trans hDn; clear hDn) | (refine callP_intro (ev_l31Any hD.cur) ?_; rintro _ Sn ⟨hDn, tn, hzn, c2, c3, c4, rfl, hFn⟩; replace hF := hF.joinD hlt hDn hFn hD.len; replace hD := hD.trans hDn; clear hDn hFn) | (refine callP_intro (ev_l1Int hD.cur (by rfl) (by rfl) (by rfl)) ?_; rintro _ Sn ⟨hDn, xn, rfl⟩; replace hF := hF.drw hlt hDn; replace hD := hD.trans hDn; clear hDn) | refine rE fun hml => ?_ | refine rI rdA rf ix ?_ | (refine rd_loadm (f := GTab.d) rdA ix ?_; intro _ hcs; obtain ⟨_, _, _, rfl, _, _, _⟩ := GTab.inv hcs) | refine nP ?_ | (refine dappMv (ds := [.sl 6 (l.map GTab.d)]) (cs := [ci]) (dy := t.d) (o := 0) hD hF rfl rfl rfl rfl (by dsimp only [T85]; simp only [List.length_map]; omega) (by simp only [List.length_map]; omega) ?_; intro cN SN hDN hFN) | refine And.intro ?_ ?_)
    all_goals try (exfalso; omega)
    refine ⟨⟨(k - 1, SN, cN), by dsimp only; omega, hDN, l ++ [t], fun x hx => ?_, by simp only [List.length_append, List.length_singleton]; omega, ?_⟩, ?_, rfl, by dsimp only; omega⟩
    · rcases List.mem_append.1 hx with h | h
      · exact hz x h
      · rw [List.mem_singleton.1 h]; exact hzt
    · rw [List.map_append]; exact hFN
    · (conv => whnf); repeat' (first | exact trivial | exact rfl | (show _ = _; congr 3; dsimp only; omega) | apply And.intro)
  by_cases hl0 : l.length = 0
  · repeat' ((conv => whnf) <;> first
     | (refine rd_lenm hF.rd ?_; intro hml; rw [maxLen_eq] at hml) | rw [wrapI_i64 (by omega)] | (show CondP _ _ _; refine cS ?_) | refine cD (fun _ => ?_) fun _ => ?_ | refine cE (fun _ => ?_) fun _ => ?_ | refine cT ?_ | refine cF ?_ | refine cN (fun _ => ?_) fun _ => ?_ | refine cI (fun _ => ?_) fun _ => ?_ | (refine callP_intro (ev_l1New _ rdA om) ?_; rintro _ Sn ⟨hEn, hCn, rfl⟩) | (refine callP_intro (ev_l1Below _ hD.cur) ?_; rintro _ Sn ⟨hDn, xn, hxn, rfl⟩; replace hF := hF.drw hlt hDn; replace hD := hD.trans hDn; clear hDn) | (refine callP_intro (ev_l32Tab hD.cur) ?_; rintro _ Sn ⟨hDn, tn, htn, hbn, hbzn, hzn, c2, c3, c4, rfl, hFn⟩; replace hF := hF.joinD hlt hDn hFn hD.len; replace hD := hD.trans hDn; clear hDn hFn) | (refine callP_intro (ev_l1Once _ hD.cur) ?_; rintro _ Sn ⟨hDn, bn, rfl⟩; replace hF := hF.drw hlt hDn; replace hD := hD.trans hDn; clear hDn) | (refine callP_intro (ev_l31Any hD.cur) ?_; rintro _ Sn ⟨hDn, tn, hzn, c2, c3, c4, rfl, hFn⟩; replace hF := hF.joinD hlt hDn hFn hD.len; replace hD := hD.trans hDn; clear hDn hFn) | (refine callP_intro (ev_l1Int hD.cur (by rfl) (by rfl) (by rfl)) ?_; rintro _ Sn ⟨hDn, xn, rfl⟩; replace hF := hF.drw hlt hDn; replace hD := hD.trans hDn; clear hDn) | refine rE fun hml => ?_ | refine rI rdA rf ix ?_ | (refine rd_loadm (f := GTab.d) rdA ix ?_; intro _ hcs; obtain ⟨_, _, _, rfl, _, _, _⟩ := GTab.inv hcs) | refine nP ?_ | refine And.intro ?_ ?_)
    all_goals first
      | (exfalso; omega)
      | exact drw_ext hE hD
      | exact ⟨_, l, by omega, _, rfl, hF.mono hE.len⟩
  repeat' ((conv => whnf) <;> first
   | (refine rd_lenm hF.rd ?_; intro hml; rw [maxLen_eq] at hml) | rw [wrapI_i64 (by omega)] | (show CondP _ _ _; refine cS ?_) | refine cD (fun _ => ?_) fun _ => ?_ | refine cE (fun _ => ?_) fun _ => ?_ | refine cT ?_ | refine cF ?_ | refine cN (fun _ => ?_) fun _ => ?_ | refine cI (fun _ => ?_) fun _ => ?_ | refine rE fun hml => ?_ | refine rI rdA rf ix ?_ | (refine rd_loadm (f := GTab.d) rdA ix ?_; intro _ hcs; obtain ⟨_, _, _, rfl, _, _, _⟩ := GTab.inv hcs) | refine nP ?_ | refine And.intro ?_ ?_)
  all_goals try (exfalso; omega)
  (conv => whnf)
  refine callP_intro (ev_l1Once _ hD.cur) ?_; rintro _ S3 ⟨hDn, bb, rfl⟩
  replace hF := hF.drw hlt hDn
  replace hD := hD.trans hDn
  clear hDn
  cases bb
  · repeat' ((conv => whnf) <;> first
     | rw [wrapI_i64 (by omega)] | (show CondP _ _ _; refine cS ?_) | refine cD (fun _ => ?_) fun _ => ?_ | refine cE (fun _ => ?_) fun _ => ?_ | refine cT ?_ | refine cF ?_ | refine cN (fun _ => ?_) fun _ => ?_ | refine cI (fun _ => ?_) fun _ => ?_ | (refine callP_intro (ev_l1New _ rdA om) ?_; rintro _ Sn ⟨hEn, hCn, rfl⟩) | (refine callP_intro (ev_l1Below _ hD.cur) ?_; rintro _ Sn ⟨hDn, xn, hxn, rfl⟩; replace hF := hF.drw hlt hDn; replace hD := hD.trans hDn; clear hDn) | (refine callP_intro (ev_l32Tab hD.cur) ?_; rintro _ Sn ⟨hDn, tn, htn, hbn, hbzn, hzn, c2, c3, c4, rfl, hFn⟩; replace hF := hF.joinD hlt hDn hFn hD.len; replace hD := hD.trans hDn; clear hDn hFn) | (refine callP_intro (ev_l1Once _ hD.cur) ?_; rintro _ Sn ⟨hDn, bn, rfl⟩; replace hF := hF.drw hlt hDn; replace hD := hD.trans hDn; clear hDn) | (refine callP_intro (ev_l31Any hD.cur) ?_; rintro _ Sn ⟨hDn, tn, hzn, c2, c3, c4, rfl, hFn⟩; replace hF := hF.joinD hlt hDn hFn hD.len; replace hD := hD.trans hDn; clear hDn hFn) | (refine callP_intro (ev_l1Int hD.cur (by rfl) (by rfl) (by rfl)) ?_; rintro _ Sn ⟨hDn, xn, rfl⟩; replace hF := hF.drw hlt hDn; replace hD := hD.trans hDn; clear hDn) | refine rE fun hml => ?_ | refine rI rdA rf ix ?_ | (refine rd_loadm (f := GTab.d) rdA ix ?_; intro _ hcs; obtain ⟨_, _, _, rfl, _, _, _⟩ := GTab.inv hcs) | refine nP ?_ | refine And.intro ?_ ?_)
    all_goals first
      | (exfalso; omega)
      | exact drw_ext hE hD
      | exact ⟨_, l, by omega, _, rfl, hF.mono hE.len⟩
  have hi00 : 0 ≤ (0 : Int) ∧ (0 : Int).toNat < l.length := ⟨Int.le_refl _, by show 0 < l.length; omega⟩
  repeat' ((conv => whnf) <;> first
   | rw [wrapI_i64 (by omega)] | (show CondP _ _ _; refine cS ?_) | refine cD (fun _ => ?_) fun _ => ?_ | refine cE (fun _ => ?_) fun _ => ?_ | refine cT ?_ | refine cF ?_ | refine cN (fun _ => ?_) fun _ => ?_ | refine cI (fun _ => ?_) fun _ => ?_ | refine rE fun hml => ?_ | refine rI rdA rf ix ?_ | (refine rd_loadm (f := GTab.d) rdA ix ?_; intro _ hcs; obtain ⟨_, _, _, rfl, _, _, _⟩ := GTab.inv hcs) | refine nP ?_ | refine And.intro ?_ ?_)
  (conv => whnf)
  refine callP_intro (ev_l31Any hD.cur) ?_; rintro _ S4 ⟨hDn, t, htz, d2, d3, d4, rfl, hFn⟩
  replace hF := hF.joinD hlt hDn hFn hD.len
  replace hD := hD.trans hDn
  clear hDn hFn
  have rt : Rd S4 [.sl 6 (l.map GTab.d)] [ci] := hF.rdAt (o := 0) rfl rfl
  have hsx := szLL_setLe (f := GTab.d) t l 0
  have hst := tab_szD t
  repeat' ((conv => whnf) <;> first
   | (refine rI rt rf hi00 ?_) | rw [wrapI_i64 (by omega)] | (show CondP _ _ _; refine cS ?_) | refine cD (fun _ => ?_) fun _ => ?_ | refine cE (fun _ => ?_) fun _ => ?_ | refine cT ?_ | refine cF ?_ | refine cN (fun _ => ?_) fun _ => ?_ | refine cI (fun _ => ?_) fun _ => ?_ | refine rE fun hml => ?_ | refine rI rdA rf ix ?_ | (refine rd_loadm (f := GTab.d) rdA ix ?_; intro _ hcs; obtain ⟨_, _, _, rfl, _, _, _⟩ := GTab.inv hcs) | refine nP ?_ | (refine dstoMv (q := 0) (k := 6) (ds := [.sl 6 (l.map GTab.d)]) (cs := [ci]) (xs := l.map GTab.d) (A := []) (B := (l[(0 : Int).toNat]'hi00.2).d) (B' := t.d) (Z := []) hD hF rfl rfl rfl (by rw [List.length_map]; exact hi00) (by rw [List.nil_append, List.append_nil]; exact tabX_at hi00) rfl rfl rfl ?_; intro SN hDN hFN) | refine And.intro ?_ ?_)
  have hFS : Fr S1.length SN [.sl 6 ((l.set 0 t).map GTab.d)] [ci] := by rw [List.map_set]; exact hFN
  clear hF hD hFN rt
  have hD := hDN
  have hF := hFS
  repeat' ((conv => whnf) <;> first
   | rw [wrapI_i64 (by omega)] | (show CondP _ _ _; refine cS ?_) | refine cD (fun _ => ?_) fun _ => ?_ | refine cE (fun _ => ?_) fun _ => ?_ | refine cT ?_ | refine cF ?_ | refine cN (fun _ => ?_) fun _ => ?_ | refine cI (fun _ => ?_) fun _ => ?_ | (refine callP_intro (ev_l1New _ rdA om) ?_; rintro _ Sn ⟨hEn, hCn, rfl⟩) | (refine callP_intro (ev_l1Below _ hD.cur) ?_; rintro _ Sn ⟨hDn, xn, hxn, rfl⟩; replace hF := hF.drw hlt hDn; replace hD := hD.trans hDn; clear hDn) | (refine callP_intro (ev_l32Tab hD.cur) ?_; rintro _ Sn ⟨hDn, tn, htn, hbn, hbzn, hzn, c2, c3, c4, rfl, hFn⟩; replace hF := hF.joinD hlt hDn hFn hD.len; replace hD := hD.trans hDn; clear hDn hFn) | (refine callP_intro (ev_l1Once _ hD.cur) ?_; rintro _ Sn ⟨hDn, bn, rfl⟩; replace hF := hF.drw hlt hDn; replace hD := hD.trans hDn; clear hDn) | (refine callP_intro (ev_l31Any hD.cur) ?_; rintro _ Sn ⟨hDn, tn, hzn, c2, c3, c4, rfl, hFn⟩; replace hF := hF.joinD hlt hDn hFn hD.len; replace hD := hD.trans hDn; clear hDn hFn) | (refine callP_intro (ev_l1Int hD.cur (by rfl) (by rfl) (by rfl)) ?_; rintro _ Sn ⟨hDn, xn, rfl⟩; replace hF := hF.drw hlt hDn; replace hD := hD.trans hDn; clear hDn) | refine rE fun hml => ?_ | refine rI rdA rf ix ?_ | (refine rd_loadm (f := GTab.d) rdA ix ?_; intro _ hcs; obtain ⟨_, _, _, rfl, _, _, _⟩ := GTab.inv hcs) | refine nP ?_ | refine And.intro ?_ ?_)
  all_goals first
    | (exfalso; omega)
    | exact drw_ext hE hD
    | exact ⟨_, l.set 0 t, by rw [List.length_set]; omega, _, rfl, hF.mono hE.len⟩
set_option maxHeartbeats 2000000 in
theorem ev_DrawPackOf {S : Store} {c : C} (l : List Int) (hr : Rd S [.sl 1 (l.map dByte)] [c]) (hz : l.length ≤ 1048576) : EvA Tryz.prog 18 [.s c] S (fun r S' => Ext S S' ∧ ∃ (b : GBrowser) (e : Int), szL b.d ≤ 450 ∧ ∃ c1 c2 c3 c4 c5 c6, r = .tup [.agg [.int .i64 b.Key, c1, c2, c3, c4, c5, c6, .int .i64 b.Now], .s (.int .i64 e)] ∧ Rd S' b.d [.int .i64 b.Key, c1, c2, c3, c4, c5, c6, .int .i64 b.Now]) := by
  refine evA_intro tok Tryz.func18 (by kernel_rfl) rfl ?_
  repeat' ((conv => whnf) <;> first
   | refine nP ?_ | refine draw_intro 10 [.fl 0, .fl 1, .st 2 [0], .st 3 [], .st 4 []] (by rfl) (by kernel_rfl) ?_ | refine And.intro ?_ ?_)
  (conv => whnf)
  refine callP_intro (ev_l1New l hr hz) ?_; rintro _ S1 ⟨hE, h, rfl⟩
  have hlt := h.lt
  repeat' ((conv => whnf) <;> first
   | refine nP ?_ | refine draw_intro 10 [.fl 0, .fl 1, .st 2 [0], .st 3 [], .st 4 []] (by rfl) (by kernel_rfl) ?_ | refine And.intro ?_ ?_)
  (conv => whnf)
  refine callP_intro (ev_l32Any h) ?_; rintro _ S2 ⟨hD, b, hb, c1, c2, c3, c4, c5, c6, rfl, hR⟩
  repeat' ((conv => whnf) <;> first
   | refine nP ?_ | refine draw_intro 10 [.fl 0, .fl 1, .st 2 [0], .st 3 [], .st 4 []] (by rfl) (by kernel_rfl) ?_ | refine And.intro ?_ ?_)
  (conv => whnf)
  refine callP_intro (ev_l1Below _ hD.cur) ?_; rintro _ S3 ⟨hDn, x, hx, rfl⟩
  repeat' ((conv => whnf) <;> first
   | (refine callP_intro (ev_l1New _ rdA om) ?_; rintro _ Sn ⟨hEn, hCn, rfl⟩) | (refine callP_intro (ev_l1Below _ hD.cur) ?_; rintro _ Sn ⟨hDn, xn, hxn, rfl⟩; replace hF := hF.drw hlt hDn; replace hD := hD.trans hDn; clear hDn) | (refine callP_intro (ev_l32Any hD.cur) ?_; rintro _ Sn ⟨hDn, bn, hzn, _, _, _, _, _, _, rfl, hRn⟩; replace hF := hF.drw hlt hDn; replace hD := hD.trans hDn; clear hDn) | refine nP ?_ | refine draw_intro 10 [.fl 0, .fl 1, .st 2 [0], .st 3 [], .st 4 []] (by rfl) (by kernel_rfl) ?_ | refine And.intro ?_ ?_)
  all_goals first
    | exact drw_ext hE (hD.trans hDn)
    | exact ⟨b, _, hb, _, _, _, _, _, _, rfl, (hR.drw hDn).rd⟩
theorem fr_brNow {lo : Nat} {S : Store} {b : GBrowser} {c1 c2 c3 c4 c5 c6 : C} (n : Int) (h : Fr lo S b.d [.int .i64 b.Key, c1, c2, c3, c4, c5, c6, .int .i64 b.Now]) : Fr lo S (GBrowser.mk b.Key b.Tabs b.Packs b.Grants b.Limits b.Rules b.Store n).d [.int .i64 b.Key, c1, c2, c3, c4, c5, c6, .int .i64 n] := h.setX (o := 7) (by show 7 < 8; decide)
set_option maxHeartbeats 4000000 in
theorem ev_DrawEqualBrowsers {S : Store} {c : C} (l : List Int) (hr : Rd S [.sl 1 (l.map dByte)] [c]) (hz : l.length ≤ 1048576) : EvA Tryz.prog 20 [.s c] S (fun r S' => Ext S S' ∧ ∃ (a b : GBrowser), szL a.d ≤ 500 ∧ szL b.d ≤ 500 ∧ ∃ c1 c2 c3 c4 c5 c6 d1 d2 d3 d4 d5 d6, r = .tup [.agg [.int .i64 a.Key, c1, c2, c3, c4, c5, c6, .int .i64 a.Now], .agg [.int .i64 b.Key, d1, d2, d3, d4, d5, d6, .int .i64 b.Now]] ∧ Rd S' a.d [.int .i64 a.Key, c1, c2, c3, c4, c5, c6, .int .i64 a.Now] ∧ Rd S' b.d [.int .i64 b.Key, d1, d2, d3, d4, d5, d6, .int .i64 b.Now]) := by
  refine evA_intro tok Tryz.func20 (by kernel_rfl) rfl ?_
  repeat' ((conv => whnf) <;> first
   | rw [wrapI_i64 (by omega)] | refine cD (fun _ => ?_) fun _ => ?_ | refine cE (fun _ => ?_) fun _ => ?_ | refine cT ?_ | refine cF ?_ | refine cN (fun _ => ?_) fun _ => ?_ | refine cI (fun _ => ?_) fun _ => ?_ | refine nP ?_ | refine draw_intro 36 [.fl 0, .fl 1, .st 2 [1], .st 3 []] (by rfl) (by kernel_rfl) ?_ | refine And.intro ?_ ?_)
  (conv => whnf)
  refine callP_intro (ev_l1New l hr hz) ?_; rintro _ S1 ⟨hE, h, rfl⟩
  have hlt := h.lt
  repeat' ((conv => whnf) <;> first
   | rw [wrapI_i64 (by omega)] | refine cD (fun _ => ?_) fun _ => ?_ | refine cE (fun _ => ?_) fun _ => ?_ | refine cT ?_ | refine cF ?_ | refine cN (fun _ => ?_) fun _ => ?_ | refine cI (fun _ => ?_) fun _ => ?_ | refine nP ?_ | refine draw_intro 36 [.fl 0, .fl 1, .st 2 [1], .st 3 []] (by rfl) (by kernel_rfl) ?_ | refine And.intro ?_ ?_)
  (conv => whnf)
  refine callP_intro (ev_l32Any h) ?_; rintro _ S2 ⟨hB, a, ha, c1, c2, c3, c4, c5, c6, rfl, hR⟩
  have hlt0 := hlt
  clear hlt
  have hlt : S.length < S2.length := Nat.lt_of_lt_of_le hlt0 hB.len
  have hD := Drw.refl hB.cur
  repeat' ((conv => whnf) <;> first
   | rw [wrapI_i64 (by omega)] | refine cD (fun _ => ?_) fun _ => ?_ | refine cE (fun _ => ?_) fun _ => ?_ | refine cT ?_ | refine cF ?_ | refine cN (fun _ => ?_) fun _ => ?_ | refine cI (fun _ => ?_) fun _ => ?_ | refine nP ?_ | refine draw_intro 36 [.fl 0, .fl 1, .st 2 [1], .st 3 []] (by rfl) (by kernel_rfl) ?_ | refine And.intro ?_ ?_)
  (conv => whnf)
  refine callP_intro (ev_l32Copy a _ _ hR.rd (by omega)) ?_; rintro _ S3 ⟨e3, d1, d2, d3, d4, d5, d6, rfl, hF⟩
  replace hD := hD.ext e3
  clear e3
  repeat' ((conv => whnf) <;> first
   | rw [wrapI_i64 (by omega)] | refine cD (fun _ => ?_) fun _ => ?_ | refine cE (fun _ => ?_) fun _ => ?_ | refine cT ?_ | refine cF ?_ | refine cN (fun _ => ?_) fun _ => ?_ | refine cI (fun _ => ?_) fun _ => ?_ | refine nP ?_ | refine draw_intro 36 [.fl 0, .fl 1, .st 2 [1], .st 3 []] (by rfl) (by kernel_rfl) ?_ | refine And.intro ?_ ?_)
  (conv => whnf)
  refine callP_intro (ev_l1Below _ hD.cur) ?_; rintro _ S4 ⟨hDn, x, hx, rfl⟩
  replace hF := hF.drw hlt hDn
  replace hD := hD.trans hDn
  clear hDn
  have hsz := br_szD a
  by_cases x0 : x = 0
  · subst x0
    repeat' ((conv => whnf) <;> first
     | rw [wrapI_i64 (by omega)] | (show CondP _ _ _; refine cS ?_) | refine cD (fun _ => ?_) fun _ => ?_ | refine cE (fun _ => ?_) fun _ => ?_ | refine cT ?_ | refine cF ?_ | refine cN (fun _ => ?_) fun _ => ?_ | refine cI (fun _ => ?_) fun _ => ?_ | refine nP ?_ | refine draw_intro 36 [.fl 0, .fl 1, .st 2 [1], .st 3 []] (by rfl) (by kernel_rfl) ?_ | refine And.intro ?_ ?_)
    (conv => whnf)
    refine callP_intro (ev_l32Any hD.cur) ?_; rintro _ S5 ⟨hDn, b, hb, k1, k2, k3, k4, k5, k6, rfl, hRb⟩
    replace hD := hD.trans hDn
    repeat' ((conv => whnf) <;> first
     | rw [wrapI_i64 (by omega)] | (show CondP _ _ _; refine cS ?_) | refine cD (fun _ => ?_) fun _ => ?_ | refine cE (fun _ => ?_) fun _ => ?_ | refine cT ?_ | refine cF ?_ | refine cN (fun _ => ?_) fun _ => ?_ | refine cI (fun _ => ?_) fun _ => ?_ | (refine callP_intro (ev_l1New _ rdA om) ?_; rintro _ Sn ⟨hEn, hCn, rfl⟩) | (refine callP_intro (ev_l1Below _ hD.cur) ?_; rintro _ Sn ⟨hDn, xn, hxn, rfl⟩; replace hF := hF.drw hlt hDn; replace hD := hD.trans hDn; clear hDn) | (refine callP_intro (ev_l32Any hD.cur) ?_; rintro _ Sn ⟨hDn, bn, hzn, _, _, _, _, _, _, rfl, hRn⟩; replace hF := hF.drw hlt hDn; replace hD := hD.trans hDn; clear hDn) | (refine callP_intro (ev_l32Copy _ _ _ rdcA (by (first | omega | exact sz_at hz om | (simp only [szL]; omega)))) ?_; rintro _ Sn ⟨hEn, _, _, _, _, _, _, rfl, hFn⟩) | refine nP ?_ | refine draw_intro 36 [.fl 0, .fl 1, .st 2 [1], .st 3 []] (by rfl) (by kernel_rfl) ?_ | refine And.intro ?_ ?_)
    all_goals first
      | exact drw_ext hE (hB.trans hD)
      | exact ⟨a, b, by omega, by omega, _, _, _, _, _, _, _, _, _, _, _, _, rfl, (hR.drw hD).rd, hRb.rd⟩
  by_cases x3 : x = 3
  · subst x3
    have hsb := br_szD (GBrowser.mk a.Key a.Tabs a.Packs a.Grants a.Limits a.Rules (a.Store ++ [GStored.mk 9 0 0 0]) a.Now)
    simp only [List.length_append, List.length_singleton] at hsb
    repeat' ((conv => whnf) <;> first
     | rw [wrapI_i64 (by omega)] | (show CondP _ _ _; refine cS ?_) | refine cD (fun _ => ?_) fun _ => ?_ | refine cE (fun _ => ?_) fun _ => ?_ | refine cT ?_ | refine cF ?_ | refine cN (fun _ => ?_) fun _ => ?_ | refine cI (fun _ => ?_) fun _ => ?_ | (refine callP_intro (ev_l1New _ rdA om) ?_; rintro _ Sn ⟨hEn, hCn, rfl⟩) | (refine callP_intro (ev_l1Below _ hD.cur) ?_; rintro _ Sn ⟨hDn, xn, hxn, rfl⟩; replace hF := hF.drw hlt hDn; replace hD := hD.trans hDn; clear hDn) | (refine callP_intro (ev_l32Any hD.cur) ?_; rintro _ Sn ⟨hDn, bn, hzn, _, _, _, _, _, _, rfl, hRn⟩; replace hF := hF.drw hlt hDn; replace hD := hD.trans hDn; clear hDn) | (refine callP_intro (ev_l32Copy _ _ _ rdcA (by (first | omega | exact sz_at hz om | (simp only [szL]; omega)))) ?_; rintro _ Sn ⟨hEn, _, _, _, _, _, _, rfl, hFn⟩) | refine nP ?_ | refine draw_intro 36 [.fl 0, .fl 1, .st 2 [1], .st 3 []] (by rfl) (by kernel_rfl) ?_ | (refine dappF (f := GStored.d) (o := 6) (l := a.Store) (m := [⟨9, 0, 0, 0⟩]) (fun _ => trivial) hD hF rfl rfl rfl rf (by dsimp only [T174]; simp only [List.length_singleton]; omega) (by simp only [List.length_singleton]; omega) ?_; intro cN SN hDN hFN) | refine And.intro ?_ ?_)
    all_goals first
      | exact drw_ext hE (hB.trans hDN)
      | exact ⟨a, GBrowser.mk a.Key a.Tabs a.Packs a.Grants a.Limits a.Rules (a.Store ++ [GStored.mk 9 0 0 0]) a.Now, by omega, by omega, _, _, _, _, _, _, _, _, _, _, _, _, rfl, (hR.drw hDN).rd, hFN.rd⟩
  have hs1 := br_szD (GBrowser.mk a.Key a.Tabs a.Packs a.Grants a.Limits a.Rules a.Store (wrapI .i64 (a.Now + 1)))
  have hs2 := br_szD (GBrowser.mk a.Key a.Tabs a.Packs [] a.Limits a.Rules a.Store a.Now)
  simp only [List.length_nil] at hs1 hs2
  repeat' ((conv => whnf) <;> first
   | rw [wrapI_i64 (by omega)] | refine cD (fun _ => ?_) fun _ => ?_ | refine cE (fun _ => ?_) fun _ => ?_ | refine cT ?_ | refine cF ?_ | refine cN (fun _ => ?_) fun _ => ?_ | refine cI (fun _ => ?_) fun _ => ?_ | (refine callP_intro (ev_l1New _ rdA om) ?_; rintro _ Sn ⟨hEn, hCn, rfl⟩) | (refine callP_intro (ev_l1Below _ hD.cur) ?_; rintro _ Sn ⟨hDn, xn, hxn, rfl⟩; replace hF := hF.drw hlt hDn; replace hD := hD.trans hDn; clear hDn) | (refine callP_intro (ev_l32Any hD.cur) ?_; rintro _ Sn ⟨hDn, bn, hzn, _, _, _, _, _, _, rfl, hRn⟩; replace hF := hF.drw hlt hDn; replace hD := hD.trans hDn; clear hDn) | (refine callP_intro (ev_l32Copy _ _ _ rdcA (by (first | omega | exact sz_at hz om | (simp only [szL]; omega)))) ?_; rintro _ Sn ⟨hEn, _, _, _, _, _, _, rfl, hFn⟩) | refine nP ?_ | refine draw_intro 36 [.fl 0, .fl 1, .st 2 [1], .st 3 []] (by rfl) (by kernel_rfl) ?_ | refine And.intro ?_ ?_)
  all_goals first
    | exact drw_ext hE (hB.trans hD)
    | exact absurd rfl x0
    | exact absurd rfl x3
    | exact ⟨a, a, by omega, by omega, _, _, _, _, _, _, _, _, _, _, _, _, rfl, (hR.drw hD).rd, hF.rd⟩
    | exact ⟨a, GBrowser.mk a.Key a.Tabs a.Packs a.Grants a.Limits a.Rules a.Store (wrapI .i64 (a.Now + 1)), by omega, by omega, _, _, _, _, _, _, _, _, _, _, _, _, rfl, (hR.drw hD).rd, (fr_brNow (wrapI .i64 (a.Now + 1)) hF).rd⟩
    | exact ⟨a, GBrowser.mk a.Key a.Tabs a.Packs [] a.Limits a.Rules a.Store a.Now, by omega, by omega, _, _, _, _, _, _, _, _, _, _, _, _, rfl, (hR.drw hD).rd, (hF.setAt (o := 3) (Ext.refl _) (fr_nilC (k := 7)) hD.len (by show 3 < 8; decide)).rd⟩
    | (exfalso; omega)
end Go.Proofs.YtockphlpokoohaaGreat
