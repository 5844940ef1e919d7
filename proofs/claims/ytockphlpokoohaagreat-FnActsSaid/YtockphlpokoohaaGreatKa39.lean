/- A text of the proof. A text of the proof. The values that an extension reads. -/
import Derived.Test.YtockphlpokoohaaGreatKa38
import Derived.Test.YtockphlpokoohaaGreatKa26
namespace Go.Proofs.YtockphlpokoohaaGreat
open Go Go.ChangeShapes Go.WideShapes Go.ChangeAt Go.RowKit
set_option linter.unusedVariables false
set_option linter.unusedSimpArgs false
set_option maxRecDepth 100000
set_option maxHeartbeats 4000000 in
theorem ev_l33Draw {id : Nat} {S : Store} (h : Cur id S) : EvA Tryz.prog 277 [.s (.pt id)] S (fun r S' => Drw id S S' ∧ ∃ b : GBrowser, (szL b.d ≤ 250 ∧ 1 ≤ b.Tabs.length) ∧ ∃ c1 c2 c3 c4 c5 c6, r = .v (.agg [.int .i64 b.Key, c1, c2, c3, c4, c5, c6, .int .i64 b.Now]) ∧ Fr S.length S' b.d [.int .i64 b.Key, c1, c2, c3, c4, c5, c6, .int .i64 b.Now]) := by
  have hlt := h.lt
  have hD := Drw.refl h
  have hF : Fr S.length S [] [] := fr_nil
  refine evA_intro tok Tryz.func277 (by kernel_rfl) rfl ?_
  repeat' ((conv => whnf) <;> first
   | rw [wrapI_i64 (by omega)] | refine cD (fun _ => ?_) fun _ => ?_ | refine cE (fun _ => ?_) fun _ => ?_ | refine cT ?_ | refine cF ?_ | refine cN (fun _ => ?_) fun _ => ?_ | refine cI (fun _ => ?_) fun _ => ?_ | refine rE fun hml => ?_ | (refine rd_slif rdA rf om ?_; intro cSl hSl) | refine nP ?_ | refine And.intro ?_ ?_)
  (conv => whnf)
  refine callP_intro (ev_l32Full hD.cur) ?_; rintro _ S1 ⟨hDn, b, hb, c1, c2, c3, c4, c5, c6, rfl, hFn⟩
  replace hF := hFn
  replace hD := hDn
  clear hDn hFn
  have hsz := br_szD b
  repeat' ((conv => whnf) <;> first
   | rw [wrapI_i64 (by omega)] | refine cD (fun _ => ?_) fun _ => ?_ | refine cE (fun _ => ?_) fun _ => ?_ | refine cT ?_ | refine cF ?_ | refine cN (fun _ => ?_) fun _ => ?_ | refine cI (fun _ => ?_) fun _ => ?_ | refine rE fun hml => ?_ | (refine rd_slif rdA rf om ?_; intro cSl hSl) | refine nP ?_ | refine And.intro ?_ ?_)
  (conv => whnf)
  refine callP_intro (ev_l1Once _ hD.cur) ?_; rintro _ S2 ⟨hDn, bb, rfl⟩
  replace hF := hF.drw hlt hDn
  replace hD := hD.trans hDn
  clear hDn
  cases bb
  · have r3 : Rd S2 [.sl 7 (b.Grants.map GGrant.d)] [c3] := hF.rdAt (o := 3) rfl rfl
    repeat' ((conv => whnf) <;> first
     | (refine rd_lenm r3 ?_; intro hml; rw [maxLen_eq] at hml) | rw [wrapI_i64 (by omega)] | (show CondP _ _ _; refine cS ?_) | refine cD (fun _ => ?_) fun _ => ?_ | refine cE (fun _ => ?_) fun _ => ?_ | refine cT ?_ | refine cF ?_ | refine cN (fun _ => ?_) fun _ => ?_ | refine cI (fun _ => ?_) fun _ => ?_ | (refine callP_intro (ev_l1Once _ hD.cur) ?_; rintro _ Sn ⟨hDn, bn, rfl⟩; replace hF := hF.drw hlt hDn; replace hD := hD.trans hDn; clear hDn) | (refine callP_intro (ev_l32Full hD.cur) ?_; rintro _ Sn ⟨hDn, bn, hbn, _, _, _, _, _, _, rfl, hFn⟩; replace hF := hF.joinD hlt hDn hFn hD.len; replace hD := hD.trans hDn; clear hDn hFn) | refine rE fun hml => ?_ | (refine rd_slif rdA rf om ?_; intro cSl hSl) | refine nP ?_ | refine And.intro ?_ ?_)
    all_goals first
      | exact hD
      | exact ⟨b, ⟨by omega, hb.2.1⟩, c1, c2, c3, c4, c5, c6, rfl, hF⟩
      | (exfalso; omega)
  repeat' ((conv => whnf) <;> first
   | rw [wrapI_i64 (by omega)] | refine cD (fun _ => ?_) fun _ => ?_ | refine cE (fun _ => ?_) fun _ => ?_ | refine cT ?_ | refine cF ?_ | refine cN (fun _ => ?_) fun _ => ?_ | refine cI (fun _ => ?_) fun _ => ?_ | refine rE fun hml => ?_ | (refine rd_slif rdA rf om ?_; intro cSl hSl) | refine nP ?_ | refine And.intro ?_ ?_)
  refine loop_intro {q : (Nat × List GGrant) × Store × C // q.1.1 ≤ 4 ∧ Drw id S q.2.1 ∧ q.1.2.length = b.Grants.length + q.1.1 ∧ Fr S.length q.2.1 (GBrowser.mk b.Key b.Tabs b.Packs q.1.2 b.Limits b.Rules b.Store b.Now).d [.int .i64 b.Key, c1, c2, q.2.2, c4, c5, c6, .int .i64 b.Now]} [3, 4, 9, 10, 11, 12, 13, 14, 15, 16, 17, 18, 19, 20] (fun zb => [(4, .v (.s (.int .i64 (1 + (zb.1.1.1 : Nat))))), (3, .box [.int .i64 b.Key, c1, c2, zb.1.2.2, c4, c5, c6, .int .i64 b.Now])]) (fun zb => zb.1.2.1) (fun zb => 4 - zb.1.1.1) ⟨((0, b.Grants), _, _), Nat.zero_le _, hD, rfl, hF⟩ ?_ rfl ?_
  · (conv => whnf); repeat' (first | exact trivial | exact rfl | apply And.intro)
  rintro ⟨⟨⟨k, gs⟩, Si, ci⟩, hk, hP⟩; dsimp only
  clear hF hD
  replace hk : k ≤ 4 := hk
  obtain ⟨hD, hgl, hF⟩ : Drw id S Si ∧ gs.length = b.Grants.length + k ∧ Fr S.length Si (GBrowser.mk b.Key b.Tabs b.Packs gs b.Limits b.Rules b.Store b.Now).d [.int .i64 b.Key, c1, c2, ci, c4, c5, c6, .int .i64 b.Now] := hP
  have r3 : Rd Si [.sl 7 (gs.map GGrant.d)] [ci] := hF.rdAt (o := 3) rfl rfl
  have hs2 := br_szD (GBrowser.mk b.Key b.Tabs b.Packs gs b.Limits b.Rules b.Store b.Now)
  dsimp only at hs2
  repeat' ((conv => whnf) <;> first
   | (refine rd_lenm r3 ?_; intro hml; rw [maxLen_eq] at hml) | rw [wrapI_i64 (by omega)] | refine cD (fun _ => ?_) fun _ => ?_ | refine cE (fun _ => ?_) fun _ => ?_ | refine cT ?_ | refine cF ?_ | refine cN (fun _ => ?_) fun _ => ?_ | refine cI (fun _ => ?_) fun _ => ?_ | (refine callP_intro (ev_l1Once _ hD.cur) ?_; rintro _ Sn ⟨hDn, bn, rfl⟩; replace hF := hF.drw hlt hDn; replace hD := hD.trans hDn; clear hDn) | (refine callP_intro (ev_l32Full hD.cur) ?_; rintro _ Sn ⟨hDn, bn, hbn, _, _, _, _, _, _, rfl, hFn⟩; replace hF := hF.joinD hlt hDn hFn hD.len; replace hD := hD.trans hDn; clear hDn hFn) | refine rE fun hml => ?_ | (refine rd_slif rdA rf om ?_; intro cSl hSl) | refine nP ?_ | (fail) | (refine dappF (f := GGrant.d) (o := 3) (l := gs) (m := [⟨1, ⟨0, -1⟩, 1 + (k : Nat), 0, 20, false⟩]) (fun _ => trivial) hD hF rfl rfl rfl rf (by dsimp only [T170]; simp only [List.length_singleton]; omega) (by simp only [List.length_singleton]; omega) ?_; intro cN SN hDN hFN) | refine And.intro ?_ ?_)
  · refine ⟨⟨((k + 1, gs ++ [⟨1, ⟨0, -1⟩, 1 + (k : Nat), 0, 20, false⟩]), SN, cN), ?_, hDN, ?_, ?_⟩, ?_, rfl, ?_⟩
    · dsimp only; omega
    · simp only [List.length_append, List.length_singleton]; omega
    · exact hFN
    · (conv => whnf); repeat' (first | exact trivial | exact rfl | (show _ = _; congr 3; dsimp only; omega) | apply And.intro)
    · dsimp only; omega
  all_goals first
    | exact hD
    | (exfalso; omega)
    | exact ⟨GBrowser.mk b.Key b.Tabs b.Packs gs b.Limits b.Rules b.Store b.Now, ⟨by omega, hb.2.1⟩, c1, c2, ci, c4, c5, c6, rfl, hF⟩
end Go.Proofs.YtockphlpokoohaaGreat
namespace Go.Proofs.YtockphlpokoohaaGreat
open Go Go.ChangeShapes Go.WideShapes Go.ChangeAt Go.RowKit
set_option linter.unusedVariables false
set_option linter.unusedSimpArgs false
set_option maxRecDepth 100000
set_option maxHeartbeats 2000000 in
theorem ev_DrawMayAct {S : Store} {c : C} (l : List Int) (hr : Rd S [.sl 1 (l.map dByte)] [c]) (hz : l.length ≤ 1048576) : EvA Tryz.prog 218 [.s c] S (fun r S' => Ext S S' ∧ ∃ (b : GBrowser) (e t k : Int), (szL b.d ≤ 250 ∧ 1 ≤ b.Tabs.length) ∧ ∃ c1 c2 c3 c4 c5 c6, r = .tup [.agg [.int .i64 b.Key, c1, c2, c3, c4, c5, c6, .int .i64 b.Now], .s (.int .i64 e), .s (.int .i64 t), .s (.int .i64 k)] ∧ Fr S.length S' b.d [.int .i64 b.Key, c1, c2, c3, c4, c5, c6, .int .i64 b.Now]) := by
  refine evA_intro tok Tryz.func218 (by kernel_rfl) rfl ?_
  repeat' ((conv => whnf) <;> first
   | rw [wrapI_i64 (by omega)] | refine nP ?_ | refine draw_intro 20 [.fl 0, .fl 1, .fl 2, .fl 3, .st 4 [0, 1, 2], .fl 5, .st 6 [1, 2, 5], .st 7 [2, 5], .st 8 [5], .st 9 []] (by rfl) (by kernel_rfl) ?_ | refine And.intro ?_ ?_)
  (conv => whnf)
  refine callP_intro (ev_l1New l hr hz) ?_; rintro _ S1 ⟨hE, h, rfl⟩
  have hlt := h.lt
  repeat' ((conv => whnf) <;> first
   | rw [wrapI_i64 (by omega)] | refine nP ?_ | refine draw_intro 20 [.fl 0, .fl 1, .fl 2, .fl 3, .st 4 [0, 1, 2], .fl 5, .st 6 [1, 2, 5], .st 7 [2, 5], .st 8 [5], .st 9 []] (by rfl) (by kernel_rfl) ?_ | refine And.intro ?_ ?_)
  (conv => whnf)
  refine callP_intro (ev_l33Draw h) ?_; rintro _ S2 ⟨hD, b, hb, c1, c2, c3, c4, c5, c6, rfl, hF⟩
  repeat' ((conv => whnf) <;> first
   | rw [wrapI_i64 (by omega)] | (refine callP_intro (ev_l1New _ rdA om) ?_; rintro _ Sn ⟨hEn, hCn, rfl⟩) | (refine callP_intro (ev_l1Below _ hD.cur) ?_; rintro _ Sn ⟨hDn, xn, hxn, rfl⟩; replace hF := hF.drw hlt hDn; replace hD := hD.trans hDn; clear hDn) | (refine callP_intro (ev_l1Int hD.cur (by rfl) (by rfl) (by rfl)) ?_; rintro _ Sn ⟨hDn, xn, rfl⟩; replace hF := hF.drw hlt hDn; replace hD := hD.trans hDn; clear hDn) | (refine callP_intro (ev_l33Draw hD.cur) ?_; rintro _ Sn ⟨hDn, bn, hbn, _, _, _, _, _, _, rfl, hFn⟩; replace hF := hF.joinD hlt hDn hFn hD.len; replace hD := hD.trans hDn; clear hDn hFn) | refine nP ?_ | refine draw_intro 20 [.fl 0, .fl 1, .fl 2, .fl 3, .st 4 [0, 1, 2], .fl 5, .st 6 [1, 2, 5], .st 7 [2, 5], .st 8 [5], .st 9 []] (by rfl) (by kernel_rfl) ?_ | refine And.intro ?_ ?_)
  all_goals first
    | exact drw_ext hE hD
    | exact ⟨b, _, _, _, hb, _, _, _, _, _, _, rfl, hF.mono hE.len⟩
set_option maxHeartbeats 2000000 in
theorem ev_DrawReadTab {S : Store} {c : C} (l : List Int) (hr : Rd S [.sl 1 (l.map dByte)] [c]) (hz : l.length ≤ 1048576) : EvA Tryz.prog 138 [.s c] S (fun r S' => Ext S S' ∧ ∃ (b : GBrowser) (e t : Int), (szL b.d ≤ 250 ∧ 1 ≤ b.Tabs.length) ∧ ∃ c1 c2 c3 c4 c5 c6, r = .tup [.agg [.int .i64 b.Key, c1, c2, c3, c4, c5, c6, .int .i64 b.Now], .s (.int .i64 e), .s (.int .i64 t)] ∧ Fr S.length S' b.d [.int .i64 b.Key, c1, c2, c3, c4, c5, c6, .int .i64 b.Now]) := by
  refine evA_intro tok Tryz.func138 (by kernel_rfl) rfl ?_
  repeat' ((conv => whnf) <;> first
   | (refine callP_intro (ev_DrawMayAct _ rdA om) ?_; rintro _ Sn ⟨hEn, bn, en, tn, kn, hbn, _, _, _, _, _, _, rfl, hFn⟩) | refine nP ?_ | refine And.intro ?_ ?_)
  all_goals first
    | exact hEn
    | exact ⟨_, _, _, hbn, _, _, _, _, _, _, rfl, hFn⟩
set_option maxHeartbeats 2000000 in
theorem ev_DrawWriteTab {S : Store} {c : C} (l : List Int) (hr : Rd S [.sl 1 (l.map dByte)] [c]) (hz : l.length ≤ 1048576) : EvA Tryz.prog 35 [.s c] S (fun r S' => Ext S S' ∧ ∃ (b : GBrowser) (e t : Int) (w : GEdit), (szL b.d ≤ 250 ∧ 1 ≤ b.Tabs.length) ∧ ∃ c1 c2 c3 c4 c5 c6, r = .tup [.agg [.int .i64 b.Key, c1, c2, c3, c4, c5, c6, .int .i64 b.Now], .s (.int .i64 e), .s (.int .i64 t), .agg w.c] ∧ Fr S.length S' b.d [.int .i64 b.Key, c1, c2, c3, c4, c5, c6, .int .i64 b.Now]) := by
  refine evA_intro tok Tryz.func35 (by kernel_rfl) rfl ?_
  repeat' ((conv => whnf) <;> first
   | refine nP ?_ | refine draw_intro 18 [.fl 0, .fl 1, .fl 2, .fl 3, .st 4 [0, 1, 2], .st 5 [1, 2], .st 6 [2], .st 7 [], .st 8 []] (by rfl) (by kernel_rfl) ?_ | refine And.intro ?_ ?_)
  (conv => whnf)
  refine callP_intro (ev_DrawReadTab l hr hz) ?_; rintro _ S1 ⟨hE1, b, e, t, hb, c1, c2, c3, c4, c5, c6, rfl, hF1⟩
  repeat' ((conv => whnf) <;> first
   | refine nP ?_ | refine draw_intro 18 [.fl 0, .fl 1, .fl 2, .fl 3, .st 4 [0, 1, 2], .st 5 [1, 2], .st 6 [2], .st 7 [], .st 8 []] (by rfl) (by kernel_rfl) ?_ | refine And.intro ?_ ?_)
  (conv => whnf)
  refine callP_intro (ev_l1New l (hr.ext hE1) hz) ?_; rintro _ S2 ⟨hE2, h, rfl⟩
  have hlt := h.lt
  have hD := Drw.refl h
  have hF : Fr S2.length S2 [] [] := fr_nil
  repeat' ((conv => whnf) <;> first
   | (refine callP_intro (ev_l1New _ rdA om) ?_; rintro _ Sn ⟨hEn, hCn, rfl⟩) | (refine callP_intro (ev_DrawReadTab _ rdA om) ?_; rintro _ Sn ⟨hEn, bn, en, tn, hbn, _, _, _, _, _, _, rfl, hFn⟩) | (refine callP_intro (ev_l5Any hD.cur) ?_; rintro _ Sn ⟨hDn, en, rfl⟩; replace hF := hF.drw hlt hDn; replace hD := hD.trans hDn; clear hDn) | refine nP ?_ | refine draw_intro 18 [.fl 0, .fl 1, .fl 2, .fl 3, .st 4 [0, 1, 2], .st 5 [1, 2], .st 6 [2], .st 7 [], .st 8 []] (by rfl) (by kernel_rfl) ?_ | refine And.intro ?_ ?_)
  all_goals first
    | exact hE1.trans (drw_ext hE2 hD)
    | exact ⟨b, _, _, _, hb, _, _, _, _, _, _, rfl, hF1.ext (drw_ext hE2 hD)⟩
set_option maxHeartbeats 2000000 in
theorem ev_DrawStoreFor {S : Store} {c : C} (l : List Int) (hr : Rd S [.sl 1 (l.map dByte)] [c]) (hz : l.length ≤ 1048576) : EvA Tryz.prog 40 [.s c] S (fun r S' => Ext S S' ∧ ∃ (b : GBrowser) (e t n v : Int), (szL b.d ≤ 250 ∧ 1 ≤ b.Tabs.length) ∧ ∃ c1 c2 c3 c4 c5 c6, r = .tup [.agg [.int .i64 b.Key, c1, c2, c3, c4, c5, c6, .int .i64 b.Now], .s (.int .i64 e), .s (.int .i64 t), .s (.int .i64 n), .s (.int .i64 v)] ∧ Fr S.length S' b.d [.int .i64 b.Key, c1, c2, c3, c4, c5, c6, .int .i64 b.Now]) := by
  refine evA_intro tok Tryz.func40 (by kernel_rfl) rfl ?_
  repeat' ((conv => whnf) <;> first
   | refine nP ?_ | refine draw_intro 19 [.fl 0, .fl 1, .fl 2, .fl 3, .fl 5, .fl 6, .st 4 [0, 1, 2, 5, 6], .st 7 [0, 1, 2], .st 8 [1, 2], .st 9 [2], .st 10 [], .st 11 [], .st 12 []] (by rfl) (by kernel_rfl) ?_ | refine And.intro ?_ ?_)
  (conv => whnf)
  refine callP_intro (ev_DrawReadTab l hr hz) ?_; rintro _ S1 ⟨hE1, b, e, t, hb, c1, c2, c3, c4, c5, c6, rfl, hF1⟩
  repeat' ((conv => whnf) <;> first
   | refine nP ?_ | refine draw_intro 19 [.fl 0, .fl 1, .fl 2, .fl 3, .fl 5, .fl 6, .st 4 [0, 1, 2, 5, 6], .st 7 [0, 1, 2], .st 8 [1, 2], .st 9 [2], .st 10 [], .st 11 [], .st 12 []] (by rfl) (by kernel_rfl) ?_ | refine And.intro ?_ ?_)
  (conv => whnf)
  refine callP_intro (ev_l1New l (hr.ext hE1) hz) ?_; rintro _ S2 ⟨hE2, h, rfl⟩
  have hlt := h.lt
  have hD := Drw.refl h
  have hF : Fr S2.length S2 [] [] := fr_nil
  repeat' ((conv => whnf) <;> first
   | (refine callP_intro (ev_l1New _ rdA om) ?_; rintro _ Sn ⟨hEn, hCn, rfl⟩) | (refine callP_intro (ev_l1Below _ hD.cur) ?_; rintro _ Sn ⟨hDn, xn, hxn, rfl⟩; replace hF := hF.drw hlt hDn; replace hD := hD.trans hDn; clear hDn) | (refine callP_intro (ev_l1Int hD.cur (by rfl) (by rfl) (by rfl)) ?_; rintro _ Sn ⟨hDn, xn, rfl⟩; replace hF := hF.drw hlt hDn; replace hD := hD.trans hDn; clear hDn) | (refine callP_intro (ev_DrawReadTab _ rdA om) ?_; rintro _ Sn ⟨hEn, bn, en, tn, hbn, _, _, _, _, _, _, rfl, hFn⟩) | refine nP ?_ | refine draw_intro 19 [.fl 0, .fl 1, .fl 2, .fl 3, .fl 5, .fl 6, .st 4 [0, 1, 2, 5, 6], .st 7 [0, 1, 2], .st 8 [1, 2], .st 9 [2], .st 10 [], .st 11 [], .st 12 []] (by rfl) (by kernel_rfl) ?_ | refine And.intro ?_ ?_)
  all_goals first
    | exact hE1.trans (drw_ext hE2 hD)
    | exact ⟨b, _, _, _, _, hb, _, _, _, _, _, _, rfl, hF1.ext (drw_ext hE2 hD)⟩
set_option maxHeartbeats 2000000 in
theorem ev_DrawPageEdit {S : Store} {c : C} (l : List Int) (hr : Rd S [.sl 1 (l.map dByte)] [c]) (hz : l.length ≤ 1048576) : EvA Tryz.prog 43 [.s c] S (fun r S' => Ext S S' ∧ ∃ (b : GBrowser) (t : Int) (w : GEdit), (szL b.d ≤ 250 ∧ 1 ≤ b.Tabs.length) ∧ ∃ c1 c2 c3 c4 c5 c6, r = .tup [.agg [.int .i64 b.Key, c1, c2, c3, c4, c5, c6, .int .i64 b.Now], .s (.int .i64 t), .agg w.c] ∧ Fr S.length S' b.d [.int .i64 b.Key, c1, c2, c3, c4, c5, c6, .int .i64 b.Now]) := by
  refine evA_intro tok Tryz.func43 (by kernel_rfl) rfl ?_
  repeat' ((conv => whnf) <;> first
   | (refine callP_intro (ev_DrawWriteTab _ rdA om) ?_; rintro _ Sn ⟨hEn, bn, en, tn, wn, hbn, _, _, _, _, _, _, rfl, hFn⟩) | refine nP ?_ | refine draw_intro 16 [.fl 0, .fl 1, .fl 2, .st 3 [1, 2], .st 4 [2], .st 5 []] (by rfl) (by kernel_rfl) ?_ | refine And.intro ?_ ?_)
  all_goals first
    | exact hEn
    | exact ⟨_, _, _, hbn, _, _, _, _, _, _, rfl, hFn⟩
end Go.Proofs.YtockphlpokoohaaGreat
namespace Go.Proofs.YtockphlpokoohaaGreat
open Go Go.ChangeShapes Go.WideShapes Go.ChangeAt Go.RowKit
set_option linter.unusedVariables false
set_option linter.unusedSimpArgs false
set_option maxRecDepth 100000
theorem st_flat {α : Type} {f : α → List D} {S0 S : Store} {k : Nat} {c : C} {l : List α} {i : Int} {y : α} {ys : List C} {K : Store → Prop} (h : Fr S0.length S [.sl k (l.map f)] [c]) (hE : Ext S0 S) (hi : 0 ≤ i ∧ i.toNat < l.length) (hf : ∀ x, Flat (f x)) (hk : ∀ x, (f x).length = k) (hy : ys = flatC (f y))
    (hK : ∀ S', Ext S0 S' → Fr S0.length S' [.sl k ((l.set i.toNat y).map f)] [c] → K S') : StoP S c i 0 ys K := by
  subst hy
  refine fr_sto (A := []) (B := f (l[i.toNat]'hi.2)) (B' := f y) (Z := []) hE h (Ext.refl S) (fr_flat (hf y)) hE.len (by simpa using hi) (by simp [hi.2]) rfl (by rw [hk, hk]) (by simp [hk]) fun S' h1 h2 _ => hK S' h1 ?_
  rw [List.nil_append, List.append_nil] at h2
  rw [List.map_set]; exact h2
end Go.Proofs.YtockphlpokoohaaGreat
