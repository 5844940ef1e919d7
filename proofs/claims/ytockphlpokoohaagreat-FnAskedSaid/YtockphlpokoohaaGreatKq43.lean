/- A text of the proof. Equal lists, tabs, packages, browsers. -/
import Derived.Test.YtockphlpokoohaaGreatKq42
import Derived.Test.YtockphlpokoohaaGreatKq22
namespace Go.Proofs.YtockphlpokoohaaGreat
open Go Go.ChangeShapes Go.WideShapes Go.ChangeAt Go.RowKit
set_option linter.unusedVariables false
set_option linter.unusedSimpArgs false
set_option maxRecDepth 100000
set_option maxHeartbeats 4000000 in
theorem ev_l34Draw {id : Nat} {S : Store} (h : Cur id S) : EvA Tryz.prog 132 [.s (.pt id)] S (fun r S' => Drw id S S' ∧ ∃ b : GBrowser, szL b.d ≤ 500 ∧ ∃ c1 c2 c3 c4 c5 c6, r = .v (.agg [.int .i64 b.Key, c1, c2, c3, c4, c5, c6, .int .i64 b.Now]) ∧ Fr S.length S' b.d [.int .i64 b.Key, c1, c2, c3, c4, c5, c6, .int .i64 b.Now]) := by
  have hlt := h.lt
  have hD := Drw.refl h
  have hF : Fr S.length S [] [] := fr_nil
  refine evA_intro tok Tryz.func132 (by kernel_rfl) rfl ?_
  repeat' ((conv => whnf) <;> first
   | rw [wrapI_i64 (by omega)] | refine cD (fun _ => ?_) fun _ => ?_ | refine cE (fun _ => ?_) fun _ => ?_ | refine cT ?_ | refine cF ?_ | refine cN (fun _ => ?_) fun _ => ?_ | refine cI (fun _ => ?_) fun _ => ?_ | refine nP ?_ | refine And.intro ?_ ?_)
  (conv => whnf)
  refine callP_intro (ev_l32Draw hD.cur) ?_; rintro _ Sn ⟨hDn, ts, hb, hnb, hts, c1, c2, c3, c4, c5, c6, rfl, hFn⟩
  have hsz0 : szL (newB 5 ts).d ≤ 50 := by
    have := szLL_max (f := GTab.d) (m := 14) (l := ts) fun t ht => by have := hts.2.2 t ht; have := tab_szD t; omega
    rw [newB_sz]; omega
  clear hF hD
  repeat' ((conv => whnf) <;> first
   | rw [wrapI_i64 (by omega)] | refine cD (fun _ => ?_) fun _ => ?_ | refine cE (fun _ => ?_) fun _ => ?_ | refine cT ?_ | refine cF ?_ | refine cN (fun _ => ?_) fun _ => ?_ | refine cI (fun _ => ?_) fun _ => ?_ | refine nP ?_ | refine And.intro ?_ ?_)
  refine loop_intro {q : (Nat × GBrowser) × Store × (C × C × C) // q.1.1 ≤ 2 ∧ Drw id S q.2.1 ∧ q.1.2.Key = 5 ∧ q.1.2.Now = 0 ∧ szL q.1.2.d ≤ 50 + 170 * q.1.1 ∧ Fr S.length q.2.1 q.1.2.d [.int .i64 5, c1, q.2.2.1, q.2.2.2.1, c4, q.2.2.2.2, c6, .int .i64 0]} [3, 4, 5, 8, 9, 10, 11, 12, 13, 14, 15, 16, 17, 18, 19, 20, 21, 22, 23, 24, 25, 26, 27, 28, 29, 30, 31, 32] (fun zb => [(4, .v (.s (.int .i64 (1 + (zb.1.1.1 : Nat))))), (3, .box [.int .i64 5, c1, zb.1.2.2.1, zb.1.2.2.2.1, c4, zb.1.2.2.2.2, c6, .int .i64 0])]) (fun zb => zb.1.2.1) (fun zb => 2 - zb.1.1.1) ⟨((0, newB 5 ts), _, (_, _, _)), by dsimp only; omega, hDn, rfl, rfl, by dsimp only; omega, hFn⟩ ?_ rfl ?_
  · (conv => whnf); repeat' (first | exact trivial | exact rfl | apply And.intro)
  rintro ⟨⟨⟨e, b⟩, Si, p2, p3, p5⟩, he, hP⟩; dsimp only
  clear hDn hFn
  replace he : e ≤ 2 := he
  obtain ⟨hD, hk5, hn0, hsz, hF⟩ : Drw id S Si ∧ b.Key = 5 ∧ b.Now = 0 ∧ szL b.d ≤ 50 + 170 * e ∧ Fr S.length Si b.d [.int .i64 5, c1, p2, p3, c4, p5, c6, .int .i64 0] := hP
  have hsz2 := br_szD b
  by_cases he3 : e < 2
  · obtain ⟨rows, hrl, hO⟩ := Fr.openAt (o := 2) hF rfl rfl
    repeat' ((conv => whnf) <;> first
     | rw [wrapI_i64 (by omega)] | (show CondP _ _ _; refine cS ?_) | refine cD (fun _ => ?_) fun _ => ?_ | refine cE (fun _ => ?_) fun _ => ?_ | refine cT ?_ | refine cF ?_ | refine cN (fun _ => ?_) fun _ => ?_ | refine cI (fun _ => ?_) fun _ => ?_ | refine nP ?_ | refine And.intro ?_ ?_)
    all_goals try (exfalso; omega)
    (conv => whnf)
    refine callP_intro (ev_l27Fine _ hD.cur) ?_; rintro _ S1 ⟨hDn, p, hpe, hzp, g3, g4, g5, g6, rfl, hFn⟩
    have hJ := hO.joinD hlt hDn hFn hD.len
    replace hD := hD.trans hDn
    clear hDn hFn hO hF
    have hrl2 : rows.length = b.Packs.length := by simpa using congrArg List.length hrl
    repeat' ((conv => whnf) <;> first
     | rw [wrapI_i64 (by omega)] | (show CondP _ _ _; refine cS ?_) | refine cD (fun _ => ?_) fun _ => ?_ | refine cE (fun _ => ?_) fun _ => ?_ | refine cT ?_ | refine cF ?_ | refine cN (fun _ => ?_) fun _ => ?_ | refine cI (fun _ => ?_) fun _ => ?_ | refine nP ?_ | refine And.intro ?_ ?_)
    all_goals try (exfalso; omega)
    (conv => whnf)
    refine dappAt (o := 2) (yd := [[.int .i64 p.Ext, .int .i64 p.Author, .int .i64 p.Version, g3, g4, g5, g6, .int .i64 p.Seal]].map (List.map D.x)) hD hJ rfl rfl (plain_rep2 _) (by intro y hy; obtain ⟨z, hz, rfl⟩ := List.mem_map.1 hy; rw [List.mem_singleton.1 hz]; rfl) (by dsimp only [T151, T170, T46]; simp only [List.length_map, List.length_singleton]; omega) (by simp only [List.length_map, List.length_singleton]; omega) ?_; intro cP SP hDP hFP
    have hlen : ∀ (a1 a2 a3 a4 a5 a6 a7 a8 : C) (b1 b2 b3 b4 b5 b6 b7 b8 : D), ([a1, a2, a3, a4, a5, a6, a7, a8] ++ rows.flatten).length = ([b1, b2, b3, b4, b5, b6, b7, b8] ++ (b.Packs.map GPackage.d).flatten).length := fun _ _ _ _ _ _ _ _ _ _ _ _ _ _ _ _ => by
      simp only [List.length_append, List.length_flatten, hrl, List.length_cons, List.length_nil]
    have hP1 : Fr S.length SP (([.x (.int .i64 b.Key), .sl 6 (b.Tabs.map GTab.d), .sl 8 (rows.map (List.map D.x) ++ [[.int .i64 p.Ext, .int .i64 p.Author, .int .i64 p.Version, g3, g4, g5, g6, .int .i64 p.Seal]].map (List.map D.x)), .sl 7 (b.Grants.map GGrant.d), .sl 4 (b.Limits.map GLimit.d), .sl 8 (b.Rules.map GRule.d), .sl 4 (b.Store.map GStored.d), .x (.int .i64 b.Now)] ++ (b.Packs.map GPackage.d).flatten) ++ p.d) (([.int .i64 5, c1, cP, p3, c4, p5, c6, .int .i64 0] ++ rows.flatten) ++ [.int .i64 p.Ext, .int .i64 p.Author, .int .i64 p.Version, g3, g4, g5, g6, .int .i64 p.Seal]) := hFP
    have rg : Rd SP [.sl 7 (p.Grants.map GGrant.d)] [g3] := (Fr.rest hP1 (hlen ..)).rdAt (o := 3) rfl rfl
    clear hFP hJ hD
    repeat' ((conv => whnf) <;> first
     | rw [wrapI_i64 (by omega)] | (show CondP _ _ _; refine cS ?_) | refine cD (fun _ => ?_) fun _ => ?_ | refine cE (fun _ => ?_) fun _ => ?_ | refine cT ?_ | refine cF ?_ | refine cN (fun _ => ?_) fun _ => ?_ | refine cI (fun _ => ?_) fun _ => ?_ | refine nP ?_ | (refine rd_elemsf (f := GGrant.d) (l := p.Grants) rg tv (fun _ => ?_)) | refine And.intro ?_ ?_)
    (conv => whnf)
    refine dappF (f := GGrant.d) (o := 3) (l := b.Grants) (m := p.Grants) (fun _ => trivial) hDP hP1 rfl rfl rfl (by intro _; rfl) (by dsimp only [T151, T170, T46]; omega) (by omega) ?_; intro cG SG hDG hFG
    have hG1 : Fr S.length SG (([.x (.int .i64 b.Key), .sl 6 (b.Tabs.map GTab.d), .sl 8 (rows.map (List.map D.x) ++ [[.int .i64 p.Ext, .int .i64 p.Author, .int .i64 p.Version, g3, g4, g5, g6, .int .i64 p.Seal]].map (List.map D.x)), .sl 7 ((b.Grants ++ p.Grants).map GGrant.d), .sl 4 (b.Limits.map GLimit.d), .sl 8 (b.Rules.map GRule.d), .sl 4 (b.Store.map GStored.d), .x (.int .i64 b.Now)] ++ (b.Packs.map GPackage.d).flatten) ++ p.d) (([.int .i64 5, c1, cP, cG, c4, p5, c6, .int .i64 0] ++ rows.flatten) ++ [.int .i64 p.Ext, .int .i64 p.Author, .int .i64 p.Version, g3, g4, g5, g6, .int .i64 p.Seal]) := hFG
    have rr : Rd SG [.sl 8 (p.Rules.map GRule.d)] [g5] := (Fr.rest hG1 (hlen ..)).rdAt (o := 5) rfl rfl
    clear hFG hP1 rg hDP
    repeat' ((conv => whnf) <;> first
     | rw [wrapI_i64 (by omega)] | (show CondP _ _ _; refine cS ?_) | refine cD (fun _ => ?_) fun _ => ?_ | refine cE (fun _ => ?_) fun _ => ?_ | refine cT ?_ | refine cF ?_ | refine cN (fun _ => ?_) fun _ => ?_ | refine cI (fun _ => ?_) fun _ => ?_ | refine nP ?_ | (refine rd_elemsf (f := GRule.d) (l := p.Rules) rr tv (fun _ => ?_)) | refine And.intro ?_ ?_)
    (conv => whnf)
    refine dappF (f := GRule.d) (o := 5) (l := b.Rules) (m := p.Rules) (fun _ => trivial) hDG hG1 rfl rfl rfl (by intro _; rfl) (by dsimp only [T151, T170, T46]; omega) (by omega) ?_; intro cR SR hDR hFR
    have hR1 : Fr S.length SR (([.x (.int .i64 b.Key), .sl 6 (b.Tabs.map GTab.d), .sl 8 (rows.map (List.map D.x) ++ [[.int .i64 p.Ext, .int .i64 p.Author, .int .i64 p.Version, g3, g4, g5, g6, .int .i64 p.Seal]].map (List.map D.x)), .sl 7 ((b.Grants ++ p.Grants).map GGrant.d), .sl 4 (b.Limits.map GLimit.d), .sl 8 ((b.Rules ++ p.Rules).map GRule.d), .sl 4 (b.Store.map GStored.d), .x (.int .i64 b.Now)] ++ (b.Packs.map GPackage.d).flatten) ++ p.d) (([.int .i64 5, c1, cP, cG, c4, cR, c6, .int .i64 0] ++ rows.flatten) ++ [.int .i64 p.Ext, .int .i64 p.Author, .int .i64 p.Version, g3, g4, g5, g6, .int .i64 p.Seal]) := hFR
    clear hFR hG1 rr hDG
    repeat' ((conv => whnf) <;> first
     | rw [wrapI_i64 (by omega)] | (show CondP _ _ _; refine cS ?_) | refine cD (fun _ => ?_) fun _ => ?_ | refine cE (fun _ => ?_) fun _ => ?_ | refine cT ?_ | refine cF ?_ | refine cN (fun _ => ?_) fun _ => ?_ | refine cI (fun _ => ?_) fun _ => ?_ | (refine callP_intro (ev_l1Below _ hD.cur) ?_; rintro _ Sn ⟨hDn, xn, hxn, rfl⟩; replace hF := hF.drw hlt hDn; replace hD := hD.trans hDn; clear hDn) | (refine callP_intro (ev_l27Fine _ hD.cur) ?_; rintro _ Sn ⟨hDn, pn, hen, hzn, _, _, _, _, rfl, hFn⟩; replace hF := hF.joinD hlt hDn hFn hD.len; replace hD := hD.trans hDn; clear hDn hFn) | (refine callP_intro (ev_l32Draw hD.cur) ?_; rintro _ Sn ⟨hDn, tn, htn, hbzn, hzn, _, _, _, _, _, _, rfl, hFn⟩; replace hF := hF.joinD hlt hDn hFn hD.len; replace hD := hD.trans hDn; clear hDn hFn) | (refine callP_intro (ev_l11List hD.cur) ?_; rintro _ Sn ⟨hDn, ln, hln, hzn, cn, rfl, hFn⟩; replace hF := hF.joinD hlt hDn hFn hD.len; replace hD := hD.trans hDn; clear hDn hFn) | refine nP ?_ | refine And.intro ?_ ?_)
    have e1 : ((b.Packs ++ [p]).map GPackage.d).flatten = (b.Packs.map GPackage.d).flatten ++ p.d := by simp
    have e2 : (rows ++ [[.int .i64 p.Ext, .int .i64 p.Author, .int .i64 p.Version, g3, g4, g5, g6, .int .i64 p.Seal]]).flatten = rows.flatten ++ [.int .i64 p.Ext, .int .i64 p.Author, .int .i64 p.Version, g3, g4, g5, g6, .int .i64 p.Seal] := by simp
    have hC := Fr.closeAt (o := 2) (k := 8) (ds := [.x (.int .i64 b.Key), .sl 6 (b.Tabs.map GTab.d), .sl 8 (rows.map (List.map D.x) ++ [[.int .i64 p.Ext, .int .i64 p.Author, .int .i64 p.Version, g3, g4, g5, g6, .int .i64 p.Seal]].map (List.map D.x)), .sl 7 ((b.Grants ++ p.Grants).map GGrant.d), .sl 4 (b.Limits.map GLimit.d), .sl 8 ((b.Rules ++ p.Rules).map GRule.d), .sl 4 (b.Store.map GStored.d), .x (.int .i64 b.Now)]) (cs := [.int .i64 5, c1, cP, cG, c4, cR, c6, .int .i64 0]) (xs := (b.Packs ++ [p]).map GPackage.d) (rows := rows ++ [[.int .i64 p.Ext, .int .i64 p.Author, .int .i64 p.Version, g3, g4, g5, g6, .int .i64 p.Seal]]) (c := cP) (by rw [e1, e2, ← List.append_assoc, ← List.append_assoc]; exact hR1) rfl (by rw [show (rows ++ [[.int .i64 p.Ext, .int .i64 p.Author, .int .i64 p.Version, g3, g4, g5, g6, .int .i64 p.Seal]]).map (List.map D.x) = rows.map (List.map D.x) ++ [[.int .i64 p.Ext, .int .i64 p.Author, .int .i64 p.Version, g3, g4, g5, g6, .int .i64 p.Seal]].map (List.map D.x) from List.map_append]; rfl) rfl (by rw [List.map_append, List.map_append, List.map_append, hrl]; rfl)
    refine ⟨⟨((e + 1, ⟨b.Key, b.Tabs, b.Packs ++ [p], b.Grants ++ p.Grants, b.Limits, b.Rules ++ p.Rules, b.Store, b.Now⟩), SR, (cP, cG, cR)), by dsimp only; omega, hDR, hk5, hn0, ?_, hC⟩, ?_, rfl, by dsimp only; omega⟩
    · have hq : szL.szLL ((b.Packs ++ [p]).map GPackage.d) = szL.szLL (b.Packs.map GPackage.d) + szL p.d := by rw [List.map_append, szLL_app, List.map_cons, List.map_nil, szL.szLL, szL.szLL]; omega
      have hs3 := pk_szD p
      dsimp only
      rw [br_szD]
      simp only [List.length_append, List.length_singleton, hq]
      omega
    · (conv => whnf); repeat' (first | exact trivial | exact rfl | (show _ = _; congr 3; dsimp only; omega) | apply And.intro)
  repeat' ((conv => whnf) <;> first
   | rw [wrapI_i64 (by omega)] | (show CondP _ _ _; refine cS ?_) | refine cD (fun _ => ?_) fun _ => ?_ | refine cE (fun _ => ?_) fun _ => ?_ | refine cT ?_ | refine cF ?_ | refine cN (fun _ => ?_) fun _ => ?_ | refine cI (fun _ => ?_) fun _ => ?_ | (refine callP_intro (ev_l1Below _ hD.cur) ?_; rintro _ Sn ⟨hDn, xn, hxn, rfl⟩; replace hF := hF.drw hlt hDn; replace hD := hD.trans hDn; clear hDn) | (refine callP_intro (ev_l27Fine _ hD.cur) ?_; rintro _ Sn ⟨hDn, pn, hen, hzn, _, _, _, _, rfl, hFn⟩; replace hF := hF.joinD hlt hDn hFn hD.len; replace hD := hD.trans hDn; clear hDn hFn) | (refine callP_intro (ev_l32Draw hD.cur) ?_; rintro _ Sn ⟨hDn, tn, htn, hbzn, hzn, _, _, _, _, _, _, rfl, hFn⟩; replace hF := hF.joinD hlt hDn hFn hD.len; replace hD := hD.trans hDn; clear hDn hFn) | (refine callP_intro (ev_l11List hD.cur) ?_; rintro _ Sn ⟨hDn, ln, hln, hzn, cn, rfl, hFn⟩; replace hF := hF.joinD hlt hDn hFn hD.len; replace hD := hD.trans hDn; clear hDn hFn) | refine nP ?_ | refine And.intro ?_ ?_)
  all_goals first
    | exact hD
    | (exfalso; omega)
    | skip
  have hq := (hF.putLast (o := 4) rfl (by show 4 < 8; decide)).setX (o := 7) (c' := .int .i64 xn) (by show 7 < 8; decide)
  refine ⟨⟨b.Key, b.Tabs, b.Packs, b.Grants, ln, b.Rules, b.Store, xn⟩, ?_, c1, p2, p3, cn, p5, c6, by dsimp only; rw [hk5]; rfl, by rw [← hk5] at hq; exact hq⟩
  have hs1 := br_szD b
  rw [br_szD]; dsimp only; omega
set_option maxHeartbeats 2000000 in
theorem ev_DrawValuesFor {S : Store} {c : C} (l : List Int) (hr : Rd S [.sl 1 (l.map dByte)] [c]) (hz : l.length ≤ 1048576) : EvA Tryz.prog 121 [.s c] S (fun r S' => Ext S S' ∧ ∃ (b : GBrowser) (e : Int) (v : List Int), szL b.d ≤ 500 ∧ v.length ≤ 5 ∧ ∃ c1 c2 c3 c4 c5 c6 d, r = .tup [.agg [.int .i64 b.Key, c1, c2, c3, c4, c5, c6, .int .i64 b.Now], .s (.int .i64 e), .s d] ∧ Fr S.length S' (b.d ++ [.sl 1 (v.map dInt)]) ([.int .i64 b.Key, c1, c2, c3, c4, c5, c6, .int .i64 b.Now] ++ [d])) := by
  refine evA_intro tok Tryz.func121 (by kernel_rfl) rfl ?_
  repeat' ((conv => whnf) <;> first
   | refine nP ?_ | refine draw_intro 14 [.fl 0, .fl 1, .fl 2, .st 3 [0, 1], .st 4 [1], .st 5 [], .st 6 []] (by rfl) (by kernel_rfl) ?_ | refine And.intro ?_ ?_)
  (conv => whnf)
  refine callP_intro (ev_l1New l hr hz) ?_; rintro _ S1 ⟨hE, h, rfl⟩
  have hlt := h.lt
  repeat' ((conv => whnf) <;> first
   | refine nP ?_ | refine draw_intro 14 [.fl 0, .fl 1, .fl 2, .st 3 [0, 1], .st 4 [1], .st 5 [], .st 6 []] (by rfl) (by kernel_rfl) ?_ | refine And.intro ?_ ?_)
  (conv => whnf)
  refine callP_intro (ev_l34Draw h) ?_; rintro _ S2 ⟨hD, b, hb, c1, c2, c3, c4, c5, c6, rfl, hF⟩
  repeat' ((conv => whnf) <;> first
   | (refine callP_intro (ev_l1New _ rdA om) ?_; rintro _ Sn ⟨hEn, hCn, rfl⟩) | (refine callP_intro (ev_l1Below _ hD.cur) ?_; rintro _ Sn ⟨hDn, xn, hxn, rfl⟩; replace hF := hF.drw hlt hDn; replace hD := hD.trans hDn; clear hDn) | (refine callP_intro (ev_l34Draw hD.cur) ?_; rintro _ Sn ⟨hDn, bn, hbn, _, _, _, _, _, _, rfl, hFn⟩; replace hF := hF.joinD hlt hDn hFn hD.len; replace hD := hD.trans hDn; clear hDn hFn) | (refine callP_intro (ev_l21Values hD.cur) ?_; rintro _ Sn ⟨hDn, ln, hzn, cn, rfl, hFn⟩; replace hF := hF.joinD hlt hDn hFn hD.len; replace hD := hD.trans hDn; clear hDn hFn) | refine nP ?_ | refine draw_intro 14 [.fl 0, .fl 1, .fl 2, .st 3 [0, 1], .st 4 [1], .st 5 [], .st 6 []] (by rfl) (by kernel_rfl) ?_ | refine And.intro ?_ ?_)
  all_goals first
    | exact drw_ext hE hD
    | exact ⟨b, _, _, hb, hzn, _, _, _, _, _, _, _, rfl, hF.mono hE.len⟩
set_option maxHeartbeats 2000000 in
theorem ev_DrawSentFrom {S : Store} {c : C} (l : List Int) (hr : Rd S [.sl 1 (l.map dByte)] [c]) (hz : l.length ≤ 1048576) : EvA Tryz.prog 22 [.s c] S (fun r S' => Ext S S' ∧ ∃ (b : GBrowser) (e : Int) (v : List Int), szL b.d ≤ 500 ∧ v.length ≤ 5 ∧ ∃ c1 c2 c3 c4 c5 c6 d, r = .tup [.agg [.int .i64 b.Key, c1, c2, c3, c4, c5, c6, .int .i64 b.Now], .s (.int .i64 e), .s d] ∧ Fr S.length S' (b.d ++ [.sl 1 (v.map dInt)]) ([.int .i64 b.Key, c1, c2, c3, c4, c5, c6, .int .i64 b.Now] ++ [d])) := by
  refine evA_intro tok Tryz.func22 (by kernel_rfl) rfl ?_
  repeat' ((conv => whnf) <;> first
   | (refine callP_intro (ev_DrawValuesFor _ rdA om) ?_; rintro _ Sn ⟨hEn, bn, en, vn, hbn, hvn, _, _, _, _, _, _, _, rfl, hFn⟩) | refine nP ?_ | refine And.intro ?_ ?_)
  all_goals first
    | exact hEn
    | exact ⟨_, _, _, hbn, hvn, _, _, _, _, _, _, _, rfl, hFn⟩
set_option maxHeartbeats 2000000 in
theorem ev_DrawAskPage {S : Store} {c : C} (l : List Int) (hr : Rd S [.sl 1 (l.map dByte)] [c]) (hz : l.length ≤ 1048576) : EvA Tryz.prog 29 [.s c] S (fun r S' => Ext S S' ∧ ∃ (b : GBrowser) (q : GRequest), szL b.d ≤ 500 ∧ isRequest q = true ∧ ∃ c1 c2 c3 c4 c5 c6, r = .tup [.agg [.int .i64 b.Key, c1, c2, c3, c4, c5, c6, .int .i64 b.Now], .agg q.c] ∧ Fr S.length S' b.d [.int .i64 b.Key, c1, c2, c3, c4, c5, c6, .int .i64 b.Now]) := by
  refine evA_intro tok Tryz.func29 (by kernel_rfl) rfl ?_
  repeat' ((conv => whnf) <;> first
   | refine nP ?_ | refine draw_intro 10 [.fl 0, .fl 1, .st 2 [0], .st 3 [], .st 4 []] (by rfl) (by kernel_rfl) ?_ | refine And.intro ?_ ?_)
  (conv => whnf)
  refine callP_intro (ev_l1New l hr hz) ?_; rintro _ S1 ⟨hE, h, rfl⟩
  have hlt := h.lt
  repeat' ((conv => whnf) <;> first
   | refine nP ?_ | refine draw_intro 10 [.fl 0, .fl 1, .st 2 [0], .st 3 [], .st 4 []] (by rfl) (by kernel_rfl) ?_ | refine And.intro ?_ ?_)
  (conv => whnf)
  refine callP_intro (ev_l34Draw h) ?_; rintro _ S2 ⟨hD, b, hb, c1, c2, c3, c4, c5, c6, rfl, hF⟩
  repeat' ((conv => whnf) <;> first
   | (refine callP_intro (ev_l1New _ rdA om) ?_; rintro _ Sn ⟨hEn, hCn, rfl⟩) | (refine callP_intro (ev_l34Draw hD.cur) ?_; rintro _ Sn ⟨hDn, bn, hbn, _, _, _, _, _, _, rfl, hFn⟩; replace hF := hF.joinD hlt hDn hFn hD.len; replace hD := hD.trans hDn; clear hDn hFn) | (refine callP_intro (ev_l13Request hD.cur) ?_; rintro _ Sn ⟨hDn, rn, hrn, rfl⟩; replace hF := hF.drw hlt hDn; replace hD := hD.trans hDn; clear hDn) | refine nP ?_ | refine draw_intro 10 [.fl 0, .fl 1, .st 2 [0], .st 3 [], .st 4 []] (by rfl) (by kernel_rfl) ?_ | refine And.intro ?_ ?_)
  all_goals first
    | exact drw_ext hE hD
    | exact ⟨b, _, hb, hrn, _, _, _, _, _, _, rfl, hF.mono hE.len⟩
end Go.Proofs.YtockphlpokoohaaGreat
namespace Go.Proofs.YtockphlpokoohaaGreat
open Go Go.ChangeShapes Go.WideShapes Go.ChangeAt Go.RowKit
set_option linter.unusedVariables false
set_option linter.unusedSimpArgs false
set_option maxRecDepth 100000
theorem eql_step {α : Type} {l m : List α} {i : Nat} (hi : i < l.length) (hm : i < m.length) (h : l.drop i = m.drop i ↔ l = m) : (l[i] = m[i] → (l.drop (i + 1) = m.drop (i + 1) ↔ l = m)) ∧ (l[i] ≠ m[i] → l ≠ m) := by
  rw [drop_at hi, drop_at hm, List.cons.injEq] at h
  exact ⟨fun e => ⟨fun g => h.1 ⟨e, g⟩, fun g => (h.2 g).2⟩, fun e g => e (h.2 g).1⟩
theorem eql_end {α : Type} {l m : List α} {i : Nat} (hi : l.length ≤ i) (hm : m.length ≤ i) (h : l.drop i = m.drop i ↔ l = m) : l = m := by
  rw [drop_end hi, drop_end hm] at h
  exact h.1 rfl
theorem GTab.ext_iff' (x y : GTab) : x = y ↔ (x.Site.Owner = y.Site.Owner ∧ x.Site.Sub = y.Site.Sub) ∧ x.Click = y.Click ∧ x.Base = y.Base ∧ x.Edits = y.Edits ∧ x.Hidden = y.Hidden := by
  obtain ⟨⟨a, b⟩, c, d, e, f⟩ := x; obtain ⟨⟨a', b'⟩, c', d', e', f'⟩ := y
  simp only [GTab.mk.injEq, GSite.mk.injEq]
  constructor <;> (intro h; simp_all)
theorem GPackage.ext_iff' (x y : GPackage) : x = y ↔ x.Ext = y.Ext ∧ x.Author = y.Author ∧ x.Version = y.Version ∧ x.Seal = y.Seal ∧ x.Grants = y.Grants ∧ x.Flows = y.Flows ∧ x.Rules = y.Rules ∧ x.Ops = y.Ops := by
  cases x; cases y
  simp only [GPackage.mk.injEq]
  constructor <;> (intro h; simp_all)
theorem GBrowser.ext_iff' (x y : GBrowser) : x = y ↔ x.Key = y.Key ∧ x.Now = y.Now ∧ x.Tabs = y.Tabs ∧ x.Packs = y.Packs ∧ x.Grants = y.Grants ∧ x.Limits = y.Limits ∧ x.Rules = y.Rules ∧ x.Store = y.Store := by
  cases x; cases y
  simp only [GBrowser.mk.injEq]
  constructor <;> (intro h; simp_all)
theorem GTab.dec (x y : GTab) : decide (x = y) = decide ((x.Site.Owner = y.Site.Owner ∧ x.Site.Sub = y.Site.Sub) ∧ x.Click = y.Click ∧ x.Base = y.Base ∧ x.Edits = y.Edits ∧ x.Hidden = y.Hidden) := decide_eq_decide.2 (GTab.ext_iff' x y)
theorem GPackage.dec (x y : GPackage) : decide (x = y) = decide (x.Ext = y.Ext ∧ x.Author = y.Author ∧ x.Version = y.Version ∧ x.Seal = y.Seal ∧ x.Grants = y.Grants ∧ x.Flows = y.Flows ∧ x.Rules = y.Rules ∧ x.Ops = y.Ops) := decide_eq_decide.2 (GPackage.ext_iff' x y)
theorem GBrowser.dec (x y : GBrowser) : decide (x = y) = decide (x.Key = y.Key ∧ x.Now = y.Now ∧ x.Tabs = y.Tabs ∧ x.Packs = y.Packs ∧ x.Grants = y.Grants ∧ x.Limits = y.Limits ∧ x.Rules = y.Rules ∧ x.Store = y.Store) := decide_eq_decide.2 (GBrowser.ext_iff' x y)
end Go.Proofs.YtockphlpokoohaaGreat
