/- A text of the proof. -/
import Derived.Test.YtockphlpokoohaaGreatKb36
import Derived.Test.YtockphlpokoohaaGreatKb38
import Derived.Test.YtockphlpokoohaaGreatKb33
namespace Go.Proofs.YtockphlpokoohaaGreat
open Go Go.ChangeShapes Go.WideShapes Go.ChangeAt Go.RowKit
set_option linter.unusedVariables false
set_option linter.unusedSimpArgs false
set_option maxRecDepth 100000
theorem pk_szD (p : GPackage) : szL p.d = p.Grants.length + (p.Flows.length + (p.Rules.length + p.Ops.length)) := by
  simp only [GPackage.d, szL, List.length_map]
  rw [szLL_flat (f := GGrant.d) (by intro x; simp only [szL, GGrant.d]), szLL_flat (f := GFlow.d) (by intro x; simp only [szL, GFlow.d]), szLL_flat (f := GRule.d) (by intro x; simp only [szL, GRule.d]), szLL_flat (f := GOp.d) (by intro x; simp only [szL, GOp.d])]
  omega
theorem fr_snocX {lo : Nat} {S : Store} {d : D} {c x : C} (h : Fr lo S [d] [c]) : Fr lo S [d, .x x] [c, x] := by
  obtain ⟨ids, h, hn, hl⟩ := h
  refine ⟨ids ++ [], h.append (ys := [.x x]) (cs' := [x]) (by rw [repL_cons]; exact ⟨x, [], [], [], rfl, rfl, by rw [rep_x]; exact ⟨rfl, rfl⟩, by rw [repL_nil]; exact ⟨rfl, rfl⟩⟩), by rw [List.append_nil]; exact hn, fun j hj => hl j (by simpa using hj)⟩
set_option maxHeartbeats 4000000 in
theorem ev_l26Draw {id : Nat} {S : Store} (ext : Int) (h : Cur id S) : EvA Tryz.prog 245 [.s (.pt id), .s (.int .i64 ext)] S (fun r S' => Drw id S S' ∧ ∃ p : GPackage, p.Ext = ext ∧ (p.Grants.length ≤ 3 ∧ p.Flows.length ≤ 3 ∧ p.Rules.length ≤ 2 ∧ p.Ops.length ≤ 9) ∧ ∃ c3 c4 c5 c6, r = .v (.agg [.int .i64 p.Ext, .int .i64 p.Author, .int .i64 p.Version, c3, c4, c5, c6, .int .i64 p.Seal]) ∧ Fr S.length S' p.d [.int .i64 p.Ext, .int .i64 p.Author, .int .i64 p.Version, c3, c4, c5, c6, .int .i64 p.Seal]) := by
  have hlt := h.lt
  have hD := Drw.refl h
  have hF : Fr S.length S [] [] := fr_nil
  refine evA_intro tok Tryz.func245 (by kernel_rfl) rfl ?_
  repeat' ((conv => whnf) <;> first
   | rw [wrapI_i64 (by omega)] | refine cD (fun _ => ?_) fun _ => ?_ | refine cE (fun _ => ?_) fun _ => ?_ | refine cT ?_ | refine cF ?_ | refine cN (fun _ => ?_) fun _ => ?_ | refine cI (fun _ => ?_) fun _ => ?_ | refine nP ?_ | refine And.intro ?_ ?_)
  (conv => whnf)
  refine callP_intro (ev_l1Below _ hD.cur) ?_; rintro _ S1 ⟨hDn, x1, hx1, rfl⟩
  replace hD := hD.trans hDn; clear hDn hF
  repeat' ((conv => whnf) <;> first
   | rw [wrapI_i64 (by omega)] | refine cD (fun _ => ?_) fun _ => ?_ | refine cE (fun _ => ?_) fun _ => ?_ | refine cT ?_ | refine cF ?_ | refine cN (fun _ => ?_) fun _ => ?_ | refine cI (fun _ => ?_) fun _ => ?_ | refine nP ?_ | refine And.intro ?_ ?_)
  (conv => whnf)
  refine callP_intro (ev_l1Below _ hD.cur) ?_; rintro _ S2 ⟨hDn, x2, hx2, rfl⟩
  replace hD := hD.trans hDn; clear hDn
  repeat' ((conv => whnf) <;> first
   | rw [wrapI_i64 (by omega)] | refine cD (fun _ => ?_) fun _ => ?_ | refine cE (fun _ => ?_) fun _ => ?_ | refine cT ?_ | refine cF ?_ | refine cN (fun _ => ?_) fun _ => ?_ | refine cI (fun _ => ?_) fun _ => ?_ | refine nP ?_ | refine And.intro ?_ ?_)
  (conv => whnf)
  refine callP_intro (ev_l21Ops hD.cur) ?_; rintro _ S3 ⟨hDn, ops, hops, hzo, co, rfl, hFn⟩
  have hF : Fr S.length S3 (GPackage.mk ext (1 + x1) (1 + x2) [] [] [] ops 0).d [.int .i64 ext, .int .i64 (1 + x1), .int .i64 (1 + x2), .nil, .nil, .nil, co, .int .i64 0] := fr_x (fr_x (fr_x (fr_slnil (fr_slnil (fr_slnil (fr_snocX (hFn.mono hD.len)))))))
  replace hD := hD.trans hDn; clear hDn hFn
  repeat' ((conv => whnf) <;> first
   | rw [wrapI_i64 (by omega)] | refine cD (fun _ => ?_) fun _ => ?_ | refine cE (fun _ => ?_) fun _ => ?_ | refine cT ?_ | refine cF ?_ | refine cN (fun _ => ?_) fun _ => ?_ | refine cI (fun _ => ?_) fun _ => ?_ | refine nP ?_ | refine And.intro ?_ ?_)
  (conv => whnf)
  refine callP_intro (ev_l1Below _ hD.cur) ?_; rintro _ T0 ⟨hDn, y0, hy0, rfl⟩
  replace hF := hF.drw hlt hDn
  replace hD := hD.trans hDn; clear hDn
  obtain ⟨n0, rfl⟩ := Int.eq_ofNat_of_zero_le hy0.1
  repeat' ((conv => whnf) <;> first
   | rw [wrapI_i64 (by omega)] | refine cD (fun _ => ?_) fun _ => ?_ | refine cE (fun _ => ?_) fun _ => ?_ | refine cT ?_ | refine cF ?_ | refine cN (fun _ => ?_) fun _ => ?_ | refine cI (fun _ => ?_) fun _ => ?_ | refine nP ?_ | refine And.intro ?_ ?_)
  refine loop_intro {q : (Nat × List GGrant) × Store × C // q.1.1 ≤ 3 ∧ Drw id S q.2.1 ∧ q.1.2.length + q.1.1 ≤ 3 ∧ Fr S.length q.2.1 (GPackage.mk ext (1 + x1) (1 + x2) q.1.2 [] [] ops 0).d [.int .i64 ext, .int .i64 (1 + x1), .int .i64 (1 + x2), q.2.2, .nil, .nil, co, .int .i64 0]} [5, 6, 7, 24, 25, 26, 27, 28, 29, 30, 31, 32, 33, 34, 35, 36, 37] (fun zb => [(6, .v (.s (.int .i64 (zb.1.1.1 : Nat)))), (5, .box [.int .i64 ext, .int .i64 (1 + x1), .int .i64 (1 + x2), zb.1.2.2, .nil, .nil, co, .int .i64 0])]) (fun zb => zb.1.2.1) (fun zb => zb.1.1.1) ⟨((n0, []), _, _), by have := hy0.2.2.1 (by omega); dsimp only; omega, hD, by have := hy0.2.2.1 (by omega); simp; omega, hF⟩ ?_ rfl ?_
  · (conv => whnf); repeat' (first | exact trivial | exact rfl | apply And.intro)
  rintro ⟨⟨⟨k, eds⟩, Si, ci⟩, hk, hP⟩; dsimp only
  clear hF hD hy0
  replace hk : k ≤ 3 := hk
  obtain ⟨hD, hle, hF⟩ : Drw id S Si ∧ eds.length + k ≤ 3 ∧ Fr S.length Si (GPackage.mk ext (1 + x1) (1 + x2) eds [] [] ops 0).d [.int .i64 ext, .int .i64 (1 + x1), .int .i64 (1 + x2), ci, .nil, .nil, co, .int .i64 0] := hP
  by_cases hk0 : 0 < k
  · repeat' ((conv => whnf) <;> first
     | rw [wrapI_i64 (by omega)] | (show CondP _ _ _; refine cS ?_) | refine cD (fun _ => ?_) fun _ => ?_ | refine cE (fun _ => ?_) fun _ => ?_ | refine cT ?_ | refine cF ?_ | refine cN (fun _ => ?_) fun _ => ?_ | refine cI (fun _ => ?_) fun _ => ?_ | (refine callP_intro (ev_l1Below _ hD.cur) ?_; rintro _ Sn ⟨hDn, xn, hxn, rfl⟩; replace hF := hF.drw hlt hDn; replace hD := hD.trans hDn; clear hDn) | (refine callP_intro (ev_sSealPackage _ _ _ _ rdcA (by (first | omega | exact sz_at hz om | (simp only [szL]; omega)))) ?_; rintro _ Sn ⟨hEn, _, _, _, _, rfl, hFn⟩) | (refine callP_intro (ev_l21Ops hD.cur) ?_; rintro _ Sn ⟨hDn, ln, hln, hzn, cn, rfl, hFn⟩; replace hF := hF.joinD hlt hDn hFn hD.len; replace hD := hD.trans hDn; clear hDn hFn) | (refine callP_intro (ev_l13Draw hD.cur) ?_; rintro _ Sn ⟨hDn, un, hun, rfl⟩; replace hF := hF.drw hlt hDn; replace hD := hD.trans hDn; clear hDn) | (refine callP_intro (ev_l20Draw hD.cur) ?_; rintro _ Sn ⟨hDn, fn, hfn, rfl⟩; replace hF := hF.drw hlt hDn; replace hD := hD.trans hDn; clear hDn) | (refine callP_intro (ev_l10Draw hD.cur) ?_; rintro _ Sn ⟨hDn, gn, hgn, rfl⟩; replace hF := hF.drw hlt hDn; replace hD := hD.trans hDn; clear hDn) | refine nP ?_ | (refine dappF (f := GGrant.d) (o := 3) (l := eds) (m := [⟨_, gn.Pattern, gn.Kind, gn.From, gn.Until, gn.Click⟩]) (fun _ => trivial) hD hF rfl rfl rfl rf (by dsimp only [T151, T170, T188]; simp only [List.length_singleton]; omega) (by simp only [List.length_singleton]; omega) ?_; intro cN SN hDN hFN) | refine And.intro ?_ ?_)
    all_goals try (exfalso; omega)
    refine ⟨⟨((k - 1, eds ++ [_]), SN, cN), by dsimp only; omega, hDN, by rw [List.length_append]; show eds.length + 1 + (k - 1) ≤ 3; omega, hFN⟩, ?_, rfl, by dsimp only; omega⟩
    (conv => whnf); repeat' (first | exact trivial | exact rfl | (show _ = _; congr 3; dsimp only; omega) | apply And.intro)
  repeat' ((conv => whnf) <;> first
   | rw [wrapI_i64 (by omega)] | (show CondP _ _ _; refine cS ?_) | refine cD (fun _ => ?_) fun _ => ?_ | refine cE (fun _ => ?_) fun _ => ?_ | refine cT ?_ | refine cF ?_ | refine cN (fun _ => ?_) fun _ => ?_ | refine cI (fun _ => ?_) fun _ => ?_ | refine nP ?_ | refine And.intro ?_ ?_)
  all_goals try (exfalso; omega)
  obtain ⟨l0, hl0⟩ : ∃ l, l = eds := ⟨_, rfl⟩
  obtain ⟨d0, hd0⟩ : ∃ d, d = ci := ⟨_, rfl⟩
  rw [← hl0] at hF hle
  rw [← hd0] at hF ⊢
  have hz0 : l0.length ≤ 3 := by omega
  clear hl0 hd0 hle hk0 hk
  (conv => whnf)
  refine callP_intro (ev_l1Below _ hD.cur) ?_; rintro _ T1 ⟨hDn, y1, hy1, rfl⟩
  replace hF := hF.drw hlt hDn
  replace hD := hD.trans hDn; clear hDn
  obtain ⟨n1, rfl⟩ := Int.eq_ofNat_of_zero_le hy1.1
  repeat' ((conv => whnf) <;> first
   | rw [wrapI_i64 (by omega)] | refine cD (fun _ => ?_) fun _ => ?_ | refine cE (fun _ => ?_) fun _ => ?_ | refine cT ?_ | refine cF ?_ | refine cN (fun _ => ?_) fun _ => ?_ | refine cI (fun _ => ?_) fun _ => ?_ | refine nP ?_ | refine And.intro ?_ ?_)
  refine loop_intro {q : (Nat × List GFlow) × Store × C // q.1.1 ≤ 3 ∧ Drw id S q.2.1 ∧ q.1.2.length + q.1.1 ≤ 3 ∧ Fr S.length q.2.1 (GPackage.mk ext (1 + x1) (1 + x2) l0 q.1.2 [] ops 0).d [.int .i64 ext, .int .i64 (1 + x1), .int .i64 (1 + x2), d0, q.2.2, .nil, co, .int .i64 0]} [5, 8, 9, 40, 41, 42, 43, 44, 45, 46, 47, 48, 49, 50, 51, 52, 53] (fun zb => [(8, .v (.s (.int .i64 (zb.1.1.1 : Nat)))), (5, .box [.int .i64 ext, .int .i64 (1 + x1), .int .i64 (1 + x2), d0, zb.1.2.2, .nil, co, .int .i64 0])]) (fun zb => zb.1.2.1) (fun zb => zb.1.1.1) ⟨((n1, []), _, _), by have := hy1.2.2.1 (by omega); dsimp only; omega, hD, by have := hy1.2.2.1 (by omega); simp; omega, hF⟩ ?_ rfl ?_
  · (conv => whnf); repeat' (first | exact trivial | exact rfl | apply And.intro)
  rintro ⟨⟨⟨k, eds⟩, Si, ci⟩, hk, hP⟩; dsimp only
  clear hF hD hy1
  replace hk : k ≤ 3 := hk
  obtain ⟨hD, hle, hF⟩ : Drw id S Si ∧ eds.length + k ≤ 3 ∧ Fr S.length Si (GPackage.mk ext (1 + x1) (1 + x2) l0 eds [] ops 0).d [.int .i64 ext, .int .i64 (1 + x1), .int .i64 (1 + x2), d0, ci, .nil, co, .int .i64 0] := hP
  by_cases hk0 : 0 < k
  · repeat' ((conv => whnf) <;> first
     | rw [wrapI_i64 (by omega)] | (show CondP _ _ _; refine cS ?_) | refine cD (fun _ => ?_) fun _ => ?_ | refine cE (fun _ => ?_) fun _ => ?_ | refine cT ?_ | refine cF ?_ | refine cN (fun _ => ?_) fun _ => ?_ | refine cI (fun _ => ?_) fun _ => ?_ | (refine callP_intro (ev_l1Below _ hD.cur) ?_; rintro _ Sn ⟨hDn, xn, hxn, rfl⟩; replace hF := hF.drw hlt hDn; replace hD := hD.trans hDn; clear hDn) | (refine callP_intro (ev_sSealPackage _ _ _ _ rdcA (by (first | omega | exact sz_at hz om | (simp only [szL]; omega)))) ?_; rintro _ Sn ⟨hEn, _, _, _, _, rfl, hFn⟩) | (refine callP_intro (ev_l21Ops hD.cur) ?_; rintro _ Sn ⟨hDn, ln, hln, hzn, cn, rfl, hFn⟩; replace hF := hF.joinD hlt hDn hFn hD.len; replace hD := hD.trans hDn; clear hDn hFn) | (refine callP_intro (ev_l13Draw hD.cur) ?_; rintro _ Sn ⟨hDn, un, hun, rfl⟩; replace hF := hF.drw hlt hDn; replace hD := hD.trans hDn; clear hDn) | (refine callP_intro (ev_l20Draw hD.cur) ?_; rintro _ Sn ⟨hDn, fn, hfn, rfl⟩; replace hF := hF.drw hlt hDn; replace hD := hD.trans hDn; clear hDn) | (refine callP_intro (ev_l10Draw hD.cur) ?_; rintro _ Sn ⟨hDn, gn, hgn, rfl⟩; replace hF := hF.drw hlt hDn; replace hD := hD.trans hDn; clear hDn) | refine nP ?_ | (refine dappF (f := GFlow.d) (o := 4) (l := eds) (m := [⟨_, fn.From, fn.To⟩]) (fun _ => trivial) hD hF rfl rfl rfl rf (by dsimp only [T151, T170, T188]; simp only [List.length_singleton]; omega) (by simp only [List.length_singleton]; omega) ?_; intro cN SN hDN hFN) | refine And.intro ?_ ?_)
    all_goals try (exfalso; omega)
    refine ⟨⟨((k - 1, eds ++ [_]), SN, cN), by dsimp only; omega, hDN, by rw [List.length_append]; show eds.length + 1 + (k - 1) ≤ 3; omega, hFN⟩, ?_, rfl, by dsimp only; omega⟩
    (conv => whnf); repeat' (first | exact trivial | exact rfl | (show _ = _; congr 3; dsimp only; omega) | apply And.intro)
  repeat' ((conv => whnf) <;> first
   | rw [wrapI_i64 (by omega)] | (show CondP _ _ _; refine cS ?_) | refine cD (fun _ => ?_) fun _ => ?_ | refine cE (fun _ => ?_) fun _ => ?_ | refine cT ?_ | refine cF ?_ | refine cN (fun _ => ?_) fun _ => ?_ | refine cI (fun _ => ?_) fun _ => ?_ | refine nP ?_ | refine And.intro ?_ ?_)
  all_goals try (exfalso; omega)
  obtain ⟨l1, hl1⟩ : ∃ l, l = eds := ⟨_, rfl⟩
  obtain ⟨d1, hd1⟩ : ∃ d, d = ci := ⟨_, rfl⟩
  rw [← hl1] at hF hle
  rw [← hd1] at hF ⊢
  have hz1 : l1.length ≤ 3 := by omega
  clear hl1 hd1 hle hk0 hk
  (conv => whnf)
  refine callP_intro (ev_l1Below _ hD.cur) ?_; rintro _ T2 ⟨hDn, y2, hy2, rfl⟩
  replace hF := hF.drw hlt hDn
  replace hD := hD.trans hDn; clear hDn
  obtain ⟨n2, rfl⟩ := Int.eq_ofNat_of_zero_le hy2.1
  repeat' ((conv => whnf) <;> first
   | rw [wrapI_i64 (by omega)] | refine cD (fun _ => ?_) fun _ => ?_ | refine cE (fun _ => ?_) fun _ => ?_ | refine cT ?_ | refine cF ?_ | refine cN (fun _ => ?_) fun _ => ?_ | refine cI (fun _ => ?_) fun _ => ?_ | refine nP ?_ | refine And.intro ?_ ?_)
  refine loop_intro {q : (Nat × List GRule) × Store × C // q.1.1 ≤ 2 ∧ Drw id S q.2.1 ∧ q.1.2.length + q.1.1 ≤ 2 ∧ Fr S.length q.2.1 (GPackage.mk ext (1 + x1) (1 + x2) l0 l1 q.1.2 ops 0).d [.int .i64 ext, .int .i64 (1 + x1), .int .i64 (1 + x2), d0, d1, q.2.2, co, .int .i64 0]} [5, 10, 11, 56, 57, 58, 59, 60, 61, 62, 63, 64, 65, 66, 67, 68, 69] (fun zb => [(10, .v (.s (.int .i64 (zb.1.1.1 : Nat)))), (5, .box [.int .i64 ext, .int .i64 (1 + x1), .int .i64 (1 + x2), d0, d1, zb.1.2.2, co, .int .i64 0])]) (fun zb => zb.1.2.1) (fun zb => zb.1.1.1) ⟨((n2, []), _, _), by have := hy2.2.2.1 (by omega); dsimp only; omega, hD, by have := hy2.2.2.1 (by omega); simp; omega, hF⟩ ?_ rfl ?_
  · (conv => whnf); repeat' (first | exact trivial | exact rfl | apply And.intro)
  rintro ⟨⟨⟨k, eds⟩, Si, ci⟩, hk, hP⟩; dsimp only
  clear hF hD hy2
  replace hk : k ≤ 2 := hk
  obtain ⟨hD, hle, hF⟩ : Drw id S Si ∧ eds.length + k ≤ 2 ∧ Fr S.length Si (GPackage.mk ext (1 + x1) (1 + x2) l0 l1 eds ops 0).d [.int .i64 ext, .int .i64 (1 + x1), .int .i64 (1 + x2), d0, d1, ci, co, .int .i64 0] := hP
  by_cases hk0 : 0 < k
  · repeat' ((conv => whnf) <;> first
     | rw [wrapI_i64 (by omega)] | (show CondP _ _ _; refine cS ?_) | refine cD (fun _ => ?_) fun _ => ?_ | refine cE (fun _ => ?_) fun _ => ?_ | refine cT ?_ | refine cF ?_ | refine cN (fun _ => ?_) fun _ => ?_ | refine cI (fun _ => ?_) fun _ => ?_ | (refine callP_intro (ev_l1Below _ hD.cur) ?_; rintro _ Sn ⟨hDn, xn, hxn, rfl⟩; replace hF := hF.drw hlt hDn; replace hD := hD.trans hDn; clear hDn) | (refine callP_intro (ev_sSealPackage _ _ _ _ rdcA (by (first | omega | exact sz_at hz om | (simp only [szL]; omega)))) ?_; rintro _ Sn ⟨hEn, _, _, _, _, rfl, hFn⟩) | (refine callP_intro (ev_l21Ops hD.cur) ?_; rintro _ Sn ⟨hDn, ln, hln, hzn, cn, rfl, hFn⟩; replace hF := hF.joinD hlt hDn hFn hD.len; replace hD := hD.trans hDn; clear hDn hFn) | (refine callP_intro (ev_l13Draw hD.cur) ?_; rintro _ Sn ⟨hDn, un, hun, rfl⟩; replace hF := hF.drw hlt hDn; replace hD := hD.trans hDn; clear hDn) | (refine callP_intro (ev_l20Draw hD.cur) ?_; rintro _ Sn ⟨hDn, fn, hfn, rfl⟩; replace hF := hF.drw hlt hDn; replace hD := hD.trans hDn; clear hDn) | (refine callP_intro (ev_l10Draw hD.cur) ?_; rintro _ Sn ⟨hDn, gn, hgn, rfl⟩; replace hF := hF.drw hlt hDn; replace hD := hD.trans hDn; clear hDn) | refine nP ?_ | (refine dappF (f := GRule.d) (o := 5) (l := eds) (m := [⟨_, un.Prio, un.Pattern, un.Sort', un.Action, un.To⟩]) (fun _ => trivial) hD hF rfl rfl rfl rf (by dsimp only [T151, T170, T188]; simp only [List.length_singleton]; omega) (by simp only [List.length_singleton]; omega) ?_; intro cN SN hDN hFN) | refine And.intro ?_ ?_)
    all_goals try (exfalso; omega)
    refine ⟨⟨((k - 1, eds ++ [_]), SN, cN), by dsimp only; omega, hDN, by rw [List.length_append]; show eds.length + 1 + (k - 1) ≤ 2; omega, hFN⟩, ?_, rfl, by dsimp only; omega⟩
    (conv => whnf); repeat' (first | exact trivial | exact rfl | (show _ = _; congr 3; dsimp only; omega) | apply And.intro)
  repeat' ((conv => whnf) <;> first
   | rw [wrapI_i64 (by omega)] | (show CondP _ _ _; refine cS ?_) | refine cD (fun _ => ?_) fun _ => ?_ | refine cE (fun _ => ?_) fun _ => ?_ | refine cT ?_ | refine cF ?_ | refine cN (fun _ => ?_) fun _ => ?_ | refine cI (fun _ => ?_) fun _ => ?_ | refine nP ?_ | refine And.intro ?_ ?_)
  all_goals try (exfalso; omega)
  obtain ⟨l2, hl2⟩ : ∃ l, l = eds := ⟨_, rfl⟩
  obtain ⟨d2, hd2⟩ : ∃ d, d = ci := ⟨_, rfl⟩
  rw [← hl2] at hF hle
  rw [← hd2] at hF ⊢
  have hz2 : l2.length ≤ 2 := by omega
  clear hl2 hd2 hle hk0 hk
  (conv => whnf)
  refine callP_intro (ev_sSealPackage 5 (GPackage.mk ext (1 + x1) (1 + x2) l0 l1 l2 ops 0) _ _ hF.rd (by rw [pk_szD]; dsimp only; omega)) ?_; rintro _ S9 ⟨e9, g3, g4, g5, g6, rfl, f9⟩
  have hF9 := f9.mono hD.len
  replace hD := hD.ext e9
  repeat' ((conv => whnf) <;> first
   | rw [wrapI_i64 (by omega)] | (show CondP _ _ _; refine cS ?_) | refine cD (fun _ => ?_) fun _ => ?_ | refine cE (fun _ => ?_) fun _ => ?_ | refine cT ?_ | refine cF ?_ | refine cN (fun _ => ?_) fun _ => ?_ | refine cI (fun _ => ?_) fun _ => ?_ | (refine callP_intro (ev_l1Below _ hD.cur) ?_; rintro _ Sn ⟨hDn, xn, hxn, rfl⟩; replace hF := hF.drw hlt hDn; replace hD := hD.trans hDn; clear hDn) | (refine callP_intro (ev_sSealPackage _ _ _ _ rdcA (by (first | omega | exact sz_at hz om | (simp only [szL]; omega)))) ?_; rintro _ Sn ⟨hEn, _, _, _, _, rfl, hFn⟩) | (refine callP_intro (ev_l21Ops hD.cur) ?_; rintro _ Sn ⟨hDn, ln, hln, hzn, cn, rfl, hFn⟩; replace hF := hF.joinD hlt hDn hFn hD.len; replace hD := hD.trans hDn; clear hDn hFn) | (refine callP_intro (ev_l13Draw hD.cur) ?_; rintro _ Sn ⟨hDn, un, hun, rfl⟩; replace hF := hF.drw hlt hDn; replace hD := hD.trans hDn; clear hDn) | (refine callP_intro (ev_l20Draw hD.cur) ?_; rintro _ Sn ⟨hDn, fn, hfn, rfl⟩; replace hF := hF.drw hlt hDn; replace hD := hD.trans hDn; clear hDn) | (refine callP_intro (ev_l10Draw hD.cur) ?_; rintro _ Sn ⟨hDn, gn, hgn, rfl⟩; replace hF := hF.drw hlt hDn; replace hD := hD.trans hDn; clear hDn) | refine nP ?_ | refine And.intro ?_ ?_)
  all_goals first
    | exact hD
    | exact ⟨sealed 5 (GPackage.mk ext (1 + x1) (1 + x2) l0 l1 l2 ops 0), rfl, ⟨hz0, hz1, hz2, hzo⟩, g3, g4, g5, g6, rfl, hF9⟩
end Go.Proofs.YtockphlpokoohaaGreat
