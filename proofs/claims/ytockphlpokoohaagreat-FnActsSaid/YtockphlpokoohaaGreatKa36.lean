/- A text of the proof. A text of the proof. -/
import Derived.Test.YtockphlpokoohaaGreatKa31
import Derived.Test.YtockphlpokoohaaGreatKa33
import Derived.Test.YtockphlpokoohaaGreatKa27
import Derived.Test.YtockphlpokoohaaGreatKa35
namespace Go.Proofs.YtockphlpokoohaaGreat
open Go Go.ChangeShapes Go.WideShapes Go.ChangeAt Go.RowKit
set_option linter.unusedVariables false
set_option linter.unusedSimpArgs false
set_option maxRecDepth 100000
theorem pk_szD (p : GPackage) : szL p.d = p.Grants.length + (p.Flows.length + (p.Rules.length + p.Ops.length)) := by
  simp only [GPackage.d, szL, List.length_map]
  rw [szLL_flat (f := GGrant.d) (by intro x; simp only [szL, GGrant.d]), szLL_flat (f := GFlow.d) (by intro x; simp only [szL, GFlow.d]), szLL_flat (f := GRule.d) (by intro x; simp only [szL, GRule.d]), szLL_flat (f := GOp.d) (by intro x; simp only [szL, GOp.d])]
  omega
theorem fr_snocX {lo : Nat} {S : Store} {d : D} {c x : C} (h : Fr lo S [d] [c]) : Fr lo S [d, .x x] [c, x] := by
  obtain ⟨ids, h, hn, hl⟩ := h
  refine ⟨ids ++ [], h.append (ys := [.x x]) (cs' := [x]) (by rw [repL_cons]; exact ⟨x, [], [], [], rfl, rfl, by rw [rep_x]; exact ⟨rfl, rfl⟩, by rw [repL_nil]; exact ⟨rfl, rfl⟩⟩), by rw [List.append_nil]; exact hn, fun j hj => hl j (by simpa using hj)⟩
set_option maxHeartbeats 4000000 in
theorem ev_l26Draw {id : Nat} {S : Store} (ext : Int) (h : Cur id S) : EvA Tryz.prog 245 [.s (.pt id), .s (.int .i64 ext)] S (fun r S' => Drw id S S' ∧ ∃ p : GPackage, p.Ext = ext ∧ (p.Grants.length ≤ 3 ∧ p.Flows.length ≤ 3 ∧ p.Rules.length ≤ 2 ∧ p.Ops.length ≤ 9) ∧ ∃ c3 c4 c5 c6, r = .v (.agg [.int .i64 p.Ext, .int .i64 p.Author, .int .i64 p.Version, c3, c4, c5, c6, .int .i64 p.Seal]) ∧ Fr S.length S' p.d [.int .i64 p.Ext, .int .i64 p.Author, .int .i64 p.Version, c3, c4, c5, c6, .int .i64 p.Seal]) := by
  have hlt := h.lt
  have hD := Drw.refl h
  have hF : Fr S.length S [] [] := fr_nil
  refine evA_intro tok Tryz.func245 (by kernel_rfl) rfl ?_
  repeat' ((conv => whnf) <;> first
   | rw [wrapI_i64 (by omega)] | refine cD (fun _ => ?_) fun _ => ?_ | refine cE (fun _ => ?_) fun _ => ?_ | refine cT ?_ | refine cF ?_ | refine cN (fun _ => ?_) fun _ => ?_ | refine cI (fun _ => ?_) fun _ => ?_ | refine nP ?_ | refine And.intro ?_ ?_)
  (conv => whnf)
  refine callP_intro (ev_l1Below _ hD.cur) ?_; rintro _ S1 ⟨hDn, x1, hx1, rfl⟩
  replace hD := hD.trans hDn; clear hDn hF
  repeat' ((conv => whnf) <;> first
   | rw [wrapI_i64 (by omega)] | refine cD (fun _ => ?_) fun _ => ?_ | refine cE (fun _ => ?_) fun _ => ?_ | refine cT ?_ | refine cF ?_ | refine cN (fun _ => ?_) fun _ => ?_ | refine cI (fun _ => ?_) fun _ => ?_ | refine nP ?_ | refine And.intro ?_ ?_)
  (conv => whnf)
  refine callP_intro (ev_l1Below _ hD.cur) ?_; rintro _ S2 ⟨hDn, x2, hx2, rfl⟩
  replace hD := hD.trans hDn; clear hDn
  repeat' ((conv => whnf) <;> first
   | rw [wrapI_i64 (by omega)] | refine cD (fun _ => ?_) fun _ => ?_ | refine cE (fun _ => ?_) fun _ => ?_ | refine cT ?_ | refine cF ?_ | refine cN (fun _ => ?_) fun _ => ?_ | refine cI (fun _ => ?_) fun _ => ?_ | refine nP ?_ | refine And.intro ?_ ?_)
  (conv => whnf)
  refine callP_intro (ev_l21Ops hD.cur) ?_; rintro _ S3 ⟨hDn, ops, hops, hzo, co, rfl, hFn⟩
  have hF : Fr S.length S3 (GPackage.mk ext (1 + x1) (1 + x2) [] [] [] ops 0).d [.int .i64 ext, .int .i64 (1 + x1), .int .i64 (1 + x2), .nil, .nil, .nil, co, .int .i64 0] := fr_x (fr_x (fr_x (fr_slnil (fr_slnil (fr_slnil (fr_snocX (hFn.mono hD.len)))))))
  replace hD := hD.trans hDn; clear hDn hFn
  repeat' ((conv => whnf) <;> first
   | rw [wrapI_i64 (by omega)] | refine cD (fun _ => ?_) fun _ => ?_ | refine cE (fun _ => ?_) fun _ => ?_ | refine cT ?_ | refine cF ?_ | refine cN (fun _ => ?_) fun _ => ?_ | refine cI (fun _ => ?_) fun _ => ?_ | refine nP ?_ | refine And.intro ?_ ?_)
  (conv => whnf)
  refine callP_intro (ev_l1Below _ hD.cur) ?_; rintro _ T0 ⟨hDn, y0, hy0, rfl⟩
  replace hF := hF.drw hlt hDn
  replace hD := hD.trans hDn; clear hDn
  obtain ⟨n0, rfl⟩ := Int.eq_ofNat_of_zero_le hy0.1
  repeat' ((conv => whnf) <;> first
   | rw [wrapI_i64 (by omega)] | refine cD (fun _ => ?_) fun _ => ?_ | refine cE (fun _ => ?_) fun _ => ?_ | refine cT ?_ | refine cF ?_ | refine cN (fun _ => ?_) fun _ => ?_ | refine cI (fun _ => ?_) fun _ => ?_ | refine nP ?_ | refine And.intro ?_ ?_)
  refine loop_intro {q : (Nat × List GGrant) × Store × C // q.1.1 ≤ 3 ∧ Drw id S q.2.1 ∧ q.1.2.length + q.1.1 ≤ 3 ∧ Fr S.length q.2.1 (GPackage.mk ext (1 + x1) (1 + x2) q.1.2 [] [] ops 0).d [.int .i64 ext, .int .i64 (1 + x1), .int .i64 (1 + x2), q.2.2, .nil, .nil, co, .int .i64 0]} [5, 6, 7, 24, 25, 26, 27, 28, 29, 30, 31, 32, 33, 34, 35, 36, 37] (fun zb => [(6, .v (.s (.int .i64 (zb.1.1.1 : Nat)))), (5, .box [.int .i64 ext, .int .i64 (1 + x1), .int .i64 (1 + x2), zb.1.2.2, .nil, .nil, co, .int .i64 0])]) (fun zb => zb.1.2.1) (fun zb => zb.1.1.1) ⟨((n0, []), _, _), by have := hy0.2.2.1 (by omega); dsimp only; omega, hD, by have := hy0.2.2.1 (by omega); simp; omega, hF⟩ ?_ rfl ?_
  · (conv => whnf); repeat' (first | exact trivial | exact rfl | apply And.intro)
  rintro ⟨⟨⟨k, eds⟩, Si, ci⟩, hk, hP⟩; dsimp only
  clear hF hD hy0
  replace hk : k ≤ 3 := hk
  obtain ⟨hD, hle, hF⟩ : Drw id S Si ∧ eds.length + k ≤ 3 ∧ Fr S.length Si (GPackage.mk ext (1 + x1) (1 + x2) eds [] [] ops 0).d [.int .i64 ext, .int .i64 (1 + x1), .int .i64 (1 + x2), ci, .nil, .nil, co, .int .i64 0] := hP
  by_cases hk0 : 0 < k
  · repeat' ((conv => whnf) <;> first
     | rw [wrapI_i64 (by omega)] | (show CondP _ _ _; refine cS ?_) | refine cD (fun _ => ?_) fun _ => ?_ | refine cE (fun _ => ?_) fun _ => ?_ | refine cT ?_ | refine cF ?_ | refine cN (fun _ => ?_) fun _ => ?_ | refine cI (fun _ => ?_) fun _ => ?_ | (refine callP_intro (ev_l1Below _ hD.cur) ?_; rintro _ Sn ⟨hDn, xn, hxn, rfl⟩; replace hF := hF.drw hlt hDn; replace hD := hD.trans hDn; clear hDn) | (refine callP_intro (ev_sSealPackage _ _ _ _ rdcA (by (first | omega | exact sz_at hz om | (simp only [szL]; omega)))) ?_; rintro _ Sn ⟨hEn, _, _, _, _, rfl, hFn⟩) | (refine callP_intro (ev_l21Ops hD.cur) ?_; rintro _ Sn ⟨hDn, ln, hln, hzn, cn, rfl, hFn⟩; replace hF := hF.joinD hlt hDn hFn hD.len; replace hD := hD.trans hDn; clear hDn hFn) | (refine callP_intro (ev_l13Draw hD.cur) ?_; rintro _ Sn ⟨hDn, un, hun, rfl⟩; replace hF := hF.drw hlt hDn; replace hD := hD.trans hDn; clear hDn) | (refine callP_intro (ev_l20Draw hD.cur) ?_; rintro _ Sn ⟨hDn, fn, hfn, rfl⟩; replace hF := hF.drw hlt hDn; replace hD := hD.trans hDn; clear hDn) | (refine callP_intro (ev_l10Draw hD.cur) ?_; rintro _ Sn ⟨hDn, gn, hgn, rfl⟩; replace hF := hF.drw hlt hDn; replace hD := hD.trans hDn; clear hDn) | refine nP ?_ | (refine dappF (f := GGrant.d) (o := 3) (l := eds) (m := [⟨_, gn.Pattern, gn.Kind, gn.From, gn.Until, gn.Click⟩]) (fun _ => trivial) hD hF rfl rfl rfl rf (by dsimp only [T151, T170, T188]; simp only [List.length_singleton]; omega) (by simp only [List.length_singleton]; omega) ?_; intro cN SN hDN hFN) | refine And.intro ?_ ?_)
    all_goals try (exfalso; omega)
    refine ⟨⟨((k - 1, eds ++ [_]), SN, cN), by dsimp only; omega, hDN, by rw [List.length_append]; show eds.length + 1 + (k - 1) ≤ 3; omega, hFN⟩, ?_, rfl, by dsimp only; omega⟩
    (conv => whnf); repeat' (first | exact trivial | exact rfl | (show _ = _; congr 3; dsimp only; omega) | apply And.intro)
  repeat' ((conv => whnf) <;> first
   | rw [wrapI_i64 (by omega)] | (show CondP _ _ _; refine cS ?_) | refine cD (fun _ => ?_) fun _ => ?_ | refine cE (fun _ => ?_) fun _ => ?_ | refine cT ?_ | refine cF ?_ | refine cN (fun _ => ?_) fun _ => ?_ | refine cI (fun _ => ?_) fun _ => ?_ | refine nP ?_ | refine And.intro ?_ ?_)
  all_goals try (exfalso; omega)
  obtain ⟨l0, hl0⟩ : ∃ l, l = eds := ⟨_, rfl⟩
  obtain ⟨d0, hd0⟩ : ∃ d, d = ci := ⟨_, rfl⟩
  rw [← hl0] at hF hle
  rw [← hd0] at hF ⊢
  have hz0 : l0.length ≤ 3 := by omega
  clear hl0 hd0 hle hk0 hk
  (conv => whnf)
  refine callP_intro (ev_l1Below _ hD.cur) ?_; rintro _ T1 ⟨hDn, y1, hy1, rfl⟩
  replace hF := hF.drw hlt hDn
  replace hD := hD.trans hDn; clear hDn
  obtain ⟨n1, rfl⟩ := Int.eq_ofNat_of_zero_le hy1.1
  repeat' ((conv => whnf) <;> first
   | rw [wrapI_i64 (by omega)] | refine cD (fun _ => ?_) fun _ => ?_ | refine cE (fun _ => ?_) fun _ => ?_ | refine cT ?_ | refine cF ?_ | refine cN (fun _ => ?_) fun _ => ?_ | refine cI (fun _ => ?_) fun _ => ?_ | refine nP ?_ | refine And.intro ?_ ?_)
  refine loop_intro {q : (Nat × List GFlow) × Store × C // q.1.1 ≤ 3 ∧ Drw id S q.2.1 ∧ q.1.2.length + q.1.1 ≤ 3 ∧ Fr S.length q.2.1 (GPackage.mk ext (1 + x1) (1 + x2) l0 q.1.2 [] ops 0).d [.int .i64 ext, .int .i64 (1 + x1), .int .i64 (1 + x2), d0, q.2.2, .nil, co, .int .i64 0]} [5, 8, 9, 40, 41, 42, 43, 44, 45, 46, 47, 48, 49, 50, 51, 52, 53] (fun zb => [(8, .v (.s (.int .i64 (zb.1.1.1 : Nat)))), (5, .box [.int .i64 ext, .int .i64 (1 + x1), .int .i64 (1 + x2), d0, zb.1.2.2, .nil, co, .int .i64 0])]) (fun zb => zb.1.2.1) (fun zb => zb.1.1.1) ⟨((n1, []), _, _), by have := hy1.2.2.1 (by omega); dsimp only; omega, hD, by have := hy1.2.2.1 (by omega); simp; omega, hF⟩ ?_ rfl ?_
  · (conv => whnf); repeat' (first | exact trivial | exact rfl | apply And.intro)
  rintro ⟨⟨⟨k, eds⟩, Si, ci⟩, hk, hP⟩; dsimp only
  clear hF hD hy1
  replace hk : k ≤ 3 := hk
  obtain ⟨hD, hle, hF⟩ : Drw id S Si ∧ eds.length + k ≤ 3 ∧ Fr S.length Si (GPackage.mk ext (1 + x1) (1 + x2) l0 eds [] ops 0).d [.int .i64 ext, .int .i64 (1 + x1), .int .i64 (1 + x2), d0, ci, .nil, co, .int .i64 0] := hP
  by_cases hk0 : 0 < k
  · repeat' ((conv => whnf) <;> first
     | rw [wrapI_i64 (by omega)] | (show CondP _ _ _; refine cS ?_) | refine cD (fun _ => ?_) fun _ => ?_ | refine cE (fun _ => ?_) fun _ => ?_ | refine cT ?_ | refine cF ?_ | refine cN (fun _ => ?_) fun _ => ?_ | refine cI (fun _ => ?_) fun _ => ?_ | (refine callP_intro (ev_l1Below _ hD.cur) ?_; rintro _ Sn ⟨hDn, xn, hxn, rfl⟩; replace hF := hF.drw hlt hDn; replace hD := hD.trans hDn; clear hDn) | (refine callP_intro (ev_sSealPackage _ _ _ _ rdcA (by (first | omega | exact sz_at hz om | (simp only [szL]; omega)))) ?_; rintro _ Sn ⟨hEn, _, _, _, _, rfl, hFn⟩) | (refine callP_intro (ev_l21Ops hD.cur) ?_; rintro _ Sn ⟨hDn, ln, hln, hzn, cn, rfl, hFn⟩; replace hF := hF.joinD hlt hDn hFn hD.len; replace hD := hD.trans hDn; clear hDn hFn) | (refine callP_intro (ev_l13Draw hD.cur) ?_; rintro _ Sn ⟨hDn, un, hun, rfl⟩; replace hF := hF.drw hlt hDn; replace hD := hD.trans hDn; clear hDn) | (refine callP_intro (ev_l20Draw hD.cur) ?_; rintro _ Sn ⟨hDn, fn, hfn, rfl⟩; replace hF := hF.drw hlt hDn; replace hD := hD.trans hDn; clear hDn) | (refine callP_intro (ev_l10Draw hD.cur) ?_; rintro _ Sn ⟨hDn, gn, hgn, rfl⟩; replace hF := hF.drw hlt hDn; replace hD := hD.trans hDn; clear hDn) | refine nP ?_ | (refine dappF (f := GFlow.d) (o := 4) (l := eds) (m := [⟨_, fn.From, fn.To⟩]) (fun _ => trivial) hD hF rfl rfl rfl rf (by dsimp only [T151, T170, T188]; simp only [List.length_singleton]; omega) (by simp only [List.length_singleton]; omega) ?_; intro cN SN hDN hFN) | refine And.intro ?_ ?_)
    all_goals try (exfalso; omega)
    refine ⟨⟨((k - 1, eds ++ [_]), SN, cN), by dsimp only; omega, hDN, by rw [List.length_append]; show eds.length + 1 + (k - 1) ≤ 3; omega, hFN⟩, ?_, rfl, by dsimp only; omega⟩
    (conv => whnf); repeat' (first | exact trivial | exact rfl | (show _ = _; congr 3; dsimp only; omega) | apply And.intro)
  repeat' ((conv => whnf) <;> first
   | rw [wrapI_i64 (by omega)] | (show CondP _ _ _; refine cS ?_) | refine cD (fun _ => ?_) fun _ => ?_ | refine cE (fun _ => ?_) fun _ => ?_ | refine cT ?_ | refine cF ?_ | refine cN (fun _ => ?_) fun _ => ?_ | refine cI (fun _ => ?_) fun _ => ?_ | refine nP ?_ | refine And.intro ?_ ?_)
  all_goals try (exfalso; omega)
  obtain ⟨l1, hl1⟩ : ∃ l, l = eds := ⟨_, rfl⟩
  obtain ⟨d1, hd1⟩ : ∃ d, d = ci := ⟨_, rfl⟩
  rw [← hl1] at hF hle
  rw [← hd1] at hF ⊢
  have hz1 : l1.length ≤ 3 := by omega
  clear hl1 hd1 hle hk0 hk
  (conv => whnf)
  refine callP_intro (ev_l1Below _ hD.cur) ?_; rintro _ T2 ⟨hDn, y2, hy2, rfl⟩
  replace hF := hF.drw hlt hDn
  replace hD := hD.trans hDn; clear hDn
  obtain ⟨n2, rfl⟩ := Int.eq_ofNat_of_zero_le hy2.1
  repeat' ((conv => whnf) <;> first
   | rw [wrapI_i64 (by omega)] | refine cD (fun _ => ?_) fun _ => ?_ | refine cE (fun _ => ?_) fun _ => ?_ | refine cT ?_ | refine cF ?_ | refine cN (fun _ => ?_) fun _ => ?_ | refine cI (fun _ => ?_) fun _ => ?_ | refine nP ?_ | refine And.intro ?_ ?_)
  refine loop_intro {q : (Nat × List GRule) × Store × C // q.1.1 ≤ 2 ∧ Drw id S q.2.1 ∧ q.1.2.length + q.1.1 ≤ 2 ∧ Fr S.length q.2.1 (GPackage.mk ext (1 + x1) (1 + x2) l0 l1 q.1.2 ops 0).d [.int .i64 ext, .int .i64 (1 + x1), .int .i64 (1 + x2), d0, d1, q.2.2, co, .int .i64 0]} [5, 10, 11, 56, 57, 58, 59, 60, 61, 62, 63, 64, 65, 66, 67, 68, 69] (fun zb => [(10, .v (.s (.int .i64 (zb.1.1.1 : Nat)))), (5, .box [.int .i64 ext, .int .i64 (1 + x1), .int .i64 (1 + x2), d0, d1, zb.1.2.2, co, .int .i64 0])]) (fun zb => zb.1.2.1) (fun zb => zb.1.1.1) ⟨((n2, []), _, _), by have := hy2.2.2.1 (by omega); dsimp only; omega, hD, by have := hy2.2.2.1 (by omega); simp; omega, hF⟩ ?_ rfl ?_
  · (conv => whnf); repeat' (first | exact trivial | exact rfl | apply And.intro)
  rintro ⟨⟨⟨k, eds⟩, Si, ci⟩, hk, hP⟩; dsimp only
  clear hF hD hy2
  replace hk : k ≤ 2 := hk
  obtain ⟨hD, hle, hF⟩ : Drw id S Si ∧ eds.length + k ≤ 2 ∧ Fr S.length Si (GPackage.mk ext (1 + x1) (1 + x2) l0 l1 eds ops 0).d [.int .i64 ext, .int .i64 (1 + x1), .int .i64 (1 + x2), d0, d1, ci, co, .int .i64 0] := hP
  by_cases hk0 : 0 < k
  · repeat' ((conv => whnf) <;> first
     | rw [wrapI_i64 (by omega)] | (show CondP _ _ _; refine cS ?_) | refine cD (fun _ => ?_) fun _ => ?_ | refine cE (fun _ => ?_) fun _ => ?_ | refine cT ?_ | refine cF ?_ | refine cN (fun _ => ?_) fun _ => ?_ | refine cI (fun _ => ?_) fun _ => ?_ | (refine callP_intro (ev_l1Below _ hD.cur) ?_; rintro _ Sn ⟨hDn, xn, hxn, rfl⟩; replace hF := hF.drw hlt hDn; replace hD := hD.trans hDn; clear hDn) | (refine callP_intro (ev_sSealPackage _ _ _ _ rdcA (by (first | omega | exact sz_at hz om | (simp only [szL]; omega)))) ?_; rintro _ Sn ⟨hEn, _, _, _, _, rfl, hFn⟩) | (refine callP_intro (ev_l21Ops hD.cur) ?_; rintro _ Sn ⟨hDn, ln, hln, hzn, cn, rfl, hFn⟩; replace hF := hF.joinD hlt hDn hFn hD.len; replace hD := hD.trans hDn; clear hDn hFn) | (refine callP_intro (ev_l13Draw hD.cur) ?_; rintro _ Sn ⟨hDn, un, hun, rfl⟩; replace hF := hF.drw hlt hDn; replace hD := hD.trans hDn; clear hDn) | (refine callP_intro (ev_l20Draw hD.cur) ?_; rintro _ Sn ⟨hDn, fn, hfn, rfl⟩; replace hF := hF.drw hlt hDn; replace hD := hD.trans hDn; clear hDn) | (refine callP_intro (ev_l10Draw hD.cur) ?_; rintro _ Sn ⟨hDn, gn, hgn, rfl⟩; replace hF := hF.drw hlt hDn; replace hD := hD.trans hDn; clear hDn) | refine nP ?_ | (refine dappF (f := GRule.d) (o := 5) (l := eds) (m := [⟨_, un.Prio, un.Pattern, un.Sort', un.Action, un.To⟩]) (fun _ => trivial) hD hF rfl rfl rfl rf (by dsimp only [T151, T170, T188]; simp only [List.length_singleton]; omega) (by simp only [List.length_singleton]; omega) ?_; intro cN SN hDN hFN) | refine And.intro ?_ ?_)
    all_goals try (exfalso; omega)
    refine ⟨⟨((k - 1, eds ++ [_]), SN, cN), by dsimp only; omega, hDN, by rw [List.length_append]; show eds.length + 1 + (k - 1) ≤ 2; omega, hFN⟩, ?_, rfl, by dsimp only; omega⟩
    (conv => whnf); repeat' (first | exact trivial | exact rfl | (show _ = _; congr 3; dsimp only; omega) | apply And.intro)
  repeat' ((conv => whnf) <;> first
   | rw [wrapI_i64 (by omega)] | (show CondP _ _ _; refine cS ?_) | refine cD (fun _ => ?_) fun _ => ?_ | refine cE (fun _ => ?_) fun _ => ?_ | refine cT ?_ | refine cF ?_ | refine cN (fun _ => ?_) fun _ => ?_ | refine cI (fun _ => ?_) fun _ => ?_ | refine nP ?_ | refine And.intro ?_ ?_)
  all_goals try (exfalso; omega)
  obtain ⟨l2, hl2⟩ : ∃ l, l = eds := ⟨_, rfl⟩
  obtain ⟨d2, hd2⟩ : ∃ d, d = ci := ⟨_, rfl⟩
  rw [← hl2] at hF hle
  rw [← hd2] at hF ⊢
  have hz2 : l2.length ≤ 2 := by omega
  clear hl2 hd2 hle hk0 hk
  (conv => whnf)
  refine callP_intro (ev_sSealPackage 5 (GPackage.mk ext (1 + x1) (1 + x2) l0 l1 l2 ops 0) _ _ hF.rd (by rw [pk_szD]; dsimp only; omega)) ?_; rintro _ S9 ⟨e9, g3, g4, g5, g6, rfl, f9⟩
  have hF9 := f9.mono hD.len
  replace hD := hD.ext e9
  repeat' ((conv => whnf) <;> first
   | rw [wrapI_i64 (by omega)] | (show CondP _ _ _; refine cS ?_) | refine cD (fun _ => ?_) fun _ => ?_ | refine cE (fun _ => ?_) fun _ => ?_ | refine cT ?_ | refine cF ?_ | refine cN (fun _ => ?_) fun _ => ?_ | refine cI (fun _ => ?_) fun _ => ?_ | (refine callP_intro (ev_l1Below _ hD.cur) ?_; rintro _ Sn ⟨hDn, xn, hxn, rfl⟩; replace hF := hF.drw hlt hDn; replace hD := hD.trans hDn; clear hDn) | (refine callP_intro (ev_sSealPackage _ _ _ _ rdcA (by (first | omega | exact sz_at hz om | (simp only [szL]; omega)))) ?_; rintro _ Sn ⟨hEn, _, _, _, _, rfl, hFn⟩) | (refine callP_intro (ev_l21Ops hD.cur) ?_; rintro _ Sn ⟨hDn, ln, hln, hzn, cn, rfl, hFn⟩; replace hF := hF.joinD hlt hDn hFn hD.len; replace hD := hD.trans hDn; clear hDn hFn) | (refine callP_intro (ev_l13Draw hD.cur) ?_; rintro _ Sn ⟨hDn, un, hun, rfl⟩; replace hF := hF.drw hlt hDn; replace hD := hD.trans hDn; clear hDn) | (refine callP_intro (ev_l20Draw hD.cur) ?_; rintro _ Sn ⟨hDn, fn, hfn, rfl⟩; replace hF := hF.drw hlt hDn; replace hD := hD.trans hDn; clear hDn) | (refine callP_intro (ev_l10Draw hD.cur) ?_; rintro _ Sn ⟨hDn, gn, hgn, rfl⟩; replace hF := hF.drw hlt hDn; replace hD := hD.trans hDn; clear hDn) | refine nP ?_ | refine And.intro ?_ ?_)
  all_goals first
    | exact hD
    | exact ⟨sealed 5 (GPackage.mk ext (1 + x1) (1 + x2) l0 l1 l2 ops 0), rfl, ⟨hz0, hz1, hz2, hzo⟩, g3, g4, g5, g6, rfl, hF9⟩
end Go.Proofs.YtockphlpokoohaaGreat
namespace Go.Proofs.YtockphlpokoohaaGreat
open Go Go.ChangeShapes Go.WideShapes Go.ChangeAt Go.RowKit
set_option linter.unusedVariables false
set_option linter.unusedSimpArgs false
set_option maxRecDepth 100000
theorem rep2_flatten {S : Store} : ∀ {xs : List (List D)} {rows : List (List C)} {js : List Nat}, Rep2 true S xs rows js → RepL true S xs.flatten rows.flatten js ∧ rows.map List.length = xs.map List.length
  | [], rows, js, h => by rw [rep2_nil] at h; rw [h.1, h.2]; exact ⟨by rw [List.flatten_nil, List.flatten_nil, repL_nil]; exact ⟨rfl, rfl⟩, rfl⟩
  | x :: xs, rows, js, h => by
    rw [rep2_cons] at h
    obtain ⟨c, cs', i, j, h1, h2, h3, h4⟩ := h
    obtain ⟨a, b⟩ := rep2_flatten h4
    subst h1; subst h2
    exact ⟨by rw [List.flatten_cons, List.flatten_cons]; exact h3.append a, by rw [List.map_cons, List.map_cons, b, h3.len]⟩
theorem rep2_unflat {S : Store} : ∀ {xs : List (List D)} {rows : List (List C)} {js : List Nat}, RepL true S xs.flatten rows.flatten js → rows.map List.length = xs.map List.length → Rep2 true S xs rows js
  | [], [], js, h, _ => by rw [List.flatten_nil, List.flatten_nil, repL_nil] at h; rw [rep2_nil]; exact ⟨rfl, h.2⟩
  | [], r :: rows, js, _, hl => by cases hl
  | x :: xs, [], js, _, hl => by cases hl
  | x :: xs, r :: rows, js, h, hl => by
    rw [List.map_cons, List.map_cons] at hl
    injection hl with hl1 hl2
    rw [List.flatten_cons, List.flatten_cons] at h
    obtain ⟨r1, r2, i, j, h1, h2, h3, h4⟩ := h.split
    obtain ⟨e1, e2⟩ := List.append_inj h1 (by rw [h3.len, hl1])
    subst e1; subst e2
    rw [rep2_cons]
    exact ⟨r, rows, i, j, rfl, h2, h3, rep2_unflat h4 hl2⟩
theorem Fr.openAt {lo o k : Nat} {S : Store} {ds : List D} {cs : List C} {xs : List (List D)} {c : C} (h : Fr lo S ds cs) (hd : ds[o]? = some (.sl k xs)) (hc : cs[o]? = some c) :
    ∃ rows : List (List C), rows.map List.length = xs.map List.length ∧ Fr lo S (ds.set o (.sl k (rows.map (List.map D.x))) ++ xs.flatten) (cs ++ rows.flatten) := by
  obtain ⟨ids, h, hn, hlo⟩ := h
  obtain ⟨c0, x, m, y, k1, k2, k3, k4⟩ := h.setAt o _ hd
  rw [hc] at k1; cases k1
  subst k2
  simp only [List.nodup_append, List.mem_append] at hn hlo
  obtain ⟨⟨b1, b2, b3⟩, b4, b5⟩ := hn
  have hset : cs.set o c = cs := set_same hc
  unfold Rep at k3
  obtain ⟨hl, k3⟩ := k3
  rcases k3 with ⟨h1, h2, h3⟩ | ⟨id, o', t, row, js, h1, h2, h3, h4, h5, h6, h7, h8⟩
  · refine ⟨[], by rw [h1]; rfl, ?_⟩
    rw [h1, List.flatten_nil, List.flatten_nil, List.append_nil, List.append_nil]
    refine ⟨x ++ [] ++ y, ?_, ?_, fun j hj => ?_⟩
    · have := k4 (S' := S) (d' := .sl k []) (c'' := c) (m' := []) (fun _ _ => rfl) (by unfold Rep; exact ⟨by simp, .inl ⟨rfl, h2, rfl⟩⟩)
      rw [hset] at this; exact this
    · simp only [List.append_nil, List.nodup_append]; exact ⟨b1, b4, fun a ha b hb => b5 a (.inl ha) b hb⟩
    · simp only [List.append_nil, List.mem_append] at hj
      rcases hj with hj | hj
      · exact hlo j (.inl (.inl hj))
      · exact hlo j (.inr hj)
  · obtain ⟨hf1, hf2⟩ := rep2_flatten h8
    refine ⟨(row.xs.drop o').take xs.length, hf2, ?_⟩
    rw [h2, List.nodup_cons] at b2
    have hxl : ((row.xs.drop o').take xs.length).length = xs.length := h8.len
    refine ⟨(x ++ [id] ++ y) ++ js, ?_, ?_, fun j hj => ?_⟩
    · have hr : Rep true S (.sl k (((row.xs.drop o').take xs.length).map (List.map D.x))) c [id] := by
        unfold Rep
        rw [List.length_map, hxl]
        refine ⟨hl, .inr ⟨id, o', t, row, [], h1, rfl, h3, h4, h5, h6, h7, ?_⟩⟩
        exact plain_rep2 _
      have := k4 (S' := S) (c'' := c) (m' := [id]) (fun _ _ => rfl) hr
      rw [hset] at this
      exact this.append hf1
    · simp only [List.nodup_append, List.mem_append, List.mem_singleton]
      refine ⟨⟨⟨b1, by simp, fun a ha b hb => by subst hb; exact b3 a ha b (by rw [h2]; simp)⟩, b4, fun a ha b hb => ?_⟩, b2.2, fun a ha b hb => ?_⟩
      · rcases ha with ha | rfl
        · exact b5 a (.inl ha) b hb
        · exact b5 a (.inr (by rw [h2]; simp)) b hb
      · rcases ha with (ha | rfl) | ha
        · exact b3 a ha b (by rw [h2]; simp [hb])
        · exact fun e => b2.1 (e ▸ hb)
        · exact fun e => b5 b (.inr (by rw [h2]; simp [hb])) a ha e.symm
    · simp only [List.mem_append, List.mem_singleton] at hj
      rcases hj with ((hj | rfl) | hj) | hj
      · exact hlo j (.inl (.inl hj))
      · exact hlo j (.inl (.inr (by rw [h2]; simp)))
      · exact hlo j (.inr hj)
      · exact hlo j (.inl (.inr (by rw [h2]; simp [hj])))
theorem Fr.closeAt {lo o k : Nat} {S : Store} {ds : List D} {cs : List C} {xs : List (List D)} {rows : List (List C)} {c : C} (h : Fr lo S (ds ++ xs.flatten) (cs ++ rows.flatten)) (hl : cs.length = ds.length) (hd : ds[o]? = some (.sl k (rows.map (List.map D.x)))) (hc : cs[o]? = some c) (hlen : rows.map List.length = xs.map List.length) :
    Fr lo S (ds.set o (.sl k xs)) cs := by
  obtain ⟨ids, hg, hn, hlo⟩ := h
  obtain ⟨p1, p2, ia, js, s1, s2, h, hz⟩ := hg.split
  obtain ⟨s3, s4⟩ := List.append_inj s1 (by rw [hl, h.len])
  subst s3; subst s4; subst s2
  have h2 := rep2_unflat hz hlen
  obtain ⟨c0, x, m, y, k1, k2, k3, k4⟩ := h.setAt o _ hd
  rw [hc] at k1; cases k1
  subst k2
  have hset : cs.set o c = cs := set_same hc
  have hxr : rows.length = xs.length := by simpa using congrArg List.length hlen
  simp only [List.nodup_append, List.mem_append] at hn hlo
  obtain ⟨⟨⟨b1, b2, b3⟩, b4, b5⟩, b6, b7⟩ := hn
  unfold Rep at k3
  obtain ⟨hlm, k3⟩ := k3
  rcases k3 with ⟨h1, h2', h3⟩ | ⟨id, o', t, row, js0, h1, h2', h3, h4, h5, h6, h7, h8⟩
  · have hr0 : rows = [] := List.map_eq_nil_iff.1 h1
    have hx0 : xs = [] := List.eq_nil_of_length_eq_zero (by rw [← hxr, hr0]; rfl)
    refine ⟨x ++ [] ++ y, ?_, ?_, fun j hj => ?_⟩
    · have := k4 (S' := S) (d' := .sl k xs) (c'' := c) (m' := []) (fun _ _ => rfl) (by unfold Rep; exact ⟨by rw [hx0]; simp, .inl ⟨hx0, h2', rfl⟩⟩)
      rw [hset] at this; exact this
    · simp only [List.append_nil, List.nodup_append]; exact ⟨b1, b4, fun a ha b hb => b5 a (.inl ha) b hb⟩
    · simp only [List.append_nil, List.mem_append] at hj
      rcases hj with hj | hj
      · exact hlo j (.inl (.inl (.inl hj)))
      · exact hlo j (.inl (.inr hj))
  · obtain ⟨e8, e9⟩ := rep2_plain h8
    subst e9
    rw [List.length_map] at h1 h6 e8 hlm
    refine ⟨x ++ (id :: js) ++ y, ?_, ?_, fun j hj => ?_⟩
    · have hr : Rep true S (.sl k xs) c (id :: js) := by
        unfold Rep
        rw [← hxr]
        refine ⟨hlm, .inr ⟨id, o', t, row, js, h1, rfl, h3, h4, h5, h6, fun hq => ?_, ?_⟩⟩
        · obtain ⟨z1, z2, z3⟩ := h7 hq
          rw [List.length_map] at z2
          exact ⟨z1, z2, z3⟩
        · rw [e8]; exact h2
      have := k4 (S' := S) (c'' := c) (m' := id :: js) (fun _ _ => rfl) hr
      rw [hset] at this; exact this
    · simp only [List.nodup_append, List.mem_append, List.nodup_cons, List.mem_cons]
      have him : id ∈ m := by rw [h2']; simp
      refine ⟨⟨b1, ⟨fun hm => b7 id (.inl (.inr him)) id hm rfl, b6⟩, fun a ha b hb => ?_⟩, b4, fun a ha b hb => ?_⟩
      · rcases hb with rfl | hb
        · exact b3 a ha b him
        · exact b7 a (.inl (.inl ha)) b hb
      · rcases ha with ha | rfl | ha
        · exact b5 a (.inl ha) b hb
        · exact b5 a (.inr him) b hb
        · exact fun e => b7 b (.inr hb) a ha e.symm
    · simp only [List.mem_append, List.mem_cons] at hj
      rcases hj with (hj | rfl | hj) | hj
      · exact hlo j (.inl (.inl (.inl hj)))
      · exact hlo j (.inl (.inl (.inr (by rw [h2']; simp))))
      · exact hlo j (.inr hj)
      · exact hlo j (.inl (.inr hj))
end Go.Proofs.YtockphlpokoohaaGreat
