/- A text of the proof. A text of the proof. A text of the proof. A text of the proof. From the statement's arguments to typed values; what a law is made of. -/
import Derived.Test.YtockphlpokoohaaGreatKe48
import Derived.Test.YtockphlpokoohaaGreatKe39
import Derived.Test.YtockphlpokoohaaGreatKe42
import Derived.Test.YtockphlpokoohaaGreatKe38
import Derived.Test.YtockphlpokoohaaGreatKe11
import Derived.Test.YtockphlpokoohaaGreatKe46
import Derived.Test.YtockphlpokoohaaGreatKe18
import Derived.Test.YtockphlpokoohaaGreatRows
namespace Go.Proofs.YtockphlpokoohaaGreat
open Go Go.ChangeShapes Go.WideShapes Go.ChangeAt Go.RowKit
set_option linter.unusedVariables false
set_option linter.unusedSimpArgs false
set_option maxRecDepth 100000
set_option maxHeartbeats 2000000 in
theorem ev_sStoreFor (b : GBrowser) (ext tab name value : Int) (cs : List C) (S : Store) (h : Rd S b.d cs) (hz : szL b.d ≤ 1048576) : EvA Tryz.prog 228 [.agg cs, .s (.int .i64 ext), .s (.int .i64 tab), .s (.int .i64 name), .s (.int .i64 value)] S (fun r S' => Ext S S' ∧ ∃ (ss : List GStored) (ok : Bool), StPut b ext ss ok ∧ ∃ c1 c2 c3 c4 c5 c6, r = .tup [.agg [.int .i64 b.Key, c1, c2, c3, c4, c5, c6, .int .i64 b.Now], .s (.bool ok)] ∧ Fr S.length S' (GBrowser.mk b.Key b.Tabs b.Packs b.Grants b.Limits b.Rules ss b.Now).d [.int .i64 b.Key, c1, c2, c3, c4, c5, c6, .int .i64 b.Now]) := by
  have hzs := hz
  simp only [GBrowser.d, szL, List.length_map] at hzs
  have hh := h
  obtain ⟨_, _, _, _, _, _, rfl, r1, r2, r3, r4, r5, r6⟩ := GBrowser.inv h
  refine evA_intro tok Tryz.func228 (by kernel_rfl) rfl ?_
  skip
  (conv => whnf)
  refine callP_intro (ev_l32Copy b _ _ hh (by omega)) ?_; rintro _ S1 ⟨e1, g1, g2, g3, g4, g5, g6, rfl, f1⟩
  have r6c := r6.ext e1
  skip
  (conv => whnf)
  refine callP_intro (ev_sPutStored b.Store ext name value _ _ r6c (by omega)) ?_; rintro _ S2 ⟨e2, m, ok, hm, cN, rfl, f2⟩
  have hh2 := hh.ext (e1.trans e2)
  have e12 := e1.trans e2
  cases ok
  · repeat' ((conv => whnf) <;> first
     | refine cT ?_ | refine And.intro ?_ ?_)
    all_goals first
      | exact e12
      | exact ⟨b.Store, false, ⟨fun _ => rfl, fun hx => Bool.noConfusion hx⟩, _, _, _, _, _, _, rfl, f1.ext e2⟩
      | (exfalso; simp_all; done)
  · cases hma : mayAct b ext tab 4
    · have hev := ev_sMayAct b ext tab 4 _ _ hh2
      rw [hma] at hev
      repeat' ((conv => whnf) <;> first
       | (refine callP_eq hev ?_) | refine cT ?_ | refine cF ?_ | refine And.intro ?_ ?_)
      all_goals first
        | exact e12
        | exact ⟨b.Store, false, ⟨fun _ => rfl, fun hx => Bool.noConfusion hx⟩, _, _, _, _, _, _, rfl, f1.ext e2⟩
        | (exfalso; simp_all; done)
    · have hev := ev_sMayAct b ext tab 4 _ _ hh2
      rw [hma] at hev
      have fJ := (f1.join e2 f2 e1.len).putLast (o := 6) rfl (by show 6 < 8; decide)
      repeat' ((conv => whnf) <;> first
       | (refine callP_eq hev ?_) | refine cF ?_ | refine And.intro ?_ ?_)
      all_goals first
        | exact e12
        | exact ⟨m, true, ⟨fun hx => Bool.noConfusion hx, fun _ => ⟨(hm.2.2 rfl).1, (hm.2.2 rfl).2, mayAct_ext hma⟩⟩, _, _, _, _, _, _, rfl, fJ⟩
        | (exfalso; simp_all; done)
structure L35 (id : Nat) (S : Store) (m : Nat) where
  k : Nat
  T : Store
  b : GBrowser
  c1 : C
  c2 : C
  c3 : C
  c4 : C
  c5 : C
  c6 : C
  hk : k ≤ m
  hD : Drw id S T
  hb : DrOk b
  hF : Fr S.length T b.d [.int .i64 b.Key, c1, c2, c3, c4, c5, c6, .int .i64 b.Now]
set_option maxHeartbeats 8000000 in
theorem ev_l35Draw {id : Nat} {S : Store} (h : Cur id S) : EvA Tryz.prog 147 [.s (.pt id)] S (fun r S' => Drw id S S' ∧ ∃ b : GBrowser, DrOk b ∧ ∃ c1 c2 c3 c4 c5 c6, r = .v (.agg [.int .i64 b.Key, c1, c2, c3, c4, c5, c6, .int .i64 b.Now]) ∧ Fr S.length S' b.d [.int .i64 b.Key, c1, c2, c3, c4, c5, c6, .int .i64 b.Now]) := by
  have hlt := h.lt
  have hD := Drw.refl h
  refine evA_intro tok Tryz.func147 (by kernel_rfl) rfl ?_
  skip
  (conv => whnf)
  refine callP_intro (ev_l32Draw hD.cur) ?_; rintro _ Sn ⟨hDn, ts, hb, hnb, hts, c1, c2, c3, c4, c5, c6, rfl, hF⟩
  replace hD := hD.trans hDn
  have hb0 := newB_dr hb hnb
  clear hDn hb hnb hts
  skip
  (conv => whnf)
  refine callP_intro (ev_l1Below _ hD.cur) ?_; rintro _ T1 ⟨hDn, y1, hy1, rfl⟩
  replace hF := hF.drw hlt hDn
  replace hD := hD.trans hDn; clear hDn
  obtain ⟨n1, rfl⟩ := Int.eq_ofNat_of_zero_le hy1.1
  have hn1 := hy1.2.2.1 (by omega)
  repeat' ((conv => whnf) <;> first
   | rw [wrapI_i64 (by omega)])
  refine loop_intro (L35 id S 3) [3, 4, 12, 13, 14, 15, 16, 17, 18, 19, 20, 21, 22, 23, 24, 25] (fun q => [(4, .v (.s (.int .i64 (q.k : Nat)))), (3, .box [.int .i64 q.b.Key, q.c1, q.c2, q.c3, q.c4, q.c5, q.c6, .int .i64 q.b.Now])]) (fun q => q.T) (fun q => q.k) ⟨1 + n1, _, newB 5 ts, _, _, _, _, _, _, by omega, hD, hb0, hF⟩ ?_ rfl ?_
  · (conv => whnf); repeat' (first | exact trivial | exact rfl | (show _ = _; congr 3; omega) | apply And.intro)
  clear hF hD hb0 hy1 hn1
  rintro ⟨k, Si, b, c1, c2, c3, c4, c5, c6, hk, hD, hb, hF⟩; dsimp only
  have hsz := hb.ok.sz
  by_cases hk0 : 0 < k
  · repeat' ((conv => whnf) <;> first
     | (show CondP _ _ _; refine cS ?_) | refine draw_intro 17 [.fl 0, .fl 1, .fl 2, .st 3 [0, 1], .fl 4, .st 5 [0], .st 6 [], .fl 7, .fl 8, .fl 9, .st 10 [9]] (by rfl) (by kernel_rfl) ?_)
    all_goals try (exfalso; omega)
    (conv => whnf)
    refine callP_intro (ev_l1Below _ hD.cur) ?_; rintro _ T2 ⟨hDn, y2, hy2, rfl⟩
    replace hF := hF.drw hlt hDn
    replace hD := hD.trans hDn; clear hDn
    repeat' ((conv => whnf) <;> first
     | rw [wrapI_i64 (by omega)] | refine And.intro ?_ ?_)
    (conv => whnf)
    refine callP_intro (ev_l27Fine _ hD.cur) ?_; rintro _ T3 ⟨hDn, p, hpe, hzp, g3, g4, g5, g6, rfl, hFn⟩
    replace hF := hF.drw hlt hDn
    replace hD := hD.trans hDn; clear hDn
    have hps := pk_szD p
    repeat' ((conv => whnf) <;> first
     | refine And.intro ?_ ?_)
    (conv => whnf)
    refine callP_intro (ev_sStepInstall b p _ _ _ hF.rd hFn.rd (by omega) (by omega)) ?_; rintro _ T4 ⟨e4, d1, d2, d3, d4, d5, d6, rfl, f4⟩
    repeat' ((conv => whnf) <;> first
     | rw [wrapI_i64 (by omega)] | refine And.intro ?_ ?_)
    all_goals try (exfalso; omega)
    refine ⟨⟨k - 1, T4, (stepInstall b p).1, _, _, _, _, _, _, by omega, hD.ext e4, stepInstall_dr hb p, f4.mono hD.len⟩, ?_, rfl, by dsimp only; omega⟩
    (conv => whnf); repeat' (first | exact trivial | exact rfl | (show _ = _; congr 3; dsimp only; omega) | apply And.intro)
  repeat' ((conv => whnf) <;> first
   | (show CondP _ _ _; refine cS ?_))
  all_goals try (exfalso; omega)
  clear hk hk0
  (conv => whnf)
  refine callP_intro (ev_l1Below _ hD.cur) ?_; rintro _ T1 ⟨hDn, y1, hy1, rfl⟩
  replace hF := hF.drw hlt hDn
  replace hD := hD.trans hDn; clear hDn
  obtain ⟨n1, rfl⟩ := Int.eq_ofNat_of_zero_le hy1.1
  have hn1 := hy1.2.2.1 (by omega)
  skip
  refine loop_intro (L35 id S 6) [3, 5, 6, 28, 29, 30, 31, 32, 33, 34, 35, 36, 37, 38, 39, 40, 41, 42, 43, 44, 45, 46, 47, 48, 49, 50, 51, 52, 53, 54, 55, 56, 57, 58, 59, 60, 61, 62, 63, 64, 65, 66, 67, 68, 69, 70, 71, 72, 73, 74, 75, 76, 77, 78, 79, 80, 81, 82, 83, 84, 85, 86, 87, 88, 89, 90, 91, 92, 93, 94, 95] (fun q => [(5, .v (.s (.int .i64 (q.k : Nat)))), (3, .box [.int .i64 q.b.Key, q.c1, q.c2, q.c3, q.c4, q.c5, q.c6, .int .i64 q.b.Now])]) (fun q => q.T) (fun q => q.k) ⟨n1, _, b, _, _, _, _, _, _, by omega, hD, hb, hF⟩ ?_ rfl ?_
  · (conv => whnf); repeat' (first | exact trivial | exact rfl | (show _ = _; congr 3; omega) | apply And.intro)
  clear hF hD hb hy1 hn1 hsz
  rintro ⟨k, Si, b, c1, c2, c3, c4, c5, c6, hk, hD, hb, hF⟩; dsimp only
  have hsz := hb.ok.sz
  have htl := hb.ok.tl
  by_cases hk0 : 0 < k
  · have r1 : Rd Si [.sl 6 (b.Tabs.map GTab.d)] [c1] := hF.rdAt (o := 1) rfl rfl
    repeat' ((conv => whnf) <;> first
     | (refine rd_lenm r1 ?_; intro hml) | (show CondP _ _ _; refine cS ?_))
    all_goals try (exfalso; omega)
    (conv => whnf)
    refine callP_intro (ev_l1Below _ hD.cur) ?_; rintro _ T2 ⟨hDn, y2, hy2, rfl⟩
    replace hF := hF.drw hlt hDn
    replace hD := hD.trans hDn; clear hDn
    skip
    (conv => whnf)
    refine callP_intro (ev_l1Below _ hD.cur) ?_; rintro _ T3 ⟨hDn, y3, hy3, rfl⟩
    replace hF := hF.drw hlt hDn
    replace hD := hD.trans hDn; clear hDn r1
    by_cases z0 : y3 = 0
    · subst z0
      repeat' ((conv => whnf) <;> first
       | (show CondP _ _ _; refine cS ?_) | refine draw_intro 53 [.fl 0, .fl 1, .st 2 [0], .fl 3, .st 4 [], .fl 5, .fl 6, .fl 7, .st 8 [7]] (by rfl) (by kernel_rfl) ?_)
      (conv => whnf)
      refine callP_intro (ev_l1Below _ hD.cur) ?_; rintro _ T4 ⟨hDn, y4, hy4, rfl⟩
      replace hF := hF.drw hlt hDn
      replace hD := hD.trans hDn; clear hDn
      repeat' ((conv => whnf) <;> first
       | rw [wrapI_i64 (by omega)] | refine And.intro ?_ ?_)
      (conv => whnf)
      refine callP_intro (ev_sStepTick b _ _ _ hF.rd (by omega)) ?_; rintro _ T5 ⟨e5, d1, d2, d3, d4, d5, d6, rfl, f5⟩
      repeat' ((conv => whnf) <;> first
       | rw [wrapI_i64 (by omega)] | refine And.intro ?_ ?_)
      all_goals try (exfalso; omega)
      refine ⟨⟨k - 1, T5, (stepTick b (1 + y4)).1, _, _, _, _, _, _, by omega, hD.ext e5, stepTick_dr hb _, f5.mono hD.len⟩, ?_, rfl, by dsimp only; omega⟩
      (conv => whnf); repeat' (first | exact trivial | exact rfl | (show _ = _; congr 3; dsimp only; omega) | apply And.intro)
    by_cases z1 : y3 = 1
    · subst z1
      repeat' ((conv => whnf) <;> first
       | (show CondP _ _ _; refine cS ?_) | refine draw_intro 63 [.fl 0, .fl 1, .fl 2, .st 3 [0, 1], .fl 4, .st 5 [], .fl 6, .fl 7, .fl 8, .st 9 [8]] (by rfl) (by kernel_rfl) ?_)
      (conv => whnf)
      refine callP_intro (ev_l1Below _ hD.cur) ?_; rintro _ T4 ⟨hDn, y4, hy4, rfl⟩
      replace hF := hF.drw hlt hDn
      replace hD := hD.trans hDn; clear hDn
      repeat' ((conv => whnf) <;> first
       | rw [wrapI_i64 (by omega)] | refine And.intro ?_ ?_)
      (conv => whnf)
      refine callP_intro (ev_sStepClick b y2 (1 + y4) _ _ hF.rd (by omega)) ?_; rintro _ T5 ⟨e5, d1, d2, d3, d4, d5, d6, rfl, f5⟩
      repeat' ((conv => whnf) <;> first
       | rw [wrapI_i64 (by omega)] | refine And.intro ?_ ?_)
      all_goals try (exfalso; omega)
      refine ⟨⟨k - 1, T5, (stepClick b y2 (1 + y4)).1, _, _, _, _, _, _, by omega, hD.ext e5, stepClick_dr hb _ _, f5.mono hD.len⟩, ?_, rfl, by dsimp only; omega⟩
      (conv => whnf); repeat' (first | exact trivial | exact rfl | (show _ = _; congr 3; dsimp only; omega) | apply And.intro)
    by_cases z2 : y3 = 2
    · subst z2
      repeat' ((conv => whnf) <;> first
       | (show CondP _ _ _; refine cS ?_) | refine draw_intro 74 [.fl 0, .fl 1, .fl 2, .st 3 [0, 1], .st 4 [], .fl 5, .fl 6, .fl 7, .st 8 [7]] (by rfl) (by kernel_rfl) ?_)
      (conv => whnf)
      refine callP_intro (ev_l5Edit hD.cur) ?_; rintro _ T4 ⟨hDn, e, he, rfl⟩
      replace hF := hF.drw hlt hDn
      replace hD := hD.trans hDn; clear hDn
      repeat' ((conv => whnf) <;> first
       | refine And.intro ?_ ?_)
      (conv => whnf)
      refine callP_intro (ev_sPageEdit b y2 e _ _ hF.rd (by omega)) ?_; rintro _ T5 ⟨e5, d1, d2, d3, d4, d5, d6, rfl, f5⟩
      repeat' ((conv => whnf) <;> first
       | rw [wrapI_i64 (by omega)] | refine And.intro ?_ ?_)
      all_goals try (exfalso; omega)
      refine ⟨⟨k - 1, T5, (pageEdit b y2 e).1, _, _, _, _, _, _, by omega, hD.ext e5, pageEdit_dr hb _ _, f5.mono hD.len⟩, ?_, rfl, by dsimp only; omega⟩
      (conv => whnf); repeat' (first | exact trivial | exact rfl | (show _ = _; congr 3; dsimp only; omega) | apply And.intro)
    by_cases z3 : y3 = 3
    · subst z3
      repeat' ((conv => whnf) <;> first
       | (show CondP _ _ _; refine cS ?_) | refine draw_intro 84 [.fl 0, .fl 1, .fl 4, .fl 5, .fl 7, .st 2 [0, 4, 5, 7], .fl 3, .st 6 [0, 4, 7, 3], .st 8 [0, 4, 3], .st 9 [], .fl 10, .fl 11, .fl 12, .st 13 [12]] (by rfl) (by kernel_rfl) ?_)
      (conv => whnf)
      refine callP_intro (ev_l1Below _ hD.cur) ?_; rintro _ T4 ⟨hDn, y4, hy4, rfl⟩
      replace hF := hF.drw hlt hDn
      replace hD := hD.trans hDn; clear hDn
      repeat' ((conv => whnf) <;> first
       | rw [wrapI_i64 (by omega)] | refine And.intro ?_ ?_)
      (conv => whnf)
      refine callP_intro (ev_l1Below _ hD.cur) ?_; rintro _ T5 ⟨hDn, y5, hy5, rfl⟩
      replace hF := hF.drw hlt hDn
      replace hD := hD.trans hDn; clear hDn
      repeat' ((conv => whnf) <;> first
       | rw [wrapI_i64 (by omega)] | refine And.intro ?_ ?_)
      (conv => whnf)
      refine callP_intro (ev_l1Below _ hD.cur) ?_; rintro _ T6 ⟨hDn, y6, hy6, rfl⟩
      replace hF := hF.drw hlt hDn
      replace hD := hD.trans hDn; clear hDn
      repeat' ((conv => whnf) <;> first
       | rw [wrapI_i64 (by omega)] | refine And.intro ?_ ?_)
      (conv => whnf)
      refine callP_intro (ev_sStoreFor b (1 + y4) y2 y5 y6 _ _ hF.rd (by omega)) ?_; rintro _ T7 ⟨e7, ss, ok, hp, d1, d2, d3, d4, d5, d6, rfl, f7⟩
      repeat' ((conv => whnf) <;> first
       | rw [wrapI_i64 (by omega)] | refine And.intro ?_ ?_)
      all_goals try (exfalso; omega)
      refine ⟨⟨k - 1, T7, GBrowser.mk b.Key b.Tabs b.Packs b.Grants b.Limits b.Rules ss b.Now, _, _, _, _, _, _, by omega, hD.ext e7, stPut_dr hb hp, f7.mono hD.len⟩, ?_, rfl, by dsimp only; omega⟩
      (conv => whnf); repeat' (first | exact trivial | exact rfl | (show _ = _; congr 3; dsimp only; omega) | apply And.intro)
    repeat' ((conv => whnf) <;> first
     | (show CondP _ _ _; refine cS ?_) | refine draw_intro 40 [.fl 0, .fl 1, .fl 4, .fl 5, .st 2 [0, 4, 5], .fl 3, .st 6 [0, 4, 3], .st 7 [], .fl 8, .fl 9, .fl 10, .st 11 [10]] (by rfl) (by kernel_rfl) ?_)
    all_goals try (exfalso; omega)
    (conv => whnf)
    refine callP_intro (ev_l1Below _ hD.cur) ?_; rintro _ T4 ⟨hDn, y4, hy4, rfl⟩
    replace hF := hF.drw hlt hDn
    replace hD := hD.trans hDn; clear hDn
    repeat' ((conv => whnf) <;> first
     | rw [wrapI_i64 (by omega)] | refine And.intro ?_ ?_)
    (conv => whnf)
    refine callP_intro (ev_l5Edit hD.cur) ?_; rintro _ T5 ⟨hDn, e, he, rfl⟩
    replace hF := hF.drw hlt hDn
    replace hD := hD.trans hDn; clear hDn
    repeat' ((conv => whnf) <;> first
     | rw [wrapI_i64 (by omega)] | refine And.intro ?_ ?_)
    (conv => whnf)
    refine callP_intro (ev_sWriteTab b (1 + y4) y2 e _ _ hF.rd (by omega)) ?_; rintro _ T6 ⟨e6, d1, d2, d3, d4, d5, d6, rfl, f6⟩
    repeat' ((conv => whnf) <;> first
     | rw [wrapI_i64 (by omega)] | refine And.intro ?_ ?_)
    all_goals try (exfalso; omega)
    refine ⟨⟨k - 1, T6, (writeTab b (1 + y4) y2 e).1, _, _, _, _, _, _, by omega, hD.ext e6, writeTab_dr hb _ _ _, f6.mono hD.len⟩, ?_, rfl, by dsimp only; omega⟩
    (conv => whnf); repeat' (first | exact trivial | exact rfl | (show _ = _; congr 3; dsimp only; omega) | apply And.intro)
  repeat' ((conv => whnf) <;> first
   | (show CondP _ _ _; refine cS ?_) | refine And.intro ?_ ?_)
  all_goals first
    | exact hD
    | (exfalso; omega)
    | exact ⟨b, hb, c1, c2, c3, c4, c5, c6, rfl, hF⟩
end Go.Proofs.YtockphlpokoohaaGreat
namespace Go.Proofs.YtockphlpokoohaaGreat
open Go Go.ChangeShapes Go.WideShapes Go.ChangeAt Go.RowKit
set_option linter.unusedVariables false
set_option linter.unusedSimpArgs false
set_option maxRecDepth 100000
set_option maxHeartbeats 2000000 in
theorem ev_DrawStepRemove {S : Store} {c : C} (l : List Int) (hr : Rd S [.sl 1 (l.map dByte)] [c]) (hz : l.length ≤ 1048576) : EvA Tryz.prog 45 [.s c] S (fun r S' => Ext S S' ∧ ∃ (b : GBrowser) (e : Int), DrOk b ∧ ∃ c1 c2 c3 c4 c5 c6, r = .tup [.agg [.int .i64 b.Key, c1, c2, c3, c4, c5, c6, .int .i64 b.Now], .s (.int .i64 e)] ∧ Rd S' b.d [.int .i64 b.Key, c1, c2, c3, c4, c5, c6, .int .i64 b.Now]) := by
  refine evA_intro tok Tryz.func45 (by kernel_rfl) rfl ?_
  skip
  (conv => whnf)
  refine callP_intro (ev_l1New l hr hz) ?_; rintro _ S1 ⟨hE, h, rfl⟩
  have hlt := h.lt
  skip
  (conv => whnf)
  refine callP_intro (ev_l35Draw h) ?_; rintro _ S2 ⟨hD, b, hb, c1, c2, c3, c4, c5, c6, rfl, hF⟩
  have hsz := hb.ok.sz
  repeat' ((conv => whnf) <;> first
   | refine draw_intro 10 [.fl 0, .fl 1, .st 2 [0], .st 3 [], .st 4 []] (by rfl) (by kernel_rfl) ?_)
  (conv => whnf)
  refine callP_intro (ev_l1Below _ hD.cur) ?_; rintro _ S3 ⟨hDn, x, hx, rfl⟩
  repeat' ((conv => whnf) <;> first
   | refine And.intro ?_ ?_)
  all_goals first
    | exact drw_ext hE (hD.trans hDn)
    | exact ⟨b, _, hb, _, _, _, _, _, _, rfl, (hF.drw hlt hDn).rd⟩
end Go.Proofs.YtockphlpokoohaaGreat
namespace Go.Proofs.YtockphlpokoohaaGreat
open Go Go.ChangeShapes Go.WideShapes Go.ChangeAt Go.RowKit
set_option linter.unusedVariables false
set_option linter.unusedSimpArgs false
set_option maxRecDepth 100000
structure StC (x0 : List Int) (c0 : C) where
  S : Store
  hc : Rd S [.sl 1 (x0.map dByte)] [c0]
theorem ev_big (l : List Int) (c : C) (S : Store) (h : Rd S [.sl 1 (l.map dByte)] [c]) : EvA Tryz.prog 12 [.s c] S (fun r S' => r = .v (.s (.bool (decide (1048576 < (l.length : Int))))) ∧ S' = S) := by
  refine evA_intro tok Tryz.func12 (by kernel_rfl) rfl ?_
  repeat' ((conv => whnf) <;> first
   | refine rE fun hml => ?_ | refine nP ?_ | refine And.intro ?_ ?_)
  all_goals rfl
theorem ev_EqDocs (l m : List GNode) (c c' : C) (S : Store) (h : Rd S [.sl 5 (l.map GNode.d)] [c]) (h' : Rd S [.sl 5 (m.map GNode.d)] [c']) : EvA Tryz.prog 49 [.s c, .s c'] S (fun r S' => r = .v (.s (.bool (decide (l = m)))) ∧ S' = S) := by
  refine evA_intro tok Tryz.func49 (by kernel_rfl) rfl ?_
  repeat' ((conv => whnf) <;> first
   | refine callP_eq (ev_EqNode _ _ _ _ _ aN aN) ?_ | refine nP ?_ | refine And.intro ?_ ?_)
  all_goals rfl
theorem ev_TakeBack (d : List GNode) (l : List GEdit) (by' : Int) (c c' : C) (S : Store) (h : Rd S [.sl 5 (d.map GNode.d)] [c]) (h' : Rd S [.sl 6 (l.map GEdit.d)] [c']) (hz : d.length ≤ 4194304) (hz' : l.length ≤ 4194304) : EvA Tryz.prog 51 [.s c, .s c', .s (.int .i64 by')] S (fun r S' => Ext S S' ∧ ∃ c', r = .v (.s c') ∧ Fr S.length S' [.sl 5 ((runEdits d (l.filter (edNot by'))).map GNode.d)] [c']) := by
  have hl := List.length_filter_le (edNot by') l
  refine evA_intro tok Tryz.func51 (by kernel_rfl) rfl ?_
  repeat' ((conv => whnf) <;> first
   | refine nP ?_ | refine And.intro ?_ ?_)
  (conv => whnf)
  refine callP_intro (ev_iWithoutBy l by' _ _ h' hz') ?_; rintro _ S1 ⟨e1, c1, rfl, f1⟩
  repeat' ((conv => whnf) <;> first
   | refine nP ?_ | refine And.intro ?_ ?_)
  (conv => whnf)
  refine callP_intro (ev_iRunEdits d (l.filter (edNot by')) _ _ _ (h.ext e1) f1.rd hz (by omega)) ?_; rintro _ S2 ⟨e2, c2, rfl, f2⟩
  repeat' ((conv => whnf) <;> first
   | (refine callP_intro (ev_iRunEdits _ _ _ _ _ rdA rdA om om) ?_; rintro _ Sn ⟨hEn, cn, rfl, hFn⟩) | (refine callP_intro (ev_iWithoutBy _ _ _ _ rdA om) ?_; rintro _ Sn ⟨hEn, cn, rfl, hFn⟩) | refine nP ?_ | refine And.intro ?_ ?_)
  all_goals first
    | exact e1.trans e2
    | exact ⟨_, rfl, f2.mono e1.len⟩
end Go.Proofs.YtockphlpokoohaaGreat
namespace Go.Proofs.YtockphlpokoohaaGreat
open Go Go.ChangeShapes Go.WideShapes Go.ChangeAt Go.RowKit
set_option linter.unusedVariables false
set_option linter.unusedSimpArgs false
set_option maxRecDepth 100000
theorem filter_none {α : Type} {P Q : α → Bool} (l : List α) (h : ∀ x, P x = true → Q x = true → False) : ((l.filter P).filter Q).length = 0 := by
  rw [List.length_eq_zero_iff, List.filter_eq_nil_iff]
  intro x hx hq
  exact h x (List.mem_filter.1 hx).2 hq
theorem rem_grants (b : GBrowser) (ext : Int) : ((remTo b ext).Grants.filter (grOf ext)).length = 0 := filter_none _ fun x h1 h2 => by
  unfold gBut at h1; unfold grOf at h2
  rw [decide_eq_true_eq] at h2
  rw [decide_eq_true h2] at h1; cases h1
theorem rem_rules (b : GBrowser) (ext : Int) : ((remTo b ext).Rules.filter (ruOf ext)).length = 0 := filter_none _ fun x h1 h2 => by
  unfold rBut at h1; unfold ruOf at h2
  rw [decide_eq_true_eq] at h2
  rw [decide_eq_true h2] at h1; cases h1
theorem rem_edits (t : GTab) (ext : Int) : ((tabWithout t ext).Edits.filter (edBy1 ext)).length = 0 := filter_none _ fun x h1 h2 => by
  unfold edNot at h1; unfold edBy1 at h2
  rw [decide_eq_true_eq] at h2
  rw [decide_eq_true h2] at h1; cases h1
theorem rem_pack {b : GBrowser} (hb : BrOk b) {ext : Int} (h : 0 ≤ packOf b ext) : packOf (remTo b ext) ext = -1 := by
  refine packOf_neg fun hh => ?_
  obtain ⟨p, hp, he⟩ := List.mem_map.1 (packOf_mem.1 hh)
  exact packsBut_not hb h hp he
theorem rem_tabs (b : GBrowser) (ext : Int) : (remTo b ext).Tabs.length = b.Tabs.length := by unfold remTo; rw [List.length_map]
theorem rem_tab {b : GBrowser} {ext : Int} {i : Nat} (h : i < b.Tabs.length) (h2 : i < (remTo b ext).Tabs.length) : (remTo b ext).Tabs[i] = tabWithout (b.Tabs[i]) ext := by
  simp only [remTo, List.getElem_map]
theorem rem_ok {b : GBrowser} (hb : BrOk b) {ext : Int} (h : 0 ≤ packOf b ext) : BrOk (remTo b ext) := by
  have := stepRemove_ok hb ext
  rw [rem_yes h] at this
  exact this
theorem ev_iEqStores (l m : List GStored) (c c' : C) (S : Store) (h : Rd S [.sl 4 (l.map GStored.d)] [c]) (h' : Rd S [.sl 4 (m.map GStored.d)] [c']) : EvA Tryz.prog 52 [.s c, .s c'] S (fun r S' => r = .v (.s (.bool (decide (l = m)))) ∧ S' = S) := by
  refine evA_intro tok Tryz.func52 (by kernel_rfl) rfl ?_
  repeat' ((conv => whnf) <;> first
   | refine callP_eq (ev_EqStored _ _ _ _ _ aN aN) ?_ | refine And.intro ?_ ?_)
  all_goals rfl
theorem ev_iEqRules (l m : List GRule) (c c' : C) (S : Store) (h : Rd S [.sl 8 (l.map GRule.d)] [c]) (h' : Rd S [.sl 8 (m.map GRule.d)] [c']) : EvA Tryz.prog 54 [.s c, .s c'] S (fun r S' => r = .v (.s (.bool (decide (l = m)))) ∧ S' = S) := by
  refine evA_intro tok Tryz.func54 (by kernel_rfl) rfl ?_
  repeat' ((conv => whnf) <;> first
   | refine callP_eq (ev_EqRule _ _ _ _ _ aN aN) ?_ | refine And.intro ?_ ?_)
  all_goals rfl
set_option maxHeartbeats 8000000 in
theorem ev_lawE (x0 : List Int) (c0 : C) (S : Store) (h0 : Rd S [.sl 1 (x0.map dByte)] [c0]) : EvA Tryz.prog 6 [.s c0] S (fun r _ => r = .v (.s (.bool true))) := by
  refine evA_intro tok Tryz.func6 (by kernel_rfl) rfl ?_
  by_cases hbig : 1048576 < (x0.length : Int)
  · repeat' ((conv => whnf) <;> first
     | (show CondP _ _ _; refine cS ?_) | refine callP_eq (ev_big _ _ _ rdA) ?_)
    all_goals first
      | rfl
      | (exfalso; omega)
  have hz : x0.length ≤ 1048576 := by omega
  repeat' ((conv => whnf) <;> first
   | (show CondP _ _ _; refine cS ?_) | refine callP_eq (ev_big _ _ _ rdA) ?_)
  (conv => whnf)
  refine callP_intro (ev_DrawStepRemove x0 h0 hz) ?_; rintro _ S1 ⟨e1, b, ext, hb, c1, c2, c3, c4, c5, c6, rfl, rb⟩
  have hsz := hb.ok.sz
  skip
  (conv => whnf)
  refine callP_intro (ev_iStepRemove b ext _ _ rb (by omega)) ?_; rintro _ S2 ⟨e2, d1, d2, d3, d4, d5, d6, rfl, f2⟩
  replace rb := rb.ext e2
  by_cases hp : 0 ≤ packOf b ext
  case neg =>
    rw [rem_no hp] at f2 ⊢
    have r2 := f2.rd
    have hself : decide (b = b) = true := decide_eq_true rfl
    have hpn : packOf b ext < 0 := by omega
    repeat' ((conv => whnf) <;> first
     | (refine callP_eq (ev_iPackOf b ext _ _ rb) ?_) | (refine callP_eq (ev_iEqualBrowsers b b _ _ _ r2 rb) ?_) | (show CondP _ _ _; refine cS ?_) | refine cT ?_)
    all_goals first
      | rfl
      | (exfalso; omega)
      | (exfalso; simp_all; done)
      | (show _ = _; simp [resAV, hpn]; done)
  rw [rem_yes hp] at f2 ⊢
  have hx := rem_ok hb.ok hp
  have hxs := hx.sz
  have hxb : isBrowser (remTo b ext) = true := br_iff.2 hx
  have hxp := rem_pack hb.ok hp
  have hg0 := rem_grants b ext
  have hr0 := rem_rules b ext
  have htl := rem_tabs b ext
  have r2 : Rd S2 (remTo b ext).d [.int .i64 (remTo b ext).Key, d1, d2, d3, d4, d5, d6, .int .i64 (remTo b ext).Now] := f2.rd
  clear f2 e1 e2
  obtain ⟨_, _, _, _, _, _, hk0, t1, t2, t3, t4, t5, t6⟩ := GBrowser.inv rb
  simp only [List.cons.injEq, true_and, and_true] at hk0
  obtain ⟨rfl, rfl, rfl, rfl, rfl, rfl⟩ := hk0
  obtain ⟨_, _, _, _, _, _, hk0, u1, u2, u3, u4, u5, u6⟩ := GBrowser.inv r2
  simp only [List.cons.injEq, true_and, and_true] at hk0
  obtain ⟨rfl, rfl, rfl, rfl, rfl, rfl⟩ := hk0
  have hgl := hx.gl
  have hbs := br_szD b
  have hxz := br_szD (remTo b ext)
  have hevB := ev_iIsBrowser (remTo b ext) _ _ r2 (by omega)
  rw [hxb] at hevB
  have hevP := ev_iPackOf (remTo b ext) ext _ _ r2
  rw [hxp] at hevP
  repeat' ((conv => whnf) <;> first
   | (refine callP_eq hevP ?_) | (refine callP_eq hevB ?_) | refine cF ?_)
  all_goals try (exfalso; simp_all; done)
  (conv => whnf)
  refine callP_intro (ev_iGrantsOf (remTo b ext).Grants ext _ _ u3 (by omega)) ?_; rintro _ S3 ⟨e3, k3, rfl, f3⟩
  have q3 := f3.rd
  repeat' ((conv => whnf) <;> first
   | (refine rd_lenm q3 ?_; intro hml) | (show CondP _ _ _; refine cS ?_))
  all_goals try (exfalso; omega)
  (conv => whnf)
  refine callP_intro (ev_iRulesOf (remTo b ext).Rules ext _ _ (u5.ext e3) (by omega)) ?_; rintro _ S4 ⟨e4, k4, rfl, f4⟩
  have q4 := f4.rd
  have E4 := e3.trans e4
  have u1' := u1.ext E4
  have t1' := t1.ext E4
  repeat' ((conv => whnf) <;> first
   | (refine rd_lenm t1' ?_; intro hml) | (refine rd_lenm u1' ?_; intro hml) | (refine rd_lenm q4 ?_; intro hml) | (show CondP _ _ _; refine cS ?_))
  all_goals try (exfalso; omega)
  clear q3 q4 f3 f4 hevB hevP e3 e4
  refine loop_intro {q : Nat × Store // q.1 ≤ b.Tabs.length ∧ Ext S2 q.2} [2, 7, 66, 67, 68, 69, 70, 71, 72, 73, 74, 75, 76, 77, 78, 79, 80, 81, 82, 83, 84, 85, 86, 87, 88, 89, 90, 91, 92, 93, 94, 95, 96, 97, 98, 99, 100, 101, 102, 103, 104, 105, 106] (fun zb => [(7, .v (.s (.int .i64 (zb.1.1 : Nat))))]) (fun zb => zb.1.2) (fun zb => b.Tabs.length - zb.1.1) ⟨(0, S4), Nat.zero_le _, E4⟩ ?_ rfl ?_
  · (conv => whnf); repeat' (first | exact trivial | exact rfl | apply And.intro)
  rintro ⟨⟨i, Si⟩, hi, hE⟩; dsimp only
  replace hi : i ≤ b.Tabs.length := hi
  replace hE : Ext S2 Si := hE
  clear u1' t1' E4
  have u1' := u1.ext hE
  by_cases hlt : i < b.Tabs.length
  · have hi1 : 0 ≤ ((i : Nat) : Int) ∧ ((i : Nat) : Int).toNat < b.Tabs.length := ⟨by omega, by simpa using hlt⟩
    have hi2 : 0 ≤ ((i : Nat) : Int) ∧ ((i : Nat) : Int).toNat < (remTo b ext).Tabs.length := ⟨by omega, by rw [htl]; exact hi1.2⟩
    have hxt := rem_tab (ext := ext) hi1.2 hi2.2
    have h66 := tab_sz66 (hb.ok.tabs _ (List.getElem_mem hi1.2))
    have hx66 := tab_sz66 (hx.tabs _ (List.getElem_mem hi2.2))
    have hd1 := tab_szD (b.Tabs[((i : Nat) : Int).toNat]'hi1.2)
    have hd2 := tab_szD ((remTo b ext).Tabs[((i : Nat) : Int).toNat]'hi2.2)
    obtain ⟨pcs, hpr, hpld⟩ := rd_loadx u1 (i := ((i : Nat) : Int)) hi2
    have hpr0 := hpr
    obtain ⟨_, _, _, rfl, a1, a2, a3⟩ := GTab.inv hpr
    obtain ⟨ycs, hyr, hyld⟩ := rd_loadx t1 (i := ((i : Nat) : Int)) hi1
    obtain ⟨_, _, _, rfl, y1, y2, y3⟩ := GTab.inv hyr
    have t1' := t1.ext hE
    repeat' ((conv => whnf) <;> first
     | (refine rd_lenm u1' ?_; intro hml) | (refine hyld _ hE _ ?_) | (refine hpld _ hE _ ?_) | (show CondP _ _ _; refine cS ?_) | refine rI rdA rf ix ?_ | refine draw_intro 73 [.fl 0, .fl 1, .fl 2, .fl 3, .fl 4, .fl 6, .fl 7, .fl 8, .fl 9, .fl 10, .fl 11, .fl 12, .fl 13, .fl 14, .fl 15, .fl 16, .fl 17, .fl 18, .st 5 [6, 7, 8, 9, 10, 11, 12, 13, 14, 15, 16, 17, 18], .st 19 [], .st 20 [], .fl 21, .fl 22, .fl 23, .fl 24, .fl 25, .fl 26, .fl 27, .fl 28, .fl 29, .st 30 [], .fl 31, .fl 32, .fl 33] (by rfl) (by kernel_rfl) ?_)
    all_goals try (exfalso; omega)
    (conv => whnf)
    refine callP_intro (ev_iTabDocument _ _ _ (hpr0.ext hE) (by omega)) ?_; rintro _ S5 ⟨e5, k5, rfl, f5⟩
    have E5 := hE.trans e5
    repeat' ((conv => whnf) <;> first
     | (refine hyld _ E5 _ ?_) | refine rI rdA rf ix ?_ | refine And.intro ?_ ?_)
    (conv => whnf)
    refine callP_intro (ev_TakeBack _ _ ext _ _ _ (y1.ext E5) (y2.ext E5) (by omega) (by omega)) ?_; rintro _ S6 ⟨e6, k6, rfl, f6⟩
    have E6 := E5.trans e6
    have q5 := f5.rd.ext e6
    have heq := ev_EqDocs _ _ _ _ _ q5 f6.rd
    rw [decide_eq_true (show runEdits ((remTo b ext).Tabs[((i : Nat) : Int).toNat]'hi2.2).Base ((remTo b ext).Tabs[((i : Nat) : Int).toNat]'hi2.2).Edits = runEdits (b.Tabs[((i : Nat) : Int).toNat]'hi1.2).Base ((b.Tabs[((i : Nat) : Int).toNat]'hi1.2).Edits.filter (edNot ext)) by rw [hxt]; rfl)] at heq
    repeat' ((conv => whnf) <;> first
     | (refine hpld _ E6 _ ?_) | (refine callP_eq heq ?_) | refine cF ?_ | refine rI rdA rf ix ?_)
    all_goals try (exfalso; simp_all; done)
    (conv => whnf)
    refine callP_intro (ev_iEditsBy _ ext _ _ (a2.ext E6) (by omega)) ?_; rintro _ S7 ⟨e7, k7, rfl, f7⟩
    have q7 := f7.rd
    have he0 : (((remTo b ext).Tabs[((i : Nat) : Int).toNat]'hi2.2).Edits.filter (edBy1 ext)).length = 0 := by rw [hxt]; exact rem_edits _ _
    repeat' ((conv => whnf) <;> first
     | (refine rd_lenm q7 ?_; intro hml) | rw [wrapI_i64 (by omega)] | (show CondP _ _ _; refine cS ?_))
    all_goals first
      | (exfalso; omega)
      | (refine ⟨⟨(i + 1, S7), by dsimp only; omega, E6.trans e7⟩, ?_, rfl, by dsimp only; omega⟩; (conv => whnf); repeat' (first | exact trivial | exact rfl | apply And.intro))
  repeat' ((conv => whnf) <;> first
   | (refine rd_lenm u1' ?_; intro hml) | (show CondP _ _ _; refine cS ?_) | refine draw_intro 107 [.fl 0, .fl 1, .fl 2, .fl 3, .fl 4, .st 5 [0, 1], .st 6 [], .fl 7, .fl 8, .fl 9, .fl 10, .fl 11, .fl 12, .st 13 [8, 9], .st 14 [], .fl 15, .st 16 []] (by rfl) (by kernel_rfl) ?_)
  all_goals try (exfalso; omega)
  (conv => whnf)
  refine callP_intro (ev_iDropStored b.Store ext _ _ (t6.ext hE) (by omega)) ?_; rintro _ S8 ⟨e8, k8, rfl, f8⟩
  have E8 := hE.trans e8
  have heq8 := ev_iEqStores _ _ _ _ _ (u6.ext E8) f8.rd
  rw [decide_eq_true (show (remTo b ext).Store = b.Store.filter (stNot ext) from rfl)] at heq8
  repeat' ((conv => whnf) <;> first
   | (refine callP_eq heq8 ?_) | refine cT ?_ | refine And.intro ?_ ?_)
  all_goals try (exfalso; simp_all; done)
  (conv => whnf)
  refine callP_intro (ev_iDropRules b.Rules ext _ _ (t5.ext E8) (by omega)) ?_; rintro _ S9 ⟨e9, k9, rfl, f9⟩
  have heq9 := ev_iEqRules _ _ _ _ _ (u5.ext (E8.trans e9)) f9.rd
  rw [decide_eq_true (show (remTo b ext).Rules = b.Rules.filter (rBut ext) from rfl)] at heq9
  repeat' ((conv => whnf) <;> first
   | (refine callP_eq heq9 ?_) | refine And.intro ?_ ?_)
  all_goals first
    | rfl
    | (exfalso; omega)
    | (exfalso; simp_all; done)
    | (show _ = _; simp [resAV]; done)
end Go.Proofs.YtockphlpokoohaaGreat
namespace Go.Proofs.YtockphlpokoohaaGreat
open Go Go.ChangeShapes Go.WideShapes Go.ChangeAt Go.RowKit
set_option linter.unusedVariables false
set_option linter.unusedSimpArgs false
section
variable {P : Program} {S : Store}
theorem wt_int {m : Nat} {t : TypeId} {k : IntKind} {cs : List C} (ht : P.underlying t = some (.int k)) (h : WT P S m t cs) : ∃ z : Int, Rd S [.x (.int k z)] cs := by
  cases m with
  | zero => exact h.elim
  | succ m =>
    unfold WT at h
    rw [ht] at h
    obtain ⟨z, rfl, _⟩ := h
    exact ⟨z, rd_x rd_nil⟩
theorem rep2_of {α : Type} {f : α → List D} : ∀ (rows : List (List C)), (∀ x ∈ rows, ∃ y : α, Rd S (f y) x) → ∃ (l : List α) (js : List Nat), l.length = rows.length ∧ Rep2 false S (l.map f) rows js
  | [], _ => ⟨[], [], rfl, by rw [List.map_nil, rep2_nil]; exact ⟨rfl, rfl⟩⟩
  | x :: rows, h => by
    obtain ⟨y, i, hy⟩ := h x (by simp)
    obtain ⟨l, js, h1, h2⟩ := rep2_of rows (fun z hz => h z (by simp [hz]))
    exact ⟨y :: l, i ++ js, by simp [h1], by rw [List.map_cons, rep2_cons]; exact ⟨x, rows, i, js, rfl, rfl, hy, h2⟩⟩
theorem wt_slice {α : Type} {f : α → List D} {m : Nat} {t e : TypeId} {k : Nat} {cs : List C} (ht : P.underlying t = some (.slice e)) (hk : P.cellsOf e = k) (hel : ∀ m cs, WT P S m e cs → ∃ y : α, Rd S (f y) cs) (h : WT P S m t cs) : ∃ l : List α, Rd S [.sl k (l.map f)] cs := by
  cases m with
  | zero => exact h.elim
  | succ m =>
    unfold WT at h
    rw [ht] at h
    obtain ⟨c, rows, rfl, he, hl, hc, hx⟩ := h
    obtain ⟨l, js, h1, h2⟩ := rep2_of (f := f) rows fun x hx' => hel m x (hx x hx')
    rcases hc with rfl | rfl | ⟨id, rfl, hid⟩
    · have : rows = [] := by simpa [elems] using he.symm
      subst this
      have : l = [] := List.eq_nil_of_length_eq_zero h1
      subst this
      exact ⟨[], rd_one (q := false) (ids := []) (by unfold Rep; exact ⟨Nat.zero_le _, .inl ⟨rfl, .inl rfl, rfl⟩⟩)⟩
    · have : rows = [] := by simpa [elems] using he.symm
      subst this
      have : l = [] := List.eq_nil_of_length_eq_zero h1
      subst this
      exact ⟨[], rd_one (q := false) (ids := []) (by unfold Rep; exact ⟨Nat.zero_le _, .inl ⟨rfl, .inr rfl, rfl⟩⟩)⟩
    · refine ⟨l, rd_one (q := false) (ids := id :: js) ?_⟩
      unfold Rep
      refine ⟨by simpa [h1] using hl, .inr ⟨id, 0, rows.length, _, js, by simp [h1], rfl, hid, hk, rfl, by simp [h1], (by intro h; cases h), ?_⟩⟩
      simp only
      rw [List.drop_zero, List.take_of_length_le (by simp [h1])]
      exact h2
theorem vt_sc {m : Nat} {t : TypeId} {d : TypeDesc} {v : V} (ht : P.underlying t = some d) (hd : ∀ fs, d ≠ .struct fs) (h : VT P S m t v) : ∃ c, v = .s c ∧ WT P S m t [c] := by
  unfold VT at h
  rw [ht] at h
  split at h
  · rename_i fs he; cases he; exact absurd rfl (hd fs)
  · exact h
end
theorem own : ownKnob Tryz.prog.godebug = none := by kernel_rfl
theorem laidOut : laidOutB Tryz.prog = true := by kernel_rfl
end Go.Proofs.YtockphlpokoohaaGreat
