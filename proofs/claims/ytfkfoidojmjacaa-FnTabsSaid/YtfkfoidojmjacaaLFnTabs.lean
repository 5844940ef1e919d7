/- FnTabs returns true for every argument. No condition. -/
import Derived.Test.YtfkfoidojmjacaaFnZxc
import Derived.Test.YtfkfoidojmjacaaFnZxd
import Derived.Test.YtfkfoidojmjacaaAeN
namespace Go.Proofs.Ytfkfoidojmjacaa
open Go Go.ChangeShapes Go.WideShapes Go.ChangeAt Go.RowKit
set_option linter.unusedVariables false
set_option linter.unusedSimpArgs false
set_option maxRecDepth 100000

theorem tab_sz (t : GTab) : szL t.d = t.Base.length + (t.Edits.length + t.Hidden.length) := by
  simp only [GTab.d, szL, List.length_map]
  rw [szLL_flat (f := GNode.d) (by intro x; simp only [szL, GNode.d]), szLL_flat (f := GEdit.d) (by intro x; simp only [szL, GEdit.d]), szLL_flat (f := dInt) (by intro x; simp only [szL, dInt])]
  omega
set_option maxHeartbeats 8000000 in
/-- the law -/
theorem ev_law (x0 : List Int) (c0 : C) (S : Store) (h0 : Rd S [.sl 1 (x0.map dByte)] [c0]) : EvA Try.prog 3 [.s c0] S (fun r _ => r = .v (.s (.bool true))) := by
  refine evA_intro tok Try.func3 (by kernel_rfl) rfl ?_
  by_cases hbig : 1048576 < (x0.length : Int)
  · repeat' ((conv => whnf) <;> first
     | rw [wrapI_i64 (by omega)] | (show CondP _ _ _; refine cS ?_) | refine cD (fun _ => ?_) fun _ => ?_ | refine cE (fun _ => ?_) fun _ => ?_ | refine cT ?_ | refine cF ?_ | refine cN (fun _ => ?_) fun _ => ?_ | refine cI (fun _ => ?_) fun _ => ?_ | refine callP_eq (ev_big _ _ _ rdA) ?_ | (refine callP_intro (ev_DrawTabWithout _ rdA om) ?_; rintro _ Sn ⟨hEn, tn, byn, hzn, _, _, _, rfl, hFn⟩) | (refine callP_intro (ev_iTabWithout _ _ _ _ rdcA (by (first | omega | exact sz_at hz om | (simp only [szL]; omega)))) ?_; rintro _ Sn ⟨hEn, _, _, _, rfl, hFn⟩) | refine callP_eq (ev_iIsTab _ _ _ rdcA) ?_ | refine callP_eq (ev_iIsDocument _ _ _ rdA) ?_ | (refine callP_intro (ev_iTabDocument _ _ _ rdcA (by (first | omega | exact sz_at hz om | (simp only [szL]; omega)))) ?_; rintro _ Sn ⟨hEn, cn, rfl, hFn⟩) | refine callP_eq (ev_EqDocs _ _ _ _ _ rdA rdA) ?_ | (refine callP_intro (ev_TakeBack _ _ _ _ _ _ rdA rdA om om) ?_; rintro _ Sn ⟨hEn, cn, rfl, hFn⟩) | (refine callP_intro (ev_DrawOpenTab _ rdA om) ?_; rintro _ Sn ⟨hEn, sn, bn, gn, hzn, _, _, rfl, hFn⟩) | (refine callP_intro (ev_iOpenTab _ _ _ _ _ _ rdA rdA om) ?_; rintro _ Sn ⟨hEn, _, _, _, rfl, hFn⟩) | (refine callP_intro (ev_iOpenTab ⟨_, _⟩ _ _ _ _ _ rdA rdA om) ?_; rintro _ Sn ⟨hEn, _, _, _, rfl, hFn⟩) | (refine callP_eq (ev_iIsClicked _ _ _ _ rdcA) ?_) | (refine callP_intro (ev_DrawIsClicked _ rdA om) ?_; rintro _ Sn ⟨hEn, tn, byn, hzn, hbn, _, _, _, rfl, hFn⟩) | (refine callP_intro (ev_DrawEqualTabs _ rdA om) ?_; rintro _ Sn ⟨hEn, tn, un, hzn, hzu, _, _, _, _, _, _, rfl, hFn⟩) | (refine callP_eq (ev_iEqualTabs _ _ _ _ _ rdcA rdcA) ?_) | refine nP ?_ | refine draw_intro 25 [.fl 0, .st 1 [], .fl 2, .fl 3, .st 4 [], .fl 5, .fl 6, .fl 7, .st 8 [], .st 9 [], .fl 10, .fl 11, .fl 12, .fl 13, .fl 14, .fl 16, .fl 17, .fl 18, .fl 19, .fl 20, .st 15 [16, 17, 18, 19, 20], .st 21 [], .st 22 [], .fl 23, .fl 24] (by rfl) (by kernel_rfl) ?_ | refine draw_intro 101 [.fl 0, .fl 1, .fl 3, .fl 4, .st 2 [3, 4], .st 5 [], .fl 6, .fl 7, .fl 8, .fl 9, .st 10 [], .fl 11, .st 12 []] (by rfl) (by kernel_rfl) ?_ | refine And.intro ?_ ?_)
    all_goals first
      | rfl
      | (exfalso; omega)
  have hz : x0.length ≤ 1048576 := by omega
  repeat' ((conv => whnf) <;> first
   | rw [wrapI_i64 (by omega)] | (show CondP _ _ _; refine cS ?_) | refine cD (fun _ => ?_) fun _ => ?_ | refine cE (fun _ => ?_) fun _ => ?_ | refine cT ?_ | refine cF ?_ | refine cN (fun _ => ?_) fun _ => ?_ | refine cI (fun _ => ?_) fun _ => ?_ | refine callP_eq (ev_big _ _ _ rdA) ?_ | refine callP_eq (ev_iIsTab _ _ _ rdcA) ?_ | refine callP_eq (ev_iIsDocument _ _ _ rdA) ?_ | refine callP_eq (ev_EqDocs _ _ _ _ _ rdA rdA) ?_ | (refine callP_eq (ev_iIsClicked _ _ _ _ rdcA) ?_) | (refine callP_eq (ev_iEqualTabs _ _ _ _ _ rdcA rdcA) ?_) | refine nP ?_ | refine draw_intro 25 [.fl 0, .st 1 [], .fl 2, .fl 3, .st 4 [], .fl 5, .fl 6, .fl 7, .st 8 [], .st 9 [], .fl 10, .fl 11, .fl 12, .fl 13, .fl 14, .fl 16, .fl 17, .fl 18, .fl 19, .fl 20, .st 15 [16, 17, 18, 19, 20], .st 21 [], .st 22 [], .fl 23, .fl 24] (by rfl) (by kernel_rfl) ?_ | refine draw_intro 101 [.fl 0, .fl 1, .fl 3, .fl 4, .st 2 [3, 4], .st 5 [], .fl 6, .fl 7, .fl 8, .fl 9, .st 10 [], .fl 11, .st 12 []] (by rfl) (by kernel_rfl) ?_ | refine And.intro ?_ ?_)
  (conv => whnf)
  refine callP_intro (ev_DrawTabWithout x0 h0 hz) ?_; rintro _ S1 ⟨e1, t, by', hzt, c2, c3, c4, rfl, f1⟩
  have hzd := tab_sz t
  have hzf := List.length_filter_le (edNot by') t.Edits
  have hzx := tab_sz (tabWithout t by')
  have hze : (tabWithout t by').Edits.length ≤ t.Edits.length := hzf
  have hzb : (tabWithout t by').Base.length = t.Base.length := rfl
  have hzh : (tabWithout t by').Hidden.length = t.Hidden.length := rfl
  have r1 := f1.rd
  have h1 := h0.ext e1
  repeat' ((conv => whnf) <;> first
   | rw [wrapI_i64 (by omega)] | (show CondP _ _ _; refine cS ?_) | refine cD (fun _ => ?_) fun _ => ?_ | refine cE (fun _ => ?_) fun _ => ?_ | refine cT ?_ | refine cF ?_ | refine cN (fun _ => ?_) fun _ => ?_ | refine cI (fun _ => ?_) fun _ => ?_ | refine callP_eq (ev_big _ _ _ rdA) ?_ | refine callP_eq (ev_iIsTab _ _ _ rdcA) ?_ | refine callP_eq (ev_iIsDocument _ _ _ rdA) ?_ | refine callP_eq (ev_EqDocs _ _ _ _ _ rdA rdA) ?_ | (refine callP_eq (ev_iIsClicked _ _ _ _ rdcA) ?_) | (refine callP_eq (ev_iEqualTabs _ _ _ _ _ rdcA rdcA) ?_) | refine nP ?_ | refine draw_intro 25 [.fl 0, .st 1 [], .fl 2, .fl 3, .st 4 [], .fl 5, .fl 6, .fl 7, .st 8 [], .st 9 [], .fl 10, .fl 11, .fl 12, .fl 13, .fl 14, .fl 16, .fl 17, .fl 18, .fl 19, .fl 20, .st 15 [16, 17, 18, 19, 20], .st 21 [], .st 22 [], .fl 23, .fl 24] (by rfl) (by kernel_rfl) ?_ | refine draw_intro 101 [.fl 0, .fl 1, .fl 3, .fl 4, .st 2 [3, 4], .st 5 [], .fl 6, .fl 7, .fl 8, .fl 9, .st 10 [], .fl 11, .st 12 []] (by rfl) (by kernel_rfl) ?_ | refine And.intro ?_ ?_)
  (conv => whnf)
  refine callP_intro (ev_iTabWithout t by' _ _ r1 (by omega)) ?_; rintro _ S2 ⟨e2, d2, d3, d4, rfl, f2⟩
  have q1 := r1.ext e2
  have q2 := f2.rd
  have h2 := h1.ext e2
  clear f1 f2 r1 h0 h1
  obtain ⟨_, _, _, b1, b2, b3, b4⟩ := GTab.inv q1
  injection b1 with _ b1; injection b1 with _ b1; injection b1 with b5 b1; injection b1 with b6 b1; injection b1 with b7 b1
  subst b5; subst b6; subst b7
  have hEq : runEdits (tabWithout t by').Base (tabWithout t by').Edits = runEdits t.Base (t.Edits.filter (edNot by')) := rfl
  cases hT : isTab t
  case' false =>
    repeat' ((conv => whnf) <;> first
     | rw [wrapI_i64 (by omega)] | (show CondP _ _ _; refine cS ?_) | refine cD (fun _ => ?_) fun _ => ?_ | refine cE (fun _ => ?_) fun _ => ?_ | refine cT ?_ | refine cF ?_ | refine cN (fun _ => ?_) fun _ => ?_ | refine cI (fun _ => ?_) fun _ => ?_ | refine callP_eq (ev_big _ _ _ rdA) ?_ | refine callP_eq (ev_iIsTab _ _ _ rdcA) ?_ | refine callP_eq (ev_iIsDocument _ _ _ rdA) ?_ | refine callP_eq (ev_EqDocs _ _ _ _ _ rdA rdA) ?_ | (refine callP_eq (ev_iIsClicked _ _ _ _ rdcA) ?_) | (refine callP_eq (ev_iEqualTabs _ _ _ _ _ rdcA rdcA) ?_) | refine nP ?_ | refine draw_intro 25 [.fl 0, .st 1 [], .fl 2, .fl 3, .st 4 [], .fl 5, .fl 6, .fl 7, .st 8 [], .st 9 [], .fl 10, .fl 11, .fl 12, .fl 13, .fl 14, .fl 16, .fl 17, .fl 18, .fl 19, .fl 20, .st 15 [16, 17, 18, 19, 20], .st 21 [], .st 22 [], .fl 23, .fl 24] (by rfl) (by kernel_rfl) ?_ | refine draw_intro 101 [.fl 0, .fl 1, .fl 3, .fl 4, .st 2 [3, 4], .st 5 [], .fl 6, .fl 7, .fl 8, .fl 9, .st 10 [], .fl 11, .st 12 []] (by rfl) (by kernel_rfl) ?_ | refine And.intro ?_ ?_)
    (conv => whnf)
    refine callP_intro (ev_iTabDocument (tabWithout t by') _ _ q2 (by omega)) ?_; rintro _ S3 ⟨e3, k3, rfl, f3⟩
    repeat' ((conv => whnf) <;> first
     | rw [wrapI_i64 (by omega)] | (show CondP _ _ _; refine cS ?_) | refine cD (fun _ => ?_) fun _ => ?_ | refine cE (fun _ => ?_) fun _ => ?_ | refine cT ?_ | refine cF ?_ | refine cN (fun _ => ?_) fun _ => ?_ | refine cI (fun _ => ?_) fun _ => ?_ | refine callP_eq (ev_big _ _ _ rdA) ?_ | refine callP_eq (ev_iIsTab _ _ _ rdcA) ?_ | refine callP_eq (ev_iIsDocument _ _ _ rdA) ?_ | refine callP_eq (ev_EqDocs _ _ _ _ _ rdA rdA) ?_ | (refine callP_eq (ev_iIsClicked _ _ _ _ rdcA) ?_) | (refine callP_eq (ev_iEqualTabs _ _ _ _ _ rdcA rdcA) ?_) | refine nP ?_ | refine draw_intro 25 [.fl 0, .st 1 [], .fl 2, .fl 3, .st 4 [], .fl 5, .fl 6, .fl 7, .st 8 [], .st 9 [], .fl 10, .fl 11, .fl 12, .fl 13, .fl 14, .fl 16, .fl 17, .fl 18, .fl 19, .fl 20, .st 15 [16, 17, 18, 19, 20], .st 21 [], .st 22 [], .fl 23, .fl 24] (by rfl) (by kernel_rfl) ?_ | refine draw_intro 101 [.fl 0, .fl 1, .fl 3, .fl 4, .st 2 [3, 4], .st 5 [], .fl 6, .fl 7, .fl 8, .fl 9, .st 10 [], .fl 11, .st 12 []] (by rfl) (by kernel_rfl) ?_ | refine And.intro ?_ ?_)
    (conv => whnf)
    refine callP_intro (ev_TakeBack t.Base t.Edits by' _ _ _ (b2.ext e3) (b3.ext e3) (by omega) (by omega)) ?_; rintro _ S5 ⟨e4, k4, rfl, f4⟩
    have f3r := f3.rd.ext e4
    have f4r := f4.rd
    have e5 := e3.trans e4
    repeat' ((conv => whnf) <;> first
     | (refine callP_eq (ev_EqDocs _ _ _ _ _ f3r f4r) ?_) | rw [wrapI_i64 (by omega)] | (show CondP _ _ _; refine cS ?_) | refine cD (fun _ => ?_) fun _ => ?_ | refine cE (fun _ => ?_) fun _ => ?_ | refine cT ?_ | refine cF ?_ | refine cN (fun _ => ?_) fun _ => ?_ | refine cI (fun _ => ?_) fun _ => ?_ | refine callP_eq (ev_big _ _ _ rdA) ?_ | refine callP_eq (ev_iIsTab _ _ _ rdcA) ?_ | refine callP_eq (ev_iIsDocument _ _ _ rdA) ?_ | refine callP_eq (ev_EqDocs _ _ _ _ _ rdA rdA) ?_ | (refine callP_eq (ev_iIsClicked _ _ _ _ rdcA) ?_) | (refine callP_eq (ev_iEqualTabs _ _ _ _ _ rdcA rdcA) ?_) | refine nP ?_ | refine draw_intro 25 [.fl 0, .st 1 [], .fl 2, .fl 3, .st 4 [], .fl 5, .fl 6, .fl 7, .st 8 [], .st 9 [], .fl 10, .fl 11, .fl 12, .fl 13, .fl 14, .fl 16, .fl 17, .fl 18, .fl 19, .fl 20, .st 15 [16, 17, 18, 19, 20], .st 21 [], .st 22 [], .fl 23, .fl 24] (by rfl) (by kernel_rfl) ?_ | refine draw_intro 101 [.fl 0, .fl 1, .fl 3, .fl 4, .st 2 [3, 4], .st 5 [], .fl 6, .fl 7, .fl 8, .fl 9, .st 10 [], .fl 11, .st 12 []] (by rfl) (by kernel_rfl) ?_ | refine And.intro ?_ ?_)
    clear f3 f4 f3r f4r e3 e4
  case' true =>
    have hX := isTab_without (by' := by') hT
    have hdoc := tab_doc hT
    repeat' ((conv => whnf) <;> first
     | rw [wrapI_i64 (by omega)] | (show CondP _ _ _; refine cS ?_) | refine cD (fun _ => ?_) fun _ => ?_ | refine cE (fun _ => ?_) fun _ => ?_ | refine cT ?_ | refine cF ?_ | refine cN (fun _ => ?_) fun _ => ?_ | refine cI (fun _ => ?_) fun _ => ?_ | refine callP_eq (ev_big _ _ _ rdA) ?_ | refine callP_eq (ev_iIsTab _ _ _ rdcA) ?_ | refine callP_eq (ev_iIsDocument _ _ _ rdA) ?_ | refine callP_eq (ev_EqDocs _ _ _ _ _ rdA rdA) ?_ | (refine callP_eq (ev_iIsClicked _ _ _ _ rdcA) ?_) | (refine callP_eq (ev_iEqualTabs _ _ _ _ _ rdcA rdcA) ?_) | refine nP ?_ | refine draw_intro 25 [.fl 0, .st 1 [], .fl 2, .fl 3, .st 4 [], .fl 5, .fl 6, .fl 7, .st 8 [], .st 9 [], .fl 10, .fl 11, .fl 12, .fl 13, .fl 14, .fl 16, .fl 17, .fl 18, .fl 19, .fl 20, .st 15 [16, 17, 18, 19, 20], .st 21 [], .st 22 [], .fl 23, .fl 24] (by rfl) (by kernel_rfl) ?_ | refine draw_intro 101 [.fl 0, .fl 1, .fl 3, .fl 4, .st 2 [3, 4], .st 5 [], .fl 6, .fl 7, .fl 8, .fl 9, .st 10 [], .fl 11, .st 12 []] (by rfl) (by kernel_rfl) ?_ | refine And.intro ?_ ?_)
    (conv => whnf)
    refine callP_intro (ev_iTabDocument t _ _ q1 (by omega)) ?_; rintro _ S3 ⟨e3, k3, rfl, f3⟩
    have f3r := f3.rd
    have q3 := q2.ext e3
    repeat' ((conv => whnf) <;> first
     | (refine callP_eq (ev_iIsDocument _ _ _ f3r) ?_) | rw [wrapI_i64 (by omega)] | (show CondP _ _ _; refine cS ?_) | refine cD (fun _ => ?_) fun _ => ?_ | refine cE (fun _ => ?_) fun _ => ?_ | refine cT ?_ | refine cF ?_ | refine cN (fun _ => ?_) fun _ => ?_ | refine cI (fun _ => ?_) fun _ => ?_ | refine callP_eq (ev_big _ _ _ rdA) ?_ | refine callP_eq (ev_iIsTab _ _ _ rdcA) ?_ | refine callP_eq (ev_iIsDocument _ _ _ rdA) ?_ | refine callP_eq (ev_EqDocs _ _ _ _ _ rdA rdA) ?_ | (refine callP_eq (ev_iIsClicked _ _ _ _ rdcA) ?_) | (refine callP_eq (ev_iEqualTabs _ _ _ _ _ rdcA rdcA) ?_) | refine nP ?_ | refine draw_intro 25 [.fl 0, .st 1 [], .fl 2, .fl 3, .st 4 [], .fl 5, .fl 6, .fl 7, .st 8 [], .st 9 [], .fl 10, .fl 11, .fl 12, .fl 13, .fl 14, .fl 16, .fl 17, .fl 18, .fl 19, .fl 20, .st 15 [16, 17, 18, 19, 20], .st 21 [], .st 22 [], .fl 23, .fl 24] (by rfl) (by kernel_rfl) ?_ | refine draw_intro 101 [.fl 0, .fl 1, .fl 3, .fl 4, .st 2 [3, 4], .st 5 [], .fl 6, .fl 7, .fl 8, .fl 9, .st 10 [], .fl 11, .st 12 []] (by rfl) (by kernel_rfl) ?_ | refine And.intro ?_ ?_)
    (conv => whnf)
    refine callP_intro (ev_iTabDocument (tabWithout t by') _ _ q3 (by omega)) ?_; rintro _ S4 ⟨e4, k4, rfl, f4⟩
    have e34 := e3.trans e4
    repeat' ((conv => whnf) <;> first
     | rw [wrapI_i64 (by omega)] | (show CondP _ _ _; refine cS ?_) | refine cD (fun _ => ?_) fun _ => ?_ | refine cE (fun _ => ?_) fun _ => ?_ | refine cT ?_ | refine cF ?_ | refine cN (fun _ => ?_) fun _ => ?_ | refine cI (fun _ => ?_) fun _ => ?_ | refine callP_eq (ev_big _ _ _ rdA) ?_ | refine callP_eq (ev_iIsTab _ _ _ rdcA) ?_ | refine callP_eq (ev_iIsDocument _ _ _ rdA) ?_ | refine callP_eq (ev_EqDocs _ _ _ _ _ rdA rdA) ?_ | (refine callP_eq (ev_iIsClicked _ _ _ _ rdcA) ?_) | (refine callP_eq (ev_iEqualTabs _ _ _ _ _ rdcA rdcA) ?_) | refine nP ?_ | refine draw_intro 25 [.fl 0, .st 1 [], .fl 2, .fl 3, .st 4 [], .fl 5, .fl 6, .fl 7, .st 8 [], .st 9 [], .fl 10, .fl 11, .fl 12, .fl 13, .fl 14, .fl 16, .fl 17, .fl 18, .fl 19, .fl 20, .st 15 [16, 17, 18, 19, 20], .st 21 [], .st 22 [], .fl 23, .fl 24] (by rfl) (by kernel_rfl) ?_ | refine draw_intro 101 [.fl 0, .fl 1, .fl 3, .fl 4, .st 2 [3, 4], .st 5 [], .fl 6, .fl 7, .fl 8, .fl 9, .st 10 [], .fl 11, .st 12 []] (by rfl) (by kernel_rfl) ?_ | refine And.intro ?_ ?_)
    (conv => whnf)
    refine callP_intro (ev_TakeBack t.Base t.Edits by' _ _ _ (b2.ext e34) (b3.ext e34) (by omega) (by omega)) ?_; rintro _ S5 ⟨e5', k5, rfl, f5⟩
    have f4r := f4.rd.ext e5'
    have f5r := f5.rd
    have e5 := e34.trans e5'
    repeat' ((conv => whnf) <;> first
     | (refine callP_eq (ev_EqDocs _ _ _ _ _ f4r f5r) ?_) | rw [wrapI_i64 (by omega)] | (show CondP _ _ _; refine cS ?_) | refine cD (fun _ => ?_) fun _ => ?_ | refine cE (fun _ => ?_) fun _ => ?_ | refine cT ?_ | refine cF ?_ | refine cN (fun _ => ?_) fun _ => ?_ | refine cI (fun _ => ?_) fun _ => ?_ | refine callP_eq (ev_big _ _ _ rdA) ?_ | refine callP_eq (ev_iIsTab _ _ _ rdcA) ?_ | refine callP_eq (ev_iIsDocument _ _ _ rdA) ?_ | refine callP_eq (ev_EqDocs _ _ _ _ _ rdA rdA) ?_ | (refine callP_eq (ev_iIsClicked _ _ _ _ rdcA) ?_) | (refine callP_eq (ev_iEqualTabs _ _ _ _ _ rdcA rdcA) ?_) | refine nP ?_ | refine draw_intro 25 [.fl 0, .st 1 [], .fl 2, .fl 3, .st 4 [], .fl 5, .fl 6, .fl 7, .st 8 [], .st 9 [], .fl 10, .fl 11, .fl 12, .fl 13, .fl 14, .fl 16, .fl 17, .fl 18, .fl 19, .fl 20, .st 15 [16, 17, 18, 19, 20], .st 21 [], .st 22 [], .fl 23, .fl 24] (by rfl) (by kernel_rfl) ?_ | refine draw_intro 101 [.fl 0, .fl 1, .fl 3, .fl 4, .st 2 [3, 4], .st 5 [], .fl 6, .fl 7, .fl 8, .fl 9, .st 10 [], .fl 11, .st 12 []] (by rfl) (by kernel_rfl) ?_ | refine And.intro ?_ ?_)
    clear f3 f4 f5 f3r f4r f5r e3 e4 e5' e34
  all_goals
    have h5 := h2.ext e5
    clear e5 h2 q1 q2 b2 b3 b4 e1 e2
    (conv => whnf)
    refine callP_intro (ev_DrawOpenTab x0 h5 hz) ?_; rintro _ S6 ⟨e6, s, bs, hd, hzo, k2', k4', rfl, f6⟩
    have w1 : Rd S6 [.sl 5 (bs.map GNode.d)] [k2'] := f6.rdAt (o := 0) rfl rfl
    have w2 : Rd S6 [.sl 1 (hd.map dInt)] [k4'] := f6.rdAt (o := 1) rfl rfl
    have h6 := h5.ext e6
    clear f6 h5 e6
    repeat' ((conv => whnf) <;> first
     | rw [wrapI_i64 (by omega)] | (show CondP _ _ _; refine cS ?_) | refine cD (fun _ => ?_) fun _ => ?_ | refine cE (fun _ => ?_) fun _ => ?_ | refine cT ?_ | refine cF ?_ | refine cN (fun _ => ?_) fun _ => ?_ | refine cI (fun _ => ?_) fun _ => ?_ | refine callP_eq (ev_big _ _ _ rdA) ?_ | refine callP_eq (ev_iIsTab _ _ _ rdcA) ?_ | refine callP_eq (ev_iIsDocument _ _ _ rdA) ?_ | refine callP_eq (ev_EqDocs _ _ _ _ _ rdA rdA) ?_ | (refine callP_eq (ev_iIsClicked _ _ _ _ rdcA) ?_) | (refine callP_eq (ev_iEqualTabs _ _ _ _ _ rdcA rdcA) ?_) | refine nP ?_ | refine draw_intro 25 [.fl 0, .st 1 [], .fl 2, .fl 3, .st 4 [], .fl 5, .fl 6, .fl 7, .st 8 [], .st 9 [], .fl 10, .fl 11, .fl 12, .fl 13, .fl 14, .fl 16, .fl 17, .fl 18, .fl 19, .fl 20, .st 15 [16, 17, 18, 19, 20], .st 21 [], .st 22 [], .fl 23, .fl 24] (by rfl) (by kernel_rfl) ?_ | refine draw_intro 101 [.fl 0, .fl 1, .fl 3, .fl 4, .st 2 [3, 4], .st 5 [], .fl 6, .fl 7, .fl 8, .fl 9, .st 10 [], .fl 11, .st 12 []] (by rfl) (by kernel_rfl) ?_ | refine And.intro ?_ ?_)
    (conv => whnf)
    refine callP_intro (ev_iOpenTab s bs hd _ _ _ w1 w2 (by omega)) ?_; rintro _ S7 ⟨e7, m2, m3, m4, rfl, f7⟩
    have w3 := w1.ext e7
    have h7 := h6.ext e7
    have hzn : szL (newTab s bs hd).d = bs.length + (0 + hd.length) := tab_sz _
    have hC : isClicked (newTab s bs hd) 0 = false := rfl
    have hRE : runEdits (newTab s bs hd).Base (newTab s bs hd).Edits = bs := rfl
    clear w1 w2 h6 e7
    cases hO : isTab (newTab s bs hd)
    case' false =>
      rw [show openTab s bs hd = (default, false) from by unfold openTab; rw [hO]; rfl] at f7 ⊢
      repeat' ((conv => whnf) <;> first
       | rw [wrapI_i64 (by omega)] | (show CondP _ _ _; refine cS ?_) | refine cD (fun _ => ?_) fun _ => ?_ | refine cE (fun _ => ?_) fun _ => ?_ | refine cT ?_ | refine cF ?_ | refine cN (fun _ => ?_) fun _ => ?_ | refine cI (fun _ => ?_) fun _ => ?_ | refine callP_eq (ev_big _ _ _ rdA) ?_ | refine callP_eq (ev_iIsTab _ _ _ rdcA) ?_ | refine callP_eq (ev_iIsDocument _ _ _ rdA) ?_ | refine callP_eq (ev_EqDocs _ _ _ _ _ rdA rdA) ?_ | (refine callP_eq (ev_iIsClicked _ _ _ _ rdcA) ?_) | (refine callP_eq (ev_iEqualTabs _ _ _ _ _ rdcA rdcA) ?_) | refine nP ?_ | refine draw_intro 25 [.fl 0, .st 1 [], .fl 2, .fl 3, .st 4 [], .fl 5, .fl 6, .fl 7, .st 8 [], .st 9 [], .fl 10, .fl 11, .fl 12, .fl 13, .fl 14, .fl 16, .fl 17, .fl 18, .fl 19, .fl 20, .st 15 [16, 17, 18, 19, 20], .st 21 [], .st 22 [], .fl 23, .fl 24] (by rfl) (by kernel_rfl) ?_ | refine draw_intro 101 [.fl 0, .fl 1, .fl 3, .fl 4, .st 2 [3, 4], .st 5 [], .fl 6, .fl 7, .fl 8, .fl 9, .st 10 [], .fl 11, .st 12 []] (by rfl) (by kernel_rfl) ?_ | refine And.intro ?_ ?_)
      clear f7 w3
    case' true =>
      rw [show openTab s bs hd = (newTab s bs hd, true) from by unfold openTab; rw [hO]; rfl] at f7 ⊢
      have w7 := f7.rd
      repeat' ((conv => whnf) <;> first
       | rw [wrapI_i64 (by omega)] | (show CondP _ _ _; refine cS ?_) | refine cD (fun _ => ?_) fun _ => ?_ | refine cE (fun _ => ?_) fun _ => ?_ | refine cT ?_ | refine cF ?_ | refine cN (fun _ => ?_) fun _ => ?_ | refine cI (fun _ => ?_) fun _ => ?_ | refine callP_eq (ev_big _ _ _ rdA) ?_ | refine callP_eq (ev_iIsTab _ _ _ rdcA) ?_ | refine callP_eq (ev_iIsDocument _ _ _ rdA) ?_ | refine callP_eq (ev_EqDocs _ _ _ _ _ rdA rdA) ?_ | (refine callP_eq (ev_iIsClicked _ _ _ _ rdcA) ?_) | (refine callP_eq (ev_iEqualTabs _ _ _ _ _ rdcA rdcA) ?_) | refine nP ?_ | refine draw_intro 25 [.fl 0, .st 1 [], .fl 2, .fl 3, .st 4 [], .fl 5, .fl 6, .fl 7, .st 8 [], .st 9 [], .fl 10, .fl 11, .fl 12, .fl 13, .fl 14, .fl 16, .fl 17, .fl 18, .fl 19, .fl 20, .st 15 [16, 17, 18, 19, 20], .st 21 [], .st 22 [], .fl 23, .fl 24] (by rfl) (by kernel_rfl) ?_ | refine draw_intro 101 [.fl 0, .fl 1, .fl 3, .fl 4, .st 2 [3, 4], .st 5 [], .fl 6, .fl 7, .fl 8, .fl 9, .st 10 [], .fl 11, .st 12 []] (by rfl) (by kernel_rfl) ?_ | refine And.intro ?_ ?_)
      (conv => whnf)
      refine callP_intro (ev_iTabDocument (newTab s bs hd) _ _ w7 (by omega)) ?_; rintro _ S8 ⟨e8, k8, rfl, f8⟩
      have f8r := f8.rd
      have w8 := w3.ext e8
      have w78 := w7.ext e8
      replace h7 := h7.ext e8
      repeat' ((conv => whnf) <;> first
       | (refine callP_eq (ev_iIsClicked (newTab s bs hd) 0 _ _ w78) ?_) | (refine callP_eq (ev_EqDocs _ _ _ _ _ f8r w8) ?_) | rw [wrapI_i64 (by omega)] | (show CondP _ _ _; refine cS ?_) | refine cD (fun _ => ?_) fun _ => ?_ | refine cE (fun _ => ?_) fun _ => ?_ | refine cT ?_ | refine cF ?_ | refine cN (fun _ => ?_) fun _ => ?_ | refine cI (fun _ => ?_) fun _ => ?_ | refine callP_eq (ev_big _ _ _ rdA) ?_ | refine callP_eq (ev_iIsTab _ _ _ rdcA) ?_ | refine callP_eq (ev_iIsDocument _ _ _ rdA) ?_ | refine callP_eq (ev_EqDocs _ _ _ _ _ rdA rdA) ?_ | (refine callP_eq (ev_iIsClicked _ _ _ _ rdcA) ?_) | (refine callP_eq (ev_iEqualTabs _ _ _ _ _ rdcA rdcA) ?_) | refine nP ?_ | refine draw_intro 25 [.fl 0, .st 1 [], .fl 2, .fl 3, .st 4 [], .fl 5, .fl 6, .fl 7, .st 8 [], .st 9 [], .fl 10, .fl 11, .fl 12, .fl 13, .fl 14, .fl 16, .fl 17, .fl 18, .fl 19, .fl 20, .st 15 [16, 17, 18, 19, 20], .st 21 [], .st 22 [], .fl 23, .fl 24] (by rfl) (by kernel_rfl) ?_ | refine draw_intro 101 [.fl 0, .fl 1, .fl 3, .fl 4, .st 2 [3, 4], .st 5 [], .fl 6, .fl 7, .fl 8, .fl 9, .st 10 [], .fl 11, .st 12 []] (by rfl) (by kernel_rfl) ?_ | refine And.intro ?_ ?_)
      clear f7 f8 f8r w3 w7 w8 w78 e8
  all_goals
    (conv => whnf)
    refine callP_intro (ev_DrawIsClicked x0 h7 hz) ?_; rintro _ S9 ⟨e9, u, tk, hzu, htk, u2, u3, u4, rfl, f9⟩
    have w9 := f9.rd
    have h9 := h7.ext e9
    clear f9 h7
    cases hK : isClicked u tk
    case' false =>
      repeat' ((conv => whnf) <;> first
       | (refine callP_eq (ev_iIsClicked u tk _ _ w9) ?_) | rw [wrapI_i64 (by omega)] | (show CondP _ _ _; refine cS ?_) | refine cD (fun _ => ?_) fun _ => ?_ | refine cE (fun _ => ?_) fun _ => ?_ | refine cT ?_ | refine cF ?_ | refine cN (fun _ => ?_) fun _ => ?_ | refine cI (fun _ => ?_) fun _ => ?_ | refine callP_eq (ev_big _ _ _ rdA) ?_ | refine callP_eq (ev_iIsTab _ _ _ rdcA) ?_ | refine callP_eq (ev_iIsDocument _ _ _ rdA) ?_ | refine callP_eq (ev_EqDocs _ _ _ _ _ rdA rdA) ?_ | (refine callP_eq (ev_iIsClicked _ _ _ _ rdcA) ?_) | (refine callP_eq (ev_iEqualTabs _ _ _ _ _ rdcA rdcA) ?_) | refine nP ?_ | refine draw_intro 25 [.fl 0, .st 1 [], .fl 2, .fl 3, .st 4 [], .fl 5, .fl 6, .fl 7, .st 8 [], .st 9 [], .fl 10, .fl 11, .fl 12, .fl 13, .fl 14, .fl 16, .fl 17, .fl 18, .fl 19, .fl 20, .st 15 [16, 17, 18, 19, 20], .st 21 [], .st 22 [], .fl 23, .fl 24] (by rfl) (by kernel_rfl) ?_ | refine draw_intro 101 [.fl 0, .fl 1, .fl 3, .fl 4, .st 2 [3, 4], .st 5 [], .fl 6, .fl 7, .fl 8, .fl 9, .st 10 [], .fl 11, .st 12 []] (by rfl) (by kernel_rfl) ?_ | refine And.intro ?_ ?_)
    case' true =>
      have hkb : u.Click ≤ tk ∧ tk ≤ u.Click + 2 ∧ 0 ≤ u.Click ∧ u.Click ≤ 10000 := by
        simp only [isClicked, inR, Bool.and_eq_true, decide_eq_true_eq] at hK; omega
      repeat' ((conv => whnf) <;> first
       | (refine callP_eq (ev_iIsClicked u tk _ _ w9) ?_) | rw [wrapI_i64 (by omega)] | (show CondP _ _ _; refine cS ?_) | refine cD (fun _ => ?_) fun _ => ?_ | refine cE (fun _ => ?_) fun _ => ?_ | refine cT ?_ | refine cF ?_ | refine cN (fun _ => ?_) fun _ => ?_ | refine cI (fun _ => ?_) fun _ => ?_ | refine callP_eq (ev_big _ _ _ rdA) ?_ | refine callP_eq (ev_iIsTab _ _ _ rdcA) ?_ | refine callP_eq (ev_iIsDocument _ _ _ rdA) ?_ | refine callP_eq (ev_EqDocs _ _ _ _ _ rdA rdA) ?_ | (refine callP_eq (ev_iIsClicked _ _ _ _ rdcA) ?_) | (refine callP_eq (ev_iEqualTabs _ _ _ _ _ rdcA rdcA) ?_) | refine nP ?_ | refine draw_intro 25 [.fl 0, .st 1 [], .fl 2, .fl 3, .st 4 [], .fl 5, .fl 6, .fl 7, .st 8 [], .st 9 [], .fl 10, .fl 11, .fl 12, .fl 13, .fl 14, .fl 16, .fl 17, .fl 18, .fl 19, .fl 20, .st 15 [16, 17, 18, 19, 20], .st 21 [], .st 22 [], .fl 23, .fl 24] (by rfl) (by kernel_rfl) ?_ | refine draw_intro 101 [.fl 0, .fl 1, .fl 3, .fl 4, .st 2 [3, 4], .st 5 [], .fl 6, .fl 7, .fl 8, .fl 9, .st 10 [], .fl 11, .st 12 []] (by rfl) (by kernel_rfl) ?_ | refine And.intro ?_ ?_)
  all_goals
    (conv => whnf)
    refine callP_intro (ev_DrawEqualTabs x0 h9 hz) ?_; rintro _ S10 ⟨e10, a, b, hza, hzb', a2, a3, a4, b2', b3', b4', rfl, f10⟩
    have wa : Rd S10 a.d [.int .i64 a.Site.Owner, .int .i64 a.Site.Sub, a2, a3, a4, .int .i64 a.Click] := (Fr.left f10 rfl).rd
    have wb : Rd S10 b.d [.int .i64 b.Site.Owner, .int .i64 b.Site.Sub, b2', b3', b4', .int .i64 b.Click] := (Fr.rest f10 rfl).rd
    have hsym : (decide (a = b) == decide (b = a)) = true := by
      by_cases hab : a = b
      · subst hab; simp
      · have hba : ¬ b = a := fun h => hab h.symm
        simp [hab, hba]
    have hself : decide (a = a) = true := decide_eq_true rfl
    repeat' ((conv => whnf) <;> first
     | (refine callP_eq (ev_iEqualTabs a a _ _ _ wa wa) ?_) | (refine callP_eq (ev_iEqualTabs b a _ _ _ wb wa) ?_) | (refine callP_eq (ev_iEqualTabs a b _ _ _ wa wb) ?_) | rw [wrapI_i64 (by omega)] | (show CondP _ _ _; refine cS ?_) | refine cD (fun _ => ?_) fun _ => ?_ | refine cE (fun _ => ?_) fun _ => ?_ | refine cT ?_ | refine cF ?_ | refine cN (fun _ => ?_) fun _ => ?_ | refine cI (fun _ => ?_) fun _ => ?_ | refine callP_eq (ev_big _ _ _ rdA) ?_ | (refine callP_intro (ev_DrawTabWithout _ rdA om) ?_; rintro _ Sn ⟨hEn, tn, byn, hzn, _, _, _, rfl, hFn⟩) | (refine callP_intro (ev_iTabWithout _ _ _ _ rdcA (by (first | omega | exact sz_at hz om | (simp only [szL]; omega)))) ?_; rintro _ Sn ⟨hEn, _, _, _, rfl, hFn⟩) | refine callP_eq (ev_iIsTab _ _ _ rdcA) ?_ | refine callP_eq (ev_iIsDocument _ _ _ rdA) ?_ | (refine callP_intro (ev_iTabDocument _ _ _ rdcA (by (first | omega | exact sz_at hz om | (simp only [szL]; omega)))) ?_; rintro _ Sn ⟨hEn, cn, rfl, hFn⟩) | refine callP_eq (ev_EqDocs _ _ _ _ _ rdA rdA) ?_ | (refine callP_intro (ev_TakeBack _ _ _ _ _ _ rdA rdA om om) ?_; rintro _ Sn ⟨hEn, cn, rfl, hFn⟩) | (refine callP_intro (ev_DrawOpenTab _ rdA om) ?_; rintro _ Sn ⟨hEn, sn, bn, gn, hzn, _, _, rfl, hFn⟩) | (refine callP_intro (ev_iOpenTab _ _ _ _ _ _ rdA rdA om) ?_; rintro _ Sn ⟨hEn, _, _, _, rfl, hFn⟩) | (refine callP_intro (ev_iOpenTab ⟨_, _⟩ _ _ _ _ _ rdA rdA om) ?_; rintro _ Sn ⟨hEn, _, _, _, rfl, hFn⟩) | (refine callP_eq (ev_iIsClicked _ _ _ _ rdcA) ?_) | (refine callP_intro (ev_DrawIsClicked _ rdA om) ?_; rintro _ Sn ⟨hEn, tn, byn, hzn, hbn, _, _, _, rfl, hFn⟩) | (refine callP_intro (ev_DrawEqualTabs _ rdA om) ?_; rintro _ Sn ⟨hEn, tn, un, hzn, hzu, _, _, _, _, _, _, rfl, hFn⟩) | (refine callP_eq (ev_iEqualTabs _ _ _ _ _ rdcA rdcA) ?_) | refine nP ?_ | refine draw_intro 25 [.fl 0, .st 1 [], .fl 2, .fl 3, .st 4 [], .fl 5, .fl 6, .fl 7, .st 8 [], .st 9 [], .fl 10, .fl 11, .fl 12, .fl 13, .fl 14, .fl 16, .fl 17, .fl 18, .fl 19, .fl 20, .st 15 [16, 17, 18, 19, 20], .st 21 [], .st 22 [], .fl 23, .fl 24] (by rfl) (by kernel_rfl) ?_ | refine draw_intro 101 [.fl 0, .fl 1, .fl 3, .fl 4, .st 2 [3, 4], .st 5 [], .fl 6, .fl 7, .fl 8, .fl 9, .st 10 [], .fl 11, .st 12 []] (by rfl) (by kernel_rfl) ?_ | refine And.intro ?_ ?_)
  all_goals first
    | rfl
    | (exfalso; omega)
    | (show _ = _; simp [hsym, resAV]; done)
  all_goals trace_state

theorem wtT22 {S : Store} (m : Nat) (cs : List C) (h : WT Try.prog S m 22 cs) : ∃ l : List Int, Rd S [.sl 1 (l.map dByte)] cs :=
  wt_slice Try.underlying22 (by kernel_rfl) (fun m cs h => wt_int Try.underlying5 h) h
theorem ev_args (S : Store) (avs : List V) (h : All2 (VT Try.prog S 8) Try.f3.params.toList avs) : EvA Try.prog 3 avs S (fun r _ => r = .v (.s (.bool true))) := by
  have g0 : All2 (VT Try.prog S 8) [22] avs := h
  clear h
  obtain ⟨v0, q0, e0, h0, g1⟩ := all2_cons g0
  subst e0
  obtain ⟨c0, f0, w0⟩ := vt_sc Try.underlying22 (by intro fs h; cases h) h0
  subst f0
  obtain ⟨x0, r0⟩ := wtT22 _ _ w0
  have e' := all2_nil g1
  subst e'
  exact ev_law x0 _ S r0

set_option maxRecDepth 100000 in
theorem ev_calls (H : Type) (enc : TypeId × Value → H) (W : World) (base : Nat) (args : Array Value) (ds gs : List (DataW H)) (before : List MemPlace)
    (hval : ∀ (j : Nat) t v, Try.f3.params[j]? = some t → args[j]? = some v → Value.okWide Try.prog W .any base t v)
    (hW : DataW.Whole enc Try.prog Try.f3.params.toList Rows.fnTabsSpec.vars false W args.toList ds gs before) (htab : Tab0 W) :
    Calls Try.prog 3 args W fun e W' => ∃ v, e = .returned v ∧ Rows.fnTabsSpec.post enc Try.prog Try.f3 false true false false W args v W' :=
  law_calls (P := Try.prog) (f := 3) (fn := Try.f3) (s := Rows.fnTabsSpec) (m := 8) laidOut (by kernel_rfl) (by kernel_rfl) rfl (fun H ds h => by
    have h : ds.length = 1 := h
    match ds, h with
    | [d0], _ => rfl) (tb := 4) rfl Try.underlying4 (fun S avs _ h => ev_args S avs h) hval hW htab

set_option maxRecDepth 100000 in
theorem ev_lifted (os : Os) (started : os.Started) (H : Type) (enc : TypeId × Value → H) :
    ReturnsInHanded {} Try.checked os 3 .any (Rows.fnTabsSpec.pre6 enc Try.prog Try.f3 Rows.fnTabsRow.domain false) (Rows.fnTabsSpec.post enc Try.prog Try.f3 false true false false) :=
  returnsInHanded_of_change (C := Try.checked) own started (by kernel_rfl) Try.func3
    (ChangeSpec.witness6 (enc := enc) (C := Try.checked) false ⟨#[], #[.slice none 0 0], []⟩ 8 (by kernel_rfl) (by kernel_rfl) (by kernel_rfl) (by kernel_rfl))
    (fun W base args ds gs before hval hW _ _ => ev_calls H enc W base args ds gs before hval hW (fun _ _ h => by cases h))

set_option maxRecDepth 100000 in
set_option maxHeartbeats 4000000 in
/-- the row's facts, each checked by itself (in one go they take the kernel more than its memory at a seat of 300 functions) -/
theorem closed : joinedFacts Try.prog 3 Try.f3 Rows.fnTabsSpec Rows.fnTabsRow = true := by
  unfold joinedFacts
  iterate 31 refine Bool.and_eq_true_iff.2 ⟨?_, by as_aux_lemma => kernel_rfl⟩
  as_aux_lemma => kernel_rfl

theorem fnTabs_holds : Rows.FnTabsSaid :=
  OpenClaim.holds_of_wide 3 Try.f3 rfl rfl rfl rfl rfl rfl rfl ⟨rfl, rfl, rfl, rfl, rfl⟩ rfl rfl rfl rfl rfl (by kernel_rfl) Try.func3 closed
    (of_decide_eq_true (by kernel_rfl)) (by unfold Func.isWrapper; first | (rw [if_pos (by decide +kernel)]; kernel_rfl) | (rw [if_neg (by decide +kernel)]; exact ⟨rfl, rfl⟩))
    (fun os started H enc _ => ev_lifted os started H enc)
end Go.Proofs.Ytfkfoidojmjacaa
