/- A text of the proof. -/
import Derived.Test.YtockphlpokoohaaGreatKa36
namespace Go.Proofs.YtockphlpokoohaaGreat
open Go Go.ChangeShapes Go.WideShapes Go.ChangeAt Go.RowKit
set_option linter.unusedVariables false
set_option linter.unusedSimpArgs false
set_option maxRecDepth 100000
theorem ev_l24Find (l : List GStored) (ext name : Int) (c : C) (S : Store) (h : Rd S [.sl 4 (l.map GStored.d)] [c]) : EvA Tryz.prog 327 [.s c, .s (.int .i64 ext), .s (.int .i64 name)] S (fun r S' => S' = S ∧ ∃ x : Int, (-1 ≤ x ∧ x < l.length) ∧ r = .v (.s (.int .i64 x))) := by
  refine evA_intro tok Tryz.func327 (by kernel_rfl) rfl ?_
  repeat' ((conv => whnf) <;> first
   | rw [wrapI_i64 (by omega)] | refine cD (fun _ => ?_) fun _ => ?_ | refine cE (fun _ => ?_) fun _ => ?_ | refine cT ?_ | refine cF ?_ | refine cN (fun _ => ?_) fun _ => ?_ | refine cI (fun _ => ?_) fun _ => ?_ | refine rE fun hml => ?_ | refine rI aN rf ix ?_ | refine rd_loadf aN tv ix ?_ | refine nP ?_ | refine And.intro ?_ ?_)
  refine loop_intro {i : Nat // i ≤ l.length ∧ True} [6, 7, 8, 9, 10, 11, 12, 13, 14, 15, 16, 17, 18, 19, 20, 21, 22, 23, 24, 25, 26, 27, 28, 29, 30] (fun zb => [(7, .v (.s (.int .i64 zb.1)))]) (fun _ => S) (fun zb => l.length - zb.1) ⟨0, Nat.zero_le _, trivial⟩ ?_ rfl ?_
  · (conv => whnf); repeat' (first | exact trivial | exact rfl | apply And.intro)
  rintro ⟨i, hi, hinv⟩; dsimp only
  repeat' ((conv => whnf) <;> first
   | rw [wrapI_i64 (by omega)] | refine cD (fun _ => ?_) fun _ => ?_ | refine cE (fun _ => ?_) fun _ => ?_ | refine cT ?_ | refine cF ?_ | refine cN (fun _ => ?_) fun _ => ?_ | refine cI (fun _ => ?_) fun _ => ?_ | refine rE fun hml => ?_ | refine rI aN rf ix ?_ | refine rd_loadf aN tv ix ?_ | refine nP ?_ | refine And.intro ?_ ?_)
  all_goals first
    | rfl
    | exact ⟨_, by omega, rfl⟩
    | (refine ⟨⟨i + 1, by omega, trivial⟩, ?_, rfl, by simp; omega⟩; (conv => whnf); repeat' (first | exact trivial | exact rfl | apply And.intro))
set_option maxHeartbeats 2000000 in
theorem ev_l24Set (l : List GStored) (x : GStored) (c : C) (S : Store) (h : Rd S [.sl 4 (l.map GStored.d)] [c]) (hz : l.length ≤ 1048576) : EvA Tryz.prog 328 [.s c, .agg x.c] S (fun r S' => Ext S S' ∧ ∃ m : List GStored, (m.length ≤ l.length + 1 ∧ ∀ y ∈ m, y ∈ l ∨ y = x) ∧ ∃ c', r = .v (.s c') ∧ Fr S.length S' [.sl 4 (m.map GStored.d)] [c']) := by
  refine evA_intro tok Tryz.func328 (by kernel_rfl) rfl ?_
  repeat' ((conv => whnf) <;> first
   | rw [wrapI_i64 (by omega)] | refine cD (fun _ => ?_) fun _ => ?_ | refine cE (fun _ => ?_) fun _ => ?_ | refine cT ?_ | refine cF ?_ | refine cN (fun _ => ?_) fun _ => ?_ | refine cI (fun _ => ?_) fun _ => ?_ | refine callP_eq (ev_l24Less _ _ _) ?_ | refine rE fun hml => ?_ | refine rI rdA rf ix ?_ | refine rd_loadf rdA tv ix ?_ | (refine rd_slif rdA rf om ?_; intro cSl hSl) | refine nP ?_ | refine draw_intro 8 [.fl 0, .fl 1, .fl 2, .fl 3, .fl 4, .fl 5, .fl 6, .fl 7, .fl 8, .fl 9, .st 10 [], .fl 11] (by rfl) (by kernel_rfl) ?_ | refine draw_intro 33 [.fl 0, .fl 1, .fl 2, .fl 3, .fl 4, .fl 5, .fl 6, .fl 7, .fl 8, .fl 9, .st 10 [], .fl 11, .fl 12] (by rfl) (by kernel_rfl) ?_ | refine And.intro ?_ ?_)
  refine loop_intro {q : Nat × Store × C // q.1 ≤ l.length ∧ Ext S q.2.1 ∧ Fr S.length q.2.1 [.sl 4 ((l.take q.1).map GStored.d)] [q.2.2]} [5, 6, 8, 9, 10, 11, 12, 13, 14, 15, 16, 17, 18, 19, 20, 21, 22, 23, 24, 25, 26, 27, 28] (fun zb => [(6, .v (.s (.int .i64 (zb.1.1)))), (5, .v (.s zb.1.2.2))]) (fun zb => zb.1.2.1) (fun zb => l.length - zb.1.1) ⟨(0, _, _), Nat.zero_le _, ⟨Ext.push _ _, fr_lit0⟩⟩ ?_ rfl ?_
  · (conv => whnf); repeat' (first | exact trivial | exact rfl | apply And.intro)
  rintro ⟨⟨i, Si, ci⟩, hi, hP⟩; dsimp only
  replace hi : i ≤ l.length := hi
  replace hP : Ext S Si ∧ Fr S.length Si [.sl 4 ((l.take i).map GStored.d)] [ci] := hP
  obtain ⟨hE, hF⟩ := hP
  have htl : (l.take i).length = i := by rw [List.length_take]; omega
  repeat' ((conv => whnf) <;> first
   | (refine rd_loadf (h.ext aN) tv ix ?_) | (refine rI (h.ext aN) rf ix ?_) | (refine rd_lenm (h.ext (by assumption)) ?_; intro hml; rw [maxLen_eq] at hml) | rw [wrapI_i64 (by omega)] | refine cD (fun _ => ?_) fun _ => ?_ | refine cE (fun _ => ?_) fun _ => ?_ | refine cT ?_ | refine cF ?_ | refine cN (fun _ => ?_) fun _ => ?_ | refine cI (fun _ => ?_) fun _ => ?_ | refine callP_eq (ev_l24Less _ _ _) ?_ | refine rE fun hml => ?_ | refine rI rdA rf ix ?_ | refine rd_loadf rdA tv ix ?_ | (refine rd_slif rdA rf om ?_; intro cSl hSl) | refine nP ?_ | refine draw_intro 8 [.fl 0, .fl 1, .fl 2, .fl 3, .fl 4, .fl 5, .fl 6, .fl 7, .fl 8, .fl 9, .st 10 [], .fl 11] (by rfl) (by kernel_rfl) ?_ | refine draw_intro 33 [.fl 0, .fl 1, .fl 2, .fl 3, .fl 4, .fl 5, .fl 6, .fl 7, .fl 8, .fl 9, .st 10 [], .fl 11, .fl 12] (by rfl) (by kernel_rfl) ?_ | (fail) | (refine fr_app_flat (f := GStored.d) (l := l.take i) (m := [_]) (fun _ => trivial) hE hF rfl rf (by dsimp only [T174]; simp only [List.length_singleton]; omega) (by rw [maxLen_eq]; simp only [List.length_singleton]; omega) ?_; intro cN SN hEN hFN hlN) | (refine rd_slhf (h.ext hEN) rf om ?_; intro cH hH) | (refine rd_elemsf (f := GStored.d) hH tv (fun _ => ?_)) | (refine fr_app_flat (f := GStored.d) (l := l.take i ++ [x]) (fun _ => trivial) hEN hFN rfl rf (by dsimp only [T174]; simp only [List.length_append, List.length_singleton, List.length_drop]; omega) (by rw [maxLen_eq]; simp only [List.length_append, List.length_singleton, List.length_drop]; omega) ?_; intro cB SB hEB hFB hlB) | refine And.intro ?_ ?_)
  all_goals first
    | assumption
    | (refine ⟨_, ⟨?_, fun y hy => ?_⟩, _, rfl, hFB⟩
       · simp only [List.length_append, List.length_singleton, List.length_drop]; omega
       · rcases List.mem_append.1 hy with hy | hy
         · rcases List.mem_append.1 hy with hy | hy
           · exact .inl (List.mem_of_mem_take hy)
           · exact .inr (List.mem_singleton.1 hy)
         · exact .inl (List.mem_of_mem_drop hy))
    | (refine ⟨⟨(i + 1, _, _), by dsimp only; omega, hEN, by rw [← List.take_append_getElem (by omega)]; exact hFN⟩, ?_, rfl, by dsimp only; omega⟩; (conv => whnf); repeat' (first | exact trivial | exact rfl | apply And.intro))
set_option maxHeartbeats 2000000 in
theorem ev_sPutStored (l : List GStored) (ext name value : Int) (c : C) (S : Store) (h : Rd S [.sl 4 (l.map GStored.d)] [c]) (hz : l.length ≤ 1048576) : EvA Tryz.prog 272 [.s c, .s (.int .i64 ext), .s (.int .i64 name), .s (.int .i64 value)] S (fun r S' => Ext S S' ∧ ∃ (m : List GStored) (b : Bool), (m.length ≤ l.length + 1 ∧ (b = false → m = l) ∧ (b = true → isStore m = true ∧ ∀ y ∈ m, y ∈ l ∨ y.Ext = ext)) ∧ ∃ c', r = .tup [.s c', .s (.bool b)] ∧ Fr S.length S' [.sl 4 (m.map GStored.d)] [c']) := by
  cases hS : isStore l
  · refine evA_intro tok Tryz.func272 (by kernel_rfl) rfl ?_
    repeat' ((conv => whnf) <;> first
     | rw [wrapI_i64 (by omega)] | (show CondP _ _ _; refine cS ?_) | refine cD (fun _ => ?_) fun _ => ?_ | refine cE (fun _ => ?_) fun _ => ?_ | refine cT ?_ | refine cF ?_ | refine cN (fun _ => ?_) fun _ => ?_ | refine cI (fun _ => ?_) fun _ => ?_ | refine callP_eq (ev_sIsStore _ _ _ rdA) ?_ | (refine callP_intro (ev_l24Find _ _ _ _ _ rdA) ?_; rintro _ Sn ⟨rfl, xn, hxn, rfl⟩) | (refine callP_intro (ev_l24Set _ _ _ _ rdA om) ?_; rintro _ Sn ⟨hEn, mn, hmn, cn, rfl, hFn⟩) | refine rI rdA rf ix ?_ | refine rd_loadf rdA tv ix ?_ | refine nP ?_ | (refine rd_elemsf (f := GStored.d) (l := l) (h.ext (by first | exact Ext.refl _ | exact Ext.push _ _)) tv (fun _ => ?_)) | (refine fr_clone (f := GStored.d) (l := l) tv rf (by dsimp only [T174]; omega) om ?_; intro cX SX hEX hFX) | refine And.intro ?_ ?_)
    all_goals first
      | assumption
      | exact ⟨l, false, ⟨by omega, fun _ => rfl, fun hh => Bool.noConfusion hh⟩, _, rfl, hFX⟩
      | (exfalso; simp_all; done)
  refine evA_intro tok Tryz.func272 (by kernel_rfl) rfl ?_
  repeat' ((conv => whnf) <;> first
   | rw [wrapI_i64 (by omega)] | (show CondP _ _ _; refine cS ?_) | refine cD (fun _ => ?_) fun _ => ?_ | refine cE (fun _ => ?_) fun _ => ?_ | refine cT ?_ | refine cF ?_ | refine cN (fun _ => ?_) fun _ => ?_ | refine cI (fun _ => ?_) fun _ => ?_ | refine callP_eq (ev_sIsStore _ _ _ rdA) ?_ | refine rI rdA rf ix ?_ | refine rd_loadf rdA tv ix ?_ | refine nP ?_ | refine And.intro ?_ ?_)
  (conv => whnf)
  refine callP_intro (ev_l24Find l ext name _ _ h) ?_; rintro _ _ ⟨rfl, x, hx, rfl⟩
  by_cases hx0 : 0 ≤ x
  case' pos =>
    have hx1 : 0 ≤ x ∧ x.toNat < l.length := by omega
    repeat' ((conv => whnf) <;> first
     | (refine rd_loadf h tv hx1 ?_) | (refine rI h rf hx1 ?_) | rw [wrapI_i64 (by omega)] | (show CondP _ _ _; refine cS ?_) | refine cD (fun _ => ?_) fun _ => ?_ | refine cE (fun _ => ?_) fun _ => ?_ | refine cT ?_ | refine cF ?_ | refine cN (fun _ => ?_) fun _ => ?_ | refine cI (fun _ => ?_) fun _ => ?_ | refine callP_eq (ev_sIsStore _ _ _ rdA) ?_ | refine rI rdA rf ix ?_ | refine rd_loadf rdA tv ix ?_ | refine nP ?_ | refine And.intro ?_ ?_)
    all_goals try (exfalso; omega)
    (conv => whnf)
    refine callP_intro (ev_l24Set l ⟨ext, name, value, _⟩ _ _ h hz) ?_; rintro _ S2 ⟨e2, m, hm, c2, rfl, f2⟩
  case' neg =>
    repeat' ((conv => whnf) <;> first
     | rw [wrapI_i64 (by omega)] | (show CondP _ _ _; refine cS ?_) | refine cD (fun _ => ?_) fun _ => ?_ | refine cE (fun _ => ?_) fun _ => ?_ | refine cT ?_ | refine cF ?_ | refine cN (fun _ => ?_) fun _ => ?_ | refine cI (fun _ => ?_) fun _ => ?_ | refine callP_eq (ev_sIsStore _ _ _ rdA) ?_ | refine rI rdA rf ix ?_ | refine rd_loadf rdA tv ix ?_ | refine nP ?_ | refine And.intro ?_ ?_)
    all_goals try (exfalso; omega)
    (conv => whnf)
    refine callP_intro (ev_l24Set l ⟨ext, name, value, 1⟩ _ _ h hz) ?_; rintro _ S2 ⟨e2, m, hm, c2, rfl, f2⟩
  all_goals
    have r2 := f2.rd
    have h2 := h.ext e2
    cases hM : isStore m
    case' false =>
      repeat' ((conv => whnf) <;> first
       | (refine callP_eq (ev_sIsStore m _ _ r2) ?_) | rw [wrapI_i64 (by omega)] | (show CondP _ _ _; refine cS ?_) | refine cD (fun _ => ?_) fun _ => ?_ | refine cE (fun _ => ?_) fun _ => ?_ | refine cT ?_ | refine cF ?_ | refine cN (fun _ => ?_) fun _ => ?_ | refine cI (fun _ => ?_) fun _ => ?_ | refine callP_eq (ev_sIsStore _ _ _ rdA) ?_ | (refine callP_intro (ev_l24Find _ _ _ _ _ rdA) ?_; rintro _ Sn ⟨rfl, xn, hxn, rfl⟩) | (refine callP_intro (ev_l24Set _ _ _ _ rdA om) ?_; rintro _ Sn ⟨hEn, mn, hmn, cn, rfl, hFn⟩) | refine rI rdA rf ix ?_ | refine rd_loadf rdA tv ix ?_ | refine nP ?_ | (refine rd_elemsf (f := GStored.d) (l := l) (h2.ext (by first | exact Ext.refl _ | exact Ext.push _ _)) tv (fun _ => ?_)) | (refine fr_clone (f := GStored.d) (l := l) tv rf (by dsimp only [T174]; omega) om ?_; intro cX SX hEX hFX) | refine And.intro ?_ ?_)
    case' true =>
      repeat' ((conv => whnf) <;> first
       | (refine callP_eq (ev_sIsStore m _ _ r2) ?_) | rw [wrapI_i64 (by omega)] | (show CondP _ _ _; refine cS ?_) | refine cD (fun _ => ?_) fun _ => ?_ | refine cE (fun _ => ?_) fun _ => ?_ | refine cT ?_ | refine cF ?_ | refine cN (fun _ => ?_) fun _ => ?_ | refine cI (fun _ => ?_) fun _ => ?_ | refine callP_eq (ev_sIsStore _ _ _ rdA) ?_ | (refine callP_intro (ev_l24Find _ _ _ _ _ rdA) ?_; rintro _ Sn ⟨rfl, xn, hxn, rfl⟩) | (refine callP_intro (ev_l24Set _ _ _ _ rdA om) ?_; rintro _ Sn ⟨hEn, mn, hmn, cn, rfl, hFn⟩) | refine rI rdA rf ix ?_ | refine rd_loadf rdA tv ix ?_ | refine nP ?_ | refine And.intro ?_ ?_)
  all_goals first
    | exact e2.trans hEX
    | exact e2
    | exact ⟨l, false, ⟨by omega, fun _ => rfl, fun hh => Bool.noConfusion hh⟩, _, rfl, hFX.mono e2.len⟩
    | exact ⟨m, true, ⟨hm.1, fun hh => Bool.noConfusion hh, fun _ => ⟨hM, fun y hy => (hm.2 y hy).imp id fun h => by rw [h]⟩⟩, _, rfl, f2⟩
    | (exfalso; simp_all; done)
end Go.Proofs.YtockphlpokoohaaGreat
