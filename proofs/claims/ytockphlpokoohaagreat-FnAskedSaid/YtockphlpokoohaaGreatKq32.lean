/- A text of the proof. -/
import Derived.Test.YtockphlpokoohaaGreatKq30
import Derived.Test.YtockphlpokoohaaGreatKq28
import Derived.Test.YtockphlpokoohaaGreatKq31
namespace Go.Proofs.YtockphlpokoohaaGreat
open Go Go.ChangeShapes Go.WideShapes Go.ChangeAt Go.RowKit
set_option linter.unusedVariables false
set_option linter.unusedSimpArgs false
set_option maxRecDepth 100000
theorem ex_l9Pattern {o s : Int} (h1 : 0 ≤ o ∧ o ≤ 9) (h2 : -1 ≤ s ∧ s ≤ 9) : ∃ x : GPattern, (isPattern x = true) ∧ AV.v (.agg [.int .i64 o, .int .i64 s]) = .v (.agg x.c) :=
  ⟨⟨o, s⟩, by simp only [isPattern, inR, Bool.and_eq_true, decide_eq_true_eq]; omega, rfl⟩
theorem ev_l9Pattern {id : Nat} {S : Store} (h : Cur id S) : EvA Tryz.prog 302 [.s (.pt id)] S (fun r S' => Drw id S S' ∧ ∃ x : GPattern, (isPattern x = true) ∧ r = .v (.agg x.c)) := by
  have hlt := h.lt
  have hD := Drw.refl h
  have hF : Fr S.length S [] [] := fr_nil
  refine evA_intro tok Tryz.func302 (by kernel_rfl) rfl ?_
  repeat' ((conv => whnf) <;> first
   | rw [wrapI_i64 (by omega)] | (refine callP_intro (ev_l1Below _ hD.cur) ?_; rintro _ Sn ⟨hDn, xn, hxn, rfl⟩; replace hF := hF.drw hlt hDn; replace hD := hD.trans hDn; clear hDn) | refine nP ?_ | refine And.intro ?_ ?_)
  all_goals first
    | exact hD
    | exact ex_l9Pattern (by omega) (by omega)
theorem ex_l11Draw {e k : Int} {p : GPattern} (h1 : 0 ≤ e ∧ e ≤ 5) (hp : isPattern p = true) (h2 : 0 ≤ k ∧ k ≤ 4) : ∃ x : GLimit, (isLimit x = true) ∧ AV.v (.agg [.int .i64 e, .int .i64 p.Owner, .int .i64 p.Sub, .int .i64 k]) = .v (.agg x.c) :=
  ⟨⟨e, p, k⟩, by simp only [isLimit, inR, Bool.and_eq_true, decide_eq_true_eq]; exact ⟨⟨by omega, hp⟩, by omega⟩, rfl⟩
theorem ev_l11Draw {id : Nat} {S : Store} (h : Cur id S) : EvA Tryz.prog 257 [.s (.pt id)] S (fun r S' => Drw id S S' ∧ ∃ x : GLimit, (isLimit x = true) ∧ r = .v (.agg x.c)) := by
  have hlt := h.lt
  have hD := Drw.refl h
  have hF : Fr S.length S [] [] := fr_nil
  refine evA_intro tok Tryz.func257 (by kernel_rfl) rfl ?_
  repeat' ((conv => whnf) <;> first
   | (refine callP_intro (ev_l1Below _ hD.cur) ?_; rintro _ Sn ⟨hDn, xn, hxn, rfl⟩; replace hF := hF.drw hlt hDn; replace hD := hD.trans hDn; clear hDn) | (refine callP_intro (ev_l9Pattern hD.cur) ?_; rintro _ Sn ⟨hDn, pn, hpn, rfl⟩; replace hF := hF.drw hlt hDn; replace hD := hD.trans hDn; clear hDn) | refine nP ?_ | refine And.intro ?_ ?_)
  all_goals first
    | exact hD
    | exact ex_l11Draw (by omega) (by assumption) (by omega)
theorem ex_l13D {e q t a : Int} {p : GPattern} {s : GSite} (h1 : 1 ≤ e ∧ e ≤ 3) (h2 : 1 ≤ q ∧ q ≤ 9) (hp : isPattern p = true) (h3 : 0 ≤ t ∧ t ≤ 4) (ha : a = 3) (hs : isSite s = true) : ∃ x : GRule, (isRule x = true ∧ 1 ≤ x.Ext ∧ x.Ext ≤ 3) ∧ AV.v (.agg [.int .i64 e, .int .i64 q, .int .i64 p.Owner, .int .i64 p.Sub, .int .i64 t, .int .i64 a, .int .i64 s.Owner, .int .i64 s.Sub]) = .v (.agg x.c) :=
  ⟨⟨e, q, p, t, a, s⟩, ⟨by subst ha; simp only [isRule, inR, hp, hs, Bool.and_eq_true, Bool.or_eq_true, decide_eq_true_eq]; refine ⟨⟨⟨⟨?_, ?_⟩, ?_⟩, ?_⟩, .inl ⟨?_, ?_⟩⟩ <;> first | trivial | omega, h1.1, h1.2⟩, rfl⟩
theorem ex_l13N {e q t a : Int} {p : GPattern} (h1 : 1 ≤ e ∧ e ≤ 3) (h2 : 1 ≤ q ∧ q ≤ 9) (hp : isPattern p = true) (h3 : 0 ≤ t ∧ t ≤ 4) (ha : a = 1 ∨ a = 2) : ∃ x : GRule, (isRule x = true ∧ 1 ≤ x.Ext ∧ x.Ext ≤ 3) ∧ AV.v (.agg [.int .i64 e, .int .i64 q, .int .i64 p.Owner, .int .i64 p.Sub, .int .i64 t, .int .i64 a, .int .i64 0, .int .i64 0]) = .v (.agg x.c) :=
  ⟨⟨e, q, p, t, a, ⟨0, 0⟩⟩, ⟨by simp only [isRule, inR, hp, Bool.and_eq_true, Bool.or_eq_true, decide_eq_true_eq]; refine ⟨⟨⟨⟨?_, ?_⟩, ?_⟩, ?_⟩, .inr ⟨⟨ha, ?_⟩, ?_⟩⟩ <;> first | trivial | omega, h1.1, h1.2⟩, rfl⟩
set_option maxHeartbeats 2000000 in
theorem ev_l13Draw {id : Nat} {S : Store} (h : Cur id S) : EvA Tryz.prog 243 [.s (.pt id)] S (fun r S' => Drw id S S' ∧ ∃ x : GRule, (isRule x = true ∧ 1 ≤ x.Ext ∧ x.Ext ≤ 3) ∧ r = .v (.agg x.c)) := by
  have hlt := h.lt
  have hD := Drw.refl h
  have hF : Fr S.length S [] [] := fr_nil
  refine evA_intro tok Tryz.func243 (by kernel_rfl) rfl ?_
  repeat' ((conv => whnf) <;> first
   | rw [wrapI_i64 (by omega)] | refine cD (fun _ => ?_) fun _ => ?_ | refine cE (fun _ => ?_) fun _ => ?_ | refine cT ?_ | refine cF ?_ | refine cN (fun _ => ?_) fun _ => ?_ | refine cI (fun _ => ?_) fun _ => ?_ | (refine callP_intro (ev_l1Below _ hD.cur) ?_; rintro _ Sn ⟨hDn, xn, hxn, rfl⟩; replace hF := hF.drw hlt hDn; replace hD := hD.trans hDn; clear hDn) | (refine callP_intro (ev_l9Site hD.cur) ?_; rintro _ Sn ⟨hDn, sn, hsn, rfl⟩; replace hF := hF.drw hlt hDn; replace hD := hD.trans hDn; clear hDn) | (refine callP_intro (ev_l9Pattern hD.cur) ?_; rintro _ Sn ⟨hDn, pn, hpn, rfl⟩; replace hF := hF.drw hlt hDn; replace hD := hD.trans hDn; clear hDn) | refine nP ?_ | refine And.intro ?_ ?_)
  all_goals first
    | exact hD
    | exact ex_l13D (by omega) (by omega) (by assumption) (by omega) (by omega) (by first | assumption | exact hsn.1)
    | exact ex_l13N (by omega) (by omega) (by assumption) (by omega) (by omega)
theorem ex_l13Request {s : GSite} {t : Int} (hs : isSite s = true) (ht : 1 ≤ t ∧ t ≤ 4) : ∃ x : GRequest, (isRequest x = true) ∧ AV.v (.agg [.int .i64 s.Owner, .int .i64 s.Sub, .int .i64 t]) = .v (.agg x.c) :=
  ⟨⟨s, t⟩, by simp only [isRequest, inR, hs, Bool.and_eq_true, decide_eq_true_eq]; exact ⟨trivial, ht⟩, rfl⟩
theorem ev_l13Request {id : Nat} {S : Store} (h : Cur id S) : EvA Tryz.prog 133 [.s (.pt id)] S (fun r S' => Drw id S S' ∧ ∃ x : GRequest, (isRequest x = true) ∧ r = .v (.agg x.c)) := by
  have hlt := h.lt
  have hD := Drw.refl h
  have hF : Fr S.length S [] [] := fr_nil
  refine evA_intro tok Tryz.func133 (by kernel_rfl) rfl ?_
  repeat' ((conv => whnf) <;> first
   | rw [wrapI_i64 (by omega)] | (refine callP_intro (ev_l1Below _ hD.cur) ?_; rintro _ Sn ⟨hDn, xn, hxn, rfl⟩; replace hF := hF.drw hlt hDn; replace hD := hD.trans hDn; clear hDn) | (refine callP_intro (ev_l9Site hD.cur) ?_; rintro _ Sn ⟨hDn, sn, hsn, rfl⟩; replace hF := hF.drw hlt hDn; replace hD := hD.trans hDn; clear hDn) | refine nP ?_ | refine And.intro ?_ ?_)
  all_goals first
    | exact hD
    | exact ex_l13Request hsn.1 (by omega)
theorem ex_l21Op {k a b c : Int} (h : isOp ⟨k, a, b, c⟩ = true) : ∃ x : GOp, (isOp x = true) ∧ AV.v (.agg [.int .i64 k, .int .i64 a, .int .i64 b, .int .i64 c]) = .v (.agg x.c) := ⟨⟨k, a, b, c⟩, h, rfl⟩
set_option maxHeartbeats 2000000 in
theorem ev_l21Op {id : Nat} {S : Store} (h : Cur id S) : EvA Tryz.prog 301 [.s (.pt id)] S (fun r S' => Drw id S S' ∧ ∃ x : GOp, (isOp x = true) ∧ r = .v (.agg x.c)) := by
  have hlt := h.lt
  have hD := Drw.refl h
  have hF : Fr S.length S [] [] := fr_nil
  refine evA_intro tok Tryz.func301 (by kernel_rfl) rfl ?_
  repeat' ((conv => whnf) <;> first
   | rw [wrapI_i64 (by omega)] | refine cD (fun _ => ?_) fun _ => ?_ | refine cE (fun _ => ?_) fun _ => ?_ | refine cT ?_ | refine cF ?_ | refine cN (fun _ => ?_) fun _ => ?_ | refine cI (fun _ => ?_) fun _ => ?_ | (refine callP_intro (ev_l1Below _ hD.cur) ?_; rintro _ Sn ⟨hDn, xn, hxn, rfl⟩; replace hF := hF.drw hlt hDn; replace hD := hD.trans hDn; clear hDn) | refine nP ?_ | refine And.intro ?_ ?_)
  all_goals first
    | exact hD
    | exact ex_l21Op (by simp only [isOp, inR, Bool.and_eq_true, Bool.or_eq_true, decide_eq_true_eq, and_true]; omega)
set_option maxHeartbeats 2000000 in
theorem ev_l11List {id : Nat} {S : Store} (h : Cur id S) : EvA Tryz.prog 216 [.s (.pt id)] S (fun r S' => Drw id S S' ∧ ∃ l : List GLimit, (∀ x ∈ l, isLimit x = true) ∧ l.length ≤ 2 ∧ ∃ c', r = .v (.s c') ∧ Fr S.length S' [.sl 4 (l.map GLimit.d)] [c']) := by
  have hlt := h.lt
  have hD := Drw.refl h
  have hF : Fr S.length S [] [] := fr_nil
  refine evA_intro tok Tryz.func216 (by kernel_rfl) rfl ?_
  repeat' ((conv => whnf) <;> first
   | rw [wrapI_i64 (by omega)] | refine cD (fun _ => ?_) fun _ => ?_ | refine cE (fun _ => ?_) fun _ => ?_ | refine cT ?_ | refine cF ?_ | refine cN (fun _ => ?_) fun _ => ?_ | refine cI (fun _ => ?_) fun _ => ?_ | refine nP ?_ | refine And.intro ?_ ?_)
  (conv => whnf)
  have hD1 := hD.push ⟨true, 4, []⟩
  have hF1 := hF.pushD (k := 4) (f := GLimit.d) hD.len [] (fun _ => trivial) (by decide) (rows := []) rfl
  refine callP_intro (ev_l1Below _ hD1.cur) ?_; rintro _ Sn ⟨hDn, xn, hxn, rfl⟩
  replace hF1 := hF1.drw hlt hDn
  replace hD1 := hD1.trans hDn
  obtain ⟨n, rfl⟩ := Int.eq_ofNat_of_zero_le hxn.1
  repeat' ((conv => whnf) <;> first
   | rw [wrapI_i64 (by omega)] | refine cD (fun _ => ?_) fun _ => ?_ | refine cE (fun _ => ?_) fun _ => ?_ | refine cT ?_ | refine cF ?_ | refine cN (fun _ => ?_) fun _ => ?_ | refine cI (fun _ => ?_) fun _ => ?_ | refine nP ?_ | refine And.intro ?_ ?_)
  refine loop_intro {q : Nat × Store × C // q.1 ≤ 2 ∧ Drw id S q.2.1 ∧ ∃ l : List GLimit, (∀ x ∈ l, isLimit x = true) ∧ l.length + q.1 ≤ 2 ∧ Fr S.length q.2.1 [.sl 4 (l.map GLimit.d)] [q.2.2]} [3, 4, 8, 9, 10, 11, 12, 13, 14, 15, 16] (fun zb => [(4, .v (.s (.int .i64 (zb.1.1 : Nat)))), (3, .v (.s zb.1.2.2))]) (fun zb => zb.1.2.1) (fun zb => zb.1.1) ⟨(n, _, _), by have := hxn.2.2.1 (by omega); dsimp only; omega, hD1, [], fun _ h => (by cases h), by have := hxn.2.2.1 (by omega); simp; omega, hF1⟩ ?_ rfl ?_
  · (conv => whnf); repeat' (first | exact trivial | exact rfl | apply And.intro)
  rintro ⟨⟨k, Si, ci⟩, hk, hP⟩; dsimp only
  clear hF hD hD1 hF1 hDn hxn
  replace hk : k ≤ 2 := hk
  obtain ⟨hD, l, hx, hl, hF⟩ : Drw id S Si ∧ ∃ l : List GLimit, (∀ x ∈ l, isLimit x = true) ∧ l.length + k ≤ 2 ∧ Fr S.length Si [.sl 4 (l.map GLimit.d)] [ci] := hP
  repeat' ((conv => whnf) <;> first
   | rw [wrapI_i64 (by omega)] | refine cD (fun _ => ?_) fun _ => ?_ | refine cE (fun _ => ?_) fun _ => ?_ | refine cT ?_ | refine cF ?_ | refine cN (fun _ => ?_) fun _ => ?_ | refine cI (fun _ => ?_) fun _ => ?_ | (refine callP_intro (ev_l1Below _ hD.cur) ?_; rintro _ Sn ⟨hDn, xn, hxn, rfl⟩; replace hF := hF.drw hlt hDn; replace hD := hD.trans hDn; clear hDn) | (refine callP_intro (ev_l11Draw hD.cur) ?_; rintro _ Sn ⟨hDn, qn, hqn, rfl⟩; replace hF := hF.drw hlt hDn; replace hD := hD.trans hDn; clear hDn) | refine nP ?_ | (refine dappF (f := GLimit.d) (o := 0) (l := l) (m := [_]) (fun _ => trivial) hD hF rfl rfl rfl rf (by dsimp only [T125]; simp only [List.length_singleton]; omega) (by simp only [List.length_singleton]; omega) ?_; intro cN SN hDN hFN) | refine And.intro ?_ ?_)
  all_goals first
    | exact hD
    | exact ⟨l, hx, by omega, _, rfl, hF⟩
    | (refine ⟨⟨(k - 1, SN, cN), by dsimp only; omega, hDN, _, fun x hx' => ?_, by rw [List.length_append]; show l.length + 1 + (k - 1) ≤ 2; omega, hFN⟩, ?_, rfl, by dsimp only; omega⟩
       · rcases List.mem_append.1 hx' with h | h
         · exact hx x h
         · rw [List.mem_singleton.1 h]; exact hqn
       · (conv => whnf); repeat' (first | exact trivial | exact rfl | (show _ = _; congr 3; dsimp only; omega) | apply And.intro))
set_option maxHeartbeats 2000000 in
theorem ev_l21Ops {id : Nat} {S : Store} (h : Cur id S) : EvA Tryz.prog 242 [.s (.pt id)] S (fun r S' => Drw id S S' ∧ ∃ l : List GOp, (∀ x ∈ l, isOp x = true) ∧ l.length ≤ 9 ∧ ∃ c', r = .v (.s c') ∧ Fr S.length S' [.sl 4 (l.map GOp.d)] [c']) := by
  have hlt := h.lt
  have hD := Drw.refl h
  have hF : Fr S.length S [] [] := fr_nil
  refine evA_intro tok Tryz.func242 (by kernel_rfl) rfl ?_
  repeat' ((conv => whnf) <;> first
   | rw [wrapI_i64 (by omega)] | refine cD (fun _ => ?_) fun _ => ?_ | refine cE (fun _ => ?_) fun _ => ?_ | refine cT ?_ | refine cF ?_ | refine cN (fun _ => ?_) fun _ => ?_ | refine cI (fun _ => ?_) fun _ => ?_ | refine nP ?_ | refine And.intro ?_ ?_)
  (conv => whnf)
  have hD1 := hD.push ⟨true, 4, []⟩
  have hF1 := hF.pushD (k := 4) (f := GOp.d) hD.len [] (fun _ => trivial) (by decide) (rows := []) rfl
  refine callP_intro (ev_l1Below _ hD1.cur) ?_; rintro _ Sn ⟨hDn, xn, hxn, rfl⟩
  replace hF1 := hF1.drw hlt hDn
  replace hD1 := hD1.trans hDn
  obtain ⟨n, rfl⟩ := Int.eq_ofNat_of_zero_le hxn.1
  repeat' ((conv => whnf) <;> first
   | rw [wrapI_i64 (by omega)] | refine cD (fun _ => ?_) fun _ => ?_ | refine cE (fun _ => ?_) fun _ => ?_ | refine cT ?_ | refine cF ?_ | refine cN (fun _ => ?_) fun _ => ?_ | refine cI (fun _ => ?_) fun _ => ?_ | refine nP ?_ | refine And.intro ?_ ?_)
  refine loop_intro {q : Nat × Store × C // q.1 ≤ 9 ∧ Drw id S q.2.1 ∧ ∃ l : List GOp, (∀ x ∈ l, isOp x = true) ∧ l.length + q.1 ≤ 9 ∧ Fr S.length q.2.1 [.sl 4 (l.map GOp.d)] [q.2.2]} [3, 4, 8, 9, 10, 11, 12, 13, 14, 15, 16] (fun zb => [(4, .v (.s (.int .i64 (zb.1.1 : Nat)))), (3, .v (.s zb.1.2.2))]) (fun zb => zb.1.2.1) (fun zb => zb.1.1) ⟨(n, _, _), by have := hxn.2.2.1 (by omega); dsimp only; omega, hD1, [], fun _ h => (by cases h), by have := hxn.2.2.1 (by omega); simp; omega, hF1⟩ ?_ rfl ?_
  · (conv => whnf); repeat' (first | exact trivial | exact rfl | apply And.intro)
  rintro ⟨⟨k, Si, ci⟩, hk, hP⟩; dsimp only
  clear hF hD hD1 hF1 hDn hxn
  replace hk : k ≤ 9 := hk
  obtain ⟨hD, l, hx, hl, hF⟩ : Drw id S Si ∧ ∃ l : List GOp, (∀ x ∈ l, isOp x = true) ∧ l.length + k ≤ 9 ∧ Fr S.length Si [.sl 4 (l.map GOp.d)] [ci] := hP
  repeat' ((conv => whnf) <;> first
   | rw [wrapI_i64 (by omega)] | refine cD (fun _ => ?_) fun _ => ?_ | refine cE (fun _ => ?_) fun _ => ?_ | refine cT ?_ | refine cF ?_ | refine cN (fun _ => ?_) fun _ => ?_ | refine cI (fun _ => ?_) fun _ => ?_ | (refine callP_intro (ev_l1Below _ hD.cur) ?_; rintro _ Sn ⟨hDn, xn, hxn, rfl⟩; replace hF := hF.drw hlt hDn; replace hD := hD.trans hDn; clear hDn) | (refine callP_intro (ev_l21Op hD.cur) ?_; rintro _ Sn ⟨hDn, opn, hopn, rfl⟩; replace hF := hF.drw hlt hDn; replace hD := hD.trans hDn; clear hDn) | refine nP ?_ | (refine dappF (f := GOp.d) (o := 0) (l := l) (m := [_]) (fun _ => trivial) hD hF rfl rfl rfl rf (by dsimp only [T253]; simp only [List.length_singleton]; omega) (by simp only [List.length_singleton]; omega) ?_; intro cN SN hDN hFN) | refine And.intro ?_ ?_)
  all_goals first
    | exact hD
    | exact ⟨l, hx, by omega, _, rfl, hF⟩
    | (refine ⟨⟨(k - 1, SN, cN), by dsimp only; omega, hDN, _, fun x hx' => ?_, by rw [List.length_append]; show l.length + 1 + (k - 1) ≤ 9; omega, hFN⟩, ?_, rfl, by dsimp only; omega⟩
       · rcases List.mem_append.1 hx' with h | h
         · exact hx x h
         · rw [List.mem_singleton.1 h]; exact hopn
       · (conv => whnf); repeat' (first | exact trivial | exact rfl | (show _ = _; congr 3; dsimp only; omega) | apply And.intro))
end Go.Proofs.YtockphlpokoohaaGreat
