/- Equal lists, tabs, packages, browsers. -/
import Derived.Test.YtockphlpokoohaaGreatKe19
namespace Go.Proofs.YtockphlpokoohaaGreat
open Go Go.ChangeShapes Go.WideShapes Go.ChangeAt Go.RowKit
set_option linter.unusedVariables false
set_option linter.unusedSimpArgs false
set_option maxRecDepth 100000
theorem eql_step {α : Type} {l m : List α} {i : Nat} (hi : i < l.length) (hm : i < m.length) (h : l.drop i = m.drop i ↔ l = m) : (l[i] = m[i] → (l.drop (i + 1) = m.drop (i + 1) ↔ l = m)) ∧ (l[i] ≠ m[i] → l ≠ m) := by
  rw [drop_at hi, drop_at hm, List.cons.injEq] at h
  exact ⟨fun e => ⟨fun g => h.1 ⟨e, g⟩, fun g => (h.2 g).2⟩, fun e g => e (h.2 g).1⟩
theorem eql_end {α : Type} {l m : List α} {i : Nat} (hi : l.length ≤ i) (hm : m.length ≤ i) (h : l.drop i = m.drop i ↔ l = m) : l = m := by
  rw [drop_end hi, drop_end hm] at h
  exact h.1 rfl
theorem ev_EqNode (l m : List GNode) (c c' : C) (S : Store) (h : Rd S [.sl 5 (l.map GNode.d)] [c]) (h' : Rd S [.sl 5 (m.map GNode.d)] [c']) : EvA Tryz.prog 151 [.s c, .s c'] S (fun r S' => r = .v (.s (.bool (decide (l = m)))) ∧ S' = S) := by
  by_cases hlen : l.length = m.length
  · refine evA_intro tok Tryz.func151 (by kernel_rfl) rfl ?_
    repeat' ((conv => whnf) <;> first
     | refine cE (fun _ => ?_) fun _ => ?_ | refine rE fun hml => ?_ | refine And.intro ?_ ?_)
    all_goals try first | rfl | (exfalso; omega)
    refine loop_intro {i : Nat // i ≤ l.length ∧ (l.drop i = m.drop i ↔ l = m)} [4, 5, 13, 14, 15, 16, 17, 18, 19, 20, 21, 22, 23, 24, 25] (fun zb => [(13, .v (.s (.int .i64 zb.1)))]) (fun _ => S) (fun zb => l.length - zb.1) ⟨0, Nat.zero_le _, by simp⟩ ?_ rfl ?_
    · (conv => whnf); repeat' (first | exact trivial | exact rfl | apply And.intro)
    rintro ⟨i, hi, hinv⟩; dsimp only
    repeat' ((conv => whnf) <;> first
     | rw [wrapI_i64 (by omega)] | refine cD (fun _ => ?_) fun _ => ?_ | refine cN (fun _ => ?_) fun _ => ?_ | refine rI aN rf ix ?_ | refine rd_loadf aN tv ix ?_ | refine draw_intro 16 [.fl 0, .fl 1, .fl 2, .fl 3, .fl 4, .fl 5, .fl 6, .fl 7, .fl 8] (by rfl) (by kernel_rfl) ?_ | refine And.intro ?_ ?_)
    all_goals first
      | rfl
      | (exfalso; omega)
      | (have he := eql_end (by omega) (by omega) hinv; rw [decide_eq_true he] <;> rfl)
      | (have hlt : i < l.length := by omega
         have hs := (eql_step hlt (by omega) hinv).2
         have hb : ¬ (l[((i : Nat) : Int).toNat]'hlt = m[((i : Nat) : Int).toNat]'(by omega)) := by first | assumption | exact of_decide_eq_false (by assumption) | exact of_decide_eq_false ((GNode.eqb _ _).symm.trans (by assumption))
         rw [decide_eq_false (hs hb)] <;> rfl)
      | (have hlt : i < l.length := by omega
         have hs := (eql_step hlt (by omega) hinv).1
         have hb : l[((i : Nat) : Int).toNat]'hlt = m[((i : Nat) : Int).toNat]'(by omega) := by first | assumption | exact of_decide_eq_true (by assumption) | exact of_decide_eq_true ((GNode.eqb _ _).symm.trans (by assumption))
         (refine ⟨⟨i + 1, by omega, hs hb⟩, ?_, rfl, by dsimp only; omega⟩; (conv => whnf); repeat' (first | exact trivial | exact rfl | apply And.intro)))
  · rw [decide_eq_false (p := l = m) (fun e => hlen (by rw [e]))]
    refine evA_intro tok Tryz.func151 (by kernel_rfl) rfl ?_
    repeat' ((conv => whnf) <;> first
     | refine cE (fun _ => ?_) fun _ => ?_ | refine rE fun hml => ?_ | refine And.intro ?_ ?_)
    all_goals first | rfl | (exfalso; omega)
theorem ev_EqEdit (l m : List GEdit) (c c' : C) (S : Store) (h : Rd S [.sl 6 (l.map GEdit.d)] [c]) (h' : Rd S [.sl 6 (m.map GEdit.d)] [c']) : EvA Tryz.prog 206 [.s c, .s c'] S (fun r S' => r = .v (.s (.bool (decide (l = m)))) ∧ S' = S) := by
  by_cases hlen : l.length = m.length
  · refine evA_intro tok Tryz.func206 (by kernel_rfl) rfl ?_
    repeat' ((conv => whnf) <;> first
     | refine cE (fun _ => ?_) fun _ => ?_ | refine rE fun hml => ?_ | refine And.intro ?_ ?_)
    all_goals try first | rfl | (exfalso; omega)
    refine loop_intro {i : Nat // i ≤ l.length ∧ (l.drop i = m.drop i ↔ l = m)} [4, 5, 13, 14, 15, 16, 17, 18, 19, 20, 21, 22, 23, 24, 25] (fun zb => [(13, .v (.s (.int .i64 zb.1)))]) (fun _ => S) (fun zb => l.length - zb.1) ⟨0, Nat.zero_le _, by simp⟩ ?_ rfl ?_
    · (conv => whnf); repeat' (first | exact trivial | exact rfl | apply And.intro)
    rintro ⟨i, hi, hinv⟩; dsimp only
    repeat' ((conv => whnf) <;> first
     | rw [wrapI_i64 (by omega)] | refine cD (fun _ => ?_) fun _ => ?_ | refine cN (fun _ => ?_) fun _ => ?_ | refine rI aN rf ix ?_ | refine rd_loadf aN tv ix ?_ | refine draw_intro 16 [.fl 0, .fl 1, .fl 2, .fl 3, .fl 4, .fl 5, .fl 6, .fl 7, .fl 8] (by rfl) (by kernel_rfl) ?_ | refine And.intro ?_ ?_)
    all_goals first
      | rfl
      | (exfalso; omega)
      | (have he := eql_end (by omega) (by omega) hinv; rw [decide_eq_true he] <;> rfl)
      | (have hlt : i < l.length := by omega
         have hs := (eql_step hlt (by omega) hinv).2
         have hb : ¬ (l[((i : Nat) : Int).toNat]'hlt = m[((i : Nat) : Int).toNat]'(by omega)) := by first | assumption | exact of_decide_eq_false (by assumption) | exact of_decide_eq_false ((GEdit.eqb _ _).symm.trans (by assumption))
         rw [decide_eq_false (hs hb)] <;> rfl)
      | (have hlt : i < l.length := by omega
         have hs := (eql_step hlt (by omega) hinv).1
         have hb : l[((i : Nat) : Int).toNat]'hlt = m[((i : Nat) : Int).toNat]'(by omega) := by first | assumption | exact of_decide_eq_true (by assumption) | exact of_decide_eq_true ((GEdit.eqb _ _).symm.trans (by assumption))
         (refine ⟨⟨i + 1, by omega, hs hb⟩, ?_, rfl, by dsimp only; omega⟩; (conv => whnf); repeat' (first | exact trivial | exact rfl | apply And.intro)))
  · rw [decide_eq_false (p := l = m) (fun e => hlen (by rw [e]))]
    refine evA_intro tok Tryz.func206 (by kernel_rfl) rfl ?_
    repeat' ((conv => whnf) <;> first
     | refine cE (fun _ => ?_) fun _ => ?_ | refine rE fun hml => ?_ | refine And.intro ?_ ?_)
    all_goals first | rfl | (exfalso; omega)
theorem ev_Eqint (l m : List Int) (c c' : C) (S : Store) (h : Rd S [.sl 1 (l.map dInt)] [c]) (h' : Rd S [.sl 1 (m.map dInt)] [c']) : EvA Tryz.prog 207 [.s c, .s c'] S (fun r S' => r = .v (.s (.bool (decide (l = m)))) ∧ S' = S) := by
  by_cases hlen : l.length = m.length
  · refine evA_intro tok Tryz.func207 (by kernel_rfl) rfl ?_
    repeat' ((conv => whnf) <;> first
     | refine cE (fun _ => ?_) fun _ => ?_ | refine rE fun hml => ?_ | refine And.intro ?_ ?_)
    all_goals try first | rfl | (exfalso; omega)
    refine loop_intro {i : Nat // i ≤ l.length ∧ (l.drop i = m.drop i ↔ l = m)} [4, 5, 13, 14, 15, 16, 17, 18, 19, 20, 21, 22, 23, 24, 25] (fun zb => [(13, .v (.s (.int .i64 zb.1)))]) (fun _ => S) (fun zb => l.length - zb.1) ⟨0, Nat.zero_le _, by simp⟩ ?_ rfl ?_
    · (conv => whnf); repeat' (first | exact trivial | exact rfl | apply And.intro)
    rintro ⟨i, hi, hinv⟩; dsimp only
    repeat' ((conv => whnf) <;> first
     | rw [wrapI_i64 (by omega)] | refine cD (fun _ => ?_) fun _ => ?_ | refine cE (fun _ => ?_) fun _ => ?_ | refine rI aN rf ix ?_ | refine rd_loadf aN tv ix ?_ | refine draw_intro 16 [.fl 0, .fl 1, .fl 2, .fl 3, .fl 4, .fl 5, .fl 6, .fl 7, .fl 8] (by rfl) (by kernel_rfl) ?_ | refine And.intro ?_ ?_)
    all_goals first
      | rfl
      | (exfalso; omega)
      | (have he := eql_end (by omega) (by omega) hinv; rw [decide_eq_true he] <;> rfl)
      | (have hlt : i < l.length := by omega
         have hs := (eql_step hlt (by omega) hinv).2
         have hb : ¬ (l[((i : Nat) : Int).toNat]'hlt = m[((i : Nat) : Int).toNat]'(by omega)) := by first | assumption | exact of_decide_eq_false (by assumption)
         rw [decide_eq_false (hs hb)] <;> rfl)
      | (have hlt : i < l.length := by omega
         have hs := (eql_step hlt (by omega) hinv).1
         have hb : l[((i : Nat) : Int).toNat]'hlt = m[((i : Nat) : Int).toNat]'(by omega) := by first | assumption | exact of_decide_eq_true (by assumption)
         (refine ⟨⟨i + 1, by omega, hs hb⟩, ?_, rfl, by dsimp only; omega⟩; (conv => whnf); repeat' (first | exact trivial | exact rfl | apply And.intro)))
  · rw [decide_eq_false (p := l = m) (fun e => hlen (by rw [e]))]
    refine evA_intro tok Tryz.func207 (by kernel_rfl) rfl ?_
    repeat' ((conv => whnf) <;> first
     | refine cE (fun _ => ?_) fun _ => ?_ | refine rE fun hml => ?_ | refine And.intro ?_ ?_)
    all_goals first | rfl | (exfalso; omega)
theorem ev_EqGrant (l m : List GGrant) (c c' : C) (S : Store) (h : Rd S [.sl 7 (l.map GGrant.d)] [c]) (h' : Rd S [.sl 7 (m.map GGrant.d)] [c']) : EvA Tryz.prog 117 [.s c, .s c'] S (fun r S' => r = .v (.s (.bool (decide (l = m)))) ∧ S' = S) := by
  by_cases hlen : l.length = m.length
  · refine evA_intro tok Tryz.func117 (by kernel_rfl) rfl ?_
    repeat' ((conv => whnf) <;> first
     | refine cE (fun _ => ?_) fun _ => ?_ | refine rE fun hml => ?_ | refine And.intro ?_ ?_)
    all_goals try first | rfl | (exfalso; omega)
    refine loop_intro {i : Nat // i ≤ l.length ∧ (l.drop i = m.drop i ↔ l = m)} [4, 5, 13, 14, 15, 16, 17, 18, 19, 20, 21, 22, 23, 24, 25] (fun zb => [(13, .v (.s (.int .i64 zb.1)))]) (fun _ => S) (fun zb => l.length - zb.1) ⟨0, Nat.zero_le _, by simp⟩ ?_ rfl ?_
    · (conv => whnf); repeat' (first | exact trivial | exact rfl | apply And.intro)
    rintro ⟨i, hi, hinv⟩; dsimp only
    repeat' ((conv => whnf) <;> first
     | rw [wrapI_i64 (by omega)] | refine cD (fun _ => ?_) fun _ => ?_ | refine cN (fun _ => ?_) fun _ => ?_ | refine rI aN rf ix ?_ | refine rd_loadf aN tv ix ?_ | refine draw_intro 16 [.fl 0, .fl 1, .fl 2, .fl 3, .fl 4, .fl 5, .fl 6, .fl 7, .fl 8] (by rfl) (by kernel_rfl) ?_ | refine And.intro ?_ ?_)
    all_goals first
      | rfl
      | (exfalso; omega)
      | (have he := eql_end (by omega) (by omega) hinv; rw [decide_eq_true he] <;> rfl)
      | (have hlt : i < l.length := by omega
         have hs := (eql_step hlt (by omega) hinv).2
         have hb : ¬ (l[((i : Nat) : Int).toNat]'hlt = m[((i : Nat) : Int).toNat]'(by omega)) := by first | assumption | exact of_decide_eq_false (by assumption) | exact of_decide_eq_false ((GGrant.eqb _ _).symm.trans (by assumption))
         rw [decide_eq_false (hs hb)] <;> rfl)
      | (have hlt : i < l.length := by omega
         have hs := (eql_step hlt (by omega) hinv).1
         have hb : l[((i : Nat) : Int).toNat]'hlt = m[((i : Nat) : Int).toNat]'(by omega) := by first | assumption | exact of_decide_eq_true (by assumption) | exact of_decide_eq_true ((GGrant.eqb _ _).symm.trans (by assumption))
         (refine ⟨⟨i + 1, by omega, hs hb⟩, ?_, rfl, by dsimp only; omega⟩; (conv => whnf); repeat' (first | exact trivial | exact rfl | apply And.intro)))
  · rw [decide_eq_false (p := l = m) (fun e => hlen (by rw [e]))]
    refine evA_intro tok Tryz.func117 (by kernel_rfl) rfl ?_
    repeat' ((conv => whnf) <;> first
     | refine cE (fun _ => ?_) fun _ => ?_ | refine rE fun hml => ?_ | refine And.intro ?_ ?_)
    all_goals first | rfl | (exfalso; omega)
theorem ev_EqFlow (l m : List GFlow) (c c' : C) (S : Store) (h : Rd S [.sl 3 (l.map GFlow.d)] [c]) (h' : Rd S [.sl 3 (m.map GFlow.d)] [c']) : EvA Tryz.prog 208 [.s c, .s c'] S (fun r S' => r = .v (.s (.bool (decide (l = m)))) ∧ S' = S) := by
  by_cases hlen : l.length = m.length
  · refine evA_intro tok Tryz.func208 (by kernel_rfl) rfl ?_
    repeat' ((conv => whnf) <;> first
     | refine cE (fun _ => ?_) fun _ => ?_ | refine rE fun hml => ?_ | refine And.intro ?_ ?_)
    all_goals try first | rfl | (exfalso; omega)
    refine loop_intro {i : Nat // i ≤ l.length ∧ (l.drop i = m.drop i ↔ l = m)} [4, 5, 13, 14, 15, 16, 17, 18, 19, 20, 21, 22, 23, 24, 25] (fun zb => [(13, .v (.s (.int .i64 zb.1)))]) (fun _ => S) (fun zb => l.length - zb.1) ⟨0, Nat.zero_le _, by simp⟩ ?_ rfl ?_
    · (conv => whnf); repeat' (first | exact trivial | exact rfl | apply And.intro)
    rintro ⟨i, hi, hinv⟩; dsimp only
    repeat' ((conv => whnf) <;> first
     | rw [wrapI_i64 (by omega)] | refine cD (fun _ => ?_) fun _ => ?_ | refine cN (fun _ => ?_) fun _ => ?_ | refine rI aN rf ix ?_ | refine rd_loadf aN tv ix ?_ | refine draw_intro 16 [.fl 0, .fl 1, .fl 2, .fl 3, .fl 4, .fl 5, .fl 6, .fl 7, .fl 8] (by rfl) (by kernel_rfl) ?_ | refine And.intro ?_ ?_)
    all_goals first
      | rfl
      | (exfalso; omega)
      | (have he := eql_end (by omega) (by omega) hinv; rw [decide_eq_true he] <;> rfl)
      | (have hlt : i < l.length := by omega
         have hs := (eql_step hlt (by omega) hinv).2
         have hb : ¬ (l[((i : Nat) : Int).toNat]'hlt = m[((i : Nat) : Int).toNat]'(by omega)) := by first | assumption | exact of_decide_eq_false (by assumption) | exact of_decide_eq_false ((GFlow.eqb _ _).symm.trans (by assumption))
         rw [decide_eq_false (hs hb)] <;> rfl)
      | (have hlt : i < l.length := by omega
         have hs := (eql_step hlt (by omega) hinv).1
         have hb : l[((i : Nat) : Int).toNat]'hlt = m[((i : Nat) : Int).toNat]'(by omega) := by first | assumption | exact of_decide_eq_true (by assumption) | exact of_decide_eq_true ((GFlow.eqb _ _).symm.trans (by assumption))
         (refine ⟨⟨i + 1, by omega, hs hb⟩, ?_, rfl, by dsimp only; omega⟩; (conv => whnf); repeat' (first | exact trivial | exact rfl | apply And.intro)))
  · rw [decide_eq_false (p := l = m) (fun e => hlen (by rw [e]))]
    refine evA_intro tok Tryz.func208 (by kernel_rfl) rfl ?_
    repeat' ((conv => whnf) <;> first
     | refine cE (fun _ => ?_) fun _ => ?_ | refine rE fun hml => ?_ | refine And.intro ?_ ?_)
    all_goals first | rfl | (exfalso; omega)
theorem ev_EqRule (l m : List GRule) (c c' : C) (S : Store) (h : Rd S [.sl 8 (l.map GRule.d)] [c]) (h' : Rd S [.sl 8 (m.map GRule.d)] [c']) : EvA Tryz.prog 119 [.s c, .s c'] S (fun r S' => r = .v (.s (.bool (decide (l = m)))) ∧ S' = S) := by
  by_cases hlen : l.length = m.length
  · refine evA_intro tok Tryz.func119 (by kernel_rfl) rfl ?_
    repeat' ((conv => whnf) <;> first
     | refine cE (fun _ => ?_) fun _ => ?_ | refine rE fun hml => ?_ | refine And.intro ?_ ?_)
    all_goals try first | rfl | (exfalso; omega)
    refine loop_intro {i : Nat // i ≤ l.length ∧ (l.drop i = m.drop i ↔ l = m)} [4, 5, 13, 14, 15, 16, 17, 18, 19, 20, 21, 22, 23, 24, 25] (fun zb => [(13, .v (.s (.int .i64 zb.1)))]) (fun _ => S) (fun zb => l.length - zb.1) ⟨0, Nat.zero_le _, by simp⟩ ?_ rfl ?_
    · (conv => whnf); repeat' (first | exact trivial | exact rfl | apply And.intro)
    rintro ⟨i, hi, hinv⟩; dsimp only
    repeat' ((conv => whnf) <;> first
     | rw [wrapI_i64 (by omega)] | refine cD (fun _ => ?_) fun _ => ?_ | refine cN (fun _ => ?_) fun _ => ?_ | refine rI aN rf ix ?_ | refine rd_loadf aN tv ix ?_ | refine draw_intro 16 [.fl 0, .fl 1, .fl 2, .fl 3, .fl 4, .fl 5, .fl 6, .fl 7, .fl 8] (by rfl) (by kernel_rfl) ?_ | refine And.intro ?_ ?_)
    all_goals first
      | rfl
      | (exfalso; omega)
      | (have he := eql_end (by omega) (by omega) hinv; rw [decide_eq_true he] <;> rfl)
      | (have hlt : i < l.length := by omega
         have hs := (eql_step hlt (by omega) hinv).2
         have hb : ¬ (l[((i : Nat) : Int).toNat]'hlt = m[((i : Nat) : Int).toNat]'(by omega)) := by first | assumption | exact of_decide_eq_false (by assumption) | exact of_decide_eq_false ((GRule.eqb _ _).symm.trans (by assumption))
         rw [decide_eq_false (hs hb)] <;> rfl)
      | (have hlt : i < l.length := by omega
         have hs := (eql_step hlt (by omega) hinv).1
         have hb : l[((i : Nat) : Int).toNat]'hlt = m[((i : Nat) : Int).toNat]'(by omega) := by first | assumption | exact of_decide_eq_true (by assumption) | exact of_decide_eq_true ((GRule.eqb _ _).symm.trans (by assumption))
         (refine ⟨⟨i + 1, by omega, hs hb⟩, ?_, rfl, by dsimp only; omega⟩; (conv => whnf); repeat' (first | exact trivial | exact rfl | apply And.intro)))
  · rw [decide_eq_false (p := l = m) (fun e => hlen (by rw [e]))]
    refine evA_intro tok Tryz.func119 (by kernel_rfl) rfl ?_
    repeat' ((conv => whnf) <;> first
     | refine cE (fun _ => ?_) fun _ => ?_ | refine rE fun hml => ?_ | refine And.intro ?_ ?_)
    all_goals first | rfl | (exfalso; omega)
theorem ev_EqOp (l m : List GOp) (c c' : C) (S : Store) (h : Rd S [.sl 4 (l.map GOp.d)] [c]) (h' : Rd S [.sl 4 (m.map GOp.d)] [c']) : EvA Tryz.prog 209 [.s c, .s c'] S (fun r S' => r = .v (.s (.bool (decide (l = m)))) ∧ S' = S) := by
  by_cases hlen : l.length = m.length
  · refine evA_intro tok Tryz.func209 (by kernel_rfl) rfl ?_
    repeat' ((conv => whnf) <;> first
     | refine cE (fun _ => ?_) fun _ => ?_ | refine rE fun hml => ?_ | refine And.intro ?_ ?_)
    all_goals try first | rfl | (exfalso; omega)
    refine loop_intro {i : Nat // i ≤ l.length ∧ (l.drop i = m.drop i ↔ l = m)} [4, 5, 13, 14, 15, 16, 17, 18, 19, 20, 21, 22, 23, 24, 25] (fun zb => [(13, .v (.s (.int .i64 zb.1)))]) (fun _ => S) (fun zb => l.length - zb.1) ⟨0, Nat.zero_le _, by simp⟩ ?_ rfl ?_
    · (conv => whnf); repeat' (first | exact trivial | exact rfl | apply And.intro)
    rintro ⟨i, hi, hinv⟩; dsimp only
    repeat' ((conv => whnf) <;> first
     | rw [wrapI_i64 (by omega)] | refine cD (fun _ => ?_) fun _ => ?_ | refine cN (fun _ => ?_) fun _ => ?_ | refine rI aN rf ix ?_ | refine rd_loadf aN tv ix ?_ | refine draw_intro 16 [.fl 0, .fl 1, .fl 2, .fl 3, .fl 4, .fl 5, .fl 6, .fl 7, .fl 8] (by rfl) (by kernel_rfl) ?_ | refine And.intro ?_ ?_)
    all_goals first
      | rfl
      | (exfalso; omega)
      | (have he := eql_end (by omega) (by omega) hinv; rw [decide_eq_true he] <;> rfl)
      | (have hlt : i < l.length := by omega
         have hs := (eql_step hlt (by omega) hinv).2
         have hb : ¬ (l[((i : Nat) : Int).toNat]'hlt = m[((i : Nat) : Int).toNat]'(by omega)) := by first | assumption | exact of_decide_eq_false (by assumption) | exact of_decide_eq_false ((GOp.eqb _ _).symm.trans (by assumption))
         rw [decide_eq_false (hs hb)] <;> rfl)
      | (have hlt : i < l.length := by omega
         have hs := (eql_step hlt (by omega) hinv).1
         have hb : l[((i : Nat) : Int).toNat]'hlt = m[((i : Nat) : Int).toNat]'(by omega) := by first | assumption | exact of_decide_eq_true (by assumption) | exact of_decide_eq_true ((GOp.eqb _ _).symm.trans (by assumption))
         (refine ⟨⟨i + 1, by omega, hs hb⟩, ?_, rfl, by dsimp only; omega⟩; (conv => whnf); repeat' (first | exact trivial | exact rfl | apply And.intro)))
  · rw [decide_eq_false (p := l = m) (fun e => hlen (by rw [e]))]
    refine evA_intro tok Tryz.func209 (by kernel_rfl) rfl ?_
    repeat' ((conv => whnf) <;> first
     | refine cE (fun _ => ?_) fun _ => ?_ | refine rE fun hml => ?_ | refine And.intro ?_ ?_)
    all_goals first | rfl | (exfalso; omega)
theorem ev_EqLimit (l m : List GLimit) (c c' : C) (S : Store) (h : Rd S [.sl 4 (l.map GLimit.d)] [c]) (h' : Rd S [.sl 4 (m.map GLimit.d)] [c']) : EvA Tryz.prog 118 [.s c, .s c'] S (fun r S' => r = .v (.s (.bool (decide (l = m)))) ∧ S' = S) := by
  by_cases hlen : l.length = m.length
  · refine evA_intro tok Tryz.func118 (by kernel_rfl) rfl ?_
    repeat' ((conv => whnf) <;> first
     | refine cE (fun _ => ?_) fun _ => ?_ | refine rE fun hml => ?_ | refine And.intro ?_ ?_)
    all_goals try first | rfl | (exfalso; omega)
    refine loop_intro {i : Nat // i ≤ l.length ∧ (l.drop i = m.drop i ↔ l = m)} [4, 5, 13, 14, 15, 16, 17, 18, 19, 20, 21, 22, 23, 24, 25] (fun zb => [(13, .v (.s (.int .i64 zb.1)))]) (fun _ => S) (fun zb => l.length - zb.1) ⟨0, Nat.zero_le _, by simp⟩ ?_ rfl ?_
    · (conv => whnf); repeat' (first | exact trivial | exact rfl | apply And.intro)
    rintro ⟨i, hi, hinv⟩; dsimp only
    repeat' ((conv => whnf) <;> first
     | rw [wrapI_i64 (by omega)] | refine cD (fun _ => ?_) fun _ => ?_ | refine cN (fun _ => ?_) fun _ => ?_ | refine rI aN rf ix ?_ | refine rd_loadf aN tv ix ?_ | refine draw_intro 16 [.fl 0, .fl 1, .fl 2, .fl 3, .fl 4, .fl 5, .fl 6, .fl 7, .fl 8] (by rfl) (by kernel_rfl) ?_ | refine And.intro ?_ ?_)
    all_goals first
      | rfl
      | (exfalso; omega)
      | (have he := eql_end (by omega) (by omega) hinv; rw [decide_eq_true he] <;> rfl)
      | (have hlt : i < l.length := by omega
         have hs := (eql_step hlt (by omega) hinv).2
         have hb : ¬ (l[((i : Nat) : Int).toNat]'hlt = m[((i : Nat) : Int).toNat]'(by omega)) := by first | assumption | exact of_decide_eq_false (by assumption) | exact of_decide_eq_false ((GLimit.eqb _ _).symm.trans (by assumption))
         rw [decide_eq_false (hs hb)] <;> rfl)
      | (have hlt : i < l.length := by omega
         have hs := (eql_step hlt (by omega) hinv).1
         have hb : l[((i : Nat) : Int).toNat]'hlt = m[((i : Nat) : Int).toNat]'(by omega) := by first | assumption | exact of_decide_eq_true (by assumption) | exact of_decide_eq_true ((GLimit.eqb _ _).symm.trans (by assumption))
         (refine ⟨⟨i + 1, by omega, hs hb⟩, ?_, rfl, by dsimp only; omega⟩; (conv => whnf); repeat' (first | exact trivial | exact rfl | apply And.intro)))
  · rw [decide_eq_false (p := l = m) (fun e => hlen (by rw [e]))]
    refine evA_intro tok Tryz.func118 (by kernel_rfl) rfl ?_
    repeat' ((conv => whnf) <;> first
     | refine cE (fun _ => ?_) fun _ => ?_ | refine rE fun hml => ?_ | refine And.intro ?_ ?_)
    all_goals first | rfl | (exfalso; omega)
theorem ev_EqStored (l m : List GStored) (c c' : C) (S : Store) (h : Rd S [.sl 4 (l.map GStored.d)] [c]) (h' : Rd S [.sl 4 (m.map GStored.d)] [c']) : EvA Tryz.prog 120 [.s c, .s c'] S (fun r S' => r = .v (.s (.bool (decide (l = m)))) ∧ S' = S) := by
  by_cases hlen : l.length = m.length
  · refine evA_intro tok Tryz.func120 (by kernel_rfl) rfl ?_
    repeat' ((conv => whnf) <;> first
     | refine cE (fun _ => ?_) fun _ => ?_ | refine rE fun hml => ?_ | refine And.intro ?_ ?_)
    all_goals try first | rfl | (exfalso; omega)
    refine loop_intro {i : Nat // i ≤ l.length ∧ (l.drop i = m.drop i ↔ l = m)} [4, 5, 13, 14, 15, 16, 17, 18, 19, 20, 21, 22, 23, 24, 25] (fun zb => [(13, .v (.s (.int .i64 zb.1)))]) (fun _ => S) (fun zb => l.length - zb.1) ⟨0, Nat.zero_le _, by simp⟩ ?_ rfl ?_
    · (conv => whnf); repeat' (first | exact trivial | exact rfl | apply And.intro)
    rintro ⟨i, hi, hinv⟩; dsimp only
    repeat' ((conv => whnf) <;> first
     | rw [wrapI_i64 (by omega)] | refine cD (fun _ => ?_) fun _ => ?_ | refine cN (fun _ => ?_) fun _ => ?_ | refine rI aN rf ix ?_ | refine rd_loadf aN tv ix ?_ | refine draw_intro 16 [.fl 0, .fl 1, .fl 2, .fl 3, .fl 4, .fl 5, .fl 6, .fl 7, .fl 8] (by rfl) (by kernel_rfl) ?_ | refine And.intro ?_ ?_)
    all_goals first
      | rfl
      | (exfalso; omega)
      | (have he := eql_end (by omega) (by omega) hinv; rw [decide_eq_true he] <;> rfl)
      | (have hlt : i < l.length := by omega
         have hs := (eql_step hlt (by omega) hinv).2
         have hb : ¬ (l[((i : Nat) : Int).toNat]'hlt = m[((i : Nat) : Int).toNat]'(by omega)) := by first | assumption | exact of_decide_eq_false (by assumption) | exact of_decide_eq_false ((GStored.eqb _ _).symm.trans (by assumption))
         rw [decide_eq_false (hs hb)] <;> rfl)
      | (have hlt : i < l.length := by omega
         have hs := (eql_step hlt (by omega) hinv).1
         have hb : l[((i : Nat) : Int).toNat]'hlt = m[((i : Nat) : Int).toNat]'(by omega) := by first | assumption | exact of_decide_eq_true (by assumption) | exact of_decide_eq_true ((GStored.eqb _ _).symm.trans (by assumption))
         (refine ⟨⟨i + 1, by omega, hs hb⟩, ?_, rfl, by dsimp only; omega⟩; (conv => whnf); repeat' (first | exact trivial | exact rfl | apply And.intro)))
  · rw [decide_eq_false (p := l = m) (fun e => hlen (by rw [e]))]
    refine evA_intro tok Tryz.func120 (by kernel_rfl) rfl ?_
    repeat' ((conv => whnf) <;> first
     | refine cE (fun _ => ?_) fun _ => ?_ | refine rE fun hml => ?_ | refine And.intro ?_ ?_)
    all_goals first | rfl | (exfalso; omega)
theorem GTab.ext_iff' (x y : GTab) : x = y ↔ (x.Site.Owner = y.Site.Owner ∧ x.Site.Sub = y.Site.Sub) ∧ x.Click = y.Click ∧ x.Base = y.Base ∧ x.Edits = y.Edits ∧ x.Hidden = y.Hidden := by
  obtain ⟨⟨a, b⟩, c, d, e, f⟩ := x; obtain ⟨⟨a', b'⟩, c', d', e', f'⟩ := y
  simp only [GTab.mk.injEq, GSite.mk.injEq]
  constructor <;> (intro h; simp_all)
theorem GPackage.ext_iff' (x y : GPackage) : x = y ↔ x.Ext = y.Ext ∧ x.Author = y.Author ∧ x.Version = y.Version ∧ x.Seal = y.Seal ∧ x.Grants = y.Grants ∧ x.Flows = y.Flows ∧ x.Rules = y.Rules ∧ x.Ops = y.Ops := by
  cases x; cases y
  simp only [GPackage.mk.injEq]
  constructor <;> (intro h; simp_all)
theorem GBrowser.ext_iff' (x y : GBrowser) : x = y ↔ x.Key = y.Key ∧ x.Now = y.Now ∧ x.Tabs = y.Tabs ∧ x.Packs = y.Packs ∧ x.Grants = y.Grants ∧ x.Limits = y.Limits ∧ x.Rules = y.Rules ∧ x.Store = y.Store := by
  cases x; cases y
  simp only [GBrowser.mk.injEq]
  constructor <;> (intro h; simp_all)
theorem GTab.dec (x y : GTab) : decide (x = y) = decide ((x.Site.Owner = y.Site.Owner ∧ x.Site.Sub = y.Site.Sub) ∧ x.Click = y.Click ∧ x.Base = y.Base ∧ x.Edits = y.Edits ∧ x.Hidden = y.Hidden) := decide_eq_decide.2 (GTab.ext_iff' x y)
theorem GPackage.dec (x y : GPackage) : decide (x = y) = decide (x.Ext = y.Ext ∧ x.Author = y.Author ∧ x.Version = y.Version ∧ x.Seal = y.Seal ∧ x.Grants = y.Grants ∧ x.Flows = y.Flows ∧ x.Rules = y.Rules ∧ x.Ops = y.Ops) := decide_eq_decide.2 (GPackage.ext_iff' x y)
theorem GBrowser.dec (x y : GBrowser) : decide (x = y) = decide (x.Key = y.Key ∧ x.Now = y.Now ∧ x.Tabs = y.Tabs ∧ x.Packs = y.Packs ∧ x.Grants = y.Grants ∧ x.Limits = y.Limits ∧ x.Rules = y.Rules ∧ x.Store = y.Store) := decide_eq_decide.2 (GBrowser.ext_iff' x y)
theorem ev_iEqualTabs (x y : GTab) (cs cs' : List C) (S : Store) (h : Rd S x.d cs) (h' : Rd S y.d cs') : EvA Tryz.prog 114 [.agg cs, .agg cs'] S (fun r S' => r = .v (.s (.bool (decide (x = y)))) ∧ S' = S) := by
  obtain ⟨_, _, _, rfl, _, _, _⟩ := GTab.inv h
  obtain ⟨_, _, _, rfl, _, _, _⟩ := GTab.inv h'
  rw [GTab.dec]
  refine evA_intro tok Tryz.func114 (by kernel_rfl) rfl ?_
  repeat' ((conv => whnf) <;> first
   | refine cD (fun _ => ?_) fun _ => ?_ | refine cF ?_ | refine cI (fun _ => ?_) fun _ => ?_ | refine callP_eq (ev_EqNode _ _ _ _ _ aN aN) ?_ | refine callP_eq (ev_EqEdit _ _ _ _ _ aN aN) ?_ | refine callP_eq (ev_Eqint _ _ _ _ _ aN aN) ?_ | refine And.intro ?_ ?_)
  all_goals first | rfl | (simp_all [resAV]; done)
theorem ev_iEqualPackages (x y : GPackage) (cs cs' : List C) (S : Store) (h : Rd S x.d cs) (h' : Rd S y.d cs') : EvA Tryz.prog 116 [.agg cs, .agg cs'] S (fun r S' => r = .v (.s (.bool (decide (x = y)))) ∧ S' = S) := by
  obtain ⟨_, _, _, _, rfl, _, _, _, _⟩ := GPackage.inv h
  obtain ⟨_, _, _, _, rfl, _, _, _, _⟩ := GPackage.inv h'
  rw [GPackage.dec]
  refine evA_intro tok Tryz.func116 (by kernel_rfl) rfl ?_
  repeat' ((conv => whnf) <;> first
   | refine cD (fun _ => ?_) fun _ => ?_ | refine cF ?_ | refine callP_eq (ev_EqGrant _ _ _ _ _ aN aN) ?_ | refine callP_eq (ev_EqRule _ _ _ _ _ aN aN) ?_ | refine callP_eq (ev_EqFlow _ _ _ _ _ aN aN) ?_ | refine callP_eq (ev_EqOp _ _ _ _ _ aN aN) ?_ | refine And.intro ?_ ?_)
  all_goals first | rfl | (simp_all [resAV]; done)
theorem ev_EqFTab (l m : List GTab) (c c' : C) (S : Store) (h : Rd S [.sl 6 (l.map GTab.d)] [c]) (h' : Rd S [.sl 6 (m.map GTab.d)] [c']) : EvA Tryz.prog 113 [.s c, .s c', .s (.fn 114)] S (fun r S' => r = .v (.s (.bool (decide (l = m)))) ∧ S' = S) := by
  by_cases hlen : l.length = m.length
  · refine evA_intro tok Tryz.func113 (by kernel_rfl) rfl ?_
    repeat' ((conv => whnf) <;> first
     | refine cE (fun _ => ?_) fun _ => ?_ | refine rE fun hml => ?_ | refine And.intro ?_ ?_)
    all_goals try first | rfl | (exfalso; omega)
    refine loop_intro {i : Nat // i ≤ l.length ∧ (l.drop i = m.drop i ↔ l = m)} [6, 7, 8, 9, 17, 18, 19, 20, 21, 22, 23, 24, 25, 26, 27, 28, 29, 30, 31] (fun zb => [(17, .v (.s (.int .i64 zb.1)))]) (fun _ => S) (fun zb => l.length - zb.1) ⟨0, Nat.zero_le _, by simp⟩ ?_ rfl ?_
    · (conv => whnf); repeat' (first | exact trivial | exact rfl | apply And.intro)
    rintro ⟨i, hi, hinv⟩; dsimp only
    repeat' ((conv => whnf) <;> first
     | rw [wrapI_i64 (by omega)] | refine cD (fun _ => ?_) fun _ => ?_ | refine cE (fun _ => ?_) fun _ => ?_ | refine rI aN rf ix ?_ | (refine rd_loadm (f := GTab.d) aN ix ?_; intro _ hcs; obtain ⟨_, _, _, rfl, _, _, _⟩ := GTab.inv hcs) | (refine callP_eq (ev_iEqualTabs _ _ _ _ _ rdcA rdcA) ?_) | refine And.intro ?_ ?_)
    all_goals first
      | rfl
      | (exfalso; omega)
      | (have he := eql_end (by omega) (by omega) hinv; rw [decide_eq_true he] <;> rfl)
      | (have hlt : i < l.length := by omega
         have hs := (eql_step hlt (by omega) hinv).2
         have hb : ¬ (l[((i : Nat) : Int).toNat]'hlt = m[((i : Nat) : Int).toNat]'(by omega)) := by first | assumption | exact of_decide_eq_false (by assumption)
         rw [decide_eq_false (hs hb)] <;> rfl)
      | (have hlt : i < l.length := by omega
         have hs := (eql_step hlt (by omega) hinv).1
         have hb : l[((i : Nat) : Int).toNat]'hlt = m[((i : Nat) : Int).toNat]'(by omega) := by first | assumption | exact of_decide_eq_true (by assumption)
         (refine ⟨⟨i + 1, by omega, hs hb⟩, ?_, rfl, by dsimp only; omega⟩; (conv => whnf); repeat' (first | exact trivial | exact rfl | apply And.intro)))
  · rw [decide_eq_false (p := l = m) (fun e => hlen (by rw [e]))]
    refine evA_intro tok Tryz.func113 (by kernel_rfl) rfl ?_
    repeat' ((conv => whnf) <;> first
     | refine cE (fun _ => ?_) fun _ => ?_ | refine rE fun hml => ?_ | refine And.intro ?_ ?_)
    all_goals first | rfl | (exfalso; omega)
theorem ev_EqFPackage (l m : List GPackage) (c c' : C) (S : Store) (h : Rd S [.sl 8 (l.map GPackage.d)] [c]) (h' : Rd S [.sl 8 (m.map GPackage.d)] [c']) : EvA Tryz.prog 115 [.s c, .s c', .s (.fn 116)] S (fun r S' => r = .v (.s (.bool (decide (l = m)))) ∧ S' = S) := by
  by_cases hlen : l.length = m.length
  · refine evA_intro tok Tryz.func115 (by kernel_rfl) rfl ?_
    repeat' ((conv => whnf) <;> first
     | refine cE (fun _ => ?_) fun _ => ?_ | refine rE fun hml => ?_ | refine And.intro ?_ ?_)
    all_goals try first | rfl | (exfalso; omega)
    refine loop_intro {i : Nat // i ≤ l.length ∧ (l.drop i = m.drop i ↔ l = m)} [6, 7, 8, 9, 17, 18, 19, 20, 21, 22, 23, 24, 25, 26, 27, 28, 29, 30, 31] (fun zb => [(17, .v (.s (.int .i64 zb.1)))]) (fun _ => S) (fun zb => l.length - zb.1) ⟨0, Nat.zero_le _, by simp⟩ ?_ rfl ?_
    · (conv => whnf); repeat' (first | exact trivial | exact rfl | apply And.intro)
    rintro ⟨i, hi, hinv⟩; dsimp only
    repeat' ((conv => whnf) <;> first
     | rw [wrapI_i64 (by omega)] | refine cD (fun _ => ?_) fun _ => ?_ | refine cE (fun _ => ?_) fun _ => ?_ | refine rI aN rf ix ?_ | (refine rd_loadm (f := GPackage.d) aN ix ?_; intro _ hcs; obtain ⟨_, _, _, _, rfl, _, _, _, _⟩ := GPackage.inv hcs) | (refine callP_eq (ev_iEqualPackages _ _ _ _ _ rdcA rdcA) ?_) | refine And.intro ?_ ?_)
    all_goals first
      | rfl
      | (exfalso; omega)
      | (have he := eql_end (by omega) (by omega) hinv; rw [decide_eq_true he] <;> rfl)
      | (have hlt : i < l.length := by omega
         have hs := (eql_step hlt (by omega) hinv).2
         have hb : ¬ (l[((i : Nat) : Int).toNat]'hlt = m[((i : Nat) : Int).toNat]'(by omega)) := by first | assumption | exact of_decide_eq_false (by assumption)
         rw [decide_eq_false (hs hb)] <;> rfl)
      | (have hlt : i < l.length := by omega
         have hs := (eql_step hlt (by omega) hinv).1
         have hb : l[((i : Nat) : Int).toNat]'hlt = m[((i : Nat) : Int).toNat]'(by omega) := by first | assumption | exact of_decide_eq_true (by assumption)
         (refine ⟨⟨i + 1, by omega, hs hb⟩, ?_, rfl, by dsimp only; omega⟩; (conv => whnf); repeat' (first | exact trivial | exact rfl | apply And.intro)))
  · rw [decide_eq_false (p := l = m) (fun e => hlen (by rw [e]))]
    refine evA_intro tok Tryz.func115 (by kernel_rfl) rfl ?_
    repeat' ((conv => whnf) <;> first
     | refine cE (fun _ => ?_) fun _ => ?_ | refine rE fun hml => ?_ | refine And.intro ?_ ?_)
    all_goals first | rfl | (exfalso; omega)
theorem ev_iEqualBrowsers (x y : GBrowser) (cs cs' : List C) (S : Store) (h : Rd S x.d cs) (h' : Rd S y.d cs') : EvA Tryz.prog 21 [.agg cs, .agg cs'] S (fun r S' => r = .v (.s (.bool (decide (x = y)))) ∧ S' = S) := by
  obtain ⟨_, _, _, _, _, _, rfl, _, _, _, _, _, _⟩ := GBrowser.inv h
  obtain ⟨_, _, _, _, _, _, rfl, _, _, _, _, _, _⟩ := GBrowser.inv h'
  rw [GBrowser.dec]
  refine evA_intro tok Tryz.func21 (by kernel_rfl) rfl ?_
  repeat' ((conv => whnf) <;> first
   | refine cD (fun _ => ?_) fun _ => ?_ | refine cF ?_ | refine callP_eq (ev_EqFTab _ _ _ _ _ aN aN) ?_ | refine callP_eq (ev_EqFPackage _ _ _ _ _ aN aN) ?_ | refine callP_eq (ev_EqGrant _ _ _ _ _ aN aN) ?_ | refine callP_eq (ev_EqLimit _ _ _ _ _ aN aN) ?_ | refine callP_eq (ev_EqRule _ _ _ _ _ aN aN) ?_ | refine callP_eq (ev_EqStored _ _ _ _ _ aN aN) ?_ | refine And.intro ?_ ?_)
  all_goals first | rfl | (simp_all [resAV]; done)
end Go.Proofs.YtockphlpokoohaaGreat
