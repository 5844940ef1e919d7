/- Equal lists, tabs, packages, browsers. -/
import Derived.Test.YtpnbkjinfphlkaaFnB
namespace Go.Proofs.Ytpnbkjinfphlkaa
open Go Go.ChangeShapes Go.WideShapes Go.ChangeAt Go.RowKit
set_option linter.unusedVariables false
set_option maxRecDepth 100000

theorem eql_step {α : Type} {l m : List α} {i : Nat} (hi : i < l.length) (hm : i < m.length) (h : l.drop i = m.drop i ↔ l = m) : (l[i] = m[i] → (l.drop (i + 1) = m.drop (i + 1) ↔ l = m)) ∧ (l[i] ≠ m[i] → l ≠ m) := by
  rw [drop_at hi, drop_at hm, List.cons.injEq] at h
  exact ⟨fun e => ⟨fun g => h.1 ⟨e, g⟩, fun g => (h.2 g).2⟩, fun e g => e (h.2 g).1⟩
theorem eql_end {α : Type} {l m : List α} {i : Nat} (hi : l.length ≤ i) (hm : m.length ≤ i) (h : l.drop i = m.drop i ↔ l = m) : l = m := by
  rw [drop_end hi, drop_end hm] at h
  exact h.1 rfl
theorem ev_EqNode (l m : List GNode) (c c' : C) (S : Store) (h : Rd S [.sl 5 (l.map GNode.d)] [c]) (h' : Rd S [.sl 5 (m.map GNode.d)] [c']) : EvA Try.prog 158 [.s c, .s c'] S (fun r S' => r = .v (.s (.bool (decide (l = m)))) ∧ S' = S) := by
  by_cases hlen : l.length = m.length
  · refine evA_intro tok Try.func158 (by kernel_rfl) rfl ?_
    repeat' ((conv => whnf) <;> first
        | rw [wrapI_i64 (by omega)]
        | refine condP_dec (fun _ => ?_) (fun _ => ?_)
        | refine condP_ndec (fun _ => ?_) (fun _ => ?_)
        | refine condP_true rfl ?_
        | refine condP_false rfl ?_
        | refine condP_not (fun _ => ?_) (fun _ => ?_)
        | refine condP_intro (fun _ => ?_) (fun _ => ?_)
        | (refine rd_lenm (by assumption) ?_; intro hml; rw [maxLen_eq] at hml)
        | refine rd_idxm (by assumption) (by intro _; rfl) (by constructor <;> omega) ?_
        | refine rd_loadf (by assumption) (by intro _; exact trivial) (by constructor <;> omega) ?_
        | refine needP_intro (by first | omega | (constructor <;> omega)) ?_
        | refine draw_intro 16 [.fl 0, .fl 1, .fl 2, .fl 3, .fl 4, .fl 5, .fl 6, .fl 7, .fl 8] (by rfl) (by kernel_rfl) ?_
        | refine And.intro ?_ ?_)
    all_goals try first | rfl | (exfalso; omega)
    refine loop_intro {i : Nat // i ≤ l.length ∧ (l.drop i = m.drop i ↔ l = m)} [4, 5, 13, 14, 15, 16, 17, 18, 19, 20, 21, 22, 23, 24, 25] (fun zb => [(13, .v (.s (.int .i64 zb.1)))]) (fun _ => S) (fun zb => l.length - zb.1) ⟨0, Nat.zero_le _, by simp⟩ ?_ rfl ?_
    · (conv => whnf); repeat' (first | exact trivial | exact rfl | apply And.intro)
    rintro ⟨i, hi, hinv⟩; dsimp only
    repeat' ((conv => whnf) <;> first
        | rw [wrapI_i64 (by omega)]
        | refine condP_dec (fun _ => ?_) (fun _ => ?_)
        | refine condP_ndec (fun _ => ?_) (fun _ => ?_)
        | refine condP_true rfl ?_
        | refine condP_false rfl ?_
        | refine condP_not (fun _ => ?_) (fun _ => ?_)
        | refine condP_intro (fun _ => ?_) (fun _ => ?_)
        | (refine rd_lenm (by assumption) ?_; intro hml; rw [maxLen_eq] at hml)
        | refine rd_idxm (by assumption) (by intro _; rfl) (by constructor <;> omega) ?_
        | refine rd_loadf (by assumption) (by intro _; exact trivial) (by constructor <;> omega) ?_
        | refine needP_intro (by first | omega | (constructor <;> omega)) ?_
        | refine draw_intro 16 [.fl 0, .fl 1, .fl 2, .fl 3, .fl 4, .fl 5, .fl 6, .fl 7, .fl 8] (by rfl) (by kernel_rfl) ?_
        | refine And.intro ?_ ?_)
    all_goals first
      | rfl
      | (exfalso; omega)
      | (have he := eql_end (by omega) (by omega) hinv; rw [decide_eq_true he] <;> rfl)
      | (have hlt : i < l.length := by omega
         have hs := (eql_step hlt (by omega) hinv).2
         have hb : ¬ (l[((i : Nat) : Int).toNat]'hlt = m[((i : Nat) : Int).toNat]'(by omega)) := by first | assumption | exact of_decide_eq_false (by assumption) | exact of_decide_eq_false ((GNode.eqb _ _).symm.trans (by assumption))
         rw [decide_eq_false (hs hb)] <;> rfl)
      | (have hlt : i < l.length := by omega
         have hs := (eql_step hlt (by omega) hinv).1
         have hb : l[((i : Nat) : Int).toNat]'hlt = m[((i : Nat) : Int).toNat]'(by omega) := by first | assumption | exact of_decide_eq_true (by assumption) | exact of_decide_eq_true ((GNode.eqb _ _).symm.trans (by assumption))
         (refine ⟨⟨i + 1, by omega, hs hb⟩, ?_, rfl, by dsimp only; omega⟩; (conv => whnf); repeat' (first | exact trivial | exact rfl | apply And.intro)))
  · rw [decide_eq_false (p := l = m) (fun e => hlen (by rw [e]))]
    refine evA_intro tok Try.func158 (by kernel_rfl) rfl ?_
    repeat' ((conv => whnf) <;> first
        | rw [wrapI_i64 (by omega)]
        | refine condP_dec (fun _ => ?_) (fun _ => ?_)
        | refine condP_ndec (fun _ => ?_) (fun _ => ?_)
        | refine condP_true rfl ?_
        | refine condP_false rfl ?_
        | refine condP_not (fun _ => ?_) (fun _ => ?_)
        | refine condP_intro (fun _ => ?_) (fun _ => ?_)
        | (refine rd_lenm (by assumption) ?_; intro hml; rw [maxLen_eq] at hml)
        | refine rd_idxm (by assumption) (by intro _; rfl) (by constructor <;> omega) ?_
        | refine rd_loadf (by assumption) (by intro _; exact trivial) (by constructor <;> omega) ?_
        | refine needP_intro (by first | omega | (constructor <;> omega)) ?_
        | refine draw_intro 16 [.fl 0, .fl 1, .fl 2, .fl 3, .fl 4, .fl 5, .fl 6, .fl 7, .fl 8] (by rfl) (by kernel_rfl) ?_
        | refine And.intro ?_ ?_)
    all_goals first | rfl | (exfalso; omega)
theorem ev_EqEdit (l m : List GEdit) (c c' : C) (S : Store) (h : Rd S [.sl 6 (l.map GEdit.d)] [c]) (h' : Rd S [.sl 6 (m.map GEdit.d)] [c']) : EvA Try.prog 159 [.s c, .s c'] S (fun r S' => r = .v (.s (.bool (decide (l = m)))) ∧ S' = S) := by
  by_cases hlen : l.length = m.length
  · refine evA_intro tok Try.func159 (by kernel_rfl) rfl ?_
    repeat' ((conv => whnf) <;> first
        | rw [wrapI_i64 (by omega)]
        | refine condP_dec (fun _ => ?_) (fun _ => ?_)
        | refine condP_ndec (fun _ => ?_) (fun _ => ?_)
        | refine condP_true rfl ?_
        | refine condP_false rfl ?_
        | refine condP_not (fun _ => ?_) (fun _ => ?_)
        | refine condP_intro (fun _ => ?_) (fun _ => ?_)
        | (refine rd_lenm (by assumption) ?_; intro hml; rw [maxLen_eq] at hml)
        | refine rd_idxm (by assumption) (by intro _; rfl) (by constructor <;> omega) ?_
        | refine rd_loadf (by assumption) (by intro _; exact trivial) (by constructor <;> omega) ?_
        | refine needP_intro (by first | omega | (constructor <;> omega)) ?_
        | refine draw_intro 16 [.fl 0, .fl 1, .fl 2, .fl 3, .fl 4, .fl 5, .fl 6, .fl 7, .fl 8] (by rfl) (by kernel_rfl) ?_
        | refine And.intro ?_ ?_)
    all_goals try first | rfl | (exfalso; omega)
    refine loop_intro {i : Nat // i ≤ l.length ∧ (l.drop i = m.drop i ↔ l = m)} [4, 5, 13, 14, 15, 16, 17, 18, 19, 20, 21, 22, 23, 24, 25] (fun zb => [(13, .v (.s (.int .i64 zb.1)))]) (fun _ => S) (fun zb => l.length - zb.1) ⟨0, Nat.zero_le _, by simp⟩ ?_ rfl ?_
    · (conv => whnf); repeat' (first | exact trivial | exact rfl | apply And.intro)
    rintro ⟨i, hi, hinv⟩; dsimp only
    repeat' ((conv => whnf) <;> first
        | rw [wrapI_i64 (by omega)]
        | refine condP_dec (fun _ => ?_) (fun _ => ?_)
        | refine condP_ndec (fun _ => ?_) (fun _ => ?_)
        | refine condP_true rfl ?_
        | refine condP_false rfl ?_
        | refine condP_not (fun _ => ?_) (fun _ => ?_)
        | refine condP_intro (fun _ => ?_) (fun _ => ?_)
        | (refine rd_lenm (by assumption) ?_; intro hml; rw [maxLen_eq] at hml)
        | refine rd_idxm (by assumption) (by intro _; rfl) (by constructor <;> omega) ?_
        | refine rd_loadf (by assumption) (by intro _; exact trivial) (by constructor <;> omega) ?_
        | refine needP_intro (by first | omega | (constructor <;> omega)) ?_
        | refine draw_intro 16 [.fl 0, .fl 1, .fl 2, .fl 3, .fl 4, .fl 5, .fl 6, .fl 7, .fl 8] (by rfl) (by kernel_rfl) ?_
        | refine And.intro ?_ ?_)
    all_goals first
      | rfl
      | (exfalso; omega)
      | (have he := eql_end (by omega) (by omega) hinv; rw [decide_eq_true he] <;> rfl)
      | (have hlt : i < l.length := by omega
         have hs := (eql_step hlt (by omega) hinv).2
         have hb : ¬ (l[((i : Nat) : Int).toNat]'hlt = m[((i : Nat) : Int).toNat]'(by omega)) := by first | assumption | exact of_decide_eq_false (by assumption) | exact of_decide_eq_false ((GEdit.eqb _ _).symm.trans (by assumption))
         rw [decide_eq_false (hs hb)] <;> rfl)
      | (have hlt : i < l.length := by omega
         have hs := (eql_step hlt (by omega) hinv).1
         have hb : l[((i : Nat) : Int).toNat]'hlt = m[((i : Nat) : Int).toNat]'(by omega) := by first | assumption | exact of_decide_eq_true (by assumption) | exact of_decide_eq_true ((GEdit.eqb _ _).symm.trans (by assumption))
         (refine ⟨⟨i + 1, by omega, hs hb⟩, ?_, rfl, by dsimp only; omega⟩; (conv => whnf); repeat' (first | exact trivial | exact rfl | apply And.intro)))
  · rw [decide_eq_false (p := l = m) (fun e => hlen (by rw [e]))]
    refine evA_intro tok Try.func159 (by kernel_rfl) rfl ?_
    repeat' ((conv => whnf) <;> first
        | rw [wrapI_i64 (by omega)]
        | refine condP_dec (fun _ => ?_) (fun _ => ?_)
        | refine condP_ndec (fun _ => ?_) (fun _ => ?_)
        | refine condP_true rfl ?_
        | refine condP_false rfl ?_
        | refine condP_not (fun _ => ?_) (fun _ => ?_)
        | refine condP_intro (fun _ => ?_) (fun _ => ?_)
        | (refine rd_lenm (by assumption) ?_; intro hml; rw [maxLen_eq] at hml)
        | refine rd_idxm (by assumption) (by intro _; rfl) (by constructor <;> omega) ?_
        | refine rd_loadf (by assumption) (by intro _; exact trivial) (by constructor <;> omega) ?_
        | refine needP_intro (by first | omega | (constructor <;> omega)) ?_
        | refine draw_intro 16 [.fl 0, .fl 1, .fl 2, .fl 3, .fl 4, .fl 5, .fl 6, .fl 7, .fl 8] (by rfl) (by kernel_rfl) ?_
        | refine And.intro ?_ ?_)
    all_goals first | rfl | (exfalso; omega)
theorem ev_Eqint (l m : List Int) (c c' : C) (S : Store) (h : Rd S [.sl 1 (l.map dInt)] [c]) (h' : Rd S [.sl 1 (m.map dInt)] [c']) : EvA Try.prog 160 [.s c, .s c'] S (fun r S' => r = .v (.s (.bool (decide (l = m)))) ∧ S' = S) := by
  by_cases hlen : l.length = m.length
  · refine evA_intro tok Try.func160 (by kernel_rfl) rfl ?_
    repeat' ((conv => whnf) <;> first
        | rw [wrapI_i64 (by omega)]
        | refine condP_dec (fun _ => ?_) (fun _ => ?_)
        | refine condP_ndec (fun _ => ?_) (fun _ => ?_)
        | refine condP_true rfl ?_
        | refine condP_false rfl ?_
        | refine condP_not (fun _ => ?_) (fun _ => ?_)
        | refine condP_intro (fun _ => ?_) (fun _ => ?_)
        | (refine rd_lenm (by assumption) ?_; intro hml; rw [maxLen_eq] at hml)
        | refine rd_idxm (by assumption) (by intro _; rfl) (by constructor <;> omega) ?_
        | refine rd_loadf (by assumption) (by intro _; exact trivial) (by constructor <;> omega) ?_
        | refine needP_intro (by first | omega | (constructor <;> omega)) ?_
        | refine draw_intro 16 [.fl 0, .fl 1, .fl 2, .fl 3, .fl 4, .fl 5, .fl 6, .fl 7, .fl 8] (by rfl) (by kernel_rfl) ?_
        | refine And.intro ?_ ?_)
    all_goals try first | rfl | (exfalso; omega)
    refine loop_intro {i : Nat // i ≤ l.length ∧ (l.drop i = m.drop i ↔ l = m)} [4, 5, 13, 14, 15, 16, 17, 18, 19, 20, 21, 22, 23, 24, 25] (fun zb => [(13, .v (.s (.int .i64 zb.1)))]) (fun _ => S) (fun zb => l.length - zb.1) ⟨0, Nat.zero_le _, by simp⟩ ?_ rfl ?_
    · (conv => whnf); repeat' (first | exact trivial | exact rfl | apply And.intro)
    rintro ⟨i, hi, hinv⟩; dsimp only
    repeat' ((conv => whnf) <;> first
        | rw [wrapI_i64 (by omega)]
        | refine condP_dec (fun _ => ?_) (fun _ => ?_)
        | refine condP_ndec (fun _ => ?_) (fun _ => ?_)
        | refine condP_true rfl ?_
        | refine condP_false rfl ?_
        | refine condP_not (fun _ => ?_) (fun _ => ?_)
        | refine condP_intro (fun _ => ?_) (fun _ => ?_)
        | (refine rd_lenm (by assumption) ?_; intro hml; rw [maxLen_eq] at hml)
        | refine rd_idxm (by assumption) (by intro _; rfl) (by constructor <;> omega) ?_
        | refine rd_loadf (by assumption) (by intro _; exact trivial) (by constructor <;> omega) ?_
        | refine needP_intro (by first | omega | (constructor <;> omega)) ?_
        | refine draw_intro 16 [.fl 0, .fl 1, .fl 2, .fl 3, .fl 4, .fl 5, .fl 6, .fl 7, .fl 8] (by rfl) (by kernel_rfl) ?_
        | refine And.intro ?_ ?_)
    all_goals first
      | rfl
      | (exfalso; omega)
      | (have he := eql_end (by omega) (by omega) hinv; rw [decide_eq_true he] <;> rfl)
      | (have hlt : i < l.length := by omega
         have hs := (eql_step hlt (by omega) hinv).2
         have hb : ¬ (l[((i : Nat) : Int).toNat]'hlt = m[((i : Nat) : Int).toNat]'(by omega)) := by first | assumption | exact of_decide_eq_false (by assumption)
         rw [decide_eq_false (hs hb)] <;> rfl)
      | (have hlt : i < l.length := by omega
         have hs := (eql_step hlt (by omega) hinv).1
         have hb : l[((i : Nat) : Int).toNat]'hlt = m[((i : Nat) : Int).toNat]'(by omega) := by first | assumption | exact of_decide_eq_true (by assumption)
         (refine ⟨⟨i + 1, by omega, hs hb⟩, ?_, rfl, by dsimp only; omega⟩; (conv => whnf); repeat' (first | exact trivial | exact rfl | apply And.intro)))
  · rw [decide_eq_false (p := l = m) (fun e => hlen (by rw [e]))]
    refine evA_intro tok Try.func160 (by kernel_rfl) rfl ?_
    repeat' ((conv => whnf) <;> first
        | rw [wrapI_i64 (by omega)]
        | refine condP_dec (fun _ => ?_) (fun _ => ?_)
        | refine condP_ndec (fun _ => ?_) (fun _ => ?_)
        | refine condP_true rfl ?_
        | refine condP_false rfl ?_
        | refine condP_not (fun _ => ?_) (fun _ => ?_)
        | refine condP_intro (fun _ => ?_) (fun _ => ?_)
        | (refine rd_lenm (by assumption) ?_; intro hml; rw [maxLen_eq] at hml)
        | refine rd_idxm (by assumption) (by intro _; rfl) (by constructor <;> omega) ?_
        | refine rd_loadf (by assumption) (by intro _; exact trivial) (by constructor <;> omega) ?_
        | refine needP_intro (by first | omega | (constructor <;> omega)) ?_
        | refine draw_intro 16 [.fl 0, .fl 1, .fl 2, .fl 3, .fl 4, .fl 5, .fl 6, .fl 7, .fl 8] (by rfl) (by kernel_rfl) ?_
        | refine And.intro ?_ ?_)
    all_goals first | rfl | (exfalso; omega)
theorem ev_EqGrant (l m : List GGrant) (c c' : C) (S : Store) (h : Rd S [.sl 7 (l.map GGrant.d)] [c]) (h' : Rd S [.sl 7 (m.map GGrant.d)] [c']) : EvA Try.prog 95 [.s c, .s c'] S (fun r S' => r = .v (.s (.bool (decide (l = m)))) ∧ S' = S) := by
  by_cases hlen : l.length = m.length
  · refine evA_intro tok Try.func95 (by kernel_rfl) rfl ?_
    repeat' ((conv => whnf) <;> first
        | rw [wrapI_i64 (by omega)]
        | refine condP_dec (fun _ => ?_) (fun _ => ?_)
        | refine condP_ndec (fun _ => ?_) (fun _ => ?_)
        | refine condP_true rfl ?_
        | refine condP_false rfl ?_
        | refine condP_not (fun _ => ?_) (fun _ => ?_)
        | refine condP_intro (fun _ => ?_) (fun _ => ?_)
        | (refine rd_lenm (by assumption) ?_; intro hml; rw [maxLen_eq] at hml)
        | refine rd_idxm (by assumption) (by intro _; rfl) (by constructor <;> omega) ?_
        | refine rd_loadf (by assumption) (by intro _; exact trivial) (by constructor <;> omega) ?_
        | refine needP_intro (by first | omega | (constructor <;> omega)) ?_
        | refine draw_intro 16 [.fl 0, .fl 1, .fl 2, .fl 3, .fl 4, .fl 5, .fl 6, .fl 7, .fl 8] (by rfl) (by kernel_rfl) ?_
        | refine And.intro ?_ ?_)
    all_goals try first | rfl | (exfalso; omega)
    refine loop_intro {i : Nat // i ≤ l.length ∧ (l.drop i = m.drop i ↔ l = m)} [4, 5, 13, 14, 15, 16, 17, 18, 19, 20, 21, 22, 23, 24, 25] (fun zb => [(13, .v (.s (.int .i64 zb.1)))]) (fun _ => S) (fun zb => l.length - zb.1) ⟨0, Nat.zero_le _, by simp⟩ ?_ rfl ?_
    · (conv => whnf); repeat' (first | exact trivial | exact rfl | apply And.intro)
    rintro ⟨i, hi, hinv⟩; dsimp only
    repeat' ((conv => whnf) <;> first
        | rw [wrapI_i64 (by omega)]
        | refine condP_dec (fun _ => ?_) (fun _ => ?_)
        | refine condP_ndec (fun _ => ?_) (fun _ => ?_)
        | refine condP_true rfl ?_
        | refine condP_false rfl ?_
        | refine condP_not (fun _ => ?_) (fun _ => ?_)
        | refine condP_intro (fun _ => ?_) (fun _ => ?_)
        | (refine rd_lenm (by assumption) ?_; intro hml; rw [maxLen_eq] at hml)
        | refine rd_idxm (by assumption) (by intro _; rfl) (by constructor <;> omega) ?_
        | refine rd_loadf (by assumption) (by intro _; exact trivial) (by constructor <;> omega) ?_
        | refine needP_intro (by first | omega | (constructor <;> omega)) ?_
        | refine draw_intro 16 [.fl 0, .fl 1, .fl 2, .fl 3, .fl 4, .fl 5, .fl 6, .fl 7, .fl 8] (by rfl) (by kernel_rfl) ?_
        | refine And.intro ?_ ?_)
    all_goals first
      | rfl
      | (exfalso; omega)
      | (have he := eql_end (by omega) (by omega) hinv; rw [decide_eq_true he] <;> rfl)
      | (have hlt : i < l.length := by omega
         have hs := (eql_step hlt (by omega) hinv).2
         have hb : ¬ (l[((i : Nat) : Int).toNat]'hlt = m[((i : Nat) : Int).toNat]'(by omega)) := by first | assumption | exact of_decide_eq_false (by assumption) | exact of_decide_eq_false ((GGrant.eqb _ _).symm.trans (by assumption))
         rw [decide_eq_false (hs hb)] <;> rfl)
      | (have hlt : i < l.length := by omega
         have hs := (eql_step hlt (by omega) hinv).1
         have hb : l[((i : Nat) : Int).toNat]'hlt = m[((i : Nat) : Int).toNat]'(by omega) := by first | assumption | exact of_decide_eq_true (by assumption) | exact of_decide_eq_true ((GGrant.eqb _ _).symm.trans (by assumption))
         (refine ⟨⟨i + 1, by omega, hs hb⟩, ?_, rfl, by dsimp only; omega⟩; (conv => whnf); repeat' (first | exact trivial | exact rfl | apply And.intro)))
  · rw [decide_eq_false (p := l = m) (fun e => hlen (by rw [e]))]
    refine evA_intro tok Try.func95 (by kernel_rfl) rfl ?_
    repeat' ((conv => whnf) <;> first
        | rw [wrapI_i64 (by omega)]
        | refine condP_dec (fun _ => ?_) (fun _ => ?_)
        | refine condP_ndec (fun _ => ?_) (fun _ => ?_)
        | refine condP_true rfl ?_
        | refine condP_false rfl ?_
        | refine condP_not (fun _ => ?_) (fun _ => ?_)
        | refine condP_intro (fun _ => ?_) (fun _ => ?_)
        | (refine rd_lenm (by assumption) ?_; intro hml; rw [maxLen_eq] at hml)
        | refine rd_idxm (by assumption) (by intro _; rfl) (by constructor <;> omega) ?_
        | refine rd_loadf (by assumption) (by intro _; exact trivial) (by constructor <;> omega) ?_
        | refine needP_intro (by first | omega | (constructor <;> omega)) ?_
        | refine draw_intro 16 [.fl 0, .fl 1, .fl 2, .fl 3, .fl 4, .fl 5, .fl 6, .fl 7, .fl 8] (by rfl) (by kernel_rfl) ?_
        | refine And.intro ?_ ?_)
    all_goals first | rfl | (exfalso; omega)
theorem ev_EqFlow (l m : List GFlow) (c c' : C) (S : Store) (h : Rd S [.sl 3 (l.map GFlow.d)] [c]) (h' : Rd S [.sl 3 (m.map GFlow.d)] [c']) : EvA Try.prog 161 [.s c, .s c'] S (fun r S' => r = .v (.s (.bool (decide (l = m)))) ∧ S' = S) := by
  by_cases hlen : l.length = m.length
  · refine evA_intro tok Try.func161 (by kernel_rfl) rfl ?_
    repeat' ((conv => whnf) <;> first
        | rw [wrapI_i64 (by omega)]
        | refine condP_dec (fun _ => ?_) (fun _ => ?_)
        | refine condP_ndec (fun _ => ?_) (fun _ => ?_)
        | refine condP_true rfl ?_
        | refine condP_false rfl ?_
        | refine condP_not (fun _ => ?_) (fun _ => ?_)
        | refine condP_intro (fun _ => ?_) (fun _ => ?_)
        | (refine rd_lenm (by assumption) ?_; intro hml; rw [maxLen_eq] at hml)
        | refine rd_idxm (by assumption) (by intro _; rfl) (by constructor <;> omega) ?_
        | refine rd_loadf (by assumption) (by intro _; exact trivial) (by constructor <;> omega) ?_
        | refine needP_intro (by first | omega | (constructor <;> omega)) ?_
        | refine draw_intro 16 [.fl 0, .fl 1, .fl 2, .fl 3, .fl 4, .fl 5, .fl 6, .fl 7, .fl 8] (by rfl) (by kernel_rfl) ?_
        | refine And.intro ?_ ?_)
    all_goals try first | rfl | (exfalso; omega)
    refine loop_intro {i : Nat // i ≤ l.length ∧ (l.drop i = m.drop i ↔ l = m)} [4, 5, 13, 14, 15, 16, 17, 18, 19, 20, 21, 22, 23, 24, 25] (fun zb => [(13, .v (.s (.int .i64 zb.1)))]) (fun _ => S) (fun zb => l.length - zb.1) ⟨0, Nat.zero_le _, by simp⟩ ?_ rfl ?_
    · (conv => whnf); repeat' (first | exact trivial | exact rfl | apply And.intro)
    rintro ⟨i, hi, hinv⟩; dsimp only
    repeat' ((conv => whnf) <;> first
        | rw [wrapI_i64 (by omega)]
        | refine condP_dec (fun _ => ?_) (fun _ => ?_)
        | refine condP_ndec (fun _ => ?_) (fun _ => ?_)
        | refine condP_true rfl ?_
        | refine condP_false rfl ?_
        | refine condP_not (fun _ => ?_) (fun _ => ?_)
        | refine condP_intro (fun _ => ?_) (fun _ => ?_)
        | (refine rd_lenm (by assumption) ?_; intro hml; rw [maxLen_eq] at hml)
        | refine rd_idxm (by assumption) (by intro _; rfl) (by constructor <;> omega) ?_
        | refine rd_loadf (by assumption) (by intro _; exact trivial) (by constructor <;> omega) ?_
        | refine needP_intro (by first | omega | (constructor <;> omega)) ?_
        | refine draw_intro 16 [.fl 0, .fl 1, .fl 2, .fl 3, .fl 4, .fl 5, .fl 6, .fl 7, .fl 8] (by rfl) (by kernel_rfl) ?_
        | refine And.intro ?_ ?_)
    all_goals first
      | rfl
      | (exfalso; omega)
      | (have he := eql_end (by omega) (by omega) hinv; rw [decide_eq_true he] <;> rfl)
      | (have hlt : i < l.length := by omega
         have hs := (eql_step hlt (by omega) hinv).2
         have hb : ¬ (l[((i : Nat) : Int).toNat]'hlt = m[((i : Nat) : Int).toNat]'(by omega)) := by first | assumption | exact of_decide_eq_false (by assumption) | exact of_decide_eq_false ((GFlow.eqb _ _).symm.trans (by assumption))
         rw [decide_eq_false (hs hb)] <;> rfl)
      | (have hlt : i < l.length := by omega
         have hs := (eql_step hlt (by omega) hinv).1
         have hb : l[((i : Nat) : Int).toNat]'hlt = m[((i : Nat) : Int).toNat]'(by omega) := by first | assumption | exact of_decide_eq_true (by assumption) | exact of_decide_eq_true ((GFlow.eqb _ _).symm.trans (by assumption))
         (refine ⟨⟨i + 1, by omega, hs hb⟩, ?_, rfl, by dsimp only; omega⟩; (conv => whnf); repeat' (first | exact trivial | exact rfl | apply And.intro)))
  · rw [decide_eq_false (p := l = m) (fun e => hlen (by rw [e]))]
    refine evA_intro tok Try.func161 (by kernel_rfl) rfl ?_
    repeat' ((conv => whnf) <;> first
        | rw [wrapI_i64 (by omega)]
        | refine condP_dec (fun _ => ?_) (fun _ => ?_)
        | refine condP_ndec (fun _ => ?_) (fun _ => ?_)
        | refine condP_true rfl ?_
        | refine condP_false rfl ?_
        | refine condP_not (fun _ => ?_) (fun _ => ?_)
        | refine condP_intro (fun _ => ?_) (fun _ => ?_)
        | (refine rd_lenm (by assumption) ?_; intro hml; rw [maxLen_eq] at hml)
        | refine rd_idxm (by assumption) (by intro _; rfl) (by constructor <;> omega) ?_
        | refine rd_loadf (by assumption) (by intro _; exact trivial) (by constructor <;> omega) ?_
        | refine needP_intro (by first | omega | (constructor <;> omega)) ?_
        | refine draw_intro 16 [.fl 0, .fl 1, .fl 2, .fl 3, .fl 4, .fl 5, .fl 6, .fl 7, .fl 8] (by rfl) (by kernel_rfl) ?_
        | refine And.intro ?_ ?_)
    all_goals first | rfl | (exfalso; omega)
theorem ev_EqRule (l m : List GRule) (c c' : C) (S : Store) (h : Rd S [.sl 8 (l.map GRule.d)] [c]) (h' : Rd S [.sl 8 (m.map GRule.d)] [c']) : EvA Try.prog 97 [.s c, .s c'] S (fun r S' => r = .v (.s (.bool (decide (l = m)))) ∧ S' = S) := by
  by_cases hlen : l.length = m.length
  · refine evA_intro tok Try.func97 (by kernel_rfl) rfl ?_
    repeat' ((conv => whnf) <;> first
        | rw [wrapI_i64 (by omega)]
        | refine condP_dec (fun _ => ?_) (fun _ => ?_)
        | refine condP_ndec (fun _ => ?_) (fun _ => ?_)
        | refine condP_true rfl ?_
        | refine condP_false rfl ?_
        | refine condP_not (fun _ => ?_) (fun _ => ?_)
        | refine condP_intro (fun _ => ?_) (fun _ => ?_)
        | (refine rd_lenm (by assumption) ?_; intro hml; rw [maxLen_eq] at hml)
        | refine rd_idxm (by assumption) (by intro _; rfl) (by constructor <;> omega) ?_
        | refine rd_loadf (by assumption) (by intro _; exact trivial) (by constructor <;> omega) ?_
        | refine needP_intro (by first | omega | (constructor <;> omega)) ?_
        | refine draw_intro 16 [.fl 0, .fl 1, .fl 2, .fl 3, .fl 4, .fl 5, .fl 6, .fl 7, .fl 8] (by rfl) (by kernel_rfl) ?_
        | refine And.intro ?_ ?_)
    all_goals try first | rfl | (exfalso; omega)
    refine loop_intro {i : Nat // i ≤ l.length ∧ (l.drop i = m.drop i ↔ l = m)} [4, 5, 13, 14, 15, 16, 17, 18, 19, 20, 21, 22, 23, 24, 25] (fun zb => [(13, .v (.s (.int .i64 zb.1)))]) (fun _ => S) (fun zb => l.length - zb.1) ⟨0, Nat.zero_le _, by simp⟩ ?_ rfl ?_
    · (conv => whnf); repeat' (first | exact trivial | exact rfl | apply And.intro)
    rintro ⟨i, hi, hinv⟩; dsimp only
    repeat' ((conv => whnf) <;> first
        | rw [wrapI_i64 (by omega)]
        | refine condP_dec (fun _ => ?_) (fun _ => ?_)
        | refine condP_ndec (fun _ => ?_) (fun _ => ?_)
        | refine condP_true rfl ?_
        | refine condP_false rfl ?_
        | refine condP_not (fun _ => ?_) (fun _ => ?_)
        | refine condP_intro (fun _ => ?_) (fun _ => ?_)
        | (refine rd_lenm (by assumption) ?_; intro hml; rw [maxLen_eq] at hml)
        | refine rd_idxm (by assumption) (by intro _; rfl) (by constructor <;> omega) ?_
        | refine rd_loadf (by assumption) (by intro _; exact trivial) (by constructor <;> omega) ?_
        | refine needP_intro (by first | omega | (constructor <;> omega)) ?_
        | refine draw_intro 16 [.fl 0, .fl 1, .fl 2, .fl 3, .fl 4, .fl 5, .fl 6, .fl 7, .fl 8] (by rfl) (by kernel_rfl) ?_
        | refine And.intro ?_ ?_)
    all_goals first
      | rfl
      | (exfalso; omega)
      | (have he := eql_end (by omega) (by omega) hinv; rw [decide_eq_true he] <;> rfl)
      | (have hlt : i < l.length := by omega
         have hs := (eql_step hlt (by omega) hinv).2
         have hb : ¬ (l[((i : Nat) : Int).toNat]'hlt = m[((i : Nat) : Int).toNat]'(by omega)) := by first | assumption | exact of_decide_eq_false (by assumption) | exact of_decide_eq_false ((GRule.eqb _ _).symm.trans (by assumption))
         rw [decide_eq_false (hs hb)] <;> rfl)
      | (have hlt : i < l.length := by omega
         have hs := (eql_step hlt (by omega) hinv).1
         have hb : l[((i : Nat) : Int).toNat]'hlt = m[((i : Nat) : Int).toNat]'(by omega) := by first | assumption | exact of_decide_eq_true (by assumption) | exact of_decide_eq_true ((GRule.eqb _ _).symm.trans (by assumption))
         (refine ⟨⟨i + 1, by omega, hs hb⟩, ?_, rfl, by dsimp only; omega⟩; (conv => whnf); repeat' (first | exact trivial | exact rfl | apply And.intro)))
  · rw [decide_eq_false (p := l = m) (fun e => hlen (by rw [e]))]
    refine evA_intro tok Try.func97 (by kernel_rfl) rfl ?_
    repeat' ((conv => whnf) <;> first
        | rw [wrapI_i64 (by omega)]
        | refine condP_dec (fun _ => ?_) (fun _ => ?_)
        | refine condP_ndec (fun _ => ?_) (fun _ => ?_)
        | refine condP_true rfl ?_
        | refine condP_false rfl ?_
        | refine condP_not (fun _ => ?_) (fun _ => ?_)
        | refine condP_intro (fun _ => ?_) (fun _ => ?_)
        | (refine rd_lenm (by assumption) ?_; intro hml; rw [maxLen_eq] at hml)
        | refine rd_idxm (by assumption) (by intro _; rfl) (by constructor <;> omega) ?_
        | refine rd_loadf (by assumption) (by intro _; exact trivial) (by constructor <;> omega) ?_
        | refine needP_intro (by first | omega | (constructor <;> omega)) ?_
        | refine draw_intro 16 [.fl 0, .fl 1, .fl 2, .fl 3, .fl 4, .fl 5, .fl 6, .fl 7, .fl 8] (by rfl) (by kernel_rfl) ?_
        | refine And.intro ?_ ?_)
    all_goals first | rfl | (exfalso; omega)
theorem ev_EqOp (l m : List GOp) (c c' : C) (S : Store) (h : Rd S [.sl 4 (l.map GOp.d)] [c]) (h' : Rd S [.sl 4 (m.map GOp.d)] [c']) : EvA Try.prog 162 [.s c, .s c'] S (fun r S' => r = .v (.s (.bool (decide (l = m)))) ∧ S' = S) := by
  by_cases hlen : l.length = m.length
  · refine evA_intro tok Try.func162 (by kernel_rfl) rfl ?_
    repeat' ((conv => whnf) <;> first
        | rw [wrapI_i64 (by omega)]
        | refine condP_dec (fun _ => ?_) (fun _ => ?_)
        | refine condP_ndec (fun _ => ?_) (fun _ => ?_)
        | refine condP_true rfl ?_
        | refine condP_false rfl ?_
        | refine condP_not (fun _ => ?_) (fun _ => ?_)
        | refine condP_intro (fun _ => ?_) (fun _ => ?_)
        | (refine rd_lenm (by assumption) ?_; intro hml; rw [maxLen_eq] at hml)
        | refine rd_idxm (by assumption) (by intro _; rfl) (by constructor <;> omega) ?_
        | refine rd_loadf (by assumption) (by intro _; exact trivial) (by constructor <;> omega) ?_
        | refine needP_intro (by first | omega | (constructor <;> omega)) ?_
        | refine draw_intro 16 [.fl 0, .fl 1, .fl 2, .fl 3, .fl 4, .fl 5, .fl 6, .fl 7, .fl 8] (by rfl) (by kernel_rfl) ?_
        | refine And.intro ?_ ?_)
    all_goals try first | rfl | (exfalso; omega)
    refine loop_intro {i : Nat // i ≤ l.length ∧ (l.drop i = m.drop i ↔ l = m)} [4, 5, 13, 14, 15, 16, 17, 18, 19, 20, 21, 22, 23, 24, 25] (fun zb => [(13, .v (.s (.int .i64 zb.1)))]) (fun _ => S) (fun zb => l.length - zb.1) ⟨0, Nat.zero_le _, by simp⟩ ?_ rfl ?_
    · (conv => whnf); repeat' (first | exact trivial | exact rfl | apply And.intro)
    rintro ⟨i, hi, hinv⟩; dsimp only
    repeat' ((conv => whnf) <;> first
        | rw [wrapI_i64 (by omega)]
        | refine condP_dec (fun _ => ?_) (fun _ => ?_)
        | refine condP_ndec (fun _ => ?_) (fun _ => ?_)
        | refine condP_true rfl ?_
        | refine condP_false rfl ?_
        | refine condP_not (fun _ => ?_) (fun _ => ?_)
        | refine condP_intro (fun _ => ?_) (fun _ => ?_)
        | (refine rd_lenm (by assumption) ?_; intro hml; rw [maxLen_eq] at hml)
        | refine rd_idxm (by assumption) (by intro _; rfl) (by constructor <;> omega) ?_
        | refine rd_loadf (by assumption) (by intro _; exact trivial) (by constructor <;> omega) ?_
        | refine needP_intro (by first | omega | (constructor <;> omega)) ?_
        | refine draw_intro 16 [.fl 0, .fl 1, .fl 2, .fl 3, .fl 4, .fl 5, .fl 6, .fl 7, .fl 8] (by rfl) (by kernel_rfl) ?_
        | refine And.intro ?_ ?_)
    all_goals first
      | rfl
      | (exfalso; omega)
      | (have he := eql_end (by omega) (by omega) hinv; rw [decide_eq_true he] <;> rfl)
      | (have hlt : i < l.length := by omega
         have hs := (eql_step hlt (by omega) hinv).2
         have hb : ¬ (l[((i : Nat) : Int).toNat]'hlt = m[((i : Nat) : Int).toNat]'(by omega)) := by first | assumption | exact of_decide_eq_false (by assumption) | exact of_decide_eq_false ((GOp.eqb _ _).symm.trans (by assumption))
         rw [decide_eq_false (hs hb)] <;> rfl)
      | (have hlt : i < l.length := by omega
         have hs := (eql_step hlt (by omega) hinv).1
         have hb : l[((i : Nat) : Int).toNat]'hlt = m[((i : Nat) : Int).toNat]'(by omega) := by first | assumption | exact of_decide_eq_true (by assumption) | exact of_decide_eq_true ((GOp.eqb _ _).symm.trans (by assumption))
         (refine ⟨⟨i + 1, by omega, hs hb⟩, ?_, rfl, by dsimp only; omega⟩; (conv => whnf); repeat' (first | exact trivial | exact rfl | apply And.intro)))
  · rw [decide_eq_false (p := l = m) (fun e => hlen (by rw [e]))]
    refine evA_intro tok Try.func162 (by kernel_rfl) rfl ?_
    repeat' ((conv => whnf) <;> first
        | rw [wrapI_i64 (by omega)]
        | refine condP_dec (fun _ => ?_) (fun _ => ?_)
        | refine condP_ndec (fun _ => ?_) (fun _ => ?_)
        | refine condP_true rfl ?_
        | refine condP_false rfl ?_
        | refine condP_not (fun _ => ?_) (fun _ => ?_)
        | refine condP_intro (fun _ => ?_) (fun _ => ?_)
        | (refine rd_lenm (by assumption) ?_; intro hml; rw [maxLen_eq] at hml)
        | refine rd_idxm (by assumption) (by intro _; rfl) (by constructor <;> omega) ?_
        | refine rd_loadf (by assumption) (by intro _; exact trivial) (by constructor <;> omega) ?_
        | refine needP_intro (by first | omega | (constructor <;> omega)) ?_
        | refine draw_intro 16 [.fl 0, .fl 1, .fl 2, .fl 3, .fl 4, .fl 5, .fl 6, .fl 7, .fl 8] (by rfl) (by kernel_rfl) ?_
        | refine And.intro ?_ ?_)
    all_goals first | rfl | (exfalso; omega)
theorem ev_EqLimit (l m : List GLimit) (c c' : C) (S : Store) (h : Rd S [.sl 4 (l.map GLimit.d)] [c]) (h' : Rd S [.sl 4 (m.map GLimit.d)] [c']) : EvA Try.prog 96 [.s c, .s c'] S (fun r S' => r = .v (.s (.bool (decide (l = m)))) ∧ S' = S) := by
  by_cases hlen : l.length = m.length
  · refine evA_intro tok Try.func96 (by kernel_rfl) rfl ?_
    repeat' ((conv => whnf) <;> first
        | rw [wrapI_i64 (by omega)]
        | refine condP_dec (fun _ => ?_) (fun _ => ?_)
        | refine condP_ndec (fun _ => ?_) (fun _ => ?_)
        | refine condP_true rfl ?_
        | refine condP_false rfl ?_
        | refine condP_not (fun _ => ?_) (fun _ => ?_)
        | refine condP_intro (fun _ => ?_) (fun _ => ?_)
        | (refine rd_lenm (by assumption) ?_; intro hml; rw [maxLen_eq] at hml)
        | refine rd_idxm (by assumption) (by intro _; rfl) (by constructor <;> omega) ?_
        | refine rd_loadf (by assumption) (by intro _; exact trivial) (by constructor <;> omega) ?_
        | refine needP_intro (by first | omega | (constructor <;> omega)) ?_
        | refine draw_intro 16 [.fl 0, .fl 1, .fl 2, .fl 3, .fl 4, .fl 5, .fl 6, .fl 7, .fl 8] (by rfl) (by kernel_rfl) ?_
        | refine And.intro ?_ ?_)
    all_goals try first | rfl | (exfalso; omega)
    refine loop_intro {i : Nat // i ≤ l.length ∧ (l.drop i = m.drop i ↔ l = m)} [4, 5, 13, 14, 15, 16, 17, 18, 19, 20, 21, 22, 23, 24, 25] (fun zb => [(13, .v (.s (.int .i64 zb.1)))]) (fun _ => S) (fun zb => l.length - zb.1) ⟨0, Nat.zero_le _, by simp⟩ ?_ rfl ?_
    · (conv => whnf); repeat' (first | exact trivial | exact rfl | apply And.intro)
    rintro ⟨i, hi, hinv⟩; dsimp only
    repeat' ((conv => whnf) <;> first
        | rw [wrapI_i64 (by omega)]
        | refine condP_dec (fun _ => ?_) (fun _ => ?_)
        | refine condP_ndec (fun _ => ?_) (fun _ => ?_)
        | refine condP_true rfl ?_
        | refine condP_false rfl ?_
        | refine condP_not (fun _ => ?_) (fun _ => ?_)
        | refine condP_intro (fun _ => ?_) (fun _ => ?_)
        | (refine rd_lenm (by assumption) ?_; intro hml; rw [maxLen_eq] at hml)
        | refine rd_idxm (by assumption) (by intro _; rfl) (by constructor <;> omega) ?_
        | refine rd_loadf (by assumption) (by intro _; exact trivial) (by constructor <;> omega) ?_
        | refine needP_intro (by first | omega | (constructor <;> omega)) ?_
        | refine draw_intro 16 [.fl 0, .fl 1, .fl 2, .fl 3, .fl 4, .fl 5, .fl 6, .fl 7, .fl 8] (by rfl) (by kernel_rfl) ?_
        | refine And.intro ?_ ?_)
    all_goals first
      | rfl
      | (exfalso; omega)
      | (have he := eql_end (by omega) (by omega) hinv; rw [decide_eq_true he] <;> rfl)
      | (have hlt : i < l.length := by omega
         have hs := (eql_step hlt (by omega) hinv).2
         have hb : ¬ (l[((i : Nat) : Int).toNat]'hlt = m[((i : Nat) : Int).toNat]'(by omega)) := by first | assumption | exact of_decide_eq_false (by assumption) | exact of_decide_eq_false ((GLimit.eqb _ _).symm.trans (by assumption))
         rw [decide_eq_false (hs hb)] <;> rfl)
      | (have hlt : i < l.length := by omega
         have hs := (eql_step hlt (by omega) hinv).1
         have hb : l[((i : Nat) : Int).toNat]'hlt = m[((i : Nat) : Int).toNat]'(by omega) := by first | assumption | exact of_decide_eq_true (by assumption) | exact of_decide_eq_true ((GLimit.eqb _ _).symm.trans (by assumption))
         (refine ⟨⟨i + 1, by omega, hs hb⟩, ?_, rfl, by dsimp only; omega⟩; (conv => whnf); repeat' (first | exact trivial | exact rfl | apply And.intro)))
  · rw [decide_eq_false (p := l = m) (fun e => hlen (by rw [e]))]
    refine evA_intro tok Try.func96 (by kernel_rfl) rfl ?_
    repeat' ((conv => whnf) <;> first
        | rw [wrapI_i64 (by omega)]
        | refine condP_dec (fun _ => ?_) (fun _ => ?_)
        | refine condP_ndec (fun _ => ?_) (fun _ => ?_)
        | refine condP_true rfl ?_
        | refine condP_false rfl ?_
        | refine condP_not (fun _ => ?_) (fun _ => ?_)
        | refine condP_intro (fun _ => ?_) (fun _ => ?_)
        | (refine rd_lenm (by assumption) ?_; intro hml; rw [maxLen_eq] at hml)
        | refine rd_idxm (by assumption) (by intro _; rfl) (by constructor <;> omega) ?_
        | refine rd_loadf (by assumption) (by intro _; exact trivial) (by constructor <;> omega) ?_
        | refine needP_intro (by first | omega | (constructor <;> omega)) ?_
        | refine draw_intro 16 [.fl 0, .fl 1, .fl 2, .fl 3, .fl 4, .fl 5, .fl 6, .fl 7, .fl 8] (by rfl) (by kernel_rfl) ?_
        | refine And.intro ?_ ?_)
    all_goals first | rfl | (exfalso; omega)
theorem ev_EqStored (l m : List GStored) (c c' : C) (S : Store) (h : Rd S [.sl 4 (l.map GStored.d)] [c]) (h' : Rd S [.sl 4 (m.map GStored.d)] [c']) : EvA Try.prog 98 [.s c, .s c'] S (fun r S' => r = .v (.s (.bool (decide (l = m)))) ∧ S' = S) := by
  by_cases hlen : l.length = m.length
  · refine evA_intro tok Try.func98 (by kernel_rfl) rfl ?_
    repeat' ((conv => whnf) <;> first
        | rw [wrapI_i64 (by omega)]
        | refine condP_dec (fun _ => ?_) (fun _ => ?_)
        | refine condP_ndec (fun _ => ?_) (fun _ => ?_)
        | refine condP_true rfl ?_
        | refine condP_false rfl ?_
        | refine condP_not (fun _ => ?_) (fun _ => ?_)
        | refine condP_intro (fun _ => ?_) (fun _ => ?_)
        | (refine rd_lenm (by assumption) ?_; intro hml; rw [maxLen_eq] at hml)
        | refine rd_idxm (by assumption) (by intro _; rfl) (by constructor <;> omega) ?_
        | refine rd_loadf (by assumption) (by intro _; exact trivial) (by constructor <;> omega) ?_
        | refine needP_intro (by first | omega | (constructor <;> omega)) ?_
        | refine draw_intro 16 [.fl 0, .fl 1, .fl 2, .fl 3, .fl 4, .fl 5, .fl 6, .fl 7, .fl 8] (by rfl) (by kernel_rfl) ?_
        | refine And.intro ?_ ?_)
    all_goals try first | rfl | (exfalso; omega)
    refine loop_intro {i : Nat // i ≤ l.length ∧ (l.drop i = m.drop i ↔ l = m)} [4, 5, 13, 14, 15, 16, 17, 18, 19, 20, 21, 22, 23, 24, 25] (fun zb => [(13, .v (.s (.int .i64 zb.1)))]) (fun _ => S) (fun zb => l.length - zb.1) ⟨0, Nat.zero_le _, by simp⟩ ?_ rfl ?_
    · (conv => whnf); repeat' (first | exact trivial | exact rfl | apply And.intro)
    rintro ⟨i, hi, hinv⟩; dsimp only
    repeat' ((conv => whnf) <;> first
        | rw [wrapI_i64 (by omega)]
        | refine condP_dec (fun _ => ?_) (fun _ => ?_)
        | refine condP_ndec (fun _ => ?_) (fun _ => ?_)
        | refine condP_true rfl ?_
        | refine condP_false rfl ?_
        | refine condP_not (fun _ => ?_) (fun _ => ?_)
        | refine condP_intro (fun _ => ?_) (fun _ => ?_)
        | (refine rd_lenm (by assumption) ?_; intro hml; rw [maxLen_eq] at hml)
        | refine rd_idxm (by assumption) (by intro _; rfl) (by constructor <;> omega) ?_
        | refine rd_loadf (by assumption) (by intro _; exact trivial) (by constructor <;> omega) ?_
        | refine needP_intro (by first | omega | (constructor <;> omega)) ?_
        | refine draw_intro 16 [.fl 0, .fl 1, .fl 2, .fl 3, .fl 4, .fl 5, .fl 6, .fl 7, .fl 8] (by rfl) (by kernel_rfl) ?_
        | refine And.intro ?_ ?_)
    all_goals first
      | rfl
      | (exfalso; omega)
      | (have he := eql_end (by omega) (by omega) hinv; rw [decide_eq_true he] <;> rfl)
      | (have hlt : i < l.length := by omega
         have hs := (eql_step hlt (by omega) hinv).2
         have hb : ¬ (l[((i : Nat) : Int).toNat]'hlt = m[((i : Nat) : Int).toNat]'(by omega)) := by first | assumption | exact of_decide_eq_false (by assumption) | exact of_decide_eq_false ((GStored.eqb _ _).symm.trans (by assumption))
         rw [decide_eq_false (hs hb)] <;> rfl)
      | (have hlt : i < l.length := by omega
         have hs := (eql_step hlt (by omega) hinv).1
         have hb : l[((i : Nat) : Int).toNat]'hlt = m[((i : Nat) : Int).toNat]'(by omega) := by first | assumption | exact of_decide_eq_true (by assumption) | exact of_decide_eq_true ((GStored.eqb _ _).symm.trans (by assumption))
         (refine ⟨⟨i + 1, by omega, hs hb⟩, ?_, rfl, by dsimp only; omega⟩; (conv => whnf); repeat' (first | exact trivial | exact rfl | apply And.intro)))
  · rw [decide_eq_false (p := l = m) (fun e => hlen (by rw [e]))]
    refine evA_intro tok Try.func98 (by kernel_rfl) rfl ?_
    repeat' ((conv => whnf) <;> first
        | rw [wrapI_i64 (by omega)]
        | refine condP_dec (fun _ => ?_) (fun _ => ?_)
        | refine condP_ndec (fun _ => ?_) (fun _ => ?_)
        | refine condP_true rfl ?_
        | refine condP_false rfl ?_
        | refine condP_not (fun _ => ?_) (fun _ => ?_)
        | refine condP_intro (fun _ => ?_) (fun _ => ?_)
        | (refine rd_lenm (by assumption) ?_; intro hml; rw [maxLen_eq] at hml)
        | refine rd_idxm (by assumption) (by intro _; rfl) (by constructor <;> omega) ?_
        | refine rd_loadf (by assumption) (by intro _; exact trivial) (by constructor <;> omega) ?_
        | refine needP_intro (by first | omega | (constructor <;> omega)) ?_
        | refine draw_intro 16 [.fl 0, .fl 1, .fl 2, .fl 3, .fl 4, .fl 5, .fl 6, .fl 7, .fl 8] (by rfl) (by kernel_rfl) ?_
        | refine And.intro ?_ ?_)
    all_goals first | rfl | (exfalso; omega)
theorem ev_sEqDoc (l m : List GNode) (c c' : C) (S : Store) (h : Rd S [.sl 5 (l.map GNode.d)] [c]) (h' : Rd S [.sl 5 (m.map GNode.d)] [c']) : EvA Try.prog 155 [.s c, .s c'] S (fun r S' => r = .v (.s (.bool (decide (l = m)))) ∧ S' = S) := by
  by_cases hlen : l.length = m.length
  · refine evA_intro tok Try.func155 (by kernel_rfl) rfl ?_
    repeat' ((conv => whnf) <;> first
        | rw [wrapI_i64 (by omega)]
        | refine condP_dec (fun _ => ?_) (fun _ => ?_)
        | refine condP_ndec (fun _ => ?_) (fun _ => ?_)
        | refine condP_true rfl ?_
        | refine condP_false rfl ?_
        | refine condP_not (fun _ => ?_) (fun _ => ?_)
        | refine condP_intro (fun _ => ?_) (fun _ => ?_)
        | (refine rd_lenm (by assumption) ?_; intro hml; rw [maxLen_eq] at hml)
        | refine rd_idxm (by assumption) (by intro _; rfl) (by constructor <;> omega) ?_
        | refine rd_loadf (by assumption) (by intro _; exact trivial) (by constructor <;> omega) ?_
        | refine needP_intro (by first | omega | (constructor <;> omega)) ?_
        | refine draw_intro 17 [.fl 0, .fl 1, .fl 2, .fl 3, .fl 4, .fl 5, .fl 6, .fl 7, .fl 8] (by rfl) (by kernel_rfl) ?_
        | refine And.intro ?_ ?_)
    all_goals try first | rfl | (exfalso; omega)
    refine loop_intro {i : Nat // i ≤ l.length ∧ (l.drop i = m.drop i ↔ l = m)} [4, 5, 11, 12, 13, 14, 15, 16, 17, 18, 19, 20, 21, 22, 23, 24, 25] (fun zb => [(5, .v (.s (.int .i64 zb.1)))]) (fun _ => S) (fun zb => l.length - zb.1) ⟨0, Nat.zero_le _, by simp⟩ ?_ rfl ?_
    · (conv => whnf); repeat' (first | exact trivial | exact rfl | apply And.intro)
    rintro ⟨i, hi, hinv⟩; dsimp only
    repeat' ((conv => whnf) <;> first
        | rw [wrapI_i64 (by omega)]
        | refine condP_dec (fun _ => ?_) (fun _ => ?_)
        | refine condP_ndec (fun _ => ?_) (fun _ => ?_)
        | refine condP_true rfl ?_
        | refine condP_false rfl ?_
        | refine condP_not (fun _ => ?_) (fun _ => ?_)
        | refine condP_intro (fun _ => ?_) (fun _ => ?_)
        | (refine rd_lenm (by assumption) ?_; intro hml; rw [maxLen_eq] at hml)
        | refine rd_idxm (by assumption) (by intro _; rfl) (by constructor <;> omega) ?_
        | refine rd_loadf (by assumption) (by intro _; exact trivial) (by constructor <;> omega) ?_
        | refine needP_intro (by first | omega | (constructor <;> omega)) ?_
        | refine draw_intro 17 [.fl 0, .fl 1, .fl 2, .fl 3, .fl 4, .fl 5, .fl 6, .fl 7, .fl 8] (by rfl) (by kernel_rfl) ?_
        | refine And.intro ?_ ?_)
    all_goals first
      | rfl
      | (exfalso; omega)
      | (have he := eql_end (by omega) (by omega) hinv; rw [decide_eq_true he] <;> rfl)
      | (have hlt : i < l.length := by omega
         have hs := (eql_step hlt (by omega) hinv).2
         have hb : ¬ (l[((i : Nat) : Int).toNat]'hlt = m[((i : Nat) : Int).toNat]'(by omega)) := by first | assumption | exact of_decide_eq_false (by assumption) | exact of_decide_eq_false ((GNode.eqb _ _).symm.trans (by assumption))
         rw [decide_eq_false (hs hb)] <;> rfl)
      | (have hlt : i < l.length := by omega
         have hs := (eql_step hlt (by omega) hinv).1
         have hb : l[((i : Nat) : Int).toNat]'hlt = m[((i : Nat) : Int).toNat]'(by omega) := by first | assumption | exact of_decide_eq_true (by assumption) | exact of_decide_eq_true ((GNode.eqb _ _).symm.trans (by assumption))
         (refine ⟨⟨i + 1, by omega, hs hb⟩, ?_, rfl, by dsimp only; omega⟩; (conv => whnf); repeat' (first | exact trivial | exact rfl | apply And.intro)))
  · rw [decide_eq_false (p := l = m) (fun e => hlen (by rw [e]))]
    refine evA_intro tok Try.func155 (by kernel_rfl) rfl ?_
    repeat' ((conv => whnf) <;> first
        | rw [wrapI_i64 (by omega)]
        | refine condP_dec (fun _ => ?_) (fun _ => ?_)
        | refine condP_ndec (fun _ => ?_) (fun _ => ?_)
        | refine condP_true rfl ?_
        | refine condP_false rfl ?_
        | refine condP_not (fun _ => ?_) (fun _ => ?_)
        | refine condP_intro (fun _ => ?_) (fun _ => ?_)
        | (refine rd_lenm (by assumption) ?_; intro hml; rw [maxLen_eq] at hml)
        | refine rd_idxm (by assumption) (by intro _; rfl) (by constructor <;> omega) ?_
        | refine rd_loadf (by assumption) (by intro _; exact trivial) (by constructor <;> omega) ?_
        | refine needP_intro (by first | omega | (constructor <;> omega)) ?_
        | refine draw_intro 17 [.fl 0, .fl 1, .fl 2, .fl 3, .fl 4, .fl 5, .fl 6, .fl 7, .fl 8] (by rfl) (by kernel_rfl) ?_
        | refine And.intro ?_ ?_)
    all_goals first | rfl | (exfalso; omega)
theorem ev_sEqEdits (l m : List GEdit) (c c' : C) (S : Store) (h : Rd S [.sl 6 (l.map GEdit.d)] [c]) (h' : Rd S [.sl 6 (m.map GEdit.d)] [c']) : EvA Try.prog 156 [.s c, .s c'] S (fun r S' => r = .v (.s (.bool (decide (l = m)))) ∧ S' = S) := by
  by_cases hlen : l.length = m.length
  · refine evA_intro tok Try.func156 (by kernel_rfl) rfl ?_
    repeat' ((conv => whnf) <;> first
        | rw [wrapI_i64 (by omega)]
        | refine condP_dec (fun _ => ?_) (fun _ => ?_)
        | refine condP_ndec (fun _ => ?_) (fun _ => ?_)
        | refine condP_true rfl ?_
        | refine condP_false rfl ?_
        | refine condP_not (fun _ => ?_) (fun _ => ?_)
        | refine condP_intro (fun _ => ?_) (fun _ => ?_)
        | (refine rd_lenm (by assumption) ?_; intro hml; rw [maxLen_eq] at hml)
        | refine rd_idxm (by assumption) (by intro _; rfl) (by constructor <;> omega) ?_
        | refine rd_loadf (by assumption) (by intro _; exact trivial) (by constructor <;> omega) ?_
        | refine needP_intro (by first | omega | (constructor <;> omega)) ?_
        | refine draw_intro 17 [.fl 0, .fl 1, .fl 2, .fl 3, .fl 4, .fl 5, .fl 6, .fl 7, .fl 8] (by rfl) (by kernel_rfl) ?_
        | refine And.intro ?_ ?_)
    all_goals try first | rfl | (exfalso; omega)
    refine loop_intro {i : Nat // i ≤ l.length ∧ (l.drop i = m.drop i ↔ l = m)} [4, 5, 11, 12, 13, 14, 15, 16, 17, 18, 19, 20, 21, 22, 23, 24, 25] (fun zb => [(5, .v (.s (.int .i64 zb.1)))]) (fun _ => S) (fun zb => l.length - zb.1) ⟨0, Nat.zero_le _, by simp⟩ ?_ rfl ?_
    · (conv => whnf); repeat' (first | exact trivial | exact rfl | apply And.intro)
    rintro ⟨i, hi, hinv⟩; dsimp only
    repeat' ((conv => whnf) <;> first
        | rw [wrapI_i64 (by omega)]
        | refine condP_dec (fun _ => ?_) (fun _ => ?_)
        | refine condP_ndec (fun _ => ?_) (fun _ => ?_)
        | refine condP_true rfl ?_
        | refine condP_false rfl ?_
        | refine condP_not (fun _ => ?_) (fun _ => ?_)
        | refine condP_intro (fun _ => ?_) (fun _ => ?_)
        | (refine rd_lenm (by assumption) ?_; intro hml; rw [maxLen_eq] at hml)
        | refine rd_idxm (by assumption) (by intro _; rfl) (by constructor <;> omega) ?_
        | refine rd_loadf (by assumption) (by intro _; exact trivial) (by constructor <;> omega) ?_
        | refine needP_intro (by first | omega | (constructor <;> omega)) ?_
        | refine draw_intro 17 [.fl 0, .fl 1, .fl 2, .fl 3, .fl 4, .fl 5, .fl 6, .fl 7, .fl 8] (by rfl) (by kernel_rfl) ?_
        | refine And.intro ?_ ?_)
    all_goals first
      | rfl
      | (exfalso; omega)
      | (have he := eql_end (by omega) (by omega) hinv; rw [decide_eq_true he] <;> rfl)
      | (have hlt : i < l.length := by omega
         have hs := (eql_step hlt (by omega) hinv).2
         have hb : ¬ (l[((i : Nat) : Int).toNat]'hlt = m[((i : Nat) : Int).toNat]'(by omega)) := by first | assumption | exact of_decide_eq_false (by assumption) | exact of_decide_eq_false ((GEdit.eqb _ _).symm.trans (by assumption))
         rw [decide_eq_false (hs hb)] <;> rfl)
      | (have hlt : i < l.length := by omega
         have hs := (eql_step hlt (by omega) hinv).1
         have hb : l[((i : Nat) : Int).toNat]'hlt = m[((i : Nat) : Int).toNat]'(by omega) := by first | assumption | exact of_decide_eq_true (by assumption) | exact of_decide_eq_true ((GEdit.eqb _ _).symm.trans (by assumption))
         (refine ⟨⟨i + 1, by omega, hs hb⟩, ?_, rfl, by dsimp only; omega⟩; (conv => whnf); repeat' (first | exact trivial | exact rfl | apply And.intro)))
  · rw [decide_eq_false (p := l = m) (fun e => hlen (by rw [e]))]
    refine evA_intro tok Try.func156 (by kernel_rfl) rfl ?_
    repeat' ((conv => whnf) <;> first
        | rw [wrapI_i64 (by omega)]
        | refine condP_dec (fun _ => ?_) (fun _ => ?_)
        | refine condP_ndec (fun _ => ?_) (fun _ => ?_)
        | refine condP_true rfl ?_
        | refine condP_false rfl ?_
        | refine condP_not (fun _ => ?_) (fun _ => ?_)
        | refine condP_intro (fun _ => ?_) (fun _ => ?_)
        | (refine rd_lenm (by assumption) ?_; intro hml; rw [maxLen_eq] at hml)
        | refine rd_idxm (by assumption) (by intro _; rfl) (by constructor <;> omega) ?_
        | refine rd_loadf (by assumption) (by intro _; exact trivial) (by constructor <;> omega) ?_
        | refine needP_intro (by first | omega | (constructor <;> omega)) ?_
        | refine draw_intro 17 [.fl 0, .fl 1, .fl 2, .fl 3, .fl 4, .fl 5, .fl 6, .fl 7, .fl 8] (by rfl) (by kernel_rfl) ?_
        | refine And.intro ?_ ?_)
    all_goals first | rfl | (exfalso; omega)
theorem ev_sEqInts (l m : List Int) (c c' : C) (S : Store) (h : Rd S [.sl 1 (l.map dInt)] [c]) (h' : Rd S [.sl 1 (m.map dInt)] [c']) : EvA Try.prog 157 [.s c, .s c'] S (fun r S' => r = .v (.s (.bool (decide (l = m)))) ∧ S' = S) := by
  by_cases hlen : l.length = m.length
  · refine evA_intro tok Try.func157 (by kernel_rfl) rfl ?_
    repeat' ((conv => whnf) <;> first
        | rw [wrapI_i64 (by omega)]
        | refine condP_dec (fun _ => ?_) (fun _ => ?_)
        | refine condP_ndec (fun _ => ?_) (fun _ => ?_)
        | refine condP_true rfl ?_
        | refine condP_false rfl ?_
        | refine condP_not (fun _ => ?_) (fun _ => ?_)
        | refine condP_intro (fun _ => ?_) (fun _ => ?_)
        | (refine rd_lenm (by assumption) ?_; intro hml; rw [maxLen_eq] at hml)
        | refine rd_idxm (by assumption) (by intro _; rfl) (by constructor <;> omega) ?_
        | refine rd_loadf (by assumption) (by intro _; exact trivial) (by constructor <;> omega) ?_
        | refine needP_intro (by first | omega | (constructor <;> omega)) ?_
        | refine draw_intro 17 [.fl 0, .fl 1, .fl 2, .fl 3, .fl 4, .fl 5, .fl 6, .fl 7, .fl 8] (by rfl) (by kernel_rfl) ?_
        | refine And.intro ?_ ?_)
    all_goals try first | rfl | (exfalso; omega)
    refine loop_intro {i : Nat // i ≤ l.length ∧ (l.drop i = m.drop i ↔ l = m)} [4, 5, 11, 12, 13, 14, 15, 16, 17, 18, 19, 20, 21, 22, 23, 24, 25] (fun zb => [(5, .v (.s (.int .i64 zb.1)))]) (fun _ => S) (fun zb => l.length - zb.1) ⟨0, Nat.zero_le _, by simp⟩ ?_ rfl ?_
    · (conv => whnf); repeat' (first | exact trivial | exact rfl | apply And.intro)
    rintro ⟨i, hi, hinv⟩; dsimp only
    repeat' ((conv => whnf) <;> first
        | rw [wrapI_i64 (by omega)]
        | refine condP_dec (fun _ => ?_) (fun _ => ?_)
        | refine condP_ndec (fun _ => ?_) (fun _ => ?_)
        | refine condP_true rfl ?_
        | refine condP_false rfl ?_
        | refine condP_not (fun _ => ?_) (fun _ => ?_)
        | refine condP_intro (fun _ => ?_) (fun _ => ?_)
        | (refine rd_lenm (by assumption) ?_; intro hml; rw [maxLen_eq] at hml)
        | refine rd_idxm (by assumption) (by intro _; rfl) (by constructor <;> omega) ?_
        | refine rd_loadf (by assumption) (by intro _; exact trivial) (by constructor <;> omega) ?_
        | refine needP_intro (by first | omega | (constructor <;> omega)) ?_
        | refine draw_intro 17 [.fl 0, .fl 1, .fl 2, .fl 3, .fl 4, .fl 5, .fl 6, .fl 7, .fl 8] (by rfl) (by kernel_rfl) ?_
        | refine And.intro ?_ ?_)
    all_goals first
      | rfl
      | (exfalso; omega)
      | (have he := eql_end (by omega) (by omega) hinv; rw [decide_eq_true he] <;> rfl)
      | (have hlt : i < l.length := by omega
         have hs := (eql_step hlt (by omega) hinv).2
         have hb : ¬ (l[((i : Nat) : Int).toNat]'hlt = m[((i : Nat) : Int).toNat]'(by omega)) := by first | assumption | exact of_decide_eq_false (by assumption)
         rw [decide_eq_false (hs hb)] <;> rfl)
      | (have hlt : i < l.length := by omega
         have hs := (eql_step hlt (by omega) hinv).1
         have hb : l[((i : Nat) : Int).toNat]'hlt = m[((i : Nat) : Int).toNat]'(by omega) := by first | assumption | exact of_decide_eq_true (by assumption)
         (refine ⟨⟨i + 1, by omega, hs hb⟩, ?_, rfl, by dsimp only; omega⟩; (conv => whnf); repeat' (first | exact trivial | exact rfl | apply And.intro)))
  · rw [decide_eq_false (p := l = m) (fun e => hlen (by rw [e]))]
    refine evA_intro tok Try.func157 (by kernel_rfl) rfl ?_
    repeat' ((conv => whnf) <;> first
        | rw [wrapI_i64 (by omega)]
        | refine condP_dec (fun _ => ?_) (fun _ => ?_)
        | refine condP_ndec (fun _ => ?_) (fun _ => ?_)
        | refine condP_true rfl ?_
        | refine condP_false rfl ?_
        | refine condP_not (fun _ => ?_) (fun _ => ?_)
        | refine condP_intro (fun _ => ?_) (fun _ => ?_)
        | (refine rd_lenm (by assumption) ?_; intro hml; rw [maxLen_eq] at hml)
        | refine rd_idxm (by assumption) (by intro _; rfl) (by constructor <;> omega) ?_
        | refine rd_loadf (by assumption) (by intro _; exact trivial) (by constructor <;> omega) ?_
        | refine needP_intro (by first | omega | (constructor <;> omega)) ?_
        | refine draw_intro 17 [.fl 0, .fl 1, .fl 2, .fl 3, .fl 4, .fl 5, .fl 6, .fl 7, .fl 8] (by rfl) (by kernel_rfl) ?_
        | refine And.intro ?_ ?_)
    all_goals first | rfl | (exfalso; omega)
theorem ev_sEqRules (l m : List GRule) (c c' : C) (S : Store) (h : Rd S [.sl 8 (l.map GRule.d)] [c]) (h' : Rd S [.sl 8 (m.map GRule.d)] [c']) : EvA Try.prog 89 [.s c, .s c'] S (fun r S' => r = .v (.s (.bool (decide (l = m)))) ∧ S' = S) := by
  by_cases hlen : l.length = m.length
  · refine evA_intro tok Try.func89 (by kernel_rfl) rfl ?_
    repeat' ((conv => whnf) <;> first
        | rw [wrapI_i64 (by omega)]
        | refine condP_dec (fun _ => ?_) (fun _ => ?_)
        | refine condP_ndec (fun _ => ?_) (fun _ => ?_)
        | refine condP_true rfl ?_
        | refine condP_false rfl ?_
        | refine condP_not (fun _ => ?_) (fun _ => ?_)
        | refine condP_intro (fun _ => ?_) (fun _ => ?_)
        | (refine rd_lenm (by assumption) ?_; intro hml; rw [maxLen_eq] at hml)
        | refine rd_idxm (by assumption) (by intro _; rfl) (by constructor <;> omega) ?_
        | refine rd_loadf (by assumption) (by intro _; exact trivial) (by constructor <;> omega) ?_
        | refine needP_intro (by first | omega | (constructor <;> omega)) ?_
        | refine draw_intro 17 [.fl 0, .fl 1, .fl 2, .fl 3, .fl 4, .fl 5, .fl 6, .fl 7, .fl 8] (by rfl) (by kernel_rfl) ?_
        | refine And.intro ?_ ?_)
    all_goals try first | rfl | (exfalso; omega)
    refine loop_intro {i : Nat // i ≤ l.length ∧ (l.drop i = m.drop i ↔ l = m)} [4, 5, 11, 12, 13, 14, 15, 16, 17, 18, 19, 20, 21, 22, 23, 24, 25] (fun zb => [(5, .v (.s (.int .i64 zb.1)))]) (fun _ => S) (fun zb => l.length - zb.1) ⟨0, Nat.zero_le _, by simp⟩ ?_ rfl ?_
    · (conv => whnf); repeat' (first | exact trivial | exact rfl | apply And.intro)
    rintro ⟨i, hi, hinv⟩; dsimp only
    repeat' ((conv => whnf) <;> first
        | rw [wrapI_i64 (by omega)]
        | refine condP_dec (fun _ => ?_) (fun _ => ?_)
        | refine condP_ndec (fun _ => ?_) (fun _ => ?_)
        | refine condP_true rfl ?_
        | refine condP_false rfl ?_
        | refine condP_not (fun _ => ?_) (fun _ => ?_)
        | refine condP_intro (fun _ => ?_) (fun _ => ?_)
        | (refine rd_lenm (by assumption) ?_; intro hml; rw [maxLen_eq] at hml)
        | refine rd_idxm (by assumption) (by intro _; rfl) (by constructor <;> omega) ?_
        | refine rd_loadf (by assumption) (by intro _; exact trivial) (by constructor <;> omega) ?_
        | refine needP_intro (by first | omega | (constructor <;> omega)) ?_
        | refine draw_intro 17 [.fl 0, .fl 1, .fl 2, .fl 3, .fl 4, .fl 5, .fl 6, .fl 7, .fl 8] (by rfl) (by kernel_rfl) ?_
        | refine And.intro ?_ ?_)
    all_goals first
      | rfl
      | (exfalso; omega)
      | (have he := eql_end (by omega) (by omega) hinv; rw [decide_eq_true he] <;> rfl)
      | (have hlt : i < l.length := by omega
         have hs := (eql_step hlt (by omega) hinv).2
         have hb : ¬ (l[((i : Nat) : Int).toNat]'hlt = m[((i : Nat) : Int).toNat]'(by omega)) := by first | assumption | exact of_decide_eq_false (by assumption) | exact of_decide_eq_false ((GRule.eqb _ _).symm.trans (by assumption))
         rw [decide_eq_false (hs hb)] <;> rfl)
      | (have hlt : i < l.length := by omega
         have hs := (eql_step hlt (by omega) hinv).1
         have hb : l[((i : Nat) : Int).toNat]'hlt = m[((i : Nat) : Int).toNat]'(by omega) := by first | assumption | exact of_decide_eq_true (by assumption) | exact of_decide_eq_true ((GRule.eqb _ _).symm.trans (by assumption))
         (refine ⟨⟨i + 1, by omega, hs hb⟩, ?_, rfl, by dsimp only; omega⟩; (conv => whnf); repeat' (first | exact trivial | exact rfl | apply And.intro)))
  · rw [decide_eq_false (p := l = m) (fun e => hlen (by rw [e]))]
    refine evA_intro tok Try.func89 (by kernel_rfl) rfl ?_
    repeat' ((conv => whnf) <;> first
        | rw [wrapI_i64 (by omega)]
        | refine condP_dec (fun _ => ?_) (fun _ => ?_)
        | refine condP_ndec (fun _ => ?_) (fun _ => ?_)
        | refine condP_true rfl ?_
        | refine condP_false rfl ?_
        | refine condP_not (fun _ => ?_) (fun _ => ?_)
        | refine condP_intro (fun _ => ?_) (fun _ => ?_)
        | (refine rd_lenm (by assumption) ?_; intro hml; rw [maxLen_eq] at hml)
        | refine rd_idxm (by assumption) (by intro _; rfl) (by constructor <;> omega) ?_
        | refine rd_loadf (by assumption) (by intro _; exact trivial) (by constructor <;> omega) ?_
        | refine needP_intro (by first | omega | (constructor <;> omega)) ?_
        | refine draw_intro 17 [.fl 0, .fl 1, .fl 2, .fl 3, .fl 4, .fl 5, .fl 6, .fl 7, .fl 8] (by rfl) (by kernel_rfl) ?_
        | refine And.intro ?_ ?_)
    all_goals first | rfl | (exfalso; omega)
theorem ev_sEqGrants (l m : List GGrant) (c c' : C) (S : Store) (h : Rd S [.sl 7 (l.map GGrant.d)] [c]) (h' : Rd S [.sl 7 (m.map GGrant.d)] [c']) : EvA Try.prog 88 [.s c, .s c'] S (fun r S' => r = .v (.s (.bool (decide (l = m)))) ∧ S' = S) := by
  by_cases hlen : l.length = m.length
  · refine evA_intro tok Try.func88 (by kernel_rfl) rfl ?_
    repeat' ((conv => whnf) <;> first
        | rw [wrapI_i64 (by omega)]
        | refine condP_dec (fun _ => ?_) (fun _ => ?_)
        | refine condP_ndec (fun _ => ?_) (fun _ => ?_)
        | refine condP_true rfl ?_
        | refine condP_false rfl ?_
        | refine condP_not (fun _ => ?_) (fun _ => ?_)
        | refine condP_intro (fun _ => ?_) (fun _ => ?_)
        | (refine rd_lenm (by assumption) ?_; intro hml; rw [maxLen_eq] at hml)
        | refine rd_idxm (by assumption) (by intro _; rfl) (by constructor <;> omega) ?_
        | refine rd_loadf (by assumption) (by intro _; exact trivial) (by constructor <;> omega) ?_
        | refine needP_intro (by first | omega | (constructor <;> omega)) ?_
        | refine draw_intro 17 [.fl 0, .fl 1, .fl 2, .fl 3, .fl 4, .fl 5, .fl 6, .fl 7, .fl 8] (by rfl) (by kernel_rfl) ?_
        | refine And.intro ?_ ?_)
    all_goals try first | rfl | (exfalso; omega)
    refine loop_intro {i : Nat // i ≤ l.length ∧ (l.drop i = m.drop i ↔ l = m)} [4, 5, 11, 12, 13, 14, 15, 16, 17, 18, 19, 20, 21, 22, 23, 24, 25] (fun zb => [(5, .v (.s (.int .i64 zb.1)))]) (fun _ => S) (fun zb => l.length - zb.1) ⟨0, Nat.zero_le _, by simp⟩ ?_ rfl ?_
    · (conv => whnf); repeat' (first | exact trivial | exact rfl | apply And.intro)
    rintro ⟨i, hi, hinv⟩; dsimp only
    repeat' ((conv => whnf) <;> first
        | rw [wrapI_i64 (by omega)]
        | refine condP_dec (fun _ => ?_) (fun _ => ?_)
        | refine condP_ndec (fun _ => ?_) (fun _ => ?_)
        | refine condP_true rfl ?_
        | refine condP_false rfl ?_
        | refine condP_not (fun _ => ?_) (fun _ => ?_)
        | refine condP_intro (fun _ => ?_) (fun _ => ?_)
        | (refine rd_lenm (by assumption) ?_; intro hml; rw [maxLen_eq] at hml)
        | refine rd_idxm (by assumption) (by intro _; rfl) (by constructor <;> omega) ?_
        | refine rd_loadf (by assumption) (by intro _; exact trivial) (by constructor <;> omega) ?_
        | refine needP_intro (by first | omega | (constructor <;> omega)) ?_
        | refine draw_intro 17 [.fl 0, .fl 1, .fl 2, .fl 3, .fl 4, .fl 5, .fl 6, .fl 7, .fl 8] (by rfl) (by kernel_rfl) ?_
        | refine And.intro ?_ ?_)
    all_goals first
      | rfl
      | (exfalso; omega)
      | (have he := eql_end (by omega) (by omega) hinv; rw [decide_eq_true he] <;> rfl)
      | (have hlt : i < l.length := by omega
         have hs := (eql_step hlt (by omega) hinv).2
         have hb : ¬ (l[((i : Nat) : Int).toNat]'hlt = m[((i : Nat) : Int).toNat]'(by omega)) := by first | assumption | exact of_decide_eq_false (by assumption) | exact of_decide_eq_false ((GGrant.eqb _ _).symm.trans (by assumption))
         rw [decide_eq_false (hs hb)] <;> rfl)
      | (have hlt : i < l.length := by omega
         have hs := (eql_step hlt (by omega) hinv).1
         have hb : l[((i : Nat) : Int).toNat]'hlt = m[((i : Nat) : Int).toNat]'(by omega) := by first | assumption | exact of_decide_eq_true (by assumption) | exact of_decide_eq_true ((GGrant.eqb _ _).symm.trans (by assumption))
         (refine ⟨⟨i + 1, by omega, hs hb⟩, ?_, rfl, by dsimp only; omega⟩; (conv => whnf); repeat' (first | exact trivial | exact rfl | apply And.intro)))
  · rw [decide_eq_false (p := l = m) (fun e => hlen (by rw [e]))]
    refine evA_intro tok Try.func88 (by kernel_rfl) rfl ?_
    repeat' ((conv => whnf) <;> first
        | rw [wrapI_i64 (by omega)]
        | refine condP_dec (fun _ => ?_) (fun _ => ?_)
        | refine condP_ndec (fun _ => ?_) (fun _ => ?_)
        | refine condP_true rfl ?_
        | refine condP_false rfl ?_
        | refine condP_not (fun _ => ?_) (fun _ => ?_)
        | refine condP_intro (fun _ => ?_) (fun _ => ?_)
        | (refine rd_lenm (by assumption) ?_; intro hml; rw [maxLen_eq] at hml)
        | refine rd_idxm (by assumption) (by intro _; rfl) (by constructor <;> omega) ?_
        | refine rd_loadf (by assumption) (by intro _; exact trivial) (by constructor <;> omega) ?_
        | refine needP_intro (by first | omega | (constructor <;> omega)) ?_
        | refine draw_intro 17 [.fl 0, .fl 1, .fl 2, .fl 3, .fl 4, .fl 5, .fl 6, .fl 7, .fl 8] (by rfl) (by kernel_rfl) ?_
        | refine And.intro ?_ ?_)
    all_goals first | rfl | (exfalso; omega)
theorem ev_sEqStores (l m : List GStored) (c c' : C) (S : Store) (h : Rd S [.sl 4 (l.map GStored.d)] [c]) (h' : Rd S [.sl 4 (m.map GStored.d)] [c']) : EvA Try.prog 90 [.s c, .s c'] S (fun r S' => r = .v (.s (.bool (decide (l = m)))) ∧ S' = S) := by
  by_cases hlen : l.length = m.length
  · refine evA_intro tok Try.func90 (by kernel_rfl) rfl ?_
    repeat' ((conv => whnf) <;> first
        | rw [wrapI_i64 (by omega)]
        | refine condP_dec (fun _ => ?_) (fun _ => ?_)
        | refine condP_ndec (fun _ => ?_) (fun _ => ?_)
        | refine condP_true rfl ?_
        | refine condP_false rfl ?_
        | refine condP_not (fun _ => ?_) (fun _ => ?_)
        | refine condP_intro (fun _ => ?_) (fun _ => ?_)
        | (refine rd_lenm (by assumption) ?_; intro hml; rw [maxLen_eq] at hml)
        | refine rd_idxm (by assumption) (by intro _; rfl) (by constructor <;> omega) ?_
        | refine rd_loadf (by assumption) (by intro _; exact trivial) (by constructor <;> omega) ?_
        | refine needP_intro (by first | omega | (constructor <;> omega)) ?_
        | refine draw_intro 17 [.fl 0, .fl 1, .fl 2, .fl 3, .fl 4, .fl 5, .fl 6, .fl 7, .fl 8] (by rfl) (by kernel_rfl) ?_
        | refine And.intro ?_ ?_)
    all_goals try first | rfl | (exfalso; omega)
    refine loop_intro {i : Nat // i ≤ l.length ∧ (l.drop i = m.drop i ↔ l = m)} [4, 5, 11, 12, 13, 14, 15, 16, 17, 18, 19, 20, 21, 22, 23, 24, 25] (fun zb => [(5, .v (.s (.int .i64 zb.1)))]) (fun _ => S) (fun zb => l.length - zb.1) ⟨0, Nat.zero_le _, by simp⟩ ?_ rfl ?_
    · (conv => whnf); repeat' (first | exact trivial | exact rfl | apply And.intro)
    rintro ⟨i, hi, hinv⟩; dsimp only
    repeat' ((conv => whnf) <;> first
        | rw [wrapI_i64 (by omega)]
        | refine condP_dec (fun _ => ?_) (fun _ => ?_)
        | refine condP_ndec (fun _ => ?_) (fun _ => ?_)
        | refine condP_true rfl ?_
        | refine condP_false rfl ?_
        | refine condP_not (fun _ => ?_) (fun _ => ?_)
        | refine condP_intro (fun _ => ?_) (fun _ => ?_)
        | (refine rd_lenm (by assumption) ?_; intro hml; rw [maxLen_eq] at hml)
        | refine rd_idxm (by assumption) (by intro _; rfl) (by constructor <;> omega) ?_
        | refine rd_loadf (by assumption) (by intro _; exact trivial) (by constructor <;> omega) ?_
        | refine needP_intro (by first | omega | (constructor <;> omega)) ?_
        | refine draw_intro 17 [.fl 0, .fl 1, .fl 2, .fl 3, .fl 4, .fl 5, .fl 6, .fl 7, .fl 8] (by rfl) (by kernel_rfl) ?_
        | refine And.intro ?_ ?_)
    all_goals first
      | rfl
      | (exfalso; omega)
      | (have he := eql_end (by omega) (by omega) hinv; rw [decide_eq_true he] <;> rfl)
      | (have hlt : i < l.length := by omega
         have hs := (eql_step hlt (by omega) hinv).2
         have hb : ¬ (l[((i : Nat) : Int).toNat]'hlt = m[((i : Nat) : Int).toNat]'(by omega)) := by first | assumption | exact of_decide_eq_false (by assumption) | exact of_decide_eq_false ((GStored.eqb _ _).symm.trans (by assumption))
         rw [decide_eq_false (hs hb)] <;> rfl)
      | (have hlt : i < l.length := by omega
         have hs := (eql_step hlt (by omega) hinv).1
         have hb : l[((i : Nat) : Int).toNat]'hlt = m[((i : Nat) : Int).toNat]'(by omega) := by first | assumption | exact of_decide_eq_true (by assumption) | exact of_decide_eq_true ((GStored.eqb _ _).symm.trans (by assumption))
         (refine ⟨⟨i + 1, by omega, hs hb⟩, ?_, rfl, by dsimp only; omega⟩; (conv => whnf); repeat' (first | exact trivial | exact rfl | apply And.intro)))
  · rw [decide_eq_false (p := l = m) (fun e => hlen (by rw [e]))]
    refine evA_intro tok Try.func90 (by kernel_rfl) rfl ?_
    repeat' ((conv => whnf) <;> first
        | rw [wrapI_i64 (by omega)]
        | refine condP_dec (fun _ => ?_) (fun _ => ?_)
        | refine condP_ndec (fun _ => ?_) (fun _ => ?_)
        | refine condP_true rfl ?_
        | refine condP_false rfl ?_
        | refine condP_not (fun _ => ?_) (fun _ => ?_)
        | refine condP_intro (fun _ => ?_) (fun _ => ?_)
        | (refine rd_lenm (by assumption) ?_; intro hml; rw [maxLen_eq] at hml)
        | refine rd_idxm (by assumption) (by intro _; rfl) (by constructor <;> omega) ?_
        | refine rd_loadf (by assumption) (by intro _; exact trivial) (by constructor <;> omega) ?_
        | refine needP_intro (by first | omega | (constructor <;> omega)) ?_
        | refine draw_intro 17 [.fl 0, .fl 1, .fl 2, .fl 3, .fl 4, .fl 5, .fl 6, .fl 7, .fl 8] (by rfl) (by kernel_rfl) ?_
        | refine And.intro ?_ ?_)
    all_goals first | rfl | (exfalso; omega)
theorem GTab.ext_iff' (x y : GTab) : x = y ↔ (x.Site.Owner = y.Site.Owner ∧ x.Site.Sub = y.Site.Sub) ∧ x.Click = y.Click ∧ x.Base = y.Base ∧ x.Edits = y.Edits ∧ x.Hidden = y.Hidden := by
  obtain ⟨⟨a, b⟩, c, d, e, f⟩ := x; obtain ⟨⟨a', b'⟩, c', d', e', f'⟩ := y
  simp only [GTab.mk.injEq, GSite.mk.injEq]
  constructor <;> (intro h; simp_all)
theorem GPackage.ext_iff' (x y : GPackage) : x = y ↔ x.Ext = y.Ext ∧ x.Author = y.Author ∧ x.Version = y.Version ∧ x.Seal = y.Seal ∧ x.Grants = y.Grants ∧ x.Flows = y.Flows ∧ x.Rules = y.Rules ∧ x.Ops = y.Ops := by
  cases x; cases y
  simp only [GPackage.mk.injEq]
  constructor <;> (intro h; simp_all)
theorem GBrowser.ext_iff' (x y : GBrowser) : x = y ↔ x.Key = y.Key ∧ x.Now = y.Now ∧ x.Tabs = y.Tabs ∧ x.Packs = y.Packs ∧ x.Grants = y.Grants ∧ x.Limits = y.Limits ∧ x.Rules = y.Rules ∧ x.Store = y.Store := by
  cases x; cases y
  simp only [GBrowser.mk.injEq]
  constructor <;> (intro h; simp_all)
theorem GTab.dec (x y : GTab) : decide (x = y) = decide ((x.Site.Owner = y.Site.Owner ∧ x.Site.Sub = y.Site.Sub) ∧ x.Click = y.Click ∧ x.Base = y.Base ∧ x.Edits = y.Edits ∧ x.Hidden = y.Hidden) := decide_eq_decide.2 (GTab.ext_iff' x y)
theorem GPackage.dec (x y : GPackage) : decide (x = y) = decide (x.Ext = y.Ext ∧ x.Author = y.Author ∧ x.Version = y.Version ∧ x.Seal = y.Seal ∧ x.Grants = y.Grants ∧ x.Flows = y.Flows ∧ x.Rules = y.Rules ∧ x.Ops = y.Ops) := decide_eq_decide.2 (GPackage.ext_iff' x y)
theorem GBrowser.dec (x y : GBrowser) : decide (x = y) = decide (x.Key = y.Key ∧ x.Now = y.Now ∧ x.Tabs = y.Tabs ∧ x.Packs = y.Packs ∧ x.Grants = y.Grants ∧ x.Limits = y.Limits ∧ x.Rules = y.Rules ∧ x.Store = y.Store) := decide_eq_decide.2 (GBrowser.ext_iff' x y)
theorem ev_sEqualTabs (x y : GTab) (cs cs' : List C) (S : Store) (h : Rd S x.d cs) (h' : Rd S y.d cs') : EvA Try.prog 86 [.agg cs, .agg cs'] S (fun r S' => r = .v (.s (.bool (decide (x = y)))) ∧ S' = S) := by
  obtain ⟨_, _, _, rfl, _, _, _⟩ := GTab.inv h
  obtain ⟨_, _, _, rfl, _, _, _⟩ := GTab.inv h'
  rw [GTab.dec]
  refine evA_intro tok Try.func86 (by kernel_rfl) rfl ?_
  repeat' ((conv => whnf) <;> first
      | refine condP_dec (fun _ => ?_) (fun _ => ?_)
      | refine condP_ndec (fun _ => ?_) (fun _ => ?_)
      | refine condP_true rfl ?_
      | refine condP_false rfl ?_
      | refine condP_not (fun _ => ?_) (fun _ => ?_)
      | refine condP_intro (fun _ => ?_) (fun _ => ?_)
      | refine callP_eq (ev_sEqDoc _ _ _ _ _ (by assumption) (by assumption)) ?_
      | refine callP_eq (ev_sEqEdits _ _ _ _ _ (by assumption) (by assumption)) ?_
      | refine callP_eq (ev_sEqInts _ _ _ _ _ (by assumption) (by assumption)) ?_
      | refine needP_intro (by first | omega | (constructor <;> omega)) ?_
      | refine And.intro ?_ ?_)
  all_goals first | rfl | (simp_all [resAV]; done)
theorem ev_iEqualTabs (x y : GTab) (cs cs' : List C) (S : Store) (h : Rd S x.d cs) (h' : Rd S y.d cs') : EvA Try.prog 92 [.agg cs, .agg cs'] S (fun r S' => r = .v (.s (.bool (decide (x = y)))) ∧ S' = S) := by
  obtain ⟨_, _, _, rfl, _, _, _⟩ := GTab.inv h
  obtain ⟨_, _, _, rfl, _, _, _⟩ := GTab.inv h'
  rw [GTab.dec]
  refine evA_intro tok Try.func92 (by kernel_rfl) rfl ?_
  repeat' ((conv => whnf) <;> first
      | refine condP_dec (fun _ => ?_) (fun _ => ?_)
      | refine condP_ndec (fun _ => ?_) (fun _ => ?_)
      | refine condP_true rfl ?_
      | refine condP_false rfl ?_
      | refine condP_not (fun _ => ?_) (fun _ => ?_)
      | refine condP_intro (fun _ => ?_) (fun _ => ?_)
      | refine callP_eq (ev_EqNode _ _ _ _ _ (by assumption) (by assumption)) ?_
      | refine callP_eq (ev_EqEdit _ _ _ _ _ (by assumption) (by assumption)) ?_
      | refine callP_eq (ev_Eqint _ _ _ _ _ (by assumption) (by assumption)) ?_
      | refine needP_intro (by first | omega | (constructor <;> omega)) ?_
      | refine And.intro ?_ ?_)
  all_goals first | rfl | (simp_all [resAV]; done)
theorem ev_iEqualPackages (x y : GPackage) (cs cs' : List C) (S : Store) (h : Rd S x.d cs) (h' : Rd S y.d cs') : EvA Try.prog 94 [.agg cs, .agg cs'] S (fun r S' => r = .v (.s (.bool (decide (x = y)))) ∧ S' = S) := by
  obtain ⟨_, _, _, _, rfl, _, _, _, _⟩ := GPackage.inv h
  obtain ⟨_, _, _, _, rfl, _, _, _, _⟩ := GPackage.inv h'
  rw [GPackage.dec]
  refine evA_intro tok Try.func94 (by kernel_rfl) rfl ?_
  repeat' ((conv => whnf) <;> first
      | refine condP_dec (fun _ => ?_) (fun _ => ?_)
      | refine condP_ndec (fun _ => ?_) (fun _ => ?_)
      | refine condP_true rfl ?_
      | refine condP_false rfl ?_
      | refine condP_not (fun _ => ?_) (fun _ => ?_)
      | refine condP_intro (fun _ => ?_) (fun _ => ?_)
      | refine callP_eq (ev_EqGrant _ _ _ _ _ (by assumption) (by assumption)) ?_
      | refine callP_eq (ev_EqRule _ _ _ _ _ (by assumption) (by assumption)) ?_
      | refine callP_eq (ev_EqFlow _ _ _ _ _ (by assumption) (by assumption)) ?_
      | refine callP_eq (ev_EqOp _ _ _ _ _ (by assumption) (by assumption)) ?_
      | refine needP_intro (by first | omega | (constructor <;> omega)) ?_
      | refine And.intro ?_ ?_)
  all_goals first | rfl | (simp_all [resAV]; done)
theorem ev_sEqualPackages (x y : GPackage) (cs cs' : List C) (S : Store) (h : Rd S x.d cs) (h' : Rd S y.d cs') : EvA Try.prog 87 [.agg cs, .agg cs'] S (fun r S' => r = .v (.s (.bool (decide (x = y)))) ∧ S' = S) := by
  obtain ⟨_, _, _, _, rfl, _, _, _, _⟩ := GPackage.inv h
  obtain ⟨_, _, _, _, rfl, _, _, _, _⟩ := GPackage.inv h'
  refine evA_intro tok Try.func87 (by kernel_rfl) rfl ?_
  repeat' ((conv => whnf) <;> first
      | rw [wrapI_i64 (by omega)]
      | refine condP_dec (fun _ => ?_) (fun _ => ?_)
      | refine condP_ndec (fun _ => ?_) (fun _ => ?_)
      | refine condP_true rfl ?_
      | refine condP_false rfl ?_
      | refine condP_not (fun _ => ?_) (fun _ => ?_)
      | refine condP_intro (fun _ => ?_) (fun _ => ?_)
      | refine callP_eq (ev_sEqRules _ _ _ _ _ (by assumption) (by assumption)) ?_
      | (refine rd_lenm (by assumption) ?_; intro hml; rw [maxLen_eq] at hml)
      | refine rd_idxm (by assumption) (by intro _; rfl) (by constructor <;> omega) ?_
      | refine rd_loadf (by assumption) (by intro _; exact trivial) (by constructor <;> omega) ?_
      | refine needP_intro (by first | omega | (constructor <;> omega)) ?_
      | refine draw_intro 68 [.fl 0, .fl 1, .fl 2, .fl 3, .fl 4, .fl 5, .fl 6, .fl 7, .fl 8, .fl 9, .fl 10] (by rfl) (by kernel_rfl) ?_
      | refine draw_intro 86 [.fl 0, .fl 1, .fl 2, .fl 3, .fl 4, .fl 5, .fl 6, .fl 7, .fl 8, .fl 9, .fl 10] (by rfl) (by kernel_rfl) ?_
      | refine draw_intro 104 [.fl 0, .fl 1, .fl 2, .fl 3, .fl 4, .fl 5, .fl 6, .fl 7, .fl 8, .fl 9, .fl 10] (by rfl) (by kernel_rfl) ?_
      | refine And.intro ?_ ?_)
  all_goals try first
    | rfl
    | (rw [decide_eq_false (fun e => (by subst e; first | contradiction | omega))] <;> rfl)
  refine loop_intro {i : Nat // i ≤ x.Grants.length ∧ (x.Grants.drop i = y.Grants.drop i ↔ x.Grants = y.Grants)} [4, 5, 61, 62, 63, 64, 65, 66, 67, 68, 69, 70, 71, 72, 73, 74, 75, 76, 77, 78] (fun zb => [(5, .v (.s (.int .i64 zb.1)))]) (fun _ => S) (fun zb => x.Grants.length - zb.1) ⟨0, Nat.zero_le _, by simp⟩ ?_ rfl ?_
  · (conv => whnf); repeat' (first | exact trivial | exact rfl | apply And.intro)
  rintro ⟨i, hi, hinv⟩; dsimp only
  repeat' ((conv => whnf) <;> first
      | rw [wrapI_i64 (by omega)]
      | refine condP_dec (fun _ => ?_) (fun _ => ?_)
      | refine condP_ndec (fun _ => ?_) (fun _ => ?_)
      | refine condP_true rfl ?_
      | refine condP_false rfl ?_
      | refine condP_not (fun _ => ?_) (fun _ => ?_)
      | refine condP_intro (fun _ => ?_) (fun _ => ?_)
      | refine callP_eq (ev_sEqRules _ _ _ _ _ (by assumption) (by assumption)) ?_
      | (refine rd_lenm (by assumption) ?_; intro hml; rw [maxLen_eq] at hml)
      | refine rd_idxm (by assumption) (by intro _; rfl) (by constructor <;> omega) ?_
      | refine rd_loadf (by assumption) (by intro _; exact trivial) (by constructor <;> omega) ?_
      | refine needP_intro (by first | omega | (constructor <;> omega)) ?_
      | refine draw_intro 68 [.fl 0, .fl 1, .fl 2, .fl 3, .fl 4, .fl 5, .fl 6, .fl 7, .fl 8, .fl 9, .fl 10] (by rfl) (by kernel_rfl) ?_
      | refine draw_intro 86 [.fl 0, .fl 1, .fl 2, .fl 3, .fl 4, .fl 5, .fl 6, .fl 7, .fl 8, .fl 9, .fl 10] (by rfl) (by kernel_rfl) ?_
      | refine draw_intro 104 [.fl 0, .fl 1, .fl 2, .fl 3, .fl 4, .fl 5, .fl 6, .fl 7, .fl 8, .fl 9, .fl 10] (by rfl) (by kernel_rfl) ?_
      | refine And.intro ?_ ?_)
  all_goals try first
    | rfl
    | (exfalso; omega)
    | (have hlt : i < x.Grants.length := by omega
       have hs := (eql_step hlt (by omega) hinv).2
       have hb : ¬ (x.Grants[((i : Nat) : Int).toNat]'hlt = y.Grants[((i : Nat) : Int).toNat]'(by omega)) := by first | assumption | exact of_decide_eq_false (by assumption) | exact of_decide_eq_false ((GGrant.eqb _ _).symm.trans (by assumption))
       rw [decide_eq_false (fun e => hs hb (by rw [e]))] <;> rfl)
    | (have hlt : i < x.Grants.length := by omega
       have hs := (eql_step hlt (by omega) hinv).1
       have hb : x.Grants[((i : Nat) : Int).toNat]'hlt = y.Grants[((i : Nat) : Int).toNat]'(by omega) := by first | assumption | exact of_decide_eq_true (by assumption) | exact of_decide_eq_true ((GGrant.eqb _ _).symm.trans (by assumption))
       (refine ⟨⟨i + 1, by omega, hs hb⟩, ?_, rfl, by dsimp only; omega⟩; (conv => whnf); repeat' (first | exact trivial | exact rfl | apply And.intro)))
  have qGrants := eql_end (by omega) (by omega) hinv
  clear hinv hi
  refine loop_intro {i : Nat // i ≤ x.Flows.length ∧ (x.Flows.drop i = y.Flows.drop i ↔ x.Flows = y.Flows)} [4, 6, 79, 80, 81, 82, 83, 84, 85, 86, 87, 88, 89, 90, 91, 92, 93, 94, 95, 96] (fun zb => [(6, .v (.s (.int .i64 zb.1)))]) (fun _ => S) (fun zb => x.Flows.length - zb.1) ⟨0, Nat.zero_le _, by simp⟩ ?_ rfl ?_
  · (conv => whnf); repeat' (first | exact trivial | exact rfl | apply And.intro)
  rintro ⟨i, hi, hinv⟩; dsimp only
  repeat' ((conv => whnf) <;> first
      | rw [wrapI_i64 (by omega)]
      | refine condP_dec (fun _ => ?_) (fun _ => ?_)
      | refine condP_ndec (fun _ => ?_) (fun _ => ?_)
      | refine condP_true rfl ?_
      | refine condP_false rfl ?_
      | refine condP_not (fun _ => ?_) (fun _ => ?_)
      | refine condP_intro (fun _ => ?_) (fun _ => ?_)
      | refine callP_eq (ev_sEqRules _ _ _ _ _ (by assumption) (by assumption)) ?_
      | (refine rd_lenm (by assumption) ?_; intro hml; rw [maxLen_eq] at hml)
      | refine rd_idxm (by assumption) (by intro _; rfl) (by constructor <;> omega) ?_
      | refine rd_loadf (by assumption) (by intro _; exact trivial) (by constructor <;> omega) ?_
      | refine needP_intro (by first | omega | (constructor <;> omega)) ?_
      | refine draw_intro 68 [.fl 0, .fl 1, .fl 2, .fl 3, .fl 4, .fl 5, .fl 6, .fl 7, .fl 8, .fl 9, .fl 10] (by rfl) (by kernel_rfl) ?_
      | refine draw_intro 86 [.fl 0, .fl 1, .fl 2, .fl 3, .fl 4, .fl 5, .fl 6, .fl 7, .fl 8, .fl 9, .fl 10] (by rfl) (by kernel_rfl) ?_
      | refine draw_intro 104 [.fl 0, .fl 1, .fl 2, .fl 3, .fl 4, .fl 5, .fl 6, .fl 7, .fl 8, .fl 9, .fl 10] (by rfl) (by kernel_rfl) ?_
      | refine And.intro ?_ ?_)
  all_goals try first
    | rfl
    | (exfalso; omega)
    | (have hlt : i < x.Flows.length := by omega
       have hs := (eql_step hlt (by omega) hinv).2
       have hb : ¬ (x.Flows[((i : Nat) : Int).toNat]'hlt = y.Flows[((i : Nat) : Int).toNat]'(by omega)) := by first | assumption | exact of_decide_eq_false (by assumption) | exact of_decide_eq_false ((GFlow.eqb _ _).symm.trans (by assumption))
       rw [decide_eq_false (fun e => hs hb (by rw [e]))] <;> rfl)
    | (have hlt : i < x.Flows.length := by omega
       have hs := (eql_step hlt (by omega) hinv).1
       have hb : x.Flows[((i : Nat) : Int).toNat]'hlt = y.Flows[((i : Nat) : Int).toNat]'(by omega) := by first | assumption | exact of_decide_eq_true (by assumption) | exact of_decide_eq_true ((GFlow.eqb _ _).symm.trans (by assumption))
       (refine ⟨⟨i + 1, by omega, hs hb⟩, ?_, rfl, by dsimp only; omega⟩; (conv => whnf); repeat' (first | exact trivial | exact rfl | apply And.intro)))
  have qFlows := eql_end (by omega) (by omega) hinv
  clear hinv hi
  refine loop_intro {i : Nat // i ≤ x.Ops.length ∧ (x.Ops.drop i = y.Ops.drop i ↔ x.Ops = y.Ops)} [4, 7, 97, 98, 99, 100, 101, 102, 103, 104, 105, 106, 107, 108, 109, 110, 111, 112, 113, 114] (fun zb => [(7, .v (.s (.int .i64 zb.1)))]) (fun _ => S) (fun zb => x.Ops.length - zb.1) ⟨0, Nat.zero_le _, by simp⟩ ?_ rfl ?_
  · (conv => whnf); repeat' (first | exact trivial | exact rfl | apply And.intro)
  rintro ⟨i, hi, hinv⟩; dsimp only
  repeat' ((conv => whnf) <;> first
      | rw [wrapI_i64 (by omega)]
      | refine condP_dec (fun _ => ?_) (fun _ => ?_)
      | refine condP_ndec (fun _ => ?_) (fun _ => ?_)
      | refine condP_true rfl ?_
      | refine condP_false rfl ?_
      | refine condP_not (fun _ => ?_) (fun _ => ?_)
      | refine condP_intro (fun _ => ?_) (fun _ => ?_)
      | refine callP_eq (ev_sEqRules _ _ _ _ _ (by assumption) (by assumption)) ?_
      | (refine rd_lenm (by assumption) ?_; intro hml; rw [maxLen_eq] at hml)
      | refine rd_idxm (by assumption) (by intro _; rfl) (by constructor <;> omega) ?_
      | refine rd_loadf (by assumption) (by intro _; exact trivial) (by constructor <;> omega) ?_
      | refine needP_intro (by first | omega | (constructor <;> omega)) ?_
      | refine draw_intro 68 [.fl 0, .fl 1, .fl 2, .fl 3, .fl 4, .fl 5, .fl 6, .fl 7, .fl 8, .fl 9, .fl 10] (by rfl) (by kernel_rfl) ?_
      | refine draw_intro 86 [.fl 0, .fl 1, .fl 2, .fl 3, .fl 4, .fl 5, .fl 6, .fl 7, .fl 8, .fl 9, .fl 10] (by rfl) (by kernel_rfl) ?_
      | refine draw_intro 104 [.fl 0, .fl 1, .fl 2, .fl 3, .fl 4, .fl 5, .fl 6, .fl 7, .fl 8, .fl 9, .fl 10] (by rfl) (by kernel_rfl) ?_
      | refine And.intro ?_ ?_)
  all_goals try first
    | rfl
    | (exfalso; omega)
    | (have hlt : i < x.Ops.length := by omega
       have hs := (eql_step hlt (by omega) hinv).2
       have hb : ¬ (x.Ops[((i : Nat) : Int).toNat]'hlt = y.Ops[((i : Nat) : Int).toNat]'(by omega)) := by first | assumption | exact of_decide_eq_false (by assumption) | exact of_decide_eq_false ((GOp.eqb _ _).symm.trans (by assumption))
       rw [decide_eq_false (fun e => hs hb (by rw [e]))] <;> rfl)
    | (have hlt : i < x.Ops.length := by omega
       have hs := (eql_step hlt (by omega) hinv).1
       have hb : x.Ops[((i : Nat) : Int).toNat]'hlt = y.Ops[((i : Nat) : Int).toNat]'(by omega) := by first | assumption | exact of_decide_eq_true (by assumption) | exact of_decide_eq_true ((GOp.eqb _ _).symm.trans (by assumption))
       (refine ⟨⟨i + 1, by omega, hs hb⟩, ?_, rfl, by dsimp only; omega⟩; (conv => whnf); repeat' (first | exact trivial | exact rfl | apply And.intro)))
  have qOps := eql_end (by omega) (by omega) hinv
  clear hinv hi
  all_goals (rw [GPackage.dec]; simp_all [resAV])
theorem ev_EqFTab (l m : List GTab) (c c' : C) (S : Store) (h : Rd S [.sl 6 (l.map GTab.d)] [c]) (h' : Rd S [.sl 6 (m.map GTab.d)] [c']) : EvA Try.prog 91 [.s c, .s c', .s (.fn 92)] S (fun r S' => r = .v (.s (.bool (decide (l = m)))) ∧ S' = S) := by
  by_cases hlen : l.length = m.length
  · refine evA_intro tok Try.func91 (by kernel_rfl) rfl ?_
    repeat' ((conv => whnf) <;> first
        | rw [wrapI_i64 (by omega)]
        | refine condP_dec (fun _ => ?_) (fun _ => ?_)
        | refine condP_ndec (fun _ => ?_) (fun _ => ?_)
        | refine condP_true rfl ?_
        | refine condP_false rfl ?_
        | refine condP_not (fun _ => ?_) (fun _ => ?_)
        | refine condP_intro (fun _ => ?_) (fun _ => ?_)
        | (refine rd_lenm (by assumption) ?_; intro hml; rw [maxLen_eq] at hml)
        | refine rd_idxm (by assumption) (by intro _; rfl) (by constructor <;> omega) ?_
        | (refine rd_loadm (f := GTab.d) (by assumption) (by constructor <;> omega) ?_; intro _ hcs; obtain ⟨_, _, _, rfl, _, _, _⟩ := GTab.inv hcs)
        | refine needP_intro (by first | omega | (constructor <;> omega)) ?_
        | refine And.intro ?_ ?_)
    all_goals try first | rfl | (exfalso; omega)
    refine loop_intro {i : Nat // i ≤ l.length ∧ (l.drop i = m.drop i ↔ l = m)} [6, 7, 8, 9, 17, 18, 19, 20, 21, 22, 23, 24, 25, 26, 27, 28, 29, 30, 31] (fun zb => [(17, .v (.s (.int .i64 zb.1)))]) (fun _ => S) (fun zb => l.length - zb.1) ⟨0, Nat.zero_le _, by simp⟩ ?_ rfl ?_
    · (conv => whnf); repeat' (first | exact trivial | exact rfl | apply And.intro)
    rintro ⟨i, hi, hinv⟩; dsimp only
    repeat' ((conv => whnf) <;> first
        | rw [wrapI_i64 (by omega)]
        | refine condP_dec (fun _ => ?_) (fun _ => ?_)
        | refine condP_ndec (fun _ => ?_) (fun _ => ?_)
        | refine condP_true rfl ?_
        | refine condP_false rfl ?_
        | refine condP_not (fun _ => ?_) (fun _ => ?_)
        | refine condP_intro (fun _ => ?_) (fun _ => ?_)
        | (refine rd_lenm (by assumption) ?_; intro hml; rw [maxLen_eq] at hml)
        | refine rd_idxm (by assumption) (by intro _; rfl) (by constructor <;> omega) ?_
        | (refine rd_loadm (f := GTab.d) (by assumption) (by constructor <;> omega) ?_; intro _ hcs; obtain ⟨_, _, _, rfl, _, _, _⟩ := GTab.inv hcs)
        | refine needP_intro (by first | omega | (constructor <;> omega)) ?_
        | (refine callP_eq (ev_iEqualTabs _ _ _ _ _ (by (first | assumption | exact Fr.rd (by assumption) | exact Rd.ext (by first | assumption | exact Fr.rd (by assumption)) (by (first | assumption | exact Ext.push _ _ | exact Ext.trans (by assumption) (by first | assumption | exact Ext.push _ _) | exact Ext.trans (by assumption) (Ext.trans (by assumption) (by assumption)) | exact Ext.trans (by assumption) (Ext.trans (by assumption) (Ext.trans (by assumption) (by assumption))))) | exact GPackage.rd (by (first | assumption | exact Fr.rd (by assumption) | exact Rd.ext (by first | assumption | exact Fr.rd (by assumption)) (by (first | assumption | exact Ext.push _ _ | exact Ext.trans (by assumption) (by first | assumption | exact Ext.push _ _) | exact Ext.trans (by assumption) (Ext.trans (by assumption) (by assumption)) | exact Ext.trans (by assumption) (Ext.trans (by assumption) (Ext.trans (by assumption) (by assumption))))))) (by (first | assumption | exact Fr.rd (by assumption) | exact Rd.ext (by first | assumption | exact Fr.rd (by assumption)) (by (first | assumption | exact Ext.push _ _ | exact Ext.trans (by assumption) (by first | assumption | exact Ext.push _ _) | exact Ext.trans (by assumption) (Ext.trans (by assumption) (by assumption)) | exact Ext.trans (by assumption) (Ext.trans (by assumption) (Ext.trans (by assumption) (by assumption))))))) (by (first | assumption | exact Fr.rd (by assumption) | exact Rd.ext (by first | assumption | exact Fr.rd (by assumption)) (by (first | assumption | exact Ext.push _ _ | exact Ext.trans (by assumption) (by first | assumption | exact Ext.push _ _) | exact Ext.trans (by assumption) (Ext.trans (by assumption) (by assumption)) | exact Ext.trans (by assumption) (Ext.trans (by assumption) (Ext.trans (by assumption) (by assumption))))))) (by (first | assumption | exact Fr.rd (by assumption) | exact Rd.ext (by first | assumption | exact Fr.rd (by assumption)) (by (first | assumption | exact Ext.push _ _ | exact Ext.trans (by assumption) (by first | assumption | exact Ext.push _ _) | exact Ext.trans (by assumption) (Ext.trans (by assumption) (by assumption)) | exact Ext.trans (by assumption) (Ext.trans (by assumption) (Ext.trans (by assumption) (by assumption))))))) | exact GTab.rd (by (first | assumption | exact Fr.rd (by assumption) | exact Rd.ext (by first | assumption | exact Fr.rd (by assumption)) (by (first | assumption | exact Ext.push _ _ | exact Ext.trans (by assumption) (by first | assumption | exact Ext.push _ _) | exact Ext.trans (by assumption) (Ext.trans (by assumption) (by assumption)) | exact Ext.trans (by assumption) (Ext.trans (by assumption) (Ext.trans (by assumption) (by assumption))))))) (by (first | assumption | exact Fr.rd (by assumption) | exact Rd.ext (by first | assumption | exact Fr.rd (by assumption)) (by (first | assumption | exact Ext.push _ _ | exact Ext.trans (by assumption) (by first | assumption | exact Ext.push _ _) | exact Ext.trans (by assumption) (Ext.trans (by assumption) (by assumption)) | exact Ext.trans (by assumption) (Ext.trans (by assumption) (Ext.trans (by assumption) (by assumption))))))) (by (first | assumption | exact Fr.rd (by assumption) | exact Rd.ext (by first | assumption | exact Fr.rd (by assumption)) (by (first | assumption | exact Ext.push _ _ | exact Ext.trans (by assumption) (by first | assumption | exact Ext.push _ _) | exact Ext.trans (by assumption) (Ext.trans (by assumption) (by assumption)) | exact Ext.trans (by assumption) (Ext.trans (by assumption) (Ext.trans (by assumption) (by assumption))))))) | exact GOutcome.rd (by (first | assumption | exact Fr.rd (by assumption) | exact Rd.ext (by first | assumption | exact Fr.rd (by assumption)) (by (first | assumption | exact Ext.push _ _ | exact Ext.trans (by assumption) (by first | assumption | exact Ext.push _ _) | exact Ext.trans (by assumption) (Ext.trans (by assumption) (by assumption)) | exact Ext.trans (by assumption) (Ext.trans (by assumption) (Ext.trans (by assumption) (by assumption))))))))) (by (first | assumption | exact Fr.rd (by assumption) | exact Rd.ext (by first | assumption | exact Fr.rd (by assumption)) (by (first | assumption | exact Ext.push _ _ | exact Ext.trans (by assumption) (by first | assumption | exact Ext.push _ _) | exact Ext.trans (by assumption) (Ext.trans (by assumption) (by assumption)) | exact Ext.trans (by assumption) (Ext.trans (by assumption) (Ext.trans (by assumption) (by assumption))))) | exact GPackage.rd (by (first | assumption | exact Fr.rd (by assumption) | exact Rd.ext (by first | assumption | exact Fr.rd (by assumption)) (by (first | assumption | exact Ext.push _ _ | exact Ext.trans (by assumption) (by first | assumption | exact Ext.push _ _) | exact Ext.trans (by assumption) (Ext.trans (by assumption) (by assumption)) | exact Ext.trans (by assumption) (Ext.trans (by assumption) (Ext.trans (by assumption) (by assumption))))))) (by (first | assumption | exact Fr.rd (by assumption) | exact Rd.ext (by first | assumption | exact Fr.rd (by assumption)) (by (first | assumption | exact Ext.push _ _ | exact Ext.trans (by assumption) (by first | assumption | exact Ext.push _ _) | exact Ext.trans (by assumption) (Ext.trans (by assumption) (by assumption)) | exact Ext.trans (by assumption) (Ext.trans (by assumption) (Ext.trans (by assumption) (by assumption))))))) (by (first | assumption | exact Fr.rd (by assumption) | exact Rd.ext (by first | assumption | exact Fr.rd (by assumption)) (by (first | assumption | exact Ext.push _ _ | exact Ext.trans (by assumption) (by first | assumption | exact Ext.push _ _) | exact Ext.trans (by assumption) (Ext.trans (by assumption) (by assumption)) | exact Ext.trans (by assumption) (Ext.trans (by assumption) (Ext.trans (by assumption) (by assumption))))))) (by (first | assumption | exact Fr.rd (by assumption) | exact Rd.ext (by first | assumption | exact Fr.rd (by assumption)) (by (first | assumption | exact Ext.push _ _ | exact Ext.trans (by assumption) (by first | assumption | exact Ext.push _ _) | exact Ext.trans (by assumption) (Ext.trans (by assumption) (by assumption)) | exact Ext.trans (by assumption) (Ext.trans (by assumption) (Ext.trans (by assumption) (by assumption))))))) | exact GTab.rd (by (first | assumption | exact Fr.rd (by assumption) | exact Rd.ext (by first | assumption | exact Fr.rd (by assumption)) (by (first | assumption | exact Ext.push _ _ | exact Ext.trans (by assumption) (by first | assumption | exact Ext.push _ _) | exact Ext.trans (by assumption) (Ext.trans (by assumption) (by assumption)) | exact Ext.trans (by assumption) (Ext.trans (by assumption) (Ext.trans (by assumption) (by assumption))))))) (by (first | assumption | exact Fr.rd (by assumption) | exact Rd.ext (by first | assumption | exact Fr.rd (by assumption)) (by (first | assumption | exact Ext.push _ _ | exact Ext.trans (by assumption) (by first | assumption | exact Ext.push _ _) | exact Ext.trans (by assumption) (Ext.trans (by assumption) (by assumption)) | exact Ext.trans (by assumption) (Ext.trans (by assumption) (Ext.trans (by assumption) (by assumption))))))) (by (first | assumption | exact Fr.rd (by assumption) | exact Rd.ext (by first | assumption | exact Fr.rd (by assumption)) (by (first | assumption | exact Ext.push _ _ | exact Ext.trans (by assumption) (by first | assumption | exact Ext.push _ _) | exact Ext.trans (by assumption) (Ext.trans (by assumption) (by assumption)) | exact Ext.trans (by assumption) (Ext.trans (by assumption) (Ext.trans (by assumption) (by assumption))))))) | exact GOutcome.rd (by (first | assumption | exact Fr.rd (by assumption) | exact Rd.ext (by first | assumption | exact Fr.rd (by assumption)) (by (first | assumption | exact Ext.push _ _ | exact Ext.trans (by assumption) (by first | assumption | exact Ext.push _ _) | exact Ext.trans (by assumption) (Ext.trans (by assumption) (by assumption)) | exact Ext.trans (by assumption) (Ext.trans (by assumption) (Ext.trans (by assumption) (by assumption)))))))))) ?_)
        | refine And.intro ?_ ?_)
    all_goals first
      | rfl
      | (exfalso; omega)
      | (have he := eql_end (by omega) (by omega) hinv; rw [decide_eq_true he] <;> rfl)
      | (have hlt : i < l.length := by omega
         have hs := (eql_step hlt (by omega) hinv).2
         have hb : ¬ (l[((i : Nat) : Int).toNat]'hlt = m[((i : Nat) : Int).toNat]'(by omega)) := by first | assumption | exact of_decide_eq_false (by assumption)
         rw [decide_eq_false (hs hb)] <;> rfl)
      | (have hlt : i < l.length := by omega
         have hs := (eql_step hlt (by omega) hinv).1
         have hb : l[((i : Nat) : Int).toNat]'hlt = m[((i : Nat) : Int).toNat]'(by omega) := by first | assumption | exact of_decide_eq_true (by assumption)
         (refine ⟨⟨i + 1, by omega, hs hb⟩, ?_, rfl, by dsimp only; omega⟩; (conv => whnf); repeat' (first | exact trivial | exact rfl | apply And.intro)))
  · rw [decide_eq_false (p := l = m) (fun e => hlen (by rw [e]))]
    refine evA_intro tok Try.func91 (by kernel_rfl) rfl ?_
    repeat' ((conv => whnf) <;> first
        | rw [wrapI_i64 (by omega)]
        | refine condP_dec (fun _ => ?_) (fun _ => ?_)
        | refine condP_ndec (fun _ => ?_) (fun _ => ?_)
        | refine condP_true rfl ?_
        | refine condP_false rfl ?_
        | refine condP_not (fun _ => ?_) (fun _ => ?_)
        | refine condP_intro (fun _ => ?_) (fun _ => ?_)
        | (refine rd_lenm (by assumption) ?_; intro hml; rw [maxLen_eq] at hml)
        | refine rd_idxm (by assumption) (by intro _; rfl) (by constructor <;> omega) ?_
        | (refine rd_loadm (f := GTab.d) (by assumption) (by constructor <;> omega) ?_; intro _ hcs; obtain ⟨_, _, _, rfl, _, _, _⟩ := GTab.inv hcs)
        | refine needP_intro (by first | omega | (constructor <;> omega)) ?_
        | refine And.intro ?_ ?_)
    all_goals first | rfl | (exfalso; omega)
theorem ev_EqFPackage (l m : List GPackage) (c c' : C) (S : Store) (h : Rd S [.sl 8 (l.map GPackage.d)] [c]) (h' : Rd S [.sl 8 (m.map GPackage.d)] [c']) : EvA Try.prog 93 [.s c, .s c', .s (.fn 94)] S (fun r S' => r = .v (.s (.bool (decide (l = m)))) ∧ S' = S) := by
  by_cases hlen : l.length = m.length
  · refine evA_intro tok Try.func93 (by kernel_rfl) rfl ?_
    repeat' ((conv => whnf) <;> first
        | rw [wrapI_i64 (by omega)]
        | refine condP_dec (fun _ => ?_) (fun _ => ?_)
        | refine condP_ndec (fun _ => ?_) (fun _ => ?_)
        | refine condP_true rfl ?_
        | refine condP_false rfl ?_
        | refine condP_not (fun _ => ?_) (fun _ => ?_)
        | refine condP_intro (fun _ => ?_) (fun _ => ?_)
        | (refine rd_lenm (by assumption) ?_; intro hml; rw [maxLen_eq] at hml)
        | refine rd_idxm (by assumption) (by intro _; rfl) (by constructor <;> omega) ?_
        | (refine rd_loadm (f := GPackage.d) (by assumption) (by constructor <;> omega) ?_; intro _ hcs; obtain ⟨_, _, _, _, rfl, _, _, _, _⟩ := GPackage.inv hcs)
        | refine needP_intro (by first | omega | (constructor <;> omega)) ?_
        | refine And.intro ?_ ?_)
    all_goals try first | rfl | (exfalso; omega)
    refine loop_intro {i : Nat // i ≤ l.length ∧ (l.drop i = m.drop i ↔ l = m)} [6, 7, 8, 9, 17, 18, 19, 20, 21, 22, 23, 24, 25, 26, 27, 28, 29, 30, 31] (fun zb => [(17, .v (.s (.int .i64 zb.1)))]) (fun _ => S) (fun zb => l.length - zb.1) ⟨0, Nat.zero_le _, by simp⟩ ?_ rfl ?_
    · (conv => whnf); repeat' (first | exact trivial | exact rfl | apply And.intro)
    rintro ⟨i, hi, hinv⟩; dsimp only
    repeat' ((conv => whnf) <;> first
        | rw [wrapI_i64 (by omega)]
        | refine condP_dec (fun _ => ?_) (fun _ => ?_)
        | refine condP_ndec (fun _ => ?_) (fun _ => ?_)
        | refine condP_true rfl ?_
        | refine condP_false rfl ?_
        | refine condP_not (fun _ => ?_) (fun _ => ?_)
        | refine condP_intro (fun _ => ?_) (fun _ => ?_)
        | (refine rd_lenm (by assumption) ?_; intro hml; rw [maxLen_eq] at hml)
        | refine rd_idxm (by assumption) (by intro _; rfl) (by constructor <;> omega) ?_
        | (refine rd_loadm (f := GPackage.d) (by assumption) (by constructor <;> omega) ?_; intro _ hcs; obtain ⟨_, _, _, _, rfl, _, _, _, _⟩ := GPackage.inv hcs)
        | refine needP_intro (by first | omega | (constructor <;> omega)) ?_
        | (refine callP_eq (ev_iEqualPackages _ _ _ _ _ (by (first | assumption | exact Fr.rd (by assumption) | exact Rd.ext (by first | assumption | exact Fr.rd (by assumption)) (by (first | assumption | exact Ext.push _ _ | exact Ext.trans (by assumption) (by first | assumption | exact Ext.push _ _) | exact Ext.trans (by assumption) (Ext.trans (by assumption) (by assumption)) | exact Ext.trans (by assumption) (Ext.trans (by assumption) (Ext.trans (by assumption) (by assumption))))) | exact GPackage.rd (by (first | assumption | exact Fr.rd (by assumption) | exact Rd.ext (by first | assumption | exact Fr.rd (by assumption)) (by (first | assumption | exact Ext.push _ _ | exact Ext.trans (by assumption) (by first | assumption | exact Ext.push _ _) | exact Ext.trans (by assumption) (Ext.trans (by assumption) (by assumption)) | exact Ext.trans (by assumption) (Ext.trans (by assumption) (Ext.trans (by assumption) (by assumption))))))) (by (first | assumption | exact Fr.rd (by assumption) | exact Rd.ext (by first | assumption | exact Fr.rd (by assumption)) (by (first | assumption | exact Ext.push _ _ | exact Ext.trans (by assumption) (by first | assumption | exact Ext.push _ _) | exact Ext.trans (by assumption) (Ext.trans (by assumption) (by assumption)) | exact Ext.trans (by assumption) (Ext.trans (by assumption) (Ext.trans (by assumption) (by assumption))))))) (by (first | assumption | exact Fr.rd (by assumption) | exact Rd.ext (by first | assumption | exact Fr.rd (by assumption)) (by (first | assumption | exact Ext.push _ _ | exact Ext.trans (by assumption) (by first | assumption | exact Ext.push _ _) | exact Ext.trans (by assumption) (Ext.trans (by assumption) (by assumption)) | exact Ext.trans (by assumption) (Ext.trans (by assumption) (Ext.trans (by assumption) (by assumption))))))) (by (first | assumption | exact Fr.rd (by assumption) | exact Rd.ext (by first | assumption | exact Fr.rd (by assumption)) (by (first | assumption | exact Ext.push _ _ | exact Ext.trans (by assumption) (by first | assumption | exact Ext.push _ _) | exact Ext.trans (by assumption) (Ext.trans (by assumption) (by assumption)) | exact Ext.trans (by assumption) (Ext.trans (by assumption) (Ext.trans (by assumption) (by assumption))))))) | exact GTab.rd (by (first | assumption | exact Fr.rd (by assumption) | exact Rd.ext (by first | assumption | exact Fr.rd (by assumption)) (by (first | assumption | exact Ext.push _ _ | exact Ext.trans (by assumption) (by first | assumption | exact Ext.push _ _) | exact Ext.trans (by assumption) (Ext.trans (by assumption) (by assumption)) | exact Ext.trans (by assumption) (Ext.trans (by assumption) (Ext.trans (by assumption) (by assumption))))))) (by (first | assumption | exact Fr.rd (by assumption) | exact Rd.ext (by first | assumption | exact Fr.rd (by assumption)) (by (first | assumption | exact Ext.push _ _ | exact Ext.trans (by assumption) (by first | assumption | exact Ext.push _ _) | exact Ext.trans (by assumption) (Ext.trans (by assumption) (by assumption)) | exact Ext.trans (by assumption) (Ext.trans (by assumption) (Ext.trans (by assumption) (by assumption))))))) (by (first | assumption | exact Fr.rd (by assumption) | exact Rd.ext (by first | assumption | exact Fr.rd (by assumption)) (by (first | assumption | exact Ext.push _ _ | exact Ext.trans (by assumption) (by first | assumption | exact Ext.push _ _) | exact Ext.trans (by assumption) (Ext.trans (by assumption) (by assumption)) | exact Ext.trans (by assumption) (Ext.trans (by assumption) (Ext.trans (by assumption) (by assumption))))))) | exact GOutcome.rd (by (first | assumption | exact Fr.rd (by assumption) | exact Rd.ext (by first | assumption | exact Fr.rd (by assumption)) (by (first | assumption | exact Ext.push _ _ | exact Ext.trans (by assumption) (by first | assumption | exact Ext.push _ _) | exact Ext.trans (by assumption) (Ext.trans (by assumption) (by assumption)) | exact Ext.trans (by assumption) (Ext.trans (by assumption) (Ext.trans (by assumption) (by assumption))))))))) (by (first | assumption | exact Fr.rd (by assumption) | exact Rd.ext (by first | assumption | exact Fr.rd (by assumption)) (by (first | assumption | exact Ext.push _ _ | exact Ext.trans (by assumption) (by first | assumption | exact Ext.push _ _) | exact Ext.trans (by assumption) (Ext.trans (by assumption) (by assumption)) | exact Ext.trans (by assumption) (Ext.trans (by assumption) (Ext.trans (by assumption) (by assumption))))) | exact GPackage.rd (by (first | assumption | exact Fr.rd (by assumption) | exact Rd.ext (by first | assumption | exact Fr.rd (by assumption)) (by (first | assumption | exact Ext.push _ _ | exact Ext.trans (by assumption) (by first | assumption | exact Ext.push _ _) | exact Ext.trans (by assumption) (Ext.trans (by assumption) (by assumption)) | exact Ext.trans (by assumption) (Ext.trans (by assumption) (Ext.trans (by assumption) (by assumption))))))) (by (first | assumption | exact Fr.rd (by assumption) | exact Rd.ext (by first | assumption | exact Fr.rd (by assumption)) (by (first | assumption | exact Ext.push _ _ | exact Ext.trans (by assumption) (by first | assumption | exact Ext.push _ _) | exact Ext.trans (by assumption) (Ext.trans (by assumption) (by assumption)) | exact Ext.trans (by assumption) (Ext.trans (by assumption) (Ext.trans (by assumption) (by assumption))))))) (by (first | assumption | exact Fr.rd (by assumption) | exact Rd.ext (by first | assumption | exact Fr.rd (by assumption)) (by (first | assumption | exact Ext.push _ _ | exact Ext.trans (by assumption) (by first | assumption | exact Ext.push _ _) | exact Ext.trans (by assumption) (Ext.trans (by assumption) (by assumption)) | exact Ext.trans (by assumption) (Ext.trans (by assumption) (Ext.trans (by assumption) (by assumption))))))) (by (first | assumption | exact Fr.rd (by assumption) | exact Rd.ext (by first | assumption | exact Fr.rd (by assumption)) (by (first | assumption | exact Ext.push _ _ | exact Ext.trans (by assumption) (by first | assumption | exact Ext.push _ _) | exact Ext.trans (by assumption) (Ext.trans (by assumption) (by assumption)) | exact Ext.trans (by assumption) (Ext.trans (by assumption) (Ext.trans (by assumption) (by assumption))))))) | exact GTab.rd (by (first | assumption | exact Fr.rd (by assumption) | exact Rd.ext (by first | assumption | exact Fr.rd (by assumption)) (by (first | assumption | exact Ext.push _ _ | exact Ext.trans (by assumption) (by first | assumption | exact Ext.push _ _) | exact Ext.trans (by assumption) (Ext.trans (by assumption) (by assumption)) | exact Ext.trans (by assumption) (Ext.trans (by assumption) (Ext.trans (by assumption) (by assumption))))))) (by (first | assumption | exact Fr.rd (by assumption) | exact Rd.ext (by first | assumption | exact Fr.rd (by assumption)) (by (first | assumption | exact Ext.push _ _ | exact Ext.trans (by assumption) (by first | assumption | exact Ext.push _ _) | exact Ext.trans (by assumption) (Ext.trans (by assumption) (by assumption)) | exact Ext.trans (by assumption) (Ext.trans (by assumption) (Ext.trans (by assumption) (by assumption))))))) (by (first | assumption | exact Fr.rd (by assumption) | exact Rd.ext (by first | assumption | exact Fr.rd (by assumption)) (by (first | assumption | exact Ext.push _ _ | exact Ext.trans (by assumption) (by first | assumption | exact Ext.push _ _) | exact Ext.trans (by assumption) (Ext.trans (by assumption) (by assumption)) | exact Ext.trans (by assumption) (Ext.trans (by assumption) (Ext.trans (by assumption) (by assumption))))))) | exact GOutcome.rd (by (first | assumption | exact Fr.rd (by assumption) | exact Rd.ext (by first | assumption | exact Fr.rd (by assumption)) (by (first | assumption | exact Ext.push _ _ | exact Ext.trans (by assumption) (by first | assumption | exact Ext.push _ _) | exact Ext.trans (by assumption) (Ext.trans (by assumption) (by assumption)) | exact Ext.trans (by assumption) (Ext.trans (by assumption) (Ext.trans (by assumption) (by assumption)))))))))) ?_)
        | refine And.intro ?_ ?_)
    all_goals first
      | rfl
      | (exfalso; omega)
      | (have he := eql_end (by omega) (by omega) hinv; rw [decide_eq_true he] <;> rfl)
      | (have hlt : i < l.length := by omega
         have hs := (eql_step hlt (by omega) hinv).2
         have hb : ¬ (l[((i : Nat) : Int).toNat]'hlt = m[((i : Nat) : Int).toNat]'(by omega)) := by first | assumption | exact of_decide_eq_false (by assumption)
         rw [decide_eq_false (hs hb)] <;> rfl)
      | (have hlt : i < l.length := by omega
         have hs := (eql_step hlt (by omega) hinv).1
         have hb : l[((i : Nat) : Int).toNat]'hlt = m[((i : Nat) : Int).toNat]'(by omega) := by first | assumption | exact of_decide_eq_true (by assumption)
         (refine ⟨⟨i + 1, by omega, hs hb⟩, ?_, rfl, by dsimp only; omega⟩; (conv => whnf); repeat' (first | exact trivial | exact rfl | apply And.intro)))
  · rw [decide_eq_false (p := l = m) (fun e => hlen (by rw [e]))]
    refine evA_intro tok Try.func93 (by kernel_rfl) rfl ?_
    repeat' ((conv => whnf) <;> first
        | rw [wrapI_i64 (by omega)]
        | refine condP_dec (fun _ => ?_) (fun _ => ?_)
        | refine condP_ndec (fun _ => ?_) (fun _ => ?_)
        | refine condP_true rfl ?_
        | refine condP_false rfl ?_
        | refine condP_not (fun _ => ?_) (fun _ => ?_)
        | refine condP_intro (fun _ => ?_) (fun _ => ?_)
        | (refine rd_lenm (by assumption) ?_; intro hml; rw [maxLen_eq] at hml)
        | refine rd_idxm (by assumption) (by intro _; rfl) (by constructor <;> omega) ?_
        | (refine rd_loadm (f := GPackage.d) (by assumption) (by constructor <;> omega) ?_; intro _ hcs; obtain ⟨_, _, _, _, rfl, _, _, _, _⟩ := GPackage.inv hcs)
        | refine needP_intro (by first | omega | (constructor <;> omega)) ?_
        | refine And.intro ?_ ?_)
    all_goals first | rfl | (exfalso; omega)
theorem ev_iEqualBrowsers (x y : GBrowser) (cs cs' : List C) (S : Store) (h : Rd S x.d cs) (h' : Rd S y.d cs') : EvA Try.prog 26 [.agg cs, .agg cs'] S (fun r S' => r = .v (.s (.bool (decide (x = y)))) ∧ S' = S) := by
  obtain ⟨_, _, _, _, _, _, rfl, _, _, _, _, _, _⟩ := GBrowser.inv h
  obtain ⟨_, _, _, _, _, _, rfl, _, _, _, _, _, _⟩ := GBrowser.inv h'
  rw [GBrowser.dec]
  refine evA_intro tok Try.func26 (by kernel_rfl) rfl ?_
  repeat' ((conv => whnf) <;> first
      | refine condP_dec (fun _ => ?_) (fun _ => ?_)
      | refine condP_ndec (fun _ => ?_) (fun _ => ?_)
      | refine condP_true rfl ?_
      | refine condP_false rfl ?_
      | refine condP_not (fun _ => ?_) (fun _ => ?_)
      | refine condP_intro (fun _ => ?_) (fun _ => ?_)
      | refine callP_eq (ev_EqFTab _ _ _ _ _ (by assumption) (by assumption)) ?_
      | refine callP_eq (ev_EqFPackage _ _ _ _ _ (by assumption) (by assumption)) ?_
      | refine callP_eq (ev_EqGrant _ _ _ _ _ (by assumption) (by assumption)) ?_
      | refine callP_eq (ev_EqLimit _ _ _ _ _ (by assumption) (by assumption)) ?_
      | refine callP_eq (ev_EqRule _ _ _ _ _ (by assumption) (by assumption)) ?_
      | refine callP_eq (ev_EqStored _ _ _ _ _ (by assumption) (by assumption)) ?_
      | refine needP_intro (by first | omega | (constructor <;> omega)) ?_
      | refine And.intro ?_ ?_)
  all_goals first | rfl | (simp_all [resAV]; done)
set_option maxHeartbeats 2000000 in
theorem ev_sEqualBrowsers (x y : GBrowser) (cs cs' : List C) (S : Store) (h : Rd S x.d cs) (h' : Rd S y.d cs') : EvA Try.prog 25 [.agg cs, .agg cs'] S (fun r S' => r = .v (.s (.bool (decide (x = y)))) ∧ S' = S) := by
  obtain ⟨_, _, _, _, _, _, rfl, _, _, _, _, _, _⟩ := GBrowser.inv h
  obtain ⟨_, _, _, _, _, _, rfl, _, _, _, _, _, _⟩ := GBrowser.inv h'
  refine evA_intro tok Try.func25 (by kernel_rfl) rfl ?_
  repeat' ((conv => whnf) <;> first
      | rw [wrapI_i64 (by omega)]
      | refine condP_dec (fun _ => ?_) (fun _ => ?_)
      | refine condP_ndec (fun _ => ?_) (fun _ => ?_)
      | refine condP_true rfl ?_
      | refine condP_false rfl ?_
      | refine condP_not (fun _ => ?_) (fun _ => ?_)
      | refine condP_intro (fun _ => ?_) (fun _ => ?_)
      | (refine callP_eq (ev_sEqualTabs _ _ _ _ _ (by first | assumption | exact GPackage.rd (by assumption) (by assumption) (by assumption) (by assumption) | exact GTab.rd (by assumption) (by assumption) (by assumption) | exact GOutcome.rd (by assumption)) (by first | assumption | exact GPackage.rd (by assumption) (by assumption) (by assumption) (by assumption) | exact GTab.rd (by assumption) (by assumption) (by assumption) | exact GOutcome.rd (by assumption))) ?_)
      | (refine callP_eq (ev_sEqualPackages _ _ _ _ _ (by first | assumption | exact GPackage.rd (by assumption) (by assumption) (by assumption) (by assumption) | exact GTab.rd (by assumption) (by assumption) (by assumption) | exact GOutcome.rd (by assumption)) (by first | assumption | exact GPackage.rd (by assumption) (by assumption) (by assumption) (by assumption) | exact GTab.rd (by assumption) (by assumption) (by assumption) | exact GOutcome.rd (by assumption))) ?_)
      | refine callP_eq (ev_sEqGrants _ _ _ _ _ (by assumption) (by assumption)) ?_
      | refine callP_eq (ev_sEqRules _ _ _ _ _ (by assumption) (by assumption)) ?_
      | refine callP_eq (ev_sEqStores _ _ _ _ _ (by assumption) (by assumption)) ?_
      | (refine rd_lenm (by assumption) ?_; intro hml; rw [maxLen_eq] at hml)
      | refine rd_idxm (by assumption) (by intro _; rfl) (by constructor <;> omega) ?_
      | refine rd_loadf (by assumption) (by intro _; exact trivial) (by constructor <;> omega) ?_
      | (refine rd_loadm (f := GPackage.d) (by assumption) (by constructor <;> omega) ?_; intro _ hcs; obtain ⟨_, _, _, _, rfl, _, _, _, _⟩ := GPackage.inv hcs)
      | (refine rd_loadm (f := GTab.d) (by assumption) (by constructor <;> omega) ?_; intro _ hcs; obtain ⟨_, _, _, rfl, _, _, _⟩ := GTab.inv hcs)
      | refine needP_intro (by first | omega | (constructor <;> omega)) ?_
      | refine draw_intro 54 [.fl 0, .fl 1, .fl 2, .fl 3, .fl 4, .fl 5, .fl 6, .fl 7, .fl 8, .fl 9, .st 10 [], .fl 11] (by rfl) (by kernel_rfl) ?_
      | refine draw_intro 73 [.fl 0, .fl 1, .fl 2, .fl 3, .fl 4, .fl 5, .fl 6, .fl 7, .fl 8, .fl 9, .st 10 [], .fl 11] (by rfl) (by kernel_rfl) ?_
      | refine draw_intro 92 [.fl 0, .fl 1, .fl 2, .fl 3, .fl 4, .fl 5, .fl 6, .fl 7, .fl 8, .fl 9, .fl 10] (by rfl) (by kernel_rfl) ?_
      | refine And.intro ?_ ?_)
  all_goals try first
    | rfl
    | (rw [decide_eq_false (fun e => (by subst e; first | contradiction | omega))] <;> rfl)
  refine loop_intro {i : Nat // i ≤ x.Tabs.length ∧ (x.Tabs.drop i = y.Tabs.drop i ↔ x.Tabs = y.Tabs)} [4, 5, 47, 48, 49, 50, 51, 52, 53, 54, 55, 56, 57, 58, 59, 60, 61, 62, 63, 64, 65] (fun zb => [(5, .v (.s (.int .i64 zb.1)))]) (fun _ => S) (fun zb => x.Tabs.length - zb.1) ⟨0, Nat.zero_le _, by simp⟩ ?_ rfl ?_
  · (conv => whnf); repeat' (first | exact trivial | exact rfl | apply And.intro)
  rintro ⟨i, hi, hinv⟩; dsimp only
  repeat' ((conv => whnf) <;> first
      | rw [wrapI_i64 (by omega)]
      | refine condP_dec (fun _ => ?_) (fun _ => ?_)
      | refine condP_ndec (fun _ => ?_) (fun _ => ?_)
      | refine condP_true rfl ?_
      | refine condP_false rfl ?_
      | refine condP_not (fun _ => ?_) (fun _ => ?_)
      | refine condP_intro (fun _ => ?_) (fun _ => ?_)
      | (refine callP_eq (ev_sEqualTabs _ _ _ _ _ (by first | assumption | exact GPackage.rd (by assumption) (by assumption) (by assumption) (by assumption) | exact GTab.rd (by assumption) (by assumption) (by assumption) | exact GOutcome.rd (by assumption)) (by first | assumption | exact GPackage.rd (by assumption) (by assumption) (by assumption) (by assumption) | exact GTab.rd (by assumption) (by assumption) (by assumption) | exact GOutcome.rd (by assumption))) ?_)
      | (refine callP_eq (ev_sEqualPackages _ _ _ _ _ (by first | assumption | exact GPackage.rd (by assumption) (by assumption) (by assumption) (by assumption) | exact GTab.rd (by assumption) (by assumption) (by assumption) | exact GOutcome.rd (by assumption)) (by first | assumption | exact GPackage.rd (by assumption) (by assumption) (by assumption) (by assumption) | exact GTab.rd (by assumption) (by assumption) (by assumption) | exact GOutcome.rd (by assumption))) ?_)
      | refine callP_eq (ev_sEqGrants _ _ _ _ _ (by assumption) (by assumption)) ?_
      | refine callP_eq (ev_sEqRules _ _ _ _ _ (by assumption) (by assumption)) ?_
      | refine callP_eq (ev_sEqStores _ _ _ _ _ (by assumption) (by assumption)) ?_
      | (refine rd_lenm (by assumption) ?_; intro hml; rw [maxLen_eq] at hml)
      | refine rd_idxm (by assumption) (by intro _; rfl) (by constructor <;> omega) ?_
      | refine rd_loadf (by assumption) (by intro _; exact trivial) (by constructor <;> omega) ?_
      | (refine rd_loadm (f := GPackage.d) (by assumption) (by constructor <;> omega) ?_; intro _ hcs; obtain ⟨_, _, _, _, rfl, _, _, _, _⟩ := GPackage.inv hcs)
      | (refine rd_loadm (f := GTab.d) (by assumption) (by constructor <;> omega) ?_; intro _ hcs; obtain ⟨_, _, _, rfl, _, _, _⟩ := GTab.inv hcs)
      | refine needP_intro (by first | omega | (constructor <;> omega)) ?_
      | refine draw_intro 54 [.fl 0, .fl 1, .fl 2, .fl 3, .fl 4, .fl 5, .fl 6, .fl 7, .fl 8, .fl 9, .st 10 [], .fl 11] (by rfl) (by kernel_rfl) ?_
      | refine draw_intro 73 [.fl 0, .fl 1, .fl 2, .fl 3, .fl 4, .fl 5, .fl 6, .fl 7, .fl 8, .fl 9, .st 10 [], .fl 11] (by rfl) (by kernel_rfl) ?_
      | refine draw_intro 92 [.fl 0, .fl 1, .fl 2, .fl 3, .fl 4, .fl 5, .fl 6, .fl 7, .fl 8, .fl 9, .fl 10] (by rfl) (by kernel_rfl) ?_
      | refine And.intro ?_ ?_)
  all_goals try first
    | rfl
    | (exfalso; omega)
    | (have hlt : i < x.Tabs.length := by omega
       have hs := (eql_step hlt (by omega) hinv).2
       have hb : ¬ (x.Tabs[((i : Nat) : Int).toNat]'hlt = y.Tabs[((i : Nat) : Int).toNat]'(by omega)) := by first | assumption | exact of_decide_eq_false (by assumption)
       rw [decide_eq_false (fun e => hs hb (by rw [e]))] <;> rfl)
    | (have hlt : i < x.Tabs.length := by omega
       have hs := (eql_step hlt (by omega) hinv).1
       have hb : x.Tabs[((i : Nat) : Int).toNat]'hlt = y.Tabs[((i : Nat) : Int).toNat]'(by omega) := by first | assumption | exact of_decide_eq_true (by assumption)
       (refine ⟨⟨i + 1, by omega, hs hb⟩, ?_, rfl, by dsimp only; omega⟩; (conv => whnf); repeat' (first | exact trivial | exact rfl | apply And.intro)))
  have qTabs := eql_end (by omega) (by omega) hinv
  clear hinv hi
  refine loop_intro {i : Nat // i ≤ x.Packs.length ∧ (x.Packs.drop i = y.Packs.drop i ↔ x.Packs = y.Packs)} [4, 6, 66, 67, 68, 69, 70, 71, 72, 73, 74, 75, 76, 77, 78, 79, 80, 81, 82, 83, 84] (fun zb => [(6, .v (.s (.int .i64 zb.1)))]) (fun _ => S) (fun zb => x.Packs.length - zb.1) ⟨0, Nat.zero_le _, by simp⟩ ?_ rfl ?_
  · (conv => whnf); repeat' (first | exact trivial | exact rfl | apply And.intro)
  rintro ⟨i, hi, hinv⟩; dsimp only
  repeat' ((conv => whnf) <;> first
      | rw [wrapI_i64 (by omega)]
      | refine condP_dec (fun _ => ?_) (fun _ => ?_)
      | refine condP_ndec (fun _ => ?_) (fun _ => ?_)
      | refine condP_true rfl ?_
      | refine condP_false rfl ?_
      | refine condP_not (fun _ => ?_) (fun _ => ?_)
      | refine condP_intro (fun _ => ?_) (fun _ => ?_)
      | (refine callP_eq (ev_sEqualTabs _ _ _ _ _ (by first | assumption | exact GPackage.rd (by assumption) (by assumption) (by assumption) (by assumption) | exact GTab.rd (by assumption) (by assumption) (by assumption) | exact GOutcome.rd (by assumption)) (by first | assumption | exact GPackage.rd (by assumption) (by assumption) (by assumption) (by assumption) | exact GTab.rd (by assumption) (by assumption) (by assumption) | exact GOutcome.rd (by assumption))) ?_)
      | (refine callP_eq (ev_sEqualPackages _ _ _ _ _ (by first | assumption | exact GPackage.rd (by assumption) (by assumption) (by assumption) (by assumption) | exact GTab.rd (by assumption) (by assumption) (by assumption) | exact GOutcome.rd (by assumption)) (by first | assumption | exact GPackage.rd (by assumption) (by assumption) (by assumption) (by assumption) | exact GTab.rd (by assumption) (by assumption) (by assumption) | exact GOutcome.rd (by assumption))) ?_)
      | refine callP_eq (ev_sEqGrants _ _ _ _ _ (by assumption) (by assumption)) ?_
      | refine callP_eq (ev_sEqRules _ _ _ _ _ (by assumption) (by assumption)) ?_
      | refine callP_eq (ev_sEqStores _ _ _ _ _ (by assumption) (by assumption)) ?_
      | (refine rd_lenm (by assumption) ?_; intro hml; rw [maxLen_eq] at hml)
      | refine rd_idxm (by assumption) (by intro _; rfl) (by constructor <;> omega) ?_
      | refine rd_loadf (by assumption) (by intro _; exact trivial) (by constructor <;> omega) ?_
      | (refine rd_loadm (f := GPackage.d) (by assumption) (by constructor <;> omega) ?_; intro _ hcs; obtain ⟨_, _, _, _, rfl, _, _, _, _⟩ := GPackage.inv hcs)
      | (refine rd_loadm (f := GTab.d) (by assumption) (by constructor <;> omega) ?_; intro _ hcs; obtain ⟨_, _, _, rfl, _, _, _⟩ := GTab.inv hcs)
      | refine needP_intro (by first | omega | (constructor <;> omega)) ?_
      | refine draw_intro 54 [.fl 0, .fl 1, .fl 2, .fl 3, .fl 4, .fl 5, .fl 6, .fl 7, .fl 8, .fl 9, .st 10 [], .fl 11] (by rfl) (by kernel_rfl) ?_
      | refine draw_intro 73 [.fl 0, .fl 1, .fl 2, .fl 3, .fl 4, .fl 5, .fl 6, .fl 7, .fl 8, .fl 9, .st 10 [], .fl 11] (by rfl) (by kernel_rfl) ?_
      | refine draw_intro 92 [.fl 0, .fl 1, .fl 2, .fl 3, .fl 4, .fl 5, .fl 6, .fl 7, .fl 8, .fl 9, .fl 10] (by rfl) (by kernel_rfl) ?_
      | refine And.intro ?_ ?_)
  all_goals try first
    | rfl
    | (exfalso; omega)
    | (have hlt : i < x.Packs.length := by omega
       have hs := (eql_step hlt (by omega) hinv).2
       have hb : ¬ (x.Packs[((i : Nat) : Int).toNat]'hlt = y.Packs[((i : Nat) : Int).toNat]'(by omega)) := by first | assumption | exact of_decide_eq_false (by assumption)
       rw [decide_eq_false (fun e => hs hb (by rw [e]))] <;> rfl)
    | (have hlt : i < x.Packs.length := by omega
       have hs := (eql_step hlt (by omega) hinv).1
       have hb : x.Packs[((i : Nat) : Int).toNat]'hlt = y.Packs[((i : Nat) : Int).toNat]'(by omega) := by first | assumption | exact of_decide_eq_true (by assumption)
       (refine ⟨⟨i + 1, by omega, hs hb⟩, ?_, rfl, by dsimp only; omega⟩; (conv => whnf); repeat' (first | exact trivial | exact rfl | apply And.intro)))
  have qPacks := eql_end (by omega) (by omega) hinv
  clear hinv hi
  refine loop_intro {i : Nat // i ≤ x.Limits.length ∧ (x.Limits.drop i = y.Limits.drop i ↔ x.Limits = y.Limits)} [4, 7, 85, 86, 87, 88, 89, 90, 91, 92, 93, 94, 95, 96, 97, 98, 99, 100, 101, 102] (fun zb => [(7, .v (.s (.int .i64 zb.1)))]) (fun _ => S) (fun zb => x.Limits.length - zb.1) ⟨0, Nat.zero_le _, by simp⟩ ?_ rfl ?_
  · (conv => whnf); repeat' (first | exact trivial | exact rfl | apply And.intro)
  rintro ⟨i, hi, hinv⟩; dsimp only
  repeat' ((conv => whnf) <;> first
      | rw [wrapI_i64 (by omega)]
      | refine condP_dec (fun _ => ?_) (fun _ => ?_)
      | refine condP_ndec (fun _ => ?_) (fun _ => ?_)
      | refine condP_true rfl ?_
      | refine condP_false rfl ?_
      | refine condP_not (fun _ => ?_) (fun _ => ?_)
      | refine condP_intro (fun _ => ?_) (fun _ => ?_)
      | (refine callP_eq (ev_sEqualTabs _ _ _ _ _ (by first | assumption | exact GPackage.rd (by assumption) (by assumption) (by assumption) (by assumption) | exact GTab.rd (by assumption) (by assumption) (by assumption) | exact GOutcome.rd (by assumption)) (by first | assumption | exact GPackage.rd (by assumption) (by assumption) (by assumption) (by assumption) | exact GTab.rd (by assumption) (by assumption) (by assumption) | exact GOutcome.rd (by assumption))) ?_)
      | (refine callP_eq (ev_sEqualPackages _ _ _ _ _ (by first | assumption | exact GPackage.rd (by assumption) (by assumption) (by assumption) (by assumption) | exact GTab.rd (by assumption) (by assumption) (by assumption) | exact GOutcome.rd (by assumption)) (by first | assumption | exact GPackage.rd (by assumption) (by assumption) (by assumption) (by assumption) | exact GTab.rd (by assumption) (by assumption) (by assumption) | exact GOutcome.rd (by assumption))) ?_)
      | refine callP_eq (ev_sEqGrants _ _ _ _ _ (by assumption) (by assumption)) ?_
      | refine callP_eq (ev_sEqRules _ _ _ _ _ (by assumption) (by assumption)) ?_
      | refine callP_eq (ev_sEqStores _ _ _ _ _ (by assumption) (by assumption)) ?_
      | (refine rd_lenm (by assumption) ?_; intro hml; rw [maxLen_eq] at hml)
      | refine rd_idxm (by assumption) (by intro _; rfl) (by constructor <;> omega) ?_
      | refine rd_loadf (by assumption) (by intro _; exact trivial) (by constructor <;> omega) ?_
      | (refine rd_loadm (f := GPackage.d) (by assumption) (by constructor <;> omega) ?_; intro _ hcs; obtain ⟨_, _, _, _, rfl, _, _, _, _⟩ := GPackage.inv hcs)
      | (refine rd_loadm (f := GTab.d) (by assumption) (by constructor <;> omega) ?_; intro _ hcs; obtain ⟨_, _, _, rfl, _, _, _⟩ := GTab.inv hcs)
      | refine needP_intro (by first | omega | (constructor <;> omega)) ?_
      | refine draw_intro 54 [.fl 0, .fl 1, .fl 2, .fl 3, .fl 4, .fl 5, .fl 6, .fl 7, .fl 8, .fl 9, .st 10 [], .fl 11] (by rfl) (by kernel_rfl) ?_
      | refine draw_intro 73 [.fl 0, .fl 1, .fl 2, .fl 3, .fl 4, .fl 5, .fl 6, .fl 7, .fl 8, .fl 9, .st 10 [], .fl 11] (by rfl) (by kernel_rfl) ?_
      | refine draw_intro 92 [.fl 0, .fl 1, .fl 2, .fl 3, .fl 4, .fl 5, .fl 6, .fl 7, .fl 8, .fl 9, .fl 10] (by rfl) (by kernel_rfl) ?_
      | refine And.intro ?_ ?_)
  all_goals try first
    | rfl
    | (exfalso; omega)
    | (have hlt : i < x.Limits.length := by omega
       have hs := (eql_step hlt (by omega) hinv).2
       have hb : ¬ (x.Limits[((i : Nat) : Int).toNat]'hlt = y.Limits[((i : Nat) : Int).toNat]'(by omega)) := by first | assumption | exact of_decide_eq_false (by assumption) | exact of_decide_eq_false ((GLimit.eqb _ _).symm.trans (by assumption))
       rw [decide_eq_false (fun e => hs hb (by rw [e]))] <;> rfl)
    | (have hlt : i < x.Limits.length := by omega
       have hs := (eql_step hlt (by omega) hinv).1
       have hb : x.Limits[((i : Nat) : Int).toNat]'hlt = y.Limits[((i : Nat) : Int).toNat]'(by omega) := by first | assumption | exact of_decide_eq_true (by assumption) | exact of_decide_eq_true ((GLimit.eqb _ _).symm.trans (by assumption))
       (refine ⟨⟨i + 1, by omega, hs hb⟩, ?_, rfl, by dsimp only; omega⟩; (conv => whnf); repeat' (first | exact trivial | exact rfl | apply And.intro)))
  have qLimits := eql_end (by omega) (by omega) hinv
  clear hinv hi
  all_goals (rw [GBrowser.dec]; simp_all [resAV])
end Go.Proofs.Ytpnbkjinfphlkaa
