/- The laws' held.. functions. -/
import Derived.Test.YtimbmhglengjcaaAeO
import Derived.Test.YtimbmhglengjcaaFnA
namespace Go.Proofs.Ytimbmhglengjcaa
open Go Go.ChangeShapes Go.WideShapes Go.ChangeAt Go.RowKit
set_option linter.unusedVariables false
set_option maxRecDepth 100000

theorem ev_heldFlowS (l : (List GFlow)) (c : C) (k : Int) (S : Store) (h : Rd S [.sl 3 (mkE (l.map GFlow.d) k)] [c]) (hk : 0 ≤ k ∧ k + (cntE (l.map GFlow.d) : Int) ≤ 4611686018427387904) : EvA Try.prog 20 [.s c, .s (.int .i64 k)] S (fun r S' => r = .v (.s (.int .i64 (k + (cntE (l.map GFlow.d) : Int)))) ∧ S' = S) := by
  refine evA_intro tok Try.func20 (by kernel_rfl) rfl ?_
  repeat' ((conv => whnf) <;> first
      | (refine mk_lenr (by assumption) ?_; intro hml)
      | rw [wrapI_i64 (by omega)]
      | refine condP_dec (fun _ => ?_) (fun _ => ?_)
      | refine condP_ndec (fun _ => ?_) (fun _ => ?_)
      | refine condP_true rfl ?_
      | refine condP_false rfl ?_
      | refine mk_idxr (by assumption) (by intro _; rfl) (by constructor <;> omega) ?_
      | refine condP_intro (fun _ => ?_) (fun _ => ?_)
      | refine needP_intro (by first | omega | (constructor <;> omega)) ?_
      | refine And.intro ?_ ?_)
  refine loop_intro {i : Nat // i ≤ l.length} [1, 4, 5, 6, 7, 8, 9, 10, 11, 12, 13, 14, 15, 16, 17, 18, 19, 20, 21, 22, 23, 24, 25, 26, 27, 28, 29, 30, 31, 32, 33, 34, 35, 36, 37, 38] (fun zb => [(1, .v (.s (.int .i64 (k + (cntE ((l.take zb.1).map GFlow.d) : Int))))), (5, .v (.s (.int .i64 zb.1)))]) (fun _ => S) (fun zb => l.length - zb.1) ⟨0, Nat.zero_le _⟩ ?_ rfl ?_
  · (conv => whnf); repeat' (first | exact trivial | exact rfl | (show _ = _; simp [cntE_nil]; done) | apply And.intro)
  rintro ⟨i, hi⟩; dsimp only
  replace hi : i ≤ l.length := hi
  have hcM := cntE_le (f := GFlow.d) l i
  by_cases hlt : i < l.length
  · have hcT := cntE_take (f := GFlow.d) hlt
    have hcL := cntE_le (f := GFlow.d) l (i + 1)
    have hcD := GFlow.cnt (l[i]'hlt)
    repeat' ((conv => whnf) <;> first
        | (refine mk_lenr (by assumption) ?_; intro hml)
        | rw [wrapI_i64 (by omega)]
        | refine condP_dec (fun _ => ?_) (fun _ => ?_)
        | refine condP_ndec (fun _ => ?_) (fun _ => ?_)
        | refine condP_true rfl ?_
        | refine condP_false rfl ?_
        | refine mk_idxr (by assumption) (by intro _; rfl) (by constructor <;> omega) ?_
        | (refine mk_ldf (g := GFlow.m) (by assumption) GFlow.mk' (by intro _; exact trivial) (by constructor <;> omega) ?_)
        | refine condP_intro (fun _ => ?_) (fun _ => ?_)
        | refine needP_intro (by first | omega | (constructor <;> omega)) ?_
        | refine And.intro ?_ ?_)
    all_goals first
      | (exfalso; omega)
      | (exfalso; exact absurd rfl ‹¬ _ = _›)
      | (refine ⟨⟨i + 1, by omega⟩, ?_, rfl, by dsimp only; omega⟩; (conv => whnf); repeat' (first | exact trivial | exact rfl | (show _ = _; congr 3; dsimp only; omega) | apply And.intro))
  · repeat' ((conv => whnf) <;> first
        | (refine mk_lenr (by assumption) ?_; intro hml)
        | rw [wrapI_i64 (by omega)]
        | refine condP_dec (fun _ => ?_) (fun _ => ?_)
        | refine condP_ndec (fun _ => ?_) (fun _ => ?_)
        | refine condP_true rfl ?_
        | refine condP_false rfl ?_
        | refine mk_idxr (by assumption) (by intro _; rfl) (by constructor <;> omega) ?_
        | refine condP_intro (fun _ => ?_) (fun _ => ?_)
        | refine needP_intro (by first | omega | (constructor <;> omega)) ?_
        | refine And.intro ?_ ?_)
    all_goals first
      | rfl
      | (exfalso; omega)
      | (show _ = _; rw [List.take_of_length_le (by omega)]; rfl)

theorem ev_heldOpS (l : (List GOp)) (c : C) (k : Int) (S : Store) (h : Rd S [.sl 4 (mkE (l.map GOp.d) k)] [c]) (hk : 0 ≤ k ∧ k + (cntE (l.map GOp.d) : Int) ≤ 4611686018427387904) : EvA Try.prog 22 [.s c, .s (.int .i64 k)] S (fun r S' => r = .v (.s (.int .i64 (k + (cntE (l.map GOp.d) : Int)))) ∧ S' = S) := by
  refine evA_intro tok Try.func22 (by kernel_rfl) rfl ?_
  repeat' ((conv => whnf) <;> first
      | (refine mk_lenr (by assumption) ?_; intro hml)
      | rw [wrapI_i64 (by omega)]
      | refine condP_dec (fun _ => ?_) (fun _ => ?_)
      | refine condP_ndec (fun _ => ?_) (fun _ => ?_)
      | refine condP_true rfl ?_
      | refine condP_false rfl ?_
      | refine mk_idxr (by assumption) (by intro _; rfl) (by constructor <;> omega) ?_
      | refine condP_intro (fun _ => ?_) (fun _ => ?_)
      | refine needP_intro (by first | omega | (constructor <;> omega)) ?_
      | refine And.intro ?_ ?_)
  refine loop_intro {i : Nat // i ≤ l.length} [1, 4, 5, 6, 7, 8, 9, 10, 11, 12, 13, 14, 15, 16, 17, 18, 19, 20, 21, 22, 23, 24, 25, 26, 27, 28, 29, 30, 31, 32, 33, 34, 35, 36, 37, 38, 39, 40, 41, 42, 43, 44, 45, 46, 47] (fun zb => [(1, .v (.s (.int .i64 (k + (cntE ((l.take zb.1).map GOp.d) : Int))))), (5, .v (.s (.int .i64 zb.1)))]) (fun _ => S) (fun zb => l.length - zb.1) ⟨0, Nat.zero_le _⟩ ?_ rfl ?_
  · (conv => whnf); repeat' (first | exact trivial | exact rfl | (show _ = _; simp [cntE_nil]; done) | apply And.intro)
  rintro ⟨i, hi⟩; dsimp only
  replace hi : i ≤ l.length := hi
  have hcM := cntE_le (f := GOp.d) l i
  by_cases hlt : i < l.length
  · have hcT := cntE_take (f := GOp.d) hlt
    have hcL := cntE_le (f := GOp.d) l (i + 1)
    have hcD := GOp.cnt (l[i]'hlt)
    repeat' ((conv => whnf) <;> first
        | (refine mk_lenr (by assumption) ?_; intro hml)
        | rw [wrapI_i64 (by omega)]
        | refine condP_dec (fun _ => ?_) (fun _ => ?_)
        | refine condP_ndec (fun _ => ?_) (fun _ => ?_)
        | refine condP_true rfl ?_
        | refine condP_false rfl ?_
        | refine mk_idxr (by assumption) (by intro _; rfl) (by constructor <;> omega) ?_
        | (refine mk_ldf (g := GOp.m) (by assumption) GOp.mk' (by intro _; exact trivial) (by constructor <;> omega) ?_)
        | refine condP_intro (fun _ => ?_) (fun _ => ?_)
        | refine needP_intro (by first | omega | (constructor <;> omega)) ?_
        | refine And.intro ?_ ?_)
    all_goals first
      | (exfalso; omega)
      | (exfalso; exact absurd rfl ‹¬ _ = _›)
      | (refine ⟨⟨i + 1, by omega⟩, ?_, rfl, by dsimp only; omega⟩; (conv => whnf); repeat' (first | exact trivial | exact rfl | (show _ = _; congr 3; dsimp only; omega) | apply And.intro))
  · repeat' ((conv => whnf) <;> first
        | (refine mk_lenr (by assumption) ?_; intro hml)
        | rw [wrapI_i64 (by omega)]
        | refine condP_dec (fun _ => ?_) (fun _ => ?_)
        | refine condP_ndec (fun _ => ?_) (fun _ => ?_)
        | refine condP_true rfl ?_
        | refine condP_false rfl ?_
        | refine mk_idxr (by assumption) (by intro _; rfl) (by constructor <;> omega) ?_
        | refine condP_intro (fun _ => ?_) (fun _ => ?_)
        | refine needP_intro (by first | omega | (constructor <;> omega)) ?_
        | refine And.intro ?_ ?_)
    all_goals first
      | rfl
      | (exfalso; omega)
      | (show _ = _; rw [List.take_of_length_le (by omega)]; rfl)

theorem ev_heldGrantS (l : (List GGrant)) (c : C) (k : Int) (S : Store) (h : Rd S [.sl 7 (mkE (l.map GGrant.d) k)] [c]) (hk : 0 ≤ k ∧ k + (cntE (l.map GGrant.d) : Int) ≤ 4611686018427387904) : EvA Try.prog 19 [.s c, .s (.int .i64 k)] S (fun r S' => r = .v (.s (.int .i64 (k + (cntE (l.map GGrant.d) : Int)))) ∧ S' = S) := by
  refine evA_intro tok Try.func19 (by kernel_rfl) rfl ?_
  repeat' ((conv => whnf) <;> first
      | (refine mk_lenr (by assumption) ?_; intro hml)
      | rw [wrapI_i64 (by omega)]
      | refine condP_dec (fun _ => ?_) (fun _ => ?_)
      | refine condP_ndec (fun _ => ?_) (fun _ => ?_)
      | refine condP_true rfl ?_
      | refine condP_false rfl ?_
      | refine mk_idxr (by assumption) (by intro _; rfl) (by constructor <;> omega) ?_
      | refine condP_intro (fun _ => ?_) (fun _ => ?_)
      | refine needP_intro (by first | omega | (constructor <;> omega)) ?_
      | refine And.intro ?_ ?_)
  refine loop_intro {i : Nat // i ≤ l.length} [1, 4, 5, 6, 7, 8, 9, 10, 11, 12, 13, 14, 15, 16, 17, 18, 19, 20, 21, 22, 23, 24, 25, 26, 27, 28, 29, 30, 31, 32, 33, 34, 35, 36, 37, 38, 39, 40, 41, 42, 43, 44, 45, 46, 47, 48, 49, 50, 51, 52, 53, 54, 55, 56, 57, 58, 59, 60, 61, 62, 63, 64, 65, 66, 67, 68, 69, 70, 71, 72, 73, 74, 75, 76, 77, 78] (fun zb => [(1, .v (.s (.int .i64 (k + (cntE ((l.take zb.1).map GGrant.d) : Int))))), (5, .v (.s (.int .i64 zb.1)))]) (fun _ => S) (fun zb => l.length - zb.1) ⟨0, Nat.zero_le _⟩ ?_ rfl ?_
  · (conv => whnf); repeat' (first | exact trivial | exact rfl | (show _ = _; simp [cntE_nil]; done) | apply And.intro)
  rintro ⟨i, hi⟩; dsimp only
  replace hi : i ≤ l.length := hi
  have hcM := cntE_le (f := GGrant.d) l i
  by_cases hlt : i < l.length
  · have hcT := cntE_take (f := GGrant.d) hlt
    have hcL := cntE_le (f := GGrant.d) l (i + 1)
    have hcD := GGrant.cnt (l[i]'hlt)
    repeat' ((conv => whnf) <;> first
        | (refine mk_lenr (by assumption) ?_; intro hml)
        | rw [wrapI_i64 (by omega)]
        | refine condP_dec (fun _ => ?_) (fun _ => ?_)
        | refine condP_ndec (fun _ => ?_) (fun _ => ?_)
        | refine condP_true rfl ?_
        | refine condP_false rfl ?_
        | refine mk_idxr (by assumption) (by intro _; rfl) (by constructor <;> omega) ?_
        | (refine mk_ldf (g := GGrant.m) (by assumption) GGrant.mk' (by intro _; exact trivial) (by constructor <;> omega) ?_)
        | refine condP_intro (fun _ => ?_) (fun _ => ?_)
        | refine needP_intro (by first | omega | (constructor <;> omega)) ?_
        | refine And.intro ?_ ?_)
    all_goals first
      | (exfalso; omega)
      | (exfalso; exact absurd rfl ‹¬ _ = _›)
      | (refine ⟨⟨i + 1, by omega⟩, ?_, rfl, by dsimp only; omega⟩; (conv => whnf); repeat' (first | exact trivial | exact rfl | (show _ = _; congr 3; dsimp only; omega) | apply And.intro))
  · repeat' ((conv => whnf) <;> first
        | (refine mk_lenr (by assumption) ?_; intro hml)
        | rw [wrapI_i64 (by omega)]
        | refine condP_dec (fun _ => ?_) (fun _ => ?_)
        | refine condP_ndec (fun _ => ?_) (fun _ => ?_)
        | refine condP_true rfl ?_
        | refine condP_false rfl ?_
        | refine mk_idxr (by assumption) (by intro _; rfl) (by constructor <;> omega) ?_
        | refine condP_intro (fun _ => ?_) (fun _ => ?_)
        | refine needP_intro (by first | omega | (constructor <;> omega)) ?_
        | refine And.intro ?_ ?_)
    all_goals first
      | rfl
      | (exfalso; omega)
      | (show _ = _; rw [List.take_of_length_le (by omega)]; rfl)

theorem ev_heldRuleS (l : (List GRule)) (c : C) (k : Int) (S : Store) (h : Rd S [.sl 8 (mkE (l.map GRule.d) k)] [c]) (hk : 0 ≤ k ∧ k + (cntE (l.map GRule.d) : Int) ≤ 4611686018427387904) : EvA Try.prog 21 [.s c, .s (.int .i64 k)] S (fun r S' => r = .v (.s (.int .i64 (k + (cntE (l.map GRule.d) : Int)))) ∧ S' = S) := by
  refine evA_intro tok Try.func21 (by kernel_rfl) rfl ?_
  repeat' ((conv => whnf) <;> first
      | (refine mk_lenr (by assumption) ?_; intro hml)
      | rw [wrapI_i64 (by omega)]
      | refine condP_dec (fun _ => ?_) (fun _ => ?_)
      | refine condP_ndec (fun _ => ?_) (fun _ => ?_)
      | refine condP_true rfl ?_
      | refine condP_false rfl ?_
      | refine mk_idxr (by assumption) (by intro _; rfl) (by constructor <;> omega) ?_
      | refine condP_intro (fun _ => ?_) (fun _ => ?_)
      | refine needP_intro (by first | omega | (constructor <;> omega)) ?_
      | refine And.intro ?_ ?_)
  refine loop_intro {i : Nat // i ≤ l.length} [1, 4, 5, 6, 7, 8, 9, 10, 11, 12, 13, 14, 15, 16, 17, 18, 19, 20, 21, 22, 23, 24, 25, 26, 27, 28, 29, 30, 31, 32, 33, 34, 35, 36, 37, 38, 39, 40, 41, 42, 43, 44, 45, 46, 47, 48, 49, 50, 51, 52, 53, 54, 55, 56, 57, 58, 59, 60, 61, 62, 63, 64, 65, 66, 67, 68, 69, 70, 71, 72, 73, 74, 75, 76, 77, 78, 79, 80, 81, 82, 83, 84, 85, 86, 87] (fun zb => [(1, .v (.s (.int .i64 (k + (cntE ((l.take zb.1).map GRule.d) : Int))))), (5, .v (.s (.int .i64 zb.1)))]) (fun _ => S) (fun zb => l.length - zb.1) ⟨0, Nat.zero_le _⟩ ?_ rfl ?_
  · (conv => whnf); repeat' (first | exact trivial | exact rfl | (show _ = _; simp [cntE_nil]; done) | apply And.intro)
  rintro ⟨i, hi⟩; dsimp only
  replace hi : i ≤ l.length := hi
  have hcM := cntE_le (f := GRule.d) l i
  by_cases hlt : i < l.length
  · have hcT := cntE_take (f := GRule.d) hlt
    have hcL := cntE_le (f := GRule.d) l (i + 1)
    have hcD := GRule.cnt (l[i]'hlt)
    repeat' ((conv => whnf) <;> first
        | (refine mk_lenr (by assumption) ?_; intro hml)
        | rw [wrapI_i64 (by omega)]
        | refine condP_dec (fun _ => ?_) (fun _ => ?_)
        | refine condP_ndec (fun _ => ?_) (fun _ => ?_)
        | refine condP_true rfl ?_
        | refine condP_false rfl ?_
        | refine mk_idxr (by assumption) (by intro _; rfl) (by constructor <;> omega) ?_
        | (refine mk_ldf (g := GRule.m) (by assumption) GRule.mk' (by intro _; exact trivial) (by constructor <;> omega) ?_)
        | refine condP_intro (fun _ => ?_) (fun _ => ?_)
        | refine needP_intro (by first | omega | (constructor <;> omega)) ?_
        | refine And.intro ?_ ?_)
    all_goals first
      | (exfalso; omega)
      | (exfalso; exact absurd rfl ‹¬ _ = _›)
      | (refine ⟨⟨i + 1, by omega⟩, ?_, rfl, by dsimp only; omega⟩; (conv => whnf); repeat' (first | exact trivial | exact rfl | (show _ = _; congr 3; dsimp only; omega) | apply And.intro))
  · repeat' ((conv => whnf) <;> first
        | (refine mk_lenr (by assumption) ?_; intro hml)
        | rw [wrapI_i64 (by omega)]
        | refine condP_dec (fun _ => ?_) (fun _ => ?_)
        | refine condP_ndec (fun _ => ?_) (fun _ => ?_)
        | refine condP_true rfl ?_
        | refine condP_false rfl ?_
        | refine mk_idxr (by assumption) (by intro _; rfl) (by constructor <;> omega) ?_
        | refine condP_intro (fun _ => ?_) (fun _ => ?_)
        | refine needP_intro (by first | omega | (constructor <;> omega)) ?_
        | refine And.intro ?_ ?_)
    all_goals first
      | rfl
      | (exfalso; omega)
      | (show _ = _; rw [List.take_of_length_le (by omega)]; rfl)

theorem ev_heldPackage (x : GPackage) (cs : List C) (k : Int) (S : Store) (h : Rd S (mkT x.d k) cs) (hk : 0 ≤ k ∧ k + (cntT x.d : Int) ≤ 4611686018427387904) : EvA Try.prog 8 [.agg cs, .s (.int .i64 k)] S (fun r S' => r = .v (.s (.int .i64 (k + (cntT x.d : Int)))) ∧ S' = S) := by
  have hcT := GPackage.cT x
  rw [GPackage.mkT] at h
  obtain ⟨_, rfl, h_0⟩ := Rd.cons_x h; clear h
  obtain ⟨_, rfl, h_1⟩ := Rd.cons_x h_0; clear h_0
  obtain ⟨_, rfl, h_2⟩ := Rd.cons_x h_1; clear h_1
  obtain ⟨_, _, rfl, hq3, h_3⟩ := Rd.cons h_2; clear h_2
  obtain ⟨_, _, rfl, hq4, h_4⟩ := Rd.cons h_3; clear h_3
  obtain ⟨_, _, rfl, hq5, h_5⟩ := Rd.cons h_4; clear h_4
  obtain ⟨_, _, rfl, hq6, h_6⟩ := Rd.cons h_5; clear h_5
  obtain ⟨_, rfl, h_7⟩ := Rd.cons_x h_6; clear h_6
  obtain rfl := Rd.nil h_7
  refine evA_intro tok Try.func8 (by kernel_rfl) rfl ?_
  repeat' ((conv => whnf) <;> first
      | (refine mk_lenr (by assumption) ?_; intro hml)
      | rw [wrapI_i64 (by omega)]
      | refine condP_dec (fun _ => ?_) (fun _ => ?_)
      | refine condP_ndec (fun _ => ?_) (fun _ => ?_)
      | refine condP_true rfl ?_
      | refine condP_false rfl ?_
      | refine mk_idxr (by assumption) (by intro _; rfl) (by constructor <;> omega) ?_
      | (refine callP_eq (ev_heldGrantS _ _ _ _ (by assumption) (by omega)) ?_)
      | (refine callP_eq (ev_heldFlowS _ _ _ _ (by assumption) (by omega)) ?_)
      | (refine callP_eq (ev_heldRuleS _ _ _ _ (by assumption) (by omega)) ?_)
      | (refine callP_eq (ev_heldOpS _ _ _ _ (by assumption) (by omega)) ?_)
      | refine condP_intro (fun _ => ?_) (fun _ => ?_)
      | refine needP_intro (by first | omega | (constructor <;> omega)) ?_
      | refine And.intro ?_ ?_)
  all_goals first
    | rfl
    | (exfalso; omega)
    | (show _ = _; simp only [resAV]; congr 3 <;> omega)

end Go.Proofs.Ytimbmhglengjcaa
