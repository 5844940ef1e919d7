/- The laws' held.. functions. -/
import Derived.Test.YtnflbebemjojfaaAeO
import Derived.Test.YtnflbebemjojfaaFnA
namespace Go.Proofs.Ytnflbebemjojfaa
open Go Go.ChangeShapes Go.WideShapes Go.ChangeAt Go.RowKit
set_option linter.unusedVariables false
set_option maxRecDepth 100000

theorem ev_heldIntS (l : (List Int)) (c : C) (k : Int) (S : Store) (h : Rd S [.sl 1 (mkE (l.map dInt) k)] [c]) (hk : 0 ≤ k ∧ k + (cntE (l.map dInt) : Int) ≤ 4611686018427387904) : EvA Try.prog 29 [.s c, .s (.int .i64 k)] S (fun r S' => r = .v (.s (.int .i64 (k + (cntE (l.map dInt) : Int)))) ∧ S' = S) := by
  refine evA_intro tok Try.func29 (by kernel_rfl) rfl ?_
  repeat' ((conv => whnf) <;> first
      | (refine mk_lenr (by assumption) ?_; intro hml)
      | rw [wrapI_i64 (by omega)]
      | refine condP_dec (fun _ => ?_) (fun _ => ?_)
      | refine condP_ndec (fun _ => ?_) (fun _ => ?_)
      | refine condP_true rfl ?_
      | refine condP_false rfl ?_
      | refine mk_idxr (by assumption) (by intro _; rfl) (by constructor <;> omega) ?_
      | refine condP_intro (fun _ => ?_) (fun _ => ?_)
      | refine needP_intro (by first | omega | (constructor <;> omega)) ?_
      | refine And.intro ?_ ?_)
  refine loop_intro {i : Nat // i ≤ l.length} [1, 4, 5, 6, 7, 8, 9, 10, 11, 12, 13, 14, 15, 16, 17, 18, 19] (fun zb => [(1, .v (.s (.int .i64 (k + (cntE ((l.take zb.1).map dInt) : Int))))), (5, .v (.s (.int .i64 zb.1)))]) (fun _ => S) (fun zb => l.length - zb.1) ⟨0, Nat.zero_le _⟩ ?_ rfl ?_
  · (conv => whnf); repeat' (first | exact trivial | exact rfl | (show _ = _; simp [cntE_nil]; done) | apply And.intro)
  rintro ⟨i, hi⟩; dsimp only
  replace hi : i ≤ l.length := hi
  have hcM := cntE_le (f := dInt) l i
  by_cases hlt : i < l.length
  · have hcT := cntE_take (f := dInt) hlt
    have hcL := cntE_le (f := dInt) l (i + 1)
    have hcD := int_cnt (l[i]'hlt)
    repeat' ((conv => whnf) <;> first
        | (refine mk_lenr (by assumption) ?_; intro hml)
        | rw [wrapI_i64 (by omega)]
        | refine condP_dec (fun _ => ?_) (fun _ => ?_)
        | refine condP_ndec (fun _ => ?_) (fun _ => ?_)
        | refine condP_true rfl ?_
        | refine condP_false rfl ?_
        | refine mk_idxr (by assumption) (by intro _; rfl) (by constructor <;> omega) ?_
        | (refine mk_ldf (g := int_m) (by assumption) int_mk (by intro _; exact trivial) (by constructor <;> omega) ?_)
        | refine condP_intro (fun _ => ?_) (fun _ => ?_)
        | refine needP_intro (by first | omega | (constructor <;> omega)) ?_
        | refine And.intro ?_ ?_)
    all_goals first
      | (exfalso; omega)
      | (exfalso; exact absurd rfl ‹¬ _ = _›)
      | (refine ⟨⟨i + 1, by omega⟩, ?_, rfl, by dsimp only; omega⟩; (conv => whnf); repeat' (first | exact trivial | exact rfl | (show _ = _; congr 3; dsimp only; omega) | apply And.intro))
  · repeat' ((conv => whnf) <;> first
        | (refine mk_lenr (by assumption) ?_; intro hml)
        | rw [wrapI_i64 (by omega)]
        | refine condP_dec (fun _ => ?_) (fun _ => ?_)
        | refine condP_ndec (fun _ => ?_) (fun _ => ?_)
        | refine condP_true rfl ?_
        | refine condP_false rfl ?_
        | refine mk_idxr (by assumption) (by intro _; rfl) (by constructor <;> omega) ?_
        | refine condP_intro (fun _ => ?_) (fun _ => ?_)
        | refine needP_intro (by first | omega | (constructor <;> omega)) ?_
        | refine And.intro ?_ ?_)
    all_goals first
      | rfl
      | (exfalso; omega)
      | (show _ = _; rw [List.take_of_length_le (by omega)]; rfl)

theorem ev_heldEditS (l : (List GEdit)) (c : C) (k : Int) (S : Store) (h : Rd S [.sl 6 (mkE (l.map GEdit.d) k)] [c]) (hk : 0 ≤ k ∧ k + (cntE (l.map GEdit.d) : Int) ≤ 4611686018427387904) : EvA Try.prog 28 [.s c, .s (.int .i64 k)] S (fun r S' => r = .v (.s (.int .i64 (k + (cntE (l.map GEdit.d) : Int)))) ∧ S' = S) := by
  refine evA_intro tok Try.func28 (by kernel_rfl) rfl ?_
  repeat' ((conv => whnf) <;> first
      | (refine mk_lenr (by assumption) ?_; intro hml)
      | rw [wrapI_i64 (by omega)]
      | refine condP_dec (fun _ => ?_) (fun _ => ?_)
      | refine condP_ndec (fun _ => ?_) (fun _ => ?_)
      | refine condP_true rfl ?_
      | refine condP_false rfl ?_
      | refine mk_idxr (by assumption) (by intro _; rfl) (by constructor <;> omega) ?_
      | refine condP_intro (fun _ => ?_) (fun _ => ?_)
      | refine needP_intro (by first | omega | (constructor <;> omega)) ?_
      | refine And.intro ?_ ?_)
  refine loop_intro {i : Nat // i ≤ l.length} [1, 4, 5, 6, 7, 8, 9, 10, 11, 12, 13, 14, 15, 16, 17, 18, 19, 20, 21, 22, 23, 24, 25, 26, 27, 28, 29, 30, 31, 32, 33, 34, 35, 36, 37, 38, 39, 40, 41, 42, 43, 44, 45, 46, 47, 48, 49, 50, 51, 52, 53, 54, 55, 56, 57, 58, 59, 60, 61, 62, 63, 64, 65] (fun zb => [(1, .v (.s (.int .i64 (k + (cntE ((l.take zb.1).map GEdit.d) : Int))))), (5, .v (.s (.int .i64 zb.1)))]) (fun _ => S) (fun zb => l.length - zb.1) ⟨0, Nat.zero_le _⟩ ?_ rfl ?_
  · (conv => whnf); repeat' (first | exact trivial | exact rfl | (show _ = _; simp [cntE_nil]; done) | apply And.intro)
  rintro ⟨i, hi⟩; dsimp only
  replace hi : i ≤ l.length := hi
  have hcM := cntE_le (f := GEdit.d) l i
  by_cases hlt : i < l.length
  · have hcT := cntE_take (f := GEdit.d) hlt
    have hcL := cntE_le (f := GEdit.d) l (i + 1)
    have hcD := GEdit.cnt (l[i]'hlt)
    repeat' ((conv => whnf) <;> first
        | (refine mk_lenr (by assumption) ?_; intro hml)
        | rw [wrapI_i64 (by omega)]
        | refine condP_dec (fun _ => ?_) (fun _ => ?_)
        | refine condP_ndec (fun _ => ?_) (fun _ => ?_)
        | refine condP_true rfl ?_
        | refine condP_false rfl ?_
        | refine mk_idxr (by assumption) (by intro _; rfl) (by constructor <;> omega) ?_
        | (refine mk_ldf (g := GEdit.m) (by assumption) GEdit.mk' (by intro _; exact trivial) (by constructor <;> omega) ?_)
        | refine condP_intro (fun _ => ?_) (fun _ => ?_)
        | refine needP_intro (by first | omega | (constructor <;> omega)) ?_
        | refine And.intro ?_ ?_)
    all_goals first
      | (exfalso; omega)
      | (exfalso; exact absurd rfl ‹¬ _ = _›)
      | (refine ⟨⟨i + 1, by omega⟩, ?_, rfl, by dsimp only; omega⟩; (conv => whnf); repeat' (first | exact trivial | exact rfl | (show _ = _; congr 3; dsimp only; omega) | apply And.intro))
  · repeat' ((conv => whnf) <;> first
        | (refine mk_lenr (by assumption) ?_; intro hml)
        | rw [wrapI_i64 (by omega)]
        | refine condP_dec (fun _ => ?_) (fun _ => ?_)
        | refine condP_ndec (fun _ => ?_) (fun _ => ?_)
        | refine condP_true rfl ?_
        | refine condP_false rfl ?_
        | refine mk_idxr (by assumption) (by intro _; rfl) (by constructor <;> omega) ?_
        | refine condP_intro (fun _ => ?_) (fun _ => ?_)
        | refine needP_intro (by first | omega | (constructor <;> omega)) ?_
        | refine And.intro ?_ ?_)
    all_goals first
      | rfl
      | (exfalso; omega)
      | (show _ = _; rw [List.take_of_length_le (by omega)]; rfl)

theorem ev_heldNodeS (l : (List GNode)) (c : C) (k : Int) (S : Store) (h : Rd S [.sl 5 (mkE (l.map GNode.d) k)] [c]) (hk : 0 ≤ k ∧ k + (cntE (l.map GNode.d) : Int) ≤ 4611686018427387904) : EvA Try.prog 27 [.s c, .s (.int .i64 k)] S (fun r S' => r = .v (.s (.int .i64 (k + (cntE (l.map GNode.d) : Int)))) ∧ S' = S) := by
  refine evA_intro tok Try.func27 (by kernel_rfl) rfl ?_
  repeat' ((conv => whnf) <;> first
      | (refine mk_lenr (by assumption) ?_; intro hml)
      | rw [wrapI_i64 (by omega)]
      | refine condP_dec (fun _ => ?_) (fun _ => ?_)
      | refine condP_ndec (fun _ => ?_) (fun _ => ?_)
      | refine condP_true rfl ?_
      | refine condP_false rfl ?_
      | refine mk_idxr (by assumption) (by intro _; rfl) (by constructor <;> omega) ?_
      | refine condP_intro (fun _ => ?_) (fun _ => ?_)
      | refine needP_intro (by first | omega | (constructor <;> omega)) ?_
      | refine And.intro ?_ ?_)
  refine loop_intro {i : Nat // i ≤ l.length} [1, 4, 5, 6, 7, 8, 9, 10, 11, 12, 13, 14, 15, 16, 17, 18, 19, 20, 21, 22, 23, 24, 25, 26, 27, 28, 29, 30, 31, 32, 33, 34, 35, 36, 37, 38, 39, 40, 41, 42, 43, 44, 45, 46, 47, 48, 49, 50, 51, 52, 53, 54, 55, 56] (fun zb => [(1, .v (.s (.int .i64 (k + (cntE ((l.take zb.1).map GNode.d) : Int))))), (5, .v (.s (.int .i64 zb.1)))]) (fun _ => S) (fun zb => l.length - zb.1) ⟨0, Nat.zero_le _⟩ ?_ rfl ?_
  · (conv => whnf); repeat' (first | exact trivial | exact rfl | (show _ = _; simp [cntE_nil]; done) | apply And.intro)
  rintro ⟨i, hi⟩; dsimp only
  replace hi : i ≤ l.length := hi
  have hcM := cntE_le (f := GNode.d) l i
  by_cases hlt : i < l.length
  · have hcT := cntE_take (f := GNode.d) hlt
    have hcL := cntE_le (f := GNode.d) l (i + 1)
    have hcD := GNode.cnt (l[i]'hlt)
    repeat' ((conv => whnf) <;> first
        | (refine mk_lenr (by assumption) ?_; intro hml)
        | rw [wrapI_i64 (by omega)]
        | refine condP_dec (fun _ => ?_) (fun _ => ?_)
        | refine condP_ndec (fun _ => ?_) (fun _ => ?_)
        | refine condP_true rfl ?_
        | refine condP_false rfl ?_
        | refine mk_idxr (by assumption) (by intro _; rfl) (by constructor <;> omega) ?_
        | (refine mk_ldf (g := GNode.m) (by assumption) GNode.mk' (by intro _; exact trivial) (by constructor <;> omega) ?_)
        | refine condP_intro (fun _ => ?_) (fun _ => ?_)
        | refine needP_intro (by first | omega | (constructor <;> omega)) ?_
        | refine And.intro ?_ ?_)
    all_goals first
      | (exfalso; omega)
      | (exfalso; exact absurd rfl ‹¬ _ = _›)
      | (refine ⟨⟨i + 1, by omega⟩, ?_, rfl, by dsimp only; omega⟩; (conv => whnf); repeat' (first | exact trivial | exact rfl | (show _ = _; congr 3; dsimp only; omega) | apply And.intro))
  · repeat' ((conv => whnf) <;> first
        | (refine mk_lenr (by assumption) ?_; intro hml)
        | rw [wrapI_i64 (by omega)]
        | refine condP_dec (fun _ => ?_) (fun _ => ?_)
        | refine condP_ndec (fun _ => ?_) (fun _ => ?_)
        | refine condP_true rfl ?_
        | refine condP_false rfl ?_
        | refine mk_idxr (by assumption) (by intro _; rfl) (by constructor <;> omega) ?_
        | refine condP_intro (fun _ => ?_) (fun _ => ?_)
        | refine needP_intro (by first | omega | (constructor <;> omega)) ?_
        | refine And.intro ?_ ?_)
    all_goals first
      | rfl
      | (exfalso; omega)
      | (show _ = _; rw [List.take_of_length_le (by omega)]; rfl)

theorem ev_heldTab (x : GTab) (cs : List C) (k : Int) (S : Store) (h : Rd S (mkT x.d k) cs) (hk : 0 ≤ k ∧ k + (cntT x.d : Int) ≤ 4611686018427387904) : EvA Try.prog 16 [.agg cs, .s (.int .i64 k)] S (fun r S' => r = .v (.s (.int .i64 (k + (cntT x.d : Int)))) ∧ S' = S) := by
  have hcT := GTab.cT x
  rw [GTab.mkT] at h
  obtain ⟨_, rfl, h_0⟩ := Rd.cons_x h; clear h
  obtain ⟨_, rfl, h_1⟩ := Rd.cons_x h_0; clear h_0
  obtain ⟨_, _, rfl, hq2, h_2⟩ := Rd.cons h_1; clear h_1
  obtain ⟨_, _, rfl, hq3, h_3⟩ := Rd.cons h_2; clear h_2
  obtain ⟨_, _, rfl, hq4, h_4⟩ := Rd.cons h_3; clear h_3
  obtain ⟨_, rfl, h_5⟩ := Rd.cons_x h_4; clear h_4
  obtain rfl := Rd.nil h_5
  refine evA_intro tok Try.func16 (by kernel_rfl) rfl ?_
  repeat' ((conv => whnf) <;> first
      | (refine mk_lenr (by assumption) ?_; intro hml)
      | rw [wrapI_i64 (by omega)]
      | refine condP_dec (fun _ => ?_) (fun _ => ?_)
      | refine condP_ndec (fun _ => ?_) (fun _ => ?_)
      | refine condP_true rfl ?_
      | refine condP_false rfl ?_
      | refine mk_idxr (by assumption) (by intro _; rfl) (by constructor <;> omega) ?_
      | (refine callP_eq (ev_heldNodeS _ _ _ _ (by assumption) (by omega)) ?_)
      | (refine callP_eq (ev_heldEditS _ _ _ _ (by assumption) (by omega)) ?_)
      | (refine callP_eq (ev_heldIntS _ _ _ _ (by assumption) (by omega)) ?_)
      | refine condP_intro (fun _ => ?_) (fun _ => ?_)
      | refine needP_intro (by first | omega | (constructor <;> omega)) ?_
      | refine And.intro ?_ ?_)
  all_goals first
    | rfl
    | (exfalso; omega)
    | (show _ = _; simp only [resAV]; congr 3 <;> omega)

end Go.Proofs.Ytnflbebemjojfaa
