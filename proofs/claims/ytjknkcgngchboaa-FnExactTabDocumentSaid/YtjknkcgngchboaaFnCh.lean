/- The laws' held.. functions. -/
import Derived.Test.YtjknkcgngchboaaAeO
import Derived.Test.YtjknkcgngchboaaFnA
namespace Go.Proofs.Ytjknkcgngchboaa
open Go Go.ChangeShapes Go.WideShapes Go.ChangeAt Go.RowKit
set_option linter.unusedVariables false
set_option maxRecDepth 100000

theorem ev_heldNodeS (l : (List GNode)) (c : C) (k : Int) (S : Store) (h : Rd S [.sl 5 (mkE (l.map GNode.d) k)] [c]) (hk : 0 ≤ k ∧ k + (cntE (l.map GNode.d) : Int) ≤ 4611686018427387904) : EvA Try.prog 12 [.s c, .s (.int .i64 k)] S (fun r S' => r = .v (.s (.int .i64 (k + (cntE (l.map GNode.d) : Int)))) ∧ S' = S) := by
  refine evA_intro tok Try.func12 (by kernel_rfl) rfl ?_
  repeat' ((conv => whnf) <;> first
      | (refine mk_lenr (by assumption) ?_; intro hml)
      | rw [wrapI_i64 (by omega)]
      | refine condP_dec (fun _ => ?_) (fun _ => ?_)
      | refine condP_ndec (fun _ => ?_) (fun _ => ?_)
      | refine condP_true rfl ?_
      | refine condP_false rfl ?_
      | refine mk_idxr (by assumption) (by intro _; rfl) (by constructor <;> omega) ?_
      | refine condP_intro (fun _ => ?_) (fun _ => ?_)
      | refine needP_intro (by first | omega | (constructor <;> omega) | fail) ?_
      | refine And.intro ?_ ?_)
  refine loop_intro {i : Nat // i ≤ l.length} [1, 4, 5, 6, 7, 8, 9, 10, 11, 12, 13, 14, 15, 16, 17, 18, 19, 20, 21, 22, 23, 24, 25, 26, 27, 28, 29, 30, 31, 32, 33, 34, 35, 36, 37, 38, 39, 40, 41, 42, 43, 44, 45, 46, 47, 48, 49, 50, 51, 52, 53, 54, 55, 56] (fun zb => [(1, .v (.s (.int .i64 (k + (cntE ((l.take zb.1).map GNode.d) : Int))))), (5, .v (.s (.int .i64 zb.1)))]) (fun _ => S) (fun zb => l.length - zb.1) ⟨0, Nat.zero_le _⟩ ?_ rfl ?_
  · (conv => whnf); repeat' (first | exact trivial | exact rfl | (show _ = _; simp [cntE_nil]; done) | apply And.intro)
  rintro ⟨i, hi⟩; dsimp only
  replace hi : i ≤ l.length := hi
  have hcM := cntE_le (f := GNode.d) l i
  by_cases hlt : i < l.length
  · have hcT := cntE_take (f := GNode.d) hlt
    have hcL := cntE_le (f := GNode.d) l (i + 1)
    have hcD := GNode.cnt (l[i]'hlt)
    repeat' ((conv => whnf) <;> first
        | (refine mk_lenr (by assumption) ?_; intro hml)
        | rw [wrapI_i64 (by omega)]
        | refine condP_dec (fun _ => ?_) (fun _ => ?_)
        | refine condP_ndec (fun _ => ?_) (fun _ => ?_)
        | refine condP_true rfl ?_
        | refine condP_false rfl ?_
        | refine mk_idxr (by assumption) (by intro _; rfl) (by constructor <;> omega) ?_
        | (refine mk_ldf (g := GNode.m) (by assumption) GNode.mk' (by intro _; exact trivial) (by constructor <;> omega) ?_)
        | refine condP_intro (fun _ => ?_) (fun _ => ?_)
        | refine needP_intro (by first | omega | (constructor <;> omega) | fail) ?_
        | refine And.intro ?_ ?_)
    all_goals first
      | (exfalso; omega)
      | (exfalso; exact absurd rfl ‹¬ _ = _›)
      | (refine ⟨⟨i + 1, by omega⟩, ?_, rfl, by dsimp only; omega⟩; (conv => whnf); repeat' (first | exact trivial | exact rfl | (show _ = _; congr 3; dsimp only; omega) | apply And.intro))
  · repeat' ((conv => whnf) <;> first
        | (refine mk_lenr (by assumption) ?_; intro hml)
        | rw [wrapI_i64 (by omega)]
        | refine condP_dec (fun _ => ?_) (fun _ => ?_)
        | refine condP_ndec (fun _ => ?_) (fun _ => ?_)
        | refine condP_true rfl ?_
        | refine condP_false rfl ?_
        | refine mk_idxr (by assumption) (by intro _; rfl) (by constructor <;> omega) ?_
        | refine condP_intro (fun _ => ?_) (fun _ => ?_)
        | refine needP_intro (by first | omega | (constructor <;> omega) | fail) ?_
        | refine And.intro ?_ ?_)
    all_goals first
      | rfl
      | (exfalso; omega)
      | (show _ = _; rw [List.take_of_length_le (by omega)]; rfl)

end Go.Proofs.Ytjknkcgngchboaa
