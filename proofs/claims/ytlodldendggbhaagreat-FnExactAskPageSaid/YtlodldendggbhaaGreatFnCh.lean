/- The laws' held.. functions. -/
import Derived.Test.YtlodldendggbhaaGreatAeO
import Derived.Test.YtlodldendggbhaaGreatFnA
namespace Go.Proofs.YtlodldendggbhaaGreat
open Go Go.ChangeShapes Go.WideShapes Go.ChangeAt Go.RowKit
set_option linter.unusedVariables false
set_option maxRecDepth 100000

theorem ev_heldSiteS (l : (List GSite)) (c : C) (k : Int) (S : Store) (h : Rd S [.sl 2 (mkE (l.map GSite.d) k)] [c]) (hk : 0 ≤ k ∧ k + (cntE (l.map GSite.d) : Int) ≤ 4611686018427387904) : EvA Tryz.prog 46 [.s c, .s (.int .i64 k)] S (fun r S' => r = .v (.s (.int .i64 (k + (cntE (l.map GSite.d) : Int)))) ∧ S' = S) := by
  refine evA_intro tok Tryz.func46 (by kernel_rfl) rfl ?_
  repeat' ((conv => whnf) <;> first
      | (refine mk_lenr (by assumption) ?_; intro hml)
      | rw [wrapI_i64 (by omega)]
      | refine condP_dec (fun _ => ?_) (fun _ => ?_)
      | refine condP_ndec (fun _ => ?_) (fun _ => ?_)
      | refine condP_true rfl ?_
      | refine condP_false rfl ?_
      | refine mk_idxr (by assumption) (by intro _; rfl) (by constructor <;> omega) ?_
      | refine condP_intro (fun _ => ?_) (fun _ => ?_)
      | refine needP_intro (by first | omega | (constructor <;> omega)) ?_
      | refine And.intro ?_ ?_)
  refine loop_intro {i : Nat // i ≤ l.length} [1, 4, 5, 6, 7, 8, 9, 10, 11, 12, 13, 14, 15, 16, 17, 18, 19, 20, 21, 22, 23, 24, 25, 26, 27, 28, 29] (fun zb => [(1, .v (.s (.int .i64 (k + (cntE ((l.take zb.1).map GSite.d) : Int))))), (5, .v (.s (.int .i64 zb.1)))]) (fun _ => S) (fun zb => l.length - zb.1) ⟨0, Nat.zero_le _⟩ ?_ rfl ?_
  · (conv => whnf); repeat' (first | exact trivial | exact rfl | (show _ = _; simp [cntE_nil]; done) | apply And.intro)
  rintro ⟨i, hi⟩; dsimp only
  replace hi : i ≤ l.length := hi
  have hcM := cntE_le (f := GSite.d) l i
  by_cases hlt : i < l.length
  · have hcT := cntE_take (f := GSite.d) hlt
    have hcL := cntE_le (f := GSite.d) l (i + 1)
    have hcD := GSite.cnt (l[i]'hlt)
    repeat' ((conv => whnf) <;> first
        | (refine mk_lenr (by assumption) ?_; intro hml)
        | rw [wrapI_i64 (by omega)]
        | refine condP_dec (fun _ => ?_) (fun _ => ?_)
        | refine condP_ndec (fun _ => ?_) (fun _ => ?_)
        | refine condP_true rfl ?_
        | refine condP_false rfl ?_
        | refine mk_idxr (by assumption) (by intro _; rfl) (by constructor <;> omega) ?_
        | (refine mk_ldf (g := GSite.m) (by assumption) GSite.mk' (by intro _; exact trivial) (by constructor <;> omega) ?_)
        | refine condP_intro (fun _ => ?_) (fun _ => ?_)
        | refine needP_intro (by first | omega | (constructor <;> omega)) ?_
        | refine And.intro ?_ ?_)
    all_goals first
      | (exfalso; omega)
      | (exfalso; exact absurd rfl ‹¬ _ = _›)
      | (refine ⟨⟨i + 1, by omega⟩, ?_, rfl, by dsimp only; omega⟩; (conv => whnf); repeat' (first | exact trivial | exact rfl | (show _ = _; congr 3; dsimp only; omega) | apply And.intro))
  · repeat' ((conv => whnf) <;> first
        | (refine mk_lenr (by assumption) ?_; intro hml)
        | rw [wrapI_i64 (by omega)]
        | refine condP_dec (fun _ => ?_) (fun _ => ?_)
        | refine condP_ndec (fun _ => ?_) (fun _ => ?_)
        | refine condP_true rfl ?_
        | refine condP_false rfl ?_
        | refine mk_idxr (by assumption) (by intro _; rfl) (by constructor <;> omega) ?_
        | refine condP_intro (fun _ => ?_) (fun _ => ?_)
        | refine needP_intro (by first | omega | (constructor <;> omega)) ?_
        | refine And.intro ?_ ?_)
    all_goals first
      | rfl
      | (exfalso; omega)
      | (show _ = _; rw [List.take_of_length_le (by omega)]; rfl)

theorem ev_heldOutcome (x : GOutcome) (cs : List C) (k : Int) (S : Store) (h : Rd S (mkT x.d k) cs) (hk : 0 ≤ k ∧ k + (cntT x.d : Int) ≤ 4611686018427387904) : EvA Tryz.prog 13 [.agg cs, .s (.int .i64 k)] S (fun r S' => r = .v (.s (.int .i64 (k + (cntT x.d : Int)))) ∧ S' = S) := by
  have hcT := GOutcome.cT x
  rw [GOutcome.mkT] at h
  obtain ⟨_, rfl, h_0⟩ := Rd.cons_x h; clear h
  obtain ⟨_, rfl, h_1⟩ := Rd.cons_x h_0; clear h_0
  obtain ⟨_, rfl, h_2⟩ := Rd.cons_x h_1; clear h_1
  obtain ⟨_, _, rfl, hq3, h_3⟩ := Rd.cons h_2; clear h_2
  obtain rfl := Rd.nil h_3
  refine evA_intro tok Tryz.func13 (by kernel_rfl) rfl ?_
  repeat' ((conv => whnf) <;> first
      | (refine mk_lenr (by assumption) ?_; intro hml)
      | rw [wrapI_i64 (by omega)]
      | refine condP_dec (fun _ => ?_) (fun _ => ?_)
      | refine condP_ndec (fun _ => ?_) (fun _ => ?_)
      | refine condP_true rfl ?_
      | refine condP_false rfl ?_
      | refine mk_idxr (by assumption) (by intro _; rfl) (by constructor <;> omega) ?_
      | (refine callP_eq (ev_heldSiteS _ _ _ _ (by assumption) (by omega)) ?_)
      | refine condP_intro (fun _ => ?_) (fun _ => ?_)
      | refine needP_intro (by first | omega | (constructor <;> omega)) ?_
      | refine And.intro ?_ ?_)
  all_goals first
    | rfl
    | (exfalso; omega)
    | (show _ = _; simp only [resAV]; congr 3 <;> omega)

end Go.Proofs.YtlodldendggbhaaGreat
