/- The laws' held.. functions. -/
import Derived.Test.YtibglkkmjigooaaGreatAeO
import Derived.Test.YtibglkkmjigooaaGreatAeM
namespace Go.Proofs.YtibglkkmjigooaaGreat
open Go Go.ChangeShapes Go.WideShapes Go.ChangeAt Go.RowKit
set_option linter.unusedVariables false
set_option linter.unusedSimpArgs false
set_option maxRecDepth 100000
theorem ev_heldIntS (l : (List Int)) (c : C) (k : Int) (S : Store) (h : Rd S [.sl 1 (mkE (l.map dInt) k)] [c]) (hk : 0 ≤ k ∧ k + (cntE (l.map dInt) : Int) ≤ 4611686018427387904) : EvA Tryz.prog 117 [.s c, .s (.int .i64 k)] S (fun r S' => r = .v (.s (.int .i64 (k + (cntE (l.map dInt) : Int)))) ∧ S' = S) := by
  refine evA_intro tok Tryz.func117 (by kernel_rfl) rfl ?_
  skip
  refine loop_intro {i : Nat // i ≤ l.length} [1, 4, 5, 6, 7, 8, 9, 10, 11, 12, 13, 14, 15, 16, 17, 18, 19] (fun zb => [(1, .v (.s (.int .i64 (k + (cntE ((l.take zb.1).map dInt) : Int))))), (5, .v (.s (.int .i64 zb.1)))]) (fun _ => S) (fun zb => l.length - zb.1) ⟨0, Nat.zero_le _⟩ ?_ rfl ?_
  · (conv => whnf); repeat' (first | exact trivial | exact rfl | (show _ = _; simp [cntE_nil]; done) | apply And.intro)
  rintro ⟨i, hi⟩; dsimp only
  replace hi : i ≤ l.length := hi
  have hcM := cntE_le (f := dInt) l i
  by_cases hlt : i < l.length
  · have hcT := cntE_take (f := dInt) hlt
    have hcL := cntE_le (f := dInt) l (i + 1)
    have hcD := int_cnt (l[i]'hlt)
    repeat' ((conv => whnf) <;> first
     | (refine mk_lenr aN ?_; intro hml) | rw [wrapI_i64 (by omega)] | refine cD (fun _ => ?_) fun _ => ?_ | refine cE (fun _ => ?_) fun _ => ?_ | refine mk_idxr aN rf ix ?_ | (refine mk_ldf (g := int_m) aN int_mk tv ix ?_) | refine And.intro ?_ ?_)
    all_goals first
      | (exfalso; omega)
      | (exfalso; exact absurd rfl ‹¬ _ = _›)
      | (refine ⟨⟨i + 1, by omega⟩, ?_, rfl, by dsimp only; omega⟩; (conv => whnf); repeat' (first | exact trivial | exact rfl | (show _ = _; congr 3; dsimp only; omega) | apply And.intro))
  · repeat' ((conv => whnf) <;> first
     | (refine mk_lenr aN ?_; intro hml) | refine cD (fun _ => ?_) fun _ => ?_ | refine mk_idxr aN rf ix ?_ | refine And.intro ?_ ?_)
    all_goals first
      | rfl
      | (exfalso; omega)
      | (show _ = _; rw [List.take_of_length_le (by omega)]; rfl)
theorem ev_heldEditS (l : (List GEdit)) (c : C) (k : Int) (S : Store) (h : Rd S [.sl 6 (mkE (l.map GEdit.d) k)] [c]) (hk : 0 ≤ k ∧ k + (cntE (l.map GEdit.d) : Int) ≤ 4611686018427387904) : EvA Tryz.prog 116 [.s c, .s (.int .i64 k)] S (fun r S' => r = .v (.s (.int .i64 (k + (cntE (l.map GEdit.d) : Int)))) ∧ S' = S) := by
  refine evA_intro tok Tryz.func116 (by kernel_rfl) rfl ?_
  skip
  refine loop_intro {i : Nat // i ≤ l.length} [1, 4, 5, 6, 7, 8, 9, 10, 11, 12, 13, 14, 15, 16, 17, 18, 19, 20, 21, 22, 23, 24, 25, 26, 27, 28, 29, 30, 31, 32, 33, 34, 35, 36, 37, 38, 39, 40, 41, 42, 43, 44, 45, 46, 47, 48, 49, 50, 51, 52, 53, 54, 55, 56, 57, 58, 59, 60, 61, 62, 63, 64, 65] (fun zb => [(1, .v (.s (.int .i64 (k + (cntE ((l.take zb.1).map GEdit.d) : Int))))), (5, .v (.s (.int .i64 zb.1)))]) (fun _ => S) (fun zb => l.length - zb.1) ⟨0, Nat.zero_le _⟩ ?_ rfl ?_
  · (conv => whnf); repeat' (first | exact trivial | exact rfl | (show _ = _; simp [cntE_nil]; done) | apply And.intro)
  rintro ⟨i, hi⟩; dsimp only
  replace hi : i ≤ l.length := hi
  have hcM := cntE_le (f := GEdit.d) l i
  by_cases hlt : i < l.length
  · have hcT := cntE_take (f := GEdit.d) hlt
    have hcL := cntE_le (f := GEdit.d) l (i + 1)
    have hcD := GEdit.cnt (l[i]'hlt)
    repeat' ((conv => whnf) <;> first
     | (refine mk_lenr aN ?_; intro hml) | rw [wrapI_i64 (by omega)] | refine cD (fun _ => ?_) fun _ => ?_ | refine cE (fun _ => ?_) fun _ => ?_ | refine mk_idxr aN rf ix ?_ | (refine mk_ldf (g := GEdit.m) aN GEdit.mk' tv ix ?_) | refine And.intro ?_ ?_)
    all_goals first
      | (exfalso; omega)
      | (exfalso; exact absurd rfl ‹¬ _ = _›)
      | (refine ⟨⟨i + 1, by omega⟩, ?_, rfl, by dsimp only; omega⟩; (conv => whnf); repeat' (first | exact trivial | exact rfl | (show _ = _; congr 3; dsimp only; omega) | apply And.intro))
  · repeat' ((conv => whnf) <;> first
     | (refine mk_lenr aN ?_; intro hml) | refine cD (fun _ => ?_) fun _ => ?_ | refine mk_idxr aN rf ix ?_ | refine And.intro ?_ ?_)
    all_goals first
      | rfl
      | (exfalso; omega)
      | (show _ = _; rw [List.take_of_length_le (by omega)]; rfl)
theorem ev_heldFlowS (l : (List GFlow)) (c : C) (k : Int) (S : Store) (h : Rd S [.sl 3 (mkE (l.map GFlow.d) k)] [c]) (hk : 0 ≤ k ∧ k + (cntE (l.map GFlow.d) : Int) ≤ 4611686018427387904) : EvA Tryz.prog 118 [.s c, .s (.int .i64 k)] S (fun r S' => r = .v (.s (.int .i64 (k + (cntE (l.map GFlow.d) : Int)))) ∧ S' = S) := by
  refine evA_intro tok Tryz.func118 (by kernel_rfl) rfl ?_
  skip
  refine loop_intro {i : Nat // i ≤ l.length} [1, 4, 5, 6, 7, 8, 9, 10, 11, 12, 13, 14, 15, 16, 17, 18, 19, 20, 21, 22, 23, 24, 25, 26, 27, 28, 29, 30, 31, 32, 33, 34, 35, 36, 37, 38] (fun zb => [(1, .v (.s (.int .i64 (k + (cntE ((l.take zb.1).map GFlow.d) : Int))))), (5, .v (.s (.int .i64 zb.1)))]) (fun _ => S) (fun zb => l.length - zb.1) ⟨0, Nat.zero_le _⟩ ?_ rfl ?_
  · (conv => whnf); repeat' (first | exact trivial | exact rfl | (show _ = _; simp [cntE_nil]; done) | apply And.intro)
  rintro ⟨i, hi⟩; dsimp only
  replace hi : i ≤ l.length := hi
  have hcM := cntE_le (f := GFlow.d) l i
  by_cases hlt : i < l.length
  · have hcT := cntE_take (f := GFlow.d) hlt
    have hcL := cntE_le (f := GFlow.d) l (i + 1)
    have hcD := GFlow.cnt (l[i]'hlt)
    repeat' ((conv => whnf) <;> first
     | (refine mk_lenr aN ?_; intro hml) | rw [wrapI_i64 (by omega)] | refine cD (fun _ => ?_) fun _ => ?_ | refine cE (fun _ => ?_) fun _ => ?_ | refine mk_idxr aN rf ix ?_ | (refine mk_ldf (g := GFlow.m) aN GFlow.mk' tv ix ?_) | refine And.intro ?_ ?_)
    all_goals first
      | (exfalso; omega)
      | (exfalso; exact absurd rfl ‹¬ _ = _›)
      | (refine ⟨⟨i + 1, by omega⟩, ?_, rfl, by dsimp only; omega⟩; (conv => whnf); repeat' (first | exact trivial | exact rfl | (show _ = _; congr 3; dsimp only; omega) | apply And.intro))
  · repeat' ((conv => whnf) <;> first
     | (refine mk_lenr aN ?_; intro hml) | refine cD (fun _ => ?_) fun _ => ?_ | refine mk_idxr aN rf ix ?_ | refine And.intro ?_ ?_)
    all_goals first
      | rfl
      | (exfalso; omega)
      | (show _ = _; rw [List.take_of_length_le (by omega)]; rfl)
theorem ev_heldNodeS (l : (List GNode)) (c : C) (k : Int) (S : Store) (h : Rd S [.sl 5 (mkE (l.map GNode.d) k)] [c]) (hk : 0 ≤ k ∧ k + (cntE (l.map GNode.d) : Int) ≤ 4611686018427387904) : EvA Tryz.prog 115 [.s c, .s (.int .i64 k)] S (fun r S' => r = .v (.s (.int .i64 (k + (cntE (l.map GNode.d) : Int)))) ∧ S' = S) := by
  refine evA_intro tok Tryz.func115 (by kernel_rfl) rfl ?_
  skip
  refine loop_intro {i : Nat // i ≤ l.length} [1, 4, 5, 6, 7, 8, 9, 10, 11, 12, 13, 14, 15, 16, 17, 18, 19, 20, 21, 22, 23, 24, 25, 26, 27, 28, 29, 30, 31, 32, 33, 34, 35, 36, 37, 38, 39, 40, 41, 42, 43, 44, 45, 46, 47, 48, 49, 50, 51, 52, 53, 54, 55, 56] (fun zb => [(1, .v (.s (.int .i64 (k + (cntE ((l.take zb.1).map GNode.d) : Int))))), (5, .v (.s (.int .i64 zb.1)))]) (fun _ => S) (fun zb => l.length - zb.1) ⟨0, Nat.zero_le _⟩ ?_ rfl ?_
  · (conv => whnf); repeat' (first | exact trivial | exact rfl | (show _ = _; simp [cntE_nil]; done) | apply And.intro)
  rintro ⟨i, hi⟩; dsimp only
  replace hi : i ≤ l.length := hi
  have hcM := cntE_le (f := GNode.d) l i
  by_cases hlt : i < l.length
  · have hcT := cntE_take (f := GNode.d) hlt
    have hcL := cntE_le (f := GNode.d) l (i + 1)
    have hcD := GNode.cnt (l[i]'hlt)
    repeat' ((conv => whnf) <;> first
     | (refine mk_lenr aN ?_; intro hml) | rw [wrapI_i64 (by omega)] | refine cD (fun _ => ?_) fun _ => ?_ | refine cE (fun _ => ?_) fun _ => ?_ | refine mk_idxr aN rf ix ?_ | (refine mk_ldf (g := GNode.m) aN GNode.mk' tv ix ?_) | refine And.intro ?_ ?_)
    all_goals first
      | (exfalso; omega)
      | (exfalso; exact absurd rfl ‹¬ _ = _›)
      | (refine ⟨⟨i + 1, by omega⟩, ?_, rfl, by dsimp only; omega⟩; (conv => whnf); repeat' (first | exact trivial | exact rfl | (show _ = _; congr 3; dsimp only; omega) | apply And.intro))
  · repeat' ((conv => whnf) <;> first
     | (refine mk_lenr aN ?_; intro hml) | refine cD (fun _ => ?_) fun _ => ?_ | refine mk_idxr aN rf ix ?_ | refine And.intro ?_ ?_)
    all_goals first
      | rfl
      | (exfalso; omega)
      | (show _ = _; rw [List.take_of_length_le (by omega)]; rfl)
theorem ev_heldOpS (l : (List GOp)) (c : C) (k : Int) (S : Store) (h : Rd S [.sl 4 (mkE (l.map GOp.d) k)] [c]) (hk : 0 ≤ k ∧ k + (cntE (l.map GOp.d) : Int) ≤ 4611686018427387904) : EvA Tryz.prog 119 [.s c, .s (.int .i64 k)] S (fun r S' => r = .v (.s (.int .i64 (k + (cntE (l.map GOp.d) : Int)))) ∧ S' = S) := by
  refine evA_intro tok Tryz.func119 (by kernel_rfl) rfl ?_
  skip
  refine loop_intro {i : Nat // i ≤ l.length} [1, 4, 5, 6, 7, 8, 9, 10, 11, 12, 13, 14, 15, 16, 17, 18, 19, 20, 21, 22, 23, 24, 25, 26, 27, 28, 29, 30, 31, 32, 33, 34, 35, 36, 37, 38, 39, 40, 41, 42, 43, 44, 45, 46, 47] (fun zb => [(1, .v (.s (.int .i64 (k + (cntE ((l.take zb.1).map GOp.d) : Int))))), (5, .v (.s (.int .i64 zb.1)))]) (fun _ => S) (fun zb => l.length - zb.1) ⟨0, Nat.zero_le _⟩ ?_ rfl ?_
  · (conv => whnf); repeat' (first | exact trivial | exact rfl | (show _ = _; simp [cntE_nil]; done) | apply And.intro)
  rintro ⟨i, hi⟩; dsimp only
  replace hi : i ≤ l.length := hi
  have hcM := cntE_le (f := GOp.d) l i
  by_cases hlt : i < l.length
  · have hcT := cntE_take (f := GOp.d) hlt
    have hcL := cntE_le (f := GOp.d) l (i + 1)
    have hcD := GOp.cnt (l[i]'hlt)
    repeat' ((conv => whnf) <;> first
     | (refine mk_lenr aN ?_; intro hml) | rw [wrapI_i64 (by omega)] | refine cD (fun _ => ?_) fun _ => ?_ | refine cE (fun _ => ?_) fun _ => ?_ | refine mk_idxr aN rf ix ?_ | (refine mk_ldf (g := GOp.m) aN GOp.mk' tv ix ?_) | refine And.intro ?_ ?_)
    all_goals first
      | (exfalso; omega)
      | (exfalso; exact absurd rfl ‹¬ _ = _›)
      | (refine ⟨⟨i + 1, by omega⟩, ?_, rfl, by dsimp only; omega⟩; (conv => whnf); repeat' (first | exact trivial | exact rfl | (show _ = _; congr 3; dsimp only; omega) | apply And.intro))
  · repeat' ((conv => whnf) <;> first
     | (refine mk_lenr aN ?_; intro hml) | refine cD (fun _ => ?_) fun _ => ?_ | refine mk_idxr aN rf ix ?_ | refine And.intro ?_ ?_)
    all_goals first
      | rfl
      | (exfalso; omega)
      | (show _ = _; rw [List.take_of_length_le (by omega)]; rfl)
theorem ev_heldStoredS (l : (List GStored)) (c : C) (k : Int) (S : Store) (h : Rd S [.sl 4 (mkE (l.map GStored.d) k)] [c]) (hk : 0 ≤ k ∧ k + (cntE (l.map GStored.d) : Int) ≤ 4611686018427387904) : EvA Tryz.prog 69 [.s c, .s (.int .i64 k)] S (fun r S' => r = .v (.s (.int .i64 (k + (cntE (l.map GStored.d) : Int)))) ∧ S' = S) := by
  refine evA_intro tok Tryz.func69 (by kernel_rfl) rfl ?_
  skip
  refine loop_intro {i : Nat // i ≤ l.length} [1, 4, 5, 6, 7, 8, 9, 10, 11, 12, 13, 14, 15, 16, 17, 18, 19, 20, 21, 22, 23, 24, 25, 26, 27, 28, 29, 30, 31, 32, 33, 34, 35, 36, 37, 38, 39, 40, 41, 42, 43, 44, 45, 46, 47] (fun zb => [(1, .v (.s (.int .i64 (k + (cntE ((l.take zb.1).map GStored.d) : Int))))), (5, .v (.s (.int .i64 zb.1)))]) (fun _ => S) (fun zb => l.length - zb.1) ⟨0, Nat.zero_le _⟩ ?_ rfl ?_
  · (conv => whnf); repeat' (first | exact trivial | exact rfl | (show _ = _; simp [cntE_nil]; done) | apply And.intro)
  rintro ⟨i, hi⟩; dsimp only
  replace hi : i ≤ l.length := hi
  have hcM := cntE_le (f := GStored.d) l i
  by_cases hlt : i < l.length
  · have hcT := cntE_take (f := GStored.d) hlt
    have hcL := cntE_le (f := GStored.d) l (i + 1)
    have hcD := GStored.cnt (l[i]'hlt)
    repeat' ((conv => whnf) <;> first
     | (refine mk_lenr aN ?_; intro hml) | rw [wrapI_i64 (by omega)] | refine cD (fun _ => ?_) fun _ => ?_ | refine cE (fun _ => ?_) fun _ => ?_ | refine mk_idxr aN rf ix ?_ | (refine mk_ldf (g := GStored.m) aN GStored.mk' tv ix ?_) | refine And.intro ?_ ?_)
    all_goals first
      | (exfalso; omega)
      | (exfalso; exact absurd rfl ‹¬ _ = _›)
      | (refine ⟨⟨i + 1, by omega⟩, ?_, rfl, by dsimp only; omega⟩; (conv => whnf); repeat' (first | exact trivial | exact rfl | (show _ = _; congr 3; dsimp only; omega) | apply And.intro))
  · repeat' ((conv => whnf) <;> first
     | (refine mk_lenr aN ?_; intro hml) | refine cD (fun _ => ?_) fun _ => ?_ | refine mk_idxr aN rf ix ?_ | refine And.intro ?_ ?_)
    all_goals first
      | rfl
      | (exfalso; omega)
      | (show _ = _; rw [List.take_of_length_le (by omega)]; rfl)
theorem ev_heldGrantS (l : (List GGrant)) (c : C) (k : Int) (S : Store) (h : Rd S [.sl 7 (mkE (l.map GGrant.d) k)] [c]) (hk : 0 ≤ k ∧ k + (cntE (l.map GGrant.d) : Int) ≤ 4611686018427387904) : EvA Tryz.prog 66 [.s c, .s (.int .i64 k)] S (fun r S' => r = .v (.s (.int .i64 (k + (cntE (l.map GGrant.d) : Int)))) ∧ S' = S) := by
  refine evA_intro tok Tryz.func66 (by kernel_rfl) rfl ?_
  skip
  refine loop_intro {i : Nat // i ≤ l.length} [1, 4, 5, 6, 7, 8, 9, 10, 11, 12, 13, 14, 15, 16, 17, 18, 19, 20, 21, 22, 23, 24, 25, 26, 27, 28, 29, 30, 31, 32, 33, 34, 35, 36, 37, 38, 39, 40, 41, 42, 43, 44, 45, 46, 47, 48, 49, 50, 51, 52, 53, 54, 55, 56, 57, 58, 59, 60, 61, 62, 63, 64, 65, 66, 67, 68, 69, 70, 71, 72, 73, 74, 75, 76, 77, 78] (fun zb => [(1, .v (.s (.int .i64 (k + (cntE ((l.take zb.1).map GGrant.d) : Int))))), (5, .v (.s (.int .i64 zb.1)))]) (fun _ => S) (fun zb => l.length - zb.1) ⟨0, Nat.zero_le _⟩ ?_ rfl ?_
  · (conv => whnf); repeat' (first | exact trivial | exact rfl | (show _ = _; simp [cntE_nil]; done) | apply And.intro)
  rintro ⟨i, hi⟩; dsimp only
  replace hi : i ≤ l.length := hi
  have hcM := cntE_le (f := GGrant.d) l i
  by_cases hlt : i < l.length
  · have hcT := cntE_take (f := GGrant.d) hlt
    have hcL := cntE_le (f := GGrant.d) l (i + 1)
    have hcD := GGrant.cnt (l[i]'hlt)
    repeat' ((conv => whnf) <;> first
     | (refine mk_lenr aN ?_; intro hml) | rw [wrapI_i64 (by omega)] | refine cD (fun _ => ?_) fun _ => ?_ | refine cE (fun _ => ?_) fun _ => ?_ | refine mk_idxr aN rf ix ?_ | (refine mk_ldf (g := GGrant.m) aN GGrant.mk' tv ix ?_) | refine nP ?_ | refine And.intro ?_ ?_)
    all_goals first
      | (exfalso; omega)
      | (exfalso; exact absurd rfl ‹¬ _ = _›)
      | (refine ⟨⟨i + 1, by omega⟩, ?_, rfl, by dsimp only; omega⟩; (conv => whnf); repeat' (first | exact trivial | exact rfl | (show _ = _; congr 3; dsimp only; omega) | apply And.intro))
  · repeat' ((conv => whnf) <;> first
     | (refine mk_lenr aN ?_; intro hml) | refine cD (fun _ => ?_) fun _ => ?_ | refine mk_idxr aN rf ix ?_ | refine And.intro ?_ ?_)
    all_goals first
      | rfl
      | (exfalso; omega)
      | (show _ = _; rw [List.take_of_length_le (by omega)]; rfl)
theorem ev_heldLimitS (l : (List GLimit)) (c : C) (k : Int) (S : Store) (h : Rd S [.sl 4 (mkE (l.map GLimit.d) k)] [c]) (hk : 0 ≤ k ∧ k + (cntE (l.map GLimit.d) : Int) ≤ 4611686018427387904) : EvA Tryz.prog 67 [.s c, .s (.int .i64 k)] S (fun r S' => r = .v (.s (.int .i64 (k + (cntE (l.map GLimit.d) : Int)))) ∧ S' = S) := by
  refine evA_intro tok Tryz.func67 (by kernel_rfl) rfl ?_
  skip
  refine loop_intro {i : Nat // i ≤ l.length} [1, 4, 5, 6, 7, 8, 9, 10, 11, 12, 13, 14, 15, 16, 17, 18, 19, 20, 21, 22, 23, 24, 25, 26, 27, 28, 29, 30, 31, 32, 33, 34, 35, 36, 37, 38, 39, 40, 41, 42, 43, 44, 45, 46, 47, 48, 49] (fun zb => [(1, .v (.s (.int .i64 (k + (cntE ((l.take zb.1).map GLimit.d) : Int))))), (5, .v (.s (.int .i64 zb.1)))]) (fun _ => S) (fun zb => l.length - zb.1) ⟨0, Nat.zero_le _⟩ ?_ rfl ?_
  · (conv => whnf); repeat' (first | exact trivial | exact rfl | (show _ = _; simp [cntE_nil]; done) | apply And.intro)
  rintro ⟨i, hi⟩; dsimp only
  replace hi : i ≤ l.length := hi
  have hcM := cntE_le (f := GLimit.d) l i
  by_cases hlt : i < l.length
  · have hcT := cntE_take (f := GLimit.d) hlt
    have hcL := cntE_le (f := GLimit.d) l (i + 1)
    have hcD := GLimit.cnt (l[i]'hlt)
    repeat' ((conv => whnf) <;> first
     | (refine mk_lenr aN ?_; intro hml) | rw [wrapI_i64 (by omega)] | refine cD (fun _ => ?_) fun _ => ?_ | refine cE (fun _ => ?_) fun _ => ?_ | refine mk_idxr aN rf ix ?_ | (refine mk_ldf (g := GLimit.m) aN GLimit.mk' tv ix ?_) | refine And.intro ?_ ?_)
    all_goals first
      | (exfalso; omega)
      | (exfalso; exact absurd rfl ‹¬ _ = _›)
      | (refine ⟨⟨i + 1, by omega⟩, ?_, rfl, by dsimp only; omega⟩; (conv => whnf); repeat' (first | exact trivial | exact rfl | (show _ = _; congr 3; dsimp only; omega) | apply And.intro))
  · repeat' ((conv => whnf) <;> first
     | (refine mk_lenr aN ?_; intro hml) | refine cD (fun _ => ?_) fun _ => ?_ | refine mk_idxr aN rf ix ?_ | refine And.intro ?_ ?_)
    all_goals first
      | rfl
      | (exfalso; omega)
      | (show _ = _; rw [List.take_of_length_le (by omega)]; rfl)
theorem ev_heldRuleS (l : (List GRule)) (c : C) (k : Int) (S : Store) (h : Rd S [.sl 8 (mkE (l.map GRule.d) k)] [c]) (hk : 0 ≤ k ∧ k + (cntE (l.map GRule.d) : Int) ≤ 4611686018427387904) : EvA Tryz.prog 68 [.s c, .s (.int .i64 k)] S (fun r S' => r = .v (.s (.int .i64 (k + (cntE (l.map GRule.d) : Int)))) ∧ S' = S) := by
  refine evA_intro tok Tryz.func68 (by kernel_rfl) rfl ?_
  skip
  refine loop_intro {i : Nat // i ≤ l.length} [1, 4, 5, 6, 7, 8, 9, 10, 11, 12, 13, 14, 15, 16, 17, 18, 19, 20, 21, 22, 23, 24, 25, 26, 27, 28, 29, 30, 31, 32, 33, 34, 35, 36, 37, 38, 39, 40, 41, 42, 43, 44, 45, 46, 47, 48, 49, 50, 51, 52, 53, 54, 55, 56, 57, 58, 59, 60, 61, 62, 63, 64, 65, 66, 67, 68, 69, 70, 71, 72, 73, 74, 75, 76, 77, 78, 79, 80, 81, 82, 83, 84, 85, 86, 87] (fun zb => [(1, .v (.s (.int .i64 (k + (cntE ((l.take zb.1).map GRule.d) : Int))))), (5, .v (.s (.int .i64 zb.1)))]) (fun _ => S) (fun zb => l.length - zb.1) ⟨0, Nat.zero_le _⟩ ?_ rfl ?_
  · (conv => whnf); repeat' (first | exact trivial | exact rfl | (show _ = _; simp [cntE_nil]; done) | apply And.intro)
  rintro ⟨i, hi⟩; dsimp only
  replace hi : i ≤ l.length := hi
  have hcM := cntE_le (f := GRule.d) l i
  by_cases hlt : i < l.length
  · have hcT := cntE_take (f := GRule.d) hlt
    have hcL := cntE_le (f := GRule.d) l (i + 1)
    have hcD := GRule.cnt (l[i]'hlt)
    repeat' ((conv => whnf) <;> first
     | (refine mk_lenr aN ?_; intro hml) | rw [wrapI_i64 (by omega)] | refine cD (fun _ => ?_) fun _ => ?_ | refine cE (fun _ => ?_) fun _ => ?_ | refine mk_idxr aN rf ix ?_ | (refine mk_ldf (g := GRule.m) aN GRule.mk' tv ix ?_) | refine And.intro ?_ ?_)
    all_goals first
      | (exfalso; omega)
      | (exfalso; exact absurd rfl ‹¬ _ = _›)
      | (refine ⟨⟨i + 1, by omega⟩, ?_, rfl, by dsimp only; omega⟩; (conv => whnf); repeat' (first | exact trivial | exact rfl | (show _ = _; congr 3; dsimp only; omega) | apply And.intro))
  · repeat' ((conv => whnf) <;> first
     | (refine mk_lenr aN ?_; intro hml) | refine cD (fun _ => ?_) fun _ => ?_ | refine mk_idxr aN rf ix ?_ | refine And.intro ?_ ?_)
    all_goals first
      | rfl
      | (exfalso; omega)
      | (show _ = _; rw [List.take_of_length_le (by omega)]; rfl)
theorem ev_heldTabS (l : (List GTab)) (c : C) (k : Int) (S : Store) (h : Rd S [.sl 6 (mkE (l.map GTab.d) k)] [c]) (hk : 0 ≤ k ∧ k + (cntE (l.map GTab.d) : Int) ≤ 4611686018427387904) : EvA Tryz.prog 64 [.s c, .s (.int .i64 k)] S (fun r S' => r = .v (.s (.int .i64 (k + (cntE (l.map GTab.d) : Int)))) ∧ S' = S) := by
  refine evA_intro tok Tryz.func64 (by kernel_rfl) rfl ?_
  skip
  refine loop_intro {i : Nat // i ≤ l.length} [1, 4, 5, 6, 7, 8, 9, 10, 11, 12, 13, 14, 15, 16, 17, 18, 19, 20, 21, 22, 23, 24, 25, 26, 27, 28, 29, 30, 31, 32, 33, 34, 35, 36, 37, 38, 39, 40, 41, 42, 43, 44, 45, 46, 47, 48, 49, 50, 51, 52, 53, 54, 55, 56, 57, 58, 59, 60, 61, 62, 63, 64, 65, 66, 67] (fun zb => [(1, .v (.s (.int .i64 (k + (cntE ((l.take zb.1).map GTab.d) : Int))))), (5, .v (.s (.int .i64 zb.1)))]) (fun _ => S) (fun zb => l.length - zb.1) ⟨0, Nat.zero_le _⟩ ?_ rfl ?_
  · (conv => whnf); repeat' (first | exact trivial | exact rfl | (show _ = _; simp [cntE_nil]; done) | apply And.intro)
  rintro ⟨i, hi⟩; dsimp only
  replace hi : i ≤ l.length := hi
  have hcM := cntE_le (f := GTab.d) l i
  by_cases hlt : i < l.length
  · have hcT := cntE_take (f := GTab.d) hlt
    have hcL := cntE_le (f := GTab.d) l (i + 1)
    have hcD := GTab.cnt (l[i]'hlt)
    obtain ⟨_, hcs, hL⟩ := mk_elem h hlt
    rw [GTab.mkL] at hcs
    obtain ⟨_, rfl, hcs_0⟩ := Rd.cons_x hcs; clear hcs
    obtain ⟨_, rfl, hcs_1⟩ := Rd.cons_x hcs_0; clear hcs_0
    obtain ⟨_, _, rfl, hq2, hcs_2⟩ := Rd.cons hcs_1; clear hcs_1
    obtain ⟨_, _, rfl, hq3, hcs_3⟩ := Rd.cons hcs_2; clear hcs_2
    obtain ⟨_, _, rfl, hq4, hcs_4⟩ := Rd.cons hcs_3; clear hcs_3
    obtain ⟨_, rfl, hcs_5⟩ := Rd.cons_x hcs_4; clear hcs_4
    obtain rfl := Rd.nil hcs_5
    repeat' ((conv => whnf) <;> first
     | (refine mk_lenr aN ?_; intro hml) | rw [wrapI_i64 (by omega)] | refine cD (fun _ => ?_) fun _ => ?_ | refine cE (fun _ => ?_) fun _ => ?_ | refine mk_idxr aN rf ix ?_ | refine hL _ ?_ | (refine callP_eq (ev_heldNodeS _ _ _ _ aN om) ?_) | (refine callP_eq (ev_heldEditS _ _ _ _ aN om) ?_) | (refine callP_eq (ev_heldIntS _ _ _ _ aN om) ?_) | refine And.intro ?_ ?_)
    all_goals first
      | (exfalso; omega)
      | (exfalso; exact absurd rfl ‹¬ _ = _›)
      | (refine ⟨⟨i + 1, by omega⟩, ?_, rfl, by dsimp only; omega⟩; (conv => whnf); repeat' (first | exact trivial | exact rfl | (show _ = _; congr 3; dsimp only; omega) | apply And.intro))
  · repeat' ((conv => whnf) <;> first
     | (refine mk_lenr aN ?_; intro hml) | refine cD (fun _ => ?_) fun _ => ?_ | refine mk_idxr aN rf ix ?_ | refine And.intro ?_ ?_)
    all_goals first
      | rfl
      | (exfalso; omega)
      | (show _ = _; rw [List.take_of_length_le (by omega)]; rfl)
theorem ev_heldPackageS (l : (List GPackage)) (c : C) (k : Int) (S : Store) (h : Rd S [.sl 8 (mkE (l.map GPackage.d) k)] [c]) (hk : 0 ≤ k ∧ k + (cntE (l.map GPackage.d) : Int) ≤ 4611686018427387904) : EvA Tryz.prog 65 [.s c, .s (.int .i64 k)] S (fun r S' => r = .v (.s (.int .i64 (k + (cntE (l.map GPackage.d) : Int)))) ∧ S' = S) := by
  refine evA_intro tok Tryz.func65 (by kernel_rfl) rfl ?_
  skip
  refine loop_intro {i : Nat // i ≤ l.length} [1, 4, 5, 6, 7, 8, 9, 10, 11, 12, 13, 14, 15, 16, 17, 18, 19, 20, 21, 22, 23, 24, 25, 26, 27, 28, 29, 30, 31, 32, 33, 34, 35, 36, 37, 38, 39, 40, 41, 42, 43, 44, 45, 46, 47, 48, 49, 50, 51, 52, 53, 54, 55, 56, 57, 58, 59, 60, 61, 62, 63, 64, 65, 66, 67, 68, 69, 70, 71, 72, 73, 74, 75, 76, 77, 78, 79, 80, 81, 82, 83] (fun zb => [(1, .v (.s (.int .i64 (k + (cntE ((l.take zb.1).map GPackage.d) : Int))))), (5, .v (.s (.int .i64 zb.1)))]) (fun _ => S) (fun zb => l.length - zb.1) ⟨0, Nat.zero_le _⟩ ?_ rfl ?_
  · (conv => whnf); repeat' (first | exact trivial | exact rfl | (show _ = _; simp [cntE_nil]; done) | apply And.intro)
  rintro ⟨i, hi⟩; dsimp only
  replace hi : i ≤ l.length := hi
  have hcM := cntE_le (f := GPackage.d) l i
  by_cases hlt : i < l.length
  · have hcT := cntE_take (f := GPackage.d) hlt
    have hcL := cntE_le (f := GPackage.d) l (i + 1)
    have hcD := GPackage.cnt (l[i]'hlt)
    obtain ⟨_, hcs, hL⟩ := mk_elem h hlt
    rw [GPackage.mkL] at hcs
    obtain ⟨_, rfl, hcs_0⟩ := Rd.cons_x hcs; clear hcs
    obtain ⟨_, rfl, hcs_1⟩ := Rd.cons_x hcs_0; clear hcs_0
    obtain ⟨_, rfl, hcs_2⟩ := Rd.cons_x hcs_1; clear hcs_1
    obtain ⟨_, _, rfl, hq3, hcs_3⟩ := Rd.cons hcs_2; clear hcs_2
    obtain ⟨_, _, rfl, hq4, hcs_4⟩ := Rd.cons hcs_3; clear hcs_3
    obtain ⟨_, _, rfl, hq5, hcs_5⟩ := Rd.cons hcs_4; clear hcs_4
    obtain ⟨_, _, rfl, hq6, hcs_6⟩ := Rd.cons hcs_5; clear hcs_5
    obtain ⟨_, rfl, hcs_7⟩ := Rd.cons_x hcs_6; clear hcs_6
    obtain rfl := Rd.nil hcs_7
    repeat' ((conv => whnf) <;> first
     | (refine mk_lenr aN ?_; intro hml) | rw [wrapI_i64 (by omega)] | refine cD (fun _ => ?_) fun _ => ?_ | refine cE (fun _ => ?_) fun _ => ?_ | refine mk_idxr aN rf ix ?_ | refine hL _ ?_ | (refine callP_eq (ev_heldGrantS _ _ _ _ aN om) ?_) | (refine callP_eq (ev_heldFlowS _ _ _ _ aN om) ?_) | (refine callP_eq (ev_heldRuleS _ _ _ _ aN om) ?_) | (refine callP_eq (ev_heldOpS _ _ _ _ aN om) ?_) | refine And.intro ?_ ?_)
    all_goals first
      | (exfalso; omega)
      | (exfalso; exact absurd rfl ‹¬ _ = _›)
      | (refine ⟨⟨i + 1, by omega⟩, ?_, rfl, by dsimp only; omega⟩; (conv => whnf); repeat' (first | exact trivial | exact rfl | (show _ = _; congr 3; dsimp only; omega) | apply And.intro))
  · repeat' ((conv => whnf) <;> first
     | (refine mk_lenr aN ?_; intro hml) | refine cD (fun _ => ?_) fun _ => ?_ | refine mk_idxr aN rf ix ?_ | refine And.intro ?_ ?_)
    all_goals first
      | rfl
      | (exfalso; omega)
      | (show _ = _; rw [List.take_of_length_le (by omega)]; rfl)
theorem ev_heldBrowser (x : GBrowser) (cs : List C) (k : Int) (S : Store) (h : Rd S (mkT x.d k) cs) (hk : 0 ≤ k ∧ k + (cntT x.d : Int) ≤ 4611686018427387904) : EvA Tryz.prog 14 [.agg cs, .s (.int .i64 k)] S (fun r S' => r = .v (.s (.int .i64 (k + (cntT x.d : Int)))) ∧ S' = S) := by
  have hcT := GBrowser.cT x
  rw [GBrowser.mkT] at h
  obtain ⟨_, rfl, h_0⟩ := Rd.cons_x h; clear h
  obtain ⟨_, _, rfl, hq1, h_1⟩ := Rd.cons h_0; clear h_0
  obtain ⟨_, _, rfl, hq2, h_2⟩ := Rd.cons h_1; clear h_1
  obtain ⟨_, _, rfl, hq3, h_3⟩ := Rd.cons h_2; clear h_2
  obtain ⟨_, _, rfl, hq4, h_4⟩ := Rd.cons h_3; clear h_3
  obtain ⟨_, _, rfl, hq5, h_5⟩ := Rd.cons h_4; clear h_4
  obtain ⟨_, _, rfl, hq6, h_6⟩ := Rd.cons h_5; clear h_5
  obtain ⟨_, rfl, h_7⟩ := Rd.cons_x h_6; clear h_6
  obtain rfl := Rd.nil h_7
  refine evA_intro tok Tryz.func14 (by kernel_rfl) rfl ?_
  repeat' ((conv => whnf) <;> first
   | refine cD (fun _ => ?_) fun _ => ?_ | (refine callP_eq (ev_heldTabS _ _ _ _ aN om) ?_) | (refine callP_eq (ev_heldPackageS _ _ _ _ aN om) ?_) | (refine callP_eq (ev_heldGrantS _ _ _ _ aN om) ?_) | (refine callP_eq (ev_heldLimitS _ _ _ _ aN om) ?_) | (refine callP_eq (ev_heldRuleS _ _ _ _ aN om) ?_) | (refine callP_eq (ev_heldStoredS _ _ _ _ aN om) ?_) | refine And.intro ?_ ?_)
  all_goals first
    | rfl
    | (exfalso; omega)
    | (show _ = _; simp only [resAV]; congr 3 <;> omega)
end Go.Proofs.YtibglkkmjigooaaGreat
