/- The laws' mark.. functions. -/
import Derived.Test.YtibglkkmjigooaaGreatAeO
import Derived.Test.YtibglkkmjigooaaGreatAeM
namespace Go.Proofs.YtibglkkmjigooaaGreat
open Go Go.ChangeShapes Go.WideShapes Go.ChangeAt Go.RowKit
set_option linter.unusedVariables false
set_option linter.unusedSimpArgs false
set_option maxRecDepth 100000
theorem ev_markIntS (l : (List Int)) (c : C) (ids : List Nat) (k : Int) (S : Store) (h : Rep true S (.sl 1 (l.map dInt)) c ids) (hn : ids.Nodup) (hk : 0 ≤ k ∧ k + (cntE (l.map dInt) : Int) ≤ 4611686018427387904) : EvA Tryz.prog 114 [.s c, .s (.int .i64 k)] S (fun r S' => r = .v (.s (.int .i64 (k + (cntE (l.map dInt) : Int)))) ∧ Mk ids S S' ∧ Rep true S' (.sl 1 (mkE (l.map dInt) k)) c ids) := by
  refine evA_intro tok Tryz.func114 (by kernel_rfl) rfl ?_
  skip
  refine loop_intro {p : Nat × Store // p.1 ≤ l.length ∧ Mk ids S p.2 ∧ Rep true p.2 (.sl 1 (mkE ((l.take p.1).map dInt) k ++ (l.drop p.1).map dInt)) c ids} [1, 5, 6, 7, 8, 9, 10, 11, 12, 13, 14, 15, 16, 17] (fun zb => [(1, .v (.s (.int .i64 (k + (cntE ((l.take zb.1.1).map dInt) : Int))))), (5, .v (.s (.int .i64 zb.1.1)))]) (fun zb => zb.1.2) (fun zb => l.length - zb.1.1) ⟨(0, S), Nat.zero_le _, Mk.refl _ _, by simpa [mkE_nil] using h⟩ ?_ rfl ?_
  · (conv => whnf); repeat' (first | exact trivial | exact rfl | (show _ = _; simp [cntE_nil]; done) | apply And.intro)
  rintro ⟨⟨i, Si⟩, hi, hM, hR⟩; dsimp only
  replace hi : i ≤ l.length := hi
  replace hM : Mk ids S Si := hM
  replace hR : Rep true Si (.sl 1 (mkE ((l.take i).map dInt) k ++ (l.drop i).map dInt)) c ids := hR
  have hlen : (mkE ((l.take i).map dInt) k ++ (l.drop i).map dInt).length = l.length := by rw [List.length_append, mkE_len]; simp; omega
  have hcM := cntE_le (f := dInt) l i
  by_cases hlt : i < l.length
  · have hI := mk_start hM hR hlt
    have hP := mk_pos (f := dInt) k hlt
    have hcT := cntE_take (f := dInt) hlt
    have hcL := cntE_le (f := dInt) l (i + 1)
    have hcD := int_cnt (l[i]'hlt)
    repeat' ((conv => whnf) <;> first
     | (refine mk_len (N := l.length) aN aN ?_; intro hml) | rw [wrapI_i64 (by omega)] | refine cD (fun _ => ?_) fun _ => ?_ | refine mk_idx hI aN (by rfl) ?_ | (refine mk_store hI hn aN (by rfl) (by rfl) ?_; clear hI; intro Sm hI) | refine And.intro ?_ ?_)
    all_goals first
      | (exfalso; omega)
      | (obtain ⟨hM2, hR2⟩ := mk_next hI hlt (by rfl)
         refine ⟨⟨(i + 1, _), by dsimp only; omega, hM2, hR2⟩, ?_, rfl, by dsimp only; omega⟩; (conv => whnf); repeat' (first | exact trivial | exact rfl | (show _ = _; congr 3; dsimp only; omega) | apply And.intro))
  · repeat' ((conv => whnf) <;> first
     | (refine mk_len (N := l.length) aN aN ?_; intro hml) | refine cD (fun _ => ?_) fun _ => ?_ | exact hM | exact mk_full hR (by omega) | refine And.intro ?_ ?_)
    all_goals first
      | (exfalso; omega)
      | exact hM
      | exact mk_full hR (by omega)
      | (show _ = _; rw [List.take_of_length_le (by omega)]; rfl)
theorem ev_markEditS (l : (List GEdit)) (c : C) (ids : List Nat) (k : Int) (S : Store) (h : Rep true S (.sl 6 (l.map GEdit.d)) c ids) (hn : ids.Nodup) (hk : 0 ≤ k ∧ k + (cntE (l.map GEdit.d) : Int) ≤ 4611686018427387904) : EvA Tryz.prog 113 [.s c, .s (.int .i64 k)] S (fun r S' => r = .v (.s (.int .i64 (k + (cntE (l.map GEdit.d) : Int)))) ∧ Mk ids S S' ∧ Rep true S' (.sl 6 (mkE (l.map GEdit.d) k)) c ids) := by
  refine evA_intro tok Tryz.func113 (by kernel_rfl) rfl ?_
  skip
  refine loop_intro {p : Nat × Store // p.1 ≤ l.length ∧ Mk ids S p.2 ∧ Rep true p.2 (.sl 6 (mkE ((l.take p.1).map GEdit.d) k ++ (l.drop p.1).map GEdit.d)) c ids} [1, 5, 6, 7, 8, 9, 10, 11, 12, 13, 14, 15, 16, 17, 18, 19, 20, 21, 22, 23, 24, 25, 26, 27, 28, 29, 30, 31, 32, 33, 34, 35, 36, 37, 38, 39, 40, 41, 42, 43, 44, 45, 46, 47, 48, 49, 50, 51, 52, 53] (fun zb => [(1, .v (.s (.int .i64 (k + (cntE ((l.take zb.1.1).map GEdit.d) : Int))))), (5, .v (.s (.int .i64 zb.1.1)))]) (fun zb => zb.1.2) (fun zb => l.length - zb.1.1) ⟨(0, S), Nat.zero_le _, Mk.refl _ _, by simpa [mkE_nil] using h⟩ ?_ rfl ?_
  · (conv => whnf); repeat' (first | exact trivial | exact rfl | (show _ = _; simp [cntE_nil]; done) | apply And.intro)
  rintro ⟨⟨i, Si⟩, hi, hM, hR⟩; dsimp only
  replace hi : i ≤ l.length := hi
  replace hM : Mk ids S Si := hM
  replace hR : Rep true Si (.sl 6 (mkE ((l.take i).map GEdit.d) k ++ (l.drop i).map GEdit.d)) c ids := hR
  have hlen : (mkE ((l.take i).map GEdit.d) k ++ (l.drop i).map GEdit.d).length = l.length := by rw [List.length_append, mkE_len]; simp; omega
  have hcM := cntE_le (f := GEdit.d) l i
  by_cases hlt : i < l.length
  · have hI := mk_start hM hR hlt
    have hP := mk_pos (f := GEdit.d) k hlt
    have hcT := cntE_take (f := GEdit.d) hlt
    have hcL := cntE_le (f := GEdit.d) l (i + 1)
    have hcD := GEdit.cnt (l[i]'hlt)
    repeat' ((conv => whnf) <;> first
     | (refine mk_len (N := l.length) aN aN ?_; intro hml) | rw [wrapI_i64 (by omega)] | refine cD (fun _ => ?_) fun _ => ?_ | refine mk_idx hI aN (by rfl) ?_ | (refine mk_store hI hn aN (by rfl) (by rfl) ?_; clear hI; intro Sm hI) | refine And.intro ?_ ?_)
    all_goals first
      | (exfalso; omega)
      | (obtain ⟨hM2, hR2⟩ := mk_next hI hlt (by rfl)
         refine ⟨⟨(i + 1, _), by dsimp only; omega, hM2, hR2⟩, ?_, rfl, by dsimp only; omega⟩; (conv => whnf); repeat' (first | exact trivial | exact rfl | (show _ = _; congr 3; dsimp only; omega) | apply And.intro))
  · repeat' ((conv => whnf) <;> first
     | (refine mk_len (N := l.length) aN aN ?_; intro hml) | refine cD (fun _ => ?_) fun _ => ?_ | exact hM | exact mk_full hR (by omega) | refine And.intro ?_ ?_)
    all_goals first
      | (exfalso; omega)
      | exact hM
      | exact mk_full hR (by omega)
      | (show _ = _; rw [List.take_of_length_le (by omega)]; rfl)
theorem ev_markFlowS (l : (List GFlow)) (c : C) (ids : List Nat) (k : Int) (S : Store) (h : Rep true S (.sl 3 (l.map GFlow.d)) c ids) (hn : ids.Nodup) (hk : 0 ≤ k ∧ k + (cntE (l.map GFlow.d) : Int) ≤ 4611686018427387904) : EvA Tryz.prog 89 [.s c, .s (.int .i64 k)] S (fun r S' => r = .v (.s (.int .i64 (k + (cntE (l.map GFlow.d) : Int)))) ∧ Mk ids S S' ∧ Rep true S' (.sl 3 (mkE (l.map GFlow.d) k)) c ids) := by
  refine evA_intro tok Tryz.func89 (by kernel_rfl) rfl ?_
  skip
  refine loop_intro {p : Nat × Store // p.1 ≤ l.length ∧ Mk ids S p.2 ∧ Rep true p.2 (.sl 3 (mkE ((l.take p.1).map GFlow.d) k ++ (l.drop p.1).map GFlow.d)) c ids} [1, 5, 6, 7, 8, 9, 10, 11, 12, 13, 14, 15, 16, 17, 18, 19, 20, 21, 22, 23, 24, 25, 26, 27, 28, 29, 30, 31, 32] (fun zb => [(1, .v (.s (.int .i64 (k + (cntE ((l.take zb.1.1).map GFlow.d) : Int))))), (5, .v (.s (.int .i64 zb.1.1)))]) (fun zb => zb.1.2) (fun zb => l.length - zb.1.1) ⟨(0, S), Nat.zero_le _, Mk.refl _ _, by simpa [mkE_nil] using h⟩ ?_ rfl ?_
  · (conv => whnf); repeat' (first | exact trivial | exact rfl | (show _ = _; simp [cntE_nil]; done) | apply And.intro)
  rintro ⟨⟨i, Si⟩, hi, hM, hR⟩; dsimp only
  replace hi : i ≤ l.length := hi
  replace hM : Mk ids S Si := hM
  replace hR : Rep true Si (.sl 3 (mkE ((l.take i).map GFlow.d) k ++ (l.drop i).map GFlow.d)) c ids := hR
  have hlen : (mkE ((l.take i).map GFlow.d) k ++ (l.drop i).map GFlow.d).length = l.length := by rw [List.length_append, mkE_len]; simp; omega
  have hcM := cntE_le (f := GFlow.d) l i
  by_cases hlt : i < l.length
  · have hI := mk_start hM hR hlt
    have hP := mk_pos (f := GFlow.d) k hlt
    have hcT := cntE_take (f := GFlow.d) hlt
    have hcL := cntE_le (f := GFlow.d) l (i + 1)
    have hcD := GFlow.cnt (l[i]'hlt)
    repeat' ((conv => whnf) <;> first
     | (refine mk_len (N := l.length) aN aN ?_; intro hml) | rw [wrapI_i64 (by omega)] | refine cD (fun _ => ?_) fun _ => ?_ | refine mk_idx hI aN (by rfl) ?_ | (refine mk_store hI hn aN (by rfl) (by rfl) ?_; clear hI; intro Sm hI) | refine And.intro ?_ ?_)
    all_goals first
      | (exfalso; omega)
      | (obtain ⟨hM2, hR2⟩ := mk_next hI hlt (by rfl)
         refine ⟨⟨(i + 1, _), by dsimp only; omega, hM2, hR2⟩, ?_, rfl, by dsimp only; omega⟩; (conv => whnf); repeat' (first | exact trivial | exact rfl | (show _ = _; congr 3; dsimp only; omega) | apply And.intro))
  · repeat' ((conv => whnf) <;> first
     | (refine mk_len (N := l.length) aN aN ?_; intro hml) | refine cD (fun _ => ?_) fun _ => ?_ | exact hM | exact mk_full hR (by omega) | refine And.intro ?_ ?_)
    all_goals first
      | (exfalso; omega)
      | exact hM
      | exact mk_full hR (by omega)
      | (show _ = _; rw [List.take_of_length_le (by omega)]; rfl)
theorem ev_markNodeS (l : (List GNode)) (c : C) (ids : List Nat) (k : Int) (S : Store) (h : Rep true S (.sl 5 (l.map GNode.d)) c ids) (hn : ids.Nodup) (hk : 0 ≤ k ∧ k + (cntE (l.map GNode.d) : Int) ≤ 4611686018427387904) : EvA Tryz.prog 112 [.s c, .s (.int .i64 k)] S (fun r S' => r = .v (.s (.int .i64 (k + (cntE (l.map GNode.d) : Int)))) ∧ Mk ids S S' ∧ Rep true S' (.sl 5 (mkE (l.map GNode.d) k)) c ids) := by
  refine evA_intro tok Tryz.func112 (by kernel_rfl) rfl ?_
  skip
  refine loop_intro {p : Nat × Store // p.1 ≤ l.length ∧ Mk ids S p.2 ∧ Rep true p.2 (.sl 5 (mkE ((l.take p.1).map GNode.d) k ++ (l.drop p.1).map GNode.d)) c ids} [1, 5, 6, 7, 8, 9, 10, 11, 12, 13, 14, 15, 16, 17, 18, 19, 20, 21, 22, 23, 24, 25, 26, 27, 28, 29, 30, 31, 32, 33, 34, 35, 36, 37, 38, 39, 40, 41, 42, 43, 44, 45, 46] (fun zb => [(1, .v (.s (.int .i64 (k + (cntE ((l.take zb.1.1).map GNode.d) : Int))))), (5, .v (.s (.int .i64 zb.1.1)))]) (fun zb => zb.1.2) (fun zb => l.length - zb.1.1) ⟨(0, S), Nat.zero_le _, Mk.refl _ _, by simpa [mkE_nil] using h⟩ ?_ rfl ?_
  · (conv => whnf); repeat' (first | exact trivial | exact rfl | (show _ = _; simp [cntE_nil]; done) | apply And.intro)
  rintro ⟨⟨i, Si⟩, hi, hM, hR⟩; dsimp only
  replace hi : i ≤ l.length := hi
  replace hM : Mk ids S Si := hM
  replace hR : Rep true Si (.sl 5 (mkE ((l.take i).map GNode.d) k ++ (l.drop i).map GNode.d)) c ids := hR
  have hlen : (mkE ((l.take i).map GNode.d) k ++ (l.drop i).map GNode.d).length = l.length := by rw [List.length_append, mkE_len]; simp; omega
  have hcM := cntE_le (f := GNode.d) l i
  by_cases hlt : i < l.length
  · have hI := mk_start hM hR hlt
    have hP := mk_pos (f := GNode.d) k hlt
    have hcT := cntE_take (f := GNode.d) hlt
    have hcL := cntE_le (f := GNode.d) l (i + 1)
    have hcD := GNode.cnt (l[i]'hlt)
    repeat' ((conv => whnf) <;> first
     | (refine mk_len (N := l.length) aN aN ?_; intro hml) | rw [wrapI_i64 (by omega)] | refine cD (fun _ => ?_) fun _ => ?_ | refine mk_idx hI aN (by rfl) ?_ | (refine mk_store hI hn aN (by rfl) (by rfl) ?_; clear hI; intro Sm hI) | refine And.intro ?_ ?_)
    all_goals first
      | (exfalso; omega)
      | (obtain ⟨hM2, hR2⟩ := mk_next hI hlt (by rfl)
         refine ⟨⟨(i + 1, _), by dsimp only; omega, hM2, hR2⟩, ?_, rfl, by dsimp only; omega⟩; (conv => whnf); repeat' (first | exact trivial | exact rfl | (show _ = _; congr 3; dsimp only; omega) | apply And.intro))
  · repeat' ((conv => whnf) <;> first
     | (refine mk_len (N := l.length) aN aN ?_; intro hml) | refine cD (fun _ => ?_) fun _ => ?_ | exact hM | exact mk_full hR (by omega) | refine And.intro ?_ ?_)
    all_goals first
      | (exfalso; omega)
      | exact hM
      | exact mk_full hR (by omega)
      | (show _ = _; rw [List.take_of_length_le (by omega)]; rfl)
theorem ev_markOpS (l : (List GOp)) (c : C) (ids : List Nat) (k : Int) (S : Store) (h : Rep true S (.sl 4 (l.map GOp.d)) c ids) (hn : ids.Nodup) (hk : 0 ≤ k ∧ k + (cntE (l.map GOp.d) : Int) ≤ 4611686018427387904) : EvA Tryz.prog 90 [.s c, .s (.int .i64 k)] S (fun r S' => r = .v (.s (.int .i64 (k + (cntE (l.map GOp.d) : Int)))) ∧ Mk ids S S' ∧ Rep true S' (.sl 4 (mkE (l.map GOp.d) k)) c ids) := by
  refine evA_intro tok Tryz.func90 (by kernel_rfl) rfl ?_
  skip
  refine loop_intro {p : Nat × Store // p.1 ≤ l.length ∧ Mk ids S p.2 ∧ Rep true p.2 (.sl 4 (mkE ((l.take p.1).map GOp.d) k ++ (l.drop p.1).map GOp.d)) c ids} [1, 5, 6, 7, 8, 9, 10, 11, 12, 13, 14, 15, 16, 17, 18, 19, 20, 21, 22, 23, 24, 25, 26, 27, 28, 29, 30, 31, 32, 33, 34, 35, 36, 37, 38, 39] (fun zb => [(1, .v (.s (.int .i64 (k + (cntE ((l.take zb.1.1).map GOp.d) : Int))))), (5, .v (.s (.int .i64 zb.1.1)))]) (fun zb => zb.1.2) (fun zb => l.length - zb.1.1) ⟨(0, S), Nat.zero_le _, Mk.refl _ _, by simpa [mkE_nil] using h⟩ ?_ rfl ?_
  · (conv => whnf); repeat' (first | exact trivial | exact rfl | (show _ = _; simp [cntE_nil]; done) | apply And.intro)
  rintro ⟨⟨i, Si⟩, hi, hM, hR⟩; dsimp only
  replace hi : i ≤ l.length := hi
  replace hM : Mk ids S Si := hM
  replace hR : Rep true Si (.sl 4 (mkE ((l.take i).map GOp.d) k ++ (l.drop i).map GOp.d)) c ids := hR
  have hlen : (mkE ((l.take i).map GOp.d) k ++ (l.drop i).map GOp.d).length = l.length := by rw [List.length_append, mkE_len]; simp; omega
  have hcM := cntE_le (f := GOp.d) l i
  by_cases hlt : i < l.length
  · have hI := mk_start hM hR hlt
    have hP := mk_pos (f := GOp.d) k hlt
    have hcT := cntE_take (f := GOp.d) hlt
    have hcL := cntE_le (f := GOp.d) l (i + 1)
    have hcD := GOp.cnt (l[i]'hlt)
    repeat' ((conv => whnf) <;> first
     | (refine mk_len (N := l.length) aN aN ?_; intro hml) | rw [wrapI_i64 (by omega)] | refine cD (fun _ => ?_) fun _ => ?_ | refine mk_idx hI aN (by rfl) ?_ | (refine mk_store hI hn aN (by rfl) (by rfl) ?_; clear hI; intro Sm hI) | refine And.intro ?_ ?_)
    all_goals first
      | (exfalso; omega)
      | (obtain ⟨hM2, hR2⟩ := mk_next hI hlt (by rfl)
         refine ⟨⟨(i + 1, _), by dsimp only; omega, hM2, hR2⟩, ?_, rfl, by dsimp only; omega⟩; (conv => whnf); repeat' (first | exact trivial | exact rfl | (show _ = _; congr 3; dsimp only; omega) | apply And.intro))
  · repeat' ((conv => whnf) <;> first
     | (refine mk_len (N := l.length) aN aN ?_; intro hml) | refine cD (fun _ => ?_) fun _ => ?_ | exact hM | exact mk_full hR (by omega) | refine And.intro ?_ ?_)
    all_goals first
      | (exfalso; omega)
      | exact hM
      | exact mk_full hR (by omega)
      | (show _ = _; rw [List.take_of_length_le (by omega)]; rfl)
theorem ev_markStoredS (l : (List GStored)) (c : C) (ids : List Nat) (k : Int) (S : Store) (h : Rep true S (.sl 4 (l.map GStored.d)) c ids) (hn : ids.Nodup) (hk : 0 ≤ k ∧ k + (cntE (l.map GStored.d) : Int) ≤ 4611686018427387904) : EvA Tryz.prog 63 [.s c, .s (.int .i64 k)] S (fun r S' => r = .v (.s (.int .i64 (k + (cntE (l.map GStored.d) : Int)))) ∧ Mk ids S S' ∧ Rep true S' (.sl 4 (mkE (l.map GStored.d) k)) c ids) := by
  refine evA_intro tok Tryz.func63 (by kernel_rfl) rfl ?_
  skip
  refine loop_intro {p : Nat × Store // p.1 ≤ l.length ∧ Mk ids S p.2 ∧ Rep true p.2 (.sl 4 (mkE ((l.take p.1).map GStored.d) k ++ (l.drop p.1).map GStored.d)) c ids} [1, 5, 6, 7, 8, 9, 10, 11, 12, 13, 14, 15, 16, 17, 18, 19, 20, 21, 22, 23, 24, 25, 26, 27, 28, 29, 30, 31, 32, 33, 34, 35, 36, 37, 38, 39] (fun zb => [(1, .v (.s (.int .i64 (k + (cntE ((l.take zb.1.1).map GStored.d) : Int))))), (5, .v (.s (.int .i64 zb.1.1)))]) (fun zb => zb.1.2) (fun zb => l.length - zb.1.1) ⟨(0, S), Nat.zero_le _, Mk.refl _ _, by simpa [mkE_nil] using h⟩ ?_ rfl ?_
  · (conv => whnf); repeat' (first | exact trivial | exact rfl | (show _ = _; simp [cntE_nil]; done) | apply And.intro)
  rintro ⟨⟨i, Si⟩, hi, hM, hR⟩; dsimp only
  replace hi : i ≤ l.length := hi
  replace hM : Mk ids S Si := hM
  replace hR : Rep true Si (.sl 4 (mkE ((l.take i).map GStored.d) k ++ (l.drop i).map GStored.d)) c ids := hR
  have hlen : (mkE ((l.take i).map GStored.d) k ++ (l.drop i).map GStored.d).length = l.length := by rw [List.length_append, mkE_len]; simp; omega
  have hcM := cntE_le (f := GStored.d) l i
  by_cases hlt : i < l.length
  · have hI := mk_start hM hR hlt
    have hP := mk_pos (f := GStored.d) k hlt
    have hcT := cntE_take (f := GStored.d) hlt
    have hcL := cntE_le (f := GStored.d) l (i + 1)
    have hcD := GStored.cnt (l[i]'hlt)
    repeat' ((conv => whnf) <;> first
     | (refine mk_len (N := l.length) aN aN ?_; intro hml) | rw [wrapI_i64 (by omega)] | refine cD (fun _ => ?_) fun _ => ?_ | refine mk_idx hI aN (by rfl) ?_ | (refine mk_store hI hn aN (by rfl) (by rfl) ?_; clear hI; intro Sm hI) | refine And.intro ?_ ?_)
    all_goals first
      | (exfalso; omega)
      | (obtain ⟨hM2, hR2⟩ := mk_next hI hlt (by rfl)
         refine ⟨⟨(i + 1, _), by dsimp only; omega, hM2, hR2⟩, ?_, rfl, by dsimp only; omega⟩; (conv => whnf); repeat' (first | exact trivial | exact rfl | (show _ = _; congr 3; dsimp only; omega) | apply And.intro))
  · repeat' ((conv => whnf) <;> first
     | (refine mk_len (N := l.length) aN aN ?_; intro hml) | refine cD (fun _ => ?_) fun _ => ?_ | exact hM | exact mk_full hR (by omega) | refine And.intro ?_ ?_)
    all_goals first
      | (exfalso; omega)
      | exact hM
      | exact mk_full hR (by omega)
      | (show _ = _; rw [List.take_of_length_le (by omega)]; rfl)
theorem ev_markGrantS (l : (List GGrant)) (c : C) (ids : List Nat) (k : Int) (S : Store) (h : Rep true S (.sl 7 (l.map GGrant.d)) c ids) (hn : ids.Nodup) (hk : 0 ≤ k ∧ k + (cntE (l.map GGrant.d) : Int) ≤ 4611686018427387904) : EvA Tryz.prog 60 [.s c, .s (.int .i64 k)] S (fun r S' => r = .v (.s (.int .i64 (k + (cntE (l.map GGrant.d) : Int)))) ∧ Mk ids S S' ∧ Rep true S' (.sl 7 (mkE (l.map GGrant.d) k)) c ids) := by
  refine evA_intro tok Tryz.func60 (by kernel_rfl) rfl ?_
  skip
  refine loop_intro {p : Nat × Store // p.1 ≤ l.length ∧ Mk ids S p.2 ∧ Rep true p.2 (.sl 7 (mkE ((l.take p.1).map GGrant.d) k ++ (l.drop p.1).map GGrant.d)) c ids} [1, 5, 6, 7, 8, 9, 10, 11, 12, 13, 14, 15, 16, 17, 18, 19, 20, 21, 22, 23, 24, 25, 26, 27, 28, 29, 30, 31, 32, 33, 34, 35, 36, 37, 38, 39, 40, 41, 42, 43, 44, 45, 46, 47, 48, 49, 50, 51, 52, 53, 54, 55, 56, 57, 58, 59, 60, 61, 62, 63, 64] (fun zb => [(1, .v (.s (.int .i64 (k + (cntE ((l.take zb.1.1).map GGrant.d) : Int))))), (5, .v (.s (.int .i64 zb.1.1)))]) (fun zb => zb.1.2) (fun zb => l.length - zb.1.1) ⟨(0, S), Nat.zero_le _, Mk.refl _ _, by simpa [mkE_nil] using h⟩ ?_ rfl ?_
  · (conv => whnf); repeat' (first | exact trivial | exact rfl | (show _ = _; simp [cntE_nil]; done) | apply And.intro)
  rintro ⟨⟨i, Si⟩, hi, hM, hR⟩; dsimp only
  replace hi : i ≤ l.length := hi
  replace hM : Mk ids S Si := hM
  replace hR : Rep true Si (.sl 7 (mkE ((l.take i).map GGrant.d) k ++ (l.drop i).map GGrant.d)) c ids := hR
  have hlen : (mkE ((l.take i).map GGrant.d) k ++ (l.drop i).map GGrant.d).length = l.length := by rw [List.length_append, mkE_len]; simp; omega
  have hcM := cntE_le (f := GGrant.d) l i
  by_cases hlt : i < l.length
  · have hI := mk_start hM hR hlt
    have hP := mk_pos (f := GGrant.d) k hlt
    have hcT := cntE_take (f := GGrant.d) hlt
    have hcL := cntE_le (f := GGrant.d) l (i + 1)
    have hcD := GGrant.cnt (l[i]'hlt)
    repeat' ((conv => whnf) <;> first
     | (refine mk_len (N := l.length) aN aN ?_; intro hml) | rw [wrapI_i64 (by omega)] | refine cD (fun _ => ?_) fun _ => ?_ | refine mk_idx hI aN (by rfl) ?_ | (refine mk_store hI hn aN (by rfl) (by rfl) ?_; clear hI; intro Sm hI) | refine nP ?_ | refine And.intro ?_ ?_)
    all_goals first
      | (exfalso; omega)
      | (obtain ⟨hM2, hR2⟩ := mk_next hI hlt (by rfl)
         refine ⟨⟨(i + 1, _), by dsimp only; omega, hM2, hR2⟩, ?_, rfl, by dsimp only; omega⟩; (conv => whnf); repeat' (first | exact trivial | exact rfl | (show _ = _; congr 3; dsimp only; omega) | apply And.intro))
  · repeat' ((conv => whnf) <;> first
     | (refine mk_len (N := l.length) aN aN ?_; intro hml) | refine cD (fun _ => ?_) fun _ => ?_ | exact hM | exact mk_full hR (by omega) | refine And.intro ?_ ?_)
    all_goals first
      | (exfalso; omega)
      | exact hM
      | exact mk_full hR (by omega)
      | (show _ = _; rw [List.take_of_length_le (by omega)]; rfl)
theorem ev_markLimitS (l : (List GLimit)) (c : C) (ids : List Nat) (k : Int) (S : Store) (h : Rep true S (.sl 4 (l.map GLimit.d)) c ids) (hn : ids.Nodup) (hk : 0 ≤ k ∧ k + (cntE (l.map GLimit.d) : Int) ≤ 4611686018427387904) : EvA Tryz.prog 61 [.s c, .s (.int .i64 k)] S (fun r S' => r = .v (.s (.int .i64 (k + (cntE (l.map GLimit.d) : Int)))) ∧ Mk ids S S' ∧ Rep true S' (.sl 4 (mkE (l.map GLimit.d) k)) c ids) := by
  refine evA_intro tok Tryz.func61 (by kernel_rfl) rfl ?_
  skip
  refine loop_intro {p : Nat × Store // p.1 ≤ l.length ∧ Mk ids S p.2 ∧ Rep true p.2 (.sl 4 (mkE ((l.take p.1).map GLimit.d) k ++ (l.drop p.1).map GLimit.d)) c ids} [1, 5, 6, 7, 8, 9, 10, 11, 12, 13, 14, 15, 16, 17, 18, 19, 20, 21, 22, 23, 24, 25, 26, 27, 28, 29, 30, 31, 32, 33, 34, 35, 36, 37, 38, 39, 40, 41] (fun zb => [(1, .v (.s (.int .i64 (k + (cntE ((l.take zb.1.1).map GLimit.d) : Int))))), (5, .v (.s (.int .i64 zb.1.1)))]) (fun zb => zb.1.2) (fun zb => l.length - zb.1.1) ⟨(0, S), Nat.zero_le _, Mk.refl _ _, by simpa [mkE_nil] using h⟩ ?_ rfl ?_
  · (conv => whnf); repeat' (first | exact trivial | exact rfl | (show _ = _; simp [cntE_nil]; done) | apply And.intro)
  rintro ⟨⟨i, Si⟩, hi, hM, hR⟩; dsimp only
  replace hi : i ≤ l.length := hi
  replace hM : Mk ids S Si := hM
  replace hR : Rep true Si (.sl 4 (mkE ((l.take i).map GLimit.d) k ++ (l.drop i).map GLimit.d)) c ids := hR
  have hlen : (mkE ((l.take i).map GLimit.d) k ++ (l.drop i).map GLimit.d).length = l.length := by rw [List.length_append, mkE_len]; simp; omega
  have hcM := cntE_le (f := GLimit.d) l i
  by_cases hlt : i < l.length
  · have hI := mk_start hM hR hlt
    have hP := mk_pos (f := GLimit.d) k hlt
    have hcT := cntE_take (f := GLimit.d) hlt
    have hcL := cntE_le (f := GLimit.d) l (i + 1)
    have hcD := GLimit.cnt (l[i]'hlt)
    repeat' ((conv => whnf) <;> first
     | (refine mk_len (N := l.length) aN aN ?_; intro hml) | rw [wrapI_i64 (by omega)] | refine cD (fun _ => ?_) fun _ => ?_ | refine mk_idx hI aN (by rfl) ?_ | (refine mk_store hI hn aN (by rfl) (by rfl) ?_; clear hI; intro Sm hI) | refine And.intro ?_ ?_)
    all_goals first
      | (exfalso; omega)
      | (obtain ⟨hM2, hR2⟩ := mk_next hI hlt (by rfl)
         refine ⟨⟨(i + 1, _), by dsimp only; omega, hM2, hR2⟩, ?_, rfl, by dsimp only; omega⟩; (conv => whnf); repeat' (first | exact trivial | exact rfl | (show _ = _; congr 3; dsimp only; omega) | apply And.intro))
  · repeat' ((conv => whnf) <;> first
     | (refine mk_len (N := l.length) aN aN ?_; intro hml) | refine cD (fun _ => ?_) fun _ => ?_ | exact hM | exact mk_full hR (by omega) | refine And.intro ?_ ?_)
    all_goals first
      | (exfalso; omega)
      | exact hM
      | exact mk_full hR (by omega)
      | (show _ = _; rw [List.take_of_length_le (by omega)]; rfl)
theorem ev_markRuleS (l : (List GRule)) (c : C) (ids : List Nat) (k : Int) (S : Store) (h : Rep true S (.sl 8 (l.map GRule.d)) c ids) (hn : ids.Nodup) (hk : 0 ≤ k ∧ k + (cntE (l.map GRule.d) : Int) ≤ 4611686018427387904) : EvA Tryz.prog 62 [.s c, .s (.int .i64 k)] S (fun r S' => r = .v (.s (.int .i64 (k + (cntE (l.map GRule.d) : Int)))) ∧ Mk ids S S' ∧ Rep true S' (.sl 8 (mkE (l.map GRule.d) k)) c ids) := by
  refine evA_intro tok Tryz.func62 (by kernel_rfl) rfl ?_
  skip
  refine loop_intro {p : Nat × Store // p.1 ≤ l.length ∧ Mk ids S p.2 ∧ Rep true p.2 (.sl 8 (mkE ((l.take p.1).map GRule.d) k ++ (l.drop p.1).map GRule.d)) c ids} [1, 5, 6, 7, 8, 9, 10, 11, 12, 13, 14, 15, 16, 17, 18, 19, 20, 21, 22, 23, 24, 25, 26, 27, 28, 29, 30, 31, 32, 33, 34, 35, 36, 37, 38, 39, 40, 41, 42, 43, 44, 45, 46, 47, 48, 49, 50, 51, 52, 53, 54, 55, 56, 57, 58, 59, 60, 61, 62, 63, 64, 65, 66, 67, 68, 69, 70, 71] (fun zb => [(1, .v (.s (.int .i64 (k + (cntE ((l.take zb.1.1).map GRule.d) : Int))))), (5, .v (.s (.int .i64 zb.1.1)))]) (fun zb => zb.1.2) (fun zb => l.length - zb.1.1) ⟨(0, S), Nat.zero_le _, Mk.refl _ _, by simpa [mkE_nil] using h⟩ ?_ rfl ?_
  · (conv => whnf); repeat' (first | exact trivial | exact rfl | (show _ = _; simp [cntE_nil]; done) | apply And.intro)
  rintro ⟨⟨i, Si⟩, hi, hM, hR⟩; dsimp only
  replace hi : i ≤ l.length := hi
  replace hM : Mk ids S Si := hM
  replace hR : Rep true Si (.sl 8 (mkE ((l.take i).map GRule.d) k ++ (l.drop i).map GRule.d)) c ids := hR
  have hlen : (mkE ((l.take i).map GRule.d) k ++ (l.drop i).map GRule.d).length = l.length := by rw [List.length_append, mkE_len]; simp; omega
  have hcM := cntE_le (f := GRule.d) l i
  by_cases hlt : i < l.length
  · have hI := mk_start hM hR hlt
    have hP := mk_pos (f := GRule.d) k hlt
    have hcT := cntE_take (f := GRule.d) hlt
    have hcL := cntE_le (f := GRule.d) l (i + 1)
    have hcD := GRule.cnt (l[i]'hlt)
    repeat' ((conv => whnf) <;> first
     | (refine mk_len (N := l.length) aN aN ?_; intro hml) | rw [wrapI_i64 (by omega)] | refine cD (fun _ => ?_) fun _ => ?_ | refine mk_idx hI aN (by rfl) ?_ | (refine mk_store hI hn aN (by rfl) (by rfl) ?_; clear hI; intro Sm hI) | refine And.intro ?_ ?_)
    all_goals first
      | (exfalso; omega)
      | (obtain ⟨hM2, hR2⟩ := mk_next hI hlt (by rfl)
         refine ⟨⟨(i + 1, _), by dsimp only; omega, hM2, hR2⟩, ?_, rfl, by dsimp only; omega⟩; (conv => whnf); repeat' (first | exact trivial | exact rfl | (show _ = _; congr 3; dsimp only; omega) | apply And.intro))
  · repeat' ((conv => whnf) <;> first
     | (refine mk_len (N := l.length) aN aN ?_; intro hml) | refine cD (fun _ => ?_) fun _ => ?_ | exact hM | exact mk_full hR (by omega) | refine And.intro ?_ ?_)
    all_goals first
      | (exfalso; omega)
      | exact hM
      | exact mk_full hR (by omega)
      | (show _ = _; rw [List.take_of_length_le (by omega)]; rfl)
theorem ev_markTabS (l : (List GTab)) (c : C) (ids : List Nat) (k : Int) (S : Store) (h : Rep true S (.sl 6 (l.map GTab.d)) c ids) (hn : ids.Nodup) (hk : 0 ≤ k ∧ k + (cntE (l.map GTab.d) : Int) ≤ 4611686018427387904) : EvA Tryz.prog 58 [.s c, .s (.int .i64 k)] S (fun r S' => r = .v (.s (.int .i64 (k + (cntE (l.map GTab.d) : Int)))) ∧ Mk ids S S' ∧ Rep true S' (.sl 6 (mkE (l.map GTab.d) k)) c ids) := by
  refine evA_intro tok Tryz.func58 (by kernel_rfl) rfl ?_
  skip
  refine loop_intro {p : Nat × Store // p.1 ≤ l.length ∧ Mk ids S p.2 ∧ Rep true p.2 (.sl 6 (mkE ((l.take p.1).map GTab.d) k ++ (l.drop p.1).map GTab.d)) c ids} [1, 5, 6, 7, 8, 9, 10, 11, 12, 13, 14, 15, 16, 17, 18, 19, 20, 21, 22, 23, 24, 25, 26, 27, 28, 29, 30, 31, 32, 33, 34, 35, 36, 37, 38, 39, 40, 41, 42, 43, 44, 45, 46, 47, 48, 49, 50, 51, 52, 53, 54, 55] (fun zb => [(1, .v (.s (.int .i64 (k + (cntE ((l.take zb.1.1).map GTab.d) : Int))))), (5, .v (.s (.int .i64 zb.1.1)))]) (fun zb => zb.1.2) (fun zb => l.length - zb.1.1) ⟨(0, S), Nat.zero_le _, Mk.refl _ _, by simpa [mkE_nil] using h⟩ ?_ rfl ?_
  · (conv => whnf); repeat' (first | exact trivial | exact rfl | (show _ = _; simp [cntE_nil]; done) | apply And.intro)
  rintro ⟨⟨i, Si⟩, hi, hM, hR⟩; dsimp only
  replace hi : i ≤ l.length := hi
  replace hM : Mk ids S Si := hM
  replace hR : Rep true Si (.sl 6 (mkE ((l.take i).map GTab.d) k ++ (l.drop i).map GTab.d)) c ids := hR
  have hlen : (mkE ((l.take i).map GTab.d) k ++ (l.drop i).map GTab.d).length = l.length := by rw [List.length_append, mkE_len]; simp; omega
  have hcM := cntE_le (f := GTab.d) l i
  by_cases hlt : i < l.length
  · have hI := mk_start hM hR hlt
    have hP := mk_pos (f := GTab.d) k hlt
    have hcT := cntE_take (f := GTab.d) hlt
    have hcL := cntE_le (f := GTab.d) l (i + 1)
    have hcD := GTab.cnt (l[i]'hlt)
    repeat' ((conv => whnf) <;> first
     | (refine mk_len (N := l.length) aN aN ?_; intro hml) | rw [wrapI_i64 (by omega)] | refine cD (fun _ => ?_) fun _ => ?_ | refine mk_idx hI aN (by rfl) ?_ | (refine mk_store hI hn aN (by rfl) (by rfl) ?_; clear hI; intro Sm hI) | (refine mk_sub (off := 2) hI hn aN (by rfl) (by rfl) ?_; intro cs j hj hjn hput; (conv => whnf); refine callP_intro (ev_markNodeS _ _ _ _ _ hj hjn om) ?_; rintro _ Sm ⟨rfl, hMm, hRm⟩; replace hI := hput _ _ hMm hRm; clear hput hMm hRm hj) | (refine mk_sub (off := 3) hI hn aN (by rfl) (by rfl) ?_; intro cs j hj hjn hput; (conv => whnf); refine callP_intro (ev_markEditS _ _ _ _ _ hj hjn om) ?_; rintro _ Sm ⟨rfl, hMm, hRm⟩; replace hI := hput _ _ hMm hRm; clear hput hMm hRm hj) | (refine mk_sub (off := 4) hI hn aN (by rfl) (by rfl) ?_; intro cs j hj hjn hput; (conv => whnf); refine callP_intro (ev_markIntS _ _ _ _ _ hj hjn om) ?_; rintro _ Sm ⟨rfl, hMm, hRm⟩; replace hI := hput _ _ hMm hRm; clear hput hMm hRm hj) | refine And.intro ?_ ?_)
    all_goals first
      | (exfalso; omega)
      | (obtain ⟨hM2, hR2⟩ := mk_next hI hlt (by rfl)
         refine ⟨⟨(i + 1, _), by dsimp only; omega, hM2, hR2⟩, ?_, rfl, by dsimp only; omega⟩; (conv => whnf); repeat' (first | exact trivial | exact rfl | (show _ = _; congr 3; dsimp only; omega) | apply And.intro))
  · repeat' ((conv => whnf) <;> first
     | (refine mk_len (N := l.length) aN aN ?_; intro hml) | refine cD (fun _ => ?_) fun _ => ?_ | exact hM | exact mk_full hR (by omega) | refine And.intro ?_ ?_)
    all_goals first
      | (exfalso; omega)
      | exact hM
      | exact mk_full hR (by omega)
      | (show _ = _; rw [List.take_of_length_le (by omega)]; rfl)
theorem ev_markPackageS (l : (List GPackage)) (c : C) (ids : List Nat) (k : Int) (S : Store) (h : Rep true S (.sl 8 (l.map GPackage.d)) c ids) (hn : ids.Nodup) (hk : 0 ≤ k ∧ k + (cntE (l.map GPackage.d) : Int) ≤ 4611686018427387904) : EvA Tryz.prog 59 [.s c, .s (.int .i64 k)] S (fun r S' => r = .v (.s (.int .i64 (k + (cntE (l.map GPackage.d) : Int)))) ∧ Mk ids S S' ∧ Rep true S' (.sl 8 (mkE (l.map GPackage.d) k)) c ids) := by
  refine evA_intro tok Tryz.func59 (by kernel_rfl) rfl ?_
  skip
  refine loop_intro {p : Nat × Store // p.1 ≤ l.length ∧ Mk ids S p.2 ∧ Rep true p.2 (.sl 8 (mkE ((l.take p.1).map GPackage.d) k ++ (l.drop p.1).map GPackage.d)) c ids} [1, 5, 6, 7, 8, 9, 10, 11, 12, 13, 14, 15, 16, 17, 18, 19, 20, 21, 22, 23, 24, 25, 26, 27, 28, 29, 30, 31, 32, 33, 34, 35, 36, 37, 38, 39, 40, 41, 42, 43, 44, 45, 46, 47, 48, 49, 50, 51, 52, 53, 54, 55, 56, 57, 58, 59, 60, 61, 62, 63, 64, 65, 66, 67] (fun zb => [(1, .v (.s (.int .i64 (k + (cntE ((l.take zb.1.1).map GPackage.d) : Int))))), (5, .v (.s (.int .i64 zb.1.1)))]) (fun zb => zb.1.2) (fun zb => l.length - zb.1.1) ⟨(0, S), Nat.zero_le _, Mk.refl _ _, by simpa [mkE_nil] using h⟩ ?_ rfl ?_
  · (conv => whnf); repeat' (first | exact trivial | exact rfl | (show _ = _; simp [cntE_nil]; done) | apply And.intro)
  rintro ⟨⟨i, Si⟩, hi, hM, hR⟩; dsimp only
  replace hi : i ≤ l.length := hi
  replace hM : Mk ids S Si := hM
  replace hR : Rep true Si (.sl 8 (mkE ((l.take i).map GPackage.d) k ++ (l.drop i).map GPackage.d)) c ids := hR
  have hlen : (mkE ((l.take i).map GPackage.d) k ++ (l.drop i).map GPackage.d).length = l.length := by rw [List.length_append, mkE_len]; simp; omega
  have hcM := cntE_le (f := GPackage.d) l i
  by_cases hlt : i < l.length
  · have hI := mk_start hM hR hlt
    have hP := mk_pos (f := GPackage.d) k hlt
    have hcT := cntE_take (f := GPackage.d) hlt
    have hcL := cntE_le (f := GPackage.d) l (i + 1)
    have hcD := GPackage.cnt (l[i]'hlt)
    repeat' ((conv => whnf) <;> first
     | (refine mk_len (N := l.length) aN aN ?_; intro hml) | rw [wrapI_i64 (by omega)] | refine cD (fun _ => ?_) fun _ => ?_ | refine mk_idx hI aN (by rfl) ?_ | (refine mk_store hI hn aN (by rfl) (by rfl) ?_; clear hI; intro Sm hI) | (refine mk_sub (off := 3) hI hn aN (by rfl) (by rfl) ?_; intro cs j hj hjn hput; (conv => whnf); refine callP_intro (ev_markGrantS _ _ _ _ _ hj hjn om) ?_; rintro _ Sm ⟨rfl, hMm, hRm⟩; replace hI := hput _ _ hMm hRm; clear hput hMm hRm hj) | (refine mk_sub (off := 4) hI hn aN (by rfl) (by rfl) ?_; intro cs j hj hjn hput; (conv => whnf); refine callP_intro (ev_markFlowS _ _ _ _ _ hj hjn om) ?_; rintro _ Sm ⟨rfl, hMm, hRm⟩; replace hI := hput _ _ hMm hRm; clear hput hMm hRm hj) | (refine mk_sub (off := 5) hI hn aN (by rfl) (by rfl) ?_; intro cs j hj hjn hput; (conv => whnf); refine callP_intro (ev_markRuleS _ _ _ _ _ hj hjn om) ?_; rintro _ Sm ⟨rfl, hMm, hRm⟩; replace hI := hput _ _ hMm hRm; clear hput hMm hRm hj) | (refine mk_sub (off := 6) hI hn aN (by rfl) (by rfl) ?_; intro cs j hj hjn hput; (conv => whnf); refine callP_intro (ev_markOpS _ _ _ _ _ hj hjn om) ?_; rintro _ Sm ⟨rfl, hMm, hRm⟩; replace hI := hput _ _ hMm hRm; clear hput hMm hRm hj) | refine And.intro ?_ ?_)
    all_goals first
      | (exfalso; omega)
      | (obtain ⟨hM2, hR2⟩ := mk_next hI hlt (by rfl)
         refine ⟨⟨(i + 1, _), by dsimp only; omega, hM2, hR2⟩, ?_, rfl, by dsimp only; omega⟩; (conv => whnf); repeat' (first | exact trivial | exact rfl | (show _ = _; congr 3; dsimp only; omega) | apply And.intro))
  · repeat' ((conv => whnf) <;> first
     | (refine mk_len (N := l.length) aN aN ?_; intro hml) | refine cD (fun _ => ?_) fun _ => ?_ | exact hM | exact mk_full hR (by omega) | refine And.intro ?_ ?_)
    all_goals first
      | (exfalso; omega)
      | exact hM
      | exact mk_full hR (by omega)
      | (show _ = _; rw [List.take_of_length_le (by omega)]; rfl)
theorem ev_markBrowser (x : GBrowser) (cs : List C) (ids : List Nat) (k : Int) (S : Store) (h : RepL true S x.d cs ids) (hn : ids.Nodup) (hk : 0 ≤ k ∧ k + (cntT x.d : Int) ≤ 4611686018427387904) : EvA Tryz.prog 13 [.agg cs, .s (.int .i64 k)] S (fun r S' => r = .v (.s (.int .i64 (k + (cntT x.d : Int)))) ∧ Mk ids S S' ∧ RepL true S' (mkT x.d k) cs ids) := by
  have hcT := GBrowser.cT x
  have hM := Mk.refl ids S
  have hE : (V.agg cs) = V.agg (lstC cs 8 0) := by rw [← lstC_all (cs := cs) (n := 8) h.len]
  rw [hE]
  refine evA_intro tok Tryz.func13 (by kernel_rfl) rfl ?_
  skip
  obtain ⟨j, hj, hjn, hput⟩ := repL_sub (off := 1) h hn (by rfl)
  refine callP_intro (ev_markTabS _ _ _ _ _ hj hjn (by omega)) ?_; rintro _ Sm ⟨rfl, hMm, hRm⟩
  obtain ⟨h, hM2⟩ := hput _ _ hMm hRm
  replace hM := hM.trans hM2
  clear hput hMm hRm hj hM2
  skip
  obtain ⟨j, hj, hjn, hput⟩ := repL_sub (off := 2) h hn (by rfl)
  refine callP_intro (ev_markPackageS _ _ _ _ _ hj hjn (by omega)) ?_; rintro _ Sm ⟨rfl, hMm, hRm⟩
  obtain ⟨h, hM2⟩ := hput _ _ hMm hRm
  replace hM := hM.trans hM2
  clear hput hMm hRm hj hM2
  skip
  obtain ⟨j, hj, hjn, hput⟩ := repL_sub (off := 3) h hn (by rfl)
  refine callP_intro (ev_markGrantS _ _ _ _ _ hj hjn (by omega)) ?_; rintro _ Sm ⟨rfl, hMm, hRm⟩
  obtain ⟨h, hM2⟩ := hput _ _ hMm hRm
  replace hM := hM.trans hM2
  clear hput hMm hRm hj hM2
  skip
  obtain ⟨j, hj, hjn, hput⟩ := repL_sub (off := 4) h hn (by rfl)
  refine callP_intro (ev_markLimitS _ _ _ _ _ hj hjn (by omega)) ?_; rintro _ Sm ⟨rfl, hMm, hRm⟩
  obtain ⟨h, hM2⟩ := hput _ _ hMm hRm
  replace hM := hM.trans hM2
  clear hput hMm hRm hj hM2
  skip
  obtain ⟨j, hj, hjn, hput⟩ := repL_sub (off := 5) h hn (by rfl)
  refine callP_intro (ev_markRuleS _ _ _ _ _ hj hjn (by omega)) ?_; rintro _ Sm ⟨rfl, hMm, hRm⟩
  obtain ⟨h, hM2⟩ := hput _ _ hMm hRm
  replace hM := hM.trans hM2
  clear hput hMm hRm hj hM2
  skip
  obtain ⟨j, hj, hjn, hput⟩ := repL_sub (off := 6) h hn (by rfl)
  refine callP_intro (ev_markStoredS _ _ _ _ _ hj hjn (by omega)) ?_; rintro _ Sm ⟨rfl, hMm, hRm⟩
  obtain ⟨h, hM2⟩ := hput _ _ hMm hRm
  replace hM := hM.trans hM2
  clear hput hMm hRm hj hM2
  repeat' ((conv => whnf) <;> first
   | exact hM | exact h | refine And.intro ?_ ?_)
  all_goals first
    | exact hM
    | exact h
    | (show _ = _; simp only [resAV]; congr 3 <;> omega)
end Go.Proofs.YtibglkkmjigooaaGreat
