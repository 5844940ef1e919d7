/- The laws' mark.. functions. -/
import Derived.Test.YtjknkcgngchboaaAeO
import Derived.Test.YtjknkcgngchboaaFnA
namespace Go.Proofs.Ytjknkcgngchboaa
open Go Go.ChangeShapes Go.WideShapes Go.ChangeAt Go.RowKit
set_option linter.unusedVariables false
set_option maxRecDepth 100000

theorem ev_markIntS (l : (List Int)) (c : C) (ids : List Nat) (k : Int) (S : Store) (h : Rep true S (.sl 1 (l.map dInt)) c ids) (hn : ids.Nodup) (hk : 0 ≤ k ∧ k + (cntE (l.map dInt) : Int) ≤ 4611686018427387904) : EvA Try.prog 27 [.s c, .s (.int .i64 k)] S (fun r S' => r = .v (.s (.int .i64 (k + (cntE (l.map dInt) : Int)))) ∧ Mk ids S S' ∧ Rep true S' (.sl 1 (mkE (l.map dInt) k)) c ids) := by
  refine evA_intro tok Try.func27 (by kernel_rfl) rfl ?_
  repeat' ((conv => whnf) <;> first
      | rw [wrapI_i64 (by omega)]
      | refine condP_dec (fun _ => ?_) (fun _ => ?_)
      | refine condP_ndec (fun _ => ?_) (fun _ => ?_)
      | refine condP_true rfl ?_
      | refine condP_false rfl ?_
      | refine mk_idx hI (by assumption) (by rfl) ?_
      | (refine mk_store hI hn (by assumption) (by rfl) (by rfl) ?_; clear hI; intro Sm hI)
      | refine condP_intro (fun _ => ?_) (fun _ => ?_)
      | refine needP_intro (by first | omega | (constructor <;> omega) | fail) ?_
      | refine And.intro ?_ ?_)
  refine loop_intro {p : Nat × Store // p.1 ≤ l.length ∧ Mk ids S p.2 ∧ Rep true p.2 (.sl 1 (mkE ((l.take p.1).map dInt) k ++ (l.drop p.1).map dInt)) c ids} [1, 5, 6, 7, 8, 9, 10, 11, 12, 13, 14, 15, 16, 17] (fun zb => [(1, .v (.s (.int .i64 (k + (cntE ((l.take zb.1.1).map dInt) : Int))))), (5, .v (.s (.int .i64 zb.1.1)))]) (fun zb => zb.1.2) (fun zb => l.length - zb.1.1) ⟨(0, S), Nat.zero_le _, Mk.refl _ _, by simpa [mkE_nil] using h⟩ ?_ rfl ?_
  · (conv => whnf); repeat' (first | exact trivial | exact rfl | (show _ = _; simp [cntE_nil]; done) | apply And.intro)
  rintro ⟨⟨i, Si⟩, hi, hM, hR⟩; dsimp only
  replace hi : i ≤ l.length := hi
  replace hM : Mk ids S Si := hM
  replace hR : Rep true Si (.sl 1 (mkE ((l.take i).map dInt) k ++ (l.drop i).map dInt)) c ids := hR
  have hlen : (mkE ((l.take i).map dInt) k ++ (l.drop i).map dInt).length = l.length := by rw [List.length_append, mkE_len]; simp; omega
  have hcM := cntE_le (f := dInt) l i
  by_cases hlt : i < l.length
  · have hI := mk_start hM hR hlt
    have hP := mk_pos (f := dInt) k hlt
    have hcT := cntE_take (f := dInt) hlt
    have hcL := cntE_le (f := dInt) l (i + 1)
    have hcD := int_cnt (l[i]'hlt)
    repeat' ((conv => whnf) <;> first
        | (refine mk_len (N := l.length) (by assumption) (by assumption) ?_; intro hml)
        | rw [wrapI_i64 (by omega)]
        | refine condP_dec (fun _ => ?_) (fun _ => ?_)
        | refine condP_ndec (fun _ => ?_) (fun _ => ?_)
        | refine condP_true rfl ?_
        | refine condP_false rfl ?_
        | refine mk_idx hI (by assumption) (by rfl) ?_
        | (refine mk_store hI hn (by assumption) (by rfl) (by rfl) ?_; clear hI; intro Sm hI)
        | refine condP_intro (fun _ => ?_) (fun _ => ?_)
        | refine needP_intro (by first | omega | (constructor <;> omega) | fail) ?_
        | refine And.intro ?_ ?_)
    all_goals first
      | (exfalso; omega)
      | (obtain ⟨hM2, hR2⟩ := mk_next hI hlt (by rfl)
         refine ⟨⟨(i + 1, _), by dsimp only; omega, hM2, hR2⟩, ?_, rfl, by dsimp only; omega⟩; (conv => whnf); repeat' (first | exact trivial | exact rfl | (show _ = _; congr 3; dsimp only; omega) | apply And.intro))
  · repeat' ((conv => whnf) <;> first
        | (refine mk_len (N := l.length) (by assumption) (by assumption) ?_; intro hml)
        | rw [wrapI_i64 (by omega)]
        | refine condP_dec (fun _ => ?_) (fun _ => ?_)
        | refine condP_ndec (fun _ => ?_) (fun _ => ?_)
        | refine condP_true rfl ?_
        | refine condP_false rfl ?_
        | refine mk_idx hI (by assumption) (by rfl) ?_
        | (refine mk_store hI hn (by assumption) (by rfl) (by rfl) ?_; clear hI; intro Sm hI)
        | refine condP_intro (fun _ => ?_) (fun _ => ?_)
        | refine needP_intro (by first | omega | (constructor <;> omega) | fail) ?_
        | exact hM
        | exact mk_full hR (by omega)
        | exact h
        | refine And.intro ?_ ?_)
    all_goals first
      | (exfalso; omega)
      | exact hM
      | exact mk_full hR (by omega)
      | (show _ = _; rw [List.take_of_length_le (by omega)]; rfl)

theorem ev_markEditS (l : (List GEdit)) (c : C) (ids : List Nat) (k : Int) (S : Store) (h : Rep true S (.sl 6 (l.map GEdit.d)) c ids) (hn : ids.Nodup) (hk : 0 ≤ k ∧ k + (cntE (l.map GEdit.d) : Int) ≤ 4611686018427387904) : EvA Try.prog 26 [.s c, .s (.int .i64 k)] S (fun r S' => r = .v (.s (.int .i64 (k + (cntE (l.map GEdit.d) : Int)))) ∧ Mk ids S S' ∧ Rep true S' (.sl 6 (mkE (l.map GEdit.d) k)) c ids) := by
  refine evA_intro tok Try.func26 (by kernel_rfl) rfl ?_
  repeat' ((conv => whnf) <;> first
      | rw [wrapI_i64 (by omega)]
      | refine condP_dec (fun _ => ?_) (fun _ => ?_)
      | refine condP_ndec (fun _ => ?_) (fun _ => ?_)
      | refine condP_true rfl ?_
      | refine condP_false rfl ?_
      | refine mk_idx hI (by assumption) (by rfl) ?_
      | (refine mk_store hI hn (by assumption) (by rfl) (by rfl) ?_; clear hI; intro Sm hI)
      | refine condP_intro (fun _ => ?_) (fun _ => ?_)
      | refine needP_intro (by first | omega | (constructor <;> omega) | fail) ?_
      | refine And.intro ?_ ?_)
  refine loop_intro {p : Nat × Store // p.1 ≤ l.length ∧ Mk ids S p.2 ∧ Rep true p.2 (.sl 6 (mkE ((l.take p.1).map GEdit.d) k ++ (l.drop p.1).map GEdit.d)) c ids} [1, 5, 6, 7, 8, 9, 10, 11, 12, 13, 14, 15, 16, 17, 18, 19, 20, 21, 22, 23, 24, 25, 26, 27, 28, 29, 30, 31, 32, 33, 34, 35, 36, 37, 38, 39, 40, 41, 42, 43, 44, 45, 46, 47, 48, 49, 50, 51, 52, 53] (fun zb => [(1, .v (.s (.int .i64 (k + (cntE ((l.take zb.1.1).map GEdit.d) : Int))))), (5, .v (.s (.int .i64 zb.1.1)))]) (fun zb => zb.1.2) (fun zb => l.length - zb.1.1) ⟨(0, S), Nat.zero_le _, Mk.refl _ _, by simpa [mkE_nil] using h⟩ ?_ rfl ?_
  · (conv => whnf); repeat' (first | exact trivial | exact rfl | (show _ = _; simp [cntE_nil]; done) | apply And.intro)
  rintro ⟨⟨i, Si⟩, hi, hM, hR⟩; dsimp only
  replace hi : i ≤ l.length := hi
  replace hM : Mk ids S Si := hM
  replace hR : Rep true Si (.sl 6 (mkE ((l.take i).map GEdit.d) k ++ (l.drop i).map GEdit.d)) c ids := hR
  have hlen : (mkE ((l.take i).map GEdit.d) k ++ (l.drop i).map GEdit.d).length = l.length := by rw [List.length_append, mkE_len]; simp; omega
  have hcM := cntE_le (f := GEdit.d) l i
  by_cases hlt : i < l.length
  · have hI := mk_start hM hR hlt
    have hP := mk_pos (f := GEdit.d) k hlt
    have hcT := cntE_take (f := GEdit.d) hlt
    have hcL := cntE_le (f := GEdit.d) l (i + 1)
    have hcD := GEdit.cnt (l[i]'hlt)
    repeat' ((conv => whnf) <;> first
        | (refine mk_len (N := l.length) (by assumption) (by assumption) ?_; intro hml)
        | rw [wrapI_i64 (by omega)]
        | refine condP_dec (fun _ => ?_) (fun _ => ?_)
        | refine condP_ndec (fun _ => ?_) (fun _ => ?_)
        | refine condP_true rfl ?_
        | refine condP_false rfl ?_
        | refine mk_idx hI (by assumption) (by rfl) ?_
        | (refine mk_store hI hn (by assumption) (by rfl) (by rfl) ?_; clear hI; intro Sm hI)
        | refine condP_intro (fun _ => ?_) (fun _ => ?_)
        | refine needP_intro (by first | omega | (constructor <;> omega) | fail) ?_
        | refine And.intro ?_ ?_)
    all_goals first
      | (exfalso; omega)
      | (obtain ⟨hM2, hR2⟩ := mk_next hI hlt (by rfl)
         refine ⟨⟨(i + 1, _), by dsimp only; omega, hM2, hR2⟩, ?_, rfl, by dsimp only; omega⟩; (conv => whnf); repeat' (first | exact trivial | exact rfl | (show _ = _; congr 3; dsimp only; omega) | apply And.intro))
  · repeat' ((conv => whnf) <;> first
        | (refine mk_len (N := l.length) (by assumption) (by assumption) ?_; intro hml)
        | rw [wrapI_i64 (by omega)]
        | refine condP_dec (fun _ => ?_) (fun _ => ?_)
        | refine condP_ndec (fun _ => ?_) (fun _ => ?_)
        | refine condP_true rfl ?_
        | refine condP_false rfl ?_
        | refine mk_idx hI (by assumption) (by rfl) ?_
        | (refine mk_store hI hn (by assumption) (by rfl) (by rfl) ?_; clear hI; intro Sm hI)
        | refine condP_intro (fun _ => ?_) (fun _ => ?_)
        | refine needP_intro (by first | omega | (constructor <;> omega) | fail) ?_
        | exact hM
        | exact mk_full hR (by omega)
        | exact h
        | refine And.intro ?_ ?_)
    all_goals first
      | (exfalso; omega)
      | exact hM
      | exact mk_full hR (by omega)
      | (show _ = _; rw [List.take_of_length_le (by omega)]; rfl)

theorem ev_markNodeS (l : (List GNode)) (c : C) (ids : List Nat) (k : Int) (S : Store) (h : Rep true S (.sl 5 (l.map GNode.d)) c ids) (hn : ids.Nodup) (hk : 0 ≤ k ∧ k + (cntE (l.map GNode.d) : Int) ≤ 4611686018427387904) : EvA Try.prog 11 [.s c, .s (.int .i64 k)] S (fun r S' => r = .v (.s (.int .i64 (k + (cntE (l.map GNode.d) : Int)))) ∧ Mk ids S S' ∧ Rep true S' (.sl 5 (mkE (l.map GNode.d) k)) c ids) := by
  refine evA_intro tok Try.func11 (by kernel_rfl) rfl ?_
  repeat' ((conv => whnf) <;> first
      | rw [wrapI_i64 (by omega)]
      | refine condP_dec (fun _ => ?_) (fun _ => ?_)
      | refine condP_ndec (fun _ => ?_) (fun _ => ?_)
      | refine condP_true rfl ?_
      | refine condP_false rfl ?_
      | refine mk_idx hI (by assumption) (by rfl) ?_
      | (refine mk_store hI hn (by assumption) (by rfl) (by rfl) ?_; clear hI; intro Sm hI)
      | refine condP_intro (fun _ => ?_) (fun _ => ?_)
      | refine needP_intro (by first | omega | (constructor <;> omega) | fail) ?_
      | refine And.intro ?_ ?_)
  refine loop_intro {p : Nat × Store // p.1 ≤ l.length ∧ Mk ids S p.2 ∧ Rep true p.2 (.sl 5 (mkE ((l.take p.1).map GNode.d) k ++ (l.drop p.1).map GNode.d)) c ids} [1, 5, 6, 7, 8, 9, 10, 11, 12, 13, 14, 15, 16, 17, 18, 19, 20, 21, 22, 23, 24, 25, 26, 27, 28, 29, 30, 31, 32, 33, 34, 35, 36, 37, 38, 39, 40, 41, 42, 43, 44, 45, 46] (fun zb => [(1, .v (.s (.int .i64 (k + (cntE ((l.take zb.1.1).map GNode.d) : Int))))), (5, .v (.s (.int .i64 zb.1.1)))]) (fun zb => zb.1.2) (fun zb => l.length - zb.1.1) ⟨(0, S), Nat.zero_le _, Mk.refl _ _, by simpa [mkE_nil] using h⟩ ?_ rfl ?_
  · (conv => whnf); repeat' (first | exact trivial | exact rfl | (show _ = _; simp [cntE_nil]; done) | apply And.intro)
  rintro ⟨⟨i, Si⟩, hi, hM, hR⟩; dsimp only
  replace hi : i ≤ l.length := hi
  replace hM : Mk ids S Si := hM
  replace hR : Rep true Si (.sl 5 (mkE ((l.take i).map GNode.d) k ++ (l.drop i).map GNode.d)) c ids := hR
  have hlen : (mkE ((l.take i).map GNode.d) k ++ (l.drop i).map GNode.d).length = l.length := by rw [List.length_append, mkE_len]; simp; omega
  have hcM := cntE_le (f := GNode.d) l i
  by_cases hlt : i < l.length
  · have hI := mk_start hM hR hlt
    have hP := mk_pos (f := GNode.d) k hlt
    have hcT := cntE_take (f := GNode.d) hlt
    have hcL := cntE_le (f := GNode.d) l (i + 1)
    have hcD := GNode.cnt (l[i]'hlt)
    repeat' ((conv => whnf) <;> first
        | (refine mk_len (N := l.length) (by assumption) (by assumption) ?_; intro hml)
        | rw [wrapI_i64 (by omega)]
        | refine condP_dec (fun _ => ?_) (fun _ => ?_)
        | refine condP_ndec (fun _ => ?_) (fun _ => ?_)
        | refine condP_true rfl ?_
        | refine condP_false rfl ?_
        | refine mk_idx hI (by assumption) (by rfl) ?_
        | (refine mk_store hI hn (by assumption) (by rfl) (by rfl) ?_; clear hI; intro Sm hI)
        | refine condP_intro (fun _ => ?_) (fun _ => ?_)
        | refine needP_intro (by first | omega | (constructor <;> omega) | fail) ?_
        | refine And.intro ?_ ?_)
    all_goals first
      | (exfalso; omega)
      | (obtain ⟨hM2, hR2⟩ := mk_next hI hlt (by rfl)
         refine ⟨⟨(i + 1, _), by dsimp only; omega, hM2, hR2⟩, ?_, rfl, by dsimp only; omega⟩; (conv => whnf); repeat' (first | exact trivial | exact rfl | (show _ = _; congr 3; dsimp only; omega) | apply And.intro))
  · repeat' ((conv => whnf) <;> first
        | (refine mk_len (N := l.length) (by assumption) (by assumption) ?_; intro hml)
        | rw [wrapI_i64 (by omega)]
        | refine condP_dec (fun _ => ?_) (fun _ => ?_)
        | refine condP_ndec (fun _ => ?_) (fun _ => ?_)
        | refine condP_true rfl ?_
        | refine condP_false rfl ?_
        | refine mk_idx hI (by assumption) (by rfl) ?_
        | (refine mk_store hI hn (by assumption) (by rfl) (by rfl) ?_; clear hI; intro Sm hI)
        | refine condP_intro (fun _ => ?_) (fun _ => ?_)
        | refine needP_intro (by first | omega | (constructor <;> omega) | fail) ?_
        | exact hM
        | exact mk_full hR (by omega)
        | exact h
        | refine And.intro ?_ ?_)
    all_goals first
      | (exfalso; omega)
      | exact hM
      | exact mk_full hR (by omega)
      | (show _ = _; rw [List.take_of_length_le (by omega)]; rfl)

theorem ev_markTab (x : GTab) (cs : List C) (ids : List Nat) (k : Int) (S : Store) (h : RepL true S x.d cs ids) (hn : ids.Nodup) (hk : 0 ≤ k ∧ k + (cntT x.d : Int) ≤ 4611686018427387904) : EvA Try.prog 10 [.agg cs, .s (.int .i64 k)] S (fun r S' => r = .v (.s (.int .i64 (k + (cntT x.d : Int)))) ∧ Mk ids S S' ∧ RepL true S' (mkT x.d k) cs ids) := by
  have hcT := GTab.cT x
  have hM := Mk.refl ids S
  have hE : (V.agg cs) = V.agg (lstC cs 6 0) := by rw [← lstC_all (cs := cs) (n := 6) h.len]
  rw [hE]
  refine evA_intro tok Try.func10 (by kernel_rfl) rfl ?_
  repeat' ((conv => whnf) <;> first
      | rw [wrapI_i64 (by omega)]
      | refine condP_dec (fun _ => ?_) (fun _ => ?_)
      | refine condP_ndec (fun _ => ?_) (fun _ => ?_)
      | refine condP_true rfl ?_
      | refine condP_false rfl ?_
      | refine mk_idx hI (by assumption) (by rfl) ?_
      | (refine mk_store hI hn (by assumption) (by rfl) (by rfl) ?_; clear hI; intro Sm hI)
      | refine condP_intro (fun _ => ?_) (fun _ => ?_)
      | refine needP_intro (by first | omega | (constructor <;> omega) | fail) ?_
      | refine And.intro ?_ ?_)
  obtain ⟨j, hj, hjn, hput⟩ := repL_sub (off := 2) h hn (by rfl)
  refine callP_intro (ev_markNodeS _ _ _ _ _ hj hjn (by omega)) ?_; rintro _ Sm ⟨rfl, hMm, hRm⟩
  obtain ⟨h, hM2⟩ := hput _ _ hMm hRm
  replace hM := hM.trans hM2
  clear hput hMm hRm hj hM2
  repeat' ((conv => whnf) <;> first
      | rw [wrapI_i64 (by omega)]
      | refine condP_dec (fun _ => ?_) (fun _ => ?_)
      | refine condP_ndec (fun _ => ?_) (fun _ => ?_)
      | refine condP_true rfl ?_
      | refine condP_false rfl ?_
      | refine mk_idx hI (by assumption) (by rfl) ?_
      | (refine mk_store hI hn (by assumption) (by rfl) (by rfl) ?_; clear hI; intro Sm hI)
      | refine condP_intro (fun _ => ?_) (fun _ => ?_)
      | refine needP_intro (by first | omega | (constructor <;> omega) | fail) ?_
      | refine And.intro ?_ ?_)
  obtain ⟨j, hj, hjn, hput⟩ := repL_sub (off := 3) h hn (by rfl)
  refine callP_intro (ev_markEditS _ _ _ _ _ hj hjn (by omega)) ?_; rintro _ Sm ⟨rfl, hMm, hRm⟩
  obtain ⟨h, hM2⟩ := hput _ _ hMm hRm
  replace hM := hM.trans hM2
  clear hput hMm hRm hj hM2
  repeat' ((conv => whnf) <;> first
      | rw [wrapI_i64 (by omega)]
      | refine condP_dec (fun _ => ?_) (fun _ => ?_)
      | refine condP_ndec (fun _ => ?_) (fun _ => ?_)
      | refine condP_true rfl ?_
      | refine condP_false rfl ?_
      | refine mk_idx hI (by assumption) (by rfl) ?_
      | (refine mk_store hI hn (by assumption) (by rfl) (by rfl) ?_; clear hI; intro Sm hI)
      | refine condP_intro (fun _ => ?_) (fun _ => ?_)
      | refine needP_intro (by first | omega | (constructor <;> omega) | fail) ?_
      | refine And.intro ?_ ?_)
  obtain ⟨j, hj, hjn, hput⟩ := repL_sub (off := 4) h hn (by rfl)
  refine callP_intro (ev_markIntS _ _ _ _ _ hj hjn (by omega)) ?_; rintro _ Sm ⟨rfl, hMm, hRm⟩
  obtain ⟨h, hM2⟩ := hput _ _ hMm hRm
  replace hM := hM.trans hM2
  clear hput hMm hRm hj hM2
  repeat' ((conv => whnf) <;> first
      | rw [wrapI_i64 (by omega)]
      | refine condP_dec (fun _ => ?_) (fun _ => ?_)
      | refine condP_ndec (fun _ => ?_) (fun _ => ?_)
      | refine condP_true rfl ?_
      | refine condP_false rfl ?_
      | refine mk_idx hI (by assumption) (by rfl) ?_
      | (refine mk_store hI hn (by assumption) (by rfl) (by rfl) ?_; clear hI; intro Sm hI)
      | refine condP_intro (fun _ => ?_) (fun _ => ?_)
      | refine needP_intro (by first | omega | (constructor <;> omega) | fail) ?_
      | exact hM
      | exact mk_full hR (by omega)
      | exact h
      | refine And.intro ?_ ?_)
  all_goals first
    | exact hM
    | exact h
    | (show _ = _; simp only [resAV]; congr 3 <;> omega)

end Go.Proofs.Ytjknkcgngchboaa
