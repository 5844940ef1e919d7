/- The laws' helpers: sz. -/
import Derived.Test.YtjknkcgngchboaaFnC
namespace Go.Proofs.Ytjknkcgngchboaa
open Go Go.ChangeShapes Go.WideShapes Go.ChangeAt Go.RowKit
set_option linter.unusedVariables false
set_option maxRecDepth 100000

theorem ev_szIntS (l : (List Int)) (c : C) (left : Int) (S : Store) (h : Rd S [.sl 1 (l.map dInt)] [c]) (hl : 0 ≤ left ∧ left ≤ 1048576) : EvA Try.prog 15 [.s c, .s (.int .i64 left)] S (fun r S' => r = .v (.s (.int .i64 (szR left (szL [.sl 1 (l.map dInt)])))) ∧ S' = S) := by
  have hs : szL [.sl 1 (l.map dInt)] = l.length := by simp only [szL, List.length_map]; rw [szLL_flat (by intro x; simp only [szL, dInt])]; rfl
  rw [hs]
  refine evA_intro tok Try.func15 (by kernel_rfl) rfl ?_
  repeat' ((conv => whnf) <;> first
   | rw [wrapI_i64 (by omega)]
   | refine condP_dec (fun _ => ?_) (fun _ => ?_)
   | refine condP_ndec (fun _ => ?_) (fun _ => ?_)
   | refine condP_true rfl ?_
   | refine condP_false rfl ?_
   | refine condP_not (fun _ => ?_) (fun _ => ?_)
   | refine condP_intro (fun _ => ?_) (fun _ => ?_)
   | (refine rd_lenm (by assumption) ?_; intro hml; rw [maxLen_eq] at hml)
   | refine needP_intro (by first | omega | (constructor <;> omega) | fail) ?_
   | refine And.intro ?_ ?_)
  all_goals first | rfl | (simp only [szR, resAV]; rw [if_pos (by omega)]) | (simp only [szR, resAV]; rw [if_neg (by omega)])

theorem ev_szEditS (l : (List GEdit)) (c : C) (left : Int) (S : Store) (h : Rd S [.sl 6 (l.map GEdit.d)] [c]) (hl : 0 ≤ left ∧ left ≤ 1048576) : EvA Try.prog 14 [.s c, .s (.int .i64 left)] S (fun r S' => r = .v (.s (.int .i64 (szR left (szL [.sl 6 (l.map GEdit.d)])))) ∧ S' = S) := by
  have hs : szL [.sl 6 (l.map GEdit.d)] = l.length := by simp only [szL, List.length_map]; rw [szLL_flat (by intro x; simp only [szL, GEdit.d])]; rfl
  rw [hs]
  refine evA_intro tok Try.func14 (by kernel_rfl) rfl ?_
  repeat' ((conv => whnf) <;> first
   | rw [wrapI_i64 (by omega)]
   | refine condP_dec (fun _ => ?_) (fun _ => ?_)
   | refine condP_ndec (fun _ => ?_) (fun _ => ?_)
   | refine condP_true rfl ?_
   | refine condP_false rfl ?_
   | refine condP_not (fun _ => ?_) (fun _ => ?_)
   | refine condP_intro (fun _ => ?_) (fun _ => ?_)
   | (refine rd_lenm (by assumption) ?_; intro hml; rw [maxLen_eq] at hml)
   | refine needP_intro (by first | omega | (constructor <;> omega) | fail) ?_
   | refine And.intro ?_ ?_)
  all_goals first | rfl | (simp only [szR, resAV]; rw [if_pos (by omega)]) | (simp only [szR, resAV]; rw [if_neg (by omega)])

theorem ev_szNodeS (l : (List GNode)) (c : C) (left : Int) (S : Store) (h : Rd S [.sl 5 (l.map GNode.d)] [c]) (hl : 0 ≤ left ∧ left ≤ 1048576) : EvA Try.prog 13 [.s c, .s (.int .i64 left)] S (fun r S' => r = .v (.s (.int .i64 (szR left (szL [.sl 5 (l.map GNode.d)])))) ∧ S' = S) := by
  have hs : szL [.sl 5 (l.map GNode.d)] = l.length := by simp only [szL, List.length_map]; rw [szLL_flat (by intro x; simp only [szL, GNode.d])]; rfl
  rw [hs]
  refine evA_intro tok Try.func13 (by kernel_rfl) rfl ?_
  repeat' ((conv => whnf) <;> first
   | rw [wrapI_i64 (by omega)]
   | refine condP_dec (fun _ => ?_) (fun _ => ?_)
   | refine condP_ndec (fun _ => ?_) (fun _ => ?_)
   | refine condP_true rfl ?_
   | refine condP_false rfl ?_
   | refine condP_not (fun _ => ?_) (fun _ => ?_)
   | refine condP_intro (fun _ => ?_) (fun _ => ?_)
   | (refine rd_lenm (by assumption) ?_; intro hml; rw [maxLen_eq] at hml)
   | refine needP_intro (by first | omega | (constructor <;> omega) | fail) ?_
   | refine And.intro ?_ ?_)
  all_goals first | rfl | (simp only [szR, resAV]; rw [if_pos (by omega)]) | (simp only [szR, resAV]; rw [if_neg (by omega)])

theorem ev_szTab (x : GTab) (cs : List C) (left : Int) (S : Store) (h : Rd S x.d cs) (hl : 0 ≤ left ∧ left ≤ 1048576) : EvA Try.prog 4 [.agg cs, .s (.int .i64 left)] S (fun r S' => r = .v (.s (.int .i64 (szR left (szL x.d)))) ∧ S' = S) := by
  have hs : szL x.d = szL [.sl 5 (x.Base.map GNode.d)] + szL [.sl 6 (x.Edits.map GEdit.d)] + szL [.sl 1 (x.Hidden.map dInt)] := by simp only [GTab.d, szL] <;> omega
  rw [hs]
  obtain ⟨_, _, _, rfl, _, _, _⟩ := GTab.inv h
  refine evA_intro tok Try.func4 (by kernel_rfl) rfl ?_
  repeat' ((conv => whnf) <;> first
   | refine condP_szR (by omega) (fun _ _ => ?_) (fun _ _ => ?_)
   | refine condP_dec (fun _ => ?_) (fun _ => ?_)
   | refine condP_ndec (fun _ => ?_) (fun _ => ?_)
   | refine condP_true rfl ?_
   | refine condP_false rfl ?_
   | refine condP_not (fun _ => ?_) (fun _ => ?_)
   | refine condP_intro (fun _ => ?_) (fun _ => ?_)
   | refine callP_eq (ev_szNodeS _ _ _ _ (by assumption) (by omega)) ?_
   | refine callP_eq (ev_szEditS _ _ _ _ (by assumption) (by omega)) ?_
   | refine callP_eq (ev_szIntS _ _ _ _ (by assumption) (by omega)) ?_
   | refine needP_intro (by first | omega | (constructor <;> omega) | fail) ?_
   | refine And.intro ?_ ?_)
  all_goals first
    | rfl
    | (have e := szR_neg (left := left) (n := szL [.sl 5 (x.Base.map GNode.d)] + szL [.sl 6 (x.Edits.map GEdit.d)] + szL [.sl 1 (x.Hidden.map dInt)]) (by omega); rw [e]; rfl)
    | (have e := szR_pos (left := left) (n := szL [.sl 5 (x.Base.map GNode.d)] + szL [.sl 6 (x.Edits.map GEdit.d)] + szL [.sl 1 (x.Hidden.map dInt)]) (by omega); simp only [resAV]; congr 3; omega)

end Go.Proofs.Ytjknkcgngchboaa
