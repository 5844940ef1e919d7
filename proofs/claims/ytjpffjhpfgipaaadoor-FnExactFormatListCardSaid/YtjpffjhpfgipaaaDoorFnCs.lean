/- The laws' helpers: sz. -/
import Derived.Test.YtjpffjhpfgipaaaDoorFnC
namespace Go.Proofs.YtjpffjhpfgipaaaDoor
open Go Go.ChangeShapes Go.WideShapes Go.ChangeAt Go.RowKit
set_option linter.unusedVariables false
set_option maxRecDepth 100000

theorem ev_szSentS (l : (List GSent)) (c : C) (left : Int) (S : Store) (h : Rd S [.sl 3 (l.map GSent.d)] [c]) (hl : 0 ≤ left ∧ left ≤ 1048576) : EvA Tryd.prog 23 [.s c, .s (.int .i64 left)] S (fun r S' => r = .v (.s (.int .i64 (szR left (szL [.sl 3 (l.map GSent.d)])))) ∧ S' = S) := by
  have hs : szL [.sl 3 (l.map GSent.d)] = l.length := by simp only [szL, List.length_map]; rw [szLL_flat (by intro x; simp only [szL, GSent.d])]; rfl
  rw [hs]
  refine evA_intro tok Tryd.func23 (by kernel_rfl) rfl ?_
  repeat' ((conv => whnf) <;> first
   | rw [wrapI_i64 (by omega)]
   | refine condP_dec (fun _ => ?_) (fun _ => ?_)
   | refine condP_ndec (fun _ => ?_) (fun _ => ?_)
   | refine condP_true rfl ?_
   | refine condP_false rfl ?_
   | refine condP_not (fun _ => ?_) (fun _ => ?_)
   | refine condP_intro (fun _ => ?_) (fun _ => ?_)
   | (refine rd_lenm (by assumption) ?_; intro hml; rw [maxLen_eq] at hml)
   | refine needP_intro (by first | omega | (constructor <;> omega)) ?_
   | refine And.intro ?_ ?_)
  all_goals first | rfl | (simp only [szR, resAV]; rw [if_pos (by omega)]) | (simp only [szR, resAV]; rw [if_neg (by omega)])

theorem ev_szSiteS (l : (List GSite)) (c : C) (left : Int) (S : Store) (h : Rd S [.sl 2 (l.map GSite.d)] [c]) (hl : 0 ≤ left ∧ left ≤ 1048576) : EvA Tryd.prog 39 [.s c, .s (.int .i64 left)] S (fun r S' => r = .v (.s (.int .i64 (szR left (szL [.sl 2 (l.map GSite.d)])))) ∧ S' = S) := by
  have hs : szL [.sl 2 (l.map GSite.d)] = l.length := by simp only [szL, List.length_map]; rw [szLL_flat (by intro x; simp only [szL, GSite.d])]; rfl
  rw [hs]
  refine evA_intro tok Tryd.func39 (by kernel_rfl) rfl ?_
  repeat' ((conv => whnf) <;> first
   | rw [wrapI_i64 (by omega)]
   | refine condP_dec (fun _ => ?_) (fun _ => ?_)
   | refine condP_ndec (fun _ => ?_) (fun _ => ?_)
   | refine condP_true rfl ?_
   | refine condP_false rfl ?_
   | refine condP_not (fun _ => ?_) (fun _ => ?_)
   | refine condP_intro (fun _ => ?_) (fun _ => ?_)
   | (refine rd_lenm (by assumption) ?_; intro hml; rw [maxLen_eq] at hml)
   | refine needP_intro (by first | omega | (constructor <;> omega)) ?_
   | refine And.intro ?_ ?_)
  all_goals first | rfl | (simp only [szR, resAV]; rw [if_pos (by omega)]) | (simp only [szR, resAV]; rw [if_neg (by omega)])

theorem ev_szOutcome (x : GOutcome) (cs : List C) (left : Int) (S : Store) (h : Rd S x.d cs) (hl : 0 ≤ left ∧ left ≤ 1048576) : EvA Tryd.prog 18 [.agg cs, .s (.int .i64 left)] S (fun r S' => r = .v (.s (.int .i64 (szR left (szL x.d)))) ∧ S' = S) := by
  have hs : szL x.d = szL [.sl 2 (x.Path.map GSite.d)] := by simp only [GOutcome.d, szL] <;> omega
  rw [hs]
  obtain ⟨_, rfl, _⟩ := GOutcome.inv h
  refine evA_intro tok Tryd.func18 (by kernel_rfl) rfl ?_
  repeat' ((conv => whnf) <;> first
   | refine condP_szR (by omega) (fun _ _ => ?_) (fun _ _ => ?_)
   | refine condP_dec (fun _ => ?_) (fun _ => ?_)
   | refine condP_ndec (fun _ => ?_) (fun _ => ?_)
   | refine condP_true rfl ?_
   | refine condP_false rfl ?_
   | refine condP_not (fun _ => ?_) (fun _ => ?_)
   | refine condP_intro (fun _ => ?_) (fun _ => ?_)
   | refine callP_eq (ev_szSiteS _ _ _ _ (by assumption) (by omega)) ?_
   | refine needP_intro (by first | omega | (constructor <;> omega)) ?_
   | refine And.intro ?_ ?_)
  all_goals first
    | rfl
    | (have e := szR_neg (left := left) (n := szL [.sl 2 (x.Path.map GSite.d)]) (by omega); rw [e]; rfl)
    | (have e := szR_pos (left := left) (n := szL [.sl 2 (x.Path.map GSite.d)]) (by omega); simp only [resAV]; congr 3; omega)

end Go.Proofs.YtjpffjhpfgipaaaDoor
