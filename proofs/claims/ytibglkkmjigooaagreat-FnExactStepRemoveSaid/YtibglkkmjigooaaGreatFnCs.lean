/- The laws' helpers: sz. -/
import Derived.Test.YtibglkkmjigooaaGreatFnC
namespace Go.Proofs.YtibglkkmjigooaaGreat
open Go Go.ChangeShapes Go.WideShapes Go.ChangeAt Go.RowKit
set_option linter.unusedVariables false
set_option linter.unusedSimpArgs false
set_option maxRecDepth 100000
theorem ev_szIntS (l : (List Int)) (c : C) (left : Int) (S : Store) (h : Rd S [.sl 1 (l.map dInt)] [c]) (hl : 0 ≤ left ∧ left ≤ 1048576) : EvA Tryz.prog 169 [.s c, .s (.int .i64 left)] S (fun r S' => r = .v (.s (.int .i64 (szR left (szL [.sl 1 (l.map dInt)])))) ∧ S' = S) := by
  have hs : szL [.sl 1 (l.map dInt)] = l.length := by simp only [szL, List.length_map]; rw [szLL_flat (by intro x; simp only [szL, dInt])]; rfl
  rw [hs]
  refine evA_intro tok Tryz.func169 (by kernel_rfl) rfl ?_
  repeat' ((conv => whnf) <;> first
   | rw [wrapI_i64 (by omega)] | refine cD (fun _ => ?_) fun _ => ?_ | refine rE fun hml => ?_ | refine And.intro ?_ ?_)
  all_goals first | rfl | (simp only [szR, resAV]; rw [if_pos (by omega)]) | (simp only [szR, resAV]; rw [if_neg (by omega)])
theorem ev_szEditS (l : (List GEdit)) (c : C) (left : Int) (S : Store) (h : Rd S [.sl 6 (l.map GEdit.d)] [c]) (hl : 0 ≤ left ∧ left ≤ 1048576) : EvA Tryz.prog 168 [.s c, .s (.int .i64 left)] S (fun r S' => r = .v (.s (.int .i64 (szR left (szL [.sl 6 (l.map GEdit.d)])))) ∧ S' = S) := by
  have hs : szL [.sl 6 (l.map GEdit.d)] = l.length := by simp only [szL, List.length_map]; rw [szLL_flat (by intro x; simp only [szL, GEdit.d])]; rfl
  rw [hs]
  refine evA_intro tok Tryz.func168 (by kernel_rfl) rfl ?_
  repeat' ((conv => whnf) <;> first
   | rw [wrapI_i64 (by omega)] | refine cD (fun _ => ?_) fun _ => ?_ | refine rE fun hml => ?_ | refine And.intro ?_ ?_)
  all_goals first | rfl | (simp only [szR, resAV]; rw [if_pos (by omega)]) | (simp only [szR, resAV]; rw [if_neg (by omega)])
theorem ev_szFlowS (l : (List GFlow)) (c : C) (left : Int) (S : Store) (h : Rd S [.sl 3 (l.map GFlow.d)] [c]) (hl : 0 ≤ left ∧ left ≤ 1048576) : EvA Tryz.prog 80 [.s c, .s (.int .i64 left)] S (fun r S' => r = .v (.s (.int .i64 (szR left (szL [.sl 3 (l.map GFlow.d)])))) ∧ S' = S) := by
  have hs : szL [.sl 3 (l.map GFlow.d)] = l.length := by simp only [szL, List.length_map]; rw [szLL_flat (by intro x; simp only [szL, GFlow.d])]; rfl
  rw [hs]
  refine evA_intro tok Tryz.func80 (by kernel_rfl) rfl ?_
  repeat' ((conv => whnf) <;> first
   | rw [wrapI_i64 (by omega)] | refine cD (fun _ => ?_) fun _ => ?_ | refine rE fun hml => ?_ | refine And.intro ?_ ?_)
  all_goals first | rfl | (simp only [szR, resAV]; rw [if_pos (by omega)]) | (simp only [szR, resAV]; rw [if_neg (by omega)])
theorem ev_szNodeS (l : (List GNode)) (c : C) (left : Int) (S : Store) (h : Rd S [.sl 5 (l.map GNode.d)] [c]) (hl : 0 ≤ left ∧ left ≤ 1048576) : EvA Tryz.prog 167 [.s c, .s (.int .i64 left)] S (fun r S' => r = .v (.s (.int .i64 (szR left (szL [.sl 5 (l.map GNode.d)])))) ∧ S' = S) := by
  have hs : szL [.sl 5 (l.map GNode.d)] = l.length := by simp only [szL, List.length_map]; rw [szLL_flat (by intro x; simp only [szL, GNode.d])]; rfl
  rw [hs]
  refine evA_intro tok Tryz.func167 (by kernel_rfl) rfl ?_
  repeat' ((conv => whnf) <;> first
   | rw [wrapI_i64 (by omega)] | refine cD (fun _ => ?_) fun _ => ?_ | refine rE fun hml => ?_ | refine And.intro ?_ ?_)
  all_goals first | rfl | (simp only [szR, resAV]; rw [if_pos (by omega)]) | (simp only [szR, resAV]; rw [if_neg (by omega)])
theorem ev_szOpS (l : (List GOp)) (c : C) (left : Int) (S : Store) (h : Rd S [.sl 4 (l.map GOp.d)] [c]) (hl : 0 ≤ left ∧ left ≤ 1048576) : EvA Tryz.prog 81 [.s c, .s (.int .i64 left)] S (fun r S' => r = .v (.s (.int .i64 (szR left (szL [.sl 4 (l.map GOp.d)])))) ∧ S' = S) := by
  have hs : szL [.sl 4 (l.map GOp.d)] = l.length := by simp only [szL, List.length_map]; rw [szLL_flat (by intro x; simp only [szL, GOp.d])]; rfl
  rw [hs]
  refine evA_intro tok Tryz.func81 (by kernel_rfl) rfl ?_
  repeat' ((conv => whnf) <;> first
   | rw [wrapI_i64 (by omega)] | refine cD (fun _ => ?_) fun _ => ?_ | refine rE fun hml => ?_ | refine And.intro ?_ ?_)
  all_goals first | rfl | (simp only [szR, resAV]; rw [if_pos (by omega)]) | (simp only [szR, resAV]; rw [if_neg (by omega)])
theorem ev_szStoredS (l : (List GStored)) (c : C) (left : Int) (S : Store) (h : Rd S [.sl 4 (l.map GStored.d)] [c]) (hl : 0 ≤ left ∧ left ≤ 1048576) : EvA Tryz.prog 32 [.s c, .s (.int .i64 left)] S (fun r S' => r = .v (.s (.int .i64 (szR left (szL [.sl 4 (l.map GStored.d)])))) ∧ S' = S) := by
  have hs : szL [.sl 4 (l.map GStored.d)] = l.length := by simp only [szL, List.length_map]; rw [szLL_flat (by intro x; simp only [szL, GStored.d])]; rfl
  rw [hs]
  refine evA_intro tok Tryz.func32 (by kernel_rfl) rfl ?_
  repeat' ((conv => whnf) <;> first
   | rw [wrapI_i64 (by omega)] | refine cD (fun _ => ?_) fun _ => ?_ | refine rE fun hml => ?_ | refine And.intro ?_ ?_)
  all_goals first | rfl | (simp only [szR, resAV]; rw [if_pos (by omega)]) | (simp only [szR, resAV]; rw [if_neg (by omega)])
theorem ev_szGrantS (l : (List GGrant)) (c : C) (left : Int) (S : Store) (h : Rd S [.sl 7 (l.map GGrant.d)] [c]) (hl : 0 ≤ left ∧ left ≤ 1048576) : EvA Tryz.prog 29 [.s c, .s (.int .i64 left)] S (fun r S' => r = .v (.s (.int .i64 (szR left (szL [.sl 7 (l.map GGrant.d)])))) ∧ S' = S) := by
  have hs : szL [.sl 7 (l.map GGrant.d)] = l.length := by simp only [szL, List.length_map]; rw [szLL_flat (by intro x; simp only [szL, GGrant.d])]; rfl
  rw [hs]
  refine evA_intro tok Tryz.func29 (by kernel_rfl) rfl ?_
  repeat' ((conv => whnf) <;> first
   | rw [wrapI_i64 (by omega)] | refine cD (fun _ => ?_) fun _ => ?_ | refine rE fun hml => ?_ | refine And.intro ?_ ?_)
  all_goals first | rfl | (simp only [szR, resAV]; rw [if_pos (by omega)]) | (simp only [szR, resAV]; rw [if_neg (by omega)])
theorem ev_szLimitS (l : (List GLimit)) (c : C) (left : Int) (S : Store) (h : Rd S [.sl 4 (l.map GLimit.d)] [c]) (hl : 0 ≤ left ∧ left ≤ 1048576) : EvA Tryz.prog 30 [.s c, .s (.int .i64 left)] S (fun r S' => r = .v (.s (.int .i64 (szR left (szL [.sl 4 (l.map GLimit.d)])))) ∧ S' = S) := by
  have hs : szL [.sl 4 (l.map GLimit.d)] = l.length := by simp only [szL, List.length_map]; rw [szLL_flat (by intro x; simp only [szL, GLimit.d])]; rfl
  rw [hs]
  refine evA_intro tok Tryz.func30 (by kernel_rfl) rfl ?_
  repeat' ((conv => whnf) <;> first
   | rw [wrapI_i64 (by omega)] | refine cD (fun _ => ?_) fun _ => ?_ | refine rE fun hml => ?_ | refine And.intro ?_ ?_)
  all_goals first | rfl | (simp only [szR, resAV]; rw [if_pos (by omega)]) | (simp only [szR, resAV]; rw [if_neg (by omega)])
theorem ev_szRuleS (l : (List GRule)) (c : C) (left : Int) (S : Store) (h : Rd S [.sl 8 (l.map GRule.d)] [c]) (hl : 0 ≤ left ∧ left ≤ 1048576) : EvA Tryz.prog 31 [.s c, .s (.int .i64 left)] S (fun r S' => r = .v (.s (.int .i64 (szR left (szL [.sl 8 (l.map GRule.d)])))) ∧ S' = S) := by
  have hs : szL [.sl 8 (l.map GRule.d)] = l.length := by simp only [szL, List.length_map]; rw [szLL_flat (by intro x; simp only [szL, GRule.d])]; rfl
  rw [hs]
  refine evA_intro tok Tryz.func31 (by kernel_rfl) rfl ?_
  repeat' ((conv => whnf) <;> first
   | rw [wrapI_i64 (by omega)] | refine cD (fun _ => ?_) fun _ => ?_ | refine rE fun hml => ?_ | refine And.intro ?_ ?_)
  all_goals first | rfl | (simp only [szR, resAV]; rw [if_pos (by omega)]) | (simp only [szR, resAV]; rw [if_neg (by omega)])
theorem ev_szTab (x : GTab) (cs : List C) (left : Int) (S : Store) (h : Rd S x.d cs) (hl : 0 ≤ left ∧ left ≤ 1048576) : EvA Tryz.prog 93 [.agg cs, .s (.int .i64 left)] S (fun r S' => r = .v (.s (.int .i64 (szR left (szL x.d)))) ∧ S' = S) := by
  have hs : szL x.d = szL [.sl 5 (x.Base.map GNode.d)] + szL [.sl 6 (x.Edits.map GEdit.d)] + szL [.sl 1 (x.Hidden.map dInt)] := by simp only [GTab.d, szL] <;> omega
  rw [hs]
  obtain ⟨_, _, _, rfl, _, _, _⟩ := GTab.inv h
  refine evA_intro tok Tryz.func93 (by kernel_rfl) rfl ?_
  repeat' ((conv => whnf) <;> first
   | refine condP_szR om (fun _ _ => ?_) (fun _ _ => ?_) | refine callP_eq (ev_szNodeS _ _ _ _ aN om) ?_ | refine callP_eq (ev_szEditS _ _ _ _ aN om) ?_ | refine callP_eq (ev_szIntS _ _ _ _ aN om) ?_ | refine And.intro ?_ ?_)
  all_goals first
    | rfl
    | (have e := szR_neg (left := left) (n := szL [.sl 5 (x.Base.map GNode.d)] + szL [.sl 6 (x.Edits.map GEdit.d)] + szL [.sl 1 (x.Hidden.map dInt)]) (by omega); rw [e]; rfl)
    | (have e := szR_pos (left := left) (n := szL [.sl 5 (x.Base.map GNode.d)] + szL [.sl 6 (x.Edits.map GEdit.d)] + szL [.sl 1 (x.Hidden.map dInt)]) (by omega); simp only [resAV]; congr 3; omega)
theorem ev_szPackage (x : GPackage) (cs : List C) (left : Int) (S : Store) (h : Rd S x.d cs) (hl : 0 ≤ left ∧ left ≤ 1048576) : EvA Tryz.prog 19 [.agg cs, .s (.int .i64 left)] S (fun r S' => r = .v (.s (.int .i64 (szR left (szL x.d)))) ∧ S' = S) := by
  have hs : szL x.d = szL [.sl 7 (x.Grants.map GGrant.d)] + szL [.sl 3 (x.Flows.map GFlow.d)] + szL [.sl 8 (x.Rules.map GRule.d)] + szL [.sl 4 (x.Ops.map GOp.d)] := by simp only [GPackage.d, szL] <;> omega
  rw [hs]
  obtain ⟨_, _, _, _, rfl, _, _, _, _⟩ := GPackage.inv h
  refine evA_intro tok Tryz.func19 (by kernel_rfl) rfl ?_
  repeat' ((conv => whnf) <;> first
   | refine condP_szR om (fun _ _ => ?_) (fun _ _ => ?_) | refine callP_eq (ev_szGrantS _ _ _ _ aN om) ?_ | refine callP_eq (ev_szRuleS _ _ _ _ aN om) ?_ | refine callP_eq (ev_szFlowS _ _ _ _ aN om) ?_ | refine callP_eq (ev_szOpS _ _ _ _ aN om) ?_ | refine And.intro ?_ ?_)
  all_goals first
    | rfl
    | (have e := szR_neg (left := left) (n := szL [.sl 7 (x.Grants.map GGrant.d)] + szL [.sl 3 (x.Flows.map GFlow.d)] + szL [.sl 8 (x.Rules.map GRule.d)] + szL [.sl 4 (x.Ops.map GOp.d)]) (by omega); rw [e]; rfl)
    | (have e := szR_pos (left := left) (n := szL [.sl 7 (x.Grants.map GGrant.d)] + szL [.sl 3 (x.Flows.map GFlow.d)] + szL [.sl 8 (x.Rules.map GRule.d)] + szL [.sl 4 (x.Ops.map GOp.d)]) (by omega); simp only [resAV]; congr 3; omega)
theorem ev_szTabS (l : (List GTab)) (c : C) (left : Int) (S : Store) (h : Rd S [.sl 6 (l.map GTab.d)] [c]) (hl : 0 ≤ left ∧ left ≤ 1048576) : EvA Tryz.prog 27 [.s c, .s (.int .i64 left)] S (fun r S' => r = .v (.s (.int .i64 (szR left (szL [.sl 6 (l.map GTab.d)])))) ∧ S' = S) := by
  have hs : szL [.sl 6 (l.map GTab.d)] = l.length + szL.szLL (l.map GTab.d) := by simp only [szL, List.length_map]; omega
  rw [hs]
  refine evA_intro tok Tryz.func27 (by kernel_rfl) rfl ?_
  repeat' ((conv => whnf) <;> first
   | rw [wrapI_i64 (by omega)] | refine cD (fun _ => ?_) fun _ => ?_ | refine rE fun hml => ?_ | refine And.intro ?_ ?_)
  all_goals try first | rfl | (simp only [szR, resAV]; rw [if_pos (by omega)])
  refine loop_intro {i : Nat // i ≤ l.length ∧ (l.length : Int) + szL.szLL ((l.take i).map GTab.d) ≤ left} [1, 4, 5, 12, 13, 14, 15, 16, 17, 18, 19, 20, 21, 22, 23, 24, 25] (fun zb => [(1, .v (.s (.int .i64 (left - l.length - szL.szLL ((l.take zb.1).map GTab.d))))), (5, .v (.s (.int .i64 zb.1)))]) (fun _ => S) (fun zb => l.length - zb.1) ⟨0, Nat.zero_le _, by simp [szL.szLL]; omega⟩ ?_ rfl ?_
  · (conv => whnf); repeat' (first | exact trivial | exact rfl | (show _ = _; simp [szL.szLL]; done) | apply And.intro)
  rintro ⟨i, hi, hinv⟩; dsimp only
  repeat' ((conv => whnf) <;> first
   | refine condP_szR om (fun _ _ => ?_) (fun _ _ => ?_) | rw [wrapI_i64 (by omega)] | refine cD (fun _ => ?_) fun _ => ?_ | refine callP_eq (ev_szTab _ _ _ _ rdcB om) ?_ | refine rE fun hml => ?_ | refine rI aN rf ix ?_ | (refine rd_loadm (f := GTab.d) aN ix ?_; intro _ hcs; obtain ⟨_, _, _, rfl, _, _, _⟩ := GTab.inv hcs) | refine And.intro ?_ ?_)
  all_goals first
    | rfl
    | (have hi2 : l.length ≤ i := by omega
       rw [List.take_of_length_le hi2] at hinv ⊢
       rw [szR_pos (by omega)]; simp only [resAV]; congr 3; omega)
    | (have hi2 : i < l.length := by omega
       have h1 : szL.szLL ((l.take (i + 1)).map GTab.d) = szL.szLL ((l.take i).map GTab.d) + szL (GTab.d (l[((i : Nat) : Int).toNat]'hi2)) := szLL_take hi2
       have h2 := szLL_le (f := GTab.d) l (i + 1)
       rw [szR_neg (left := left) (by omega)]; rfl)
    | (have hi2 : i < l.length := by omega
       have h1 : szL.szLL ((l.take (i + 1)).map GTab.d) = szL.szLL ((l.take i).map GTab.d) + szL (GTab.d (l[((i : Nat) : Int).toNat]'hi2)) := szLL_take hi2
       refine ⟨⟨i + 1, by omega, by omega⟩, ?_, rfl, by dsimp only; omega⟩; (conv => whnf); repeat' (first | exact trivial | exact rfl | (show _ = _; congr 3; dsimp only; omega) | apply And.intro))
theorem ev_szPackageS (l : (List GPackage)) (c : C) (left : Int) (S : Store) (h : Rd S [.sl 8 (l.map GPackage.d)] [c]) (hl : 0 ≤ left ∧ left ≤ 1048576) : EvA Tryz.prog 28 [.s c, .s (.int .i64 left)] S (fun r S' => r = .v (.s (.int .i64 (szR left (szL [.sl 8 (l.map GPackage.d)])))) ∧ S' = S) := by
  have hs : szL [.sl 8 (l.map GPackage.d)] = l.length + szL.szLL (l.map GPackage.d) := by simp only [szL, List.length_map]; omega
  rw [hs]
  refine evA_intro tok Tryz.func28 (by kernel_rfl) rfl ?_
  repeat' ((conv => whnf) <;> first
   | rw [wrapI_i64 (by omega)] | refine cD (fun _ => ?_) fun _ => ?_ | refine rE fun hml => ?_ | refine And.intro ?_ ?_)
  all_goals try first | rfl | (simp only [szR, resAV]; rw [if_pos (by omega)])
  refine loop_intro {i : Nat // i ≤ l.length ∧ (l.length : Int) + szL.szLL ((l.take i).map GPackage.d) ≤ left} [1, 4, 5, 12, 13, 14, 15, 16, 17, 18, 19, 20, 21, 22, 23, 24, 25] (fun zb => [(1, .v (.s (.int .i64 (left - l.length - szL.szLL ((l.take zb.1).map GPackage.d))))), (5, .v (.s (.int .i64 zb.1)))]) (fun _ => S) (fun zb => l.length - zb.1) ⟨0, Nat.zero_le _, by simp [szL.szLL]; omega⟩ ?_ rfl ?_
  · (conv => whnf); repeat' (first | exact trivial | exact rfl | (show _ = _; simp [szL.szLL]; done) | apply And.intro)
  rintro ⟨i, hi, hinv⟩; dsimp only
  repeat' ((conv => whnf) <;> first
   | refine condP_szR om (fun _ _ => ?_) (fun _ _ => ?_) | rw [wrapI_i64 (by omega)] | refine cD (fun _ => ?_) fun _ => ?_ | refine callP_eq (ev_szPackage _ _ _ _ rdcB om) ?_ | refine rE fun hml => ?_ | refine rI aN rf ix ?_ | (refine rd_loadm (f := GPackage.d) aN ix ?_; intro _ hcs; obtain ⟨_, _, _, _, rfl, _, _, _, _⟩ := GPackage.inv hcs) | refine And.intro ?_ ?_)
  all_goals first
    | rfl
    | (have hi2 : l.length ≤ i := by omega
       rw [List.take_of_length_le hi2] at hinv ⊢
       rw [szR_pos (by omega)]; simp only [resAV]; congr 3; omega)
    | (have hi2 : i < l.length := by omega
       have h1 : szL.szLL ((l.take (i + 1)).map GPackage.d) = szL.szLL ((l.take i).map GPackage.d) + szL (GPackage.d (l[((i : Nat) : Int).toNat]'hi2)) := szLL_take hi2
       have h2 := szLL_le (f := GPackage.d) l (i + 1)
       rw [szR_neg (left := left) (by omega)]; rfl)
    | (have hi2 : i < l.length := by omega
       have h1 : szL.szLL ((l.take (i + 1)).map GPackage.d) = szL.szLL ((l.take i).map GPackage.d) + szL (GPackage.d (l[((i : Nat) : Int).toNat]'hi2)) := szLL_take hi2
       refine ⟨⟨i + 1, by omega, by omega⟩, ?_, rfl, by dsimp only; omega⟩; (conv => whnf); repeat' (first | exact trivial | exact rfl | (show _ = _; congr 3; dsimp only; omega) | apply And.intro))
theorem ev_szBrowser (x : GBrowser) (cs : List C) (left : Int) (S : Store) (h : Rd S x.d cs) (hl : 0 ≤ left ∧ left ≤ 1048576) : EvA Tryz.prog 8 [.agg cs, .s (.int .i64 left)] S (fun r S' => r = .v (.s (.int .i64 (szR left (szL x.d)))) ∧ S' = S) := by
  have hs : szL x.d = szL [.sl 6 (x.Tabs.map GTab.d)] + szL [.sl 8 (x.Packs.map GPackage.d)] + szL [.sl 7 (x.Grants.map GGrant.d)] + szL [.sl 4 (x.Limits.map GLimit.d)] + szL [.sl 8 (x.Rules.map GRule.d)] + szL [.sl 4 (x.Store.map GStored.d)] := by simp only [GBrowser.d, szL] <;> omega
  rw [hs]
  obtain ⟨_, _, _, _, _, _, rfl, _, _, _, _, _, _⟩ := GBrowser.inv h
  refine evA_intro tok Tryz.func8 (by kernel_rfl) rfl ?_
  repeat' ((conv => whnf) <;> first
   | refine condP_szR om (fun _ _ => ?_) (fun _ _ => ?_) | refine callP_eq (ev_szTabS _ _ _ _ aN om) ?_ | refine callP_eq (ev_szPackageS _ _ _ _ aN om) ?_ | refine callP_eq (ev_szGrantS _ _ _ _ aN om) ?_ | refine callP_eq (ev_szLimitS _ _ _ _ aN om) ?_ | refine callP_eq (ev_szRuleS _ _ _ _ aN om) ?_ | refine callP_eq (ev_szStoredS _ _ _ _ aN om) ?_ | refine And.intro ?_ ?_)
  all_goals first
    | rfl
    | (have e := szR_neg (left := left) (n := szL [.sl 6 (x.Tabs.map GTab.d)] + szL [.sl 8 (x.Packs.map GPackage.d)] + szL [.sl 7 (x.Grants.map GGrant.d)] + szL [.sl 4 (x.Limits.map GLimit.d)] + szL [.sl 8 (x.Rules.map GRule.d)] + szL [.sl 4 (x.Store.map GStored.d)]) (by omega); rw [e]; rfl)
    | (have e := szR_pos (left := left) (n := szL [.sl 6 (x.Tabs.map GTab.d)] + szL [.sl 8 (x.Packs.map GPackage.d)] + szL [.sl 7 (x.Grants.map GGrant.d)] + szL [.sl 4 (x.Limits.map GLimit.d)] + szL [.sl 8 (x.Rules.map GRule.d)] + szL [.sl 4 (x.Store.map GStored.d)]) (by omega); simp only [resAV]; congr 3; omega)
end Go.Proofs.YtibglkkmjigooaaGreat
