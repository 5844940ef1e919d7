/- Browsers that are ones. -/
import Derived.Test.YtlmmdpmmdmhacaaGreatKm27
import Derived.Test.YtlmmdpmmdmhacaaGreatKm26
namespace Go.Proofs.YtlmmdpmmdmhacaaGreat
open Go Go.ChangeShapes Go.WideShapes Go.ChangeAt Go.RowKit
set_option linter.unusedVariables false
set_option linter.unusedSimpArgs false
set_option maxRecDepth 100000
def packIx (b : GBrowser) (p : GPackage) (i : Nat) : Bool := isSealed b.Key p && (if i = 0 then true else decide ((b.Packs.getD (i - 1) default).Ext < p.Ext))
def packsGo (b : GBrowser) : List GPackage → Nat → Bool
  | [], _ => true
  | p :: r, i => if packIx b p i then packsGo b r (i + 1) else false
theorem packIx_zero {b : GBrowser} {p : GPackage} {i : Nat} (h : i = 0) : packIx b p i = isSealed b.Key p := by subst h; simp [packIx]
theorem packIx_pos {b : GBrowser} {p : GPackage} {i : Nat} (h0 : 0 < i) (hl : i ≤ b.Packs.length) : packIx b p i = (isSealed b.Key p && decide ((b.Packs[((i : Int) - 1).toNat]'(by omega)).Ext < p.Ext)) := by
  unfold packIx
  have e : b.Packs.getD (i - 1) default = b.Packs[((i : Int) - 1).toNat]'(by omega) := by
    rw [List.getD_eq_getElem?_getD, List.getElem?_eq_getElem (by omega)]
    simp only [Option.getD_some]
    congr 1; omega
  rw [if_neg (by omega), e]
def edOk (b : GBrowser) (e : GEdit) : Bool := decide (e.By = 0) || decide (0 ≤ packOf b e.By)
def tabOk (b : GBrowser) (t : GTab) : Bool := isTab t && t.Edits.all fun e => edOk b e
def grOk (b : GBrowser) (g : GGrant) : Bool := isGrant g && decide (0 ≤ packOf b g.Ext)
def isB0 (b : GBrowser) : Bool := isKey b.Key && inR b.Tabs.length 1 3 && decide (b.Packs.length ≤ 5) && decide (b.Grants.length ≤ 16) && decide (b.Limits.length ≤ 8) && isFair b.Rules && isStore b.Store && inR b.Now 0 10000
def isBrowser (b : GBrowser) : Bool := isB0 b && packsGo b b.Packs 0 && (b.Tabs.all fun x => tabOk b x) && (b.Grants.all fun x => grOk b x) && (b.Limits.all fun x => isLimit x) && (b.Rules.all fun x => decide (0 ≤ packOf b x.Ext)) && (b.Store.all fun x => decide (0 ≤ packOf b x.Ext))
def tabsB (b : GBrowser) : Bool := (b.Tabs.all fun x => tabOk b x) && inR b.Tabs.length 1 3
def rightsB (b : GBrowser) : Bool := (b.Grants.all fun x => grOk b x) && (b.Limits.all fun x => isLimit x) && decide (b.Grants.length ≤ 16) && decide (b.Limits.length ≤ 8)
set_option maxHeartbeats 8000000 in
theorem ev_l32Tabs (b : GBrowser) (cs : List C) (S : Store) (h : Rd S b.d cs) (hz : szL b.d ≤ 4194304) : EvA Tryz.prog 255 [.agg cs] S (fun r S' => r = .v (.s (.bool (tabsB b))) ∧ S' = S) := by
  have hzs := hz
  simp only [GBrowser.d, szL, List.length_map] at hzs
  obtain ⟨_, _, _, _, _, _, rfl, _, _, _, _, _, _⟩ := GBrowser.inv h
  refine evA_intro tok Tryz.func255 (by kernel_rfl) rfl ?_
  skip
  refine loop_intro {i : Nat // i ≤ b.Tabs.length ∧ (b.Tabs.drop i).all (fun x => tabOk b x) = b.Tabs.all fun x => tabOk b x} [2, 3, 4, 5, 6, 7, 8, 9, 10, 11, 12, 13, 14, 15, 16, 17, 18, 19, 20, 21, 22, 23, 24, 25, 26, 27, 28, 29, 30, 31, 32, 33, 34, 35, 36, 37, 38, 39, 40, 41, 42, 43, 44, 45, 46, 47, 48] (fun zb => [(3, .v (.s (.int .i64 zb.1)))]) (fun _ => S) (fun zb => b.Tabs.length - zb.1) ⟨0, Nat.zero_le _, rfl⟩ ?_ rfl ?_
  · (conv => whnf); repeat' (first | exact trivial | exact rfl | apply And.intro)
  rintro ⟨i, hi, hinv⟩; dsimp only
  by_cases hlt : i < b.Tabs.length
  · rw [drop_at hlt, List.all_cons] at hinv
    have htk : tabOk b (b.Tabs[i]'hlt) = (isTab (b.Tabs[((i : Nat) : Int).toNat]'hlt) && (b.Tabs[((i : Nat) : Int).toNat]'hlt).Edits.all fun e => edOk b e) := rfl
    rcases hT : isTab (b.Tabs[((i : Nat) : Int).toNat]'hlt) with _ | _
    · rw [htk, hT, Bool.false_and, Bool.false_and] at hinv
      rw [show tabsB b = false from by unfold tabsB; rw [← hinv]; simp]
      clear htk
      repeat' ((conv => whnf) <;> first
       | (show CondP _ _ _; refine cS ?_) | refine callP_eq (ev_sIsTab _ _ _ rdcB) ?_ | refine rE fun hml => ?_ | refine rI aN rf ix ?_ | (refine rd_loadm (f := GTab.d) aN ix ?_; intro _ hcs; obtain ⟨_, _, _, rfl, _, _, _⟩ := GTab.inv hcs) | refine And.intro ?_ ?_)
      all_goals first | rfl | (exfalso; omega) | (exfalso; simp_all; done)
    · rw [hT, Bool.true_and] at htk
      rw [htk] at hinv
      clear htk
      repeat' ((conv => whnf) <;> first
       | (show CondP _ _ _; refine cS ?_) | refine callP_eq (ev_sIsTab _ _ _ rdcB) ?_ | refine rE fun hml => ?_ | refine rI aN rf ix ?_ | (refine rd_loadm (f := GTab.d) aN ix ?_; intro _ hcs; obtain ⟨_, _, _, rfl, _, _, _⟩ := GTab.inv hcs))
      all_goals try first | (exfalso; omega) | (exfalso; simp_all; done)
      refine loop_intro {j : Nat // j ≤ (b.Tabs[((i : Nat) : Int).toNat]'hlt).Edits.length ∧ ((b.Tabs[((i : Nat) : Int).toNat]'hlt).Edits.drop j).all (fun e => edOk b e) = (b.Tabs[((i : Nat) : Int).toNat]'hlt).Edits.all fun e => edOk b e} [2, 4, 5, 20, 21, 22, 23, 24, 25, 26, 27, 28, 29, 30, 31, 32, 33, 34, 35, 36, 37, 38, 39, 40, 41, 42, 43, 44, 45, 46, 47, 48] (fun zb => [(4, .v (.s (.int .i64 zb.1)))]) (fun _ => S) (fun zb => (b.Tabs[((i : Nat) : Int).toNat]'hlt).Edits.length - zb.1) ⟨0, Nat.zero_le _, rfl⟩ ?_ rfl ?_
      · (conv => whnf); repeat' (first | exact trivial | exact rfl | apply And.intro)
      rintro ⟨j, hj, hjnv⟩; dsimp only
      by_cases hjl : j < (b.Tabs[((i : Nat) : Int).toNat]'hlt).Edits.length
      · rw [drop_at hjl, List.all_cons] at hjnv
        rcases hQ : edOk b ((b.Tabs[((i : Nat) : Int).toNat]'hlt).Edits[((j : Nat) : Int).toNat]'hjl) with _ | _
        · rw [show edOk b ((b.Tabs[((i : Nat) : Int).toNat]'hlt).Edits[j]'hjl) = false from hQ, Bool.false_and] at hjnv
          rw [← hjnv, Bool.false_and] at hinv
          rw [show tabsB b = false from by unfold tabsB; rw [← hinv]; simp]
          unfold edOk at hQ
          simp only [Bool.or_eq_false_iff, decide_eq_false_iff_not] at hQ
          repeat' ((conv => whnf) <;> first
           | (show CondP _ _ _; refine cS ?_) | (refine callP_eq (ev_sPackOf _ _ _ _ rdcB) ?_) | refine rE fun hml => ?_ | refine rI aN rf ix ?_ | refine rd_loadf aN tv ix ?_ | (refine rd_loadm (f := GTab.d) aN ix ?_; intro _ hcs; obtain ⟨_, _, _, rfl, _, _, _⟩ := GTab.inv hcs) | refine And.intro ?_ ?_)
          all_goals first | rfl | (exfalso; omega) | (exfalso; simp_all; done)
        · rw [show edOk b ((b.Tabs[((i : Nat) : Int).toNat]'hlt).Edits[j]'hjl) = true from hQ, Bool.true_and] at hjnv
          unfold edOk at hQ
          simp only [Bool.or_eq_true, decide_eq_true_eq] at hQ
          rcases hQ with hQ | hQ
          all_goals
            repeat' ((conv => whnf) <;> first
             | rw [wrapI_i64 (by omega)] | (show CondP _ _ _; refine cS ?_) | refine cE (fun _ => ?_) fun _ => ?_ | refine cF ?_ | (refine callP_eq (ev_sPackOf _ _ _ _ rdcB) ?_) | refine rE fun hml => ?_ | refine rI aN rf ix ?_ | refine rd_loadf aN tv ix ?_ | (refine rd_loadm (f := GTab.d) aN ix ?_; intro _ hcs; obtain ⟨_, _, _, rfl, _, _, _⟩ := GTab.inv hcs))
            all_goals first
              | (exfalso; omega)
              | (refine ⟨⟨j + 1, by omega, hjnv⟩, ?_, rfl, by dsimp only; omega⟩; (conv => whnf); repeat' (first | exact trivial | exact rfl | apply And.intro))
              | (exfalso; simp_all; done)
      · rw [drop_end (by omega), List.all_nil] at hjnv
        rw [← hjnv, Bool.true_and] at hinv
        repeat' ((conv => whnf) <;> first
         | rw [wrapI_i64 (by omega)] | (show CondP _ _ _; refine cS ?_) | refine rE fun hml => ?_ | refine rI aN rf ix ?_ | (refine rd_loadm (f := GTab.d) aN ix ?_; intro _ hcs; obtain ⟨_, _, _, rfl, _, _, _⟩ := GTab.inv hcs))
        all_goals first
          | (exfalso; omega)
          | (refine ⟨⟨i + 1, by omega, hinv⟩, ?_, rfl, by dsimp only; omega⟩; (conv => whnf); repeat' (first | exact trivial | exact rfl | apply And.intro))
          | (exfalso; simp_all; done)
  rw [drop_end (by omega), List.all_nil] at hinv
  have hp : tabsB b = inR b.Tabs.length 1 3 := by unfold tabsB; rw [← hinv, Bool.true_and]
  rw [hp]
  repeat' ((conv => whnf) <;> first
   | (show CondP _ _ _; refine cS ?_) | refine callP_eq (ev_l1In _ _ _ _) ?_ | refine rE fun hml => ?_ | refine And.intro ?_ ?_)
  all_goals first | rfl | (exfalso; omega) | (simp_all [resAV]; done)
set_option maxHeartbeats 8000000 in
theorem ev_l32Rights (b : GBrowser) (cs : List C) (S : Store) (h : Rd S b.d cs) (hz : szL b.d ≤ 4194304) : EvA Tryz.prog 256 [.agg cs] S (fun r S' => r = .v (.s (.bool (rightsB b))) ∧ S' = S) := by
  have hzs := hz
  simp only [GBrowser.d, szL, List.length_map] at hzs
  obtain ⟨_, _, _, _, _, _, rfl, _, _, _, _, _, _⟩ := GBrowser.inv h
  refine evA_intro tok Tryz.func256 (by kernel_rfl) rfl ?_
  skip
  refine loop_intro {i : Nat // i ≤ b.Grants.length ∧ (b.Grants.drop i).all (fun x => grOk b x) = b.Grants.all fun x => grOk b x} [2, 3, 5, 6, 7, 8, 9, 10, 11, 12, 13, 14, 15, 16, 17, 18, 19, 20, 21, 22, 23, 24, 25, 26, 27, 28, 29] (fun zb => [(3, .v (.s (.int .i64 zb.1)))]) (fun _ => S) (fun zb => b.Grants.length - zb.1) ⟨0, Nat.zero_le _, rfl⟩ ?_ rfl ?_
  · (conv => whnf); repeat' (first | exact trivial | exact rfl | apply And.intro)
  rintro ⟨i, hi, hinv⟩; dsimp only
  by_cases hlt : i < b.Grants.length
  · rw [drop_at hlt, List.all_cons] at hinv
    have hgk : grOk b (b.Grants[((i : Nat) : Int).toNat]'hlt) = (isGrant (b.Grants[((i : Nat) : Int).toNat]'hlt) && decide (0 ≤ packOf b (b.Grants[((i : Nat) : Int).toNat]'hlt).Ext)) := rfl
    rcases hP : (grOk b (b.Grants[((i : Nat) : Int).toNat]'hlt) : Bool) with _ | _
    · rw [show (grOk b (b.Grants[i])) = false from hP, Bool.false_and] at hinv
      rw [show rightsB b = false from by unfold rightsB; rw [← hinv]; simp]
      repeat' ((conv => whnf) <;> first
       | rw [wrapI_i64 (by omega)] | (show CondP _ _ _; refine cS ?_) | refine cD (fun _ => ?_) fun _ => ?_ | refine cT ?_ | refine cN (fun _ => ?_) fun _ => ?_ | (refine callP_eq (ev_sPackOf _ _ _ _ rdcB) ?_) | refine callP_eq (ev_sIsGrant _ _) ?_ | refine rE fun hml => ?_ | refine rI aN rf ix ?_ | refine rd_loadf aN tv ix ?_ | refine draw_intro 12 [.fl 0, .fl 1, .fl 2, .fl 3, .fl 4, .st 5 [], .fl 6, .fl 7, .fl 8, .fl 9, .fl 10, .fl 11, .fl 12, .fl 13, .fl 14, .st 15 [], .fl 16, .fl 17] (by rfl) (by kernel_rfl) ?_ | refine And.intro ?_ ?_)
      all_goals first
        | rfl
        | (exfalso; omega)
        | (exfalso; simp_all; done)
        | (exfalso; simp_all; omega)
    · rw [show (grOk b (b.Grants[i])) = true from hP, Bool.true_and] at hinv
      repeat' ((conv => whnf) <;> first
       | rw [wrapI_i64 (by omega)] | (show CondP _ _ _; refine cS ?_) | refine cD (fun _ => ?_) fun _ => ?_ | refine cT ?_ | refine cN (fun _ => ?_) fun _ => ?_ | (refine callP_eq (ev_sPackOf _ _ _ _ rdcB) ?_) | refine callP_eq (ev_sIsGrant _ _) ?_ | refine rE fun hml => ?_ | refine rI aN rf ix ?_ | refine rd_loadf aN tv ix ?_ | refine draw_intro 12 [.fl 0, .fl 1, .fl 2, .fl 3, .fl 4, .st 5 [], .fl 6, .fl 7, .fl 8, .fl 9, .fl 10, .fl 11, .fl 12, .fl 13, .fl 14, .st 15 [], .fl 16, .fl 17] (by rfl) (by kernel_rfl) ?_ | refine And.intro ?_ ?_)
      all_goals first
        | (exfalso; omega)
        | (exfalso; simp_all; done)
        | (exfalso; simp_all; omega)
        | (refine ⟨⟨i + 1, by omega, hinv⟩, ?_, rfl, by dsimp only; omega⟩; (conv => whnf); repeat' (first | exact trivial | exact rfl | apply And.intro))
  rw [drop_end (by omega), List.all_nil] at hinv
  have hv0 := hinv
  clear hinv
  repeat' ((conv => whnf) <;> first
   | (show CondP _ _ _; refine cS ?_) | refine rE fun hml => ?_)
  all_goals try (exfalso; omega)
  refine loop_intro {i : Nat // i ≤ b.Limits.length ∧ (b.Limits.drop i).all (fun x => isLimit x) = b.Limits.all fun x => isLimit x} [2, 4, 30, 31, 32, 33, 34, 35, 36, 37, 38, 39, 40, 41, 42, 43] (fun zb => [(4, .v (.s (.int .i64 zb.1)))]) (fun _ => S) (fun zb => b.Limits.length - zb.1) ⟨0, Nat.zero_le _, rfl⟩ ?_ rfl ?_
  · (conv => whnf); repeat' (first | exact trivial | exact rfl | apply And.intro)
  rintro ⟨i, hi, hinv⟩; dsimp only
  by_cases hlt : i < b.Limits.length
  · rw [drop_at hlt, List.all_cons] at hinv
    rcases hP : (isLimit (b.Limits[((i : Nat) : Int).toNat]'hlt) : Bool) with _ | _
    · rw [show (isLimit (b.Limits[i])) = false from hP, Bool.false_and] at hinv
      rw [show rightsB b = false from by unfold rightsB; rw [← hinv]; simp]
      repeat' ((conv => whnf) <;> first
       | (show CondP _ _ _; refine cS ?_) | refine callP_eq (ev_sIsLimit _ _) ?_ | refine rE fun hml => ?_ | refine rI aN rf ix ?_ | refine rd_loadf aN tv ix ?_ | refine And.intro ?_ ?_)
      all_goals first
        | rfl
        | (exfalso; omega)
        | (exfalso; simp_all; done)
        | (exfalso; simp_all; omega)
    · rw [show (isLimit (b.Limits[i])) = true from hP, Bool.true_and] at hinv
      repeat' ((conv => whnf) <;> first
       | rw [wrapI_i64 (by omega)] | (show CondP _ _ _; refine cS ?_) | refine callP_eq (ev_sIsLimit _ _) ?_ | refine rE fun hml => ?_ | refine rI aN rf ix ?_ | refine rd_loadf aN tv ix ?_)
      all_goals first
        | (exfalso; omega)
        | (exfalso; simp_all; done)
        | (exfalso; simp_all; omega)
        | (refine ⟨⟨i + 1, by omega, hinv⟩, ?_, rfl, by dsimp only; omega⟩; (conv => whnf); repeat' (first | exact trivial | exact rfl | apply And.intro))
  rw [drop_end (by omega), List.all_nil] at hinv
  have hp : rightsB b = (decide (b.Grants.length ≤ 16) && decide (b.Limits.length ≤ 8)) := by unfold rightsB; rw [← hinv, ← hv0]; simp
  rw [hp, show decide (b.Grants.length ≤ 16) = decide ((b.Grants.length : Int) ≤ 16) from decide_eq_decide.2 (by omega), show decide (b.Limits.length ≤ 8) = decide ((b.Limits.length : Int) ≤ 8) from decide_eq_decide.2 (by omega)]
  repeat' ((conv => whnf) <;> first
   | (show CondP _ _ _; refine cS ?_) | refine cD (fun _ => ?_) fun _ => ?_ | refine rE fun hml => ?_ | refine And.intro ?_ ?_)
  all_goals first | rfl | (exfalso; omega) | (simp [resAV, *]; done) | (simp_all [resAV]; done)
set_option maxHeartbeats 8000000 in
theorem ev_sIsBrowser (b : GBrowser) (cs : List C) (S : Store) (h : Rd S b.d cs) (hz : szL b.d ≤ 4194304) : EvA Tryz.prog 190 [.agg cs] S (fun r S' => r = .v (.s (.bool (isBrowser b))) ∧ S' = S) := by
  have hzs := hz
  simp only [GBrowser.d, szL, List.length_map] at hzs
  obtain ⟨_, _, _, _, _, _, rfl, _, _, _, _, _, _⟩ := GBrowser.inv h
  refine evA_intro tok Tryz.func190 (by kernel_rfl) rfl ?_
  skip
  refine loop_intro {i : Nat // i ≤ b.Packs.length ∧ packsGo b (b.Packs.drop i) i = packsGo b b.Packs 0} [2, 3, 6, 7, 8, 9, 10, 11, 12, 13, 14, 15, 16, 17, 18, 19, 20, 21, 22, 23, 24, 25, 26, 27, 28, 29, 30, 31, 32, 33, 34, 35, 36, 37, 38, 39, 40, 41] (fun zb => [(3, .v (.s (.int .i64 zb.1)))]) (fun _ => S) (fun zb => b.Packs.length - zb.1) ⟨0, Nat.zero_le _, rfl⟩ ?_ rfl ?_
  · (conv => whnf); repeat' (first | exact trivial | exact rfl | apply And.intro)
  rintro ⟨i, hi, hinv⟩; dsimp only
  by_cases hlt : i < b.Packs.length
  · rw [drop_at hlt, packsGo] at hinv
    have hzk : szL (b.Packs[((i : Nat) : Int).toNat]'hlt).d ≤ 4194304 := by
      have h1 := szLL_mem (f := GPackage.d) (List.getElem_mem hlt)
      exact Nat.le_trans h1 (by omega)
    by_cases h0 : i = 0
    · have hz := packIx_zero (b := b) (p := (b.Packs[((i : Nat) : Int).toNat]'hlt)) h0
      rcases hP : packIx b (b.Packs[((i : Nat) : Int).toNat]'hlt) i with _ | _
      · rw [show packIx b (b.Packs[i]) i = false from hP, if_neg (by decide)] at hinv
        rw [show isBrowser b = false from by unfold isBrowser; rw [← hinv]; simp]
        rw [hz] at hP
        clear hz hinv
        repeat' ((conv => whnf) <;> first
         | (show CondP _ _ _; refine cS ?_) | refine cT ?_ | (refine callP_eq (ev_sIsSealed _ _ _ _ rdcB (by (first | omega | exact sz_at hz om | (simp only [szL]; omega)))) ?_) | refine rE fun hml => ?_ | refine rI aN rf ix ?_ | (refine rd_loadm (f := GPackage.d) aN ix ?_; intro _ hcs; obtain ⟨_, _, _, _, rfl, _, _, _, _⟩ := GPackage.inv hcs) | refine draw_intro 13 [.fl 0, .fl 1, .fl 2, .fl 3, .fl 4, .fl 5, .fl 6, .st 7 [], .fl 8, .fl 9, .fl 10, .fl 11, .fl 12, .fl 13, .fl 14, .fl 15, .fl 16, .fl 17, .fl 18, .fl 19, .fl 20, .fl 21, .fl 22, .fl 23, .fl 24, .fl 25, .fl 26, .fl 27, .fl 28] (by rfl) (by kernel_rfl) ?_ | refine And.intro ?_ ?_)
        all_goals first | rfl | (exfalso; omega) | (exfalso; simp_all; done)
      · rw [show packIx b (b.Packs[i]) i = true from hP, if_pos rfl] at hinv
        rw [hz] at hP
        clear hz
        repeat' ((conv => whnf) <;> first
         | rw [wrapI_i64 (by omega)] | (show CondP _ _ _; refine cS ?_) | refine cF ?_ | (refine callP_eq (ev_sIsSealed _ _ _ _ rdcB (by (first | omega | exact sz_at hz om | (simp only [szL]; omega)))) ?_) | refine rE fun hml => ?_ | refine rI aN rf ix ?_ | (refine rd_loadm (f := GPackage.d) aN ix ?_; intro _ hcs; obtain ⟨_, _, _, _, rfl, _, _, _, _⟩ := GPackage.inv hcs) | refine draw_intro 13 [.fl 0, .fl 1, .fl 2, .fl 3, .fl 4, .fl 5, .fl 6, .st 7 [], .fl 8, .fl 9, .fl 10, .fl 11, .fl 12, .fl 13, .fl 14, .fl 15, .fl 16, .fl 17, .fl 18, .fl 19, .fl 20, .fl 21, .fl 22, .fl 23, .fl 24, .fl 25, .fl 26, .fl 27, .fl 28] (by rfl) (by kernel_rfl) ?_)
        all_goals first | (exfalso; omega) | (refine ⟨⟨i + 1, by omega, hinv⟩, ?_, rfl, by dsimp only; omega⟩; (conv => whnf); repeat' (first | exact trivial | exact rfl | apply And.intro)) | (exfalso; simp_all; done)
    · have hz := packIx_pos (b := b) (p := (b.Packs[((i : Nat) : Int).toNat]'hlt)) (i := i) (by omega) (by omega)
      rcases hP : packIx b (b.Packs[((i : Nat) : Int).toNat]'hlt) i with _ | _
      · rw [show packIx b (b.Packs[i]) i = false from hP, if_neg (by decide)] at hinv
        rw [show isBrowser b = false from by unfold isBrowser; rw [← hinv]; simp]
        rw [hz] at hP
        clear hz hinv
        repeat' ((conv => whnf) <;> first
         | rw [wrapI_i64 (by omega)] | (show CondP _ _ _; refine cS ?_) | refine cD (fun _ => ?_) fun _ => ?_ | refine cT ?_ | refine cN (fun _ => ?_) fun _ => ?_ | (refine callP_eq (ev_sIsSealed _ _ _ _ rdcB (by (first | omega | exact sz_at hz om | (simp only [szL]; omega)))) ?_) | refine rE fun hml => ?_ | refine rI aN rf ix ?_ | (refine rd_loadm (f := GPackage.d) aN ix ?_; intro _ hcs; obtain ⟨_, _, _, _, rfl, _, _, _, _⟩ := GPackage.inv hcs) | refine draw_intro 13 [.fl 0, .fl 1, .fl 2, .fl 3, .fl 4, .fl 5, .fl 6, .st 7 [], .fl 8, .fl 9, .fl 10, .fl 11, .fl 12, .fl 13, .fl 14, .fl 15, .fl 16, .fl 17, .fl 18, .fl 19, .fl 20, .fl 21, .fl 22, .fl 23, .fl 24, .fl 25, .fl 26, .fl 27, .fl 28] (by rfl) (by kernel_rfl) ?_ | refine And.intro ?_ ?_)
        all_goals first | rfl | (exfalso; omega) | (exfalso; simp_all; done) | (exfalso; simp_all; omega)
      · rw [show packIx b (b.Packs[i]) i = true from hP, if_pos rfl] at hinv
        rw [hz] at hP
        simp only [Bool.and_eq_true, decide_eq_true_eq] at hP
        clear hz
        repeat' ((conv => whnf) <;> first
         | rw [wrapI_i64 (by omega)] | (show CondP _ _ _; refine cS ?_) | refine cT ?_ | refine cN (fun _ => ?_) fun _ => ?_ | (refine callP_eq (ev_sIsSealed _ _ _ _ rdcB (by (first | omega | exact sz_at hz om | (simp only [szL]; omega)))) ?_) | refine rE fun hml => ?_ | refine rI aN rf ix ?_ | (refine rd_loadm (f := GPackage.d) aN ix ?_; intro _ hcs; obtain ⟨_, _, _, _, rfl, _, _, _, _⟩ := GPackage.inv hcs) | refine draw_intro 13 [.fl 0, .fl 1, .fl 2, .fl 3, .fl 4, .fl 5, .fl 6, .st 7 [], .fl 8, .fl 9, .fl 10, .fl 11, .fl 12, .fl 13, .fl 14, .fl 15, .fl 16, .fl 17, .fl 18, .fl 19, .fl 20, .fl 21, .fl 22, .fl 23, .fl 24, .fl 25, .fl 26, .fl 27, .fl 28] (by rfl) (by kernel_rfl) ?_ | refine And.intro ?_ ?_)
        all_goals first | (exfalso; omega) | (refine ⟨⟨i + 1, by omega, hinv⟩, ?_, rfl, by dsimp only; omega⟩; (conv => whnf); repeat' (first | exact trivial | exact rfl | apply And.intro)) | (exfalso; simp_all; done) | (exfalso; simp_all; omega)
  rw [drop_end (by omega), packsGo] at hinv
  have hv0 := hinv
  clear hinv
  repeat' ((conv => whnf) <;> first
   | (show CondP _ _ _; refine cS ?_) | refine rE fun hml => ?_)
  all_goals try (exfalso; omega)
  refine loop_intro {i : Nat // i ≤ b.Rules.length ∧ (b.Rules.drop i).all (fun x => decide (0 ≤ packOf b x.Ext)) = b.Rules.all fun x => decide (0 ≤ packOf b x.Ext)} [2, 4, 42, 43, 44, 45, 46, 47, 48, 49, 50, 51, 52, 53, 54, 55, 56, 57] (fun zb => [(4, .v (.s (.int .i64 zb.1)))]) (fun _ => S) (fun zb => b.Rules.length - zb.1) ⟨0, Nat.zero_le _, rfl⟩ ?_ rfl ?_
  · (conv => whnf); repeat' (first | exact trivial | exact rfl | apply And.intro)
  rintro ⟨i, hi, hinv⟩; dsimp only
  by_cases hlt : i < b.Rules.length
  · rw [drop_at hlt, List.all_cons] at hinv
    rcases hP : (decide (0 ≤ packOf b (b.Rules[((i : Nat) : Int).toNat]'hlt).Ext) : Bool) with _ | _
    · rw [show (decide (0 ≤ packOf b (b.Rules[i]).Ext)) = false from hP, Bool.false_and] at hinv
      rw [show isBrowser b = false from by unfold isBrowser; rw [← hinv]; simp]
      simp only [decide_eq_false_iff_not, decide_eq_true_eq] at hP
      repeat' ((conv => whnf) <;> first
       | (show CondP _ _ _; refine cS ?_) | (refine callP_eq (ev_sPackOf _ _ _ _ rdcB) ?_) | refine rE fun hml => ?_ | refine rI aN rf ix ?_ | refine rd_loadf aN tv ix ?_ | refine draw_intro 49 [.fl 0, .fl 1, .fl 2, .fl 3, .fl 4, .fl 5, .fl 6, .st 7 [], .fl 8] (by rfl) (by kernel_rfl) ?_ | refine draw_intro 65 [.fl 0, .fl 1, .fl 2, .fl 3, .fl 4, .fl 5, .fl 6, .st 7 [], .fl 8] (by rfl) (by kernel_rfl) ?_ | refine And.intro ?_ ?_)
      all_goals first
        | rfl
        | (exfalso; omega)
        | (exfalso; simp_all; done)
        | (exfalso; simp_all; omega)
    · rw [show (decide (0 ≤ packOf b (b.Rules[i]).Ext)) = true from hP, Bool.true_and] at hinv
      simp only [decide_eq_false_iff_not, decide_eq_true_eq] at hP
      repeat' ((conv => whnf) <;> first
       | rw [wrapI_i64 (by omega)] | (show CondP _ _ _; refine cS ?_) | (refine callP_eq (ev_sPackOf _ _ _ _ rdcB) ?_) | refine rE fun hml => ?_ | refine rI aN rf ix ?_ | refine rd_loadf aN tv ix ?_ | refine draw_intro 49 [.fl 0, .fl 1, .fl 2, .fl 3, .fl 4, .fl 5, .fl 6, .st 7 [], .fl 8] (by rfl) (by kernel_rfl) ?_ | refine draw_intro 65 [.fl 0, .fl 1, .fl 2, .fl 3, .fl 4, .fl 5, .fl 6, .st 7 [], .fl 8] (by rfl) (by kernel_rfl) ?_)
      all_goals first
        | (exfalso; omega)
        | (exfalso; simp_all; done)
        | (exfalso; simp_all; omega)
        | (refine ⟨⟨i + 1, by omega, hinv⟩, ?_, rfl, by dsimp only; omega⟩; (conv => whnf); repeat' (first | exact trivial | exact rfl | apply And.intro))
  rw [drop_end (by omega), List.all_nil] at hinv
  have hv1 := hinv
  clear hinv
  repeat' ((conv => whnf) <;> first
   | (show CondP _ _ _; refine cS ?_) | refine rE fun hml => ?_)
  all_goals try (exfalso; omega)
  refine loop_intro {i : Nat // i ≤ b.Store.length ∧ (b.Store.drop i).all (fun x => decide (0 ≤ packOf b x.Ext)) = b.Store.all fun x => decide (0 ≤ packOf b x.Ext)} [2, 5, 58, 59, 60, 61, 62, 63, 64, 65, 66, 67, 68, 69, 70, 71, 72, 73] (fun zb => [(5, .v (.s (.int .i64 zb.1)))]) (fun _ => S) (fun zb => b.Store.length - zb.1) ⟨0, Nat.zero_le _, rfl⟩ ?_ rfl ?_
  · (conv => whnf); repeat' (first | exact trivial | exact rfl | apply And.intro)
  rintro ⟨i, hi, hinv⟩; dsimp only
  by_cases hlt : i < b.Store.length
  · rw [drop_at hlt, List.all_cons] at hinv
    rcases hP : (decide (0 ≤ packOf b (b.Store[((i : Nat) : Int).toNat]'hlt).Ext) : Bool) with _ | _
    · rw [show (decide (0 ≤ packOf b (b.Store[i]).Ext)) = false from hP, Bool.false_and] at hinv
      rw [show isBrowser b = false from by unfold isBrowser; rw [← hinv]; simp]
      simp only [decide_eq_false_iff_not, decide_eq_true_eq] at hP
      repeat' ((conv => whnf) <;> first
       | (show CondP _ _ _; refine cS ?_) | (refine callP_eq (ev_sPackOf _ _ _ _ rdcB) ?_) | refine rE fun hml => ?_ | refine rI aN rf ix ?_ | refine rd_loadf aN tv ix ?_ | refine draw_intro 49 [.fl 0, .fl 1, .fl 2, .fl 3, .fl 4, .fl 5, .fl 6, .st 7 [], .fl 8] (by rfl) (by kernel_rfl) ?_ | refine draw_intro 65 [.fl 0, .fl 1, .fl 2, .fl 3, .fl 4, .fl 5, .fl 6, .st 7 [], .fl 8] (by rfl) (by kernel_rfl) ?_ | refine And.intro ?_ ?_)
      all_goals first
        | rfl
        | (exfalso; omega)
        | (exfalso; simp_all; done)
        | (exfalso; simp_all; omega)
    · rw [show (decide (0 ≤ packOf b (b.Store[i]).Ext)) = true from hP, Bool.true_and] at hinv
      simp only [decide_eq_false_iff_not, decide_eq_true_eq] at hP
      repeat' ((conv => whnf) <;> first
       | rw [wrapI_i64 (by omega)] | (show CondP _ _ _; refine cS ?_) | (refine callP_eq (ev_sPackOf _ _ _ _ rdcB) ?_) | refine rE fun hml => ?_ | refine rI aN rf ix ?_ | refine rd_loadf aN tv ix ?_ | refine draw_intro 49 [.fl 0, .fl 1, .fl 2, .fl 3, .fl 4, .fl 5, .fl 6, .st 7 [], .fl 8] (by rfl) (by kernel_rfl) ?_ | refine draw_intro 65 [.fl 0, .fl 1, .fl 2, .fl 3, .fl 4, .fl 5, .fl 6, .st 7 [], .fl 8] (by rfl) (by kernel_rfl) ?_)
      all_goals first
        | (exfalso; omega)
        | (exfalso; simp_all; done)
        | (exfalso; simp_all; omega)
        | (refine ⟨⟨i + 1, by omega, hinv⟩, ?_, rfl, by dsimp only; omega⟩; (conv => whnf); repeat' (first | exact trivial | exact rfl | apply And.intro))
  rw [drop_end (by omega), List.all_nil] at hinv
  have hv2 := hinv
  clear hinv
  have hp : isBrowser b = (isKey b.Key && decide (b.Packs.length ≤ 5) && tabsB b && rightsB b && isFair b.Rules && isStore b.Store && inR b.Now 0 10000) := by
    unfold isBrowser isB0 tabsB rightsB; rw [← hv0, ← hv1, ← hv2]
    generalize isKey b.Key = a0; generalize inR b.Tabs.length 1 3 = a1; generalize decide (b.Packs.length ≤ 5) = a2; generalize decide (b.Grants.length ≤ 16) = a3; generalize decide (b.Limits.length ≤ 8) = a4; generalize isFair b.Rules = a5; generalize isStore b.Store = a6; generalize inR b.Now 0 10000 = a7; generalize (b.Tabs.all fun x => tabOk b x) = a8; generalize (b.Grants.all fun x => grOk b x) = a9; generalize (b.Limits.all fun x => isLimit x) = a10
    cases a0 <;> cases a1 <;> cases a2 <;> cases a5 <;> cases a6 <;> cases a7 <;> cases a8 <;> cases a9 <;> cases a10 <;> simp
  rw [hp, show isKey b.Key = inR b.Key 1 2147483646 from rfl, show decide (b.Packs.length ≤ 5) = decide ((b.Packs.length : Int) ≤ 5) from decide_eq_decide.2 (by omega)]
  repeat' ((conv => whnf) <;> first
   | (show CondP _ _ _; refine cS ?_) | refine cD (fun _ => ?_) fun _ => ?_ | refine cF ?_ | refine condP_inR (fun _ _ => ?_) (fun _ _ => ?_) | refine cI (fun _ => ?_) fun _ => ?_ | refine callP_eq (ev_sIsValidKey _ _) ?_ | refine callP_eq (ev_l1In _ _ _ _) ?_ | refine callP_eq (ev_l32Tabs _ _ _ rdcB (by first | assumption | omega)) ?_ | refine callP_eq (ev_l32Rights _ _ _ rdcB (by first | assumption | omega)) ?_ | refine callP_eq (ev_sIsFair _ _ _ aN om) ?_ | refine callP_eq (ev_sIsStore _ _ _ aN) ?_ | refine rE fun hml => ?_ | refine And.intro ?_ ?_)
  all_goals first | rfl | (exfalso; omega) | (simp [resAV, *]; done) | (simp_all [resAV]; done)
def newB (key : Int) (tabs : List GTab) : GBrowser := ⟨key, tabs, [], [], [], [], [], 0⟩
def newBrowser (key : Int) (tabs : List GTab) : GBrowser × Bool := if isBrowser (newB key tabs) then (newB key tabs, true) else (default, false)
theorem fr_br0 {S : Store} {lo : Nat} : Fr lo S (default : GBrowser).d [.int .i64 0, .nil, .nil, .nil, .nil, .nil, .nil, .int .i64 0] := fr_x (fr_slnil (fr_slnil (fr_slnil (fr_slnil (fr_slnil (fr_slnil (fr_x fr_nil)))))))
theorem newB_sz (key : Int) (tabs : List GTab) : szL (newB key tabs).d = tabs.length + szL.szLL (tabs.map GTab.d) := by
  simp only [newB, GBrowser.d, szL, List.length_map, List.map_nil, szL.szLL, List.length_nil]; omega
theorem ev_sNewBrowser (key : Int) (tabs : List GTab) (c : C) (S : Store) (h : Rd S [.sl 6 (tabs.map GTab.d)] [c]) (hz : tabs.length + szL.szLL (tabs.map GTab.d) ≤ 2097152) : EvA Tryz.prog 185 [.s (.int .i64 key), .s c] S (fun r S' => Ext S S' ∧ ∃ c1 c2 c3 c4 c5 c6, r = .tup [.agg [.int .i64 (newBrowser key tabs).1.Key, c1, c2, c3, c4, c5, c6, .int .i64 (newBrowser key tabs).1.Now], .s (.bool (newBrowser key tabs).2)] ∧ Fr S.length S' (newBrowser key tabs).1.d [.int .i64 (newBrowser key tabs).1.Key, c1, c2, c3, c4, c5, c6, .int .i64 (newBrowser key tabs).1.Now]) := by
  have hsz := newB_sz key tabs
  have hb : Rd S (newB key tabs).d [.int .i64 key, c, .nil, .nil, .nil, .nil, .nil, .int .i64 0] := GBrowser.rd h rd_empty0 rd_empty0 rd_empty0 rd_empty0 rd_empty0
  refine evA_intro tok Tryz.func185 (by kernel_rfl) rfl ?_
  skip
  (conv => whnf)
  refine callP_intro (ev_l32Copy (newB key tabs) _ _ hb (by omega)) ?_; rintro _ S1 ⟨e1, c1, c2, c3, c4, c5, c6, rfl, f1⟩
  have hr1 := f1.rd
  have hs1 : szL (newB key tabs).d ≤ 4194304 := by omega
  rcases hB : isBrowser (newB key tabs) with _ | _
  · rw [show newBrowser key tabs = (default, false) from by unfold newBrowser; rw [if_neg (by rw [hB]; decide)]]
    repeat' ((conv => whnf) <;> first
     | (refine callP_eq (ev_sIsBrowser (newB key tabs) _ _ hr1 hs1) ?_) | (show CondP _ _ _; refine cS ?_) | refine And.intro ?_ ?_)
    all_goals first
      | exact e1
      | exact ⟨_, _, _, _, _, _, rfl, fr_br0⟩
      | (exfalso; simp_all; done)
  · rw [show newBrowser key tabs = (newB key tabs, true) from by unfold newBrowser; rw [if_pos hB]]
    repeat' ((conv => whnf) <;> first
     | (refine callP_eq (ev_sIsBrowser (newB key tabs) _ _ hr1 hs1) ?_) | (show CondP _ _ _; refine cS ?_) | refine And.intro ?_ ?_)
    all_goals first
      | exact e1
      | exact ⟨_, _, _, _, _, _, rfl, f1⟩
      | (exfalso; simp_all; done)
end Go.Proofs.YtlmmdpmmdmhacaaGreat
