/- Rules and requests; comparisons. -/
import Derived.Test.YtlmmdpmmdmhacaaGreatKm21
import Derived.Test.YtlmmdpmmdmhacaaGreatKm23
import Derived.Test.YtlmmdpmmdmhacaaGreatKm24
namespace Go.Proofs.YtlmmdpmmdmhacaaGreat
set_option linter.unusedVariables false
set_option linter.unusedSimpArgs false
set_option maxRecDepth 100000
section
open Go Go.ChangeShapes Go.WideShapes Go.ChangeAt Go.RowKit
def isRule (ru : GRule) : Bool := inR ru.Ext 1 5 && inR ru.Prio 1 9 && isPattern ru.Pattern && inR ru.Sort' 0 4 && ((decide (ru.Action = 3) && isSite ru.To) || ((decide (ru.Action = 1) || decide (ru.Action = 2)) && decide (ru.To.Owner = 0) && decide (ru.To.Sub = 0)))
theorem ev_sIsRule (ru : GRule) (S : Store) : EvA Tryz.prog 279 [.agg ru.c] S (fun r S' => r = .v (.s (.bool (isRule ru))) ∧ S' = S) := by
  refine evA_intro tok Tryz.func279 (by kernel_rfl) rfl ?_
  repeat' ((conv => whnf) <;> first
   | refine cD (fun _ => ?_) fun _ => ?_ | refine cE (fun _ => ?_) fun _ => ?_ | refine cT ?_ | refine cF ?_ | refine condP_ninR (fun _ _ => ?_) (fun _ _ => ?_) | refine cN (fun _ => ?_) fun _ => ?_ | refine cI (fun _ => ?_) fun _ => ?_ | refine callP_eq (ev_l1In _ _ _ _) ?_ | refine callP_eq (ev_sIsSite _ _) ?_ | refine callP_eq (ev_sIsPattern _ _) ?_ | refine And.intro ?_ ?_)
  all_goals first | rfl | (simp_all [resAV, isRule, inR]; done) | (simp_all [resAV, isRule, inR]; intros; omega) | (simp_all [resAV, isRule, inR]; intros; exfalso; omega) | (simp_all [resAV, isRule, inR]; constructor <;> intros <;> omega) | (simp_all [resAV, isRule, inR]; rcases (show ru.Action = 1 ∨ ru.Action = 2 by omega) with h | h <;> simp [h])
def cmpI (x y : Int) : Int := if x < y then -1 else if y < x then 1 else 0
def orGo : List Int → Int
  | [] => 0
  | x :: r => if x = 0 then orGo r else x
end
section
open Go Go.ChangeShapes Go.WideShapes Go.ChangeAt Go.RowKit
def isFlow (f : GFlow) : Bool := inR f.Ext 1 5 && inR f.From 1 9 && inR f.To 1 9
theorem ev_sIsFlow (f : GFlow) (S : Store) : EvA Tryz.prog 278 [.agg f.c] S (fun r S' => r = .v (.s (.bool (isFlow f))) ∧ S' = S) := by
  refine evA_intro tok Tryz.func278 (by kernel_rfl) rfl ?_
  repeat' ((conv => whnf) <;> first
   | refine cF ?_ | refine condP_inR (fun _ _ => ?_) (fun _ _ => ?_) | refine callP_eq (ev_l1In _ _ _ _) ?_ | refine And.intro ?_ ?_)
  all_goals first | rfl | (simp_all [resAV, isFlow]; done) | (simp_all [resAV, isFlow]; intros; omega)
def isReg (n : Int) : Bool := inR n 0 5
def isOp (x : GOp) : Bool := inR x.A 0 5 && (((decide (x.Kind = 1) || decide (x.Kind = 5)) && inR x.B 1 9 && decide (x.C = 0)) || (decide (x.Kind = 2) && inR x.B 0 999 && decide (x.C = 0)) || ((decide (x.Kind = 3) || decide (x.Kind = 4)) && inR x.B 0 5 && inR x.C 0 5))
theorem ev_l21Ok (x : GOp) (S : Store) : EvA Tryz.prog 303 [.agg x.c] S (fun r S' => r = .v (.s (.bool (isOp x))) ∧ S' = S) := by
  refine evA_intro tok Tryz.func303 (by kernel_rfl) rfl ?_
  repeat' ((conv => whnf) <;> first
   | refine cD (fun _ => ?_) fun _ => ?_ | refine cF ?_ | refine condP_inR (fun _ _ => ?_) (fun _ _ => ?_) | refine callP_eq (ev_l1In _ _ _ _) ?_ | refine And.intro ?_ ?_)
  all_goals first | rfl | (simp_all [resAV, isOp, isReg]; done) | (simp_all [resAV, isOp, isReg]; intros; omega) | (rcases (show x.Kind = 1 ∨ x.Kind = 5 ∨ x.Kind = 2 ∨ x.Kind = 3 ∨ x.Kind = 4 ∨ (x.Kind ≠ 1 ∧ x.Kind ≠ 5 ∧ x.Kind ≠ 2 ∧ x.Kind ≠ 3 ∧ x.Kind ≠ 4) by omega) with h | h | h | h | h | h <;> first | (exfalso; omega) | (simp_all [resAV, isOp, isReg]; done))
def areOps (l : List GOp) : Bool := decide (l.length ≤ 16) && l.all fun x => isOp x
theorem ev_sAreOps (l : List GOp) (c : C) (S : Store) (h : Rd S [.sl 4 (l.map GOp.d)] [c]) : EvA Tryz.prog 240 [.s c] S (fun r S' => r = .v (.s (.bool (areOps l))) ∧ S' = S) := by
  refine evA_intro tok Tryz.func240 (by kernel_rfl) rfl ?_
  skip
  refine loop_intro {i : Nat // i ≤ l.length ∧ (l.drop i).all (fun x => isOp x) = l.all fun x => isOp x} [2, 3, 4, 5, 6, 7, 8, 9, 10, 11, 12, 13, 14, 15] (fun zb => [(3, .v (.s (.int .i64 zb.1)))]) (fun _ => S) (fun zb => l.length - zb.1) ⟨0, Nat.zero_le _, rfl⟩ ?_ rfl ?_
  · (conv => whnf); repeat' (first | exact trivial | exact rfl | apply And.intro)
  rintro ⟨i, hi, hinv⟩; dsimp only
  by_cases hlt : i < l.length
  · rw [drop_at hlt, List.all_cons] at hinv
    rcases hP : (isOp (l[((i : Nat) : Int).toNat]'hlt) : Bool) with _ | _
    · rw [show (isOp (l[i])) = false from hP, Bool.false_and] at hinv
      rw [show areOps l = false from by unfold areOps; rw [← hinv]; simp]
      repeat' ((conv => whnf) <;> first
       | (show CondP _ _ _; refine cS ?_) | refine callP_eq (ev_l21Ok _ _) ?_ | refine rE fun hml => ?_ | refine rI aN rf ix ?_ | refine rd_loadf aN tv ix ?_ | refine And.intro ?_ ?_)
      all_goals first
        | rfl
        | (exfalso; omega)
        | (exfalso; simp_all; done)
        | (exfalso; simp_all; omega)
    · rw [show (isOp (l[i])) = true from hP, Bool.true_and] at hinv
      repeat' ((conv => whnf) <;> first
       | rw [wrapI_i64 (by omega)] | (show CondP _ _ _; refine cS ?_) | refine callP_eq (ev_l21Ok _ _) ?_ | refine rE fun hml => ?_ | refine rI aN rf ix ?_ | refine rd_loadf aN tv ix ?_)
      all_goals first
        | (exfalso; omega)
        | (exfalso; simp_all; done)
        | (exfalso; simp_all; omega)
        | (refine ⟨⟨i + 1, by omega, hinv⟩, ?_, rfl, by dsimp only; omega⟩; (conv => whnf); repeat' (first | exact trivial | exact rfl | apply And.intro))
  rw [drop_end (by omega), List.all_nil] at hinv
  rw [show areOps l = decide (l.length ≤ 16) from by unfold areOps; rw [← hinv, Bool.and_true]]
  repeat' ((conv => whnf) <;> first
   | (show CondP _ _ _; refine cS ?_) | refine rE fun hml => ?_ | refine And.intro ?_ ?_)
  all_goals first | rfl | (exfalso; omega) | (rw [decide_eq_true (by omega)] <;> rfl) | exact congrArg (fun z => AV.v (V.s (C.bool z))) (decide_eq_decide.2 (by omega))
def pack0 (p : GPackage) : Bool := inR p.Ext 1 5 && inR p.Author 1 9 && inR p.Version 1 999 && decide (p.Grants.length ≤ 6) && decide (p.Flows.length ≤ 6) && decide (p.Rules.length ≤ 6) && areOps p.Ops
def isPackage (p : GPackage) : Bool := pack0 p && (p.Grants.all fun x => isGrant x && decide (x.Ext = p.Ext)) && (p.Flows.all fun x => isFlow x && decide (x.Ext = p.Ext)) && (p.Rules.all fun x => isRule x && decide (x.Ext = p.Ext))
set_option maxHeartbeats 4000000 in
theorem ev_sIsPackage (p : GPackage) (cs : List C) (S : Store) (h : Rd S p.d cs) : EvA Tryz.prog 224 [.agg cs] S (fun r S' => r = .v (.s (.bool (isPackage p))) ∧ S' = S) := by
  obtain ⟨_, _, _, _, rfl, _, _, _, _⟩ := GPackage.inv h
  refine evA_intro tok Tryz.func224 (by kernel_rfl) rfl ?_
  repeat' ((conv => whnf) <;> first
   | refine cD (fun _ => ?_) fun _ => ?_ | refine cT ?_ | refine condP_ninR (fun _ _ => ?_) (fun _ _ => ?_) | refine cN (fun _ => ?_) fun _ => ?_ | refine callP_eq (ev_l1In _ _ _ _) ?_ | refine callP_eq (ev_sAreOps _ _ _ aN) ?_ | refine rE fun hml => ?_ | refine And.intro ?_ ?_)
  all_goals try (rw [show isPackage p = false from by unfold isPackage; rw [show pack0 p = false from by unfold pack0; first | (simp_all; done) | (simp_all; omega)]; simp]; rfl)
  refine loop_intro {i : Nat // i ≤ p.Grants.length ∧ (p.Grants.drop i).all (fun x => isGrant x && decide (x.Ext = p.Ext)) = p.Grants.all fun x => isGrant x && decide (x.Ext = p.Ext)} [2, 3, 46, 47, 48, 49, 50, 51, 52, 53, 54, 55, 56, 57, 58, 59, 60, 61, 62, 63, 64, 65, 66, 67, 68, 69, 70] (fun zb => [(3, .v (.s (.int .i64 zb.1)))]) (fun _ => S) (fun zb => p.Grants.length - zb.1) ⟨0, Nat.zero_le _, rfl⟩ ?_ rfl ?_
  · (conv => whnf); repeat' (first | exact trivial | exact rfl | apply And.intro)
  rintro ⟨i, hi, hinv⟩; dsimp only
  by_cases hlt : i < p.Grants.length
  · rw [drop_at hlt, List.all_cons] at hinv
    rcases hP : (isGrant (p.Grants[((i : Nat) : Int).toNat]'hlt) && decide ((p.Grants[((i : Nat) : Int).toNat]'hlt).Ext = p.Ext) : Bool) with _ | _
    · rw [show (isGrant (p.Grants[i]) && decide ((p.Grants[i]).Ext = p.Ext)) = false from hP, Bool.false_and] at hinv
      rw [show isPackage p = false from by unfold isPackage; rw [← hinv]; simp]
      repeat' ((conv => whnf) <;> first
       | rw [wrapI_i64 (by omega)] | (show CondP _ _ _; refine cS ?_) | refine cE (fun _ => ?_) fun _ => ?_ | refine cT ?_ | refine cN (fun _ => ?_) fun _ => ?_ | refine callP_eq (ev_sIsGrant _ _) ?_ | refine rE fun hml => ?_ | refine rI aN rf ix ?_ | refine rd_loadf aN tv ix ?_ | refine draw_intro 53 [.fl 0, .fl 1, .fl 2, .fl 3, .fl 4, .st 5 [], .fl 6, .fl 7, .fl 8, .fl 9, .fl 10, .fl 11, .fl 12, .fl 13, .fl 14, .fl 15, .fl 16, .fl 17] (by rfl) (by kernel_rfl) ?_ | refine draw_intro 78 [.fl 0, .fl 1, .fl 2, .fl 3, .fl 4, .st 5 [], .fl 6, .fl 7, .fl 8, .fl 9, .fl 10, .fl 11, .fl 12, .fl 13, .fl 14, .fl 15, .fl 16, .fl 17] (by rfl) (by kernel_rfl) ?_ | refine draw_intro 103 [.fl 0, .fl 1, .fl 2, .fl 3, .fl 4, .st 5 [], .fl 6, .fl 7, .fl 8, .fl 9, .fl 10, .fl 11, .fl 12, .fl 13, .fl 14, .fl 15, .fl 16, .fl 17] (by rfl) (by kernel_rfl) ?_ | refine And.intro ?_ ?_)
      all_goals first
        | rfl
        | (exfalso; omega)
        | (exfalso; simp_all; done)
        | (exfalso; simp_all; omega)
    · rw [show (isGrant (p.Grants[i]) && decide ((p.Grants[i]).Ext = p.Ext)) = true from hP, Bool.true_and] at hinv
      repeat' ((conv => whnf) <;> first
       | rw [wrapI_i64 (by omega)] | (show CondP _ _ _; refine cS ?_) | refine cE (fun _ => ?_) fun _ => ?_ | refine cT ?_ | refine cN (fun _ => ?_) fun _ => ?_ | refine callP_eq (ev_sIsGrant _ _) ?_ | refine rE fun hml => ?_ | refine rI aN rf ix ?_ | refine rd_loadf aN tv ix ?_ | refine draw_intro 53 [.fl 0, .fl 1, .fl 2, .fl 3, .fl 4, .st 5 [], .fl 6, .fl 7, .fl 8, .fl 9, .fl 10, .fl 11, .fl 12, .fl 13, .fl 14, .fl 15, .fl 16, .fl 17] (by rfl) (by kernel_rfl) ?_ | refine draw_intro 78 [.fl 0, .fl 1, .fl 2, .fl 3, .fl 4, .st 5 [], .fl 6, .fl 7, .fl 8, .fl 9, .fl 10, .fl 11, .fl 12, .fl 13, .fl 14, .fl 15, .fl 16, .fl 17] (by rfl) (by kernel_rfl) ?_ | refine draw_intro 103 [.fl 0, .fl 1, .fl 2, .fl 3, .fl 4, .st 5 [], .fl 6, .fl 7, .fl 8, .fl 9, .fl 10, .fl 11, .fl 12, .fl 13, .fl 14, .fl 15, .fl 16, .fl 17] (by rfl) (by kernel_rfl) ?_ | refine And.intro ?_ ?_)
      all_goals first
        | (exfalso; omega)
        | (exfalso; simp_all; done)
        | (exfalso; simp_all; omega)
        | (refine ⟨⟨i + 1, by omega, hinv⟩, ?_, rfl, by dsimp only; omega⟩; (conv => whnf); repeat' (first | exact trivial | exact rfl | apply And.intro))
  rw [drop_end (by omega), List.all_nil] at hinv
  have hv0 := hinv
  clear hinv
  repeat' ((conv => whnf) <;> first
   | (show CondP _ _ _; refine cS ?_) | refine rE fun hml => ?_)
  all_goals try (exfalso; omega)
  refine loop_intro {i : Nat // i ≤ p.Flows.length ∧ (p.Flows.drop i).all (fun x => isFlow x && decide (x.Ext = p.Ext)) = p.Flows.all fun x => isFlow x && decide (x.Ext = p.Ext)} [2, 4, 71, 72, 73, 74, 75, 76, 77, 78, 79, 80, 81, 82, 83, 84, 85, 86, 87, 88, 89, 90, 91, 92, 93, 94, 95] (fun zb => [(4, .v (.s (.int .i64 zb.1)))]) (fun _ => S) (fun zb => p.Flows.length - zb.1) ⟨0, Nat.zero_le _, rfl⟩ ?_ rfl ?_
  · (conv => whnf); repeat' (first | exact trivial | exact rfl | apply And.intro)
  rintro ⟨i, hi, hinv⟩; dsimp only
  by_cases hlt : i < p.Flows.length
  · rw [drop_at hlt, List.all_cons] at hinv
    rcases hP : (isFlow (p.Flows[((i : Nat) : Int).toNat]'hlt) && decide ((p.Flows[((i : Nat) : Int).toNat]'hlt).Ext = p.Ext) : Bool) with _ | _
    · rw [show (isFlow (p.Flows[i]) && decide ((p.Flows[i]).Ext = p.Ext)) = false from hP, Bool.false_and] at hinv
      rw [show isPackage p = false from by unfold isPackage; rw [← hinv]; simp]
      repeat' ((conv => whnf) <;> first
       | rw [wrapI_i64 (by omega)] | (show CondP _ _ _; refine cS ?_) | refine cE (fun _ => ?_) fun _ => ?_ | refine cT ?_ | refine cN (fun _ => ?_) fun _ => ?_ | refine callP_eq (ev_sIsFlow _ _) ?_ | refine rE fun hml => ?_ | refine rI aN rf ix ?_ | refine rd_loadf aN tv ix ?_ | refine draw_intro 53 [.fl 0, .fl 1, .fl 2, .fl 3, .fl 4, .st 5 [], .fl 6, .fl 7, .fl 8, .fl 9, .fl 10, .fl 11, .fl 12, .fl 13, .fl 14, .fl 15, .fl 16, .fl 17] (by rfl) (by kernel_rfl) ?_ | refine draw_intro 78 [.fl 0, .fl 1, .fl 2, .fl 3, .fl 4, .st 5 [], .fl 6, .fl 7, .fl 8, .fl 9, .fl 10, .fl 11, .fl 12, .fl 13, .fl 14, .fl 15, .fl 16, .fl 17] (by rfl) (by kernel_rfl) ?_ | refine draw_intro 103 [.fl 0, .fl 1, .fl 2, .fl 3, .fl 4, .st 5 [], .fl 6, .fl 7, .fl 8, .fl 9, .fl 10, .fl 11, .fl 12, .fl 13, .fl 14, .fl 15, .fl 16, .fl 17] (by rfl) (by kernel_rfl) ?_ | refine And.intro ?_ ?_)
      all_goals first
        | rfl
        | (exfalso; omega)
        | (exfalso; simp_all; done)
        | (exfalso; simp_all; omega)
    · rw [show (isFlow (p.Flows[i]) && decide ((p.Flows[i]).Ext = p.Ext)) = true from hP, Bool.true_and] at hinv
      repeat' ((conv => whnf) <;> first
       | rw [wrapI_i64 (by omega)] | (show CondP _ _ _; refine cS ?_) | refine cE (fun _ => ?_) fun _ => ?_ | refine cT ?_ | refine cN (fun _ => ?_) fun _ => ?_ | refine callP_eq (ev_sIsFlow _ _) ?_ | refine rE fun hml => ?_ | refine rI aN rf ix ?_ | refine rd_loadf aN tv ix ?_ | refine draw_intro 53 [.fl 0, .fl 1, .fl 2, .fl 3, .fl 4, .st 5 [], .fl 6, .fl 7, .fl 8, .fl 9, .fl 10, .fl 11, .fl 12, .fl 13, .fl 14, .fl 15, .fl 16, .fl 17] (by rfl) (by kernel_rfl) ?_ | refine draw_intro 78 [.fl 0, .fl 1, .fl 2, .fl 3, .fl 4, .st 5 [], .fl 6, .fl 7, .fl 8, .fl 9, .fl 10, .fl 11, .fl 12, .fl 13, .fl 14, .fl 15, .fl 16, .fl 17] (by rfl) (by kernel_rfl) ?_ | refine draw_intro 103 [.fl 0, .fl 1, .fl 2, .fl 3, .fl 4, .st 5 [], .fl 6, .fl 7, .fl 8, .fl 9, .fl 10, .fl 11, .fl 12, .fl 13, .fl 14, .fl 15, .fl 16, .fl 17] (by rfl) (by kernel_rfl) ?_ | refine And.intro ?_ ?_)
      all_goals first
        | (exfalso; omega)
        | (exfalso; simp_all; done)
        | (exfalso; simp_all; omega)
        | (refine ⟨⟨i + 1, by omega, hinv⟩, ?_, rfl, by dsimp only; omega⟩; (conv => whnf); repeat' (first | exact trivial | exact rfl | apply And.intro))
  rw [drop_end (by omega), List.all_nil] at hinv
  have hv1 := hinv
  clear hinv
  repeat' ((conv => whnf) <;> first
   | (show CondP _ _ _; refine cS ?_) | refine rE fun hml => ?_)
  all_goals try (exfalso; omega)
  refine loop_intro {i : Nat // i ≤ p.Rules.length ∧ (p.Rules.drop i).all (fun x => isRule x && decide (x.Ext = p.Ext)) = p.Rules.all fun x => isRule x && decide (x.Ext = p.Ext)} [2, 5, 96, 97, 98, 99, 100, 101, 102, 103, 104, 105, 106, 107, 108, 109, 110, 111, 112, 113, 114, 115, 116, 117, 118, 119, 120] (fun zb => [(5, .v (.s (.int .i64 zb.1)))]) (fun _ => S) (fun zb => p.Rules.length - zb.1) ⟨0, Nat.zero_le _, rfl⟩ ?_ rfl ?_
  · (conv => whnf); repeat' (first | exact trivial | exact rfl | apply And.intro)
  rintro ⟨i, hi, hinv⟩; dsimp only
  by_cases hlt : i < p.Rules.length
  · rw [drop_at hlt, List.all_cons] at hinv
    rcases hP : (isRule (p.Rules[((i : Nat) : Int).toNat]'hlt) && decide ((p.Rules[((i : Nat) : Int).toNat]'hlt).Ext = p.Ext) : Bool) with _ | _
    · rw [show (isRule (p.Rules[i]) && decide ((p.Rules[i]).Ext = p.Ext)) = false from hP, Bool.false_and] at hinv
      rw [show isPackage p = false from by unfold isPackage; rw [← hinv]; simp]
      repeat' ((conv => whnf) <;> first
       | rw [wrapI_i64 (by omega)] | (show CondP _ _ _; refine cS ?_) | refine cE (fun _ => ?_) fun _ => ?_ | refine cT ?_ | refine cN (fun _ => ?_) fun _ => ?_ | refine callP_eq (ev_sIsRule _ _) ?_ | refine rE fun hml => ?_ | refine rI aN rf ix ?_ | refine rd_loadf aN tv ix ?_ | refine draw_intro 53 [.fl 0, .fl 1, .fl 2, .fl 3, .fl 4, .st 5 [], .fl 6, .fl 7, .fl 8, .fl 9, .fl 10, .fl 11, .fl 12, .fl 13, .fl 14, .fl 15, .fl 16, .fl 17] (by rfl) (by kernel_rfl) ?_ | refine draw_intro 78 [.fl 0, .fl 1, .fl 2, .fl 3, .fl 4, .st 5 [], .fl 6, .fl 7, .fl 8, .fl 9, .fl 10, .fl 11, .fl 12, .fl 13, .fl 14, .fl 15, .fl 16, .fl 17] (by rfl) (by kernel_rfl) ?_ | refine draw_intro 103 [.fl 0, .fl 1, .fl 2, .fl 3, .fl 4, .st 5 [], .fl 6, .fl 7, .fl 8, .fl 9, .fl 10, .fl 11, .fl 12, .fl 13, .fl 14, .fl 15, .fl 16, .fl 17] (by rfl) (by kernel_rfl) ?_ | refine And.intro ?_ ?_)
      all_goals first
        | rfl
        | (exfalso; omega)
        | (exfalso; simp_all; done)
        | (exfalso; simp_all; omega)
    · rw [show (isRule (p.Rules[i]) && decide ((p.Rules[i]).Ext = p.Ext)) = true from hP, Bool.true_and] at hinv
      repeat' ((conv => whnf) <;> first
       | rw [wrapI_i64 (by omega)] | (show CondP _ _ _; refine cS ?_) | refine cE (fun _ => ?_) fun _ => ?_ | refine cT ?_ | refine cN (fun _ => ?_) fun _ => ?_ | refine callP_eq (ev_sIsRule _ _) ?_ | refine rE fun hml => ?_ | refine rI aN rf ix ?_ | refine rd_loadf aN tv ix ?_ | refine draw_intro 53 [.fl 0, .fl 1, .fl 2, .fl 3, .fl 4, .st 5 [], .fl 6, .fl 7, .fl 8, .fl 9, .fl 10, .fl 11, .fl 12, .fl 13, .fl 14, .fl 15, .fl 16, .fl 17] (by rfl) (by kernel_rfl) ?_ | refine draw_intro 78 [.fl 0, .fl 1, .fl 2, .fl 3, .fl 4, .st 5 [], .fl 6, .fl 7, .fl 8, .fl 9, .fl 10, .fl 11, .fl 12, .fl 13, .fl 14, .fl 15, .fl 16, .fl 17] (by rfl) (by kernel_rfl) ?_ | refine draw_intro 103 [.fl 0, .fl 1, .fl 2, .fl 3, .fl 4, .st 5 [], .fl 6, .fl 7, .fl 8, .fl 9, .fl 10, .fl 11, .fl 12, .fl 13, .fl 14, .fl 15, .fl 16, .fl 17] (by rfl) (by kernel_rfl) ?_ | refine And.intro ?_ ?_)
      all_goals first
        | (exfalso; omega)
        | (exfalso; simp_all; done)
        | (exfalso; simp_all; omega)
        | (refine ⟨⟨i + 1, by omega, hinv⟩, ?_, rfl, by dsimp only; omega⟩; (conv => whnf); repeat' (first | exact trivial | exact rfl | apply And.intro))
  rw [drop_end (by omega), List.all_nil] at hinv
  have hv2 := hinv
  clear hinv
  have hp : isPackage p = pack0 p := by unfold isPackage; rw [← hv0, ← hv1, ← hv2]; simp
  rw [hp]
  repeat' ((conv => whnf) <;> first
   | (show CondP _ _ _; refine cS ?_) | refine rE fun hml => ?_ | refine And.intro ?_ ?_)
  all_goals first
    | rfl
    | (exfalso; omega)
    | (rw [show pack0 p = true from by unfold pack0; first | (simp_all; done) | (simp_all; omega)]; rfl)
    | (simp only [pack0, resAV]; simp_all; done)
    | (simp only [pack0, resAV]; simp_all; omega)
theorem tmodM (p : Int) : Int.tmod p 2147483647 = p % 2147483647 ∨ Int.tmod p 2147483647 = p % 2147483647 - 2147483647 := by
  rw [Int.tmod_eq_emod]
  split
  · left; simp
  · right; rfl
theorem tmodM0 {p : Int} (h : 0 ≤ p) : Int.tmod p 2147483647 = p % 2147483647 := Int.tmod_eq_emod_of_nonneg h
def foldH (acc v : Int) : Int := (acc * 1000003 + v % 2147483647 + 13) % 2147483647
def hashL (acc : Int) (l : List Int) : Int := l.foldl foldH acc
def keyed (key : Int) (l : List Int) : Int := foldH (hashL (foldH 11 key) l) key
theorem foldH_in (acc v : Int) : 0 ≤ foldH acc v ∧ foldH acc v < 2147483647 := by unfold foldH; omega
theorem hashL_in {acc : Int} (h : 0 ≤ acc ∧ acc < 2147483647) : ∀ l : List Int, 0 ≤ hashL acc l ∧ hashL acc l < 2147483647
  | [] => h
  | v :: l => hashL_in (foldH_in acc v) l
theorem hashL_take {acc : Int} {l : List Int} {i : Nat} (h : i < l.length) : hashL acc (l.take (i + 1)) = foldH (hashL acc (l.take i)) l[i] := by
  unfold hashL; rw [List.take_succ_eq_append_getElem h, List.foldl_append]; rfl
theorem keyed_hash (key : Int) (l : List Int) : hashL 11 ((key :: l) ++ [key]) = keyed key l := by
  unfold keyed hashL; rw [List.cons_append, List.foldl_cons, List.foldl_append]; rfl
theorem ev_sMod (p : Int) (S : Store) : EvA Tryz.prog 339 [.s (.int .i64 p), .s (.int .i64 2147483647)] S (fun r S' => r = .v (.s (.int .i64 (p % 2147483647))) ∧ S' = S) := by
  have h1 := tmodM p
  have h2 : 0 ≤ Int.tmod p 2147483647 + 2147483647 := by omega
  have h3 : Int.tmod (Int.tmod p 2147483647 + 2147483647) 2147483647 = p % 2147483647 := by rw [tmodM0 h2]; omega
  have h4 : inR 2147483647 1 1000000000000 = true := by decide
  refine evA_intro tok Tryz.func339 (by kernel_rfl) rfl ?_
  repeat' ((conv => whnf) <;> first
   | rw [wrapI_i64 (by omega)] | refine cF ?_ | refine callP_eq (ev_l1In _ _ _ _) ?_ | refine nP ?_ | refine And.intro ?_ ?_)
  all_goals first
    | rfl
    | (exfalso; omega)
    | (exfalso; simp_all; done)
    | exact congrArg (fun z => AV.v (V.s (C.int .i64 z))) h3
    | exact congrArg (fun z => AV.v (V.s (C.int .i64 z))) (by omega)
def isKey (key : Int) : Bool := inR key 1 2147483646
theorem ev_sIsValidKey (key : Int) (S : Store) : EvA Tryz.prog 223 [.s (.int .i64 key)] S (fun r S' => r = .v (.s (.bool (isKey key))) ∧ S' = S) := by
  refine evA_intro tok Tryz.func223 (by kernel_rfl) rfl ?_
  repeat' ((conv => whnf) <;> first
   | refine callP_eq (ev_l1In _ _ _ _) ?_ | refine And.intro ?_ ?_)
  all_goals first | rfl | (simp_all [resAV, isKey]; done) | (simp_all [resAV, isKey]; intros; omega)
theorem ev_sHash (l : List Int) (c : C) (S : Store) (h : Rd S [.sl 1 (l.map dInt)] [c]) : EvA Tryz.prog 280 [.s c] S (fun r S' => r = .v (.s (.int .i64 (hashL 11 l))) ∧ S' = S) := by
  refine evA_intro tok Tryz.func280 (by kernel_rfl) rfl ?_
  skip
  refine loop_intro {p : Nat × Int // p.1 ≤ l.length ∧ p.2 = hashL 11 (l.take p.1)} [3, 4, 5, 6, 7, 8, 9, 10, 11, 12, 13, 14, 15, 16, 17, 18, 19, 20] (fun zb => [(4, .v (.s (.int .i64 (zb.1.1)))), (3, .v (.s (.int .i64 zb.1.2)))]) (fun _ => S) (fun zb => l.length - zb.1.1) ⟨(0, 11), Nat.zero_le _, rfl⟩ ?_ rfl ?_
  · (conv => whnf); repeat' (first | exact trivial | exact rfl | apply And.intro)
  rintro ⟨⟨i, st⟩, hi, hinv⟩; dsimp only
  replace hi : i ≤ l.length := hi; dsimp only at hinv
  have hb := hashL_in (acc := 11) (by decide) (l.take i)
  rw [← hinv] at hb
  by_cases hlt : i < l.length
  · have hs := hashL_take (acc := 11) hlt
    rw [← hinv] at hs
    have h1 : 0 ≤ l[i] % 2147483647 ∧ l[i] % 2147483647 < 2147483647 := by omega
    have h2 : Int.tmod (st * 1000003 + l[i] % 2147483647 + 13) 2147483647 = foldH st l[i] := tmodM0 (by omega)
    have h1' : 0 ≤ (l[((i : Nat) : Int).toNat]'hlt) % 2147483647 ∧ (l[((i : Nat) : Int).toNat]'hlt) % 2147483647 < 2147483647 := h1
    repeat' ((conv => whnf) <;> first
     | rw [wrapI_i64 (by omega)] | (show CondP _ _ _; refine cS ?_) | refine callP_eq (ev_sMod _ _) ?_ | refine rE fun hml => ?_ | refine rI aN rf ix ?_ | refine rd_loadf aN tv ix ?_ | refine nP ?_)
    all_goals first
      | (exfalso; omega)
      | (refine ⟨⟨(i + 1, foldH st (l[i]'hlt)), by dsimp only; omega, hs.symm⟩, ?_, rfl, by dsimp only; omega⟩; (conv => whnf); repeat' (first | exact trivial | exact rfl | exact congrArg (fun z => AV.v (V.s (C.int .i64 z))) h2 | apply And.intro))
  · rw [List.take_of_length_le (by omega)] at hinv
    rw [← hinv]
    repeat' ((conv => whnf) <;> first
     | (show CondP _ _ _; refine cS ?_) | refine rE fun hml => ?_ | refine And.intro ?_ ?_)
    all_goals first
      | rfl
      | (exfalso; omega)
theorem ev_sKeyedHash (key : Int) (l : List Int) (c : C) (S : Store) (h : Rd S [.sl 1 (l.map dInt)] [c]) (hz : l.length ≤ 4194304) : EvA Tryz.prog 225 [.s (.int .i64 key), .s c] S (fun r S' => r = .v (.s (.int .i64 (keyed key l))) ∧ S' = S) := by
  refine EvA.drop rfl ?_
  rw [← keyed_hash]
  have f0 : Fr S.length (S ++ [⟨true, 1, [key].map fun n => flatC (dInt n)⟩]) [.sl 1 ([key].map dInt)] [.sl S.length 0 1 1] := fr_push (xs := [key].map dInt) (js := []) (rep2_flat (f := dInt) (fun _ => trivial) [key]) List.nodup_nil (fun _ h => by cases h) (Nat.le_refl _) (by rw [maxLen_eq]; simp) (by simp)
  refine evA_intro tok Tryz.func225 (by kernel_rfl) rfl ?_
  repeat' ((conv => whnf) <;> first
   | refine callP_eq (ev_sHash _ _ _ rdA) ?_ | (refine rd_elemsf (f := dInt) (l := l) rdA tv (fun _ => ?_)) | (refine fr_app_flat (f := dInt) (l := [key]) (m := l) (fun _ => trivial) (Ext.push _ _) f0 rfl rf (by dsimp only [T3]; simp; omega) (by rw [maxLen_eq]; simp; omega) ?_; intro cA SA hEA hFA hlA) | (refine fr_app_flat (f := dInt) (l := key :: l) (m := [key]) (fun _ => trivial) hEA hFA rfl rf (by dsimp only [T3]; simp; omega) (by rw [maxLen_eq]; simp; omega) ?_; intro cB SB hEB hFB hlB) | refine And.intro ?_ ?_)
  all_goals first
    | rfl
    | exact hEB
end
end Go.Proofs.YtlmmdpmmdmhacaaGreat
