/- Rules and requests; comparisons. -/
import Derived.Test.YtlmmdpmmdmhacaaGreatKt17
import Derived.Test.YtlmmdpmmdmhacaaGreatKt19
import Derived.Test.YtlmmdpmmdmhacaaGreatKt20
namespace Go.Proofs.YtlmmdpmmdmhacaaGreat
set_option linter.unusedVariables false
set_option linter.unusedSimpArgs false
set_option maxRecDepth 100000
section
open Go Go.ChangeShapes Go.WideShapes Go.ChangeAt Go.RowKit
def zkr (q : GRequest) : Bool := ze7 q.Site && inR q.Sort' 1 4
theorem zqo (q : GRequest) (S : Store) : EvA Tryz.prog 211 [.agg q.c] S (fun r S' => r = .v (.s (.bool (zkr q))) ∧ S' = S) := by
 refine zac tok Tryz.func211 (by kernel_rfl) rfl ?_
 repeat' ((conv => whnf) <;> first
  | refine cI (fun _ => ?_) fun _ => ?_ | refine zaa (zat _ _ _ _) ?_ | refine zaa (zeg _ _) ?_ | refine And.intro ?_ ?_)
 all_goals first | rfl | (simp_all [zay, zkr]; done) | (simp_all [zay, zkr]; intros; omega)
def zbt (ru : GRule) : Bool := inR ru.Ext 1 5 && inR ru.Prio 1 9 && zbl ru.Pattern && inR ru.Sort' 0 4 && ((decide (ru.Action = 3) && ze7 ru.To) || ((decide (ru.Action = 1) || decide (ru.Action = 2)) && decide (ru.To.Owner = 0) && decide (ru.To.Sub = 0)))
theorem zgt (ru : GRule) (S : Store) : EvA Tryz.prog 279 [.agg ru.c] S (fun r S' => r = .v (.s (.bool (zbt ru))) ∧ S' = S) := by
 refine zac tok Tryz.func279 (by kernel_rfl) rfl ?_
 repeat' ((conv => whnf) <;> first
  | refine cD (fun _ => ?_) fun _ => ?_ | refine cE (fun _ => ?_) fun _ => ?_ | refine cT ?_ | refine cF ?_ | refine zar (fun _ _ => ?_) (fun _ _ => ?_) | refine cN (fun _ => ?_) fun _ => ?_ | refine cI (fun _ => ?_) fun _ => ?_ | refine zaa (zcp _ _ _ _) ?_ | refine zaa (zpx _ _) ?_ | refine zaa (zhf _ _) ?_ | refine And.intro ?_ ?_)
 all_goals first | rfl | (simp_all [zay, zbt, inR]; done) | (simp_all [zay, zbt, inR]; intros; omega) | (simp_all [zay, zbt, inR]; intros; exfalso; omega) | (simp_all [zay, zbt, inR]; constructor <;> intros <;> omega) | (simp_all [zay, zbt, inR]; rcases (show ru.Action = 1 ∨ ru.Action = 2 by omega) with h | h <;> simp [h])
theorem zez (ru : GRule) (S : Store) : EvA Tryz.prog 134 [.agg ru.c] S (fun r S' => r = .v (.s (.bool (zbt ru))) ∧ S' = S) := by
 refine zac tok Tryz.func134 (by kernel_rfl) rfl ?_
 repeat' ((conv => whnf) <;> first
  | refine cD (fun _ => ?_) fun _ => ?_ | refine cT ?_ | refine zar (fun _ _ => ?_) (fun _ _ => ?_) | refine cN (fun _ => ?_) fun _ => ?_ | refine zaa (zat _ _ _ _) ?_ | refine zaa (zeg _ _) ?_ | refine zaa (zeq _ _) ?_ | refine And.intro ?_ ?_)
 all_goals first | rfl | (simp_all [zay, zbt, inR]; done) | (simp_all [zay, zbt, inR]; intros; omega) | (simp_all [zay, zbt, inR]; intros; exfalso; omega) | (simp_all [zay, zbt, inR]; constructor <;> intros <;> omega) | (simp_all [zay, zbt, inR]; rcases (show ru.Action = 1 ∨ ru.Action = 2 by omega) with h | h <;> simp [h])
def zbd (ru : GRule) (q : GRequest) : Bool := zbt ru && zkr q && ze8 ru.Pattern q.Site && (decide (ru.Sort' = 0) || decide (ru.Sort' = q.Sort'))
theorem zeb (ru : GRule) (q : GRequest) (S : Store) : EvA Tryz.prog 133 [.agg ru.c, .agg q.c] S (fun r S' => r = .v (.s (.bool (zbd ru q))) ∧ S' = S) := by
 refine zac tok Tryz.func133 (by kernel_rfl) rfl ?_
 repeat' ((conv => whnf) <;> first
  | refine cD (fun _ => ?_) fun _ => ?_ | refine cF ?_ | refine cI (fun _ => ?_) fun _ => ?_ | refine zaa (zez _ _) ?_ | refine zaa (zfk _ _ _) ?_ | refine zaa (zqo _ _) ?_ | refine And.intro ?_ ?_)
 all_goals first | rfl | (simp_all [zay, zbd]; done) | (simp_all [zay, zbd]; intros; omega)
def cmpI (x y : Int) : Int := if x < y then -1 else if y < x then 1 else 0
theorem z2m (x : Int) (S : Store) : EvA Tryz.prog 270 [.s (.int .i64 x)] S (fun r S' => r = .v (.s (.bool false)) ∧ S' = S) := by
 refine zac tok Tryz.func270 (by kernel_rfl) rfl ?_
 repeat' ((conv => whnf) <;> first
  | refine And.intro ?_ ?_)
 all_goals first | rfl | (simp_all [zay]; done)
theorem zpg (x y : Int) (S : Store) : EvA Tryz.prog 213 [.s (.int .i64 x), .s (.int .i64 y)] S (fun r S' => r = .v (.s (.int .i64 (cmpI x y))) ∧ S' = S) := by
 refine zac tok Tryz.func213 (by kernel_rfl) rfl ?_
 repeat' ((conv => whnf) <;> first
  | refine cD (fun _ => ?_) fun _ => ?_ | refine cF ?_ | refine zaa (z2m _ _) ?_ | refine And.intro ?_ ?_)
 all_goals first | rfl | (rw [show cmpI x y = -1 from if_pos (by omega)]; rfl) | (rw [show cmpI x y = 1 from (if_neg (by omega)).trans (if_pos (by omega))]; rfl) | (rw [show cmpI x y = 0 from (if_neg (by omega)).trans (if_neg (by omega))]; rfl)
def orGo : List Int → Int
 | [] => 0
 | x :: r => if x = 0 then orGo r else x
theorem z6o (l : List Int) (c : C) (S : Store) (h : Rd S [.sl 1 (l.map dInt)] [c]) : EvA Tryz.prog 212 [.s c] S (fun r S' => r = .v (.s (.int .i64 (orGo l))) ∧ S' = S) := by
 refine zac tok Tryz.func212 (by kernel_rfl) rfl ?_
 repeat' ((conv => whnf) <;> first
  | refine rE fun hml => ?_)
 refine zag {i : Nat // i ≤ l.length ∧ orGo (l.drop i) = orGo l} [2, 5, 8, 9, 10, 11, 12, 13, 14, 15, 16] (fun zb => [(8, .v (.s (.int .i64 zb.1)))]) (fun _ => S) (fun zb => l.length - zb.1) ⟨0, Nat.zero_le _, rfl⟩ okL rfl ?_
 rintro ⟨i, hi, hinv⟩; dsimp only
 by_cases hlt : i < l.length
 ·rw [zam hlt, orGo] at hinv
  repeat' ((conv => whnf) <;> first
   | rw [zad (by omega)] | refine cD (fun _ => ?_) fun _ => ?_ | refine cE (fun _ => ?_) fun _ => ?_ | refine rI aN rf ix ?_ | refine zaf aN tv ix ?_ | refine And.intro ?_ ?_)
  all_goals first
   | rfl
   | (exfalso; omega)
   | (rw [if_neg (by assumption)] at hinv; rw [← hinv]; rfl)
   | (rename_i hc; have hc : l[i] = 0 := hc; rw [if_pos hc] at hinv; (refine ⟨⟨i + 1, by omega, hinv⟩, ?_, rfl, by simp; omega⟩; (conv => whnf); repeat' (first | exact trivial | exact rfl | apply And.intro)))
 ·rw [zak (by omega), orGo] at hinv
  repeat' ((conv => whnf) <;> first
   | rw [zad (by omega)] | refine cD (fun _ => ?_) fun _ => ?_ | refine cE (fun _ => ?_) fun _ => ?_ | refine rI aN rf ix ?_ | refine zaf aN tv ix ?_ | refine And.intro ?_ ?_)
  all_goals first
   | rfl
   | (exfalso; omega)
   | (rw [← hinv]; rfl)
theorem zvh {S : Store} (l : List Int) (h : l.length ≤ 9223372036854775807) : Rd (S ++ [⟨true, 1, l.map fun n => [.int .i64 n]⟩]) [.sl 1 (l.map dInt)] [.sl S.length 0 l.length l.length] :=
 Fr.rd (lo := S.length) (zih (xs := l.map dInt) (js := []) (zem (f := dInt) (fun _ => trivial) l) List.nodup_nil (fun _ h => by cases h) (Nat.le_refl _) (by rw [zan]; simpa using h) (by simp))
end
section
open Go Go.ChangeShapes Go.WideShapes Go.ChangeAt Go.RowKit
def zel (f : GFlow) : Bool := inR f.Ext 1 5 && inR f.From 1 9 && inR f.To 1 9
theorem zph (f : GFlow) (S : Store) : EvA Tryz.prog 278 [.agg f.c] S (fun r S' => r = .v (.s (.bool (zel f))) ∧ S' = S) := by
 refine zac tok Tryz.func278 (by kernel_rfl) rfl ?_
 repeat' ((conv => whnf) <;> first
  | refine cF ?_ | refine zbu (fun _ _ => ?_) (fun _ _ => ?_) | refine zaa (zcp _ _ _ _) ?_ | refine And.intro ?_ ?_)
 all_goals first | rfl | (simp_all [zay, zel]; done) | (simp_all [zay, zel]; intros; omega)
theorem ze1 (f : GFlow) (S : Store) : EvA Tryz.prog 150 [.agg f.c] S (fun r S' => r = .v (.s (.bool (zel f))) ∧ S' = S) := by
 refine zac tok Tryz.func150 (by kernel_rfl) rfl ?_
 repeat' ((conv => whnf) <;> first
  | refine cF ?_ | refine zbu (fun _ _ => ?_) (fun _ _ => ?_) | refine zaa (zat _ _ _ _) ?_ | refine And.intro ?_ ?_)
 all_goals first | rfl | (simp_all [zay, zel]; done) | (simp_all [zay, zel]; intros; omega)
def zrb (n : Int) : Bool := inR n 0 5
theorem zrs (n : Int) (S : Store) : EvA Tryz.prog 327 [.s (.int .i64 n)] S (fun r S' => r = .v (.s (.bool (zrb n))) ∧ S' = S) := by
 refine zac tok Tryz.func327 (by kernel_rfl) rfl ?_
 repeat' ((conv => whnf) <;> first
  | refine zaa (zat _ _ _ _) ?_ | refine And.intro ?_ ?_)
 all_goals first | rfl | (simp_all [zay, zrb]; done) | (simp_all [zay, zrb]; intros; omega)
def isOp (x : GOp) : Bool := inR x.A 0 5 && (((decide (x.Kind = 1) || decide (x.Kind = 5)) && inR x.B 1 9 && decide (x.C = 0)) || (decide (x.Kind = 2) && inR x.B 0 999 && decide (x.C = 0)) || ((decide (x.Kind = 3) || decide (x.Kind = 4)) && inR x.B 0 5 && inR x.C 0 5))
theorem z13 (x : GOp) (S : Store) : EvA Tryz.prog 268 [.agg x.c] S (fun r S' => r = .v (.s (.bool (isOp x))) ∧ S' = S) := by
 refine zac tok Tryz.func268 (by kernel_rfl) rfl ?_
 repeat' ((conv => whnf) <;> first
  | refine cD (fun _ => ?_) fun _ => ?_ | refine zbu (fun _ _ => ?_) (fun _ _ => ?_) | refine zar (fun _ _ => ?_) (fun _ _ => ?_) | refine zaa (zat _ _ _ _) ?_ | refine zaa (zrs _ _) ?_ | refine And.intro ?_ ?_)
 all_goals first | rfl | (simp_all [zay, isOp, zrb]; done) | (simp_all [zay, isOp, zrb]; intros; omega) | (rcases (show x.Kind = 1 ∨ x.Kind = 5 ∨ x.Kind = 2 ∨ x.Kind = 3 ∨ x.Kind = 4 ∨ (x.Kind ≠ 1 ∧ x.Kind ≠ 5 ∧ x.Kind ≠ 2 ∧ x.Kind ≠ 3 ∧ x.Kind ≠ 4) by omega) with h | h | h | h | h | h <;> first | (exfalso; omega) | (simp_all [zay, isOp, zrb]; done))
theorem zwe (x : GOp) (S : Store) : EvA Tryz.prog 303 [.agg x.c] S (fun r S' => r = .v (.s (.bool (isOp x))) ∧ S' = S) := by
 refine zac tok Tryz.func303 (by kernel_rfl) rfl ?_
 repeat' ((conv => whnf) <;> first
  | refine cD (fun _ => ?_) fun _ => ?_ | refine cF ?_ | refine zbu (fun _ _ => ?_) (fun _ _ => ?_) | refine zaa (zcp _ _ _ _) ?_ | refine And.intro ?_ ?_)
 all_goals first | rfl | (simp_all [zay, isOp, zrb]; done) | (simp_all [zay, isOp, zrb]; intros; omega) | (rcases (show x.Kind = 1 ∨ x.Kind = 5 ∨ x.Kind = 2 ∨ x.Kind = 3 ∨ x.Kind = 4 ∨ (x.Kind ≠ 1 ∧ x.Kind ≠ 5 ∧ x.Kind ≠ 2 ∧ x.Kind ≠ 3 ∧ x.Kind ≠ 4) by omega) with h | h | h | h | h | h <;> first | (exfalso; omega) | (simp_all [zay, isOp, zrb]; done))
def zcv (l : List GOp) : Bool := decide (l.length ≤ 16) && l.all fun x => isOp x
theorem zle (l : List GOp) (c : C) (S : Store) (h : Rd S [.sl 4 (l.map GOp.d)] [c]) : EvA Tryz.prog 240 [.s c] S (fun r S' => r = .v (.s (.bool (zcv l))) ∧ S' = S) := by
 refine zac tok Tryz.func240 (by kernel_rfl) rfl ?_
 skip
 refine zag {i : Nat // i ≤ l.length ∧ (l.drop i).all (fun x => isOp x) = l.all fun x => isOp x} [2, 3, 4, 5, 6, 7, 8, 9, 10, 11, 12, 13, 14, 15] (fun zb => [(3, .v (.s (.int .i64 zb.1)))]) (fun _ => S) (fun zb => l.length - zb.1) ⟨0, Nat.zero_le _, rfl⟩ okL rfl ?_
 rintro ⟨i, hi, hinv⟩; dsimp only
 by_cases hlt : i < l.length
 ·rw [zam hlt, List.all_cons] at hinv
  rcases hP : (isOp (l[((i : Nat) : Int).toNat]'hlt) : Bool) with _ | _
  ·rw [show (isOp (l[i])) = false from hP, Bool.false_and] at hinv
   rw [show zcv l = false from by unfold zcv; rw [← hinv]; simp]
   repeat' ((conv => whnf) <;> first
    | (show CondP _ _ _; refine cS ?_) | refine zaa (zwe _ _) ?_ | refine rE fun hml => ?_ | refine rI aN rf ix ?_ | refine zaf aN tv ix ?_ | refine And.intro ?_ ?_)
   all_goals first
    | rfl
    | (exfalso; omega)
    | (exfalso; simp_all; done)
    | (exfalso; simp_all; omega)
  ·rw [show (isOp (l[i])) = true from hP, Bool.true_and] at hinv
   repeat' ((conv => whnf) <;> first
    | rw [zad (by omega)] | (show CondP _ _ _; refine cS ?_) | refine zaa (zwe _ _) ?_ | refine rE fun hml => ?_ | refine rI aN rf ix ?_ | refine zaf aN tv ix ?_)
   all_goals first
    | (exfalso; omega)
    | (exfalso; simp_all; done)
    | (exfalso; simp_all; omega)
    | (refine ⟨⟨i + 1, by omega, hinv⟩, ?_, rfl, by dsimp only; omega⟩; (conv => whnf); repeat' (first | exact trivial | exact rfl | apply And.intro))
 rw [zak (by omega), List.all_nil] at hinv
 rw [show zcv l = decide (l.length ≤ 16) from by unfold zcv; rw [← hinv, Bool.and_true]]
 repeat' ((conv => whnf) <;> first
  | (show CondP _ _ _; refine cS ?_) | refine rE fun hml => ?_ | refine And.intro ?_ ?_)
 all_goals first | rfl | (exfalso; omega) | (rw [decide_eq_true (by omega)] <;> rfl) | exact congrArg (fun z => AV.v (V.s (C.bool z))) (decide_eq_decide.2 (by omega))
theorem zdu (l : List GOp) (c : C) (S : Store) (h : Rd S [.sl 4 (l.map GOp.d)] [c]) : EvA Tryz.prog 207 [.s c] S (fun r S' => r = .v (.s (.bool (zcv l))) ∧ S' = S) := by
 refine zac tok Tryz.func207 (by kernel_rfl) rfl ?_
 repeat' ((conv => whnf) <;> first
  | refine cD (fun _ => ?_) fun _ => ?_ | refine rE fun hml => ?_ | refine And.intro ?_ ?_)
 all_goals try (rw [show zcv l = false from by unfold zcv; rw [decide_eq_false (by omega), Bool.false_and]]; rfl)
 refine zag {i : Nat // i ≤ l.length ∧ (l.drop i).all (fun x => isOp x) = l.all fun x => isOp x} [2, 4, 10, 11, 12, 13, 14, 15, 16, 17] (fun zb => [(10, .v (.s (.int .i64 zb.1)))]) (fun _ => S) (fun zb => l.length - zb.1) ⟨0, Nat.zero_le _, rfl⟩ okL rfl ?_
 rintro ⟨i, hi, hinv⟩; dsimp only
 by_cases hlt : i < l.length
 ·rw [zam hlt, List.all_cons] at hinv
  rcases hP : (isOp (l[((i : Nat) : Int).toNat]'hlt) : Bool) with _ | _
  ·rw [show (isOp (l[i])) = false from hP, Bool.false_and] at hinv
   rw [show zcv l = false from by unfold zcv; rw [← hinv]; simp]
   repeat' ((conv => whnf) <;> first
    | (show CondP _ _ _; refine cS ?_) | refine zaa (z13 _ _) ?_ | refine rI aN rf ix ?_ | refine zaf aN tv ix ?_ | refine And.intro ?_ ?_)
   all_goals first
    | rfl
    | (exfalso; omega)
    | (exfalso; simp_all; done)
    | (exfalso; simp_all; omega)
  ·rw [show (isOp (l[i])) = true from hP, Bool.true_and] at hinv
   repeat' ((conv => whnf) <;> first
    | rw [zad (by omega)] | (show CondP _ _ _; refine cS ?_) | refine zaa (z13 _ _) ?_ | refine rI aN rf ix ?_ | refine zaf aN tv ix ?_)
   all_goals first
    | (exfalso; omega)
    | (exfalso; simp_all; done)
    | (exfalso; simp_all; omega)
    | (refine ⟨⟨i + 1, by omega, hinv⟩, ?_, rfl, by dsimp only; omega⟩; (conv => whnf); repeat' (first | exact trivial | exact rfl | apply And.intro))
 rw [zak (by omega), List.all_nil] at hinv
 rw [show zcv l = decide (l.length ≤ 16) from by unfold zcv; rw [← hinv, Bool.and_true]]
 repeat' ((conv => whnf) <;> first
  | (show CondP _ _ _; refine cS ?_) | refine And.intro ?_ ?_)
 all_goals first | rfl | (exfalso; omega) | (rw [decide_eq_true (by omega)] <;> rfl) | exact congrArg (fun z => AV.v (V.s (C.bool z))) (decide_eq_decide.2 (by omega))
def zhu (p : GPackage) : Bool := inR p.Ext 1 5 && inR p.Author 1 9 && inR p.Version 1 999 && decide (p.Grants.length ≤ 6) && decide (p.Flows.length ≤ 6) && decide (p.Rules.length ≤ 6) && zcv p.Ops
def zal (p : GPackage) : Bool := zhu p && (p.Grants.all fun x => za4 x && decide (x.Ext = p.Ext)) && (p.Flows.all fun x => zel x && decide (x.Ext = p.Ext)) && (p.Rules.all fun x => zbt x && decide (x.Ext = p.Ext))
set_option maxHeartbeats 4000000 in
theorem zdt (p : GPackage) (cs : List C) (S : Store) (h : Rd S p.d cs) : EvA Tryz.prog 224 [.agg cs] S (fun r S' => r = .v (.s (.bool (zal p))) ∧ S' = S) := by
 obtain ⟨_, _, _, _, rfl, _, _, _, _⟩ := GPackage.inv h
 refine zac tok Tryz.func224 (by kernel_rfl) rfl ?_
 repeat' ((conv => whnf) <;> first
  | refine cD (fun _ => ?_) fun _ => ?_ | refine cT ?_ | refine zar (fun _ _ => ?_) (fun _ _ => ?_) | refine cN (fun _ => ?_) fun _ => ?_ | refine zaa (zcp _ _ _ _) ?_ | refine zaa (zle _ _ _ aN) ?_ | refine rE fun hml => ?_ | refine And.intro ?_ ?_)
 all_goals try (rw [show zal p = false from by unfold zal; rw [show zhu p = false from by unfold zhu; first | (simp_all; done) | (simp_all; omega)]; simp]; rfl)
 refine zag {i : Nat // i ≤ p.Grants.length ∧ (p.Grants.drop i).all (fun x => za4 x && decide (x.Ext = p.Ext)) = p.Grants.all fun x => za4 x && decide (x.Ext = p.Ext)} [2, 3, 46, 47, 48, 49, 50, 51, 52, 53, 54, 55, 56, 57, 58, 59, 60, 61, 62, 63, 64, 65, 66, 67, 68, 69, 70] (fun zb => [(3, .v (.s (.int .i64 zb.1)))]) (fun _ => S) (fun zb => p.Grants.length - zb.1) ⟨0, Nat.zero_le _, rfl⟩ okL rfl ?_
 rintro ⟨i, hi, hinv⟩; dsimp only
 by_cases hlt : i < p.Grants.length
 ·rw [zam hlt, List.all_cons] at hinv
  rcases hP : (za4 (p.Grants[((i : Nat) : Int).toNat]'hlt) && decide ((p.Grants[((i : Nat) : Int).toNat]'hlt).Ext = p.Ext) : Bool) with _ | _
  ·rw [show (za4 (p.Grants[i]) && decide ((p.Grants[i]).Ext = p.Ext)) = false from hP, Bool.false_and] at hinv
   rw [show zal p = false from by unfold zal; rw [← hinv]; simp]
   repeat' ((conv => whnf) <;> first
    | rw [zad (by omega)] | (show CondP _ _ _; refine cS ?_) | refine cE (fun _ => ?_) fun _ => ?_ | refine cT ?_ | refine cN (fun _ => ?_) fun _ => ?_ | refine zaa (zhi _ _) ?_ | refine rE fun hml => ?_ | refine rI aN rf ix ?_ | refine zaf aN tv ix ?_ | refine zae 53 (iN 18 0 [5]) (by rfl) (by kernel_rfl) ?_ | refine zae 78 (iN 18 0 [5]) (by rfl) (by kernel_rfl) ?_ | refine zae 103 (iN 18 0 [5]) (by rfl) (by kernel_rfl) ?_ | refine And.intro ?_ ?_)
   all_goals first
    | rfl
    | (exfalso; omega)
    | (exfalso; simp_all; done)
    | (exfalso; simp_all; omega)
  ·rw [show (za4 (p.Grants[i]) && decide ((p.Grants[i]).Ext = p.Ext)) = true from hP, Bool.true_and] at hinv
   repeat' ((conv => whnf) <;> first
    | rw [zad (by omega)] | (show CondP _ _ _; refine cS ?_) | refine cE (fun _ => ?_) fun _ => ?_ | refine cT ?_ | refine cN (fun _ => ?_) fun _ => ?_ | refine zaa (zhi _ _) ?_ | refine rE fun hml => ?_ | refine rI aN rf ix ?_ | refine zaf aN tv ix ?_ | refine zae 53 (iN 18 0 [5]) (by rfl) (by kernel_rfl) ?_ | refine zae 78 (iN 18 0 [5]) (by rfl) (by kernel_rfl) ?_ | refine zae 103 (iN 18 0 [5]) (by rfl) (by kernel_rfl) ?_ | refine And.intro ?_ ?_)
   all_goals first
    | (exfalso; omega)
    | (exfalso; simp_all; done)
    | (exfalso; simp_all; omega)
    | (refine ⟨⟨i + 1, by omega, hinv⟩, ?_, rfl, by dsimp only; omega⟩; (conv => whnf); repeat' (first | exact trivial | exact rfl | apply And.intro))
 rw [zak (by omega), List.all_nil] at hinv
 have hv0 := hinv
 clear hinv
 repeat' ((conv => whnf) <;> first
  | (show CondP _ _ _; refine cS ?_) | refine rE fun hml => ?_)
 all_goals try (exfalso; omega)
 refine zag {i : Nat // i ≤ p.Flows.length ∧ (p.Flows.drop i).all (fun x => zel x && decide (x.Ext = p.Ext)) = p.Flows.all fun x => zel x && decide (x.Ext = p.Ext)} [2, 4, 71, 72, 73, 74, 75, 76, 77, 78, 79, 80, 81, 82, 83, 84, 85, 86, 87, 88, 89, 90, 91, 92, 93, 94, 95] (fun zb => [(4, .v (.s (.int .i64 zb.1)))]) (fun _ => S) (fun zb => p.Flows.length - zb.1) ⟨0, Nat.zero_le _, rfl⟩ okL rfl ?_
 rintro ⟨i, hi, hinv⟩; dsimp only
 by_cases hlt : i < p.Flows.length
 ·rw [zam hlt, List.all_cons] at hinv
  rcases hP : (zel (p.Flows[((i : Nat) : Int).toNat]'hlt) && decide ((p.Flows[((i : Nat) : Int).toNat]'hlt).Ext = p.Ext) : Bool) with _ | _
  ·rw [show (zel (p.Flows[i]) && decide ((p.Flows[i]).Ext = p.Ext)) = false from hP, Bool.false_and] at hinv
   rw [show zal p = false from by unfold zal; rw [← hinv]; simp]
   repeat' ((conv => whnf) <;> first
    | rw [zad (by omega)] | (show CondP _ _ _; refine cS ?_) | refine cE (fun _ => ?_) fun _ => ?_ | refine cT ?_ | refine cN (fun _ => ?_) fun _ => ?_ | refine zaa (zph _ _) ?_ | refine rE fun hml => ?_ | refine rI aN rf ix ?_ | refine zaf aN tv ix ?_ | refine zae 53 (iN 18 0 [5]) (by rfl) (by kernel_rfl) ?_ | refine zae 78 (iN 18 0 [5]) (by rfl) (by kernel_rfl) ?_ | refine zae 103 (iN 18 0 [5]) (by rfl) (by kernel_rfl) ?_ | refine And.intro ?_ ?_)
   all_goals first
    | rfl
    | (exfalso; omega)
    | (exfalso; simp_all; done)
    | (exfalso; simp_all; omega)
  ·rw [show (zel (p.Flows[i]) && decide ((p.Flows[i]).Ext = p.Ext)) = true from hP, Bool.true_and] at hinv
   repeat' ((conv => whnf) <;> first
    | rw [zad (by omega)] | (show CondP _ _ _; refine cS ?_) | refine cE (fun _ => ?_) fun _ => ?_ | refine cT ?_ | refine cN (fun _ => ?_) fun _ => ?_ | refine zaa (zph _ _) ?_ | refine rE fun hml => ?_ | refine rI aN rf ix ?_ | refine zaf aN tv ix ?_ | refine zae 53 (iN 18 0 [5]) (by rfl) (by kernel_rfl) ?_ | refine zae 78 (iN 18 0 [5]) (by rfl) (by kernel_rfl) ?_ | refine zae 103 (iN 18 0 [5]) (by rfl) (by kernel_rfl) ?_ | refine And.intro ?_ ?_)
   all_goals first
    | (exfalso; omega)
    | (exfalso; simp_all; done)
    | (exfalso; simp_all; omega)
    | (refine ⟨⟨i + 1, by omega, hinv⟩, ?_, rfl, by dsimp only; omega⟩; (conv => whnf); repeat' (first | exact trivial | exact rfl | apply And.intro))
 rw [zak (by omega), List.all_nil] at hinv
 have hv1 := hinv
 clear hinv
 repeat' ((conv => whnf) <;> first
  | (show CondP _ _ _; refine cS ?_) | refine rE fun hml => ?_)
 all_goals try (exfalso; omega)
 refine zag {i : Nat // i ≤ p.Rules.length ∧ (p.Rules.drop i).all (fun x => zbt x && decide (x.Ext = p.Ext)) = p.Rules.all fun x => zbt x && decide (x.Ext = p.Ext)} [2, 5, 96, 97, 98, 99, 100, 101, 102, 103, 104, 105, 106, 107, 108, 109, 110, 111, 112, 113, 114, 115, 116, 117, 118, 119, 120] (fun zb => [(5, .v (.s (.int .i64 zb.1)))]) (fun _ => S) (fun zb => p.Rules.length - zb.1) ⟨0, Nat.zero_le _, rfl⟩ okL rfl ?_
 rintro ⟨i, hi, hinv⟩; dsimp only
 by_cases hlt : i < p.Rules.length
 ·rw [zam hlt, List.all_cons] at hinv
  rcases hP : (zbt (p.Rules[((i : Nat) : Int).toNat]'hlt) && decide ((p.Rules[((i : Nat) : Int).toNat]'hlt).Ext = p.Ext) : Bool) with _ | _
  ·rw [show (zbt (p.Rules[i]) && decide ((p.Rules[i]).Ext = p.Ext)) = false from hP, Bool.false_and] at hinv
   rw [show zal p = false from by unfold zal; rw [← hinv]; simp]
   repeat' ((conv => whnf) <;> first
    | rw [zad (by omega)] | (show CondP _ _ _; refine cS ?_) | refine cE (fun _ => ?_) fun _ => ?_ | refine cT ?_ | refine cN (fun _ => ?_) fun _ => ?_ | refine zaa (zgt _ _) ?_ | refine rE fun hml => ?_ | refine rI aN rf ix ?_ | refine zaf aN tv ix ?_ | refine zae 53 (iN 18 0 [5]) (by rfl) (by kernel_rfl) ?_ | refine zae 78 (iN 18 0 [5]) (by rfl) (by kernel_rfl) ?_ | refine zae 103 (iN 18 0 [5]) (by rfl) (by kernel_rfl) ?_ | refine And.intro ?_ ?_)
   all_goals first
    | rfl
    | (exfalso; omega)
    | (exfalso; simp_all; done)
    | (exfalso; simp_all; omega)
  ·rw [show (zbt (p.Rules[i]) && decide ((p.Rules[i]).Ext = p.Ext)) = true from hP, Bool.true_and] at hinv
   repeat' ((conv => whnf) <;> first
    | rw [zad (by omega)] | (show CondP _ _ _; refine cS ?_) | refine cE (fun _ => ?_) fun _ => ?_ | refine cT ?_ | refine cN (fun _ => ?_) fun _ => ?_ | refine zaa (zgt _ _) ?_ | refine rE fun hml => ?_ | refine rI aN rf ix ?_ | refine zaf aN tv ix ?_ | refine zae 53 (iN 18 0 [5]) (by rfl) (by kernel_rfl) ?_ | refine zae 78 (iN 18 0 [5]) (by rfl) (by kernel_rfl) ?_ | refine zae 103 (iN 18 0 [5]) (by rfl) (by kernel_rfl) ?_ | refine And.intro ?_ ?_)
   all_goals first
    | (exfalso; omega)
    | (exfalso; simp_all; done)
    | (exfalso; simp_all; omega)
    | (refine ⟨⟨i + 1, by omega, hinv⟩, ?_, rfl, by dsimp only; omega⟩; (conv => whnf); repeat' (first | exact trivial | exact rfl | apply And.intro))
 rw [zak (by omega), List.all_nil] at hinv
 have hv2 := hinv
 clear hinv
 have hp : zal p = zhu p := by unfold zal; rw [← hv0, ← hv1, ← hv2]; simp
 rw [hp]
 repeat' ((conv => whnf) <;> first
  | (show CondP _ _ _; refine cS ?_) | refine rE fun hml => ?_ | refine And.intro ?_ ?_)
 all_goals first
  | rfl
  | (exfalso; omega)
  | (rw [show zhu p = true from by unfold zhu; first | (simp_all; done) | (simp_all; omega)]; rfl)
  | (simp only [zhu, zay]; simp_all; done)
  | (simp only [zhu, zay]; simp_all; omega)
set_option maxHeartbeats 4000000 in
theorem zcb (p : GPackage) (cs : List C) (S : Store) (h : Rd S p.d cs) : EvA Tryz.prog 136 [.agg cs] S (fun r S' => r = .v (.s (.bool (zal p))) ∧ S' = S) := by
 obtain ⟨_, _, _, _, rfl, _, _, _, _⟩ := GPackage.inv h
 refine zac tok Tryz.func136 (by kernel_rfl) rfl ?_
 repeat' ((conv => whnf) <;> first
  | refine cD (fun _ => ?_) fun _ => ?_ | refine cT ?_ | refine zar (fun _ _ => ?_) (fun _ _ => ?_) | refine zaa (zat _ _ _ _) ?_ | refine rE fun hml => ?_ | refine And.intro ?_ ?_)
 all_goals try (rw [show zal p = false from by unfold zal; rw [show zhu p = false from by unfold zhu; first | (simp_all; done) | (simp_all; omega)]; simp]; rfl)
 refine zag {i : Nat // i ≤ p.Grants.length ∧ (p.Grants.drop i).all (fun x => za4 x && decide (x.Ext = p.Ext)) = p.Grants.all fun x => za4 x && decide (x.Ext = p.Ext)} [2, 4, 46, 47, 48, 49, 50, 51, 52, 53, 54, 55, 56, 57, 58, 59, 60] (fun zb => [(46, .v (.s (.int .i64 zb.1)))]) (fun _ => S) (fun zb => p.Grants.length - zb.1) ⟨0, Nat.zero_le _, rfl⟩ okL rfl ?_
 rintro ⟨i, hi, hinv⟩; dsimp only
 by_cases hlt : i < p.Grants.length
 ·rw [zam hlt, List.all_cons] at hinv
  rcases hP : (za4 (p.Grants[((i : Nat) : Int).toNat]'hlt) && decide ((p.Grants[((i : Nat) : Int).toNat]'hlt).Ext = p.Ext) : Bool) with _ | _
  ·rw [show (za4 (p.Grants[i]) && decide ((p.Grants[i]).Ext = p.Ext)) = false from hP, Bool.false_and] at hinv
   rw [show zal p = false from by unfold zal; rw [← hinv]; simp]
   repeat' ((conv => whnf) <;> first
    | rw [zad (by omega)] | (show CondP _ _ _; refine cS ?_) | refine cE (fun _ => ?_) fun _ => ?_ | refine cT ?_ | refine cN (fun _ => ?_) fun _ => ?_ | refine zaa (zco _ _) ?_ | refine rI aN rf ix ?_ | refine zaf aN tv ix ?_ | refine And.intro ?_ ?_)
   all_goals first
    | rfl
    | (exfalso; omega)
    | (exfalso; simp_all; done)
    | (exfalso; simp_all; omega)
  ·rw [show (za4 (p.Grants[i]) && decide ((p.Grants[i]).Ext = p.Ext)) = true from hP, Bool.true_and] at hinv
   repeat' ((conv => whnf) <;> first
    | rw [zad (by omega)] | (show CondP _ _ _; refine cS ?_) | refine cE (fun _ => ?_) fun _ => ?_ | refine cT ?_ | refine cN (fun _ => ?_) fun _ => ?_ | refine zaa (zco _ _) ?_ | refine rI aN rf ix ?_ | refine zaf aN tv ix ?_ | refine And.intro ?_ ?_)
   all_goals first
    | (exfalso; omega)
    | (exfalso; simp_all; done)
    | (exfalso; simp_all; omega)
    | (refine ⟨⟨i + 1, by omega, hinv⟩, ?_, rfl, by dsimp only; omega⟩; (conv => whnf); repeat' (first | exact trivial | exact rfl | apply And.intro))
 rw [zak (by omega), List.all_nil] at hinv
 have hv0 := hinv
 clear hinv
 repeat' ((conv => whnf) <;> first
  | (show CondP _ _ _; refine cS ?_) | refine rE fun hml => ?_)
 all_goals try (exfalso; omega)
 refine zag {i : Nat // i ≤ p.Flows.length ∧ (p.Flows.drop i).all (fun x => zel x && decide (x.Ext = p.Ext)) = p.Flows.all fun x => zel x && decide (x.Ext = p.Ext)} [2, 6, 64, 65, 66, 67, 68, 69, 70, 71, 72, 73, 74, 75, 76, 77, 78] (fun zb => [(64, .v (.s (.int .i64 zb.1)))]) (fun _ => S) (fun zb => p.Flows.length - zb.1) ⟨0, Nat.zero_le _, rfl⟩ okL rfl ?_
 rintro ⟨i, hi, hinv⟩; dsimp only
 by_cases hlt : i < p.Flows.length
 ·rw [zam hlt, List.all_cons] at hinv
  rcases hP : (zel (p.Flows[((i : Nat) : Int).toNat]'hlt) && decide ((p.Flows[((i : Nat) : Int).toNat]'hlt).Ext = p.Ext) : Bool) with _ | _
  ·rw [show (zel (p.Flows[i]) && decide ((p.Flows[i]).Ext = p.Ext)) = false from hP, Bool.false_and] at hinv
   rw [show zal p = false from by unfold zal; rw [← hinv]; simp]
   repeat' ((conv => whnf) <;> first
    | rw [zad (by omega)] | (show CondP _ _ _; refine cS ?_) | refine cE (fun _ => ?_) fun _ => ?_ | refine cT ?_ | refine cN (fun _ => ?_) fun _ => ?_ | refine zaa (ze1 _ _) ?_ | refine rI aN rf ix ?_ | refine zaf aN tv ix ?_ | refine And.intro ?_ ?_)
   all_goals first
    | rfl
    | (exfalso; omega)
    | (exfalso; simp_all; done)
    | (exfalso; simp_all; omega)
  ·rw [show (zel (p.Flows[i]) && decide ((p.Flows[i]).Ext = p.Ext)) = true from hP, Bool.true_and] at hinv
   repeat' ((conv => whnf) <;> first
    | rw [zad (by omega)] | (show CondP _ _ _; refine cS ?_) | refine cE (fun _ => ?_) fun _ => ?_ | refine cT ?_ | refine cN (fun _ => ?_) fun _ => ?_ | refine zaa (ze1 _ _) ?_ | refine rI aN rf ix ?_ | refine zaf aN tv ix ?_ | refine And.intro ?_ ?_)
   all_goals first
    | (exfalso; omega)
    | (exfalso; simp_all; done)
    | (exfalso; simp_all; omega)
    | (refine ⟨⟨i + 1, by omega, hinv⟩, ?_, rfl, by dsimp only; omega⟩; (conv => whnf); repeat' (first | exact trivial | exact rfl | apply And.intro))
 rw [zak (by omega), List.all_nil] at hinv
 have hv1 := hinv
 clear hinv
 repeat' ((conv => whnf) <;> first
  | (show CondP _ _ _; refine cS ?_) | refine rE fun hml => ?_)
 all_goals try (exfalso; omega)
 refine zag {i : Nat // i ≤ p.Rules.length ∧ (p.Rules.drop i).all (fun x => zbt x && decide (x.Ext = p.Ext)) = p.Rules.all fun x => zbt x && decide (x.Ext = p.Ext)} [2, 8, 82, 83, 84, 85, 86, 87, 88, 89, 90, 91, 92, 93, 94, 95, 96] (fun zb => [(82, .v (.s (.int .i64 zb.1)))]) (fun _ => S) (fun zb => p.Rules.length - zb.1) ⟨0, Nat.zero_le _, rfl⟩ okL rfl ?_
 rintro ⟨i, hi, hinv⟩; dsimp only
 by_cases hlt : i < p.Rules.length
 ·rw [zam hlt, List.all_cons] at hinv
  rcases hP : (zbt (p.Rules[((i : Nat) : Int).toNat]'hlt) && decide ((p.Rules[((i : Nat) : Int).toNat]'hlt).Ext = p.Ext) : Bool) with _ | _
  ·rw [show (zbt (p.Rules[i]) && decide ((p.Rules[i]).Ext = p.Ext)) = false from hP, Bool.false_and] at hinv
   rw [show zal p = false from by unfold zal; rw [← hinv]; simp]
   repeat' ((conv => whnf) <;> first
    | rw [zad (by omega)] | (show CondP _ _ _; refine cS ?_) | refine cE (fun _ => ?_) fun _ => ?_ | refine cT ?_ | refine cN (fun _ => ?_) fun _ => ?_ | refine zaa (zez _ _) ?_ | refine rI aN rf ix ?_ | refine zaf aN tv ix ?_ | refine And.intro ?_ ?_)
   all_goals first
    | rfl
    | (exfalso; omega)
    | (exfalso; simp_all; done)
    | (exfalso; simp_all; omega)
  ·rw [show (zbt (p.Rules[i]) && decide ((p.Rules[i]).Ext = p.Ext)) = true from hP, Bool.true_and] at hinv
   repeat' ((conv => whnf) <;> first
    | rw [zad (by omega)] | (show CondP _ _ _; refine cS ?_) | refine cE (fun _ => ?_) fun _ => ?_ | refine cT ?_ | refine cN (fun _ => ?_) fun _ => ?_ | refine zaa (zez _ _) ?_ | refine rI aN rf ix ?_ | refine zaf aN tv ix ?_ | refine And.intro ?_ ?_)
   all_goals first
    | (exfalso; omega)
    | (exfalso; simp_all; done)
    | (exfalso; simp_all; omega)
    | (refine ⟨⟨i + 1, by omega, hinv⟩, ?_, rfl, by dsimp only; omega⟩; (conv => whnf); repeat' (first | exact trivial | exact rfl | apply And.intro))
 rw [zak (by omega), List.all_nil] at hinv
 have hv2 := hinv
 clear hinv
 have hp : zal p = zhu p := by unfold zal; rw [← hv0, ← hv1, ← hv2]; simp
 rw [hp]
 repeat' ((conv => whnf) <;> first
  | (show CondP _ _ _; refine cS ?_) | refine zaa (zdu _ _ _ aN) ?_ | refine And.intro ?_ ?_)
 all_goals first
  | rfl
  | (exfalso; omega)
  | (rw [show zhu p = true from by unfold zhu; first | (simp_all; done) | (simp_all; omega)]; rfl)
  | (simp only [zhu, zay]; simp_all; done)
  | (simp only [zhu, zay]; simp_all; omega)
theorem z6m (p : Int) : Int.tmod p 2147483647 = p % 2147483647 ∨ Int.tmod p 2147483647 = p % 2147483647 - 2147483647 := by
 rw [Int.tmod_eq_emod]
 split
 ·left; simp
 ·right; rfl
theorem zwt {p : Int} (h : 0 ≤ p) : Int.tmod p 2147483647 = p % 2147483647 := Int.tmod_eq_emod_of_nonneg h
def zi4 (acc v : Int) : Int := (acc * 1000003 + v % 2147483647 + 13) % 2147483647
def zml (acc : Int) (l : List Int) : Int := l.foldl zi4 acc
def zq0 (key : Int) (l : List Int) : Int := zi4 (zml (zi4 11 key) l) key
theorem zgk (acc v : Int) : 0 ≤ zi4 acc v ∧ zi4 acc v < 2147483647 := by unfold zi4; omega
theorem ziw {acc : Int} (h : 0 ≤ acc ∧ acc < 2147483647) : ∀ l : List Int, 0 ≤ zml acc l ∧ zml acc l < 2147483647
 | [] => h
 | v :: l => ziw (zgk acc v) l
theorem zps {acc : Int} {l : List Int} {i : Nat} (h : i < l.length) : zml acc (l.take (i + 1)) = zi4 (zml acc (l.take i)) l[i] := by
 unfold zml; rw [List.take_succ_eq_append_getElem h, List.foldl_append]; rfl
theorem zxs (key : Int) (l : List Int) : zml 11 ((key :: l) ++ [key]) = zq0 key l := by
 unfold zq0 zml; rw [List.cons_append, List.foldl_cons, List.foldl_append]; rfl
theorem z54 (p : Int) (S : Store) : EvA Tryz.prog 339 [.s (.int .i64 p), .s (.int .i64 2147483647)] S (fun r S' => r = .v (.s (.int .i64 (p % 2147483647))) ∧ S' = S) := by
 have h1 := z6m p
 have h2 : 0 ≤ Int.tmod p 2147483647 + 2147483647 := by omega
 have h3 : Int.tmod (Int.tmod p 2147483647 + 2147483647) 2147483647 = p % 2147483647 := by rw [zwt h2]; omega
 have h4 : inR 2147483647 1 1000000000000 = true := by decide
 refine zac tok Tryz.func339 (by kernel_rfl) rfl ?_
 repeat' ((conv => whnf) <;> first
  | rw [zad (by omega)] | refine cF ?_ | refine zaa (zcp _ _ _ _) ?_ | refine nP ?_ | refine And.intro ?_ ?_)
 all_goals first
  | rfl
  | (exfalso; omega)
  | (exfalso; simp_all; done)
  | exact congrArg (fun z => AV.v (V.s (C.int .i64 z))) h3
  | exact congrArg (fun z => AV.v (V.s (C.int .i64 z))) (by omega)
theorem z5r (p : Int) (S : Store) : EvA Tryz.prog 330 [.s (.int .i64 p), .s (.int .i64 2147483647)] S (fun r S' => r = .v (.s (.int .i64 (p % 2147483647))) ∧ S' = S) := by
 have h1 := z6m p
 have h2 : 0 ≤ Int.tmod p 2147483647 + 2147483647 := by omega
 have h3 : Int.tmod (Int.tmod p 2147483647 + 2147483647) 2147483647 = p % 2147483647 := by rw [zwt h2]; omega
 have h4 : inR 2147483647 1 1000000000000 = true := by decide
 refine zac tok Tryz.func330 (by kernel_rfl) rfl ?_
 repeat' ((conv => whnf) <;> first
  | rw [zad (by omega)] | refine cD (fun _ => ?_) fun _ => ?_ | refine cF ?_ | refine zaa (zat _ _ _ _) ?_ | refine nP ?_ | refine And.intro ?_ ?_)
 all_goals first
  | rfl
  | (exfalso; omega)
  | (exfalso; simp_all; done)
  | exact congrArg (fun z => AV.v (V.s (C.int .i64 z))) h3
  | exact congrArg (fun z => AV.v (V.s (C.int .i64 z))) (by omega)
theorem zva (acc v : Int) (S : Store) (ha : 0 ≤ acc ∧ acc < 2147483647) : EvA Tryz.prog 271 [.s (.int .i64 acc), .s (.int .i64 v)] S (fun r S' => r = .v (.s (.int .i64 (zi4 acc v))) ∧ S' = S) := by
 have h1 : 0 ≤ v % 2147483647 ∧ v % 2147483647 < 2147483647 := by omega
 have h2 : Int.tmod (acc * 1000003 + v % 2147483647 + 13) 2147483647 = zi4 acc v := zwt (by omega)
 refine zac tok Tryz.func271 (by kernel_rfl) rfl ?_
 repeat' ((conv => whnf) <;> first
  | rw [zad (by omega)] | refine zaa (z5r _ _) ?_ | refine nP ?_ | refine And.intro ?_ ?_)
 all_goals first
  | rfl
  | exact congrArg (fun z => AV.v (V.s (C.int .i64 z))) h2
def zhw (key : Int) : Bool := inR key 1 2147483646
theorem zd1 (key : Int) (S : Store) : EvA Tryz.prog 223 [.s (.int .i64 key)] S (fun r S' => r = .v (.s (.bool (zhw key))) ∧ S' = S) := by
 refine zac tok Tryz.func223 (by kernel_rfl) rfl ?_
 repeat' ((conv => whnf) <;> first
  | refine zaa (zcp _ _ _ _) ?_ | refine And.intro ?_ ?_)
 all_goals first | rfl | (simp_all [zay, zhw]; done) | (simp_all [zay, zhw]; intros; omega)
theorem ze3 (key : Int) (S : Store) : EvA Tryz.prog 62 [.s (.int .i64 key)] S (fun r S' => r = .v (.s (.bool (zhw key))) ∧ S' = S) := by
 refine zac tok Tryz.func62 (by kernel_rfl) rfl ?_
 repeat' ((conv => whnf) <;> first
  | refine zaa (zat _ _ _ _) ?_ | refine And.intro ?_ ?_)
 all_goals first | rfl | (simp_all [zay, zhw]; done) | (simp_all [zay, zhw]; intros; omega)
theorem zkj (key : Int) (l : List Int) (c : C) (S : Store) (h : Rd S [.sl 1 (l.map dInt)] [c]) : EvA Tryz.prog 214 [.s (.int .i64 key), .s c] S (fun r S' => r = .v (.s (.int .i64 (zq0 key l))) ∧ S' = S) := by
 have h0 := zgk 11 key
 refine zac tok Tryz.func214 (by kernel_rfl) rfl ?_
 repeat' ((conv => whnf) <;> first
  | refine zaa (zva _ _ _ (by first | omega | exact zgk _ _ | exact ziw (zgk _ _) _ | assumption)) ?_ | refine rE fun hml => ?_)
 refine zag {p : Nat × Int // p.1 ≤ l.length ∧ p.2 = zml (zi4 11 key) (l.take p.1)} [5, 7, 12, 13, 14, 15, 16, 17, 18, 19] (fun zb => [(12, .v (.s (.int .i64 (zb.1.1)))), (5, .v (.s (.int .i64 zb.1.2)))]) (fun _ => S) (fun zb => l.length - zb.1.1) ⟨(0, zi4 11 key), Nat.zero_le _, rfl⟩ okL rfl ?_
 rintro ⟨⟨i, st⟩, hi, hinv⟩; dsimp only
 replace hi : i ≤ l.length := hi; dsimp only at hinv
 have hb := ziw h0 (l.take i)
 rw [← hinv] at hb
 by_cases hlt : i < l.length
 ·have hs := zps (acc := zi4 11 key) hlt
  rw [← hinv] at hs
  repeat' ((conv => whnf) <;> first
   | rw [zad (by omega)] | (show CondP _ _ _; refine cS ?_) | refine zaa (zva _ _ _ (by first | omega | exact zgk _ _ | exact ziw (zgk _ _) _ | assumption)) ?_ | refine rI aN rf ix ?_ | refine zaf aN tv ix ?_)
  all_goals first
   | (exfalso; omega)
   | (refine ⟨⟨(i + 1, zi4 st (l[i]'hlt)), by dsimp only; omega, hs.symm⟩, ?_, rfl, by dsimp only; omega⟩; (conv => whnf); repeat' (first | exact trivial | exact rfl | apply And.intro))
 ·rw [List.take_of_length_le (by omega)] at hinv
  have hk : zq0 key l = zi4 st key := by unfold zq0; rw [← hinv]
  rw [hk]
  repeat' ((conv => whnf) <;> first
   | (show CondP _ _ _; refine cS ?_) | refine zaa (zva _ _ _ (by first | omega | exact zgk _ _ | exact ziw (zgk _ _) _ | assumption)) ?_ | refine And.intro ?_ ?_)
  all_goals first
   | rfl
   | (exfalso; omega)
theorem z26 (l : List Int) (c : C) (S : Store) (h : Rd S [.sl 1 (l.map dInt)] [c]) : EvA Tryz.prog 280 [.s c] S (fun r S' => r = .v (.s (.int .i64 (zml 11 l))) ∧ S' = S) := by
 refine zac tok Tryz.func280 (by kernel_rfl) rfl ?_
 skip
 refine zag {p : Nat × Int // p.1 ≤ l.length ∧ p.2 = zml 11 (l.take p.1)} [3, 4, 5, 6, 7, 8, 9, 10, 11, 12, 13, 14, 15, 16, 17, 18, 19, 20] (fun zb => [(4, .v (.s (.int .i64 (zb.1.1)))), (3, .v (.s (.int .i64 zb.1.2)))]) (fun _ => S) (fun zb => l.length - zb.1.1) ⟨(0, 11), Nat.zero_le _, rfl⟩ okL rfl ?_
 rintro ⟨⟨i, st⟩, hi, hinv⟩; dsimp only
 replace hi : i ≤ l.length := hi; dsimp only at hinv
 have hb := ziw (acc := 11) (by decide) (l.take i)
 rw [← hinv] at hb
 by_cases hlt : i < l.length
 ·have hs := zps (acc := 11) hlt
  rw [← hinv] at hs
  have h1 : 0 ≤ l[i] % 2147483647 ∧ l[i] % 2147483647 < 2147483647 := by omega
  have h2 : Int.tmod (st * 1000003 + l[i] % 2147483647 + 13) 2147483647 = zi4 st l[i] := zwt (by omega)
  have h1' : 0 ≤ (l[((i : Nat) : Int).toNat]'hlt) % 2147483647 ∧ (l[((i : Nat) : Int).toNat]'hlt) % 2147483647 < 2147483647 := h1
  repeat' ((conv => whnf) <;> first
   | rw [zad (by omega)] | (show CondP _ _ _; refine cS ?_) | refine zaa (z54 _ _) ?_ | refine rE fun hml => ?_ | refine rI aN rf ix ?_ | refine zaf aN tv ix ?_ | refine nP ?_)
  all_goals first
   | (exfalso; omega)
   | (refine ⟨⟨(i + 1, zi4 st (l[i]'hlt)), by dsimp only; omega, hs.symm⟩, ?_, rfl, by dsimp only; omega⟩; (conv => whnf); repeat' (first | exact trivial | exact rfl | exact congrArg (fun z => AV.v (V.s (C.int .i64 z))) h2 | apply And.intro))
 ·rw [List.take_of_length_le (by omega)] at hinv
  rw [← hinv]
  repeat' ((conv => whnf) <;> first
   | (show CondP _ _ _; refine cS ?_) | refine rE fun hml => ?_ | refine And.intro ?_ ?_)
  all_goals first
   | rfl
   | (exfalso; omega)
theorem zrz (key : Int) (l : List Int) (c : C) (S : Store) (h : Rd S [.sl 1 (l.map dInt)] [c]) (hz : l.length ≤ 4194304) : EvA Tryz.prog 225 [.s (.int .i64 key), .s c] S (fun r S' => r = .v (.s (.int .i64 (zq0 key l))) ∧ S' = S) := by
 refine EvA.drop rfl ?_
 rw [← zxs]
 have f0 : Fr S.length (S ++ [⟨true, 1, [key].map fun n => zdz (dInt n)⟩]) [.sl 1 ([key].map dInt)] [.sl S.length 0 1 1] := zih (xs := [key].map dInt) (js := []) (zem (f := dInt) (fun _ => trivial) [key]) List.nodup_nil (fun _ h => by cases h) (Nat.le_refl _) (by rw [zan]; simp) (by simp)
 refine zac tok Tryz.func225 (by kernel_rfl) rfl ?_
 repeat' ((conv => whnf) <;> first
  | refine zaa (z26 _ _ _ rdA) ?_ | (refine zaq (f := dInt) (l := l) rdA tv (fun _ => ?_)) | (refine zas (f := dInt) (l := [key]) (m := l) (fun _ => trivial) (Ext.push _ _) f0 rfl rf (by dsimp only [T3]; simp; omega) (by rw [zan]; simp; omega) ?_; intro cA SA hEA hFA hlA) | (refine zas (f := dInt) (l := key :: l) (m := [key]) (fun _ => trivial) hEA hFA rfl rf (by dsimp only [T3]; simp; omega) (by rw [zan]; simp; omega) ?_; intro cB SB hEB hFB hlB) | refine And.intro ?_ ?_)
 all_goals first
  | rfl
  | exact hEB
end
end Go.Proofs.YtlmmdpmmdmhacaaGreat
