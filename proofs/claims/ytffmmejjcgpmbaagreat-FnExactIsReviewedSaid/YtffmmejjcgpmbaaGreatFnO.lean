/- Rules and requests; comparisons. -/
import Derived.Test.YtffmmejjcgpmbaaGreatFnE
namespace Go.Proofs.YtffmmejjcgpmbaaGreat
open Go Go.ChangeShapes Go.WideShapes Go.ChangeAt Go.RowKit
set_option linter.unusedVariables false
set_option maxRecDepth 100000

def isRequest (q : GRequest) : Bool := isSite q.Site && inR q.Sort' 1 4
def isRule (ru : GRule) : Bool := inR ru.Ext 1 5 && inR ru.Prio 1 9 && isPattern ru.Pattern && inR ru.Sort' 0 4 && ((decide (ru.Action = 3) && isSite ru.To) || ((decide (ru.Action = 1) || decide (ru.Action = 2)) && decide (ru.To.Owner = 0) && decide (ru.To.Sub = 0)))
theorem ev_sIsRule (ru : GRule) (S : Store) : EvA Tryz.prog 188 [.agg ru.c] S (fun r S' => r = .v (.s (.bool (isRule ru))) ∧ S' = S) := by
  refine evA_intro tok Tryz.func188 (by kernel_rfl) rfl ?_
  repeat' ((conv => whnf) <;> first
   | refine cD (fun _ => ?_) fun _ => ?_ | refine cE (fun _ => ?_) fun _ => ?_ | refine cT ?_ | refine cF ?_ | refine condP_inR (fun _ _ => ?_) (fun _ _ => ?_) | refine condP_ninR (fun _ _ => ?_) (fun _ _ => ?_) | refine cN (fun _ => ?_) fun _ => ?_ | refine cI (fun _ => ?_) fun _ => ?_ | refine callP_eq (ev_l1In _ _ _ _) ?_ | refine callP_eq (ev_sIsPattern _ _) ?_ | refine callP_eq (ev_sIsPattern ⟨_, _⟩ _) ?_ | refine callP_eq (ev_sIsSite _ _) ?_ | refine nP ?_ | refine And.intro ?_ ?_)
  all_goals first | rfl | (simp_all [resAV, isRule, inR]; done) | (simp_all [resAV, isRule, inR]; intros; omega) | (simp_all [resAV, isRule, inR]; intros; exfalso; omega) | (simp_all [resAV, isRule, inR]; constructor <;> intros <;> omega) | (simp_all [resAV, isRule, inR]; rcases (show ru.Action = 1 ∨ ru.Action = 2 by omega) with h | h <;> simp [h])
theorem ev_iIsRule (ru : GRule) (S : Store) : EvA Tryz.prog 196 [.agg ru.c] S (fun r S' => r = .v (.s (.bool (isRule ru))) ∧ S' = S) := by
  refine evA_intro tok Tryz.func196 (by kernel_rfl) rfl ?_
  repeat' ((conv => whnf) <;> first
   | refine cD (fun _ => ?_) fun _ => ?_ | refine cE (fun _ => ?_) fun _ => ?_ | refine cT ?_ | refine cF ?_ | refine condP_inR (fun _ _ => ?_) (fun _ _ => ?_) | refine condP_ninR (fun _ _ => ?_) (fun _ _ => ?_) | refine cN (fun _ => ?_) fun _ => ?_ | refine cI (fun _ => ?_) fun _ => ?_ | refine callP_eq (ev_InRange _ _ _ _) ?_ | refine callP_eq (ev_iIsSite _ _) ?_ | refine callP_eq (ev_iIsPattern _ _) ?_ | refine callP_eq (ev_iIsPattern ⟨_, _⟩ _) ?_ | refine nP ?_ | refine And.intro ?_ ?_)
  all_goals first | rfl | (simp_all [resAV, isRule, inR]; done) | (simp_all [resAV, isRule, inR]; intros; omega) | (simp_all [resAV, isRule, inR]; intros; exfalso; omega) | (simp_all [resAV, isRule, inR]; constructor <;> intros <;> omega) | (simp_all [resAV, isRule, inR]; rcases (show ru.Action = 1 ∨ ru.Action = 2 by omega) with h | h <;> simp [h])
def applies (ru : GRule) (q : GRequest) : Bool := isRule ru && isRequest q && matchSite ru.Pattern q.Site && (decide (ru.Sort' = 0) || decide (ru.Sort' = q.Sort'))
def cmpI (x y : Int) : Int := if x < y then -1 else if y < x then 1 else 0
theorem ev_isNaN (x : Int) (S : Store) : EvA Tryz.prog 269 [.s (.int .i64 x)] S (fun r S' => r = .v (.s (.bool false)) ∧ S' = S) := by
  refine evA_intro tok Tryz.func269 (by kernel_rfl) rfl ?_
  repeat' ((conv => whnf) <;> first
   | refine nP ?_ | refine And.intro ?_ ?_)
  all_goals first | rfl | (simp_all [resAV]; done)
theorem ev_Compare (x y : Int) (S : Store) : EvA Tryz.prog 252 [.s (.int .i64 x), .s (.int .i64 y)] S (fun r S' => r = .v (.s (.int .i64 (cmpI x y))) ∧ S' = S) := by
  refine evA_intro tok Tryz.func252 (by kernel_rfl) rfl ?_
  repeat' ((conv => whnf) <;> first
   | refine cD (fun _ => ?_) fun _ => ?_ | refine cE (fun _ => ?_) fun _ => ?_ | refine cT ?_ | refine cF ?_ | refine cN (fun _ => ?_) fun _ => ?_ | refine cI (fun _ => ?_) fun _ => ?_ | refine callP_eq (ev_isNaN _ _) ?_ | refine nP ?_ | refine And.intro ?_ ?_)
  all_goals first | rfl | (rw [show cmpI x y = -1 from if_pos (by omega)]; rfl) | (rw [show cmpI x y = 1 from (if_neg (by omega)).trans (if_pos (by omega))]; rfl) | (rw [show cmpI x y = 0 from (if_neg (by omega)).trans (if_neg (by omega))]; rfl)
def orGo : List Int → Int
  | [] => 0
  | x :: r => if x = 0 then orGo r else x
theorem ev_Or (l : List Int) (c : C) (S : Store) (h : Rd S [.sl 1 (l.map dInt)] [c]) : EvA Tryz.prog 251 [.s c] S (fun r S' => r = .v (.s (.int .i64 (orGo l))) ∧ S' = S) := by
  refine evA_intro tok Tryz.func251 (by kernel_rfl) rfl ?_
  repeat' ((conv => whnf) <;> first
   | rw [wrapI_i64 (by omega)] | refine cD (fun _ => ?_) fun _ => ?_ | refine cE (fun _ => ?_) fun _ => ?_ | refine cT ?_ | refine cF ?_ | refine cN (fun _ => ?_) fun _ => ?_ | refine cI (fun _ => ?_) fun _ => ?_ | refine rE fun hml => ?_ | refine rI aN rf ix ?_ | refine rd_loadf aN tv ix ?_ | refine nP ?_ | refine And.intro ?_ ?_)
  refine loop_intro {i : Nat // i ≤ l.length ∧ orGo (l.drop i) = orGo l} [2, 5, 8, 9, 10, 11, 12, 13, 14, 15, 16] (fun zb => [(8, .v (.s (.int .i64 zb.1)))]) (fun _ => S) (fun zb => l.length - zb.1) ⟨0, Nat.zero_le _, rfl⟩ ?_ rfl ?_
  · (conv => whnf); repeat' (first | exact trivial | exact rfl | apply And.intro)
  rintro ⟨i, hi, hinv⟩; dsimp only
  by_cases hlt : i < l.length
  · rw [drop_at hlt, orGo] at hinv
    repeat' ((conv => whnf) <;> first
     | rw [wrapI_i64 (by omega)] | refine cD (fun _ => ?_) fun _ => ?_ | refine cE (fun _ => ?_) fun _ => ?_ | refine cT ?_ | refine cF ?_ | refine cN (fun _ => ?_) fun _ => ?_ | refine cI (fun _ => ?_) fun _ => ?_ | refine rE fun hml => ?_ | refine rI aN rf ix ?_ | refine rd_loadf aN tv ix ?_ | refine nP ?_ | refine And.intro ?_ ?_)
    all_goals first
      | rfl
      | (exfalso; omega)
      | (rw [if_neg (by assumption)] at hinv; rw [← hinv]; rfl)
      | (rename_i hc; have hc : l[i] = 0 := hc; rw [if_pos hc] at hinv; (refine ⟨⟨i + 1, by omega, hinv⟩, ?_, rfl, by simp; omega⟩; (conv => whnf); repeat' (first | exact trivial | exact rfl | apply And.intro)))
  · rw [drop_end (by omega), orGo] at hinv
    repeat' ((conv => whnf) <;> first
     | rw [wrapI_i64 (by omega)] | refine cD (fun _ => ?_) fun _ => ?_ | refine cE (fun _ => ?_) fun _ => ?_ | refine cT ?_ | refine cF ?_ | refine cN (fun _ => ?_) fun _ => ?_ | refine cI (fun _ => ?_) fun _ => ?_ | refine rE fun hml => ?_ | refine rI aN rf ix ?_ | refine rd_loadf aN tv ix ?_ | refine nP ?_ | refine And.intro ?_ ?_)
    all_goals first
      | rfl
      | (exfalso; omega)
      | (rw [← hinv]; rfl)
theorem rd_litI {S : Store} (l : List Int) (h : l.length ≤ 9223372036854775807) : Rd (S ++ [⟨true, 1, l.map fun n => [.int .i64 n]⟩]) [.sl 1 (l.map dInt)] [.sl S.length 0 l.length l.length] :=
  Fr.rd (lo := S.length) (fr_push (xs := l.map dInt) (js := []) (rep2_flat (f := dInt) (fun _ => trivial) l) List.nodup_nil (fun _ h => by cases h) (Nat.le_refl _) (by rw [maxLen_eq]; simpa using h) (by simp))
end Go.Proofs.YtffmmejjcgpmbaaGreat
