/- Requests that meet rules. -/
import Derived.Test.YtlodldendggbhaaGreatFnI
import Derived.Test.YtlodldendggbhaaGreatAeP
namespace Go.Proofs.YtlodldendggbhaaGreat
open Go Go.ChangeShapes Go.WideShapes Go.ChangeAt Go.RowKit
set_option linter.unusedVariables false
set_option maxRecDepth 100000

def isRequest (q : GRequest) : Bool := isSite q.Site && inR q.Sort' 1 4
theorem ev_sIsRequest (q : GRequest) (S : Store) : EvA Tryz.prog 49 [.agg q.c] S (fun r S' => r = .v (.s (.bool (isRequest q))) ∧ S' = S) := by
  refine evA_intro tok Tryz.func49 (by kernel_rfl) rfl ?_
  repeat' ((conv => whnf) <;> first
      | refine condP_dec (fun _ => ?_) (fun _ => ?_)
      | refine condP_ndec (fun _ => ?_) (fun _ => ?_)
      | refine condP_true rfl ?_
      | refine condP_false rfl ?_
      | refine condP_inR (fun _ _ => ?_) (fun _ _ => ?_)
      | refine condP_ninR (fun _ _ => ?_) (fun _ _ => ?_)
      | refine condP_not (fun _ => ?_) (fun _ => ?_)
      | refine condP_intro (fun _ => ?_) (fun _ => ?_)
      | refine callP_eq (ev_sIsSite _ _) ?_
      | refine callP_eq (ev_l1In _ _ _ _) ?_
      | refine needP_intro (by first | omega | (constructor <;> omega)) ?_
      | refine And.intro ?_ ?_)
  all_goals first | rfl | (simp_all [resAV, isRequest]; done) | (simp_all [resAV, isRequest]; intros; omega)
theorem ev_iIsRequest (q : GRequest) (S : Store) : EvA Tryz.prog 60 [.agg q.c] S (fun r S' => r = .v (.s (.bool (isRequest q))) ∧ S' = S) := by
  refine evA_intro tok Tryz.func60 (by kernel_rfl) rfl ?_
  repeat' ((conv => whnf) <;> first
      | refine condP_dec (fun _ => ?_) (fun _ => ?_)
      | refine condP_ndec (fun _ => ?_) (fun _ => ?_)
      | refine condP_true rfl ?_
      | refine condP_false rfl ?_
      | refine condP_inR (fun _ _ => ?_) (fun _ _ => ?_)
      | refine condP_ninR (fun _ _ => ?_) (fun _ _ => ?_)
      | refine condP_not (fun _ => ?_) (fun _ => ?_)
      | refine condP_intro (fun _ => ?_) (fun _ => ?_)
      | refine callP_eq (ev_iIsSite _ _) ?_
      | refine callP_eq (ev_InRange _ _ _ _) ?_
      | refine needP_intro (by first | omega | (constructor <;> omega)) ?_
      | refine And.intro ?_ ?_)
  all_goals first | rfl | (simp_all [resAV, isRequest]; done) | (simp_all [resAV, isRequest]; intros; omega)
def isRule (ru : GRule) : Bool := inR ru.Ext 1 5 && inR ru.Prio 1 9 && isPattern ru.Pattern && inR ru.Sort' 0 4 && ((decide (ru.Action = 3) && isSite ru.To) || ((decide (ru.Action = 1) || decide (ru.Action = 2)) && decide (ru.To.Owner = 0) && decide (ru.To.Sub = 0)))
theorem ev_sIsRule (ru : GRule) (S : Store) : EvA Tryz.prog 106 [.agg ru.c] S (fun r S' => r = .v (.s (.bool (isRule ru))) ∧ S' = S) := by
  refine evA_intro tok Tryz.func106 (by kernel_rfl) rfl ?_
  repeat' ((conv => whnf) <;> first
      | refine condP_dec (fun _ => ?_) (fun _ => ?_)
      | refine condP_ndec (fun _ => ?_) (fun _ => ?_)
      | refine condP_true rfl ?_
      | refine condP_false rfl ?_
      | refine condP_inR (fun _ _ => ?_) (fun _ _ => ?_)
      | refine condP_ninR (fun _ _ => ?_) (fun _ _ => ?_)
      | refine condP_not (fun _ => ?_) (fun _ => ?_)
      | refine condP_intro (fun _ => ?_) (fun _ => ?_)
      | refine callP_eq (ev_sIsSite _ _) ?_
      | refine callP_eq (ev_l1In _ _ _ _) ?_
      | refine callP_eq (ev_sIsPattern _ _) ?_
      | refine callP_eq (ev_sIsPattern ⟨_, _⟩ _) ?_
      | refine needP_intro (by first | omega | (constructor <;> omega)) ?_
      | refine And.intro ?_ ?_)
  all_goals first | rfl | (simp_all [resAV, isRule, inR]; done) | (simp_all [resAV, isRule, inR]; intros; omega) | (simp_all [resAV, isRule, inR]; intros; exfalso; omega) | (simp_all [resAV, isRule, inR]; constructor <;> intros <;> omega) | (simp_all [resAV, isRule, inR]; rcases (show ru.Action = 1 ∨ ru.Action = 2 by omega) with h | h <;> simp [h])
theorem ev_iIsRule (ru : GRule) (S : Store) : EvA Tryz.prog 112 [.agg ru.c] S (fun r S' => r = .v (.s (.bool (isRule ru))) ∧ S' = S) := by
  refine evA_intro tok Tryz.func112 (by kernel_rfl) rfl ?_
  repeat' ((conv => whnf) <;> first
      | refine condP_dec (fun _ => ?_) (fun _ => ?_)
      | refine condP_ndec (fun _ => ?_) (fun _ => ?_)
      | refine condP_true rfl ?_
      | refine condP_false rfl ?_
      | refine condP_inR (fun _ _ => ?_) (fun _ _ => ?_)
      | refine condP_ninR (fun _ _ => ?_) (fun _ _ => ?_)
      | refine condP_not (fun _ => ?_) (fun _ => ?_)
      | refine condP_intro (fun _ => ?_) (fun _ => ?_)
      | refine callP_eq (ev_iIsSite _ _) ?_
      | refine callP_eq (ev_InRange _ _ _ _) ?_
      | refine callP_eq (ev_iIsPattern _ _) ?_
      | refine callP_eq (ev_iIsPattern ⟨_, _⟩ _) ?_
      | refine needP_intro (by first | omega | (constructor <;> omega)) ?_
      | refine And.intro ?_ ?_)
  all_goals first | rfl | (simp_all [resAV, isRule, inR]; done) | (simp_all [resAV, isRule, inR]; intros; omega) | (simp_all [resAV, isRule, inR]; intros; exfalso; omega) | (simp_all [resAV, isRule, inR]; constructor <;> intros <;> omega) | (simp_all [resAV, isRule, inR]; rcases (show ru.Action = 1 ∨ ru.Action = 2 by omega) with h | h <;> simp [h])
def applies (ru : GRule) (q : GRequest) : Bool := isRule ru && isRequest q && matchSite ru.Pattern q.Site && (decide (ru.Sort' = 0) || decide (ru.Sort' = q.Sort'))
theorem ev_sApplies (ru : GRule) (q : GRequest) (S : Store) : EvA Tryz.prog 83 [.agg ru.c, .agg q.c] S (fun r S' => r = .v (.s (.bool (applies ru q))) ∧ S' = S) := by
  refine evA_intro tok Tryz.func83 (by kernel_rfl) rfl ?_
  repeat' ((conv => whnf) <;> first
      | refine condP_dec (fun _ => ?_) (fun _ => ?_)
      | refine condP_ndec (fun _ => ?_) (fun _ => ?_)
      | refine condP_true rfl ?_
      | refine condP_false rfl ?_
      | refine condP_not (fun _ => ?_) (fun _ => ?_)
      | refine condP_intro (fun _ => ?_) (fun _ => ?_)
      | refine callP_eq (ev_sIsRequest _ _) ?_
      | refine callP_eq (ev_sIsRequest ⟨⟨_, _⟩, _⟩ _) ?_
      | refine callP_eq (ev_sMatchSite _ _ _) ?_
      | refine callP_eq (ev_sMatchSite ⟨_, _⟩ ⟨_, _⟩ _) ?_
      | refine callP_eq (ev_sIsRule _ _) ?_
      | refine needP_intro (by first | omega | (constructor <;> omega)) ?_
      | refine And.intro ?_ ?_)
  all_goals first | rfl | (simp_all [resAV, applies]; done) | (simp_all [resAV, applies]; intros; omega)
theorem ev_iApplies (ru : GRule) (q : GRequest) (S : Store) : EvA Tryz.prog 96 [.agg ru.c, .agg q.c] S (fun r S' => r = .v (.s (.bool (applies ru q))) ∧ S' = S) := by
  refine evA_intro tok Tryz.func96 (by kernel_rfl) rfl ?_
  repeat' ((conv => whnf) <;> first
      | refine condP_dec (fun _ => ?_) (fun _ => ?_)
      | refine condP_ndec (fun _ => ?_) (fun _ => ?_)
      | refine condP_true rfl ?_
      | refine condP_false rfl ?_
      | refine condP_not (fun _ => ?_) (fun _ => ?_)
      | refine condP_intro (fun _ => ?_) (fun _ => ?_)
      | refine callP_eq (ev_iIsRequest _ _) ?_
      | refine callP_eq (ev_iIsRequest ⟨⟨_, _⟩, _⟩ _) ?_
      | refine callP_eq (ev_iMatchSite _ _ _) ?_
      | refine callP_eq (ev_iMatchSite ⟨_, _⟩ ⟨_, _⟩ _) ?_
      | refine callP_eq (ev_iIsRule _ _) ?_
      | refine needP_intro (by first | omega | (constructor <;> omega)) ?_
      | refine And.intro ?_ ?_)
  all_goals first | rfl | (simp_all [resAV, applies]; done) | (simp_all [resAV, applies]; intros; omega)
def cmpI (x y : Int) : Int := if x < y then -1 else if y < x then 1 else 0
theorem ev_isNaN (x : Int) (S : Store) : EvA Tryz.prog 121 [.s (.int .i64 x)] S (fun r S' => r = .v (.s (.bool false)) ∧ S' = S) := by
  refine evA_intro tok Tryz.func121 (by kernel_rfl) rfl ?_
  repeat' ((conv => whnf) <;> first
      | refine needP_intro (by first | omega | (constructor <;> omega)) ?_
      | refine And.intro ?_ ?_)
  all_goals first | rfl | (simp_all [resAV]; done)
theorem ev_Compare (x y : Int) (S : Store) : EvA Tryz.prog 120 [.s (.int .i64 x), .s (.int .i64 y)] S (fun r S' => r = .v (.s (.int .i64 (cmpI x y))) ∧ S' = S) := by
  refine evA_intro tok Tryz.func120 (by kernel_rfl) rfl ?_
  repeat' ((conv => whnf) <;> first
      | refine condP_dec (fun _ => ?_) (fun _ => ?_)
      | refine condP_ndec (fun _ => ?_) (fun _ => ?_)
      | refine condP_true rfl ?_
      | refine condP_false rfl ?_
      | refine condP_not (fun _ => ?_) (fun _ => ?_)
      | refine condP_intro (fun _ => ?_) (fun _ => ?_)
      | refine callP_eq (ev_isNaN _ _) ?_
      | refine needP_intro (by first | omega | (constructor <;> omega)) ?_
      | refine And.intro ?_ ?_)
  all_goals first | rfl | (rw [show cmpI x y = -1 from if_pos (by omega)]; rfl) | (rw [show cmpI x y = 1 from (if_neg (by omega)).trans (if_pos (by omega))]; rfl) | (rw [show cmpI x y = 0 from (if_neg (by omega)).trans (if_neg (by omega))]; rfl)
def orGo : List Int → Int
  | [] => 0
  | x :: r => if x = 0 then orGo r else x
theorem ev_Or (l : List Int) (c : C) (S : Store) (h : Rd S [.sl 1 (l.map dInt)] [c]) : EvA Tryz.prog 119 [.s c] S (fun r S' => r = .v (.s (.int .i64 (orGo l))) ∧ S' = S) := by
  refine evA_intro tok Tryz.func119 (by kernel_rfl) rfl ?_
  repeat' ((conv => whnf) <;> first
      | rw [wrapI_i64 (by omega)]
      | refine condP_dec (fun _ => ?_) (fun _ => ?_)
      | refine condP_ndec (fun _ => ?_) (fun _ => ?_)
      | refine condP_true rfl ?_
      | refine condP_false rfl ?_
      | refine condP_not (fun _ => ?_) (fun _ => ?_)
      | refine condP_intro (fun _ => ?_) (fun _ => ?_)
      | (refine rd_lenm (by assumption) ?_; intro hml; rw [maxLen_eq] at hml)
      | refine rd_idxm (by assumption) (by intro _; rfl) (by constructor <;> omega) ?_
      | refine rd_loadf (by assumption) (by intro _; exact trivial) (by constructor <;> omega) ?_
      | refine needP_intro (by first | omega | (constructor <;> omega)) ?_
      | refine And.intro ?_ ?_)
  refine loop_intro {i : Nat // i ≤ l.length ∧ orGo (l.drop i) = orGo l} [2, 5, 8, 9, 10, 11, 12, 13, 14, 15, 16] (fun zb => [(8, .v (.s (.int .i64 zb.1)))]) (fun _ => S) (fun zb => l.length - zb.1) ⟨0, Nat.zero_le _, rfl⟩ ?_ rfl ?_
  · (conv => whnf); repeat' (first | exact trivial | exact rfl | apply And.intro)
  rintro ⟨i, hi, hinv⟩; dsimp only
  by_cases hlt : i < l.length
  · rw [drop_at hlt, orGo] at hinv
    repeat' ((conv => whnf) <;> first
        | rw [wrapI_i64 (by omega)]
        | refine condP_dec (fun _ => ?_) (fun _ => ?_)
        | refine condP_ndec (fun _ => ?_) (fun _ => ?_)
        | refine condP_true rfl ?_
        | refine condP_false rfl ?_
        | refine condP_not (fun _ => ?_) (fun _ => ?_)
        | refine condP_intro (fun _ => ?_) (fun _ => ?_)
        | (refine rd_lenm (by assumption) ?_; intro hml; rw [maxLen_eq] at hml)
        | refine rd_idxm (by assumption) (by intro _; rfl) (by constructor <;> omega) ?_
        | refine rd_loadf (by assumption) (by intro _; exact trivial) (by constructor <;> omega) ?_
        | refine needP_intro (by first | omega | (constructor <;> omega)) ?_
        | refine And.intro ?_ ?_)
    all_goals first
      | rfl
      | (exfalso; omega)
      | (rw [if_neg (by assumption)] at hinv; rw [← hinv]; rfl)
      | (rename_i hc; have hc : l[i] = 0 := hc; rw [if_pos hc] at hinv; (refine ⟨⟨i + 1, by omega, hinv⟩, ?_, rfl, by simp; omega⟩; (conv => whnf); repeat' (first | exact trivial | exact rfl | apply And.intro)))
  · rw [drop_end (by omega), orGo] at hinv
    repeat' ((conv => whnf) <;> first
        | rw [wrapI_i64 (by omega)]
        | refine condP_dec (fun _ => ?_) (fun _ => ?_)
        | refine condP_ndec (fun _ => ?_) (fun _ => ?_)
        | refine condP_true rfl ?_
        | refine condP_false rfl ?_
        | refine condP_not (fun _ => ?_) (fun _ => ?_)
        | refine condP_intro (fun _ => ?_) (fun _ => ?_)
        | (refine rd_lenm (by assumption) ?_; intro hml; rw [maxLen_eq] at hml)
        | refine rd_idxm (by assumption) (by intro _; rfl) (by constructor <;> omega) ?_
        | refine rd_loadf (by assumption) (by intro _; exact trivial) (by constructor <;> omega) ?_
        | refine needP_intro (by first | omega | (constructor <;> omega)) ?_
        | refine And.intro ?_ ?_)
    all_goals first
      | rfl
      | (exfalso; omega)
      | (rw [← hinv]; rfl)
def cmpR (a b : GRule) : List Int := [cmpI b.Prio a.Prio, cmpI a.Action b.Action, cmpI a.Ext b.Ext, cmpI a.To.Owner b.To.Owner, cmpI a.To.Sub b.To.Sub]
theorem rd_litI {S : Store} (l : List Int) (h : l.length ≤ 9223372036854775807) : Rd (S ++ [⟨true, 1, l.map fun n => [.int .i64 n]⟩]) [.sl 1 (l.map dInt)] [.sl S.length 0 l.length l.length] :=
  Fr.rd (lo := S.length) (fr_push (xs := l.map dInt) (js := []) (rep2_flat (f := dInt) (fun _ => trivial) l) List.nodup_nil (fun _ h => by cases h) (Nat.le_refl _) (by rw [maxLen_eq]; simpa using h) (by simp))
theorem ev_compareRules (a b : GRule) (S : Store) : EvA Tryz.prog 113 [.agg a.c, .agg b.c] S (fun r S' => r = .v (.s (.int .i64 (orGo (cmpR a b)))) ∧ S' = S) := by
  refine EvA.drop rfl ?_
  refine evA_intro tok Tryz.func113 (by kernel_rfl) rfl ?_
  repeat' ((conv => whnf) <;> first
      | refine callP_eq (ev_Compare _ _ _) ?_
      | refine needP_intro (by first | omega | (constructor <;> omega)) ?_
      | refine draw_intro 5 [.fl 0, .fl 1, .fl 2, .fl 3, .fl 5, .fl 6, .fl 7, .fl 8, .fl 10, .fl 11, .fl 12, .fl 13, .fl 15, .fl 16, .fl 17, .fl 18, .fl 19, .fl 20, .fl 22, .fl 23, .fl 24, .fl 25, .fl 26, .fl 27, .st 4 [5, 6, 7, 8, 10, 11, 12, 13, 15, 16, 17, 18, 19, 20, 22, 23, 24, 25, 26, 27], .st 9 [10, 11, 12, 13, 15, 16, 17, 18, 19, 20, 22, 23, 24, 25, 26, 27], .st 14 [15, 16, 17, 18, 19, 20, 22, 23, 24, 25, 26, 27], .st 21 [22, 23, 24, 25, 26, 27], .st 28 [], .fl 29, .st 30 [], .st 31 []] (by rfl) (by kernel_rfl) ?_
      | (refine callP_eq (ev_Or (cmpR a b) _ _ (rd_litI (cmpR a b) (by simp [cmpR]))) ?_)
      | refine And.intro ?_ ?_)
  all_goals first | rfl | exact Ext.push _ _
def before (a b : GRule) : Bool := if a.Prio = b.Prio then (if a.Action = b.Action then (if a.Ext = b.Ext then (if a.To.Owner = b.To.Owner then decide (a.To.Sub < b.To.Sub) else decide (a.To.Owner < b.To.Owner)) else decide (a.Ext < b.Ext)) else decide (a.Action < b.Action)) else decide (b.Prio < a.Prio)
theorem cmpI_or (x y : Int) (r : List Int) : orGo (cmpI x y :: r) = if x = y then orGo r else cmpI x y := by
  rw [orGo]; unfold cmpI
  split <;> split <;> first | rfl | omega | skip
  all_goals split <;> first | rfl | omega | skip
theorem cmpI_lt (x y : Int) : decide (cmpI x y < 0) = decide (x < y) := by
  unfold cmpI; rw [decide_eq_decide]
  split
  · simp_all
  · split <;> simp_all
theorem before_cmp (a b : GRule) : decide (orGo (cmpR a b) < 0) = before a b := by
  unfold cmpR before
  simp only [cmpI_or]
  by_cases h1 : a.Prio = b.Prio
  · rw [if_pos h1.symm, if_pos h1]
    by_cases h2 : a.Action = b.Action
    · rw [if_pos h2, if_pos h2]
      by_cases h3 : a.Ext = b.Ext
      · rw [if_pos h3, if_pos h3]
        by_cases h4 : a.To.Owner = b.To.Owner
        · rw [if_pos h4, if_pos h4]
          by_cases h5 : a.To.Sub = b.To.Sub
          · rw [if_pos h5]; rw [decide_eq_decide]; simp [orGo, h5]
          · rw [if_neg h5]; exact cmpI_lt _ _
        · rw [if_neg h4, if_neg h4]; exact cmpI_lt _ _
      · rw [if_neg h3, if_neg h3]; exact cmpI_lt _ _
    · rw [if_neg h2, if_neg h2]; exact cmpI_lt _ _
  · rw [if_neg (Ne.symm h1), if_neg h1]; exact cmpI_lt _ _
theorem ev_iIsBefore (a b : GRule) (S : Store) : EvA Tryz.prog 97 [.agg a.c, .agg b.c] S (fun r S' => r = .v (.s (.bool (before a b))) ∧ S' = S) := by
  rw [← before_cmp]
  refine evA_intro tok Tryz.func97 (by kernel_rfl) rfl ?_
  repeat' ((conv => whnf) <;> first
      | refine callP_eq (ev_compareRules _ _ _) ?_
      | refine needP_intro (by first | omega | (constructor <;> omega)) ?_
      | refine And.intro ?_ ?_)
  all_goals rfl
theorem ev_sIsBefore (a b : GRule) (S : Store) : EvA Tryz.prog 84 [.agg a.c, .agg b.c] S (fun r S' => r = .v (.s (.bool (before a b))) ∧ S' = S) := by
  unfold before
  refine evA_intro tok Tryz.func84 (by kernel_rfl) rfl ?_
  repeat' ((conv => whnf) <;> first
      | refine condP_dec (fun _ => ?_) (fun _ => ?_)
      | refine condP_ndec (fun _ => ?_) (fun _ => ?_)
      | refine condP_true rfl ?_
      | refine condP_false rfl ?_
      | refine condP_not (fun _ => ?_) (fun _ => ?_)
      | refine condP_intro (fun _ => ?_) (fun _ => ?_)
      | refine needP_intro (by first | omega | (constructor <;> omega)) ?_
      | refine And.intro ?_ ?_)
  all_goals first | rfl | (simp_all [resAV]; done)
def decUp (l : List GRule) (q : GRequest) : Nat → Int
  | 0 => -1
  | n + 1 => if applies (l.getD n default) q && (decide (decUp l q n < 0) || before (l.getD n default) (l.getD (decUp l q n).toNat default)) then (n : Int) else decUp l q n
theorem decUp_lt (l : List GRule) (q : GRequest) : ∀ n, -1 ≤ decUp l q n ∧ decUp l q n < n
  | 0 => by unfold decUp; omega
  | n + 1 => by
    have := decUp_lt l q n
    rw [decUp]; split <;> omega
theorem decUp_app (l : List GRule) (q : GRequest) : ∀ n, 0 ≤ decUp l q n → applies (l.getD (decUp l q n).toNat default) q = true
  | 0, h => by unfold decUp at h; omega
  | n + 1, h => by
    rw [decUp] at h ⊢
    split at h
    · rename_i hc
      rw [if_pos hc]
      simp only [Bool.and_eq_true] at hc
      simpa using hc.1
    · rename_i hc
      rw [if_neg hc]
      exact decUp_app l q n h
def decideRule (l : List GRule) (q : GRequest) : Int := decUp l q l.length
theorem ev_iDecide (l : List GRule) (q : GRequest) (c : C) (S : Store) (h : Rd S [.sl 8 (l.map GRule.d)] [c]) : EvA Tryz.prog 63 [.s c, .agg q.c] S (fun r S' => r = .v (.s (.int .i64 (decideRule l q))) ∧ S' = S) := by
  refine evA_intro tok Tryz.func63 (by kernel_rfl) rfl ?_
  repeat' ((conv => whnf) <;> first
      | rw [wrapI_i64 (by omega)]
      | refine condP_dec (fun _ => ?_) (fun _ => ?_)
      | refine condP_ndec (fun _ => ?_) (fun _ => ?_)
      | refine condP_true rfl ?_
      | refine condP_false rfl ?_
      | refine condP_not (fun _ => ?_) (fun _ => ?_)
      | refine condP_intro (fun _ => ?_) (fun _ => ?_)
      | refine callP_eq (ev_iApplies _ _ _) ?_
      | refine callP_eq (ev_iApplies _ ⟨⟨_, _⟩, _⟩ _) ?_
      | refine callP_eq (ev_iIsBefore _ _ _) ?_
      | (refine rd_lenm (by assumption) ?_; intro hml; rw [maxLen_eq] at hml)
      | refine rd_idxm (by assumption) (by intro _; rfl) (by constructor <;> omega) ?_
      | refine rd_loadf (by assumption) (by intro _; exact trivial) (by constructor <;> omega) ?_
      | refine needP_intro (by first | omega | (constructor <;> omega)) ?_
      | refine draw_intro 15 [.fl 0, .fl 1, .st 2 [], .fl 3, .fl 4, .fl 5, .fl 6, .fl 7, .fl 8, .fl 9, .fl 10, .fl 11, .st 12 [], .fl 13, .fl 14] (by rfl) (by kernel_rfl) ?_
      | refine And.intro ?_ ?_)
  refine loop_intro {p : Nat × Int // p.1 ≤ l.length ∧ p.2 = decUp l q p.1} [5, 6, 7, 10, 11, 12, 13, 14, 15, 16, 17, 18, 19, 20, 21, 22, 23, 24, 25, 26, 27, 28, 29, 30, 31] (fun zb => [(10, .v (.s (.int .i64 zb.1.1))), (5, .v (.s (.int .i64 zb.1.2)))]) (fun _ => S) (fun zb => l.length - zb.1.1) ⟨(0, -1), Nat.zero_le _, rfl⟩ ?_ rfl ?_
  · (conv => whnf); repeat' (first | exact trivial | exact rfl | apply And.intro)
  rintro ⟨⟨i, st⟩, hi, hinv⟩; dsimp only
  replace hi : i ≤ l.length := hi; dsimp only at hinv
  have hd := decUp_lt l q i
  by_cases hlt : i < l.length
  · have hg : l.getD i default = l[i] := getD_at hlt
    have hst : 0 ≤ st → l.getD (decUp l q i).toNat default = l[st.toNat]'(by omega) := fun h0 => by rw [← hinv]; exact getD_at (by omega)
    have hup : decUp l q (i + 1) = if applies (l.getD i default) q && (decide (decUp l q i < 0) || before (l.getD i default) (l.getD (decUp l q i).toNat default)) then (i : Int) else decUp l q i := rfl
    rw [hg, ← hinv] at hup
    by_cases h0 : 0 ≤ st
    · have hs := hst h0
      rw [← hinv] at hs
      rw [hs, decide_eq_false (show ¬ st < 0 by omega), Bool.false_or] at hup
      rcases hA : applies (l[i]'hlt) q with _ | _
      · skip
        rw [hA, Bool.false_and, if_neg (by decide)] at hup
        repeat' ((conv => whnf) <;> first
            | rw [wrapI_i64 (by omega)]
            | refine condP_dec (fun _ => ?_) (fun _ => ?_)
            | refine condP_ndec (fun _ => ?_) (fun _ => ?_)
            | refine condP_true rfl ?_
            | refine condP_false rfl ?_
            | refine condP_not (fun _ => ?_) (fun _ => ?_)
            | refine condP_intro (fun _ => ?_) (fun _ => ?_)
            | refine callP_eq (ev_iApplies _ _ _) ?_
            | refine callP_eq (ev_iApplies _ ⟨⟨_, _⟩, _⟩ _) ?_
            | refine callP_eq (ev_iIsBefore _ _ _) ?_
            | (refine rd_lenm (by assumption) ?_; intro hml; rw [maxLen_eq] at hml)
            | refine rd_idxm (by assumption) (by intro _; rfl) (by constructor <;> omega) ?_
            | refine rd_loadf (by assumption) (by intro _; exact trivial) (by constructor <;> omega) ?_
            | refine needP_intro (by first | omega | (constructor <;> omega)) ?_
            | refine draw_intro 15 [.fl 0, .fl 1, .st 2 [], .fl 3, .fl 4, .fl 5, .fl 6, .fl 7, .fl 8, .fl 9, .fl 10, .fl 11, .st 12 [], .fl 13, .fl 14] (by rfl) (by kernel_rfl) ?_
            | refine And.intro ?_ ?_)
        all_goals first
          | rfl
          | (exfalso; omega)
          | (refine absurd (?_ : applies (l[i]'hlt) q = true) (by rw [hA]; decide); assumption)
          | (refine ⟨⟨(i + 1, _), by dsimp only; omega, hup.symm⟩, ?_, rfl, by dsimp only; omega⟩; (conv => whnf); repeat' (first | exact trivial | exact rfl | apply And.intro))

      · skip
        rcases hB : before (l[i]'hlt) (l[st.toNat]'(by omega)) with _ | _
        · skip
          rw [hA, hB, Bool.and_false, if_neg (by decide)] at hup
          repeat' ((conv => whnf) <;> first
              | rw [wrapI_i64 (by omega)]
              | refine condP_dec (fun _ => ?_) (fun _ => ?_)
              | refine condP_ndec (fun _ => ?_) (fun _ => ?_)
              | refine condP_true rfl ?_
              | refine condP_false rfl ?_
              | refine condP_not (fun _ => ?_) (fun _ => ?_)
              | refine condP_intro (fun _ => ?_) (fun _ => ?_)
              | refine callP_eq (ev_iApplies _ _ _) ?_
              | refine callP_eq (ev_iApplies _ ⟨⟨_, _⟩, _⟩ _) ?_
              | refine callP_eq (ev_iIsBefore _ _ _) ?_
              | (refine rd_lenm (by assumption) ?_; intro hml; rw [maxLen_eq] at hml)
              | refine rd_idxm (by assumption) (by intro _; rfl) (by constructor <;> omega) ?_
              | refine rd_loadf (by assumption) (by intro _; exact trivial) (by constructor <;> omega) ?_
              | refine needP_intro (by first | omega | (constructor <;> omega)) ?_
              | refine draw_intro 15 [.fl 0, .fl 1, .st 2 [], .fl 3, .fl 4, .fl 5, .fl 6, .fl 7, .fl 8, .fl 9, .fl 10, .fl 11, .st 12 [], .fl 13, .fl 14] (by rfl) (by kernel_rfl) ?_
              | refine And.intro ?_ ?_)
          all_goals first
            | rfl
            | (exfalso; omega)
            | (refine absurd (?_ : applies (l[i]'hlt) q = false) (by rw [hA]; decide); assumption)
            | (refine absurd (?_ : before (l[i]'hlt) (l[st.toNat]'(by omega)) = true) (by rw [hB]; decide); assumption)
            | (refine ⟨⟨(i + 1, _), by dsimp only; omega, hup.symm⟩, ?_, rfl, by dsimp only; omega⟩; (conv => whnf); repeat' (first | exact trivial | exact rfl | apply And.intro))

        · skip
          rw [hA, hB, Bool.and_true, if_pos rfl] at hup
          repeat' ((conv => whnf) <;> first
              | rw [wrapI_i64 (by omega)]
              | refine condP_dec (fun _ => ?_) (fun _ => ?_)
              | refine condP_ndec (fun _ => ?_) (fun _ => ?_)
              | refine condP_true rfl ?_
              | refine condP_false rfl ?_
              | refine condP_not (fun _ => ?_) (fun _ => ?_)
              | refine condP_intro (fun _ => ?_) (fun _ => ?_)
              | refine callP_eq (ev_iApplies _ _ _) ?_
              | refine callP_eq (ev_iApplies _ ⟨⟨_, _⟩, _⟩ _) ?_
              | refine callP_eq (ev_iIsBefore _ _ _) ?_
              | (refine rd_lenm (by assumption) ?_; intro hml; rw [maxLen_eq] at hml)
              | refine rd_idxm (by assumption) (by intro _; rfl) (by constructor <;> omega) ?_
              | refine rd_loadf (by assumption) (by intro _; exact trivial) (by constructor <;> omega) ?_
              | refine needP_intro (by first | omega | (constructor <;> omega)) ?_
              | refine draw_intro 15 [.fl 0, .fl 1, .st 2 [], .fl 3, .fl 4, .fl 5, .fl 6, .fl 7, .fl 8, .fl 9, .fl 10, .fl 11, .st 12 [], .fl 13, .fl 14] (by rfl) (by kernel_rfl) ?_
              | refine And.intro ?_ ?_)
          all_goals first
            | rfl
            | (exfalso; omega)
            | (refine absurd (?_ : applies (l[i]'hlt) q = false) (by rw [hA]; decide); assumption)
            | (refine absurd (?_ : before (l[i]'hlt) (l[st.toNat]'(by omega)) = false) (by rw [hB]; decide); assumption)
            | (refine ⟨⟨(i + 1, _), by dsimp only; omega, hup.symm⟩, ?_, rfl, by dsimp only; omega⟩; (conv => whnf); repeat' (first | exact trivial | exact rfl | apply And.intro))

    · rw [decide_eq_true (show st < 0 by omega), Bool.true_or, Bool.and_true] at hup
      rcases hA : applies (l[i]'hlt) q with _ | _
      · skip
        rw [hA, if_neg (by decide)] at hup
        repeat' ((conv => whnf) <;> first
            | rw [wrapI_i64 (by omega)]
            | refine condP_dec (fun _ => ?_) (fun _ => ?_)
            | refine condP_ndec (fun _ => ?_) (fun _ => ?_)
            | refine condP_true rfl ?_
            | refine condP_false rfl ?_
            | refine condP_not (fun _ => ?_) (fun _ => ?_)
            | refine condP_intro (fun _ => ?_) (fun _ => ?_)
            | refine callP_eq (ev_iApplies _ _ _) ?_
            | refine callP_eq (ev_iApplies _ ⟨⟨_, _⟩, _⟩ _) ?_
            | refine callP_eq (ev_iIsBefore _ _ _) ?_
            | (refine rd_lenm (by assumption) ?_; intro hml; rw [maxLen_eq] at hml)
            | refine rd_idxm (by assumption) (by intro _; rfl) (by constructor <;> omega) ?_
            | refine rd_loadf (by assumption) (by intro _; exact trivial) (by constructor <;> omega) ?_
            | refine needP_intro (by first | omega | (constructor <;> omega)) ?_
            | refine draw_intro 15 [.fl 0, .fl 1, .st 2 [], .fl 3, .fl 4, .fl 5, .fl 6, .fl 7, .fl 8, .fl 9, .fl 10, .fl 11, .st 12 [], .fl 13, .fl 14] (by rfl) (by kernel_rfl) ?_
            | refine And.intro ?_ ?_)
        all_goals first
          | rfl
          | (exfalso; omega)
          | (refine absurd (?_ : applies (l[i]'hlt) q = true) (by rw [hA]; decide); assumption)
          | (refine ⟨⟨(i + 1, _), by dsimp only; omega, hup.symm⟩, ?_, rfl, by dsimp only; omega⟩; (conv => whnf); repeat' (first | exact trivial | exact rfl | apply And.intro))

      · skip
        rw [hA, if_pos rfl] at hup
        repeat' ((conv => whnf) <;> first
            | rw [wrapI_i64 (by omega)]
            | refine condP_dec (fun _ => ?_) (fun _ => ?_)
            | refine condP_ndec (fun _ => ?_) (fun _ => ?_)
            | refine condP_true rfl ?_
            | refine condP_false rfl ?_
            | refine condP_not (fun _ => ?_) (fun _ => ?_)
            | refine condP_intro (fun _ => ?_) (fun _ => ?_)
            | refine callP_eq (ev_iApplies _ _ _) ?_
            | refine callP_eq (ev_iApplies _ ⟨⟨_, _⟩, _⟩ _) ?_
            | refine callP_eq (ev_iIsBefore _ _ _) ?_
            | (refine rd_lenm (by assumption) ?_; intro hml; rw [maxLen_eq] at hml)
            | refine rd_idxm (by assumption) (by intro _; rfl) (by constructor <;> omega) ?_
            | refine rd_loadf (by assumption) (by intro _; exact trivial) (by constructor <;> omega) ?_
            | refine needP_intro (by first | omega | (constructor <;> omega)) ?_
            | refine draw_intro 15 [.fl 0, .fl 1, .st 2 [], .fl 3, .fl 4, .fl 5, .fl 6, .fl 7, .fl 8, .fl 9, .fl 10, .fl 11, .st 12 [], .fl 13, .fl 14] (by rfl) (by kernel_rfl) ?_
            | refine And.intro ?_ ?_)
        all_goals first
          | rfl
          | (exfalso; omega)
          | (refine absurd (?_ : applies (l[i]'hlt) q = false) (by rw [hA]; decide); assumption)
          | (refine ⟨⟨(i + 1, _), by dsimp only; omega, hup.symm⟩, ?_, rfl, by dsimp only; omega⟩; (conv => whnf); repeat' (first | exact trivial | exact rfl | apply And.intro))

  · have he : decideRule l q = st := by unfold decideRule; rw [hinv, show l.length = i from by omega]
    repeat' ((conv => whnf) <;> first
        | rw [wrapI_i64 (by omega)]
        | refine condP_dec (fun _ => ?_) (fun _ => ?_)
        | refine condP_ndec (fun _ => ?_) (fun _ => ?_)
        | refine condP_true rfl ?_
        | refine condP_false rfl ?_
        | refine condP_not (fun _ => ?_) (fun _ => ?_)
        | refine condP_intro (fun _ => ?_) (fun _ => ?_)
        | refine callP_eq (ev_iApplies _ _ _) ?_
        | refine callP_eq (ev_iApplies _ ⟨⟨_, _⟩, _⟩ _) ?_
        | refine callP_eq (ev_iIsBefore _ _ _) ?_
        | (refine rd_lenm (by assumption) ?_; intro hml; rw [maxLen_eq] at hml)
        | refine rd_idxm (by assumption) (by intro _; rfl) (by constructor <;> omega) ?_
        | refine rd_loadf (by assumption) (by intro _; exact trivial) (by constructor <;> omega) ?_
        | refine needP_intro (by first | omega | (constructor <;> omega)) ?_
        | refine draw_intro 15 [.fl 0, .fl 1, .st 2 [], .fl 3, .fl 4, .fl 5, .fl 6, .fl 7, .fl 8, .fl 9, .fl 10, .fl 11, .st 12 [], .fl 13, .fl 14] (by rfl) (by kernel_rfl) ?_
        | refine And.intro ?_ ?_)
    all_goals first
      | rfl
      | (exfalso; omega)
      | (rw [he] <;> rfl)
theorem ev_sDecide (l : List GRule) (q : GRequest) (c : C) (S : Store) (h : Rd S [.sl 8 (l.map GRule.d)] [c]) : EvA Tryz.prog 51 [.s c, .agg q.c] S (fun r S' => r = .v (.s (.int .i64 (decideRule l q))) ∧ S' = S) := by
  refine evA_intro tok Tryz.func51 (by kernel_rfl) rfl ?_
  repeat' ((conv => whnf) <;> first
      | rw [wrapI_i64 (by omega)]
      | refine condP_dec (fun _ => ?_) (fun _ => ?_)
      | refine condP_ndec (fun _ => ?_) (fun _ => ?_)
      | refine condP_true rfl ?_
      | refine condP_false rfl ?_
      | refine condP_not (fun _ => ?_) (fun _ => ?_)
      | refine condP_intro (fun _ => ?_) (fun _ => ?_)
      | refine callP_eq (ev_sApplies _ _ _) ?_
      | refine callP_eq (ev_sApplies _ ⟨⟨_, _⟩, _⟩ _) ?_
      | refine callP_eq (ev_sIsBefore _ _ _) ?_
      | (refine rd_lenm (by assumption) ?_; intro hml; rw [maxLen_eq] at hml)
      | refine rd_idxm (by assumption) (by intro _; rfl) (by constructor <;> omega) ?_
      | refine rd_loadf (by assumption) (by intro _; exact trivial) (by constructor <;> omega) ?_
      | refine needP_intro (by first | omega | (constructor <;> omega)) ?_
      | refine draw_intro 13 [.fl 0, .fl 1, .fl 2, .fl 3, .fl 4, .st 5 [], .fl 6, .fl 7, .fl 8, .fl 9, .fl 10, .fl 11, .fl 12, .fl 13, .fl 14, .fl 15, .fl 16, .fl 17, .st 18 [], .fl 19, .fl 20] (by rfl) (by kernel_rfl) ?_
      | refine And.intro ?_ ?_)
  refine loop_intro {p : Nat × Int // p.1 ≤ l.length ∧ p.2 = decUp l q p.1} [5, 6, 7, 8, 9, 10, 11, 12, 13, 14, 15, 16, 17, 18, 19, 20, 21, 22, 23, 24, 25, 26, 27, 28, 29, 30, 31, 32, 33, 34] (fun zb => [(6, .v (.s (.int .i64 zb.1.1))), (5, .v (.s (.int .i64 zb.1.2)))]) (fun _ => S) (fun zb => l.length - zb.1.1) ⟨(0, -1), Nat.zero_le _, rfl⟩ ?_ rfl ?_
  · (conv => whnf); repeat' (first | exact trivial | exact rfl | apply And.intro)
  rintro ⟨⟨i, st⟩, hi, hinv⟩; dsimp only
  replace hi : i ≤ l.length := hi; dsimp only at hinv
  have hd := decUp_lt l q i
  by_cases hlt : i < l.length
  · have hg : l.getD i default = l[i] := getD_at hlt
    have hst : 0 ≤ st → l.getD (decUp l q i).toNat default = l[st.toNat]'(by omega) := fun h0 => by rw [← hinv]; exact getD_at (by omega)
    have hup : decUp l q (i + 1) = if applies (l.getD i default) q && (decide (decUp l q i < 0) || before (l.getD i default) (l.getD (decUp l q i).toNat default)) then (i : Int) else decUp l q i := rfl
    rw [hg, ← hinv] at hup
    by_cases h0 : 0 ≤ st
    · have hs := hst h0
      rw [← hinv] at hs
      rw [hs, decide_eq_false (show ¬ st < 0 by omega), Bool.false_or] at hup
      rcases hA : applies (l[i]'hlt) q with _ | _
      · skip
        rw [hA, Bool.false_and, if_neg (by decide)] at hup
        repeat' ((conv => whnf) <;> first
            | rw [wrapI_i64 (by omega)]
            | refine condP_dec (fun _ => ?_) (fun _ => ?_)
            | refine condP_ndec (fun _ => ?_) (fun _ => ?_)
            | refine condP_true rfl ?_
            | refine condP_false rfl ?_
            | refine condP_not (fun _ => ?_) (fun _ => ?_)
            | refine condP_intro (fun _ => ?_) (fun _ => ?_)
            | refine callP_eq (ev_sApplies _ _ _) ?_
            | refine callP_eq (ev_sApplies _ ⟨⟨_, _⟩, _⟩ _) ?_
            | refine callP_eq (ev_sIsBefore _ _ _) ?_
            | (refine rd_lenm (by assumption) ?_; intro hml; rw [maxLen_eq] at hml)
            | refine rd_idxm (by assumption) (by intro _; rfl) (by constructor <;> omega) ?_
            | refine rd_loadf (by assumption) (by intro _; exact trivial) (by constructor <;> omega) ?_
            | refine needP_intro (by first | omega | (constructor <;> omega)) ?_
            | refine draw_intro 13 [.fl 0, .fl 1, .fl 2, .fl 3, .fl 4, .st 5 [], .fl 6, .fl 7, .fl 8, .fl 9, .fl 10, .fl 11, .fl 12, .fl 13, .fl 14, .fl 15, .fl 16, .fl 17, .st 18 [], .fl 19, .fl 20] (by rfl) (by kernel_rfl) ?_
            | refine And.intro ?_ ?_)
        all_goals first
          | rfl
          | (exfalso; omega)
          | (refine absurd (?_ : applies (l[i]'hlt) q = true) (by rw [hA]; decide); assumption)
          | (refine ⟨⟨(i + 1, _), by dsimp only; omega, hup.symm⟩, ?_, rfl, by dsimp only; omega⟩; (conv => whnf); repeat' (first | exact trivial | exact rfl | apply And.intro))

      · skip
        rcases hB : before (l[i]'hlt) (l[st.toNat]'(by omega)) with _ | _
        · skip
          rw [hA, hB, Bool.and_false, if_neg (by decide)] at hup
          repeat' ((conv => whnf) <;> first
              | rw [wrapI_i64 (by omega)]
              | refine condP_dec (fun _ => ?_) (fun _ => ?_)
              | refine condP_ndec (fun _ => ?_) (fun _ => ?_)
              | refine condP_true rfl ?_
              | refine condP_false rfl ?_
              | refine condP_not (fun _ => ?_) (fun _ => ?_)
              | refine condP_intro (fun _ => ?_) (fun _ => ?_)
              | refine callP_eq (ev_sApplies _ _ _) ?_
              | refine callP_eq (ev_sApplies _ ⟨⟨_, _⟩, _⟩ _) ?_
              | refine callP_eq (ev_sIsBefore _ _ _) ?_
              | (refine rd_lenm (by assumption) ?_; intro hml; rw [maxLen_eq] at hml)
              | refine rd_idxm (by assumption) (by intro _; rfl) (by constructor <;> omega) ?_
              | refine rd_loadf (by assumption) (by intro _; exact trivial) (by constructor <;> omega) ?_
              | refine needP_intro (by first | omega | (constructor <;> omega)) ?_
              | refine draw_intro 13 [.fl 0, .fl 1, .fl 2, .fl 3, .fl 4, .st 5 [], .fl 6, .fl 7, .fl 8, .fl 9, .fl 10, .fl 11, .fl 12, .fl 13, .fl 14, .fl 15, .fl 16, .fl 17, .st 18 [], .fl 19, .fl 20] (by rfl) (by kernel_rfl) ?_
              | refine And.intro ?_ ?_)
          all_goals first
            | rfl
            | (exfalso; omega)
            | (refine absurd (?_ : applies (l[i]'hlt) q = false) (by rw [hA]; decide); assumption)
            | (refine absurd (?_ : before (l[i]'hlt) (l[st.toNat]'(by omega)) = true) (by rw [hB]; decide); assumption)
            | (refine ⟨⟨(i + 1, _), by dsimp only; omega, hup.symm⟩, ?_, rfl, by dsimp only; omega⟩; (conv => whnf); repeat' (first | exact trivial | exact rfl | apply And.intro))

        · skip
          rw [hA, hB, Bool.and_true, if_pos rfl] at hup
          repeat' ((conv => whnf) <;> first
              | rw [wrapI_i64 (by omega)]
              | refine condP_dec (fun _ => ?_) (fun _ => ?_)
              | refine condP_ndec (fun _ => ?_) (fun _ => ?_)
              | refine condP_true rfl ?_
              | refine condP_false rfl ?_
              | refine condP_not (fun _ => ?_) (fun _ => ?_)
              | refine condP_intro (fun _ => ?_) (fun _ => ?_)
              | refine callP_eq (ev_sApplies _ _ _) ?_
              | refine callP_eq (ev_sApplies _ ⟨⟨_, _⟩, _⟩ _) ?_
              | refine callP_eq (ev_sIsBefore _ _ _) ?_
              | (refine rd_lenm (by assumption) ?_; intro hml; rw [maxLen_eq] at hml)
              | refine rd_idxm (by assumption) (by intro _; rfl) (by constructor <;> omega) ?_
              | refine rd_loadf (by assumption) (by intro _; exact trivial) (by constructor <;> omega) ?_
              | refine needP_intro (by first | omega | (constructor <;> omega)) ?_
              | refine draw_intro 13 [.fl 0, .fl 1, .fl 2, .fl 3, .fl 4, .st 5 [], .fl 6, .fl 7, .fl 8, .fl 9, .fl 10, .fl 11, .fl 12, .fl 13, .fl 14, .fl 15, .fl 16, .fl 17, .st 18 [], .fl 19, .fl 20] (by rfl) (by kernel_rfl) ?_
              | refine And.intro ?_ ?_)
          all_goals first
            | rfl
            | (exfalso; omega)
            | (refine absurd (?_ : applies (l[i]'hlt) q = false) (by rw [hA]; decide); assumption)
            | (refine absurd (?_ : before (l[i]'hlt) (l[st.toNat]'(by omega)) = false) (by rw [hB]; decide); assumption)
            | (refine ⟨⟨(i + 1, _), by dsimp only; omega, hup.symm⟩, ?_, rfl, by dsimp only; omega⟩; (conv => whnf); repeat' (first | exact trivial | exact rfl | apply And.intro))

    · rw [decide_eq_true (show st < 0 by omega), Bool.true_or, Bool.and_true] at hup
      rcases hA : applies (l[i]'hlt) q with _ | _
      · skip
        rw [hA, if_neg (by decide)] at hup
        repeat' ((conv => whnf) <;> first
            | rw [wrapI_i64 (by omega)]
            | refine condP_dec (fun _ => ?_) (fun _ => ?_)
            | refine condP_ndec (fun _ => ?_) (fun _ => ?_)
            | refine condP_true rfl ?_
            | refine condP_false rfl ?_
            | refine condP_not (fun _ => ?_) (fun _ => ?_)
            | refine condP_intro (fun _ => ?_) (fun _ => ?_)
            | refine callP_eq (ev_sApplies _ _ _) ?_
            | refine callP_eq (ev_sApplies _ ⟨⟨_, _⟩, _⟩ _) ?_
            | refine callP_eq (ev_sIsBefore _ _ _) ?_
            | (refine rd_lenm (by assumption) ?_; intro hml; rw [maxLen_eq] at hml)
            | refine rd_idxm (by assumption) (by intro _; rfl) (by constructor <;> omega) ?_
            | refine rd_loadf (by assumption) (by intro _; exact trivial) (by constructor <;> omega) ?_
            | refine needP_intro (by first | omega | (constructor <;> omega)) ?_
            | refine draw_intro 13 [.fl 0, .fl 1, .fl 2, .fl 3, .fl 4, .st 5 [], .fl 6, .fl 7, .fl 8, .fl 9, .fl 10, .fl 11, .fl 12, .fl 13, .fl 14, .fl 15, .fl 16, .fl 17, .st 18 [], .fl 19, .fl 20] (by rfl) (by kernel_rfl) ?_
            | refine And.intro ?_ ?_)
        all_goals first
          | rfl
          | (exfalso; omega)
          | (refine absurd (?_ : applies (l[i]'hlt) q = true) (by rw [hA]; decide); assumption)
          | (refine ⟨⟨(i + 1, _), by dsimp only; omega, hup.symm⟩, ?_, rfl, by dsimp only; omega⟩; (conv => whnf); repeat' (first | exact trivial | exact rfl | apply And.intro))

      · skip
        rw [hA, if_pos rfl] at hup
        repeat' ((conv => whnf) <;> first
            | rw [wrapI_i64 (by omega)]
            | refine condP_dec (fun _ => ?_) (fun _ => ?_)
            | refine condP_ndec (fun _ => ?_) (fun _ => ?_)
            | refine condP_true rfl ?_
            | refine condP_false rfl ?_
            | refine condP_not (fun _ => ?_) (fun _ => ?_)
            | refine condP_intro (fun _ => ?_) (fun _ => ?_)
            | refine callP_eq (ev_sApplies _ _ _) ?_
            | refine callP_eq (ev_sApplies _ ⟨⟨_, _⟩, _⟩ _) ?_
            | refine callP_eq (ev_sIsBefore _ _ _) ?_
            | (refine rd_lenm (by assumption) ?_; intro hml; rw [maxLen_eq] at hml)
            | refine rd_idxm (by assumption) (by intro _; rfl) (by constructor <;> omega) ?_
            | refine rd_loadf (by assumption) (by intro _; exact trivial) (by constructor <;> omega) ?_
            | refine needP_intro (by first | omega | (constructor <;> omega)) ?_
            | refine draw_intro 13 [.fl 0, .fl 1, .fl 2, .fl 3, .fl 4, .st 5 [], .fl 6, .fl 7, .fl 8, .fl 9, .fl 10, .fl 11, .fl 12, .fl 13, .fl 14, .fl 15, .fl 16, .fl 17, .st 18 [], .fl 19, .fl 20] (by rfl) (by kernel_rfl) ?_
            | refine And.intro ?_ ?_)
        all_goals first
          | rfl
          | (exfalso; omega)
          | (refine absurd (?_ : applies (l[i]'hlt) q = false) (by rw [hA]; decide); assumption)
          | (refine ⟨⟨(i + 1, _), by dsimp only; omega, hup.symm⟩, ?_, rfl, by dsimp only; omega⟩; (conv => whnf); repeat' (first | exact trivial | exact rfl | apply And.intro))

  · have he : decideRule l q = st := by unfold decideRule; rw [hinv, show l.length = i from by omega]
    repeat' ((conv => whnf) <;> first
        | rw [wrapI_i64 (by omega)]
        | refine condP_dec (fun _ => ?_) (fun _ => ?_)
        | refine condP_ndec (fun _ => ?_) (fun _ => ?_)
        | refine condP_true rfl ?_
        | refine condP_false rfl ?_
        | refine condP_not (fun _ => ?_) (fun _ => ?_)
        | refine condP_intro (fun _ => ?_) (fun _ => ?_)
        | refine callP_eq (ev_sApplies _ _ _) ?_
        | refine callP_eq (ev_sApplies _ ⟨⟨_, _⟩, _⟩ _) ?_
        | refine callP_eq (ev_sIsBefore _ _ _) ?_
        | (refine rd_lenm (by assumption) ?_; intro hml; rw [maxLen_eq] at hml)
        | refine rd_idxm (by assumption) (by intro _; rfl) (by constructor <;> omega) ?_
        | refine rd_loadf (by assumption) (by intro _; exact trivial) (by constructor <;> omega) ?_
        | refine needP_intro (by first | omega | (constructor <;> omega)) ?_
        | refine draw_intro 13 [.fl 0, .fl 1, .fl 2, .fl 3, .fl 4, .st 5 [], .fl 6, .fl 7, .fl 8, .fl 9, .fl 10, .fl 11, .fl 12, .fl 13, .fl 14, .fl 15, .fl 16, .fl 17, .st 18 [], .fl 19, .fl 20] (by rfl) (by kernel_rfl) ?_
        | refine And.intro ?_ ?_)
    all_goals first
      | rfl
      | (exfalso; omega)
      | (rw [he] <;> rfl)
def actionFor (l : List GRule) (q : GRequest) : Int := if 0 ≤ decideRule l q then (l.getD (decideRule l q).toNat default).Action else 1
theorem ev_sActionFor (l : List GRule) (q : GRequest) (c : C) (S : Store) (h : Rd S [.sl 8 (l.map GRule.d)] [c]) : EvA Tryz.prog 50 [.s c, .agg q.c] S (fun r S' => r = .v (.s (.int .i64 (actionFor l q))) ∧ S' = S) := by
  have hd := decUp_lt l q l.length
  have hdd : decideRule l q = decUp l q l.length := rfl
  by_cases h0 : 0 ≤ decideRule l q
  · have ha : actionFor l q = (l[(decideRule l q).toNat]'(by omega)).Action := by unfold actionFor; rw [if_pos h0, getD_at (by omega)]
    rw [ha]
    refine evA_intro tok Tryz.func50 (by kernel_rfl) rfl ?_
    repeat' ((conv => whnf) <;> first
        | refine condP_dec (fun _ => ?_) (fun _ => ?_)
        | refine condP_ndec (fun _ => ?_) (fun _ => ?_)
        | refine condP_true rfl ?_
        | refine condP_false rfl ?_
        | refine condP_not (fun _ => ?_) (fun _ => ?_)
        | refine condP_intro (fun _ => ?_) (fun _ => ?_)
        | refine callP_eq (ev_sDecide _ _ _ _ (by assumption)) ?_
        | refine callP_eq (ev_sDecide _ ⟨⟨_, _⟩, _⟩ _ _ (by assumption)) ?_
        | refine rd_idxm (by assumption) (by intro _; rfl) (by constructor <;> omega) ?_
        | refine rd_loadf (by assumption) (by intro _; exact trivial) (by constructor <;> omega) ?_
        | refine needP_intro (by first | omega | (constructor <;> omega)) ?_
        | refine And.intro ?_ ?_)
    all_goals first | rfl | (exfalso; omega)
  · rw [show actionFor l q = 1 from if_neg h0]
    refine evA_intro tok Tryz.func50 (by kernel_rfl) rfl ?_
    repeat' ((conv => whnf) <;> first
        | refine condP_dec (fun _ => ?_) (fun _ => ?_)
        | refine condP_ndec (fun _ => ?_) (fun _ => ?_)
        | refine condP_true rfl ?_
        | refine condP_false rfl ?_
        | refine condP_not (fun _ => ?_) (fun _ => ?_)
        | refine condP_intro (fun _ => ?_) (fun _ => ?_)
        | refine callP_eq (ev_sDecide _ _ _ _ (by assumption)) ?_
        | refine callP_eq (ev_sDecide _ ⟨⟨_, _⟩, _⟩ _ _ (by assumption)) ?_
        | refine rd_idxm (by assumption) (by intro _; rfl) (by constructor <;> omega) ?_
        | refine rd_loadf (by assumption) (by intro _; exact trivial) (by constructor <;> omega) ?_
        | refine needP_intro (by first | omega | (constructor <;> omega)) ?_
        | refine And.intro ?_ ?_)
    all_goals first | rfl | (exfalso; omega)
theorem ev_iActionFor (l : List GRule) (q : GRequest) (c : C) (S : Store) (h : Rd S [.sl 8 (l.map GRule.d)] [c]) : EvA Tryz.prog 62 [.s c, .agg q.c] S (fun r S' => r = .v (.s (.int .i64 (actionFor l q))) ∧ S' = S) := by
  have hd := decUp_lt l q l.length
  have hdd : decideRule l q = decUp l q l.length := rfl
  by_cases h0 : 0 ≤ decideRule l q
  · have ha : actionFor l q = (l[(decideRule l q).toNat]'(by omega)).Action := by unfold actionFor; rw [if_pos h0, getD_at (by omega)]
    rw [ha]
    refine evA_intro tok Tryz.func62 (by kernel_rfl) rfl ?_
    repeat' ((conv => whnf) <;> first
        | refine condP_dec (fun _ => ?_) (fun _ => ?_)
        | refine condP_ndec (fun _ => ?_) (fun _ => ?_)
        | refine condP_true rfl ?_
        | refine condP_false rfl ?_
        | refine condP_not (fun _ => ?_) (fun _ => ?_)
        | refine condP_intro (fun _ => ?_) (fun _ => ?_)
        | refine callP_eq (ev_iDecide _ _ _ _ (by assumption)) ?_
        | refine callP_eq (ev_iDecide _ ⟨⟨_, _⟩, _⟩ _ _ (by assumption)) ?_
        | refine rd_idxm (by assumption) (by intro _; rfl) (by constructor <;> omega) ?_
        | refine rd_loadf (by assumption) (by intro _; exact trivial) (by constructor <;> omega) ?_
        | refine needP_intro (by first | omega | (constructor <;> omega)) ?_
        | refine And.intro ?_ ?_)
    all_goals first | rfl | (exfalso; omega)
  · rw [show actionFor l q = 1 from if_neg h0]
    refine evA_intro tok Tryz.func62 (by kernel_rfl) rfl ?_
    repeat' ((conv => whnf) <;> first
        | refine condP_dec (fun _ => ?_) (fun _ => ?_)
        | refine condP_ndec (fun _ => ?_) (fun _ => ?_)
        | refine condP_true rfl ?_
        | refine condP_false rfl ?_
        | refine condP_not (fun _ => ?_) (fun _ => ?_)
        | refine condP_intro (fun _ => ?_) (fun _ => ?_)
        | refine callP_eq (ev_iDecide _ _ _ _ (by assumption)) ?_
        | refine callP_eq (ev_iDecide _ ⟨⟨_, _⟩, _⟩ _ _ (by assumption)) ?_
        | refine rd_idxm (by assumption) (by intro _; rfl) (by constructor <;> omega) ?_
        | refine rd_loadf (by assumption) (by intro _; exact trivial) (by constructor <;> omega) ?_
        | refine needP_intro (by first | omega | (constructor <;> omega)) ?_
        | refine And.intro ?_ ?_)
    all_goals first | rfl | (exfalso; omega)
def idxS (v : GSite) : List GSite → Nat → Int
  | [], _ => -1
  | x :: r, i => if v = x then i else idxS v r (i + 1)
theorem idxS_mem (v : GSite) : ∀ (l : List GSite) (i : Nat), (0 ≤ idxS v l i) ↔ v ∈ l
  | [], i => by simp [idxS]
  | x :: r, i => by
    rw [idxS, List.mem_cons]
    split
    · rename_i h; subst h; simp
    · rename_i h; rw [idxS_mem v r (i + 1)]; simp [h]
theorem ev_idxSite (l : List GSite) (v : GSite) (c : C) (S : Store) (h : Rd S [.sl 2 (l.map GSite.d)] [c]) : EvA Tryz.prog 95 [.s c, .agg v.c] S (fun r S' => r = .v (.s (.int .i64 (idxS v l 0))) ∧ S' = S) := by
  refine evA_intro tok Tryz.func95 (by kernel_rfl) rfl ?_
  repeat' ((conv => whnf) <;> first
      | rw [wrapI_i64 (by omega)]
      | refine condP_dec (fun _ => ?_) (fun _ => ?_)
      | refine condP_ndec (fun _ => ?_) (fun _ => ?_)
      | refine condP_true rfl ?_
      | refine condP_false rfl ?_
      | refine condP_not (fun _ => ?_) (fun _ => ?_)
      | refine condP_intro (fun _ => ?_) (fun _ => ?_)
      | (refine rd_lenm (by assumption) ?_; intro hml; rw [maxLen_eq] at hml)
      | refine rd_idxm (by assumption) (by intro _; rfl) (by constructor <;> omega) ?_
      | refine rd_loadf (by assumption) (by intro _; exact trivial) (by constructor <;> omega) ?_
      | refine needP_intro (by first | omega | (constructor <;> omega)) ?_
      | refine draw_intro 11 [.fl 0, .fl 1, .fl 2, .fl 3, .fl 4, .fl 5] (by rfl) (by kernel_rfl) ?_
      | refine And.intro ?_ ?_)
  refine loop_intro {i : Nat // i ≤ l.length ∧ idxS v (l.drop i) i = idxS v l 0} [4, 5, 8, 9, 10, 11, 12, 13, 14, 15, 16, 17, 18] (fun zb => [(8, .v (.s (.int .i64 zb.1)))]) (fun _ => S) (fun zb => l.length - zb.1) ⟨0, Nat.zero_le _, rfl⟩ ?_ rfl ?_
  · (conv => whnf); repeat' (first | exact trivial | exact rfl | apply And.intro)
  rintro ⟨i, hi, hinv⟩; dsimp only
  repeat' ((conv => whnf) <;> first
      | rw [wrapI_i64 (by omega)]
      | refine condP_dec (fun _ => ?_) (fun _ => ?_)
      | refine condP_ndec (fun _ => ?_) (fun _ => ?_)
      | refine condP_true rfl ?_
      | refine condP_false rfl ?_
      | refine condP_not (fun _ => ?_) (fun _ => ?_)
      | refine condP_intro (fun _ => ?_) (fun _ => ?_)
      | (refine rd_lenm (by assumption) ?_; intro hml; rw [maxLen_eq] at hml)
      | refine rd_idxm (by assumption) (by intro _; rfl) (by constructor <;> omega) ?_
      | refine rd_loadf (by assumption) (by intro _; exact trivial) (by constructor <;> omega) ?_
      | refine needP_intro (by first | omega | (constructor <;> omega)) ?_
      | refine draw_intro 11 [.fl 0, .fl 1, .fl 2, .fl 3, .fl 4, .fl 5] (by rfl) (by kernel_rfl) ?_
      | refine And.intro ?_ ?_)
  all_goals first
    | rfl
    | (rw [drop_end (by omega), idxS] at hinv; rw [← hinv]; rfl)
    | (rename_i hb; rw [GSite.eqb] at hb; have hb' := of_decide_eq_true hb; rw [drop_at (by omega), idxS] at hinv; have hinv := (if_pos hb').symm.trans hinv; rw [← hinv]; rfl)
    | (rename_i hb; rw [GSite.eqb] at hb; have hb' := of_decide_eq_false hb
       (refine ⟨⟨i + 1, by omega, by rw [drop_at (by omega), idxS] at hinv; exact (if_neg hb').symm.trans hinv⟩, ?_, rfl, by simp; omega⟩; (conv => whnf); repeat' (first | exact trivial | exact rfl | apply And.intro)))
theorem ev_hasSite (l : List GSite) (v : GSite) (c : C) (S : Store) (h : Rd S [.sl 2 (l.map GSite.d)] [c]) : EvA Tryz.prog 61 [.s c, .agg v.c] S (fun r S' => r = .v (.s (.bool (decide (v ∈ l)))) ∧ S' = S) := by
  have e : decide (v ∈ l) = decide (0 ≤ idxS v l 0) := by rw [Bool.eq_iff_iff]; simp [idxS_mem]
  rw [e]
  refine evA_intro tok Tryz.func61 (by kernel_rfl) rfl ?_
  repeat' ((conv => whnf) <;> first
      | refine callP_eq (ev_idxSite _ _ _ _ (by assumption)) ?_
      | refine needP_intro (by first | omega | (constructor <;> omega)) ?_
      | refine And.intro ?_ ?_)
  all_goals rfl
theorem ev_l18Has (l : List GSite) (v : GSite) (c : C) (S : Store) (h : Rd S [.sl 2 (l.map GSite.d)] [c]) : EvA Tryz.prog 52 [.s c, .agg v.c] S (fun r S' => r = .v (.s (.bool (decide (v ∈ l)))) ∧ S' = S) := by
  refine evA_intro tok Tryz.func52 (by kernel_rfl) rfl ?_
  repeat' ((conv => whnf) <;> first
      | rw [wrapI_i64 (by omega)]
      | refine condP_dec (fun _ => ?_) (fun _ => ?_)
      | refine condP_ndec (fun _ => ?_) (fun _ => ?_)
      | refine condP_true rfl ?_
      | refine condP_false rfl ?_
      | refine condP_not (fun _ => ?_) (fun _ => ?_)
      | refine condP_intro (fun _ => ?_) (fun _ => ?_)
      | (refine rd_lenm (by assumption) ?_; intro hml; rw [maxLen_eq] at hml)
      | refine rd_idxm (by assumption) (by intro _; rfl) (by constructor <;> omega) ?_
      | refine rd_loadf (by assumption) (by intro _; exact trivial) (by constructor <;> omega) ?_
      | refine needP_intro (by first | omega | (constructor <;> omega)) ?_
      | refine draw_intro 12 [.fl 0, .fl 1, .fl 2, .fl 3, .fl 4, .fl 5] (by rfl) (by kernel_rfl) ?_
      | refine And.intro ?_ ?_)
  refine loop_intro {i : Nat // i ≤ l.length ∧ decide (v ∈ l.drop i) = decide (v ∈ l)} [4, 5, 6, 7, 8, 9, 10, 11, 12, 13, 14, 15, 16, 17] (fun zb => [(5, .v (.s (.int .i64 zb.1)))]) (fun _ => S) (fun zb => l.length - zb.1) ⟨0, Nat.zero_le _, rfl⟩ ?_ rfl ?_
  · (conv => whnf); repeat' (first | exact trivial | exact rfl | apply And.intro)
  rintro ⟨i, hi, hinv⟩; dsimp only
  repeat' ((conv => whnf) <;> first
      | rw [wrapI_i64 (by omega)]
      | refine condP_dec (fun _ => ?_) (fun _ => ?_)
      | refine condP_ndec (fun _ => ?_) (fun _ => ?_)
      | refine condP_true rfl ?_
      | refine condP_false rfl ?_
      | refine condP_not (fun _ => ?_) (fun _ => ?_)
      | refine condP_intro (fun _ => ?_) (fun _ => ?_)
      | (refine rd_lenm (by assumption) ?_; intro hml; rw [maxLen_eq] at hml)
      | refine rd_idxm (by assumption) (by intro _; rfl) (by constructor <;> omega) ?_
      | refine rd_loadf (by assumption) (by intro _; exact trivial) (by constructor <;> omega) ?_
      | refine needP_intro (by first | omega | (constructor <;> omega)) ?_
      | refine draw_intro 12 [.fl 0, .fl 1, .fl 2, .fl 3, .fl 4, .fl 5] (by rfl) (by kernel_rfl) ?_
      | refine And.intro ?_ ?_)
  all_goals first
    | rfl
    | (rw [drop_end (by omega)] at hinv; rw [← hinv]; rfl)
    | (rename_i hb; rw [GSite.eqb] at hb; have hb' := of_decide_eq_true hb
       have hlt : i < l.length := by omega
       have hv : v ∈ l := by rw [← hb']; exact List.getElem_mem _
       rw [decide_eq_true hv]; rfl)
    | (rename_i hb; rw [GSite.eqb] at hb; have hb' := of_decide_eq_false hb
       have hlt : i < l.length := by omega
       rw [drop_at hlt] at hinv
       have hm : (v ∈ l[i] :: l.drop (i + 1)) ↔ v ∈ l.drop (i + 1) := ⟨fun h => (List.mem_cons.1 h).resolve_left fun e => hb' e.symm, fun h => List.mem_cons.2 (.inr h)⟩
       rw [decide_eq_decide.2 hm] at hinv
       (refine ⟨⟨i + 1, by omega, hinv⟩, ?_, rfl, by simp; omega⟩; (conv => whnf); repeat' (first | exact trivial | exact rfl | apply And.intro)))
def follow (l : List GRule) (sort : Int) : Nat → List GSite → GSite → GOutcome
  | 0, path, cur => default
  | n + 1, path, cur =>
    if actionFor l ⟨cur, sort⟩ = 1 then ⟨1, cur, path ++ [cur]⟩
    else if actionFor l ⟨cur, sort⟩ = 2 then ⟨2, cur, path ++ [cur]⟩
    else if (l.getD (decideRule l ⟨cur, sort⟩).toNat default).To ∈ path ++ [cur] then ⟨3, (l.getD (decideRule l ⟨cur, sort⟩).toNat default).To, path ++ [cur]⟩
    else if n = 0 then ⟨4, (l.getD (decideRule l ⟨cur, sort⟩).toNat default).To, path ++ [cur]⟩
    else follow l sort n (path ++ [cur]) (l.getD (decideRule l ⟨cur, sort⟩).toNat default).To
def followTop (l : List GRule) (sort : Int) (path : List GSite) (cur : GSite) : GOutcome := if cur ∈ path then ⟨3, cur, path⟩ else if path.length = 6 then ⟨4, cur, path⟩ else follow l sort (6 - path.length) path cur
theorem followTop_step (l : List GRule) (sort : Int) (path : List GSite) (cur : GSite) (h1 : cur ∉ path) (h2 : path.length < 6) (h3 : actionFor l ⟨cur, sort⟩ ≠ 1) (h4 : actionFor l ⟨cur, sort⟩ ≠ 2) : followTop l sort path cur = followTop l sort (path ++ [cur]) (l.getD (decideRule l ⟨cur, sort⟩).toNat default).To := by
  unfold followTop
  rw [if_neg h1, if_neg (by omega), show 6 - path.length = (6 - (path ++ [cur]).length) + 1 by simp; omega, follow, if_neg h3, if_neg h4]
  by_cases hm : (l.getD (decideRule l ⟨cur, sort⟩).toNat default).To ∈ path ++ [cur]
  · rw [if_pos hm, if_pos hm]
  · rw [if_neg hm, if_neg hm]
    by_cases h6 : (path ++ [cur]).length = 6
    · rw [if_pos (by omega), if_pos h6]
    · rw [if_neg (by simp at h6 ⊢; omega), if_neg h6]
def followRequest (l : List GRule) (q : GRequest) : GOutcome := if isRequest q then followTop l q.Sort' [] q.Site else default
theorem fr_out0 {S : Store} {lo : Nat} : Fr lo S (default : GOutcome).d [.int .i64 0, .int .i64 0, .int .i64 0, .nil] := fr_x (fr_x (fr_x (fr_sl (mid := lo) ⟨[], by unfold Rep; exact ⟨Nat.zero_le _, .inl ⟨rfl, .inl rfl, rfl⟩⟩, List.nodup_nil, fun _ h => by cases h⟩ fr_nil (Nat.le_refl _))))
theorem to_request {l : List GRule} {q : GRequest} (h0 : 0 ≤ decideRule l q) (h1 : actionFor l q ≠ 1) (h2 : actionFor l q ≠ 2) (hq : isRequest q = true) : isRequest ⟨(l.getD (decideRule l q).toNat default).To, q.Sort'⟩ = true := by
  have ha := decUp_app l q l.length h0
  have hact : actionFor l q = (l.getD (decideRule l q).toNat default).Action := if_pos h0
  rw [hact] at h1 h2
  have ha : applies (l.getD (decideRule l q).toNat default) q = true := ha
  generalize l.getD (decideRule l q).toNat default = r at *
  unfold applies isRule at ha
  unfold isRequest at hq ⊢
  simp only [Bool.and_eq_true, Bool.or_eq_true, decide_eq_true_eq] at ha hq ⊢
  refine ⟨?_, hq.2⟩
  rcases ha.1.1.1.2 with h | h
  · exact h.2
  · omega
theorem act_dec {l : List GRule} {q : GRequest} (h1 : actionFor l q ≠ 1) : 0 ≤ decideRule l q := by
  unfold actionFor at h1
  by_cases h : 0 ≤ decideRule l q
  · exact h
  · rw [if_neg h] at h1; exact absurd rfl h1
set_option maxHeartbeats 1000000 in
theorem ev_iFollow (l : List GRule) (q : GRequest) (c : C) (S : Store) (h : Rd S [.sl 8 (l.map GRule.d)] [c]) : EvA Tryz.prog 29 [.s c, .agg q.c] S (fun r S' => Ext S S' ∧ ∃ c', r = .v (.agg [.int .i64 (followRequest l q).Code, .int .i64 (followRequest l q).Site.Owner, .int .i64 (followRequest l q).Site.Sub, c']) ∧ Fr S.length S' (followRequest l q).d [.int .i64 (followRequest l q).Code, .int .i64 (followRequest l q).Site.Owner, .int .i64 (followRequest l q).Site.Sub, c']) := by
  obtain ⟨⟨qo, qu⟩, qt⟩ := q
  by_cases hq : isRequest ⟨⟨qo, qu⟩, qt⟩ = true
  · have hR : followRequest l ⟨⟨qo, qu⟩, qt⟩ = followTop l qt [] ⟨qo, qu⟩ := if_pos hq
    rw [hR]
    generalize hO : followTop l qt [] (⟨qo, qu⟩ : GSite) = O
    refine evA_intro tok Tryz.func29 (by kernel_rfl) rfl ?_
    repeat' ((conv => whnf) <;> first
        | refine condP_dec (fun _ => ?_) (fun _ => ?_)
        | refine condP_ndec (fun _ => ?_) (fun _ => ?_)
        | refine condP_true rfl ?_
        | refine condP_false rfl ?_
        | refine condP_not (fun _ => ?_) (fun _ => ?_)
        | refine condP_intro (fun _ => ?_) (fun _ => ?_)
        | refine callP_eq (ev_iIsRequest _ _) ?_
        | refine callP_eq (ev_iIsRequest ⟨⟨_, _⟩, _⟩ _) ?_
        | refine callP_eq (ev_hasSite _ _ _ _ (by (first | assumption | exact Fr.rd (by assumption) | exact Rd.ext (by first | assumption | exact Fr.rd (by assumption)) (by (first | assumption | exact Ext.push _ _ | exact Ext.trans (by assumption) (by first | assumption | exact Ext.push _ _) | exact Ext.trans (by assumption) (Ext.trans (by assumption) (by assumption)) | exact Ext.trans (by assumption) (Ext.trans (by assumption) (Ext.trans (by assumption) (by assumption)))))))) ?_
        | refine callP_eq (ev_hasSite _ ⟨_, _⟩ _ _ (by (first | assumption | exact Fr.rd (by assumption) | exact Rd.ext (by first | assumption | exact Fr.rd (by assumption)) (by (first | assumption | exact Ext.push _ _ | exact Ext.trans (by assumption) (by first | assumption | exact Ext.push _ _) | exact Ext.trans (by assumption) (Ext.trans (by assumption) (by assumption)) | exact Ext.trans (by assumption) (Ext.trans (by assumption) (Ext.trans (by assumption) (by assumption)))))))) ?_
        | refine callP_eq (ev_iActionFor _ _ _ _ (by (first | assumption | exact Fr.rd (by assumption) | exact Rd.ext (by first | assumption | exact Fr.rd (by assumption)) (by (first | assumption | exact Ext.push _ _ | exact Ext.trans (by assumption) (by first | assumption | exact Ext.push _ _) | exact Ext.trans (by assumption) (Ext.trans (by assumption) (by assumption)) | exact Ext.trans (by assumption) (Ext.trans (by assumption) (Ext.trans (by assumption) (by assumption)))))))) ?_
        | refine callP_eq (ev_iActionFor _ ⟨⟨_, _⟩, _⟩ _ _ (by (first | assumption | exact Fr.rd (by assumption) | exact Rd.ext (by first | assumption | exact Fr.rd (by assumption)) (by (first | assumption | exact Ext.push _ _ | exact Ext.trans (by assumption) (by first | assumption | exact Ext.push _ _) | exact Ext.trans (by assumption) (Ext.trans (by assumption) (by assumption)) | exact Ext.trans (by assumption) (Ext.trans (by assumption) (Ext.trans (by assumption) (by assumption)))))))) ?_
        | refine callP_eq (ev_iDecide _ _ _ _ (by (first | assumption | exact Fr.rd (by assumption) | exact Rd.ext (by first | assumption | exact Fr.rd (by assumption)) (by (first | assumption | exact Ext.push _ _ | exact Ext.trans (by assumption) (by first | assumption | exact Ext.push _ _) | exact Ext.trans (by assumption) (Ext.trans (by assumption) (by assumption)) | exact Ext.trans (by assumption) (Ext.trans (by assumption) (Ext.trans (by assumption) (by assumption)))))))) ?_
        | refine callP_eq (ev_iDecide _ ⟨⟨_, _⟩, _⟩ _ _ (by (first | assumption | exact Fr.rd (by assumption) | exact Rd.ext (by first | assumption | exact Fr.rd (by assumption)) (by (first | assumption | exact Ext.push _ _ | exact Ext.trans (by assumption) (by first | assumption | exact Ext.push _ _) | exact Ext.trans (by assumption) (Ext.trans (by assumption) (by assumption)) | exact Ext.trans (by assumption) (Ext.trans (by assumption) (Ext.trans (by assumption) (by assumption)))))))) ?_
        | (refine rd_lenm (by (first | assumption | exact Fr.rd (by assumption) | exact Rd.ext (by first | assumption | exact Fr.rd (by assumption)) (by (first | assumption | exact Ext.push _ _ | exact Ext.trans (by assumption) (by first | assumption | exact Ext.push _ _) | exact Ext.trans (by assumption) (Ext.trans (by assumption) (by assumption)) | exact Ext.trans (by assumption) (Ext.trans (by assumption) (Ext.trans (by assumption) (by assumption))))))) ?_; intro hml; rw [maxLen_eq] at hml)
        | refine rd_idxm (by (first | assumption | exact Fr.rd (by assumption) | exact Rd.ext (by first | assumption | exact Fr.rd (by assumption)) (by (first | assumption | exact Ext.push _ _ | exact Ext.trans (by assumption) (by first | assumption | exact Ext.push _ _) | exact Ext.trans (by assumption) (Ext.trans (by assumption) (by assumption)) | exact Ext.trans (by assumption) (Ext.trans (by assumption) (Ext.trans (by assumption) (by assumption))))))) (by intro _; rfl) (by constructor <;> omega) ?_
        | refine rd_loadf (by (first | assumption | exact Fr.rd (by assumption) | exact Rd.ext (by first | assumption | exact Fr.rd (by assumption)) (by (first | assumption | exact Ext.push _ _ | exact Ext.trans (by assumption) (by first | assumption | exact Ext.push _ _) | exact Ext.trans (by assumption) (Ext.trans (by assumption) (by assumption)) | exact Ext.trans (by assumption) (Ext.trans (by assumption) (Ext.trans (by assumption) (by assumption))))))) (by intro _; exact trivial) (by constructor <;> omega) ?_
        | refine needP_intro (by first | omega | (constructor <;> omega)) ?_
        | refine And.intro ?_ ?_)
    all_goals try first | rfl | (exfalso; simp_all; done)
    refine loop_intro {p : List GSite × GSite × GSite × Store × C // p.1.length ≤ 6 ∧ Ext S p.2.2.2.1 ∧ Fr S.length p.2.2.2.1 [.sl 2 (p.1.map GSite.d)] [p.2.2.2.2] ∧ followTop l qt p.1 p.2.1 = O} [3, 4, 5, 12, 13, 14, 15, 16, 17, 18, 19, 20, 21, 22, 23, 24, 25, 26, 27, 28, 29, 30, 31, 32, 33, 34, 35, 36, 37, 38, 39, 40, 41, 42, 43, 44, 45, 46, 47, 48, 49, 50, 51, 52, 53, 54, 55] (fun zb => [(3, .box [.int .i64 zb.1.2.1.Owner, .int .i64 zb.1.2.1.Sub, .int .i64 qt]), (4, .box [.int .i64 0, .int .i64 0, .int .i64 0, .nil]), (5, .box [.int .i64 0, .int .i64 zb.1.2.2.1.Owner, .int .i64 zb.1.2.2.1.Sub, zb.1.2.2.2.2])]) (fun zb => zb.1.2.2.2.1) (fun zb => 6 - zb.1.1.length) ⟨([], ⟨qo, qu⟩, ⟨0, 0⟩, _, _), by simp, Ext.push _ _, fr_lit0, hO⟩ ?_ rfl ?_
    · (conv => whnf); repeat' (first | exact trivial | exact rfl | apply And.intro)
    rintro ⟨⟨path, ⟨co, cu⟩, ps, Si, ci⟩, hl, hE, hF, hT⟩; dsimp only
    replace hl : path.length ≤ 6 := hl
    replace hE : Ext S Si := hE
    replace hF : Fr S.length Si [.sl 2 (path.map GSite.d)] [ci] := hF
    replace hT : followTop l qt path ⟨co, cu⟩ = O := hT
    by_cases hm : (⟨co, cu⟩ : GSite) ∈ path
    · have hO2 : (⟨3, ⟨co, cu⟩, path⟩ : GOutcome) = O := by rw [← hT]; exact (if_pos hm).symm
      subst hO2
      repeat' ((conv => whnf) <;> first
          | contradiction
          | refine condP_dec (fun _ => ?_) (fun _ => ?_)
          | refine condP_ndec (fun _ => ?_) (fun _ => ?_)
          | refine condP_true rfl ?_
          | refine condP_false rfl ?_
          | refine condP_not (fun _ => ?_) (fun _ => ?_)
          | refine condP_intro (fun _ => ?_) (fun _ => ?_)
          | refine callP_eq (ev_iIsRequest _ _) ?_
          | refine callP_eq (ev_iIsRequest ⟨⟨_, _⟩, _⟩ _) ?_
          | refine callP_eq (ev_hasSite _ _ _ _ (by (first | assumption | exact Fr.rd (by assumption) | exact Rd.ext (by first | assumption | exact Fr.rd (by assumption)) (by (first | assumption | exact Ext.push _ _ | exact Ext.trans (by assumption) (by first | assumption | exact Ext.push _ _) | exact Ext.trans (by assumption) (Ext.trans (by assumption) (by assumption)) | exact Ext.trans (by assumption) (Ext.trans (by assumption) (Ext.trans (by assumption) (by assumption)))))))) ?_
          | refine callP_eq (ev_hasSite _ ⟨_, _⟩ _ _ (by (first | assumption | exact Fr.rd (by assumption) | exact Rd.ext (by first | assumption | exact Fr.rd (by assumption)) (by (first | assumption | exact Ext.push _ _ | exact Ext.trans (by assumption) (by first | assumption | exact Ext.push _ _) | exact Ext.trans (by assumption) (Ext.trans (by assumption) (by assumption)) | exact Ext.trans (by assumption) (Ext.trans (by assumption) (Ext.trans (by assumption) (by assumption)))))))) ?_
          | refine callP_eq (ev_iActionFor _ _ _ _ (by (first | assumption | exact Fr.rd (by assumption) | exact Rd.ext (by first | assumption | exact Fr.rd (by assumption)) (by (first | assumption | exact Ext.push _ _ | exact Ext.trans (by assumption) (by first | assumption | exact Ext.push _ _) | exact Ext.trans (by assumption) (Ext.trans (by assumption) (by assumption)) | exact Ext.trans (by assumption) (Ext.trans (by assumption) (Ext.trans (by assumption) (by assumption)))))))) ?_
          | refine callP_eq (ev_iActionFor _ ⟨⟨_, _⟩, _⟩ _ _ (by (first | assumption | exact Fr.rd (by assumption) | exact Rd.ext (by first | assumption | exact Fr.rd (by assumption)) (by (first | assumption | exact Ext.push _ _ | exact Ext.trans (by assumption) (by first | assumption | exact Ext.push _ _) | exact Ext.trans (by assumption) (Ext.trans (by assumption) (by assumption)) | exact Ext.trans (by assumption) (Ext.trans (by assumption) (Ext.trans (by assumption) (by assumption)))))))) ?_
          | refine callP_eq (ev_iDecide _ _ _ _ (by (first | assumption | exact Fr.rd (by assumption) | exact Rd.ext (by first | assumption | exact Fr.rd (by assumption)) (by (first | assumption | exact Ext.push _ _ | exact Ext.trans (by assumption) (by first | assumption | exact Ext.push _ _) | exact Ext.trans (by assumption) (Ext.trans (by assumption) (by assumption)) | exact Ext.trans (by assumption) (Ext.trans (by assumption) (Ext.trans (by assumption) (by assumption)))))))) ?_
          | refine callP_eq (ev_iDecide _ ⟨⟨_, _⟩, _⟩ _ _ (by (first | assumption | exact Fr.rd (by assumption) | exact Rd.ext (by first | assumption | exact Fr.rd (by assumption)) (by (first | assumption | exact Ext.push _ _ | exact Ext.trans (by assumption) (by first | assumption | exact Ext.push _ _) | exact Ext.trans (by assumption) (Ext.trans (by assumption) (by assumption)) | exact Ext.trans (by assumption) (Ext.trans (by assumption) (Ext.trans (by assumption) (by assumption)))))))) ?_
          | (refine rd_lenm (by (first | assumption | exact Fr.rd (by assumption) | exact Rd.ext (by first | assumption | exact Fr.rd (by assumption)) (by (first | assumption | exact Ext.push _ _ | exact Ext.trans (by assumption) (by first | assumption | exact Ext.push _ _) | exact Ext.trans (by assumption) (Ext.trans (by assumption) (by assumption)) | exact Ext.trans (by assumption) (Ext.trans (by assumption) (Ext.trans (by assumption) (by assumption))))))) ?_; intro hml; rw [maxLen_eq] at hml)
          | refine rd_idxm (by (first | assumption | exact Fr.rd (by assumption) | exact Rd.ext (by first | assumption | exact Fr.rd (by assumption)) (by (first | assumption | exact Ext.push _ _ | exact Ext.trans (by assumption) (by first | assumption | exact Ext.push _ _) | exact Ext.trans (by assumption) (Ext.trans (by assumption) (by assumption)) | exact Ext.trans (by assumption) (Ext.trans (by assumption) (Ext.trans (by assumption) (by assumption))))))) (by intro _; rfl) (by constructor <;> omega) ?_
          | refine rd_loadf (by (first | assumption | exact Fr.rd (by assumption) | exact Rd.ext (by first | assumption | exact Fr.rd (by assumption)) (by (first | assumption | exact Ext.push _ _ | exact Ext.trans (by assumption) (by first | assumption | exact Ext.push _ _) | exact Ext.trans (by assumption) (Ext.trans (by assumption) (by assumption)) | exact Ext.trans (by assumption) (Ext.trans (by assumption) (Ext.trans (by assumption) (by assumption))))))) (by intro _; exact trivial) (by constructor <;> omega) ?_
          | refine needP_intro (by first | omega | (constructor <;> omega)) ?_
          | (refine fr_app1 (f := GSite.d) (x := ⟨co, cu⟩) (by assumption) (by assumption) (by intro _; exact trivial) (by rfl) (by intro _; rfl) (by dsimp only [T35]; omega) (by omega) ?_; intro cN SN hEN hFN)
          | refine And.intro ?_ ?_)
      all_goals first
        | exact hE
        | (exfalso; simp_all; done)
        | exact ⟨_, rfl, fr_x (fr_x (fr_x hF))⟩
    · by_cases h6 : path.length = 6
      · have hO2 : (⟨4, ⟨co, cu⟩, path⟩ : GOutcome) = O := by rw [← hT]; exact ((if_neg hm).trans (if_pos h6)).symm
        subst hO2
        repeat' ((conv => whnf) <;> first
            | refine condP_dec (fun _ => ?_) (fun _ => ?_)
            | refine condP_ndec (fun _ => ?_) (fun _ => ?_)
            | refine condP_true rfl ?_
            | refine condP_false rfl ?_
            | refine condP_not (fun _ => ?_) (fun _ => ?_)
            | refine condP_intro (fun _ => ?_) (fun _ => ?_)
            | refine callP_eq (ev_iIsRequest _ _) ?_
            | refine callP_eq (ev_iIsRequest ⟨⟨_, _⟩, _⟩ _) ?_
            | refine callP_eq (ev_hasSite _ _ _ _ (by (first | assumption | exact Fr.rd (by assumption) | exact Rd.ext (by first | assumption | exact Fr.rd (by assumption)) (by (first | assumption | exact Ext.push _ _ | exact Ext.trans (by assumption) (by first | assumption | exact Ext.push _ _) | exact Ext.trans (by assumption) (Ext.trans (by assumption) (by assumption)) | exact Ext.trans (by assumption) (Ext.trans (by assumption) (Ext.trans (by assumption) (by assumption)))))))) ?_
            | refine callP_eq (ev_hasSite _ ⟨_, _⟩ _ _ (by (first | assumption | exact Fr.rd (by assumption) | exact Rd.ext (by first | assumption | exact Fr.rd (by assumption)) (by (first | assumption | exact Ext.push _ _ | exact Ext.trans (by assumption) (by first | assumption | exact Ext.push _ _) | exact Ext.trans (by assumption) (Ext.trans (by assumption) (by assumption)) | exact Ext.trans (by assumption) (Ext.trans (by assumption) (Ext.trans (by assumption) (by assumption)))))))) ?_
            | refine callP_eq (ev_iActionFor _ _ _ _ (by (first | assumption | exact Fr.rd (by assumption) | exact Rd.ext (by first | assumption | exact Fr.rd (by assumption)) (by (first | assumption | exact Ext.push _ _ | exact Ext.trans (by assumption) (by first | assumption | exact Ext.push _ _) | exact Ext.trans (by assumption) (Ext.trans (by assumption) (by assumption)) | exact Ext.trans (by assumption) (Ext.trans (by assumption) (Ext.trans (by assumption) (by assumption)))))))) ?_
            | refine callP_eq (ev_iActionFor _ ⟨⟨_, _⟩, _⟩ _ _ (by (first | assumption | exact Fr.rd (by assumption) | exact Rd.ext (by first | assumption | exact Fr.rd (by assumption)) (by (first | assumption | exact Ext.push _ _ | exact Ext.trans (by assumption) (by first | assumption | exact Ext.push _ _) | exact Ext.trans (by assumption) (Ext.trans (by assumption) (by assumption)) | exact Ext.trans (by assumption) (Ext.trans (by assumption) (Ext.trans (by assumption) (by assumption)))))))) ?_
            | refine callP_eq (ev_iDecide _ _ _ _ (by (first | assumption | exact Fr.rd (by assumption) | exact Rd.ext (by first | assumption | exact Fr.rd (by assumption)) (by (first | assumption | exact Ext.push _ _ | exact Ext.trans (by assumption) (by first | assumption | exact Ext.push _ _) | exact Ext.trans (by assumption) (Ext.trans (by assumption) (by assumption)) | exact Ext.trans (by assumption) (Ext.trans (by assumption) (Ext.trans (by assumption) (by assumption)))))))) ?_
            | refine callP_eq (ev_iDecide _ ⟨⟨_, _⟩, _⟩ _ _ (by (first | assumption | exact Fr.rd (by assumption) | exact Rd.ext (by first | assumption | exact Fr.rd (by assumption)) (by (first | assumption | exact Ext.push _ _ | exact Ext.trans (by assumption) (by first | assumption | exact Ext.push _ _) | exact Ext.trans (by assumption) (Ext.trans (by assumption) (by assumption)) | exact Ext.trans (by assumption) (Ext.trans (by assumption) (Ext.trans (by assumption) (by assumption)))))))) ?_
            | (refine rd_lenm (by (first | assumption | exact Fr.rd (by assumption) | exact Rd.ext (by first | assumption | exact Fr.rd (by assumption)) (by (first | assumption | exact Ext.push _ _ | exact Ext.trans (by assumption) (by first | assumption | exact Ext.push _ _) | exact Ext.trans (by assumption) (Ext.trans (by assumption) (by assumption)) | exact Ext.trans (by assumption) (Ext.trans (by assumption) (Ext.trans (by assumption) (by assumption))))))) ?_; intro hml; rw [maxLen_eq] at hml)
            | refine rd_idxm (by (first | assumption | exact Fr.rd (by assumption) | exact Rd.ext (by first | assumption | exact Fr.rd (by assumption)) (by (first | assumption | exact Ext.push _ _ | exact Ext.trans (by assumption) (by first | assumption | exact Ext.push _ _) | exact Ext.trans (by assumption) (Ext.trans (by assumption) (by assumption)) | exact Ext.trans (by assumption) (Ext.trans (by assumption) (Ext.trans (by assumption) (by assumption))))))) (by intro _; rfl) (by constructor <;> omega) ?_
            | refine rd_loadf (by (first | assumption | exact Fr.rd (by assumption) | exact Rd.ext (by first | assumption | exact Fr.rd (by assumption)) (by (first | assumption | exact Ext.push _ _ | exact Ext.trans (by assumption) (by first | assumption | exact Ext.push _ _) | exact Ext.trans (by assumption) (Ext.trans (by assumption) (by assumption)) | exact Ext.trans (by assumption) (Ext.trans (by assumption) (Ext.trans (by assumption) (by assumption))))))) (by intro _; exact trivial) (by constructor <;> omega) ?_
            | refine needP_intro (by first | omega | (constructor <;> omega)) ?_
            | (refine fr_app1 (f := GSite.d) (x := ⟨co, cu⟩) (by assumption) (by assumption) (by intro _; exact trivial) (by rfl) (by intro _; rfl) (by dsimp only [T35]; omega) (by omega) ?_; intro cN SN hEN hFN)
            | refine And.intro ?_ ?_)
        all_goals first
          | exact hE
          | (exfalso; simp_all; done)
          | (exfalso; omega)
          | exact ⟨_, rfl, fr_x (fr_x (fr_x hF))⟩
      · skip
        have hTt := hT
        unfold followTop at hTt
        rw [if_neg hm, if_neg (by omega), show 6 - path.length = (5 - path.length) + 1 by omega, follow] at hTt
        by_cases ha1 : actionFor l ⟨⟨co, cu⟩, qt⟩ = 1
        · rw [if_pos ha1] at hTt
          subst hTt
          repeat' ((conv => whnf) <;> first
              | refine condP_dec (fun _ => ?_) (fun _ => ?_)
              | refine condP_ndec (fun _ => ?_) (fun _ => ?_)
              | refine condP_true rfl ?_
              | refine condP_false rfl ?_
              | refine condP_not (fun _ => ?_) (fun _ => ?_)
              | refine condP_intro (fun _ => ?_) (fun _ => ?_)
              | refine callP_eq (ev_iIsRequest _ _) ?_
              | refine callP_eq (ev_iIsRequest ⟨⟨_, _⟩, _⟩ _) ?_
              | refine callP_eq (ev_hasSite _ _ _ _ (by (first | assumption | exact Fr.rd (by assumption) | exact Rd.ext (by first | assumption | exact Fr.rd (by assumption)) (by (first | assumption | exact Ext.push _ _ | exact Ext.trans (by assumption) (by first | assumption | exact Ext.push _ _) | exact Ext.trans (by assumption) (Ext.trans (by assumption) (by assumption)) | exact Ext.trans (by assumption) (Ext.trans (by assumption) (Ext.trans (by assumption) (by assumption)))))))) ?_
              | refine callP_eq (ev_hasSite _ ⟨_, _⟩ _ _ (by (first | assumption | exact Fr.rd (by assumption) | exact Rd.ext (by first | assumption | exact Fr.rd (by assumption)) (by (first | assumption | exact Ext.push _ _ | exact Ext.trans (by assumption) (by first | assumption | exact Ext.push _ _) | exact Ext.trans (by assumption) (Ext.trans (by assumption) (by assumption)) | exact Ext.trans (by assumption) (Ext.trans (by assumption) (Ext.trans (by assumption) (by assumption)))))))) ?_
              | refine callP_eq (ev_iActionFor _ _ _ _ (by (first | assumption | exact Fr.rd (by assumption) | exact Rd.ext (by first | assumption | exact Fr.rd (by assumption)) (by (first | assumption | exact Ext.push _ _ | exact Ext.trans (by assumption) (by first | assumption | exact Ext.push _ _) | exact Ext.trans (by assumption) (Ext.trans (by assumption) (by assumption)) | exact Ext.trans (by assumption) (Ext.trans (by assumption) (Ext.trans (by assumption) (by assumption)))))))) ?_
              | refine callP_eq (ev_iActionFor _ ⟨⟨_, _⟩, _⟩ _ _ (by (first | assumption | exact Fr.rd (by assumption) | exact Rd.ext (by first | assumption | exact Fr.rd (by assumption)) (by (first | assumption | exact Ext.push _ _ | exact Ext.trans (by assumption) (by first | assumption | exact Ext.push _ _) | exact Ext.trans (by assumption) (Ext.trans (by assumption) (by assumption)) | exact Ext.trans (by assumption) (Ext.trans (by assumption) (Ext.trans (by assumption) (by assumption)))))))) ?_
              | refine callP_eq (ev_iDecide _ _ _ _ (by (first | assumption | exact Fr.rd (by assumption) | exact Rd.ext (by first | assumption | exact Fr.rd (by assumption)) (by (first | assumption | exact Ext.push _ _ | exact Ext.trans (by assumption) (by first | assumption | exact Ext.push _ _) | exact Ext.trans (by assumption) (Ext.trans (by assumption) (by assumption)) | exact Ext.trans (by assumption) (Ext.trans (by assumption) (Ext.trans (by assumption) (by assumption)))))))) ?_
              | refine callP_eq (ev_iDecide _ ⟨⟨_, _⟩, _⟩ _ _ (by (first | assumption | exact Fr.rd (by assumption) | exact Rd.ext (by first | assumption | exact Fr.rd (by assumption)) (by (first | assumption | exact Ext.push _ _ | exact Ext.trans (by assumption) (by first | assumption | exact Ext.push _ _) | exact Ext.trans (by assumption) (Ext.trans (by assumption) (by assumption)) | exact Ext.trans (by assumption) (Ext.trans (by assumption) (Ext.trans (by assumption) (by assumption)))))))) ?_
              | (refine rd_lenm (by (first | assumption | exact Fr.rd (by assumption) | exact Rd.ext (by first | assumption | exact Fr.rd (by assumption)) (by (first | assumption | exact Ext.push _ _ | exact Ext.trans (by assumption) (by first | assumption | exact Ext.push _ _) | exact Ext.trans (by assumption) (Ext.trans (by assumption) (by assumption)) | exact Ext.trans (by assumption) (Ext.trans (by assumption) (Ext.trans (by assumption) (by assumption))))))) ?_; intro hml; rw [maxLen_eq] at hml)
              | refine rd_idxm (by (first | assumption | exact Fr.rd (by assumption) | exact Rd.ext (by first | assumption | exact Fr.rd (by assumption)) (by (first | assumption | exact Ext.push _ _ | exact Ext.trans (by assumption) (by first | assumption | exact Ext.push _ _) | exact Ext.trans (by assumption) (Ext.trans (by assumption) (by assumption)) | exact Ext.trans (by assumption) (Ext.trans (by assumption) (Ext.trans (by assumption) (by assumption))))))) (by intro _; rfl) (by constructor <;> omega) ?_
              | refine rd_loadf (by (first | assumption | exact Fr.rd (by assumption) | exact Rd.ext (by first | assumption | exact Fr.rd (by assumption)) (by (first | assumption | exact Ext.push _ _ | exact Ext.trans (by assumption) (by first | assumption | exact Ext.push _ _) | exact Ext.trans (by assumption) (Ext.trans (by assumption) (by assumption)) | exact Ext.trans (by assumption) (Ext.trans (by assumption) (Ext.trans (by assumption) (by assumption))))))) (by intro _; exact trivial) (by constructor <;> omega) ?_
              | refine needP_intro (by first | omega | (constructor <;> omega)) ?_
              | (refine fr_app1 (f := GSite.d) (x := ⟨co, cu⟩) (by assumption) (by assumption) (by intro _; exact trivial) (by rfl) (by intro _; rfl) (by dsimp only [T35]; omega) (by omega) ?_; intro cN SN hEN hFN)
              | refine And.intro ?_ ?_)
          all_goals first
            | assumption
            | (exfalso; simp_all; done)
            | (exfalso; omega)
            | exact ⟨_, rfl, fr_x (fr_x (fr_x (by assumption)))⟩
        · by_cases ha2 : actionFor l ⟨⟨co, cu⟩, qt⟩ = 2
          · rw [if_neg ha1, if_pos ha2] at hTt
            subst hTt
            repeat' ((conv => whnf) <;> first
                | refine condP_dec (fun _ => ?_) (fun _ => ?_)
                | refine condP_ndec (fun _ => ?_) (fun _ => ?_)
                | refine condP_true rfl ?_
                | refine condP_false rfl ?_
                | refine condP_not (fun _ => ?_) (fun _ => ?_)
                | refine condP_intro (fun _ => ?_) (fun _ => ?_)
                | refine callP_eq (ev_iIsRequest _ _) ?_
                | refine callP_eq (ev_iIsRequest ⟨⟨_, _⟩, _⟩ _) ?_
                | refine callP_eq (ev_hasSite _ _ _ _ (by (first | assumption | exact Fr.rd (by assumption) | exact Rd.ext (by first | assumption | exact Fr.rd (by assumption)) (by (first | assumption | exact Ext.push _ _ | exact Ext.trans (by assumption) (by first | assumption | exact Ext.push _ _) | exact Ext.trans (by assumption) (Ext.trans (by assumption) (by assumption)) | exact Ext.trans (by assumption) (Ext.trans (by assumption) (Ext.trans (by assumption) (by assumption)))))))) ?_
                | refine callP_eq (ev_hasSite _ ⟨_, _⟩ _ _ (by (first | assumption | exact Fr.rd (by assumption) | exact Rd.ext (by first | assumption | exact Fr.rd (by assumption)) (by (first | assumption | exact Ext.push _ _ | exact Ext.trans (by assumption) (by first | assumption | exact Ext.push _ _) | exact Ext.trans (by assumption) (Ext.trans (by assumption) (by assumption)) | exact Ext.trans (by assumption) (Ext.trans (by assumption) (Ext.trans (by assumption) (by assumption)))))))) ?_
                | refine callP_eq (ev_iActionFor _ _ _ _ (by (first | assumption | exact Fr.rd (by assumption) | exact Rd.ext (by first | assumption | exact Fr.rd (by assumption)) (by (first | assumption | exact Ext.push _ _ | exact Ext.trans (by assumption) (by first | assumption | exact Ext.push _ _) | exact Ext.trans (by assumption) (Ext.trans (by assumption) (by assumption)) | exact Ext.trans (by assumption) (Ext.trans (by assumption) (Ext.trans (by assumption) (by assumption)))))))) ?_
                | refine callP_eq (ev_iActionFor _ ⟨⟨_, _⟩, _⟩ _ _ (by (first | assumption | exact Fr.rd (by assumption) | exact Rd.ext (by first | assumption | exact Fr.rd (by assumption)) (by (first | assumption | exact Ext.push _ _ | exact Ext.trans (by assumption) (by first | assumption | exact Ext.push _ _) | exact Ext.trans (by assumption) (Ext.trans (by assumption) (by assumption)) | exact Ext.trans (by assumption) (Ext.trans (by assumption) (Ext.trans (by assumption) (by assumption)))))))) ?_
                | refine callP_eq (ev_iDecide _ _ _ _ (by (first | assumption | exact Fr.rd (by assumption) | exact Rd.ext (by first | assumption | exact Fr.rd (by assumption)) (by (first | assumption | exact Ext.push _ _ | exact Ext.trans (by assumption) (by first | assumption | exact Ext.push _ _) | exact Ext.trans (by assumption) (Ext.trans (by assumption) (by assumption)) | exact Ext.trans (by assumption) (Ext.trans (by assumption) (Ext.trans (by assumption) (by assumption)))))))) ?_
                | refine callP_eq (ev_iDecide _ ⟨⟨_, _⟩, _⟩ _ _ (by (first | assumption | exact Fr.rd (by assumption) | exact Rd.ext (by first | assumption | exact Fr.rd (by assumption)) (by (first | assumption | exact Ext.push _ _ | exact Ext.trans (by assumption) (by first | assumption | exact Ext.push _ _) | exact Ext.trans (by assumption) (Ext.trans (by assumption) (by assumption)) | exact Ext.trans (by assumption) (Ext.trans (by assumption) (Ext.trans (by assumption) (by assumption)))))))) ?_
                | (refine rd_lenm (by (first | assumption | exact Fr.rd (by assumption) | exact Rd.ext (by first | assumption | exact Fr.rd (by assumption)) (by (first | assumption | exact Ext.push _ _ | exact Ext.trans (by assumption) (by first | assumption | exact Ext.push _ _) | exact Ext.trans (by assumption) (Ext.trans (by assumption) (by assumption)) | exact Ext.trans (by assumption) (Ext.trans (by assumption) (Ext.trans (by assumption) (by assumption))))))) ?_; intro hml; rw [maxLen_eq] at hml)
                | refine rd_idxm (by (first | assumption | exact Fr.rd (by assumption) | exact Rd.ext (by first | assumption | exact Fr.rd (by assumption)) (by (first | assumption | exact Ext.push _ _ | exact Ext.trans (by assumption) (by first | assumption | exact Ext.push _ _) | exact Ext.trans (by assumption) (Ext.trans (by assumption) (by assumption)) | exact Ext.trans (by assumption) (Ext.trans (by assumption) (Ext.trans (by assumption) (by assumption))))))) (by intro _; rfl) (by constructor <;> omega) ?_
                | refine rd_loadf (by (first | assumption | exact Fr.rd (by assumption) | exact Rd.ext (by first | assumption | exact Fr.rd (by assumption)) (by (first | assumption | exact Ext.push _ _ | exact Ext.trans (by assumption) (by first | assumption | exact Ext.push _ _) | exact Ext.trans (by assumption) (Ext.trans (by assumption) (by assumption)) | exact Ext.trans (by assumption) (Ext.trans (by assumption) (Ext.trans (by assumption) (by assumption))))))) (by intro _; exact trivial) (by constructor <;> omega) ?_
                | refine needP_intro (by first | omega | (constructor <;> omega)) ?_
                | (refine fr_app1 (f := GSite.d) (x := ⟨co, cu⟩) (by assumption) (by assumption) (by intro _; exact trivial) (by rfl) (by intro _; rfl) (by dsimp only [T35]; omega) (by omega) ?_; intro cN SN hEN hFN)
                | refine And.intro ?_ ?_)
            all_goals first
              | assumption
              | (exfalso; simp_all; done)
              | (exfalso; omega)
              | exact ⟨_, rfl, fr_x (fr_x (fr_x (by assumption)))⟩
          · have hd0 := act_dec ha1
            have hdl := decUp_lt l ⟨⟨co, cu⟩, qt⟩ l.length
            have hdd : decideRule l ⟨⟨co, cu⟩, qt⟩ = decUp l ⟨⟨co, cu⟩, qt⟩ l.length := rfl
            have hgd : l.getD (decideRule l ⟨⟨co, cu⟩, qt⟩).toNat default = l[(decideRule l ⟨⟨co, cu⟩, qt⟩).toNat]'(by omega) := getD_at (by omega)
            have hst := followTop_step l qt path ⟨co, cu⟩ hm (by omega) ha1 ha2
            rw [hT, hgd] at hst
            repeat' ((conv => whnf) <;> first
                | refine condP_dec (fun _ => ?_) (fun _ => ?_)
                | refine condP_ndec (fun _ => ?_) (fun _ => ?_)
                | refine condP_true rfl ?_
                | refine condP_false rfl ?_
                | refine condP_not (fun _ => ?_) (fun _ => ?_)
                | refine condP_intro (fun _ => ?_) (fun _ => ?_)
                | refine callP_eq (ev_iIsRequest _ _) ?_
                | refine callP_eq (ev_iIsRequest ⟨⟨_, _⟩, _⟩ _) ?_
                | refine callP_eq (ev_hasSite _ _ _ _ (by (first | assumption | exact Fr.rd (by assumption) | exact Rd.ext (by first | assumption | exact Fr.rd (by assumption)) (by (first | assumption | exact Ext.push _ _ | exact Ext.trans (by assumption) (by first | assumption | exact Ext.push _ _) | exact Ext.trans (by assumption) (Ext.trans (by assumption) (by assumption)) | exact Ext.trans (by assumption) (Ext.trans (by assumption) (Ext.trans (by assumption) (by assumption)))))))) ?_
                | refine callP_eq (ev_hasSite _ ⟨_, _⟩ _ _ (by (first | assumption | exact Fr.rd (by assumption) | exact Rd.ext (by first | assumption | exact Fr.rd (by assumption)) (by (first | assumption | exact Ext.push _ _ | exact Ext.trans (by assumption) (by first | assumption | exact Ext.push _ _) | exact Ext.trans (by assumption) (Ext.trans (by assumption) (by assumption)) | exact Ext.trans (by assumption) (Ext.trans (by assumption) (Ext.trans (by assumption) (by assumption)))))))) ?_
                | refine callP_eq (ev_iActionFor _ _ _ _ (by (first | assumption | exact Fr.rd (by assumption) | exact Rd.ext (by first | assumption | exact Fr.rd (by assumption)) (by (first | assumption | exact Ext.push _ _ | exact Ext.trans (by assumption) (by first | assumption | exact Ext.push _ _) | exact Ext.trans (by assumption) (Ext.trans (by assumption) (by assumption)) | exact Ext.trans (by assumption) (Ext.trans (by assumption) (Ext.trans (by assumption) (by assumption)))))))) ?_
                | refine callP_eq (ev_iActionFor _ ⟨⟨_, _⟩, _⟩ _ _ (by (first | assumption | exact Fr.rd (by assumption) | exact Rd.ext (by first | assumption | exact Fr.rd (by assumption)) (by (first | assumption | exact Ext.push _ _ | exact Ext.trans (by assumption) (by first | assumption | exact Ext.push _ _) | exact Ext.trans (by assumption) (Ext.trans (by assumption) (by assumption)) | exact Ext.trans (by assumption) (Ext.trans (by assumption) (Ext.trans (by assumption) (by assumption)))))))) ?_
                | refine callP_eq (ev_iDecide _ _ _ _ (by (first | assumption | exact Fr.rd (by assumption) | exact Rd.ext (by first | assumption | exact Fr.rd (by assumption)) (by (first | assumption | exact Ext.push _ _ | exact Ext.trans (by assumption) (by first | assumption | exact Ext.push _ _) | exact Ext.trans (by assumption) (Ext.trans (by assumption) (by assumption)) | exact Ext.trans (by assumption) (Ext.trans (by assumption) (Ext.trans (by assumption) (by assumption)))))))) ?_
                | refine callP_eq (ev_iDecide _ ⟨⟨_, _⟩, _⟩ _ _ (by (first | assumption | exact Fr.rd (by assumption) | exact Rd.ext (by first | assumption | exact Fr.rd (by assumption)) (by (first | assumption | exact Ext.push _ _ | exact Ext.trans (by assumption) (by first | assumption | exact Ext.push _ _) | exact Ext.trans (by assumption) (Ext.trans (by assumption) (by assumption)) | exact Ext.trans (by assumption) (Ext.trans (by assumption) (Ext.trans (by assumption) (by assumption)))))))) ?_
                | (refine rd_lenm (by (first | assumption | exact Fr.rd (by assumption) | exact Rd.ext (by first | assumption | exact Fr.rd (by assumption)) (by (first | assumption | exact Ext.push _ _ | exact Ext.trans (by assumption) (by first | assumption | exact Ext.push _ _) | exact Ext.trans (by assumption) (Ext.trans (by assumption) (by assumption)) | exact Ext.trans (by assumption) (Ext.trans (by assumption) (Ext.trans (by assumption) (by assumption))))))) ?_; intro hml; rw [maxLen_eq] at hml)
                | refine rd_idxm (by (first | assumption | exact Fr.rd (by assumption) | exact Rd.ext (by first | assumption | exact Fr.rd (by assumption)) (by (first | assumption | exact Ext.push _ _ | exact Ext.trans (by assumption) (by first | assumption | exact Ext.push _ _) | exact Ext.trans (by assumption) (Ext.trans (by assumption) (by assumption)) | exact Ext.trans (by assumption) (Ext.trans (by assumption) (Ext.trans (by assumption) (by assumption))))))) (by intro _; rfl) (by constructor <;> omega) ?_
                | refine rd_loadf (by (first | assumption | exact Fr.rd (by assumption) | exact Rd.ext (by first | assumption | exact Fr.rd (by assumption)) (by (first | assumption | exact Ext.push _ _ | exact Ext.trans (by assumption) (by first | assumption | exact Ext.push _ _) | exact Ext.trans (by assumption) (Ext.trans (by assumption) (by assumption)) | exact Ext.trans (by assumption) (Ext.trans (by assumption) (Ext.trans (by assumption) (by assumption))))))) (by intro _; exact trivial) (by constructor <;> omega) ?_
                | refine needP_intro (by first | omega | (constructor <;> omega)) ?_
                | (refine fr_app1 (f := GSite.d) (x := ⟨co, cu⟩) (by assumption) (by assumption) (by intro _; exact trivial) (by rfl) (by intro _; rfl) (by dsimp only [T35]; omega) (by omega) ?_; intro cN SN hEN hFN)
                | refine And.intro ?_ ?_)
            all_goals first
              | assumption
              | (exfalso; simp_all; done)
              | (exfalso; omega)
              | (refine ⟨⟨(path ++ [(⟨co, cu⟩ : GSite)], (l[(decideRule l ⟨⟨co, cu⟩, qt⟩).toNat]'(by omega)).To, ⟨co, cu⟩, _, _), by dsimp only; simp; omega, by assumption, by assumption, hst.symm⟩, ?_, rfl, by dsimp only; simp; omega⟩
                 (conv => whnf); repeat' (first | exact trivial | exact rfl | apply And.intro))
  · rw [show followRequest l ⟨⟨qo, qu⟩, qt⟩ = default from if_neg hq]
    refine evA_intro tok Tryz.func29 (by kernel_rfl) rfl ?_
    repeat' ((conv => whnf) <;> first
        | refine condP_dec (fun _ => ?_) (fun _ => ?_)
        | refine condP_ndec (fun _ => ?_) (fun _ => ?_)
        | refine condP_true rfl ?_
        | refine condP_false rfl ?_
        | refine condP_not (fun _ => ?_) (fun _ => ?_)
        | refine condP_intro (fun _ => ?_) (fun _ => ?_)
        | refine callP_eq (ev_iIsRequest _ _) ?_
        | refine callP_eq (ev_iIsRequest ⟨⟨_, _⟩, _⟩ _) ?_
        | refine callP_eq (ev_hasSite _ _ _ _ (by (first | assumption | exact Fr.rd (by assumption) | exact Rd.ext (by first | assumption | exact Fr.rd (by assumption)) (by (first | assumption | exact Ext.push _ _ | exact Ext.trans (by assumption) (by first | assumption | exact Ext.push _ _) | exact Ext.trans (by assumption) (Ext.trans (by assumption) (by assumption)) | exact Ext.trans (by assumption) (Ext.trans (by assumption) (Ext.trans (by assumption) (by assumption)))))))) ?_
        | refine callP_eq (ev_hasSite _ ⟨_, _⟩ _ _ (by (first | assumption | exact Fr.rd (by assumption) | exact Rd.ext (by first | assumption | exact Fr.rd (by assumption)) (by (first | assumption | exact Ext.push _ _ | exact Ext.trans (by assumption) (by first | assumption | exact Ext.push _ _) | exact Ext.trans (by assumption) (Ext.trans (by assumption) (by assumption)) | exact Ext.trans (by assumption) (Ext.trans (by assumption) (Ext.trans (by assumption) (by assumption)))))))) ?_
        | refine callP_eq (ev_iActionFor _ _ _ _ (by (first | assumption | exact Fr.rd (by assumption) | exact Rd.ext (by first | assumption | exact Fr.rd (by assumption)) (by (first | assumption | exact Ext.push _ _ | exact Ext.trans (by assumption) (by first | assumption | exact Ext.push _ _) | exact Ext.trans (by assumption) (Ext.trans (by assumption) (by assumption)) | exact Ext.trans (by assumption) (Ext.trans (by assumption) (Ext.trans (by assumption) (by assumption)))))))) ?_
        | refine callP_eq (ev_iActionFor _ ⟨⟨_, _⟩, _⟩ _ _ (by (first | assumption | exact Fr.rd (by assumption) | exact Rd.ext (by first | assumption | exact Fr.rd (by assumption)) (by (first | assumption | exact Ext.push _ _ | exact Ext.trans (by assumption) (by first | assumption | exact Ext.push _ _) | exact Ext.trans (by assumption) (Ext.trans (by assumption) (by assumption)) | exact Ext.trans (by assumption) (Ext.trans (by assumption) (Ext.trans (by assumption) (by assumption)))))))) ?_
        | refine callP_eq (ev_iDecide _ _ _ _ (by (first | assumption | exact Fr.rd (by assumption) | exact Rd.ext (by first | assumption | exact Fr.rd (by assumption)) (by (first | assumption | exact Ext.push _ _ | exact Ext.trans (by assumption) (by first | assumption | exact Ext.push _ _) | exact Ext.trans (by assumption) (Ext.trans (by assumption) (by assumption)) | exact Ext.trans (by assumption) (Ext.trans (by assumption) (Ext.trans (by assumption) (by assumption)))))))) ?_
        | refine callP_eq (ev_iDecide _ ⟨⟨_, _⟩, _⟩ _ _ (by (first | assumption | exact Fr.rd (by assumption) | exact Rd.ext (by first | assumption | exact Fr.rd (by assumption)) (by (first | assumption | exact Ext.push _ _ | exact Ext.trans (by assumption) (by first | assumption | exact Ext.push _ _) | exact Ext.trans (by assumption) (Ext.trans (by assumption) (by assumption)) | exact Ext.trans (by assumption) (Ext.trans (by assumption) (Ext.trans (by assumption) (by assumption)))))))) ?_
        | (refine rd_lenm (by (first | assumption | exact Fr.rd (by assumption) | exact Rd.ext (by first | assumption | exact Fr.rd (by assumption)) (by (first | assumption | exact Ext.push _ _ | exact Ext.trans (by assumption) (by first | assumption | exact Ext.push _ _) | exact Ext.trans (by assumption) (Ext.trans (by assumption) (by assumption)) | exact Ext.trans (by assumption) (Ext.trans (by assumption) (Ext.trans (by assumption) (by assumption))))))) ?_; intro hml; rw [maxLen_eq] at hml)
        | refine rd_idxm (by (first | assumption | exact Fr.rd (by assumption) | exact Rd.ext (by first | assumption | exact Fr.rd (by assumption)) (by (first | assumption | exact Ext.push _ _ | exact Ext.trans (by assumption) (by first | assumption | exact Ext.push _ _) | exact Ext.trans (by assumption) (Ext.trans (by assumption) (by assumption)) | exact Ext.trans (by assumption) (Ext.trans (by assumption) (Ext.trans (by assumption) (by assumption))))))) (by intro _; rfl) (by constructor <;> omega) ?_
        | refine rd_loadf (by (first | assumption | exact Fr.rd (by assumption) | exact Rd.ext (by first | assumption | exact Fr.rd (by assumption)) (by (first | assumption | exact Ext.push _ _ | exact Ext.trans (by assumption) (by first | assumption | exact Ext.push _ _) | exact Ext.trans (by assumption) (Ext.trans (by assumption) (by assumption)) | exact Ext.trans (by assumption) (Ext.trans (by assumption) (Ext.trans (by assumption) (by assumption))))))) (by intro _; exact trivial) (by constructor <;> omega) ?_
        | refine needP_intro (by first | omega | (constructor <;> omega)) ?_
        | refine And.intro ?_ ?_)
    all_goals first
      | exact Ext.refl _
      | (exfalso; simp_all; done)
      | exact ⟨_, rfl, fr_out0⟩
set_option maxHeartbeats 1000000 in
theorem ev_sFollow (l : List GRule) (q : GRequest) (c : C) (S : Store) (h : Rd S [.sl 8 (l.map GRule.d)] [c]) : EvA Tryz.prog 20 [.s c, .agg q.c] S (fun r S' => Ext S S' ∧ ∃ c', r = .v (.agg [.int .i64 (followRequest l q).Code, .int .i64 (followRequest l q).Site.Owner, .int .i64 (followRequest l q).Site.Sub, c']) ∧ Fr S.length S' (followRequest l q).d [.int .i64 (followRequest l q).Code, .int .i64 (followRequest l q).Site.Owner, .int .i64 (followRequest l q).Site.Sub, c']) := by
  obtain ⟨⟨qo, qu⟩, qt⟩ := q
  by_cases hq : isRequest ⟨⟨qo, qu⟩, qt⟩ = true
  · have hR : followRequest l ⟨⟨qo, qu⟩, qt⟩ = followTop l qt [] ⟨qo, qu⟩ := if_pos hq
    rw [hR]
    generalize hO : followTop l qt [] (⟨qo, qu⟩ : GSite) = O
    refine evA_intro tok Tryz.func20 (by kernel_rfl) rfl ?_
    repeat' ((conv => whnf) <;> first
        | refine condP_dec (fun _ => ?_) (fun _ => ?_)
        | refine condP_ndec (fun _ => ?_) (fun _ => ?_)
        | refine condP_true rfl ?_
        | refine condP_false rfl ?_
        | refine condP_not (fun _ => ?_) (fun _ => ?_)
        | refine condP_intro (fun _ => ?_) (fun _ => ?_)
        | refine callP_eq (ev_sIsRequest _ _) ?_
        | refine callP_eq (ev_sIsRequest ⟨⟨_, _⟩, _⟩ _) ?_
        | refine callP_eq (ev_sActionFor _ _ _ _ (by (first | assumption | exact Fr.rd (by assumption) | exact Rd.ext (by first | assumption | exact Fr.rd (by assumption)) (by (first | assumption | exact Ext.push _ _ | exact Ext.trans (by assumption) (by first | assumption | exact Ext.push _ _) | exact Ext.trans (by assumption) (Ext.trans (by assumption) (by assumption)) | exact Ext.trans (by assumption) (Ext.trans (by assumption) (Ext.trans (by assumption) (by assumption)))))))) ?_
        | refine callP_eq (ev_sActionFor _ ⟨⟨_, _⟩, _⟩ _ _ (by (first | assumption | exact Fr.rd (by assumption) | exact Rd.ext (by first | assumption | exact Fr.rd (by assumption)) (by (first | assumption | exact Ext.push _ _ | exact Ext.trans (by assumption) (by first | assumption | exact Ext.push _ _) | exact Ext.trans (by assumption) (Ext.trans (by assumption) (by assumption)) | exact Ext.trans (by assumption) (Ext.trans (by assumption) (Ext.trans (by assumption) (by assumption)))))))) ?_
        | refine callP_eq (ev_sDecide _ _ _ _ (by (first | assumption | exact Fr.rd (by assumption) | exact Rd.ext (by first | assumption | exact Fr.rd (by assumption)) (by (first | assumption | exact Ext.push _ _ | exact Ext.trans (by assumption) (by first | assumption | exact Ext.push _ _) | exact Ext.trans (by assumption) (Ext.trans (by assumption) (by assumption)) | exact Ext.trans (by assumption) (Ext.trans (by assumption) (Ext.trans (by assumption) (by assumption)))))))) ?_
        | refine callP_eq (ev_sDecide _ ⟨⟨_, _⟩, _⟩ _ _ (by (first | assumption | exact Fr.rd (by assumption) | exact Rd.ext (by first | assumption | exact Fr.rd (by assumption)) (by (first | assumption | exact Ext.push _ _ | exact Ext.trans (by assumption) (by first | assumption | exact Ext.push _ _) | exact Ext.trans (by assumption) (Ext.trans (by assumption) (by assumption)) | exact Ext.trans (by assumption) (Ext.trans (by assumption) (Ext.trans (by assumption) (by assumption)))))))) ?_
        | refine callP_eq (ev_l18Has _ _ _ _ (by (first | assumption | exact Fr.rd (by assumption) | exact Rd.ext (by first | assumption | exact Fr.rd (by assumption)) (by (first | assumption | exact Ext.push _ _ | exact Ext.trans (by assumption) (by first | assumption | exact Ext.push _ _) | exact Ext.trans (by assumption) (Ext.trans (by assumption) (by assumption)) | exact Ext.trans (by assumption) (Ext.trans (by assumption) (Ext.trans (by assumption) (by assumption)))))))) ?_
        | refine callP_eq (ev_l18Has _ ⟨_, _⟩ _ _ (by (first | assumption | exact Fr.rd (by assumption) | exact Rd.ext (by first | assumption | exact Fr.rd (by assumption)) (by (first | assumption | exact Ext.push _ _ | exact Ext.trans (by assumption) (by first | assumption | exact Ext.push _ _) | exact Ext.trans (by assumption) (Ext.trans (by assumption) (by assumption)) | exact Ext.trans (by assumption) (Ext.trans (by assumption) (Ext.trans (by assumption) (by assumption)))))))) ?_
        | (refine rd_lenm (by (first | assumption | exact Fr.rd (by assumption) | exact Rd.ext (by first | assumption | exact Fr.rd (by assumption)) (by (first | assumption | exact Ext.push _ _ | exact Ext.trans (by assumption) (by first | assumption | exact Ext.push _ _) | exact Ext.trans (by assumption) (Ext.trans (by assumption) (by assumption)) | exact Ext.trans (by assumption) (Ext.trans (by assumption) (Ext.trans (by assumption) (by assumption))))))) ?_; intro hml; rw [maxLen_eq] at hml)
        | refine rd_idxm (by (first | assumption | exact Fr.rd (by assumption) | exact Rd.ext (by first | assumption | exact Fr.rd (by assumption)) (by (first | assumption | exact Ext.push _ _ | exact Ext.trans (by assumption) (by first | assumption | exact Ext.push _ _) | exact Ext.trans (by assumption) (Ext.trans (by assumption) (by assumption)) | exact Ext.trans (by assumption) (Ext.trans (by assumption) (Ext.trans (by assumption) (by assumption))))))) (by intro _; rfl) (by constructor <;> omega) ?_
        | refine rd_loadf (by (first | assumption | exact Fr.rd (by assumption) | exact Rd.ext (by first | assumption | exact Fr.rd (by assumption)) (by (first | assumption | exact Ext.push _ _ | exact Ext.trans (by assumption) (by first | assumption | exact Ext.push _ _) | exact Ext.trans (by assumption) (Ext.trans (by assumption) (by assumption)) | exact Ext.trans (by assumption) (Ext.trans (by assumption) (Ext.trans (by assumption) (by assumption))))))) (by intro _; exact trivial) (by constructor <;> omega) ?_
        | refine needP_intro (by first | omega | (constructor <;> omega)) ?_
        | refine And.intro ?_ ?_)
    all_goals try first | rfl | (exfalso; simp_all; done)
    refine loop_intro {p : List GSite × GSite × GSite × Store × C // p.1.length ≤ 6 ∧ Ext S p.2.2.2.1 ∧ Fr S.length p.2.2.2.1 [.sl 2 (p.1.map GSite.d)] [p.2.2.2.2] ∧ followTop l qt p.1 p.2.1 = O ∧ p.2.1 ∉ p.1 ∧ p.1.length < 6 ∧ isRequest ⟨p.2.1, qt⟩ = true} [3, 4, 5, 6, 8, 9, 10, 11, 12, 13, 14, 15, 16, 17, 18, 19, 20, 21, 22, 23, 24, 25, 26, 27, 28, 29, 30, 31, 32, 33, 34, 35, 36, 37, 38, 39, 40, 41, 42, 43, 44, 45, 46, 47, 48, 49, 50, 51, 52, 53, 54, 55, 56, 57, 58] (fun zb => [(3, .box [.int .i64 zb.1.2.1.Owner, .int .i64 zb.1.2.1.Sub, .int .i64 qt]), (4, .box [.int .i64 0, .int .i64 0, .int .i64 0, .nil]), (5, .box [.int .i64 0, .int .i64 zb.1.2.2.1.Owner, .int .i64 zb.1.2.2.1.Sub, zb.1.2.2.2.2])]) (fun zb => zb.1.2.2.2.1) (fun zb => 6 - zb.1.1.length) ⟨([], ⟨qo, qu⟩, ⟨0, 0⟩, _, _), by simp, Ext.refl _, fr_empty (.inl rfl), hO, by simp, by simp, hq⟩ ?_ rfl ?_
    · (conv => whnf); repeat' (first | exact trivial | exact rfl | apply And.intro)
    rintro ⟨⟨path, ⟨co, cu⟩, ps, Si, ci⟩, hl, hE, hF, hT, hm, h6, hrq⟩; dsimp only
    replace hl : path.length ≤ 6 := hl
    replace hE : Ext S Si := hE
    replace hF : Fr S.length Si [.sl 2 (path.map GSite.d)] [ci] := hF
    replace hT : followTop l qt path ⟨co, cu⟩ = O := hT
    replace hm : (⟨co, cu⟩ : GSite) ∉ path := hm
    replace h6 : path.length < 6 := h6
    replace hrq : isRequest ⟨⟨co, cu⟩, qt⟩ = true := hrq
    have hTt := hT
    unfold followTop at hTt
    rw [if_neg hm, if_neg (by omega), show 6 - path.length = (5 - path.length) + 1 by omega, follow] at hTt
    by_cases ha1 : actionFor l ⟨⟨co, cu⟩, qt⟩ = 1
    · rw [if_pos ha1] at hTt
      subst hTt
      repeat' ((conv => whnf) <;> first
          | refine condP_dec (fun _ => ?_) (fun _ => ?_)
          | refine condP_ndec (fun _ => ?_) (fun _ => ?_)
          | refine condP_true rfl ?_
          | refine condP_false rfl ?_
          | refine condP_not (fun _ => ?_) (fun _ => ?_)
          | refine condP_intro (fun _ => ?_) (fun _ => ?_)
          | refine callP_eq (ev_sIsRequest _ _) ?_
          | refine callP_eq (ev_sIsRequest ⟨⟨_, _⟩, _⟩ _) ?_
          | refine callP_eq (ev_sActionFor _ _ _ _ (by (first | assumption | exact Fr.rd (by assumption) | exact Rd.ext (by first | assumption | exact Fr.rd (by assumption)) (by (first | assumption | exact Ext.push _ _ | exact Ext.trans (by assumption) (by first | assumption | exact Ext.push _ _) | exact Ext.trans (by assumption) (Ext.trans (by assumption) (by assumption)) | exact Ext.trans (by assumption) (Ext.trans (by assumption) (Ext.trans (by assumption) (by assumption)))))))) ?_
          | refine callP_eq (ev_sActionFor _ ⟨⟨_, _⟩, _⟩ _ _ (by (first | assumption | exact Fr.rd (by assumption) | exact Rd.ext (by first | assumption | exact Fr.rd (by assumption)) (by (first | assumption | exact Ext.push _ _ | exact Ext.trans (by assumption) (by first | assumption | exact Ext.push _ _) | exact Ext.trans (by assumption) (Ext.trans (by assumption) (by assumption)) | exact Ext.trans (by assumption) (Ext.trans (by assumption) (Ext.trans (by assumption) (by assumption)))))))) ?_
          | refine callP_eq (ev_sDecide _ _ _ _ (by (first | assumption | exact Fr.rd (by assumption) | exact Rd.ext (by first | assumption | exact Fr.rd (by assumption)) (by (first | assumption | exact Ext.push _ _ | exact Ext.trans (by assumption) (by first | assumption | exact Ext.push _ _) | exact Ext.trans (by assumption) (Ext.trans (by assumption) (by assumption)) | exact Ext.trans (by assumption) (Ext.trans (by assumption) (Ext.trans (by assumption) (by assumption)))))))) ?_
          | refine callP_eq (ev_sDecide _ ⟨⟨_, _⟩, _⟩ _ _ (by (first | assumption | exact Fr.rd (by assumption) | exact Rd.ext (by first | assumption | exact Fr.rd (by assumption)) (by (first | assumption | exact Ext.push _ _ | exact Ext.trans (by assumption) (by first | assumption | exact Ext.push _ _) | exact Ext.trans (by assumption) (Ext.trans (by assumption) (by assumption)) | exact Ext.trans (by assumption) (Ext.trans (by assumption) (Ext.trans (by assumption) (by assumption)))))))) ?_
          | refine callP_eq (ev_l18Has _ _ _ _ (by (first | assumption | exact Fr.rd (by assumption) | exact Rd.ext (by first | assumption | exact Fr.rd (by assumption)) (by (first | assumption | exact Ext.push _ _ | exact Ext.trans (by assumption) (by first | assumption | exact Ext.push _ _) | exact Ext.trans (by assumption) (Ext.trans (by assumption) (by assumption)) | exact Ext.trans (by assumption) (Ext.trans (by assumption) (Ext.trans (by assumption) (by assumption)))))))) ?_
          | refine callP_eq (ev_l18Has _ ⟨_, _⟩ _ _ (by (first | assumption | exact Fr.rd (by assumption) | exact Rd.ext (by first | assumption | exact Fr.rd (by assumption)) (by (first | assumption | exact Ext.push _ _ | exact Ext.trans (by assumption) (by first | assumption | exact Ext.push _ _) | exact Ext.trans (by assumption) (Ext.trans (by assumption) (by assumption)) | exact Ext.trans (by assumption) (Ext.trans (by assumption) (Ext.trans (by assumption) (by assumption)))))))) ?_
          | (refine rd_lenm (by (first | assumption | exact Fr.rd (by assumption) | exact Rd.ext (by first | assumption | exact Fr.rd (by assumption)) (by (first | assumption | exact Ext.push _ _ | exact Ext.trans (by assumption) (by first | assumption | exact Ext.push _ _) | exact Ext.trans (by assumption) (Ext.trans (by assumption) (by assumption)) | exact Ext.trans (by assumption) (Ext.trans (by assumption) (Ext.trans (by assumption) (by assumption))))))) ?_; intro hml; rw [maxLen_eq] at hml)
          | refine rd_idxm (by (first | assumption | exact Fr.rd (by assumption) | exact Rd.ext (by first | assumption | exact Fr.rd (by assumption)) (by (first | assumption | exact Ext.push _ _ | exact Ext.trans (by assumption) (by first | assumption | exact Ext.push _ _) | exact Ext.trans (by assumption) (Ext.trans (by assumption) (by assumption)) | exact Ext.trans (by assumption) (Ext.trans (by assumption) (Ext.trans (by assumption) (by assumption))))))) (by intro _; rfl) (by constructor <;> omega) ?_
          | refine rd_loadf (by (first | assumption | exact Fr.rd (by assumption) | exact Rd.ext (by first | assumption | exact Fr.rd (by assumption)) (by (first | assumption | exact Ext.push _ _ | exact Ext.trans (by assumption) (by first | assumption | exact Ext.push _ _) | exact Ext.trans (by assumption) (Ext.trans (by assumption) (by assumption)) | exact Ext.trans (by assumption) (Ext.trans (by assumption) (Ext.trans (by assumption) (by assumption))))))) (by intro _; exact trivial) (by constructor <;> omega) ?_
          | refine needP_intro (by first | omega | (constructor <;> omega)) ?_
          | (refine fr_app1 (f := GSite.d) (x := ⟨co, cu⟩) (by assumption) (by assumption) (by intro _; exact trivial) (by rfl) (by intro _; rfl) (by dsimp only [T35]; omega) (by omega) ?_; intro cN SN hEN hFN)
          | refine And.intro ?_ ?_)
      all_goals first
        | assumption
        | (exfalso; simp_all; done)
        | (exfalso; omega)
        | exact ⟨_, rfl, fr_x (fr_x (fr_x (by assumption)))⟩
    · by_cases ha2 : actionFor l ⟨⟨co, cu⟩, qt⟩ = 2
      · rw [if_neg ha1, if_pos ha2] at hTt
        subst hTt
        repeat' ((conv => whnf) <;> first
            | refine condP_dec (fun _ => ?_) (fun _ => ?_)
            | refine condP_ndec (fun _ => ?_) (fun _ => ?_)
            | refine condP_true rfl ?_
            | refine condP_false rfl ?_
            | refine condP_not (fun _ => ?_) (fun _ => ?_)
            | refine condP_intro (fun _ => ?_) (fun _ => ?_)
            | refine callP_eq (ev_sIsRequest _ _) ?_
            | refine callP_eq (ev_sIsRequest ⟨⟨_, _⟩, _⟩ _) ?_
            | refine callP_eq (ev_sActionFor _ _ _ _ (by (first | assumption | exact Fr.rd (by assumption) | exact Rd.ext (by first | assumption | exact Fr.rd (by assumption)) (by (first | assumption | exact Ext.push _ _ | exact Ext.trans (by assumption) (by first | assumption | exact Ext.push _ _) | exact Ext.trans (by assumption) (Ext.trans (by assumption) (by assumption)) | exact Ext.trans (by assumption) (Ext.trans (by assumption) (Ext.trans (by assumption) (by assumption)))))))) ?_
            | refine callP_eq (ev_sActionFor _ ⟨⟨_, _⟩, _⟩ _ _ (by (first | assumption | exact Fr.rd (by assumption) | exact Rd.ext (by first | assumption | exact Fr.rd (by assumption)) (by (first | assumption | exact Ext.push _ _ | exact Ext.trans (by assumption) (by first | assumption | exact Ext.push _ _) | exact Ext.trans (by assumption) (Ext.trans (by assumption) (by assumption)) | exact Ext.trans (by assumption) (Ext.trans (by assumption) (Ext.trans (by assumption) (by assumption)))))))) ?_
            | refine callP_eq (ev_sDecide _ _ _ _ (by (first | assumption | exact Fr.rd (by assumption) | exact Rd.ext (by first | assumption | exact Fr.rd (by assumption)) (by (first | assumption | exact Ext.push _ _ | exact Ext.trans (by assumption) (by first | assumption | exact Ext.push _ _) | exact Ext.trans (by assumption) (Ext.trans (by assumption) (by assumption)) | exact Ext.trans (by assumption) (Ext.trans (by assumption) (Ext.trans (by assumption) (by assumption)))))))) ?_
            | refine callP_eq (ev_sDecide _ ⟨⟨_, _⟩, _⟩ _ _ (by (first | assumption | exact Fr.rd (by assumption) | exact Rd.ext (by first | assumption | exact Fr.rd (by assumption)) (by (first | assumption | exact Ext.push _ _ | exact Ext.trans (by assumption) (by first | assumption | exact Ext.push _ _) | exact Ext.trans (by assumption) (Ext.trans (by assumption) (by assumption)) | exact Ext.trans (by assumption) (Ext.trans (by assumption) (Ext.trans (by assumption) (by assumption)))))))) ?_
            | refine callP_eq (ev_l18Has _ _ _ _ (by (first | assumption | exact Fr.rd (by assumption) | exact Rd.ext (by first | assumption | exact Fr.rd (by assumption)) (by (first | assumption | exact Ext.push _ _ | exact Ext.trans (by assumption) (by first | assumption | exact Ext.push _ _) | exact Ext.trans (by assumption) (Ext.trans (by assumption) (by assumption)) | exact Ext.trans (by assumption) (Ext.trans (by assumption) (Ext.trans (by assumption) (by assumption)))))))) ?_
            | refine callP_eq (ev_l18Has _ ⟨_, _⟩ _ _ (by (first | assumption | exact Fr.rd (by assumption) | exact Rd.ext (by first | assumption | exact Fr.rd (by assumption)) (by (first | assumption | exact Ext.push _ _ | exact Ext.trans (by assumption) (by first | assumption | exact Ext.push _ _) | exact Ext.trans (by assumption) (Ext.trans (by assumption) (by assumption)) | exact Ext.trans (by assumption) (Ext.trans (by assumption) (Ext.trans (by assumption) (by assumption)))))))) ?_
            | (refine rd_lenm (by (first | assumption | exact Fr.rd (by assumption) | exact Rd.ext (by first | assumption | exact Fr.rd (by assumption)) (by (first | assumption | exact Ext.push _ _ | exact Ext.trans (by assumption) (by first | assumption | exact Ext.push _ _) | exact Ext.trans (by assumption) (Ext.trans (by assumption) (by assumption)) | exact Ext.trans (by assumption) (Ext.trans (by assumption) (Ext.trans (by assumption) (by assumption))))))) ?_; intro hml; rw [maxLen_eq] at hml)
            | refine rd_idxm (by (first | assumption | exact Fr.rd (by assumption) | exact Rd.ext (by first | assumption | exact Fr.rd (by assumption)) (by (first | assumption | exact Ext.push _ _ | exact Ext.trans (by assumption) (by first | assumption | exact Ext.push _ _) | exact Ext.trans (by assumption) (Ext.trans (by assumption) (by assumption)) | exact Ext.trans (by assumption) (Ext.trans (by assumption) (Ext.trans (by assumption) (by assumption))))))) (by intro _; rfl) (by constructor <;> omega) ?_
            | refine rd_loadf (by (first | assumption | exact Fr.rd (by assumption) | exact Rd.ext (by first | assumption | exact Fr.rd (by assumption)) (by (first | assumption | exact Ext.push _ _ | exact Ext.trans (by assumption) (by first | assumption | exact Ext.push _ _) | exact Ext.trans (by assumption) (Ext.trans (by assumption) (by assumption)) | exact Ext.trans (by assumption) (Ext.trans (by assumption) (Ext.trans (by assumption) (by assumption))))))) (by intro _; exact trivial) (by constructor <;> omega) ?_
            | refine needP_intro (by first | omega | (constructor <;> omega)) ?_
            | (refine fr_app1 (f := GSite.d) (x := ⟨co, cu⟩) (by assumption) (by assumption) (by intro _; exact trivial) (by rfl) (by intro _; rfl) (by dsimp only [T35]; omega) (by omega) ?_; intro cN SN hEN hFN)
            | refine And.intro ?_ ?_)
        all_goals first
          | assumption
          | (exfalso; simp_all; done)
          | (exfalso; omega)
          | exact ⟨_, rfl, fr_x (fr_x (fr_x (by assumption)))⟩
      · have hd0 := act_dec ha1
        have hdl := decUp_lt l ⟨⟨co, cu⟩, qt⟩ l.length
        have hdd : decideRule l ⟨⟨co, cu⟩, qt⟩ = decUp l ⟨⟨co, cu⟩, qt⟩ l.length := rfl
        have hgd : l.getD (decideRule l ⟨⟨co, cu⟩, qt⟩).toNat default = l[(decideRule l ⟨⟨co, cu⟩, qt⟩).toNat]'(by omega) := getD_at (by omega)
        have hst := followTop_step l qt path ⟨co, cu⟩ hm (by omega) ha1 ha2
        rw [hT, hgd] at hst
        have hto := to_request hd0 ha1 ha2 hrq
        rw [hgd] at hto
        have hl1 : (path ++ [(⟨co, cu⟩ : GSite)]).length = path.length + 1 := by simp
        by_cases hm2 : (l[(decideRule l ⟨⟨co, cu⟩, qt⟩).toNat]'(by omega)).To ∈ path ++ [(⟨co, cu⟩ : GSite)]
        · have hO2 : (⟨3, (l[(decideRule l ⟨⟨co, cu⟩, qt⟩).toNat]'(by omega)).To, path ++ [(⟨co, cu⟩ : GSite)]⟩ : GOutcome) = O := by rw [hst]; exact (if_pos hm2).symm
          subst hO2
          repeat' ((conv => whnf) <;> first
              | refine condP_dec (fun _ => ?_) (fun _ => ?_)
              | refine condP_ndec (fun _ => ?_) (fun _ => ?_)
              | refine condP_true rfl ?_
              | refine condP_false rfl ?_
              | refine condP_not (fun _ => ?_) (fun _ => ?_)
              | refine condP_intro (fun _ => ?_) (fun _ => ?_)
              | refine callP_eq (ev_sIsRequest _ _) ?_
              | refine callP_eq (ev_sIsRequest ⟨⟨_, _⟩, _⟩ _) ?_
              | refine callP_eq (ev_sActionFor _ _ _ _ (by (first | assumption | exact Fr.rd (by assumption) | exact Rd.ext (by first | assumption | exact Fr.rd (by assumption)) (by (first | assumption | exact Ext.push _ _ | exact Ext.trans (by assumption) (by first | assumption | exact Ext.push _ _) | exact Ext.trans (by assumption) (Ext.trans (by assumption) (by assumption)) | exact Ext.trans (by assumption) (Ext.trans (by assumption) (Ext.trans (by assumption) (by assumption)))))))) ?_
              | refine callP_eq (ev_sActionFor _ ⟨⟨_, _⟩, _⟩ _ _ (by (first | assumption | exact Fr.rd (by assumption) | exact Rd.ext (by first | assumption | exact Fr.rd (by assumption)) (by (first | assumption | exact Ext.push _ _ | exact Ext.trans (by assumption) (by first | assumption | exact Ext.push _ _) | exact Ext.trans (by assumption) (Ext.trans (by assumption) (by assumption)) | exact Ext.trans (by assumption) (Ext.trans (by assumption) (Ext.trans (by assumption) (by assumption)))))))) ?_
              | refine callP_eq (ev_sDecide _ _ _ _ (by (first | assumption | exact Fr.rd (by assumption) | exact Rd.ext (by first | assumption | exact Fr.rd (by assumption)) (by (first | assumption | exact Ext.push _ _ | exact Ext.trans (by assumption) (by first | assumption | exact Ext.push _ _) | exact Ext.trans (by assumption) (Ext.trans (by assumption) (by assumption)) | exact Ext.trans (by assumption) (Ext.trans (by assumption) (Ext.trans (by assumption) (by assumption)))))))) ?_
              | refine callP_eq (ev_sDecide _ ⟨⟨_, _⟩, _⟩ _ _ (by (first | assumption | exact Fr.rd (by assumption) | exact Rd.ext (by first | assumption | exact Fr.rd (by assumption)) (by (first | assumption | exact Ext.push _ _ | exact Ext.trans (by assumption) (by first | assumption | exact Ext.push _ _) | exact Ext.trans (by assumption) (Ext.trans (by assumption) (by assumption)) | exact Ext.trans (by assumption) (Ext.trans (by assumption) (Ext.trans (by assumption) (by assumption)))))))) ?_
              | refine callP_eq (ev_l18Has _ _ _ _ (by (first | assumption | exact Fr.rd (by assumption) | exact Rd.ext (by first | assumption | exact Fr.rd (by assumption)) (by (first | assumption | exact Ext.push _ _ | exact Ext.trans (by assumption) (by first | assumption | exact Ext.push _ _) | exact Ext.trans (by assumption) (Ext.trans (by assumption) (by assumption)) | exact Ext.trans (by assumption) (Ext.trans (by assumption) (Ext.trans (by assumption) (by assumption)))))))) ?_
              | refine callP_eq (ev_l18Has _ ⟨_, _⟩ _ _ (by (first | assumption | exact Fr.rd (by assumption) | exact Rd.ext (by first | assumption | exact Fr.rd (by assumption)) (by (first | assumption | exact Ext.push _ _ | exact Ext.trans (by assumption) (by first | assumption | exact Ext.push _ _) | exact Ext.trans (by assumption) (Ext.trans (by assumption) (by assumption)) | exact Ext.trans (by assumption) (Ext.trans (by assumption) (Ext.trans (by assumption) (by assumption)))))))) ?_
              | (refine rd_lenm (by (first | assumption | exact Fr.rd (by assumption) | exact Rd.ext (by first | assumption | exact Fr.rd (by assumption)) (by (first | assumption | exact Ext.push _ _ | exact Ext.trans (by assumption) (by first | assumption | exact Ext.push _ _) | exact Ext.trans (by assumption) (Ext.trans (by assumption) (by assumption)) | exact Ext.trans (by assumption) (Ext.trans (by assumption) (Ext.trans (by assumption) (by assumption))))))) ?_; intro hml; rw [maxLen_eq] at hml)
              | refine rd_idxm (by (first | assumption | exact Fr.rd (by assumption) | exact Rd.ext (by first | assumption | exact Fr.rd (by assumption)) (by (first | assumption | exact Ext.push _ _ | exact Ext.trans (by assumption) (by first | assumption | exact Ext.push _ _) | exact Ext.trans (by assumption) (Ext.trans (by assumption) (by assumption)) | exact Ext.trans (by assumption) (Ext.trans (by assumption) (Ext.trans (by assumption) (by assumption))))))) (by intro _; rfl) (by constructor <;> omega) ?_
              | refine rd_loadf (by (first | assumption | exact Fr.rd (by assumption) | exact Rd.ext (by first | assumption | exact Fr.rd (by assumption)) (by (first | assumption | exact Ext.push _ _ | exact Ext.trans (by assumption) (by first | assumption | exact Ext.push _ _) | exact Ext.trans (by assumption) (Ext.trans (by assumption) (by assumption)) | exact Ext.trans (by assumption) (Ext.trans (by assumption) (Ext.trans (by assumption) (by assumption))))))) (by intro _; exact trivial) (by constructor <;> omega) ?_
              | refine needP_intro (by first | omega | (constructor <;> omega)) ?_
              | (refine fr_app1 (f := GSite.d) (x := ⟨co, cu⟩) (by assumption) (by assumption) (by intro _; exact trivial) (by rfl) (by intro _; rfl) (by dsimp only [T35]; omega) (by omega) ?_; intro cN SN hEN hFN)
              | refine And.intro ?_ ?_)
          all_goals first
            | rfl
            | assumption
            | (exfalso; simp_all; done)
            | (exfalso; omega)
            | exact ⟨_, rfl, fr_x (fr_x (fr_x (by assumption)))⟩
        · by_cases h62 : path.length + 1 = 6
          · have hO2 : (⟨4, (l[(decideRule l ⟨⟨co, cu⟩, qt⟩).toNat]'(by omega)).To, path ++ [(⟨co, cu⟩ : GSite)]⟩ : GOutcome) = O := by rw [hst]; exact ((if_neg hm2).trans (if_pos (by omega))).symm
            subst hO2
            repeat' ((conv => whnf) <;> first
                | refine condP_dec (fun _ => ?_) (fun _ => ?_)
                | refine condP_ndec (fun _ => ?_) (fun _ => ?_)
                | refine condP_true rfl ?_
                | refine condP_false rfl ?_
                | refine condP_not (fun _ => ?_) (fun _ => ?_)
                | refine condP_intro (fun _ => ?_) (fun _ => ?_)
                | refine callP_eq (ev_sIsRequest _ _) ?_
                | refine callP_eq (ev_sIsRequest ⟨⟨_, _⟩, _⟩ _) ?_
                | refine callP_eq (ev_sActionFor _ _ _ _ (by (first | assumption | exact Fr.rd (by assumption) | exact Rd.ext (by first | assumption | exact Fr.rd (by assumption)) (by (first | assumption | exact Ext.push _ _ | exact Ext.trans (by assumption) (by first | assumption | exact Ext.push _ _) | exact Ext.trans (by assumption) (Ext.trans (by assumption) (by assumption)) | exact Ext.trans (by assumption) (Ext.trans (by assumption) (Ext.trans (by assumption) (by assumption)))))))) ?_
                | refine callP_eq (ev_sActionFor _ ⟨⟨_, _⟩, _⟩ _ _ (by (first | assumption | exact Fr.rd (by assumption) | exact Rd.ext (by first | assumption | exact Fr.rd (by assumption)) (by (first | assumption | exact Ext.push _ _ | exact Ext.trans (by assumption) (by first | assumption | exact Ext.push _ _) | exact Ext.trans (by assumption) (Ext.trans (by assumption) (by assumption)) | exact Ext.trans (by assumption) (Ext.trans (by assumption) (Ext.trans (by assumption) (by assumption)))))))) ?_
                | refine callP_eq (ev_sDecide _ _ _ _ (by (first | assumption | exact Fr.rd (by assumption) | exact Rd.ext (by first | assumption | exact Fr.rd (by assumption)) (by (first | assumption | exact Ext.push _ _ | exact Ext.trans (by assumption) (by first | assumption | exact Ext.push _ _) | exact Ext.trans (by assumption) (Ext.trans (by assumption) (by assumption)) | exact Ext.trans (by assumption) (Ext.trans (by assumption) (Ext.trans (by assumption) (by assumption)))))))) ?_
                | refine callP_eq (ev_sDecide _ ⟨⟨_, _⟩, _⟩ _ _ (by (first | assumption | exact Fr.rd (by assumption) | exact Rd.ext (by first | assumption | exact Fr.rd (by assumption)) (by (first | assumption | exact Ext.push _ _ | exact Ext.trans (by assumption) (by first | assumption | exact Ext.push _ _) | exact Ext.trans (by assumption) (Ext.trans (by assumption) (by assumption)) | exact Ext.trans (by assumption) (Ext.trans (by assumption) (Ext.trans (by assumption) (by assumption)))))))) ?_
                | refine callP_eq (ev_l18Has _ _ _ _ (by (first | assumption | exact Fr.rd (by assumption) | exact Rd.ext (by first | assumption | exact Fr.rd (by assumption)) (by (first | assumption | exact Ext.push _ _ | exact Ext.trans (by assumption) (by first | assumption | exact Ext.push _ _) | exact Ext.trans (by assumption) (Ext.trans (by assumption) (by assumption)) | exact Ext.trans (by assumption) (Ext.trans (by assumption) (Ext.trans (by assumption) (by assumption)))))))) ?_
                | refine callP_eq (ev_l18Has _ ⟨_, _⟩ _ _ (by (first | assumption | exact Fr.rd (by assumption) | exact Rd.ext (by first | assumption | exact Fr.rd (by assumption)) (by (first | assumption | exact Ext.push _ _ | exact Ext.trans (by assumption) (by first | assumption | exact Ext.push _ _) | exact Ext.trans (by assumption) (Ext.trans (by assumption) (by assumption)) | exact Ext.trans (by assumption) (Ext.trans (by assumption) (Ext.trans (by assumption) (by assumption)))))))) ?_
                | (refine rd_lenm (by (first | assumption | exact Fr.rd (by assumption) | exact Rd.ext (by first | assumption | exact Fr.rd (by assumption)) (by (first | assumption | exact Ext.push _ _ | exact Ext.trans (by assumption) (by first | assumption | exact Ext.push _ _) | exact Ext.trans (by assumption) (Ext.trans (by assumption) (by assumption)) | exact Ext.trans (by assumption) (Ext.trans (by assumption) (Ext.trans (by assumption) (by assumption))))))) ?_; intro hml; rw [maxLen_eq] at hml)
                | refine rd_idxm (by (first | assumption | exact Fr.rd (by assumption) | exact Rd.ext (by first | assumption | exact Fr.rd (by assumption)) (by (first | assumption | exact Ext.push _ _ | exact Ext.trans (by assumption) (by first | assumption | exact Ext.push _ _) | exact Ext.trans (by assumption) (Ext.trans (by assumption) (by assumption)) | exact Ext.trans (by assumption) (Ext.trans (by assumption) (Ext.trans (by assumption) (by assumption))))))) (by intro _; rfl) (by constructor <;> omega) ?_
                | refine rd_loadf (by (first | assumption | exact Fr.rd (by assumption) | exact Rd.ext (by first | assumption | exact Fr.rd (by assumption)) (by (first | assumption | exact Ext.push _ _ | exact Ext.trans (by assumption) (by first | assumption | exact Ext.push _ _) | exact Ext.trans (by assumption) (Ext.trans (by assumption) (by assumption)) | exact Ext.trans (by assumption) (Ext.trans (by assumption) (Ext.trans (by assumption) (by assumption))))))) (by intro _; exact trivial) (by constructor <;> omega) ?_
                | refine needP_intro (by first | omega | (constructor <;> omega)) ?_
                | (refine fr_app1 (f := GSite.d) (x := ⟨co, cu⟩) (by assumption) (by assumption) (by intro _; exact trivial) (by rfl) (by intro _; rfl) (by dsimp only [T35]; omega) (by omega) ?_; intro cN SN hEN hFN)
                | refine And.intro ?_ ?_)
            all_goals first
              | rfl
              | assumption
              | (exfalso; simp_all; done)
              | (exfalso; omega)
              | exact ⟨_, rfl, fr_x (fr_x (fr_x (by assumption)))⟩
          · repeat' ((conv => whnf) <;> first
                | refine condP_dec (fun _ => ?_) (fun _ => ?_)
                | refine condP_ndec (fun _ => ?_) (fun _ => ?_)
                | refine condP_true rfl ?_
                | refine condP_false rfl ?_
                | refine condP_not (fun _ => ?_) (fun _ => ?_)
                | refine condP_intro (fun _ => ?_) (fun _ => ?_)
                | refine callP_eq (ev_sIsRequest _ _) ?_
                | refine callP_eq (ev_sIsRequest ⟨⟨_, _⟩, _⟩ _) ?_
                | refine callP_eq (ev_sActionFor _ _ _ _ (by (first | assumption | exact Fr.rd (by assumption) | exact Rd.ext (by first | assumption | exact Fr.rd (by assumption)) (by (first | assumption | exact Ext.push _ _ | exact Ext.trans (by assumption) (by first | assumption | exact Ext.push _ _) | exact Ext.trans (by assumption) (Ext.trans (by assumption) (by assumption)) | exact Ext.trans (by assumption) (Ext.trans (by assumption) (Ext.trans (by assumption) (by assumption)))))))) ?_
                | refine callP_eq (ev_sActionFor _ ⟨⟨_, _⟩, _⟩ _ _ (by (first | assumption | exact Fr.rd (by assumption) | exact Rd.ext (by first | assumption | exact Fr.rd (by assumption)) (by (first | assumption | exact Ext.push _ _ | exact Ext.trans (by assumption) (by first | assumption | exact Ext.push _ _) | exact Ext.trans (by assumption) (Ext.trans (by assumption) (by assumption)) | exact Ext.trans (by assumption) (Ext.trans (by assumption) (Ext.trans (by assumption) (by assumption)))))))) ?_
                | refine callP_eq (ev_sDecide _ _ _ _ (by (first | assumption | exact Fr.rd (by assumption) | exact Rd.ext (by first | assumption | exact Fr.rd (by assumption)) (by (first | assumption | exact Ext.push _ _ | exact Ext.trans (by assumption) (by first | assumption | exact Ext.push _ _) | exact Ext.trans (by assumption) (Ext.trans (by assumption) (by assumption)) | exact Ext.trans (by assumption) (Ext.trans (by assumption) (Ext.trans (by assumption) (by assumption)))))))) ?_
                | refine callP_eq (ev_sDecide _ ⟨⟨_, _⟩, _⟩ _ _ (by (first | assumption | exact Fr.rd (by assumption) | exact Rd.ext (by first | assumption | exact Fr.rd (by assumption)) (by (first | assumption | exact Ext.push _ _ | exact Ext.trans (by assumption) (by first | assumption | exact Ext.push _ _) | exact Ext.trans (by assumption) (Ext.trans (by assumption) (by assumption)) | exact Ext.trans (by assumption) (Ext.trans (by assumption) (Ext.trans (by assumption) (by assumption)))))))) ?_
                | refine callP_eq (ev_l18Has _ _ _ _ (by (first | assumption | exact Fr.rd (by assumption) | exact Rd.ext (by first | assumption | exact Fr.rd (by assumption)) (by (first | assumption | exact Ext.push _ _ | exact Ext.trans (by assumption) (by first | assumption | exact Ext.push _ _) | exact Ext.trans (by assumption) (Ext.trans (by assumption) (by assumption)) | exact Ext.trans (by assumption) (Ext.trans (by assumption) (Ext.trans (by assumption) (by assumption)))))))) ?_
                | refine callP_eq (ev_l18Has _ ⟨_, _⟩ _ _ (by (first | assumption | exact Fr.rd (by assumption) | exact Rd.ext (by first | assumption | exact Fr.rd (by assumption)) (by (first | assumption | exact Ext.push _ _ | exact Ext.trans (by assumption) (by first | assumption | exact Ext.push _ _) | exact Ext.trans (by assumption) (Ext.trans (by assumption) (by assumption)) | exact Ext.trans (by assumption) (Ext.trans (by assumption) (Ext.trans (by assumption) (by assumption)))))))) ?_
                | (refine rd_lenm (by (first | assumption | exact Fr.rd (by assumption) | exact Rd.ext (by first | assumption | exact Fr.rd (by assumption)) (by (first | assumption | exact Ext.push _ _ | exact Ext.trans (by assumption) (by first | assumption | exact Ext.push _ _) | exact Ext.trans (by assumption) (Ext.trans (by assumption) (by assumption)) | exact Ext.trans (by assumption) (Ext.trans (by assumption) (Ext.trans (by assumption) (by assumption))))))) ?_; intro hml; rw [maxLen_eq] at hml)
                | refine rd_idxm (by (first | assumption | exact Fr.rd (by assumption) | exact Rd.ext (by first | assumption | exact Fr.rd (by assumption)) (by (first | assumption | exact Ext.push _ _ | exact Ext.trans (by assumption) (by first | assumption | exact Ext.push _ _) | exact Ext.trans (by assumption) (Ext.trans (by assumption) (by assumption)) | exact Ext.trans (by assumption) (Ext.trans (by assumption) (Ext.trans (by assumption) (by assumption))))))) (by intro _; rfl) (by constructor <;> omega) ?_
                | refine rd_loadf (by (first | assumption | exact Fr.rd (by assumption) | exact Rd.ext (by first | assumption | exact Fr.rd (by assumption)) (by (first | assumption | exact Ext.push _ _ | exact Ext.trans (by assumption) (by first | assumption | exact Ext.push _ _) | exact Ext.trans (by assumption) (Ext.trans (by assumption) (by assumption)) | exact Ext.trans (by assumption) (Ext.trans (by assumption) (Ext.trans (by assumption) (by assumption))))))) (by intro _; exact trivial) (by constructor <;> omega) ?_
                | refine needP_intro (by first | omega | (constructor <;> omega)) ?_
                | (refine fr_app1 (f := GSite.d) (x := ⟨co, cu⟩) (by assumption) (by assumption) (by intro _; exact trivial) (by rfl) (by intro _; rfl) (by dsimp only [T35]; omega) (by omega) ?_; intro cN SN hEN hFN)
                | refine And.intro ?_ ?_)
            all_goals first
              | rfl
              | assumption
              | (exfalso; simp_all; done)
              | (exfalso; omega)
              | (refine ⟨⟨(path ++ [(⟨co, cu⟩ : GSite)], (l[(decideRule l ⟨⟨co, cu⟩, qt⟩).toNat]'(by omega)).To, ⟨co, cu⟩, _, _), by dsimp only; omega, by assumption, by assumption, hst.symm, hm2, by dsimp only; omega, hto⟩, ?_, rfl, by dsimp only; omega⟩
                 (conv => whnf); repeat' (first | exact trivial | exact rfl | apply And.intro))
  · rw [show followRequest l ⟨⟨qo, qu⟩, qt⟩ = default from if_neg hq]
    refine evA_intro tok Tryz.func20 (by kernel_rfl) rfl ?_
    repeat' ((conv => whnf) <;> first
        | refine condP_dec (fun _ => ?_) (fun _ => ?_)
        | refine condP_ndec (fun _ => ?_) (fun _ => ?_)
        | refine condP_true rfl ?_
        | refine condP_false rfl ?_
        | refine condP_not (fun _ => ?_) (fun _ => ?_)
        | refine condP_intro (fun _ => ?_) (fun _ => ?_)
        | refine callP_eq (ev_sIsRequest _ _) ?_
        | refine callP_eq (ev_sIsRequest ⟨⟨_, _⟩, _⟩ _) ?_
        | refine callP_eq (ev_sActionFor _ _ _ _ (by (first | assumption | exact Fr.rd (by assumption) | exact Rd.ext (by first | assumption | exact Fr.rd (by assumption)) (by (first | assumption | exact Ext.push _ _ | exact Ext.trans (by assumption) (by first | assumption | exact Ext.push _ _) | exact Ext.trans (by assumption) (Ext.trans (by assumption) (by assumption)) | exact Ext.trans (by assumption) (Ext.trans (by assumption) (Ext.trans (by assumption) (by assumption)))))))) ?_
        | refine callP_eq (ev_sActionFor _ ⟨⟨_, _⟩, _⟩ _ _ (by (first | assumption | exact Fr.rd (by assumption) | exact Rd.ext (by first | assumption | exact Fr.rd (by assumption)) (by (first | assumption | exact Ext.push _ _ | exact Ext.trans (by assumption) (by first | assumption | exact Ext.push _ _) | exact Ext.trans (by assumption) (Ext.trans (by assumption) (by assumption)) | exact Ext.trans (by assumption) (Ext.trans (by assumption) (Ext.trans (by assumption) (by assumption)))))))) ?_
        | refine callP_eq (ev_sDecide _ _ _ _ (by (first | assumption | exact Fr.rd (by assumption) | exact Rd.ext (by first | assumption | exact Fr.rd (by assumption)) (by (first | assumption | exact Ext.push _ _ | exact Ext.trans (by assumption) (by first | assumption | exact Ext.push _ _) | exact Ext.trans (by assumption) (Ext.trans (by assumption) (by assumption)) | exact Ext.trans (by assumption) (Ext.trans (by assumption) (Ext.trans (by assumption) (by assumption)))))))) ?_
        | refine callP_eq (ev_sDecide _ ⟨⟨_, _⟩, _⟩ _ _ (by (first | assumption | exact Fr.rd (by assumption) | exact Rd.ext (by first | assumption | exact Fr.rd (by assumption)) (by (first | assumption | exact Ext.push _ _ | exact Ext.trans (by assumption) (by first | assumption | exact Ext.push _ _) | exact Ext.trans (by assumption) (Ext.trans (by assumption) (by assumption)) | exact Ext.trans (by assumption) (Ext.trans (by assumption) (Ext.trans (by assumption) (by assumption)))))))) ?_
        | refine callP_eq (ev_l18Has _ _ _ _ (by (first | assumption | exact Fr.rd (by assumption) | exact Rd.ext (by first | assumption | exact Fr.rd (by assumption)) (by (first | assumption | exact Ext.push _ _ | exact Ext.trans (by assumption) (by first | assumption | exact Ext.push _ _) | exact Ext.trans (by assumption) (Ext.trans (by assumption) (by assumption)) | exact Ext.trans (by assumption) (Ext.trans (by assumption) (Ext.trans (by assumption) (by assumption)))))))) ?_
        | refine callP_eq (ev_l18Has _ ⟨_, _⟩ _ _ (by (first | assumption | exact Fr.rd (by assumption) | exact Rd.ext (by first | assumption | exact Fr.rd (by assumption)) (by (first | assumption | exact Ext.push _ _ | exact Ext.trans (by assumption) (by first | assumption | exact Ext.push _ _) | exact Ext.trans (by assumption) (Ext.trans (by assumption) (by assumption)) | exact Ext.trans (by assumption) (Ext.trans (by assumption) (Ext.trans (by assumption) (by assumption)))))))) ?_
        | (refine rd_lenm (by (first | assumption | exact Fr.rd (by assumption) | exact Rd.ext (by first | assumption | exact Fr.rd (by assumption)) (by (first | assumption | exact Ext.push _ _ | exact Ext.trans (by assumption) (by first | assumption | exact Ext.push _ _) | exact Ext.trans (by assumption) (Ext.trans (by assumption) (by assumption)) | exact Ext.trans (by assumption) (Ext.trans (by assumption) (Ext.trans (by assumption) (by assumption))))))) ?_; intro hml; rw [maxLen_eq] at hml)
        | refine rd_idxm (by (first | assumption | exact Fr.rd (by assumption) | exact Rd.ext (by first | assumption | exact Fr.rd (by assumption)) (by (first | assumption | exact Ext.push _ _ | exact Ext.trans (by assumption) (by first | assumption | exact Ext.push _ _) | exact Ext.trans (by assumption) (Ext.trans (by assumption) (by assumption)) | exact Ext.trans (by assumption) (Ext.trans (by assumption) (Ext.trans (by assumption) (by assumption))))))) (by intro _; rfl) (by constructor <;> omega) ?_
        | refine rd_loadf (by (first | assumption | exact Fr.rd (by assumption) | exact Rd.ext (by first | assumption | exact Fr.rd (by assumption)) (by (first | assumption | exact Ext.push _ _ | exact Ext.trans (by assumption) (by first | assumption | exact Ext.push _ _) | exact Ext.trans (by assumption) (Ext.trans (by assumption) (by assumption)) | exact Ext.trans (by assumption) (Ext.trans (by assumption) (Ext.trans (by assumption) (by assumption))))))) (by intro _; exact trivial) (by constructor <;> omega) ?_
        | refine needP_intro (by first | omega | (constructor <;> omega)) ?_
        | refine And.intro ?_ ?_)
    refine loop_intro {p : Unit // True} [3, 4, 5, 6, 8, 9, 10, 11, 12, 13, 14, 15, 16, 17, 18, 19, 20, 21, 22, 23, 24, 25, 26, 27, 28, 29, 30, 31, 32, 33, 34, 35, 36, 37, 38, 39, 40, 41, 42, 43, 44, 45, 46, 47, 48, 49, 50, 51, 52, 53, 54, 55, 56, 57, 58] (fun zb => [(3, .box [.int .i64 qo, .int .i64 qu, .int .i64 qt]), (4, .box [.int .i64 0, .int .i64 0, .int .i64 0, .nil]), (5, .box [.int .i64 0, .int .i64 0, .int .i64 0, .nil])]) (fun zb => S) (fun zb => 0) ⟨(), trivial⟩ ?_ rfl ?_
    · (conv => whnf); repeat' (first | exact trivial | exact rfl | apply And.intro)
    rintro ⟨_, _⟩; dsimp only
    repeat' ((conv => whnf) <;> first
        | refine condP_dec (fun _ => ?_) (fun _ => ?_)
        | refine condP_ndec (fun _ => ?_) (fun _ => ?_)
        | refine condP_true rfl ?_
        | refine condP_false rfl ?_
        | refine condP_not (fun _ => ?_) (fun _ => ?_)
        | refine condP_intro (fun _ => ?_) (fun _ => ?_)
        | refine callP_eq (ev_sIsRequest _ _) ?_
        | refine callP_eq (ev_sIsRequest ⟨⟨_, _⟩, _⟩ _) ?_
        | refine callP_eq (ev_sActionFor _ _ _ _ (by (first | assumption | exact Fr.rd (by assumption) | exact Rd.ext (by first | assumption | exact Fr.rd (by assumption)) (by (first | assumption | exact Ext.push _ _ | exact Ext.trans (by assumption) (by first | assumption | exact Ext.push _ _) | exact Ext.trans (by assumption) (Ext.trans (by assumption) (by assumption)) | exact Ext.trans (by assumption) (Ext.trans (by assumption) (Ext.trans (by assumption) (by assumption)))))))) ?_
        | refine callP_eq (ev_sActionFor _ ⟨⟨_, _⟩, _⟩ _ _ (by (first | assumption | exact Fr.rd (by assumption) | exact Rd.ext (by first | assumption | exact Fr.rd (by assumption)) (by (first | assumption | exact Ext.push _ _ | exact Ext.trans (by assumption) (by first | assumption | exact Ext.push _ _) | exact Ext.trans (by assumption) (Ext.trans (by assumption) (by assumption)) | exact Ext.trans (by assumption) (Ext.trans (by assumption) (Ext.trans (by assumption) (by assumption)))))))) ?_
        | refine callP_eq (ev_sDecide _ _ _ _ (by (first | assumption | exact Fr.rd (by assumption) | exact Rd.ext (by first | assumption | exact Fr.rd (by assumption)) (by (first | assumption | exact Ext.push _ _ | exact Ext.trans (by assumption) (by first | assumption | exact Ext.push _ _) | exact Ext.trans (by assumption) (Ext.trans (by assumption) (by assumption)) | exact Ext.trans (by assumption) (Ext.trans (by assumption) (Ext.trans (by assumption) (by assumption)))))))) ?_
        | refine callP_eq (ev_sDecide _ ⟨⟨_, _⟩, _⟩ _ _ (by (first | assumption | exact Fr.rd (by assumption) | exact Rd.ext (by first | assumption | exact Fr.rd (by assumption)) (by (first | assumption | exact Ext.push _ _ | exact Ext.trans (by assumption) (by first | assumption | exact Ext.push _ _) | exact Ext.trans (by assumption) (Ext.trans (by assumption) (by assumption)) | exact Ext.trans (by assumption) (Ext.trans (by assumption) (Ext.trans (by assumption) (by assumption)))))))) ?_
        | refine callP_eq (ev_l18Has _ _ _ _ (by (first | assumption | exact Fr.rd (by assumption) | exact Rd.ext (by first | assumption | exact Fr.rd (by assumption)) (by (first | assumption | exact Ext.push _ _ | exact Ext.trans (by assumption) (by first | assumption | exact Ext.push _ _) | exact Ext.trans (by assumption) (Ext.trans (by assumption) (by assumption)) | exact Ext.trans (by assumption) (Ext.trans (by assumption) (Ext.trans (by assumption) (by assumption)))))))) ?_
        | refine callP_eq (ev_l18Has _ ⟨_, _⟩ _ _ (by (first | assumption | exact Fr.rd (by assumption) | exact Rd.ext (by first | assumption | exact Fr.rd (by assumption)) (by (first | assumption | exact Ext.push _ _ | exact Ext.trans (by assumption) (by first | assumption | exact Ext.push _ _) | exact Ext.trans (by assumption) (Ext.trans (by assumption) (by assumption)) | exact Ext.trans (by assumption) (Ext.trans (by assumption) (Ext.trans (by assumption) (by assumption)))))))) ?_
        | (refine rd_lenm (by (first | assumption | exact Fr.rd (by assumption) | exact Rd.ext (by first | assumption | exact Fr.rd (by assumption)) (by (first | assumption | exact Ext.push _ _ | exact Ext.trans (by assumption) (by first | assumption | exact Ext.push _ _) | exact Ext.trans (by assumption) (Ext.trans (by assumption) (by assumption)) | exact Ext.trans (by assumption) (Ext.trans (by assumption) (Ext.trans (by assumption) (by assumption))))))) ?_; intro hml; rw [maxLen_eq] at hml)
        | refine rd_idxm (by (first | assumption | exact Fr.rd (by assumption) | exact Rd.ext (by first | assumption | exact Fr.rd (by assumption)) (by (first | assumption | exact Ext.push _ _ | exact Ext.trans (by assumption) (by first | assumption | exact Ext.push _ _) | exact Ext.trans (by assumption) (Ext.trans (by assumption) (by assumption)) | exact Ext.trans (by assumption) (Ext.trans (by assumption) (Ext.trans (by assumption) (by assumption))))))) (by intro _; rfl) (by constructor <;> omega) ?_
        | refine rd_loadf (by (first | assumption | exact Fr.rd (by assumption) | exact Rd.ext (by first | assumption | exact Fr.rd (by assumption)) (by (first | assumption | exact Ext.push _ _ | exact Ext.trans (by assumption) (by first | assumption | exact Ext.push _ _) | exact Ext.trans (by assumption) (Ext.trans (by assumption) (by assumption)) | exact Ext.trans (by assumption) (Ext.trans (by assumption) (Ext.trans (by assumption) (by assumption))))))) (by intro _; exact trivial) (by constructor <;> omega) ?_
        | refine needP_intro (by first | omega | (constructor <;> omega)) ?_
        | refine And.intro ?_ ?_)
    all_goals first
      | exact Ext.refl _
      | (exfalso; simp_all; done)
      | exact ⟨_, rfl, fr_out0⟩
theorem follow_len (l : List GRule) (sort : Int) : ∀ (n : Nat) (path : List GSite) (cur : GSite), (follow l sort n path cur).Path.length ≤ path.length + n
  | 0, path, cur => by unfold follow; simp [default, instInhabitedGOutcome.default]
  | n + 1, path, cur => by
    have ih := follow_len l sort n (path ++ [cur]) (l.getD (decideRule l ⟨cur, sort⟩).toNat default).To
    rw [follow]
    split
    · simp <;> omega
    · split
      · simp <;> omega
      · split
        · simp <;> omega
        · split
          · simp <;> omega
          · simp at ih ⊢; omega
theorem followReq_len (l : List GRule) (q : GRequest) : (followRequest l q).Path.length ≤ 6 := by
  unfold followRequest followTop
  split
  · rw [if_neg (by simp), if_neg (by simp)]
    have := follow_len l q.Sort' 6 [] q.Site
    simpa using this
  · simp [default, instInhabitedGOutcome.default]
def askPage (b : GBrowser) (q : GRequest) : GOutcome := followRequest (rulesInForce b q.Site) q
theorem ask_len (b : GBrowser) (q : GRequest) : szL (askPage b q).d ≤ 6 := by
  have := followReq_len (rulesInForce b q.Site) q
  simp only [GOutcome.d, szL, List.length_map]
  rw [szLL_flat (f := GSite.d) (by intro x; simp only [szL, GSite.d])]
  unfold askPage; omega
theorem ev_sAskPage (b : GBrowser) (q : GRequest) (cs : List C) (S : Store) (h : Rd S b.d cs) (hz : szL b.d ≤ 1048576) : EvA Tryz.prog 5 [.agg cs, .agg q.c] S (fun r S' => Ext S S' ∧ ∃ c', r = .v (.agg [.int .i64 (askPage b q).Code, .int .i64 (askPage b q).Site.Owner, .int .i64 (askPage b q).Site.Sub, c']) ∧ Fr S.length S' (askPage b q).d [.int .i64 (askPage b q).Code, .int .i64 (askPage b q).Site.Owner, .int .i64 (askPage b q).Site.Sub, c']) := by
  obtain ⟨_, _, _, _, _, _, rfl, _, _, _, _, _, _⟩ := GBrowser.inv h
  refine evA_intro tok Tryz.func5 (by kernel_rfl) rfl ?_
  repeat' ((conv => whnf) <;> first
      | refine needP_intro (by first | omega | (constructor <;> omega)) ?_
      | refine draw_intro 5 [.fl 0, .fl 1, .fl 2, .fl 4, .st 3 [4], .st 5 [], .st 6 []] (by rfl) (by kernel_rfl) ?_
      | refine And.intro ?_ ?_)
  (conv => whnf)
  refine callP_intro (ev_sRulesInForce b q.Site _ _ (by (first | assumption | exact Fr.rd (by assumption) | exact Rd.ext (by first | assumption | exact Fr.rd (by assumption)) (by (first | assumption | exact Ext.push _ _ | exact Ext.trans (by assumption) (by first | assumption | exact Ext.push _ _) | exact Ext.trans (by assumption) (Ext.trans (by assumption) (by assumption)) | exact Ext.trans (by assumption) (Ext.trans (by assumption) (Ext.trans (by assumption) (by assumption))))) | exact GPackage.rd (by (first | assumption | exact Fr.rd (by assumption) | exact Rd.ext (by first | assumption | exact Fr.rd (by assumption)) (by (first | assumption | exact Ext.push _ _ | exact Ext.trans (by assumption) (by first | assumption | exact Ext.push _ _) | exact Ext.trans (by assumption) (Ext.trans (by assumption) (by assumption)) | exact Ext.trans (by assumption) (Ext.trans (by assumption) (Ext.trans (by assumption) (by assumption))))))) (by (first | assumption | exact Fr.rd (by assumption) | exact Rd.ext (by first | assumption | exact Fr.rd (by assumption)) (by (first | assumption | exact Ext.push _ _ | exact Ext.trans (by assumption) (by first | assumption | exact Ext.push _ _) | exact Ext.trans (by assumption) (Ext.trans (by assumption) (by assumption)) | exact Ext.trans (by assumption) (Ext.trans (by assumption) (Ext.trans (by assumption) (by assumption))))))) (by (first | assumption | exact Fr.rd (by assumption) | exact Rd.ext (by first | assumption | exact Fr.rd (by assumption)) (by (first | assumption | exact Ext.push _ _ | exact Ext.trans (by assumption) (by first | assumption | exact Ext.push _ _) | exact Ext.trans (by assumption) (Ext.trans (by assumption) (by assumption)) | exact Ext.trans (by assumption) (Ext.trans (by assumption) (Ext.trans (by assumption) (by assumption))))))) (by (first | assumption | exact Fr.rd (by assumption) | exact Rd.ext (by first | assumption | exact Fr.rd (by assumption)) (by (first | assumption | exact Ext.push _ _ | exact Ext.trans (by assumption) (by first | assumption | exact Ext.push _ _) | exact Ext.trans (by assumption) (Ext.trans (by assumption) (by assumption)) | exact Ext.trans (by assumption) (Ext.trans (by assumption) (Ext.trans (by assumption) (by assumption))))))) | exact GTab.rd (by (first | assumption | exact Fr.rd (by assumption) | exact Rd.ext (by first | assumption | exact Fr.rd (by assumption)) (by (first | assumption | exact Ext.push _ _ | exact Ext.trans (by assumption) (by first | assumption | exact Ext.push _ _) | exact Ext.trans (by assumption) (Ext.trans (by assumption) (by assumption)) | exact Ext.trans (by assumption) (Ext.trans (by assumption) (Ext.trans (by assumption) (by assumption))))))) (by (first | assumption | exact Fr.rd (by assumption) | exact Rd.ext (by first | assumption | exact Fr.rd (by assumption)) (by (first | assumption | exact Ext.push _ _ | exact Ext.trans (by assumption) (by first | assumption | exact Ext.push _ _) | exact Ext.trans (by assumption) (Ext.trans (by assumption) (by assumption)) | exact Ext.trans (by assumption) (Ext.trans (by assumption) (Ext.trans (by assumption) (by assumption))))))) (by (first | assumption | exact Fr.rd (by assumption) | exact Rd.ext (by first | assumption | exact Fr.rd (by assumption)) (by (first | assumption | exact Ext.push _ _ | exact Ext.trans (by assumption) (by first | assumption | exact Ext.push _ _) | exact Ext.trans (by assumption) (Ext.trans (by assumption) (by assumption)) | exact Ext.trans (by assumption) (Ext.trans (by assumption) (Ext.trans (by assumption) (by assumption))))))) | exact GOutcome.rd (by (first | assumption | exact Fr.rd (by assumption) | exact Rd.ext (by first | assumption | exact Fr.rd (by assumption)) (by (first | assumption | exact Ext.push _ _ | exact Ext.trans (by assumption) (by first | assumption | exact Ext.push _ _) | exact Ext.trans (by assumption) (Ext.trans (by assumption) (by assumption)) | exact Ext.trans (by assumption) (Ext.trans (by assumption) (Ext.trans (by assumption) (by assumption))))))))) hz) ?_; rintro _ S0 ⟨e0, c0, rfl, f0⟩
  repeat' ((conv => whnf) <;> first
      | refine needP_intro (by first | omega | (constructor <;> omega)) ?_
      | refine draw_intro 5 [.fl 0, .fl 1, .fl 2, .fl 4, .st 3 [4], .st 5 [], .st 6 []] (by rfl) (by kernel_rfl) ?_
      | refine And.intro ?_ ?_)
  all_goals try exact rfl
  (conv => whnf)
  refine callP_intro (ev_sFollow (rulesInForce b q.Site) q _ _ f0.rd) ?_; rintro _ S1 ⟨e1, c1, rfl, f1⟩
  repeat' ((conv => whnf) <;> first
      | refine needP_intro (by first | omega | (constructor <;> omega)) ?_
      | refine draw_intro 5 [.fl 0, .fl 1, .fl 2, .fl 4, .st 3 [4], .st 5 [], .st 6 []] (by rfl) (by kernel_rfl) ?_
      | refine And.intro ?_ ?_)
  all_goals first
    | rfl
    | exact e0.trans e1
    | exact ⟨_, rfl, f1.mono e0.len⟩
theorem ev_iAskPage (b : GBrowser) (q : GRequest) (cs : List C) (S : Store) (h : Rd S b.d cs) (hz : szL b.d ≤ 1048576) : EvA Tryz.prog 8 [.agg cs, .agg q.c] S (fun r S' => Ext S S' ∧ ∃ c', r = .v (.agg [.int .i64 (askPage b q).Code, .int .i64 (askPage b q).Site.Owner, .int .i64 (askPage b q).Site.Sub, c']) ∧ Fr S.length S' (askPage b q).d [.int .i64 (askPage b q).Code, .int .i64 (askPage b q).Site.Owner, .int .i64 (askPage b q).Site.Sub, c']) := by
  obtain ⟨_, _, _, _, _, _, rfl, _, _, _, _, _, _⟩ := GBrowser.inv h
  refine evA_intro tok Tryz.func8 (by kernel_rfl) rfl ?_
  repeat' ((conv => whnf) <;> first
      | refine needP_intro (by first | omega | (constructor <;> omega)) ?_
      | refine draw_intro 5 [.fl 0, .fl 1, .fl 2, .fl 4, .st 3 [4], .st 5 [], .st 6 []] (by rfl) (by kernel_rfl) ?_
      | refine And.intro ?_ ?_)
  (conv => whnf)
  refine callP_intro (ev_iRulesInForce b q.Site _ _ (by (first | assumption | exact Fr.rd (by assumption) | exact Rd.ext (by first | assumption | exact Fr.rd (by assumption)) (by (first | assumption | exact Ext.push _ _ | exact Ext.trans (by assumption) (by first | assumption | exact Ext.push _ _) | exact Ext.trans (by assumption) (Ext.trans (by assumption) (by assumption)) | exact Ext.trans (by assumption) (Ext.trans (by assumption) (Ext.trans (by assumption) (by assumption))))) | exact GPackage.rd (by (first | assumption | exact Fr.rd (by assumption) | exact Rd.ext (by first | assumption | exact Fr.rd (by assumption)) (by (first | assumption | exact Ext.push _ _ | exact Ext.trans (by assumption) (by first | assumption | exact Ext.push _ _) | exact Ext.trans (by assumption) (Ext.trans (by assumption) (by assumption)) | exact Ext.trans (by assumption) (Ext.trans (by assumption) (Ext.trans (by assumption) (by assumption))))))) (by (first | assumption | exact Fr.rd (by assumption) | exact Rd.ext (by first | assumption | exact Fr.rd (by assumption)) (by (first | assumption | exact Ext.push _ _ | exact Ext.trans (by assumption) (by first | assumption | exact Ext.push _ _) | exact Ext.trans (by assumption) (Ext.trans (by assumption) (by assumption)) | exact Ext.trans (by assumption) (Ext.trans (by assumption) (Ext.trans (by assumption) (by assumption))))))) (by (first | assumption | exact Fr.rd (by assumption) | exact Rd.ext (by first | assumption | exact Fr.rd (by assumption)) (by (first | assumption | exact Ext.push _ _ | exact Ext.trans (by assumption) (by first | assumption | exact Ext.push _ _) | exact Ext.trans (by assumption) (Ext.trans (by assumption) (by assumption)) | exact Ext.trans (by assumption) (Ext.trans (by assumption) (Ext.trans (by assumption) (by assumption))))))) (by (first | assumption | exact Fr.rd (by assumption) | exact Rd.ext (by first | assumption | exact Fr.rd (by assumption)) (by (first | assumption | exact Ext.push _ _ | exact Ext.trans (by assumption) (by first | assumption | exact Ext.push _ _) | exact Ext.trans (by assumption) (Ext.trans (by assumption) (by assumption)) | exact Ext.trans (by assumption) (Ext.trans (by assumption) (Ext.trans (by assumption) (by assumption))))))) | exact GTab.rd (by (first | assumption | exact Fr.rd (by assumption) | exact Rd.ext (by first | assumption | exact Fr.rd (by assumption)) (by (first | assumption | exact Ext.push _ _ | exact Ext.trans (by assumption) (by first | assumption | exact Ext.push _ _) | exact Ext.trans (by assumption) (Ext.trans (by assumption) (by assumption)) | exact Ext.trans (by assumption) (Ext.trans (by assumption) (Ext.trans (by assumption) (by assumption))))))) (by (first | assumption | exact Fr.rd (by assumption) | exact Rd.ext (by first | assumption | exact Fr.rd (by assumption)) (by (first | assumption | exact Ext.push _ _ | exact Ext.trans (by assumption) (by first | assumption | exact Ext.push _ _) | exact Ext.trans (by assumption) (Ext.trans (by assumption) (by assumption)) | exact Ext.trans (by assumption) (Ext.trans (by assumption) (Ext.trans (by assumption) (by assumption))))))) (by (first | assumption | exact Fr.rd (by assumption) | exact Rd.ext (by first | assumption | exact Fr.rd (by assumption)) (by (first | assumption | exact Ext.push _ _ | exact Ext.trans (by assumption) (by first | assumption | exact Ext.push _ _) | exact Ext.trans (by assumption) (Ext.trans (by assumption) (by assumption)) | exact Ext.trans (by assumption) (Ext.trans (by assumption) (Ext.trans (by assumption) (by assumption))))))) | exact GOutcome.rd (by (first | assumption | exact Fr.rd (by assumption) | exact Rd.ext (by first | assumption | exact Fr.rd (by assumption)) (by (first | assumption | exact Ext.push _ _ | exact Ext.trans (by assumption) (by first | assumption | exact Ext.push _ _) | exact Ext.trans (by assumption) (Ext.trans (by assumption) (by assumption)) | exact Ext.trans (by assumption) (Ext.trans (by assumption) (Ext.trans (by assumption) (by assumption))))))))) hz) ?_; rintro _ S0 ⟨e0, c0, rfl, f0⟩
  repeat' ((conv => whnf) <;> first
      | refine needP_intro (by first | omega | (constructor <;> omega)) ?_
      | refine draw_intro 5 [.fl 0, .fl 1, .fl 2, .fl 4, .st 3 [4], .st 5 [], .st 6 []] (by rfl) (by kernel_rfl) ?_
      | refine And.intro ?_ ?_)
  all_goals try exact rfl
  (conv => whnf)
  refine callP_intro (ev_iFollow (rulesInForce b q.Site) q _ _ f0.rd) ?_; rintro _ S1 ⟨e1, c1, rfl, f1⟩
  repeat' ((conv => whnf) <;> first
      | refine needP_intro (by first | omega | (constructor <;> omega)) ?_
      | refine draw_intro 5 [.fl 0, .fl 1, .fl 2, .fl 4, .st 3 [4], .st 5 [], .st 6 []] (by rfl) (by kernel_rfl) ?_
      | refine And.intro ?_ ?_)
  all_goals first
    | rfl
    | exact e0.trans e1
    | exact ⟨_, rfl, f1.mono e0.len⟩
end Go.Proofs.YtlodldendggbhaaGreat
