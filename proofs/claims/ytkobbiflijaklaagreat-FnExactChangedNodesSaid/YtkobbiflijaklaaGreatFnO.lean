/- Rules and requests; comparisons. -/
import Derived.Test.YtkobbiflijaklaaGreatFnE
namespace Go.Proofs.YtkobbiflijaklaaGreat
open Go Go.ChangeShapes Go.WideShapes Go.ChangeAt Go.RowKit
set_option linter.unusedVariables false
set_option maxRecDepth 100000

def isRequest (q : GRequest) : Bool := isSite q.Site && inR q.Sort' 1 4
def isRule (ru : GRule) : Bool := inR ru.Ext 1 5 && inR ru.Prio 1 9 && isPattern ru.Pattern && inR ru.Sort' 0 4 && ((decide (ru.Action = 3) && isSite ru.To) || ((decide (ru.Action = 1) || decide (ru.Action = 2)) && decide (ru.To.Owner = 0) && decide (ru.To.Sub = 0)))
def applies (ru : GRule) (q : GRequest) : Bool := isRule ru && isRequest q && matchSite ru.Pattern q.Site && (decide (ru.Sort' = 0) || decide (ru.Sort' = q.Sort'))
def cmpI (x y : Int) : Int := if x < y then -1 else if y < x then 1 else 0
theorem ev_isNaN (x : Int) (S : Store) : EvA Tryz.prog 197 [.s (.int .i64 x)] S (fun r S' => r = .v (.s (.bool false)) ∧ S' = S) := by
  refine evA_intro tok Tryz.func197 (by kernel_rfl) rfl ?_
  repeat' ((conv => whnf) <;> first
   | refine needP_intro (by first | omega | (constructor <;> omega) | fail) ?_ | refine And.intro ?_ ?_)
  all_goals first | rfl | (simp_all [resAV]; done)
def orGo : List Int → Int
  | [] => 0
  | x :: r => if x = 0 then orGo r else x
theorem rd_litI {S : Store} (l : List Int) (h : l.length ≤ 9223372036854775807) : Rd (S ++ [⟨true, 1, l.map fun n => [.int .i64 n]⟩]) [.sl 1 (l.map dInt)] [.sl S.length 0 l.length l.length] :=
  Fr.rd (lo := S.length) (fr_push (xs := l.map dInt) (js := []) (rep2_flat (f := dInt) (fun _ => trivial) l) List.nodup_nil (fun _ h => by cases h) (Nat.le_refl _) (by rw [maxLen_eq]; simpa using h) (by simp))
end Go.Proofs.YtkobbiflijaklaaGreat
