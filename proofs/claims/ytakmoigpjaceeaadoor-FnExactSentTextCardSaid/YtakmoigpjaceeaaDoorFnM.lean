/- Sites and outcomes as text. -/
import Derived.Test.YtakmoigpjaceeaaDoorFnL
import Derived.Test.YtakmoigpjaceeaaDoorFnB
namespace Go.Proofs.YtakmoigpjaceeaaDoor
open Go Go.ChangeShapes Go.WideShapes Go.ChangeAt Go.RowKit
set_option linter.unusedVariables false
set_option maxRecDepth 100000

theorem catS_size (a b : ByteArray) : (catS a b).size = a.size + b.size := by unfold catS; exact ByteArray.size_append
theorem bslash : (ByteArray.mk #[47]).size = 1 := rfl
theorem bspace : (ByteArray.mk #[32]).size = 1 := rfl
theorem catS_assoc (a b c : ByteArray) : catS (catS a b) c = catS a (catS b c) := by
  apply ba_ext; simp only [catS_list, List.append_assoc]
def siteS (s : GSite) : ByteArray := if isSite s then catS (catS (numS s.Owner) ⟨#[47]⟩) (numS s.Sub) else ⟨#[]⟩
theorem siteS_size (s : GSite) : (siteS s).size ≤ 43 := by
  unfold siteS
  split
  · rename_i h
    simp only [isSite, inR, Bool.and_eq_true, decide_eq_true_eq] at h
    have h1 := numS_size (n := s.Owner) (by omega)
    have h2 := numS_size (n := s.Sub) (by omega)
    rw [catS_size, catS_size, bslash]; omega
  · exact Nat.zero_le _
def nameO (c : Int) : ByteArray :=
  if c = 1 then ⟨#[100, 111, 110, 101]⟩ else if c = 2 then ⟨#[98, 108, 111, 99, 107, 101, 100]⟩ else if c = 3 then ⟨#[108, 111, 111, 112]⟩ else if c = 4 then ⟨#[108, 111, 110, 103]⟩ else ⟨#[]⟩
theorem rd_litS {S : Store} (l : List ByteArray) (h : l.length ≤ 9223372036854775807) : Rd (S ++ [⟨true, 1, l.map fun n => [.str n]⟩]) [.sl 1 (l.map dStr)] [.sl S.length 0 l.length l.length] :=
  Fr.rd (lo := S.length) (fr_push (xs := l.map dStr) (js := []) (rep2_flat (f := dStr) (fun _ => trivial) l) List.nodup_nil (fun _ h => by cases h) (Nat.le_refl _) (by rw [maxLen_eq]; simpa using h) (by simp))
abbrev names5 : List ByteArray := [⟨#[]⟩, ⟨#[100, 111, 110, 101]⟩, ⟨#[98, 108, 111, 99, 107, 101, 100]⟩, ⟨#[108, 111, 111, 112]⟩, ⟨#[108, 111, 110, 103]⟩]
theorem nameO_size (c : Int) : (nameO c).size ≤ 7 := by
  unfold nameO; split
  · decide
  · split
    · decide
    · split
      · decide
      · split <;> decide
def outF (s : ByteArray) : List GSite → ByteArray
  | [] => s
  | x :: r => outF (catS (catS s ⟨#[32]⟩) (siteS x)) r
theorem outF_cons (s : ByteArray) (x : GSite) (r : List GSite) : outF s (x :: r) = outF (catS (catS s ⟨#[32]⟩) (siteS x)) r := rfl
def outS (o : GOutcome) : ByteArray := if eqS (nameO o.Code) ⟨#[]⟩ = true then ⟨#[110, 111]⟩ else outF (nameO o.Code) o.Path
end Go.Proofs.YtakmoigpjaceeaaDoor
