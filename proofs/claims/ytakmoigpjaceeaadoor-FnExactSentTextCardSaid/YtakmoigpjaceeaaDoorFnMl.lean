/- Lists of numbers as text. -/
import Derived.Test.YtakmoigpjaceeaaDoorFnMj
namespace Go.Proofs.YtakmoigpjaceeaaDoor
open Go Go.ChangeShapes Go.WideShapes Go.ChangeAt Go.RowKit
set_option linter.unusedVariables false
set_option maxRecDepth 100000

/-- what comes behind the first: separator and text, one after the other -/
def tailS (sep : ByteArray) (s : ByteArray) : List ByteArray → ByteArray
  | [] => s
  | x :: r => tailS sep (catS (catS s sep) x) r
theorem tailS_list (sep : ByteArray) : ∀ (l : List ByteArray) (s : ByteArray), (tailS sep s l).data.toList = s.data.toList ++ Lib.joinTail sep.data.toList (l.map (·.data.toList))
  | [], s => by simp [tailS, Lib.joinTail]
  | x :: r, s => by
    rw [tailS, tailS_list sep r, catS_list, catS_list]
    simp [Lib.joinTail, List.append_assoc]
theorem joinS_cons (sep : ByteArray) (x : ByteArray) (r : List ByteArray) : joinS (x :: r) sep = tailS sep x r := by
  apply ba_ext
  rw [tailS_list]
  show Lib.join (x.data.toList :: r.map (·.data.toList)) sep.data.toList = _
  induction r generalizing x with
  | nil => simp [Lib.join, Lib.joinTail, List.intercalate]
  | cons y r ih =>
    have := ih y
    simp only [Lib.join, List.intercalate, List.map_cons, Lib.joinTail, List.intersperse, List.flatten_cons] at this ⊢
    rw [this]
    simp [List.append_assoc]
def listS (l : List ByteArray) : ByteArray := if l.length = 0 then ⟨#[45]⟩ else joinS l ⟨#[32]⟩
theorem tailS_size (sep : ByteArray) {m : Nat} : ∀ (l : List ByteArray) (s : ByteArray), (∀ x ∈ l, x.size ≤ m) → (tailS sep s l).size ≤ s.size + l.length * (sep.size + m)
  | [], s, _ => by simp [tailS]
  | x :: r, s, h => by
    rw [tailS]
    have h1 := tailS_size sep r (catS (catS s sep) x) (fun y hy => h y (List.mem_cons_of_mem _ hy))
    have h2 := h x (List.mem_cons_self ..)
    rw [catS_size, catS_size] at h1
    rw [List.length_cons, Nat.add_mul]
    omega
theorem joinS_size {l : List ByteArray} {m : Nat} (h : ∀ x ∈ l, x.size ≤ m) : (joinS l ⟨#[32]⟩).size ≤ l.length * (1 + m) := by
  cases l with
  | nil => show (0 : Nat) ≤ _; exact Nat.zero_le _
  | cons x r =>
    rw [joinS_cons]
    have h1 := tailS_size ⟨#[32]⟩ r x (fun y hy => h y (List.mem_cons_of_mem _ hy))
    have h2 := h x (List.mem_cons_self ..)
    rw [bspace] at h1
    rw [List.length_cons, Nat.add_mul]
    omega
theorem ev_joined (l : List ByteArray) (c : C) (S : Store) (h : Rd S [.sl 1 (l.map dStr)] [c]) (hN : l.length ≤ 4194304) (hm : ∀ x ∈ l, x.size ≤ 1000000) : EvA Tryd.prog 23 [.s c] S (fun r S' => r = .v (.s (.str (listS l))) ∧ S' = S) := by
  have hlen : (joinS l ⟨#[32]⟩).size ≤ 140737488355328 := by
    have h1 := joinS_size hm
    have h2 : l.length * (1 + 1000000) ≤ 4194304 * (1 + 1000000) := Nat.mul_le_mul_right _ hN
    omega
  have hN' : l.length ≤ 140737488355328 := by omega
  by_cases h0 : l.length = 0
  · rw [show listS l = ⟨#[45]⟩ from by unfold listS; rw [if_pos h0]]
    refine evA_intro tok Tryd.func23 (by kernel_rfl) rfl ?_
    repeat' ((conv => whnf) <;> first
     | refine condP_dec (fun _ => ?_) (fun _ => ?_)
     | refine condP_ndec (fun _ => ?_) (fun _ => ?_)
     | refine condP_true rfl ?_
     | refine condP_false rfl ?_
     | refine condP_not (fun _ => ?_) (fun _ => ?_)
     | refine condP_intro (fun _ => ?_) (fun _ => ?_)
     | refine callP_eq (ev_Join _ _ _ _ (by assumption) (by assumption) (by assumption) (by assumption)) ?_
     | (refine rd_lenm (by assumption) ?_; intro hml; rw [maxLen_eq] at hml)
     | refine needP_intro (by first | omega | (constructor <;> omega) | fail) ?_
     | refine And.intro ?_ ?_)
    all_goals first | rfl | (exfalso; omega)
  · rw [show listS l = joinS l ⟨#[32]⟩ from by unfold listS; rw [if_neg h0]]
    have hne : 0 < l.length := by omega
    refine evA_intro tok Tryd.func23 (by kernel_rfl) rfl ?_
    repeat' ((conv => whnf) <;> first
     | refine condP_dec (fun _ => ?_) (fun _ => ?_)
     | refine condP_ndec (fun _ => ?_) (fun _ => ?_)
     | refine condP_true rfl ?_
     | refine condP_false rfl ?_
     | refine condP_not (fun _ => ?_) (fun _ => ?_)
     | refine condP_intro (fun _ => ?_) (fun _ => ?_)
     | refine callP_eq (ev_Join _ _ _ _ (by assumption) (by assumption) (by assumption) (by assumption)) ?_
     | (refine rd_lenm (by assumption) ?_; intro hml; rw [maxLen_eq] at hml)
     | refine needP_intro (by first | omega | (constructor <;> omega) | fail) ?_
     | refine And.intro ?_ ?_)
    all_goals first | rfl | (exfalso; omega)
def preS : List ByteArray → ByteArray
  | [] => ⟨#[]⟩
  | x :: r => tailS ⟨#[32]⟩ x r
theorem tailS_snoc (sep y : ByteArray) : ∀ (r : List ByteArray) (s : ByteArray), tailS sep s (r ++ [y]) = catS (catS (tailS sep s r) sep) y
  | [], s => rfl
  | x :: r, s => by rw [List.cons_append, tailS, tailS_snoc sep y r]; rfl
theorem preS_snoc {l : List ByteArray} (y : ByteArray) (h : l ≠ []) : preS (l ++ [y]) = catS (catS (preS l) ⟨#[32]⟩) y := by
  cases l with
  | nil => exact absurd rfl h
  | cons x r => exact tailS_snoc _ _ _ _
theorem catS_nil (y : ByteArray) : catS ⟨#[]⟩ y = y := by apply ba_ext; rw [catS_list]; rfl
theorem preS_join {l : List ByteArray} (h : l ≠ []) : preS l = joinS l ⟨#[32]⟩ := by
  cases l with
  | nil => exact absurd rfl h
  | cons x r => exact (joinS_cons _ _ _).symm
end Go.Proofs.YtakmoigpjaceeaaDoor
