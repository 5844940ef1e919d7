/- Lists of numbers as text. -/
import Derived.Test.YtjpffjhpfgipaaaDoorFnMj
namespace Go.Proofs.YtjpffjhpfgipaaaDoor
open Go Go.ChangeShapes Go.WideShapes Go.ChangeAt Go.RowKit
set_option linter.unusedVariables false
set_option maxRecDepth 100000

/-- what comes behind the first: separator and text, one after the other -/
def tailS (sep : ByteArray) (s : ByteArray) : List ByteArray → ByteArray
  | [] => s
  | x :: r => tailS sep (catS (catS s sep) x) r
theorem tailS_list (sep : ByteArray) : ∀ (l : List ByteArray) (s : ByteArray), (tailS sep s l).data.toList = s.data.toList ++ Lib.joinTail sep.data.toList (l.map (·.data.toList))
  | [], s => by simp [tailS, Lib.joinTail]
  | x :: r, s => by
    rw [tailS, tailS_list sep r, catS_list, catS_list]
    simp [Lib.joinTail, List.append_assoc]
theorem joinS_cons (sep : ByteArray) (x : ByteArray) (r : List ByteArray) : joinS (x :: r) sep = tailS sep x r := by
  apply ba_ext
  rw [tailS_list]
  show Lib.join (x.data.toList :: r.map (·.data.toList)) sep.data.toList = _
  induction r generalizing x with
  | nil => simp [Lib.join, Lib.joinTail, List.intercalate]
  | cons y r ih =>
    have := ih y
    simp only [Lib.join, List.intercalate, List.map_cons, Lib.joinTail, List.intersperse, List.flatten_cons] at this ⊢
    rw [this]
    simp [List.append_assoc]
def listS (l : List ByteArray) : ByteArray := if l.length = 0 then ⟨#[45]⟩ else joinS l ⟨#[32]⟩
theorem tailS_size (sep : ByteArray) {m : Nat} : ∀ (l : List ByteArray) (s : ByteArray), (∀ x ∈ l, x.size ≤ m) → (tailS sep s l).size ≤ s.size + l.length * (sep.size + m)
  | [], s, _ => by simp [tailS]
  | x :: r, s, h => by
    rw [tailS]
    have h1 := tailS_size sep r (catS (catS s sep) x) (fun y hy => h y (List.mem_cons_of_mem _ hy))
    have h2 := h x (List.mem_cons_self ..)
    rw [catS_size, catS_size] at h1
    rw [List.length_cons, Nat.add_mul]
    omega
theorem joinS_size {l : List ByteArray} {m : Nat} (h : ∀ x ∈ l, x.size ≤ m) : (joinS l ⟨#[32]⟩).size ≤ l.length * (1 + m) := by
  cases l with
  | nil => show (0 : Nat) ≤ _; exact Nat.zero_le _
  | cons x r =>
    rw [joinS_cons]
    have h1 := tailS_size ⟨#[32]⟩ r x (fun y hy => h y (List.mem_cons_of_mem _ hy))
    have h2 := h x (List.mem_cons_self ..)
    rw [bspace] at h1
    rw [List.length_cons, Nat.add_mul]
    omega
theorem ev_joined (l : List ByteArray) (c : C) (S : Store) (h : Rd S [.sl 1 (l.map dStr)] [c]) (hN : l.length ≤ 4194304) (hm : ∀ x ∈ l, x.size ≤ 1000000) : EvA Tryd.prog 38 [.s c] S (fun r S' => r = .v (.s (.str (listS l))) ∧ S' = S) := by
  have hlen : (joinS l ⟨#[32]⟩).size ≤ 140737488355328 := by
    have h1 := joinS_size hm
    have h2 : l.length * (1 + 1000000) ≤ 4194304 * (1 + 1000000) := Nat.mul_le_mul_right _ hN
    omega
  have hN' : l.length ≤ 140737488355328 := by omega
  by_cases h0 : l.length = 0
  · rw [show listS l = ⟨#[45]⟩ from by unfold listS; rw [if_pos h0]]
    refine evA_intro tok Tryd.func38 (by kernel_rfl) rfl ?_
    repeat' ((conv => whnf) <;> first
     | refine condP_dec (fun _ => ?_) (fun _ => ?_)
     | refine condP_ndec (fun _ => ?_) (fun _ => ?_)
     | refine condP_true rfl ?_
     | refine condP_false rfl ?_
     | refine condP_not (fun _ => ?_) (fun _ => ?_)
     | refine condP_intro (fun _ => ?_) (fun _ => ?_)
     | refine callP_eq (ev_Join _ _ _ _ (by assumption) (by assumption) (by assumption) (by assumption)) ?_
     | (refine rd_lenm (by assumption) ?_; intro hml; rw [maxLen_eq] at hml)
     | refine needP_intro (by first | omega | (constructor <;> omega) | fail) ?_
     | refine And.intro ?_ ?_)
    all_goals first | rfl | (exfalso; omega)
  · rw [show listS l = joinS l ⟨#[32]⟩ from by unfold listS; rw [if_neg h0]]
    have hne : 0 < l.length := by omega
    refine evA_intro tok Tryd.func38 (by kernel_rfl) rfl ?_
    repeat' ((conv => whnf) <;> first
     | refine condP_dec (fun _ => ?_) (fun _ => ?_)
     | refine condP_ndec (fun _ => ?_) (fun _ => ?_)
     | refine condP_true rfl ?_
     | refine condP_false rfl ?_
     | refine condP_not (fun _ => ?_) (fun _ => ?_)
     | refine condP_intro (fun _ => ?_) (fun _ => ?_)
     | refine callP_eq (ev_Join _ _ _ _ (by assumption) (by assumption) (by assumption) (by assumption)) ?_
     | (refine rd_lenm (by assumption) ?_; intro hml; rw [maxLen_eq] at hml)
     | refine needP_intro (by first | omega | (constructor <;> omega) | fail) ?_
     | refine And.intro ?_ ?_)
    all_goals first | rfl | (exfalso; omega)
theorem ev_iFormatList (l : List Int) (c : C) (S : Store) (h : Rd S [.sl 1 (l.map dInt)] [c]) (hl : l.length ≤ 4194304) (hr : ∀ x ∈ l, -9223372036854775808 ≤ x ∧ x ≤ 9223372036854775807) : EvA Tryd.prog 16 [.s c] S (fun r S' => r = .v (.s (.str (listS (l.map numS)))) ∧ S' = S) := by
  refine EvA.drop rfl ?_
  have hN : (l.map numS).length ≤ 4194304 := by rw [List.length_map]; exact hl
  have hm : ∀ x ∈ l.map numS, x.size ≤ 1000000 := fun x hx => by
    obtain ⟨y, hy, rfl⟩ := List.mem_map.1 hx
    have := numS_size (hr y hy)
    omega
  refine evA_intro tok Tryd.func16 (by kernel_rfl) rfl ?_
  repeat' ((conv => whnf) <;> first
   | rw [wrapI_i64 (by omega)]
   | (refine condP_true ?_ ?_; · assumption)
   | (refine condP_false ?_ ?_; · assumption)
   | (refine condP_nt ?_ ?_; · assumption)
   | (refine condP_nf ?_ ?_; · assumption)
   | (refine condP_decT ?_ ?_; · omega)
   | (refine condP_decF ?_ ?_; · omega)
   | (refine condP_ndT ?_ ?_; · omega)
   | (refine condP_ndF ?_ ?_; · omega)
   | refine condP_dec (fun _ => ?_) (fun _ => ?_)
   | refine condP_ndec (fun _ => ?_) (fun _ => ?_)
   | refine condP_true rfl ?_
   | refine condP_false rfl ?_
   | refine condP_not (fun _ => ?_) (fun _ => ?_)
   | refine condP_intro (fun _ => ?_) (fun _ => ?_)
   | refine callP_eq (ev_iFormatInt _ _ (by omega)) ?_
   | refine callP_eq (ev_iFormatIntT _ _ (by omega)) ?_
   | refine callP_eq (ev_joined _ _ _ rdA (by assumption) (by assumption)) ?_
   | (refine rd_lenm rdA ?_; intro hml; rw [maxLen_eq] at hml)
   | refine rd_idxm rdA (by intro _; rfl) (by constructor <;> omega) ?_
   | refine rd_loadf rdA (by intro _; exact trivial) (by constructor <;> omega) ?_
   | refine needP_intro (by first | omega | (constructor <;> omega) | fail) ?_
   | refine And.intro ?_ ?_)
  refine loop_intro {p : Nat × Store × C // p.1 ≤ l.length ∧ Ext S p.2.1 ∧ Fr S.length p.2.1 [.sl 1 (((l.take p.1).map numS).map dStr)] [p.2.2]} [3, 5, 9, 10, 11, 12, 13, 14, 15, 16, 17, 18] (fun zb => [(9, .v (.s (.int .i64 (zb.1.1)))), (3, .v (.s zb.1.2.2))]) (fun zb => zb.1.2.1) (fun zb => l.length - zb.1.1) ⟨(0, _, _), Nat.zero_le _, Ext.push _ _, fr_lit0⟩ ?_ rfl ?_
  · (conv => whnf); repeat' (first | exact trivial | exact rfl | apply And.intro)
  rintro ⟨⟨i, Si, ci⟩, hi, hE, hF⟩; dsimp only
  replace hi : i ≤ l.length := hi
  replace hE : Ext S Si := hE
  replace hF : Fr S.length Si [.sl 1 (((l.take i).map numS).map dStr)] [ci] := hF
  have hfl : ((l.take i).map numS).length = i := by rw [List.length_map, List.length_take]; omega
  by_cases hlt : i < l.length
  · have hri : -9223372036854775808 ≤ l[(i : Int).toNat]'(by simpa using hlt) ∧ l[(i : Int).toNat]'(by simpa using hlt) ≤ 9223372036854775807 := hr _ (List.getElem_mem _)
    repeat' ((conv => whnf) <;> first
     | rw [wrapI_i64 (by omega)]
     | (refine condP_true ?_ ?_; · assumption)
     | (refine condP_false ?_ ?_; · assumption)
     | (refine condP_nt ?_ ?_; · assumption)
     | (refine condP_nf ?_ ?_; · assumption)
     | (refine condP_decT ?_ ?_; · omega)
     | (refine condP_decF ?_ ?_; · omega)
     | (refine condP_ndT ?_ ?_; · omega)
     | (refine condP_ndF ?_ ?_; · omega)
     | refine condP_dec (fun _ => ?_) (fun _ => ?_)
     | refine condP_ndec (fun _ => ?_) (fun _ => ?_)
     | refine condP_true rfl ?_
     | refine condP_false rfl ?_
     | refine condP_not (fun _ => ?_) (fun _ => ?_)
     | refine condP_intro (fun _ => ?_) (fun _ => ?_)
     | refine callP_eq (ev_iFormatInt _ _ (by omega)) ?_
     | refine callP_eq (ev_iFormatIntT _ _ (by omega)) ?_
     | refine callP_eq (ev_joined _ _ _ rdA (by assumption) (by assumption)) ?_
     | (refine rd_lenm rdA ?_; intro hml; rw [maxLen_eq] at hml)
     | refine rd_idxm rdA (by intro _; rfl) (by constructor <;> omega) ?_
     | refine rd_loadf rdA (by intro _; exact trivial) (by constructor <;> omega) ?_
     | refine needP_intro (by first | omega | (constructor <;> omega) | fail) ?_
     | (refine fr_app1 (f := dStr) (x := numS (l[(i : Int).toNat]'(by simpa using hlt))) (by assumption) (by assumption) (by intro _; exact trivial) (by rfl) (by intro _; rfl) (by dsimp only [T9]; omega) (by omega) ?_; intro cN SN hEN hFN)
     | refine And.intro ?_ ?_)
    all_goals first
      | (exfalso; omega)
      | (refine ⟨⟨(i + 1, _, _), by dsimp only; omega, by assumption, by rw [List.take_succ_eq_append_getElem hlt, List.map_append]; exact hFN⟩, ?_, rfl, by dsimp only; omega⟩; (conv => whnf); repeat' (first | exact trivial | exact rfl | (show _ = _; congr 3; dsimp only; omega) | apply And.intro))
  · have he : i = l.length := by omega
    subst he
    rw [List.take_length] at hF
    repeat' ((conv => whnf) <;> first
     | rw [wrapI_i64 (by omega)]
     | (refine condP_true ?_ ?_; · assumption)
     | (refine condP_false ?_ ?_; · assumption)
     | (refine condP_nt ?_ ?_; · assumption)
     | (refine condP_nf ?_ ?_; · assumption)
     | (refine condP_decT ?_ ?_; · omega)
     | (refine condP_decF ?_ ?_; · omega)
     | (refine condP_ndT ?_ ?_; · omega)
     | (refine condP_ndF ?_ ?_; · omega)
     | refine condP_dec (fun _ => ?_) (fun _ => ?_)
     | refine condP_ndec (fun _ => ?_) (fun _ => ?_)
     | refine condP_true rfl ?_
     | refine condP_false rfl ?_
     | refine condP_not (fun _ => ?_) (fun _ => ?_)
     | refine condP_intro (fun _ => ?_) (fun _ => ?_)
     | refine callP_eq (ev_iFormatInt _ _ (by omega)) ?_
     | refine callP_eq (ev_iFormatIntT _ _ (by omega)) ?_
     | refine callP_eq (ev_joined _ _ _ rdA (by assumption) (by assumption)) ?_
     | (refine rd_lenm rdA ?_; intro hml; rw [maxLen_eq] at hml)
     | refine rd_idxm rdA (by intro _; rfl) (by constructor <;> omega) ?_
     | refine rd_loadf rdA (by intro _; exact trivial) (by constructor <;> omega) ?_
     | refine needP_intro (by first | omega | (constructor <;> omega) | fail) ?_
     | refine And.intro ?_ ?_)
    all_goals first
      | rfl
      | exact hE
      | (exfalso; omega)
def preS : List ByteArray → ByteArray
  | [] => ⟨#[]⟩
  | x :: r => tailS ⟨#[32]⟩ x r
theorem tailS_snoc (sep y : ByteArray) : ∀ (r : List ByteArray) (s : ByteArray), tailS sep s (r ++ [y]) = catS (catS (tailS sep s r) sep) y
  | [], s => rfl
  | x :: r, s => by rw [List.cons_append, tailS, tailS_snoc sep y r]; rfl
theorem preS_snoc {l : List ByteArray} (y : ByteArray) (h : l ≠ []) : preS (l ++ [y]) = catS (catS (preS l) ⟨#[32]⟩) y := by
  cases l with
  | nil => exact absurd rfl h
  | cons x r => exact tailS_snoc _ _ _ _
theorem catS_nil (y : ByteArray) : catS ⟨#[]⟩ y = y := by apply ba_ext; rw [catS_list]; rfl
theorem preS_join {l : List ByteArray} (h : l ≠ []) : preS l = joinS l ⟨#[32]⟩ := by
  cases l with
  | nil => exact absurd rfl h
  | cons x r => exact (joinS_cons _ _ _).symm
theorem ev_l39Join (l : List Int) (c : C) (S : Store) (h : Rd S [.sl 1 (l.map dInt)] [c]) (hl : l.length ≤ 4194304) (hr : ∀ x ∈ l, -9223372036854775808 ≤ x ∧ x ≤ 9223372036854775807) : EvA Tryd.prog 37 [.s c, .s (.str ⟨#[32]⟩)] S (fun r S' => r = .v (.s (.str (listS (l.map numS)))) ∧ S' = S) := by
  refine evA_intro tok Tryd.func37 (by kernel_rfl) rfl ?_
  repeat' ((conv => whnf) <;> first
   | rw [wrapI_i64 (by omega)]
   | (refine condP_true ?_ ?_; · assumption)
   | (refine condP_false ?_ ?_; · assumption)
   | (refine condP_nt ?_ ?_; · assumption)
   | (refine condP_nf ?_ ?_; · assumption)
   | (refine condP_decT ?_ ?_; · omega)
   | (refine condP_decF ?_ ?_; · omega)
   | (refine condP_ndT ?_ ?_; · omega)
   | (refine condP_ndF ?_ ?_; · omega)
   | refine condP_dec (fun _ => ?_) (fun _ => ?_)
   | refine condP_ndec (fun _ => ?_) (fun _ => ?_)
   | refine condP_true rfl ?_
   | refine condP_false rfl ?_
   | refine condP_not (fun _ => ?_) (fun _ => ?_)
   | refine condP_intro (fun _ => ?_) (fun _ => ?_)
   | refine callP_eq (ev_sFormatInt _ _ (by omega)) ?_
   | (refine rd_lenm (by assumption) ?_; intro hml; rw [maxLen_eq] at hml)
   | refine rd_idxm (by assumption) (by intro _; rfl) (by constructor <;> omega) ?_
   | refine rd_loadf (by assumption) (by intro _; exact trivial) (by constructor <;> omega) ?_
   | refine needP_intro (by first | omega | (constructor <;> omega) | fail) ?_
   | refine And.intro ?_ ?_)
  refine loop_intro {p : Nat × ByteArray // p.1 ≤ l.length ∧ p.2.size ≤ 64 * p.1 ∧ p.2 = preS ((l.take p.1).map numS)} [5, 6, 7, 8, 9, 10, 11, 12, 13, 14, 15, 16, 17, 18, 19, 20, 21, 22, 23, 24] (fun zb => [(6, .v (.s (.int .i64 (zb.1.1)))), (5, .v (.s (.str zb.1.2)))]) (fun _ => S) (fun zb => l.length - zb.1.1) ⟨(0, ⟨#[]⟩), Nat.zero_le _, ⟨Nat.zero_le _, rfl⟩⟩ ?_ rfl ?_
  · (conv => whnf); repeat' (first | exact trivial | exact rfl | apply And.intro)
  rintro ⟨⟨i, st⟩, hi, hinv⟩; dsimp only
  replace hi : i ≤ l.length := hi; dsimp only at hinv
  obtain ⟨hs1, hs2⟩ := hinv
  by_cases hlt : i < l.length
  · have hri : -9223372036854775808 ≤ l[(i : Int).toNat]'(by simpa using hlt) ∧ l[(i : Int).toNat]'(by simpa using hlt) ≤ 9223372036854775807 := hr _ (List.getElem_mem _)
    have hsz := numS_size hri
    have hcat0 : (catS st ⟨#[32]⟩).size = st.size + 1 := by rw [catS_size, bspace]
    by_cases h0 : i = 0
    · subst h0
      have hst : st = ⟨#[]⟩ := hs2
      have hz : st.size = 0 := by rw [hst]; rfl
      repeat' ((conv => whnf) <;> first
       | rw [wrapI_i64 (by omega)]
       | (refine condP_true ?_ ?_; · assumption)
       | (refine condP_false ?_ ?_; · assumption)
       | (refine condP_nt ?_ ?_; · assumption)
       | (refine condP_nf ?_ ?_; · assumption)
       | (refine condP_decT ?_ ?_; · omega)
       | (refine condP_decF ?_ ?_; · omega)
       | (refine condP_ndT ?_ ?_; · omega)
       | (refine condP_ndF ?_ ?_; · omega)
       | refine condP_dec (fun _ => ?_) (fun _ => ?_)
       | refine condP_ndec (fun _ => ?_) (fun _ => ?_)
       | refine condP_true rfl ?_
       | refine condP_false rfl ?_
       | refine condP_not (fun _ => ?_) (fun _ => ?_)
       | refine condP_intro (fun _ => ?_) (fun _ => ?_)
       | refine callP_eq (ev_sFormatInt _ _ (by omega)) ?_
       | (refine rd_lenm (by assumption) ?_; intro hml; rw [maxLen_eq] at hml)
       | refine rd_idxm (by assumption) (by intro _; rfl) (by constructor <;> omega) ?_
       | refine rd_loadf (by assumption) (by intro _; exact trivial) (by constructor <;> omega) ?_
       | refine needP_intro (by first | omega | (constructor <;> omega) | fail) ?_
       | refine And.intro ?_ ?_)
      all_goals first
        | (exfalso; omega)
        | (refine ⟨⟨(1, catS st (numS (l[((0 : Nat) : Int).toNat]'(by simpa using hlt)))), by dsimp only; omega, by dsimp only; rw [catS_size]; omega, by dsimp only; rw [hst, catS_nil, List.take_succ_eq_append_getElem hlt]; rfl⟩, ?_, rfl, by dsimp only; omega⟩; (conv => whnf); repeat' (first | exact trivial | exact rfl | apply And.intro))
    · have hne2 : (l.take i).map numS ≠ [] := fun hh => by
        have := congrArg List.length hh
        rw [List.length_map, List.length_take, List.length_nil] at this
        omega
      have hz2 : (catS (catS st ⟨#[32]⟩) (numS (l[(i : Int).toNat]'(by simpa using hlt)))).size ≤ 64 * (i + 1) := by rw [catS_size, hcat0]; omega
      repeat' ((conv => whnf) <;> first
       | refine needP_intro (by first | (simp only [catS_size, bspace]; omega) | fail) ?_
       | rw [wrapI_i64 (by omega)]
       | (refine condP_true ?_ ?_; · assumption)
       | (refine condP_false ?_ ?_; · assumption)
       | (refine condP_nt ?_ ?_; · assumption)
       | (refine condP_nf ?_ ?_; · assumption)
       | (refine condP_decT ?_ ?_; · omega)
       | (refine condP_decF ?_ ?_; · omega)
       | (refine condP_ndT ?_ ?_; · omega)
       | (refine condP_ndF ?_ ?_; · omega)
       | refine condP_dec (fun _ => ?_) (fun _ => ?_)
       | refine condP_ndec (fun _ => ?_) (fun _ => ?_)
       | refine condP_true rfl ?_
       | refine condP_false rfl ?_
       | refine condP_not (fun _ => ?_) (fun _ => ?_)
       | refine condP_intro (fun _ => ?_) (fun _ => ?_)
       | refine callP_eq (ev_sFormatInt _ _ (by omega)) ?_
       | (refine rd_lenm (by assumption) ?_; intro hml; rw [maxLen_eq] at hml)
       | refine rd_idxm (by assumption) (by intro _; rfl) (by constructor <;> omega) ?_
       | refine rd_loadf (by assumption) (by intro _; exact trivial) (by constructor <;> omega) ?_
       | refine needP_intro (by first | omega | (constructor <;> omega) | fail) ?_
       | refine And.intro ?_ ?_)
      all_goals first
        | (exfalso; omega)
        | (refine ⟨⟨(i + 1, catS (catS st ⟨#[32]⟩) (numS (l[(i : Int).toNat]'(by simpa using hlt)))), by dsimp only; omega, hz2, by dsimp only; rw [List.take_succ_eq_append_getElem hlt, List.map_append, List.map_cons, List.map_nil, preS_snoc _ hne2, ← hs2]; rfl⟩, ?_, rfl, by dsimp only; omega⟩; (conv => whnf); repeat' (first | exact trivial | exact rfl | apply And.intro))
  · have he : i = l.length := by omega
    subst he
    rw [List.take_length] at hs2
    by_cases h0 : l.length = 0
    · rw [show listS (l.map numS) = ⟨#[45]⟩ from by unfold listS; rw [if_pos (by rw [List.length_map]; exact h0)]]
      repeat' ((conv => whnf) <;> first
       | rw [wrapI_i64 (by omega)]
       | (refine condP_true ?_ ?_; · assumption)
       | (refine condP_false ?_ ?_; · assumption)
       | (refine condP_nt ?_ ?_; · assumption)
       | (refine condP_nf ?_ ?_; · assumption)
       | (refine condP_decT ?_ ?_; · omega)
       | (refine condP_decF ?_ ?_; · omega)
       | (refine condP_ndT ?_ ?_; · omega)
       | (refine condP_ndF ?_ ?_; · omega)
       | refine condP_dec (fun _ => ?_) (fun _ => ?_)
       | refine condP_ndec (fun _ => ?_) (fun _ => ?_)
       | refine condP_true rfl ?_
       | refine condP_false rfl ?_
       | refine condP_not (fun _ => ?_) (fun _ => ?_)
       | refine condP_intro (fun _ => ?_) (fun _ => ?_)
       | refine callP_eq (ev_sFormatInt _ _ (by omega)) ?_
       | (refine rd_lenm (by assumption) ?_; intro hml; rw [maxLen_eq] at hml)
       | refine rd_idxm (by assumption) (by intro _; rfl) (by constructor <;> omega) ?_
       | refine rd_loadf (by assumption) (by intro _; exact trivial) (by constructor <;> omega) ?_
       | refine needP_intro (by first | omega | (constructor <;> omega) | fail) ?_
       | refine And.intro ?_ ?_)
      all_goals first | rfl | (exfalso; omega)
    · rw [show listS (l.map numS) = st from by unfold listS; rw [if_neg (by rw [List.length_map]; exact h0), hs2, preS_join (by intro hh; rw [List.map_eq_nil_iff] at hh; rw [hh] at h0; exact h0 rfl)]]
      repeat' ((conv => whnf) <;> first
       | rw [wrapI_i64 (by omega)]
       | (refine condP_true ?_ ?_; · assumption)
       | (refine condP_false ?_ ?_; · assumption)
       | (refine condP_nt ?_ ?_; · assumption)
       | (refine condP_nf ?_ ?_; · assumption)
       | (refine condP_decT ?_ ?_; · omega)
       | (refine condP_decF ?_ ?_; · omega)
       | (refine condP_ndT ?_ ?_; · omega)
       | (refine condP_ndF ?_ ?_; · omega)
       | refine condP_dec (fun _ => ?_) (fun _ => ?_)
       | refine condP_ndec (fun _ => ?_) (fun _ => ?_)
       | refine condP_true rfl ?_
       | refine condP_false rfl ?_
       | refine condP_not (fun _ => ?_) (fun _ => ?_)
       | refine condP_intro (fun _ => ?_) (fun _ => ?_)
       | refine callP_eq (ev_sFormatInt _ _ (by omega)) ?_
       | (refine rd_lenm (by assumption) ?_; intro hml; rw [maxLen_eq] at hml)
       | refine rd_idxm (by assumption) (by intro _; rfl) (by constructor <;> omega) ?_
       | refine rd_loadf (by assumption) (by intro _; exact trivial) (by constructor <;> omega) ?_
       | refine needP_intro (by first | omega | (constructor <;> omega) | fail) ?_
       | refine And.intro ?_ ?_)
      all_goals first | rfl | (exfalso; omega)
theorem ev_sFormatList (l : List Int) (c : C) (S : Store) (h : Rd S [.sl 1 (l.map dInt)] [c]) (hl : l.length ≤ 4194304) (hr : ∀ x ∈ l, -9223372036854775808 ≤ x ∧ x ≤ 9223372036854775807) : EvA Tryd.prog 14 [.s c] S (fun r S' => r = .v (.s (.str (listS (l.map numS)))) ∧ S' = S) := by
  refine evA_intro tok Tryd.func14 (by kernel_rfl) rfl ?_
  repeat' ((conv => whnf) <;> first
   | (refine condP_true ?_ ?_; · assumption)
   | (refine condP_false ?_ ?_; · assumption)
   | (refine condP_nt ?_ ?_; · assumption)
   | (refine condP_nf ?_ ?_; · assumption)
   | (refine condP_decT ?_ ?_; · omega)
   | (refine condP_decF ?_ ?_; · omega)
   | (refine condP_ndT ?_ ?_; · omega)
   | (refine condP_ndF ?_ ?_; · omega)
   | refine callP_eq (ev_l39Join _ _ _ (by assumption) (by assumption) (by assumption)) ?_
   | refine needP_intro (by first | omega | (constructor <;> omega) | fail) ?_
   | refine And.intro ?_ ?_)
  all_goals rfl
end Go.Proofs.YtjpffjhpfgipaaaDoor
