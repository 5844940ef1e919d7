/- Labels and what is sent, as text. -/
import Derived.Test.YtakmoigpjaceeaaDoorFnX
import Derived.Test.YtakmoigpjaceeaaDoorFnMl
import Derived.Test.YtakmoigpjaceeaaDoorAeQ
namespace Go.Proofs.YtakmoigpjaceeaaDoor
open Go Go.ChangeShapes Go.WideShapes Go.ChangeAt Go.RowKit
set_option linter.unusedVariables false
set_option maxRecDepth 100000

theorem bplus : (ByteArray.mk #[43]).size = 1 := rfl
theorem beq1 : (ByteArray.mk #[61]).size = 1 := rfl
theorem bopen : (ByteArray.mk #[91]).size = 1 := rfl
theorem bshut : (ByteArray.mk #[93]).size = 1 := rfl
def preT (sep : ByteArray) : List ByteArray → ByteArray
  | [] => ⟨#[]⟩
  | x :: r => tailS sep x r
theorem preT_snoc {sep : ByteArray} {l : List ByteArray} (y : ByteArray) (h : l ≠ []) : preT sep (l ++ [y]) = catS (catS (preT sep l) sep) y := by
  cases l with
  | nil => exact absurd rfl h
  | cons x r => exact tailS_snoc _ _ _ _
theorem preT_join {sep : ByteArray} {l : List ByteArray} (h : l ≠ []) : preT sep l = joinS l sep := by
  cases l with
  | nil => exact absurd rfl h
  | cons x r => exact (joinS_cons _ _ _).symm
theorem joinS_sizeG {sep : ByteArray} {l : List ByteArray} {m : Nat} (h : ∀ x ∈ l, x.size ≤ m) : (joinS l sep).size ≤ l.length * (sep.size + m) := by
  cases l with
  | nil => show (0 : Nat) ≤ _; exact Nat.zero_le _
  | cons x r =>
    rw [joinS_cons]
    have h1 := tailS_size sep r x (fun y hy => h y (List.mem_cons_of_mem _ hy))
    have h2 := h x (List.mem_cons_self ..)
    rw [List.length_cons, Nat.add_mul]
    omega
theorem eqS_pos {s : ByteArray} (h : 0 < s.size) : eqS s ⟨#[]⟩ = false := by
  unfold eqS
  have : s.toList ≠ [] := fun hh => by
    rw [Lib.toList_data] at hh
    have : s.data.size = 0 := by simpa using congrArg List.length hh
    have h2 : s.size = s.data.size := rfl
    omega
  cases hs : s.toList with
  | nil => exact absurd hs this
  | cons a r => rw [Lib.toList_data]; rfl
theorem tailS_ge (sep : ByteArray) : ∀ (l : List ByteArray) (s : ByteArray), s.size ≤ (tailS sep s l).size
  | [], s => Nat.le_refl _
  | x :: r, s => by
    rw [tailS]
    have h1 := tailS_ge sep r (catS (catS s sep) x)
    rw [catS_size, catS_size] at h1
    omega
theorem numS_pos {n : Int} (h : 1 ≤ n ∧ n ≤ 9) : 0 < (numS n).size := by
  have : n = 1 ∨ n = 2 ∨ n = 3 ∨ n = 4 ∨ n = 5 ∨ n = 6 ∨ n = 7 ∨ n = 8 ∨ n = 9 := by omega
  rw [← numS_dig (by omega)]; unfold cutS
  rcases this with rfl | rfl | rfl | rfl | rfl | rfl | rfl | rfl | rfl <;> decide
def labS (x : Int) : ByteArray := if (ownersIn x).length = 0 then ⟨#[45]⟩ else joinS ((ownersIn x).map numS) ⟨#[43]⟩
theorem owner_rg {x o : Int} (h : o ∈ ownersIn x) : 1 ≤ o ∧ o ≤ 9 := by
  unfold ownersIn at h
  split at h
  · have := (powGo_mem _ _ _).1 h; omega
  · cases h
theorem owner_sz {x o : Int} (h : o ∈ ownersIn x) : (numS o).size ≤ 21 := by
  have := owner_rg h
  exact numS_size (by omega)
theorem labS_size (x : Int) : (labS x).size ≤ 300 := by
  unfold labS
  split
  · decide
  · have h1 := joinS_sizeG (sep := ⟨#[43]⟩) (l := (ownersIn x).map numS) (m := 21) (fun y hy => by obtain ⟨o, ho, rfl⟩ := List.mem_map.1 hy; exact owner_sz ho)
    have h2 := ownersIn_len x
    rw [List.length_map, bplus] at h1
    omega
set_option maxHeartbeats 2000000 in
theorem ev_iLabelText (x : Int) (S : Store) : EvA Tryd.prog 22 [.s (.int .i64 x)] S (fun r S' => r = .v (.s (.str (labS x))) ∧ S' = S) := by
  refine EvA.drop rfl ?_
  have hol := ownersIn_len x
  refine evA_intro tok Tryd.func22 (by kernel_rfl) rfl ?_
  repeat' ((conv => whnf) <;> first
   | rw [wrapI_i64 (by omega)]
   | (refine condP_true ?_ ?_; · assumption)
   | (refine condP_false ?_ ?_; · assumption)
   | (refine condP_nt ?_ ?_; · assumption)
   | (refine condP_nf ?_ ?_; · assumption)
   | (refine condP_decT ?_ ?_; · omega)
   | (refine condP_decF ?_ ?_; · omega)
   | (refine condP_ndT ?_ ?_; · omega)
   | (refine condP_ndF ?_ ?_; · omega)
   | refine condP_dec (fun _ => ?_) (fun _ => ?_)
   | refine condP_ndec (fun _ => ?_) (fun _ => ?_)
   | refine condP_true rfl ?_
   | refine condP_false rfl ?_
   | refine condP_not (fun _ => ?_) (fun _ => ?_)
   | refine condP_intro (fun _ => ?_) (fun _ => ?_)
   | refine callP_eq (ev_iFormatInt _ _ (by omega)) ?_
   | refine callP_eq (ev_iFormatIntT _ _ (by omega)) ?_
   | (refine callP_intro (ev_iOwnersIn _ _) ?_; rintro _ Sn ⟨hEn, cn, rfl, hFn⟩)
   | refine callP_eq (ev_Join _ _ _ _ rdA (by assumption) (by assumption) (by assumption)) ?_
   | (refine rd_lenm rdA ?_; intro hml; rw [maxLen_eq] at hml)
   | refine rd_idxm rdA (by intro _; rfl) (by constructor <;> omega) ?_
   | refine rd_loadf rdA (by intro _; exact trivial) (by constructor <;> omega) ?_
   | refine needP_intro (by first | omega | (constructor <;> omega) | fail) ?_
   | refine And.intro ?_ ?_)
  have f0 : Fr S.length Sn [.sl 1 ((((ownersIn x).take 0).map numS).map dStr), .sl 1 ((ownersIn x).map dInt)] [.sl S.length 0 0 0, cn] :=
    Fr.join (ds := [.sl 1 []]) (cs := [_]) (fr_lit0 (S := S) (k := 1)) hEn hFn (Ext.push S _).len
  refine loop_intro {p : Nat × Store × C // p.1 ≤ (ownersIn x).length ∧ Ext S p.2.1 ∧ Fr S.length p.2.1 [.sl 1 ((((ownersIn x).take p.1).map numS).map dStr), .sl 1 ((ownersIn x).map dInt)] [p.2.2, cn]} [3, 5, 10, 11, 12, 13, 14, 15, 16, 17, 18, 19] (fun zb => [(10, .v (.s (.int .i64 zb.1.1))), (3, .v (.s zb.1.2.2))]) (fun zb => zb.1.2.1) (fun zb => (ownersIn x).length - zb.1.1) ⟨(0, _, _), Nat.zero_le _, (Ext.push S _).trans hEn, f0⟩ ?_ rfl ?_
  · (conv => whnf); repeat' (first | exact trivial | exact rfl | apply And.intro)
  rintro ⟨⟨i, Si, ci⟩, hi, hE, hF⟩; dsimp only
  replace hi : i ≤ (ownersIn x).length := hi
  replace hE : Ext S Si := hE
  replace hF : Fr S.length Si [.sl 1 ((((ownersIn x).take i).map numS).map dStr), .sl 1 ((ownersIn x).map dInt)] [ci, cn] := hF
  have hfl : (((ownersIn x).take i).map numS).length = i := by rw [List.length_map, List.length_take]; omega
  have ro : Rd Si [.sl 1 ((ownersIn x).map dInt)] [cn] := hF.rdAt (o := 1) rfl rfl
  have rc : Rd Si [.sl 1 ((((ownersIn x).take i).map numS).map dStr)] [ci] := hF.rdAt (o := 0) rfl rfl
  by_cases hlt : i < (ownersIn x).length
  · have hlt' : ((i : Nat) : Int).toNat < (ownersIn x).length := hlt
    have hrg := owner_rg (List.getElem_mem hlt')
    repeat' ((conv => whnf) <;> first
     | rw [wrapI_i64 (by omega)]
     | (refine condP_true ?_ ?_; · assumption)
     | (refine condP_false ?_ ?_; · assumption)
     | (refine condP_nt ?_ ?_; · assumption)
     | (refine condP_nf ?_ ?_; · assumption)
     | (refine condP_decT ?_ ?_; · omega)
     | (refine condP_decF ?_ ?_; · omega)
     | (refine condP_ndT ?_ ?_; · omega)
     | (refine condP_ndF ?_ ?_; · omega)
     | refine condP_dec (fun _ => ?_) (fun _ => ?_)
     | refine condP_ndec (fun _ => ?_) (fun _ => ?_)
     | refine condP_true rfl ?_
     | refine condP_false rfl ?_
     | refine condP_not (fun _ => ?_) (fun _ => ?_)
     | refine condP_intro (fun _ => ?_) (fun _ => ?_)
     | refine callP_eq (ev_iFormatInt _ _ (by omega)) ?_
     | refine callP_eq (ev_iFormatIntT _ _ (by omega)) ?_
     | (refine callP_intro (ev_iOwnersIn _ _) ?_; rintro _ Sn ⟨hEn, cn, rfl, hFn⟩)
     | refine callP_eq (ev_Join _ _ _ _ rdA (by assumption) (by assumption) (by assumption)) ?_
     | (refine rd_lenm rdA ?_; intro hml; rw [maxLen_eq] at hml)
     | refine rd_idxm rdA (by intro _; rfl) (by constructor <;> omega) ?_
     | refine rd_loadf rdA (by intro _; exact trivial) (by constructor <;> omega) ?_
     | refine needP_intro (by first | omega | (constructor <;> omega) | fail) ?_
     | (refine fr_appAtF (f := dStr) (o := 0) (l := ((ownersIn x).take i).map numS) (m := [numS ((ownersIn x)[((i : Nat) : Int).toNat]'hlt')]) (by intro _; exact trivial) hE hF (by rfl) (by rfl) (by rfl) (by intro _; rfl) (by dsimp only [T9]; simp only [List.length_cons, List.length_nil]; omega) (by simp only [List.length_cons, List.length_nil]; omega) ?_; intro cA SA hEA hFA hlA)
     | refine And.intro ?_ ?_)
    all_goals first
      | (exfalso; omega)
      | (refine ⟨⟨(i + 1, SA, cA), by dsimp only; omega, hEA, by dsimp only; rw [List.take_succ_eq_append_getElem hlt, List.map_append]; exact hFA⟩, ?_, rfl, by dsimp only; omega⟩; (conv => whnf); repeat' (first | exact trivial | exact rfl | apply And.intro))
  · have he : i = (ownersIn x).length := by omega
    subst he
    rw [List.take_length] at hF rc hfl
    by_cases h0 : (ownersIn x).length = 0
    · rw [show labS x = ⟨#[45]⟩ from if_pos h0]
      repeat' ((conv => whnf) <;> first
       | rw [wrapI_i64 (by omega)]
       | (refine condP_true ?_ ?_; · assumption)
       | (refine condP_false ?_ ?_; · assumption)
       | (refine condP_nt ?_ ?_; · assumption)
       | (refine condP_nf ?_ ?_; · assumption)
       | (refine condP_decT ?_ ?_; · omega)
       | (refine condP_decF ?_ ?_; · omega)
       | (refine condP_ndT ?_ ?_; · omega)
       | (refine condP_ndF ?_ ?_; · omega)
       | refine condP_dec (fun _ => ?_) (fun _ => ?_)
       | refine condP_ndec (fun _ => ?_) (fun _ => ?_)
       | refine condP_true rfl ?_
       | refine condP_false rfl ?_
       | refine condP_not (fun _ => ?_) (fun _ => ?_)
       | refine condP_intro (fun _ => ?_) (fun _ => ?_)
       | refine callP_eq (ev_iFormatInt _ _ (by omega)) ?_
       | refine callP_eq (ev_iFormatIntT _ _ (by omega)) ?_
       | (refine callP_intro (ev_iOwnersIn _ _) ?_; rintro _ Sn ⟨hEn, cn, rfl, hFn⟩)
       | refine callP_eq (ev_Join _ _ _ _ rdA (by assumption) (by assumption) (by assumption)) ?_
       | (refine rd_lenm rdA ?_; intro hml; rw [maxLen_eq] at hml)
       | refine rd_idxm rdA (by intro _; rfl) (by constructor <;> omega) ?_
       | refine rd_loadf rdA (by intro _; exact trivial) (by constructor <;> omega) ?_
       | refine needP_intro (by first | omega | (constructor <;> omega) | fail) ?_
       | refine And.intro ?_ ?_)
      all_goals first | rfl | exact hE | (exfalso; omega)
    · rw [show labS x = joinS ((ownersIn x).map numS) ⟨#[43]⟩ from if_neg h0]
      have hN : ((ownersIn x).map numS).length ≤ 140737488355328 := by omega
      have hlen : (joinS ((ownersIn x).map numS) ⟨#[43]⟩).size ≤ 140737488355328 := by
        have := labS_size x
        rw [show labS x = joinS ((ownersIn x).map numS) ⟨#[43]⟩ from if_neg h0] at this
        omega
      have hne : 0 < ((ownersIn x).map numS).length := by omega
      repeat' ((conv => whnf) <;> first
       | rw [wrapI_i64 (by omega)]
       | (refine condP_true ?_ ?_; · assumption)
       | (refine condP_false ?_ ?_; · assumption)
       | (refine condP_nt ?_ ?_; · assumption)
       | (refine condP_nf ?_ ?_; · assumption)
       | (refine condP_decT ?_ ?_; · omega)
       | (refine condP_decF ?_ ?_; · omega)
       | (refine condP_ndT ?_ ?_; · omega)
       | (refine condP_ndF ?_ ?_; · omega)
       | refine condP_dec (fun _ => ?_) (fun _ => ?_)
       | refine condP_ndec (fun _ => ?_) (fun _ => ?_)
       | refine condP_true rfl ?_
       | refine condP_false rfl ?_
       | refine condP_not (fun _ => ?_) (fun _ => ?_)
       | refine condP_intro (fun _ => ?_) (fun _ => ?_)
       | refine callP_eq (ev_iFormatInt _ _ (by omega)) ?_
       | refine callP_eq (ev_iFormatIntT _ _ (by omega)) ?_
       | (refine callP_intro (ev_iOwnersIn _ _) ?_; rintro _ Sn ⟨hEn, cn, rfl, hFn⟩)
       | refine callP_eq (ev_Join _ _ _ _ rdA (by assumption) (by assumption) (by assumption)) ?_
       | (refine rd_lenm rdA ?_; intro hml; rw [maxLen_eq] at hml)
       | refine rd_idxm rdA (by intro _; rfl) (by constructor <;> omega) ?_
       | refine rd_loadf rdA (by intro _; exact trivial) (by constructor <;> omega) ?_
       | refine needP_intro (by first | omega | (constructor <;> omega) | fail) ?_
       | refine And.intro ?_ ?_)
      all_goals first | rfl | exact hE | (exfalso; omega)
set_option maxHeartbeats 2000000 in
theorem ev_sLabelText (x : Int) (S : Store) : EvA Tryd.prog 20 [.s (.int .i64 x)] S (fun r S' => r = .v (.s (.str (labS x))) ∧ S' = S) := by
  refine EvA.drop rfl ?_
  have hol := ownersIn_len x
  refine evA_intro tok Tryd.func20 (by kernel_rfl) rfl ?_
  repeat' ((conv => whnf) <;> first
   | rw [wrapI_i64 (by omega)]
   | (refine condP_true ?_ ?_; · assumption)
   | (refine condP_false ?_ ?_; · assumption)
   | (refine condP_nt ?_ ?_; · assumption)
   | (refine condP_nf ?_ ?_; · assumption)
   | (refine condP_decT ?_ ?_; · omega)
   | (refine condP_decF ?_ ?_; · omega)
   | (refine condP_ndT ?_ ?_; · omega)
   | (refine condP_ndF ?_ ?_; · omega)
   | refine condP_dec (fun _ => ?_) (fun _ => ?_)
   | refine condP_ndec (fun _ => ?_) (fun _ => ?_)
   | refine condP_true rfl ?_
   | refine condP_false rfl ?_
   | refine condP_not (fun _ => ?_) (fun _ => ?_)
   | refine condP_intro (fun _ => ?_) (fun _ => ?_)
   | refine callP_eq (ev_sFormatInt _ _ (by omega)) ?_
   | (refine callP_intro (ev_sOwnersIn _ _) ?_; rintro _ Sn ⟨hEn, cn, rfl, hFn⟩)
   | (refine rd_lenm rdA ?_; intro hml; rw [maxLen_eq] at hml)
   | refine rd_idxm rdA (by intro _; rfl) (by constructor <;> omega) ?_
   | refine rd_loadf rdA (by intro _; exact trivial) (by constructor <;> omega) ?_
   | refine needP_intro (by first | omega | (constructor <;> omega) | fail) ?_
   | refine And.intro ?_ ?_)
  have ro : Rd Sn [.sl 1 ((ownersIn x).map dInt)] [cn] := hFn.rd
  refine loop_intro {p : Nat × ByteArray // p.1 ≤ (ownersIn x).length ∧ p.2.size ≤ 64 * p.1 ∧ p.2 = preT ⟨#[43]⟩ (((ownersIn x).take p.1).map numS)} [3, 5, 8, 9, 10, 11, 12, 13, 14, 15, 16, 17, 18, 19, 20, 21, 22, 23, 24] (fun zb => [(5, .v (.s (.int .i64 zb.1.1))), (3, .v (.s (.str zb.1.2)))]) (fun _ => Sn) (fun zb => (ownersIn x).length - zb.1.1) ⟨(0, ⟨#[]⟩), Nat.zero_le _, Nat.zero_le _, rfl⟩ ?_ rfl ?_
  · (conv => whnf); repeat' (first | exact trivial | exact rfl | apply And.intro)
  rintro ⟨⟨i, st⟩, hi, hs1, hs2⟩; dsimp only
  replace hi : i ≤ (ownersIn x).length := hi
  dsimp only at hs1 hs2
  by_cases hlt : i < (ownersIn x).length
  · have hlt' : ((i : Nat) : Int).toNat < (ownersIn x).length := hlt
    have hrg := owner_rg (List.getElem_mem hlt')
    have hsz := owner_sz (List.getElem_mem hlt')
    have hcat0 : (catS st ⟨#[43]⟩).size = st.size + 1 := by rw [catS_size, bplus]
    by_cases h0 : i = 0
    · subst h0
      have hst : st = ⟨#[]⟩ := hs2
      have hz : st.size = 0 := by rw [hst]; rfl
      repeat' ((conv => whnf) <;> first
       | rw [wrapI_i64 (by omega)]
       | (refine condP_true ?_ ?_; · assumption)
       | (refine condP_false ?_ ?_; · assumption)
       | (refine condP_nt ?_ ?_; · assumption)
       | (refine condP_nf ?_ ?_; · assumption)
       | (refine condP_decT ?_ ?_; · omega)
       | (refine condP_decF ?_ ?_; · omega)
       | (refine condP_ndT ?_ ?_; · omega)
       | (refine condP_ndF ?_ ?_; · omega)
       | refine condP_dec (fun _ => ?_) (fun _ => ?_)
       | refine condP_ndec (fun _ => ?_) (fun _ => ?_)
       | refine condP_true rfl ?_
       | refine condP_false rfl ?_
       | refine condP_not (fun _ => ?_) (fun _ => ?_)
       | refine condP_intro (fun _ => ?_) (fun _ => ?_)
       | refine callP_eq (ev_sFormatInt _ _ (by omega)) ?_
       | (refine callP_intro (ev_sOwnersIn _ _) ?_; rintro _ Sn ⟨hEn, cn, rfl, hFn⟩)
       | (refine rd_lenm rdA ?_; intro hml; rw [maxLen_eq] at hml)
       | refine rd_idxm rdA (by intro _; rfl) (by constructor <;> omega) ?_
       | refine rd_loadf rdA (by intro _; exact trivial) (by constructor <;> omega) ?_
       | refine needP_intro (by first | omega | (constructor <;> omega) | fail) ?_
       | refine And.intro ?_ ?_)
      all_goals first
        | (exfalso; omega)
        | (refine ⟨⟨(1, catS st (numS ((ownersIn x)[((0 : Nat) : Int).toNat]'hlt'))), by dsimp only; omega, by dsimp only; rw [catS_size]; omega, by dsimp only; rw [hst, catS_nil, List.take_succ_eq_append_getElem hlt]; rfl⟩, ?_, rfl, by dsimp only; omega⟩; (conv => whnf); repeat' (first | exact trivial | exact rfl | apply And.intro))
    · have hne2 : ((ownersIn x).take i).map numS ≠ [] := fun hh => by
        have := congrArg List.length hh
        rw [List.length_map, List.length_take, List.length_nil] at this
        omega
      have hz2 : (catS (catS st ⟨#[43]⟩) (numS ((ownersIn x)[((i : Nat) : Int).toNat]'hlt'))).size ≤ 64 * (i + 1) := by rw [catS_size, hcat0]; omega
      repeat' ((conv => whnf) <;> first
       | refine needP_intro (by first | (simp only [catS_size, bplus]; omega) | fail) ?_
       | rw [wrapI_i64 (by omega)]
       | (refine condP_true ?_ ?_; · assumption)
       | (refine condP_false ?_ ?_; · assumption)
       | (refine condP_nt ?_ ?_; · assumption)
       | (refine condP_nf ?_ ?_; · assumption)
       | (refine condP_decT ?_ ?_; · omega)
       | (refine condP_decF ?_ ?_; · omega)
       | (refine condP_ndT ?_ ?_; · omega)
       | (refine condP_ndF ?_ ?_; · omega)
       | refine condP_dec (fun _ => ?_) (fun _ => ?_)
       | refine condP_ndec (fun _ => ?_) (fun _ => ?_)
       | refine condP_true rfl ?_
       | refine condP_false rfl ?_
       | refine condP_not (fun _ => ?_) (fun _ => ?_)
       | refine condP_intro (fun _ => ?_) (fun _ => ?_)
       | refine callP_eq (ev_sFormatInt _ _ (by omega)) ?_
       | (refine callP_intro (ev_sOwnersIn _ _) ?_; rintro _ Sn ⟨hEn, cn, rfl, hFn⟩)
       | (refine rd_lenm rdA ?_; intro hml; rw [maxLen_eq] at hml)
       | refine rd_idxm rdA (by intro _; rfl) (by constructor <;> omega) ?_
       | refine rd_loadf rdA (by intro _; exact trivial) (by constructor <;> omega) ?_
       | refine needP_intro (by first | omega | (constructor <;> omega) | fail) ?_
       | refine And.intro ?_ ?_)
      all_goals first
        | (exfalso; omega)
        | (refine ⟨⟨(i + 1, catS (catS st ⟨#[43]⟩) (numS ((ownersIn x)[((i : Nat) : Int).toNat]'hlt'))), by dsimp only; omega, hz2, by dsimp only; rw [List.take_succ_eq_append_getElem hlt, List.map_append, List.map_cons, List.map_nil, preT_snoc _ hne2, ← hs2]; rfl⟩, ?_, rfl, by dsimp only; omega⟩; (conv => whnf); repeat' (first | exact trivial | exact rfl | apply And.intro))
  · have he : i = (ownersIn x).length := by omega
    subst he
    rw [List.take_length] at hs2
    by_cases h0 : (ownersIn x).length = 0
    · rw [show labS x = ⟨#[45]⟩ from if_pos h0]
      have hst : st = ⟨#[]⟩ := by rw [hs2, List.eq_nil_of_length_eq_zero h0]; rfl
      have heq : eqS st ⟨#[]⟩ = true := by rw [hst]; exact eqS_self _
      repeat' ((conv => whnf) <;> first
       | rw [wrapI_i64 (by omega)]
       | (refine condP_true ?_ ?_; · assumption)
       | (refine condP_false ?_ ?_; · assumption)
       | (refine condP_nt ?_ ?_; · assumption)
       | (refine condP_nf ?_ ?_; · assumption)
       | (refine condP_decT ?_ ?_; · omega)
       | (refine condP_decF ?_ ?_; · omega)
       | (refine condP_ndT ?_ ?_; · omega)
       | (refine condP_ndF ?_ ?_; · omega)
       | refine condP_dec (fun _ => ?_) (fun _ => ?_)
       | refine condP_ndec (fun _ => ?_) (fun _ => ?_)
       | refine condP_true rfl ?_
       | refine condP_false rfl ?_
       | refine condP_not (fun _ => ?_) (fun _ => ?_)
       | refine condP_intro (fun _ => ?_) (fun _ => ?_)
       | refine callP_eq (ev_sFormatInt _ _ (by omega)) ?_
       | (refine callP_intro (ev_sOwnersIn _ _) ?_; rintro _ Sn ⟨hEn, cn, rfl, hFn⟩)
       | (refine rd_lenm rdA ?_; intro hml; rw [maxLen_eq] at hml)
       | refine rd_idxm rdA (by intro _; rfl) (by constructor <;> omega) ?_
       | refine rd_loadf rdA (by intro _; exact trivial) (by constructor <;> omega) ?_
       | refine needP_intro (by first | omega | (constructor <;> omega) | fail) ?_
       | refine And.intro ?_ ?_)
      all_goals first | rfl | exact hEn | (exfalso; omega) | (exfalso; simp_all; done)
    · have hne : (ownersIn x).map numS ≠ [] := fun hh => by rw [List.map_eq_nil_iff] at hh; rw [hh] at h0; exact h0 rfl
      rw [show labS x = st from by unfold labS; rw [if_neg h0, hs2, preT_join hne]]
      have hpos : 0 < st.size := by
        rw [hs2]
        cases ho : ownersIn x with
        | nil => rw [ho] at h0; exact absurd rfl h0
        | cons a r =>
          show 0 < (tailS ⟨#[43]⟩ (numS a) (r.map numS)).size
          have h1 := tailS_ge ⟨#[43]⟩ (r.map numS) (numS a)
          have h2 := numS_pos (n := a) (owner_rg (x := x) (by rw [ho]; exact List.mem_cons_self ..))
          omega
      have heq := eqS_pos hpos
      repeat' ((conv => whnf) <;> first
       | rw [wrapI_i64 (by omega)]
       | (refine condP_true ?_ ?_; · assumption)
       | (refine condP_false ?_ ?_; · assumption)
       | (refine condP_nt ?_ ?_; · assumption)
       | (refine condP_nf ?_ ?_; · assumption)
       | (refine condP_decT ?_ ?_; · omega)
       | (refine condP_decF ?_ ?_; · omega)
       | (refine condP_ndT ?_ ?_; · omega)
       | (refine condP_ndF ?_ ?_; · omega)
       | refine condP_dec (fun _ => ?_) (fun _ => ?_)
       | refine condP_ndec (fun _ => ?_) (fun _ => ?_)
       | refine condP_true rfl ?_
       | refine condP_false rfl ?_
       | refine condP_not (fun _ => ?_) (fun _ => ?_)
       | refine condP_intro (fun _ => ?_) (fun _ => ?_)
       | refine callP_eq (ev_sFormatInt _ _ (by omega)) ?_
       | (refine callP_intro (ev_sOwnersIn _ _) ?_; rintro _ Sn ⟨hEn, cn, rfl, hFn⟩)
       | (refine rd_lenm rdA ?_; intro hml; rw [maxLen_eq] at hml)
       | refine rd_idxm rdA (by intro _; rfl) (by constructor <;> omega) ?_
       | refine rd_loadf rdA (by intro _; exact trivial) (by constructor <;> omega) ?_
       | refine needP_intro (by first | omega | (constructor <;> omega) | fail) ?_
       | refine And.intro ?_ ?_)
      all_goals first | rfl | exact hEn | (exfalso; omega) | (exfalso; simp_all; done)
/-! ### what is sent -/
def sentS (s : GSent) : ByteArray := catS (catS (catS (catS (catS (numS s.To) ⟨#[61]⟩) (numS s.Value)) ⟨#[91]⟩) (labS s.Label)) ⟨#[93]⟩
theorem cat_sent (st : ByteArray) (s : GSent) : catS (catS (catS (catS (catS (catS st (numS s.To)) ⟨#[61]⟩) (numS s.Value)) ⟨#[91]⟩) (labS s.Label)) ⟨#[93]⟩ = catS st (sentS s) := by
  unfold sentS; simp only [catS_assoc]
abbrev i64R (x : Int) : Prop := -9223372036854775808 ≤ x ∧ x ≤ 9223372036854775807
theorem sentS_size {s : GSent} (h : i64R s.To ∧ i64R s.Value) : (sentS s).size ≤ 400 := by
  have h1 := numS_size h.1
  have h2 := numS_size h.2
  have h3 := labS_size s.Label
  unfold sentS; simp only [catS_size, beq1, bopen, bshut]; omega
set_option maxHeartbeats 2000000 in
theorem ev_iSentText (l : List GSent) (c : C) (S : Store) (h : Rd S [.sl 3 (l.map GSent.d)] [c]) (hl : l.length ≤ 4194304) (hr : ∀ x ∈ l, i64R x.To ∧ i64R x.Value) : EvA Tryd.prog 11 [.s c] S (fun r S' => r = .v (.s (.str (listS (l.map sentS)))) ∧ S' = S) := by
  refine EvA.drop rfl ?_
  have hN : (l.map sentS).length ≤ 4194304 := by rw [List.length_map]; exact hl
  have hm : ∀ x ∈ l.map sentS, x.size ≤ 1000000 := fun x hx => by
    obtain ⟨y, hy, rfl⟩ := List.mem_map.1 hx
    have := sentS_size (hr y hy)
    omega
  refine evA_intro tok Tryd.func11 (by kernel_rfl) rfl ?_
  repeat' ((conv => whnf) <;> first
   | rw [wrapI_i64 (by omega)]
   | (refine condP_true ?_ ?_; · assumption)
   | (refine condP_false ?_ ?_; · assumption)
   | (refine condP_nt ?_ ?_; · assumption)
   | (refine condP_nf ?_ ?_; · assumption)
   | (refine condP_decT ?_ ?_; · omega)
   | (refine condP_decF ?_ ?_; · omega)
   | (refine condP_ndT ?_ ?_; · omega)
   | (refine condP_ndF ?_ ?_; · omega)
   | refine condP_dec (fun _ => ?_) (fun _ => ?_)
   | refine condP_ndec (fun _ => ?_) (fun _ => ?_)
   | refine condP_true rfl ?_
   | refine condP_false rfl ?_
   | refine condP_not (fun _ => ?_) (fun _ => ?_)
   | refine condP_intro (fun _ => ?_) (fun _ => ?_)
   | refine callP_eq (ev_iFormatInt _ _ (by omega)) ?_
   | refine callP_eq (ev_iFormatIntT _ _ (by omega)) ?_
   | refine callP_eq (ev_iLabelText _ _) ?_
   | refine callP_eq (ev_joined _ _ _ rdA (by assumption) (by assumption)) ?_
   | (refine rd_lenm rdA ?_; intro hml; rw [maxLen_eq] at hml)
   | refine rd_idxm rdA (by intro _; rfl) (by constructor <;> omega) ?_
   | refine rd_loadf rdA (by intro _; exact trivial) (by constructor <;> omega) ?_
   | refine needP_intro (by first | omega | (constructor <;> omega) | fail) ?_
   | refine draw_intro 13 [.fl 0, .fl 1, .fl 2, .fl 5, .fl 6, .fl 10, .fl 11, .st 3 [0, 5, 6, 10, 11], .fl 4, .st 7 [0, 10, 11, 4], .fl 8, .fl 9, .st 12 [0, 4, 8, 9], .fl 13, .fl 14, .fl 15, .st 16 [], .st 17 []] (by rfl) (by kernel_rfl) ?_
   | refine And.intro ?_ ?_)
  refine loop_intro {p : Nat × Store × C // p.1 ≤ l.length ∧ Ext S p.2.1 ∧ Fr S.length p.2.1 [.sl 1 (((l.take p.1).map sentS).map dStr)] [p.2.2]} [3, 5, 9, 10, 11, 12, 13, 14, 15, 16, 17, 18, 19, 20, 21, 22, 23, 24, 25, 26, 27, 28, 29, 30] (fun zb => [(9, .v (.s (.int .i64 (zb.1.1)))), (3, .v (.s zb.1.2.2))]) (fun zb => zb.1.2.1) (fun zb => l.length - zb.1.1) ⟨(0, _, _), Nat.zero_le _, Ext.push _ _, fr_lit0⟩ ?_ rfl ?_
  · (conv => whnf); repeat' (first | exact trivial | exact rfl | apply And.intro)
  rintro ⟨⟨i, Si, ci⟩, hi, hE, hF⟩; dsimp only
  replace hi : i ≤ l.length := hi
  replace hE : Ext S Si := hE
  replace hF : Fr S.length Si [.sl 1 (((l.take i).map sentS).map dStr)] [ci] := hF
  have hfl : ((l.take i).map sentS).length = i := by rw [List.length_map, List.length_take]; omega
  by_cases hlt : i < l.length
  · have hlt' : ((i : Nat) : Int).toNat < l.length := hlt
    have hri := hr _ (List.getElem_mem hlt')
    obtain ⟨hri1, hri2⟩ := hri
    have z1 := numS_size hri1
    have z2 := numS_size hri2
    have z3 := labS_size (l[((i : Nat) : Int).toNat]'hlt').Label
    repeat' ((conv => whnf) <;> first
     | refine needP_intro (by first | (simp only [catS_size, beq1, bopen, bshut]; omega) | fail) ?_
     | rw [wrapI_i64 (by omega)]
     | (refine condP_true ?_ ?_; · assumption)
     | (refine condP_false ?_ ?_; · assumption)
     | (refine condP_nt ?_ ?_; · assumption)
     | (refine condP_nf ?_ ?_; · assumption)
     | (refine condP_decT ?_ ?_; · omega)
     | (refine condP_decF ?_ ?_; · omega)
     | (refine condP_ndT ?_ ?_; · omega)
     | (refine condP_ndF ?_ ?_; · omega)
     | refine condP_dec (fun _ => ?_) (fun _ => ?_)
     | refine condP_ndec (fun _ => ?_) (fun _ => ?_)
     | refine condP_true rfl ?_
     | refine condP_false rfl ?_
     | refine condP_not (fun _ => ?_) (fun _ => ?_)
     | refine condP_intro (fun _ => ?_) (fun _ => ?_)
     | refine callP_eq (ev_iFormatInt _ _ (by omega)) ?_
     | refine callP_eq (ev_iFormatIntT _ _ (by omega)) ?_
     | refine callP_eq (ev_iLabelText _ _) ?_
     | refine callP_eq (ev_joined _ _ _ rdA (by assumption) (by assumption)) ?_
     | (refine rd_lenm rdA ?_; intro hml; rw [maxLen_eq] at hml)
     | refine rd_idxm rdA (by intro _; rfl) (by constructor <;> omega) ?_
     | refine rd_loadf rdA (by intro _; exact trivial) (by constructor <;> omega) ?_
     | refine needP_intro (by first | omega | (constructor <;> omega) | fail) ?_
     | refine draw_intro 13 [.fl 0, .fl 1, .fl 2, .fl 5, .fl 6, .fl 10, .fl 11, .st 3 [0, 5, 6, 10, 11], .fl 4, .st 7 [0, 10, 11, 4], .fl 8, .fl 9, .st 12 [0, 4, 8, 9], .fl 13, .fl 14, .fl 15, .st 16 [], .st 17 []] (by rfl) (by kernel_rfl) ?_
     | (refine fr_app1 (f := dStr) (x := sentS (l[((i : Nat) : Int).toNat]'hlt')) (by assumption) (by assumption) (by intro _; exact trivial) (by rfl) (by intro _; rfl) (by dsimp only [T9]; omega) (by omega) ?_; intro cN SN hEN hFN)
     | refine And.intro ?_ ?_)
    all_goals first
      | (exfalso; omega)
      | (refine ⟨⟨(i + 1, _, _), by dsimp only; omega, by assumption, by rw [List.take_succ_eq_append_getElem hlt, List.map_append]; exact hFN⟩, ?_, rfl, by dsimp only; omega⟩; (conv => whnf); repeat' (first | exact trivial | exact rfl | (show _ = _; congr 3; dsimp only; omega) | apply And.intro))
  · have he : i = l.length := by omega
    subst he
    rw [List.take_length] at hF
    repeat' ((conv => whnf) <;> first
     | rw [wrapI_i64 (by omega)]
     | (refine condP_true ?_ ?_; · assumption)
     | (refine condP_false ?_ ?_; · assumption)
     | (refine condP_nt ?_ ?_; · assumption)
     | (refine condP_nf ?_ ?_; · assumption)
     | (refine condP_decT ?_ ?_; · omega)
     | (refine condP_decF ?_ ?_; · omega)
     | (refine condP_ndT ?_ ?_; · omega)
     | (refine condP_ndF ?_ ?_; · omega)
     | refine condP_dec (fun _ => ?_) (fun _ => ?_)
     | refine condP_ndec (fun _ => ?_) (fun _ => ?_)
     | refine condP_true rfl ?_
     | refine condP_false rfl ?_
     | refine condP_not (fun _ => ?_) (fun _ => ?_)
     | refine condP_intro (fun _ => ?_) (fun _ => ?_)
     | refine callP_eq (ev_iFormatInt _ _ (by omega)) ?_
     | refine callP_eq (ev_iFormatIntT _ _ (by omega)) ?_
     | refine callP_eq (ev_iLabelText _ _) ?_
     | refine callP_eq (ev_joined _ _ _ rdA (by assumption) (by assumption)) ?_
     | (refine rd_lenm rdA ?_; intro hml; rw [maxLen_eq] at hml)
     | refine rd_idxm rdA (by intro _; rfl) (by constructor <;> omega) ?_
     | refine rd_loadf rdA (by intro _; exact trivial) (by constructor <;> omega) ?_
     | refine needP_intro (by first | omega | (constructor <;> omega) | fail) ?_
     | refine draw_intro 13 [.fl 0, .fl 1, .fl 2, .fl 5, .fl 6, .fl 10, .fl 11, .st 3 [0, 5, 6, 10, 11], .fl 4, .st 7 [0, 10, 11, 4], .fl 8, .fl 9, .st 12 [0, 4, 8, 9], .fl 13, .fl 14, .fl 15, .st 16 [], .st 17 []] (by rfl) (by kernel_rfl) ?_
     | refine And.intro ?_ ?_)
    all_goals first
      | rfl
      | exact hE
      | (exfalso; omega)
set_option maxHeartbeats 2000000 in
theorem ev_sSentText (l : List GSent) (c : C) (S : Store) (h : Rd S [.sl 3 (l.map GSent.d)] [c]) (hl : l.length ≤ 4194304) (hr : ∀ x ∈ l, i64R x.To ∧ i64R x.Value) : EvA Tryd.prog 9 [.s c] S (fun r S' => r = .v (.s (.str (listS (l.map sentS)))) ∧ S' = S) := by
  refine evA_intro tok Tryd.func9 (by kernel_rfl) rfl ?_
  repeat' ((conv => whnf) <;> first
   | rw [wrapI_i64 (by omega)]
   | (refine condP_true ?_ ?_; · assumption)
   | (refine condP_false ?_ ?_; · assumption)
   | (refine condP_nt ?_ ?_; · assumption)
   | (refine condP_nf ?_ ?_; · assumption)
   | (refine condP_decT ?_ ?_; · omega)
   | (refine condP_decF ?_ ?_; · omega)
   | (refine condP_ndT ?_ ?_; · omega)
   | (refine condP_ndF ?_ ?_; · omega)
   | refine condP_dec (fun _ => ?_) (fun _ => ?_)
   | refine condP_ndec (fun _ => ?_) (fun _ => ?_)
   | refine condP_true rfl ?_
   | refine condP_false rfl ?_
   | refine condP_not (fun _ => ?_) (fun _ => ?_)
   | refine condP_intro (fun _ => ?_) (fun _ => ?_)
   | refine callP_eq (ev_sFormatInt _ _ (by omega)) ?_
   | refine callP_eq (ev_sLabelText _ _) ?_
   | (refine rd_lenm (by assumption) ?_; intro hml; rw [maxLen_eq] at hml)
   | refine rd_idxm (by assumption) (by intro _; rfl) (by constructor <;> omega) ?_
   | refine rd_loadf (by assumption) (by intro _; exact trivial) (by constructor <;> omega) ?_
   | refine needP_intro (by first | omega | (constructor <;> omega) | fail) ?_
   | refine draw_intro 15 [.fl 0, .fl 1, .fl 2, .fl 3, .fl 4, .fl 5, .fl 9, .fl 10, .fl 11, .fl 12, .fl 13, .fl 17, .fl 18, .fl 19, .fl 20, .fl 21, .st 6 [0, 9, 10, 11, 12, 13, 17, 18, 19, 20, 21], .fl 7, .fl 8, .st 14 [0, 17, 18, 19, 20, 21, 7, 8], .fl 15, .fl 16, .st 22 [0, 7, 8, 15, 16], .fl 23, .fl 24, .st 25 []] (by rfl) (by kernel_rfl) ?_
   | refine And.intro ?_ ?_)
  refine loop_intro {p : Nat × ByteArray // p.1 ≤ l.length ∧ p.2.size ≤ 512 * p.1 ∧ p.2 = preT ⟨#[32]⟩ ((l.take p.1).map sentS)} [3, 4, 5, 6, 7, 8, 9, 10, 11, 12, 13, 14, 15, 16, 17, 18, 19, 20, 21, 22, 23, 24, 25, 26, 27, 28, 29, 30, 31, 32, 33, 34, 35, 36, 37, 38, 39] (fun zb => [(4, .v (.s (.int .i64 (zb.1.1)))), (3, .v (.s (.str zb.1.2)))]) (fun _ => S) (fun zb => l.length - zb.1.1) ⟨(0, ⟨#[]⟩), Nat.zero_le _, ⟨Nat.zero_le _, rfl⟩⟩ ?_ rfl ?_
  · (conv => whnf); repeat' (first | exact trivial | exact rfl | apply And.intro)
  rintro ⟨⟨i, st⟩, hi, hinv⟩; dsimp only
  replace hi : i ≤ l.length := hi; dsimp only at hinv
  obtain ⟨hs1, hs2⟩ := hinv
  by_cases hlt : i < l.length
  · have hlt' : ((i : Nat) : Int).toNat < l.length := hlt
    have hri := hr _ (List.getElem_mem hlt')
    have hss := sentS_size hri
    obtain ⟨hri1, hri2⟩ := hri
    have z1 := numS_size hri1
    have z2 := numS_size hri2
    have z3 := labS_size (l[((i : Nat) : Int).toNat]'hlt').Label
    have hcat0 : (catS st ⟨#[32]⟩).size = st.size + 1 := by rw [catS_size, bspace]
    by_cases h0 : i = 0
    · subst h0
      have hst : st = ⟨#[]⟩ := hs2
      have hz : st.size = 0 := by rw [hst]; rfl
      repeat' ((conv => whnf) <;> first
       | refine needP_intro (by first | (simp only [catS_size, bspace, beq1, bopen, bshut]; omega) | fail) ?_
       | rw [wrapI_i64 (by omega)]
       | (refine condP_true ?_ ?_; · assumption)
       | (refine condP_false ?_ ?_; · assumption)
       | (refine condP_nt ?_ ?_; · assumption)
       | (refine condP_nf ?_ ?_; · assumption)
       | (refine condP_decT ?_ ?_; · omega)
       | (refine condP_decF ?_ ?_; · omega)
       | (refine condP_ndT ?_ ?_; · omega)
       | (refine condP_ndF ?_ ?_; · omega)
       | refine condP_dec (fun _ => ?_) (fun _ => ?_)
       | refine condP_ndec (fun _ => ?_) (fun _ => ?_)
       | refine condP_true rfl ?_
       | refine condP_false rfl ?_
       | refine condP_not (fun _ => ?_) (fun _ => ?_)
       | refine condP_intro (fun _ => ?_) (fun _ => ?_)
       | refine callP_eq (ev_sFormatInt _ _ (by omega)) ?_
       | refine callP_eq (ev_sLabelText _ _) ?_
       | (refine rd_lenm (by assumption) ?_; intro hml; rw [maxLen_eq] at hml)
       | refine rd_idxm (by assumption) (by intro _; rfl) (by constructor <;> omega) ?_
       | refine rd_loadf (by assumption) (by intro _; exact trivial) (by constructor <;> omega) ?_
       | refine needP_intro (by first | omega | (constructor <;> omega) | fail) ?_
       | refine draw_intro 15 [.fl 0, .fl 1, .fl 2, .fl 3, .fl 4, .fl 5, .fl 9, .fl 10, .fl 11, .fl 12, .fl 13, .fl 17, .fl 18, .fl 19, .fl 20, .fl 21, .st 6 [0, 9, 10, 11, 12, 13, 17, 18, 19, 20, 21], .fl 7, .fl 8, .st 14 [0, 17, 18, 19, 20, 21, 7, 8], .fl 15, .fl 16, .st 22 [0, 7, 8, 15, 16], .fl 23, .fl 24, .st 25 []] (by rfl) (by kernel_rfl) ?_
       | refine And.intro ?_ ?_)
      all_goals first
        | (exfalso; omega)
        | (rw [cat_sent]; refine ⟨⟨(1, catS st (sentS (l[((0 : Nat) : Int).toNat]'hlt'))), by dsimp only; omega, by dsimp only; rw [catS_size]; omega, by dsimp only; rw [hst, catS_nil, List.take_succ_eq_append_getElem hlt]; rfl⟩, ?_, rfl, by dsimp only; omega⟩; (conv => whnf); repeat' (first | exact trivial | exact rfl | apply And.intro))
    · have hne2 : (l.take i).map sentS ≠ [] := fun hh => by
        have := congrArg List.length hh
        rw [List.length_map, List.length_take, List.length_nil] at this
        omega
      have hz2 : (catS (catS st ⟨#[32]⟩) (sentS (l[((i : Nat) : Int).toNat]'hlt'))).size ≤ 512 * (i + 1) := by rw [catS_size, hcat0]; omega
      repeat' ((conv => whnf) <;> first
       | refine needP_intro (by first | (simp only [catS_size, bspace, beq1, bopen, bshut]; omega) | fail) ?_
       | rw [wrapI_i64 (by omega)]
       | (refine condP_true ?_ ?_; · assumption)
       | (refine condP_false ?_ ?_; · assumption)
       | (refine condP_nt ?_ ?_; · assumption)
       | (refine condP_nf ?_ ?_; · assumption)
       | (refine condP_decT ?_ ?_; · omega)
       | (refine condP_decF ?_ ?_; · omega)
       | (refine condP_ndT ?_ ?_; · omega)
       | (refine condP_ndF ?_ ?_; · omega)
       | refine condP_dec (fun _ => ?_) (fun _ => ?_)
       | refine condP_ndec (fun _ => ?_) (fun _ => ?_)
       | refine condP_true rfl ?_
       | refine condP_false rfl ?_
       | refine condP_not (fun _ => ?_) (fun _ => ?_)
       | refine condP_intro (fun _ => ?_) (fun _ => ?_)
       | refine callP_eq (ev_sFormatInt _ _ (by omega)) ?_
       | refine callP_eq (ev_sLabelText _ _) ?_
       | (refine rd_lenm (by assumption) ?_; intro hml; rw [maxLen_eq] at hml)
       | refine rd_idxm (by assumption) (by intro _; rfl) (by constructor <;> omega) ?_
       | refine rd_loadf (by assumption) (by intro _; exact trivial) (by constructor <;> omega) ?_
       | refine needP_intro (by first | omega | (constructor <;> omega) | fail) ?_
       | refine draw_intro 15 [.fl 0, .fl 1, .fl 2, .fl 3, .fl 4, .fl 5, .fl 9, .fl 10, .fl 11, .fl 12, .fl 13, .fl 17, .fl 18, .fl 19, .fl 20, .fl 21, .st 6 [0, 9, 10, 11, 12, 13, 17, 18, 19, 20, 21], .fl 7, .fl 8, .st 14 [0, 17, 18, 19, 20, 21, 7, 8], .fl 15, .fl 16, .st 22 [0, 7, 8, 15, 16], .fl 23, .fl 24, .st 25 []] (by rfl) (by kernel_rfl) ?_
       | refine And.intro ?_ ?_)
      all_goals first
        | (exfalso; omega)
        | (rw [cat_sent]; refine ⟨⟨(i + 1, catS (catS st ⟨#[32]⟩) (sentS (l[((i : Nat) : Int).toNat]'hlt'))), by dsimp only; omega, hz2, by dsimp only; rw [List.take_succ_eq_append_getElem hlt, List.map_append, List.map_cons, List.map_nil, preT_snoc _ hne2, ← hs2]; rfl⟩, ?_, rfl, by dsimp only; omega⟩; (conv => whnf); repeat' (first | exact trivial | exact rfl | apply And.intro))
  · have he : i = l.length := by omega
    subst he
    rw [List.take_length] at hs2
    by_cases h0 : l.length = 0
    · rw [show listS (l.map sentS) = ⟨#[45]⟩ from by unfold listS; rw [if_pos (by rw [List.length_map]; exact h0)]]
      repeat' ((conv => whnf) <;> first
       | rw [wrapI_i64 (by omega)]
       | (refine condP_true ?_ ?_; · assumption)
       | (refine condP_false ?_ ?_; · assumption)
       | (refine condP_nt ?_ ?_; · assumption)
       | (refine condP_nf ?_ ?_; · assumption)
       | (refine condP_decT ?_ ?_; · omega)
       | (refine condP_decF ?_ ?_; · omega)
       | (refine condP_ndT ?_ ?_; · omega)
       | (refine condP_ndF ?_ ?_; · omega)
       | refine condP_dec (fun _ => ?_) (fun _ => ?_)
       | refine condP_ndec (fun _ => ?_) (fun _ => ?_)
       | refine condP_true rfl ?_
       | refine condP_false rfl ?_
       | refine condP_not (fun _ => ?_) (fun _ => ?_)
       | refine condP_intro (fun _ => ?_) (fun _ => ?_)
       | refine callP_eq (ev_sFormatInt _ _ (by omega)) ?_
       | refine callP_eq (ev_sLabelText _ _) ?_
       | (refine rd_lenm (by assumption) ?_; intro hml; rw [maxLen_eq] at hml)
       | refine rd_idxm (by assumption) (by intro _; rfl) (by constructor <;> omega) ?_
       | refine rd_loadf (by assumption) (by intro _; exact trivial) (by constructor <;> omega) ?_
       | refine needP_intro (by first | omega | (constructor <;> omega) | fail) ?_
       | refine draw_intro 15 [.fl 0, .fl 1, .fl 2, .fl 3, .fl 4, .fl 5, .fl 9, .fl 10, .fl 11, .fl 12, .fl 13, .fl 17, .fl 18, .fl 19, .fl 20, .fl 21, .st 6 [0, 9, 10, 11, 12, 13, 17, 18, 19, 20, 21], .fl 7, .fl 8, .st 14 [0, 17, 18, 19, 20, 21, 7, 8], .fl 15, .fl 16, .st 22 [0, 7, 8, 15, 16], .fl 23, .fl 24, .st 25 []] (by rfl) (by kernel_rfl) ?_
       | refine And.intro ?_ ?_)
      all_goals first | rfl | (exfalso; omega)
    · rw [show listS (l.map sentS) = st from by unfold listS; rw [if_neg (by rw [List.length_map]; exact h0), hs2, preT_join (by intro hh; rw [List.map_eq_nil_iff] at hh; rw [hh] at h0; exact h0 rfl)]]
      repeat' ((conv => whnf) <;> first
       | rw [wrapI_i64 (by omega)]
       | (refine condP_true ?_ ?_; · assumption)
       | (refine condP_false ?_ ?_; · assumption)
       | (refine condP_nt ?_ ?_; · assumption)
       | (refine condP_nf ?_ ?_; · assumption)
       | (refine condP_decT ?_ ?_; · omega)
       | (refine condP_decF ?_ ?_; · omega)
       | (refine condP_ndT ?_ ?_; · omega)
       | (refine condP_ndF ?_ ?_; · omega)
       | refine condP_dec (fun _ => ?_) (fun _ => ?_)
       | refine condP_ndec (fun _ => ?_) (fun _ => ?_)
       | refine condP_true rfl ?_
       | refine condP_false rfl ?_
       | refine condP_not (fun _ => ?_) (fun _ => ?_)
       | refine condP_intro (fun _ => ?_) (fun _ => ?_)
       | refine callP_eq (ev_sFormatInt _ _ (by omega)) ?_
       | refine callP_eq (ev_sLabelText _ _) ?_
       | (refine rd_lenm (by assumption) ?_; intro hml; rw [maxLen_eq] at hml)
       | refine rd_idxm (by assumption) (by intro _; rfl) (by constructor <;> omega) ?_
       | refine rd_loadf (by assumption) (by intro _; exact trivial) (by constructor <;> omega) ?_
       | refine needP_intro (by first | omega | (constructor <;> omega) | fail) ?_
       | refine draw_intro 15 [.fl 0, .fl 1, .fl 2, .fl 3, .fl 4, .fl 5, .fl 9, .fl 10, .fl 11, .fl 12, .fl 13, .fl 17, .fl 18, .fl 19, .fl 20, .fl 21, .st 6 [0, 9, 10, 11, 12, 13, 17, 18, 19, 20, 21], .fl 7, .fl 8, .st 14 [0, 17, 18, 19, 20, 21, 7, 8], .fl 15, .fl 16, .st 22 [0, 7, 8, 15, 16], .fl 23, .fl 24, .st 25 []] (by rfl) (by kernel_rfl) ?_
       | refine And.intro ?_ ?_)
      all_goals first | rfl | (exfalso; omega)
end Go.Proofs.YtakmoigpjaceeaaDoor
