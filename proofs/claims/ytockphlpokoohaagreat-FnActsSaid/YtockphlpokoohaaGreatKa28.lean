/- The reference's insertion into a list of numbers in order. -/
import Derived.Test.YtockphlpokoohaaGreatKa27
import Derived.Test.YtockphlpokoohaaGreatKa23
namespace Go.Proofs.YtockphlpokoohaaGreat
open Go Go.ChangeShapes Go.WideShapes Go.ChangeAt Go.RowKit
set_option linter.unusedVariables false
set_option linter.unusedSimpArgs false
set_option maxRecDepth 100000
def posI (n : Int) : List Int → Nat
  | [] => 0
  | x :: r => if x < n then 1 + posI n r else 0
theorem posI_le (n : Int) : ∀ l : List Int, posI n l ≤ l.length
  | [] => Nat.le_refl _
  | x :: r => by
    rw [posI]
    split
    · have := posI_le n r; rw [List.length_cons]; omega
    · exact Nat.zero_le _
def putI (l : List Int) (n : Int) : List Int := if l[posI n l]? = some n then l else l.take (posI n l) ++ n :: l.drop (posI n l)
theorem putI_len (l : List Int) (n : Int) : (putI l n).length ≤ l.length + 1 := by
  unfold putI
  have := posI_le n l
  split
  · omega
  · simp only [List.length_append, List.length_cons, List.length_take, List.length_drop]; omega
theorem putI_cons (x n : Int) (r : List Int) : putI (x :: r) n = if x < n then x :: putI r n else if x = n then x :: r else n :: x :: r := by
  unfold putI
  rw [posI]
  split
  · rw [Nat.add_comm 1, List.getElem?_cons_succ, List.take_succ_cons, List.drop_succ_cons]
    split <;> rfl
  · rw [List.getElem?_cons_zero]
    by_cases h : x = n
    · rw [if_pos (by rw [h]), if_pos h]
    · rw [if_neg (by simpa using h), if_neg h]; rfl
theorem mem_putI (y n : Int) : ∀ l : List Int, y ∈ putI l n ↔ y = n ∨ y ∈ l
  | [] => by simp [putI, posI]
  | x :: r => by
    rw [putI_cons]
    split
    · rw [List.mem_cons, mem_putI y n r, List.mem_cons]
      constructor <;> (intro h; rcases h with h | h | h <;> simp [h])
    · split
      · rename_i h; subst h; simp
      · simp [List.mem_cons]
theorem putI_asc (n : Int) : ∀ {l : List Int}, l.Pairwise (· < ·) → (putI l n).Pairwise (· < ·)
  | [], _ => by simp [putI, posI]
  | x :: r, h => by
    rw [List.pairwise_cons] at h
    rw [putI_cons]
    split
    · rename_i hx
      rw [List.pairwise_cons]
      refine ⟨fun y hy => ?_, putI_asc n h.2⟩
      rcases (mem_putI y n r).1 hy with rfl | hy
      · exact hx
      · exact h.1 y hy
    · split
      · exact List.pairwise_cons.2 h
      · rename_i h1 h2
        rw [List.pairwise_cons]
        refine ⟨fun y hy => ?_, List.pairwise_cons.2 h⟩
        rcases List.mem_cons.1 hy with rfl | hy
        · omega
        · have := h.1 y hy; omega
set_option maxHeartbeats 2000000 in
theorem ev_l6Put (l : List Int) (n : Int) (c : C) (S : Store) (h : Rd S [.sl 1 (l.map dInt)] [c]) (hz : l.length ≤ 4194304) : EvA Tryz.prog 323 [.s c, .s (.int .i64 n)] S (fun r S' => Ext S S' ∧ ∃ c', r = .v (.s c') ∧ Fr S.length S' [.sl 1 ((putI l n).map dInt)] [c']) := by
  have hp := posI_le n l
  refine evA_intro tok Tryz.func323 (by kernel_rfl) rfl ?_
  skip
  refine loop_intro {i : Nat // i ≤ l.length ∧ i + posI n (l.drop i) = posI n l} [5, 6, 7, 8, 9, 10, 11, 12, 13, 14, 15, 16, 17, 18, 19] (fun zb => [(5, .v (.s (.int .i64 zb.1)))]) (fun _ => S) (fun zb => l.length - zb.1) ⟨0, Nat.zero_le _, by simp⟩ ?_ rfl ?_
  · (conv => whnf); repeat' (first | exact trivial | exact rfl | apply And.intro)
  rintro ⟨i, hi, hinv⟩; dsimp only
  by_cases hlt : i < l.length
  · have hlt' : ((i : Nat) : Int).toNat < l.length := hlt
    rw [drop_at hlt, posI] at hinv
    by_cases hc : l[((i : Nat) : Int).toNat]'hlt' < n
    · rw [if_pos (by simpa using hc)] at hinv
      repeat' ((conv => whnf) <;> first
       | rw [wrapI_i64 (by omega)] | (show CondP _ _ _; refine cS ?_) | refine rE fun hml => ?_ | refine rI rdA rf ix ?_ | refine rd_loadf rdA tv ix ?_)
      all_goals first
        | (refine ⟨⟨i + 1, by omega, by omega⟩, ?_, rfl, by simp; omega⟩; (conv => whnf); repeat' (first | exact trivial | exact rfl | apply And.intro))
        | (exfalso; omega)
    · rw [if_neg (by simpa using hc), Nat.add_zero] at hinv
      by_cases he : l[((i : Nat) : Int).toNat]'hlt' = n
      · rw [show putI l n = l from by
          unfold putI
          rw [← hinv, if_pos]
          rw [List.getElem?_eq_getElem hlt]; exact congrArg some he]
        repeat' ((conv => whnf) <;> first
         | (show CondP _ _ _; refine cS ?_) | refine rE fun hml => ?_ | refine rI rdA rf ix ?_ | refine rd_loadf rdA tv ix ?_ | (refine rd_elemsf (f := dInt) rdA tv (fun _ => ?_)) | (refine fr_clone (f := dInt) tv rf (by dsimp only [T3]; omega) om ?_; intro cX SX hEX hFX) | refine And.intro ?_ ?_)
        all_goals first
          | assumption
          | exact ⟨_, rfl, by assumption⟩
          | (exfalso; omega)
      · rw [show putI l n = l.take i ++ n :: l.drop i from by
          unfold putI
          rw [← hinv, if_neg]
          rw [List.getElem?_eq_getElem hlt]; intro hh; exact he (Option.some.inj hh)]
        obtain ⟨cH, hcH, hH⟩ := rd_slhx (n := 1) (lo := (i : Int)) h (by intro _; rfl) (by omega)
        rw [Int.toNat_natCast] at hH
        repeat' ((conv => whnf) <;> first
         | (refine rd_slhe hcH rdA rf om ?_) | (show CondP _ _ _; refine cS ?_) | refine rE fun hml => ?_ | refine rI rdA rf ix ?_ | refine rd_loadf rdA tv ix ?_ | (refine rd_slif rdA rf om ?_; intro cSl hSl) | refine draw_intro 35 [.fl 0, .fl 1, .fl 2, .fl 3, .fl 5, .fl 6, .fl 8, .fl 9, .fl 10, .st 4 [5, 6, 8, 9, 10], .st 7 [8, 9, 10], .st 11 [], .st 12 []] (by rfl) (by kernel_rfl) ?_ | (refine rd_elemsf (f := dInt) rdA tv (fun _ => ?_)) | (refine fr_clone (f := dInt) (l := l.take i) tv rf (by dsimp only [T3]; rw [List.length_take]; omega) (by rw [List.length_take]; omega) ?_; intro cX SX hEX hFX) | (refine fr_app_flat (f := dInt) (m := [n]) tv (by assumption) (by assumption) (by rfl) rf (by dsimp only [T3]; simp only [List.length_take, List.length_drop, List.length_cons, List.length_nil]; omega) (by rw [maxLen_eq]; simp only [List.length_take, List.length_drop, List.length_cons, List.length_nil]; omega) ?_; intro cA SA hEA hFA hlA) | (refine fr_app_flat (f := dInt) (m := l.drop i) tv (by assumption) (by assumption) (by rfl) rf (by dsimp only [T3]; simp only [List.length_append, List.length_take, List.length_drop, List.length_cons, List.length_nil]; omega) (by rw [maxLen_eq]; simp only [List.length_append, List.length_take, List.length_drop, List.length_cons, List.length_nil]; omega) ?_; intro cB SB hEB hFB hlB) | refine And.intro ?_ ?_)
        all_goals first
          | assumption
          | (rw [List.append_assoc] at hFB; exact ⟨_, rfl, hFB⟩)
          | (exfalso; omega)
  · have he : i = l.length := by omega
    subst he
    rw [drop_end (Nat.le_refl _), posI, Nat.add_zero] at hinv
    rw [show putI l n = l.take l.length ++ n :: l.drop l.length from by
      unfold putI
      rw [← hinv, if_neg]
      rw [List.getElem?_eq_none (Nat.le_refl _)]; intro hh; cases hh]
    obtain ⟨cH, hcH, hH⟩ := rd_slhx (n := 1) (lo := (l.length : Int)) h (by intro _; rfl) (by omega)
    rw [Int.toNat_natCast] at hH
    repeat' ((conv => whnf) <;> first
     | (refine rd_slhe hcH rdA rf om ?_) | (show CondP _ _ _; refine cS ?_) | refine cF ?_ | refine rE fun hml => ?_ | (refine rd_slif rdA rf om ?_; intro cSl hSl) | refine draw_intro 35 [.fl 0, .fl 1, .fl 2, .fl 3, .fl 5, .fl 6, .fl 8, .fl 9, .fl 10, .st 4 [5, 6, 8, 9, 10], .st 7 [8, 9, 10], .st 11 [], .st 12 []] (by rfl) (by kernel_rfl) ?_ | (refine rd_elemsf (f := dInt) rdA tv (fun _ => ?_)) | (refine fr_clone (f := dInt) (l := l.take l.length) tv rf (by dsimp only [T3]; rw [List.length_take]; omega) (by rw [List.length_take]; omega) ?_; intro cX SX hEX hFX) | (refine fr_app_flat (f := dInt) (m := [n]) tv (by assumption) (by assumption) (by rfl) rf (by dsimp only [T3]; simp only [List.length_take, List.length_drop, List.length_cons, List.length_nil]; omega) (by rw [maxLen_eq]; simp only [List.length_take, List.length_drop, List.length_cons, List.length_nil]; omega) ?_; intro cA SA hEA hFA hlA) | (refine fr_app_flat (f := dInt) (m := l.drop l.length) tv (by assumption) (by assumption) (by rfl) rf (by dsimp only [T3]; simp only [List.length_append, List.length_take, List.length_drop, List.length_cons, List.length_nil]; omega) (by rw [maxLen_eq]; simp only [List.length_append, List.length_take, List.length_drop, List.length_cons, List.length_nil]; omega) ?_; intro cB SB hEB hFB hlB) | refine And.intro ?_ ?_)
    all_goals first
      | assumption
      | (rw [List.append_assoc] at hFB; exact ⟨_, rfl, hFB⟩)
      | (exfalso; omega)
end Go.Proofs.YtockphlpokoohaaGreat
