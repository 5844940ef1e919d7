/- Numbers and sites as text. -/
import Derived.Lib.ItoaNum
import Derived.Test.YtakmoigpjaceeaaDoorFnA
namespace Go.Proofs.YtakmoigpjaceeaaDoor
open Go Go.ChangeShapes Go.WideShapes Go.ChangeAt Go.RowKit
set_option linter.unusedVariables false
set_option maxRecDepth 100000

theorem digs_len : ∀ (k u : Nat), u < 10 ^ (k + 1) → (Lib.decDigits u).length ≤ k + 1
  | 0, u, h => by
    rw [Lib.decDigits, dif_pos (by simpa using h)]; simp
  | k + 1, u, h => by
    rw [Lib.decDigits]
    split
    · simp
    · have := digs_len k (u / 10) (by rw [Nat.pow_succ] at h; omega)
      rw [List.length_append]; simp only [List.length_cons, List.length_nil]; omega
def numS (n : Int) : ByteArray := ⟨(Lib.itoa n).toArray⟩
theorem numS_size {n : Int} (h : -9223372036854775808 ≤ n ∧ n ≤ 9223372036854775807) : (numS n).size ≤ 21 := by
  have e : (numS n).size = (Lib.itoa n).length := rfl
  rw [e]
  unfold Lib.itoa
  split
  · have := digs_len 19 n.natAbs (by omega)
    simp only [List.length_cons]; omega
  · have := digs_len 19 n.toNat (by omega)
    omega
def digR (x : Int) : List UInt8 := if x = 0 then [] else Lib.decDigits x.natAbs
theorem digR_step {x : Int} (hx : x ≠ 0) : digR x = digR (x.tdiv 10) ++ [UInt8.ofNat (48 + x.natAbs % 10)] := by
  unfold digR
  rw [if_neg hx]
  have e : (x.tdiv 10).natAbs = x.natAbs / 10 := by rw [Int.natAbs_tdiv]; rfl
  by_cases h : x.natAbs < 10
  · rw [Lib.decDigits, dif_pos h]
    rw [if_pos (by omega)]
    rw [Nat.mod_eq_of_lt h]; rfl
  · rw [Lib.decDigits, dif_neg h, if_neg (by omega), e]
theorem tmod_abs (x : Int) : (Int.tmod x 10).natAbs = x.natAbs % 10 := by
  rw [Int.natAbs_tmod]; rfl
theorem tmod_bd (x : Int) : -9 ≤ Int.tmod x 10 ∧ Int.tmod x 10 ≤ 9 := by
  have := tmod_abs x
  omega
theorem tdiv_abs (x : Int) : (Int.tdiv x 10).natAbs = x.natAbs / 10 := by rw [Int.natAbs_tdiv]; rfl
theorem digR_len {x : Int} (h : -9223372036854775808 ≤ x ∧ x ≤ 9223372036854775807) : (digR x).length ≤ 20 := by
  unfold digR
  split
  · simp
  · have := digs_len 19 x.natAbs (by omega)
    omega
theorem digR_num {n : Int} (h0 : n ≠ 0) : Lib.itoa n = if n < 0 then 45 :: digR n else digR n := by
  unfold Lib.itoa digR
  rw [if_neg h0]
  split
  · rfl
  · rw [show n.toNat = n.natAbs from by omega]
theorem catS_list (a b : ByteArray) : (catS a b).data.toList = a.data.toList ++ b.data.toList := by unfold catS; simp [ByteArray.data_append]
theorem ba_ext {a b : ByteArray} (h : a.data.toList = b.data.toList) : a = b := by
  cases a; cases b; congr; exact Array.toList_inj.mp h
theorem numS_list (n : Int) : (numS n).data.toList = Lib.itoa n := rfl
theorem strOf_one (d : Int) : (strOf [[.int .u8 d]]).data.toList = [UInt8.ofNat d.toNat] := by unfold strOf bytesOf bytesOf; rfl
theorem wrapI_u8 {n : Int} (h : 0 ≤ n ∧ n ≤ 255) : wrapI .u8 n = n := by
  unfold wrapI
  exact IntWalk.u8_in n (by omega)
theorem cat_one (d : Int) (s : ByteArray) (h : s.size ≤ 20) : (strOf [[.int .u8 d]]).size + s.size ≤ 9223372036854775807 := by
  have e : (strOf [[.int .u8 d]]).size = (strOf [[.int .u8 d]]).data.toList.length := rfl
  rw [e, strOf_one]; simp only [List.length_cons, List.length_nil]; omega
theorem cat_min (s : ByteArray) (h : s.size ≤ 20) : (ByteArray.mk #[45]).size + s.size ≤ 9223372036854775807 := by show 1 + s.size ≤ _; omega
theorem one_u8 (d : Int) : ∀ y ∈ [[C.int .u8 d]], ∃ n, y = [C.int .u8 n] := fun y h => ⟨d, by simpa using h⟩
theorem size_list (a : ByteArray) : a.size = a.data.toList.length := rfl
theorem fi_step {x n E : Int} {s : ByteArray} (hx : x ≠ 0) (w : wrapI .i64 (x.tdiv 10) = x.tdiv 10) (hE : E = 48 + ((x.natAbs % 10 : Nat) : Int)) (hinv : digR x ++ s.data.toList = digR n) : digR (wrapI .i64 (x.tdiv 10)) ++ (catS (strOf [[.int .u8 E]]) s).data.toList = digR n := by
  rw [w, catS_list, strOf_one, ← hinv, digR_step hx, List.append_assoc, hE, show (48 + ((x.natAbs % 10 : Nat) : Int)).toNat = 48 + x.natAbs % 10 from by omega]
set_option maxHeartbeats 2000000 in
theorem ev_sFormatInt (n : Int) (S : Store) (h : -9223372036854775808 ≤ n ∧ n ≤ 9223372036854775807) : EvA Tryd.prog 14 [.s (.int .i64 n)] S (fun r S' => r = .v (.s (.str (numS n))) ∧ S' = S) := by
  refine evA_intro tok Tryd.func14 (by kernel_rfl) rfl ?_
  have num0 : numS 0 = ⟨#[48]⟩ := by
    apply ba_ext; rw [numS_list]; unfold Lib.itoa; rw [if_neg (by decide), Lib.decDigits, dif_pos (by decide)]; rfl
  repeat' ((conv => whnf) <;> first
   | rw [wrapI_i64 (by omega)]
   | refine condP_dec (fun _ => ?_) (fun _ => ?_)
   | refine condP_ndec (fun _ => ?_) (fun _ => ?_)
   | refine condP_true rfl ?_
   | refine condP_false rfl ?_
   | refine condP_not (fun _ => ?_) (fun _ => ?_)
   | refine condP_intro (fun _ => ?_) (fun _ => ?_)
   | refine needP_intro (by first | omega | (constructor <;> omega) | fail) ?_
   | refine And.intro ?_ ?_)
  · rename_i h0
    subst h0
    rw [num0]; rfl
  · rename_i h0
    refine loop_intro {p : Int × ByteArray // (-9223372036854775808 ≤ p.1 ∧ p.1 ≤ 9223372036854775807) ∧ digR p.1 ++ p.2.data.toList = digR n} [3, 4, 5, 9, 10, 11, 12, 13, 14, 15, 16, 17, 18, 19, 20, 21, 22, 23, 24, 25] (fun zb => [(4, .v (.s (.int .i64 zb.1.1))), (3, .v (.s (.str zb.1.2)))]) (fun _ => S) (fun zb => zb.1.1.natAbs) ⟨(n, ⟨#[]⟩), h, by simp⟩ ?_ rfl ?_
    · (conv => whnf); repeat' (first | exact trivial | exact rfl | apply And.intro)
    rintro ⟨⟨x, s⟩, hx, hinv⟩; dsimp only
    replace hx : -9223372036854775808 ≤ x ∧ x ≤ 9223372036854775807 := hx
    replace hinv : digR x ++ s.data.toList = digR n := hinv
    have hsz : s.size ≤ 20 := by
      have := digR_len h
      rw [← hinv, List.length_append] at this
      rw [size_list]; omega
    have hm := tmod_bd x
    have hma := tmod_abs x
    have hda := tdiv_abs x
    have w1 : wrapI .i64 (Int.tdiv x 10) = Int.tdiv x 10 := wrapI_i64 (by omega)
    have hq : -9 ≤ Int.tmod x 10 → Int.tmod x 10 < 0 → wrapI .u8 (wrapI .i64 (48 + wrapI .i64 (0 - Int.tmod x 10))) = 48 + ((x.natAbs % 10 : Nat) : Int) := fun _ _ => by
      rw [wrapI_i64 (n := 0 - Int.tmod x 10) (by omega), wrapI_i64 (by omega), wrapI_u8 (by omega)]; omega
    have hp : ¬ Int.tmod x 10 < 0 → wrapI .u8 (48 + Int.tmod x 10) = 48 + ((x.natAbs % 10 : Nat) : Int) := fun _ => by
      rw [wrapI_u8 (by omega)]; omega
    repeat' ((conv => whnf) <;> first
     | refine needP_intro (one_u8 _) ?_
     | refine needP_intro (cat_min _ (by assumption)) ?_
     | refine needP_intro (cat_one _ _ (by assumption)) ?_
     | rw [wrapI_i64 (by omega)]
     | refine condP_dec (fun _ => ?_) (fun _ => ?_)
     | refine condP_ndec (fun _ => ?_) (fun _ => ?_)
     | refine condP_true rfl ?_
     | refine condP_false rfl ?_
     | refine condP_not (fun _ => ?_) (fun _ => ?_)
     | refine condP_intro (fun _ => ?_) (fun _ => ?_)
     | refine needP_intro (by first | omega | (constructor <;> omega) | fail) ?_
     | (fail)
     | refine And.intro ?_ ?_)
    · rename_i hx0 hneg
      refine ⟨⟨(wrapI .i64 (Int.tdiv x 10), catS (strOf [[.int .u8 (wrapI .u8 (wrapI .i64 (48 + wrapI .i64 (0 - Int.tmod x 10))))]]) s), ⟨by rw [w1]; omega, fi_step hx0 w1 (hq hm.1 hneg) hinv⟩⟩, ?_, rfl, by dsimp only; rw [w1]; omega⟩
      (conv => whnf); repeat' (first | exact trivial | exact rfl | apply And.intro)
    · rename_i hx0 hneg
      refine ⟨⟨(Int.tdiv x 10, catS (strOf [[.int .u8 (wrapI .u8 (48 + Int.tmod x 10))]]) s), ⟨by dsimp only; omega, w1 ▸ fi_step hx0 w1 (hp hneg) hinv⟩⟩, ?_, rfl, by dsimp only; omega⟩
      (conv => whnf); repeat' (first | exact trivial | exact rfl | apply And.intro)
    · rename_i hx0 hneg
      have hs : s.data.toList = digR n := by rw [hx0] at hinv; exact hinv
      have e : catS (ByteArray.mk #[45]) s = numS n := by
        apply ba_ext; rw [catS_list, numS_list, digR_num h0, if_pos hneg, hs]; rfl
      rw [e]; rfl
    · rename_i hx0 hneg
      have hs : s.data.toList = digR n := by rw [hx0] at hinv; exact hinv
      have e : s = numS n := by
        apply ba_ext; rw [numS_list, digR_num h0, if_neg hneg, hs]
      rw [e]; rfl
theorem numS_dig {n : Int} (h : 0 ≤ n ∧ n ≤ 9) : cutS (ByteArray.mk #[48, 49, 50, 51, 52, 53, 54, 55, 56, 57, 97, 98, 99, 100, 101, 102, 103, 104, 105, 106, 107, 108, 109, 110, 111, 112, 113, 114, 115, 116, 117, 118, 119, 120, 121, 122]) n (n + 1) = numS n := by
  apply ba_ext
  rw [numS_list]
  unfold Lib.itoa
  rw [if_neg (by omega), Lib.decDigits, dif_pos (by omega)]
  have : n = 0 ∨ n = 1 ∨ n = 2 ∨ n = 3 ∨ n = 4 ∨ n = 5 ∨ n = 6 ∨ n = 7 ∨ n = 8 ∨ n = 9 := by omega
  unfold cutS
  rcases this with rfl | rfl | rfl | rfl | rfl | rfl | rfl | rfl | rfl | rfl <;> rfl
theorem ev_small (n : Int) (S : Store) (h : 0 ≤ n ∧ n ≤ 9) : EvA Tryd.prog 43 [.s (.int .i64 n)] S (fun r S' => r = .v (.s (.str (numS n))) ∧ S' = S) := by
  have hl : n + 1 ≤ ((ByteArray.mk #[48, 49, 50, 51, 52, 53, 54, 55, 56, 57, 97, 98, 99, 100, 101, 102, 103, 104, 105, 106, 107, 108, 109, 110, 111, 112, 113, 114, 115, 116, 117, 118, 119, 120, 121, 122]).size : Int) := by show n + 1 ≤ 36; omega
  refine evA_intro tok Tryd.func43 (by kernel_rfl) rfl ?_
  repeat' ((conv => whnf) <;> first
   | refine needP_intro ⟨by omega, by omega, by assumption⟩ ?_
   | rw [wrapI_i64 (by omega)]
   | refine condP_dec (fun _ => ?_) (fun _ => ?_)
   | refine condP_ndec (fun _ => ?_) (fun _ => ?_)
   | refine condP_true rfl ?_
   | refine condP_false rfl ?_
   | refine condP_not (fun _ => ?_) (fun _ => ?_)
   | refine condP_intro (fun _ => ?_) (fun _ => ?_)
   | (refine rd_slif (by assumption) (by intro _; rfl) (by omega) ?_; intro cSl hSl)
   | refine needP_intro (by first | omega | (constructor <;> omega) | fail) ?_
   | (fail)
   | refine And.intro ?_ ?_)
  all_goals first
    | (exfalso; omega)
    | (rw [numS_dig h]; rfl)
    | trace_state
theorem ev_libFormatInt (n : Int) (S : Store) (h : 0 ≤ n ∧ n ≤ 9) : EvA Tryd.prog 40 [.s (.int .i64 n), .s (.int .i64 10)] S (fun r S' => r = .v (.s (.str (numS n))) ∧ S' = S) := by
  refine evA_intro tok Tryd.func40 (by kernel_rfl) rfl ?_
  repeat' ((conv => whnf) <;> first
   | rw [wrapI_i64 (by omega)]
   | refine condP_dec (fun _ => ?_) (fun _ => ?_)
   | refine condP_ndec (fun _ => ?_) (fun _ => ?_)
   | refine condP_true rfl ?_
   | refine condP_false rfl ?_
   | refine condP_not (fun _ => ?_) (fun _ => ?_)
   | refine condP_intro (fun _ => ?_) (fun _ => ?_)
   | refine callP_eq (ev_small _ _ (by omega)) ?_
   | (refine rd_slif (by assumption) (by intro _; rfl) (by omega) ?_; intro cSl hSl)
   | refine needP_intro (by first | omega | (constructor <;> omega) | fail) ?_
   | (fail)
   | refine And.intro ?_ ?_)
  all_goals first
    | (exfalso; omega)
    | rfl
    | trace_state
theorem ev_libItoa (n : Int) (S : Store) (h : 0 ≤ n ∧ n ≤ 9) : EvA Tryd.prog 33 [.s (.int .i64 n)] S (fun r S' => r = .v (.s (.str (numS n))) ∧ S' = S) := by
  refine evA_intro tok Tryd.func33 (by kernel_rfl) rfl ?_
  repeat' ((conv => whnf) <;> first
   | refine callP_eq (ev_libFormatInt _ _ (by omega)) ?_
   | refine needP_intro (by first | omega | (constructor <;> omega) | fail) ?_
   | refine And.intro ?_ ?_)
  all_goals rfl
theorem ev_Itoa (n : Int) (S : Store) (h : 0 ≤ n ∧ n ≤ 9) : EvA Tryd.prog 29 [.s (.int .i64 n)] S (fun r S' => r = .v (.s (.str (numS n))) ∧ S' = S) := by
  refine evA_intro tok Tryd.func29 (by kernel_rfl) rfl ?_
  repeat' ((conv => whnf) <;> first
   | refine callP_eq (ev_libItoa _ _ (by omega)) ?_
   | refine needP_intro (by first | omega | (constructor <;> omega) | fail) ?_
   | refine And.intro ?_ ?_)
  all_goals rfl
theorem ev_iFormatInt (n : Int) (S : Store) (h : 0 ≤ n ∧ n ≤ 9) : EvA Tryd.prog 18 [.s (.int .i64 n)] S (fun r S' => r = .v (.s (.str (numS n))) ∧ S' = S) := by
  refine evA_intro tok Tryd.func18 (by kernel_rfl) rfl ?_
  repeat' ((conv => whnf) <;> first
   | refine callP_eq (ev_Itoa _ _ (by omega)) ?_
   | refine needP_intro (by first | omega | (constructor <;> omega) | fail) ?_
   | refine And.intro ?_ ?_)
  all_goals rfl
end Go.Proofs.YtakmoigpjaceeaaDoor
