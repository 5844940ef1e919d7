/- Labels, flows, what programs send. -/
import Derived.Test.YtkobbiflijaklaaGreatFnU
import Derived.Test.YtkobbiflijaklaaGreatFnI
namespace Go.Proofs.YtkobbiflijaklaaGreat
open Go Go.ChangeShapes Go.WideShapes Go.ChangeAt Go.RowKit
set_option linter.unusedVariables false
set_option maxRecDepth 100000

/-! ### labels as bits -/
def bitAt (x o : Int) : Bool := x.toNat.testBit o.toNat
def lorI (x y : Int) : Int := ((x.toNat ||| y.toNat : Nat) : Int)
def isLabel (x : Int) : Bool := inR x 0 1022 && decide (x % 2 = 0)
theorem isLabel_t {x : Int} (h : isLabel x = true) : 0 ≤ x ∧ x ≤ 1022 ∧ x % 2 = 0 := by simp [isLabel, inR] at h; omega
theorem label_t {x : Int} (h : 0 ≤ x ∧ x ≤ 1022 ∧ x % 2 = 0) : isLabel x = true := by simp [isLabel, inR]; omega
theorem wrapN {n : Nat} (h : n < 9223372036854775808) : IntKind.wrap .i64 (n : Int) = (n : Int) := IntWalk.i64_in _ (by omega)
theorem toN {x : Int} (h : 0 ≤ x ∧ x ≤ 9223372036854775807) : (BitVec.ofInt 64 x).toNat = x.toNat := by
  rw [BitVec.toNat_ofInt]; congr 1; omega
theorem shr_eq {x o : Int} (hx : 0 ≤ x) (ho : 0 ≤ o ∧ o ≤ 62) : shrI .i64 x o = ((x.toNat / 2 ^ o.toNat : Nat) : Int) := by
  unfold shrI
  have e : min o.toNat IntKind.i64.bits = o.toNat := by show min o.toNat 64 = _; omega
  rw [e]
  obtain ⟨n, rfl⟩ := Int.eq_ofNat_of_zero_le hx
  rw [Int.fdiv_eq_ediv_of_nonneg _ (by exact Int.le_of_lt (Int.pow_pos (by decide)))]
  simp
theorem and1_eq {x : Int} (hx : 0 ≤ x ∧ x ≤ 9223372036854775807) : bitsI .and .i64 x 1 = ((x.toNat % 2 : Nat) : Int) := by
  unfold bitsI
  show IntKind.wrap .i64 ((BitVec.ofInt 64 x &&& BitVec.ofInt 64 1).toNat : Int) = _
  rw [BitVec.toNat_and, toN hx, toN (by decide)]
  rw [show (1 : Int).toNat = 1 from rfl, Nat.and_one_is_mod, wrapN (by omega)]
theorem or_eq {x y : Int} (hx : 0 ≤ x ∧ x ≤ 1022) (hy : 0 ≤ y ∧ y ≤ 1022) : bitsI .or .i64 x y = lorI x y := by
  unfold bitsI
  show IntKind.wrap .i64 ((BitVec.ofInt 64 x ||| BitVec.ofInt 64 y).toNat : Int) = _
  have hl : x.toNat ||| y.toNat < 2 ^ 10 := Nat.or_lt_two_pow (by omega) (by omega)
  rw [BitVec.toNat_or, toN (by omega), toN (by omega), wrapN (by omega)]; rfl
theorem shl_eq {o : Int} (ho : 0 ≤ o ∧ o ≤ 9) : shlI .i64 1 o = ((2 ^ o.toNat : Nat) : Int) := by
  unfold shlI
  have e : min o.toNat IntKind.i64.bits = o.toNat := by show min o.toNat 64 = _; omega
  have hp : 2 ^ o.toNat ≤ 2 ^ 9 := Nat.pow_le_pow_right (by decide) (by omega)
  rw [e, Int.one_mul, show ((2 : Int) ^ o.toNat) = ((2 ^ o.toNat : Nat) : Int) from by simp, wrapN (by omega)]
theorem bit_div {x o : Int} (hx : 0 ≤ x) : bitAt x o = decide (x.toNat / 2 ^ o.toNat % 2 = 1) := by
  unfold bitAt
  rw [Nat.testBit_eq_decide_div_mod_eq]
theorem bit_shr {x o : Int} (hx : 0 ≤ x ∧ x ≤ 1022) (ho : 0 ≤ o ∧ o ≤ 62) : decide (bitsI .and .i64 (shrI .i64 x o) 1 = 1) = bitAt x o := by
  have hd : x.toNat / 2 ^ o.toNat ≤ x.toNat := Nat.div_le_self _ _
  rw [shr_eq hx.1 ho, bit_div hx.1]
  generalize x.toNat / 2 ^ o.toNat = q at *
  rw [and1_eq (by omega), decide_eq_decide, Int.toNat_natCast]
  omega
theorem lor_label {x y : Int} (hx : isLabel x = true) (hy : isLabel y = true) : isLabel (lorI x y) = true := by
  have h1 := isLabel_t hx; have h2 := isLabel_t hy
  have hl : x.toNat ||| y.toNat < 2 ^ 10 := Nat.or_lt_two_pow (by omega) (by omega)
  have hm : (x.toNat ||| y.toNat) % 2 = 0 := by
    have e : (x.toNat ||| y.toNat).testBit 0 = (x.toNat.testBit 0 || y.toNat.testBit 0) := Nat.testBit_or ..
    rw [Nat.testBit_zero, Nat.testBit_zero, Nat.testBit_zero] at e
    have hx0 : x.toNat % 2 = 0 := by omega
    have hy0 : y.toNat % 2 = 0 := by omega
    rw [hx0, hy0] at e
    have e2 := of_decide_eq_false (e.trans (by decide))
    omega
  refine label_t ?_
  unfold lorI
  omega
theorem bit_lor (x y o : Int) : bitAt (lorI x y) o = (bitAt x o || bitAt y o) := by
  unfold bitAt lorI
  rw [Int.toNat_natCast, Nat.testBit_or]
/-- what bits make: the sum over 1 .. n -/
def sumBits (P : Int → Bool) : Nat → Int
  | 0 => 0
  | n + 1 => sumBits P n + (if P ((n : Int) + 1) then ((2 ^ (n + 1) : Nat) : Int) else 0)
theorem sum_label_fin : ∀ n : Fin 512, sumBits (bitAt (2 * (n.val : Int))) 9 = 2 * (n.val : Int) := by decide +kernel
theorem sum_label {x : Int} (h : isLabel x = true) : sumBits (bitAt x) 9 = x := by
  have h := isLabel_t h
  have e := sum_label_fin ⟨(x / 2).toNat, by omega⟩
  rw [show 2 * (((⟨(x / 2).toNat, by omega⟩ : Fin 512).val : Nat) : Int) = x from by show 2 * ((x / 2).toNat : Int) = x; omega] at e
  exact e
theorem sumBits_congr {P Q : Int → Bool} : ∀ n : Nat, (∀ o : Int, 1 ≤ o ∧ o ≤ n → P o = Q o) → sumBits P n = sumBits Q n
  | 0, _ => rfl
  | n + 1, h => by
    rw [sumBits, sumBits, sumBits_congr n fun o ho => h o (by omega), h _ (by omega)]
theorem sumBits_bd (P : Int → Bool) : ∀ n : Nat, 0 ≤ sumBits P n ∧ sumBits P n + 2 ≤ ((2 ^ (n + 1) : Nat) : Int)
  | 0 => by simp [sumBits]
  | n + 1 => by
    have h := sumBits_bd P n
    have e : (2 ^ (n + 1 + 1) : Nat) = 2 ^ (n + 1) + 2 ^ (n + 1) := by rw [Nat.pow_succ]; omega
    rw [sumBits]
    split <;> omega
theorem powGo_mem (P : Int → Bool) (o : Int) : ∀ n : Nat, o ∈ powGo P n ↔ (1 ≤ o ∧ o ≤ n ∧ P o = true)
  | 0 => ⟨fun h => (by cases h), fun h => absurd h.2.1 (by have := h.1; omega)⟩
  | n + 1 => by
    rw [powGo, List.mem_append, powGo_mem P o n]
    split
    · rename_i h
      rw [List.mem_singleton]
      constructor
      · rintro (h1 | h1)
        · exact ⟨h1.1, by have := h1.2.1; omega, h1.2.2⟩
        · subst h1; exact ⟨by omega, by omega, h⟩
      · intro h1
        by_cases e : o = (n : Int) + 1
        · exact .inr e
        · exact .inl ⟨h1.1, by have := h1.2.1; omega, h1.2.2⟩
    · rename_i h
      simp only [List.not_mem_nil, or_false]
      constructor
      · intro h1; exact ⟨h1.1, by have := h1.2.1; omega, h1.2.2⟩
      · intro h1
        by_cases e : o = (n : Int) + 1
        · subst e; exact absurd h1.2.2 h
        · exact ⟨h1.1, by have := h1.2.1; omega, h1.2.2⟩
def ownersIn (x : Int) : List Int := if isLabel x then powGo (bitAt x) 9 else []
theorem ownersIn_len (x : Int) : (ownersIn x).length ≤ 9 := by unfold ownersIn; split; exact powGo_len _ 9; exact Nat.zero_le _
theorem label_join {x y : Int} (hx : isLabel x = true) (hy : isLabel y = true) : sumBits (fun o => decide (o ∈ ownersIn x ++ ownersIn y)) 9 = lorI x y := by
  rw [← sum_label (lor_label hx hy)]
  refine sumBits_congr 9 fun o ho => ?_
  rw [bit_lor, Bool.eq_iff_iff]
  unfold ownersIn
  rw [if_pos hx, if_pos hy]
  simp only [decide_eq_true_eq, List.mem_append, powGo_mem, Bool.or_eq_true]
  constructor
  · rintro (h | h)
    · exact .inl h.2.2
    · exact .inr h.2.2
  · rintro (h | h)
    · exact .inl ⟨ho.1, by omega, h⟩
    · exact .inr ⟨ho.1, by omega, h⟩
def idxFlow (v : GFlow) : List GFlow → Nat → Int
  | [], _ => -1
  | x :: r, i => if v = x then i else idxFlow v r (i + 1)
theorem idxFlow_mem (v : GFlow) : ∀ (l : List GFlow) (i : Nat), (0 ≤ idxFlow v l i) ↔ v ∈ l
  | [], i => by simp [idxFlow]
  | x :: r, i => by
    rw [idxFlow, List.mem_cons]
    split
    · rename_i h; subst h; simp
    · rename_i h; rw [idxFlow_mem v r (i + 1)]; simp [h]
theorem ev_l7Has (l : List Int) (v : Int) (c : C) (S : Store) (h : Rd S [.sl 1 (l.map dInt)] [c]) : EvA Tryz.prog 131 [.s c, .s (.int .i64 v)] S (fun r S' => r = .v (.s (.bool (decide (v ∈ l)))) ∧ S' = S) := by
  refine evA_intro tok Tryz.func131 (by kernel_rfl) rfl ?_
  repeat' ((conv => whnf) <;> first
   | rw [wrapI_i64 (by omega)] | refine condP_dec (fun _ => ?_) (fun _ => ?_) | refine condP_ndec (fun _ => ?_) (fun _ => ?_) | refine condP_true rfl ?_ | refine condP_false rfl ?_ | refine condP_not (fun _ => ?_) (fun _ => ?_) | refine condP_intro (fun _ => ?_) (fun _ => ?_) | (refine rd_lenm (by assumption) ?_; intro hml; rw [maxLen_eq] at hml) | refine rd_idxm (by assumption) (by intro _; rfl) (by constructor <;> omega) ?_ | refine rd_loadf (by assumption) (by intro _; exact trivial) (by constructor <;> omega) ?_ | refine needP_intro (by first | omega | (constructor <;> omega) | fail) ?_ | refine And.intro ?_ ?_)
  refine loop_intro {i : Nat // i ≤ l.length ∧ decide (v ∈ l.drop i) = decide (v ∈ l)} [4, 5, 6, 7, 8, 9, 10, 11, 12, 13, 14, 15, 16, 17] (fun zb => [(5, .v (.s (.int .i64 zb.1)))]) (fun _ => S) (fun zb => l.length - zb.1) ⟨0, Nat.zero_le _, rfl⟩ ?_ rfl ?_
  · (conv => whnf); repeat' (first | exact trivial | exact rfl | apply And.intro)
  rintro ⟨i, hi, hinv⟩; dsimp only
  by_cases hlt : i < l.length
  · rw [drop_at hlt] at hinv
    by_cases he : l[((i : Nat) : Int).toNat]'hlt = v
    · have hv : v ∈ l := by rw [← he]; exact List.getElem_mem _
      rw [decide_eq_true hv]
      repeat' ((conv => whnf) <;> first
       | rw [wrapI_i64 (by omega)] | (refine condP_true ?_ ?_; · assumption) | (refine condP_false ?_ ?_; · assumption) | (refine condP_nt ?_ ?_; · assumption) | (refine condP_nf ?_ ?_; · assumption) | (refine condP_decT ?_ ?_; · omega) | (refine condP_decF ?_ ?_; · omega) | (refine condP_ndT ?_ ?_; · omega) | (refine condP_ndF ?_ ?_; · omega) | refine condP_dec (fun _ => ?_) (fun _ => ?_) | refine condP_ndec (fun _ => ?_) (fun _ => ?_) | refine condP_true rfl ?_ | refine condP_false rfl ?_ | refine condP_not (fun _ => ?_) (fun _ => ?_) | refine condP_intro (fun _ => ?_) (fun _ => ?_) | (refine rd_lenm (by assumption) ?_; intro hml; rw [maxLen_eq] at hml) | refine rd_idxm (by assumption) (by intro _; rfl) (by constructor <;> omega) ?_ | refine rd_loadf (by assumption) (by intro _; exact trivial) (by constructor <;> omega) ?_ | refine needP_intro (by first | omega | (constructor <;> omega) | fail) ?_ | refine And.intro ?_ ?_)
      all_goals first
        | rfl
        | (exfalso; omega)
        | (exfalso; rename_i hb; simp_all; done)
    · have hm : (v ∈ l[i] :: l.drop (i + 1)) ↔ v ∈ l.drop (i + 1) := ⟨fun h => (List.mem_cons.1 h).resolve_left fun e => he e.symm, fun h => List.mem_cons.2 (.inr h)⟩
      rw [decide_eq_decide.2 hm] at hinv
      repeat' ((conv => whnf) <;> first
       | rw [wrapI_i64 (by omega)] | (refine condP_true ?_ ?_; · assumption) | (refine condP_false ?_ ?_; · assumption) | (refine condP_nt ?_ ?_; · assumption) | (refine condP_nf ?_ ?_; · assumption) | (refine condP_decT ?_ ?_; · omega) | (refine condP_decF ?_ ?_; · omega) | (refine condP_ndT ?_ ?_; · omega) | (refine condP_ndF ?_ ?_; · omega) | refine condP_dec (fun _ => ?_) (fun _ => ?_) | refine condP_ndec (fun _ => ?_) (fun _ => ?_) | refine condP_true rfl ?_ | refine condP_false rfl ?_ | refine condP_not (fun _ => ?_) (fun _ => ?_) | refine condP_intro (fun _ => ?_) (fun _ => ?_) | (refine rd_lenm (by assumption) ?_; intro hml; rw [maxLen_eq] at hml) | refine rd_idxm (by assumption) (by intro _; rfl) (by constructor <;> omega) ?_ | refine rd_loadf (by assumption) (by intro _; exact trivial) (by constructor <;> omega) ?_ | refine needP_intro (by first | omega | (constructor <;> omega) | fail) ?_ | refine And.intro ?_ ?_)
      all_goals first
        | (exfalso; omega)
        | (refine ⟨⟨i + 1, by omega, hinv⟩, ?_, rfl, by simp; omega⟩; (conv => whnf); repeat' (first | exact trivial | exact rfl | apply And.intro))
        | (exfalso; rename_i hb; simp_all; done)
  · rw [drop_end (by omega)] at hinv
    rw [← hinv]
    repeat' ((conv => whnf) <;> first
     | rw [wrapI_i64 (by omega)] | (refine condP_true ?_ ?_; · assumption) | (refine condP_false ?_ ?_; · assumption) | (refine condP_nt ?_ ?_; · assumption) | (refine condP_nf ?_ ?_; · assumption) | (refine condP_decT ?_ ?_; · omega) | (refine condP_decF ?_ ?_; · omega) | (refine condP_ndT ?_ ?_; · omega) | (refine condP_ndF ?_ ?_; · omega) | refine condP_dec (fun _ => ?_) (fun _ => ?_) | refine condP_ndec (fun _ => ?_) (fun _ => ?_) | refine condP_true rfl ?_ | refine condP_false rfl ?_ | refine condP_not (fun _ => ?_) (fun _ => ?_) | refine condP_intro (fun _ => ?_) (fun _ => ?_) | (refine rd_lenm (by assumption) ?_; intro hml; rw [maxLen_eq] at hml) | refine rd_idxm (by assumption) (by intro _; rfl) (by constructor <;> omega) ?_ | refine rd_loadf (by assumption) (by intro _; exact trivial) (by constructor <;> omega) ?_ | refine needP_intro (by first | omega | (constructor <;> omega) | fail) ?_ | refine And.intro ?_ ?_)
    all_goals first
      | rfl
      | (exfalso; omega)
theorem sumP_step (P : Int → Bool) (i : Nat) : sumBits P (i + 1) = sumBits P i + (if P ((i : Int) + 1) then ((2 ^ (i + 1) : Nat) : Int) else 0) := rfl
def flowOk (l : List GFlow) (ext to o : Int) : Bool := decide (o = to) || (isFlow ⟨ext, o, to⟩ && decide ((⟨ext, o, to⟩ : GFlow) ∈ l))
def mayFlow (l : List GFlow) (ext label to : Int) : Bool := (isLabel label && inR to 1 9) && (ownersIn label).all fun o => flowOk l ext to o
end Go.Proofs.YtkobbiflijaklaaGreat
