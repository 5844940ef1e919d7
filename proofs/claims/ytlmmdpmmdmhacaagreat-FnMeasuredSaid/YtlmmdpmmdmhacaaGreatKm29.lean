/- Labels, flows, what programs send. The values that an extension reads. -/
import Derived.Test.YtlmmdpmmdmhacaaGreatKm25
import Derived.Test.YtlmmdpmmdmhacaaGreatKm22
namespace Go.Proofs.YtlmmdpmmdmhacaaGreat
open Go Go.ChangeShapes Go.WideShapes Go.ChangeAt Go.RowKit
set_option linter.unusedVariables false
set_option linter.unusedSimpArgs false
set_option maxRecDepth 100000
def bitAt (x o : Int) : Bool := x.toNat.testBit o.toNat
def lorI (x y : Int) : Int := ((x.toNat ||| y.toNat : Nat) : Int)
def isLabel (x : Int) : Bool := inR x 0 1022 && decide (x % 2 = 0)
theorem isLabel_t {x : Int} (h : isLabel x = true) : 0 ≤ x ∧ x ≤ 1022 ∧ x % 2 = 0 := by simp [isLabel, inR] at h; omega
theorem label_t {x : Int} (h : 0 ≤ x ∧ x ≤ 1022 ∧ x % 2 = 0) : isLabel x = true := by simp [isLabel, inR]; omega
theorem wrapN {n : Nat} (h : n < 9223372036854775808) : IntKind.wrap .i64 (n : Int) = (n : Int) := IntWalk.i64_in _ (by omega)
theorem toN {x : Int} (h : 0 ≤ x ∧ x ≤ 9223372036854775807) : (BitVec.ofInt 64 x).toNat = x.toNat := by
  rw [BitVec.toNat_ofInt]; congr 1; omega
theorem shr_eq {x o : Int} (hx : 0 ≤ x) (ho : 0 ≤ o ∧ o ≤ 62) : shrI .i64 x o = ((x.toNat / 2 ^ o.toNat : Nat) : Int) := by
  unfold shrI
  have e : min o.toNat IntKind.i64.bits = o.toNat := by show min o.toNat 64 = _; omega
  rw [e]
  obtain ⟨n, rfl⟩ := Int.eq_ofNat_of_zero_le hx
  rw [Int.fdiv_eq_ediv_of_nonneg _ (by exact Int.le_of_lt (Int.pow_pos (by decide)))]
  simp
theorem and1_eq {x : Int} (hx : 0 ≤ x ∧ x ≤ 9223372036854775807) : bitsI .and .i64 x 1 = ((x.toNat % 2 : Nat) : Int) := by
  unfold bitsI
  show IntKind.wrap .i64 ((BitVec.ofInt 64 x &&& BitVec.ofInt 64 1).toNat : Int) = _
  rw [BitVec.toNat_and, toN hx, toN (by decide)]
  rw [show (1 : Int).toNat = 1 from rfl, Nat.and_one_is_mod, wrapN (by omega)]
theorem bit_div {x o : Int} (hx : 0 ≤ x) : bitAt x o = decide (x.toNat / 2 ^ o.toNat % 2 = 1) := by
  unfold bitAt
  rw [Nat.testBit_eq_decide_div_mod_eq]
theorem bit_shr {x o : Int} (hx : 0 ≤ x ∧ x ≤ 1022) (ho : 0 ≤ o ∧ o ≤ 62) : decide (bitsI .and .i64 (shrI .i64 x o) 1 = 1) = bitAt x o := by
  have hd : x.toNat / 2 ^ o.toNat ≤ x.toNat := Nat.div_le_self _ _
  rw [shr_eq hx.1 ho, bit_div hx.1]
  generalize x.toNat / 2 ^ o.toNat = q at *
  rw [and1_eq (by omega), decide_eq_decide, Int.toNat_natCast]
  omega
theorem lor_label {x y : Int} (hx : isLabel x = true) (hy : isLabel y = true) : isLabel (lorI x y) = true := by
  have h1 := isLabel_t hx; have h2 := isLabel_t hy
  have hl : x.toNat ||| y.toNat < 2 ^ 10 := Nat.or_lt_two_pow (by omega) (by omega)
  have hm : (x.toNat ||| y.toNat) % 2 = 0 := by
    have e : (x.toNat ||| y.toNat).testBit 0 = (x.toNat.testBit 0 || y.toNat.testBit 0) := Nat.testBit_or ..
    rw [Nat.testBit_zero, Nat.testBit_zero, Nat.testBit_zero] at e
    have hx0 : x.toNat % 2 = 0 := by omega
    have hy0 : y.toNat % 2 = 0 := by omega
    rw [hx0, hy0] at e
    have e2 := of_decide_eq_false (e.trans (by decide))
    omega
  refine label_t ?_
  unfold lorI
  omega
theorem bit_lor (x y o : Int) : bitAt (lorI x y) o = (bitAt x o || bitAt y o) := by
  unfold bitAt lorI
  rw [Int.toNat_natCast, Nat.testBit_or]
def sumBits (P : Int → Bool) : Nat → Int
  | 0 => 0
  | n + 1 => sumBits P n + (if P ((n : Int) + 1) then ((2 ^ (n + 1) : Nat) : Int) else 0)
theorem sum_label_fin : ∀ n : Fin 512, sumBits (bitAt (2 * (n.val : Int))) 9 = 2 * (n.val : Int) := by decide +kernel
theorem sum_label {x : Int} (h : isLabel x = true) : sumBits (bitAt x) 9 = x := by
  have h := isLabel_t h
  have e := sum_label_fin ⟨(x / 2).toNat, by omega⟩
  rw [show 2 * (((⟨(x / 2).toNat, by omega⟩ : Fin 512).val : Nat) : Int) = x from by show 2 * ((x / 2).toNat : Int) = x; omega] at e
  exact e
theorem sumBits_congr {P Q : Int → Bool} : ∀ n : Nat, (∀ o : Int, 1 ≤ o ∧ o ≤ n → P o = Q o) → sumBits P n = sumBits Q n
  | 0, _ => rfl
  | n + 1, h => by
    rw [sumBits, sumBits, sumBits_congr n fun o ho => h o (by omega), h _ (by omega)]
theorem sumBits_bd (P : Int → Bool) : ∀ n : Nat, 0 ≤ sumBits P n ∧ sumBits P n + 2 ≤ ((2 ^ (n + 1) : Nat) : Int)
  | 0 => by simp [sumBits]
  | n + 1 => by
    have h := sumBits_bd P n
    have e : (2 ^ (n + 1 + 1) : Nat) = 2 ^ (n + 1) + 2 ^ (n + 1) := by rw [Nat.pow_succ]; omega
    rw [sumBits]
    split <;> omega
theorem powGo_mem (P : Int → Bool) (o : Int) : ∀ n : Nat, o ∈ powGo P n ↔ (1 ≤ o ∧ o ≤ n ∧ P o = true)
  | 0 => ⟨fun h => (by cases h), fun h => absurd h.2.1 (by have := h.1; omega)⟩
  | n + 1 => by
    rw [powGo, List.mem_append, powGo_mem P o n]
    split
    · rename_i h
      rw [List.mem_singleton]
      constructor
      · rintro (h1 | h1)
        · exact ⟨h1.1, by have := h1.2.1; omega, h1.2.2⟩
        · subst h1; exact ⟨by omega, by omega, h⟩
      · intro h1
        by_cases e : o = (n : Int) + 1
        · exact .inr e
        · exact .inl ⟨h1.1, by have := h1.2.1; omega, h1.2.2⟩
    · rename_i h
      simp only [List.not_mem_nil, or_false]
      constructor
      · intro h1; exact ⟨h1.1, by have := h1.2.1; omega, h1.2.2⟩
      · intro h1
        by_cases e : o = (n : Int) + 1
        · subst e; exact absurd h1.2.2 h
        · exact ⟨h1.1, by have := h1.2.1; omega, h1.2.2⟩
def ownersIn (x : Int) : List Int := if isLabel x then powGo (bitAt x) 9 else []
theorem ownersIn_len (x : Int) : (ownersIn x).length ≤ 9 := by unfold ownersIn; split; exact powGo_len _ 9; exact Nat.zero_le _
theorem label_join {x y : Int} (hx : isLabel x = true) (hy : isLabel y = true) : sumBits (fun o => decide (o ∈ ownersIn x ++ ownersIn y)) 9 = lorI x y := by
  rw [← sum_label (lor_label hx hy)]
  refine sumBits_congr 9 fun o ho => ?_
  rw [bit_lor, Bool.eq_iff_iff]
  unfold ownersIn
  rw [if_pos hx, if_pos hy]
  simp only [decide_eq_true_eq, List.mem_append, powGo_mem, Bool.or_eq_true]
  constructor
  · rintro (h | h)
    · exact .inl h.2.2
    · exact .inr h.2.2
  · rintro (h | h)
    · exact .inl ⟨ho.1, by omega, h⟩
    · exact .inr ⟨ho.1, by omega, h⟩
theorem ev_sIsLabel (x : Int) (S : Store) : EvA Tryz.prog 307 [.s (.int .i64 x)] S (fun r S' => r = .v (.s (.bool (isLabel x))) ∧ S' = S) := by
  have hm : 0 ≤ x → Int.tmod x 2 = x % 2 := fun h => Int.tmod_eq_emod_of_nonneg h
  refine evA_intro tok Tryz.func307 (by kernel_rfl) rfl ?_
  repeat' ((conv => whnf) <;> first
   | refine condP_inR (fun _ _ => ?_) (fun _ _ => ?_) | refine callP_eq (ev_l1In _ _ _ _) ?_ | refine nP ?_ | refine And.intro ?_ ?_)
  all_goals first | rfl | (simp_all [resAV, isLabel]; done) | (simp_all [resAV, isLabel]; omega) | (simp only [isLabel, resAV]; simp_all; done)
theorem ev_l19Bit (o : Int) (S : Store) (ho : 0 ≤ o ∧ o ≤ 9) : EvA Tryz.prog 308 [.s (.int .i64 o)] S (fun r S' => r = .v (.s (.int .i64 ((2 ^ o.toNat : Nat) : Int))) ∧ S' = S) := by
  refine evA_intro tok Tryz.func308 (by kernel_rfl) rfl ?_
  skip
  refine loop_intro {p : Nat × Int // p.1 ≤ o.toNat ∧ p.2 = ((2 ^ p.1 : Nat) : Int)} [3, 4, 5, 6, 7, 8, 9, 10, 11] (fun zb => [(4, .v (.s (.int .i64 (zb.1.1)))), (3, .v (.s (.int .i64 zb.1.2)))]) (fun _ => S) (fun zb => o.toNat - zb.1.1) ⟨(0, 1), Nat.zero_le _, rfl⟩ ?_ rfl ?_
  · (conv => whnf); repeat' (first | exact trivial | exact rfl | apply And.intro)
  rintro ⟨⟨i, st⟩, hi, hinv⟩; dsimp only
  replace hi : i ≤ o.toNat := hi; dsimp only at hinv
  have hp : 2 ^ i ≤ 2 ^ 9 := Nat.pow_le_pow_right (by decide) (by omega)
  rw [show (2 : Nat) ^ 9 = 512 from rfl] at hp
  have hst : 0 ≤ st ∧ st ≤ 512 := by rw [hinv]; exact ⟨Int.natCast_nonneg _, Int.ofNat_le.2 hp⟩
  by_cases hlt : i < o.toNat
  · have he : ((2 ^ (i + 1) : Nat) : Int) = 2 * st := by rw [hinv, Nat.pow_succ, Int.natCast_mul, Int.mul_comm]; rfl
    clear hp hinv
    repeat' ((conv => whnf) <;> first
     | rw [wrapI_i64 (by omega)] | (show CondP _ _ _; refine cS ?_))
    all_goals first
      | (exfalso; omega)
      | (refine ⟨⟨(i + 1, ((2 ^ (i + 1) : Nat) : Int)), by dsimp only; omega, rfl⟩, ?_, rfl, by dsimp only; omega⟩; (conv => whnf); repeat' (first | exact trivial | exact rfl | exact congrArg (fun z => AV.v (V.s (C.int .i64 z))) he.symm | apply And.intro))
  · have he : i = o.toNat := by omega
    rw [he] at hinv
    rw [← hinv]
    repeat' ((conv => whnf) <;> first
     | (show CondP _ _ _; refine cS ?_) | refine And.intro ?_ ?_)
    all_goals first
      | rfl
      | (exfalso; omega)
theorem ev_sOwnersIn (x : Int) (S : Store) : EvA Tryz.prog 242 [.s (.int .i64 x)] S (fun r S' => Ext S S' ∧ ∃ c', r = .v (.s c') ∧ Fr S.length S' [.sl 1 ((ownersIn x).map dInt)] [c']) := by
  rcases hL : isLabel x with _ | _
  · have e : ownersIn x = [] := by unfold ownersIn; rw [hL]; rfl
    rw [e]
    refine evA_intro tok Tryz.func242 (by kernel_rfl) rfl ?_
    skip
    refine loop_intro Unit [3, 4, 6, 7, 8, 9, 10, 11, 12, 13, 14, 15, 16, 17, 18, 19, 20, 21, 22, 23] (fun _ => [(4, .v (.s (.int .i64 1))), (3, .v (.s (.sl S.length 0 0 0)))]) (fun _ => S ++ [⟨true, 1, []⟩]) (fun _ => 0) () ?_ rfl ?_
    · (conv => whnf); repeat' (first | exact trivial | exact rfl | apply And.intro)
    intro _; dsimp only
    repeat' ((conv => whnf) <;> first
     | (show CondP _ _ _; refine cS ?_) | refine callP_eq (ev_sIsLabel _ _) ?_ | refine And.intro ?_ ?_)
    all_goals first
      | exact Ext.push _ _
      | exact ⟨_, rfl, fr_lit0⟩
      | (exfalso; omega)
      | (exfalso; simp_all; done)
  · have e : ownersIn x = powGo (bitAt x) 9 := by unfold ownersIn; rw [hL]; rfl
    have hx := isLabel_t hL
    rw [e]
    refine evA_intro tok Tryz.func242 (by kernel_rfl) rfl ?_
    skip
    all_goals try (exfalso; simp_all; done)
    refine loop_intro {p : Nat × Store × C // p.1 ≤ 9 ∧ Ext S p.2.1 ∧ Fr S.length p.2.1 [.sl 1 ((powGo (bitAt x) p.1).map dInt)] [p.2.2]} [3, 4, 6, 7, 8, 9, 10, 11, 12, 13, 14, 15, 16, 17, 18, 19, 20, 21, 22, 23] (fun zb => [(4, .v (.s (.int .i64 ((zb.1.1 : Int) + 1)))), (3, .v (.s zb.1.2.2))]) (fun zb => zb.1.2.1) (fun zb => 9 - zb.1.1) ⟨(0, _, _), Nat.zero_le _, Ext.push _ _, fr_lit0⟩ ?_ rfl ?_
    · (conv => whnf); repeat' (first | exact trivial | exact rfl | apply And.intro)
    rintro ⟨⟨i, Si, ci⟩, hi, hE, hF⟩; dsimp only
    replace hi : i ≤ 9 := hi
    replace hE : Ext S Si := hE
    replace hF : Fr S.length Si [.sl 1 ((powGo (bitAt x) i).map dInt)] [ci] := hF
    have hfl := powGo_len (bitAt x) i
    by_cases hlt : i < 9
    · have hsb := bit_shr (x := x) (o := (i : Int) + 1) (by omega) (by omega)
      have hdv := bit_div (x := x) (o := (i : Int) + 1) hx.1
      have hp : 0 < 2 ^ ((i : Int) + 1).toNat := Nat.pow_pos (by decide)
      have hdl : x.toNat / 2 ^ ((i : Int) + 1).toNat ≤ x.toNat := Nat.div_le_self _ _
      obtain ⟨q, hqd⟩ : ∃ q : Nat, q = x.toNat / 2 ^ ((i : Int) + 1).toNat := ⟨_, rfl⟩
      have hpi : ¬ (((2 ^ ((i : Int) + 1).toNat : Nat) : Int) = 0) := by omega
      have hq : wrapI .i64 (x.tdiv ((2 ^ ((i : Int) + 1).toNat : Nat) : Int)) = (q : Int) := by
        obtain ⟨n, hn⟩ := Int.eq_ofNat_of_zero_le hx.1
        have e2 : x.tdiv ((2 ^ ((i : Int) + 1).toNat : Nat) : Int) = (q : Int) := by rw [hqd, hn]; rfl
        rw [← hqd] at hdl
        rw [e2, wrapI_i64 (by omega)]
      rw [← hqd] at hdv hdl
      have htm : ∀ n : Nat, Int.tmod (n : Int) 2 = ((n % 2 : Nat) : Int) := fun _ => rfl
      rcases hb : bitAt x ((i : Int) + 1) with _ | _
      · have hg := powGo_f (P := bitAt x) (n := i) hb
        rw [hb] at hsb hdv
        have hs1 := of_decide_eq_false hsb
        have hd1 := of_decide_eq_false hdv.symm
        have hd2 : ¬ (Int.tmod (q : Int) 2 = 1) := by rw [htm]; omega
        repeat' ((conv => whnf) <;> first
         | rw [wrapI_i64 (by omega)] | (show CondP _ _ _; refine cS ?_) | refine cD (fun _ => ?_) fun _ => ?_ | refine callP_eq (ev_sIsLabel _ _) ?_ | refine callP_eq (ev_l19Bit _ _ om) ?_ | refine nP ?_ | rw [hq] | (refine fr_app1 (f := dInt) aN aN tv (by rfl) rf (by dsimp only [T3]; omega) om ?_; intro cN SN hEN hFN))
        all_goals first
          | (exfalso; omega)
          | (exfalso; simp_all; done)
          | (refine ⟨⟨(i + 1, _, _), by dsimp only; omega, by assumption, by rw [hg]; assumption⟩, ?_, rfl, by dsimp only; omega⟩; (conv => whnf); repeat' (first | exact trivial | exact rfl | (show _ = _; congr 3; dsimp only; omega) | apply And.intro))
      · have hg := powGo_t (P := bitAt x) (n := i) hb
        rw [hb] at hsb hdv
        have hs1 := of_decide_eq_true hsb
        have hd1 := of_decide_eq_true hdv.symm
        have hd2 : Int.tmod (q : Int) 2 = 1 := by rw [htm]; omega
        repeat' ((conv => whnf) <;> first
         | rw [wrapI_i64 (by omega)] | (show CondP _ _ _; refine cS ?_) | refine cD (fun _ => ?_) fun _ => ?_ | refine callP_eq (ev_sIsLabel _ _) ?_ | refine callP_eq (ev_l19Bit _ _ om) ?_ | refine nP ?_ | rw [hq] | (refine fr_app1 (f := dInt) aN aN tv (by rfl) rf (by dsimp only [T3]; omega) om ?_; intro cN SN hEN hFN))
        all_goals first
          | (exfalso; omega)
          | (exfalso; simp_all; done)
          | (refine ⟨⟨(i + 1, _, _), by dsimp only; omega, by assumption, by rw [hg]; assumption⟩, ?_, rfl, by dsimp only; omega⟩; (conv => whnf); repeat' (first | exact trivial | exact rfl | (show _ = _; congr 3; dsimp only; omega) | apply And.intro))
    · have he : i = 9 := by omega
      subst he
      repeat' ((conv => whnf) <;> first
       | (show CondP _ _ _; refine cS ?_) | refine cF ?_ | refine And.intro ?_ ?_)
      all_goals first
        | exact hE
        | exact ⟨_, rfl, hF⟩
        | (exfalso; omega)
        | (exfalso; simp_all; done)
theorem ev_l7Has (l : List Int) (v : Int) (c : C) (S : Store) (h : Rd S [.sl 1 (l.map dInt)] [c]) : EvA Tryz.prog 351 [.s c, .s (.int .i64 v)] S (fun r S' => r = .v (.s (.bool (decide (v ∈ l)))) ∧ S' = S) := by
  refine evA_intro tok Tryz.func351 (by kernel_rfl) rfl ?_
  skip
  refine loop_intro {i : Nat // i ≤ l.length ∧ decide (v ∈ l.drop i) = decide (v ∈ l)} [4, 5, 6, 7, 8, 9, 10, 11, 12, 13, 14, 15, 16, 17] (fun zb => [(5, .v (.s (.int .i64 zb.1)))]) (fun _ => S) (fun zb => l.length - zb.1) ⟨0, Nat.zero_le _, rfl⟩ ?_ rfl ?_
  · (conv => whnf); repeat' (first | exact trivial | exact rfl | apply And.intro)
  rintro ⟨i, hi, hinv⟩; dsimp only
  by_cases hlt : i < l.length
  · rw [drop_at hlt] at hinv
    by_cases he : l[((i : Nat) : Int).toNat]'hlt = v
    · have hv : v ∈ l := by rw [← he]; exact List.getElem_mem _
      rw [decide_eq_true hv]
      repeat' ((conv => whnf) <;> first
       | (show CondP _ _ _; refine cS ?_) | refine rE fun hml => ?_ | refine rI aN rf ix ?_ | refine rd_loadf aN tv ix ?_ | refine And.intro ?_ ?_)
      all_goals first
        | rfl
        | (exfalso; omega)
        | (exfalso; rename_i hb; simp_all; done)
    · have hm : (v ∈ l[i] :: l.drop (i + 1)) ↔ v ∈ l.drop (i + 1) := ⟨fun h => (List.mem_cons.1 h).resolve_left fun e => he e.symm, fun h => List.mem_cons.2 (.inr h)⟩
      rw [decide_eq_decide.2 hm] at hinv
      repeat' ((conv => whnf) <;> first
       | rw [wrapI_i64 (by omega)] | (show CondP _ _ _; refine cS ?_) | refine rE fun hml => ?_ | refine rI aN rf ix ?_ | refine rd_loadf aN tv ix ?_)
      all_goals first
        | (exfalso; omega)
        | (refine ⟨⟨i + 1, by omega, hinv⟩, ?_, rfl, by simp; omega⟩; (conv => whnf); repeat' (first | exact trivial | exact rfl | apply And.intro))
        | (exfalso; rename_i hb; simp_all; done)
  · rw [drop_end (by omega)] at hinv
    rw [← hinv]
    repeat' ((conv => whnf) <;> first
     | (show CondP _ _ _; refine cS ?_) | refine rE fun hml => ?_ | refine And.intro ?_ ?_)
    all_goals first
      | rfl
      | (exfalso; omega)
theorem ev_l20Has (l : List GFlow) (v : GFlow) (c : C) (S : Store) (h : Rd S [.sl 3 (l.map GFlow.d)] [c]) : EvA Tryz.prog 243 [.s c, .agg v.c] S (fun r S' => r = .v (.s (.bool (decide (v ∈ l)))) ∧ S' = S) := by
  refine evA_intro tok Tryz.func243 (by kernel_rfl) rfl ?_
  skip
  refine loop_intro {i : Nat // i ≤ l.length ∧ decide (v ∈ l.drop i) = decide (v ∈ l)} [4, 5, 6, 7, 8, 9, 10, 11, 12, 13, 14, 15, 16, 17] (fun zb => [(5, .v (.s (.int .i64 zb.1)))]) (fun _ => S) (fun zb => l.length - zb.1) ⟨0, Nat.zero_le _, rfl⟩ ?_ rfl ?_
  · (conv => whnf); repeat' (first | exact trivial | exact rfl | apply And.intro)
  rintro ⟨i, hi, hinv⟩; dsimp only
  by_cases hlt : i < l.length
  · rw [drop_at hlt] at hinv
    by_cases he : l[((i : Nat) : Int).toNat]'hlt = v
    · have hv : v ∈ l := by rw [← he]; exact List.getElem_mem _
      rw [decide_eq_true hv]
      repeat' ((conv => whnf) <;> first
       | rw [wrapI_i64 (by omega)] | (show CondP _ _ _; refine cS ?_) | refine cI (fun _ => ?_) fun _ => ?_ | refine rE fun hml => ?_ | refine rI aN rf ix ?_ | refine rd_loadf aN tv ix ?_ | refine draw_intro 12 [.fl 0, .fl 1, .fl 2, .fl 3, .fl 4, .fl 5] (by rfl) (by kernel_rfl) ?_ | refine And.intro ?_ ?_)
      all_goals first
        | rfl
        | (exfalso; omega)
        | (exfalso; rename_i hb; rw [GFlow.eqb] at hb; simp_all; done)
    · have hm : (v ∈ l[i] :: l.drop (i + 1)) ↔ v ∈ l.drop (i + 1) := ⟨fun h => (List.mem_cons.1 h).resolve_left fun e => he e.symm, fun h => List.mem_cons.2 (.inr h)⟩
      rw [decide_eq_decide.2 hm] at hinv
      repeat' ((conv => whnf) <;> first
       | rw [wrapI_i64 (by omega)] | (show CondP _ _ _; refine cS ?_) | refine cI (fun _ => ?_) fun _ => ?_ | refine rE fun hml => ?_ | refine rI aN rf ix ?_ | refine rd_loadf aN tv ix ?_ | refine draw_intro 12 [.fl 0, .fl 1, .fl 2, .fl 3, .fl 4, .fl 5] (by rfl) (by kernel_rfl) ?_ | refine And.intro ?_ ?_)
      all_goals first
        | (exfalso; omega)
        | (refine ⟨⟨i + 1, by omega, hinv⟩, ?_, rfl, by simp; omega⟩; (conv => whnf); repeat' (first | exact trivial | exact rfl | apply And.intro))
        | (exfalso; rename_i hb; rw [GFlow.eqb] at hb; simp_all; done)
  · rw [drop_end (by omega)] at hinv
    rw [← hinv]
    repeat' ((conv => whnf) <;> first
     | (show CondP _ _ _; refine cS ?_) | refine rE fun hml => ?_ | refine And.intro ?_ ?_)
    all_goals first
      | rfl
      | (exfalso; omega)
theorem sumP_step (P : Int → Bool) (i : Nat) : sumBits P (i + 1) = sumBits P i + (if P ((i : Int) + 1) then ((2 ^ (i + 1) : Nat) : Int) else 0) := rfl
theorem ev_sLabelOf (l : List Int) (c : C) (S : Store) (h : Rd S [.sl 1 (l.map dInt)] [c]) : EvA Tryz.prog 305 [.s c] S (fun r S' => r = .v (.s (.int .i64 (sumBits (fun o => decide (o ∈ l)) 9))) ∧ S' = S) := by
  refine evA_intro tok Tryz.func305 (by kernel_rfl) rfl ?_
  skip
  refine loop_intro {p : Nat × Int // p.1 ≤ 9 ∧ p.2 = sumBits (fun o => decide (o ∈ l)) p.1} [3, 4, 5, 6, 7, 8, 9, 10, 11, 12, 13, 14, 15] (fun zb => [(4, .v (.s (.int .i64 ((zb.1.1 : Int) + 1)))), (3, .v (.s (.int .i64 zb.1.2)))]) (fun _ => S) (fun zb => 9 - zb.1.1) ⟨(0, 0), Nat.zero_le _, rfl⟩ ?_ rfl ?_
  · (conv => whnf); repeat' (first | exact trivial | exact rfl | apply And.intro)
  rintro ⟨⟨i, st⟩, hi, hinv⟩; dsimp only
  replace hi : i ≤ 9 := hi; dsimp only at hinv
  have hbd := sumBits_bd (fun o => decide (o ∈ l)) i
  have hp : 2 ^ (i + 1) ≤ 2 ^ 10 := Nat.pow_le_pow_right (by decide) (by omega)
  rw [show (2 : Nat) ^ 10 = 1024 from rfl] at hp
  rw [← hinv] at hbd
  by_cases hlt : i < 9
  · have hst := sumP_step (fun o => decide (o ∈ l)) i
    have htn : ((i : Int) + 1).toNat = i + 1 := by omega
    rw [← hinv] at hst
    by_cases hm : ((i : Int) + 1) ∈ l
    · rw [if_pos (decide_eq_true hm)] at hst
      have hd : decide (((i : Int) + 1) ∈ l) = true := decide_eq_true hm
      repeat' ((conv => whnf) <;> first
       | rw [wrapI_i64 (by omega)] | (show CondP _ _ _; refine cS ?_) | refine callP_eq (ev_l19Bit _ _ om) ?_ | refine callP_eq (ev_l7Has _ _ _ _ aN) ?_ | rw [htn])
      all_goals first
        | (exfalso; omega)
        | (exfalso; simp_all; done)
        | (refine ⟨⟨(i + 1, st + ((2 ^ (i + 1) : Nat) : Int)), by dsimp only; omega, hst.symm⟩, ?_, rfl, by dsimp only; omega⟩; (conv => whnf); repeat' (first | exact trivial | exact rfl | (show _ = _; congr 3; dsimp only; omega) | exact congrArg (fun z : Nat => AV.v (V.s (C.int .i64 (st + ((2 ^ z : Nat) : Int))))) htn | apply And.intro))
    · rw [if_neg (by simpa using hm)] at hst
      have hd : decide (((i : Int) + 1) ∈ l) = false := decide_eq_false hm
      repeat' ((conv => whnf) <;> first
       | rw [wrapI_i64 (by omega)] | (show CondP _ _ _; refine cS ?_) | refine callP_eq (ev_l7Has _ _ _ _ aN) ?_)
      all_goals first
        | (exfalso; omega)
        | (exfalso; simp_all; done)
        | (refine ⟨⟨(i + 1, st), by dsimp only; omega, by rw [hst]; omega⟩, ?_, rfl, by dsimp only; omega⟩; (conv => whnf); repeat' (first | exact trivial | exact rfl | (show _ = _; congr 3; dsimp only; omega) | apply And.intro))
  · have he : i = 9 := by omega
    subst he
    rw [← hinv]
    repeat' ((conv => whnf) <;> first
     | (show CondP _ _ _; refine cS ?_) | refine And.intro ?_ ?_)
    all_goals first
      | rfl
      | (exfalso; omega)
theorem ev_sJoin (x y : Int) (S : Store) (hx : isLabel x = true) (hy : isLabel y = true) : EvA Tryz.prog 306 [.s (.int .i64 x), .s (.int .i64 y)] S (fun r S' => r = .v (.s (.int .i64 (lorI x y))) ∧ S' = S) := by
  refine EvA.drop rfl ?_
  have l1 := ownersIn_len x
  have l2 := ownersIn_len y
  rw [← label_join hx hy]
  refine evA_intro tok Tryz.func306 (by kernel_rfl) rfl ?_
  repeat' ((conv => whnf) <;> first
   | (show CondP _ _ _; refine cS ?_) | refine callP_eq (ev_sIsLabel _ _) ?_)
  (conv => whnf)
  refine callP_intro (ev_sOwnersIn x _) ?_; rintro _ S1 ⟨e1, c1, rfl, f1⟩
  skip
  (conv => whnf)
  refine callP_intro (ev_sOwnersIn y _) ?_; rintro _ S2 ⟨e2, c2, rfl, f2⟩
  repeat' ((conv => whnf) <;> first
   | (refine rd_elemsf (f := dInt) (l := ownersIn y) rdA tv (fun _ => ?_)))
  (conv => whnf)
  refine fr_app_flat (f := dInt) (l := ownersIn x) (m := ownersIn y) (fun _ => trivial) (e1.trans e2) (f1.ext e2) rfl (by intro _; rfl) (by dsimp only [T3]; omega) (by rw [maxLen_eq]; omega) ?_; intro c3 S3 e3 f3 l3
  repeat' ((conv => whnf) <;> first
   | refine callP_eq (ev_sLabelOf _ _ _ rdA) ?_ | refine And.intro ?_ ?_)
  all_goals first
    | rfl
    | exact e3
end Go.Proofs.YtlmmdpmmdmhacaaGreat
namespace Go.Proofs.YtlmmdpmmdmhacaaGreat
open Go Go.ChangeShapes Go.WideShapes Go.ChangeAt Go.RowKit
set_option linter.unusedVariables false
set_option linter.unusedSimpArgs false
set_option maxRecDepth 100000
def valueOf (l : List Int) (o : Int) : Int := if 1 ≤ o ∧ o ≤ l.length then (if inR (l.getD (o.toNat - 1) 0) 0 999 then l.getD (o.toNat - 1) 0 else 0) else 0
theorem valueOf_in {l : List Int} {o : Int} (h : 1 ≤ o ∧ o ≤ l.length) : valueOf l o = if inR (l[(o - 1).toNat]'(by omega)) 0 999 then l[(o - 1).toNat]'(by omega) else 0 := by
  unfold valueOf
  have e : l.getD (o.toNat - 1) 0 = l[(o - 1).toNat]'(by omega) := by
    rw [List.getD_eq_getElem?_getD, List.getElem?_eq_getElem (by omega)]
    simp only [Option.getD_some]
    congr 1; omega
  rw [if_pos h, e]
theorem valueOf_out {l : List Int} {o : Int} (h : ¬ (1 ≤ o ∧ o ≤ l.length)) : valueOf l o = 0 := by unfold valueOf; rw [if_neg h]
theorem ev_l21Value (l : List Int) (o : Int) (c : C) (S : Store) (h0 : 1 ≤ o ∧ o ≤ 4611686018427387904) (h : Rd S [.sl 1 (l.map dInt)] [c]) : EvA Tryz.prog 304 [.s c, .s (.int .i64 o)] S (fun r S' => r = .v (.s (.int .i64 (valueOf l o))) ∧ S' = S) := by
  by_cases ho : 1 ≤ o ∧ o ≤ l.length
  · rw [valueOf_in ho]
    refine evA_intro tok Tryz.func304 (by kernel_rfl) rfl ?_
    repeat' ((conv => whnf) <;> first
     | rw [wrapI_i64 (by omega)] | refine cD (fun _ => ?_) fun _ => ?_ | refine cT ?_ | refine condP_ninR (fun _ _ => ?_) (fun _ _ => ?_) | refine callP_eq (ev_l1In _ _ _ _) ?_ | refine rE fun hml => ?_ | refine rI aN rf ix ?_ | refine rd_loadf aN tv ix ?_ | refine And.intro ?_ ?_)
    all_goals first | rfl | (exfalso; omega) | (simp_all [resAV]; done)
  · rw [valueOf_out ho]
    refine evA_intro tok Tryz.func304 (by kernel_rfl) rfl ?_
    repeat' ((conv => whnf) <;> first
     | rw [wrapI_i64 (by omega)] | refine cD (fun _ => ?_) fun _ => ?_ | refine cT ?_ | refine condP_ninR (fun _ _ => ?_) (fun _ _ => ?_) | refine callP_eq (ev_l1In _ _ _ _) ?_ | refine rE fun hml => ?_ | refine rI aN rf ix ?_ | refine rd_loadf aN tv ix ?_ | refine And.intro ?_ ?_)
    all_goals first | rfl | (exfalso; omega)
end Go.Proofs.YtlmmdpmmdmhacaaGreat
