/- Labels, flows, what programs send. -/
import Derived.Test.YtlmmdpmmdmhacaaGreatKt21
import Derived.Test.YtlmmdpmmdmhacaaGreatKt18
namespace Go.Proofs.YtlmmdpmmdmhacaaGreat
open Go Go.ChangeShapes Go.WideShapes Go.ChangeAt Go.RowKit
set_option linter.unusedVariables false
set_option linter.unusedSimpArgs false
set_option maxRecDepth 100000
def zfo (x o : Int) : Bool := x.toNat.testBit o.toNat
def lorI (x y : Int) : Int := ((x.toNat ||| y.toNat : Nat) : Int)
def zbg (x : Int) : Bool := inR x 0 1022 && decide (x % 2 = 0)
theorem zcc {x : Int} (h : zbg x = true) : 0 ≤ x ∧ x ≤ 1022 ∧ x % 2 = 0 := by simp [zbg, inR] at h; omega
theorem z4z {x : Int} (h : 0 ≤ x ∧ x ≤ 1022 ∧ x % 2 = 0) : zbg x = true := by simp [zbg, inR]; omega
theorem z5i {n : Nat} (h : n < 9223372036854775808) : IntKind.wrap .i64 (n : Int) = (n : Int) := IntWalk.i64_in _ (by omega)
theorem toN {x : Int} (h : 0 ≤ x ∧ x ≤ 9223372036854775807) : (BitVec.ofInt 64 x).toNat = x.toNat := by
 rw [BitVec.toNat_ofInt]; congr 1; omega
theorem z6u {x o : Int} (hx : 0 ≤ x) (ho : 0 ≤ o ∧ o ≤ 62) : shrI .i64 x o = ((x.toNat / 2 ^ o.toNat : Nat) : Int) := by
 unfold shrI
 have e : min o.toNat IntKind.i64.bits = o.toNat := by show min o.toNat 64 = _; omega
 rw [e]
 obtain ⟨n, rfl⟩ := Int.eq_ofNat_of_zero_le hx
 rw [Int.fdiv_eq_ediv_of_nonneg _ (by exact Int.le_of_lt (Int.pow_pos (by decide)))]
 simp
theorem z44 {x : Int} (hx : 0 ≤ x ∧ x ≤ 9223372036854775807) : bitsI .and .i64 x 1 = ((x.toNat % 2 : Nat) : Int) := by
 unfold bitsI
 show IntKind.wrap .i64 ((BitVec.ofInt 64 x &&& BitVec.ofInt 64 1).toNat : Int) = _
 rw [BitVec.toNat_and, toN hx, toN (by decide)]
 rw [show (1 : Int).toNat = 1 from rfl, Nat.and_one_is_mod, z5i (by omega)]
theorem z3f {x y : Int} (hx : 0 ≤ x ∧ x ≤ 1022) (hy : 0 ≤ y ∧ y ≤ 1022) : bitsI .or .i64 x y = lorI x y := by
 unfold bitsI
 show IntKind.wrap .i64 ((BitVec.ofInt 64 x ||| BitVec.ofInt 64 y).toNat : Int) = _
 have hl : x.toNat ||| y.toNat < 2 ^ 10 := Nat.or_lt_two_pow (by omega) (by omega)
 rw [BitVec.toNat_or, toN (by omega), toN (by omega), z5i (by omega)]; rfl
theorem z66 {o : Int} (ho : 0 ≤ o ∧ o ≤ 9) : shlI .i64 1 o = ((2 ^ o.toNat : Nat) : Int) := by
 unfold shlI
 have e : min o.toNat IntKind.i64.bits = o.toNat := by show min o.toNat 64 = _; omega
 have hp : 2 ^ o.toNat ≤ 2 ^ 9 := Nat.pow_le_pow_right (by decide) (by omega)
 rw [e, Int.one_mul, show ((2 : Int) ^ o.toNat) = ((2 ^ o.toNat : Nat) : Int) from by simp, z5i (by omega)]
theorem zvd {x o : Int} (hx : 0 ≤ x) : zfo x o = decide (x.toNat / 2 ^ o.toNat % 2 = 1) := by
 unfold zfo
 rw [Nat.testBit_eq_decide_div_mod_eq]
theorem z1m {x o : Int} (hx : 0 ≤ x ∧ x ≤ 1022) (ho : 0 ≤ o ∧ o ≤ 62) : decide (bitsI .and .i64 (shrI .i64 x o) 1 = 1) = zfo x o := by
 have hd : x.toNat / 2 ^ o.toNat ≤ x.toNat := Nat.div_le_self _ _
 rw [z6u hx.1 ho, zvd hx.1]
 generalize x.toNat / 2 ^ o.toNat = q at *
 rw [z44 (by omega), decide_eq_decide, Int.toNat_natCast]
 omega
theorem zfc {x y : Int} (hx : zbg x = true) (hy : zbg y = true) : zbg (lorI x y) = true := by
 have h1 := zcc hx; have h2 := zcc hy
 have hl : x.toNat ||| y.toNat < 2 ^ 10 := Nat.or_lt_two_pow (by omega) (by omega)
 have hm : (x.toNat ||| y.toNat) % 2 = 0 := by
  have e : (x.toNat ||| y.toNat).testBit 0 = (x.toNat.testBit 0 || y.toNat.testBit 0) := Nat.testBit_or ..
  rw [Nat.testBit_zero, Nat.testBit_zero, Nat.testBit_zero] at e
  have hx0 : x.toNat % 2 = 0 := by omega
  have hy0 : y.toNat % 2 = 0 := by omega
  rw [hx0, hy0] at e
  have e2 := of_decide_eq_false (e.trans (by decide))
  omega
 refine z4z ?_
 unfold lorI
 omega
theorem z5c (x y o : Int) : zfo (lorI x y) o = (zfo x o || zfo y o) := by
 unfold zfo lorI
 rw [Int.toNat_natCast, Nat.testBit_or]
def zde (P : Int → Bool) : Nat → Int
 | 0 => 0
 | n + 1 => zde P n + (if P ((n : Int) + 1) then ((2 ^ (n + 1) : Nat) : Int) else 0)
theorem zrh : ∀ n : Fin 512, zde (zfo (2 * (n.val : Int))) 9 = 2 * (n.val : Int) := by decide +kernel
theorem z1w {x : Int} (h : zbg x = true) : zde (zfo x) 9 = x := by
 have h := zcc h
 have e := zrh ⟨(x / 2).toNat, by omega⟩
 rw [show 2 * (((⟨(x / 2).toNat, by omega⟩ : Fin 512).val : Nat) : Int) = x from by show 2 * ((x / 2).toNat : Int) = x; omega] at e
 exact e
theorem zkn {P Q : Int → Bool} : ∀ n : Nat, (∀ o : Int, 1 ≤ o ∧ o ≤ n → P o = Q o) → zde P n = zde Q n
 | 0, _ => rfl
 | n + 1, h => by
   rw [zde, zde, zkn n fun o ho => h o (by omega), h _ (by omega)]
theorem zpl (P : Int → Bool) : ∀ n : Nat, 0 ≤ zde P n ∧ zde P n + 2 ≤ ((2 ^ (n + 1) : Nat) : Int)
 | 0 => by simp [zde]
 | n + 1 => by
   have h := zpl P n
   have e : (2 ^ (n + 1 + 1) : Nat) = 2 ^ (n + 1) + 2 ^ (n + 1) := by rw [Nat.pow_succ]; omega
   rw [zde]
   split <;> omega
theorem zs9 (P : Int → Bool) (o : Int) : ∀ n : Nat, o ∈ zhv P n ↔ (1 ≤ o ∧ o ≤ n ∧ P o = true)
 | 0 => ⟨fun h => (by cases h), fun h => absurd h.2.1 (by have := h.1; omega)⟩
 | n + 1 => by
   rw [zhv, List.mem_append, zs9 P o n]
   split
   ·rename_i h
    rw [List.mem_singleton]
    constructor
    ·rintro (h1 | h1)
     ·exact ⟨h1.1, by have := h1.2.1; omega, h1.2.2⟩
     ·subst h1; exact ⟨by omega, by omega, h⟩
    ·intro h1
     by_cases e : o = (n : Int) + 1
     ·exact .inr e
     ·exact .inl ⟨h1.1, by have := h1.2.1; omega, h1.2.2⟩
   ·rename_i h
    simp only [List.not_mem_nil, or_false]
    constructor
    ·intro h1; exact ⟨h1.1, by have := h1.2.1; omega, h1.2.2⟩
    ·intro h1
     by_cases e : o = (n : Int) + 1
     ·subst e; exact absurd h1.2.2 h
     ·exact ⟨h1.1, by have := h1.2.1; omega, h1.2.2⟩
def zbe (x : Int) : List Int := if zbg x then zhv (zfo x) 9 else []
theorem zei (x : Int) : (zbe x).length ≤ 9 := by unfold zbe; split; exact zkk _ 9; exact Nat.zero_le _
theorem zyz {x y : Int} (hx : zbg x = true) (hy : zbg y = true) : zde (fun o => decide (o ∈ zbe x ++ zbe y)) 9 = lorI x y := by
 rw [← z1w (zfc hx hy)]
 refine zkn 9 fun o ho => ?_
 rw [z5c, Bool.eq_iff_iff]
 unfold zbe
 rw [if_pos hx, if_pos hy]
 simp only [decide_eq_true_eq, List.mem_append, zs9, Bool.or_eq_true]
 constructor
 ·rintro (h | h)
  ·exact .inl h.2.2
  ·exact .inr h.2.2
 ·rintro (h | h)
  ·exact .inl ⟨ho.1, by omega, h⟩
  ·exact .inr ⟨ho.1, by omega, h⟩
theorem zhj (x : Int) (S : Store) : EvA Tryz.prog 307 [.s (.int .i64 x)] S (fun r S' => r = .v (.s (.bool (zbg x))) ∧ S' = S) := by
 have hm : 0 ≤ x → Int.tmod x 2 = x % 2 := fun h => Int.tmod_eq_emod_of_nonneg h
 refine zac tok Tryz.func307 (by kernel_rfl) rfl ?_
 repeat' ((conv => whnf) <;> first
  | refine zbu (fun _ _ => ?_) (fun _ _ => ?_) | refine zaa (zcp _ _ _ _) ?_ | refine nP ?_ | refine And.intro ?_ ?_)
 all_goals first | rfl | (simp_all [zay, zbg]; done) | (simp_all [zay, zbg]; omega) | (simp only [zbg, zay]; simp_all; done)
theorem zhg (x : Int) (S : Store) : EvA Tryz.prog 148 [.s (.int .i64 x)] S (fun r S' => r = .v (.s (.bool (zbg x))) ∧ S' = S) := by
 have hm : 0 ≤ x → Int.tmod x 2 = x % 2 := fun h => Int.tmod_eq_emod_of_nonneg h
 refine zac tok Tryz.func148 (by kernel_rfl) rfl ?_
 repeat' ((conv => whnf) <;> first
  | refine zbu (fun _ _ => ?_) (fun _ _ => ?_) | refine zaa (zat _ _ _ _) ?_ | refine nP ?_ | refine And.intro ?_ ?_)
 all_goals first | rfl | (simp_all [zay, zbg]; done) | (simp_all [zay, zbg]; omega) | (simp only [zbg, zay]; simp_all; done)
theorem zng (o : Int) (S : Store) (ho : 0 ≤ o ∧ o ≤ 9) : EvA Tryz.prog 308 [.s (.int .i64 o)] S (fun r S' => r = .v (.s (.int .i64 ((2 ^ o.toNat : Nat) : Int))) ∧ S' = S) := by
 refine zac tok Tryz.func308 (by kernel_rfl) rfl ?_
 skip
 refine zag {p : Nat × Int // p.1 ≤ o.toNat ∧ p.2 = ((2 ^ p.1 : Nat) : Int)} [3, 4, 5, 6, 7, 8, 9, 10, 11] (fun zb => [(4, .v (.s (.int .i64 (zb.1.1)))), (3, .v (.s (.int .i64 zb.1.2)))]) (fun _ => S) (fun zb => o.toNat - zb.1.1) ⟨(0, 1), Nat.zero_le _, rfl⟩ okL rfl ?_
 rintro ⟨⟨i, st⟩, hi, hinv⟩; dsimp only
 replace hi : i ≤ o.toNat := hi; dsimp only at hinv
 have hp : 2 ^ i ≤ 2 ^ 9 := Nat.pow_le_pow_right (by decide) (by omega)
 rw [show (2 : Nat) ^ 9 = 512 from rfl] at hp
 have hst : 0 ≤ st ∧ st ≤ 512 := by rw [hinv]; exact ⟨Int.natCast_nonneg _, Int.ofNat_le.2 hp⟩
 by_cases hlt : i < o.toNat
 ·have he : ((2 ^ (i + 1) : Nat) : Int) = 2 * st := by rw [hinv, Nat.pow_succ, Int.natCast_mul, Int.mul_comm]; rfl
  clear hp hinv
  repeat' ((conv => whnf) <;> first
   | rw [zad (by omega)] | (show CondP _ _ _; refine cS ?_))
  all_goals first
   | (exfalso; omega)
   | (refine ⟨⟨(i + 1, ((2 ^ (i + 1) : Nat) : Int)), by dsimp only; omega, rfl⟩, ?_, rfl, by dsimp only; omega⟩; (conv => whnf); repeat' (first | exact trivial | exact rfl | exact congrArg (fun z => AV.v (V.s (C.int .i64 z))) he.symm | apply And.intro))
 ·have he : i = o.toNat := by omega
  rw [he] at hinv
  rw [← hinv]
  repeat' ((conv => whnf) <;> first
   | (show CondP _ _ _; refine cS ?_) | refine And.intro ?_ ?_)
  all_goals first
   | rfl
   | (exfalso; omega)
theorem zh8 (x : Int) (S : Store) : EvA Tryz.prog 242 [.s (.int .i64 x)] S (fun r S' => Ext S S' ∧ ∃ c', r = .v (.s c') ∧ Fr S.length S' [.sl 1 ((zbe x).map dInt)] [c']) := by
 rcases hL : zbg x with _ | _
 ·have e : zbe x = [] := by unfold zbe; rw [hL]; rfl
  rw [e]
  refine zac tok Tryz.func242 (by kernel_rfl) rfl ?_
  skip
  refine zag Unit [3, 4, 6, 7, 8, 9, 10, 11, 12, 13, 14, 15, 16, 17, 18, 19, 20, 21, 22, 23] (fun _ => [(4, .v (.s (.int .i64 1))), (3, .v (.s (.sl S.length 0 0 0)))]) (fun _ => S ++ [⟨true, 1, []⟩]) (fun _ => 0) () okL rfl ?_
  intro _; dsimp only
  repeat' ((conv => whnf) <;> first
   | (show CondP _ _ _; refine cS ?_) | refine zaa (zhj _ _) ?_ | refine And.intro ?_ ?_)
  all_goals first
   | exact Ext.push _ _
   | exact ⟨_, rfl, zba⟩
   | (exfalso; omega)
   | (exfalso; simp_all; done)
 ·have e : zbe x = zhv (zfo x) 9 := by unfold zbe; rw [hL]; rfl
  have hx := zcc hL
  rw [e]
  refine zac tok Tryz.func242 (by kernel_rfl) rfl ?_
  skip
  all_goals try (exfalso; simp_all; done)
  refine zag {p : Nat × Store × C // p.1 ≤ 9 ∧ Ext S p.2.1 ∧ Fr S.length p.2.1 [.sl 1 ((zhv (zfo x) p.1).map dInt)] [p.2.2]} [3, 4, 6, 7, 8, 9, 10, 11, 12, 13, 14, 15, 16, 17, 18, 19, 20, 21, 22, 23] (fun zb => [(4, .v (.s (.int .i64 ((zb.1.1 : Int) + 1)))), (3, .v (.s zb.1.2.2))]) (fun zb => zb.1.2.1) (fun zb => 9 - zb.1.1) ⟨(0, _, _), Nat.zero_le _, Ext.push _ _, zba⟩ okL rfl ?_
  rintro ⟨⟨i, Si, ci⟩, hi, hE, hF⟩; dsimp only
  replace hi : i ≤ 9 := hi
  replace hE : Ext S Si := hE
  replace hF : Fr S.length Si [.sl 1 ((zhv (zfo x) i).map dInt)] [ci] := hF
  have hfl := zkk (zfo x) i
  by_cases hlt : i < 9
  ·have hsb := z1m (x := x) (o := (i : Int) + 1) (by omega) (by omega)
   have hdv := zvd (x := x) (o := (i : Int) + 1) hx.1
   have hp : 0 < 2 ^ ((i : Int) + 1).toNat := Nat.pow_pos (by decide)
   have hdl : x.toNat / 2 ^ ((i : Int) + 1).toNat ≤ x.toNat := Nat.div_le_self _ _
   obtain ⟨q, hqd⟩ : ∃ q : Nat, q = x.toNat / 2 ^ ((i : Int) + 1).toNat := ⟨_, rfl⟩
   have hpi : ¬ (((2 ^ ((i : Int) + 1).toNat : Nat) : Int) = 0) := by omega
   have hq : wrapI .i64 (x.tdiv ((2 ^ ((i : Int) + 1).toNat : Nat) : Int)) = (q : Int) := by
    obtain ⟨n, hn⟩ := Int.eq_ofNat_of_zero_le hx.1
    have e2 : x.tdiv ((2 ^ ((i : Int) + 1).toNat : Nat) : Int) = (q : Int) := by rw [hqd, hn]; rfl
    rw [← hqd] at hdl
    rw [e2, zad (by omega)]
   rw [← hqd] at hdv hdl
   have htm : ∀ n : Nat, Int.tmod (n : Int) 2 = ((n % 2 : Nat) : Int) := fun _ => rfl
   rcases hb : zfo x ((i : Int) + 1) with _ | _
   ·have hg := z04 (P := zfo x) (n := i) hb
    rw [hb] at hsb hdv
    have hs1 := of_decide_eq_false hsb
    have hd1 := of_decide_eq_false hdv.symm
    have hd2 : ¬ (Int.tmod (q : Int) 2 = 1) := by rw [htm]; omega
    repeat' ((conv => whnf) <;> first
     | rw [zad (by omega)] | (show CondP _ _ _; refine cS ?_) | refine cD (fun _ => ?_) fun _ => ?_ | refine zaa (zhj _ _) ?_ | refine zaa (zng _ _ om) ?_ | refine nP ?_ | rw [hq] | (refine zdc (f := dInt) aN aN tv (by rfl) rf (by dsimp only [T3]; omega) om ?_; intro cN SN hEN hFN))
    all_goals first
     | (exfalso; omega)
     | (exfalso; simp_all; done)
     | (refine ⟨⟨(i + 1, _, _), by dsimp only; omega, by assumption, by rw [hg]; assumption⟩, ?_, rfl, by dsimp only; omega⟩; (conv => whnf); repeat' (first | exact trivial | exact rfl | (show _ = _; congr 3; dsimp only; omega) | apply And.intro))
   ·have hg := z0w (P := zfo x) (n := i) hb
    rw [hb] at hsb hdv
    have hs1 := of_decide_eq_true hsb
    have hd1 := of_decide_eq_true hdv.symm
    have hd2 : Int.tmod (q : Int) 2 = 1 := by rw [htm]; omega
    repeat' ((conv => whnf) <;> first
     | rw [zad (by omega)] | (show CondP _ _ _; refine cS ?_) | refine cD (fun _ => ?_) fun _ => ?_ | refine zaa (zhj _ _) ?_ | refine zaa (zng _ _ om) ?_ | refine nP ?_ | rw [hq] | (refine zdc (f := dInt) aN aN tv (by rfl) rf (by dsimp only [T3]; omega) om ?_; intro cN SN hEN hFN))
    all_goals first
     | (exfalso; omega)
     | (exfalso; simp_all; done)
     | (refine ⟨⟨(i + 1, _, _), by dsimp only; omega, by assumption, by rw [hg]; assumption⟩, ?_, rfl, by dsimp only; omega⟩; (conv => whnf); repeat' (first | exact trivial | exact rfl | (show _ = _; congr 3; dsimp only; omega) | apply And.intro))
  ·have he : i = 9 := by omega
   subst he
   repeat' ((conv => whnf) <;> first
    | (show CondP _ _ _; refine cS ?_) | refine cF ?_ | refine And.intro ?_ ?_)
   all_goals first
    | exact hE
    | exact ⟨_, rfl, hF⟩
    | (exfalso; omega)
    | (exfalso; simp_all; done)
theorem zib (x : Int) (S : Store) : EvA Tryz.prog 149 [.s (.int .i64 x)] S (fun r S' => Ext S S' ∧ ∃ c', r = .v (.s c') ∧ Fr S.length S' [.sl 1 ((zbe x).map dInt)] [c']) := by
 rcases hL : zbg x with _ | _
 ·have e : zbe x = [] := by unfold zbe; rw [hL]; rfl
  rw [e]
  refine zac tok Tryz.func149 (by kernel_rfl) rfl ?_
  repeat' ((conv => whnf) <;> first
   | (show CondP _ _ _; refine cS ?_) | refine zaa (zhg _ _) ?_ | refine And.intro ?_ ?_)
  all_goals first
   | exact Ext.push _ _
   | exact ⟨_, rfl, zba⟩
   | (exfalso; simp_all; done)
 ·have e : zbe x = zhv (zfo x) 9 := by unfold zbe; rw [hL]; rfl
  have hx := zcc hL
  rw [e]
  refine zac tok Tryz.func149 (by kernel_rfl) rfl ?_
  repeat' ((conv => whnf) <;> first
   | (show CondP _ _ _; refine cS ?_) | refine zaa (zhg _ _) ?_)
  all_goals try (exfalso; simp_all; done)
  refine zag {p : Nat × Store × C // p.1 ≤ 9 ∧ Ext S p.2.1 ∧ Fr S.length p.2.1 [.sl 1 ((zhv (zfo x) p.1).map dInt)] [p.2.2]} [3, 4, 10, 11, 12, 13, 14, 15, 16, 17, 18, 19, 20, 21, 22] (fun zb => [(4, .v (.s (.int .i64 ((zb.1.1 : Int) + 1)))), (3, .v (.s zb.1.2.2))]) (fun zb => zb.1.2.1) (fun zb => 9 - zb.1.1) ⟨(0, _, _), Nat.zero_le _, Ext.push _ _, zba⟩ okL rfl ?_
  rintro ⟨⟨i, Si, ci⟩, hi, hE, hF⟩; dsimp only
  replace hi : i ≤ 9 := hi
  replace hE : Ext S Si := hE
  replace hF : Fr S.length Si [.sl 1 ((zhv (zfo x) i).map dInt)] [ci] := hF
  have hfl := zkk (zfo x) i
  by_cases hlt : i < 9
  ·have hsb := z1m (x := x) (o := (i : Int) + 1) (by omega) (by omega)
   have hdv := zvd (x := x) (o := (i : Int) + 1) hx.1
   have hp : 0 < 2 ^ ((i : Int) + 1).toNat := Nat.pow_pos (by decide)
   have hdl : x.toNat / 2 ^ ((i : Int) + 1).toNat ≤ x.toNat := Nat.div_le_self _ _
   obtain ⟨q, hqd⟩ : ∃ q : Nat, q = x.toNat / 2 ^ ((i : Int) + 1).toNat := ⟨_, rfl⟩
   have hpi : ¬ (((2 ^ ((i : Int) + 1).toNat : Nat) : Int) = 0) := by omega
   have hq : wrapI .i64 (x.tdiv ((2 ^ ((i : Int) + 1).toNat : Nat) : Int)) = (q : Int) := by
    obtain ⟨n, hn⟩ := Int.eq_ofNat_of_zero_le hx.1
    have e2 : x.tdiv ((2 ^ ((i : Int) + 1).toNat : Nat) : Int) = (q : Int) := by rw [hqd, hn]; rfl
    rw [← hqd] at hdl
    rw [e2, zad (by omega)]
   rw [← hqd] at hdv hdl
   have htm : ∀ n : Nat, Int.tmod (n : Int) 2 = ((n % 2 : Nat) : Int) := fun _ => rfl
   rcases hb : zfo x ((i : Int) + 1) with _ | _
   ·have hg := z04 (P := zfo x) (n := i) hb
    rw [hb] at hsb hdv
    have hs1 := of_decide_eq_false hsb
    have hd1 := of_decide_eq_false hdv.symm
    have hd2 : ¬ (Int.tmod (q : Int) 2 = 1) := by rw [htm]; omega
    repeat' ((conv => whnf) <;> first
     | rw [zad (by omega)] | (show CondP _ _ _; refine cS ?_) | refine nP ?_)
    all_goals first
     | (exfalso; omega)
     | (exfalso; simp_all; done)
     | (refine ⟨⟨(i + 1, _, _), by dsimp only; omega, by assumption, by rw [hg]; assumption⟩, ?_, rfl, by dsimp only; omega⟩; (conv => whnf); repeat' (first | exact trivial | exact rfl | (show _ = _; congr 3; dsimp only; omega) | apply And.intro))
   ·have hg := z0w (P := zfo x) (n := i) hb
    rw [hb] at hsb hdv
    have hs1 := of_decide_eq_true hsb
    have hd1 := of_decide_eq_true hdv.symm
    have hd2 : Int.tmod (q : Int) 2 = 1 := by rw [htm]; omega
    repeat' ((conv => whnf) <;> first
     | rw [zad (by omega)] | (show CondP _ _ _; refine cS ?_) | refine nP ?_ | (refine zdc (f := dInt) aN aN tv (by rfl) rf (by dsimp only [T3]; omega) om ?_; intro cN SN hEN hFN))
    all_goals first
     | (exfalso; omega)
     | (exfalso; simp_all; done)
     | (refine ⟨⟨(i + 1, _, _), by dsimp only; omega, by assumption, by rw [hg]; assumption⟩, ?_, rfl, by dsimp only; omega⟩; (conv => whnf); repeat' (first | exact trivial | exact rfl | (show _ = _; congr 3; dsimp only; omega) | apply And.intro))
  ·have he : i = 9 := by omega
   subst he
   repeat' ((conv => whnf) <;> first
    | (show CondP _ _ _; refine cS ?_) | refine And.intro ?_ ?_)
   all_goals first
    | exact hE
    | exact ⟨_, rfl, hF⟩
    | (exfalso; omega)
    | (exfalso; simp_all; done)
def zf0 (v : GFlow) : List GFlow → Nat → Int
 | [], _ => -1
 | x :: r, i => if v = x then i else zf0 v r (i + 1)
theorem zn8 (v : GFlow) : ∀ (l : List GFlow) (i : Nat), (0 ≤ zf0 v l i) ↔ v ∈ l
 | [], i => by simp [zf0]
 | x :: r, i => by
   rw [zf0, List.mem_cons]
   split
   ·rename_i h; subst h; simp
   ·rename_i h; rw [zn8 v r (i + 1)]; simp [h]
theorem zxx (l : List GFlow) (v : GFlow) (c : C) (S : Store) (h : Rd S [.sl 3 (l.map GFlow.d)] [c]) : EvA Tryz.prog 221 [.s c, .agg v.c] S (fun r S' => r = .v (.s (.int .i64 (zf0 v l 0))) ∧ S' = S) := by
 refine zac tok Tryz.func221 (by kernel_rfl) rfl ?_
 repeat' ((conv => whnf) <;> first
  | refine rE fun hml => ?_)
 refine zag {i : Nat // i ≤ l.length ∧ zf0 v (l.drop i) i = zf0 v l 0} [4, 5, 8, 9, 10, 11, 12, 13, 14, 15, 16, 17, 18] (fun zb => [(8, .v (.s (.int .i64 zb.1)))]) (fun _ => S) (fun zb => l.length - zb.1) ⟨0, Nat.zero_le _, rfl⟩ okL rfl ?_
 rintro ⟨i, hi, hinv⟩; dsimp only
 repeat' ((conv => whnf) <;> first
  | rw [zad (by omega)] | refine cD (fun _ => ?_) fun _ => ?_ | refine cI (fun _ => ?_) fun _ => ?_ | refine rI aN rf ix ?_ | refine zaf aN tv ix ?_ | refine zae 11 (iN 6 0 []) (by rfl) (by kernel_rfl) ?_ | refine And.intro ?_ ?_)
 all_goals first
  | rfl
  | (rw [zak (by omega), zf0] at hinv; rw [← hinv]; rfl)
  | (rename_i hb; rw [GFlow.eqb] at hb; have hb' := of_decide_eq_true hb; rw [zam (by omega), zf0] at hinv; have hinv := (if_pos hb').symm.trans hinv; rw [← hinv]; rfl)
  | (rename_i hb; rw [GFlow.eqb] at hb; have hb' := of_decide_eq_false hb
     (refine ⟨⟨i + 1, by omega, by rw [zam (by omega), zf0] at hinv; exact (if_neg hb').symm.trans hinv⟩, ?_, rfl, by simp; omega⟩; (conv => whnf); repeat' (first | exact trivial | exact rfl | apply And.intro)))
theorem zfs (l : List GFlow) (v : GFlow) (c : C) (S : Store) (h : Rd S [.sl 3 (l.map GFlow.d)] [c]) : EvA Tryz.prog 151 [.s c, .agg v.c] S (fun r S' => r = .v (.s (.bool (decide (v ∈ l)))) ∧ S' = S) := by
 have e : decide (v ∈ l) = decide (0 ≤ zf0 v l 0) := by rw [Bool.eq_iff_iff]; simp [zn8]
 rw [e]
 refine zac tok Tryz.func151 (by kernel_rfl) rfl ?_
 repeat' ((conv => whnf) <;> first
  | refine zaa (zxx _ _ _ _ aN) ?_ | refine And.intro ?_ ?_)
 all_goals rfl
theorem zwp (l : List Int) (v : Int) (c : C) (S : Store) (h : Rd S [.sl 1 (l.map dInt)] [c]) : EvA Tryz.prog 351 [.s c, .s (.int .i64 v)] S (fun r S' => r = .v (.s (.bool (decide (v ∈ l)))) ∧ S' = S) := by
 refine zac tok Tryz.func351 (by kernel_rfl) rfl ?_
 skip
 refine zag {i : Nat // i ≤ l.length ∧ decide (v ∈ l.drop i) = decide (v ∈ l)} [4, 5, 6, 7, 8, 9, 10, 11, 12, 13, 14, 15, 16, 17] (fun zb => [(5, .v (.s (.int .i64 zb.1)))]) (fun _ => S) (fun zb => l.length - zb.1) ⟨0, Nat.zero_le _, rfl⟩ okL rfl ?_
 rintro ⟨i, hi, hinv⟩; dsimp only
 by_cases hlt : i < l.length
 ·rw [zam hlt] at hinv
  by_cases he : l[((i : Nat) : Int).toNat]'hlt = v
  ·have hv : v ∈ l := by rw [← he]; exact List.getElem_mem _
   rw [decide_eq_true hv]
   repeat' ((conv => whnf) <;> first
    | (show CondP _ _ _; refine cS ?_) | refine rE fun hml => ?_ | refine rI aN rf ix ?_ | refine zaf aN tv ix ?_ | refine And.intro ?_ ?_)
   all_goals first
    | rfl
    | (exfalso; omega)
    | (exfalso; rename_i hb; simp_all; done)
  ·have hm : (v ∈ l[i] :: l.drop (i + 1)) ↔ v ∈ l.drop (i + 1) := ⟨fun h => (List.mem_cons.1 h).resolve_left fun e => he e.symm, fun h => List.mem_cons.2 (.inr h)⟩
   rw [decide_eq_decide.2 hm] at hinv
   repeat' ((conv => whnf) <;> first
    | rw [zad (by omega)] | (show CondP _ _ _; refine cS ?_) | refine rE fun hml => ?_ | refine rI aN rf ix ?_ | refine zaf aN tv ix ?_)
   all_goals first
    | (exfalso; omega)
    | (refine ⟨⟨i + 1, by omega, hinv⟩, ?_, rfl, by simp; omega⟩; (conv => whnf); repeat' (first | exact trivial | exact rfl | apply And.intro))
    | (exfalso; rename_i hb; simp_all; done)
 ·rw [zak (by omega)] at hinv
  rw [← hinv]
  repeat' ((conv => whnf) <;> first
   | (show CondP _ _ _; refine cS ?_) | refine rE fun hml => ?_ | refine And.intro ?_ ?_)
  all_goals first
   | rfl
   | (exfalso; omega)
theorem zsb (l : List GFlow) (v : GFlow) (c : C) (S : Store) (h : Rd S [.sl 3 (l.map GFlow.d)] [c]) : EvA Tryz.prog 243 [.s c, .agg v.c] S (fun r S' => r = .v (.s (.bool (decide (v ∈ l)))) ∧ S' = S) := by
 refine zac tok Tryz.func243 (by kernel_rfl) rfl ?_
 skip
 refine zag {i : Nat // i ≤ l.length ∧ decide (v ∈ l.drop i) = decide (v ∈ l)} [4, 5, 6, 7, 8, 9, 10, 11, 12, 13, 14, 15, 16, 17] (fun zb => [(5, .v (.s (.int .i64 zb.1)))]) (fun _ => S) (fun zb => l.length - zb.1) ⟨0, Nat.zero_le _, rfl⟩ okL rfl ?_
 rintro ⟨i, hi, hinv⟩; dsimp only
 by_cases hlt : i < l.length
 ·rw [zam hlt] at hinv
  by_cases he : l[((i : Nat) : Int).toNat]'hlt = v
  ·have hv : v ∈ l := by rw [← he]; exact List.getElem_mem _
   rw [decide_eq_true hv]
   repeat' ((conv => whnf) <;> first
    | rw [zad (by omega)] | (show CondP _ _ _; refine cS ?_) | refine cI (fun _ => ?_) fun _ => ?_ | refine rE fun hml => ?_ | refine rI aN rf ix ?_ | refine zaf aN tv ix ?_ | refine zae 12 (iN 6 0 []) (by rfl) (by kernel_rfl) ?_ | refine And.intro ?_ ?_)
   all_goals first
    | rfl
    | (exfalso; omega)
    | (exfalso; rename_i hb; rw [GFlow.eqb] at hb; simp_all; done)
  ·have hm : (v ∈ l[i] :: l.drop (i + 1)) ↔ v ∈ l.drop (i + 1) := ⟨fun h => (List.mem_cons.1 h).resolve_left fun e => he e.symm, fun h => List.mem_cons.2 (.inr h)⟩
   rw [decide_eq_decide.2 hm] at hinv
   repeat' ((conv => whnf) <;> first
    | rw [zad (by omega)] | (show CondP _ _ _; refine cS ?_) | refine cI (fun _ => ?_) fun _ => ?_ | refine rE fun hml => ?_ | refine rI aN rf ix ?_ | refine zaf aN tv ix ?_ | refine zae 12 (iN 6 0 []) (by rfl) (by kernel_rfl) ?_ | refine And.intro ?_ ?_)
   all_goals first
    | (exfalso; omega)
    | (refine ⟨⟨i + 1, by omega, hinv⟩, ?_, rfl, by simp; omega⟩; (conv => whnf); repeat' (first | exact trivial | exact rfl | apply And.intro))
    | (exfalso; rename_i hb; rw [GFlow.eqb] at hb; simp_all; done)
 ·rw [zak (by omega)] at hinv
  rw [← hinv]
  repeat' ((conv => whnf) <;> first
   | (show CondP _ _ _; refine cS ?_) | refine rE fun hml => ?_ | refine And.intro ?_ ?_)
  all_goals first
   | rfl
   | (exfalso; omega)
theorem zz6 (P : Int → Bool) (i : Nat) : zde P (i + 1) = zde P i + (if P ((i : Int) + 1) then ((2 ^ (i + 1) : Nat) : Int) else 0) := rfl
theorem znv (l : List Int) (c : C) (S : Store) (h : Rd S [.sl 1 (l.map dInt)] [c]) : EvA Tryz.prog 305 [.s c] S (fun r S' => r = .v (.s (.int .i64 (zde (fun o => decide (o ∈ l)) 9))) ∧ S' = S) := by
 refine zac tok Tryz.func305 (by kernel_rfl) rfl ?_
 skip
 refine zag {p : Nat × Int // p.1 ≤ 9 ∧ p.2 = zde (fun o => decide (o ∈ l)) p.1} [3, 4, 5, 6, 7, 8, 9, 10, 11, 12, 13, 14, 15] (fun zb => [(4, .v (.s (.int .i64 ((zb.1.1 : Int) + 1)))), (3, .v (.s (.int .i64 zb.1.2)))]) (fun _ => S) (fun zb => 9 - zb.1.1) ⟨(0, 0), Nat.zero_le _, rfl⟩ okL rfl ?_
 rintro ⟨⟨i, st⟩, hi, hinv⟩; dsimp only
 replace hi : i ≤ 9 := hi; dsimp only at hinv
 have hbd := zpl (fun o => decide (o ∈ l)) i
 have hp : 2 ^ (i + 1) ≤ 2 ^ 10 := Nat.pow_le_pow_right (by decide) (by omega)
 rw [show (2 : Nat) ^ 10 = 1024 from rfl] at hp
 rw [← hinv] at hbd
 by_cases hlt : i < 9
 ·have hst := zz6 (fun o => decide (o ∈ l)) i
  have htn : ((i : Int) + 1).toNat = i + 1 := by omega
  rw [← hinv] at hst
  by_cases hm : ((i : Int) + 1) ∈ l
  ·rw [if_pos (decide_eq_true hm)] at hst
   have hd : decide (((i : Int) + 1) ∈ l) = true := decide_eq_true hm
   repeat' ((conv => whnf) <;> first
    | rw [zad (by omega)] | (show CondP _ _ _; refine cS ?_) | refine zaa (zng _ _ om) ?_ | refine zaa (zwp _ _ _ _ aN) ?_ | rw [htn])
   all_goals first
    | (exfalso; omega)
    | (exfalso; simp_all; done)
    | (refine ⟨⟨(i + 1, st + ((2 ^ (i + 1) : Nat) : Int)), by dsimp only; omega, hst.symm⟩, ?_, rfl, by dsimp only; omega⟩; (conv => whnf); repeat' (first | exact trivial | exact rfl | (show _ = _; congr 3; dsimp only; omega) | exact congrArg (fun z : Nat => AV.v (V.s (C.int .i64 (st + ((2 ^ z : Nat) : Int))))) htn | apply And.intro))
  ·rw [if_neg (by simpa using hm)] at hst
   have hd : decide (((i : Int) + 1) ∈ l) = false := decide_eq_false hm
   repeat' ((conv => whnf) <;> first
    | rw [zad (by omega)] | (show CondP _ _ _; refine cS ?_) | refine zaa (zwp _ _ _ _ aN) ?_)
   all_goals first
    | (exfalso; omega)
    | (exfalso; simp_all; done)
    | (refine ⟨⟨(i + 1, st), by dsimp only; omega, by rw [hst]; omega⟩, ?_, rfl, by dsimp only; omega⟩; (conv => whnf); repeat' (first | exact trivial | exact rfl | (show _ = _; congr 3; dsimp only; omega) | apply And.intro))
 ·have he : i = 9 := by omega
  subst he
  rw [← hinv]
  repeat' ((conv => whnf) <;> first
   | (show CondP _ _ _; refine cS ?_) | refine And.intro ?_ ?_)
  all_goals first
   | rfl
   | (exfalso; omega)
theorem zrx (x y : Int) (S : Store) (hx : zbg x = true) (hy : zbg y = true) : EvA Tryz.prog 306 [.s (.int .i64 x), .s (.int .i64 y)] S (fun r S' => r = .v (.s (.int .i64 (lorI x y))) ∧ S' = S) := by
 refine EvA.drop rfl ?_
 have l1 := zei x
 have l2 := zei y
 rw [← zyz hx hy]
 refine zac tok Tryz.func306 (by kernel_rfl) rfl ?_
 repeat' ((conv => whnf) <;> first
  | (show CondP _ _ _; refine cS ?_) | refine zaa (zhj _ _) ?_)
 (conv => whnf)
 refine zab (zh8 x _) ?_; rintro _ S1 ⟨e1, c1, rfl, f1⟩
 skip
 (conv => whnf)
 refine zab (zh8 y _) ?_; rintro _ S2 ⟨e2, c2, rfl, f2⟩
 repeat' ((conv => whnf) <;> first
  | (refine zaq (f := dInt) (l := zbe y) rdA tv (fun _ => ?_)))
 (conv => whnf)
 refine zas (f := dInt) (l := zbe x) (m := zbe y) (fun _ => trivial) (e1.trans e2) (f1.ext e2) rfl (by intro _; rfl) (by dsimp only [T3]; omega) (by rw [zan]; omega) ?_; intro c3 S3 e3 f3 l3
 repeat' ((conv => whnf) <;> first
  | refine zaa (znv _ _ _ rdA) ?_ | refine And.intro ?_ ?_)
 all_goals first
  | rfl
  | exact e3
def zkg (l : List GFlow) (ext to o : Int) : Bool := decide (o = to) || (zel ⟨ext, o, to⟩ && decide ((⟨ext, o, to⟩ : GFlow) ∈ l))
def zfe (l : List GFlow) (ext label to : Int) : Bool := (zbg label && inR to 1 9) && (zbe label).all fun o => zkg l ext to o
theorem zhe (l : List GFlow) (ext label to : Int) (c : C) (S : Store) (h : Rd S [.sl 3 (l.map GFlow.d)] [c]) : EvA Tryz.prog 75 [.s c, .s (.int .i64 ext), .s (.int .i64 label), .s (.int .i64 to)] S (fun r S' => r = .v (.s (.bool (zfe l ext label to))) ∧ S' = S) := by
 refine EvA.drop rfl ?_
 have hln := zei label
 have hmf : zfe l ext label to = ((zbg label && inR to 1 9) && (zbe label).all fun o => zkg l ext to o) := rfl
 generalize hE : (zbg label && inR to 1 9) = E at hmf
 refine zac tok Tryz.func75 (by kernel_rfl) rfl ?_
 rcases E with _ | _
 ·rw [Bool.false_and] at hmf
  rw [hmf]
  repeat' ((conv => whnf) <;> first
   | refine cT ?_ | refine zar (fun _ _ => ?_) (fun _ _ => ?_) | refine cN (fun _ => ?_) fun _ => ?_ | refine zaa (zat _ _ _ _) ?_ | refine zaa (zhg _ _) ?_ | (refine zab (zib _ _) ?_; rintro _ Sn ⟨hEn, cn, rfl, hFn⟩) | refine rE fun hml => ?_ | refine And.intro ?_ ?_)
  all_goals first
   | rfl
   | exact Ext.refl _
   | (exfalso; simp_all; done)
 simp only [Bool.and_eq_true] at hE
 repeat' ((conv => whnf) <;> first
  | refine cT ?_ | refine zar (fun _ _ => ?_) (fun _ _ => ?_) | refine cN (fun _ => ?_) fun _ => ?_ | refine zaa (zat _ _ _ _) ?_ | refine zaa (zhg _ _) ?_ | refine And.intro ?_ ?_)
 all_goals try (exfalso; simp_all; done)
 (conv => whnf)
 refine zab (zib label _) ?_; rintro _ S1 ⟨e1, c1, rfl, f1⟩
 have hr := f1.rd
 have hh := h.ext e1
 generalize zbe label = x at *
 clear f1
 repeat' ((conv => whnf) <;> first
  | refine rE fun hml => ?_)
 refine zag {i : Nat // i ≤ x.length ∧ (x.drop i).all (fun o => zkg l ext to o) = x.all (fun o => zkg l ext to o)} [8, 10, 11, 23, 24, 25, 26, 27, 28, 29, 30, 31, 32, 33, 34, 35, 36, 37, 38, 39, 40, 41, 42, 43, 44, 45] (fun zb => [(23, .v (.s (.int .i64 zb.1)))]) (fun _ => S1) (fun zb => x.length - zb.1) ⟨0, Nat.zero_le _, rfl⟩ okL rfl ?_
 rintro ⟨i, hi, hinv⟩; dsimp only
 by_cases hlt : i < x.length
 ·rw [zam hlt, List.all_cons] at hinv
  rcases hP : zkg l ext to (x[((i : Nat) : Int).toNat]'hlt) with _ | _
  ·rw [show zkg l ext to x[i] = false from hP, Bool.false_and] at hinv
   rw [← hinv, Bool.and_false] at hmf
   rw [hmf]
   unfold zkg at hP
   repeat' ((conv => whnf) <;> first
    | rw [zad (by omega)] | (show CondP _ _ _; refine cS ?_) | refine cE (fun _ => ?_) fun _ => ?_ | refine cT ?_ | refine cF ?_ | refine cN (fun _ => ?_) fun _ => ?_ | refine zaa (ze1 ⟨_, _, _⟩ _) ?_ | refine zaa (zfs _ ⟨_, _, _⟩ _ _ rdA) ?_ | refine rI rdA rf ix ?_ | refine zaf rdA tv ix ?_ | refine And.intro ?_ ?_)
   all_goals first
    | rfl
    | exact e1
    | (exfalso; omega)
    | (exfalso; simp_all; done)
  ·rw [show zkg l ext to x[i] = true from hP, Bool.true_and] at hinv
   unfold zkg at hP
   repeat' ((conv => whnf) <;> first
    | rw [zad (by omega)] | (show CondP _ _ _; refine cS ?_) | refine cE (fun _ => ?_) fun _ => ?_ | refine cT ?_ | refine cF ?_ | refine cN (fun _ => ?_) fun _ => ?_ | refine zaa (ze1 ⟨_, _, _⟩ _) ?_ | refine zaa (zfs _ ⟨_, _, _⟩ _ _ rdA) ?_ | refine rI rdA rf ix ?_ | refine zaf rdA tv ix ?_ | refine And.intro ?_ ?_)
   all_goals first
    | (exfalso; omega)
    | (refine ⟨⟨i + 1, by omega, hinv⟩, ?_, rfl, by simp; omega⟩; (conv => whnf); repeat' (first | exact trivial | exact rfl | apply And.intro))
    | (exfalso; simp_all; done)
 ·rw [zak (by omega), List.all_nil] at hinv
  rw [← hinv, Bool.and_true] at hmf
  rw [hmf]
  repeat' ((conv => whnf) <;> first
   | (show CondP _ _ _; refine cS ?_) | refine And.intro ?_ ?_)
  all_goals first
   | rfl
   | exact e1
   | (exfalso; omega)
   | (simp_all [zay]; done)
end Go.Proofs.YtlmmdpmmdmhacaaGreat
