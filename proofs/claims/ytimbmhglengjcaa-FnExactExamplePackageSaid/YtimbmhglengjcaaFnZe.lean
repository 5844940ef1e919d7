/- Example packages. -/
import Derived.Test.YtimbmhglengjcaaFnZa
namespace Go.Proofs.Ytimbmhglengjcaa
open Go Go.ChangeShapes Go.WideShapes Go.ChangeAt Go.RowKit
set_option linter.unusedVariables false
set_option maxRecDepth 100000

def exGr (n u : Int) (ks : List Int) : List GGrant := ks.map fun k => ⟨n, ⟨0, -1⟩, k, 0, u, false⟩
abbrev exR2 : List GRule := [⟨2, 1, ⟨3, -1⟩, 2, 2, ⟨0, 0⟩⟩, ⟨2, 1, ⟨2, -1⟩, 1, 3, ⟨1, 0⟩⟩]
abbrev exF3 : List GFlow := [⟨3, 1, 2⟩]
abbrev exO3 : List GOp := [⟨1, 0, 1, 0⟩, ⟨2, 1, 7, 0⟩, ⟨3, 2, 0, 1⟩, ⟨5, 2, 2, 0⟩, ⟨5, 2, 1, 0⟩]
def ex1 (v u : Int) : GPackage := ⟨1, 1, v, exGr 1 u [1, 2], [], [], [], 0⟩
def ex2 (v u : Int) : GPackage := ⟨2, 1, v, exGr 2 u [3], [], exR2, [], 0⟩
def ex3 (v u : Int) : GPackage := ⟨3, 1, v, exGr 3 u [1, 3, 4], exF3, [], exO3, 0⟩
def exPack (n v u : Int) : GPackage := if n = 1 then sealed 5 (ex1 v u) else if n = 2 then sealed 5 (ex2 v u) else if n = 3 then sealed 5 (ex3 v u) else default
theorem ex1_sz (v u : Int) : szL (ex1 v u).d ≤ 100 := by simp [ex1, exGr, GPackage.d, szL, szL.szLL, GGrant.d]
theorem ex2_sz (v u : Int) : szL (ex2 v u).d ≤ 100 := by simp [ex2, exGr, GPackage.d, szL, szL.szLL, GGrant.d, GRule.d]
theorem ex3_sz (v u : Int) : szL (ex3 v u).d ≤ 100 := by simp [ex3, exGr, GPackage.d, szL, szL.szLL, GGrant.d, GFlow.d, GOp.d]
theorem sealed_sz (k : Int) (p : GPackage) : szL (sealed k p).d = szL p.d := by simp only [sealed, GPackage.d, szL]
theorem exPack_sz (n v u : Int) : szL (exPack n v u).d ≤ 100 := by
  have h1 := ex1_sz v u
  have h2 := ex2_sz v u
  have h3 := ex3_sz v u
  unfold exPack
  split
  · rw [sealed_sz]; exact h1
  · split
    · rw [sealed_sz]; exact h2
    · split
      · rw [sealed_sz]; exact h3
      · simp [default, instInhabitedGPackage.default, GPackage.d, szL, szL.szLL]
theorem fr_pack0 {S : Store} {lo : Nat} : Fr lo S (default : GPackage).d [.int .i64 0, .int .i64 0, .int .i64 0, .nil, .nil, .nil, .nil, .int .i64 0] := fr_x (fr_x (fr_x (fr_slnil (fr_slnil (fr_slnil (fr_slnil (fr_x fr_nil)))))))
theorem exGr_take {n u : Int} {ks : List Int} {i : Nat} (h : i < ks.length) : exGr n u (ks.take (i + 1)) = exGr n u (ks.take i) ++ [⟨n, ⟨0, -1⟩, ks[i], 0, u, false⟩] := by
  unfold exGr; rw [List.take_succ_eq_append_getElem h, List.map_append]; rfl
theorem rdK {S : Store} (l : List Int) (h : l.length ≤ 9) : Rd (S ++ [⟨true, 1, l.map fun n => [.int .i64 n]⟩]) [.sl 1 (l.map dInt)] [.sl S.length 0 l.length l.length] := rd_litI l (by omega)
theorem ev_l40Grants (n u : Int) (ks : List Int) (c : C) (S : Store) (h : Rd S [.sl 1 (ks.map dInt)] [c]) (hz : ks.length ≤ 9) : EvA Try.prog 23 [.s (.int .i64 n), .s c, .s (.int .i64 u)] S (fun r S' => Ext S S' ∧ ∃ d, r = .v (.s d) ∧ Fr S.length S' [.sl 7 ((exGr n u ks).map GGrant.d)] [d]) := by
  refine evA_intro tok Try.func23 (by kernel_rfl) rfl ?_
  repeat' ((conv => whnf) <;> first
   | rw [wrapI_i64 (by omega)]
   | (refine condP_true ?_ ?_; · assumption)
   | (refine condP_false ?_ ?_; · assumption)
   | (refine condP_nt ?_ ?_; · assumption)
   | (refine condP_nf ?_ ?_; · assumption)
   | (refine condP_decT ?_ ?_; · omega)
   | (refine condP_decF ?_ ?_; · omega)
   | (refine condP_ndT ?_ ?_; · omega)
   | (refine condP_ndF ?_ ?_; · omega)
   | refine condP_dec (fun _ => ?_) (fun _ => ?_)
   | refine condP_ndec (fun _ => ?_) (fun _ => ?_)
   | refine condP_true rfl ?_
   | refine condP_false rfl ?_
   | refine condP_not (fun _ => ?_) (fun _ => ?_)
   | refine condP_intro (fun _ => ?_) (fun _ => ?_)
   | (refine rd_lenm rdA ?_; intro hml; rw [maxLen_eq] at hml)
   | refine rd_idxm rdA (by intro _; rfl) (by constructor <;> omega) ?_
   | refine rd_loadf rdA (by intro _; exact trivial) (by constructor <;> omega) ?_
   | refine needP_intro (by first | omega | (constructor <;> omega)) ?_
   | refine And.intro ?_ ?_)
  refine loop_intro {p : Nat × Store × C // p.1 ≤ ks.length ∧ Ext S p.2.1 ∧ Fr S.length p.2.1 [.sl 7 ((exGr n u (ks.take p.1)).map GGrant.d)] [p.2.2]} [7, 8, 10, 11, 12, 13, 14, 15, 16, 17, 18, 19, 20, 21, 22, 23, 24, 25, 26] (fun zb => [(8, .v (.s (.int .i64 (zb.1.1)))), (7, .v (.s zb.1.2.2))]) (fun zb => zb.1.2.1) (fun zb => ks.length - zb.1.1) ⟨(0, _, _), Nat.zero_le _, Ext.push _ _, fr_lit0⟩ ?_ rfl ?_
  · (conv => whnf); repeat' (first | exact trivial | exact rfl | apply And.intro)
  rintro ⟨⟨i, Si, ci⟩, hi, hE, hF⟩; dsimp only
  replace hi : i ≤ ks.length := hi
  replace hE : Ext S Si := hE
  replace hF : Fr S.length Si [.sl 7 ((exGr n u (ks.take i)).map GGrant.d)] [ci] := hF
  have hfl : (exGr n u (ks.take i)).length ≤ 9 := by unfold exGr; rw [List.length_map, List.length_take]; omega
  by_cases hlt : i < ks.length
  · have hst := exGr_take (n := n) (u := u) hlt
    repeat' ((conv => whnf) <;> first
     | rw [wrapI_i64 (by omega)]
     | (refine condP_true ?_ ?_; · assumption)
     | (refine condP_false ?_ ?_; · assumption)
     | (refine condP_nt ?_ ?_; · assumption)
     | (refine condP_nf ?_ ?_; · assumption)
     | (refine condP_decT ?_ ?_; · omega)
     | (refine condP_decF ?_ ?_; · omega)
     | (refine condP_ndT ?_ ?_; · omega)
     | (refine condP_ndF ?_ ?_; · omega)
     | refine condP_dec (fun _ => ?_) (fun _ => ?_)
     | refine condP_ndec (fun _ => ?_) (fun _ => ?_)
     | refine condP_true rfl ?_
     | refine condP_false rfl ?_
     | refine condP_not (fun _ => ?_) (fun _ => ?_)
     | refine condP_intro (fun _ => ?_) (fun _ => ?_)
     | (refine rd_lenm rdA ?_; intro hml; rw [maxLen_eq] at hml)
     | refine rd_idxm rdA (by intro _; rfl) (by constructor <;> omega) ?_
     | refine rd_loadf rdA (by intro _; exact trivial) (by constructor <;> omega) ?_
     | refine needP_intro (by first | omega | (constructor <;> omega)) ?_
     | (refine fr_app1 (f := GGrant.d) (x := ⟨n, ⟨0, -1⟩, ks[((i : Nat) : Int).toNat]'hlt, 0, u, false⟩) hF hE (by intro _; exact trivial) (by rfl) (by intro _; rfl) (by dsimp only [T54]; omega) (by omega) ?_; intro cN SN hEN hFN)
     | refine And.intro ?_ ?_)
    all_goals first
      | (exfalso; omega)
      | (refine ⟨⟨(i + 1, _, _), by dsimp only; omega, by assumption, by rw [hst]; exact hFN⟩, ?_, rfl, by dsimp only; omega⟩; (conv => whnf); repeat' (first | exact trivial | exact rfl | (show _ = _; congr 3; dsimp only; omega) | apply And.intro))
  · rw [List.take_of_length_le (by omega)] at hF
    repeat' ((conv => whnf) <;> first
     | rw [wrapI_i64 (by omega)]
     | (refine condP_true ?_ ?_; · assumption)
     | (refine condP_false ?_ ?_; · assumption)
     | (refine condP_nt ?_ ?_; · assumption)
     | (refine condP_nf ?_ ?_; · assumption)
     | (refine condP_decT ?_ ?_; · omega)
     | (refine condP_decF ?_ ?_; · omega)
     | (refine condP_ndT ?_ ?_; · omega)
     | (refine condP_ndF ?_ ?_; · omega)
     | refine condP_dec (fun _ => ?_) (fun _ => ?_)
     | refine condP_ndec (fun _ => ?_) (fun _ => ?_)
     | refine condP_true rfl ?_
     | refine condP_false rfl ?_
     | refine condP_not (fun _ => ?_) (fun _ => ?_)
     | refine condP_intro (fun _ => ?_) (fun _ => ?_)
     | (refine rd_lenm rdA ?_; intro hml; rw [maxLen_eq] at hml)
     | refine rd_idxm rdA (by intro _; rfl) (by constructor <;> omega) ?_
     | refine rd_loadf rdA (by intro _; exact trivial) (by constructor <;> omega) ?_
     | refine needP_intro (by first | omega | (constructor <;> omega)) ?_
     | refine And.intro ?_ ?_)
    all_goals first
      | exact hE
      | (exfalso; omega)
      | exact ⟨_, rfl, hF⟩
set_option maxHeartbeats 4000000 in
theorem ev_l40Package (n v u : Int) (S : Store) : EvA Try.prog 9 [.s (.int .i64 n), .s (.int .i64 v), .s (.int .i64 u)] S (fun r S' => Ext S S' ∧ ∃ c3 c4 c5 c6, r = .v (.agg [.int .i64 (exPack n v u).Ext, .int .i64 (exPack n v u).Author, .int .i64 (exPack n v u).Version, c3, c4, c5, c6, .int .i64 (exPack n v u).Seal]) ∧ Fr S.length S' (exPack n v u).d [.int .i64 (exPack n v u).Ext, .int .i64 (exPack n v u).Author, .int .i64 (exPack n v u).Version, c3, c4, c5, c6, .int .i64 (exPack n v u).Seal]) := by
  by_cases hn1 : n = 1
  · subst hn1
    rw [show exPack 1 v u = sealed 5 (ex1 v u) from rfl]
    refine evA_intro tok Try.func9 (by kernel_rfl) rfl ?_
    repeat' ((conv => whnf) <;> first
     | (refine condP_true ?_ ?_; · assumption)
     | (refine condP_false ?_ ?_; · assumption)
     | (refine condP_nt ?_ ?_; · assumption)
     | (refine condP_nf ?_ ?_; · assumption)
     | (refine condP_decT ?_ ?_; · omega)
     | (refine condP_decF ?_ ?_; · omega)
     | (refine condP_ndT ?_ ?_; · omega)
     | (refine condP_ndF ?_ ?_; · omega)
     | refine condP_dec (fun _ => ?_) (fun _ => ?_)
     | refine condP_ndec (fun _ => ?_) (fun _ => ?_)
     | refine condP_true rfl ?_
     | refine condP_false rfl ?_
     | refine condP_not (fun _ => ?_) (fun _ => ?_)
     | refine condP_intro (fun _ => ?_) (fun _ => ?_)
     | refine needP_intro (by first | omega | (constructor <;> omega)) ?_
     | refine And.intro ?_ ?_)
    (conv => whnf)
    refine callP_intro (ev_l40Grants 1 u [1, 2] _ _ (rdK [1, 2] (by decide)) (by decide)) ?_; rintro _ S1 ⟨e1, cg, rfl, fg⟩
    have E1 : Ext S S1 := (Ext.push _ _).trans e1
    have hG := fg.rd
    have E2 := E1
    repeat' ((conv => whnf) <;> first
     | (refine condP_true ?_ ?_; · assumption)
     | (refine condP_false ?_ ?_; · assumption)
     | (refine condP_nt ?_ ?_; · assumption)
     | (refine condP_nf ?_ ?_; · assumption)
     | (refine condP_decT ?_ ?_; · omega)
     | (refine condP_decF ?_ ?_; · omega)
     | (refine condP_ndT ?_ ?_; · omega)
     | (refine condP_ndF ?_ ?_; · omega)
     | refine condP_dec (fun _ => ?_) (fun _ => ?_)
     | refine condP_ndec (fun _ => ?_) (fun _ => ?_)
     | refine condP_true rfl ?_
     | refine condP_false rfl ?_
     | refine condP_not (fun _ => ?_) (fun _ => ?_)
     | refine condP_intro (fun _ => ?_) (fun _ => ?_)
     | refine needP_intro (by first | omega | (constructor <;> omega)) ?_
     | refine And.intro ?_ ?_)
    (conv => whnf)
    refine callP_intro (ev_sSealPackage 5 (ex1 v u) _ _ (GPackage.rd hG rd_empty0 rd_empty0 rd_empty0) (Nat.le_trans (ex1_sz v u) (by decide))) ?_; rintro _ S9 ⟨e9, g3, g4, g5, g6, rfl, f9⟩
    repeat' ((conv => whnf) <;> first
     | (refine condP_true ?_ ?_; · assumption)
     | (refine condP_false ?_ ?_; · assumption)
     | (refine condP_nt ?_ ?_; · assumption)
     | (refine condP_nf ?_ ?_; · assumption)
     | (refine condP_decT ?_ ?_; · omega)
     | (refine condP_decF ?_ ?_; · omega)
     | (refine condP_ndT ?_ ?_; · omega)
     | (refine condP_ndF ?_ ?_; · omega)
     | refine condP_dec (fun _ => ?_) (fun _ => ?_)
     | refine condP_ndec (fun _ => ?_) (fun _ => ?_)
     | refine condP_true rfl ?_
     | refine condP_false rfl ?_
     | refine condP_not (fun _ => ?_) (fun _ => ?_)
     | refine condP_intro (fun _ => ?_) (fun _ => ?_)
     | (refine callP_intro (ev_l40Grants _ _ _ _ _ rdA (by omega)) ?_; rintro _ Sn ⟨hEn, cn, rfl, hFn⟩)
     | (refine callP_intro (ev_sSealPackage _ _ _ _ rdcA (by (first | omega | exact sz_at hz (by omega) | (simp only [szL]; omega)))) ?_; rintro _ Sn ⟨hEn, _, _, _, _, rfl, hFn⟩)
     | refine needP_intro (by first | omega | (constructor <;> omega)) ?_
     | refine And.intro ?_ ?_)
    all_goals first
      | exact E2.trans e9
      | exact ⟨_, _, _, _, rfl, f9.mono E2.len⟩
  · skip
    by_cases hn2 : n = 2
    · subst hn2
      rw [show exPack 2 v u = sealed 5 (ex2 v u) from rfl]
      refine evA_intro tok Try.func9 (by kernel_rfl) rfl ?_
      repeat' ((conv => whnf) <;> first
       | (refine condP_true ?_ ?_; · assumption)
       | (refine condP_false ?_ ?_; · assumption)
       | (refine condP_nt ?_ ?_; · assumption)
       | (refine condP_nf ?_ ?_; · assumption)
       | (refine condP_decT ?_ ?_; · omega)
       | (refine condP_decF ?_ ?_; · omega)
       | (refine condP_ndT ?_ ?_; · omega)
       | (refine condP_ndF ?_ ?_; · omega)
       | refine condP_dec (fun _ => ?_) (fun _ => ?_)
       | refine condP_ndec (fun _ => ?_) (fun _ => ?_)
       | refine condP_true rfl ?_
       | refine condP_false rfl ?_
       | refine condP_not (fun _ => ?_) (fun _ => ?_)
       | refine condP_intro (fun _ => ?_) (fun _ => ?_)
       | refine needP_intro (by first | omega | (constructor <;> omega)) ?_
       | refine And.intro ?_ ?_)
      (conv => whnf)
      refine callP_intro (ev_l40Grants 2 u [3] _ _ (rdK [3] (by decide)) (by decide)) ?_; rintro _ S1 ⟨e1, cg, rfl, fg⟩
      have E1 : Ext S S1 := (Ext.push _ _).trans e1
      have hG := fg.rd.ext (Ext.push S1 ⟨true, 8, exR2.map fun x => flatC (GRule.d x)⟩)
      have hR := (fr_litF (S := S1) (f := GRule.d) (k := 8) exR2 (fun _ => trivial) (by decide)).rd
      have E2 := E1.trans (Ext.push S1 ⟨true, 8, exR2.map fun x => flatC (GRule.d x)⟩)
      repeat' ((conv => whnf) <;> first
       | (refine condP_true ?_ ?_; · assumption)
       | (refine condP_false ?_ ?_; · assumption)
       | (refine condP_nt ?_ ?_; · assumption)
       | (refine condP_nf ?_ ?_; · assumption)
       | (refine condP_decT ?_ ?_; · omega)
       | (refine condP_decF ?_ ?_; · omega)
       | (refine condP_ndT ?_ ?_; · omega)
       | (refine condP_ndF ?_ ?_; · omega)
       | refine condP_dec (fun _ => ?_) (fun _ => ?_)
       | refine condP_ndec (fun _ => ?_) (fun _ => ?_)
       | refine condP_true rfl ?_
       | refine condP_false rfl ?_
       | refine condP_not (fun _ => ?_) (fun _ => ?_)
       | refine condP_intro (fun _ => ?_) (fun _ => ?_)
       | refine needP_intro (by first | omega | (constructor <;> omega)) ?_
       | refine And.intro ?_ ?_)
      (conv => whnf)
      refine callP_intro (ev_sSealPackage 5 (ex2 v u) _ _ (GPackage.rd hG rd_empty0 hR rd_empty0) (Nat.le_trans (ex2_sz v u) (by decide))) ?_; rintro _ S9 ⟨e9, g3, g4, g5, g6, rfl, f9⟩
      repeat' ((conv => whnf) <;> first
       | (refine condP_true ?_ ?_; · assumption)
       | (refine condP_false ?_ ?_; · assumption)
       | (refine condP_nt ?_ ?_; · assumption)
       | (refine condP_nf ?_ ?_; · assumption)
       | (refine condP_decT ?_ ?_; · omega)
       | (refine condP_decF ?_ ?_; · omega)
       | (refine condP_ndT ?_ ?_; · omega)
       | (refine condP_ndF ?_ ?_; · omega)
       | refine condP_dec (fun _ => ?_) (fun _ => ?_)
       | refine condP_ndec (fun _ => ?_) (fun _ => ?_)
       | refine condP_true rfl ?_
       | refine condP_false rfl ?_
       | refine condP_not (fun _ => ?_) (fun _ => ?_)
       | refine condP_intro (fun _ => ?_) (fun _ => ?_)
       | (refine callP_intro (ev_l40Grants _ _ _ _ _ rdA (by omega)) ?_; rintro _ Sn ⟨hEn, cn, rfl, hFn⟩)
       | (refine callP_intro (ev_sSealPackage _ _ _ _ rdcA (by (first | omega | exact sz_at hz (by omega) | (simp only [szL]; omega)))) ?_; rintro _ Sn ⟨hEn, _, _, _, _, rfl, hFn⟩)
       | refine needP_intro (by first | omega | (constructor <;> omega)) ?_
       | refine And.intro ?_ ?_)
      all_goals first
        | exact E2.trans e9
        | exact ⟨_, _, _, _, rfl, f9.mono E2.len⟩
    · skip
      by_cases hn3 : n = 3
      · subst hn3
        rw [show exPack 3 v u = sealed 5 (ex3 v u) from rfl]
        refine evA_intro tok Try.func9 (by kernel_rfl) rfl ?_
        repeat' ((conv => whnf) <;> first
         | (refine condP_true ?_ ?_; · assumption)
         | (refine condP_false ?_ ?_; · assumption)
         | (refine condP_nt ?_ ?_; · assumption)
         | (refine condP_nf ?_ ?_; · assumption)
         | (refine condP_decT ?_ ?_; · omega)
         | (refine condP_decF ?_ ?_; · omega)
         | (refine condP_ndT ?_ ?_; · omega)
         | (refine condP_ndF ?_ ?_; · omega)
         | refine condP_dec (fun _ => ?_) (fun _ => ?_)
         | refine condP_ndec (fun _ => ?_) (fun _ => ?_)
         | refine condP_true rfl ?_
         | refine condP_false rfl ?_
         | refine condP_not (fun _ => ?_) (fun _ => ?_)
         | refine condP_intro (fun _ => ?_) (fun _ => ?_)
         | refine needP_intro (by first | omega | (constructor <;> omega)) ?_
         | refine And.intro ?_ ?_)
        (conv => whnf)
        refine callP_intro (ev_l40Grants 3 u [1, 3, 4] _ _ (rdK [1, 3, 4] (by decide)) (by decide)) ?_; rintro _ S1 ⟨e1, cg, rfl, fg⟩
        have E1 : Ext S S1 := (Ext.push _ _).trans e1
        have X1 := Ext.push S1 ⟨true, 3, exF3.map fun x => flatC (GFlow.d x)⟩
        have X2 := Ext.push (S1 ++ [⟨true, 3, exF3.map fun x => flatC (GFlow.d x)⟩]) ⟨true, 4, exO3.map fun x => flatC (GOp.d x)⟩
        have hG := fg.rd.ext (X1.trans X2)
        have hFl := (fr_litF (S := S1) (f := GFlow.d) (k := 3) exF3 (fun _ => trivial) (by decide)).rd.ext X2
        have hO := (fr_litF (S := S1 ++ [⟨true, 3, exF3.map fun x => flatC (GFlow.d x)⟩]) (f := GOp.d) (k := 4) exO3 (fun _ => trivial) (by decide)).rd
        have E2 := E1.trans (X1.trans X2)
        repeat' ((conv => whnf) <;> first
         | (refine condP_true ?_ ?_; · assumption)
         | (refine condP_false ?_ ?_; · assumption)
         | (refine condP_nt ?_ ?_; · assumption)
         | (refine condP_nf ?_ ?_; · assumption)
         | (refine condP_decT ?_ ?_; · omega)
         | (refine condP_decF ?_ ?_; · omega)
         | (refine condP_ndT ?_ ?_; · omega)
         | (refine condP_ndF ?_ ?_; · omega)
         | refine condP_dec (fun _ => ?_) (fun _ => ?_)
         | refine condP_ndec (fun _ => ?_) (fun _ => ?_)
         | refine condP_true rfl ?_
         | refine condP_false rfl ?_
         | refine condP_not (fun _ => ?_) (fun _ => ?_)
         | refine condP_intro (fun _ => ?_) (fun _ => ?_)
         | refine needP_intro (by first | omega | (constructor <;> omega)) ?_
         | refine And.intro ?_ ?_)
        (conv => whnf)
        refine callP_intro (ev_sSealPackage 5 (ex3 v u) _ _ (GPackage.rd hG hFl rd_empty0 hO) (Nat.le_trans (ex3_sz v u) (by decide))) ?_; rintro _ S9 ⟨e9, g3, g4, g5, g6, rfl, f9⟩
        repeat' ((conv => whnf) <;> first
         | (refine condP_true ?_ ?_; · assumption)
         | (refine condP_false ?_ ?_; · assumption)
         | (refine condP_nt ?_ ?_; · assumption)
         | (refine condP_nf ?_ ?_; · assumption)
         | (refine condP_decT ?_ ?_; · omega)
         | (refine condP_decF ?_ ?_; · omega)
         | (refine condP_ndT ?_ ?_; · omega)
         | (refine condP_ndF ?_ ?_; · omega)
         | refine condP_dec (fun _ => ?_) (fun _ => ?_)
         | refine condP_ndec (fun _ => ?_) (fun _ => ?_)
         | refine condP_true rfl ?_
         | refine condP_false rfl ?_
         | refine condP_not (fun _ => ?_) (fun _ => ?_)
         | refine condP_intro (fun _ => ?_) (fun _ => ?_)
         | (refine callP_intro (ev_l40Grants _ _ _ _ _ rdA (by omega)) ?_; rintro _ Sn ⟨hEn, cn, rfl, hFn⟩)
         | (refine callP_intro (ev_sSealPackage _ _ _ _ rdcA (by (first | omega | exact sz_at hz (by omega) | (simp only [szL]; omega)))) ?_; rintro _ Sn ⟨hEn, _, _, _, _, rfl, hFn⟩)
         | refine needP_intro (by first | omega | (constructor <;> omega)) ?_
         | refine And.intro ?_ ?_)
        all_goals first
          | exact E2.trans e9
          | exact ⟨_, _, _, _, rfl, f9.mono E2.len⟩
      · rw [show exPack n v u = default from by unfold exPack; rw [if_neg hn1, if_neg hn2, if_neg hn3]]
        refine evA_intro tok Try.func9 (by kernel_rfl) rfl ?_
        repeat' ((conv => whnf) <;> first
         | (refine condP_true ?_ ?_; · assumption)
         | (refine condP_false ?_ ?_; · assumption)
         | (refine condP_nt ?_ ?_; · assumption)
         | (refine condP_nf ?_ ?_; · assumption)
         | (refine condP_decT ?_ ?_; · omega)
         | (refine condP_decF ?_ ?_; · omega)
         | (refine condP_ndT ?_ ?_; · omega)
         | (refine condP_ndF ?_ ?_; · omega)
         | refine condP_dec (fun _ => ?_) (fun _ => ?_)
         | refine condP_ndec (fun _ => ?_) (fun _ => ?_)
         | refine condP_true rfl ?_
         | refine condP_false rfl ?_
         | refine condP_not (fun _ => ?_) (fun _ => ?_)
         | refine condP_intro (fun _ => ?_) (fun _ => ?_)
         | (refine callP_intro (ev_l40Grants _ _ _ _ _ rdA (by omega)) ?_; rintro _ Sn ⟨hEn, cn, rfl, hFn⟩)
         | (refine callP_intro (ev_sSealPackage _ _ _ _ rdcA (by (first | omega | exact sz_at hz (by omega) | (simp only [szL]; omega)))) ?_; rintro _ Sn ⟨hEn, _, _, _, _, rfl, hFn⟩)
         | refine needP_intro (by first | omega | (constructor <;> omega)) ?_
         | refine And.intro ?_ ?_)
        all_goals first
          | exact Ext.refl _
          | exact ⟨_, _, _, _, rfl, fr_pack0⟩
set_option maxHeartbeats 4000000 in
theorem ev_examplePackage (n v u : Int) (S : Store) : EvA Try.prog 10 [.s (.int .i64 n), .s (.int .i64 v), .s (.int .i64 u)] S (fun r S' => Ext S S' ∧ ∃ c3 c4 c5 c6, r = .v (.agg [.int .i64 (exPack n v u).Ext, .int .i64 (exPack n v u).Author, .int .i64 (exPack n v u).Version, c3, c4, c5, c6, .int .i64 (exPack n v u).Seal]) ∧ Fr S.length S' (exPack n v u).d [.int .i64 (exPack n v u).Ext, .int .i64 (exPack n v u).Author, .int .i64 (exPack n v u).Version, c3, c4, c5, c6, .int .i64 (exPack n v u).Seal]) := by
  by_cases hn1 : n = 1
  · subst hn1
    rw [show exPack 1 v u = sealed 5 (ex1 v u) from rfl]
    have XK : Ext S ((S ++ [(⟨true, 1, []⟩ : Row)]) ++ [(⟨true, 1, ([1, 2] : List Int).map fun n => [.int .i64 n]⟩ : Row)]) := (Ext.push _ _).trans (Ext.push _ _)
    have hK := rdK (S := (S ++ [(⟨true, 1, []⟩ : Row)])) [1, 2] (by decide)
    have hK2 := hK
    have X9 := XK
    have hFl := rd_empty0 (S := ((S ++ [(⟨true, 1, []⟩ : Row)]) ++ [(⟨true, 1, ([1, 2] : List Int).map fun n => [.int .i64 n]⟩ : Row)])) (k := 3)
    have hR := rd_empty0 (S := ((S ++ [(⟨true, 1, []⟩ : Row)]) ++ [(⟨true, 1, ([1, 2] : List Int).map fun n => [.int .i64 n]⟩ : Row)])) (k := 8)
    have hO := rd_empty0 (S := ((S ++ [(⟨true, 1, []⟩ : Row)]) ++ [(⟨true, 1, ([1, 2] : List Int).map fun n => [.int .i64 n]⟩ : Row)])) (k := 4)
    refine evA_intro tok Try.func10 (by kernel_rfl) rfl ?_
    repeat' ((conv => whnf) <;> first
     | rw [wrapI_i64 (by omega)]
     | (refine condP_true ?_ ?_; · assumption)
     | (refine condP_false ?_ ?_; · assumption)
     | (refine condP_nt ?_ ?_; · assumption)
     | (refine condP_nf ?_ ?_; · assumption)
     | (refine condP_decT ?_ ?_; · omega)
     | (refine condP_decF ?_ ?_; · omega)
     | (refine condP_ndT ?_ ?_; · omega)
     | (refine condP_ndF ?_ ?_; · omega)
     | refine condP_dec (fun _ => ?_) (fun _ => ?_)
     | refine condP_ndec (fun _ => ?_) (fun _ => ?_)
     | refine condP_true rfl ?_
     | refine condP_false rfl ?_
     | refine condP_not (fun _ => ?_) (fun _ => ?_)
     | refine condP_intro (fun _ => ?_) (fun _ => ?_)
     | (refine rd_lenm rdA ?_; intro hml; rw [maxLen_eq] at hml)
     | refine rd_idxm rdA (by intro _; rfl) (by constructor <;> omega) ?_
     | refine rd_loadf rdA (by intro _; exact trivial) (by constructor <;> omega) ?_
     | refine needP_intro (by first | omega | (constructor <;> omega)) ?_
     | refine And.intro ?_ ?_)
    (conv => whnf)
    refine loop_intro {p : Nat × Store × Store × C × C × C × C × C // p.1 ≤ 3 ∧ p.1 ≤ ([1, 2] : List Int).length ∧ Ext S p.2.1 ∧ Ext p.2.1 p.2.2.1 ∧ Fr p.2.1.length p.2.2.1 [.sl 7 ((exGr 1 u (([1, 2] : List Int).take p.1)).map GGrant.d)] [p.2.2.2.1] ∧ Rd p.2.1 [.sl 3 (([] : List GFlow).map GFlow.d)] [p.2.2.2.2.1] ∧ Rd p.2.1 [.sl 8 (([] : List GRule).map GRule.d)] [p.2.2.2.2.2.1] ∧ Rd p.2.1 [.sl 4 (([] : List GOp).map GOp.d)] [p.2.2.2.2.2.2.1] ∧ Rd p.2.1 [.sl 1 (([1, 2] : List Int).map dInt)] [p.2.2.2.2.2.2.2]} [7, 10, 45, 46, 47, 48, 49, 50, 51, 52, 53, 54, 55, 56, 57, 58, 59] (fun zb => [(45, .v (.s (.int .i64 zb.1.1))), (7, .box [.int .i64 1, .int .i64 1, .int .i64 v, zb.1.2.2.2.1, zb.1.2.2.2.2.1, zb.1.2.2.2.2.2.1, zb.1.2.2.2.2.2.2.1, .int .i64 0]), (43, .v (.s zb.1.2.2.2.2.2.2.2))]) (fun zb => zb.1.2.2.1) (fun zb => ([1, 2] : List Int).length - zb.1.1) ⟨(0, _, _, _, _, _, _, _), Nat.zero_le _, Nat.zero_le _, X9, Ext.refl _, fr_empty (.inl rfl), hFl, hR, hO, hK2⟩ ?_ rfl ?_
    · (conv => whnf); repeat' (first | exact trivial | exact rfl | apply And.intro)
    rintro ⟨⟨i, Sb, Si, ci, cf, cr, co, ck⟩, h3, hi, hX, hE, hF, qF, qR, qO, qK⟩; dsimp only
    replace h3 : i ≤ 3 := h3
    replace hi : i ≤ ([1, 2] : List Int).length := hi
    replace hX : Ext S Sb := hX
    replace hE : Ext Sb Si := hE
    replace hF : Fr Sb.length Si [.sl 7 ((exGr 1 u (([1, 2] : List Int).take i)).map GGrant.d)] [ci] := hF
    replace qF : Rd Sb [.sl 3 (([] : List GFlow).map GFlow.d)] [cf] := qF
    replace qR : Rd Sb [.sl 8 (([] : List GRule).map GRule.d)] [cr] := qR
    replace qO : Rd Sb [.sl 4 (([] : List GOp).map GOp.d)] [co] := qO
    replace qK : Rd Sb [.sl 1 (([1, 2] : List Int).map dInt)] [ck] := qK
    clear X9 hFl hR hO hK2 hK XK
    generalize hks : ([1, 2] : List Int) = ks at *
    have hkl : ks.length = 2 := by rw [← hks]; rfl
    have hfl : (exGr 1 u (ks.take i)).length ≤ 3 := by unfold exGr; rw [List.length_map, List.length_take]; omega
    by_cases hlt : i < ks.length
    · have hst := exGr_take (n := 1) (u := u) hlt
      repeat' ((conv => whnf) <;> first
       | rw [wrapI_i64 (by omega)]
       | (refine condP_true ?_ ?_; · assumption)
       | (refine condP_false ?_ ?_; · assumption)
       | (refine condP_nt ?_ ?_; · assumption)
       | (refine condP_nf ?_ ?_; · assumption)
       | (refine condP_decT ?_ ?_; · omega)
       | (refine condP_decF ?_ ?_; · omega)
       | (refine condP_ndT ?_ ?_; · omega)
       | (refine condP_ndF ?_ ?_; · omega)
       | refine condP_dec (fun _ => ?_) (fun _ => ?_)
       | refine condP_ndec (fun _ => ?_) (fun _ => ?_)
       | refine condP_true rfl ?_
       | refine condP_false rfl ?_
       | refine condP_not (fun _ => ?_) (fun _ => ?_)
       | refine condP_intro (fun _ => ?_) (fun _ => ?_)
       | (refine callP_intro (ev_iSealPackage _ _ _ _ rdcA (by (first | omega | exact sz_at hz (by omega) | (simp only [szL]; omega)))) ?_; rintro _ Sn ⟨hEn, _, _, _, _, rfl, hFn⟩)
       | (refine rd_lenm rdA ?_; intro hml; rw [maxLen_eq] at hml)
       | refine rd_idxm rdA (by intro _; rfl) (by constructor <;> omega) ?_
       | refine rd_loadf rdA (by intro _; exact trivial) (by constructor <;> omega) ?_
       | refine needP_intro (by first | omega | (constructor <;> omega)) ?_
       | (refine fr_app1 (f := GGrant.d) (x := ⟨1, ⟨0, -1⟩, ks[((i : Nat) : Int).toNat]'hlt, 0, u, false⟩) hF hE (by intro _; exact trivial) (by rfl) (by intro _; rfl) (by dsimp only [T54]; omega) (by omega) ?_; intro cN SN hEN hFN)
       | refine And.intro ?_ ?_)
      all_goals first
        | (exfalso; omega)
        | (refine ⟨⟨(i + 1, Sb, _, _, _, _, _, _), by dsimp only; omega, by dsimp only; omega, hX, hEN, by rw [hst]; exact hFN, qF, qR, qO, qK⟩, ?_, rfl, by dsimp only; omega⟩; (conv => whnf); repeat' (first | exact trivial | exact rfl | (show _ = _; congr 3; dsimp only; omega) | apply And.intro))
    · rw [List.take_of_length_le (by omega), ← hks] at hF
      repeat' ((conv => whnf) <;> first
       | rw [wrapI_i64 (by omega)]
       | (refine condP_true ?_ ?_; · assumption)
       | (refine condP_false ?_ ?_; · assumption)
       | (refine condP_nt ?_ ?_; · assumption)
       | (refine condP_nf ?_ ?_; · assumption)
       | (refine condP_decT ?_ ?_; · omega)
       | (refine condP_decF ?_ ?_; · omega)
       | (refine condP_ndT ?_ ?_; · omega)
       | (refine condP_ndF ?_ ?_; · omega)
       | refine condP_dec (fun _ => ?_) (fun _ => ?_)
       | refine condP_ndec (fun _ => ?_) (fun _ => ?_)
       | refine condP_true rfl ?_
       | refine condP_false rfl ?_
       | refine condP_not (fun _ => ?_) (fun _ => ?_)
       | refine condP_intro (fun _ => ?_) (fun _ => ?_)
       | (refine rd_lenm rdA ?_; intro hml; rw [maxLen_eq] at hml)
       | refine rd_idxm rdA (by intro _; rfl) (by constructor <;> omega) ?_
       | refine rd_loadf rdA (by intro _; exact trivial) (by constructor <;> omega) ?_
       | refine needP_intro (by first | omega | (constructor <;> omega)) ?_
       | refine And.intro ?_ ?_)
      all_goals try (exfalso; omega)
      (conv => whnf)
      refine callP_intro (ev_iSealPackage 5 (ex1 v u) _ _ (GPackage.rd hF.rd (qF.ext hE) (qR.ext hE) (qO.ext hE)) (Nat.le_trans (ex1_sz v u) (by decide))) ?_; rintro _ S9 ⟨e9, g3, g4, g5, g6, rfl, f9⟩
      repeat' ((conv => whnf) <;> first
       | rw [wrapI_i64 (by omega)]
       | (refine condP_true ?_ ?_; · assumption)
       | (refine condP_false ?_ ?_; · assumption)
       | (refine condP_nt ?_ ?_; · assumption)
       | (refine condP_nf ?_ ?_; · assumption)
       | (refine condP_decT ?_ ?_; · omega)
       | (refine condP_decF ?_ ?_; · omega)
       | (refine condP_ndT ?_ ?_; · omega)
       | (refine condP_ndF ?_ ?_; · omega)
       | refine condP_dec (fun _ => ?_) (fun _ => ?_)
       | refine condP_ndec (fun _ => ?_) (fun _ => ?_)
       | refine condP_true rfl ?_
       | refine condP_false rfl ?_
       | refine condP_not (fun _ => ?_) (fun _ => ?_)
       | refine condP_intro (fun _ => ?_) (fun _ => ?_)
       | (refine callP_intro (ev_iSealPackage _ _ _ _ rdcA (by (first | omega | exact sz_at hz (by omega) | (simp only [szL]; omega)))) ?_; rintro _ Sn ⟨hEn, _, _, _, _, rfl, hFn⟩)
       | (refine rd_lenm rdA ?_; intro hml; rw [maxLen_eq] at hml)
       | refine rd_idxm rdA (by intro _; rfl) (by constructor <;> omega) ?_
       | refine rd_loadf rdA (by intro _; exact trivial) (by constructor <;> omega) ?_
       | refine needP_intro (by first | omega | (constructor <;> omega)) ?_
       | refine And.intro ?_ ?_)
      all_goals first
        | exact (hX.trans hE).trans e9
        | exact ⟨_, _, _, _, rfl, f9.mono (hX.trans hE).len⟩
  · skip
    by_cases hn2 : n = 2
    · subst hn2
      rw [show exPack 2 v u = sealed 5 (ex2 v u) from rfl]
      have XK : Ext S ((S ++ [(⟨true, 1, []⟩ : Row)]) ++ [(⟨true, 1, ([3] : List Int).map fun n => [.int .i64 n]⟩ : Row)]) := (Ext.push _ _).trans (Ext.push _ _)
      have hK := rdK (S := (S ++ [(⟨true, 1, []⟩ : Row)])) [3] (by decide)
      have hK2 := hK.ext (Ext.push _ (⟨true, 8, exR2.map fun x => flatC (GRule.d x)⟩ : Row))
      have X9 := XK.trans (Ext.push _ (⟨true, 8, exR2.map fun x => flatC (GRule.d x)⟩ : Row))
      have hFl := rd_empty0 (S := (((S ++ [(⟨true, 1, []⟩ : Row)]) ++ [(⟨true, 1, ([3] : List Int).map fun n => [.int .i64 n]⟩ : Row)]) ++ [(⟨true, 8, exR2.map fun x => flatC (GRule.d x)⟩ : Row)])) (k := 3)
      have hR := (fr_litF (S := ((S ++ [(⟨true, 1, []⟩ : Row)]) ++ [(⟨true, 1, ([3] : List Int).map fun n => [.int .i64 n]⟩ : Row)])) (f := GRule.d) (k := 8) exR2 (fun _ => trivial) (by decide)).rd
      have hO := rd_empty0 (S := (((S ++ [(⟨true, 1, []⟩ : Row)]) ++ [(⟨true, 1, ([3] : List Int).map fun n => [.int .i64 n]⟩ : Row)]) ++ [(⟨true, 8, exR2.map fun x => flatC (GRule.d x)⟩ : Row)])) (k := 4)
      refine evA_intro tok Try.func10 (by kernel_rfl) rfl ?_
      repeat' ((conv => whnf) <;> first
       | rw [wrapI_i64 (by omega)]
       | (refine condP_true ?_ ?_; · assumption)
       | (refine condP_false ?_ ?_; · assumption)
       | (refine condP_nt ?_ ?_; · assumption)
       | (refine condP_nf ?_ ?_; · assumption)
       | (refine condP_decT ?_ ?_; · omega)
       | (refine condP_decF ?_ ?_; · omega)
       | (refine condP_ndT ?_ ?_; · omega)
       | (refine condP_ndF ?_ ?_; · omega)
       | refine condP_dec (fun _ => ?_) (fun _ => ?_)
       | refine condP_ndec (fun _ => ?_) (fun _ => ?_)
       | refine condP_true rfl ?_
       | refine condP_false rfl ?_
       | refine condP_not (fun _ => ?_) (fun _ => ?_)
       | refine condP_intro (fun _ => ?_) (fun _ => ?_)
       | (refine rd_lenm rdA ?_; intro hml; rw [maxLen_eq] at hml)
       | refine rd_idxm rdA (by intro _; rfl) (by constructor <;> omega) ?_
       | refine rd_loadf rdA (by intro _; exact trivial) (by constructor <;> omega) ?_
       | refine needP_intro (by first | omega | (constructor <;> omega)) ?_
       | refine And.intro ?_ ?_)
      (conv => whnf)
      refine loop_intro {p : Nat × Store × Store × C × C × C × C × C // p.1 ≤ 3 ∧ p.1 ≤ ([3] : List Int).length ∧ Ext S p.2.1 ∧ Ext p.2.1 p.2.2.1 ∧ Fr p.2.1.length p.2.2.1 [.sl 7 ((exGr 2 u (([3] : List Int).take p.1)).map GGrant.d)] [p.2.2.2.1] ∧ Rd p.2.1 [.sl 3 (([] : List GFlow).map GFlow.d)] [p.2.2.2.2.1] ∧ Rd p.2.1 [.sl 8 ((exR2 : List GRule).map GRule.d)] [p.2.2.2.2.2.1] ∧ Rd p.2.1 [.sl 4 (([] : List GOp).map GOp.d)] [p.2.2.2.2.2.2.1] ∧ Rd p.2.1 [.sl 1 (([3] : List Int).map dInt)] [p.2.2.2.2.2.2.2]} [7, 10, 45, 46, 47, 48, 49, 50, 51, 52, 53, 54, 55, 56, 57, 58, 59] (fun zb => [(45, .v (.s (.int .i64 zb.1.1))), (7, .box [.int .i64 2, .int .i64 1, .int .i64 v, zb.1.2.2.2.1, zb.1.2.2.2.2.1, zb.1.2.2.2.2.2.1, zb.1.2.2.2.2.2.2.1, .int .i64 0]), (43, .v (.s zb.1.2.2.2.2.2.2.2))]) (fun zb => zb.1.2.2.1) (fun zb => ([3] : List Int).length - zb.1.1) ⟨(0, _, _, _, _, _, _, _), Nat.zero_le _, Nat.zero_le _, X9, Ext.refl _, fr_empty (.inl rfl), hFl, hR, hO, hK2⟩ ?_ rfl ?_
      · (conv => whnf); repeat' (first | exact trivial | exact rfl | apply And.intro)
      rintro ⟨⟨i, Sb, Si, ci, cf, cr, co, ck⟩, h3, hi, hX, hE, hF, qF, qR, qO, qK⟩; dsimp only
      replace h3 : i ≤ 3 := h3
      replace hi : i ≤ ([3] : List Int).length := hi
      replace hX : Ext S Sb := hX
      replace hE : Ext Sb Si := hE
      replace hF : Fr Sb.length Si [.sl 7 ((exGr 2 u (([3] : List Int).take i)).map GGrant.d)] [ci] := hF
      replace qF : Rd Sb [.sl 3 (([] : List GFlow).map GFlow.d)] [cf] := qF
      replace qR : Rd Sb [.sl 8 ((exR2 : List GRule).map GRule.d)] [cr] := qR
      replace qO : Rd Sb [.sl 4 (([] : List GOp).map GOp.d)] [co] := qO
      replace qK : Rd Sb [.sl 1 (([3] : List Int).map dInt)] [ck] := qK
      clear X9 hFl hR hO hK2 hK XK
      generalize hks : ([3] : List Int) = ks at *
      have hkl : ks.length = 1 := by rw [← hks]; rfl
      have hfl : (exGr 2 u (ks.take i)).length ≤ 3 := by unfold exGr; rw [List.length_map, List.length_take]; omega
      by_cases hlt : i < ks.length
      · have hst := exGr_take (n := 2) (u := u) hlt
        repeat' ((conv => whnf) <;> first
         | rw [wrapI_i64 (by omega)]
         | (refine condP_true ?_ ?_; · assumption)
         | (refine condP_false ?_ ?_; · assumption)
         | (refine condP_nt ?_ ?_; · assumption)
         | (refine condP_nf ?_ ?_; · assumption)
         | (refine condP_decT ?_ ?_; · omega)
         | (refine condP_decF ?_ ?_; · omega)
         | (refine condP_ndT ?_ ?_; · omega)
         | (refine condP_ndF ?_ ?_; · omega)
         | refine condP_dec (fun _ => ?_) (fun _ => ?_)
         | refine condP_ndec (fun _ => ?_) (fun _ => ?_)
         | refine condP_true rfl ?_
         | refine condP_false rfl ?_
         | refine condP_not (fun _ => ?_) (fun _ => ?_)
         | refine condP_intro (fun _ => ?_) (fun _ => ?_)
         | (refine callP_intro (ev_iSealPackage _ _ _ _ rdcA (by (first | omega | exact sz_at hz (by omega) | (simp only [szL]; omega)))) ?_; rintro _ Sn ⟨hEn, _, _, _, _, rfl, hFn⟩)
         | (refine rd_lenm rdA ?_; intro hml; rw [maxLen_eq] at hml)
         | refine rd_idxm rdA (by intro _; rfl) (by constructor <;> omega) ?_
         | refine rd_loadf rdA (by intro _; exact trivial) (by constructor <;> omega) ?_
         | refine needP_intro (by first | omega | (constructor <;> omega)) ?_
         | (refine fr_app1 (f := GGrant.d) (x := ⟨2, ⟨0, -1⟩, ks[((i : Nat) : Int).toNat]'hlt, 0, u, false⟩) hF hE (by intro _; exact trivial) (by rfl) (by intro _; rfl) (by dsimp only [T54]; omega) (by omega) ?_; intro cN SN hEN hFN)
         | refine And.intro ?_ ?_)
        all_goals first
          | (exfalso; omega)
          | (refine ⟨⟨(i + 1, Sb, _, _, _, _, _, _), by dsimp only; omega, by dsimp only; omega, hX, hEN, by rw [hst]; exact hFN, qF, qR, qO, qK⟩, ?_, rfl, by dsimp only; omega⟩; (conv => whnf); repeat' (first | exact trivial | exact rfl | (show _ = _; congr 3; dsimp only; omega) | apply And.intro))
      · rw [List.take_of_length_le (by omega), ← hks] at hF
        repeat' ((conv => whnf) <;> first
         | rw [wrapI_i64 (by omega)]
         | (refine condP_true ?_ ?_; · assumption)
         | (refine condP_false ?_ ?_; · assumption)
         | (refine condP_nt ?_ ?_; · assumption)
         | (refine condP_nf ?_ ?_; · assumption)
         | (refine condP_decT ?_ ?_; · omega)
         | (refine condP_decF ?_ ?_; · omega)
         | (refine condP_ndT ?_ ?_; · omega)
         | (refine condP_ndF ?_ ?_; · omega)
         | refine condP_dec (fun _ => ?_) (fun _ => ?_)
         | refine condP_ndec (fun _ => ?_) (fun _ => ?_)
         | refine condP_true rfl ?_
         | refine condP_false rfl ?_
         | refine condP_not (fun _ => ?_) (fun _ => ?_)
         | refine condP_intro (fun _ => ?_) (fun _ => ?_)
         | (refine rd_lenm rdA ?_; intro hml; rw [maxLen_eq] at hml)
         | refine rd_idxm rdA (by intro _; rfl) (by constructor <;> omega) ?_
         | refine rd_loadf rdA (by intro _; exact trivial) (by constructor <;> omega) ?_
         | refine needP_intro (by first | omega | (constructor <;> omega)) ?_
         | refine And.intro ?_ ?_)
        all_goals try (exfalso; omega)
        (conv => whnf)
        refine callP_intro (ev_iSealPackage 5 (ex2 v u) _ _ (GPackage.rd hF.rd (qF.ext hE) (qR.ext hE) (qO.ext hE)) (Nat.le_trans (ex2_sz v u) (by decide))) ?_; rintro _ S9 ⟨e9, g3, g4, g5, g6, rfl, f9⟩
        repeat' ((conv => whnf) <;> first
         | rw [wrapI_i64 (by omega)]
         | (refine condP_true ?_ ?_; · assumption)
         | (refine condP_false ?_ ?_; · assumption)
         | (refine condP_nt ?_ ?_; · assumption)
         | (refine condP_nf ?_ ?_; · assumption)
         | (refine condP_decT ?_ ?_; · omega)
         | (refine condP_decF ?_ ?_; · omega)
         | (refine condP_ndT ?_ ?_; · omega)
         | (refine condP_ndF ?_ ?_; · omega)
         | refine condP_dec (fun _ => ?_) (fun _ => ?_)
         | refine condP_ndec (fun _ => ?_) (fun _ => ?_)
         | refine condP_true rfl ?_
         | refine condP_false rfl ?_
         | refine condP_not (fun _ => ?_) (fun _ => ?_)
         | refine condP_intro (fun _ => ?_) (fun _ => ?_)
         | (refine callP_intro (ev_iSealPackage _ _ _ _ rdcA (by (first | omega | exact sz_at hz (by omega) | (simp only [szL]; omega)))) ?_; rintro _ Sn ⟨hEn, _, _, _, _, rfl, hFn⟩)
         | (refine rd_lenm rdA ?_; intro hml; rw [maxLen_eq] at hml)
         | refine rd_idxm rdA (by intro _; rfl) (by constructor <;> omega) ?_
         | refine rd_loadf rdA (by intro _; exact trivial) (by constructor <;> omega) ?_
         | refine needP_intro (by first | omega | (constructor <;> omega)) ?_
         | refine And.intro ?_ ?_)
        all_goals first
          | exact (hX.trans hE).trans e9
          | exact ⟨_, _, _, _, rfl, f9.mono (hX.trans hE).len⟩
    · skip
      by_cases hn3 : n = 3
      · subst hn3
        rw [show exPack 3 v u = sealed 5 (ex3 v u) from rfl]
        have XK : Ext S ((S ++ [(⟨true, 1, []⟩ : Row)]) ++ [(⟨true, 1, ([1, 3, 4] : List Int).map fun n => [.int .i64 n]⟩ : Row)]) := (Ext.push _ _).trans (Ext.push _ _)
        have hK := rdK (S := (S ++ [(⟨true, 1, []⟩ : Row)])) [1, 3, 4] (by decide)
        have X1 := Ext.push ((S ++ [(⟨true, 1, []⟩ : Row)]) ++ [(⟨true, 1, ([1, 3, 4] : List Int).map fun n => [.int .i64 n]⟩ : Row)]) (⟨true, 3, exF3.map fun x => flatC (GFlow.d x)⟩ : Row)
        have X2 := Ext.push (((S ++ [(⟨true, 1, []⟩ : Row)]) ++ [(⟨true, 1, ([1, 3, 4] : List Int).map fun n => [.int .i64 n]⟩ : Row)]) ++ [(⟨true, 3, exF3.map fun x => flatC (GFlow.d x)⟩ : Row)]) (⟨true, 4, exO3.map fun x => flatC (GOp.d x)⟩ : Row)
        have hK2 := hK.ext (X1.trans X2)
        have X9 := XK.trans (X1.trans X2)
        have hFl := (fr_litF (S := ((S ++ [(⟨true, 1, []⟩ : Row)]) ++ [(⟨true, 1, ([1, 3, 4] : List Int).map fun n => [.int .i64 n]⟩ : Row)])) (f := GFlow.d) (k := 3) exF3 (fun _ => trivial) (by decide)).rd.ext X2
        have hR := rd_empty0 (S := ((((S ++ [(⟨true, 1, []⟩ : Row)]) ++ [(⟨true, 1, ([1, 3, 4] : List Int).map fun n => [.int .i64 n]⟩ : Row)]) ++ [(⟨true, 3, exF3.map fun x => flatC (GFlow.d x)⟩ : Row)]) ++ [(⟨true, 4, exO3.map fun x => flatC (GOp.d x)⟩ : Row)])) (k := 8)
        have hO := (fr_litF (S := (((S ++ [(⟨true, 1, []⟩ : Row)]) ++ [(⟨true, 1, ([1, 3, 4] : List Int).map fun n => [.int .i64 n]⟩ : Row)]) ++ [(⟨true, 3, exF3.map fun x => flatC (GFlow.d x)⟩ : Row)])) (f := GOp.d) (k := 4) exO3 (fun _ => trivial) (by decide)).rd
        refine evA_intro tok Try.func10 (by kernel_rfl) rfl ?_
        repeat' ((conv => whnf) <;> first
         | rw [wrapI_i64 (by omega)]
         | (refine condP_true ?_ ?_; · assumption)
         | (refine condP_false ?_ ?_; · assumption)
         | (refine condP_nt ?_ ?_; · assumption)
         | (refine condP_nf ?_ ?_; · assumption)
         | (refine condP_decT ?_ ?_; · omega)
         | (refine condP_decF ?_ ?_; · omega)
         | (refine condP_ndT ?_ ?_; · omega)
         | (refine condP_ndF ?_ ?_; · omega)
         | refine condP_dec (fun _ => ?_) (fun _ => ?_)
         | refine condP_ndec (fun _ => ?_) (fun _ => ?_)
         | refine condP_true rfl ?_
         | refine condP_false rfl ?_
         | refine condP_not (fun _ => ?_) (fun _ => ?_)
         | refine condP_intro (fun _ => ?_) (fun _ => ?_)
         | (refine rd_lenm rdA ?_; intro hml; rw [maxLen_eq] at hml)
         | refine rd_idxm rdA (by intro _; rfl) (by constructor <;> omega) ?_
         | refine rd_loadf rdA (by intro _; exact trivial) (by constructor <;> omega) ?_
         | refine needP_intro (by first | omega | (constructor <;> omega)) ?_
         | refine And.intro ?_ ?_)
        (conv => whnf)
        refine loop_intro {p : Nat × Store × Store × C × C × C × C × C // p.1 ≤ 3 ∧ p.1 ≤ ([1, 3, 4] : List Int).length ∧ Ext S p.2.1 ∧ Ext p.2.1 p.2.2.1 ∧ Fr p.2.1.length p.2.2.1 [.sl 7 ((exGr 3 u (([1, 3, 4] : List Int).take p.1)).map GGrant.d)] [p.2.2.2.1] ∧ Rd p.2.1 [.sl 3 ((exF3 : List GFlow).map GFlow.d)] [p.2.2.2.2.1] ∧ Rd p.2.1 [.sl 8 (([] : List GRule).map GRule.d)] [p.2.2.2.2.2.1] ∧ Rd p.2.1 [.sl 4 ((exO3 : List GOp).map GOp.d)] [p.2.2.2.2.2.2.1] ∧ Rd p.2.1 [.sl 1 (([1, 3, 4] : List Int).map dInt)] [p.2.2.2.2.2.2.2]} [7, 10, 45, 46, 47, 48, 49, 50, 51, 52, 53, 54, 55, 56, 57, 58, 59] (fun zb => [(45, .v (.s (.int .i64 zb.1.1))), (7, .box [.int .i64 3, .int .i64 1, .int .i64 v, zb.1.2.2.2.1, zb.1.2.2.2.2.1, zb.1.2.2.2.2.2.1, zb.1.2.2.2.2.2.2.1, .int .i64 0]), (43, .v (.s zb.1.2.2.2.2.2.2.2))]) (fun zb => zb.1.2.2.1) (fun zb => ([1, 3, 4] : List Int).length - zb.1.1) ⟨(0, _, _, _, _, _, _, _), Nat.zero_le _, Nat.zero_le _, X9, Ext.refl _, fr_empty (.inl rfl), hFl, hR, hO, hK2⟩ ?_ rfl ?_
        · (conv => whnf); repeat' (first | exact trivial | exact rfl | apply And.intro)
        rintro ⟨⟨i, Sb, Si, ci, cf, cr, co, ck⟩, h3, hi, hX, hE, hF, qF, qR, qO, qK⟩; dsimp only
        replace h3 : i ≤ 3 := h3
        replace hi : i ≤ ([1, 3, 4] : List Int).length := hi
        replace hX : Ext S Sb := hX
        replace hE : Ext Sb Si := hE
        replace hF : Fr Sb.length Si [.sl 7 ((exGr 3 u (([1, 3, 4] : List Int).take i)).map GGrant.d)] [ci] := hF
        replace qF : Rd Sb [.sl 3 ((exF3 : List GFlow).map GFlow.d)] [cf] := qF
        replace qR : Rd Sb [.sl 8 (([] : List GRule).map GRule.d)] [cr] := qR
        replace qO : Rd Sb [.sl 4 ((exO3 : List GOp).map GOp.d)] [co] := qO
        replace qK : Rd Sb [.sl 1 (([1, 3, 4] : List Int).map dInt)] [ck] := qK
        clear X9 hFl hR hO hK2 hK XK X1 X2
        generalize hks : ([1, 3, 4] : List Int) = ks at *
        have hkl : ks.length = 3 := by rw [← hks]; rfl
        have hfl : (exGr 3 u (ks.take i)).length ≤ 3 := by unfold exGr; rw [List.length_map, List.length_take]; omega
        by_cases hlt : i < ks.length
        · have hst := exGr_take (n := 3) (u := u) hlt
          repeat' ((conv => whnf) <;> first
           | rw [wrapI_i64 (by omega)]
           | (refine condP_true ?_ ?_; · assumption)
           | (refine condP_false ?_ ?_; · assumption)
           | (refine condP_nt ?_ ?_; · assumption)
           | (refine condP_nf ?_ ?_; · assumption)
           | (refine condP_decT ?_ ?_; · omega)
           | (refine condP_decF ?_ ?_; · omega)
           | (refine condP_ndT ?_ ?_; · omega)
           | (refine condP_ndF ?_ ?_; · omega)
           | refine condP_dec (fun _ => ?_) (fun _ => ?_)
           | refine condP_ndec (fun _ => ?_) (fun _ => ?_)
           | refine condP_true rfl ?_
           | refine condP_false rfl ?_
           | refine condP_not (fun _ => ?_) (fun _ => ?_)
           | refine condP_intro (fun _ => ?_) (fun _ => ?_)
           | (refine callP_intro (ev_iSealPackage _ _ _ _ rdcA (by (first | omega | exact sz_at hz (by omega) | (simp only [szL]; omega)))) ?_; rintro _ Sn ⟨hEn, _, _, _, _, rfl, hFn⟩)
           | (refine rd_lenm rdA ?_; intro hml; rw [maxLen_eq] at hml)
           | refine rd_idxm rdA (by intro _; rfl) (by constructor <;> omega) ?_
           | refine rd_loadf rdA (by intro _; exact trivial) (by constructor <;> omega) ?_
           | refine needP_intro (by first | omega | (constructor <;> omega)) ?_
           | (refine fr_app1 (f := GGrant.d) (x := ⟨3, ⟨0, -1⟩, ks[((i : Nat) : Int).toNat]'hlt, 0, u, false⟩) hF hE (by intro _; exact trivial) (by rfl) (by intro _; rfl) (by dsimp only [T54]; omega) (by omega) ?_; intro cN SN hEN hFN)
           | refine And.intro ?_ ?_)
          all_goals first
            | (exfalso; omega)
            | (refine ⟨⟨(i + 1, Sb, _, _, _, _, _, _), by dsimp only; omega, by dsimp only; omega, hX, hEN, by rw [hst]; exact hFN, qF, qR, qO, qK⟩, ?_, rfl, by dsimp only; omega⟩; (conv => whnf); repeat' (first | exact trivial | exact rfl | (show _ = _; congr 3; dsimp only; omega) | apply And.intro))
        · rw [List.take_of_length_le (by omega), ← hks] at hF
          repeat' ((conv => whnf) <;> first
           | rw [wrapI_i64 (by omega)]
           | (refine condP_true ?_ ?_; · assumption)
           | (refine condP_false ?_ ?_; · assumption)
           | (refine condP_nt ?_ ?_; · assumption)
           | (refine condP_nf ?_ ?_; · assumption)
           | (refine condP_decT ?_ ?_; · omega)
           | (refine condP_decF ?_ ?_; · omega)
           | (refine condP_ndT ?_ ?_; · omega)
           | (refine condP_ndF ?_ ?_; · omega)
           | refine condP_dec (fun _ => ?_) (fun _ => ?_)
           | refine condP_ndec (fun _ => ?_) (fun _ => ?_)
           | refine condP_true rfl ?_
           | refine condP_false rfl ?_
           | refine condP_not (fun _ => ?_) (fun _ => ?_)
           | refine condP_intro (fun _ => ?_) (fun _ => ?_)
           | (refine rd_lenm rdA ?_; intro hml; rw [maxLen_eq] at hml)
           | refine rd_idxm rdA (by intro _; rfl) (by constructor <;> omega) ?_
           | refine rd_loadf rdA (by intro _; exact trivial) (by constructor <;> omega) ?_
           | refine needP_intro (by first | omega | (constructor <;> omega)) ?_
           | refine And.intro ?_ ?_)
          all_goals try (exfalso; omega)
          (conv => whnf)
          refine callP_intro (ev_iSealPackage 5 (ex3 v u) _ _ (GPackage.rd hF.rd (qF.ext hE) (qR.ext hE) (qO.ext hE)) (Nat.le_trans (ex3_sz v u) (by decide))) ?_; rintro _ S9 ⟨e9, g3, g4, g5, g6, rfl, f9⟩
          repeat' ((conv => whnf) <;> first
           | rw [wrapI_i64 (by omega)]
           | (refine condP_true ?_ ?_; · assumption)
           | (refine condP_false ?_ ?_; · assumption)
           | (refine condP_nt ?_ ?_; · assumption)
           | (refine condP_nf ?_ ?_; · assumption)
           | (refine condP_decT ?_ ?_; · omega)
           | (refine condP_decF ?_ ?_; · omega)
           | (refine condP_ndT ?_ ?_; · omega)
           | (refine condP_ndF ?_ ?_; · omega)
           | refine condP_dec (fun _ => ?_) (fun _ => ?_)
           | refine condP_ndec (fun _ => ?_) (fun _ => ?_)
           | refine condP_true rfl ?_
           | refine condP_false rfl ?_
           | refine condP_not (fun _ => ?_) (fun _ => ?_)
           | refine condP_intro (fun _ => ?_) (fun _ => ?_)
           | (refine callP_intro (ev_iSealPackage _ _ _ _ rdcA (by (first | omega | exact sz_at hz (by omega) | (simp only [szL]; omega)))) ?_; rintro _ Sn ⟨hEn, _, _, _, _, rfl, hFn⟩)
           | (refine rd_lenm rdA ?_; intro hml; rw [maxLen_eq] at hml)
           | refine rd_idxm rdA (by intro _; rfl) (by constructor <;> omega) ?_
           | refine rd_loadf rdA (by intro _; exact trivial) (by constructor <;> omega) ?_
           | refine needP_intro (by first | omega | (constructor <;> omega)) ?_
           | refine And.intro ?_ ?_)
          all_goals first
            | exact (hX.trans hE).trans e9
            | exact ⟨_, _, _, _, rfl, f9.mono (hX.trans hE).len⟩
      · rw [show exPack n v u = default from by unfold exPack; rw [if_neg hn1, if_neg hn2, if_neg hn3]]
        refine evA_intro tok Try.func10 (by kernel_rfl) rfl ?_
        repeat' ((conv => whnf) <;> first
         | rw [wrapI_i64 (by omega)]
         | (refine condP_true ?_ ?_; · assumption)
         | (refine condP_false ?_ ?_; · assumption)
         | (refine condP_nt ?_ ?_; · assumption)
         | (refine condP_nf ?_ ?_; · assumption)
         | (refine condP_decT ?_ ?_; · omega)
         | (refine condP_decF ?_ ?_; · omega)
         | (refine condP_ndT ?_ ?_; · omega)
         | (refine condP_ndF ?_ ?_; · omega)
         | refine condP_dec (fun _ => ?_) (fun _ => ?_)
         | refine condP_ndec (fun _ => ?_) (fun _ => ?_)
         | refine condP_true rfl ?_
         | refine condP_false rfl ?_
         | refine condP_not (fun _ => ?_) (fun _ => ?_)
         | refine condP_intro (fun _ => ?_) (fun _ => ?_)
         | (refine callP_intro (ev_iSealPackage _ _ _ _ rdcA (by (first | omega | exact sz_at hz (by omega) | (simp only [szL]; omega)))) ?_; rintro _ Sn ⟨hEn, _, _, _, _, rfl, hFn⟩)
         | (refine rd_lenm rdA ?_; intro hml; rw [maxLen_eq] at hml)
         | refine rd_idxm rdA (by intro _; rfl) (by constructor <;> omega) ?_
         | refine rd_loadf rdA (by intro _; exact trivial) (by constructor <;> omega) ?_
         | refine needP_intro (by first | omega | (constructor <;> omega)) ?_
         | refine And.intro ?_ ?_)
        all_goals first
          | exact Ext.push _ _
          | exact ⟨_, _, _, _, rfl, fr_pack0⟩
theorem ev_iExamplePackage (n : Int) (S : Store) : EvA Try.prog 5 [.s (.int .i64 n)] S (fun r S' => Ext S S' ∧ ∃ c3 c4 c5 c6, r = .v (.agg [.int .i64 (exPack n 1 50).Ext, .int .i64 (exPack n 1 50).Author, .int .i64 (exPack n 1 50).Version, c3, c4, c5, c6, .int .i64 (exPack n 1 50).Seal]) ∧ Fr S.length S' (exPack n 1 50).d [.int .i64 (exPack n 1 50).Ext, .int .i64 (exPack n 1 50).Author, .int .i64 (exPack n 1 50).Version, c3, c4, c5, c6, .int .i64 (exPack n 1 50).Seal]) := by
  refine evA_intro tok Try.func5 (by kernel_rfl) rfl ?_
  repeat' ((conv => whnf) <;> first
   | (refine callP_intro (ev_examplePackage _ _ _ _) ?_; rintro _ Sn ⟨hEn, _, _, _, _, rfl, hFn⟩)
   | refine needP_intro (by first | omega | (constructor <;> omega)) ?_
   | refine And.intro ?_ ?_)
  all_goals first
    | assumption
    | exact ⟨_, _, _, _, rfl, by assumption⟩
theorem ev_sExamplePackage (n : Int) (S : Store) : EvA Try.prog 4 [.s (.int .i64 n)] S (fun r S' => Ext S S' ∧ ∃ c3 c4 c5 c6, r = .v (.agg [.int .i64 (exPack n 1 50).Ext, .int .i64 (exPack n 1 50).Author, .int .i64 (exPack n 1 50).Version, c3, c4, c5, c6, .int .i64 (exPack n 1 50).Seal]) ∧ Fr S.length S' (exPack n 1 50).d [.int .i64 (exPack n 1 50).Ext, .int .i64 (exPack n 1 50).Author, .int .i64 (exPack n 1 50).Version, c3, c4, c5, c6, .int .i64 (exPack n 1 50).Seal]) := by
  refine evA_intro tok Try.func4 (by kernel_rfl) rfl ?_
  repeat' ((conv => whnf) <;> first
   | (refine callP_intro (ev_l40Package _ _ _ _) ?_; rintro _ Sn ⟨hEn, _, _, _, _, rfl, hFn⟩)
   | refine needP_intro (by first | omega | (constructor <;> omega)) ?_
   | refine And.intro ?_ ?_)
  all_goals first
    | assumption
    | exact ⟨_, _, _, _, rfl, by assumption⟩
end Go.Proofs.Ytimbmhglengjcaa
