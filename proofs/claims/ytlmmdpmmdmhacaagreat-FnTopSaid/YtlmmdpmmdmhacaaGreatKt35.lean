/- A text of the proof. Lending; steps that change one part. -/
import Derived.Test.YtlmmdpmmdmhacaaGreatKt22
import Derived.Test.YtlmmdpmmdmhacaaGreatKt34
import Derived.Test.YtlmmdpmmdmhacaaGreatKt26
namespace Go.Proofs.YtlmmdpmmdmhacaaGreat
open Go Go.ChangeShapes Go.WideShapes Go.ChangeAt Go.RowKit
set_option linter.unusedVariables false
set_option linter.unusedSimpArgs false
set_option maxRecDepth 100000
def ztj (tick : Int) (g : GGrant) : Bool := za4 g && decide (tick ≤ g.Until)
def zci (b : GBrowser) (n : Int) : GBrowser × Bool := if inR n 1 100 && inR b.Now 0 (10000 - n) then ({ b with Now := b.Now + n, Grants := b.Grants.filter (ztj (b.Now + n)) }, true) else (b, false)
theorem zpw (l : List GGrant) (tick : Int) (c : C) (S : Store) (h : Rd S [.sl 7 (l.map GGrant.d)] [c]) (hz : l.length ≤ 4194304) : EvA Tryz.prog 107 [.s c, .s (.int .i64 tick)] S (fun r S' => Ext S S' ∧ ∃ c', r = .v (.s c') ∧ Fr S.length S' [.sl 7 ((l.filter (ztj tick)).map GGrant.d)] [c']) := by
 refine zac tok Tryz.func107 (by kernel_rfl) rfl ?_
 repeat' ((conv => whnf) <;> first
  | refine rE fun hml => ?_)
 refine zag {p : Nat × Store × C // p.1 ≤ l.length ∧ Ext S p.2.1 ∧ Fr S.length p.2.1 [.sl 7 (((l.take p.1).filter (ztj tick)).map GGrant.d)] [p.2.2]} [5, 7, 11, 12, 13, 14, 15, 16, 17, 18, 19, 20, 21, 22, 23, 24, 25, 26, 27] (fun zb => [(11, .v (.s (.int .i64 zb.1.1))), (5, .v (.s zb.1.2.2))]) (fun zb => zb.1.2.1) (fun zb => l.length - zb.1.1) ⟨(0, _, _), Nat.zero_le _, Ext.push _ _, zba⟩ okL rfl ?_
 rintro ⟨⟨i, Si, ci⟩, hi, hE, hF⟩; dsimp only
 replace hi : i ≤ l.length := hi
 replace hE : Ext S Si := hE
 replace hF : Fr S.length Si [.sl 7 (((l.take i).filter (ztj tick)).map GGrant.d)] [ci] := hF
 have hfl := zb9 (ztj tick) l i
 repeat' ((conv => whnf) <;> first
  | rw [zad (by omega)] | refine cD (fun _ => ?_) fun _ => ?_ | refine cF ?_ | refine cI (fun _ => ?_) fun _ => ?_ | refine zaa (zco _ _) ?_ | refine rI rdA rf ix ?_ | refine zaf rdA tv ix ?_ | (refine zdc (f := GGrant.d) aN aN tv (by rfl) rf (by dsimp only [T120]; omega) om ?_; intro cN SN hEN hFN) | refine And.intro ?_ ?_)
 all_goals first
  | exact hE
  | (rw [List.take_of_length_le (by omega)] at hF; exact ⟨_, rfl, hF⟩)
  | (refine ⟨⟨(i + 1, _, _), by dsimp only; omega, by assumption, by first | (rw [zcz (by omega) (by simp_all [ztj])]; assumption) | (rw [zc0 (by omega) (by simp_all [ztj])]; assumption)⟩, ?_, rfl, by dsimp only; omega⟩; (conv => whnf); repeat' (first | exact trivial | exact rfl | apply And.intro))
set_option maxHeartbeats 2000000 in
theorem zso (b : GBrowser) (n : Int) (cs : List C) (S : Store) (h : Rd S b.d cs) (hz : szL b.d ≤ 2097152) (hn : 0 ≤ b.Now ∧ b.Now ≤ 10000) : EvA Tryz.prog 39 [.agg cs, .s (.int .i64 n)] S (fun r S' => Ext S S' ∧ ∃ c1 c2 c3 c4 c5 c6, r = .tup [.agg [.int .i64 (zci b n).1.Key, c1, c2, c3, c4, c5, c6, .int .i64 (zci b n).1.Now], .s (.bool (zci b n).2)] ∧ Fr S.length S' (zci b n).1.d [.int .i64 (zci b n).1.Key, c1, c2, c3, c4, c5, c6, .int .i64 (zci b n).1.Now]) := by
 have hzs := hz
 simp only [GBrowser.d, szL, List.length_map] at hzs
 have hh := h
 obtain ⟨_, _, _, _, _, _, rfl, r1, r2, r3, r4, r5, r6⟩ := GBrowser.inv h
 rcases hk : inR n 1 100 && inR b.Now 0 (10000 - n) with _ | _
 ·rw [show zci b n = (b, false) from by unfold zci; rw [hk]; rfl]
  have hk' : ¬ ((1 ≤ n ∧ n ≤ 100) ∧ 0 ≤ b.Now ∧ b.Now ≤ 10000 - n) := fun hx => by
   simp only [inR, Bool.and_eq_false_iff, decide_eq_false_iff_not] at hk; omega
  refine zac tok Tryz.func39 (by kernel_rfl) rfl ?_
  skip
  (conv => whnf)
  refine zab (zao b _ _ hh (by omega)) ?_; rintro _ Sc ⟨e0, g1, g2, g3, g4, g5, g6, rfl, f0⟩
  repeat' ((conv => whnf) <;> first
   | rw [zad (by omega)] | refine cD (fun _ => ?_) fun _ => ?_ | refine cT ?_ | refine zar (fun _ _ => ?_) (fun _ _ => ?_) | refine zaa (zat _ _ _ _) ?_ | (refine zab (zpw _ _ _ _ rdA om) ?_; rintro _ Sn ⟨hEn, cn, rfl, hFn⟩) | refine And.intro ?_ ?_)
  all_goals first
   | exact e0
   | exact ⟨_, _, _, _, _, _, rfl, f0⟩
   | (exfalso; omega)
   | (exfalso; simp_all [inR]; omega)
 ·rw [show zci b n = ({ b with Now := b.Now + n, Grants := b.Grants.filter (ztj (b.Now + n)) }, true) from by unfold zci; rw [hk]; rfl]
  have hk' : (1 ≤ n ∧ n ≤ 100) ∧ 0 ≤ b.Now ∧ b.Now ≤ 10000 - n := by
   simp only [inR, Bool.and_eq_true, decide_eq_true_eq] at hk; exact hk
  refine zac tok Tryz.func39 (by kernel_rfl) rfl ?_
  skip
  (conv => whnf)
  refine zab (zao b _ _ hh (by omega)) ?_; rintro _ Sc ⟨e0, g1, g2, g3, g4, g5, g6, rfl, f0⟩
  have r3c := r3.ext e0
  repeat' ((conv => whnf) <;> first
   | (refine zab (zpw b.Grants (b.Now + n) _ _ r3c om) ?_; rintro _ S2 ⟨e2, cN, rfl, f2⟩; have fJ := f0.join e2 f2 e0.len) | rw [zad (by omega)] | (show CondP _ _ _; refine cS ?_) | refine cT ?_ | refine zar (fun _ _ => ?_) (fun _ _ => ?_) | refine zaa (zat _ _ _ _) ?_ | refine And.intro ?_ ?_)
  all_goals first
   | exact e0.trans e2
   | exact ⟨_, _, _, _, _, _, rfl, ((fJ.putLast (o := 3) rfl (by show 3 < 8; decide)).setX (o := 7) (c' := .int .i64 (b.Now + n)) (by show 7 < 8; decide))⟩
   | (exfalso; omega)
   | (exfalso; simp_all [inR]; omega)
theorem z0o (l m : List GSent) (c c' : C) (S : Store) (h : Rd S [.sl 3 (l.map GSent.d)] [c]) (h' : Rd S [.sl 3 (m.map GSent.d)] [c']) : EvA Tryz.prog 125 [.s c, .s c'] S (fun r S' => r = .v (.s (.bool (decide (l = m)))) ∧ S' = S) := by
 by_cases hlen : l.length = m.length
 ·refine zac tok Tryz.func125 (by kernel_rfl) rfl ?_
  repeat' ((conv => whnf) <;> first
   | refine cE (fun _ => ?_) fun _ => ?_ | refine rE fun hml => ?_ | refine And.intro ?_ ?_)
  all_goals try first | rfl | (exfalso; omega)
  refine zag {i : Nat // i ≤ l.length ∧ (l.drop i = m.drop i ↔ l = m)} [4, 5, 13, 14, 15, 16, 17, 18, 19, 20, 21, 22, 23, 24, 25] (fun zb => [(13, .v (.s (.int .i64 zb.1)))]) (fun _ => S) (fun zb => l.length - zb.1) ⟨0, Nat.zero_le _, by simp⟩ okL rfl ?_
  rintro ⟨i, hi, hinv⟩; dsimp only
  repeat' ((conv => whnf) <;> first
   | rw [zad (by omega)] | refine cD (fun _ => ?_) fun _ => ?_ | refine cN (fun _ => ?_) fun _ => ?_ | refine rI aN rf ix ?_ | refine zaf aN tv ix ?_ | refine zae 16 (iN 9 0 []) (by rfl) (by kernel_rfl) ?_ | refine And.intro ?_ ?_)
  all_goals first
   | rfl
   | (exfalso; omega)
   | (have he := z08 (by omega) (by omega) hinv; rw [decide_eq_true he] <;> rfl)
   | (have hlt : i < l.length := by omega
      have hs := (zmf hlt (by omega) hinv).2
      have hb : ¬ (l[((i : Nat) : Int).toNat]'hlt = m[((i : Nat) : Int).toNat]'(by omega)) := by first | assumption | exact of_decide_eq_false (by assumption) | exact of_decide_eq_false ((GSent.eqb _ _).symm.trans (by assumption))
      rw [decide_eq_false (hs hb)] <;> rfl)
   | (have hlt : i < l.length := by omega
      have hs := (zmf hlt (by omega) hinv).1
      have hb : l[((i : Nat) : Int).toNat]'hlt = m[((i : Nat) : Int).toNat]'(by omega) := by first | assumption | exact of_decide_eq_true (by assumption) | exact of_decide_eq_true ((GSent.eqb _ _).symm.trans (by assumption))
      (refine ⟨⟨i + 1, by omega, hs hb⟩, ?_, rfl, by dsimp only; omega⟩; (conv => whnf); repeat' (first | exact trivial | exact rfl | apply And.intro)))
 ·rw [decide_eq_false (p := l = m) (fun e => hlen (by rw [e]))]
  refine zac tok Tryz.func125 (by kernel_rfl) rfl ?_
  repeat' ((conv => whnf) <;> first
   | refine cE (fun _ => ?_) fun _ => ?_ | refine rE fun hml => ?_ | refine And.intro ?_ ?_)
  all_goals first | rfl | (exfalso; omega)
theorem zsz (l m : List GSent) (c c' : C) (S : Store) (h : Rd S [.sl 3 (l.map GSent.d)] [c]) (h' : Rd S [.sl 3 (m.map GSent.d)] [c']) : EvA Tryz.prog 54 [.s c, .s c'] S (fun r S' => r = .v (.s (.bool (decide (l = m)))) ∧ S' = S) := by
 refine zac tok Tryz.func54 (by kernel_rfl) rfl ?_
 repeat' ((conv => whnf) <;> first
  | refine zaa (z0o _ _ _ _ _ aN aN) ?_ | refine And.intro ?_ ?_)
 all_goals rfl
def zok (l : List Int) (owner v : Int) (o : Int) : Int := if o = owner ∧ inR v 0 999 = true then v else zbm l o
def zb8 (l : List Int) (owner v : Int) : List Int := zc7 (zok l owner v) 9
theorem zi3 (P : Int → Int) : ∀ (n i : Nat) (h : i < (zc7 P n).length), (zc7 P n)[i] = P ((i : Int) + 1)
 | 0, i, h => absurd h (by simp [zc7])
 | n + 1, i, h => by
   have hl := zc1 P n
   by_cases e : i < n
   ·have : (zc7 P (n + 1))[i] = (zc7 P n)[i]'(by omega) := by
     simp only [zc7]; rw [List.getElem_append_left (by omega)]
    rw [this]; exact zi3 P n i (by omega)
   ·have hi : i = n := by rw [zc1] at h; omega
    subst hi
    simp only [zc7]
    rw [List.getElem_append_right (by omega)]; simp [hl]
theorem zz4 {l : List Int} {owner v : Int} (ho : 1 ≤ owner ∧ owner ≤ 9) (hv : inR v 0 999 = true) : (zc7 (zbm l) 9).set (owner - 1).toNat v = zb8 l owner v := by
 unfold zb8
 refine List.ext_getElem (by rw [List.length_set, zc1, zc1]) fun i h1 h2 => ?_
 have h3 : i < 9 := by rw [zc1] at h2; exact h2
 rw [List.getElem_set, zi3, zi3]
 unfold zok
 by_cases e : (owner - 1).toNat = i
 ·rw [if_pos e, if_pos ⟨by omega, hv⟩]
 ·rw [if_neg e, if_neg (fun hh => e (by omega))]
theorem zyn {l : List Int} {owner v : Int} (h : ¬ ((1 ≤ owner ∧ owner ≤ 9) ∧ inR v 0 999 = true)) : zc7 (zbm l) 9 = zb8 l owner v := by
 unfold zb8
 refine List.ext_getElem (by rw [zc1, zc1]) fun i h1 h2 => ?_
 have h3 : i < 9 := by rw [zc1] at h2; exact h2
 rw [zi3, zi3]
 unfold zok
 rw [if_neg (fun hh => h ⟨by omega, hh.2⟩)]
theorem zoj (l : List Int) (owner v : Int) (c : C) (S : Store) (h' : Rd S [.sl 1 (l.map dInt)] [c]) : EvA Tryz.prog 56 [.s c, .s (.int .i64 owner), .s (.int .i64 v)] S (fun r S' => Ext S S' ∧ ∃ c', r = .v (.s c') ∧ Fr S.length S' [.sl 1 ((zb8 l owner v).map dInt)] [c']) := by
 have hF0 : Fr S.length (S ++ [⟨true, 1, List.replicate 9 [.int .i64 0]⟩]) [.sl 1 ((zc7 (zbm l) 0 ++ List.replicate (9 - 0) 0).map dInt)] [.sl S.length 0 9 9] := zv0 (n := 9) (z := dInt 0) (zc := [.int .i64 0]) (z4n zz9) (by rw [zan]; omega)
 have hl0 : (zc7 (zbm l) 0 ++ List.replicate (9 - 0) 0).length = 9 := rfl
 refine zac tok Tryz.func56 (by kernel_rfl) rfl ?_
 repeat' ((conv => whnf) <;> first
  | refine rE fun hml => ?_ | refine zdn (by dsimp only [T3]; first | omega | (constructor <;> omega) | fail) ?_)
 refine zag {p : Nat × Store // p.1 ≤ 9 ∧ Ext S p.2 ∧ Fr S.length p.2 [.sl 1 ((zc7 (zbm l) p.1 ++ List.replicate (9 - p.1) 0).map dInt)] [.sl S.length 0 9 9]} [8, 12, 13, 14, 15, 16, 17, 18, 19, 20, 21, 22] (fun zb => [(12, .v (.s (.int .i64 zb.1.1)))]) (fun zb => zb.1.2) (fun zb => 9 - zb.1.1) ⟨(0, _), Nat.zero_le _, Ext.push _ _, hF0⟩ okL rfl ?_
 rintro ⟨⟨i, Si⟩, hi, hE, hF⟩; dsimp only
 replace hi : i ≤ 9 := hi
 replace hE : Ext S Si := hE
 replace hF : Fr S.length Si [.sl 1 ((zc7 (zbm l) i ++ List.replicate (9 - i) 0).map dInt)] [.sl S.length 0 9 9] := hF
 have hlen : (zc7 (zbm l) i ++ List.replicate (9 - i) 0).length = 9 := by rw [List.length_append, zc1, List.length_replicate]; omega
 repeat' ((conv => whnf) <;> first
  | rw [zad (by omega)] | refine cD (fun _ => ?_) fun _ => ?_ | refine cF ?_ | refine zbu (fun _ _ => ?_) (fun _ _ => ?_) | refine zaa (zat _ _ _ _) ?_ | refine zaa (zjr _ _ _ _ rdA) ?_ | refine rI rdA rf ix ?_ | (refine zvg (f := dInt) hF hE ix tv rf (by rfl) ?_; intro Sm hEm hFm) | refine And.intro ?_ ?_)
 all_goals first
  | exact hE
  | exact hEm
  | (exfalso; omega)
  | (rw [show i = 9 from by omega, show zc7 (zbm l) 9 ++ List.replicate (9 - 9) 0 = zc7 (zbm l) 9 from List.append_nil _] at hF
     rw [zyn (owner := owner) (v := v) (by rintro ⟨h1, h2⟩; have h3 := zky h2; first | omega | (simp_all [inR]; done))] at hF; exact ⟨_, rfl, hF⟩)
  | (rw [Int.toNat_natCast, zsr (zbm l) i 9 (by omega) _ rfl] at hFm
     refine ⟨⟨(i + 1, _), by dsimp only; omega, hEm, hFm⟩, ?_, rfl, by dsimp only; omega⟩; (conv => whnf); repeat' (first | exact trivial | exact rfl | apply And.intro))
  | (subst_vars; rw [show i = 9 from by omega, show zc7 (zbm l) 9 ++ List.replicate (9 - 9) 0 = zc7 (zbm l) 9 from List.append_nil _, zz4 (by omega) (by assumption)] at hFm; exact ⟨_, rfl, hFm⟩)
def zer (v : GGrant) : List GGrant → Nat → Int
 | [], _ => -1
 | x :: r, i => if v = x then i else zer v r (i + 1)
theorem zlp (v : GGrant) : ∀ (l : List GGrant) (i : Nat), (0 ≤ zer v l i) ↔ v ∈ l
 | [], i => by simp [zer]
 | x :: r, i => by
   rw [zer, List.mem_cons]
   split
   ·rename_i h; subst h; simp
   ·rename_i h; rw [zlp v r (i + 1)]; simp [h]
theorem zvz (l : List GGrant) (v : GGrant) (c : C) (S : Store) (h : Rd S [.sl 7 (l.map GGrant.d)] [c]) : EvA Tryz.prog 260 [.s c, .agg v.c] S (fun r S' => r = .v (.s (.int .i64 (zer v l 0))) ∧ S' = S) := by
 refine zac tok Tryz.func260 (by kernel_rfl) rfl ?_
 repeat' ((conv => whnf) <;> first
  | refine rE fun hml => ?_)
 refine zag {i : Nat // i ≤ l.length ∧ zer v (l.drop i) i = zer v l 0} [4, 5, 8, 9, 10, 11, 12, 13, 14, 15, 16, 17, 18] (fun zb => [(8, .v (.s (.int .i64 zb.1)))]) (fun _ => S) (fun zb => l.length - zb.1) ⟨0, Nat.zero_le _, rfl⟩ okL rfl ?_
 rintro ⟨i, hi, hinv⟩; dsimp only
 repeat' ((conv => whnf) <;> first
  | rw [zad (by omega)] | refine cD (fun _ => ?_) fun _ => ?_ | refine cI (fun _ => ?_) fun _ => ?_ | refine rI aN rf ix ?_ | refine zaf aN tv ix ?_ | refine zae 11 (iN 6 0 []) (by rfl) (by kernel_rfl) ?_ | refine And.intro ?_ ?_)
 all_goals first
  | rfl
  | (rw [zak (by omega), zer] at hinv; rw [← hinv]; rfl)
  | (rename_i hb; rw [GGrant.eqb] at hb; have hb' := of_decide_eq_true hb; rw [zam (by omega), zer] at hinv; have hinv := (if_pos hb').symm.trans hinv; rw [← hinv]; rfl)
  | (rename_i hb; rw [GGrant.eqb] at hb; have hb' := of_decide_eq_false hb
     (refine ⟨⟨i + 1, by omega, by rw [zam (by omega), zer] at hinv; exact (if_neg hb').symm.trans hinv⟩, ?_, rfl, by simp; omega⟩; (conv => whnf); repeat' (first | exact trivial | exact rfl | apply And.intro)))
theorem zhb (l : List GGrant) (v : GGrant) (c : C) (S : Store) (h : Rd S [.sl 7 (l.map GGrant.d)] [c]) : EvA Tryz.prog 195 [.s c, .agg v.c] S (fun r S' => r = .v (.s (.bool (decide (v ∈ l)))) ∧ S' = S) := by
 have e : decide (v ∈ l) = decide (0 ≤ zer v l 0) := by rw [Bool.eq_iff_iff]; simp [zlp]
 rw [e]
 refine zac tok Tryz.func195 (by kernel_rfl) rfl ?_
 repeat' ((conv => whnf) <;> first
  | refine zaa (zvz _ _ _ _ aN) ?_ | refine And.intro ?_ ?_)
 all_goals rfl
abbrev z2y (ext : Int) (s : GSite) (tick k : Int) : GGrant := ⟨ext, ⟨s.Owner, s.Sub⟩, k, tick, tick + 5, false⟩
abbrev z5t (ext : Int) (s : GSite) (tick : Int) : List GGrant := [z2y ext s tick 1, z2y ext s tick 2]
def zoc (ext : Int) (s : GSite) (tick : Int) : Bool := inR ext 1 5 && ze7 s && inR tick 0 9995
def zcd (ext : Int) (s : GSite) (tick : Int) : List GGrant := if zoc ext s tick then z5t ext s tick else []
theorem z0e (ext : Int) (s : GSite) (tick : Int) : (zcd ext s tick).length ≤ 2 := by unfold zcd; split <;> simp
theorem zoy (ext : Int) (s : GSite) (tick : Int) (S : Store) : EvA Tryz.prog 194 [.s (.int .i64 ext), .agg s.c, .s (.int .i64 tick)] S (fun r S' => Ext S S' ∧ ∃ c', r = .v (.s c') ∧ Fr S.length S' [.sl 7 ((zcd ext s tick).map GGrant.d)] [c']) := by
 have hr : zoc ext s tick = true → 0 ≤ tick ∧ tick ≤ 9995 := by intro h; simp [zoc, inR] at h; omega
 rcases hk : zoc ext s tick with _ | _
 ·have e : zcd ext s tick = [] := by unfold zcd; rw [if_neg (by rw [hk]; decide)]
  rw [e]
  refine zac tok Tryz.func194 (by kernel_rfl) rfl ?_
  repeat' ((conv => whnf) <;> first
   | rw [zad (by omega)] | refine cT ?_ | refine zar (fun _ _ => ?_) (fun _ _ => ?_) | refine cN (fun _ => ?_) fun _ => ?_ | refine zaa (zat _ _ _ _) ?_ | refine zaa (zeg _ _) ?_ | refine And.intro ?_ ?_)
  all_goals first
   | exact Ext.push _ _
   | exact ⟨_, rfl, zba⟩
   | (exfalso; simp_all [zoc]; done)
 ·have e : zcd ext s tick = z5t ext s tick := by unfold zcd; rw [if_pos hk]
  have ht := hr hk
  have t3 := zjq (S := S) (f := GGrant.d) (k := 7) (z5t ext s tick) (fun _ => trivial) (by simp)
  rw [e]
  refine zac tok Tryz.func194 (by kernel_rfl) rfl ?_
  repeat' ((conv => whnf) <;> first
   | rw [zad (by omega)] | refine cT ?_ | refine zar (fun _ _ => ?_) (fun _ _ => ?_) | refine cN (fun _ => ?_) fun _ => ?_ | refine zaa (zat _ _ _ _) ?_ | refine zaa (zeg _ _) ?_ | refine And.intro ?_ ?_)
  all_goals first
   | exact Ext.push _ _
   | exact ⟨_, rfl, t3⟩
   | (exfalso; simp_all [zoc]; done)
   | skip
def zhs (s : GSite) (x : GGrant) : Bool := !zfa x || !ze8 x.Pattern s
theorem zor (l : List GGrant) (s : GSite) (c : C) (S : Store) (h : Rd S [.sl 7 (l.map GGrant.d)] [c]) (hz : l.length ≤ 4194304) : EvA Tryz.prog 105 [.s c, .agg s.c] S (fun r S' => Ext S S' ∧ ∃ c', r = .v (.s c') ∧ Fr S.length S' [.sl 7 ((l.filter (zhs s)).map GGrant.d)] [c']) := by
 refine zac tok Tryz.func105 (by kernel_rfl) rfl ?_
 repeat' ((conv => whnf) <;> first
  | refine rE fun hml => ?_)
 refine zag {p : Nat × Store × C // p.1 ≤ l.length ∧ Ext S p.2.1 ∧ Fr S.length p.2.1 [.sl 7 (((l.take p.1).filter (zhs s)).map GGrant.d)] [p.2.2]} [5, 7, 11, 12, 13, 14, 15, 16, 17, 18, 19, 20, 21, 22, 23, 24, 25, 26, 27, 28, 29] (fun zb => [(11, .v (.s (.int .i64 zb.1.1))), (5, .v (.s zb.1.2.2))]) (fun zb => zb.1.2.1) (fun zb => l.length - zb.1.1) ⟨(0, _, _), Nat.zero_le _, Ext.push _ _, zba⟩ okL rfl ?_
 rintro ⟨⟨i, Si, ci⟩, hi, hE, hF⟩; dsimp only
 replace hi : i ≤ l.length := hi
 replace hE : Ext S Si := hE
 replace hF : Fr S.length Si [.sl 7 (((l.take i).filter (zhs s)).map GGrant.d)] [ci] := hF
 have hfl := zb9 (zhs s) l i
 repeat' ((conv => whnf) <;> first
  | rw [zad (by omega)] | refine cD (fun _ => ?_) fun _ => ?_ | refine cT ?_ | refine cN (fun _ => ?_) fun _ => ?_ | refine zaa (zlh _ _) ?_ | refine zaa (zfk _ _ _) ?_ | refine rI rdA rf ix ?_ | refine zaf rdA tv ix ?_ | (refine zdc (f := GGrant.d) aN aN tv (by rfl) rf (by dsimp only [T120]; omega) om ?_; intro cN SN hEN hFN) | refine And.intro ?_ ?_)
 all_goals first
  | exact hE
  | (rw [List.take_of_length_le (by omega)] at hF; exact ⟨_, rfl, hF⟩)
  | (refine ⟨⟨(i + 1, _, _), by dsimp only; omega, by assumption, by first | (rw [zcz (by omega) (by simp_all [zhs])]; assumption) | (rw [zc0 (by omega) (by simp_all [zhs])]; assumption)⟩, ?_, rfl, by dsimp only; omega⟩; (conv => whnf); repeat' (first | exact trivial | exact rfl | apply And.intro))
def zgq (l : List GGrant) (g : GGrant) : Bool := !decide (g ∈ l)
def zk6 (l : List GGrant) (ext : Int) (s : GSite) (tick : Int) : List GGrant := l ++ (zcd ext s tick).filter (zgq l)
def zm1 (l : List GGrant) (ext : Int) (s : GSite) (tick : Int) : Bool := decide ((zcd ext s tick).length = 0) || decide (16 < (zk6 l ext s tick).length)
def zhp (l : List GGrant) (ext : Int) (s : GSite) (tick : Int) : List GGrant × Bool := if zm1 l ext s tick then (l, false) else (zk6 l ext s tick, true)
theorem zo9 (l : List GGrant) (ext : Int) (s : GSite) (tick : Int) (c : C) (S : Store) (h : Rd S [.sl 7 (l.map GGrant.d)] [c]) (hz : l.length ≤ 4194300) : EvA Tryz.prog 102 [.s c, .s (.int .i64 ext), .agg s.c, .s (.int .i64 tick)] S (fun r S' => Ext S S' ∧ ∃ c', r = .tup [.s c', .s (.bool (zhp l ext s tick).2)] ∧ Fr S.length S' [.sl 7 ((zhp l ext s tick).1.map GGrant.d)] [c']) := by
 have hxl := z0e ext s tick
 refine zac tok Tryz.func102 (by kernel_rfl) rfl ?_
 skip
 (conv => whnf)
 refine zab (zoy ext s tick _) ?_; rintro _ S0 ⟨e0, cx, rfl, fx⟩
 have hx := fx.rd
 have hfin : zhp l ext s tick = if zm1 l ext s tick then (l, false) else (zk6 l ext s tick, true) := rfl
 have hob : zm1 l ext s tick = (decide ((zcd ext s tick).length = 0) || decide (16 < (zk6 l ext s tick).length)) := rfl
 have hout : zk6 l ext s tick = l ++ ((zcd ext s tick).filter (zgq l)) := rfl
 generalize zcd ext s tick = x at *
 clear fx
 skip
 (conv => whnf)
 refine zab (zcu l _ _ rdA (by omega)) ?_; rintro _ S1 ⟨e1, co, rfl, fo⟩
 repeat' ((conv => whnf) <;> first
  | refine rE fun hml => ?_)
 refine zag {p : Nat × Store × C // p.1 ≤ x.length ∧ Ext S0 p.2.1 ∧ Fr S0.length p.2.1 [.sl 7 ((l ++ (x.take p.1).filter (zgq l)).map GGrant.d)] [p.2.2]} [11, 13, 22, 23, 24, 25, 26, 27, 28, 29, 30, 31, 32, 33, 34] (fun zb => [(22, .v (.s (.int .i64 zb.1.1))), (11, .v (.s zb.1.2.2))]) (fun zb => zb.1.2.1) (fun zb => x.length - zb.1.1) ⟨(0, _, _), Nat.zero_le _, e1, by rw [List.take_zero, List.filter_nil, List.append_nil]; exact fo⟩ okL rfl ?_
 rintro ⟨⟨i, Si, ci⟩, hi, hE, hF⟩; dsimp only
 replace hi : i ≤ x.length := hi
 replace hE : Ext S0 Si := hE
 replace hF : Fr S0.length Si [.sl 7 ((l ++ (x.take i).filter (zgq l)).map GGrant.d)] [ci] := hF
 have hfl := zb9 (zgq l) x i
 have hll : (l ++ (x.take i).filter (zgq l)).length = l.length + ((x.take i).filter (zgq l)).length := List.length_append
 by_cases hlt : i < x.length
 ·rcases hP : zgq l (x[i]'hlt) with _ | _
  ·have hp := zc0 hlt hP
   repeat' ((conv => whnf) <;> first
    | rw [zad (by omega)] | refine cD (fun _ => ?_) fun _ => ?_ | refine cE (fun _ => ?_) fun _ => ?_ | refine cT ?_ | (refine zab (zcu _ _ _ rdA om) ?_; rintro _ Sn ⟨hEn, cn, rfl, hFn⟩) | refine zaa (zhb _ _ _ _ rdA) ?_ | refine rE fun hml => ?_ | refine rI rdA rf ix ?_ | refine zaf rdA tv ix ?_ | (refine zdc (f := GGrant.d) (x := x[i]'hlt) hF hE tv (by rfl) rf (by dsimp only [T120]; omega) om ?_; intro cN SN hEN hFN) | refine And.intro ?_ ?_)
   all_goals first
    | (exfalso; omega)
    | (exfalso; simp_all [zgq]; done)
    | (refine ⟨⟨(i + 1, _, _), by dsimp only; omega, hE, by rw [hp]; exact hF⟩, ?_, rfl, by dsimp only; omega⟩; (conv => whnf); repeat' (first | exact trivial | exact rfl | (show _ = _; congr 3; dsimp only; omega) | apply And.intro))
  ·have hp := zcz hlt hP
   repeat' ((conv => whnf) <;> first
    | rw [zad (by omega)] | refine cD (fun _ => ?_) fun _ => ?_ | refine cE (fun _ => ?_) fun _ => ?_ | refine cT ?_ | (refine zab (zcu _ _ _ rdA om) ?_; rintro _ Sn ⟨hEn, cn, rfl, hFn⟩) | refine zaa (zhb _ _ _ _ rdA) ?_ | refine rE fun hml => ?_ | refine rI rdA rf ix ?_ | refine zaf rdA tv ix ?_ | (refine zdc (f := GGrant.d) (x := x[i]'hlt) hF hE tv (by rfl) rf (by dsimp only [T120]; omega) om ?_; intro cN SN hEN hFN) | refine And.intro ?_ ?_)
   all_goals first
    | (exfalso; omega)
    | (exfalso; simp_all [zgq]; done)
    | (refine ⟨⟨(i + 1, _, _), by dsimp only; omega, by assumption, by rw [hp, ← List.append_assoc]; assumption⟩, ?_, rfl, by dsimp only; omega⟩; (conv => whnf); repeat' (first | exact trivial | exact rfl | (show _ = _; congr 3; dsimp only; omega) | apply And.intro))
 ·rw [List.take_of_length_le (by omega), ← hout] at hF
  rw [List.take_of_length_le (by omega), ← hout] at hll
  clear hout
  have hE2 := e0.trans hE
  generalize zk6 l ext s tick = y at *
  rcases hb : zm1 l ext s tick with _ | _
  ·rw [hb, if_neg (by decide)] at hfin
   rw [hb] at hob
   rw [hfin]
   repeat' ((conv => whnf) <;> first
    | rw [zad (by omega)] | refine cD (fun _ => ?_) fun _ => ?_ | refine cE (fun _ => ?_) fun _ => ?_ | refine cT ?_ | (refine zab (zcu _ _ _ rdA om) ?_; rintro _ Sn ⟨hEn, cn, rfl, hFn⟩) | refine zaa (zhb _ _ _ _ rdA) ?_ | refine rE fun hml => ?_ | refine rI rdA rf ix ?_ | refine zaf rdA tv ix ?_ | refine And.intro ?_ ?_)
   all_goals first
    | exact e0.trans hE
    | exact ⟨_, rfl, hF.mono e0.len⟩
    | (exfalso; simp_all; done)
    | (exfalso; simp_all; omega)
    | (exfalso; omega)
  ·rw [hb, if_pos rfl] at hfin
   rw [hb] at hob
   rw [hfin]
   repeat' ((conv => whnf) <;> first
    | rw [zad (by omega)] | refine cD (fun _ => ?_) fun _ => ?_ | refine cE (fun _ => ?_) fun _ => ?_ | refine cT ?_ | (refine zab (zcu _ _ _ rdA om) ?_; rintro _ Sn ⟨hEn, cn, rfl, hFn⟩) | refine zaa (zhb _ _ _ _ rdA) ?_ | refine rE fun hml => ?_ | refine rI rdA rf ix ?_ | refine zaf rdA tv ix ?_ | refine And.intro ?_ ?_)
   all_goals first
    | exact (e0.trans hE).trans (by assumption)
    | (refine ⟨_, rfl, Fr.mono (by assumption) (e0.trans hE).len⟩)
    | (exfalso; simp_all; done)
    | (exfalso; simp_all; omega)
    | (exfalso; omega)
end Go.Proofs.YtlmmdpmmdmhacaaGreat
