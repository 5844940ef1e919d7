/- The values that an extension reads. -/
import Derived.Test.YtlmmdpmmdmhacaaGreatKt18
namespace Go.Proofs.YtlmmdpmmdmhacaaGreat
open Go Go.ChangeShapes Go.WideShapes Go.ChangeAt Go.RowKit
set_option linter.unusedVariables false
set_option linter.unusedSimpArgs false
set_option maxRecDepth 100000
def zbm (l : List Int) (o : Int) : Int := if 1 ≤ o ∧ o ≤ l.length then (if inR (l.getD (o.toNat - 1) 0) 0 999 then l.getD (o.toNat - 1) 0 else 0) else 0
theorem zp9 {l : List Int} {o : Int} (h : 1 ≤ o ∧ o ≤ l.length) : zbm l o = if inR (l[(o - 1).toNat]'(by omega)) 0 999 then l[(o - 1).toNat]'(by omega) else 0 := by
 unfold zbm
 have e : l.getD (o.toNat - 1) 0 = l[(o - 1).toNat]'(by omega) := by
  rw [List.getD_eq_getElem?_getD, List.getElem?_eq_getElem (by omega)]
  simp only [Option.getD_some]
  congr 1; omega
 rw [if_pos h, e]
theorem zm0 {l : List Int} {o : Int} (h : ¬ (1 ≤ o ∧ o ≤ l.length)) : zbm l o = 0 := by unfold zbm; rw [if_neg h]
theorem zjr (l : List Int) (o : Int) (c : C) (S : Store) (h : Rd S [.sl 1 (l.map dInt)] [c]) : EvA Tryz.prog 129 [.s c, .s (.int .i64 o)] S (fun r S' => r = .v (.s (.int .i64 (zbm l o))) ∧ S' = S) := by
 by_cases ho : 1 ≤ o ∧ o ≤ l.length
 ·rw [zp9 ho]
  refine zac tok Tryz.func129 (by kernel_rfl) rfl ?_
  repeat' ((conv => whnf) <;> first
   | rw [zad (by omega)] | refine cD (fun _ => ?_) fun _ => ?_ | refine cT ?_ | refine zar (fun _ _ => ?_) (fun _ _ => ?_) | refine zaa (zat _ _ _ _) ?_ | refine rE fun hml => ?_ | refine rI aN rf ix ?_ | refine zaf aN tv ix ?_ | refine And.intro ?_ ?_)
  all_goals first | rfl | (exfalso; omega) | (simp_all [zay]; done)
 ·rw [zm0 ho]
  refine zac tok Tryz.func129 (by kernel_rfl) rfl ?_
  repeat' ((conv => whnf) <;> first
   | rw [zad (by omega)] | refine cD (fun _ => ?_) fun _ => ?_ | refine cT ?_ | refine zar (fun _ _ => ?_) (fun _ _ => ?_) | refine zaa (zat _ _ _ _) ?_ | refine rE fun hml => ?_ | refine rI aN rf ix ?_ | refine zaf aN tv ix ?_ | refine And.intro ?_ ?_)
  all_goals first | rfl | (exfalso; omega)
theorem zuo (l : List Int) (o : Int) (c : C) (S : Store) (h0 : 1 ≤ o ∧ o ≤ 4611686018427387904) (h : Rd S [.sl 1 (l.map dInt)] [c]) : EvA Tryz.prog 304 [.s c, .s (.int .i64 o)] S (fun r S' => r = .v (.s (.int .i64 (zbm l o))) ∧ S' = S) := by
 by_cases ho : 1 ≤ o ∧ o ≤ l.length
 ·rw [zp9 ho]
  refine zac tok Tryz.func304 (by kernel_rfl) rfl ?_
  repeat' ((conv => whnf) <;> first
   | rw [zad (by omega)] | refine cD (fun _ => ?_) fun _ => ?_ | refine cT ?_ | refine zar (fun _ _ => ?_) (fun _ _ => ?_) | refine zaa (zcp _ _ _ _) ?_ | refine rE fun hml => ?_ | refine rI aN rf ix ?_ | refine zaf aN tv ix ?_ | refine And.intro ?_ ?_)
  all_goals first | rfl | (exfalso; omega) | (simp_all [zay]; done)
 ·rw [zm0 ho]
  refine zac tok Tryz.func304 (by kernel_rfl) rfl ?_
  repeat' ((conv => whnf) <;> first
   | rw [zad (by omega)] | refine cD (fun _ => ?_) fun _ => ?_ | refine cT ?_ | refine zar (fun _ _ => ?_) (fun _ _ => ?_) | refine zaa (zcp _ _ _ _) ?_ | refine rE fun hml => ?_ | refine rI aN rf ix ?_ | refine zaf aN tv ix ?_ | refine And.intro ?_ ?_)
  all_goals first | rfl | (exfalso; omega)
def zgc (b : GBrowser) (ext o k : Int) : Bool := zxl b.Grants b.Limits ext ⟨o, 0⟩ k b.Now false
theorem zna (b : GBrowser) (ext ow k : Int) (cs : List C) (S : Store) (h : Rd S b.d cs) : EvA Tryz.prog 128 [.agg cs, .s (.int .i64 ext), .s (.int .i64 ow), .s (.int .i64 k)] S (fun r S' => r = .v (.s (.bool (zgc b ext ow k))) ∧ S' = S) := by
 obtain ⟨_, _, _, _, _, _, rfl, _, _, _, _, _, _⟩ := GBrowser.inv h
 refine zac tok Tryz.func128 (by kernel_rfl) rfl ?_
 repeat' ((conv => whnf) <;> first
  | refine zaa (znb _ _ _ ⟨_, _⟩ _ _ _ _ _ _ aN aN) ?_ | refine And.intro ?_ ?_)
 all_goals rfl
def zht (b : GBrowser) (ext : Int) (l : List Int) (o : Int) : Int := if zgc b ext o 1 then zbm l o else 0
def zc7 (P : Int → Int) : Nat → List Int
 | 0 => []
 | n + 1 => zc7 P n ++ [P ((n : Int) + 1)]
theorem zc1 (P : Int → Int) : ∀ n, (zc7 P n).length = n
 | 0 => rfl
 | n + 1 => by rw [zc7, List.length_append, zc1 P n]; rfl
theorem zsr (P : Int → Int) (n N : Nat) (h : n < N) (v : Int) (hv : v = P ((n : Int) + 1)) : (zc7 P n ++ List.replicate (N - n) 0).set n v = zc7 P (n + 1) ++ List.replicate (N - (n + 1)) 0 := by
 subst hv
 have hl := zc1 P n
 rw [List.set_append_right _ _ (by omega), hl, Nat.sub_self, show N - n = (N - (n + 1)) + 1 by omega, List.replicate_succ, List.set_cons_zero, zc7, List.append_assoc]; rfl
theorem zyd (P : Int → Int) (n N : Nat) (h : n < N) (hv : 0 = P ((n : Int) + 1)) : zc7 P n ++ List.replicate (N - n) 0 = zc7 P (n + 1) ++ List.replicate (N - (n + 1)) 0 := by
 rw [zc7, ← hv, show N - n = (N - (n + 1)) + 1 by omega, List.replicate_succ, List.append_assoc]; rfl
def zd3 (b : GBrowser) (ext : Int) (l : List Int) : List Int := zc7 (zht b ext l) 9
theorem zvg {α : Type} {f : α → List D} {S0 S : Store} {k : Nat} {c : C} {l : List α} {i : Int} {y : α} {ys : List C} {K : Store → Prop} (h : Fr S0.length S [.sl k (l.map f)] [c]) (hE : Ext S0 S) (hi : 0 ≤ i ∧ i.toNat < l.length) (hf : ∀ x, Flat (f x)) (hk : ∀ x, (f x).length = k) (hy : ys = zdz (f y))
 (hK : ∀ S', Ext S0 S' → Fr S0.length S' [.sl k ((l.set i.toNat y).map f)] [c] → K S') : StoP S c i 0 ys K := by
 subst hy
 refine z1y (A := []) (B := f (l[i.toNat]'hi.2)) (B' := f y) (Z := []) hE h (Ext.refl S) (zv6 (hf y)) hE.len (by simpa using hi) (by simp [hi.2]) rfl (by rw [hk, hk]) (by simp [hk]) fun S' h1 h2 _ => hK S' h1 ?_
 rw [List.nil_append, List.append_nil] at h2
 rw [List.map_set]; exact h2
theorem zqf (b : GBrowser) (ext : Int) (l : List Int) (cs : List C) (c : C) (S : Store) (h : Rd S b.d cs) (h' : Rd S [.sl 1 (l.map dInt)] [c]) : EvA Tryz.prog 127 [.agg cs, .s (.int .i64 ext), .s c] S (fun r S' => Ext S S' ∧ ∃ c', r = .v (.s c') ∧ Fr S.length S' [.sl 1 ((zd3 b ext l).map dInt)] [c']) := by
 obtain ⟨_, _, _, _, _, _, rfl, _, _, _, _, _, _⟩ := GBrowser.inv h
 have hF0 : Fr S.length (S ++ [⟨true, 1, List.replicate 9 [.int .i64 0]⟩]) [.sl 1 ((zc7 (zht b ext l) 0 ++ List.replicate (9 - 0) 0).map dInt)] [.sl S.length 0 9 9] := zv0 (n := 9) (z := dInt 0) (zc := [.int .i64 0]) (z4n zz9) (by rw [zan]; omega)
 have hl0 : (zc7 (zht b ext l) 0 ++ List.replicate (9 - 0) 0).length = 9 := rfl
 refine zac tok Tryz.func127 (by kernel_rfl) rfl ?_
 repeat' ((conv => whnf) <;> first
  | refine rE fun hml => ?_ | refine zdn (by dsimp only [T3, T31]; first | omega | (constructor <;> omega) | fail) ?_)
 refine zag {p : Nat × Store // p.1 ≤ 9 ∧ Ext S p.2 ∧ Fr S.length p.2 [.sl 1 ((zc7 (zht b ext l) p.1 ++ List.replicate (9 - p.1) 0).map dInt)] [.sl S.length 0 9 9]} [8, 12, 13, 14, 15, 16, 17, 18, 19, 20, 21, 22, 23, 24, 25, 26, 27] (fun zb => [(12, .v (.s (.int .i64 zb.1.1)))]) (fun zb => zb.1.2) (fun zb => 9 - zb.1.1) ⟨(0, _), Nat.zero_le _, Ext.push _ _, hF0⟩ okL rfl ?_
 rintro ⟨⟨i, Si⟩, hi, hE, hF⟩; dsimp only
 replace hi : i ≤ 9 := hi
 replace hE : Ext S Si := hE
 replace hF : Fr S.length Si [.sl 1 ((zc7 (zht b ext l) i ++ List.replicate (9 - i) 0).map dInt)] [.sl S.length 0 9 9] := hF
 have hlen : (zc7 (zht b ext l) i ++ List.replicate (9 - i) 0).length = 9 := by rw [List.length_append, zc1, List.length_replicate]; omega
 repeat' ((conv => whnf) <;> first
  | rw [zad (by omega)] | refine cD (fun _ => ?_) fun _ => ?_ | refine cI (fun _ => ?_) fun _ => ?_ | (refine zaa (zna _ _ _ _ _ _ rdcA) ?_) | refine zaa (zjr _ _ _ _ rdA) ?_ | refine rI rdA rf ix ?_ | (refine zvg (f := dInt) hF hE ix tv rf (by rfl) ?_; intro Sm hEm hFm) | refine And.intro ?_ ?_)
 all_goals first
  | exact hE
  | (exfalso; omega)
  | (rw [show i = 9 from by omega] at hF; rw [show zc7 (zht b ext l) 9 ++ List.replicate (9 - 9) 0 = zd3 b ext l from List.append_nil _] at hF; exact ⟨_, rfl, hF⟩)
  | (rw [Int.toNat_natCast, zsr (zht b ext l) i 9 (by omega) _ (by unfold zht; rw [if_pos (by assumption)])] at hFm
     refine ⟨⟨(i + 1, _), by dsimp only; omega, hEm, hFm⟩, ?_, rfl, by dsimp only; omega⟩; (conv => whnf); repeat' (first | exact trivial | exact rfl | apply And.intro))
  | (have hb : zgc b ext ((i : Int) + 1) 1 = false := by assumption
     rw [zyd (zht b ext l) i 9 (by omega) (by unfold zht; rw [hb]; rfl)] at hF
     refine ⟨⟨(i + 1, _), by dsimp only; omega, hE, hF⟩, ?_, rfl, by dsimp only; omega⟩; (conv => whnf); repeat' (first | exact trivial | exact rfl | apply And.intro))
end Go.Proofs.YtlmmdpmmdmhacaaGreat
