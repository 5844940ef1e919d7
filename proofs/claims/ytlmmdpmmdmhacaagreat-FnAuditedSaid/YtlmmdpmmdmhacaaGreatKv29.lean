/- The values that an extension reads. -/
import Derived.Test.YtlmmdpmmdmhacaaGreatKv21
namespace Go.Proofs.YtlmmdpmmdmhacaaGreat
open Go Go.ChangeShapes Go.WideShapes Go.ChangeAt Go.RowKit
set_option linter.unusedVariables false
set_option linter.unusedSimpArgs false
set_option maxRecDepth 100000
def valueOf (l : List Int) (o : Int) : Int := if 1 ≤ o ∧ o ≤ l.length then (if inR (l.getD (o.toNat - 1) 0) 0 999 then l.getD (o.toNat - 1) 0 else 0) else 0
theorem valueOf_in {l : List Int} {o : Int} (h : 1 ≤ o ∧ o ≤ l.length) : valueOf l o = if inR (l[(o - 1).toNat]'(by omega)) 0 999 then l[(o - 1).toNat]'(by omega) else 0 := by
  unfold valueOf
  have e : l.getD (o.toNat - 1) 0 = l[(o - 1).toNat]'(by omega) := by
    rw [List.getD_eq_getElem?_getD, List.getElem?_eq_getElem (by omega)]
    simp only [Option.getD_some]
    congr 1; omega
  rw [if_pos h, e]
theorem valueOf_out {l : List Int} {o : Int} (h : ¬ (1 ≤ o ∧ o ≤ l.length)) : valueOf l o = 0 := by unfold valueOf; rw [if_neg h]
theorem ev_iValueOf (l : List Int) (o : Int) (c : C) (S : Store) (h : Rd S [.sl 1 (l.map dInt)] [c]) : EvA Tryz.prog 129 [.s c, .s (.int .i64 o)] S (fun r S' => r = .v (.s (.int .i64 (valueOf l o))) ∧ S' = S) := by
  by_cases ho : 1 ≤ o ∧ o ≤ l.length
  · rw [valueOf_in ho]
    refine evA_intro tok Tryz.func129 (by kernel_rfl) rfl ?_
    repeat' ((conv => whnf) <;> first
     | rw [wrapI_i64 (by omega)] | refine cD (fun _ => ?_) fun _ => ?_ | refine cT ?_ | refine condP_ninR (fun _ _ => ?_) (fun _ _ => ?_) | refine callP_eq (ev_InRange _ _ _ _) ?_ | refine rE fun hml => ?_ | refine rI aN rf ix ?_ | refine rd_loadf aN tv ix ?_ | refine And.intro ?_ ?_)
    all_goals first | rfl | (exfalso; omega) | (simp_all [resAV]; done)
  · rw [valueOf_out ho]
    refine evA_intro tok Tryz.func129 (by kernel_rfl) rfl ?_
    repeat' ((conv => whnf) <;> first
     | rw [wrapI_i64 (by omega)] | refine cD (fun _ => ?_) fun _ => ?_ | refine cT ?_ | refine condP_ninR (fun _ _ => ?_) (fun _ _ => ?_) | refine callP_eq (ev_InRange _ _ _ _) ?_ | refine rE fun hml => ?_ | refine rI aN rf ix ?_ | refine rd_loadf aN tv ix ?_ | refine And.intro ?_ ?_)
    all_goals first | rfl | (exfalso; omega)
theorem ev_l21Value (l : List Int) (o : Int) (c : C) (S : Store) (h0 : 1 ≤ o ∧ o ≤ 4611686018427387904) (h : Rd S [.sl 1 (l.map dInt)] [c]) : EvA Tryz.prog 304 [.s c, .s (.int .i64 o)] S (fun r S' => r = .v (.s (.int .i64 (valueOf l o))) ∧ S' = S) := by
  by_cases ho : 1 ≤ o ∧ o ≤ l.length
  · rw [valueOf_in ho]
    refine evA_intro tok Tryz.func304 (by kernel_rfl) rfl ?_
    repeat' ((conv => whnf) <;> first
     | rw [wrapI_i64 (by omega)] | refine cD (fun _ => ?_) fun _ => ?_ | refine cT ?_ | refine condP_ninR (fun _ _ => ?_) (fun _ _ => ?_) | refine callP_eq (ev_l1In _ _ _ _) ?_ | refine rE fun hml => ?_ | refine rI aN rf ix ?_ | refine rd_loadf aN tv ix ?_ | refine And.intro ?_ ?_)
    all_goals first | rfl | (exfalso; omega) | (simp_all [resAV]; done)
  · rw [valueOf_out ho]
    refine evA_intro tok Tryz.func304 (by kernel_rfl) rfl ?_
    repeat' ((conv => whnf) <;> first
     | rw [wrapI_i64 (by omega)] | refine cD (fun _ => ?_) fun _ => ?_ | refine cT ?_ | refine condP_ninR (fun _ _ => ?_) (fun _ _ => ?_) | refine callP_eq (ev_l1In _ _ _ _) ?_ | refine rE fun hml => ?_ | refine rI aN rf ix ?_ | refine rd_loadf aN tv ix ?_ | refine And.intro ?_ ?_)
    all_goals first | rfl | (exfalso; omega)
def mayNow (b : GBrowser) (ext o k : Int) : Bool := mayDo b.Grants b.Limits ext ⟨o, 0⟩ k b.Now false
theorem ev_mayNow (b : GBrowser) (ext ow k : Int) (cs : List C) (S : Store) (h : Rd S b.d cs) : EvA Tryz.prog 128 [.agg cs, .s (.int .i64 ext), .s (.int .i64 ow), .s (.int .i64 k)] S (fun r S' => r = .v (.s (.bool (mayNow b ext ow k))) ∧ S' = S) := by
  obtain ⟨_, _, _, _, _, _, rfl, _, _, _, _, _, _⟩ := GBrowser.inv h
  refine evA_intro tok Tryz.func128 (by kernel_rfl) rfl ?_
  repeat' ((conv => whnf) <;> first
   | refine callP_eq (ev_iMayDo _ _ _ ⟨_, _⟩ _ _ _ _ _ _ aN aN) ?_ | refine And.intro ?_ ?_)
  all_goals rfl
def valFor (b : GBrowser) (ext : Int) (l : List Int) (o : Int) : Int := if mayNow b ext o 1 then valueOf l o else 0
def valGo (P : Int → Int) : Nat → List Int
  | 0 => []
  | n + 1 => valGo P n ++ [P ((n : Int) + 1)]
theorem valGo_len (P : Int → Int) : ∀ n, (valGo P n).length = n
  | 0 => rfl
  | n + 1 => by rw [valGo, List.length_append, valGo_len P n]; rfl
theorem valGo_set (P : Int → Int) (n N : Nat) (h : n < N) (v : Int) (hv : v = P ((n : Int) + 1)) : (valGo P n ++ List.replicate (N - n) 0).set n v = valGo P (n + 1) ++ List.replicate (N - (n + 1)) 0 := by
  subst hv
  have hl := valGo_len P n
  rw [List.set_append_right _ _ (by omega), hl, Nat.sub_self, show N - n = (N - (n + 1)) + 1 by omega, List.replicate_succ, List.set_cons_zero, valGo, List.append_assoc]; rfl
theorem valGo_skip (P : Int → Int) (n N : Nat) (h : n < N) (hv : 0 = P ((n : Int) + 1)) : valGo P n ++ List.replicate (N - n) 0 = valGo P (n + 1) ++ List.replicate (N - (n + 1)) 0 := by
  rw [valGo, ← hv, show N - n = (N - (n + 1)) + 1 by omega, List.replicate_succ, List.append_assoc]; rfl
def valuesFor (b : GBrowser) (ext : Int) (l : List Int) : List Int := valGo (valFor b ext l) 9
theorem st_flat {α : Type} {f : α → List D} {S0 S : Store} {k : Nat} {c : C} {l : List α} {i : Int} {y : α} {ys : List C} {K : Store → Prop} (h : Fr S0.length S [.sl k (l.map f)] [c]) (hE : Ext S0 S) (hi : 0 ≤ i ∧ i.toNat < l.length) (hf : ∀ x, Flat (f x)) (hk : ∀ x, (f x).length = k) (hy : ys = flatC (f y))
    (hK : ∀ S', Ext S0 S' → Fr S0.length S' [.sl k ((l.set i.toNat y).map f)] [c] → K S') : StoP S c i 0 ys K := by
  subst hy
  refine fr_sto (A := []) (B := f (l[i.toNat]'hi.2)) (B' := f y) (Z := []) hE h (Ext.refl S) (fr_flat (hf y)) hE.len (by simpa using hi) (by simp [hi.2]) rfl (by rw [hk, hk]) (by simp [hk]) fun S' h1 h2 _ => hK S' h1 ?_
  rw [List.nil_append, List.append_nil] at h2
  rw [List.map_set]; exact h2
theorem ev_iValuesFor (b : GBrowser) (ext : Int) (l : List Int) (cs : List C) (c : C) (S : Store) (h : Rd S b.d cs) (h' : Rd S [.sl 1 (l.map dInt)] [c]) : EvA Tryz.prog 127 [.agg cs, .s (.int .i64 ext), .s c] S (fun r S' => Ext S S' ∧ ∃ c', r = .v (.s c') ∧ Fr S.length S' [.sl 1 ((valuesFor b ext l).map dInt)] [c']) := by
  obtain ⟨_, _, _, _, _, _, rfl, _, _, _, _, _, _⟩ := GBrowser.inv h
  have hF0 : Fr S.length (S ++ [⟨true, 1, List.replicate 9 [.int .i64 0]⟩]) [.sl 1 ((valGo (valFor b ext l) 0 ++ List.replicate (9 - 0) 0).map dInt)] [.sl S.length 0 9 9] := fr_make (n := 9) (z := dInt 0) (zc := [.int .i64 0]) (repL_x repL_0) (by rw [maxLen_eq]; omega)
  have hl0 : (valGo (valFor b ext l) 0 ++ List.replicate (9 - 0) 0).length = 9 := rfl
  refine evA_intro tok Tryz.func127 (by kernel_rfl) rfl ?_
  repeat' ((conv => whnf) <;> first
   | refine rE fun hml => ?_ | refine needP_intro (by dsimp only [T3, T31]; first | omega | (constructor <;> omega) | fail) ?_)
  refine loop_intro {p : Nat × Store // p.1 ≤ 9 ∧ Ext S p.2 ∧ Fr S.length p.2 [.sl 1 ((valGo (valFor b ext l) p.1 ++ List.replicate (9 - p.1) 0).map dInt)] [.sl S.length 0 9 9]} [8, 12, 13, 14, 15, 16, 17, 18, 19, 20, 21, 22, 23, 24, 25, 26, 27] (fun zb => [(12, .v (.s (.int .i64 zb.1.1)))]) (fun zb => zb.1.2) (fun zb => 9 - zb.1.1) ⟨(0, _), Nat.zero_le _, Ext.push _ _, hF0⟩ ?_ rfl ?_
  · (conv => whnf); repeat' (first | exact trivial | exact rfl | apply And.intro)
  rintro ⟨⟨i, Si⟩, hi, hE, hF⟩; dsimp only
  replace hi : i ≤ 9 := hi
  replace hE : Ext S Si := hE
  replace hF : Fr S.length Si [.sl 1 ((valGo (valFor b ext l) i ++ List.replicate (9 - i) 0).map dInt)] [.sl S.length 0 9 9] := hF
  have hlen : (valGo (valFor b ext l) i ++ List.replicate (9 - i) 0).length = 9 := by rw [List.length_append, valGo_len, List.length_replicate]; omega
  repeat' ((conv => whnf) <;> first
   | rw [wrapI_i64 (by omega)] | refine cD (fun _ => ?_) fun _ => ?_ | refine cI (fun _ => ?_) fun _ => ?_ | (refine callP_eq (ev_mayNow _ _ _ _ _ _ rdcA) ?_) | refine callP_eq (ev_iValueOf _ _ _ _ rdA) ?_ | refine rI rdA rf ix ?_ | (refine st_flat (f := dInt) hF hE ix tv rf (by rfl) ?_; intro Sm hEm hFm) | refine And.intro ?_ ?_)
  all_goals first
    | exact hE
    | (exfalso; omega)
    | (rw [show i = 9 from by omega] at hF; rw [show valGo (valFor b ext l) 9 ++ List.replicate (9 - 9) 0 = valuesFor b ext l from List.append_nil _] at hF; exact ⟨_, rfl, hF⟩)
    | (rw [Int.toNat_natCast, valGo_set (valFor b ext l) i 9 (by omega) _ (by unfold valFor; rw [if_pos (by assumption)])] at hFm
       refine ⟨⟨(i + 1, _), by dsimp only; omega, hEm, hFm⟩, ?_, rfl, by dsimp only; omega⟩; (conv => whnf); repeat' (first | exact trivial | exact rfl | apply And.intro))
    | (have hb : mayNow b ext ((i : Int) + 1) 1 = false := by assumption
       rw [valGo_skip (valFor b ext l) i 9 (by omega) (by unfold valFor; rw [hb]; rfl)] at hF
       refine ⟨⟨(i + 1, _), by dsimp only; omega, hE, hF⟩, ?_, rfl, by dsimp only; omega⟩; (conv => whnf); repeat' (first | exact trivial | exact rfl | apply And.intro))
end Go.Proofs.YtlmmdpmmdmhacaaGreat
