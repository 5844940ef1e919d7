/- A text of the proof. -/
import Derived.Test.YtockphlpokoohaaGreatKq33
import Derived.Test.YtockphlpokoohaaGreatKq43
import Derived.Test.YtockphlpokoohaaGreatKq39
import Derived.Test.YtockphlpokoohaaGreatKq30
namespace Go.Proofs.YtockphlpokoohaaGreat
open Go Go.ChangeShapes Go.WideShapes Go.ChangeAt Go.RowKit
set_option linter.unusedVariables false
set_option linter.unusedSimpArgs false
set_option maxRecDepth 100000
theorem ev_EqSent (l m : List GSent) (c c' : C) (S : Store) (h : Rd S [.sl 3 (l.map GSent.d)] [c]) (h' : Rd S [.sl 3 (m.map GSent.d)] [c']) : EvA Tryz.prog 127 [.s c, .s c'] S (fun r S' => r = .v (.s (.bool (decide (l = m)))) ∧ S' = S) := by
  by_cases hlen : l.length = m.length
  · refine evA_intro tok Tryz.func127 (by kernel_rfl) rfl ?_
    repeat' ((conv => whnf) <;> first
     | rw [wrapI_i64 (by omega)] | refine cD (fun _ => ?_) fun _ => ?_ | refine cE (fun _ => ?_) fun _ => ?_ | refine cT ?_ | refine cF ?_ | refine cN (fun _ => ?_) fun _ => ?_ | refine cI (fun _ => ?_) fun _ => ?_ | refine rE fun hml => ?_ | refine rI aN rf ix ?_ | refine rd_loadf aN tv ix ?_ | refine nP ?_ | refine draw_intro 16 [.fl 0, .fl 1, .fl 2, .fl 3, .fl 4, .fl 5, .fl 6, .fl 7, .fl 8] (by rfl) (by kernel_rfl) ?_ | refine And.intro ?_ ?_)
    all_goals try first | rfl | (exfalso; omega)
    refine loop_intro {i : Nat // i ≤ l.length ∧ (l.drop i = m.drop i ↔ l = m)} [4, 5, 13, 14, 15, 16, 17, 18, 19, 20, 21, 22, 23, 24, 25] (fun zb => [(13, .v (.s (.int .i64 zb.1)))]) (fun _ => S) (fun zb => l.length - zb.1) ⟨0, Nat.zero_le _, by simp⟩ ?_ rfl ?_
    · (conv => whnf); repeat' (first | exact trivial | exact rfl | apply And.intro)
    rintro ⟨i, hi, hinv⟩; dsimp only
    repeat' ((conv => whnf) <;> first
     | rw [wrapI_i64 (by omega)] | refine cD (fun _ => ?_) fun _ => ?_ | refine cE (fun _ => ?_) fun _ => ?_ | refine cT ?_ | refine cF ?_ | refine cN (fun _ => ?_) fun _ => ?_ | refine cI (fun _ => ?_) fun _ => ?_ | refine rE fun hml => ?_ | refine rI aN rf ix ?_ | refine rd_loadf aN tv ix ?_ | refine nP ?_ | refine draw_intro 16 [.fl 0, .fl 1, .fl 2, .fl 3, .fl 4, .fl 5, .fl 6, .fl 7, .fl 8] (by rfl) (by kernel_rfl) ?_ | refine And.intro ?_ ?_)
    all_goals first
      | rfl
      | (exfalso; omega)
      | (have he := eql_end (by omega) (by omega) hinv; rw [decide_eq_true he] <;> rfl)
      | (have hlt : i < l.length := by omega
         have hs := (eql_step hlt (by omega) hinv).2
         have hb : ¬ (l[((i : Nat) : Int).toNat]'hlt = m[((i : Nat) : Int).toNat]'(by omega)) := by first | assumption | exact of_decide_eq_false (by assumption) | exact of_decide_eq_false ((GSent.eqb _ _).symm.trans (by assumption))
         rw [decide_eq_false (hs hb)] <;> rfl)
      | (have hlt : i < l.length := by omega
         have hs := (eql_step hlt (by omega) hinv).1
         have hb : l[((i : Nat) : Int).toNat]'hlt = m[((i : Nat) : Int).toNat]'(by omega) := by first | assumption | exact of_decide_eq_true (by assumption) | exact of_decide_eq_true ((GSent.eqb _ _).symm.trans (by assumption))
         (refine ⟨⟨i + 1, by omega, hs hb⟩, ?_, rfl, by dsimp only; omega⟩; (conv => whnf); repeat' (first | exact trivial | exact rfl | apply And.intro)))
  · rw [decide_eq_false (p := l = m) (fun e => hlen (by rw [e]))]
    refine evA_intro tok Tryz.func127 (by kernel_rfl) rfl ?_
    repeat' ((conv => whnf) <;> first
     | rw [wrapI_i64 (by omega)] | refine cD (fun _ => ?_) fun _ => ?_ | refine cE (fun _ => ?_) fun _ => ?_ | refine cT ?_ | refine cF ?_ | refine cN (fun _ => ?_) fun _ => ?_ | refine cI (fun _ => ?_) fun _ => ?_ | refine rE fun hml => ?_ | refine rI aN rf ix ?_ | refine rd_loadf aN tv ix ?_ | refine nP ?_ | refine draw_intro 16 [.fl 0, .fl 1, .fl 2, .fl 3, .fl 4, .fl 5, .fl 6, .fl 7, .fl 8] (by rfl) (by kernel_rfl) ?_ | refine And.intro ?_ ?_)
    all_goals first | rfl | (exfalso; omega)
theorem ev_EqSite (l m : List GSite) (c c' : C) (S : Store) (h : Rd S [.sl 2 (l.map GSite.d)] [c]) (h' : Rd S [.sl 2 (m.map GSite.d)] [c']) : EvA Tryz.prog 134 [.s c, .s c'] S (fun r S' => r = .v (.s (.bool (decide (l = m)))) ∧ S' = S) := by
  by_cases hlen : l.length = m.length
  · refine evA_intro tok Tryz.func134 (by kernel_rfl) rfl ?_
    repeat' ((conv => whnf) <;> first
     | rw [wrapI_i64 (by omega)] | refine cD (fun _ => ?_) fun _ => ?_ | refine cE (fun _ => ?_) fun _ => ?_ | refine cT ?_ | refine cF ?_ | refine cN (fun _ => ?_) fun _ => ?_ | refine cI (fun _ => ?_) fun _ => ?_ | refine rE fun hml => ?_ | refine rI aN rf ix ?_ | refine rd_loadf aN tv ix ?_ | refine nP ?_ | refine draw_intro 16 [.fl 0, .fl 1, .fl 2, .fl 3, .fl 4, .fl 5, .fl 6, .fl 7, .fl 8] (by rfl) (by kernel_rfl) ?_ | refine And.intro ?_ ?_)
    all_goals try first | rfl | (exfalso; omega)
    refine loop_intro {i : Nat // i ≤ l.length ∧ (l.drop i = m.drop i ↔ l = m)} [4, 5, 13, 14, 15, 16, 17, 18, 19, 20, 21, 22, 23, 24, 25] (fun zb => [(13, .v (.s (.int .i64 zb.1)))]) (fun _ => S) (fun zb => l.length - zb.1) ⟨0, Nat.zero_le _, by simp⟩ ?_ rfl ?_
    · (conv => whnf); repeat' (first | exact trivial | exact rfl | apply And.intro)
    rintro ⟨i, hi, hinv⟩; dsimp only
    repeat' ((conv => whnf) <;> first
     | rw [wrapI_i64 (by omega)] | refine cD (fun _ => ?_) fun _ => ?_ | refine cE (fun _ => ?_) fun _ => ?_ | refine cT ?_ | refine cF ?_ | refine cN (fun _ => ?_) fun _ => ?_ | refine cI (fun _ => ?_) fun _ => ?_ | refine rE fun hml => ?_ | refine rI aN rf ix ?_ | refine rd_loadf aN tv ix ?_ | refine nP ?_ | refine draw_intro 16 [.fl 0, .fl 1, .fl 2, .fl 3, .fl 4, .fl 5, .fl 6, .fl 7, .fl 8] (by rfl) (by kernel_rfl) ?_ | refine And.intro ?_ ?_)
    all_goals first
      | rfl
      | (exfalso; omega)
      | (have he := eql_end (by omega) (by omega) hinv; rw [decide_eq_true he] <;> rfl)
      | (have hlt : i < l.length := by omega
         have hs := (eql_step hlt (by omega) hinv).2
         have hb : ¬ (l[((i : Nat) : Int).toNat]'hlt = m[((i : Nat) : Int).toNat]'(by omega)) := by first | assumption | exact of_decide_eq_false (by assumption) | exact of_decide_eq_false ((GSite.eqb _ _).symm.trans (by assumption))
         rw [decide_eq_false (hs hb)] <;> rfl)
      | (have hlt : i < l.length := by omega
         have hs := (eql_step hlt (by omega) hinv).1
         have hb : l[((i : Nat) : Int).toNat]'hlt = m[((i : Nat) : Int).toNat]'(by omega) := by first | assumption | exact of_decide_eq_true (by assumption) | exact of_decide_eq_true ((GSite.eqb _ _).symm.trans (by assumption))
         (refine ⟨⟨i + 1, by omega, hs hb⟩, ?_, rfl, by dsimp only; omega⟩; (conv => whnf); repeat' (first | exact trivial | exact rfl | apply And.intro)))
  · rw [decide_eq_false (p := l = m) (fun e => hlen (by rw [e]))]
    refine evA_intro tok Tryz.func134 (by kernel_rfl) rfl ?_
    repeat' ((conv => whnf) <;> first
     | rw [wrapI_i64 (by omega)] | refine cD (fun _ => ?_) fun _ => ?_ | refine cE (fun _ => ?_) fun _ => ?_ | refine cT ?_ | refine cF ?_ | refine cN (fun _ => ?_) fun _ => ?_ | refine cI (fun _ => ?_) fun _ => ?_ | refine rE fun hml => ?_ | refine rI aN rf ix ?_ | refine rd_loadf aN tv ix ?_ | refine nP ?_ | refine draw_intro 16 [.fl 0, .fl 1, .fl 2, .fl 3, .fl 4, .fl 5, .fl 6, .fl 7, .fl 8] (by rfl) (by kernel_rfl) ?_ | refine And.intro ?_ ?_)
    all_goals first | rfl | (exfalso; omega)
theorem ev_EqualSent (l m : List GSent) (c c' : C) (S : Store) (h : Rd S [.sl 3 (l.map GSent.d)] [c]) (h' : Rd S [.sl 3 (m.map GSent.d)] [c']) : EvA Tryz.prog 27 [.s c, .s c'] S (fun r S' => r = .v (.s (.bool (decide (l = m)))) ∧ S' = S) := by
  refine evA_intro tok Tryz.func27 (by kernel_rfl) rfl ?_
  repeat' ((conv => whnf) <;> first
   | refine callP_eq (ev_EqSent _ _ _ _ _ aN aN) ?_ | refine nP ?_ | refine And.intro ?_ ?_)
  all_goals rfl
theorem GOutcome.ext_iff' (x y : GOutcome) : x = y ↔ x.Code = y.Code ∧ (x.Site.Owner = y.Site.Owner ∧ x.Site.Sub = y.Site.Sub) ∧ x.Path = y.Path := by
  obtain ⟨a, ⟨b, c⟩, d⟩ := x; obtain ⟨a', ⟨b', c'⟩, d'⟩ := y
  simp only [GOutcome.mk.injEq, GSite.mk.injEq]
theorem GOutcome.dec (x y : GOutcome) : decide (x = y) = decide (x.Code = y.Code ∧ (x.Site.Owner = y.Site.Owner ∧ x.Site.Sub = y.Site.Sub) ∧ x.Path = y.Path) := decide_eq_decide.2 (GOutcome.ext_iff' x y)
theorem ev_EqualOutcomes (x y : GOutcome) (cs cs' : List C) (S : Store) (h : Rd S x.d cs) (h' : Rd S y.d cs') : EvA Tryz.prog 31 [.agg cs, .agg cs'] S (fun r S' => r = .v (.s (.bool (decide (x = y)))) ∧ S' = S) := by
  obtain ⟨_, rfl, _⟩ := GOutcome.inv h
  obtain ⟨_, rfl, _⟩ := GOutcome.inv h'
  rw [GOutcome.dec]
  refine evA_intro tok Tryz.func31 (by kernel_rfl) rfl ?_
  repeat' ((conv => whnf) <;> first
   | refine cD (fun _ => ?_) fun _ => ?_ | refine cE (fun _ => ?_) fun _ => ?_ | refine cT ?_ | refine cF ?_ | refine cN (fun _ => ?_) fun _ => ?_ | refine cI (fun _ => ?_) fun _ => ?_ | refine callP_eq (ev_EqSite _ _ _ _ _ aN aN) ?_ | refine nP ?_ | refine And.intro ?_ ?_)
  all_goals first | rfl | (simp_all [resAV]; done)
def chVal (l : List Int) (owner v : Int) (o : Int) : Int := if o = owner ∧ inR v 0 999 = true then v else valueOf l o
def changeValue (l : List Int) (owner v : Int) : List Int := valGo (chVal l owner v) 9
theorem valGo_at (P : Int → Int) : ∀ (n i : Nat) (h : i < (valGo P n).length), (valGo P n)[i] = P ((i : Int) + 1)
  | 0, i, h => absurd h (by simp [valGo])
  | n + 1, i, h => by
    have hl := valGo_len P n
    by_cases e : i < n
    · have : (valGo P (n + 1))[i] = (valGo P n)[i]'(by omega) := by
        simp only [valGo]; rw [List.getElem_append_left (by omega)]
      rw [this]; exact valGo_at P n i (by omega)
    · have hi : i = n := by rw [valGo_len] at h; omega
      subst hi
      simp only [valGo]
      rw [List.getElem_append_right (by omega)]; simp [hl]
theorem change_in {l : List Int} {owner v : Int} (ho : 1 ≤ owner ∧ owner ≤ 9) (hv : inR v 0 999 = true) : (valGo (valueOf l) 9).set (owner - 1).toNat v = changeValue l owner v := by
  unfold changeValue
  refine List.ext_getElem (by rw [List.length_set, valGo_len, valGo_len]) fun i h1 h2 => ?_
  have h3 : i < 9 := by rw [valGo_len] at h2; exact h2
  rw [List.getElem_set, valGo_at, valGo_at]
  unfold chVal
  by_cases e : (owner - 1).toNat = i
  · rw [if_pos e, if_pos ⟨by omega, hv⟩]
  · rw [if_neg e, if_neg (fun hh => e (by omega))]
theorem change_out {l : List Int} {owner v : Int} (h : ¬ ((1 ≤ owner ∧ owner ≤ 9) ∧ inR v 0 999 = true)) : valGo (valueOf l) 9 = changeValue l owner v := by
  unfold changeValue
  refine List.ext_getElem (by rw [valGo_len, valGo_len]) fun i h1 h2 => ?_
  have h3 : i < 9 := by rw [valGo_len] at h2; exact h2
  rw [valGo_at, valGo_at]
  unfold chVal
  rw [if_neg (fun hh => h ⟨by omega, hh.2⟩)]
theorem ev_ChangeValue (l : List Int) (owner v : Int) (c : C) (S : Store) (h' : Rd S [.sl 1 (l.map dInt)] [c]) : EvA Tryz.prog 26 [.s c, .s (.int .i64 owner), .s (.int .i64 v)] S (fun r S' => Ext S S' ∧ ∃ c', r = .v (.s c') ∧ Fr S.length S' [.sl 1 ((changeValue l owner v).map dInt)] [c']) := by
  have hF0 : Fr S.length (S ++ [⟨true, 1, List.replicate 9 [.int .i64 0]⟩]) [.sl 1 ((valGo (valueOf l) 0 ++ List.replicate (9 - 0) 0).map dInt)] [.sl S.length 0 9 9] := fr_make (n := 9) (z := dInt 0) (zc := [.int .i64 0]) (repL_x repL_0) (by rw [maxLen_eq]; omega)
  have hl0 : (valGo (valueOf l) 0 ++ List.replicate (9 - 0) 0).length = 9 := rfl
  refine evA_intro tok Tryz.func26 (by kernel_rfl) rfl ?_
  repeat' ((conv => whnf) <;> first
   | rw [wrapI_i64 (by omega)] | refine cD (fun _ => ?_) fun _ => ?_ | refine cE (fun _ => ?_) fun _ => ?_ | refine cT ?_ | refine cF ?_ | refine condP_inR (fun _ _ => ?_) (fun _ _ => ?_) | refine condP_ninR (fun _ _ => ?_) (fun _ _ => ?_) | refine cN (fun _ => ?_) fun _ => ?_ | refine cI (fun _ => ?_) fun _ => ?_ | refine callP_eq (ev_InRange _ _ _ _) ?_ | refine callP_eq (ev_iValueOf _ _ _ _ rdA) ?_ | refine rE fun hml => ?_ | refine rI rdA rf ix ?_ | refine rd_loadf rdA tv ix ?_ | refine to_idx (by first | assumption | exact Fr.ext aN aN) om rf (by rfl) ?_ | refine needP_intro (by dsimp only [T3]; first | omega | (constructor <;> omega) | fail) ?_ | (refine to_store aN om aN (by first | assumption | exact Ext.refl _) (by first | assumption | exact fr_flat (by exact trivial)) (by rfl) (by rfl) ?_; intro Sm hEm hFm) | refine nP ?_ | refine And.intro ?_ ?_)
  refine loop_intro {p : Nat × Store // p.1 ≤ 9 ∧ Ext S p.2 ∧ Fr S.length p.2 [.sl 1 ((valGo (valueOf l) p.1 ++ List.replicate (9 - p.1) 0).map dInt)] [.sl S.length 0 9 9]} [8, 12, 13, 14, 15, 16, 17, 18, 19, 20, 21, 22] (fun zb => [(12, .v (.s (.int .i64 zb.1.1)))]) (fun zb => zb.1.2) (fun zb => 9 - zb.1.1) ⟨(0, _), Nat.zero_le _, Ext.push _ _, hF0⟩ ?_ rfl ?_
  · (conv => whnf); repeat' (first | exact trivial | exact rfl | apply And.intro)
  rintro ⟨⟨i, Si⟩, hi, hE, hF⟩; dsimp only
  replace hi : i ≤ 9 := hi
  replace hE : Ext S Si := hE
  replace hF : Fr S.length Si [.sl 1 ((valGo (valueOf l) i ++ List.replicate (9 - i) 0).map dInt)] [.sl S.length 0 9 9] := hF
  have hlen : (valGo (valueOf l) i ++ List.replicate (9 - i) 0).length = 9 := by rw [List.length_append, valGo_len, List.length_replicate]; omega
  repeat' ((conv => whnf) <;> first
   | rw [wrapI_i64 (by omega)] | refine cD (fun _ => ?_) fun _ => ?_ | refine cE (fun _ => ?_) fun _ => ?_ | refine cT ?_ | refine cF ?_ | refine condP_inR (fun _ _ => ?_) (fun _ _ => ?_) | refine condP_ninR (fun _ _ => ?_) (fun _ _ => ?_) | refine cN (fun _ => ?_) fun _ => ?_ | refine cI (fun _ => ?_) fun _ => ?_ | refine callP_eq (ev_InRange _ _ _ _) ?_ | refine callP_eq (ev_iValueOf _ _ _ _ rdA) ?_ | refine rE fun hml => ?_ | refine rI rdA rf ix ?_ | refine rd_loadf rdA tv ix ?_ | refine to_idx (by first | assumption | exact Fr.ext aN aN) om rf (by rfl) ?_ | refine needP_intro (by dsimp only [T3]; first | omega | (constructor <;> omega) | fail) ?_ | (refine to_store aN om aN (by first | assumption | exact Ext.refl _) (by first | assumption | exact fr_flat (by exact trivial)) (by rfl) (by rfl) ?_; intro Sm hEm hFm) | refine nP ?_ | (refine rI (f := dInt) hF.rd rf ix ?_) | (refine st_flat (f := dInt) hF hE ix tv rf (by rfl) ?_; intro Sm hEm hFm) | refine And.intro ?_ ?_)
  all_goals first
    | exact hE
    | exact hEm
    | (exfalso; omega)
    | (rw [show i = 9 from by omega, show valGo (valueOf l) 9 ++ List.replicate (9 - 9) 0 = valGo (valueOf l) 9 from List.append_nil _] at hF
       rw [change_out (owner := owner) (v := v) (by rintro ⟨h1, h2⟩; have h3 := inR_t h2; first | omega | (simp_all [inR]; done))] at hF; exact ⟨_, rfl, hF⟩)
    | (rw [Int.toNat_natCast, valGo_set (valueOf l) i 9 (by omega) _ rfl] at hFm
       refine ⟨⟨(i + 1, _), by dsimp only; omega, hEm, hFm⟩, ?_, rfl, by dsimp only; omega⟩; (conv => whnf); repeat' (first | exact trivial | exact rfl | apply And.intro))
    | (subst_vars; rw [show i = 9 from by omega, show valGo (valueOf l) 9 ++ List.replicate (9 - 9) 0 = valGo (valueOf l) 9 from List.append_nil _, change_in (by omega) (by assumption)] at hFm; exact ⟨_, rfl, hFm⟩)
end Go.Proofs.YtockphlpokoohaaGreat
