/- Grants within grants; what is granted, traces, powers. -/
import Derived.Test.YtlodldendggbhaaGreatFnH
namespace Go.Proofs.YtlodldendggbhaaGreat
open Go Go.ChangeShapes Go.WideShapes Go.ChangeAt Go.RowKit
set_option linter.unusedVariables false
set_option maxRecDepth 100000

def within1 (x : GGrant) (y : GGrant) : Bool := isGrant x && isGrant y && decide (x.Ext = y.Ext) && decide (x.Kind = y.Kind) && narrower x.Pattern y.Pattern && decide (y.From ≤ x.From) && decide (x.Until ≤ y.Until) && (x.Click || !y.Click)
def withinGrants (a b : List GGrant) : Bool := a.all fun x => b.any fun y => within1 x y
def powGo (P : Int → Bool) : Nat → List Int
  | 0 => []
  | n + 1 => powGo P n ++ (if P ((n : Int) + 1) then [(n : Int) + 1] else [])
theorem powGo_len (P : Int → Bool) : ∀ n, (powGo P n).length ≤ n
  | 0 => Nat.le_refl _
  | n + 1 => by
    have := powGo_len P n
    rw [powGo, List.length_append]
    split <;> simp <;> omega
theorem powGo_t {P : Int → Bool} {n : Nat} (h : P ((n : Int) + 1) = true) : powGo P (n + 1) = powGo P n ++ [(n : Int) + 1] := by rw [powGo, if_pos h]
theorem powGo_f {P : Int → Bool} {n : Nat} (h : P ((n : Int) + 1) = false) : powGo P (n + 1) = powGo P n := by rw [powGo, if_neg (by simp [h]), List.append_nil]
def powersOf (b : GBrowser) (ext : Int) (s : GSite) : List Int := powGo (fun k => mayDo b.Grants b.Limits ext s k b.Now false) 4
def installed (b : GBrowser) : List Int := b.Packs.map GPackage.Ext
def ruleOn (b : GBrowser) (s : GSite) (r : GRule) : Bool := !isDenied b.Limits r.Ext s 3
def rulesInForce (b : GBrowser) (s : GSite) : List GRule := b.Rules.filter (ruleOn b s)
theorem ev_sRulesInForce (b : GBrowser) (s : GSite) (cs : List C) (S : Store) (h : Rd S b.d cs) (hz : szL b.d ≤ 1048576) : EvA Tryz.prog 21 [.agg cs, .agg s.c] S (fun r S' => Ext S S' ∧ ∃ c', r = .v (.s c') ∧ Fr S.length S' [.sl 8 ((rulesInForce b s).map GRule.d)] [c']) := by
  have hzs := hz
  simp only [GBrowser.d, szL, List.length_map] at hzs
  obtain ⟨_, _, _, _, _, _, rfl, _, _, _, _, _, _⟩ := GBrowser.inv h
  refine evA_intro tok Tryz.func21 (by kernel_rfl) rfl ?_
  repeat' ((conv => whnf) <;> first
      | rw [wrapI_i64 (by omega)]
      | refine condP_dec (fun _ => ?_) (fun _ => ?_)
      | refine condP_ndec (fun _ => ?_) (fun _ => ?_)
      | refine condP_true rfl ?_
      | refine condP_false rfl ?_
      | refine condP_not (fun _ => ?_) (fun _ => ?_)
      | refine condP_intro (fun _ => ?_) (fun _ => ?_)
      | refine callP_eq (ev_sIsDenied _ _ _ _ _ _ (by (first | assumption | exact Fr.rd (by assumption) | exact Rd.ext (by first | assumption | exact Fr.rd (by assumption)) (by (first | assumption | exact Ext.push _ _ | exact Ext.trans (by assumption) (by first | assumption | exact Ext.push _ _) | exact Ext.trans (by assumption) (Ext.trans (by assumption) (by assumption)) | exact Ext.trans (by assumption) (Ext.trans (by assumption) (Ext.trans (by assumption) (by assumption)))))))) ?_
      | refine callP_eq (ev_sIsDenied _ _ ⟨_, _⟩ _ _ _ (by (first | assumption | exact Fr.rd (by assumption) | exact Rd.ext (by first | assumption | exact Fr.rd (by assumption)) (by (first | assumption | exact Ext.push _ _ | exact Ext.trans (by assumption) (by first | assumption | exact Ext.push _ _) | exact Ext.trans (by assumption) (Ext.trans (by assumption) (by assumption)) | exact Ext.trans (by assumption) (Ext.trans (by assumption) (Ext.trans (by assumption) (by assumption)))))))) ?_
      | (refine rd_lenm (by (first | assumption | exact Fr.rd (by assumption) | exact Rd.ext (by first | assumption | exact Fr.rd (by assumption)) (by (first | assumption | exact Ext.push _ _ | exact Ext.trans (by assumption) (by first | assumption | exact Ext.push _ _) | exact Ext.trans (by assumption) (Ext.trans (by assumption) (by assumption)) | exact Ext.trans (by assumption) (Ext.trans (by assumption) (Ext.trans (by assumption) (by assumption))))))) ?_; intro hml; rw [maxLen_eq] at hml)
      | refine rd_idxm (by (first | assumption | exact Fr.rd (by assumption) | exact Rd.ext (by first | assumption | exact Fr.rd (by assumption)) (by (first | assumption | exact Ext.push _ _ | exact Ext.trans (by assumption) (by first | assumption | exact Ext.push _ _) | exact Ext.trans (by assumption) (Ext.trans (by assumption) (by assumption)) | exact Ext.trans (by assumption) (Ext.trans (by assumption) (Ext.trans (by assumption) (by assumption))))))) (by intro _; rfl) (by constructor <;> omega) ?_
      | refine rd_loadf (by (first | assumption | exact Fr.rd (by assumption) | exact Rd.ext (by first | assumption | exact Fr.rd (by assumption)) (by (first | assumption | exact Ext.push _ _ | exact Ext.trans (by assumption) (by first | assumption | exact Ext.push _ _) | exact Ext.trans (by assumption) (Ext.trans (by assumption) (by assumption)) | exact Ext.trans (by assumption) (Ext.trans (by assumption) (Ext.trans (by assumption) (by assumption))))))) (by intro _; exact trivial) (by constructor <;> omega) ?_
      | refine needP_intro (by first | omega | (constructor <;> omega)) ?_
      | refine draw_intro 15 [.fl 0, .fl 1, .fl 2, .fl 3, .fl 4, .fl 5, .fl 6, .fl 7, .fl 8, .st 9 [], .fl 10] (by rfl) (by kernel_rfl) ?_
      | refine And.intro ?_ ?_)
  refine loop_intro {p : Nat × Store × C // p.1 ≤ b.Rules.length ∧ Ext S p.2.1 ∧ Fr S.length p.2.1 [.sl 8 (((b.Rules.take p.1).filter (ruleOn b s)).map GRule.d)] [p.2.2]} [5, 6, 8, 9, 10, 11, 12, 13, 14, 15, 16, 17, 18, 19, 20, 21, 22, 23, 24, 25, 26, 27, 28, 29, 30, 31, 32, 33] (fun zb => [(6, .v (.s (.int .i64 (zb.1.1)))), (5, .v (.s zb.1.2.2))]) (fun zb => zb.1.2.1) (fun zb => b.Rules.length - zb.1.1) ⟨(0, _, _), Nat.zero_le _, Ext.push _ _, fr_lit0⟩ ?_ rfl ?_
  · (conv => whnf); repeat' (first | exact trivial | exact rfl | apply And.intro)
  rintro ⟨⟨i, Si, ci⟩, hi, hE, hF⟩; dsimp only
  replace hi : i ≤ b.Rules.length := hi
  replace hE : Ext S Si := hE
  replace hF : Fr S.length Si [.sl 8 (((b.Rules.take i).filter (ruleOn b s)).map GRule.d)] [ci] := hF
  have hfl := filter_len (ruleOn b s) b.Rules i
  repeat' ((conv => whnf) <;> first
      | rw [wrapI_i64 (by omega)]
      | refine condP_dec (fun _ => ?_) (fun _ => ?_)
      | refine condP_ndec (fun _ => ?_) (fun _ => ?_)
      | refine condP_true rfl ?_
      | refine condP_false rfl ?_
      | refine condP_not (fun _ => ?_) (fun _ => ?_)
      | refine condP_intro (fun _ => ?_) (fun _ => ?_)
      | refine callP_eq (ev_sIsDenied _ _ _ _ _ _ (by (first | assumption | exact Fr.rd (by assumption) | exact Rd.ext (by first | assumption | exact Fr.rd (by assumption)) (by (first | assumption | exact Ext.push _ _ | exact Ext.trans (by assumption) (by first | assumption | exact Ext.push _ _) | exact Ext.trans (by assumption) (Ext.trans (by assumption) (by assumption)) | exact Ext.trans (by assumption) (Ext.trans (by assumption) (Ext.trans (by assumption) (by assumption)))))))) ?_
      | refine callP_eq (ev_sIsDenied _ _ ⟨_, _⟩ _ _ _ (by (first | assumption | exact Fr.rd (by assumption) | exact Rd.ext (by first | assumption | exact Fr.rd (by assumption)) (by (first | assumption | exact Ext.push _ _ | exact Ext.trans (by assumption) (by first | assumption | exact Ext.push _ _) | exact Ext.trans (by assumption) (Ext.trans (by assumption) (by assumption)) | exact Ext.trans (by assumption) (Ext.trans (by assumption) (Ext.trans (by assumption) (by assumption)))))))) ?_
      | (refine rd_lenm (by (first | assumption | exact Fr.rd (by assumption) | exact Rd.ext (by first | assumption | exact Fr.rd (by assumption)) (by (first | assumption | exact Ext.push _ _ | exact Ext.trans (by assumption) (by first | assumption | exact Ext.push _ _) | exact Ext.trans (by assumption) (Ext.trans (by assumption) (by assumption)) | exact Ext.trans (by assumption) (Ext.trans (by assumption) (Ext.trans (by assumption) (by assumption))))))) ?_; intro hml; rw [maxLen_eq] at hml)
      | refine rd_idxm (by (first | assumption | exact Fr.rd (by assumption) | exact Rd.ext (by first | assumption | exact Fr.rd (by assumption)) (by (first | assumption | exact Ext.push _ _ | exact Ext.trans (by assumption) (by first | assumption | exact Ext.push _ _) | exact Ext.trans (by assumption) (Ext.trans (by assumption) (by assumption)) | exact Ext.trans (by assumption) (Ext.trans (by assumption) (Ext.trans (by assumption) (by assumption))))))) (by intro _; rfl) (by constructor <;> omega) ?_
      | refine rd_loadf (by (first | assumption | exact Fr.rd (by assumption) | exact Rd.ext (by first | assumption | exact Fr.rd (by assumption)) (by (first | assumption | exact Ext.push _ _ | exact Ext.trans (by assumption) (by first | assumption | exact Ext.push _ _) | exact Ext.trans (by assumption) (Ext.trans (by assumption) (by assumption)) | exact Ext.trans (by assumption) (Ext.trans (by assumption) (Ext.trans (by assumption) (by assumption))))))) (by intro _; exact trivial) (by constructor <;> omega) ?_
      | refine needP_intro (by first | omega | (constructor <;> omega)) ?_
      | refine draw_intro 15 [.fl 0, .fl 1, .fl 2, .fl 3, .fl 4, .fl 5, .fl 6, .fl 7, .fl 8, .st 9 [], .fl 10] (by rfl) (by kernel_rfl) ?_
      | (refine fr_app1 (f := GRule.d) (by assumption) (by assumption) (by intro _; exact trivial) (by rfl) (by intro _; rfl) (by dsimp only [T102]; omega) (by omega) ?_; intro cN SN hEN hFN)
      | refine And.intro ?_ ?_)
  all_goals first
    | exact hE
    | (rw [List.take_of_length_le (by omega)] at hF; exact ⟨_, rfl, hF⟩)
    | (refine ⟨⟨(i + 1, _, _), by dsimp only; omega, by assumption, by first | (rw [filter_t (by omega) (by simp_all [ruleOn])]; assumption) | (rw [filter_f (by omega) (by simp_all [ruleOn])]; assumption)⟩, ?_, rfl, by dsimp only; omega⟩; (conv => whnf); repeat' (first | exact trivial | exact rfl | (show _ = _; congr 3; dsimp only; omega) | apply And.intro))
theorem ev_iRulesInForce (b : GBrowser) (s : GSite) (cs : List C) (S : Store) (h : Rd S b.d cs) (hz : szL b.d ≤ 1048576) : EvA Tryz.prog 30 [.agg cs, .agg s.c] S (fun r S' => Ext S S' ∧ ∃ c', r = .v (.s c') ∧ Fr S.length S' [.sl 8 ((rulesInForce b s).map GRule.d)] [c']) := by
  have hzs := hz
  simp only [GBrowser.d, szL, List.length_map] at hzs
  obtain ⟨_, _, _, _, _, _, rfl, _, _, _, _, _, _⟩ := GBrowser.inv h
  refine evA_intro tok Tryz.func30 (by kernel_rfl) rfl ?_
  repeat' ((conv => whnf) <;> first
      | rw [wrapI_i64 (by omega)]
      | refine condP_dec (fun _ => ?_) (fun _ => ?_)
      | refine condP_ndec (fun _ => ?_) (fun _ => ?_)
      | refine condP_true rfl ?_
      | refine condP_false rfl ?_
      | refine condP_not (fun _ => ?_) (fun _ => ?_)
      | refine condP_intro (fun _ => ?_) (fun _ => ?_)
      | refine callP_eq (ev_iIsDenied _ _ _ _ _ _ (by (first | assumption | exact Fr.rd (by assumption) | exact Rd.ext (by first | assumption | exact Fr.rd (by assumption)) (by (first | assumption | exact Ext.push _ _ | exact Ext.trans (by assumption) (by first | assumption | exact Ext.push _ _) | exact Ext.trans (by assumption) (Ext.trans (by assumption) (by assumption)) | exact Ext.trans (by assumption) (Ext.trans (by assumption) (Ext.trans (by assumption) (by assumption)))))))) ?_
      | refine callP_eq (ev_iIsDenied _ _ ⟨_, _⟩ _ _ _ (by (first | assumption | exact Fr.rd (by assumption) | exact Rd.ext (by first | assumption | exact Fr.rd (by assumption)) (by (first | assumption | exact Ext.push _ _ | exact Ext.trans (by assumption) (by first | assumption | exact Ext.push _ _) | exact Ext.trans (by assumption) (Ext.trans (by assumption) (by assumption)) | exact Ext.trans (by assumption) (Ext.trans (by assumption) (Ext.trans (by assumption) (by assumption)))))))) ?_
      | (refine rd_lenm (by (first | assumption | exact Fr.rd (by assumption) | exact Rd.ext (by first | assumption | exact Fr.rd (by assumption)) (by (first | assumption | exact Ext.push _ _ | exact Ext.trans (by assumption) (by first | assumption | exact Ext.push _ _) | exact Ext.trans (by assumption) (Ext.trans (by assumption) (by assumption)) | exact Ext.trans (by assumption) (Ext.trans (by assumption) (Ext.trans (by assumption) (by assumption))))))) ?_; intro hml; rw [maxLen_eq] at hml)
      | refine rd_idxm (by (first | assumption | exact Fr.rd (by assumption) | exact Rd.ext (by first | assumption | exact Fr.rd (by assumption)) (by (first | assumption | exact Ext.push _ _ | exact Ext.trans (by assumption) (by first | assumption | exact Ext.push _ _) | exact Ext.trans (by assumption) (Ext.trans (by assumption) (by assumption)) | exact Ext.trans (by assumption) (Ext.trans (by assumption) (Ext.trans (by assumption) (by assumption))))))) (by intro _; rfl) (by constructor <;> omega) ?_
      | refine rd_loadf (by (first | assumption | exact Fr.rd (by assumption) | exact Rd.ext (by first | assumption | exact Fr.rd (by assumption)) (by (first | assumption | exact Ext.push _ _ | exact Ext.trans (by assumption) (by first | assumption | exact Ext.push _ _) | exact Ext.trans (by assumption) (Ext.trans (by assumption) (by assumption)) | exact Ext.trans (by assumption) (Ext.trans (by assumption) (Ext.trans (by assumption) (by assumption))))))) (by intro _; exact trivial) (by constructor <;> omega) ?_
      | refine needP_intro (by first | omega | (constructor <;> omega)) ?_
      | refine And.intro ?_ ?_)
  refine loop_intro {p : Nat × Store × C // p.1 ≤ b.Rules.length ∧ Ext S p.2.1 ∧ Fr S.length p.2.1 [.sl 8 (((b.Rules.take p.1).filter (ruleOn b s)).map GRule.d)] [p.2.2]} [5, 7, 12, 13, 14, 15, 16, 17, 18, 19, 20, 21, 22, 23, 24, 25, 26, 27] (fun zb => [(12, .v (.s (.int .i64 (zb.1.1)))), (5, .v (.s zb.1.2.2))]) (fun zb => zb.1.2.1) (fun zb => b.Rules.length - zb.1.1) ⟨(0, _, _), Nat.zero_le _, Ext.push _ _, fr_lit0⟩ ?_ rfl ?_
  · (conv => whnf); repeat' (first | exact trivial | exact rfl | apply And.intro)
  rintro ⟨⟨i, Si, ci⟩, hi, hE, hF⟩; dsimp only
  replace hi : i ≤ b.Rules.length := hi
  replace hE : Ext S Si := hE
  replace hF : Fr S.length Si [.sl 8 (((b.Rules.take i).filter (ruleOn b s)).map GRule.d)] [ci] := hF
  have hfl := filter_len (ruleOn b s) b.Rules i
  repeat' ((conv => whnf) <;> first
      | rw [wrapI_i64 (by omega)]
      | refine condP_dec (fun _ => ?_) (fun _ => ?_)
      | refine condP_ndec (fun _ => ?_) (fun _ => ?_)
      | refine condP_true rfl ?_
      | refine condP_false rfl ?_
      | refine condP_not (fun _ => ?_) (fun _ => ?_)
      | refine condP_intro (fun _ => ?_) (fun _ => ?_)
      | refine callP_eq (ev_iIsDenied _ _ _ _ _ _ (by (first | assumption | exact Fr.rd (by assumption) | exact Rd.ext (by first | assumption | exact Fr.rd (by assumption)) (by (first | assumption | exact Ext.push _ _ | exact Ext.trans (by assumption) (by first | assumption | exact Ext.push _ _) | exact Ext.trans (by assumption) (Ext.trans (by assumption) (by assumption)) | exact Ext.trans (by assumption) (Ext.trans (by assumption) (Ext.trans (by assumption) (by assumption)))))))) ?_
      | refine callP_eq (ev_iIsDenied _ _ ⟨_, _⟩ _ _ _ (by (first | assumption | exact Fr.rd (by assumption) | exact Rd.ext (by first | assumption | exact Fr.rd (by assumption)) (by (first | assumption | exact Ext.push _ _ | exact Ext.trans (by assumption) (by first | assumption | exact Ext.push _ _) | exact Ext.trans (by assumption) (Ext.trans (by assumption) (by assumption)) | exact Ext.trans (by assumption) (Ext.trans (by assumption) (Ext.trans (by assumption) (by assumption)))))))) ?_
      | (refine rd_lenm (by (first | assumption | exact Fr.rd (by assumption) | exact Rd.ext (by first | assumption | exact Fr.rd (by assumption)) (by (first | assumption | exact Ext.push _ _ | exact Ext.trans (by assumption) (by first | assumption | exact Ext.push _ _) | exact Ext.trans (by assumption) (Ext.trans (by assumption) (by assumption)) | exact Ext.trans (by assumption) (Ext.trans (by assumption) (Ext.trans (by assumption) (by assumption))))))) ?_; intro hml; rw [maxLen_eq] at hml)
      | refine rd_idxm (by (first | assumption | exact Fr.rd (by assumption) | exact Rd.ext (by first | assumption | exact Fr.rd (by assumption)) (by (first | assumption | exact Ext.push _ _ | exact Ext.trans (by assumption) (by first | assumption | exact Ext.push _ _) | exact Ext.trans (by assumption) (Ext.trans (by assumption) (by assumption)) | exact Ext.trans (by assumption) (Ext.trans (by assumption) (Ext.trans (by assumption) (by assumption))))))) (by intro _; rfl) (by constructor <;> omega) ?_
      | refine rd_loadf (by (first | assumption | exact Fr.rd (by assumption) | exact Rd.ext (by first | assumption | exact Fr.rd (by assumption)) (by (first | assumption | exact Ext.push _ _ | exact Ext.trans (by assumption) (by first | assumption | exact Ext.push _ _) | exact Ext.trans (by assumption) (Ext.trans (by assumption) (by assumption)) | exact Ext.trans (by assumption) (Ext.trans (by assumption) (Ext.trans (by assumption) (by assumption))))))) (by intro _; exact trivial) (by constructor <;> omega) ?_
      | refine needP_intro (by first | omega | (constructor <;> omega)) ?_
      | (refine fr_app1 (f := GRule.d) (by assumption) (by assumption) (by intro _; exact trivial) (by rfl) (by intro _; rfl) (by dsimp only [T102]; omega) (by omega) ?_; intro cN SN hEN hFN)
      | refine And.intro ?_ ?_)
  all_goals first
    | exact hE
    | (rw [List.take_of_length_le (by omega)] at hF; exact ⟨_, rfl, hF⟩)
    | (refine ⟨⟨(i + 1, _, _), by dsimp only; omega, by assumption, by first | (rw [filter_t (by omega) (by simp_all [ruleOn])]; assumption) | (rw [filter_f (by omega) (by simp_all [ruleOn])]; assumption)⟩, ?_, rfl, by dsimp only; omega⟩; (conv => whnf); repeat' (first | exact trivial | exact rfl | (show _ = _; congr 3; dsimp only; omega) | apply And.intro))
end Go.Proofs.YtlodldendggbhaaGreat
