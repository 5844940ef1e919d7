/- Grants within grants; what is granted, traces, powers. -/
import Derived.Test.YtffmmejjcgpmbaaGreatFnH
namespace Go.Proofs.YtffmmejjcgpmbaaGreat
open Go Go.ChangeShapes Go.WideShapes Go.ChangeAt Go.RowKit
set_option linter.unusedVariables false
set_option maxRecDepth 100000

def within1 (x : GGrant) (y : GGrant) : Bool := isGrant x && isGrant y && decide (x.Ext = y.Ext) && decide (x.Kind = y.Kind) && narrower x.Pattern y.Pattern && decide (y.From ≤ x.From) && decide (x.Until ≤ y.Until) && (x.Click || !y.Click)
theorem ev_l11Within (x : GGrant) (y : GGrant) (S : Store) : EvA Tryz.prog 217 [.agg x.c, .agg y.c] S (fun r S' => r = .v (.s (.bool (within1 x y))) ∧ S' = S) := by
  refine evA_intro tok Tryz.func217 (by kernel_rfl) rfl ?_
  repeat' ((conv => whnf) <;> first
   | refine cD (fun _ => ?_) fun _ => ?_ | refine cE (fun _ => ?_) fun _ => ?_ | refine cT ?_ | refine cF ?_ | refine cN (fun _ => ?_) fun _ => ?_ | refine cI (fun _ => ?_) fun _ => ?_ | refine callP_eq (ev_sIsGrant _ _) ?_ | refine callP_eq (ev_sIsNarrower _ _ _) ?_ | refine callP_eq (ev_sIsNarrower ⟨_, _⟩ ⟨_, _⟩ _) ?_ | refine nP ?_ | refine And.intro ?_ ?_)
  all_goals first | rfl | (simp_all [resAV, within1]; done) | (simp_all [resAV, within1]; intros; omega)
def withinGrants (a b : List GGrant) : Bool := a.all fun x => b.any fun y => within1 x y
theorem ev_sIsWithin (a b : List GGrant) (c c' : C) (S : Store) (h : Rd S [.sl 7 (a.map GGrant.d)] [c]) (h' : Rd S [.sl 7 (b.map GGrant.d)] [c']) : EvA Tryz.prog 158 [.s c, .s c'] S (fun r S' => r = .v (.s (.bool (withinGrants a b))) ∧ S' = S) := by
  refine evA_intro tok Tryz.func158 (by kernel_rfl) rfl ?_
  repeat' ((conv => whnf) <;> first
   | rw [wrapI_i64 (by omega)] | refine cD (fun _ => ?_) fun _ => ?_ | refine cE (fun _ => ?_) fun _ => ?_ | refine cT ?_ | refine cF ?_ | refine cN (fun _ => ?_) fun _ => ?_ | refine cI (fun _ => ?_) fun _ => ?_ | refine callP_eq (ev_l11Within _ _ _) ?_ | refine rE fun hml => ?_ | refine rI aN rf ix ?_ | refine rd_loadf aN tv ix ?_ | refine nP ?_ | refine draw_intro 20 [.fl 0, .fl 1, .fl 2, .fl 3, .fl 4, .fl 5, .fl 6, .fl 7, .fl 8, .fl 9, .st 10 [], .fl 11, .st 12 []] (by rfl) (by kernel_rfl) ?_ | refine And.intro ?_ ?_)
  refine loop_intro {i : Nat // i ≤ a.length ∧ withinGrants (a.drop i) b = withinGrants a b} [4, 5, 6, 7, 8, 9, 10, 11, 12, 13, 14, 15, 16, 17, 18, 19, 20, 21, 22, 23, 24, 25, 26, 27, 28, 29, 30, 31, 32, 33] (fun zb => [(5, .v (.s (.int .i64 zb.1)))]) (fun _ => S) (fun zb => a.length - zb.1) ⟨0, Nat.zero_le _, rfl⟩ ?_ rfl ?_
  · (conv => whnf); repeat' (first | exact trivial | exact rfl | apply And.intro)
  rintro ⟨i, hi, hinv⟩; dsimp only
  repeat' ((conv => whnf) <;> first
   | rw [wrapI_i64 (by omega)] | refine cD (fun _ => ?_) fun _ => ?_ | refine cE (fun _ => ?_) fun _ => ?_ | refine cT ?_ | refine cF ?_ | refine cN (fun _ => ?_) fun _ => ?_ | refine cI (fun _ => ?_) fun _ => ?_ | refine callP_eq (ev_l11Within _ _ _) ?_ | refine rE fun hml => ?_ | refine rI aN rf ix ?_ | refine rd_loadf aN tv ix ?_ | refine nP ?_ | refine draw_intro 20 [.fl 0, .fl 1, .fl 2, .fl 3, .fl 4, .fl 5, .fl 6, .fl 7, .fl 8, .fl 9, .st 10 [], .fl 11, .st 12 []] (by rfl) (by kernel_rfl) ?_ | refine And.intro ?_ ?_)
  all_goals try first
    | rfl
    | (exfalso; omega)
    | (rw [drop_end (by omega)] at hinv; rw [← hinv]; rfl)
  have hi2 : i < a.length := by omega
  rw [drop_at hi2] at hinv
  simp only [withinGrants, List.all_cons] at hinv
  refine loop_intro {p : Nat × Bool // p.1 ≤ b.length ∧ p.2 = (b.take p.1).any fun y => within1 (a[((i : Nat) : Int).toNat]'hi2) y} [6, 7, 14, 15, 16, 17, 18, 19, 20, 21, 22, 23, 24, 25, 26, 27, 28, 29, 30, 31] (fun zb => [(7, .v (.s (.int .i64 zb.1.1))), (6, .v (.s (.bool zb.1.2)))]) (fun _ => S) (fun zb => b.length - zb.1.1) ⟨(0, false), Nat.zero_le _, by simp⟩ ?_ rfl ?_
  · (conv => whnf); repeat' (first | exact trivial | exact rfl | apply And.intro)
  rintro ⟨⟨j, sj⟩, hj, hjnv⟩; dsimp only
  replace hj : j ≤ b.length := hj; dsimp only at hjnv
  repeat' ((conv => whnf) <;> first
   | rw [wrapI_i64 (by omega)] | refine cD (fun _ => ?_) fun _ => ?_ | refine cE (fun _ => ?_) fun _ => ?_ | refine cT ?_ | refine cF ?_ | refine cN (fun _ => ?_) fun _ => ?_ | refine cI (fun _ => ?_) fun _ => ?_ | refine callP_eq (ev_l11Within _ _ _) ?_ | refine rE fun hml => ?_ | refine rI aN rf ix ?_ | refine rd_loadf aN tv ix ?_ | refine nP ?_ | refine draw_intro 20 [.fl 0, .fl 1, .fl 2, .fl 3, .fl 4, .fl 5, .fl 6, .fl 7, .fl 8, .fl 9, .st 10 [], .fl 11, .st 12 []] (by rfl) (by kernel_rfl) ?_ | refine And.intro ?_ ?_)
  all_goals first
    | rfl
    | (exfalso; omega)
    | (refine ⟨⟨(j + 1, true), by dsimp only; omega, ?_⟩, ?_, rfl, by dsimp only; omega⟩
       · dsimp only; rw [any_take _ _ _ (by omega), ← hjnv]; simp_all
       · (conv => whnf); repeat' (first | exact trivial | exact rfl | apply And.intro))
    | (refine ⟨⟨(j + 1, within1 (a[((i : Nat) : Int).toNat]'hi2) (b[j]'(by omega))), by dsimp only; omega, ?_⟩, ?_, rfl, by dsimp only; omega⟩
       · dsimp only; rw [any_take _ _ _ (by omega), ← hjnv]; simp_all
       · (conv => whnf); repeat' (first | exact trivial | exact rfl | apply And.intro))
    | (rw [List.take_of_length_le (by omega)] at hjnv
       simp only [Int.toNat_natCast] at hjnv
       have hs : sj = false := by assumption
       rw [← hjnv, hs, Bool.false_and] at hinv
       unfold withinGrants
       rw [← hinv] <;> rfl)
    | (rw [List.take_of_length_le (by omega)] at hjnv
       simp only [Int.toNat_natCast] at hjnv
       have hs : sj = true := by assumption
       rw [← hjnv, hs, Bool.true_and] at hinv
       (refine ⟨⟨i + 1, by omega, hinv⟩, ?_, rfl, by simp; omega⟩; (conv => whnf); repeat' (first | exact trivial | exact rfl | apply And.intro)))
theorem ev_iIsWithin (a b : List GGrant) (c c' : C) (S : Store) (h : Rd S [.sl 7 (a.map GGrant.d)] [c]) (h' : Rd S [.sl 7 (b.map GGrant.d)] [c']) : EvA Tryz.prog 162 [.s c, .s c'] S (fun r S' => r = .v (.s (.bool (withinGrants a b))) ∧ S' = S) := by
  refine evA_intro tok Tryz.func162 (by kernel_rfl) rfl ?_
  repeat' ((conv => whnf) <;> first
   | rw [wrapI_i64 (by omega)] | refine cD (fun _ => ?_) fun _ => ?_ | refine cE (fun _ => ?_) fun _ => ?_ | refine cT ?_ | refine cF ?_ | refine cN (fun _ => ?_) fun _ => ?_ | refine cI (fun _ => ?_) fun _ => ?_ | refine callP_eq (ev_iIsGrant _ _) ?_ | refine callP_eq (ev_iIsNarrower _ _ _) ?_ | refine callP_eq (ev_iIsNarrower ⟨_, _⟩ ⟨_, _⟩ _) ?_ | refine rE fun hml => ?_ | refine rI aN rf ix ?_ | refine rd_loadf aN tv ix ?_ | refine nP ?_ | refine And.intro ?_ ?_)
  refine loop_intro {i : Nat // i ≤ a.length ∧ withinGrants (a.drop i) b = withinGrants a b} [4, 6, 7, 9, 12, 13, 14, 15, 16, 17, 18, 19, 20, 21, 22, 23, 24, 25, 26, 27, 28, 29, 30, 31, 32, 33, 34, 35, 36, 37, 38, 39, 40, 41, 42, 43, 44, 45, 46, 47, 48, 49, 50, 51, 52, 53, 54, 55, 56, 57, 58, 59, 60, 61, 62, 63, 64, 65, 66, 67, 68, 69, 70, 71, 72, 73, 74, 75] (fun zb => [(12, .v (.s (.int .i64 zb.1)))]) (fun _ => S) (fun zb => a.length - zb.1) ⟨0, Nat.zero_le _, rfl⟩ ?_ rfl ?_
  · (conv => whnf); repeat' (first | exact trivial | exact rfl | apply And.intro)
  rintro ⟨i, hi, hinv⟩; dsimp only
  repeat' ((conv => whnf) <;> first
   | rw [wrapI_i64 (by omega)] | refine cD (fun _ => ?_) fun _ => ?_ | refine cE (fun _ => ?_) fun _ => ?_ | refine cT ?_ | refine cF ?_ | refine cN (fun _ => ?_) fun _ => ?_ | refine cI (fun _ => ?_) fun _ => ?_ | refine callP_eq (ev_iIsGrant _ _) ?_ | refine callP_eq (ev_iIsNarrower _ _ _) ?_ | refine callP_eq (ev_iIsNarrower ⟨_, _⟩ ⟨_, _⟩ _) ?_ | refine rE fun hml => ?_ | refine rI aN rf ix ?_ | refine rd_loadf aN tv ix ?_ | refine nP ?_ | refine And.intro ?_ ?_)
  all_goals try first
    | rfl
    | (exfalso; omega)
    | (rw [drop_end (by omega)] at hinv; rw [← hinv]; rfl)
  have hi2 : i < a.length := by omega
  rw [drop_at hi2] at hinv
  simp only [withinGrants, List.all_cons] at hinv
  refine loop_intro {p : Nat × Bool // p.1 ≤ b.length ∧ p.2 = false ∧ ((b.drop p.1).any fun y => within1 (a[((i : Nat) : Int).toNat]'hi2) y) = b.any fun y => within1 (a[((i : Nat) : Int).toNat]'hi2) y} [7, 9, 18, 19, 20, 21, 22, 23, 24, 25, 26, 27, 28, 29, 30, 31, 32, 33, 34, 35, 36, 37, 38, 39, 40, 41, 42, 43, 44, 45, 46, 47, 48, 49, 50, 51, 52, 53, 54, 55, 56, 57, 58, 59, 60, 61, 62, 63, 64, 65, 66, 67, 68, 69, 70, 71, 72] (fun zb => [(18, .v (.s (.int .i64 zb.1.1))), (7, .v (.s (.bool zb.1.2)))]) (fun _ => S) (fun zb => b.length - zb.1.1) ⟨(0, false), Nat.zero_le _, ⟨rfl, by simp⟩⟩ ?_ rfl ?_
  · (conv => whnf); repeat' (first | exact trivial | exact rfl | apply And.intro)
  rintro ⟨⟨j, sj⟩, hj, hjnv⟩; dsimp only
  replace hj : j ≤ b.length := hj; dsimp only at hjnv
  repeat' ((conv => whnf) <;> first
   | rw [wrapI_i64 (by omega)] | refine cD (fun _ => ?_) fun _ => ?_ | refine cE (fun _ => ?_) fun _ => ?_ | refine cT ?_ | refine cF ?_ | refine cN (fun _ => ?_) fun _ => ?_ | refine cI (fun _ => ?_) fun _ => ?_ | refine callP_eq (ev_iIsGrant _ _) ?_ | refine callP_eq (ev_iIsNarrower _ _ _) ?_ | refine callP_eq (ev_iIsNarrower ⟨_, _⟩ ⟨_, _⟩ _) ?_ | refine rE fun hml => ?_ | refine rI aN rf ix ?_ | refine rd_loadf aN tv ix ?_ | refine nP ?_ | refine And.intro ?_ ?_)
  all_goals first
    | rfl
    | (exfalso; omega)
    | (obtain ⟨hs, hj2⟩ := hjnv
       rw [drop_end (by omega), List.any_nil] at hj2
       simp only [Int.toNat_natCast] at hj2
       rw [← hj2, Bool.false_and] at hinv
       unfold withinGrants
       rw [← hinv] <;> rfl)
    | (obtain ⟨hs, hj2⟩ := hjnv
       have hs2 : sj = true := by assumption
       rw [hs] at hs2; cases hs2)
    | (obtain ⟨hs, hj2⟩ := hjnv
       have hj3 : j < b.length := by omega
       rw [drop_at hj3, List.any_cons] at hj2
       have hw : within1 (a[((i : Nat) : Int).toNat]'hi2) (b[((j : Nat) : Int).toNat]'hj3) = true := by clear hj2 hinv; simp_all [within1]
       simp only [Int.toNat_natCast] at hj2 hw
       rw [hw, Bool.true_or] at hj2
       rw [← hj2, Bool.true_and] at hinv
       (refine ⟨⟨i + 1, by omega, hinv⟩, ?_, rfl, by simp; omega⟩; (conv => whnf); repeat' (first | exact trivial | exact rfl | apply And.intro)))
    | (obtain ⟨hs, hj2⟩ := hjnv
       have hj3 : j < b.length := by omega
       rw [drop_at hj3, List.any_cons] at hj2
       have hw : within1 (a[((i : Nat) : Int).toNat]'hi2) (b[((j : Nat) : Int).toNat]'hj3) = false := by clear hj2 hinv; first | (simp_all [within1]; done) | (simp_all [within1]; omega)
       simp only [Int.toNat_natCast] at hj2 hw
       rw [hw, Bool.false_or] at hj2
       refine ⟨⟨(j + 1, sj), by dsimp only; omega, hs, hj2⟩, ?_, rfl, by dsimp only; omega⟩
       (conv => whnf); repeat' (first | exact trivial | exact rfl | apply And.intro))
def powGo (P : Int → Bool) : Nat → List Int
  | 0 => []
  | n + 1 => powGo P n ++ (if P ((n : Int) + 1) then [(n : Int) + 1] else [])
theorem powGo_len (P : Int → Bool) : ∀ n, (powGo P n).length ≤ n
  | 0 => Nat.le_refl _
  | n + 1 => by
    have := powGo_len P n
    rw [powGo, List.length_append]
    split <;> simp <;> omega
theorem powGo_t {P : Int → Bool} {n : Nat} (h : P ((n : Int) + 1) = true) : powGo P (n + 1) = powGo P n ++ [(n : Int) + 1] := by rw [powGo, if_pos h]
theorem powGo_f {P : Int → Bool} {n : Nat} (h : P ((n : Int) + 1) = false) : powGo P (n + 1) = powGo P n := by rw [powGo, if_neg (by simp [h]), List.append_nil]
def powersOf (b : GBrowser) (ext : Int) (s : GSite) : List Int := powGo (fun k => mayDo b.Grants b.Limits ext s k b.Now false) 4
def installed (b : GBrowser) : List Int := b.Packs.map GPackage.Ext
def ruleOn (b : GBrowser) (s : GSite) (r : GRule) : Bool := !isDenied b.Limits r.Ext s 3
def rulesInForce (b : GBrowser) (s : GSite) : List GRule := b.Rules.filter (ruleOn b s)
end Go.Proofs.YtffmmejjcgpmbaaGreat
