/- Grants within grants; what is granted, traces, powers. -/
import Derived.Test.YtpnbkjinfphlkaaFnH
namespace Go.Proofs.Ytpnbkjinfphlkaa
open Go Go.ChangeShapes Go.WideShapes Go.ChangeAt Go.RowKit
set_option linter.unusedVariables false
set_option maxRecDepth 100000

def within1 (x : GGrant) (y : GGrant) : Bool := isGrant x && isGrant y && decide (x.Ext = y.Ext) && decide (x.Kind = y.Kind) && narrower x.Pattern y.Pattern && decide (y.From ≤ x.From) && decide (x.Until ≤ y.Until) && (x.Click || !y.Click)
theorem ev_l11Within (x : GGrant) (y : GGrant) (S : Store) : EvA Try.prog 150 [.agg x.c, .agg y.c] S (fun r S' => r = .v (.s (.bool (within1 x y))) ∧ S' = S) := by
  refine evA_intro tok Try.func150 (by kernel_rfl) rfl ?_
  repeat' ((conv => whnf); first
      | refine condP_dec (fun _ => ?_) (fun _ => ?_)
      | refine condP_ndec (fun _ => ?_) (fun _ => ?_)
      | refine condP_true rfl ?_
      | refine condP_false rfl ?_
      | refine condP_not (fun _ => ?_) (fun _ => ?_)
      | refine condP_intro (fun _ => ?_) (fun _ => ?_)
      | refine callP_eq (ev_sIsGrant _ _) ?_
      | refine callP_eq (ev_sIsNarrower _ _ _) ?_
      | refine callP_eq (ev_sIsNarrower ⟨_, _⟩ ⟨_, _⟩ _) ?_
      | refine needP_intro (by first | omega | (constructor <;> omega)) ?_
      | refine And.intro ?_ ?_)
  all_goals first | rfl | (simp_all [resAV, within1]; done) | (simp_all [resAV, within1]; intros; omega)
def withinGrants (a b : List GGrant) : Bool := a.all fun x => b.any fun y => within1 x y
theorem ev_sIsWithin (a b : List GGrant) (c c' : C) (S : Store) (h : Rd S [.sl 7 (a.map GGrant.d)] [c]) (h' : Rd S [.sl 7 (b.map GGrant.d)] [c']) : EvA Try.prog 75 [.s c, .s c'] S (fun r S' => r = .v (.s (.bool (withinGrants a b))) ∧ S' = S) := by
  refine evA_intro tok Try.func75 (by kernel_rfl) rfl ?_
  repeat' ((conv => whnf); first
      | rw [wrapI_i64 (by omega)]
      | refine condP_dec (fun _ => ?_) (fun _ => ?_)
      | refine condP_ndec (fun _ => ?_) (fun _ => ?_)
      | refine condP_true rfl ?_
      | refine condP_false rfl ?_
      | refine condP_not (fun _ => ?_) (fun _ => ?_)
      | refine condP_intro (fun _ => ?_) (fun _ => ?_)
      | refine callP_eq (ev_l11Within _ _ _) ?_
      | (refine rd_lenm (by assumption) ?_; intro hml; rw [maxLen_eq] at hml)
      | refine rd_idxm (by assumption) (by intro _; rfl) (by constructor <;> omega) ?_
      | refine rd_loadf (by assumption) (by intro _; exact trivial) (by constructor <;> omega) ?_
      | refine needP_intro (by first | omega | (constructor <;> omega)) ?_
      | refine draw_intro 20 [.fl 0, .fl 1, .fl 2, .fl 3, .fl 4, .fl 5, .fl 6, .fl 7, .fl 8, .fl 9, .st 10 [], .fl 11, .st 12 []] (by rfl) (by kernel_rfl) ?_
      | refine And.intro ?_ ?_)
  refine loop_intro {i : Nat // i ≤ a.length ∧ withinGrants (a.drop i) b = withinGrants a b} [4, 5, 6, 7, 8, 9, 10, 11, 12, 13, 14, 15, 16, 17, 18, 19, 20, 21, 22, 23, 24, 25, 26, 27, 28, 29, 30, 31, 32, 33] (fun zb => [(5, .v (.s (.int .i64 zb.1)))]) (fun _ => S) (fun zb => a.length - zb.1) ⟨0, Nat.zero_le _, rfl⟩ ?_ rfl ?_
  · (conv => whnf); repeat' (first | exact trivial | exact rfl | apply And.intro)
  rintro ⟨i, hi, hinv⟩; dsimp only
  repeat' ((conv => whnf); first
      | rw [wrapI_i64 (by omega)]
      | refine condP_dec (fun _ => ?_) (fun _ => ?_)
      | refine condP_ndec (fun _ => ?_) (fun _ => ?_)
      | refine condP_true rfl ?_
      | refine condP_false rfl ?_
      | refine condP_not (fun _ => ?_) (fun _ => ?_)
      | refine condP_intro (fun _ => ?_) (fun _ => ?_)
      | refine callP_eq (ev_l11Within _ _ _) ?_
      | (refine rd_lenm (by assumption) ?_; intro hml; rw [maxLen_eq] at hml)
      | refine rd_idxm (by assumption) (by intro _; rfl) (by constructor <;> omega) ?_
      | refine rd_loadf (by assumption) (by intro _; exact trivial) (by constructor <;> omega) ?_
      | refine needP_intro (by first | omega | (constructor <;> omega)) ?_
      | refine draw_intro 20 [.fl 0, .fl 1, .fl 2, .fl 3, .fl 4, .fl 5, .fl 6, .fl 7, .fl 8, .fl 9, .st 10 [], .fl 11, .st 12 []] (by rfl) (by kernel_rfl) ?_
      | refine And.intro ?_ ?_)
  all_goals try first
    | rfl
    | (exfalso; omega)
    | (rw [drop_end (by omega)] at hinv; rw [← hinv]; rfl)
  have hi2 : i < a.length := by omega
  rw [drop_at hi2] at hinv
  simp only [withinGrants, List.all_cons] at hinv
  refine loop_intro {p : Nat × Bool // p.1 ≤ b.length ∧ p.2 = (b.take p.1).any fun y => within1 (a[((i : Nat) : Int).toNat]'hi2) y} [6, 7, 14, 15, 16, 17, 18, 19, 20, 21, 22, 23, 24, 25, 26, 27, 28, 29, 30, 31] (fun zb => [(7, .v (.s (.int .i64 zb.1.1))), (6, .v (.s (.bool zb.1.2)))]) (fun _ => S) (fun zb => b.length - zb.1.1) ⟨(0, false), Nat.zero_le _, by simp⟩ ?_ rfl ?_
  · (conv => whnf); repeat' (first | exact trivial | exact rfl | apply And.intro)
  rintro ⟨⟨j, sj⟩, hj, hjnv⟩; dsimp only
  replace hj : j ≤ b.length := hj; dsimp only at hjnv
  repeat' ((conv => whnf); first
      | rw [wrapI_i64 (by omega)]
      | refine condP_dec (fun _ => ?_) (fun _ => ?_)
      | refine condP_ndec (fun _ => ?_) (fun _ => ?_)
      | refine condP_true rfl ?_
      | refine condP_false rfl ?_
      | refine condP_not (fun _ => ?_) (fun _ => ?_)
      | refine condP_intro (fun _ => ?_) (fun _ => ?_)
      | refine callP_eq (ev_l11Within _ _ _) ?_
      | (refine rd_lenm (by assumption) ?_; intro hml; rw [maxLen_eq] at hml)
      | refine rd_idxm (by assumption) (by intro _; rfl) (by constructor <;> omega) ?_
      | refine rd_loadf (by assumption) (by intro _; exact trivial) (by constructor <;> omega) ?_
      | refine needP_intro (by first | omega | (constructor <;> omega)) ?_
      | refine draw_intro 20 [.fl 0, .fl 1, .fl 2, .fl 3, .fl 4, .fl 5, .fl 6, .fl 7, .fl 8, .fl 9, .st 10 [], .fl 11, .st 12 []] (by rfl) (by kernel_rfl) ?_
      | refine And.intro ?_ ?_)
  all_goals first
    | rfl
    | (exfalso; omega)
    | (refine ⟨⟨(j + 1, true), by dsimp only; omega, ?_⟩, ?_, rfl, by dsimp only; omega⟩
       · dsimp only; rw [any_take _ _ _ (by omega), ← hjnv]; simp_all
       · (conv => whnf); repeat' (first | exact trivial | exact rfl | apply And.intro))
    | (refine ⟨⟨(j + 1, within1 (a[((i : Nat) : Int).toNat]'hi2) (b[j]'(by omega))), by dsimp only; omega, ?_⟩, ?_, rfl, by dsimp only; omega⟩
       · dsimp only; rw [any_take _ _ _ (by omega), ← hjnv]; simp_all
       · (conv => whnf); repeat' (first | exact trivial | exact rfl | apply And.intro))
    | (rw [List.take_of_length_le (by omega)] at hjnv
       simp only [Int.toNat_natCast] at hjnv
       have hs : sj = false := by assumption
       rw [← hjnv, hs, Bool.false_and] at hinv
       unfold withinGrants
       rw [← hinv] <;> rfl)
    | (rw [List.take_of_length_le (by omega)] at hjnv
       simp only [Int.toNat_natCast] at hjnv
       have hs : sj = true := by assumption
       rw [← hjnv, hs, Bool.true_and] at hinv
       (refine ⟨⟨i + 1, by omega, hinv⟩, ?_, rfl, by simp; omega⟩; (conv => whnf); repeat' (first | exact trivial | exact rfl | apply And.intro)))
theorem ev_iIsWithin (a b : List GGrant) (c c' : C) (S : Store) (h : Rd S [.sl 7 (a.map GGrant.d)] [c]) (h' : Rd S [.sl 7 (b.map GGrant.d)] [c']) : EvA Try.prog 77 [.s c, .s c'] S (fun r S' => r = .v (.s (.bool (withinGrants a b))) ∧ S' = S) := by
  refine evA_intro tok Try.func77 (by kernel_rfl) rfl ?_
  repeat' ((conv => whnf); first
      | rw [wrapI_i64 (by omega)]
      | refine condP_dec (fun _ => ?_) (fun _ => ?_)
      | refine condP_ndec (fun _ => ?_) (fun _ => ?_)
      | refine condP_true rfl ?_
      | refine condP_false rfl ?_
      | refine condP_not (fun _ => ?_) (fun _ => ?_)
      | refine condP_intro (fun _ => ?_) (fun _ => ?_)
      | refine callP_eq (ev_iIsGrant _ _) ?_
      | refine callP_eq (ev_iIsNarrower _ _ _) ?_
      | refine callP_eq (ev_iIsNarrower ⟨_, _⟩ ⟨_, _⟩ _) ?_
      | (refine rd_lenm (by assumption) ?_; intro hml; rw [maxLen_eq] at hml)
      | refine rd_idxm (by assumption) (by intro _; rfl) (by constructor <;> omega) ?_
      | refine rd_loadf (by assumption) (by intro _; exact trivial) (by constructor <;> omega) ?_
      | refine needP_intro (by first | omega | (constructor <;> omega)) ?_
      | refine And.intro ?_ ?_)
  refine loop_intro {i : Nat // i ≤ a.length ∧ withinGrants (a.drop i) b = withinGrants a b} [4, 6, 7, 9, 12, 13, 14, 15, 16, 17, 18, 19, 20, 21, 22, 23, 24, 25, 26, 27, 28, 29, 30, 31, 32, 33, 34, 35, 36, 37, 38, 39, 40, 41, 42, 43, 44, 45, 46, 47, 48, 49, 50, 51, 52, 53, 54, 55, 56, 57, 58, 59, 60, 61, 62, 63, 64, 65, 66, 67, 68, 69, 70, 71, 72, 73, 74, 75] (fun zb => [(12, .v (.s (.int .i64 zb.1)))]) (fun _ => S) (fun zb => a.length - zb.1) ⟨0, Nat.zero_le _, rfl⟩ ?_ rfl ?_
  · (conv => whnf); repeat' (first | exact trivial | exact rfl | apply And.intro)
  rintro ⟨i, hi, hinv⟩; dsimp only
  repeat' ((conv => whnf); first
      | rw [wrapI_i64 (by omega)]
      | refine condP_dec (fun _ => ?_) (fun _ => ?_)
      | refine condP_ndec (fun _ => ?_) (fun _ => ?_)
      | refine condP_true rfl ?_
      | refine condP_false rfl ?_
      | refine condP_not (fun _ => ?_) (fun _ => ?_)
      | refine condP_intro (fun _ => ?_) (fun _ => ?_)
      | refine callP_eq (ev_iIsGrant _ _) ?_
      | refine callP_eq (ev_iIsNarrower _ _ _) ?_
      | refine callP_eq (ev_iIsNarrower ⟨_, _⟩ ⟨_, _⟩ _) ?_
      | (refine rd_lenm (by assumption) ?_; intro hml; rw [maxLen_eq] at hml)
      | refine rd_idxm (by assumption) (by intro _; rfl) (by constructor <;> omega) ?_
      | refine rd_loadf (by assumption) (by intro _; exact trivial) (by constructor <;> omega) ?_
      | refine needP_intro (by first | omega | (constructor <;> omega)) ?_
      | refine And.intro ?_ ?_)
  all_goals try first
    | rfl
    | (exfalso; omega)
    | (rw [drop_end (by omega)] at hinv; rw [← hinv]; rfl)
  have hi2 : i < a.length := by omega
  rw [drop_at hi2] at hinv
  simp only [withinGrants, List.all_cons] at hinv
  refine loop_intro {p : Nat × Bool // p.1 ≤ b.length ∧ p.2 = false ∧ ((b.drop p.1).any fun y => within1 (a[((i : Nat) : Int).toNat]'hi2) y) = b.any fun y => within1 (a[((i : Nat) : Int).toNat]'hi2) y} [7, 9, 18, 19, 20, 21, 22, 23, 24, 25, 26, 27, 28, 29, 30, 31, 32, 33, 34, 35, 36, 37, 38, 39, 40, 41, 42, 43, 44, 45, 46, 47, 48, 49, 50, 51, 52, 53, 54, 55, 56, 57, 58, 59, 60, 61, 62, 63, 64, 65, 66, 67, 68, 69, 70, 71, 72] (fun zb => [(18, .v (.s (.int .i64 zb.1.1))), (7, .v (.s (.bool zb.1.2)))]) (fun _ => S) (fun zb => b.length - zb.1.1) ⟨(0, false), Nat.zero_le _, ⟨rfl, by simp⟩⟩ ?_ rfl ?_
  · (conv => whnf); repeat' (first | exact trivial | exact rfl | apply And.intro)
  rintro ⟨⟨j, sj⟩, hj, hjnv⟩; dsimp only
  replace hj : j ≤ b.length := hj; dsimp only at hjnv
  repeat' ((conv => whnf); first
      | rw [wrapI_i64 (by omega)]
      | refine condP_dec (fun _ => ?_) (fun _ => ?_)
      | refine condP_ndec (fun _ => ?_) (fun _ => ?_)
      | refine condP_true rfl ?_
      | refine condP_false rfl ?_
      | refine condP_not (fun _ => ?_) (fun _ => ?_)
      | refine condP_intro (fun _ => ?_) (fun _ => ?_)
      | refine callP_eq (ev_iIsGrant _ _) ?_
      | refine callP_eq (ev_iIsNarrower _ _ _) ?_
      | refine callP_eq (ev_iIsNarrower ⟨_, _⟩ ⟨_, _⟩ _) ?_
      | (refine rd_lenm (by assumption) ?_; intro hml; rw [maxLen_eq] at hml)
      | refine rd_idxm (by assumption) (by intro _; rfl) (by constructor <;> omega) ?_
      | refine rd_loadf (by assumption) (by intro _; exact trivial) (by constructor <;> omega) ?_
      | refine needP_intro (by first | omega | (constructor <;> omega)) ?_
      | refine And.intro ?_ ?_)
  all_goals first
    | rfl
    | (exfalso; omega)
    | (obtain ⟨hs, hj2⟩ := hjnv
       rw [drop_end (by omega), List.any_nil] at hj2
       simp only [Int.toNat_natCast] at hj2
       rw [← hj2, Bool.false_and] at hinv
       unfold withinGrants
       rw [← hinv] <;> rfl)
    | (obtain ⟨hs, hj2⟩ := hjnv
       have hs2 : sj = true := by assumption
       rw [hs] at hs2; cases hs2)
    | (obtain ⟨hs, hj2⟩ := hjnv
       have hj3 : j < b.length := by omega
       rw [drop_at hj3, List.any_cons] at hj2
       have hw : within1 (a[((i : Nat) : Int).toNat]'hi2) (b[((j : Nat) : Int).toNat]'hj3) = true := by clear hj2 hinv; simp_all [within1]
       simp only [Int.toNat_natCast] at hj2 hw
       rw [hw, Bool.true_or] at hj2
       rw [← hj2, Bool.true_and] at hinv
       (refine ⟨⟨i + 1, by omega, hinv⟩, ?_, rfl, by simp; omega⟩; (conv => whnf); repeat' (first | exact trivial | exact rfl | apply And.intro)))
    | (obtain ⟨hs, hj2⟩ := hjnv
       have hj3 : j < b.length := by omega
       rw [drop_at hj3, List.any_cons] at hj2
       have hw : within1 (a[((i : Nat) : Int).toNat]'hi2) (b[((j : Nat) : Int).toNat]'hj3) = false := by clear hj2 hinv; first | (simp_all [within1]; done) | (simp_all [within1]; omega)
       simp only [Int.toNat_natCast] at hj2 hw
       rw [hw, Bool.false_or] at hj2
       refine ⟨⟨(j + 1, sj), by dsimp only; omega, hs, hj2⟩, ?_, rfl, by dsimp only; omega⟩
       (conv => whnf); repeat' (first | exact trivial | exact rfl | apply And.intro))
def powGo (P : Int → Bool) : Nat → List Int
  | 0 => []
  | n + 1 => powGo P n ++ (if P ((n : Int) + 1) then [(n : Int) + 1] else [])
theorem powGo_len (P : Int → Bool) : ∀ n, (powGo P n).length ≤ n
  | 0 => Nat.le_refl _
  | n + 1 => by
    have := powGo_len P n
    rw [powGo, List.length_append]
    split <;> simp <;> omega
theorem powGo_t {P : Int → Bool} {n : Nat} (h : P ((n : Int) + 1) = true) : powGo P (n + 1) = powGo P n ++ [(n : Int) + 1] := by rw [powGo, if_pos h]
theorem powGo_f {P : Int → Bool} {n : Nat} (h : P ((n : Int) + 1) = false) : powGo P (n + 1) = powGo P n := by rw [powGo, if_neg (by simp [h]), List.append_nil]
def powersOf (b : GBrowser) (ext : Int) (s : GSite) : List Int := powGo (fun k => mayDo b.Grants b.Limits ext s k b.Now false) 4
theorem ev_sPowersOf (b : GBrowser) (ext : Int) (s : GSite) (cs : List C) (S : Store) (h : Rd S b.d cs) : EvA Try.prog 27 [.agg cs, .s (.int .i64 ext), .agg s.c] S (fun r S' => Ext S S' ∧ ∃ c', r = .v (.s c') ∧ Fr S.length S' [.sl 1 ((powersOf b ext s).map dInt)] [c']) := by
  obtain ⟨_, _, _, _, _, _, rfl, _, _, _, _, _, _⟩ := GBrowser.inv h
  refine evA_intro tok Try.func27 (by kernel_rfl) rfl ?_
  repeat' ((conv => whnf); first
      | rw [wrapI_i64 (by omega)]
      | refine condP_dec (fun _ => ?_) (fun _ => ?_)
      | refine condP_ndec (fun _ => ?_) (fun _ => ?_)
      | refine condP_true rfl ?_
      | refine condP_false rfl ?_
      | refine condP_not (fun _ => ?_) (fun _ => ?_)
      | refine condP_intro (fun _ => ?_) (fun _ => ?_)
      | refine callP_eq (ev_sMayDo _ _ _ _ _ _ _ _ _ _ (by (first | assumption | exact Fr.rd (by assumption) | exact Rd.ext (by first | assumption | exact Fr.rd (by assumption)) (by (first | assumption | exact Ext.push _ _ | exact Ext.trans (by assumption) (by first | assumption | exact Ext.push _ _) | exact Ext.trans (by assumption) (Ext.trans (by assumption) (by assumption)) | exact Ext.trans (by assumption) (Ext.trans (by assumption) (Ext.trans (by assumption) (by assumption))))))) (by (first | assumption | exact Fr.rd (by assumption) | exact Rd.ext (by first | assumption | exact Fr.rd (by assumption)) (by (first | assumption | exact Ext.push _ _ | exact Ext.trans (by assumption) (by first | assumption | exact Ext.push _ _) | exact Ext.trans (by assumption) (Ext.trans (by assumption) (by assumption)) | exact Ext.trans (by assumption) (Ext.trans (by assumption) (Ext.trans (by assumption) (by assumption)))))))) ?_
      | refine callP_eq (ev_sMayDo _ _ _ ⟨_, _⟩ _ _ _ _ _ _ (by (first | assumption | exact Fr.rd (by assumption) | exact Rd.ext (by first | assumption | exact Fr.rd (by assumption)) (by (first | assumption | exact Ext.push _ _ | exact Ext.trans (by assumption) (by first | assumption | exact Ext.push _ _) | exact Ext.trans (by assumption) (Ext.trans (by assumption) (by assumption)) | exact Ext.trans (by assumption) (Ext.trans (by assumption) (Ext.trans (by assumption) (by assumption))))))) (by (first | assumption | exact Fr.rd (by assumption) | exact Rd.ext (by first | assumption | exact Fr.rd (by assumption)) (by (first | assumption | exact Ext.push _ _ | exact Ext.trans (by assumption) (by first | assumption | exact Ext.push _ _) | exact Ext.trans (by assumption) (Ext.trans (by assumption) (by assumption)) | exact Ext.trans (by assumption) (Ext.trans (by assumption) (Ext.trans (by assumption) (by assumption)))))))) ?_
      | refine needP_intro (by first | omega | (constructor <;> omega)) ?_
      | refine And.intro ?_ ?_)
  refine loop_intro {p : Nat × Store × C // p.1 ≤ 4 ∧ Ext S p.2.1 ∧ Fr S.length p.2.1 [.sl 1 ((powGo (fun k => mayDo b.Grants b.Limits ext s k b.Now false) p.1).map dInt)] [p.2.2]} [7, 8, 10, 11, 12, 13, 14, 15, 16, 17, 18, 19, 20, 21, 22, 23, 24, 25, 26, 27] (fun zb => [(8, .v (.s (.int .i64 ((zb.1.1 : Int) + 1)))), (7, .v (.s zb.1.2.2))]) (fun zb => zb.1.2.1) (fun zb => 4 - zb.1.1) ⟨(0, _, _), Nat.zero_le _, Ext.push _ _, fr_lit0⟩ ?_ rfl ?_
  · (conv => whnf); repeat' (first | exact trivial | exact rfl | apply And.intro)
  rintro ⟨⟨i, Si, ci⟩, hi, hE, hF⟩; dsimp only
  replace hi : i ≤ 4 := hi
  replace hE : Ext S Si := hE
  replace hF : Fr S.length Si [.sl 1 ((powGo (fun k => mayDo b.Grants b.Limits ext s k b.Now false) i).map dInt)] [ci] := hF
  have hfl := powGo_len (fun k => mayDo b.Grants b.Limits ext s k b.Now false) i
  repeat' ((conv => whnf); first
      | rw [wrapI_i64 (by omega)]
      | refine condP_dec (fun _ => ?_) (fun _ => ?_)
      | refine condP_ndec (fun _ => ?_) (fun _ => ?_)
      | refine condP_true rfl ?_
      | refine condP_false rfl ?_
      | refine condP_not (fun _ => ?_) (fun _ => ?_)
      | refine condP_intro (fun _ => ?_) (fun _ => ?_)
      | refine callP_eq (ev_sMayDo _ _ _ _ _ _ _ _ _ _ (by (first | assumption | exact Fr.rd (by assumption) | exact Rd.ext (by first | assumption | exact Fr.rd (by assumption)) (by (first | assumption | exact Ext.push _ _ | exact Ext.trans (by assumption) (by first | assumption | exact Ext.push _ _) | exact Ext.trans (by assumption) (Ext.trans (by assumption) (by assumption)) | exact Ext.trans (by assumption) (Ext.trans (by assumption) (Ext.trans (by assumption) (by assumption))))))) (by (first | assumption | exact Fr.rd (by assumption) | exact Rd.ext (by first | assumption | exact Fr.rd (by assumption)) (by (first | assumption | exact Ext.push _ _ | exact Ext.trans (by assumption) (by first | assumption | exact Ext.push _ _) | exact Ext.trans (by assumption) (Ext.trans (by assumption) (by assumption)) | exact Ext.trans (by assumption) (Ext.trans (by assumption) (Ext.trans (by assumption) (by assumption)))))))) ?_
      | refine callP_eq (ev_sMayDo _ _ _ ⟨_, _⟩ _ _ _ _ _ _ (by (first | assumption | exact Fr.rd (by assumption) | exact Rd.ext (by first | assumption | exact Fr.rd (by assumption)) (by (first | assumption | exact Ext.push _ _ | exact Ext.trans (by assumption) (by first | assumption | exact Ext.push _ _) | exact Ext.trans (by assumption) (Ext.trans (by assumption) (by assumption)) | exact Ext.trans (by assumption) (Ext.trans (by assumption) (Ext.trans (by assumption) (by assumption))))))) (by (first | assumption | exact Fr.rd (by assumption) | exact Rd.ext (by first | assumption | exact Fr.rd (by assumption)) (by (first | assumption | exact Ext.push _ _ | exact Ext.trans (by assumption) (by first | assumption | exact Ext.push _ _) | exact Ext.trans (by assumption) (Ext.trans (by assumption) (by assumption)) | exact Ext.trans (by assumption) (Ext.trans (by assumption) (Ext.trans (by assumption) (by assumption)))))))) ?_
      | refine needP_intro (by first | omega | (constructor <;> omega)) ?_
      | (refine fr_app1 (f := dInt) (by assumption) (by assumption) (by intro _; exact trivial) (by rfl) (by intro _; rfl) (by dsimp only [T3]; omega) (by omega) ?_; intro cN SN hEN hFN)
      | refine And.intro ?_ ?_)
  all_goals first
    | exact hE
    | (rw [show i = 4 from by omega] at hF; exact ⟨_, rfl, hF⟩)
    | (refine ⟨⟨(i + 1, _, _), by dsimp only; omega, by assumption, by rw [powGo_t (by assumption)]; assumption⟩, ?_, rfl, by dsimp only; omega⟩; (conv => whnf); repeat' (first | exact trivial | exact rfl | (show _ = _; congr 3; dsimp only; omega) | apply And.intro))
    | (refine ⟨⟨(i + 1, _, _), by dsimp only; omega, by assumption, by rw [powGo_f (by assumption)]; assumption⟩, ?_, rfl, by dsimp only; omega⟩; (conv => whnf); repeat' (first | exact trivial | exact rfl | (show _ = _; congr 3; dsimp only; omega) | apply And.intro))
theorem ev_iPowersOf (b : GBrowser) (ext : Int) (s : GSite) (cs : List C) (S : Store) (h : Rd S b.d cs) : EvA Try.prog 28 [.agg cs, .s (.int .i64 ext), .agg s.c] S (fun r S' => Ext S S' ∧ ∃ c', r = .v (.s c') ∧ Fr S.length S' [.sl 1 ((powersOf b ext s).map dInt)] [c']) := by
  obtain ⟨_, _, _, _, _, _, rfl, _, _, _, _, _, _⟩ := GBrowser.inv h
  refine evA_intro tok Try.func28 (by kernel_rfl) rfl ?_
  repeat' ((conv => whnf); first
      | rw [wrapI_i64 (by omega)]
      | refine condP_dec (fun _ => ?_) (fun _ => ?_)
      | refine condP_ndec (fun _ => ?_) (fun _ => ?_)
      | refine condP_true rfl ?_
      | refine condP_false rfl ?_
      | refine condP_not (fun _ => ?_) (fun _ => ?_)
      | refine condP_intro (fun _ => ?_) (fun _ => ?_)
      | refine callP_eq (ev_iMayDo _ _ _ _ _ _ _ _ _ _ (by (first | assumption | exact Fr.rd (by assumption) | exact Rd.ext (by first | assumption | exact Fr.rd (by assumption)) (by (first | assumption | exact Ext.push _ _ | exact Ext.trans (by assumption) (by first | assumption | exact Ext.push _ _) | exact Ext.trans (by assumption) (Ext.trans (by assumption) (by assumption)) | exact Ext.trans (by assumption) (Ext.trans (by assumption) (Ext.trans (by assumption) (by assumption))))))) (by (first | assumption | exact Fr.rd (by assumption) | exact Rd.ext (by first | assumption | exact Fr.rd (by assumption)) (by (first | assumption | exact Ext.push _ _ | exact Ext.trans (by assumption) (by first | assumption | exact Ext.push _ _) | exact Ext.trans (by assumption) (Ext.trans (by assumption) (by assumption)) | exact Ext.trans (by assumption) (Ext.trans (by assumption) (Ext.trans (by assumption) (by assumption)))))))) ?_
      | refine callP_eq (ev_iMayDo _ _ _ ⟨_, _⟩ _ _ _ _ _ _ (by (first | assumption | exact Fr.rd (by assumption) | exact Rd.ext (by first | assumption | exact Fr.rd (by assumption)) (by (first | assumption | exact Ext.push _ _ | exact Ext.trans (by assumption) (by first | assumption | exact Ext.push _ _) | exact Ext.trans (by assumption) (Ext.trans (by assumption) (by assumption)) | exact Ext.trans (by assumption) (Ext.trans (by assumption) (Ext.trans (by assumption) (by assumption))))))) (by (first | assumption | exact Fr.rd (by assumption) | exact Rd.ext (by first | assumption | exact Fr.rd (by assumption)) (by (first | assumption | exact Ext.push _ _ | exact Ext.trans (by assumption) (by first | assumption | exact Ext.push _ _) | exact Ext.trans (by assumption) (Ext.trans (by assumption) (by assumption)) | exact Ext.trans (by assumption) (Ext.trans (by assumption) (Ext.trans (by assumption) (by assumption)))))))) ?_
      | refine needP_intro (by first | omega | (constructor <;> omega)) ?_
      | refine And.intro ?_ ?_)
  refine loop_intro {p : Nat × Store × C // p.1 ≤ 4 ∧ Ext S p.2.1 ∧ Fr S.length p.2.1 [.sl 1 ((powGo (fun k => mayDo b.Grants b.Limits ext s k b.Now false) p.1).map dInt)] [p.2.2]} [7, 8, 10, 11, 12, 13, 14, 15, 16, 17, 18, 19, 20, 21, 22, 23, 24, 25, 26, 27] (fun zb => [(8, .v (.s (.int .i64 ((zb.1.1 : Int) + 1)))), (7, .v (.s zb.1.2.2))]) (fun zb => zb.1.2.1) (fun zb => 4 - zb.1.1) ⟨(0, _, _), Nat.zero_le _, Ext.push _ _, fr_lit0⟩ ?_ rfl ?_
  · (conv => whnf); repeat' (first | exact trivial | exact rfl | apply And.intro)
  rintro ⟨⟨i, Si, ci⟩, hi, hE, hF⟩; dsimp only
  replace hi : i ≤ 4 := hi
  replace hE : Ext S Si := hE
  replace hF : Fr S.length Si [.sl 1 ((powGo (fun k => mayDo b.Grants b.Limits ext s k b.Now false) i).map dInt)] [ci] := hF
  have hfl := powGo_len (fun k => mayDo b.Grants b.Limits ext s k b.Now false) i
  repeat' ((conv => whnf); first
      | rw [wrapI_i64 (by omega)]
      | refine condP_dec (fun _ => ?_) (fun _ => ?_)
      | refine condP_ndec (fun _ => ?_) (fun _ => ?_)
      | refine condP_true rfl ?_
      | refine condP_false rfl ?_
      | refine condP_not (fun _ => ?_) (fun _ => ?_)
      | refine condP_intro (fun _ => ?_) (fun _ => ?_)
      | refine callP_eq (ev_iMayDo _ _ _ _ _ _ _ _ _ _ (by (first | assumption | exact Fr.rd (by assumption) | exact Rd.ext (by first | assumption | exact Fr.rd (by assumption)) (by (first | assumption | exact Ext.push _ _ | exact Ext.trans (by assumption) (by first | assumption | exact Ext.push _ _) | exact Ext.trans (by assumption) (Ext.trans (by assumption) (by assumption)) | exact Ext.trans (by assumption) (Ext.trans (by assumption) (Ext.trans (by assumption) (by assumption))))))) (by (first | assumption | exact Fr.rd (by assumption) | exact Rd.ext (by first | assumption | exact Fr.rd (by assumption)) (by (first | assumption | exact Ext.push _ _ | exact Ext.trans (by assumption) (by first | assumption | exact Ext.push _ _) | exact Ext.trans (by assumption) (Ext.trans (by assumption) (by assumption)) | exact Ext.trans (by assumption) (Ext.trans (by assumption) (Ext.trans (by assumption) (by assumption)))))))) ?_
      | refine callP_eq (ev_iMayDo _ _ _ ⟨_, _⟩ _ _ _ _ _ _ (by (first | assumption | exact Fr.rd (by assumption) | exact Rd.ext (by first | assumption | exact Fr.rd (by assumption)) (by (first | assumption | exact Ext.push _ _ | exact Ext.trans (by assumption) (by first | assumption | exact Ext.push _ _) | exact Ext.trans (by assumption) (Ext.trans (by assumption) (by assumption)) | exact Ext.trans (by assumption) (Ext.trans (by assumption) (Ext.trans (by assumption) (by assumption))))))) (by (first | assumption | exact Fr.rd (by assumption) | exact Rd.ext (by first | assumption | exact Fr.rd (by assumption)) (by (first | assumption | exact Ext.push _ _ | exact Ext.trans (by assumption) (by first | assumption | exact Ext.push _ _) | exact Ext.trans (by assumption) (Ext.trans (by assumption) (by assumption)) | exact Ext.trans (by assumption) (Ext.trans (by assumption) (Ext.trans (by assumption) (by assumption)))))))) ?_
      | refine needP_intro (by first | omega | (constructor <;> omega)) ?_
      | (refine fr_app1 (f := dInt) (by assumption) (by assumption) (by intro _; exact trivial) (by rfl) (by intro _; rfl) (by dsimp only [T3]; omega) (by omega) ?_; intro cN SN hEN hFN)
      | refine And.intro ?_ ?_)
  all_goals first
    | exact hE
    | (rw [show i = 4 from by omega] at hF; exact ⟨_, rfl, hF⟩)
    | (refine ⟨⟨(i + 1, _, _), by dsimp only; omega, by assumption, by rw [powGo_t (by assumption)]; assumption⟩, ?_, rfl, by dsimp only; omega⟩; (conv => whnf); repeat' (first | exact trivial | exact rfl | (show _ = _; congr 3; dsimp only; omega) | apply And.intro))
    | (refine ⟨⟨(i + 1, _, _), by dsimp only; omega, by assumption, by rw [powGo_f (by assumption)]; assumption⟩, ?_, rfl, by dsimp only; omega⟩; (conv => whnf); repeat' (first | exact trivial | exact rfl | (show _ = _; congr 3; dsimp only; omega) | apply And.intro))
def installed (b : GBrowser) : List Int := b.Packs.map GPackage.Ext
theorem ev_sInstalled (b : GBrowser) (cs : List C) (S : Store) (h : Rd S b.d cs) (hz : szL b.d ≤ 1048576) : EvA Try.prog 33 [.agg cs] S (fun r S' => Ext S S' ∧ ∃ c', r = .v (.s c') ∧ Fr S.length S' [.sl 1 ((installed b).map dInt)] [c']) := by
  have hzs := hz
  simp only [GBrowser.d, szL, List.length_map] at hzs
  obtain ⟨_, _, _, _, _, _, rfl, _, _, _, _, _, _⟩ := GBrowser.inv h
  refine evA_intro tok Try.func33 (by kernel_rfl) rfl ?_
  repeat' ((conv => whnf); first
      | rw [wrapI_i64 (by omega)]
      | refine condP_dec (fun _ => ?_) (fun _ => ?_)
      | refine condP_ndec (fun _ => ?_) (fun _ => ?_)
      | refine condP_true rfl ?_
      | refine condP_false rfl ?_
      | refine condP_not (fun _ => ?_) (fun _ => ?_)
      | refine condP_intro (fun _ => ?_) (fun _ => ?_)
      | (refine rd_lenm (by (first | assumption | exact Fr.rd (by assumption) | exact Rd.ext (by first | assumption | exact Fr.rd (by assumption)) (by (first | assumption | exact Ext.push _ _ | exact Ext.trans (by assumption) (by first | assumption | exact Ext.push _ _) | exact Ext.trans (by assumption) (Ext.trans (by assumption) (by assumption)) | exact Ext.trans (by assumption) (Ext.trans (by assumption) (Ext.trans (by assumption) (by assumption))))))) ?_; intro hml; rw [maxLen_eq] at hml)
      | refine rd_idxm (by (first | assumption | exact Fr.rd (by assumption) | exact Rd.ext (by first | assumption | exact Fr.rd (by assumption)) (by (first | assumption | exact Ext.push _ _ | exact Ext.trans (by assumption) (by first | assumption | exact Ext.push _ _) | exact Ext.trans (by assumption) (Ext.trans (by assumption) (by assumption)) | exact Ext.trans (by assumption) (Ext.trans (by assumption) (Ext.trans (by assumption) (by assumption))))))) (by intro _; rfl) (by constructor <;> omega) ?_
      | (refine rd_loadm (f := GPackage.d) (by (first | assumption | exact Fr.rd (by assumption) | exact Rd.ext (by first | assumption | exact Fr.rd (by assumption)) (by (first | assumption | exact Ext.push _ _ | exact Ext.trans (by assumption) (by first | assumption | exact Ext.push _ _) | exact Ext.trans (by assumption) (Ext.trans (by assumption) (by assumption)) | exact Ext.trans (by assumption) (Ext.trans (by assumption) (Ext.trans (by assumption) (by assumption))))))) (by constructor <;> omega) ?_; intro _ hcs; obtain ⟨_, _, _, _, rfl, _, _, _, _⟩ := GPackage.inv hcs)
      | refine needP_intro (by first | omega | (constructor <;> omega)) ?_
      | refine And.intro ?_ ?_)
  refine loop_intro {p : Nat × Store × C // p.1 ≤ b.Packs.length ∧ Ext S p.2.1 ∧ Fr S.length p.2.1 [.sl 1 (((b.Packs.take p.1).map GPackage.Ext).map dInt)] [p.2.2]} [3, 4, 6, 7, 8, 9, 10, 11, 12, 13, 14, 15, 16, 17, 18, 19, 20, 21] (fun zb => [(4, .v (.s (.int .i64 (zb.1.1)))), (3, .v (.s zb.1.2.2))]) (fun zb => zb.1.2.1) (fun zb => b.Packs.length - zb.1.1) ⟨(0, _, _), Nat.zero_le _, Ext.push _ _, fr_lit0⟩ ?_ rfl ?_
  · (conv => whnf); repeat' (first | exact trivial | exact rfl | apply And.intro)
  rintro ⟨⟨i, Si, ci⟩, hi, hE, hF⟩; dsimp only
  replace hi : i ≤ b.Packs.length := hi
  replace hE : Ext S Si := hE
  replace hF : Fr S.length Si [.sl 1 (((b.Packs.take i).map GPackage.Ext).map dInt)] [ci] := hF
  have hfl : ((b.Packs.take i).map GPackage.Ext).length ≤ b.Packs.length := by simp; omega
  repeat' ((conv => whnf); first
      | rw [wrapI_i64 (by omega)]
      | refine condP_dec (fun _ => ?_) (fun _ => ?_)
      | refine condP_ndec (fun _ => ?_) (fun _ => ?_)
      | refine condP_true rfl ?_
      | refine condP_false rfl ?_
      | refine condP_not (fun _ => ?_) (fun _ => ?_)
      | refine condP_intro (fun _ => ?_) (fun _ => ?_)
      | (refine rd_lenm (by (first | assumption | exact Fr.rd (by assumption) | exact Rd.ext (by first | assumption | exact Fr.rd (by assumption)) (by (first | assumption | exact Ext.push _ _ | exact Ext.trans (by assumption) (by first | assumption | exact Ext.push _ _) | exact Ext.trans (by assumption) (Ext.trans (by assumption) (by assumption)) | exact Ext.trans (by assumption) (Ext.trans (by assumption) (Ext.trans (by assumption) (by assumption))))))) ?_; intro hml; rw [maxLen_eq] at hml)
      | refine rd_idxm (by (first | assumption | exact Fr.rd (by assumption) | exact Rd.ext (by first | assumption | exact Fr.rd (by assumption)) (by (first | assumption | exact Ext.push _ _ | exact Ext.trans (by assumption) (by first | assumption | exact Ext.push _ _) | exact Ext.trans (by assumption) (Ext.trans (by assumption) (by assumption)) | exact Ext.trans (by assumption) (Ext.trans (by assumption) (Ext.trans (by assumption) (by assumption))))))) (by intro _; rfl) (by constructor <;> omega) ?_
      | (refine rd_loadm (f := GPackage.d) (by (first | assumption | exact Fr.rd (by assumption) | exact Rd.ext (by first | assumption | exact Fr.rd (by assumption)) (by (first | assumption | exact Ext.push _ _ | exact Ext.trans (by assumption) (by first | assumption | exact Ext.push _ _) | exact Ext.trans (by assumption) (Ext.trans (by assumption) (by assumption)) | exact Ext.trans (by assumption) (Ext.trans (by assumption) (Ext.trans (by assumption) (by assumption))))))) (by constructor <;> omega) ?_; intro _ hcs; obtain ⟨_, _, _, _, rfl, _, _, _, _⟩ := GPackage.inv hcs)
      | refine needP_intro (by first | omega | (constructor <;> omega)) ?_
      | (refine fr_app1 (f := dInt) (by assumption) (by assumption) (by intro _; exact trivial) (by rfl) (by intro _; rfl) (by dsimp only [T3]; omega) (by omega) ?_; intro cN SN hEN hFN)
      | refine And.intro ?_ ?_)
  all_goals first
    | exact hE
    | (rw [List.take_of_length_le (by omega)] at hF; exact ⟨_, rfl, hF⟩)
    | (refine ⟨⟨(i + 1, _, _), by dsimp only; omega, by assumption, by rw [List.take_succ_eq_append_getElem (by omega), List.map_append]; assumption⟩, ?_, rfl, by dsimp only; omega⟩; (conv => whnf); repeat' (first | exact trivial | exact rfl | (show _ = _; congr 3; dsimp only; omega) | apply And.intro))
theorem ev_iInstalled (b : GBrowser) (cs : List C) (S : Store) (h : Rd S b.d cs) (hz : szL b.d ≤ 1048576) : EvA Try.prog 34 [.agg cs] S (fun r S' => Ext S S' ∧ ∃ c', r = .v (.s c') ∧ Fr S.length S' [.sl 1 ((installed b).map dInt)] [c']) := by
  have hzs := hz
  simp only [GBrowser.d, szL, List.length_map] at hzs
  obtain ⟨_, _, _, _, _, _, rfl, _, _, _, _, _, _⟩ := GBrowser.inv h
  refine evA_intro tok Try.func34 (by kernel_rfl) rfl ?_
  repeat' ((conv => whnf); first
      | rw [wrapI_i64 (by omega)]
      | refine condP_dec (fun _ => ?_) (fun _ => ?_)
      | refine condP_ndec (fun _ => ?_) (fun _ => ?_)
      | refine condP_true rfl ?_
      | refine condP_false rfl ?_
      | refine condP_not (fun _ => ?_) (fun _ => ?_)
      | refine condP_intro (fun _ => ?_) (fun _ => ?_)
      | (refine rd_lenm (by (first | assumption | exact Fr.rd (by assumption) | exact Rd.ext (by first | assumption | exact Fr.rd (by assumption)) (by (first | assumption | exact Ext.push _ _ | exact Ext.trans (by assumption) (by first | assumption | exact Ext.push _ _) | exact Ext.trans (by assumption) (Ext.trans (by assumption) (by assumption)) | exact Ext.trans (by assumption) (Ext.trans (by assumption) (Ext.trans (by assumption) (by assumption))))))) ?_; intro hml; rw [maxLen_eq] at hml)
      | refine rd_idxm (by (first | assumption | exact Fr.rd (by assumption) | exact Rd.ext (by first | assumption | exact Fr.rd (by assumption)) (by (first | assumption | exact Ext.push _ _ | exact Ext.trans (by assumption) (by first | assumption | exact Ext.push _ _) | exact Ext.trans (by assumption) (Ext.trans (by assumption) (by assumption)) | exact Ext.trans (by assumption) (Ext.trans (by assumption) (Ext.trans (by assumption) (by assumption))))))) (by intro _; rfl) (by constructor <;> omega) ?_
      | (refine rd_loadm (f := GPackage.d) (by (first | assumption | exact Fr.rd (by assumption) | exact Rd.ext (by first | assumption | exact Fr.rd (by assumption)) (by (first | assumption | exact Ext.push _ _ | exact Ext.trans (by assumption) (by first | assumption | exact Ext.push _ _) | exact Ext.trans (by assumption) (Ext.trans (by assumption) (by assumption)) | exact Ext.trans (by assumption) (Ext.trans (by assumption) (Ext.trans (by assumption) (by assumption))))))) (by constructor <;> omega) ?_; intro _ hcs; obtain ⟨_, _, _, _, rfl, _, _, _, _⟩ := GPackage.inv hcs)
      | refine needP_intro (by first | omega | (constructor <;> omega)) ?_
      | refine And.intro ?_ ?_)
  refine loop_intro {p : Nat × Store × C // p.1 ≤ b.Packs.length ∧ Ext S p.2.1 ∧ Fr S.length p.2.1 [.sl 1 (((b.Packs.take p.1).map GPackage.Ext).map dInt)] [p.2.2]} [3, 5, 10, 11, 12, 13, 14, 15, 16, 17, 18, 19] (fun zb => [(10, .v (.s (.int .i64 (zb.1.1)))), (3, .v (.s zb.1.2.2))]) (fun zb => zb.1.2.1) (fun zb => b.Packs.length - zb.1.1) ⟨(0, _, _), Nat.zero_le _, Ext.push _ _, fr_lit0⟩ ?_ rfl ?_
  · (conv => whnf); repeat' (first | exact trivial | exact rfl | apply And.intro)
  rintro ⟨⟨i, Si, ci⟩, hi, hE, hF⟩; dsimp only
  replace hi : i ≤ b.Packs.length := hi
  replace hE : Ext S Si := hE
  replace hF : Fr S.length Si [.sl 1 (((b.Packs.take i).map GPackage.Ext).map dInt)] [ci] := hF
  have hfl : ((b.Packs.take i).map GPackage.Ext).length ≤ b.Packs.length := by simp; omega
  repeat' ((conv => whnf); first
      | rw [wrapI_i64 (by omega)]
      | refine condP_dec (fun _ => ?_) (fun _ => ?_)
      | refine condP_ndec (fun _ => ?_) (fun _ => ?_)
      | refine condP_true rfl ?_
      | refine condP_false rfl ?_
      | refine condP_not (fun _ => ?_) (fun _ => ?_)
      | refine condP_intro (fun _ => ?_) (fun _ => ?_)
      | (refine rd_lenm (by (first | assumption | exact Fr.rd (by assumption) | exact Rd.ext (by first | assumption | exact Fr.rd (by assumption)) (by (first | assumption | exact Ext.push _ _ | exact Ext.trans (by assumption) (by first | assumption | exact Ext.push _ _) | exact Ext.trans (by assumption) (Ext.trans (by assumption) (by assumption)) | exact Ext.trans (by assumption) (Ext.trans (by assumption) (Ext.trans (by assumption) (by assumption))))))) ?_; intro hml; rw [maxLen_eq] at hml)
      | refine rd_idxm (by (first | assumption | exact Fr.rd (by assumption) | exact Rd.ext (by first | assumption | exact Fr.rd (by assumption)) (by (first | assumption | exact Ext.push _ _ | exact Ext.trans (by assumption) (by first | assumption | exact Ext.push _ _) | exact Ext.trans (by assumption) (Ext.trans (by assumption) (by assumption)) | exact Ext.trans (by assumption) (Ext.trans (by assumption) (Ext.trans (by assumption) (by assumption))))))) (by intro _; rfl) (by constructor <;> omega) ?_
      | (refine rd_loadm (f := GPackage.d) (by (first | assumption | exact Fr.rd (by assumption) | exact Rd.ext (by first | assumption | exact Fr.rd (by assumption)) (by (first | assumption | exact Ext.push _ _ | exact Ext.trans (by assumption) (by first | assumption | exact Ext.push _ _) | exact Ext.trans (by assumption) (Ext.trans (by assumption) (by assumption)) | exact Ext.trans (by assumption) (Ext.trans (by assumption) (Ext.trans (by assumption) (by assumption))))))) (by constructor <;> omega) ?_; intro _ hcs; obtain ⟨_, _, _, _, rfl, _, _, _, _⟩ := GPackage.inv hcs)
      | refine needP_intro (by first | omega | (constructor <;> omega)) ?_
      | (refine fr_app1 (f := dInt) (by assumption) (by assumption) (by intro _; exact trivial) (by rfl) (by intro _; rfl) (by dsimp only [T3]; omega) (by omega) ?_; intro cN SN hEN hFN)
      | refine And.intro ?_ ?_)
  all_goals first
    | exact hE
    | (rw [List.take_of_length_le (by omega)] at hF; exact ⟨_, rfl, hF⟩)
    | (refine ⟨⟨(i + 1, _, _), by dsimp only; omega, by assumption, by rw [List.take_succ_eq_append_getElem (by omega), List.map_append]; assumption⟩, ?_, rfl, by dsimp only; omega⟩; (conv => whnf); repeat' (first | exact trivial | exact rfl | (show _ = _; congr 3; dsimp only; omega) | apply And.intro))
def ruleOn (b : GBrowser) (s : GSite) (r : GRule) : Bool := !isDenied b.Limits r.Ext s 3
def rulesInForce (b : GBrowser) (s : GSite) : List GRule := b.Rules.filter (ruleOn b s)
theorem ev_sRulesInForce (b : GBrowser) (s : GSite) (cs : List C) (S : Store) (h : Rd S b.d cs) (hz : szL b.d ≤ 1048576) : EvA Try.prog 35 [.agg cs, .agg s.c] S (fun r S' => Ext S S' ∧ ∃ c', r = .v (.s c') ∧ Fr S.length S' [.sl 8 ((rulesInForce b s).map GRule.d)] [c']) := by
  have hzs := hz
  simp only [GBrowser.d, szL, List.length_map] at hzs
  obtain ⟨_, _, _, _, _, _, rfl, _, _, _, _, _, _⟩ := GBrowser.inv h
  refine evA_intro tok Try.func35 (by kernel_rfl) rfl ?_
  repeat' ((conv => whnf); first
      | rw [wrapI_i64 (by omega)]
      | refine condP_dec (fun _ => ?_) (fun _ => ?_)
      | refine condP_ndec (fun _ => ?_) (fun _ => ?_)
      | refine condP_true rfl ?_
      | refine condP_false rfl ?_
      | refine condP_not (fun _ => ?_) (fun _ => ?_)
      | refine condP_intro (fun _ => ?_) (fun _ => ?_)
      | refine callP_eq (ev_sIsDenied _ _ _ _ _ _ (by (first | assumption | exact Fr.rd (by assumption) | exact Rd.ext (by first | assumption | exact Fr.rd (by assumption)) (by (first | assumption | exact Ext.push _ _ | exact Ext.trans (by assumption) (by first | assumption | exact Ext.push _ _) | exact Ext.trans (by assumption) (Ext.trans (by assumption) (by assumption)) | exact Ext.trans (by assumption) (Ext.trans (by assumption) (Ext.trans (by assumption) (by assumption)))))))) ?_
      | refine callP_eq (ev_sIsDenied _ _ ⟨_, _⟩ _ _ _ (by (first | assumption | exact Fr.rd (by assumption) | exact Rd.ext (by first | assumption | exact Fr.rd (by assumption)) (by (first | assumption | exact Ext.push _ _ | exact Ext.trans (by assumption) (by first | assumption | exact Ext.push _ _) | exact Ext.trans (by assumption) (Ext.trans (by assumption) (by assumption)) | exact Ext.trans (by assumption) (Ext.trans (by assumption) (Ext.trans (by assumption) (by assumption)))))))) ?_
      | (refine rd_lenm (by (first | assumption | exact Fr.rd (by assumption) | exact Rd.ext (by first | assumption | exact Fr.rd (by assumption)) (by (first | assumption | exact Ext.push _ _ | exact Ext.trans (by assumption) (by first | assumption | exact Ext.push _ _) | exact Ext.trans (by assumption) (Ext.trans (by assumption) (by assumption)) | exact Ext.trans (by assumption) (Ext.trans (by assumption) (Ext.trans (by assumption) (by assumption))))))) ?_; intro hml; rw [maxLen_eq] at hml)
      | refine rd_idxm (by (first | assumption | exact Fr.rd (by assumption) | exact Rd.ext (by first | assumption | exact Fr.rd (by assumption)) (by (first | assumption | exact Ext.push _ _ | exact Ext.trans (by assumption) (by first | assumption | exact Ext.push _ _) | exact Ext.trans (by assumption) (Ext.trans (by assumption) (by assumption)) | exact Ext.trans (by assumption) (Ext.trans (by assumption) (Ext.trans (by assumption) (by assumption))))))) (by intro _; rfl) (by constructor <;> omega) ?_
      | refine rd_loadf (by (first | assumption | exact Fr.rd (by assumption) | exact Rd.ext (by first | assumption | exact Fr.rd (by assumption)) (by (first | assumption | exact Ext.push _ _ | exact Ext.trans (by assumption) (by first | assumption | exact Ext.push _ _) | exact Ext.trans (by assumption) (Ext.trans (by assumption) (by assumption)) | exact Ext.trans (by assumption) (Ext.trans (by assumption) (Ext.trans (by assumption) (by assumption))))))) (by intro _; exact trivial) (by constructor <;> omega) ?_
      | refine needP_intro (by first | omega | (constructor <;> omega)) ?_
      | refine draw_intro 15 [.fl 0, .fl 1, .fl 2, .fl 3, .fl 4, .fl 5, .fl 6, .fl 7, .fl 8, .st 9 [], .fl 10] (by rfl) (by kernel_rfl) ?_
      | refine And.intro ?_ ?_)
  refine loop_intro {p : Nat × Store × C // p.1 ≤ b.Rules.length ∧ Ext S p.2.1 ∧ Fr S.length p.2.1 [.sl 8 (((b.Rules.take p.1).filter (ruleOn b s)).map GRule.d)] [p.2.2]} [5, 6, 8, 9, 10, 11, 12, 13, 14, 15, 16, 17, 18, 19, 20, 21, 22, 23, 24, 25, 26, 27, 28, 29, 30, 31, 32, 33] (fun zb => [(6, .v (.s (.int .i64 (zb.1.1)))), (5, .v (.s zb.1.2.2))]) (fun zb => zb.1.2.1) (fun zb => b.Rules.length - zb.1.1) ⟨(0, _, _), Nat.zero_le _, Ext.push _ _, fr_lit0⟩ ?_ rfl ?_
  · (conv => whnf); repeat' (first | exact trivial | exact rfl | apply And.intro)
  rintro ⟨⟨i, Si, ci⟩, hi, hE, hF⟩; dsimp only
  replace hi : i ≤ b.Rules.length := hi
  replace hE : Ext S Si := hE
  replace hF : Fr S.length Si [.sl 8 (((b.Rules.take i).filter (ruleOn b s)).map GRule.d)] [ci] := hF
  have hfl := filter_len (ruleOn b s) b.Rules i
  repeat' ((conv => whnf); first
      | rw [wrapI_i64 (by omega)]
      | refine condP_dec (fun _ => ?_) (fun _ => ?_)
      | refine condP_ndec (fun _ => ?_) (fun _ => ?_)
      | refine condP_true rfl ?_
      | refine condP_false rfl ?_
      | refine condP_not (fun _ => ?_) (fun _ => ?_)
      | refine condP_intro (fun _ => ?_) (fun _ => ?_)
      | refine callP_eq (ev_sIsDenied _ _ _ _ _ _ (by (first | assumption | exact Fr.rd (by assumption) | exact Rd.ext (by first | assumption | exact Fr.rd (by assumption)) (by (first | assumption | exact Ext.push _ _ | exact Ext.trans (by assumption) (by first | assumption | exact Ext.push _ _) | exact Ext.trans (by assumption) (Ext.trans (by assumption) (by assumption)) | exact Ext.trans (by assumption) (Ext.trans (by assumption) (Ext.trans (by assumption) (by assumption)))))))) ?_
      | refine callP_eq (ev_sIsDenied _ _ ⟨_, _⟩ _ _ _ (by (first | assumption | exact Fr.rd (by assumption) | exact Rd.ext (by first | assumption | exact Fr.rd (by assumption)) (by (first | assumption | exact Ext.push _ _ | exact Ext.trans (by assumption) (by first | assumption | exact Ext.push _ _) | exact Ext.trans (by assumption) (Ext.trans (by assumption) (by assumption)) | exact Ext.trans (by assumption) (Ext.trans (by assumption) (Ext.trans (by assumption) (by assumption)))))))) ?_
      | (refine rd_lenm (by (first | assumption | exact Fr.rd (by assumption) | exact Rd.ext (by first | assumption | exact Fr.rd (by assumption)) (by (first | assumption | exact Ext.push _ _ | exact Ext.trans (by assumption) (by first | assumption | exact Ext.push _ _) | exact Ext.trans (by assumption) (Ext.trans (by assumption) (by assumption)) | exact Ext.trans (by assumption) (Ext.trans (by assumption) (Ext.trans (by assumption) (by assumption))))))) ?_; intro hml; rw [maxLen_eq] at hml)
      | refine rd_idxm (by (first | assumption | exact Fr.rd (by assumption) | exact Rd.ext (by first | assumption | exact Fr.rd (by assumption)) (by (first | assumption | exact Ext.push _ _ | exact Ext.trans (by assumption) (by first | assumption | exact Ext.push _ _) | exact Ext.trans (by assumption) (Ext.trans (by assumption) (by assumption)) | exact Ext.trans (by assumption) (Ext.trans (by assumption) (Ext.trans (by assumption) (by assumption))))))) (by intro _; rfl) (by constructor <;> omega) ?_
      | refine rd_loadf (by (first | assumption | exact Fr.rd (by assumption) | exact Rd.ext (by first | assumption | exact Fr.rd (by assumption)) (by (first | assumption | exact Ext.push _ _ | exact Ext.trans (by assumption) (by first | assumption | exact Ext.push _ _) | exact Ext.trans (by assumption) (Ext.trans (by assumption) (by assumption)) | exact Ext.trans (by assumption) (Ext.trans (by assumption) (Ext.trans (by assumption) (by assumption))))))) (by intro _; exact trivial) (by constructor <;> omega) ?_
      | refine needP_intro (by first | omega | (constructor <;> omega)) ?_
      | refine draw_intro 15 [.fl 0, .fl 1, .fl 2, .fl 3, .fl 4, .fl 5, .fl 6, .fl 7, .fl 8, .st 9 [], .fl 10] (by rfl) (by kernel_rfl) ?_
      | (refine fr_app1 (f := GRule.d) (by assumption) (by assumption) (by intro _; exact trivial) (by rfl) (by intro _; rfl) (by dsimp only [T91]; omega) (by omega) ?_; intro cN SN hEN hFN)
      | refine And.intro ?_ ?_)
  all_goals first
    | exact hE
    | (rw [List.take_of_length_le (by omega)] at hF; exact ⟨_, rfl, hF⟩)
    | (refine ⟨⟨(i + 1, _, _), by dsimp only; omega, by assumption, by first | (rw [filter_t (by omega) (by simp_all [ruleOn])]; assumption) | (rw [filter_f (by omega) (by simp_all [ruleOn])]; assumption)⟩, ?_, rfl, by dsimp only; omega⟩; (conv => whnf); repeat' (first | exact trivial | exact rfl | (show _ = _; congr 3; dsimp only; omega) | apply And.intro))
theorem ev_iRulesInForce (b : GBrowser) (s : GSite) (cs : List C) (S : Store) (h : Rd S b.d cs) (hz : szL b.d ≤ 1048576) : EvA Try.prog 36 [.agg cs, .agg s.c] S (fun r S' => Ext S S' ∧ ∃ c', r = .v (.s c') ∧ Fr S.length S' [.sl 8 ((rulesInForce b s).map GRule.d)] [c']) := by
  have hzs := hz
  simp only [GBrowser.d, szL, List.length_map] at hzs
  obtain ⟨_, _, _, _, _, _, rfl, _, _, _, _, _, _⟩ := GBrowser.inv h
  refine evA_intro tok Try.func36 (by kernel_rfl) rfl ?_
  repeat' ((conv => whnf); first
      | rw [wrapI_i64 (by omega)]
      | refine condP_dec (fun _ => ?_) (fun _ => ?_)
      | refine condP_ndec (fun _ => ?_) (fun _ => ?_)
      | refine condP_true rfl ?_
      | refine condP_false rfl ?_
      | refine condP_not (fun _ => ?_) (fun _ => ?_)
      | refine condP_intro (fun _ => ?_) (fun _ => ?_)
      | refine callP_eq (ev_iIsDenied _ _ _ _ _ _ (by (first | assumption | exact Fr.rd (by assumption) | exact Rd.ext (by first | assumption | exact Fr.rd (by assumption)) (by (first | assumption | exact Ext.push _ _ | exact Ext.trans (by assumption) (by first | assumption | exact Ext.push _ _) | exact Ext.trans (by assumption) (Ext.trans (by assumption) (by assumption)) | exact Ext.trans (by assumption) (Ext.trans (by assumption) (Ext.trans (by assumption) (by assumption)))))))) ?_
      | refine callP_eq (ev_iIsDenied _ _ ⟨_, _⟩ _ _ _ (by (first | assumption | exact Fr.rd (by assumption) | exact Rd.ext (by first | assumption | exact Fr.rd (by assumption)) (by (first | assumption | exact Ext.push _ _ | exact Ext.trans (by assumption) (by first | assumption | exact Ext.push _ _) | exact Ext.trans (by assumption) (Ext.trans (by assumption) (by assumption)) | exact Ext.trans (by assumption) (Ext.trans (by assumption) (Ext.trans (by assumption) (by assumption)))))))) ?_
      | (refine rd_lenm (by (first | assumption | exact Fr.rd (by assumption) | exact Rd.ext (by first | assumption | exact Fr.rd (by assumption)) (by (first | assumption | exact Ext.push _ _ | exact Ext.trans (by assumption) (by first | assumption | exact Ext.push _ _) | exact Ext.trans (by assumption) (Ext.trans (by assumption) (by assumption)) | exact Ext.trans (by assumption) (Ext.trans (by assumption) (Ext.trans (by assumption) (by assumption))))))) ?_; intro hml; rw [maxLen_eq] at hml)
      | refine rd_idxm (by (first | assumption | exact Fr.rd (by assumption) | exact Rd.ext (by first | assumption | exact Fr.rd (by assumption)) (by (first | assumption | exact Ext.push _ _ | exact Ext.trans (by assumption) (by first | assumption | exact Ext.push _ _) | exact Ext.trans (by assumption) (Ext.trans (by assumption) (by assumption)) | exact Ext.trans (by assumption) (Ext.trans (by assumption) (Ext.trans (by assumption) (by assumption))))))) (by intro _; rfl) (by constructor <;> omega) ?_
      | refine rd_loadf (by (first | assumption | exact Fr.rd (by assumption) | exact Rd.ext (by first | assumption | exact Fr.rd (by assumption)) (by (first | assumption | exact Ext.push _ _ | exact Ext.trans (by assumption) (by first | assumption | exact Ext.push _ _) | exact Ext.trans (by assumption) (Ext.trans (by assumption) (by assumption)) | exact Ext.trans (by assumption) (Ext.trans (by assumption) (Ext.trans (by assumption) (by assumption))))))) (by intro _; exact trivial) (by constructor <;> omega) ?_
      | refine needP_intro (by first | omega | (constructor <;> omega)) ?_
      | refine And.intro ?_ ?_)
  refine loop_intro {p : Nat × Store × C // p.1 ≤ b.Rules.length ∧ Ext S p.2.1 ∧ Fr S.length p.2.1 [.sl 8 (((b.Rules.take p.1).filter (ruleOn b s)).map GRule.d)] [p.2.2]} [5, 7, 12, 13, 14, 15, 16, 17, 18, 19, 20, 21, 22, 23, 24, 25, 26, 27] (fun zb => [(12, .v (.s (.int .i64 (zb.1.1)))), (5, .v (.s zb.1.2.2))]) (fun zb => zb.1.2.1) (fun zb => b.Rules.length - zb.1.1) ⟨(0, _, _), Nat.zero_le _, Ext.push _ _, fr_lit0⟩ ?_ rfl ?_
  · (conv => whnf); repeat' (first | exact trivial | exact rfl | apply And.intro)
  rintro ⟨⟨i, Si, ci⟩, hi, hE, hF⟩; dsimp only
  replace hi : i ≤ b.Rules.length := hi
  replace hE : Ext S Si := hE
  replace hF : Fr S.length Si [.sl 8 (((b.Rules.take i).filter (ruleOn b s)).map GRule.d)] [ci] := hF
  have hfl := filter_len (ruleOn b s) b.Rules i
  repeat' ((conv => whnf); first
      | rw [wrapI_i64 (by omega)]
      | refine condP_dec (fun _ => ?_) (fun _ => ?_)
      | refine condP_ndec (fun _ => ?_) (fun _ => ?_)
      | refine condP_true rfl ?_
      | refine condP_false rfl ?_
      | refine condP_not (fun _ => ?_) (fun _ => ?_)
      | refine condP_intro (fun _ => ?_) (fun _ => ?_)
      | refine callP_eq (ev_iIsDenied _ _ _ _ _ _ (by (first | assumption | exact Fr.rd (by assumption) | exact Rd.ext (by first | assumption | exact Fr.rd (by assumption)) (by (first | assumption | exact Ext.push _ _ | exact Ext.trans (by assumption) (by first | assumption | exact Ext.push _ _) | exact Ext.trans (by assumption) (Ext.trans (by assumption) (by assumption)) | exact Ext.trans (by assumption) (Ext.trans (by assumption) (Ext.trans (by assumption) (by assumption)))))))) ?_
      | refine callP_eq (ev_iIsDenied _ _ ⟨_, _⟩ _ _ _ (by (first | assumption | exact Fr.rd (by assumption) | exact Rd.ext (by first | assumption | exact Fr.rd (by assumption)) (by (first | assumption | exact Ext.push _ _ | exact Ext.trans (by assumption) (by first | assumption | exact Ext.push _ _) | exact Ext.trans (by assumption) (Ext.trans (by assumption) (by assumption)) | exact Ext.trans (by assumption) (Ext.trans (by assumption) (Ext.trans (by assumption) (by assumption)))))))) ?_
      | (refine rd_lenm (by (first | assumption | exact Fr.rd (by assumption) | exact Rd.ext (by first | assumption | exact Fr.rd (by assumption)) (by (first | assumption | exact Ext.push _ _ | exact Ext.trans (by assumption) (by first | assumption | exact Ext.push _ _) | exact Ext.trans (by assumption) (Ext.trans (by assumption) (by assumption)) | exact Ext.trans (by assumption) (Ext.trans (by assumption) (Ext.trans (by assumption) (by assumption))))))) ?_; intro hml; rw [maxLen_eq] at hml)
      | refine rd_idxm (by (first | assumption | exact Fr.rd (by assumption) | exact Rd.ext (by first | assumption | exact Fr.rd (by assumption)) (by (first | assumption | exact Ext.push _ _ | exact Ext.trans (by assumption) (by first | assumption | exact Ext.push _ _) | exact Ext.trans (by assumption) (Ext.trans (by assumption) (by assumption)) | exact Ext.trans (by assumption) (Ext.trans (by assumption) (Ext.trans (by assumption) (by assumption))))))) (by intro _; rfl) (by constructor <;> omega) ?_
      | refine rd_loadf (by (first | assumption | exact Fr.rd (by assumption) | exact Rd.ext (by first | assumption | exact Fr.rd (by assumption)) (by (first | assumption | exact Ext.push _ _ | exact Ext.trans (by assumption) (by first | assumption | exact Ext.push _ _) | exact Ext.trans (by assumption) (Ext.trans (by assumption) (by assumption)) | exact Ext.trans (by assumption) (Ext.trans (by assumption) (Ext.trans (by assumption) (by assumption))))))) (by intro _; exact trivial) (by constructor <;> omega) ?_
      | refine needP_intro (by first | omega | (constructor <;> omega)) ?_
      | (refine fr_app1 (f := GRule.d) (by assumption) (by assumption) (by intro _; exact trivial) (by rfl) (by intro _; rfl) (by dsimp only [T91]; omega) (by omega) ?_; intro cN SN hEN hFN)
      | refine And.intro ?_ ?_)
  all_goals first
    | exact hE
    | (rw [List.take_of_length_le (by omega)] at hF; exact ⟨_, rfl, hF⟩)
    | (refine ⟨⟨(i + 1, _, _), by dsimp only; omega, by assumption, by first | (rw [filter_t (by omega) (by simp_all [ruleOn])]; assumption) | (rw [filter_f (by omega) (by simp_all [ruleOn])]; assumption)⟩, ?_, rfl, by dsimp only; omega⟩; (conv => whnf); repeat' (first | exact trivial | exact rfl | (show _ = _; congr 3; dsimp only; omega) | apply And.intro))
end Go.Proofs.Ytpnbkjinfphlkaa
