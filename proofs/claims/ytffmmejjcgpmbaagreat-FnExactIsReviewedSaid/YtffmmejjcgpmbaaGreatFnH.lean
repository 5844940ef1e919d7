/- Packages of a browser; what is granted, what is ruled. -/
import Derived.Test.YtffmmejjcgpmbaaGreatFnG
namespace Go.Proofs.YtffmmejjcgpmbaaGreat
open Go Go.ChangeShapes Go.WideShapes Go.ChangeAt Go.RowKit
set_option linter.unusedVariables false
set_option maxRecDepth 100000

def packageOf (b : GBrowser) (ext : Int) : GPackage := if 0 ≤ packOf b ext then b.Packs.getD (packOf b ext).toNat default else default
theorem rd_empty {S : Store} {k : Nat} : Rd S [.sl k []] [.nil] := rd_one (q := false) (ids := []) (by unfold Rep; exact ⟨Nat.zero_le _, .inl ⟨rfl, .inl rfl, rfl⟩⟩)
theorem packageOf_in {b : GBrowser} {ext : Int} (h : 0 ≤ packOf b ext) (h2 : (packOf b ext).toNat < b.Packs.length) : packageOf b ext = b.Packs[(packOf b ext).toNat] := by
  unfold packageOf; rw [if_pos h, List.getD_eq_getElem?_getD, List.getElem?_eq_getElem h2]; rfl
theorem packageOf_out {b : GBrowser} {ext : Int} (h : ¬ 0 ≤ packOf b ext) : packageOf b ext = default := by unfold packageOf; rw [if_neg h]
theorem ev_packageOf (b : GBrowser) (ext : Int) (cs : List C) (S : Store) (h : Rd S b.d cs) : EvA Tryz.prog 163 [.agg cs, .s (.int .i64 ext)] S (fun r S' => S' = S ∧ ∃ c3 c4 c5 c6,
    r = .v (.agg [.int .i64 (packageOf b ext).Ext, .int .i64 (packageOf b ext).Author, .int .i64 (packageOf b ext).Version, c3, c4, c5, c6, .int .i64 (packageOf b ext).Seal]) ∧ Rd S [.sl 7 ((packageOf b ext).Grants.map GGrant.d)] [c3] ∧ Rd S [.sl 3 ((packageOf b ext).Flows.map GFlow.d)] [c4] ∧ Rd S [.sl 8 ((packageOf b ext).Rules.map GRule.d)] [c5] ∧ Rd S [.sl 4 ((packageOf b ext).Ops.map GOp.d)] [c6]) := by
  obtain ⟨_, _, _, _, _, _, rfl, _, _, _, _, _, _⟩ := GBrowser.inv h
  have hp := packOf_lt b ext
  by_cases h0 : 0 ≤ packOf b ext
  · rw [packageOf_in h0 (by omega)]
    refine evA_intro tok Tryz.func163 (by kernel_rfl) rfl ?_
    repeat' ((conv => whnf) <;> first
     | refine cD (fun _ => ?_) fun _ => ?_ | refine cE (fun _ => ?_) fun _ => ?_ | refine cT ?_ | refine cF ?_ | refine cN (fun _ => ?_) fun _ => ?_ | refine cI (fun _ => ?_) fun _ => ?_ | (refine callP_eq (ev_iPackOf _ _ _ _ rdcB) ?_) | refine rI aN rf ix ?_ | (refine rd_loadm (f := GPackage.d) aN ix ?_; intro _ hcs; obtain ⟨_, _, _, _, rfl, _, _, _, _⟩ := GPackage.inv hcs) | refine nP ?_ | refine And.intro ?_ ?_)
    all_goals first | rfl | (exfalso; omega) | exact ⟨_, _, _, _, rfl, by assumption, by assumption, by assumption, by assumption⟩
  · rw [packageOf_out h0]
    refine evA_intro tok Tryz.func163 (by kernel_rfl) rfl ?_
    repeat' ((conv => whnf) <;> first
     | refine cD (fun _ => ?_) fun _ => ?_ | refine cE (fun _ => ?_) fun _ => ?_ | refine cT ?_ | refine cF ?_ | refine cN (fun _ => ?_) fun _ => ?_ | refine cI (fun _ => ?_) fun _ => ?_ | (refine callP_eq (ev_iPackOf _ _ _ _ rdcB) ?_) | refine rI aN rf ix ?_ | (refine rd_loadm (f := GPackage.d) aN ix ?_; intro _ hcs; obtain ⟨_, _, _, _, rfl, _, _, _, _⟩ := GPackage.inv hcs) | refine nP ?_ | refine And.intro ?_ ?_)
    all_goals first | rfl | (exfalso; omega) | exact ⟨_, _, _, _, rfl, rd_empty, rd_empty, rd_empty, rd_empty⟩
def idxGo (v : GRule) : List GRule → Nat → Int
  | [], _ => -1
  | x :: r, i => if v = x then i else idxGo v r (i + 1)
theorem idxGo_mem (v : GRule) : ∀ (l : List GRule) (i : Nat), (0 ≤ idxGo v l i) ↔ v ∈ l
  | [], i => by simp [idxGo]
  | x :: r, i => by
    rw [idxGo, List.mem_cons]
    split
    · rename_i h; subst h; simp
    · rename_i h; rw [idxGo_mem v r (i + 1)]; simp [h]
theorem ev_idxRule (l : List GRule) (v : GRule) (c : C) (S : Store) (h : Rd S [.sl 8 (l.map GRule.d)] [c]) : EvA Tryz.prog 224 [.s c, .agg v.c] S (fun r S' => r = .v (.s (.int .i64 (idxGo v l 0))) ∧ S' = S) := by
  refine evA_intro tok Tryz.func224 (by kernel_rfl) rfl ?_
  repeat' ((conv => whnf) <;> first
   | rw [wrapI_i64 (by omega)] | refine cD (fun _ => ?_) fun _ => ?_ | refine cE (fun _ => ?_) fun _ => ?_ | refine cT ?_ | refine cF ?_ | refine cN (fun _ => ?_) fun _ => ?_ | refine cI (fun _ => ?_) fun _ => ?_ | refine rE fun hml => ?_ | refine rI aN rf ix ?_ | refine rd_loadf aN tv ix ?_ | refine nP ?_ | refine draw_intro 11 [.fl 0, .fl 1, .fl 2, .fl 3, .fl 4, .fl 5] (by rfl) (by kernel_rfl) ?_ | refine And.intro ?_ ?_)
  refine loop_intro {i : Nat // i ≤ l.length ∧ idxGo v (l.drop i) i = idxGo v l 0} [4, 5, 8, 9, 10, 11, 12, 13, 14, 15, 16, 17, 18] (fun zb => [(8, .v (.s (.int .i64 zb.1)))]) (fun _ => S) (fun zb => l.length - zb.1) ⟨0, Nat.zero_le _, rfl⟩ ?_ rfl ?_
  · (conv => whnf); repeat' (first | exact trivial | exact rfl | apply And.intro)
  rintro ⟨i, hi, hinv⟩; dsimp only
  repeat' ((conv => whnf) <;> first
   | rw [wrapI_i64 (by omega)] | refine cD (fun _ => ?_) fun _ => ?_ | refine cE (fun _ => ?_) fun _ => ?_ | refine cT ?_ | refine cF ?_ | refine cN (fun _ => ?_) fun _ => ?_ | refine cI (fun _ => ?_) fun _ => ?_ | refine rE fun hml => ?_ | refine rI aN rf ix ?_ | refine rd_loadf aN tv ix ?_ | refine nP ?_ | refine draw_intro 11 [.fl 0, .fl 1, .fl 2, .fl 3, .fl 4, .fl 5] (by rfl) (by kernel_rfl) ?_ | (refine condP_bool (GRule.eqb v _) (fun _ => ?_) (fun _ => ?_)) | refine And.intro ?_ ?_)
  all_goals first
    | rfl
    | (rw [drop_end (by omega), idxGo] at hinv; rw [← hinv]; rfl)
    | (rename_i hb; rw [GRule.eqb] at hb; have hb' := of_decide_eq_true hb; rw [drop_at (by omega), idxGo] at hinv; have hinv := (if_pos hb').symm.trans hinv; rw [← hinv]; rfl)
    | (rename_i hb; rw [GRule.eqb] at hb; have hb' := of_decide_eq_false hb
       (refine ⟨⟨i + 1, by omega, by rw [drop_at (by omega), idxGo] at hinv; exact (if_neg hb').symm.trans hinv⟩, ?_, rfl, by simp; omega⟩; (conv => whnf); repeat' (first | exact trivial | exact rfl | apply And.intro)))
theorem ev_hasRule (l : List GRule) (v : GRule) (c : C) (S : Store) (h : Rd S [.sl 8 (l.map GRule.d)] [c]) : EvA Tryz.prog 164 [.s c, .agg v.c] S (fun r S' => r = .v (.s (.bool (decide (v ∈ l)))) ∧ S' = S) := by
  have e : decide (v ∈ l) = decide (0 ≤ idxGo v l 0) := by rw [Bool.eq_iff_iff]; simp [idxGo_mem]
  rw [e]
  refine evA_intro tok Tryz.func164 (by kernel_rfl) rfl ?_
  repeat' ((conv => whnf) <;> first
   | refine callP_eq (ev_idxRule _ _ _ _ aN) ?_ | refine nP ?_ | refine And.intro ?_ ?_)
  all_goals rfl
def isRuled (b : GBrowser) : Bool := b.Rules.all fun r => decide (r ∈ (packageOf b r.Ext).Rules)
theorem ev_iIsRuled (b : GBrowser) (cs : List C) (S : Store) (h : Rd S b.d cs) : EvA Tryz.prog 91 [.agg cs] S (fun r S' => r = .v (.s (.bool (isRuled b))) ∧ S' = S) := by
  obtain ⟨_, _, _, _, _, _, rfl, _, _, _, _, _, _⟩ := GBrowser.inv h
  refine evA_intro tok Tryz.func91 (by kernel_rfl) rfl ?_
  repeat' ((conv => whnf) <;> first
   | rw [wrapI_i64 (by omega)] | refine cD (fun _ => ?_) fun _ => ?_ | refine cE (fun _ => ?_) fun _ => ?_ | refine cT ?_ | refine cF ?_ | refine cN (fun _ => ?_) fun _ => ?_ | refine cI (fun _ => ?_) fun _ => ?_ | (refine callP_intro (ev_packageOf _ _ _ _ rdcA) ?_; rintro _ _ ⟨rfl, _, _, _, _, rfl, _, _, _, _⟩) | refine callP_eq (ev_hasRule _ _ _ _ rdA) ?_ | refine rE fun hml => ?_ | refine rI rdA rf ix ?_ | refine rd_loadf rdA tv ix ?_ | refine nP ?_ | refine draw_intro 12 [.fl 0, .fl 1, .fl 2, .fl 5, .st 3 [5], .fl 4, .st 6 [], .fl 7] (by rfl) (by kernel_rfl) ?_ | refine And.intro ?_ ?_)
  refine loop_intro {i : Nat // i ≤ b.Rules.length ∧ ((b.Rules.drop i).all fun r => decide (r ∈ (packageOf b r.Ext).Rules)) = isRuled b} [2, 4, 8, 9, 10, 11, 12, 13, 14, 15, 16, 17, 18, 19, 20] (fun zb => [(8, .v (.s (.int .i64 zb.1)))]) (fun _ => S) (fun zb => b.Rules.length - zb.1) ⟨0, Nat.zero_le _, rfl⟩ ?_ rfl ?_
  · (conv => whnf); repeat' (first | exact trivial | exact rfl | apply And.intro)
  rintro ⟨i, hi, hinv⟩; dsimp only
  repeat' ((conv => whnf) <;> first
   | rw [wrapI_i64 (by omega)] | refine cD (fun _ => ?_) fun _ => ?_ | refine cE (fun _ => ?_) fun _ => ?_ | refine cT ?_ | refine cF ?_ | refine cN (fun _ => ?_) fun _ => ?_ | refine cI (fun _ => ?_) fun _ => ?_ | (refine callP_intro (ev_packageOf _ _ _ _ rdcA) ?_; rintro _ _ ⟨rfl, _, _, _, _, rfl, _, _, _, _⟩) | refine callP_eq (ev_hasRule _ _ _ _ rdA) ?_ | refine rE fun hml => ?_ | refine rI rdA rf ix ?_ | refine rd_loadf rdA tv ix ?_ | refine nP ?_ | refine draw_intro 12 [.fl 0, .fl 1, .fl 2, .fl 5, .st 3 [5], .fl 4, .st 6 [], .fl 7] (by rfl) (by kernel_rfl) ?_ | refine And.intro ?_ ?_)
  all_goals first
    | rfl
    | (rw [drop_end (by omega), List.all_nil] at hinv; rw [← hinv]; rfl)
    | (rw [drop_at (by omega), List.all_cons] at hinv; rw [show isRuled b = false from by rw [← hinv]; simp_all]; rfl)
    | (refine ⟨⟨i + 1, by omega, by rw [drop_at (by omega), List.all_cons] at hinv; rw [← hinv]; simp_all⟩, ?_, rfl, by simp; omega⟩; (conv => whnf); repeat' (first | exact trivial | exact rfl | apply And.intro))
theorem mem_any {α : Type} [DecidableEq α] (v : α) (l : List α) : decide (v ∈ l) = l.any fun x => decide (x = v) := by
  rw [Bool.eq_iff_iff]; simp
theorem any_take {α : Type} (P : α → Bool) (l : List α) (j : Nat) (h : j < l.length) : (l.take (j + 1)).any P = ((l.take j).any P || P l[j]) := by
  rw [List.take_succ_eq_append_getElem h, List.any_append]; simp
theorem ev_sIsRuled (b : GBrowser) (cs : List C) (S : Store) (h : Rd S b.d cs) : EvA Tryz.prog 88 [.agg cs] S (fun r S' => r = .v (.s (.bool (isRuled b))) ∧ S' = S) := by
  obtain ⟨_, _, _, _, _, _, rfl, _, _, _, _, _, _⟩ := GBrowser.inv h
  refine evA_intro tok Tryz.func88 (by kernel_rfl) rfl ?_
  repeat' ((conv => whnf) <;> first
   | rw [wrapI_i64 (by omega)] | refine cD (fun _ => ?_) fun _ => ?_ | refine cE (fun _ => ?_) fun _ => ?_ | refine cT ?_ | refine cF ?_ | refine cN (fun _ => ?_) fun _ => ?_ | refine cI (fun _ => ?_) fun _ => ?_ | (refine callP_eq (ev_sPackOf _ _ _ _ rdcB) ?_) | refine rE fun hml => ?_ | refine rI aN rf ix ?_ | refine rd_loadf aN tv ix ?_ | (refine rd_loadm (f := GPackage.d) aN ix ?_; intro _ hcs; obtain ⟨_, _, _, _, rfl, _, _, _, _⟩ := GPackage.inv hcs) | refine nP ?_ | refine draw_intro 14 [.fl 0, .fl 1, .fl 2, .fl 3, .fl 4, .fl 5, .fl 6, .st 7 [], .st 8 []] (by rfl) (by kernel_rfl) ?_ | refine draw_intro 37 [.fl 0, .fl 1, .fl 2, .fl 3, .fl 4, .fl 5, .fl 6, .fl 7, .fl 8, .fl 9, .fl 10, .fl 11, .fl 12, .fl 13, .fl 14, .fl 15, .fl 16, .fl 17, .st 18 []] (by rfl) (by kernel_rfl) ?_ | refine And.intro ?_ ?_)
  refine loop_intro {i : Nat // i ≤ b.Rules.length ∧ ((b.Rules.drop i).all fun r => decide (r ∈ (packageOf b r.Ext).Rules)) = isRuled b} [2, 3, 4, 5, 6, 7, 8, 9, 10, 11, 12, 13, 14, 15, 16, 17, 18, 19, 20, 21, 22, 23, 24, 25, 26, 27, 28, 29, 30, 31, 32, 33, 34, 35, 36, 37, 38, 39, 40, 41, 42, 43, 44, 45, 46, 47, 48, 49, 50, 51, 52, 53, 54, 55, 56] (fun zb => [(3, .v (.s (.int .i64 zb.1)))]) (fun _ => S) (fun zb => b.Rules.length - zb.1) ⟨0, Nat.zero_le _, rfl⟩ ?_ rfl ?_
  · (conv => whnf); repeat' (first | exact trivial | exact rfl | apply And.intro)
  rintro ⟨i, hi, hinv⟩; dsimp only
  repeat' ((conv => whnf) <;> first
   | rw [wrapI_i64 (by omega)] | refine cD (fun _ => ?_) fun _ => ?_ | refine cE (fun _ => ?_) fun _ => ?_ | refine cT ?_ | refine cF ?_ | refine cN (fun _ => ?_) fun _ => ?_ | refine cI (fun _ => ?_) fun _ => ?_ | (refine callP_eq (ev_sPackOf _ _ _ _ rdcB) ?_) | refine rE fun hml => ?_ | refine rI aN rf ix ?_ | refine rd_loadf aN tv ix ?_ | (refine rd_loadm (f := GPackage.d) aN ix ?_; intro _ hcs; obtain ⟨_, _, _, _, rfl, _, _, _, _⟩ := GPackage.inv hcs) | refine nP ?_ | refine draw_intro 14 [.fl 0, .fl 1, .fl 2, .fl 3, .fl 4, .fl 5, .fl 6, .st 7 [], .st 8 []] (by rfl) (by kernel_rfl) ?_ | refine draw_intro 37 [.fl 0, .fl 1, .fl 2, .fl 3, .fl 4, .fl 5, .fl 6, .fl 7, .fl 8, .fl 9, .fl 10, .fl 11, .fl 12, .fl 13, .fl 14, .fl 15, .fl 16, .fl 17, .st 18 []] (by rfl) (by kernel_rfl) ?_ | refine And.intro ?_ ?_)
  all_goals try first
    | rfl
    | (rw [drop_end (by omega), List.all_nil] at hinv; rw [← hinv]; rfl)
  have hi2 : i < b.Rules.length := by omega
  rw [drop_at hi2, List.all_cons] at hinv
  have hp := packOf_lt b (b.Rules[((i : Nat) : Int).toNat]'hi2).Ext
  by_cases hk : 0 ≤ packOf b (b.Rules[((i : Nat) : Int).toNat]'hi2).Ext
  · have hk2 : (packOf b (b.Rules[((i : Nat) : Int).toNat]'hi2).Ext).toNat < b.Packs.length := by omega
    have hpk : packageOf b (b.Rules[i]'hi2).Ext = b.Packs[(packOf b (b.Rules[((i : Nat) : Int).toNat]'hi2).Ext).toNat]'hk2 := packageOf_in hk hk2
    refine loop_intro {p : Nat × Bool // p.1 ≤ (b.Packs[(packOf b (b.Rules[((i : Nat) : Int).toNat]'hi2).Ext).toNat]'hk2).Rules.length ∧ p.2 = ((b.Packs[(packOf b (b.Rules[((i : Nat) : Int).toNat]'hi2).Ext).toNat]'hk2).Rules.take p.1).any fun x => decide (x = b.Rules[i]'hi2)} [5, 6, 22, 23, 24, 25, 26, 27, 28, 29, 30, 31, 32, 33, 34, 35, 36, 37, 38, 39, 40, 41, 42, 43, 44, 45, 46, 47, 48, 49, 50, 51, 52, 53, 54] (fun zb => [(6, .v (.s (.int .i64 zb.1.1))), (5, .v (.s (.bool zb.1.2)))]) (fun _ => S) (fun zb => (b.Packs[(packOf b (b.Rules[((i : Nat) : Int).toNat]'hi2).Ext).toNat]'hk2).Rules.length - zb.1.1) ⟨(0, false), Nat.zero_le _, rfl⟩ ?_ rfl ?_
    · (conv => whnf); repeat' (first | exact trivial | exact rfl | apply And.intro)
    rintro ⟨⟨j, sj⟩, hj, hjnv⟩; dsimp only
    replace hj : j ≤ (b.Packs[(packOf b (b.Rules[((i : Nat) : Int).toNat]'hi2).Ext).toNat]'hk2).Rules.length := hj; dsimp only at hjnv
    repeat' ((conv => whnf) <;> first
     | rw [wrapI_i64 (by omega)] | refine cD (fun _ => ?_) fun _ => ?_ | refine cE (fun _ => ?_) fun _ => ?_ | refine cT ?_ | refine cF ?_ | refine cN (fun _ => ?_) fun _ => ?_ | refine cI (fun _ => ?_) fun _ => ?_ | (refine callP_eq (ev_sPackOf _ _ _ _ rdcB) ?_) | refine rE fun hml => ?_ | refine rI aN rf ix ?_ | refine rd_loadf aN tv ix ?_ | (refine rd_loadm (f := GPackage.d) aN ix ?_; intro _ hcs; obtain ⟨_, _, _, _, rfl, _, _, _, _⟩ := GPackage.inv hcs) | refine nP ?_ | refine draw_intro 14 [.fl 0, .fl 1, .fl 2, .fl 3, .fl 4, .fl 5, .fl 6, .st 7 [], .st 8 []] (by rfl) (by kernel_rfl) ?_ | refine draw_intro 37 [.fl 0, .fl 1, .fl 2, .fl 3, .fl 4, .fl 5, .fl 6, .fl 7, .fl 8, .fl 9, .fl 10, .fl 11, .fl 12, .fl 13, .fl 14, .fl 15, .fl 16, .fl 17, .st 18 []] (by rfl) (by kernel_rfl) ?_ | refine And.intro ?_ ?_)
    all_goals first
      | (refine ⟨⟨(j + 1, true), by dsimp only; omega, ?_⟩, ?_, rfl, by dsimp only; omega⟩
         · dsimp only; rw [any_take _ _ _ (by omega), ← hjnv]; simp_all
         · (conv => whnf); repeat' (first | exact trivial | exact rfl | apply And.intro))
      | (refine ⟨⟨(j + 1, decide ((b.Packs[(packOf b (b.Rules[((i : Nat) : Int).toNat]'hi2).Ext).toNat]'hk2).Rules[j]'(by omega) = b.Rules[((i : Nat) : Int).toNat]'hi2)), by dsimp only; omega, ?_⟩, ?_, rfl, by dsimp only; omega⟩
         · dsimp only; rw [any_take _ _ _ (by omega), ← hjnv]; simp_all
         · (conv => whnf); repeat' (first | exact trivial | exact rfl | exact congrArg (fun z => AV.v (V.s (C.bool z))) (GRule.eqb _ _) | apply And.intro))
      | (exfalso; omega)
      | rfl
      | (rw [List.take_of_length_le (by omega)] at hjnv
         simp only [Int.toNat_natCast] at hjnv hpk
         have hs : sj = false := by assumption
         rw [hpk, mem_any, ← hjnv, hs, Bool.false_and] at hinv
         rw [← hinv] <;> rfl)
      | (rw [List.take_of_length_le (by omega)] at hjnv
         simp only [Int.toNat_natCast] at hjnv hpk
         have hs : sj = true := by assumption
         rw [hpk, mem_any, ← hjnv, hs, Bool.true_and] at hinv
         (refine ⟨⟨i + 1, by omega, hinv⟩, ?_, rfl, by simp; omega⟩; (conv => whnf); repeat' (first | exact trivial | exact rfl | apply And.intro)))
  · have hpo : packageOf b (b.Rules[i]'hi2).Ext = default := packageOf_out hk
    rw [hpo] at hinv
    have hinv : false = isRuled b := by rw [← hinv]; rfl
    refine loop_intro {p : Nat × Bool // p.1 ≤ 0 ∧ p.2 = false} [5, 6, 22, 23, 24, 25, 26, 27, 28, 29, 30, 31, 32, 33, 34, 35, 36, 37, 38, 39, 40, 41, 42, 43, 44, 45, 46, 47, 48, 49, 50, 51, 52, 53, 54] (fun zb => [(6, .v (.s (.int .i64 zb.1.1))), (5, .v (.s (.bool zb.1.2)))]) (fun _ => S) (fun zb => 0 - zb.1.1) ⟨(0, false), Nat.zero_le _, rfl⟩ ?_ rfl ?_
    · (conv => whnf); repeat' (first | exact trivial | exact rfl | apply And.intro)
    rintro ⟨⟨j, sj⟩, hj, hjnv⟩; dsimp only
    replace hj : j ≤ 0 := hj; dsimp only at hjnv
    repeat' ((conv => whnf) <;> first
     | rw [wrapI_i64 (by omega)] | refine cD (fun _ => ?_) fun _ => ?_ | refine cE (fun _ => ?_) fun _ => ?_ | refine cT ?_ | refine cF ?_ | refine cN (fun _ => ?_) fun _ => ?_ | refine cI (fun _ => ?_) fun _ => ?_ | (refine callP_eq (ev_sPackOf _ _ _ _ rdcB) ?_) | refine rE fun hml => ?_ | refine rI aN rf ix ?_ | refine rd_loadf aN tv ix ?_ | (refine rd_loadm (f := GPackage.d) aN ix ?_; intro _ hcs; obtain ⟨_, _, _, _, rfl, _, _, _, _⟩ := GPackage.inv hcs) | refine nP ?_ | refine draw_intro 14 [.fl 0, .fl 1, .fl 2, .fl 3, .fl 4, .fl 5, .fl 6, .st 7 [], .st 8 []] (by rfl) (by kernel_rfl) ?_ | refine draw_intro 37 [.fl 0, .fl 1, .fl 2, .fl 3, .fl 4, .fl 5, .fl 6, .fl 7, .fl 8, .fl 9, .fl 10, .fl 11, .fl 12, .fl 13, .fl 14, .fl 15, .fl 16, .fl 17, .st 18 []] (by rfl) (by kernel_rfl) ?_ | refine And.intro ?_ ?_)
    all_goals first
      | (exfalso; omega)
      | rfl
      | (rw [← hinv] <;> rfl)
      | (have hs : sj = true := by assumption
         rw [hs] at hjnv; cases hjnv)
end Go.Proofs.YtffmmejjcgpmbaaGreat
