/- What is granted, traces, the widest extension. -/
import Derived.Test.YtibglkkmjigooaaGreatFnI
namespace Go.Proofs.YtibglkkmjigooaaGreat
open Go Go.ChangeShapes Go.WideShapes Go.ChangeAt Go.RowKit
set_option linter.unusedVariables false
set_option maxRecDepth 100000

theorem rd_lit1 {S : Store} (x : GGrant) : Rd (S ++ [⟨true, 7, [x.c]⟩]) [.sl 7 ([x].map GGrant.d)] [.sl S.length 0 1 1] := by
  refine Fr.rd (lo := S.length) (fr_push (xs := [x.d]) (js := []) ?_ List.nodup_nil (fun _ h => by cases h) (Nat.le_refl _) (by rw [maxLen_eq]; simp) rfl)
  rw [rep2_cons]
  exact ⟨x.c, [], [], [], rfl, rfl, repL_flat x.flat, by rw [rep2_nil]; exact ⟨rfl, rfl⟩⟩
theorem drop_take1 {α : Type} {l : List α} {i : Nat} (h : i < l.length) : (l.drop ((i : Nat) : Int).toNat).take ((((i : Nat) : Int) + 1).toNat - ((i : Nat) : Int).toNat) = [l[i]] := by
  rw [show ((i : Nat) : Int).toNat = i from by omega, show (((i : Nat) : Int) + 1).toNat = i + 1 from by omega, Nat.add_sub_cancel_left, drop_at h]; rfl
def gr1 (b : GBrowser) (g : GGrant) : Bool := isLent g || withinGrants [g] (packageOf b g.Ext).Grants
def isGranted (b : GBrowser) : Bool := b.Grants.all (gr1 b)
theorem within_nil (g : GGrant) : withinGrants [g] [] = false := rfl
theorem ev_iIsGranted (b : GBrowser) (cs : List C) (S : Store) (h : Rd S b.d cs) : EvA Tryz.prog 77 [.agg cs] S (fun r S' => r = .v (.s (.bool (isGranted b))) ∧ S' = S) := by
  obtain ⟨_, _, _, _, _, _, rfl, _, _, _, _, _, _⟩ := GBrowser.inv h
  refine EvA.drop rfl ?_
  refine evA_intro tok Tryz.func77 (by kernel_rfl) rfl ?_
  repeat' ((conv => whnf) <;> first
   | rw [wrapI_i64 (by omega)] | refine cD (fun _ => ?_) fun _ => ?_ | refine cE (fun _ => ?_) fun _ => ?_ | refine cT ?_ | refine cF ?_ | refine cN (fun _ => ?_) fun _ => ?_ | refine cI (fun _ => ?_) fun _ => ?_ | refine callP_eq (ev_iIsLent _ _) ?_ | refine callP_eq (ev_iIsWithin _ _ _ _ _ rdA rdA) ?_ | (refine callP_intro (ev_packageOf _ _ _ _ rdcA) ?_; rintro _ _ ⟨rfl, _, _, _, _, rfl, _, _, _, _⟩) | refine rE fun hml => ?_ | refine rI rdA rf ix ?_ | refine rd_loadf rdA tv ix ?_ | refine nP ?_ | refine draw_intro 12 [.fl 0, .st 1 [], .fl 2, .fl 3, .fl 4, .fl 5, .fl 6, .fl 7, .fl 8, .st 9 [4, 5], .fl 10, .st 11 [], .fl 12, .fl 13] (by rfl) (by kernel_rfl) ?_ | refine And.intro ?_ ?_)
  refine loop_intro {p : Nat × Store // p.1 ≤ b.Grants.length ∧ Ext S p.2 ∧ (b.Grants.drop p.1).all (gr1 b) = isGranted b} [2, 4, 8, 9, 10, 11, 12, 13, 14, 15, 16, 17, 18, 19, 20, 21, 22, 23, 24, 25, 26] (fun zb => [(8, .v (.s (.int .i64 zb.1.1)))]) (fun zb => zb.1.2) (fun zb => b.Grants.length - zb.1.1) ⟨(0, S), Nat.zero_le _, Ext.refl _, rfl⟩ ?_ rfl ?_
  · (conv => whnf); repeat' (first | exact trivial | exact rfl | apply And.intro)
  rintro ⟨⟨i, Si⟩, hi, hE, hinv⟩; dsimp only
  replace hi : i ≤ b.Grants.length := hi
  replace hE : Ext S Si := hE
  replace hinv : (b.Grants.drop i).all (gr1 b) = isGranted b := hinv
  by_cases hlt : i < b.Grants.length
  · rw [drop_at hlt, List.all_cons] at hinv
    repeat' ((conv => whnf) <;> first
     | rw [wrapI_i64 (by omega)] | refine cD (fun _ => ?_) fun _ => ?_ | refine cE (fun _ => ?_) fun _ => ?_ | refine cT ?_ | refine cF ?_ | refine cN (fun _ => ?_) fun _ => ?_ | refine cI (fun _ => ?_) fun _ => ?_ | refine callP_eq (ev_iIsLent _ _) ?_ | refine callP_eq (ev_iIsWithin _ _ _ _ _ rdA rdA) ?_ | (refine callP_intro (ev_packageOf _ _ _ _ rdcA) ?_; rintro _ _ ⟨rfl, _, _, _, _, rfl, _, _, _, _⟩) | refine rE fun hml => ?_ | refine rI rdA rf ix ?_ | refine rd_loadf rdA tv ix ?_ | refine nP ?_ | refine draw_intro 12 [.fl 0, .st 1 [], .fl 2, .fl 3, .fl 4, .fl 5, .fl 6, .fl 7, .fl 8, .st 9 [4, 5], .fl 10, .st 11 [], .fl 12, .fl 13] (by rfl) (by kernel_rfl) ?_ | (refine callP_eq (ev_iIsWithin [b.Grants[((i : Nat) : Int).toNat]'om] _ _ _ _ (rd_lit1 _) rdA) ?_) | refine And.intro ?_ ?_)
    all_goals first
      | assumption
      | exact hE.trans (Ext.push _ _)
      | (exfalso; omega)
      | rfl
      | (have hg : gr1 b b.Grants[i] = false := by
           show (isLent b.Grants[i] || withinGrants [b.Grants[i]] (packageOf b b.Grants[i].Ext).Grants) = false
           rw [show isLent b.Grants[i] = false from by assumption, show withinGrants [b.Grants[i]] (packageOf b b.Grants[i].Ext).Grants = false from by assumption]; rfl
         rw [hg, Bool.false_and] at hinv
         rw [← hinv]; rfl)
      | (have hg : gr1 b b.Grants[i] = true := by
           show (isLent b.Grants[i] || withinGrants [b.Grants[i]] (packageOf b b.Grants[i].Ext).Grants) = true
           first
             | (rw [show isLent b.Grants[i] = true from by assumption]; rfl)
             | (rw [show withinGrants [b.Grants[i]] (packageOf b b.Grants[i].Ext).Grants = true from by assumption, Bool.or_true])
         rw [hg, Bool.true_and] at hinv
         (refine ⟨⟨(i + 1, _), by dsimp only; omega, by first | assumption | exact hE.trans (Ext.push _ _) | exact hE.trans (by assumption) | exact Ext.trans (by assumption) (by assumption), hinv⟩, ?_, rfl, by dsimp only; omega⟩; (conv => whnf); repeat' (first | exact trivial | exact rfl | (show _ = _; congr 3; dsimp only; omega) | apply And.intro)))
  · rw [drop_end (by omega), List.all_nil] at hinv
    repeat' ((conv => whnf) <;> first
     | rw [wrapI_i64 (by omega)] | refine cD (fun _ => ?_) fun _ => ?_ | refine cE (fun _ => ?_) fun _ => ?_ | refine cT ?_ | refine cF ?_ | refine cN (fun _ => ?_) fun _ => ?_ | refine cI (fun _ => ?_) fun _ => ?_ | refine callP_eq (ev_iIsLent _ _) ?_ | refine callP_eq (ev_iIsWithin _ _ _ _ _ rdA rdA) ?_ | (refine callP_intro (ev_packageOf _ _ _ _ rdcA) ?_; rintro _ _ ⟨rfl, _, _, _, _, rfl, _, _, _, _⟩) | refine rE fun hml => ?_ | refine rI rdA rf ix ?_ | refine rd_loadf rdA tv ix ?_ | refine nP ?_ | refine draw_intro 12 [.fl 0, .st 1 [], .fl 2, .fl 3, .fl 4, .fl 5, .fl 6, .fl 7, .fl 8, .st 9 [4, 5], .fl 10, .st 11 [], .fl 12, .fl 13] (by rfl) (by kernel_rfl) ?_ | refine And.intro ?_ ?_)
    all_goals first
      | assumption
      | (exfalso; omega)
      | (rw [← hinv]; rfl)
theorem ev_sIsGranted (b : GBrowser) (cs : List C) (S : Store) (h : Rd S b.d cs) : EvA Tryz.prog 73 [.agg cs] S (fun r S' => r = .v (.s (.bool (isGranted b))) ∧ S' = S) := by
  obtain ⟨_, _, _, _, _, _, rfl, _, _, _, _, _, _⟩ := GBrowser.inv h
  refine evA_intro tok Tryz.func73 (by kernel_rfl) rfl ?_
  repeat' ((conv => whnf) <;> first
   | rw [wrapI_i64 (by omega)] | refine cD (fun _ => ?_) fun _ => ?_ | refine cE (fun _ => ?_) fun _ => ?_ | refine cT ?_ | refine cF ?_ | refine cN (fun _ => ?_) fun _ => ?_ | refine cI (fun _ => ?_) fun _ => ?_ | (refine callP_eq (ev_sPackOf _ _ _ _ rdcB) ?_) | refine callP_eq (ev_sIsLent _ _) ?_ | refine callP_eq (ev_sIsWithin _ _ _ _ _ aN aN) ?_ | refine rE fun hml => ?_ | refine rI aN rf ix ?_ | refine rd_loadf aN tv ix ?_ | (refine rd_loadm (f := GPackage.d) aN ix ?_; intro _ hcs; obtain ⟨_, _, _, _, rfl, _, _, _, _⟩ := GPackage.inv hcs) | (refine rd_slif aN rf om ?_; intro cSl hSl) | refine nP ?_ | refine draw_intro 12 [.fl 0, .fl 1, .fl 2, .fl 3, .fl 4, .fl 5, .fl 6, .st 7 [], .st 8 []] (by rfl) (by kernel_rfl) ?_ | refine draw_intro 20 [.fl 0, .fl 1, .fl 2, .fl 3, .fl 4, .st 5 [], .fl 6, .fl 7, .fl 8, .fl 9, .fl 10, .fl 11, .fl 12, .fl 13, .fl 14, .fl 15, .fl 16, .fl 17, .fl 18, .fl 19, .fl 20, .fl 21, .fl 22, .st 23 [], .fl 24, .fl 25, .fl 26] (by rfl) (by kernel_rfl) ?_ | refine And.intro ?_ ?_)
  refine loop_intro {i : Nat // i ≤ b.Grants.length ∧ (b.Grants.drop i).all (gr1 b) = isGranted b} [2, 3, 4, 5, 6, 7, 8, 9, 10, 11, 12, 13, 14, 15, 16, 17, 18, 19, 20, 21, 22, 23, 24, 25, 26, 27, 28, 29, 30, 31, 32, 33, 34, 35, 36, 37, 38, 39, 40, 41, 42, 43, 44, 45, 46] (fun zb => [(3, .v (.s (.int .i64 zb.1)))]) (fun _ => S) (fun zb => b.Grants.length - zb.1) ⟨0, Nat.zero_le _, rfl⟩ ?_ rfl ?_
  · (conv => whnf); repeat' (first | exact trivial | exact rfl | apply And.intro)
  rintro ⟨i, hi, hinv⟩; dsimp only
  by_cases hlt : i < b.Grants.length
  · rw [drop_at hlt, List.all_cons] at hinv
    have ht := drop_take1 hlt
    have hp := packOf_lt b (b.Grants[((i : Nat) : Int).toNat]'hlt).Ext
    have hg : gr1 b b.Grants[i] = (isLent b.Grants[i] || withinGrants [b.Grants[i]] (packageOf b b.Grants[i].Ext).Grants) := rfl
    rw [hg] at hinv
    by_cases hk : 0 ≤ packOf b (b.Grants[((i : Nat) : Int).toNat]'hlt).Ext
    · have hk2 : (packOf b (b.Grants[((i : Nat) : Int).toNat]'hlt).Ext).toNat < b.Packs.length := by omega
      have hpk : packageOf b (b.Grants[i]'hlt).Ext = b.Packs[(packOf b (b.Grants[((i : Nat) : Int).toNat]'hlt).Ext).toNat]'hk2 := packageOf_in hk hk2
      rw [hpk] at hinv
      repeat' ((conv => whnf) <;> first
       | rw [wrapI_i64 (by omega)] | refine cD (fun _ => ?_) fun _ => ?_ | refine cE (fun _ => ?_) fun _ => ?_ | refine cT ?_ | refine cF ?_ | refine cN (fun _ => ?_) fun _ => ?_ | refine cI (fun _ => ?_) fun _ => ?_ | (refine callP_eq (ev_sPackOf _ _ _ _ rdcB) ?_) | refine callP_eq (ev_sIsLent _ _) ?_ | refine callP_eq (ev_sIsWithin _ _ _ _ _ aN aN) ?_ | refine rE fun hml => ?_ | refine rI aN rf ix ?_ | refine rd_loadf aN tv ix ?_ | (refine rd_loadm (f := GPackage.d) aN ix ?_; intro _ hcs; obtain ⟨_, _, _, _, rfl, _, _, _, _⟩ := GPackage.inv hcs) | (refine rd_slif aN rf om ?_; intro cSl hSl) | refine nP ?_ | refine draw_intro 12 [.fl 0, .fl 1, .fl 2, .fl 3, .fl 4, .fl 5, .fl 6, .st 7 [], .st 8 []] (by rfl) (by kernel_rfl) ?_ | refine draw_intro 20 [.fl 0, .fl 1, .fl 2, .fl 3, .fl 4, .st 5 [], .fl 6, .fl 7, .fl 8, .fl 9, .fl 10, .fl 11, .fl 12, .fl 13, .fl 14, .fl 15, .fl 16, .fl 17, .fl 18, .fl 19, .fl 20, .fl 21, .fl 22, .st 23 [], .fl 24, .fl 25, .fl 26] (by rfl) (by kernel_rfl) ?_ | refine And.intro ?_ ?_)
      all_goals first
        | rfl
        | (exfalso; omega)
        | (rw [ht] at *; rw [show isGranted b = false from by rw [← hinv]; simp_all]; rfl)
        | (refine ⟨⟨i + 1, by omega, by rw [ht] at *; rw [← hinv]; simp_all⟩, ?_, rfl, by simp; omega⟩; (conv => whnf); repeat' (first | exact trivial | exact rfl | apply And.intro))
        | (refine ⟨⟨i + 1, by omega, by rw [← hinv]; simp_all⟩, ?_, rfl, by simp; omega⟩; (conv => whnf); repeat' (first | exact trivial | exact rfl | apply And.intro))
    · have hpo : packageOf b (b.Grants[i]'hlt).Ext = default := packageOf_out hk
      rw [hpo] at hinv
      have hwn : withinGrants [b.Grants[i]] (default : GPackage).Grants = false := rfl
      rw [hwn, Bool.or_false] at hinv
      repeat' ((conv => whnf) <;> first
       | rw [wrapI_i64 (by omega)] | refine cD (fun _ => ?_) fun _ => ?_ | refine cE (fun _ => ?_) fun _ => ?_ | refine cT ?_ | refine cF ?_ | refine cN (fun _ => ?_) fun _ => ?_ | refine cI (fun _ => ?_) fun _ => ?_ | (refine callP_eq (ev_sPackOf _ _ _ _ rdcB) ?_) | refine callP_eq (ev_sIsLent _ _) ?_ | refine callP_eq (ev_sIsWithin _ _ _ _ _ aN aN) ?_ | refine rE fun hml => ?_ | refine rI aN rf ix ?_ | refine rd_loadf aN tv ix ?_ | (refine rd_loadm (f := GPackage.d) aN ix ?_; intro _ hcs; obtain ⟨_, _, _, _, rfl, _, _, _, _⟩ := GPackage.inv hcs) | (refine rd_slif aN rf om ?_; intro cSl hSl) | refine nP ?_ | refine draw_intro 12 [.fl 0, .fl 1, .fl 2, .fl 3, .fl 4, .fl 5, .fl 6, .st 7 [], .st 8 []] (by rfl) (by kernel_rfl) ?_ | refine draw_intro 20 [.fl 0, .fl 1, .fl 2, .fl 3, .fl 4, .st 5 [], .fl 6, .fl 7, .fl 8, .fl 9, .fl 10, .fl 11, .fl 12, .fl 13, .fl 14, .fl 15, .fl 16, .fl 17, .fl 18, .fl 19, .fl 20, .fl 21, .fl 22, .st 23 [], .fl 24, .fl 25, .fl 26] (by rfl) (by kernel_rfl) ?_ | refine And.intro ?_ ?_)
      all_goals first
        | rfl
        | (exfalso; omega)
        | (rw [show isGranted b = false from by rw [← hinv]; simp_all]; rfl)
        | (refine ⟨⟨i + 1, by omega, by rw [← hinv]; simp_all⟩, ?_, rfl, by simp; omega⟩; (conv => whnf); repeat' (first | exact trivial | exact rfl | apply And.intro))
  · rw [drop_end (by omega), List.all_nil] at hinv
    repeat' ((conv => whnf) <;> first
     | rw [wrapI_i64 (by omega)] | refine cD (fun _ => ?_) fun _ => ?_ | refine cE (fun _ => ?_) fun _ => ?_ | refine cT ?_ | refine cF ?_ | refine cN (fun _ => ?_) fun _ => ?_ | refine cI (fun _ => ?_) fun _ => ?_ | (refine callP_eq (ev_sPackOf _ _ _ _ rdcB) ?_) | refine callP_eq (ev_sIsLent _ _) ?_ | refine callP_eq (ev_sIsWithin _ _ _ _ _ aN aN) ?_ | refine rE fun hml => ?_ | refine rI aN rf ix ?_ | refine rd_loadf aN tv ix ?_ | (refine rd_loadm (f := GPackage.d) aN ix ?_; intro _ hcs; obtain ⟨_, _, _, _, rfl, _, _, _, _⟩ := GPackage.inv hcs) | (refine rd_slif aN rf om ?_; intro cSl hSl) | refine nP ?_ | refine draw_intro 12 [.fl 0, .fl 1, .fl 2, .fl 3, .fl 4, .fl 5, .fl 6, .st 7 [], .st 8 []] (by rfl) (by kernel_rfl) ?_ | refine draw_intro 20 [.fl 0, .fl 1, .fl 2, .fl 3, .fl 4, .st 5 [], .fl 6, .fl 7, .fl 8, .fl 9, .fl 10, .fl 11, .fl 12, .fl 13, .fl 14, .fl 15, .fl 16, .fl 17, .fl 18, .fl 19, .fl 20, .fl 21, .fl 22, .st 23 [], .fl 24, .fl 25, .fl 26] (by rfl) (by kernel_rfl) ?_ | refine And.intro ?_ ?_)
    all_goals first
      | rfl
      | (exfalso; omega)
      | (rw [← hinv]; rfl)
def widStep (b : GBrowser) (s : GSite) (acc : Int × Int) (p : GPackage) : Int × Int := if ((powersOf b p.Ext s).length : Int) > acc.2 then (p.Ext, ((powersOf b p.Ext s).length : Int)) else acc
def widest (b : GBrowser) (s : GSite) : Int := (b.Packs.foldl (widStep b s) (0, -1)).1
theorem foldl_take {α β : Type} (f : β → α → β) (a : β) (l : List α) (i : Nat) (h : i < l.length) : (l.take (i + 1)).foldl f a = f ((l.take i).foldl f a) l[i] := by
  rw [List.take_succ_eq_append_getElem h, List.foldl_append]; rfl
def sumEd (ext : Int) : List GTab → Int
  | [] => 0
  | t :: r => ((t.Edits.filter (edBy1 ext)).length : Int) + sumEd ext r
theorem sumEd_app (ext : Int) : ∀ a b : List GTab, sumEd ext (a ++ b) = sumEd ext a + sumEd ext b
  | [], b => by rw [List.nil_append, sumEd]; omega
  | t :: a, b => by rw [List.cons_append, sumEd, sumEd_app ext a b, sumEd]; omega
theorem sumEd_take {ext : Int} {l : List GTab} {i : Nat} (h : i < l.length) : sumEd ext (l.take (i + 1)) = sumEd ext (l.take i) + ((l[i].Edits.filter (edBy1 ext)).length : Int) := by
  rw [List.take_succ_eq_append_getElem h, sumEd_app, sumEd, sumEd]; omega
theorem sumEd_le (ext : Int) : ∀ l : List GTab, 0 ≤ sumEd ext l ∧ sumEd ext l ≤ szL.szLL (l.map GTab.d)
  | [] => by rw [sumEd]; omega
  | t :: l => by
    have h1 := sumEd_le ext l
    have h2 := List.length_filter_le (edBy1 ext) t.Edits
    have h3 : t.Edits.length ≤ szL t.d := by simp only [GTab.d, szL, List.length_map]; omega
    rw [sumEd, List.map_cons, szL.szLL]; omega
def paOf (ext : Int) (p : GPackage) : Bool := decide (p.Ext = ext)
def trBase (b : GBrowser) (ext : Int) : Int := ((b.Grants.filter (grOf ext)).length : Int) + ((b.Rules.filter (ruOf ext)).length : Int) + storedBy b ext
def tracesOf (b : GBrowser) (ext : Int) : Int := trBase b ext + ((b.Packs.filter (paOf ext)).length : Int) + sumEd ext b.Tabs
end Go.Proofs.YtibglkkmjigooaaGreat
