/- The review of packages. -/
import Derived.Test.YtlmmdpmmdmhacaaGreatKm30
import Derived.Test.YtlmmdpmmdmhacaaGreatKm27
import Derived.Test.YtlmmdpmmdmhacaaGreatKm32
namespace Go.Proofs.YtlmmdpmmdmhacaaGreat
open Go Go.ChangeShapes Go.WideShapes Go.ChangeAt Go.RowKit
set_option linter.unusedVariables false
set_option linter.unusedSimpArgs false
set_option maxRecDepth 100000
theorem allZ_drop {α : Type} {P : α → Bool} {l : List α} {i : Nat} (h : i < l.length) : (l.drop i).all P = (P l[i] && (l.drop (i + 1)).all P) := by rw [drop_at h, List.all_cons]
def gfor (kind owner : Int) (g : GGrant) : Bool := isGrant g && decide (g.Kind = kind) && (decide (g.Pattern.Owner = 0) || decide (g.Pattern.Owner = owner))
def hasGF (l : List GGrant) (kind owner : Int) : Bool := l.any (gfor kind owner)
theorem gfor_f {kind owner : Int} {g : GGrant} (h : gfor kind owner g = false) : isGrant g = false ∨ (isGrant g = true ∧ ¬ g.Kind = kind) ∨ (isGrant g = true ∧ g.Kind = kind ∧ ¬ g.Pattern.Owner = 0 ∧ ¬ g.Pattern.Owner = owner) := by
  unfold gfor at h
  cases h1 : isGrant g
  · exact .inl rfl
  · rw [h1, Bool.true_and] at h
    by_cases h2 : g.Kind = kind
    · rw [decide_eq_true h2, Bool.true_and, Bool.or_eq_false_iff] at h
      exact .inr (.inr ⟨rfl, h2, of_decide_eq_false h.1, of_decide_eq_false h.2⟩)
    · exact .inr (.inl ⟨rfl, h2⟩)
theorem gfor_t {kind owner : Int} {g : GGrant} (h : gfor kind owner g = true) : isGrant g = true ∧ g.Kind = kind ∧ (g.Pattern.Owner = 0 ∨ (¬ g.Pattern.Owner = 0 ∧ g.Pattern.Owner = owner)) := by
  simp only [gfor, Bool.and_eq_true, Bool.or_eq_true, decide_eq_true_eq] at h
  exact ⟨h.1.1, h.1.2, by omega⟩
theorem any_drop {α : Type} {P : α → Bool} {l : List α} {i : Nat} (h : i < l.length) : (l.drop i).any P = (P l[i] || (l.drop (i + 1)).any P) := by rw [drop_at h, List.any_cons]
theorem ev_sHasGF (l : List GGrant) (kind owner : Int) (c : C) (S : Store) (h : Rd S [.sl 7 (l.map GGrant.d)] [c]) : EvA Tryz.prog 315 [.s c, .s (.int .i64 kind), .s (.int .i64 owner)] S (fun r S' => r = .v (.s (.bool (hasGF l kind owner))) ∧ S' = S) := by
  refine evA_intro tok Tryz.func315 (by kernel_rfl) rfl ?_
  skip
  refine loop_intro {i : Nat // i ≤ l.length ∧ (l.drop i).any (gfor kind owner) = hasGF l kind owner} [6, 7, 8, 9, 10, 11, 12, 13, 14, 15, 16, 17, 18, 19, 20, 21, 22, 23, 24, 25, 26, 27, 28, 29, 30, 31, 32, 33, 34, 35, 36, 37, 38, 39, 40, 41, 42, 43, 44, 45, 46] (fun zb => [(7, .v (.s (.int .i64 zb.1)))]) (fun _ => S) (fun zb => l.length - zb.1) ⟨0, Nat.zero_le _, rfl⟩ ?_ rfl ?_
  · (conv => whnf); repeat' (first | exact trivial | exact rfl | apply And.intro)
  rintro ⟨i, hi, hinv⟩; dsimp only
  by_cases hlt : i < l.length
  · have hlt' : ((i : Nat) : Int).toNat < l.length := hlt
    have hinv : (gfor kind owner (l[((i : Nat) : Int).toNat]'hlt') || (l.drop (i + 1)).any (gfor kind owner)) = hasGF l kind owner := (any_drop hlt).symm.trans hinv
    cases hg : gfor kind owner (l[((i : Nat) : Int).toNat]'hlt') with
    | true =>
      rw [hg, Bool.true_or] at hinv
      rw [← hinv]
      obtain ⟨g1, g2, g3 | ⟨g3, g4⟩⟩ := gfor_t hg
      all_goals
        repeat' ((conv => whnf) <;> first
         | (refine callP_eq (ev_sIsGrant (l[((i : Nat) : Int).toNat]'hlt') _) ?_) | (show CondP _ _ _; refine cS ?_) | refine cD (fun _ => ?_) fun _ => ?_ | refine cT ?_ | refine rE fun hml => ?_ | refine rI aN rf ix ?_ | refine rd_loadf aN tv ix ?_ | refine And.intro ?_ ?_)
        all_goals first
          | rfl
          | (exfalso; omega)
    | false =>
      rw [hg, Bool.false_or] at hinv
      rcases gfor_f hg with g1 | ⟨g1, g2⟩ | ⟨g1, g2, g3, g4⟩
      all_goals
        repeat' ((conv => whnf) <;> first
         | (refine callP_eq (ev_sIsGrant (l[((i : Nat) : Int).toNat]'hlt') _) ?_) | rw [wrapI_i64 (by omega)] | (show CondP _ _ _; refine cS ?_) | refine cF ?_ | refine rE fun hml => ?_ | refine rI aN rf ix ?_ | refine rd_loadf aN tv ix ?_)
        all_goals first
          | (refine ⟨⟨i + 1, by omega, hinv⟩, ?_, rfl, by simp; omega⟩; (conv => whnf); repeat' (first | exact trivial | exact rfl | apply And.intro))
          | (exfalso; omega)
  · rw [drop_end (by omega), List.any_nil] at hinv
    rw [← hinv]
    repeat' ((conv => whnf) <;> first
     | (show CondP _ _ _; refine cS ?_) | refine rE fun hml => ?_ | refine And.intro ?_ ?_)
    all_goals first
      | rfl
      | (exfalso; omega)
def allGF (l : List GGrant) (kind : Int) (owners : List Int) : Bool := owners.all (hasGF l kind)
theorem ev_l27All (l : List GGrant) (kind : Int) (owners : List Int) (c c2 : C) (S : Store) (h : Rd S [.sl 7 (l.map GGrant.d)] [c]) (h2 : Rd S [.sl 1 (owners.map dInt)] [c2]) : EvA Tryz.prog 251 [.s c, .s (.int .i64 kind), .s c2] S (fun r S' => r = .v (.s (.bool (allGF l kind owners))) ∧ S' = S) := by
  refine evA_intro tok Tryz.func251 (by kernel_rfl) rfl ?_
  skip
  refine loop_intro {i : Nat // i ≤ owners.length ∧ (owners.drop i).all (hasGF l kind) = allGF l kind owners} [6, 7, 8, 9, 10, 11, 12, 13, 14, 15, 16, 17, 18, 19, 20, 21] (fun zb => [(7, .v (.s (.int .i64 zb.1)))]) (fun _ => S) (fun zb => owners.length - zb.1) ⟨0, Nat.zero_le _, rfl⟩ ?_ rfl ?_
  · (conv => whnf); repeat' (first | exact trivial | exact rfl | apply And.intro)
  rintro ⟨i, hi, hinv⟩; dsimp only
  by_cases hlt : i < owners.length
  · have hlt' : ((i : Nat) : Int).toNat < owners.length := hlt
    have hinv : (hasGF l kind (owners[((i : Nat) : Int).toNat]'hlt') && (owners.drop (i + 1)).all (hasGF l kind)) = allGF l kind owners := (allZ_drop hlt).symm.trans hinv
    cases hg : hasGF l kind (owners[((i : Nat) : Int).toNat]'hlt') with
    | true =>
      rw [hg, Bool.true_and] at hinv
      repeat' ((conv => whnf) <;> first
       | rw [wrapI_i64 (by omega)] | (show CondP _ _ _; refine cS ?_) | refine callP_eq (ev_sHasGF _ _ _ _ _ aN) ?_ | refine rE fun hml => ?_ | refine rI aN rf ix ?_ | refine rd_loadf aN tv ix ?_)
      all_goals first
        | (refine ⟨⟨i + 1, by omega, hinv⟩, ?_, rfl, by simp; omega⟩; (conv => whnf); repeat' (first | exact trivial | exact rfl | apply And.intro))
        | (exfalso; omega)
    | false =>
      rw [hg, Bool.false_and] at hinv
      rw [← hinv]
      repeat' ((conv => whnf) <;> first
       | (show CondP _ _ _; refine cS ?_) | refine callP_eq (ev_sHasGF _ _ _ _ _ aN) ?_ | refine rE fun hml => ?_ | refine rI aN rf ix ?_ | refine rd_loadf aN tv ix ?_ | refine And.intro ?_ ?_)
      all_goals first
        | rfl
        | (exfalso; omega)
  · rw [drop_end (by omega), List.all_nil] at hinv
    rw [← hinv]
    repeat' ((conv => whnf) <;> first
     | (show CondP _ _ _; refine cS ?_) | refine rE fun hml => ?_ | refine And.intro ?_ ?_)
    all_goals first
      | rfl
      | (exfalso; omega)
def cov1 (p : GPattern) (g : GGrant) : Bool := decide (g.Kind = 3) && narrower p g.Pattern
def coveredBy (l : List GGrant) (p : GPattern) : Bool := l.any (cov1 p)
theorem cov1_cases (p : GPattern) (g : GGrant) : (¬ g.Kind = 3 ∧ cov1 p g = false) ∨ (g.Kind = 3 ∧ narrower p g.Pattern = cov1 p g) := by
  unfold cov1
  by_cases h : g.Kind = 3
  · exact .inr ⟨h, by rw [decide_eq_true h, Bool.true_and]⟩
  · exact .inl ⟨h, by rw [decide_eq_false h, Bool.false_and]⟩
def rulesCov (p : GPackage) : Bool := p.Rules.all fun r => coveredBy p.Grants r.Pattern
theorem ev_l27Rules (pk : GPackage) (cs : List C) (S : Store) (h : Rd S pk.d cs) : EvA Tryz.prog 250 [.agg cs] S (fun r S' => r = .v (.s (.bool (rulesCov pk))) ∧ S' = S) := by
  obtain ⟨_, _, _, _, rfl, _, _, _, _⟩ := GPackage.inv h
  refine evA_intro tok Tryz.func250 (by kernel_rfl) rfl ?_
  skip
  refine loop_intro {i : Nat // i ≤ pk.Rules.length ∧ (pk.Rules.drop i).all (fun r : GRule => coveredBy pk.Grants r.Pattern) = rulesCov pk} [2, 3, 4, 5, 6, 7, 8, 9, 10, 11, 12, 13, 14, 15, 16, 17, 18, 19, 20, 21, 22, 23, 24, 25, 26, 27, 28, 29, 30, 31, 32, 33, 34, 35, 36, 37, 38, 39, 40, 41, 42, 43, 44, 45, 46] (fun zb => [(3, .v (.s (.int .i64 zb.1)))]) (fun _ => S) (fun zb => pk.Rules.length - zb.1) ⟨0, Nat.zero_le _, rfl⟩ ?_ rfl ?_
  · (conv => whnf); repeat' (first | exact trivial | exact rfl | apply And.intro)
  rintro ⟨i, hi, hinv⟩; dsimp only
  by_cases hlt : i < pk.Rules.length
  · have hlt' : ((i : Nat) : Int).toNat < pk.Rules.length := hlt
    have hinv : (coveredBy pk.Grants (pk.Rules[((i : Nat) : Int).toNat]'hlt').Pattern && (pk.Rules.drop (i + 1)).all (fun r : GRule => coveredBy pk.Grants r.Pattern)) = rulesCov pk := (allZ_drop hlt).symm.trans hinv
    repeat' ((conv => whnf) <;> first
     | (show CondP _ _ _; refine cS ?_) | refine rE fun hml => ?_)
    all_goals try (exfalso; omega)
    refine loop_intro {p : Nat × Bool // p.1 ≤ pk.Grants.length ∧ p.2 = (pk.Grants.take p.1).any (cov1 (pk.Rules[((i : Nat) : Int).toNat]'hlt').Pattern)} [4, 5, 13, 14, 15, 16, 17, 18, 19, 20, 21, 22, 23, 24, 25, 26, 27, 28, 29, 30, 31, 32, 33, 34, 35, 36, 37, 38, 39, 40, 41, 42, 43, 44] (fun zb => [(5, .v (.s (.int .i64 zb.1.1))), (4, .v (.s (.bool zb.1.2)))]) (fun _ => S) (fun zb => pk.Grants.length - zb.1.1) ⟨(0, false), Nat.zero_le _, rfl⟩ ?_ rfl ?_
    · (conv => whnf); repeat' (first | exact trivial | exact rfl | apply And.intro)
    rintro ⟨⟨j, sj⟩, hj, hjnv⟩; dsimp only
    replace hj : j ≤ pk.Grants.length := hj; dsimp only at hjnv
    by_cases hjl : j < pk.Grants.length
    · have hjl' : ((j : Nat) : Int).toNat < pk.Grants.length := hjl
      have hst : (pk.Grants.take (j + 1)).any (cov1 (pk.Rules[((i : Nat) : Int).toNat]'hlt').Pattern) = (sj || cov1 (pk.Rules[((i : Nat) : Int).toNat]'hlt').Pattern (pk.Grants[((j : Nat) : Int).toNat]'hjl')) := by
        rw [any_take _ _ _ hjl, ← hjnv]; rfl
      cases sj with
      | true =>
        rw [Bool.true_or] at hst
        repeat' ((conv => whnf) <;> first
         | rw [wrapI_i64 (by omega)] | (show CondP _ _ _; refine cS ?_) | refine cT ?_ | refine rE fun hml => ?_ | refine draw_intro 20 [.fl 0, .fl 1, .fl 2, .fl 3, .fl 4, .fl 5, .fl 6, .fl 7, .fl 8, .fl 9, .fl 10, .fl 11, .fl 12, .fl 13, .fl 14, .fl 15, .fl 16, .fl 17, .fl 18, .fl 19, .fl 20, .fl 21, .st 22 [], .fl 23, .fl 24, .st 25 []] (by rfl) (by kernel_rfl) ?_)
        all_goals first
          | (refine ⟨⟨(j + 1, true), by dsimp only; omega, hst.symm⟩, ?_, rfl, by dsimp only; omega⟩; (conv => whnf); repeat' (first | exact trivial | exact rfl | apply And.intro))
          | (exfalso; omega)
          | (exfalso; simp_all; done)
      | false =>
        rw [Bool.false_or] at hst
        rcases cov1_cases (pk.Rules[((i : Nat) : Int).toNat]'hlt').Pattern (pk.Grants[((j : Nat) : Int).toNat]'hjl') with ⟨g1, g2⟩ | ⟨g1, g2⟩
        · rw [g2] at hst
          repeat' ((conv => whnf) <;> first
           | rw [wrapI_i64 (by omega)] | (show CondP _ _ _; refine cS ?_) | refine cF ?_ | refine rE fun hml => ?_ | refine rI aN rf ix ?_ | refine rd_loadf aN tv ix ?_ | refine draw_intro 20 [.fl 0, .fl 1, .fl 2, .fl 3, .fl 4, .fl 5, .fl 6, .fl 7, .fl 8, .fl 9, .fl 10, .fl 11, .fl 12, .fl 13, .fl 14, .fl 15, .fl 16, .fl 17, .fl 18, .fl 19, .fl 20, .fl 21, .st 22 [], .fl 23, .fl 24, .st 25 []] (by rfl) (by kernel_rfl) ?_)
          all_goals first
            | (refine ⟨⟨(j + 1, false), by dsimp only; omega, hst.symm⟩, ?_, rfl, by dsimp only; omega⟩; (conv => whnf); repeat' (first | exact trivial | exact rfl | apply And.intro))
            | (exfalso; omega)
            | (exfalso; simp_all; done)
        · rw [← g2] at hst
          repeat' ((conv => whnf) <;> first
           | (refine callP_eq (ev_sIsNarrower (pk.Rules[((i : Nat) : Int).toNat]'hlt').Pattern (pk.Grants[((j : Nat) : Int).toNat]'hjl').Pattern _) ?_) | rw [wrapI_i64 (by omega)] | (show CondP _ _ _; refine cS ?_) | refine cF ?_ | refine rE fun hml => ?_ | refine rI aN rf ix ?_ | refine rd_loadf aN tv ix ?_ | refine draw_intro 20 [.fl 0, .fl 1, .fl 2, .fl 3, .fl 4, .fl 5, .fl 6, .fl 7, .fl 8, .fl 9, .fl 10, .fl 11, .fl 12, .fl 13, .fl 14, .fl 15, .fl 16, .fl 17, .fl 18, .fl 19, .fl 20, .fl 21, .st 22 [], .fl 23, .fl 24, .st 25 []] (by rfl) (by kernel_rfl) ?_)
          all_goals first
            | (refine ⟨⟨(j + 1, _), by dsimp only; omega, hst.symm⟩, ?_, rfl, by dsimp only; omega⟩; (conv => whnf); repeat' (first | exact trivial | exact rfl | apply And.intro))
            | (exfalso; omega)
            | (exfalso; simp_all; done)
    · rw [List.take_of_length_le (by omega)] at hjnv
      cases sj with
      | true =>
        rw [show coveredBy pk.Grants (pk.Rules[((i : Nat) : Int).toNat]'hlt').Pattern = true from hjnv.symm, Bool.true_and] at hinv
        repeat' ((conv => whnf) <;> first
         | rw [wrapI_i64 (by omega)] | (show CondP _ _ _; refine cS ?_) | refine cF ?_ | refine rE fun hml => ?_)
        all_goals first
          | (refine ⟨⟨i + 1, by omega, hinv⟩, ?_, rfl, by simp; omega⟩; (conv => whnf); repeat' (first | exact trivial | exact rfl | apply And.intro))
          | (exfalso; omega)
      | false =>
        rw [show coveredBy pk.Grants (pk.Rules[((i : Nat) : Int).toNat]'hlt').Pattern = false from hjnv.symm, Bool.false_and] at hinv
        rw [← hinv]
        repeat' ((conv => whnf) <;> first
         | (show CondP _ _ _; refine cS ?_) | refine cT ?_ | refine rE fun hml => ?_ | refine And.intro ?_ ?_)
        all_goals first
          | rfl
          | (exfalso; omega)
  · rw [drop_end (by omega), List.all_nil] at hinv
    rw [← hinv]
    repeat' ((conv => whnf) <;> first
     | (show CondP _ _ _; refine cS ?_) | refine rE fun hml => ?_ | refine And.intro ?_ ?_)
    all_goals first
      | rfl
      | (exfalso; omega)
def opsB (kind : Int) (l : List GOp) : List Int := (l.filter fun x : GOp => decide (x.Kind = kind)).map (·.B)
theorem opsB_len (kind : Int) (l : List GOp) : (opsB kind l).length ≤ l.length := by unfold opsB; rw [List.length_map]; exact List.length_filter_le _ _
theorem opsB_t {kind : Int} {l : List GOp} {i : Nat} (h : i < l.length) (hb : (l[i]).Kind = kind) : opsB kind (l.take (i + 1)) = opsB kind (l.take i) ++ [(l[i]).B] := by
  unfold opsB; rw [filter_t h (by simpa using hb), List.map_append]; rfl
theorem opsB_f {kind : Int} {l : List GOp} {i : Nat} (h : i < l.length) (hb : ¬ (l[i]).Kind = kind) : opsB kind (l.take (i + 1)) = opsB kind (l.take i) := by
  unfold opsB; rw [filter_f h (by simpa using hb)]
def opOwners (l : List GOp) (kind : Int) : List Int := if areOps l then ordL (opsB kind l) else []
theorem ev_l27Owners (l : List GOp) (kind : Int) (c : C) (S : Store) (h : Rd S [.sl 4 (l.map GOp.d)] [c]) : EvA Tryz.prog 316 [.s c, .s (.int .i64 kind)] S (fun r S' => Ext S S' ∧ ∃ d, r = .v (.s d) ∧ Fr S.length S' [.sl 1 ((opOwners l kind).map dInt)] [d]) := by
  refine evA_intro tok Tryz.func316 (by kernel_rfl) rfl ?_
  skip
  rcases ho : areOps l with _ | _
  · rw [show opOwners l kind = [] from by unfold opOwners; rw [ho]; rfl]
    refine loop_intro Unit [5, 6, 8, 9, 10, 11, 12, 13, 14, 15, 16, 17, 18, 19, 20, 21, 22, 23, 24, 25, 26, 27, 28, 29, 30, 31] (fun _ => [(6, .v (.s (.int .i64 0))), (5, .v (.s (.sl S.length 0 0 0)))]) (fun _ => _) (fun _ => 0) () ?_ rfl ?_
    · (conv => whnf); repeat' (first | exact trivial | exact rfl | apply And.intro)
    intro _; dsimp only
    repeat' ((conv => whnf) <;> first
     | (show CondP _ _ _; refine cS ?_) | refine cD (fun _ => ?_) fun _ => ?_ | refine cF ?_ | refine callP_eq (ev_sAreOps _ _ _ rdA) ?_ | refine rE fun hml => ?_ | refine And.intro ?_ ?_)
    all_goals first
      | exact Ext.push _ _
      | exact ⟨_, rfl, fr_lit0⟩
      | (exfalso; omega)
      | (exfalso; simp_all; done)
  · rw [show opOwners l kind = putAll (opsB kind l) from by unfold opOwners; rw [ho, ← ordL_put]; rfl]
    obtain ⟨hall, hl16⟩ := ops_all ho
    refine loop_intro {p : Nat × Store × C // p.1 ≤ l.length ∧ Ext S p.2.1 ∧ Fr S.length p.2.1 [.sl 1 ((putAll (opsB kind (l.take p.1))).map dInt)] [p.2.2]} [5, 6, 8, 9, 10, 11, 12, 13, 14, 15, 16, 17, 18, 19, 20, 21, 22, 23, 24, 25, 26, 27, 28, 29, 30, 31] (fun zb => [(6, .v (.s (.int .i64 zb.1.1))), (5, .v (.s zb.1.2.2))]) (fun zb => zb.1.2.1) (fun zb => l.length - zb.1.1) ⟨(0, _, _), Nat.zero_le _, Ext.push _ _, fr_lit0⟩ ?_ rfl ?_
    · (conv => whnf); repeat' (first | exact trivial | exact rfl | apply And.intro)
    rintro ⟨⟨i, Si, ci⟩, hi, hE, hF⟩; dsimp only
    replace hi : i ≤ l.length := hi
    replace hE : Ext S Si := hE
    replace hF : Fr S.length Si [.sl 1 ((putAll (opsB kind (l.take i))).map dInt)] [ci] := hF
    have hb1 := opsB_len kind (l.take i)
    rw [List.length_take] at hb1
    have hb2 := putAll_len (opsB kind (l.take i))
    have hbr := h.ext hE
    by_cases hlt : i < l.length
    · by_cases hk : (l[((i : Nat) : Int).toNat]'hlt).Kind = kind
      · have hp : putAll (opsB kind (l.take (i + 1))) = putI (putAll (opsB kind (l.take i))) (l[((i : Nat) : Int).toNat]'hlt).B := by rw [opsB_t hlt hk, putAll_snoc]; rfl
        repeat' ((conv => whnf) <;> first
         | (show CondP _ _ _; refine cS ?_) | refine callP_eq (ev_sAreOps _ _ _ rdA) ?_ | refine rE fun hml => ?_ | refine rI rdA rf ix ?_ | refine rd_loadf rdA tv ix ?_)
        all_goals try (exfalso; omega)
        all_goals try (exfalso; simp_all; done)
        (conv => whnf)
        refine callP_intro (ev_l6Put (putAll (opsB kind (l.take i))) (l[((i : Nat) : Int).toNat]'hlt).B _ _ hF.rd (by omega)) ?_; rintro _ S2 ⟨e2, c2, rfl, f2⟩
        repeat' ((conv => whnf) <;> first
         | rw [wrapI_i64 (by omega)])
        all_goals first
          | (exfalso; omega)
          | (refine ⟨⟨(i + 1, _, _), by dsimp only; omega, hE.trans e2, by rw [hp]; exact f2.mono hE.len⟩, ?_, rfl, by dsimp only; omega⟩; (conv => whnf); repeat' (first | exact trivial | exact rfl | (show _ = _; congr 3; dsimp only; omega) | apply And.intro))
      · have hp : opsB kind (l.take (i + 1)) = opsB kind (l.take i) := opsB_f hlt hk
        repeat' ((conv => whnf) <;> first
         | rw [wrapI_i64 (by omega)] | (show CondP _ _ _; refine cS ?_) | refine callP_eq (ev_sAreOps _ _ _ rdA) ?_ | refine rE fun hml => ?_ | refine rI rdA rf ix ?_ | refine rd_loadf rdA tv ix ?_)
        all_goals first
          | (exfalso; omega)
          | (exfalso; simp_all; done)
          | (refine ⟨⟨(i + 1, _, _), by dsimp only; omega, hE, by rw [hp]; exact hF⟩, ?_, rfl, by dsimp only; omega⟩; (conv => whnf); repeat' (first | exact trivial | exact rfl | (show _ = _; congr 3; dsimp only; omega) | apply And.intro))
    · rw [List.take_of_length_le (by omega)] at hF
      repeat' ((conv => whnf) <;> first
       | (show CondP _ _ _; refine cS ?_) | refine cF ?_ | refine rE fun hml => ?_ | refine And.intro ?_ ?_)
      all_goals first
        | exact hE
        | (exfalso; omega)
        | exact ⟨_, rfl, hF⟩
def addF (ext to : Int) (out : List GFlow) (o : Int) : List GFlow := if o = to ∨ (⟨ext, o, to⟩ : GFlow) ∈ out then out else out ++ [⟨ext, o, to⟩]
def addFs (ext : Int) (out : List GFlow) (s : GSent) : List GFlow := (ownersIn s.Label).foldl (addF ext s.To) out
def needs (l : List GOp) (ext : Int) : List GFlow := if areOps l then (mach [] l).1.foldl (addFs ext) [] else []
theorem addF_len (ext to : Int) (out : List GFlow) (o : Int) : (addF ext to out o).length ≤ out.length + 1 := by
  unfold addF; split
  · omega
  · simp
theorem foldF_len (ext to : Int) : ∀ (x : List Int) (out : List GFlow), (x.foldl (addF ext to) out).length ≤ out.length + x.length
  | [], out => Nat.le_refl _
  | o :: x, out => by
    have h1 := foldF_len ext to x (addF ext to out o)
    have h2 := addF_len ext to out o
    rw [List.foldl_cons, List.length_cons]; omega
theorem foldFs_len (ext : Int) : ∀ (x : List GSent) (out : List GFlow), (x.foldl (addFs ext) out).length ≤ out.length + 9 * x.length
  | [], out => Nat.le_refl _
  | s :: x, out => by
    have h1 := foldFs_len ext x (addFs ext out s)
    have h2 := foldF_len ext s.To (ownersIn s.Label) out
    have h3 := ownersIn_len s.Label
    rw [List.foldl_cons, List.length_cons]
    have h4 : (addFs ext out s).length ≤ out.length + (ownersIn s.Label).length := h2
    omega
theorem foldl_take {α β : Type} (f : β → α → β) (a : β) {l : List α} {i : Nat} (h : i < l.length) : (l.take (i + 1)).foldl f a = f ((l.take i).foldl f a) l[i] := by
  rw [List.take_succ_eq_append_getElem h, List.foldl_append]; rfl
theorem addFs_none {ext : Int} {out : List GFlow} {x : GOp} {v b : List Int} (h : ¬ x.Kind = 5) : (opS x v b).foldl (addFs ext) out = out := by unfold opS; rw [if_neg h]; rfl
theorem addFs_one {ext : Int} {out : List GFlow} {x : GOp} {v b : List Int} (h : x.Kind = 5) : (opS x v b).foldl (addFs ext) out = (ownersIn (sentOf x v b).Label).foldl (addF ext (sentOf x v b).To) out := by unfold opS; rw [if_pos h]; rfl
set_option maxHeartbeats 4000000 in
theorem ev_sNeeds (l : List GOp) (ext : Int) (c : C) (S : Store) (h : Rd S [.sl 4 (l.map GOp.d)] [c]) : EvA Tryz.prog 168 [.s c, .s (.int .i64 ext)] S (fun r S' => Ext S S' ∧ ∃ d, r = .v (.s d) ∧ Fr S.length S' [.sl 3 ((needs l ext).map GFlow.d)] [d]) := by
  refine evA_intro tok Tryz.func168 (by kernel_rfl) rfl ?_
  skip
  (conv => whnf)
  refine callP_intro (ev_l21Zeros _) ?_; rintro _ S1 ⟨e1, cv, rfl, f1⟩
  skip
  (conv => whnf)
  refine callP_intro (ev_l21Zeros _) ?_; rintro _ S2 ⟨e2, cb, rfl, f2⟩
  have f0 : Fr S.length S2 [.sl 3 [], .sl 1 (zeros6.map dInt), .sl 1 (zeros6.map dInt)] [.sl S.length 0 0 0, cv, cb] := ((fr_lit0 (S := S) (k := 3)).join e1 f1 (Ext.push S _).len).join e2 f2 ((Ext.push S _).trans e1).len
  have E2 : Ext S S2 := ((Ext.push _ _).trans e1).trans e2
  clear f1 f2
  rcases ho : areOps l with _ | _
  · rw [show needs l ext = [] from by unfold needs; rw [ho]; rfl]
    skip
    (conv => whnf)
    refine loop_intro Unit [5, 8, 9, 10, 11, 12, 13, 17, 18, 19, 20, 21, 22, 23, 24, 25, 26, 27, 28, 29, 30, 31, 32, 33, 34, 35, 36, 37, 38, 39, 40, 41, 42, 43, 44, 45, 46, 47, 48, 49, 50, 51, 52, 53, 54, 55, 56, 57, 58, 59, 60, 61, 62, 63, 64, 65, 66, 67, 68, 69, 70, 71, 72, 73, 74] (fun _ => [(8, .v (.s (.int .i64 0))), (5, .v (.s (.sl S.length 0 0 0)))]) (fun _ => S2) (fun _ => 0) () ?_ rfl ?_
    · (conv => whnf); repeat' (first | exact trivial | exact rfl | apply And.intro)
    intro _; dsimp only
    repeat' ((conv => whnf) <;> first
     | (show CondP _ _ _; refine cS ?_) | refine cD (fun _ => ?_) fun _ => ?_ | refine cF ?_ | refine callP_eq (ev_sAreOps _ _ _ rdA) ?_ | refine rE fun hml => ?_ | refine And.intro ?_ ?_)
    all_goals first
      | exact E2
      | exact ⟨_, rfl, Fr.left (ds := [_]) (cs := [_]) f0 rfl⟩
      | (exfalso; omega)
      | (exfalso; simp_all; done)
  · rw [show needs l ext = (mach [] l).1.foldl (addFs ext) [] from by unfold needs; rw [ho]; rfl]
    obtain ⟨hall, hl16⟩ := ops_all ho
    skip
    (conv => whnf)
    refine loop_intro {p : Nat × Store × C // p.1 ≤ l.length ∧ Ext S p.2.1 ∧ Fr S.length p.2.1 [.sl 3 (((mach [] (l.take p.1)).1.foldl (addFs ext) []).map GFlow.d), .sl 1 ((mach [] (l.take p.1)).2.1.map dInt), .sl 1 ((mach [] (l.take p.1)).2.2.map dInt)] [p.2.2, cv, cb]} [5, 8, 9, 10, 11, 12, 13, 17, 18, 19, 20, 21, 22, 23, 24, 25, 26, 27, 28, 29, 30, 31, 32, 33, 34, 35, 36, 37, 38, 39, 40, 41, 42, 43, 44, 45, 46, 47, 48, 49, 50, 51, 52, 53, 54, 55, 56, 57, 58, 59, 60, 61, 62, 63, 64, 65, 66, 67, 68, 69, 70, 71, 72, 73, 74] (fun zb => [(8, .v (.s (.int .i64 zb.1.1))), (5, .v (.s zb.1.2.2))]) (fun zb => zb.1.2.1) (fun zb => l.length - zb.1.1) ⟨(0, _, _), Nat.zero_le _, E2, f0⟩ ?_ rfl ?_
    · (conv => whnf); repeat' (first | exact trivial | exact rfl | apply And.intro)
    rintro ⟨⟨i, Si, ci⟩, hi, hE, hF⟩; dsimp only
    replace hi : i ≤ l.length := hi
    replace hE : Ext S Si := hE
    replace hF : Fr S.length Si [.sl 3 (((mach [] (l.take i)).1.foldl (addFs ext) []).map GFlow.d), .sl 1 ((mach [] (l.take i)).2.1.map dInt), .sl 1 ((mach [] (l.take i)).2.2.map dInt)] [ci, cv, cb] := hF
    obtain ⟨g, gl⟩ := mach_good (values := []) hall i hi
    clear E2 f0 e1 e2
    by_cases hlt : i < l.length
    · have hmt := mach_take (values := []) hlt
      rcases hM : mach [] (l.take i) with ⟨se, v, b⟩
      rw [hM] at hF g gl hmt
      dsimp only at hF g gl
      have hol := foldFs_len ext se []
      rw [List.length_nil] at hol
      have hX : isOp (l[((i : Nat) : Int).toNat]'hlt) = true := hall _ (List.getElem_mem _)
      have hmt2 : mach [] (l.take (i + 1)) = (se ++ opS (l[((i : Nat) : Int).toNat]'hlt) v b, opV [] (l[((i : Nat) : Int).toNat]'hlt) v, opL (l[((i : Nat) : Int).toNat]'hlt) b) := hmt
      repeat' ((conv => whnf) <;> first
       | (show CondP _ _ _; refine cS ?_) | refine callP_eq (ev_sAreOps _ _ _ rdA) ?_ | refine rE fun hml => ?_ | refine rI rdA rf ix ?_ | refine rd_loadf rdA tv ix ?_)
      all_goals try (exfalso; omega)
      (conv => whnf)
      refine callP_intro (ev_l21Step (l[((i : Nat) : Int).toNat]'hlt) [] v b _ _ (.sl Si.length 0 0 0) _ _ _ _ (hE.trans (Ext.push _ _)) (hF.ext (Ext.push _ _)) fr_lit0.rd hX g) ?_; rintro _ S5 ⟨e5, f5, rfl⟩
      skip
      (conv => whnf)
      refine callP_intro (ev_sOwnersIn (sentOf (l[((i : Nat) : Int).toNat]'hlt) v b).Label _) ?_; rintro _ S6 ⟨e6, cy, rfl, f6⟩
      have f7 := f5.join e6 f6 e5.len
      have E7 := e5.trans e6
      clear f6 f5
      by_cases hk : (l[((i : Nat) : Int).toNat]'hlt).Kind = 5
      · have hd : decide ((l[((i : Nat) : Int).toNat]'hlt).Kind = 5) = true := decide_eq_true hk
        rw [hd]
        have hst : (se ++ opS (l[((i : Nat) : Int).toNat]'hlt) v b).foldl (addFs ext) [] = (ownersIn (sentOf (l[((i : Nat) : Int).toNat]'hlt) v b).Label).foldl (addF ext (sentOf (l[((i : Nat) : Int).toNat]'hlt) v b).To) (se.foldl (addFs ext) []) := by rw [List.foldl_append, addFs_one hk]
        have hyl := ownersIn_len (sentOf (l[((i : Nat) : Int).toNat]'hlt) v b).Label
        generalize sentOf (l[((i : Nat) : Int).toNat]'hlt) v b = sn at *
        generalize se.foldl (addFs ext) [] = o0 at *
        generalize ownersIn sn.Label = y at *
        generalize opV [] (l[((i : Nat) : Int).toNat]'hlt) v = v' at *
        generalize opL (l[((i : Nat) : Int).toNat]'hlt) b = b' at *
        have r3 := f7.rdAt (o := 3) (d := .sl 1 (y.map dInt)) rfl rfl
        skip
        (conv => whnf)
        refine loop_intro {p : Nat × Store × C // p.1 ≤ y.length ∧ Ext S p.2.1 ∧ Fr S.length p.2.1 [.sl 3 (((y.take p.1).foldl (addF ext sn.To) o0).map GFlow.d), .sl 1 (v'.map dInt), .sl 1 (b'.map dInt), .sl 1 (y.map dInt)] [p.2.2, cv, cb, cy]} [5, 12, 13, 41, 42, 43, 44, 45, 46, 47, 48, 49, 50, 51, 52, 53, 54, 55, 56, 57, 58, 59, 60, 61, 62, 63, 64, 65, 66, 67, 68, 69, 70, 71, 72, 73, 74] (fun zb => [(12, .v (.s (.int .i64 zb.1.1))), (5, .v (.s zb.1.2.2))]) (fun zb => zb.1.2.1) (fun zb => y.length - zb.1.1) ⟨(0, _, _), Nat.zero_le _, E7, f7⟩ ?_ rfl ?_
        · (conv => whnf); repeat' (first | exact trivial | exact rfl | apply And.intro)
        rintro ⟨⟨j, Sj, cj⟩, hj, hEj, hFj⟩; dsimp only
        replace hj : j ≤ y.length := hj
        replace hEj : Ext S Sj := hEj
        replace hFj : Fr S.length Sj [.sl 3 (((y.take j).foldl (addF ext sn.To) o0).map GFlow.d), .sl 1 (v'.map dInt), .sl 1 (b'.map dInt), .sl 1 (y.map dInt)] [cj, cv, cb, cy] := hFj
        have r4 := hFj.rdAt (o := 3) (d := .sl 1 (y.map dInt)) rfl rfl
        have r5 := hFj.rdAt (o := 0) rfl rfl
        have hpl := foldF_len ext sn.To (y.take j) o0
        rw [List.length_take] at hpl
        clear r3 f7 E7 e5 e6
        by_cases hjl : j < y.length
        · have hjs := foldl_take (addF ext sn.To) o0 hjl
          generalize (y.take j).foldl (addF ext sn.To) o0 = o1 at *
          by_cases h1 : (y[((j : Nat) : Int).toNat]'hjl) = sn.To
          · have hp : (y.take (j + 1)).foldl (addF ext sn.To) o0 = o1 := hjs.trans (if_pos (.inl h1))
            repeat' ((conv => whnf) <;> first
             | rw [wrapI_i64 (by omega)] | (show CondP _ _ _; refine cS ?_) | refine cT ?_ | refine cF ?_ | refine rE fun hml => ?_ | refine rI rdA rf ix ?_ | refine rd_loadf rdA tv ix ?_ | refine draw_intro 50 [.fl 0, .fl 1, .fl 2, .fl 3, .fl 4, .fl 5, .fl 6, .fl 7, .fl 8, .st 9 []] (by rfl) (by kernel_rfl) ?_ | refine draw_intro 58 [.fl 0, .fl 1, .fl 2, .fl 3, .fl 4, .fl 5, .fl 6, .fl 7, .fl 8, .fl 9, .st 10 [], .fl 11, .fl 12] (by rfl) (by kernel_rfl) ?_)
            all_goals first
              | (exfalso; omega)
              | (refine ⟨⟨(j + 1, _, _), by dsimp only; omega, hEj, by rw [hp]; exact hFj⟩, ?_, rfl, by dsimp only; omega⟩; (conv => whnf); repeat' (first | exact trivial | exact rfl | (show _ = _; congr 3; dsimp only; omega) | apply And.intro))
          · by_cases h2 : (⟨ext, y[((j : Nat) : Int).toNat]'hjl, sn.To⟩ : GFlow) ∈ o1
            · have hp : (y.take (j + 1)).foldl (addF ext sn.To) o0 = o1 := hjs.trans (if_pos (.inr h2))
              have h2d : decide ((⟨ext, y[((j : Nat) : Int).toNat]'hjl, sn.To⟩ : GFlow) ∈ o1) = true := decide_eq_true h2
              repeat' ((conv => whnf) <;> first
               | (refine callP_eq (ev_l20Has o1 ⟨ext, y[((j : Nat) : Int).toNat]'hjl, sn.To⟩ _ _ r5) ?_) | rw [wrapI_i64 (by omega)] | (show CondP _ _ _; refine cS ?_) | refine cT ?_ | refine rE fun hml => ?_ | refine rI rdA rf ix ?_ | refine rd_loadf rdA tv ix ?_ | refine draw_intro 50 [.fl 0, .fl 1, .fl 2, .fl 3, .fl 4, .fl 5, .fl 6, .fl 7, .fl 8, .st 9 []] (by rfl) (by kernel_rfl) ?_ | refine draw_intro 58 [.fl 0, .fl 1, .fl 2, .fl 3, .fl 4, .fl 5, .fl 6, .fl 7, .fl 8, .fl 9, .st 10 [], .fl 11, .fl 12] (by rfl) (by kernel_rfl) ?_)
              all_goals first
                | (exfalso; omega)
                | (refine ⟨⟨(j + 1, _, _), by dsimp only; omega, hEj, by rw [hp]; exact hFj⟩, ?_, rfl, by dsimp only; omega⟩; (conv => whnf); repeat' (first | exact trivial | exact rfl | (show _ = _; congr 3; dsimp only; omega) | apply And.intro))
            · have hp : (y.take (j + 1)).foldl (addF ext sn.To) o0 = o1 ++ [⟨ext, y[((j : Nat) : Int).toNat]'hjl, sn.To⟩] := hjs.trans (if_neg (fun hh => hh.elim h1 h2))
              have h2d : decide ((⟨ext, y[((j : Nat) : Int).toNat]'hjl, sn.To⟩ : GFlow) ∈ o1) = false := decide_eq_false h2
              repeat' ((conv => whnf) <;> first
               | (refine callP_eq (ev_l20Has o1 ⟨ext, y[((j : Nat) : Int).toNat]'hjl, sn.To⟩ _ _ r5) ?_) | rw [wrapI_i64 (by omega)] | (show CondP _ _ _; refine cS ?_) | refine cT ?_ | refine rE fun hml => ?_ | refine rI rdA rf ix ?_ | refine rd_loadf rdA tv ix ?_ | refine draw_intro 50 [.fl 0, .fl 1, .fl 2, .fl 3, .fl 4, .fl 5, .fl 6, .fl 7, .fl 8, .st 9 []] (by rfl) (by kernel_rfl) ?_ | refine draw_intro 58 [.fl 0, .fl 1, .fl 2, .fl 3, .fl 4, .fl 5, .fl 6, .fl 7, .fl 8, .fl 9, .st 10 [], .fl 11, .fl 12] (by rfl) (by kernel_rfl) ?_ | (refine fr_appAtF (f := GFlow.d) (o := 0) (l := o1) (m := [⟨ext, y[((j : Nat) : Int).toNat]'hjl, sn.To⟩]) (fun _ => trivial) hEj hFj rfl rfl (by rfl) rf (by dsimp only [T199]; simp only [List.length_cons, List.length_nil]; omega) (by simp only [List.length_cons, List.length_nil]; omega) ?_; intro cN SN hEN hFN hlN))
              all_goals first
                | (exfalso; omega)
                | (refine ⟨⟨(j + 1, _, _), by dsimp only; omega, by assumption, by rw [hp]; exact hFN⟩, ?_, rfl, by dsimp only; omega⟩; (conv => whnf); repeat' (first | exact trivial | exact rfl | (show _ = _; congr 3; dsimp only; omega) | apply And.intro))
        · rw [List.take_of_length_le (by omega), ← hst] at hFj
          repeat' ((conv => whnf) <;> first
           | rw [wrapI_i64 (by omega)] | (show CondP _ _ _; refine cS ?_) | refine cF ?_ | refine rE fun hml => ?_)
          all_goals first
            | (exfalso; omega)
            | (refine ⟨⟨(i + 1, _, _), by dsimp only; omega, hEj, by rw [hmt2]; exact Fr.left (ds := [_, _, _]) (cs := [_, _, _]) hFj rfl⟩, ?_, rfl, by dsimp only; omega⟩; (conv => whnf); repeat' (first | exact trivial | exact rfl | (show _ = _; congr 3; dsimp only; omega) | apply And.intro))
      · have hd : decide ((l[((i : Nat) : Int).toNat]'hlt).Kind = 5) = false := decide_eq_false hk
        rw [hd]
        have hst : (se ++ opS (l[((i : Nat) : Int).toNat]'hlt) v b).foldl (addFs ext) [] = se.foldl (addFs ext) [] := by rw [List.foldl_append, addFs_none hk]
        have r3 := f7.rdAt (o := 3) rfl rfl
        skip
        (conv => whnf)
        refine loop_intro Unit [5, 12, 13, 41, 42, 43, 44, 45, 46, 47, 48, 49, 50, 51, 52, 53, 54, 55, 56, 57, 58, 59, 60, 61, 62, 63, 64, 65, 66, 67, 68, 69, 70, 71, 72, 73, 74] (fun _ => [(12, .v (.s (.int .i64 0))), (5, .v (.s ci))]) (fun _ => S6) (fun _ => 0) () ?_ rfl ?_
        · (conv => whnf); repeat' (first | exact trivial | exact rfl | apply And.intro)
        intro _; dsimp only
        repeat' ((conv => whnf) <;> first
         | rw [wrapI_i64 (by omega)] | refine cD (fun _ => ?_) fun _ => ?_ | refine cF ?_ | refine rE fun hml => ?_)
        all_goals first
          | (exfalso; omega)
          | (refine ⟨⟨(i + 1, _, _), by dsimp only; omega, E7, by rw [hmt2]; dsimp only; rw [hst]; exact Fr.left (ds := [_, _, _]) (cs := [_, _, _]) f7 rfl⟩, ?_, rfl, by dsimp only; omega⟩; (conv => whnf); repeat' (first | exact trivial | exact rfl | (show _ = _; congr 3; dsimp only; omega) | apply And.intro))
    · rw [List.take_of_length_le (by omega)] at hF
      repeat' ((conv => whnf) <;> first
       | (show CondP _ _ _; refine cS ?_) | refine cF ?_ | refine rE fun hml => ?_ | refine And.intro ?_ ?_)
      all_goals first
        | exact hE
        | (exfalso; omega)
        | exact ⟨_, rfl, Fr.left (ds := [_]) (cs := [_]) hF rfl⟩
def flowIn (b : List GFlow) (f : GFlow) : Bool := isFlow f && decide (f ∈ b)
def flowsIn (a b : List GFlow) : Bool := a.all (flowIn b)
theorem ev_sFlowsIn (a b : List GFlow) (c c' : C) (S : Store) (h : Rd S [.sl 3 (a.map GFlow.d)] [c]) (h' : Rd S [.sl 3 (b.map GFlow.d)] [c']) : EvA Tryz.prog 317 [.s c, .s c'] S (fun r S' => r = .v (.s (.bool (flowsIn a b))) ∧ S' = S) := by
  refine evA_intro tok Tryz.func317 (by kernel_rfl) rfl ?_
  skip
  refine loop_intro {i : Nat // i ≤ a.length ∧ (a.drop i).all (flowIn b) = flowsIn a b} [4, 5, 6, 7, 8, 9, 10, 11, 12, 13, 14, 15, 16, 17, 18, 19, 20, 21, 22, 23, 24, 25, 26] (fun zb => [(5, .v (.s (.int .i64 zb.1)))]) (fun _ => S) (fun zb => a.length - zb.1) ⟨0, Nat.zero_le _, rfl⟩ ?_ rfl ?_
  · (conv => whnf); repeat' (first | exact trivial | exact rfl | apply And.intro)
  rintro ⟨i, hi, hinv⟩; dsimp only
  by_cases hlt : i < a.length
  · have hlt' : ((i : Nat) : Int).toNat < a.length := hlt
    have hinv : (flowIn b (a[((i : Nat) : Int).toNat]'hlt') && (a.drop (i + 1)).all (flowIn b)) = flowsIn a b := (allZ_drop hlt).symm.trans hinv
    cases h1 : isFlow (a[((i : Nat) : Int).toNat]'hlt') with
    | false =>
      rw [show flowIn b (a[((i : Nat) : Int).toNat]'hlt') = false from by unfold flowIn; rw [h1, Bool.false_and], Bool.false_and] at hinv
      rw [← hinv]
      repeat' ((conv => whnf) <;> first
       | (refine callP_eq (ev_sIsFlow (a[((i : Nat) : Int).toNat]'hlt') _) ?_) | (show CondP _ _ _; refine cS ?_) | refine cT ?_ | refine rE fun hml => ?_ | refine rI aN rf ix ?_ | refine rd_loadf aN tv ix ?_ | refine And.intro ?_ ?_)
      all_goals first
        | rfl
        | (exfalso; omega)
        | (exfalso; simp_all; done)
    | true =>
      by_cases h2 : a[((i : Nat) : Int).toNat]'hlt' ∈ b
      · have h2d : decide (a[((i : Nat) : Int).toNat]'hlt' ∈ b) = true := decide_eq_true h2
        rw [show flowIn b (a[((i : Nat) : Int).toNat]'hlt') = true from by unfold flowIn; rw [h1, h2d]; rfl, Bool.true_and] at hinv
        repeat' ((conv => whnf) <;> first
         | (refine callP_eq (ev_l20Has b (a[((i : Nat) : Int).toNat]'hlt') _ _ h') ?_) | (refine callP_eq (ev_sIsFlow (a[((i : Nat) : Int).toNat]'hlt') _) ?_) | rw [wrapI_i64 (by omega)] | (show CondP _ _ _; refine cS ?_) | refine rE fun hml => ?_ | refine rI aN rf ix ?_ | refine rd_loadf aN tv ix ?_)
        all_goals first
          | (refine ⟨⟨i + 1, by omega, hinv⟩, ?_, rfl, by simp; omega⟩; (conv => whnf); repeat' (first | exact trivial | exact rfl | apply And.intro))
          | (exfalso; omega)
          | (exfalso; simp_all; done)
      · have h2d : decide (a[((i : Nat) : Int).toNat]'hlt' ∈ b) = false := decide_eq_false h2
        rw [show flowIn b (a[((i : Nat) : Int).toNat]'hlt') = false from by unfold flowIn; rw [h1, h2d]; rfl, Bool.false_and] at hinv
        rw [← hinv]
        repeat' ((conv => whnf) <;> first
         | (refine callP_eq (ev_l20Has b (a[((i : Nat) : Int).toNat]'hlt') _ _ h') ?_) | (refine callP_eq (ev_sIsFlow (a[((i : Nat) : Int).toNat]'hlt') _) ?_) | (show CondP _ _ _; refine cS ?_) | refine rE fun hml => ?_ | refine rI aN rf ix ?_ | refine rd_loadf aN tv ix ?_ | refine And.intro ?_ ?_)
        all_goals first
          | rfl
          | (exfalso; omega)
          | (exfalso; simp_all; done)
  · rw [drop_end (by omega), List.all_nil] at hinv
    rw [← hinv]
    repeat' ((conv => whnf) <;> first
     | (show CondP _ _ _; refine cS ?_) | refine rE fun hml => ?_ | refine And.intro ?_ ?_)
    all_goals first
      | rfl
      | (exfalso; omega)
def tightFor (l : List GOp) (flows : List GFlow) (ext : Int) : Bool := areOps l && flowsIn (needs l ext) flows
theorem ev_sTight (l : List GOp) (flows : List GFlow) (ext : Int) (c c' : C) (S : Store) (h : Rd S [.sl 4 (l.map GOp.d)] [c]) (h' : Rd S [.sl 3 (flows.map GFlow.d)] [c']) : EvA Tryz.prog 254 [.s c, .s c', .s (.int .i64 ext)] S (fun r S' => r = .v (.s (.bool (tightFor l flows ext))) ∧ S' = S) := by
  refine EvA.drop rfl ?_
  rcases ho : areOps l with _ | _
  · rw [show tightFor l flows ext = false from by unfold tightFor; rw [ho]; rfl]
    refine evA_intro tok Tryz.func254 (by kernel_rfl) rfl ?_
    repeat' ((conv => whnf) <;> first
     | (show CondP _ _ _; refine cS ?_) | refine callP_eq (ev_sAreOps _ _ _ rdA) ?_ | refine And.intro ?_ ?_)
    all_goals first
      | rfl
      | exact Ext.refl _
      | (exfalso; simp_all; done)
  · rw [show tightFor l flows ext = flowsIn (needs l ext) flows from by unfold tightFor; rw [ho]; rfl]
    refine evA_intro tok Tryz.func254 (by kernel_rfl) rfl ?_
    repeat' ((conv => whnf) <;> first
     | (show CondP _ _ _; refine cS ?_) | refine callP_eq (ev_sAreOps _ _ _ rdA) ?_)
    all_goals try (exfalso; simp_all; done)
    (conv => whnf)
    refine callP_intro (ev_sNeeds l ext _ _ h) ?_; rintro _ S1 ⟨e1, c1, rfl, f1⟩
    have h1 := h'.ext e1
    repeat' ((conv => whnf) <;> first
     | (refine callP_eq (ev_sFlowsIn (needs l ext) flows _ _ _ f1.rd h1) ?_) | refine And.intro ?_ ?_)
    all_goals first
      | rfl
      | exact e1
theorem ev_sOwnersRead (l : List GOp) (c : C) (S : Store) (h : Rd S [.sl 4 (l.map GOp.d)] [c]) : EvA Tryz.prog 252 [.s c] S (fun r S' => Ext S S' ∧ ∃ d, r = .v (.s d) ∧ Fr S.length S' [.sl 1 ((opOwners l 1).map dInt)] [d]) := by
  refine evA_intro tok Tryz.func252 (by kernel_rfl) rfl ?_
  (conv => whnf)
  refine callP_intro (ev_l27Owners l 1 _ _ h) ?_; rintro _ S1 ⟨e1, c1, rfl, f1⟩
  repeat' ((conv => whnf) <;> first
   | refine And.intro ?_ ?_)
  all_goals first
    | exact e1
    | exact ⟨_, rfl, f1⟩
theorem ev_sOwnersSent (l : List GOp) (c : C) (S : Store) (h : Rd S [.sl 4 (l.map GOp.d)] [c]) : EvA Tryz.prog 253 [.s c] S (fun r S' => Ext S S' ∧ ∃ d, r = .v (.s d) ∧ Fr S.length S' [.sl 1 ((opOwners l 5).map dInt)] [d]) := by
  refine evA_intro tok Tryz.func253 (by kernel_rfl) rfl ?_
  (conv => whnf)
  refine callP_intro (ev_l27Owners l 5 _ _ h) ?_; rintro _ S1 ⟨e1, c1, rfl, f1⟩
  repeat' ((conv => whnf) <;> first
   | refine And.intro ?_ ?_)
  all_goals first
    | exact e1
    | exact ⟨_, rfl, f1⟩
def review (key : Int) (p : GPackage) : Int :=
  if isPackage p = true then
    if isSealed key p = true then
      if rulesCov p = true then
        if allGF p.Grants 1 (opOwners p.Ops 1) = true then
          if allGF p.Grants 3 (opOwners p.Ops 5) = true then
            if tightFor p.Ops p.Flows p.Ext = true then 0 else 6
          else 5
        else 4
      else 3
    else 2
  else 1
theorem review_cases (key : Int) (p : GPackage) :
    (isPackage p = false ∧ review key p = 1) ∨
    (isPackage p = true ∧ isSealed key p = false ∧ review key p = 2) ∨
    (isPackage p = true ∧ isSealed key p = true ∧ rulesCov p = false ∧ review key p = 3) ∨
    (isPackage p = true ∧ isSealed key p = true ∧ rulesCov p = true ∧
      ((allGF p.Grants 1 (opOwners p.Ops 1) = false ∧ review key p = 4) ∨
      (allGF p.Grants 1 (opOwners p.Ops 1) = true ∧ allGF p.Grants 3 (opOwners p.Ops 5) = false ∧ review key p = 5) ∨
      (allGF p.Grants 1 (opOwners p.Ops 1) = true ∧ allGF p.Grants 3 (opOwners p.Ops 5) = true ∧ tightFor p.Ops p.Flows p.Ext = false ∧ review key p = 6) ∨
      (allGF p.Grants 1 (opOwners p.Ops 1) = true ∧ allGF p.Grants 3 (opOwners p.Ops 5) = true ∧ tightFor p.Ops p.Flows p.Ext = true ∧ review key p = 0))) := by
  unfold review
  cases h1 : isPackage p <;> cases h2 : isSealed key p <;> cases h3 : rulesCov p <;> cases h4 : allGF p.Grants 1 (opOwners p.Ops 1) <;> cases h5 : allGF p.Grants 3 (opOwners p.Ops 5) <;> cases h6 : tightFor p.Ops p.Flows p.Ext <;> simp
set_option maxHeartbeats 4000000 in
theorem ev_sReview (key : Int) (p : GPackage) (cs : List C) (S : Store) (h : Rd S p.d cs) (hz : szL p.d ≤ 4194304) : EvA Tryz.prog 188 [.s (.int .i64 key), .agg cs] S (fun r S' => r = .v (.s (.int .i64 (review key p))) ∧ S' = S) := by
  have hR := h
  obtain ⟨_, _, _, _, rfl, q1, q2, q3, q4⟩ := GPackage.inv h
  refine EvA.drop rfl ?_
  rcases review_cases key p with ⟨a1, a0⟩ | ⟨a1, a2, a0⟩ | ⟨a1, a2, a3, a0⟩ | ⟨a1, a2, a3, hrest⟩
  · rw [a0]
    refine evA_intro tok Tryz.func188 (by kernel_rfl) rfl ?_
    repeat' ((conv => whnf) <;> first
     | (refine callP_eq (ev_sIsPackage p _ _ hR) ?_) | (show CondP _ _ _; refine cS ?_) | refine And.intro ?_ ?_)
    all_goals first
      | rfl
      | exact Ext.refl _
      | (exfalso; simp_all; done)
  · rw [a0]
    refine evA_intro tok Tryz.func188 (by kernel_rfl) rfl ?_
    repeat' ((conv => whnf) <;> first
     | (refine callP_eq (ev_sIsSealed key p _ _ hR hz) ?_) | (refine callP_eq (ev_sIsPackage p _ _ hR) ?_) | (show CondP _ _ _; refine cS ?_) | refine And.intro ?_ ?_)
    all_goals first
      | rfl
      | exact Ext.refl _
      | (exfalso; simp_all; done)
  · rw [a0]
    refine evA_intro tok Tryz.func188 (by kernel_rfl) rfl ?_
    repeat' ((conv => whnf) <;> first
     | (refine callP_eq (ev_l27Rules p _ _ hR) ?_) | (refine callP_eq (ev_sIsSealed key p _ _ hR hz) ?_) | (refine callP_eq (ev_sIsPackage p _ _ hR) ?_) | (show CondP _ _ _; refine cS ?_) | refine And.intro ?_ ?_)
    all_goals first
      | rfl
      | exact Ext.refl _
      | (exfalso; simp_all; done)
  rcases hrest with ⟨a4, a0⟩ | ⟨a4, a5, a0⟩ | ⟨a4, a5, a6, a0⟩ | ⟨a4, a5, a6, a0⟩
  all_goals
    rw [a0]
    refine evA_intro tok Tryz.func188 (by kernel_rfl) rfl ?_
  all_goals
    repeat' ((conv => whnf) <;> first
     | (refine callP_eq (ev_l27Rules p _ _ hR) ?_) | (refine callP_eq (ev_sIsSealed key p _ _ hR hz) ?_) | (refine callP_eq (ev_sIsPackage p _ _ hR) ?_) | (show CondP _ _ _; refine cS ?_) | refine draw_intro 19 [.fl 0, .fl 1, .fl 2, .fl 3, .st 4 [0, 1], .st 5 [], .fl 6, .st 7 []] (by rfl) (by kernel_rfl) ?_ | refine draw_intro 27 [.fl 0, .fl 1, .fl 2, .fl 3, .st 4 [0, 1], .st 5 [], .fl 6, .st 7 []] (by rfl) (by kernel_rfl) ?_)
    all_goals try (exfalso; simp_all; done)
    (conv => whnf)
    refine callP_intro (ev_sOwnersRead p.Ops _ _ q4) ?_; rintro _ S1 ⟨e1, c1, rfl, f1⟩
    have g1 : Rd S1 [.sl 7 (p.Grants.map GGrant.d)] _ := q1.ext e1
  · repeat' ((conv => whnf) <;> first
     | (refine callP_eq (ev_l27All p.Grants 1 (opOwners p.Ops 1) _ _ _ g1 f1.rd) ?_) | (show CondP _ _ _; refine cS ?_) | refine And.intro ?_ ?_)
    all_goals first
      | rfl
      | exact e1
      | (exfalso; simp_all; done)
  all_goals
    repeat' ((conv => whnf) <;> first
     | (refine callP_eq (ev_l27All p.Grants 1 (opOwners p.Ops 1) _ _ _ g1 f1.rd) ?_) | (show CondP _ _ _; refine cS ?_) | refine draw_intro 19 [.fl 0, .fl 1, .fl 2, .fl 3, .st 4 [0, 1], .st 5 [], .fl 6, .st 7 []] (by rfl) (by kernel_rfl) ?_ | refine draw_intro 27 [.fl 0, .fl 1, .fl 2, .fl 3, .st 4 [0, 1], .st 5 [], .fl 6, .st 7 []] (by rfl) (by kernel_rfl) ?_ | refine And.intro ?_ ?_)
    all_goals try (exfalso; simp_all; done)
    (conv => whnf)
    refine callP_intro (ev_sOwnersSent p.Ops _ _ (q4.ext e1)) ?_; rintro _ S2 ⟨e2, c2, rfl, f2⟩
    have g2 : Rd S2 [.sl 7 (p.Grants.map GGrant.d)] _ := g1.ext e2
    have e3 := e1.trans e2
    have t1 := q4.ext e3
    have t2 := q2.ext e3
  · repeat' ((conv => whnf) <;> first
     | (refine callP_eq (ev_l27All p.Grants 3 (opOwners p.Ops 5) _ _ _ g2 f2.rd) ?_) | (show CondP _ _ _; refine cS ?_) | refine And.intro ?_ ?_)
    all_goals first
      | rfl
      | exact e3
      | (exfalso; simp_all; done)
  all_goals
    repeat' ((conv => whnf) <;> first
     | (refine callP_eq (ev_sTight p.Ops p.Flows p.Ext _ _ _ t1 t2) ?_) | (refine callP_eq (ev_l27All p.Grants 3 (opOwners p.Ops 5) _ _ _ g2 f2.rd) ?_) | (show CondP _ _ _; refine cS ?_) | refine And.intro ?_ ?_)
    all_goals first
      | rfl
      | exact e3
      | (exfalso; simp_all; done)
end Go.Proofs.YtlmmdpmmdmhacaaGreat
