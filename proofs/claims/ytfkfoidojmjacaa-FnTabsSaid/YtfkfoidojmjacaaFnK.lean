/- Equal lists, tabs, packages, browsers. -/
import Derived.Test.YtfkfoidojmjacaaFnB
namespace Go.Proofs.Ytfkfoidojmjacaa
open Go Go.ChangeShapes Go.WideShapes Go.ChangeAt Go.RowKit
set_option linter.unusedVariables false
set_option linter.unusedSimpArgs false
set_option maxRecDepth 100000

theorem eql_step {α : Type} {l m : List α} {i : Nat} (hi : i < l.length) (hm : i < m.length) (h : l.drop i = m.drop i ↔ l = m) : (l[i] = m[i] → (l.drop (i + 1) = m.drop (i + 1) ↔ l = m)) ∧ (l[i] ≠ m[i] → l ≠ m) := by
  rw [drop_at hi, drop_at hm, List.cons.injEq] at h
  exact ⟨fun e => ⟨fun g => h.1 ⟨e, g⟩, fun g => (h.2 g).2⟩, fun e g => e (h.2 g).1⟩
theorem eql_end {α : Type} {l m : List α} {i : Nat} (hi : l.length ≤ i) (hm : m.length ≤ i) (h : l.drop i = m.drop i ↔ l = m) : l = m := by
  rw [drop_end hi, drop_end hm] at h
  exact h.1 rfl
theorem ev_EqNode (l m : List GNode) (c c' : C) (S : Store) (h : Rd S [.sl 5 (l.map GNode.d)] [c]) (h' : Rd S [.sl 5 (m.map GNode.d)] [c']) : EvA Try.prog 28 [.s c, .s c'] S (fun r S' => r = .v (.s (.bool (decide (l = m)))) ∧ S' = S) := by
  by_cases hlen : l.length = m.length
  · refine evA_intro tok Try.func28 (by kernel_rfl) rfl ?_
    repeat' ((conv => whnf) <;> first
     | rw [wrapI_i64 (by omega)] | refine cD (fun _ => ?_) fun _ => ?_ | refine cE (fun _ => ?_) fun _ => ?_ | refine cT ?_ | refine cF ?_ | refine cN (fun _ => ?_) fun _ => ?_ | refine cI (fun _ => ?_) fun _ => ?_ | refine rE fun hml => ?_ | refine rI aN rf ix ?_ | refine rd_loadf aN tv ix ?_ | refine nP ?_ | refine draw_intro 16 [.fl 0, .fl 1, .fl 2, .fl 3, .fl 4, .fl 5, .fl 6, .fl 7, .fl 8] (by rfl) (by kernel_rfl) ?_ | refine And.intro ?_ ?_)
    all_goals try first | rfl | (exfalso; omega)
    refine loop_intro {i : Nat // i ≤ l.length ∧ (l.drop i = m.drop i ↔ l = m)} [4, 5, 13, 14, 15, 16, 17, 18, 19, 20, 21, 22, 23, 24, 25] (fun zb => [(13, .v (.s (.int .i64 zb.1)))]) (fun _ => S) (fun zb => l.length - zb.1) ⟨0, Nat.zero_le _, by simp⟩ ?_ rfl ?_
    · (conv => whnf); repeat' (first | exact trivial | exact rfl | apply And.intro)
    rintro ⟨i, hi, hinv⟩; dsimp only
    repeat' ((conv => whnf) <;> first
     | rw [wrapI_i64 (by omega)] | refine cD (fun _ => ?_) fun _ => ?_ | refine cE (fun _ => ?_) fun _ => ?_ | refine cT ?_ | refine cF ?_ | refine cN (fun _ => ?_) fun _ => ?_ | refine cI (fun _ => ?_) fun _ => ?_ | refine rE fun hml => ?_ | refine rI aN rf ix ?_ | refine rd_loadf aN tv ix ?_ | refine nP ?_ | refine draw_intro 16 [.fl 0, .fl 1, .fl 2, .fl 3, .fl 4, .fl 5, .fl 6, .fl 7, .fl 8] (by rfl) (by kernel_rfl) ?_ | refine And.intro ?_ ?_)
    all_goals first
      | rfl
      | (exfalso; omega)
      | (have he := eql_end (by omega) (by omega) hinv; rw [decide_eq_true he] <;> rfl)
      | (have hlt : i < l.length := by omega
         have hs := (eql_step hlt (by omega) hinv).2
         have hb : ¬ (l[((i : Nat) : Int).toNat]'hlt = m[((i : Nat) : Int).toNat]'(by omega)) := by first | assumption | exact of_decide_eq_false (by assumption) | exact of_decide_eq_false ((GNode.eqb _ _).symm.trans (by assumption))
         rw [decide_eq_false (hs hb)] <;> rfl)
      | (have hlt : i < l.length := by omega
         have hs := (eql_step hlt (by omega) hinv).1
         have hb : l[((i : Nat) : Int).toNat]'hlt = m[((i : Nat) : Int).toNat]'(by omega) := by first | assumption | exact of_decide_eq_true (by assumption) | exact of_decide_eq_true ((GNode.eqb _ _).symm.trans (by assumption))
         (refine ⟨⟨i + 1, by omega, hs hb⟩, ?_, rfl, by dsimp only; omega⟩; (conv => whnf); repeat' (first | exact trivial | exact rfl | apply And.intro)))
  · rw [decide_eq_false (p := l = m) (fun e => hlen (by rw [e]))]
    refine evA_intro tok Try.func28 (by kernel_rfl) rfl ?_
    repeat' ((conv => whnf) <;> first
     | rw [wrapI_i64 (by omega)] | refine cD (fun _ => ?_) fun _ => ?_ | refine cE (fun _ => ?_) fun _ => ?_ | refine cT ?_ | refine cF ?_ | refine cN (fun _ => ?_) fun _ => ?_ | refine cI (fun _ => ?_) fun _ => ?_ | refine rE fun hml => ?_ | refine rI aN rf ix ?_ | refine rd_loadf aN tv ix ?_ | refine nP ?_ | refine draw_intro 16 [.fl 0, .fl 1, .fl 2, .fl 3, .fl 4, .fl 5, .fl 6, .fl 7, .fl 8] (by rfl) (by kernel_rfl) ?_ | refine And.intro ?_ ?_)
    all_goals first | rfl | (exfalso; omega)
theorem ev_EqEdit (l m : List GEdit) (c c' : C) (S : Store) (h : Rd S [.sl 6 (l.map GEdit.d)] [c]) (h' : Rd S [.sl 6 (m.map GEdit.d)] [c']) : EvA Try.prog 33 [.s c, .s c'] S (fun r S' => r = .v (.s (.bool (decide (l = m)))) ∧ S' = S) := by
  by_cases hlen : l.length = m.length
  · refine evA_intro tok Try.func33 (by kernel_rfl) rfl ?_
    repeat' ((conv => whnf) <;> first
     | rw [wrapI_i64 (by omega)] | refine cD (fun _ => ?_) fun _ => ?_ | refine cE (fun _ => ?_) fun _ => ?_ | refine cT ?_ | refine cF ?_ | refine cN (fun _ => ?_) fun _ => ?_ | refine cI (fun _ => ?_) fun _ => ?_ | refine rE fun hml => ?_ | refine rI aN rf ix ?_ | refine rd_loadf aN tv ix ?_ | refine nP ?_ | refine draw_intro 16 [.fl 0, .fl 1, .fl 2, .fl 3, .fl 4, .fl 5, .fl 6, .fl 7, .fl 8] (by rfl) (by kernel_rfl) ?_ | refine And.intro ?_ ?_)
    all_goals try first | rfl | (exfalso; omega)
    refine loop_intro {i : Nat // i ≤ l.length ∧ (l.drop i = m.drop i ↔ l = m)} [4, 5, 13, 14, 15, 16, 17, 18, 19, 20, 21, 22, 23, 24, 25] (fun zb => [(13, .v (.s (.int .i64 zb.1)))]) (fun _ => S) (fun zb => l.length - zb.1) ⟨0, Nat.zero_le _, by simp⟩ ?_ rfl ?_
    · (conv => whnf); repeat' (first | exact trivial | exact rfl | apply And.intro)
    rintro ⟨i, hi, hinv⟩; dsimp only
    repeat' ((conv => whnf) <;> first
     | rw [wrapI_i64 (by omega)] | refine cD (fun _ => ?_) fun _ => ?_ | refine cE (fun _ => ?_) fun _ => ?_ | refine cT ?_ | refine cF ?_ | refine cN (fun _ => ?_) fun _ => ?_ | refine cI (fun _ => ?_) fun _ => ?_ | refine rE fun hml => ?_ | refine rI aN rf ix ?_ | refine rd_loadf aN tv ix ?_ | refine nP ?_ | refine draw_intro 16 [.fl 0, .fl 1, .fl 2, .fl 3, .fl 4, .fl 5, .fl 6, .fl 7, .fl 8] (by rfl) (by kernel_rfl) ?_ | refine And.intro ?_ ?_)
    all_goals first
      | rfl
      | (exfalso; omega)
      | (have he := eql_end (by omega) (by omega) hinv; rw [decide_eq_true he] <;> rfl)
      | (have hlt : i < l.length := by omega
         have hs := (eql_step hlt (by omega) hinv).2
         have hb : ¬ (l[((i : Nat) : Int).toNat]'hlt = m[((i : Nat) : Int).toNat]'(by omega)) := by first | assumption | exact of_decide_eq_false (by assumption) | exact of_decide_eq_false ((GEdit.eqb _ _).symm.trans (by assumption))
         rw [decide_eq_false (hs hb)] <;> rfl)
      | (have hlt : i < l.length := by omega
         have hs := (eql_step hlt (by omega) hinv).1
         have hb : l[((i : Nat) : Int).toNat]'hlt = m[((i : Nat) : Int).toNat]'(by omega) := by first | assumption | exact of_decide_eq_true (by assumption) | exact of_decide_eq_true ((GEdit.eqb _ _).symm.trans (by assumption))
         (refine ⟨⟨i + 1, by omega, hs hb⟩, ?_, rfl, by dsimp only; omega⟩; (conv => whnf); repeat' (first | exact trivial | exact rfl | apply And.intro)))
  · rw [decide_eq_false (p := l = m) (fun e => hlen (by rw [e]))]
    refine evA_intro tok Try.func33 (by kernel_rfl) rfl ?_
    repeat' ((conv => whnf) <;> first
     | rw [wrapI_i64 (by omega)] | refine cD (fun _ => ?_) fun _ => ?_ | refine cE (fun _ => ?_) fun _ => ?_ | refine cT ?_ | refine cF ?_ | refine cN (fun _ => ?_) fun _ => ?_ | refine cI (fun _ => ?_) fun _ => ?_ | refine rE fun hml => ?_ | refine rI aN rf ix ?_ | refine rd_loadf aN tv ix ?_ | refine nP ?_ | refine draw_intro 16 [.fl 0, .fl 1, .fl 2, .fl 3, .fl 4, .fl 5, .fl 6, .fl 7, .fl 8] (by rfl) (by kernel_rfl) ?_ | refine And.intro ?_ ?_)
    all_goals first | rfl | (exfalso; omega)
theorem ev_Eqint (l m : List Int) (c c' : C) (S : Store) (h : Rd S [.sl 1 (l.map dInt)] [c]) (h' : Rd S [.sl 1 (m.map dInt)] [c']) : EvA Try.prog 34 [.s c, .s c'] S (fun r S' => r = .v (.s (.bool (decide (l = m)))) ∧ S' = S) := by
  by_cases hlen : l.length = m.length
  · refine evA_intro tok Try.func34 (by kernel_rfl) rfl ?_
    repeat' ((conv => whnf) <;> first
     | rw [wrapI_i64 (by omega)] | refine cD (fun _ => ?_) fun _ => ?_ | refine cE (fun _ => ?_) fun _ => ?_ | refine cT ?_ | refine cF ?_ | refine cN (fun _ => ?_) fun _ => ?_ | refine cI (fun _ => ?_) fun _ => ?_ | refine rE fun hml => ?_ | refine rI aN rf ix ?_ | refine rd_loadf aN tv ix ?_ | refine nP ?_ | refine draw_intro 16 [.fl 0, .fl 1, .fl 2, .fl 3, .fl 4, .fl 5, .fl 6, .fl 7, .fl 8] (by rfl) (by kernel_rfl) ?_ | refine And.intro ?_ ?_)
    all_goals try first | rfl | (exfalso; omega)
    refine loop_intro {i : Nat // i ≤ l.length ∧ (l.drop i = m.drop i ↔ l = m)} [4, 5, 13, 14, 15, 16, 17, 18, 19, 20, 21, 22, 23, 24, 25] (fun zb => [(13, .v (.s (.int .i64 zb.1)))]) (fun _ => S) (fun zb => l.length - zb.1) ⟨0, Nat.zero_le _, by simp⟩ ?_ rfl ?_
    · (conv => whnf); repeat' (first | exact trivial | exact rfl | apply And.intro)
    rintro ⟨i, hi, hinv⟩; dsimp only
    repeat' ((conv => whnf) <;> first
     | rw [wrapI_i64 (by omega)] | refine cD (fun _ => ?_) fun _ => ?_ | refine cE (fun _ => ?_) fun _ => ?_ | refine cT ?_ | refine cF ?_ | refine cN (fun _ => ?_) fun _ => ?_ | refine cI (fun _ => ?_) fun _ => ?_ | refine rE fun hml => ?_ | refine rI aN rf ix ?_ | refine rd_loadf aN tv ix ?_ | refine nP ?_ | refine draw_intro 16 [.fl 0, .fl 1, .fl 2, .fl 3, .fl 4, .fl 5, .fl 6, .fl 7, .fl 8] (by rfl) (by kernel_rfl) ?_ | refine And.intro ?_ ?_)
    all_goals first
      | rfl
      | (exfalso; omega)
      | (have he := eql_end (by omega) (by omega) hinv; rw [decide_eq_true he] <;> rfl)
      | (have hlt : i < l.length := by omega
         have hs := (eql_step hlt (by omega) hinv).2
         have hb : ¬ (l[((i : Nat) : Int).toNat]'hlt = m[((i : Nat) : Int).toNat]'(by omega)) := by first | assumption | exact of_decide_eq_false (by assumption)
         rw [decide_eq_false (hs hb)] <;> rfl)
      | (have hlt : i < l.length := by omega
         have hs := (eql_step hlt (by omega) hinv).1
         have hb : l[((i : Nat) : Int).toNat]'hlt = m[((i : Nat) : Int).toNat]'(by omega) := by first | assumption | exact of_decide_eq_true (by assumption)
         (refine ⟨⟨i + 1, by omega, hs hb⟩, ?_, rfl, by dsimp only; omega⟩; (conv => whnf); repeat' (first | exact trivial | exact rfl | apply And.intro)))
  · rw [decide_eq_false (p := l = m) (fun e => hlen (by rw [e]))]
    refine evA_intro tok Try.func34 (by kernel_rfl) rfl ?_
    repeat' ((conv => whnf) <;> first
     | rw [wrapI_i64 (by omega)] | refine cD (fun _ => ?_) fun _ => ?_ | refine cE (fun _ => ?_) fun _ => ?_ | refine cT ?_ | refine cF ?_ | refine cN (fun _ => ?_) fun _ => ?_ | refine cI (fun _ => ?_) fun _ => ?_ | refine rE fun hml => ?_ | refine rI aN rf ix ?_ | refine rd_loadf aN tv ix ?_ | refine nP ?_ | refine draw_intro 16 [.fl 0, .fl 1, .fl 2, .fl 3, .fl 4, .fl 5, .fl 6, .fl 7, .fl 8] (by rfl) (by kernel_rfl) ?_ | refine And.intro ?_ ?_)
    all_goals first | rfl | (exfalso; omega)
theorem GTab.ext_iff' (x y : GTab) : x = y ↔ (x.Site.Owner = y.Site.Owner ∧ x.Site.Sub = y.Site.Sub) ∧ x.Click = y.Click ∧ x.Base = y.Base ∧ x.Edits = y.Edits ∧ x.Hidden = y.Hidden := by
  obtain ⟨⟨a, b⟩, c, d, e, f⟩ := x; obtain ⟨⟨a', b'⟩, c', d', e', f'⟩ := y
  simp only [GTab.mk.injEq, GSite.mk.injEq]
  constructor <;> (intro h; simp_all)
theorem GPackage.ext_iff' (x y : GPackage) : x = y ↔ x.Ext = y.Ext ∧ x.Author = y.Author ∧ x.Version = y.Version ∧ x.Seal = y.Seal ∧ x.Grants = y.Grants ∧ x.Flows = y.Flows ∧ x.Rules = y.Rules ∧ x.Ops = y.Ops := by
  cases x; cases y
  simp only [GPackage.mk.injEq]
  constructor <;> (intro h; simp_all)
theorem GBrowser.ext_iff' (x y : GBrowser) : x = y ↔ x.Key = y.Key ∧ x.Now = y.Now ∧ x.Tabs = y.Tabs ∧ x.Packs = y.Packs ∧ x.Grants = y.Grants ∧ x.Limits = y.Limits ∧ x.Rules = y.Rules ∧ x.Store = y.Store := by
  cases x; cases y
  simp only [GBrowser.mk.injEq]
  constructor <;> (intro h; simp_all)
theorem GTab.dec (x y : GTab) : decide (x = y) = decide ((x.Site.Owner = y.Site.Owner ∧ x.Site.Sub = y.Site.Sub) ∧ x.Click = y.Click ∧ x.Base = y.Base ∧ x.Edits = y.Edits ∧ x.Hidden = y.Hidden) := decide_eq_decide.2 (GTab.ext_iff' x y)
theorem GPackage.dec (x y : GPackage) : decide (x = y) = decide (x.Ext = y.Ext ∧ x.Author = y.Author ∧ x.Version = y.Version ∧ x.Seal = y.Seal ∧ x.Grants = y.Grants ∧ x.Flows = y.Flows ∧ x.Rules = y.Rules ∧ x.Ops = y.Ops) := decide_eq_decide.2 (GPackage.ext_iff' x y)
theorem GBrowser.dec (x y : GBrowser) : decide (x = y) = decide (x.Key = y.Key ∧ x.Now = y.Now ∧ x.Tabs = y.Tabs ∧ x.Packs = y.Packs ∧ x.Grants = y.Grants ∧ x.Limits = y.Limits ∧ x.Rules = y.Rules ∧ x.Store = y.Store) := decide_eq_decide.2 (GBrowser.ext_iff' x y)
theorem ev_iEqualTabs (x y : GTab) (cs cs' : List C) (S : Store) (h : Rd S x.d cs) (h' : Rd S y.d cs') : EvA Try.prog 17 [.agg cs, .agg cs'] S (fun r S' => r = .v (.s (.bool (decide (x = y)))) ∧ S' = S) := by
  obtain ⟨_, _, _, rfl, _, _, _⟩ := GTab.inv h
  obtain ⟨_, _, _, rfl, _, _, _⟩ := GTab.inv h'
  rw [GTab.dec]
  refine evA_intro tok Try.func17 (by kernel_rfl) rfl ?_
  repeat' ((conv => whnf) <;> first
   | refine cD (fun _ => ?_) fun _ => ?_ | refine cE (fun _ => ?_) fun _ => ?_ | refine cT ?_ | refine cF ?_ | refine cN (fun _ => ?_) fun _ => ?_ | refine cI (fun _ => ?_) fun _ => ?_ | refine callP_eq (ev_EqNode _ _ _ _ _ aN aN) ?_ | refine callP_eq (ev_EqEdit _ _ _ _ _ aN aN) ?_ | refine callP_eq (ev_Eqint _ _ _ _ _ aN aN) ?_ | refine nP ?_ | refine And.intro ?_ ?_)
  all_goals first | rfl | (simp_all [resAV]; done)
end Go.Proofs.Ytfkfoidojmjacaa
