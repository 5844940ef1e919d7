/- Requests that meet rules. -/
import Derived.Test.YtockphlpokoohaaGreatKq31
import Derived.Test.YtockphlpokoohaaGreatKq28
import Derived.Test.YtockphlpokoohaaGreatKq23
namespace Go.Proofs.YtockphlpokoohaaGreat
open Go Go.ChangeShapes Go.WideShapes Go.ChangeAt Go.RowKit
set_option linter.unusedVariables false
set_option linter.unusedSimpArgs false
set_option maxRecDepth 100000
def cmpR (a b : GRule) : List Int := [cmpI b.Prio a.Prio, cmpI a.Action b.Action, cmpI a.Ext b.Ext, cmpI a.To.Owner b.To.Owner, cmpI a.To.Sub b.To.Sub]
theorem ev_compareRules (a b : GRule) (S : Store) : EvA Tryz.prog 263 [.agg a.c, .agg b.c] S (fun r S' => r = .v (.s (.int .i64 (orGo (cmpR a b)))) ∧ S' = S) := by
  refine EvA.drop rfl ?_
  refine evA_intro tok Tryz.func263 (by kernel_rfl) rfl ?_
  repeat' ((conv => whnf) <;> first
   | refine callP_eq (ev_Compare _ _ _) ?_ | refine nP ?_ | refine draw_intro 5 [.fl 0, .fl 1, .fl 2, .fl 3, .fl 5, .fl 6, .fl 7, .fl 8, .fl 10, .fl 11, .fl 12, .fl 13, .fl 15, .fl 16, .fl 17, .fl 18, .fl 19, .fl 20, .fl 22, .fl 23, .fl 24, .fl 25, .fl 26, .fl 27, .st 4 [5, 6, 7, 8, 10, 11, 12, 13, 15, 16, 17, 18, 19, 20, 22, 23, 24, 25, 26, 27], .st 9 [10, 11, 12, 13, 15, 16, 17, 18, 19, 20, 22, 23, 24, 25, 26, 27], .st 14 [15, 16, 17, 18, 19, 20, 22, 23, 24, 25, 26, 27], .st 21 [22, 23, 24, 25, 26, 27], .st 28 [], .fl 29, .st 30 [], .st 31 []] (by rfl) (by kernel_rfl) ?_ | (refine callP_eq (ev_Or (cmpR a b) _ _ (rd_litI (cmpR a b) (by simp [cmpR]))) ?_) | refine And.intro ?_ ?_)
  all_goals first | rfl | exact Ext.push _ _
def before (a b : GRule) : Bool := if a.Prio = b.Prio then (if a.Action = b.Action then (if a.Ext = b.Ext then (if a.To.Owner = b.To.Owner then decide (a.To.Sub < b.To.Sub) else decide (a.To.Owner < b.To.Owner)) else decide (a.Ext < b.Ext)) else decide (a.Action < b.Action)) else decide (b.Prio < a.Prio)
theorem cmpI_or (x y : Int) (r : List Int) : orGo (cmpI x y :: r) = if x = y then orGo r else cmpI x y := by
  rw [orGo]; unfold cmpI
  split <;> split <;> first | rfl | omega | skip
  all_goals split <;> first | rfl | omega | skip
theorem cmpI_lt (x y : Int) : decide (cmpI x y < 0) = decide (x < y) := by
  unfold cmpI; rw [decide_eq_decide]
  split
  · simp_all
  · split <;> simp_all
theorem before_cmp (a b : GRule) : decide (orGo (cmpR a b) < 0) = before a b := by
  unfold cmpR before
  simp only [cmpI_or]
  by_cases h1 : a.Prio = b.Prio
  · rw [if_pos h1.symm, if_pos h1]
    by_cases h2 : a.Action = b.Action
    · rw [if_pos h2, if_pos h2]
      by_cases h3 : a.Ext = b.Ext
      · rw [if_pos h3, if_pos h3]
        by_cases h4 : a.To.Owner = b.To.Owner
        · rw [if_pos h4, if_pos h4]
          by_cases h5 : a.To.Sub = b.To.Sub
          · rw [if_pos h5]; rw [decide_eq_decide]; simp [orGo, h5]
          · rw [if_neg h5]; exact cmpI_lt _ _
        · rw [if_neg h4, if_neg h4]; exact cmpI_lt _ _
      · rw [if_neg h3, if_neg h3]; exact cmpI_lt _ _
    · rw [if_neg h2, if_neg h2]; exact cmpI_lt _ _
  · rw [if_neg (Ne.symm h1), if_neg h1]; exact cmpI_lt _ _
theorem ev_iIsBefore (a b : GRule) (S : Store) : EvA Tryz.prog 182 [.agg a.c, .agg b.c] S (fun r S' => r = .v (.s (.bool (before a b))) ∧ S' = S) := by
  rw [← before_cmp]
  refine evA_intro tok Tryz.func182 (by kernel_rfl) rfl ?_
  repeat' ((conv => whnf) <;> first
   | refine callP_eq (ev_compareRules _ _ _) ?_ | refine nP ?_ | refine And.intro ?_ ?_)
  all_goals rfl
def decUp (l : List GRule) (q : GRequest) : Nat → Int
  | 0 => -1
  | n + 1 => if applies (l.getD n default) q && (decide (decUp l q n < 0) || before (l.getD n default) (l.getD (decUp l q n).toNat default)) then (n : Int) else decUp l q n
theorem decUp_lt (l : List GRule) (q : GRequest) : ∀ n, -1 ≤ decUp l q n ∧ decUp l q n < n
  | 0 => by unfold decUp; omega
  | n + 1 => by
    have := decUp_lt l q n
    rw [decUp]; split <;> omega
def decideRule (l : List GRule) (q : GRequest) : Int := decUp l q l.length
theorem ev_iDecide (l : List GRule) (q : GRequest) (c : C) (S : Store) (h : Rd S [.sl 8 (l.map GRule.d)] [c]) : EvA Tryz.prog 94 [.s c, .agg q.c] S (fun r S' => r = .v (.s (.int .i64 (decideRule l q))) ∧ S' = S) := by
  refine evA_intro tok Tryz.func94 (by kernel_rfl) rfl ?_
  repeat' ((conv => whnf) <;> first
   | rw [wrapI_i64 (by omega)] | refine cD (fun _ => ?_) fun _ => ?_ | refine cE (fun _ => ?_) fun _ => ?_ | refine cT ?_ | refine cF ?_ | refine cN (fun _ => ?_) fun _ => ?_ | refine cI (fun _ => ?_) fun _ => ?_ | refine callP_eq (ev_iIsBefore _ _ _) ?_ | refine callP_eq (ev_iApplies _ _ _) ?_ | refine callP_eq (ev_iApplies _ ⟨⟨_, _⟩, _⟩ _) ?_ | refine rE fun hml => ?_ | refine rI aN rf ix ?_ | refine rd_loadf aN tv ix ?_ | refine nP ?_ | refine draw_intro 15 [.fl 0, .fl 1, .st 2 [], .fl 3, .fl 4, .fl 5, .fl 6, .fl 7, .fl 8, .fl 9, .fl 10, .fl 11, .st 12 [], .fl 13, .fl 14] (by rfl) (by kernel_rfl) ?_ | refine And.intro ?_ ?_)
  refine loop_intro {p : Nat × Int // p.1 ≤ l.length ∧ p.2 = decUp l q p.1} [5, 6, 7, 10, 11, 12, 13, 14, 15, 16, 17, 18, 19, 20, 21, 22, 23, 24, 25, 26, 27, 28, 29, 30, 31] (fun zb => [(10, .v (.s (.int .i64 zb.1.1))), (5, .v (.s (.int .i64 zb.1.2)))]) (fun _ => S) (fun zb => l.length - zb.1.1) ⟨(0, -1), Nat.zero_le _, rfl⟩ ?_ rfl ?_
  · (conv => whnf); repeat' (first | exact trivial | exact rfl | apply And.intro)
  rintro ⟨⟨i, st⟩, hi, hinv⟩; dsimp only
  replace hi : i ≤ l.length := hi; dsimp only at hinv
  have hd := decUp_lt l q i
  by_cases hlt : i < l.length
  · have hg : l.getD i default = l[i] := getD_at hlt
    have hst : 0 ≤ st → l.getD (decUp l q i).toNat default = l[st.toNat]'(by omega) := fun h0 => by rw [← hinv]; exact getD_at (by omega)
    have hup : decUp l q (i + 1) = if applies (l.getD i default) q && (decide (decUp l q i < 0) || before (l.getD i default) (l.getD (decUp l q i).toNat default)) then (i : Int) else decUp l q i := rfl
    rw [hg, ← hinv] at hup
    by_cases h0 : 0 ≤ st
    · have hs := hst h0
      rw [← hinv] at hs
      rw [hs, decide_eq_false (show ¬ st < 0 by omega), Bool.false_or] at hup
      rcases hA : applies (l[i]'hlt) q with _ | _
      · skip
        rw [hA, Bool.false_and, if_neg (by decide)] at hup
        repeat' ((conv => whnf) <;> first
         | rw [wrapI_i64 (by omega)] | refine cD (fun _ => ?_) fun _ => ?_ | refine cE (fun _ => ?_) fun _ => ?_ | refine cT ?_ | refine cF ?_ | refine cN (fun _ => ?_) fun _ => ?_ | refine cI (fun _ => ?_) fun _ => ?_ | refine callP_eq (ev_iIsBefore _ _ _) ?_ | refine callP_eq (ev_iApplies _ _ _) ?_ | refine callP_eq (ev_iApplies _ ⟨⟨_, _⟩, _⟩ _) ?_ | refine rE fun hml => ?_ | refine rI aN rf ix ?_ | refine rd_loadf aN tv ix ?_ | refine nP ?_ | refine draw_intro 15 [.fl 0, .fl 1, .st 2 [], .fl 3, .fl 4, .fl 5, .fl 6, .fl 7, .fl 8, .fl 9, .fl 10, .fl 11, .st 12 [], .fl 13, .fl 14] (by rfl) (by kernel_rfl) ?_ | refine And.intro ?_ ?_)
        all_goals first
          | rfl
          | (exfalso; omega)
          | (refine absurd (?_ : applies (l[i]'hlt) q = true) (by rw [hA]; decide); assumption)
          | (refine ⟨⟨(i + 1, _), by dsimp only; omega, hup.symm⟩, ?_, rfl, by dsimp only; omega⟩; (conv => whnf); repeat' (first | exact trivial | exact rfl | apply And.intro))
      · skip
        rcases hB : before (l[i]'hlt) (l[st.toNat]'(by omega)) with _ | _
        · skip
          rw [hA, hB, Bool.and_false, if_neg (by decide)] at hup
          repeat' ((conv => whnf) <;> first
           | rw [wrapI_i64 (by omega)] | refine cD (fun _ => ?_) fun _ => ?_ | refine cE (fun _ => ?_) fun _ => ?_ | refine cT ?_ | refine cF ?_ | refine cN (fun _ => ?_) fun _ => ?_ | refine cI (fun _ => ?_) fun _ => ?_ | refine callP_eq (ev_iIsBefore _ _ _) ?_ | refine callP_eq (ev_iApplies _ _ _) ?_ | refine callP_eq (ev_iApplies _ ⟨⟨_, _⟩, _⟩ _) ?_ | refine rE fun hml => ?_ | refine rI aN rf ix ?_ | refine rd_loadf aN tv ix ?_ | refine nP ?_ | refine draw_intro 15 [.fl 0, .fl 1, .st 2 [], .fl 3, .fl 4, .fl 5, .fl 6, .fl 7, .fl 8, .fl 9, .fl 10, .fl 11, .st 12 [], .fl 13, .fl 14] (by rfl) (by kernel_rfl) ?_ | refine And.intro ?_ ?_)
          all_goals first
            | rfl
            | (exfalso; omega)
            | (refine absurd (?_ : applies (l[i]'hlt) q = false) (by rw [hA]; decide); assumption)
            | (refine absurd (?_ : before (l[i]'hlt) (l[st.toNat]'(by omega)) = true) (by rw [hB]; decide); assumption)
            | (refine ⟨⟨(i + 1, _), by dsimp only; omega, hup.symm⟩, ?_, rfl, by dsimp only; omega⟩; (conv => whnf); repeat' (first | exact trivial | exact rfl | apply And.intro))
        · skip
          rw [hA, hB, Bool.and_true, if_pos rfl] at hup
          repeat' ((conv => whnf) <;> first
           | rw [wrapI_i64 (by omega)] | refine cD (fun _ => ?_) fun _ => ?_ | refine cE (fun _ => ?_) fun _ => ?_ | refine cT ?_ | refine cF ?_ | refine cN (fun _ => ?_) fun _ => ?_ | refine cI (fun _ => ?_) fun _ => ?_ | refine callP_eq (ev_iIsBefore _ _ _) ?_ | refine callP_eq (ev_iApplies _ _ _) ?_ | refine callP_eq (ev_iApplies _ ⟨⟨_, _⟩, _⟩ _) ?_ | refine rE fun hml => ?_ | refine rI aN rf ix ?_ | refine rd_loadf aN tv ix ?_ | refine nP ?_ | refine draw_intro 15 [.fl 0, .fl 1, .st 2 [], .fl 3, .fl 4, .fl 5, .fl 6, .fl 7, .fl 8, .fl 9, .fl 10, .fl 11, .st 12 [], .fl 13, .fl 14] (by rfl) (by kernel_rfl) ?_ | refine And.intro ?_ ?_)
          all_goals first
            | rfl
            | (exfalso; omega)
            | (refine absurd (?_ : applies (l[i]'hlt) q = false) (by rw [hA]; decide); assumption)
            | (refine absurd (?_ : before (l[i]'hlt) (l[st.toNat]'(by omega)) = false) (by rw [hB]; decide); assumption)
            | (refine ⟨⟨(i + 1, _), by dsimp only; omega, hup.symm⟩, ?_, rfl, by dsimp only; omega⟩; (conv => whnf); repeat' (first | exact trivial | exact rfl | apply And.intro))
    · rw [decide_eq_true (show st < 0 by omega), Bool.true_or, Bool.and_true] at hup
      rcases hA : applies (l[i]'hlt) q with _ | _
      · skip
        rw [hA, if_neg (by decide)] at hup
        repeat' ((conv => whnf) <;> first
         | rw [wrapI_i64 (by omega)] | refine cD (fun _ => ?_) fun _ => ?_ | refine cE (fun _ => ?_) fun _ => ?_ | refine cT ?_ | refine cF ?_ | refine cN (fun _ => ?_) fun _ => ?_ | refine cI (fun _ => ?_) fun _ => ?_ | refine callP_eq (ev_iIsBefore _ _ _) ?_ | refine callP_eq (ev_iApplies _ _ _) ?_ | refine callP_eq (ev_iApplies _ ⟨⟨_, _⟩, _⟩ _) ?_ | refine rE fun hml => ?_ | refine rI aN rf ix ?_ | refine rd_loadf aN tv ix ?_ | refine nP ?_ | refine draw_intro 15 [.fl 0, .fl 1, .st 2 [], .fl 3, .fl 4, .fl 5, .fl 6, .fl 7, .fl 8, .fl 9, .fl 10, .fl 11, .st 12 [], .fl 13, .fl 14] (by rfl) (by kernel_rfl) ?_ | refine And.intro ?_ ?_)
        all_goals first
          | rfl
          | (exfalso; omega)
          | (refine absurd (?_ : applies (l[i]'hlt) q = true) (by rw [hA]; decide); assumption)
          | (refine ⟨⟨(i + 1, _), by dsimp only; omega, hup.symm⟩, ?_, rfl, by dsimp only; omega⟩; (conv => whnf); repeat' (first | exact trivial | exact rfl | apply And.intro))
      · skip
        rw [hA, if_pos rfl] at hup
        repeat' ((conv => whnf) <;> first
         | rw [wrapI_i64 (by omega)] | refine cD (fun _ => ?_) fun _ => ?_ | refine cE (fun _ => ?_) fun _ => ?_ | refine cT ?_ | refine cF ?_ | refine cN (fun _ => ?_) fun _ => ?_ | refine cI (fun _ => ?_) fun _ => ?_ | refine callP_eq (ev_iIsBefore _ _ _) ?_ | refine callP_eq (ev_iApplies _ _ _) ?_ | refine callP_eq (ev_iApplies _ ⟨⟨_, _⟩, _⟩ _) ?_ | refine rE fun hml => ?_ | refine rI aN rf ix ?_ | refine rd_loadf aN tv ix ?_ | refine nP ?_ | refine draw_intro 15 [.fl 0, .fl 1, .st 2 [], .fl 3, .fl 4, .fl 5, .fl 6, .fl 7, .fl 8, .fl 9, .fl 10, .fl 11, .st 12 [], .fl 13, .fl 14] (by rfl) (by kernel_rfl) ?_ | refine And.intro ?_ ?_)
        all_goals first
          | rfl
          | (exfalso; omega)
          | (refine absurd (?_ : applies (l[i]'hlt) q = false) (by rw [hA]; decide); assumption)
          | (refine ⟨⟨(i + 1, _), by dsimp only; omega, hup.symm⟩, ?_, rfl, by dsimp only; omega⟩; (conv => whnf); repeat' (first | exact trivial | exact rfl | apply And.intro))
  · have he : decideRule l q = st := by unfold decideRule; rw [hinv, show l.length = i from by omega]
    repeat' ((conv => whnf) <;> first
     | rw [wrapI_i64 (by omega)] | refine cD (fun _ => ?_) fun _ => ?_ | refine cE (fun _ => ?_) fun _ => ?_ | refine cT ?_ | refine cF ?_ | refine cN (fun _ => ?_) fun _ => ?_ | refine cI (fun _ => ?_) fun _ => ?_ | refine callP_eq (ev_iIsBefore _ _ _) ?_ | refine callP_eq (ev_iApplies _ _ _) ?_ | refine callP_eq (ev_iApplies _ ⟨⟨_, _⟩, _⟩ _) ?_ | refine rE fun hml => ?_ | refine rI aN rf ix ?_ | refine rd_loadf aN tv ix ?_ | refine nP ?_ | refine draw_intro 15 [.fl 0, .fl 1, .st 2 [], .fl 3, .fl 4, .fl 5, .fl 6, .fl 7, .fl 8, .fl 9, .fl 10, .fl 11, .st 12 [], .fl 13, .fl 14] (by rfl) (by kernel_rfl) ?_ | refine And.intro ?_ ?_)
    all_goals first
      | rfl
      | (exfalso; omega)
      | (rw [he] <;> rfl)
def actionFor (l : List GRule) (q : GRequest) : Int := if 0 ≤ decideRule l q then (l.getD (decideRule l q).toNat default).Action else 1
theorem ev_iActionFor (l : List GRule) (q : GRequest) (c : C) (S : Store) (h : Rd S [.sl 8 (l.map GRule.d)] [c]) : EvA Tryz.prog 137 [.s c, .agg q.c] S (fun r S' => r = .v (.s (.int .i64 (actionFor l q))) ∧ S' = S) := by
  have hd := decUp_lt l q l.length
  have hdd : decideRule l q = decUp l q l.length := rfl
  by_cases h0 : 0 ≤ decideRule l q
  · have ha : actionFor l q = (l[(decideRule l q).toNat]'(by omega)).Action := by unfold actionFor; rw [if_pos h0, getD_at (by omega)]
    rw [ha]
    refine evA_intro tok Tryz.func137 (by kernel_rfl) rfl ?_
    repeat' ((conv => whnf) <;> first
     | refine cD (fun _ => ?_) fun _ => ?_ | refine cE (fun _ => ?_) fun _ => ?_ | refine cT ?_ | refine cF ?_ | refine cN (fun _ => ?_) fun _ => ?_ | refine cI (fun _ => ?_) fun _ => ?_ | refine callP_eq (ev_iDecide _ _ _ _ aN) ?_ | refine callP_eq (ev_iDecide _ ⟨⟨_, _⟩, _⟩ _ _ aN) ?_ | refine rI aN rf ix ?_ | refine rd_loadf aN tv ix ?_ | refine nP ?_ | refine And.intro ?_ ?_)
    all_goals first | rfl | (exfalso; omega)
  · rw [show actionFor l q = 1 from if_neg h0]
    refine evA_intro tok Tryz.func137 (by kernel_rfl) rfl ?_
    repeat' ((conv => whnf) <;> first
     | refine cD (fun _ => ?_) fun _ => ?_ | refine cE (fun _ => ?_) fun _ => ?_ | refine cT ?_ | refine cF ?_ | refine cN (fun _ => ?_) fun _ => ?_ | refine cI (fun _ => ?_) fun _ => ?_ | refine callP_eq (ev_iDecide _ _ _ _ aN) ?_ | refine callP_eq (ev_iDecide _ ⟨⟨_, _⟩, _⟩ _ _ aN) ?_ | refine rI aN rf ix ?_ | refine rd_loadf aN tv ix ?_ | refine nP ?_ | refine And.intro ?_ ?_)
    all_goals first | rfl | (exfalso; omega)
def idxS (v : GSite) : List GSite → Nat → Int
  | [], _ => -1
  | x :: r, i => if v = x then i else idxS v r (i + 1)
theorem idxS_mem (v : GSite) : ∀ (l : List GSite) (i : Nat), (0 ≤ idxS v l i) ↔ v ∈ l
  | [], i => by simp [idxS]
  | x :: r, i => by
    rw [idxS, List.mem_cons]
    split
    · rename_i h; subst h; simp
    · rename_i h; rw [idxS_mem v r (i + 1)]; simp [h]
theorem ev_idxSite (l : List GSite) (v : GSite) (c : C) (S : Store) (h : Rd S [.sl 2 (l.map GSite.d)] [c]) : EvA Tryz.prog 217 [.s c, .agg v.c] S (fun r S' => r = .v (.s (.int .i64 (idxS v l 0))) ∧ S' = S) := by
  refine evA_intro tok Tryz.func217 (by kernel_rfl) rfl ?_
  repeat' ((conv => whnf) <;> first
   | rw [wrapI_i64 (by omega)] | refine cD (fun _ => ?_) fun _ => ?_ | refine cE (fun _ => ?_) fun _ => ?_ | refine cT ?_ | refine cF ?_ | refine cN (fun _ => ?_) fun _ => ?_ | refine cI (fun _ => ?_) fun _ => ?_ | refine rE fun hml => ?_ | refine rI aN rf ix ?_ | refine rd_loadf aN tv ix ?_ | refine nP ?_ | refine draw_intro 11 [.fl 0, .fl 1, .fl 2, .fl 3, .fl 4, .fl 5] (by rfl) (by kernel_rfl) ?_ | refine And.intro ?_ ?_)
  refine loop_intro {i : Nat // i ≤ l.length ∧ idxS v (l.drop i) i = idxS v l 0} [4, 5, 8, 9, 10, 11, 12, 13, 14, 15, 16, 17, 18] (fun zb => [(8, .v (.s (.int .i64 zb.1)))]) (fun _ => S) (fun zb => l.length - zb.1) ⟨0, Nat.zero_le _, rfl⟩ ?_ rfl ?_
  · (conv => whnf); repeat' (first | exact trivial | exact rfl | apply And.intro)
  rintro ⟨i, hi, hinv⟩; dsimp only
  repeat' ((conv => whnf) <;> first
   | rw [wrapI_i64 (by omega)] | refine cD (fun _ => ?_) fun _ => ?_ | refine cE (fun _ => ?_) fun _ => ?_ | refine cT ?_ | refine cF ?_ | refine cN (fun _ => ?_) fun _ => ?_ | refine cI (fun _ => ?_) fun _ => ?_ | refine rE fun hml => ?_ | refine rI aN rf ix ?_ | refine rd_loadf aN tv ix ?_ | refine nP ?_ | refine draw_intro 11 [.fl 0, .fl 1, .fl 2, .fl 3, .fl 4, .fl 5] (by rfl) (by kernel_rfl) ?_ | refine And.intro ?_ ?_)
  all_goals first
    | rfl
    | (rw [drop_end (by omega), idxS] at hinv; rw [← hinv]; rfl)
    | (rename_i hb; rw [GSite.eqb] at hb; have hb' := of_decide_eq_true hb; rw [drop_at (by omega), idxS] at hinv; have hinv := (if_pos hb').symm.trans hinv; rw [← hinv]; rfl)
    | (rename_i hb; rw [GSite.eqb] at hb; have hb' := of_decide_eq_false hb
       (refine ⟨⟨i + 1, by omega, by rw [drop_at (by omega), idxS] at hinv; exact (if_neg hb').symm.trans hinv⟩, ?_, rfl, by simp; omega⟩; (conv => whnf); repeat' (first | exact trivial | exact rfl | apply And.intro)))
theorem ev_hasSite (l : List GSite) (v : GSite) (c : C) (S : Store) (h : Rd S [.sl 2 (l.map GSite.d)] [c]) : EvA Tryz.prog 136 [.s c, .agg v.c] S (fun r S' => r = .v (.s (.bool (decide (v ∈ l)))) ∧ S' = S) := by
  have e : decide (v ∈ l) = decide (0 ≤ idxS v l 0) := by rw [Bool.eq_iff_iff]; simp [idxS_mem]
  rw [e]
  refine evA_intro tok Tryz.func136 (by kernel_rfl) rfl ?_
  repeat' ((conv => whnf) <;> first
   | refine callP_eq (ev_idxSite _ _ _ _ aN) ?_ | refine nP ?_ | refine And.intro ?_ ?_)
  all_goals rfl
def follow (l : List GRule) (sort : Int) : Nat → List GSite → GSite → GOutcome
  | 0, path, cur => default
  | n + 1, path, cur =>
    if actionFor l ⟨cur, sort⟩ = 1 then ⟨1, cur, path ++ [cur]⟩
    else if actionFor l ⟨cur, sort⟩ = 2 then ⟨2, cur, path ++ [cur]⟩
    else if (l.getD (decideRule l ⟨cur, sort⟩).toNat default).To ∈ path ++ [cur] then ⟨3, (l.getD (decideRule l ⟨cur, sort⟩).toNat default).To, path ++ [cur]⟩
    else if n = 0 then ⟨4, (l.getD (decideRule l ⟨cur, sort⟩).toNat default).To, path ++ [cur]⟩
    else follow l sort n (path ++ [cur]) (l.getD (decideRule l ⟨cur, sort⟩).toNat default).To
def followTop (l : List GRule) (sort : Int) (path : List GSite) (cur : GSite) : GOutcome := if cur ∈ path then ⟨3, cur, path⟩ else if path.length = 6 then ⟨4, cur, path⟩ else follow l sort (6 - path.length) path cur
theorem followTop_step (l : List GRule) (sort : Int) (path : List GSite) (cur : GSite) (h1 : cur ∉ path) (h2 : path.length < 6) (h3 : actionFor l ⟨cur, sort⟩ ≠ 1) (h4 : actionFor l ⟨cur, sort⟩ ≠ 2) : followTop l sort path cur = followTop l sort (path ++ [cur]) (l.getD (decideRule l ⟨cur, sort⟩).toNat default).To := by
  unfold followTop
  rw [if_neg h1, if_neg (by omega), show 6 - path.length = (6 - (path ++ [cur]).length) + 1 by simp; omega, follow, if_neg h3, if_neg h4]
  by_cases hm : (l.getD (decideRule l ⟨cur, sort⟩).toNat default).To ∈ path ++ [cur]
  · rw [if_pos hm, if_pos hm]
  · rw [if_neg hm, if_neg hm]
    by_cases h6 : (path ++ [cur]).length = 6
    · rw [if_pos (by omega), if_pos h6]
    · rw [if_neg (by simp at h6 ⊢; omega), if_neg h6]
def followRequest (l : List GRule) (q : GRequest) : GOutcome := if isRequest q then followTop l q.Sort' [] q.Site else default
theorem fr_out0 {S : Store} {lo : Nat} : Fr lo S (default : GOutcome).d [.int .i64 0, .int .i64 0, .int .i64 0, .nil] := fr_x (fr_x (fr_x (fr_sl (mid := lo) ⟨[], by unfold Rep; exact ⟨Nat.zero_le _, .inl ⟨rfl, .inl rfl, rfl⟩⟩, List.nodup_nil, fun _ h => by cases h⟩ fr_nil (Nat.le_refl _))))
theorem act_dec {l : List GRule} {q : GRequest} (h1 : actionFor l q ≠ 1) : 0 ≤ decideRule l q := by
  unfold actionFor at h1
  by_cases h : 0 ≤ decideRule l q
  · exact h
  · rw [if_neg h] at h1; exact absurd rfl h1
set_option maxHeartbeats 1000000 in
theorem ev_iFollow (l : List GRule) (q : GRequest) (c : C) (S : Store) (h : Rd S [.sl 8 (l.map GRule.d)] [c]) : EvA Tryz.prog 33 [.s c, .agg q.c] S (fun r S' => Ext S S' ∧ ∃ c', r = .v (.agg [.int .i64 (followRequest l q).Code, .int .i64 (followRequest l q).Site.Owner, .int .i64 (followRequest l q).Site.Sub, c']) ∧ Fr S.length S' (followRequest l q).d [.int .i64 (followRequest l q).Code, .int .i64 (followRequest l q).Site.Owner, .int .i64 (followRequest l q).Site.Sub, c']) := by
  obtain ⟨⟨qo, qu⟩, qt⟩ := q
  by_cases hq : isRequest ⟨⟨qo, qu⟩, qt⟩ = true
  · have hR : followRequest l ⟨⟨qo, qu⟩, qt⟩ = followTop l qt [] ⟨qo, qu⟩ := if_pos hq
    rw [hR]
    generalize hO : followTop l qt [] (⟨qo, qu⟩ : GSite) = O
    refine evA_intro tok Tryz.func33 (by kernel_rfl) rfl ?_
    repeat' ((conv => whnf) <;> first
     | refine cD (fun _ => ?_) fun _ => ?_ | refine cE (fun _ => ?_) fun _ => ?_ | refine cT ?_ | refine cF ?_ | refine cN (fun _ => ?_) fun _ => ?_ | refine cI (fun _ => ?_) fun _ => ?_ | refine callP_eq (ev_iDecide _ _ _ _ rdA) ?_ | refine callP_eq (ev_iDecide _ ⟨⟨_, _⟩, _⟩ _ _ rdA) ?_ | refine callP_eq (ev_iIsRequest _ _) ?_ | refine callP_eq (ev_iIsRequest ⟨⟨_, _⟩, _⟩ _) ?_ | refine callP_eq (ev_hasSite _ _ _ _ rdA) ?_ | refine callP_eq (ev_hasSite _ ⟨_, _⟩ _ _ rdA) ?_ | refine callP_eq (ev_iActionFor _ _ _ _ rdA) ?_ | refine callP_eq (ev_iActionFor _ ⟨⟨_, _⟩, _⟩ _ _ rdA) ?_ | refine rE fun hml => ?_ | refine rI rdA rf ix ?_ | refine rd_loadf rdA tv ix ?_ | refine nP ?_ | refine And.intro ?_ ?_)
    all_goals try first | rfl | (exfalso; simp_all; done)
    refine loop_intro {p : List GSite × GSite × GSite × Store × C // p.1.length ≤ 6 ∧ Ext S p.2.2.2.1 ∧ Fr S.length p.2.2.2.1 [.sl 2 (p.1.map GSite.d)] [p.2.2.2.2] ∧ followTop l qt p.1 p.2.1 = O} [3, 4, 5, 12, 13, 14, 15, 16, 17, 18, 19, 20, 21, 22, 23, 24, 25, 26, 27, 28, 29, 30, 31, 32, 33, 34, 35, 36, 37, 38, 39, 40, 41, 42, 43, 44, 45, 46, 47, 48, 49, 50, 51, 52, 53, 54, 55] (fun zb => [(3, .box [.int .i64 zb.1.2.1.Owner, .int .i64 zb.1.2.1.Sub, .int .i64 qt]), (4, .box [.int .i64 0, .int .i64 0, .int .i64 0, .nil]), (5, .box [.int .i64 0, .int .i64 zb.1.2.2.1.Owner, .int .i64 zb.1.2.2.1.Sub, zb.1.2.2.2.2])]) (fun zb => zb.1.2.2.2.1) (fun zb => 6 - zb.1.1.length) ⟨([], ⟨qo, qu⟩, ⟨0, 0⟩, _, _), by simp, Ext.push _ _, fr_lit0, hO⟩ ?_ rfl ?_
    · (conv => whnf); repeat' (first | exact trivial | exact rfl | apply And.intro)
    rintro ⟨⟨path, ⟨co, cu⟩, ps, Si, ci⟩, hl, hE, hF, hT⟩; dsimp only
    replace hl : path.length ≤ 6 := hl
    replace hE : Ext S Si := hE
    replace hF : Fr S.length Si [.sl 2 (path.map GSite.d)] [ci] := hF
    replace hT : followTop l qt path ⟨co, cu⟩ = O := hT
    by_cases hm : (⟨co, cu⟩ : GSite) ∈ path
    · have hO2 : (⟨3, ⟨co, cu⟩, path⟩ : GOutcome) = O := by rw [← hT]; exact (if_pos hm).symm
      subst hO2
      repeat' ((conv => whnf) <;> first
       | contradiction | refine cD (fun _ => ?_) fun _ => ?_ | refine cE (fun _ => ?_) fun _ => ?_ | refine cT ?_ | refine cF ?_ | refine cN (fun _ => ?_) fun _ => ?_ | refine cI (fun _ => ?_) fun _ => ?_ | refine callP_eq (ev_iDecide _ _ _ _ rdA) ?_ | refine callP_eq (ev_iDecide _ ⟨⟨_, _⟩, _⟩ _ _ rdA) ?_ | refine callP_eq (ev_iIsRequest _ _) ?_ | refine callP_eq (ev_iIsRequest ⟨⟨_, _⟩, _⟩ _) ?_ | refine callP_eq (ev_hasSite _ _ _ _ rdA) ?_ | refine callP_eq (ev_hasSite _ ⟨_, _⟩ _ _ rdA) ?_ | refine callP_eq (ev_iActionFor _ _ _ _ rdA) ?_ | refine callP_eq (ev_iActionFor _ ⟨⟨_, _⟩, _⟩ _ _ rdA) ?_ | refine rE fun hml => ?_ | refine rI rdA rf ix ?_ | refine rd_loadf rdA tv ix ?_ | refine nP ?_ | (refine fr_app1 (f := GSite.d) (x := ⟨co, cu⟩) aN aN tv (by rfl) rf (by dsimp only [T56]; omega) om ?_; intro cN SN hEN hFN) | refine And.intro ?_ ?_)
      all_goals first
        | exact hE
        | (exfalso; simp_all; done)
        | exact ⟨_, rfl, fr_x (fr_x (fr_x hF))⟩
    · by_cases h6 : path.length = 6
      · have hO2 : (⟨4, ⟨co, cu⟩, path⟩ : GOutcome) = O := by rw [← hT]; exact ((if_neg hm).trans (if_pos h6)).symm
        subst hO2
        repeat' ((conv => whnf) <;> first
         | refine cD (fun _ => ?_) fun _ => ?_ | refine cE (fun _ => ?_) fun _ => ?_ | refine cT ?_ | refine cF ?_ | refine cN (fun _ => ?_) fun _ => ?_ | refine cI (fun _ => ?_) fun _ => ?_ | refine callP_eq (ev_iDecide _ _ _ _ rdA) ?_ | refine callP_eq (ev_iDecide _ ⟨⟨_, _⟩, _⟩ _ _ rdA) ?_ | refine callP_eq (ev_iIsRequest _ _) ?_ | refine callP_eq (ev_iIsRequest ⟨⟨_, _⟩, _⟩ _) ?_ | refine callP_eq (ev_hasSite _ _ _ _ rdA) ?_ | refine callP_eq (ev_hasSite _ ⟨_, _⟩ _ _ rdA) ?_ | refine callP_eq (ev_iActionFor _ _ _ _ rdA) ?_ | refine callP_eq (ev_iActionFor _ ⟨⟨_, _⟩, _⟩ _ _ rdA) ?_ | refine rE fun hml => ?_ | refine rI rdA rf ix ?_ | refine rd_loadf rdA tv ix ?_ | refine nP ?_ | (refine fr_app1 (f := GSite.d) (x := ⟨co, cu⟩) aN aN tv (by rfl) rf (by dsimp only [T56]; omega) om ?_; intro cN SN hEN hFN) | refine And.intro ?_ ?_)
        all_goals first
          | exact hE
          | (exfalso; simp_all; done)
          | (exfalso; omega)
          | exact ⟨_, rfl, fr_x (fr_x (fr_x hF))⟩
      · skip
        have hTt := hT
        unfold followTop at hTt
        rw [if_neg hm, if_neg (by omega), show 6 - path.length = (5 - path.length) + 1 by omega, follow] at hTt
        by_cases ha1 : actionFor l ⟨⟨co, cu⟩, qt⟩ = 1
        · rw [if_pos ha1] at hTt
          subst hTt
          repeat' ((conv => whnf) <;> first
           | refine cD (fun _ => ?_) fun _ => ?_ | refine cE (fun _ => ?_) fun _ => ?_ | refine cT ?_ | refine cF ?_ | refine cN (fun _ => ?_) fun _ => ?_ | refine cI (fun _ => ?_) fun _ => ?_ | refine callP_eq (ev_iDecide _ _ _ _ rdA) ?_ | refine callP_eq (ev_iDecide _ ⟨⟨_, _⟩, _⟩ _ _ rdA) ?_ | refine callP_eq (ev_iIsRequest _ _) ?_ | refine callP_eq (ev_iIsRequest ⟨⟨_, _⟩, _⟩ _) ?_ | refine callP_eq (ev_hasSite _ _ _ _ rdA) ?_ | refine callP_eq (ev_hasSite _ ⟨_, _⟩ _ _ rdA) ?_ | refine callP_eq (ev_iActionFor _ _ _ _ rdA) ?_ | refine callP_eq (ev_iActionFor _ ⟨⟨_, _⟩, _⟩ _ _ rdA) ?_ | refine rE fun hml => ?_ | refine rI rdA rf ix ?_ | refine rd_loadf rdA tv ix ?_ | refine nP ?_ | (refine fr_app1 (f := GSite.d) (x := ⟨co, cu⟩) aN aN tv (by rfl) rf (by dsimp only [T56]; omega) om ?_; intro cN SN hEN hFN) | refine And.intro ?_ ?_)
          all_goals first
            | assumption
            | (exfalso; simp_all; done)
            | (exfalso; omega)
            | exact ⟨_, rfl, fr_x (fr_x (fr_x (by assumption)))⟩
        · by_cases ha2 : actionFor l ⟨⟨co, cu⟩, qt⟩ = 2
          · rw [if_neg ha1, if_pos ha2] at hTt
            subst hTt
            repeat' ((conv => whnf) <;> first
             | refine cD (fun _ => ?_) fun _ => ?_ | refine cE (fun _ => ?_) fun _ => ?_ | refine cT ?_ | refine cF ?_ | refine cN (fun _ => ?_) fun _ => ?_ | refine cI (fun _ => ?_) fun _ => ?_ | refine callP_eq (ev_iDecide _ _ _ _ rdA) ?_ | refine callP_eq (ev_iDecide _ ⟨⟨_, _⟩, _⟩ _ _ rdA) ?_ | refine callP_eq (ev_iIsRequest _ _) ?_ | refine callP_eq (ev_iIsRequest ⟨⟨_, _⟩, _⟩ _) ?_ | refine callP_eq (ev_hasSite _ _ _ _ rdA) ?_ | refine callP_eq (ev_hasSite _ ⟨_, _⟩ _ _ rdA) ?_ | refine callP_eq (ev_iActionFor _ _ _ _ rdA) ?_ | refine callP_eq (ev_iActionFor _ ⟨⟨_, _⟩, _⟩ _ _ rdA) ?_ | refine rE fun hml => ?_ | refine rI rdA rf ix ?_ | refine rd_loadf rdA tv ix ?_ | refine nP ?_ | (refine fr_app1 (f := GSite.d) (x := ⟨co, cu⟩) aN aN tv (by rfl) rf (by dsimp only [T56]; omega) om ?_; intro cN SN hEN hFN) | refine And.intro ?_ ?_)
            all_goals first
              | assumption
              | (exfalso; simp_all; done)
              | (exfalso; omega)
              | exact ⟨_, rfl, fr_x (fr_x (fr_x (by assumption)))⟩
          · have hd0 := act_dec ha1
            have hdl := decUp_lt l ⟨⟨co, cu⟩, qt⟩ l.length
            have hdd : decideRule l ⟨⟨co, cu⟩, qt⟩ = decUp l ⟨⟨co, cu⟩, qt⟩ l.length := rfl
            have hgd : l.getD (decideRule l ⟨⟨co, cu⟩, qt⟩).toNat default = l[(decideRule l ⟨⟨co, cu⟩, qt⟩).toNat]'(by omega) := getD_at (by omega)
            have hst := followTop_step l qt path ⟨co, cu⟩ hm (by omega) ha1 ha2
            rw [hT, hgd] at hst
            repeat' ((conv => whnf) <;> first
             | refine cD (fun _ => ?_) fun _ => ?_ | refine cE (fun _ => ?_) fun _ => ?_ | refine cT ?_ | refine cF ?_ | refine cN (fun _ => ?_) fun _ => ?_ | refine cI (fun _ => ?_) fun _ => ?_ | refine callP_eq (ev_iDecide _ _ _ _ rdA) ?_ | refine callP_eq (ev_iDecide _ ⟨⟨_, _⟩, _⟩ _ _ rdA) ?_ | refine callP_eq (ev_iIsRequest _ _) ?_ | refine callP_eq (ev_iIsRequest ⟨⟨_, _⟩, _⟩ _) ?_ | refine callP_eq (ev_hasSite _ _ _ _ rdA) ?_ | refine callP_eq (ev_hasSite _ ⟨_, _⟩ _ _ rdA) ?_ | refine callP_eq (ev_iActionFor _ _ _ _ rdA) ?_ | refine callP_eq (ev_iActionFor _ ⟨⟨_, _⟩, _⟩ _ _ rdA) ?_ | refine rE fun hml => ?_ | refine rI rdA rf ix ?_ | refine rd_loadf rdA tv ix ?_ | refine nP ?_ | (refine fr_app1 (f := GSite.d) (x := ⟨co, cu⟩) aN aN tv (by rfl) rf (by dsimp only [T56]; omega) om ?_; intro cN SN hEN hFN) | refine And.intro ?_ ?_)
            all_goals first
              | assumption
              | (exfalso; simp_all; done)
              | (exfalso; omega)
              | (refine ⟨⟨(path ++ [(⟨co, cu⟩ : GSite)], (l[(decideRule l ⟨⟨co, cu⟩, qt⟩).toNat]'(by omega)).To, ⟨co, cu⟩, _, _), by dsimp only; simp; omega, by assumption, by assumption, hst.symm⟩, ?_, rfl, by dsimp only; simp; omega⟩
                 (conv => whnf); repeat' (first | exact trivial | exact rfl | apply And.intro))
  · rw [show followRequest l ⟨⟨qo, qu⟩, qt⟩ = default from if_neg hq]
    refine evA_intro tok Tryz.func33 (by kernel_rfl) rfl ?_
    repeat' ((conv => whnf) <;> first
     | refine cD (fun _ => ?_) fun _ => ?_ | refine cE (fun _ => ?_) fun _ => ?_ | refine cT ?_ | refine cF ?_ | refine cN (fun _ => ?_) fun _ => ?_ | refine cI (fun _ => ?_) fun _ => ?_ | refine callP_eq (ev_iDecide _ _ _ _ rdA) ?_ | refine callP_eq (ev_iDecide _ ⟨⟨_, _⟩, _⟩ _ _ rdA) ?_ | refine callP_eq (ev_iIsRequest _ _) ?_ | refine callP_eq (ev_iIsRequest ⟨⟨_, _⟩, _⟩ _) ?_ | refine callP_eq (ev_hasSite _ _ _ _ rdA) ?_ | refine callP_eq (ev_hasSite _ ⟨_, _⟩ _ _ rdA) ?_ | refine callP_eq (ev_iActionFor _ _ _ _ rdA) ?_ | refine callP_eq (ev_iActionFor _ ⟨⟨_, _⟩, _⟩ _ _ rdA) ?_ | refine rE fun hml => ?_ | refine rI rdA rf ix ?_ | refine rd_loadf rdA tv ix ?_ | refine nP ?_ | refine And.intro ?_ ?_)
    all_goals first
      | exact Ext.refl _
      | (exfalso; simp_all; done)
      | exact ⟨_, rfl, fr_out0⟩
def askPage (b : GBrowser) (q : GRequest) : GOutcome := followRequest (rulesInForce b q.Site) q
theorem ev_iAskPage (b : GBrowser) (q : GRequest) (cs : List C) (S : Store) (h : Rd S b.d cs) (hz : szL b.d ≤ 1048576) : EvA Tryz.prog 32 [.agg cs, .agg q.c] S (fun r S' => Ext S S' ∧ ∃ c', r = .v (.agg [.int .i64 (askPage b q).Code, .int .i64 (askPage b q).Site.Owner, .int .i64 (askPage b q).Site.Sub, c']) ∧ Fr S.length S' (askPage b q).d [.int .i64 (askPage b q).Code, .int .i64 (askPage b q).Site.Owner, .int .i64 (askPage b q).Site.Sub, c']) := by
  obtain ⟨_, _, _, _, _, _, rfl, _, _, _, _, _, _⟩ := GBrowser.inv h
  refine evA_intro tok Tryz.func32 (by kernel_rfl) rfl ?_
  repeat' ((conv => whnf) <;> first
   | refine nP ?_ | refine draw_intro 5 [.fl 0, .fl 1, .fl 2, .fl 4, .st 3 [4], .st 5 [], .st 6 []] (by rfl) (by kernel_rfl) ?_ | refine And.intro ?_ ?_)
  (conv => whnf)
  refine callP_intro (ev_iRulesInForce b q.Site _ _ rdcA hz) ?_; rintro _ S0 ⟨e0, c0, rfl, f0⟩
  repeat' ((conv => whnf) <;> first
   | refine nP ?_ | refine draw_intro 5 [.fl 0, .fl 1, .fl 2, .fl 4, .st 3 [4], .st 5 [], .st 6 []] (by rfl) (by kernel_rfl) ?_ | refine And.intro ?_ ?_)
  all_goals try exact rfl
  (conv => whnf)
  refine callP_intro (ev_iFollow (rulesInForce b q.Site) q _ _ f0.rd) ?_; rintro _ S1 ⟨e1, c1, rfl, f1⟩
  repeat' ((conv => whnf) <;> first
   | refine nP ?_ | refine draw_intro 5 [.fl 0, .fl 1, .fl 2, .fl 4, .st 3 [4], .st 5 [], .st 6 []] (by rfl) (by kernel_rfl) ?_ | refine And.intro ?_ ?_)
  all_goals first
    | rfl
    | exact e0.trans e1
    | exact ⟨_, rfl, f1.mono e0.len⟩
end Go.Proofs.YtockphlpokoohaaGreat
