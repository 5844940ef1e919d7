/- What an extension sees of a document; whether it may edit it. -/
import Derived.Test.YtlmmdpmmdmhacaaGreatKm29
import Derived.Test.YtlmmdpmmdmhacaaGreatKm40
namespace Go.Proofs.YtlmmdpmmdmhacaaGreat
open Go Go.ChangeShapes Go.WideShapes Go.ChangeAt Go.RowKit
set_option linter.unusedVariables false
set_option linter.unusedSimpArgs false
set_option maxRecDepth 100000
def openTo (hidden : List Int) (by' : Int) (x : GNode) : Bool := decide (x.By = by') || !decide (x.Tag ∈ hidden)
def seesF (d : List GNode) (hidden : List Int) (by' : Int) : Nat → Nat → Bool
  | 0, _ => false
  | f + 1, k => openTo hidden by' (d.getD k default) && (decide (k = 0) || seesF d hidden by' f (nodeOf d (d.getD k default).Parent).toNat)
def sees (d : List GNode) (hidden : List Int) (by' : Int) (k : Nat) : Bool := seesF d hidden by' (k + 1) k
theorem seesF_more {d : List GNode} (hd : isDoc d = true) (hidden : List Int) (by' : Int) : ∀ (f g k : Nat), k < d.length → k < f → k < g → seesF d hidden by' f k = seesF d hidden by' g k
  | 0, _, k, _, h, _ => by omega
  | f + 1, 0, k, _, _, h => by omega
  | f + 1, g + 1, k, hk, h1, h2 => by
    rw [seesF, seesF]
    by_cases h0 : k = 0
    · rw [decide_eq_true h0, Bool.true_or, Bool.true_or]
    · have hp := doc_parent hd hk (by omega)
      rw [getD_at hk, seesF_more hd hidden by' f g _ (by omega) (by omega) (by omega)]
theorem sees_eq {d : List GNode} (hd : isDoc d = true) (hidden : List Int) (by' : Int) {k : Nat} (hk : k < d.length) : sees d hidden by' k = (openTo hidden by' (d[k]'hk) && (decide (k = 0) || sees d hidden by' (nodeOf d (d[k]'hk).Parent).toNat)) := by
  unfold sees
  rw [seesF, getD_at hk]
  by_cases h0 : k = 0
  · rw [decide_eq_true h0, Bool.true_or, Bool.true_or]
  · have hp := doc_parent hd hk (by omega)
    rw [seesF_more hd hidden by' k ((nodeOf d (d[k]'hk).Parent).toNat + 1) _ (by omega) (by omega) (by omega)]
def seenTo (d : List GNode) (hidden : List Int) (by' : Int) (n : Nat) : List GNode := ((List.range n).filter (sees d hidden by')).map fun k => d.getD k default
def seenBy (d : List GNode) (hidden : List Int) (by' : Int) : List GNode := if isDoc d then seenTo d hidden by' d.length else []
theorem seenTo_t {d : List GNode} {hidden : List Int} {by' : Int} {n : Nat} (hn : n < d.length) (h : sees d hidden by' n = true) : seenTo d hidden by' (n + 1) = seenTo d hidden by' n ++ [d[n]] := by
  unfold seenTo; rw [List.range_succ, List.filter_append, List.map_append]; simp [h, List.getElem?_eq_getElem hn]
theorem seenTo_f {d : List GNode} {hidden : List Int} {by' : Int} {n : Nat} (h : sees d hidden by' n = false) : seenTo d hidden by' (n + 1) = seenTo d hidden by' n := by
  unfold seenTo; rw [List.range_succ, List.filter_append, List.map_append]; simp [h]
theorem seenTo_len (d : List GNode) (hidden : List Int) (by' : Int) (n : Nat) : (seenTo d hidden by' n).length ≤ n := by
  unfold seenTo; rw [List.length_map]
  have := List.length_filter_le (sees d hidden by') (List.range n)
  rw [List.length_range] at this; exact this
theorem openTo_t {hidden : List Int} {by' : Int} {x : GNode} (h : openTo hidden by' x = true) : x.By = by' ∨ decide (x.Tag ∈ hidden) = false := by
  unfold openTo at h
  by_cases hb : x.By = by'
  · exact .inl hb
  · rw [decide_eq_false hb, Bool.false_or] at h; exact .inr (by simpa using h)
theorem openTo_f {hidden : List Int} {by' : Int} {x : GNode} (h : openTo hidden by' x = false) : ¬ x.By = by' ∧ decide (x.Tag ∈ hidden) = true := by
  unfold openTo at h
  rw [Bool.or_eq_false_iff] at h
  exact ⟨of_decide_eq_false h.1, by simpa using h.2⟩
theorem ev_l7Sees (d : List GNode) (hidden : List Int) (by' : Int) (k : Nat) (c c2 : C) (S : Store) (h : Rd S [.sl 5 (d.map GNode.d)] [c]) (h2 : Rd S [.sl 1 (hidden.map dInt)] [c2]) (hd : isDoc d = true) (hk : k < d.length) :
    EvA Tryz.prog 363 [.s c, .s c2, .s (.int .i64 by'), .s (.int .i64 k)] S (fun r S' => r = .v (.s (.bool (sees d hidden by' k))) ∧ S' = S) := by
  refine evA_intro tok Tryz.func363 (by kernel_rfl) rfl ?_
  skip
  refine loop_intro {x : Int // -1 ≤ x ∧ x < d.length ∧ (if x < 0 then true else sees d hidden by' x.toNat) = sees d hidden by' k} [3, 8, 9, 10, 11, 12, 13, 14, 15, 16, 17, 18, 19, 20, 21, 22, 23, 24, 25, 26, 27, 28, 29, 30, 31, 32, 33, 34, 35] (fun zb => [(3, .v (.s (.int .i64 zb.1)))]) (fun _ => S) (fun zb => (zb.1 + 1).toNat) ⟨k, by omega, by omega, by rw [if_neg (by omega)]; rfl⟩ ?_ rfl ?_
  · (conv => whnf); repeat' (first | exact trivial | exact rfl | apply And.intro)
  rintro ⟨x, hx0, hx1, hinv⟩; dsimp only
  by_cases hneg : x < 0
  · rw [if_pos hneg] at hinv
    rw [← hinv]
    repeat' ((conv => whnf) <;> first
     | (show CondP _ _ _; refine cS ?_) | refine And.intro ?_ ?_)
    all_goals first | rfl | (exfalso; omega)
  · rw [if_neg hneg] at hinv
    have hxl : x.toNat < d.length := by omega
    have hse := sees_eq hd hidden by' hxl
    rw [hinv] at hse
    cases ho : openTo hidden by' (d[x.toNat]'hxl) with
    | false =>
      rw [ho, Bool.false_and] at hse
      obtain ⟨o1, o2⟩ := openTo_f ho
      rw [hse]
      repeat' ((conv => whnf) <;> first
       | (show CondP _ _ _; refine cS ?_) | refine callP_eq (ev_l7Has _ _ _ _ aN) ?_ | refine rI aN rf ix ?_ | refine rd_loadf aN tv ix ?_ | refine And.intro ?_ ?_)
      all_goals first | rfl | (exfalso; omega)
    | true =>
      rw [ho, Bool.true_and] at hse
      by_cases h0 : x = 0
      · subst h0
        have hse : sees d hidden by' k = true := by rw [hse]; rfl
        rcases openTo_t ho with o1 | o1
        all_goals
          repeat' ((conv => whnf) <;> first
           | (refine callP_eq (ev_sNodeOf (d.take 0) _ _ _ (by simpa using hSl)) ?_) | (show CondP _ _ _; refine cS ?_) | refine cD (fun _ => ?_) fun _ => ?_ | refine cF ?_ | refine callP_eq (ev_l7Has _ _ _ _ aN) ?_ | refine rI aN rf ix ?_ | refine rd_loadf aN tv ix ?_ | (refine rd_slif aN rf om ?_; intro cSl hSl) | refine draw_intro 27 [.fl 0, .fl 1, .fl 2, .fl 3, .fl 4, .fl 5, .fl 6, .fl 7, .st 8 [], .st 9 []] (by rfl) (by kernel_rfl) ?_)
          all_goals first
            | (refine ⟨⟨-1, by omega, by omega, by rw [if_pos (by omega)]; exact hse.symm⟩, ?_, rfl, by dsimp only; omega⟩; (conv => whnf); repeat' (first | exact trivial | exact rfl | apply And.intro))
            | (exfalso; omega)
            | (exfalso; simp_all; done)
      · have hp := doc_parent hd hxl (by omega)
        have hok := (doc_ok hd).2 _ hxl
        rw [okNode_pos (by omega) (by omega)] at hok
        simp only [Bool.and_eq_true, decide_eq_true_eq] at hok
        have hnt := nodeOf_take hok.2.2
        rw [decide_eq_false (by omega), Bool.false_or] at hse
        rcases openTo_t ho with o1 | o1
        all_goals
          repeat' ((conv => whnf) <;> first
           | (refine callP_eq (ev_sNodeOf (d.take x.toNat) _ _ _ (by simpa using hSl)) ?_) | (show CondP _ _ _; refine cS ?_) | refine cD (fun _ => ?_) fun _ => ?_ | refine cF ?_ | refine callP_eq (ev_l7Has _ _ _ _ aN) ?_ | refine rI aN rf ix ?_ | refine rd_loadf aN tv ix ?_ | (refine rd_slif aN rf om ?_; intro cSl hSl) | refine draw_intro 27 [.fl 0, .fl 1, .fl 2, .fl 3, .fl 4, .fl 5, .fl 6, .fl 7, .st 8 [], .st 9 []] (by rfl) (by kernel_rfl) ?_)
          all_goals first
            | (refine ⟨⟨nodeOf (d.take x.toNat) (d[x.toNat]'hxl).Parent, by omega, by omega, by rw [if_neg (by omega), ← hnt.1]; exact hse.symm⟩, ?_, rfl, by dsimp only; omega⟩; (conv => whnf); repeat' (first | exact trivial | exact rfl | apply And.intro))
            | (exfalso; omega)
            | (exfalso; simp_all; done)
theorem ev_sSeenBy (d : List GNode) (hidden : List Int) (by' : Int) (c c2 : C) (S : Store) (h : Rd S [.sl 5 (d.map GNode.d)] [c]) (h2 : Rd S [.sl 1 (hidden.map dInt)] [c2]) (hz : d.length ≤ 4194304) :
    EvA Tryz.prog 350 [.s c, .s c2, .s (.int .i64 by')] S (fun r S' => Ext S S' ∧ ∃ c', r = .v (.s c') ∧ Fr S.length S' [.sl 5 ((seenBy d hidden by').map GNode.d)] [c']) := by
  cases hd : isDoc d with
  | false =>
    rw [show seenBy d hidden by' = [] from by unfold seenBy; rw [hd]; rfl]
    refine evA_intro tok Tryz.func350 (by kernel_rfl) rfl ?_
    skip
    refine loop_intro {u : Unit // True} [7, 8, 10, 11, 12, 13, 14, 15, 16, 17, 18, 19, 20, 21, 22, 23, 24, 25, 26, 27, 28, 29, 30, 31] (fun zb => [(8, .v (.s (.int .i64 0))), (7, .v (.s (.sl S.length 0 0 0)))]) (fun zb => S ++ [⟨true, 5, []⟩]) (fun zb => 0) ⟨(), trivial⟩ ?_ rfl ?_
    · (conv => whnf); repeat' (first | exact trivial | exact rfl | apply And.intro)
    rintro ⟨u, _⟩; dsimp only
    have h' := h.ext (Ext.push S ⟨true, 5, []⟩)
    by_cases h0 : 0 < d.length
    all_goals
      repeat' ((conv => whnf) <;> first
       | (show CondP _ _ _; refine cS ?_) | refine cF ?_ | refine callP_eq (ev_sIsDocument _ _ _ rdA) ?_ | refine rE fun hml => ?_ | refine And.intro ?_ ?_)
      all_goals first
        | exact Ext.push _ _
        | exact ⟨_, rfl, fr_lit0⟩
        | (exfalso; omega)
  | true =>
    rw [show seenBy d hidden by' = seenTo d hidden by' d.length from by unfold seenBy; rw [hd]; rfl]
    refine evA_intro tok Tryz.func350 (by kernel_rfl) rfl ?_
    skip
    refine loop_intro {p : Nat × Store × C // p.1 ≤ d.length ∧ Ext S p.2.1 ∧ Fr S.length p.2.1 [.sl 5 ((seenTo d hidden by' p.1).map GNode.d)] [p.2.2]} [7, 8, 10, 11, 12, 13, 14, 15, 16, 17, 18, 19, 20, 21, 22, 23, 24, 25, 26, 27, 28, 29, 30, 31] (fun zb => [(8, .v (.s (.int .i64 zb.1.1))), (7, .v (.s zb.1.2.2))]) (fun zb => zb.1.2.1) (fun zb => d.length - zb.1.1) ⟨(0, _, _), Nat.zero_le _, Ext.push _ _, fr_lit0⟩ ?_ rfl ?_
    · (conv => whnf); repeat' (first | exact trivial | exact rfl | apply And.intro)
    rintro ⟨⟨i, Si, ci⟩, hi, hE, hF⟩; dsimp only
    replace hi : i ≤ d.length := hi
    replace hE : Ext S Si := hE
    replace hF : Fr S.length Si [.sl 5 ((seenTo d hidden by' i).map GNode.d)] [ci] := hF
    have hfl := seenTo_len d hidden by' i
    have h' := h.ext hE
    have h2' := h2.ext hE
    by_cases hlt : i < d.length
    · cases hs : sees d hidden by' i with
      | true =>
        repeat' ((conv => whnf) <;> first
         | rw [wrapI_i64 (by omega)] | (show CondP _ _ _; refine cS ?_) | refine callP_eq (ev_sIsDocument _ _ _ rdA) ?_ | refine callP_eq (ev_l7Sees _ _ _ _ _ _ _ rdA rdA aN om) ?_ | refine rE fun hml => ?_ | refine rI rdA rf ix ?_ | refine rd_loadf rdA tv ix ?_ | rw [hs] | (refine fr_app1 (f := GNode.d) aN aN tv (by rfl) rf (by dsimp only [T139]; omega) om ?_; intro cN SN hEN hFN))
        all_goals first
          | (refine ⟨⟨(i + 1, _, _), by dsimp only; omega, by assumption, by rw [seenTo_t hlt hs]; assumption⟩, ?_, rfl, by dsimp only; omega⟩; (conv => whnf); repeat' (first | exact trivial | exact rfl | apply And.intro))
          | (exfalso; omega)
      | false =>
        repeat' ((conv => whnf) <;> first
         | rw [wrapI_i64 (by omega)] | (show CondP _ _ _; refine cS ?_) | refine callP_eq (ev_sIsDocument _ _ _ rdA) ?_ | refine callP_eq (ev_l7Sees _ _ _ _ _ _ _ rdA rdA aN om) ?_ | refine rE fun hml => ?_ | rw [hs])
        all_goals first
          | (refine ⟨⟨(i + 1, _, _), by dsimp only; omega, by assumption, by rw [seenTo_f hs]; assumption⟩, ?_, rfl, by dsimp only; omega⟩; (conv => whnf); repeat' (first | exact trivial | exact rfl | apply And.intro))
          | (exfalso; omega)
    · have he : i = d.length := by omega
      subst he
      repeat' ((conv => whnf) <;> first
       | (show CondP _ _ _; refine cS ?_) | refine cF ?_ | refine rE fun hml => ?_ | refine And.intro ?_ ?_)
      all_goals first
        | exact hE
        | exact ⟨_, rfl, hF⟩
        | (exfalso; omega)
theorem Fr.fst {S : Store} {lo : Nat} {d1 d2 : D} {c1 c2 : C} (h : Fr lo S [d1, d2] [c1, c2]) : Fr lo S [d1] [c1] := Fr.left (ds := [d1]) (ds' := [d2]) (cs := [c1]) (cs' := [c2]) h rfl
theorem ev_sSeesNode (d : List GNode) (hidden : List Int) (by' id : Int) (c c2 : C) (S : Store) (h : Rd S [.sl 5 (d.map GNode.d)] [c]) (h2 : Rd S [.sl 1 (hidden.map dInt)] [c2]) (hz : d.length ≤ 4194304) :
    EvA Tryz.prog 300 [.s c, .s c2, .s (.int .i64 by'), .s (.int .i64 id)] S (fun r S' => r = .v (.s (.bool (decide (0 ≤ nodeOf (seenBy d hidden by') id)))) ∧ S' = S) := by
  refine EvA.drop rfl ?_
  refine evA_intro tok Tryz.func300 (by kernel_rfl) rfl ?_
  repeat' ((conv => whnf) <;> first
   | refine callP_eq (ev_sNodeOf _ _ _ _ rdA) ?_ | (refine callP_intro (ev_sSeenBy _ _ _ _ _ _ rdA rdA om) ?_; rintro _ Sn ⟨hEn, cn, rfl, hFn⟩) | refine And.intro ?_ ?_)
  all_goals first | rfl | assumption
def mayEdit (d : List GNode) (hidden : List Int) (e : GEdit) : Bool :=
  isEdit e && !(decide (0 ≤ nodeOf d e.Node) && decide (nodeOf (seenBy d hidden e.By) e.Node < 0)) &&
  (if e.Kind = 1 ∨ e.Kind = 4 then decide (0 ≤ nodeOf (seenBy d hidden e.By) e.Parent) else if e.Kind = 2 then d.all (fun x => !(isUnder d x.Id e.Node && decide (nodeOf (seenBy d hidden e.By) x.Id < 0))) else true)
theorem all_drop {α : Type} {P : α → Bool} {l : List α} {i : Nat} (h : i < l.length) : (l.drop i).all P = (P l[i] && (l.drop (i + 1)).all P) := by rw [drop_at h, List.all_cons]
set_option maxHeartbeats 2000000 in
theorem ev_sMayEdit (d : List GNode) (hidden : List Int) (e : GEdit) (c c2 : C) (S : Store) (h : Rd S [.sl 5 (d.map GNode.d)] [c]) (h2 : Rd S [.sl 1 (hidden.map dInt)] [c2]) (hz : d.length ≤ 4194304) :
    EvA Tryz.prog 235 [.s c, .s c2, .agg e.c] S (fun r S' => r = .v (.s (.bool (mayEdit d hidden e))) ∧ S' = S) := by
  cases he : isEdit e with
  | false =>
    rw [show mayEdit d hidden e = false from by unfold mayEdit; rw [he]; rfl]
    refine evA_intro tok Tryz.func235 (by kernel_rfl) rfl ?_
    repeat' ((conv => whnf) <;> first
     | (show CondP _ _ _; refine cS ?_) | refine cT ?_ | refine callP_eq (ev_sIsEdit _ _) ?_ | refine And.intro ?_ ?_)
    all_goals first | rfl | assumption | exact Ext.refl _ | (exfalso; omega)
  | true =>
    have hk := kind4 he
    by_cases hv : 0 ≤ nodeOf d e.Node ∧ nodeOf (seenBy d hidden e.By) e.Node < 0
    · obtain ⟨v1, v2⟩ := hv
      rw [show mayEdit d hidden e = false from by unfold mayEdit; rw [decide_eq_true v1, decide_eq_true v2, he]; rfl]
      refine evA_intro tok Tryz.func235 (by kernel_rfl) rfl ?_
      repeat' ((conv => whnf) <;> first
       | (show CondP _ _ _; refine cS ?_) | refine callP_eq (ev_sIsEdit _ _) ?_ | refine callP_eq (ev_sNodeOf _ _ _ _ aN) ?_ | refine callP_eq (ev_sSeesNode _ _ _ _ _ _ _ aN aN (by first | assumption | omega)) ?_ | refine And.intro ?_ ?_)
      all_goals first | rfl | assumption | exact Ext.refl _ | (exfalso; omega)
    · have hv2 : (nodeOf d e.Node < 0) ∨ (0 ≤ nodeOf d e.Node ∧ 0 ≤ nodeOf (seenBy d hidden e.By) e.Node) := by omega
      have hme : mayEdit d hidden e = (if e.Kind = 1 ∨ e.Kind = 4 then decide (0 ≤ nodeOf (seenBy d hidden e.By) e.Parent) else if e.Kind = 2 then d.all (fun x => !(isUnder d x.Id e.Node && decide (nodeOf (seenBy d hidden e.By) x.Id < 0))) else true) := by
        unfold mayEdit
        rw [he, Bool.true_and]
        have : (!(decide (0 ≤ nodeOf d e.Node) && decide (nodeOf (seenBy d hidden e.By) e.Node < 0))) = true := by
          rw [Bool.not_eq_true', Bool.and_eq_false_iff, decide_eq_false_iff_not, decide_eq_false_iff_not]; omega
        rw [this, Bool.true_and]
      rw [hme]
      have hall : (d.drop 0).all (fun x => !(isUnder d x.Id e.Node && decide (nodeOf (seenBy d hidden e.By) x.Id < 0))) = d.all (fun x => !(isUnder d x.Id e.Node && decide (nodeOf (seenBy d hidden e.By) x.Id < 0))) := rfl
      clear hme hv
      rcases hv2 with v1 | ⟨v1, v2⟩
      all_goals
        by_cases k1 : e.Kind = 1 ∨ e.Kind = 4
        · rw [if_pos k1]
          rcases k1 with k1 | k1
          all_goals
            by_cases q : 0 ≤ nodeOf (seenBy d hidden e.By) e.Parent
            · rw [decide_eq_true q]
              refine evA_intro tok Tryz.func235 (by kernel_rfl) rfl ?_
              repeat' ((conv => whnf) <;> first
               | (show CondP _ _ _; refine cS ?_) | refine cT ?_ | refine cF ?_ | refine callP_eq (ev_sIsEdit _ _) ?_ | refine callP_eq (ev_sNodeOf _ _ _ _ aN) ?_ | refine callP_eq (ev_sSeesNode _ _ _ _ _ _ _ aN aN (by first | assumption | omega)) ?_)
              refine loop_intro Unit [6, 7, 46, 47, 48, 49, 50, 51, 52, 53, 54, 55, 56, 57, 58, 59, 60, 61, 62, 63, 64, 65, 66, 67, 68, 69, 70, 71, 72, 73, 74, 75, 76, 77, 78] (fun _ => [(7, .v (.s (.int .i64 0)))]) (fun _ => S) (fun _ => 0) () ?_ rfl ?_
              · (conv => whnf); repeat' (first | exact trivial | exact rfl | apply And.intro)
              rintro ⟨⟩; dsimp only
              have k2' : ¬ e.Kind = 2 := by omega
              by_cases hl0 : 0 < d.length
              all_goals
                repeat' ((conv => whnf) <;> first
                 | (show CondP _ _ _; refine cS ?_) | refine cF ?_ | refine rE fun hml => ?_ | refine And.intro ?_ ?_)
              all_goals first
                | rfl
                | assumption
                | (show _ = _; rw [decide_eq_true q]; rfl)
                | (exfalso; omega)
            · rw [decide_eq_false q]
              refine evA_intro tok Tryz.func235 (by kernel_rfl) rfl ?_
              repeat' ((conv => whnf) <;> first
               | (show CondP _ _ _; refine cS ?_) | refine cT ?_ | refine cF ?_ | refine callP_eq (ev_sIsEdit _ _) ?_ | refine callP_eq (ev_sNodeOf _ _ _ _ aN) ?_ | refine callP_eq (ev_sSeesNode _ _ _ _ _ _ _ aN aN (by first | assumption | omega)) ?_ | refine And.intro ?_ ?_)
              all_goals first
                | rfl
                | assumption
                | (show _ = _; rw [decide_eq_false q]; rfl)
                | (exfalso; omega)
        · rw [if_neg k1]
          have k1a : ¬ e.Kind = 1 := fun hh => k1 (.inl hh)
          have k1b : ¬ e.Kind = 4 := fun hh => k1 (.inr hh)
          by_cases k2 : e.Kind = 2
          · rw [if_pos k2]
            refine evA_intro tok Tryz.func235 (by kernel_rfl) rfl ?_
            repeat' ((conv => whnf) <;> first
             | (show CondP _ _ _; refine cS ?_) | refine cF ?_ | refine callP_eq (ev_sIsEdit _ _) ?_ | refine callP_eq (ev_sNodeOf _ _ _ _ aN) ?_ | refine callP_eq (ev_sSeesNode _ _ _ _ _ _ _ aN aN (by first | assumption | omega)) ?_)
            refine loop_intro {i : Nat // i ≤ d.length ∧ (d.drop i).all (fun x => !(isUnder d x.Id e.Node && decide (nodeOf (seenBy d hidden e.By) x.Id < 0))) = d.all (fun x => !(isUnder d x.Id e.Node && decide (nodeOf (seenBy d hidden e.By) x.Id < 0)))} [6, 7, 46, 47, 48, 49, 50, 51, 52, 53, 54, 55, 56, 57, 58, 59, 60, 61, 62, 63, 64, 65, 66, 67, 68, 69, 70, 71, 72, 73, 74, 75, 76, 77, 78] (fun zb => [(7, .v (.s (.int .i64 zb.1)))]) (fun _ => S) (fun zb => d.length - zb.1) ⟨0, Nat.zero_le _, hall⟩ ?_ rfl ?_
            · (conv => whnf); repeat' (first | exact trivial | exact rfl | apply And.intro)
            rintro ⟨i, hi, hinv⟩; dsimp only
            by_cases hlt : i < d.length
            · have hlt' : ((i : Nat) : Int).toNat < d.length := hlt
              have hinv : (!(isUnder d (d[((i : Nat) : Int).toNat]'hlt').Id e.Node && decide (nodeOf (seenBy d hidden e.By) (d[((i : Nat) : Int).toNat]'hlt').Id < 0)) && (d.drop (i + 1)).all (fun x => !(isUnder d x.Id e.Node && decide (nodeOf (seenBy d hidden e.By) x.Id < 0)))) = d.all (fun x => !(isUnder d x.Id e.Node && decide (nodeOf (seenBy d hidden e.By) x.Id < 0))) := (all_drop hlt).symm.trans hinv
              cases hu : isUnder d (d[((i : Nat) : Int).toNat]'hlt').Id e.Node with
              | false =>
                rw [hu, Bool.false_and, Bool.not_false, Bool.true_and] at hinv
                repeat' ((conv => whnf) <;> first
                 | rw [hu] | rw [wrapI_i64 (by omega)] | (show CondP _ _ _; refine cS ?_) | refine cF ?_ | refine callP_eq (ev_IsUnder _ _ _ _ _ aN) ?_ | refine rE fun hml => ?_ | refine rI aN rf ix ?_ | refine rd_loadf aN tv ix ?_ | refine draw_intro 57 [.fl 0, .fl 1, .fl 2, .fl 3, .fl 4, .fl 5, .fl 6, .fl 7, .st 8 [], .fl 9, .fl 10, .fl 11, .fl 12, .fl 13, .fl 14, .fl 15, .fl 16, .fl 17, .fl 18, .st 19 [], .fl 20, .fl 21] (by rfl) (by kernel_rfl) ?_)
                all_goals first
                  | (refine ⟨⟨i + 1, by omega, hinv⟩, ?_, rfl, by simp; omega⟩; (conv => whnf); repeat' (first | exact trivial | exact rfl | apply And.intro))
                  | (exfalso; omega)
              | true =>
                rw [hu, Bool.true_and] at hinv
                by_cases q : nodeOf (seenBy d hidden e.By) (d[((i : Nat) : Int).toNat]'hlt').Id < 0
                · rw [decide_eq_true q, Bool.not_true, Bool.false_and] at hinv
                  rw [← hinv]
                  have q' : ¬ 0 ≤ nodeOf (seenBy d hidden e.By) (d[((i : Nat) : Int).toNat]'hlt').Id := by omega
                  repeat' ((conv => whnf) <;> first
                   | rw [hu] | (show CondP _ _ _; refine cS ?_) | refine cT ?_ | refine callP_eq (ev_sSeesNode _ _ _ _ _ _ _ aN aN (by first | assumption | omega)) ?_ | refine callP_eq (ev_IsUnder _ _ _ _ _ aN) ?_ | refine rE fun hml => ?_ | refine rI aN rf ix ?_ | refine rd_loadf aN tv ix ?_ | refine draw_intro 57 [.fl 0, .fl 1, .fl 2, .fl 3, .fl 4, .fl 5, .fl 6, .fl 7, .st 8 [], .fl 9, .fl 10, .fl 11, .fl 12, .fl 13, .fl 14, .fl 15, .fl 16, .fl 17, .fl 18, .st 19 [], .fl 20, .fl 21] (by rfl) (by kernel_rfl) ?_ | refine And.intro ?_ ?_)
                  all_goals first
                    | rfl
                    | assumption
                    | (exfalso; omega)
                · rw [decide_eq_false q, Bool.not_false, Bool.true_and] at hinv
                  have q' : 0 ≤ nodeOf (seenBy d hidden e.By) (d[((i : Nat) : Int).toNat]'hlt').Id := by omega
                  repeat' ((conv => whnf) <;> first
                   | rw [hu] | rw [wrapI_i64 (by omega)] | (show CondP _ _ _; refine cS ?_) | refine cT ?_ | refine callP_eq (ev_sSeesNode _ _ _ _ _ _ _ aN aN (by first | assumption | omega)) ?_ | refine callP_eq (ev_IsUnder _ _ _ _ _ aN) ?_ | refine rE fun hml => ?_ | refine rI aN rf ix ?_ | refine rd_loadf aN tv ix ?_ | refine draw_intro 57 [.fl 0, .fl 1, .fl 2, .fl 3, .fl 4, .fl 5, .fl 6, .fl 7, .st 8 [], .fl 9, .fl 10, .fl 11, .fl 12, .fl 13, .fl 14, .fl 15, .fl 16, .fl 17, .fl 18, .st 19 [], .fl 20, .fl 21] (by rfl) (by kernel_rfl) ?_)
                  all_goals first
                    | (refine ⟨⟨i + 1, by omega, hinv⟩, ?_, rfl, by simp; omega⟩; (conv => whnf); repeat' (first | exact trivial | exact rfl | apply And.intro))
                    | (exfalso; omega)
            · rw [drop_end (by omega), List.all_nil] at hinv
              rw [← hinv]
              repeat' ((conv => whnf) <;> first
               | (show CondP _ _ _; refine cS ?_) | refine cF ?_ | refine rE fun hml => ?_ | refine And.intro ?_ ?_)
              all_goals first
                | rfl
                | assumption
                | (exfalso; omega)
          · rw [if_neg k2]
            refine evA_intro tok Tryz.func235 (by kernel_rfl) rfl ?_
            repeat' ((conv => whnf) <;> first
             | (show CondP _ _ _; refine cS ?_) | refine cF ?_ | refine callP_eq (ev_sIsEdit _ _) ?_ | refine callP_eq (ev_sNodeOf _ _ _ _ aN) ?_ | refine callP_eq (ev_sSeesNode _ _ _ _ _ _ _ aN aN (by first | assumption | omega)) ?_)
            refine loop_intro Unit [6, 7, 46, 47, 48, 49, 50, 51, 52, 53, 54, 55, 56, 57, 58, 59, 60, 61, 62, 63, 64, 65, 66, 67, 68, 69, 70, 71, 72, 73, 74, 75, 76, 77, 78] (fun _ => [(7, .v (.s (.int .i64 0)))]) (fun _ => S) (fun _ => 0) () ?_ rfl ?_
            · (conv => whnf); repeat' (first | exact trivial | exact rfl | apply And.intro)
            rintro ⟨⟩; dsimp only
            have k2' : ¬ e.Kind = 2 := by omega
            by_cases hl0 : 0 < d.length
            all_goals
              repeat' ((conv => whnf) <;> first
               | (show CondP _ _ _; refine cS ?_) | refine cF ?_ | refine rE fun hml => ?_ | refine And.intro ?_ ?_)
            all_goals first
              | rfl
              | assumption
              | (exfalso; omega)
end Go.Proofs.YtlmmdpmmdmhacaaGreat
