/- What an edit does to a document; edits one after the other; a tab's document. -/
import Derived.Test.YtlmmdpmmdmhacaaGreatKm39
namespace Go.Proofs.YtlmmdpmmdmhacaaGreat
open Go Go.ChangeShapes Go.WideShapes Go.ChangeAt Go.RowKit
set_option linter.unusedVariables false
set_option linter.unusedSimpArgs false
set_option maxRecDepth 100000
def posOf (n : Int) : List GNode → Nat
  | [] => 0
  | x :: r => if x.Id < n then 1 + posOf n r else 0
theorem posOf_le (n : Int) : ∀ l : List GNode, posOf n l ≤ l.length
  | [] => Nat.le_refl _
  | x :: r => by
    rw [posOf]
    split
    · have := posOf_le n r; rw [List.length_cons]; omega
    · exact Nat.zero_le _
def edNode (e : GEdit) : GNode := ⟨e.Node, e.Parent, e.Tag, e.Text, e.By⟩
def mayAdd (d : List GNode) (e : GEdit) : Bool := decide (nodeOf d e.Node < 0) && decide (0 ≤ nodeOf d e.Parent) && decide (e.Parent ≤ e.Node) && decide (d.length < 16)
def addNode (d : List GNode) (e : GEdit) : List GNode × Bool := if mayAdd d e then (d.take (posOf e.Node d) ++ edNode e :: d.drop (posOf e.Node d), true) else (d, false)
def dropNode (d : List GNode) (id : Int) : List GNode × Bool := if 0 ≤ nodeOf d id then (d.filter (fun x => !above d x.Id id), true) else (d, false)
def textNode (d : List GNode) (e : GEdit) : List GNode × Bool := if 0 ≤ nodeOf d e.Node then (d.set (nodeOf d e.Node).toNat { d.getD (nodeOf d e.Node).toNat default with Text := e.Text, By := e.By }, true) else (d, false)
def mayMove (d : List GNode) (e : GEdit) : Bool := decide (0 ≤ nodeOf d e.Node) && decide (0 ≤ nodeOf d e.Parent) && decide (e.Parent < e.Node)
def moveNode (d : List GNode) (e : GEdit) : List GNode × Bool := if mayMove d e then (d.set (nodeOf d e.Node).toNat { d.getD (nodeOf d e.Node).toNat default with Parent := e.Parent, By := e.By }, true) else (d, false)
def applyEdit (d : List GNode) (e : GEdit) : List GNode × Bool :=
  if isDoc d && isEdit e then (if e.Kind = 1 then addNode d e else if e.Kind = 2 then dropNode d e.Node else if e.Kind = 3 then textNode d e else moveNode d e) else (d, false)
theorem applyEdit_len (d : List GNode) (e : GEdit) : (applyEdit d e).1.length ≤ max d.length 16 := by
  unfold applyEdit addNode dropNode textNode moveNode
  have h1 := posOf_le e.Node d
  have h2 := List.length_filter_le (fun x => !above d x.Id e.Node) d
  split
  · split
    · split
      · rename_i h
        simp only [mayAdd, Bool.and_eq_true, decide_eq_true_eq] at h
        simp only [List.length_append, List.length_cons, List.length_take, List.length_drop]; omega
      · exact Nat.le_max_left ..
    · split
      · split
        · exact Nat.le_trans h2 (Nat.le_max_left ..)
        · exact Nat.le_max_left ..
      · split
        · split
          · rw [List.length_set]; exact Nat.le_max_left ..
          · exact Nat.le_max_left ..
        · split
          · rw [List.length_set]; exact Nat.le_max_left ..
          · exact Nat.le_max_left ..
  · exact Nat.le_max_left ..
def runEdits (d : List GNode) (l : List GEdit) : List GNode := l.foldl (fun d e => (applyEdit d e).1) d
theorem runEdits_len : ∀ (l : List GEdit) (d : List GNode), (runEdits d l).length ≤ max d.length 16
  | [], d => Nat.le_max_left ..
  | e :: r, d => by
    have h1 := runEdits_len r (applyEdit d e).1
    have h2 := applyEdit_len d e
    show (runEdits (applyEdit d e).1 r).length ≤ _
    omega
theorem runEdits_snoc (d : List GNode) (l : List GEdit) (e : GEdit) : runEdits d (l ++ [e]) = (applyEdit (runEdits d l) e).1 := by
  unfold runEdits; rw [List.foldl_append]; rfl
theorem ev_l5Add (d : List GNode) (e : GEdit) (c : C) (S : Store) (h : Rd S [.sl 5 (d.map GNode.d)] [c]) (hz : d.length ≤ 4194304) : EvA Tryz.prog 346 [.s c, .agg e.c] S (fun r S' => Ext S S' ∧ ∃ c', r = .tup [.s c', .s (.bool (addNode d e).2)] ∧ Fr S.length S' [.sl 5 ((addNode d e).1.map GNode.d)] [c']) := by
  by_cases hm : mayAdd d e = true
  · rw [show addNode d e = (d.take (posOf e.Node d) ++ edNode e :: d.drop (posOf e.Node d), true) from if_pos hm]
    simp only [mayAdd, Bool.and_eq_true, decide_eq_true_eq] at hm
    obtain ⟨⟨⟨m1, m2⟩, m3⟩, m4⟩ := hm
    have hp := posOf_le e.Node d
    refine evA_intro tok Tryz.func346 (by kernel_rfl) rfl ?_
    repeat' ((conv => whnf) <;> first
     | (show CondP _ _ _; refine cS ?_) | refine callP_eq (ev_sNodeOf _ _ _ _ rdA) ?_ | refine rE fun hml => ?_)
    refine loop_intro {i : Nat // i ≤ d.length ∧ i + posOf e.Node (d.drop i) = posOf e.Node d} [6, 34, 35, 36, 37, 38, 39, 40, 41, 42, 43, 44, 45, 46, 47, 48, 49] (fun zb => [(6, .v (.s (.int .i64 zb.1)))]) (fun _ => S) (fun zb => d.length - zb.1) ⟨0, Nat.zero_le _, by simp⟩ ?_ rfl ?_
    · (conv => whnf); repeat' (first | exact trivial | exact rfl | apply And.intro)
    rintro ⟨i, hi, hinv⟩; dsimp only
    by_cases hlt : i < d.length
    · rw [drop_at hlt, posOf] at hinv
      have hlt' : ((i : Nat) : Int).toNat < d.length := by simpa using hlt
      by_cases hc : (d[((i : Nat) : Int).toNat]'hlt').Id < e.Node
      · rw [if_pos (by simpa using hc)] at hinv
        repeat' ((conv => whnf) <;> first
         | rw [wrapI_i64 (by omega)] | (show CondP _ _ _; refine cS ?_) | refine rE fun hml => ?_ | refine rI rdA rf ix ?_ | refine rd_loadf rdA tv ix ?_ | refine draw_intro 34 [.fl 0, .fl 1, .fl 2, .fl 3, .fl 4, .fl 5, .fl 6, .fl 7, .fl 8, .fl 9, .fl 10, .fl 11, .fl 12, .fl 13] (by rfl) (by kernel_rfl) ?_)
        all_goals first
          | (refine ⟨⟨i + 1, by omega, by omega⟩, ?_, rfl, by simp; omega⟩; (conv => whnf); repeat' (first | exact trivial | exact rfl | apply And.intro))
      · rw [if_neg (by simpa using hc), Nat.add_zero] at hinv
        rw [← hinv]
        obtain ⟨cH, hcH, hH⟩ := rd_slhx (n := 5) (lo := (i : Int)) h (by intro _; rfl) (by omega)
        rw [Int.toNat_natCast] at hH
        repeat' ((conv => whnf) <;> first
         | (refine rd_slhe hcH rdA rf om ?_) | (refine callP_intro (ev_l5Copy (d.take i) _ _ (by simpa using hSl) (by rw [List.length_take]; omega)) ?_; rintro _ Sn ⟨hEn, cn, rfl, hFn⟩) | (show CondP _ _ _; refine cS ?_) | refine rE fun hml => ?_ | refine rI rdA rf ix ?_ | refine rd_loadf rdA tv ix ?_ | (refine rd_slif rdA rf om ?_; intro cSl hSl) | refine draw_intro 34 [.fl 0, .fl 1, .fl 2, .fl 3, .fl 4, .fl 5, .fl 6, .fl 7, .fl 8, .fl 9, .fl 10, .fl 11, .fl 12, .fl 13] (by rfl) (by kernel_rfl) ?_ | refine draw_intro 61 [.fl 0, .fl 1, .fl 2, .fl 4, .fl 5, .fl 7, .fl 8, .fl 9, .st 3 [4, 5, 7, 8, 9], .st 6 [7, 8, 9], .st 10 [], .st 11 [], .st 12 []] (by rfl) (by kernel_rfl) ?_ | (refine fr_app_flat (f := GNode.d) (m := [edNode e]) tv (by assumption) (by assumption) (by rfl) rf (by dsimp only [T139]; simp only [List.length_take, List.length_drop, List.length_cons, List.length_nil]; omega) (by rw [maxLen_eq]; simp only [List.length_take, List.length_drop, List.length_cons, List.length_nil]; omega) ?_; intro cA SA hEA hFA hlA) | (refine rd_elemsf (f := GNode.d) rdA tv (fun _ => ?_)) | (refine fr_app_flat (f := GNode.d) (m := d.drop i) tv (by assumption) (by assumption) (by rfl) rf (by dsimp only [T139]; simp only [List.length_append, List.length_take, List.length_drop, List.length_cons, List.length_nil]; omega) (by rw [maxLen_eq]; simp only [List.length_append, List.length_take, List.length_drop, List.length_cons, List.length_nil]; omega) ?_; intro cB SB hEB hFB hlB) | refine And.intro ?_ ?_)
        all_goals first
          | rfl
          | assumption
          | (rw [List.append_assoc] at hFB; exact ⟨_, rfl, hFB⟩)
          | (exfalso; omega)
    · have he : i = d.length := by omega
      subst he
      rw [drop_end (Nat.le_refl _), posOf, Nat.add_zero] at hinv
      rw [← hinv]
      obtain ⟨cH, hcH, hH⟩ := rd_slhx (n := 5) (lo := (d.length : Int)) h (by intro _; rfl) (by omega)
      rw [Int.toNat_natCast] at hH
      repeat' ((conv => whnf) <;> first
       | (refine rd_slhe hcH rdA rf om ?_) | (refine callP_intro (ev_l5Copy (d.take d.length) _ _ (by simpa using hSl) (by rw [List.length_take]; omega)) ?_; rintro _ Sn ⟨hEn, cn, rfl, hFn⟩) | (show CondP _ _ _; refine cS ?_) | refine cF ?_ | refine rE fun hml => ?_ | (refine rd_slif rdA rf om ?_; intro cSl hSl) | refine draw_intro 34 [.fl 0, .fl 1, .fl 2, .fl 3, .fl 4, .fl 5, .fl 6, .fl 7, .fl 8, .fl 9, .fl 10, .fl 11, .fl 12, .fl 13] (by rfl) (by kernel_rfl) ?_ | refine draw_intro 61 [.fl 0, .fl 1, .fl 2, .fl 4, .fl 5, .fl 7, .fl 8, .fl 9, .st 3 [4, 5, 7, 8, 9], .st 6 [7, 8, 9], .st 10 [], .st 11 [], .st 12 []] (by rfl) (by kernel_rfl) ?_ | (refine fr_app_flat (f := GNode.d) (m := [edNode e]) tv (by assumption) (by assumption) (by rfl) rf (by dsimp only [T139]; simp only [List.length_take, List.length_drop, List.length_cons, List.length_nil]; omega) (by rw [maxLen_eq]; simp only [List.length_take, List.length_drop, List.length_cons, List.length_nil]; omega) ?_; intro cA SA hEA hFA hlA) | (refine rd_elemsf (f := GNode.d) rdA tv (fun _ => ?_)) | (refine fr_app_flat (f := GNode.d) (m := d.drop d.length) tv (by assumption) (by assumption) (by rfl) rf (by dsimp only [T139]; simp only [List.length_append, List.length_take, List.length_drop, List.length_cons, List.length_nil]; omega) (by rw [maxLen_eq]; simp only [List.length_append, List.length_take, List.length_drop, List.length_cons, List.length_nil]; omega) ?_; intro cB SB hEB hFB hlB) | refine And.intro ?_ ?_)
      all_goals first
        | rfl
        | assumption
        | (rw [List.append_assoc] at hFB; exact ⟨_, rfl, hFB⟩)
        | (exfalso; omega)
  · rw [show addNode d e = (d, false) from if_neg hm]
    refine evA_intro tok Tryz.func346 (by kernel_rfl) rfl ?_
    repeat' ((conv => whnf) <;> first
     | refine cD (fun _ => ?_) fun _ => ?_ | refine cT ?_ | refine callP_eq (ev_sNodeOf _ _ _ _ rdA) ?_ | (refine callP_intro (ev_l5Copy _ _ _ rdA om) ?_; rintro _ Sn ⟨hEn, cn, rfl, hFn⟩) | refine rE fun hml => ?_ | refine And.intro ?_ ?_)
    all_goals first
      | assumption
      | exact ⟨_, rfl, by assumption⟩
      | (exfalso; apply hm; simp only [mayAdd, Bool.and_eq_true, decide_eq_true_eq]; omega)
theorem ev_l5Drop (d : List GNode) (id : Int) (c : C) (S : Store) (h : Rd S [.sl 5 (d.map GNode.d)] [c]) (hd : isDoc d = true) (hz : d.length ≤ 4194304) : EvA Tryz.prog 347 [.s c, .s (.int .i64 id)] S (fun r S' => Ext S S' ∧ ∃ c', r = .tup [.s c', .s (.bool (dropNode d id).2)] ∧ Fr S.length S' [.sl 5 ((dropNode d id).1.map GNode.d)] [c']) := by
  by_cases hn : 0 ≤ nodeOf d id
  · rw [show dropNode d id = (d.filter (fun x => !above d x.Id id), true) from if_pos hn]
    have hu : ∀ x ∈ d, isUnder d x.Id id = above d x.Id id := fun x hx => by
      have : 0 ≤ nodeOf d x.Id := nodeOf_mem hx
      unfold isUnder; rw [hd, decide_eq_true this, decide_eq_true hn]; rfl
    refine evA_intro tok Tryz.func347 (by kernel_rfl) rfl ?_
    repeat' ((conv => whnf) <;> first
     | (show CondP _ _ _; refine cS ?_) | refine callP_eq (ev_sNodeOf _ _ _ _ rdA) ?_)
    refine loop_intro {p : Nat × Store × C // p.1 ≤ d.length ∧ Ext S p.2.1 ∧ Fr S.length p.2.1 [.sl 5 (((d.take p.1).filter (fun x => !above d x.Id id)).map GNode.d)] [p.2.2]} [6, 7, 15, 16, 17, 18, 19, 20, 21, 22, 23, 24, 25, 26, 27, 28, 29, 30, 31, 32, 33, 34, 35, 36] (fun zb => [(7, .v (.s (.int .i64 zb.1.1))), (6, .v (.s zb.1.2.2))]) (fun zb => zb.1.2.1) (fun zb => d.length - zb.1.1) ⟨(0, _, _), Nat.zero_le _, Ext.push _ _, fr_lit0⟩ ?_ rfl ?_
    · (conv => whnf); repeat' (first | exact trivial | exact rfl | apply And.intro)
    rintro ⟨⟨i, Si, ci⟩, hi, hE, hF⟩; dsimp only
    replace hi : i ≤ d.length := hi
    replace hE : Ext S Si := hE
    replace hF : Fr S.length Si [.sl 5 (((d.take i).filter (fun x => !above d x.Id id)).map GNode.d)] [ci] := hF
    have hfl := filter_len (fun x => !above d x.Id id) d i
    by_cases hlt : i < d.length
    · have hlt' : ((i : Nat) : Int).toNat < d.length := by simpa using hlt
      have hui := hu _ (List.getElem_mem hlt')
      cases ha : above d (d[((i : Nat) : Int).toNat]'hlt').Id id with
      | true =>
        rw [ha] at hui
        repeat' ((conv => whnf) <;> first
         | rw [wrapI_i64 (by omega)] | (show CondP _ _ _; refine cS ?_) | refine callP_eq (ev_IsUnder _ _ _ _ _ rdA) ?_ | refine rE fun hml => ?_ | refine rI rdA rf ix ?_ | refine rd_loadf rdA tv ix ?_ | rw [hui])
        all_goals first
          | (exfalso; omega)
          | (refine ⟨⟨(i + 1, _, _), by dsimp only; omega, by assumption, by rw [filter_f hlt (by simpa using ha)]; assumption⟩, ?_, rfl, by dsimp only; omega⟩; (conv => whnf); repeat' (first | exact trivial | exact rfl | apply And.intro))
      | false =>
        rw [ha] at hui
        repeat' ((conv => whnf) <;> first
         | rw [wrapI_i64 (by omega)] | (show CondP _ _ _; refine cS ?_) | refine callP_eq (ev_IsUnder _ _ _ _ _ rdA) ?_ | refine rE fun hml => ?_ | refine rI rdA rf ix ?_ | refine rd_loadf rdA tv ix ?_ | rw [hui] | (refine fr_app1 (f := GNode.d) aN aN tv (by rfl) rf (by dsimp only [T139]; omega) om ?_; intro cN SN hEN hFN))
        all_goals first
          | (exfalso; omega)
          | (refine ⟨⟨(i + 1, _, _), by dsimp only; omega, by assumption, by rw [filter_t hlt (by simpa using ha)]; assumption⟩, ?_, rfl, by dsimp only; omega⟩; (conv => whnf); repeat' (first | exact trivial | exact rfl | apply And.intro))
    · repeat' ((conv => whnf) <;> first
       | (show CondP _ _ _; refine cS ?_) | refine rE fun hml => ?_ | refine And.intro ?_ ?_)
      all_goals first
        | exact hE
        | (rw [List.take_of_length_le (by omega)] at hF; exact ⟨_, rfl, hF⟩)
        | (exfalso; omega)
  · rw [show dropNode d id = (d, false) from if_neg hn]
    refine evA_intro tok Tryz.func347 (by kernel_rfl) rfl ?_
    repeat' ((conv => whnf) <;> first
     | (show CondP _ _ _; refine cS ?_) | refine callP_eq (ev_sNodeOf _ _ _ _ rdA) ?_ | (refine callP_intro (ev_l5Copy _ _ _ rdA om) ?_; rintro _ Sn ⟨hEn, cn, rfl, hFn⟩) | refine And.intro ?_ ?_)
    all_goals first
      | assumption
      | exact ⟨_, rfl, by assumption⟩
      | (exfalso; omega)
theorem ev_InsNode (l : List GNode) (x : GNode) (i : Nat) (hi : i ≤ l.length) (hz : l.length ≤ 4194304) {S0 S1 : Store} (c : C) (hE : Ext S0 S1) (h : Fr S0.length S1 [.sl 5 (l.map GNode.d)] [c]) :
    EvA Tryz.prog 266 [.s c, .s (.int .i64 i), .s (.sl S1.length 0 1 1)] (S1 ++ [⟨true, 5, [x.c]⟩]) (fun r S' => Ext S0 S' ∧ ∃ c', r = .v (.s c') ∧ Fr S0.length S' [.sl 5 ((l.take i ++ x :: l.drop i).map GNode.d)] [c']) := by
  by_cases hlt : i < l.length
  · refine (insNode_raw.fr (S0 := S0) (S1 := S1) (S2 := S1) (xs := l.map GNode.d) (ds := x.d) (y := x.c) (i := i) (by decide) (by decide) insNode_fok hE h (Ext.refl _) (fr_flat (by exact trivial)) hE.len rfl (by rw [List.length_map]; exact hlt) (by rw [List.length_map]; omega)).mono ?_
    rintro r S' ⟨h1, c', h2, h3⟩
    refine ⟨h1, c', h2, ?_⟩
    rw [List.map_append, List.map_cons, List.map_take, List.map_drop]; exact h3
  · have he : i = l.length := by omega
    subst he
    have hv : Rd (S1 ++ [⟨true, 5, [x.c]⟩]) [.sl 5 ([x].map GNode.d)] [.sl S1.length 0 1 1] := (fr_litG (f := GNode.d) [x] (fun _ => trivial) (by simp)).rd
    have hE' : Ext S0 (S1 ++ [⟨true, 5, [x.c]⟩]) := hE.trans (Ext.push _ _)
    have h' := h.ext (Ext.push S1 ⟨true, 5, [x.c]⟩)
    have hr' := h'.rd
    refine evA_intro tok Tryz.func266 (by kernel_rfl) rfl ?_
    repeat' ((conv => whnf) <;> first
     | (show CondP _ _ _; refine cS ?_) | refine cD (fun _ => ?_) fun _ => ?_ | refine rE fun hml => ?_ | (refine rd_slhf hr' rf om ?_; intro cH hH) | (refine rd_elemsf (f := GNode.d) hv tv (fun _ => ?_)) | (refine fr_app_flat (f := GNode.d) (m := [x]) tv hE' h' (by rfl) rf (by dsimp only [T139]; simp only [List.length_cons, List.length_nil]; omega) (by rw [maxLen_eq]; simp only [List.length_cons, List.length_nil]; omega) ?_; intro cB SB hEB hFB hlB) | refine And.intro ?_ ?_)
    all_goals first
      | rfl
      | assumption
      | (refine ⟨_, rfl, ?_⟩; rw [List.take_length, List.drop_length]; exact hFB)
      | (exfalso; rename_i hh; simp at hh; done)
      | (exfalso; omega)
theorem kind4 {e : GEdit} (h : isEdit e = true) : 1 ≤ e.Kind ∧ e.Kind ≤ 4 := by
  simp only [isEdit, inR, Bool.and_eq_true, decide_eq_true_eq] at h; omega
set_option maxHeartbeats 2000000 in
theorem ev_sApplyEdit (d : List GNode) (e : GEdit) (c : C) (S : Store) (h : Rd S [.sl 5 (d.map GNode.d)] [c]) (hz : d.length ≤ 4194304) : EvA Tryz.prog 293 [.s c, .agg e.c] S (fun r S' => Ext S S' ∧ ∃ c', r = .tup [.s c', .s (.bool (applyEdit d e).2)] ∧ Fr S.length S' [.sl 5 ((applyEdit d e).1.map GNode.d)] [c']) := by
  by_cases hv : isDoc d = true ∧ isEdit e = true
  · obtain ⟨hd, he⟩ := hv
    have hk := kind4 he
    have hdl := (doc_ok hd).1
    rw [show applyEdit d e = (if e.Kind = 1 then addNode d e else if e.Kind = 2 then dropNode d e.Node else if e.Kind = 3 then textNode d e else moveNode d e) from by unfold applyEdit; rw [hd, he]; rfl]
    by_cases k1 : e.Kind = 1
    · rw [if_pos k1]
      refine evA_intro tok Tryz.func293 (by kernel_rfl) rfl ?_
      repeat' ((conv => whnf) <;> first
       | (show CondP _ _ _; refine cS ?_) | refine callP_eq (ev_sIsEdit _ _) ?_ | refine callP_eq (ev_sNodeOf _ _ _ _ rdA) ?_ | (refine callP_intro (ev_l5Copy _ _ _ rdA om) ?_; rintro _ Sn ⟨hEn, cn, rfl, hFn⟩) | refine callP_eq (ev_sIsDocument _ _ _ rdA) ?_ | (refine callP_intro (ev_l5Add _ _ _ _ rdA om) ?_; rintro _ Sn ⟨hEn, cn, rfl, hFn⟩) | refine And.intro ?_ ?_)
      all_goals first
        | exact Ext.trans (by assumption) (by assumption)
        | exact ⟨_, rfl, Fr.mono (by assumption) (Ext.len (by assumption))⟩
        | (exfalso; omega)
    · rw [if_neg k1]
      by_cases k2 : e.Kind = 2
      · rw [if_pos k2]
        refine evA_intro tok Tryz.func293 (by kernel_rfl) rfl ?_
        repeat' ((conv => whnf) <;> first
         | (show CondP _ _ _; refine cS ?_) | refine callP_eq (ev_sIsEdit _ _) ?_ | refine callP_eq (ev_sNodeOf _ _ _ _ rdA) ?_ | (refine callP_intro (ev_l5Copy _ _ _ rdA om) ?_; rintro _ Sn ⟨hEn, cn, rfl, hFn⟩) | refine callP_eq (ev_sIsDocument _ _ _ rdA) ?_ | (refine callP_intro (ev_l5Drop _ _ _ _ rdA aN om) ?_; rintro _ Sn ⟨hEn, cn, rfl, hFn⟩) | refine And.intro ?_ ?_)
        all_goals first
          | exact Ext.trans (by assumption) (by assumption)
          | exact ⟨_, rfl, Fr.mono (by assumption) (Ext.len (by assumption))⟩
          | (exfalso; omega)
      · rw [if_neg k2]
        by_cases k3 : e.Kind = 3
        · rw [if_pos k3]
          by_cases hn : 0 ≤ nodeOf d e.Node
          · obtain ⟨hj, _⟩ := nodeOf_at hn
            rw [show textNode d e = (d.set (nodeOf d e.Node).toNat { (d[(nodeOf d e.Node).toNat]'hj) with Text := e.Text, By := e.By }, true) from by unfold textNode; rw [if_pos hn, getD_at hj]]
            refine evA_intro tok Tryz.func293 (by kernel_rfl) rfl ?_
            repeat' ((conv => whnf) <;> first
             | (show CondP _ _ _; refine cS ?_) | refine cF ?_ | refine callP_eq (ev_sIsEdit _ _) ?_ | refine callP_eq (ev_sNodeOf _ _ _ _ rdA) ?_ | (refine callP_intro (ev_l5Copy _ _ _ rdA om) ?_; rintro _ Sn ⟨hEn, cn, rfl, hFn⟩) | refine callP_eq (ev_sIsDocument _ _ _ rdA) ?_ | refine rI rdA rf ix ?_ | (refine fr_stoNode (l := d) (i := nodeOf d e.Node) (d[(nodeOf d e.Node).toNat]'hj) ({ (d[(nodeOf d e.Node).toNat]'hj) with Text := e.Text } : GNode) [.x (.int .i64 (d[(nodeOf d e.Node).toNat]'hj).Id), .x (.int .i64 (d[(nodeOf d e.Node).toNat]'hj).Parent), .x (.int .i64 (d[(nodeOf d e.Node).toNat]'hj).Tag)] [.x (.int .i64 (d[(nodeOf d e.Node).toNat]'hj).By)] (.int .i64 (d[(nodeOf d e.Node).toNat]'hj).Text) aN aN om (List.getElem?_eq_getElem hj) rfl rfl rfl ?_; intro SN hEN hFN; have hrN := hFN.rd; have hls : (d.set (nodeOf d e.Node).toNat ({ (d[(nodeOf d e.Node).toNat]'hj) with Text := e.Text } : GNode)).length = d.length := List.length_set) | (refine fr_stoNode (l := d.set (nodeOf d e.Node).toNat ({ (d[(nodeOf d e.Node).toNat]'hj) with Text := e.Text } : GNode)) (i := nodeOf d e.Node) ({ (d[(nodeOf d e.Node).toNat]'hj) with Text := e.Text } : GNode) ({ (d[(nodeOf d e.Node).toNat]'hj) with Text := e.Text, By := e.By } : GNode) [.x (.int .i64 (d[(nodeOf d e.Node).toNat]'hj).Id), .x (.int .i64 (d[(nodeOf d e.Node).toNat]'hj).Parent), .x (.int .i64 (d[(nodeOf d e.Node).toNat]'hj).Tag), .x (.int .i64 e.Text)] [] (.int .i64 (d[(nodeOf d e.Node).toNat]'hj).By) aN aN om (List.getElem?_set_self hj) rfl rfl rfl ?_; intro SM hEM hFM) | refine And.intro ?_ ?_)
            all_goals first
              | assumption
              | (rw [List.set_set] at hFM; exact ⟨_, rfl, hFM⟩)
              | (exfalso; omega)
          · rw [show textNode d e = (d, false) from if_neg hn]
            refine evA_intro tok Tryz.func293 (by kernel_rfl) rfl ?_
            repeat' ((conv => whnf) <;> first
             | (show CondP _ _ _; refine cS ?_) | refine cT ?_ | refine callP_eq (ev_sIsEdit _ _) ?_ | refine callP_eq (ev_sNodeOf _ _ _ _ rdA) ?_ | (refine callP_intro (ev_l5Copy _ _ _ rdA om) ?_; rintro _ Sn ⟨hEn, cn, rfl, hFn⟩) | refine callP_eq (ev_sIsDocument _ _ _ rdA) ?_ | refine And.intro ?_ ?_)
            all_goals first
              | assumption
              | exact ⟨_, rfl, by assumption⟩
              | (exfalso; omega)
        · rw [if_neg k3]
          by_cases hm : 0 ≤ nodeOf d e.Node ∧ 0 ≤ nodeOf d e.Parent ∧ e.Parent < e.Node
          · obtain ⟨hn, m2, m3⟩ := hm
            obtain ⟨hj, _⟩ := nodeOf_at hn
            rw [show moveNode d e = (d.set (nodeOf d e.Node).toNat { (d[(nodeOf d e.Node).toNat]'hj) with Parent := e.Parent, By := e.By }, true) from by unfold moveNode mayMove; rw [decide_eq_true hn, decide_eq_true m2, decide_eq_true m3, getD_at hj]; rfl]
            refine evA_intro tok Tryz.func293 (by kernel_rfl) rfl ?_
            repeat' ((conv => whnf) <;> first
             | (show CondP _ _ _; refine cS ?_) | refine callP_eq (ev_sIsEdit _ _) ?_ | refine callP_eq (ev_sNodeOf _ _ _ _ rdA) ?_ | (refine callP_intro (ev_l5Copy _ _ _ rdA om) ?_; rintro _ Sn ⟨hEn, cn, rfl, hFn⟩) | refine callP_eq (ev_sIsDocument _ _ _ rdA) ?_ | refine rI rdA rf ix ?_ | (refine fr_stoNode (l := d) (i := nodeOf d e.Node) (d[(nodeOf d e.Node).toNat]'hj) ({ (d[(nodeOf d e.Node).toNat]'hj) with Parent := e.Parent } : GNode) [.x (.int .i64 (d[(nodeOf d e.Node).toNat]'hj).Id)] [.x (.int .i64 (d[(nodeOf d e.Node).toNat]'hj).Tag), .x (.int .i64 (d[(nodeOf d e.Node).toNat]'hj).Text), .x (.int .i64 (d[(nodeOf d e.Node).toNat]'hj).By)] (.int .i64 (d[(nodeOf d e.Node).toNat]'hj).Parent) aN aN om (List.getElem?_eq_getElem hj) rfl rfl rfl ?_; intro SN hEN hFN; have hrN := hFN.rd; have hls : (d.set (nodeOf d e.Node).toNat ({ (d[(nodeOf d e.Node).toNat]'hj) with Parent := e.Parent } : GNode)).length = d.length := List.length_set) | (refine fr_stoNode (l := d.set (nodeOf d e.Node).toNat ({ (d[(nodeOf d e.Node).toNat]'hj) with Parent := e.Parent } : GNode)) (i := nodeOf d e.Node) ({ (d[(nodeOf d e.Node).toNat]'hj) with Parent := e.Parent } : GNode) ({ (d[(nodeOf d e.Node).toNat]'hj) with Parent := e.Parent, By := e.By } : GNode) [.x (.int .i64 (d[(nodeOf d e.Node).toNat]'hj).Id), .x (.int .i64 e.Parent), .x (.int .i64 (d[(nodeOf d e.Node).toNat]'hj).Tag), .x (.int .i64 (d[(nodeOf d e.Node).toNat]'hj).Text)] [] (.int .i64 (d[(nodeOf d e.Node).toNat]'hj).By) aN aN om (List.getElem?_set_self hj) rfl rfl rfl ?_; intro SM hEM hFM) | refine And.intro ?_ ?_)
            all_goals first
              | assumption
              | (rw [List.set_set] at hFM; exact ⟨_, rfl, hFM⟩)
              | (exfalso; omega)
          · rw [show moveNode d e = (d, false) from by
              unfold moveNode
              rw [if_neg]
              unfold mayMove; simp only [Bool.and_eq_true, decide_eq_true_eq]; omega]
            refine evA_intro tok Tryz.func293 (by kernel_rfl) rfl ?_
            repeat' ((conv => whnf) <;> first
             | (show CondP _ _ _; refine cS ?_) | refine cD (fun _ => ?_) fun _ => ?_ | refine cT ?_ | refine callP_eq (ev_sIsEdit _ _) ?_ | refine callP_eq (ev_sNodeOf _ _ _ _ rdA) ?_ | (refine callP_intro (ev_l5Copy _ _ _ rdA om) ?_; rintro _ Sn ⟨hEn, cn, rfl, hFn⟩) | refine callP_eq (ev_sIsDocument _ _ _ rdA) ?_ | refine And.intro ?_ ?_)
            all_goals first
              | assumption
              | exact ⟨_, rfl, by assumption⟩
              | (exfalso; omega)
  · rw [show applyEdit d e = (d, false) from by
      unfold applyEdit
      rw [if_neg]
      simpa only [Bool.and_eq_true] using hv]
    cases hd : isDoc d <;> cases he : isEdit e
    case true.true => exact absurd ⟨hd, he⟩ hv
    all_goals
      refine evA_intro tok Tryz.func293 (by kernel_rfl) rfl ?_
      repeat' ((conv => whnf) <;> first
       | (show CondP _ _ _; refine cS ?_) | refine cT ?_ | refine callP_eq (ev_sIsEdit _ _) ?_ | (refine callP_intro (ev_l5Copy _ _ _ rdA om) ?_; rintro _ Sn ⟨hEn, cn, rfl, hFn⟩) | refine callP_eq (ev_sIsDocument _ _ _ rdA) ?_ | refine And.intro ?_ ?_)
    all_goals first
      | assumption
      | exact ⟨_, rfl, by assumption⟩
      | (exfalso; simp_all; done)
set_option maxHeartbeats 2000000 in
theorem ev_iApplyEdit (d : List GNode) (e : GEdit) (c : C) (S : Store) (h : Rd S [.sl 5 (d.map GNode.d)] [c]) (hz : d.length ≤ 4194304) : EvA Tryz.prog 206 [.s c, .agg e.c] S (fun r S' => Ext S S' ∧ ∃ c', r = .tup [.s c', .s (.bool (applyEdit d e).2)] ∧ Fr S.length S' [.sl 5 ((applyEdit d e).1.map GNode.d)] [c']) := by
  by_cases hv : isDoc d = true ∧ isEdit e = true
  · obtain ⟨hd, he⟩ := hv
    have hk := kind4 he
    have hdl := (doc_ok hd).1
    rw [show applyEdit d e = (if e.Kind = 1 then addNode d e else if e.Kind = 2 then dropNode d e.Node else if e.Kind = 3 then textNode d e else moveNode d e) from by unfold applyEdit; rw [hd, he]; rfl]
    by_cases k1 : e.Kind = 1
    · rw [if_pos k1]
      by_cases hm : mayAdd d e = true
      · rw [show addNode d e = (d.take (posOf e.Node d) ++ edNode e :: d.drop (posOf e.Node d), true) from if_pos hm]
        simp only [mayAdd, Bool.and_eq_true, decide_eq_true_eq] at hm
        obtain ⟨⟨⟨m1, m2⟩, m3⟩, m4⟩ := hm
        have hp := posOf_le e.Node d
        refine evA_intro tok Tryz.func206 (by kernel_rfl) rfl ?_
        repeat' ((conv => whnf) <;> first
         | (show CondP _ _ _; refine cS ?_) | refine callP_eq (ev_iIsDocument _ _ _ rdA) ?_ | refine callP_eq (ev_iIsEdit _ _) ?_ | (refine callP_intro (ev_CloneNode _ _ _ rdA om) ?_; rintro _ Sn ⟨hEn, cn, rfl, hFn⟩) | refine callP_eq (ev_iNodeOf _ _ _ _ rdA) ?_ | refine rE fun hml => ?_)
        refine loop_intro {i : Nat // i ≤ d.length ∧ i + posOf e.Node (d.drop i) = posOf e.Node d} [8, 53, 54, 55, 56, 57, 58, 59, 60, 61, 62, 63, 64, 65, 66, 67, 68] (fun zb => [(8, .v (.s (.int .i64 zb.1)))]) (fun _ => Sn) (fun zb => d.length - zb.1) ⟨0, Nat.zero_le _, by simp⟩ ?_ rfl ?_
        · (conv => whnf); repeat' (first | exact trivial | exact rfl | apply And.intro)
        rintro ⟨i, hi, hinv⟩; dsimp only
        by_cases hlt : i < d.length
        · rw [drop_at hlt, posOf] at hinv
          have hlt' : ((i : Nat) : Int).toNat < d.length := by simpa using hlt
          by_cases hc : (d[((i : Nat) : Int).toNat]'hlt').Id < e.Node
          · rw [if_pos (by simpa using hc)] at hinv
            repeat' ((conv => whnf) <;> first
             | rw [wrapI_i64 (by omega)] | (show CondP _ _ _; refine cS ?_) | refine rE fun hml => ?_ | refine rI rdA rf ix ?_ | refine rd_loadf rdA tv ix ?_ | refine draw_intro 53 [.fl 0, .fl 1, .fl 2, .fl 3, .fl 4, .fl 5, .fl 6, .fl 7, .fl 8, .fl 9, .fl 10, .fl 11, .fl 12, .fl 13] (by rfl) (by kernel_rfl) ?_)
            all_goals first
              | (refine ⟨⟨i + 1, by omega, by omega⟩, ?_, rfl, by simp; omega⟩; (conv => whnf); repeat' (first | exact trivial | exact rfl | apply And.intro))
          · rw [if_neg (by simpa using hc), Nat.add_zero] at hinv
            rw [← hinv]
            repeat' ((conv => whnf) <;> first
             | (refine callP_intro (ev_InsNode d (edNode e) i om om cn hEn hFn) ?_; rintro _ SI ⟨hEI, cI, rfl, hFI⟩) | (show CondP _ _ _; refine cS ?_) | refine rE fun hml => ?_ | refine rI rdA rf ix ?_ | refine rd_loadf rdA tv ix ?_ | refine draw_intro 53 [.fl 0, .fl 1, .fl 2, .fl 3, .fl 4, .fl 5, .fl 6, .fl 7, .fl 8, .fl 9, .fl 10, .fl 11, .fl 12, .fl 13] (by rfl) (by kernel_rfl) ?_ | refine And.intro ?_ ?_)
            all_goals first
              | assumption
              | exact ⟨_, rfl, hFI⟩
              | (exfalso; omega)
        · have he2 : i = d.length := by omega
          subst he2
          rw [drop_end (Nat.le_refl _), posOf, Nat.add_zero] at hinv
          rw [← hinv]
          repeat' ((conv => whnf) <;> first
           | (refine callP_intro (ev_InsNode d (edNode e) d.length om om cn hEn hFn) ?_; rintro _ SI ⟨hEI, cI, rfl, hFI⟩) | (show CondP _ _ _; refine cS ?_) | refine cF ?_ | refine rE fun hml => ?_ | refine draw_intro 53 [.fl 0, .fl 1, .fl 2, .fl 3, .fl 4, .fl 5, .fl 6, .fl 7, .fl 8, .fl 9, .fl 10, .fl 11, .fl 12, .fl 13] (by rfl) (by kernel_rfl) ?_ | refine And.intro ?_ ?_)
          all_goals first
            | assumption
            | exact ⟨_, rfl, hFI⟩
            | (exfalso; omega)
      · rw [show addNode d e = (d, false) from if_neg hm]
        refine evA_intro tok Tryz.func206 (by kernel_rfl) rfl ?_
        repeat' ((conv => whnf) <;> first
         | (show CondP _ _ _; refine cS ?_) | refine cD (fun _ => ?_) fun _ => ?_ | refine cT ?_ | refine callP_eq (ev_iIsDocument _ _ _ rdA) ?_ | refine callP_eq (ev_iIsEdit _ _) ?_ | (refine callP_intro (ev_CloneNode _ _ _ rdA om) ?_; rintro _ Sn ⟨hEn, cn, rfl, hFn⟩) | refine callP_eq (ev_iNodeOf _ _ _ _ rdA) ?_ | refine rE fun hml => ?_ | refine And.intro ?_ ?_)
        all_goals first
          | assumption
          | exact ⟨_, rfl, by assumption⟩
          | (exfalso; apply hm; simp only [mayAdd, Bool.and_eq_true, decide_eq_true_eq]; omega)
    · rw [if_neg k1]
      by_cases k2 : e.Kind = 2
      · rw [if_pos k2]
        by_cases hn : 0 ≤ nodeOf d e.Node
        · rw [show dropNode d e.Node = (d.filter (fun x => !above d x.Id e.Node), true) from if_pos hn]
          refine evA_intro tok Tryz.func206 (by kernel_rfl) rfl ?_
          repeat' ((conv => whnf) <;> first
           | (show CondP _ _ _; refine cS ?_) | refine callP_eq (ev_iIsDocument _ _ _ rdA) ?_ | refine callP_eq (ev_iIsEdit _ _) ?_ | (refine callP_intro (ev_CloneNode _ _ _ rdA om) ?_; rintro _ Sn ⟨hEn, cn, rfl, hFn⟩) | refine callP_eq (ev_iNodeOf _ _ _ _ rdA) ?_ | refine rE fun hml => ?_)
          refine loop_intro {p : Nat × Store × C // p.1 ≤ d.length ∧ Ext Sn p.2.1 ∧ Fr Sn.length p.2.1 [.sl 5 (((d.take p.1).filter (fun x => !above d x.Id e.Node)).map GNode.d)] [p.2.2]} [9, 11, 92, 93, 94, 95, 96, 97, 98, 99, 100, 101, 102, 103, 104, 105, 106, 107] (fun zb => [(92, .v (.s (.int .i64 zb.1.1))), (9, .v (.s zb.1.2.2))]) (fun zb => zb.1.2.1) (fun zb => d.length - zb.1.1) ⟨(0, _, _), Nat.zero_le _, Ext.push _ _, fr_lit0⟩ ?_ rfl ?_
          · (conv => whnf); repeat' (first | exact trivial | exact rfl | apply And.intro)
          rintro ⟨⟨i, Si, ci⟩, hi, hE, hF⟩; dsimp only
          replace hi : i ≤ d.length := hi
          replace hE : Ext Sn Si := hE
          replace hF : Fr Sn.length Si [.sl 5 (((d.take i).filter (fun x => !above d x.Id e.Node)).map GNode.d)] [ci] := hF
          have hfl := filter_len (fun x => !above d x.Id e.Node) d i
          have hdi := h.ext (hEn.trans hE)
          by_cases hlt : i < d.length
          · have hlt' : ((i : Nat) : Int).toNat < d.length := by simpa using hlt
            cases ha : above d (d[((i : Nat) : Int).toNat]'hlt').Id e.Node with
            | true =>
              repeat' ((conv => whnf) <;> first
               | rw [wrapI_i64 (by omega)] | (show CondP _ _ _; refine cS ?_) | refine callP_eq (ev_above _ _ _ _ _ rdA aN) ?_ | refine rI rdA rf ix ?_ | refine rd_loadf rdA tv ix ?_ | rw [ha])
              all_goals first
                | (exfalso; omega)
                | (refine ⟨⟨(i + 1, _, _), by dsimp only; omega, by assumption, by rw [filter_f hlt (by simpa using ha)]; assumption⟩, ?_, rfl, by dsimp only; omega⟩; (conv => whnf); repeat' (first | exact trivial | exact rfl | apply And.intro))
            | false =>
              repeat' ((conv => whnf) <;> first
               | rw [wrapI_i64 (by omega)] | (show CondP _ _ _; refine cS ?_) | refine callP_eq (ev_above _ _ _ _ _ rdA aN) ?_ | refine rI rdA rf ix ?_ | refine rd_loadf rdA tv ix ?_ | rw [ha] | (refine fr_app1 (f := GNode.d) aN aN tv (by rfl) rf (by dsimp only [T139]; omega) om ?_; intro cN SN hEN hFN))
              all_goals first
                | (exfalso; omega)
                | (refine ⟨⟨(i + 1, _, _), by dsimp only; omega, by assumption, by rw [filter_t hlt (by simpa using ha)]; assumption⟩, ?_, rfl, by dsimp only; omega⟩; (conv => whnf); repeat' (first | exact trivial | exact rfl | apply And.intro))
          · repeat' ((conv => whnf) <;> first
             | (show CondP _ _ _; refine cS ?_) | refine And.intro ?_ ?_)
            all_goals first
              | exact hEn.trans hE
              | (rw [List.take_of_length_le (by omega)] at hF; exact ⟨_, rfl, hF.mono hEn.len⟩)
              | (exfalso; omega)
        · rw [show dropNode d e.Node = (d, false) from if_neg hn]
          refine evA_intro tok Tryz.func206 (by kernel_rfl) rfl ?_
          repeat' ((conv => whnf) <;> first
           | (show CondP _ _ _; refine cS ?_) | refine callP_eq (ev_iIsDocument _ _ _ rdA) ?_ | refine callP_eq (ev_iIsEdit _ _) ?_ | (refine callP_intro (ev_CloneNode _ _ _ rdA om) ?_; rintro _ Sn ⟨hEn, cn, rfl, hFn⟩) | refine callP_eq (ev_iNodeOf _ _ _ _ rdA) ?_ | refine And.intro ?_ ?_)
          all_goals first
            | assumption
            | exact ⟨_, rfl, by assumption⟩
            | (exfalso; omega)
      · rw [if_neg k2]
        by_cases k3 : e.Kind = 3
        · rw [if_pos k3]
          by_cases hn : 0 ≤ nodeOf d e.Node
          · obtain ⟨hj, _⟩ := nodeOf_at hn
            rw [show textNode d e = (d.set (nodeOf d e.Node).toNat { (d[(nodeOf d e.Node).toNat]'hj) with Text := e.Text, By := e.By }, true) from by unfold textNode; rw [if_pos hn, getD_at hj]]
            refine evA_intro tok Tryz.func206 (by kernel_rfl) rfl ?_
            repeat' ((conv => whnf) <;> first
             | (show CondP _ _ _; refine cS ?_) | refine callP_eq (ev_iIsDocument _ _ _ rdA) ?_ | refine callP_eq (ev_iIsEdit _ _) ?_ | (refine callP_intro (ev_CloneNode _ _ _ rdA om) ?_; rintro _ Sn ⟨hEn, cn, rfl, hFn⟩) | refine callP_eq (ev_iNodeOf _ _ _ _ rdA) ?_ | refine rI rdA rf ix ?_ | refine draw_intro 114 [.fl 0, .fl 1, .fl 2, .fl 3, .fl 4, .fl 5, .fl 6, .fl 7, .fl 8, .fl 9, .st 10 [2, 3, 6, 7], .fl 11, .fl 12, .st 13 []] (by rfl) (by kernel_rfl) ?_ | refine draw_intro 144 [.fl 0, .fl 1, .fl 2, .fl 3, .fl 4, .fl 5, .fl 6, .fl 7, .fl 8, .fl 9, .st 10 [2, 3, 6, 7], .fl 11, .fl 12, .st 13 []] (by rfl) (by kernel_rfl) ?_ | (refine fr_stoNode (l := d) (i := nodeOf d e.Node) (d[(nodeOf d e.Node).toNat]'hj) ({ (d[(nodeOf d e.Node).toNat]'hj) with Text := e.Text } : GNode) [.x (.int .i64 (d[(nodeOf d e.Node).toNat]'hj).Id), .x (.int .i64 (d[(nodeOf d e.Node).toNat]'hj).Parent), .x (.int .i64 (d[(nodeOf d e.Node).toNat]'hj).Tag)] [.x (.int .i64 (d[(nodeOf d e.Node).toNat]'hj).By)] (.int .i64 (d[(nodeOf d e.Node).toNat]'hj).Text) aN aN om (List.getElem?_eq_getElem hj) rfl rfl rfl ?_; intro SN hEN hFN; have hrN := hFN.rd; have hls : (d.set (nodeOf d e.Node).toNat ({ (d[(nodeOf d e.Node).toNat]'hj) with Text := e.Text } : GNode)).length = d.length := List.length_set) | (refine fr_stoNode (l := d.set (nodeOf d e.Node).toNat ({ (d[(nodeOf d e.Node).toNat]'hj) with Text := e.Text } : GNode)) (i := nodeOf d e.Node) ({ (d[(nodeOf d e.Node).toNat]'hj) with Text := e.Text } : GNode) ({ (d[(nodeOf d e.Node).toNat]'hj) with Text := e.Text, By := e.By } : GNode) [.x (.int .i64 (d[(nodeOf d e.Node).toNat]'hj).Id), .x (.int .i64 (d[(nodeOf d e.Node).toNat]'hj).Parent), .x (.int .i64 (d[(nodeOf d e.Node).toNat]'hj).Tag), .x (.int .i64 e.Text)] [] (.int .i64 (d[(nodeOf d e.Node).toNat]'hj).By) aN aN om (List.getElem?_set_self hj) rfl rfl rfl ?_; intro SM hEM hFM) | refine And.intro ?_ ?_)
            all_goals first
              | assumption
              | (rw [List.set_set] at hFM; exact ⟨_, rfl, hFM⟩)
              | (exfalso; omega)
          · rw [show textNode d e = (d, false) from if_neg hn]
            refine evA_intro tok Tryz.func206 (by kernel_rfl) rfl ?_
            repeat' ((conv => whnf) <;> first
             | (show CondP _ _ _; refine cS ?_) | refine callP_eq (ev_iIsDocument _ _ _ rdA) ?_ | refine callP_eq (ev_iIsEdit _ _) ?_ | (refine callP_intro (ev_CloneNode _ _ _ rdA om) ?_; rintro _ Sn ⟨hEn, cn, rfl, hFn⟩) | refine callP_eq (ev_iNodeOf _ _ _ _ rdA) ?_ | refine And.intro ?_ ?_)
            all_goals first
              | assumption
              | exact ⟨_, rfl, by assumption⟩
              | (exfalso; omega)
        · rw [if_neg k3]
          by_cases hm : 0 ≤ nodeOf d e.Node ∧ 0 ≤ nodeOf d e.Parent ∧ e.Parent < e.Node
          · obtain ⟨hn, m2, m3⟩ := hm
            obtain ⟨hj, _⟩ := nodeOf_at hn
            rw [show moveNode d e = (d.set (nodeOf d e.Node).toNat { (d[(nodeOf d e.Node).toNat]'hj) with Parent := e.Parent, By := e.By }, true) from by unfold moveNode mayMove; rw [decide_eq_true hn, decide_eq_true m2, decide_eq_true m3, getD_at hj]; rfl]
            refine evA_intro tok Tryz.func206 (by kernel_rfl) rfl ?_
            repeat' ((conv => whnf) <;> first
             | (show CondP _ _ _; refine cS ?_) | refine callP_eq (ev_iIsDocument _ _ _ rdA) ?_ | refine callP_eq (ev_iIsEdit _ _) ?_ | (refine callP_intro (ev_CloneNode _ _ _ rdA om) ?_; rintro _ Sn ⟨hEn, cn, rfl, hFn⟩) | refine callP_eq (ev_iNodeOf _ _ _ _ rdA) ?_ | refine rI rdA rf ix ?_ | refine draw_intro 114 [.fl 0, .fl 1, .fl 2, .fl 3, .fl 4, .fl 5, .fl 6, .fl 7, .fl 8, .fl 9, .st 10 [2, 3, 6, 7], .fl 11, .fl 12, .st 13 []] (by rfl) (by kernel_rfl) ?_ | refine draw_intro 144 [.fl 0, .fl 1, .fl 2, .fl 3, .fl 4, .fl 5, .fl 6, .fl 7, .fl 8, .fl 9, .st 10 [2, 3, 6, 7], .fl 11, .fl 12, .st 13 []] (by rfl) (by kernel_rfl) ?_ | (refine fr_stoNode (l := d) (i := nodeOf d e.Node) (d[(nodeOf d e.Node).toNat]'hj) ({ (d[(nodeOf d e.Node).toNat]'hj) with Parent := e.Parent } : GNode) [.x (.int .i64 (d[(nodeOf d e.Node).toNat]'hj).Id)] [.x (.int .i64 (d[(nodeOf d e.Node).toNat]'hj).Tag), .x (.int .i64 (d[(nodeOf d e.Node).toNat]'hj).Text), .x (.int .i64 (d[(nodeOf d e.Node).toNat]'hj).By)] (.int .i64 (d[(nodeOf d e.Node).toNat]'hj).Parent) aN aN om (List.getElem?_eq_getElem hj) rfl rfl rfl ?_; intro SN hEN hFN; have hrN := hFN.rd; have hls : (d.set (nodeOf d e.Node).toNat ({ (d[(nodeOf d e.Node).toNat]'hj) with Parent := e.Parent } : GNode)).length = d.length := List.length_set) | (refine fr_stoNode (l := d.set (nodeOf d e.Node).toNat ({ (d[(nodeOf d e.Node).toNat]'hj) with Parent := e.Parent } : GNode)) (i := nodeOf d e.Node) ({ (d[(nodeOf d e.Node).toNat]'hj) with Parent := e.Parent } : GNode) ({ (d[(nodeOf d e.Node).toNat]'hj) with Parent := e.Parent, By := e.By } : GNode) [.x (.int .i64 (d[(nodeOf d e.Node).toNat]'hj).Id), .x (.int .i64 e.Parent), .x (.int .i64 (d[(nodeOf d e.Node).toNat]'hj).Tag), .x (.int .i64 (d[(nodeOf d e.Node).toNat]'hj).Text)] [] (.int .i64 (d[(nodeOf d e.Node).toNat]'hj).By) aN aN om (List.getElem?_set_self hj) rfl rfl rfl ?_; intro SM hEM hFM) | refine And.intro ?_ ?_)
            all_goals first
              | assumption
              | (rw [List.set_set] at hFM; exact ⟨_, rfl, hFM⟩)
              | (exfalso; omega)
          · rw [show moveNode d e = (d, false) from by
              unfold moveNode
              rw [if_neg]
              unfold mayMove; simp only [Bool.and_eq_true, decide_eq_true_eq]; omega]
            refine evA_intro tok Tryz.func206 (by kernel_rfl) rfl ?_
            repeat' ((conv => whnf) <;> first
             | (show CondP _ _ _; refine cS ?_) | refine cD (fun _ => ?_) fun _ => ?_ | refine cT ?_ | refine callP_eq (ev_iIsDocument _ _ _ rdA) ?_ | refine callP_eq (ev_iIsEdit _ _) ?_ | (refine callP_intro (ev_CloneNode _ _ _ rdA om) ?_; rintro _ Sn ⟨hEn, cn, rfl, hFn⟩) | refine callP_eq (ev_iNodeOf _ _ _ _ rdA) ?_ | refine And.intro ?_ ?_)
            all_goals first
              | assumption
              | exact ⟨_, rfl, by assumption⟩
              | (exfalso; omega)
  · rw [show applyEdit d e = (d, false) from by
      unfold applyEdit
      rw [if_neg]
      simpa only [Bool.and_eq_true] using hv]
    cases hd : isDoc d <;> cases he : isEdit e
    case true.true => exact absurd ⟨hd, he⟩ hv
    all_goals
      refine evA_intro tok Tryz.func206 (by kernel_rfl) rfl ?_
      repeat' ((conv => whnf) <;> first
       | (show CondP _ _ _; refine cS ?_) | refine cT ?_ | refine callP_eq (ev_iIsDocument _ _ _ rdA) ?_ | refine callP_eq (ev_iIsEdit _ _) ?_ | (refine callP_intro (ev_CloneNode _ _ _ rdA om) ?_; rintro _ Sn ⟨hEn, cn, rfl, hFn⟩) | refine And.intro ?_ ?_)
    all_goals first
      | assumption
      | exact ⟨_, rfl, by assumption⟩
      | (exfalso; simp_all; done)
theorem ev_sRunEdits (d : List GNode) (l : List GEdit) (c c2 : C) (S : Store) (h : Rd S [.sl 5 (d.map GNode.d)] [c]) (h2 : Rd S [.sl 6 (l.map GEdit.d)] [c2]) (hz : d.length ≤ 4194304) (hz2 : l.length ≤ 4194304) : EvA Tryz.prog 302 [.s c, .s c2] S (fun r S' => Ext S S' ∧ ∃ c', r = .v (.s c') ∧ Fr S.length S' [.sl 5 ((runEdits d l).map GNode.d)] [c']) := by
  refine evA_intro tok Tryz.func302 (by kernel_rfl) rfl ?_
  repeat' ((conv => whnf) <;> first
   | (refine callP_intro (ev_l5Copy _ _ _ rdA om) ?_; rintro _ Sn ⟨hEn, cn, rfl, hFn⟩))
  refine loop_intro {p : Nat × Store × C // p.1 ≤ l.length ∧ Ext S p.2.1 ∧ Fr S.length p.2.1 [.sl 5 ((runEdits d (l.take p.1)).map GNode.d)] [p.2.2]} [5, 6, 9, 10, 11, 12, 13, 14, 15, 16, 17, 18, 19, 20, 21, 22, 23] (fun zb => [(6, .v (.s (.int .i64 zb.1.1))), (5, .v (.s zb.1.2.2))]) (fun zb => zb.1.2.1) (fun zb => l.length - zb.1.1) ⟨(0, _, _), Nat.zero_le _, hEn, hFn⟩ ?_ rfl ?_
  · (conv => whnf); repeat' (first | exact trivial | exact rfl | apply And.intro)
  rintro ⟨⟨i, Si, ci⟩, hi, hE, hF⟩; dsimp only
  replace hi : i ≤ l.length := hi
  replace hE : Ext S Si := hE
  replace hF : Fr S.length Si [.sl 5 ((runEdits d (l.take i)).map GNode.d)] [ci] := hF
  have hlen := runEdits_len (l.take i) d
  have h2i := h2.ext hE
  have hFr := hF.rd
  by_cases hlt : i < l.length
  · have hlt' : ((i : Nat) : Int).toNat < l.length := by simpa using hlt
    repeat' ((conv => whnf) <;> first
     | (refine callP_intro (ev_sApplyEdit (runEdits d (l.take i)) (l[((i : Nat) : Int).toNat]'hlt') _ _ hFr om) ?_; rintro _ SA ⟨hEA, cA, rfl, hFA⟩) | rw [wrapI_i64 (by omega)] | (show CondP _ _ _; refine cS ?_) | refine rE fun hml => ?_ | refine rI rdA rf ix ?_ | refine rd_loadf rdA tv ix ?_)
    all_goals first
      | (exfalso; omega)
      | (refine ⟨⟨(i + 1, _, _), by dsimp only; omega, hE.trans hEA, by rw [List.take_succ_eq_append_getElem hlt, runEdits_snoc]; exact hFA.mono hE.len⟩, ?_, rfl, by dsimp only; omega⟩; (conv => whnf); repeat' (first | exact trivial | exact rfl | apply And.intro))
  · repeat' ((conv => whnf) <;> first
     | (show CondP _ _ _; refine cS ?_) | refine rE fun hml => ?_ | refine And.intro ?_ ?_)
    all_goals first
      | exact hE
      | (rw [List.take_of_length_le (by omega)] at hF; exact ⟨_, rfl, hF⟩)
      | (exfalso; omega)
theorem ev_iRunEdits (d : List GNode) (l : List GEdit) (c c2 : C) (S : Store) (h : Rd S [.sl 5 (d.map GNode.d)] [c]) (h2 : Rd S [.sl 6 (l.map GEdit.d)] [c2]) (hz : d.length ≤ 4194304) (hz2 : l.length ≤ 4194304) : EvA Tryz.prog 124 [.s c, .s c2] S (fun r S' => Ext S S' ∧ ∃ c', r = .v (.s c') ∧ Fr S.length S' [.sl 5 ((runEdits d l).map GNode.d)] [c']) := by
  refine evA_intro tok Tryz.func124 (by kernel_rfl) rfl ?_
  repeat' ((conv => whnf) <;> first
   | (refine callP_intro (ev_CloneNode _ _ _ rdA om) ?_; rintro _ Sn ⟨hEn, cn, rfl, hFn⟩) | refine rE fun hml => ?_)
  refine loop_intro {p : Nat × Store × C // p.1 ≤ l.length ∧ Ext S p.2.1 ∧ Fr S.length p.2.1 [.sl 5 ((runEdits d (l.take p.1)).map GNode.d)] [p.2.2]} [5, 7, 12, 13, 14, 15, 16, 17, 18, 19, 20, 21, 22] (fun zb => [(12, .v (.s (.int .i64 zb.1.1))), (5, .v (.s zb.1.2.2))]) (fun zb => zb.1.2.1) (fun zb => l.length - zb.1.1) ⟨(0, _, _), Nat.zero_le _, hEn, hFn⟩ ?_ rfl ?_
  · (conv => whnf); repeat' (first | exact trivial | exact rfl | apply And.intro)
  rintro ⟨⟨i, Si, ci⟩, hi, hE, hF⟩; dsimp only
  replace hi : i ≤ l.length := hi
  replace hE : Ext S Si := hE
  replace hF : Fr S.length Si [.sl 5 ((runEdits d (l.take i)).map GNode.d)] [ci] := hF
  have hlen := runEdits_len (l.take i) d
  have h2i := h2.ext hE
  have hFr := hF.rd
  by_cases hlt : i < l.length
  · have hlt' : ((i : Nat) : Int).toNat < l.length := by simpa using hlt
    repeat' ((conv => whnf) <;> first
     | (refine callP_intro (ev_iApplyEdit (runEdits d (l.take i)) (l[((i : Nat) : Int).toNat]'hlt') _ _ hFr om) ?_; rintro _ SA ⟨hEA, cA, rfl, hFA⟩) | rw [wrapI_i64 (by omega)] | (show CondP _ _ _; refine cS ?_) | refine rI rdA rf ix ?_ | refine rd_loadf rdA tv ix ?_)
    all_goals first
      | (exfalso; omega)
      | (refine ⟨⟨(i + 1, _, _), by dsimp only; omega, hE.trans hEA, by rw [List.take_succ_eq_append_getElem hlt, runEdits_snoc]; exact hFA.mono hE.len⟩, ?_, rfl, by dsimp only; omega⟩; (conv => whnf); repeat' (first | exact trivial | exact rfl | apply And.intro))
  · repeat' ((conv => whnf) <;> first
     | (show CondP _ _ _; refine cS ?_) | refine And.intro ?_ ?_)
    all_goals first
      | exact hE
      | (rw [List.take_of_length_le (by omega)] at hF; exact ⟨_, rfl, hF⟩)
      | (exfalso; omega)
theorem ev_sTabDocument (t : GTab) (cs : List C) (S : Store) (h : Rd S t.d cs) (hz : szL t.d ≤ 4194304) : EvA Tryz.prog 236 [.agg cs] S (fun r S' => Ext S S' ∧ ∃ c', r = .v (.s c') ∧ Fr S.length S' [.sl 5 ((runEdits t.Base t.Edits).map GNode.d)] [c']) := by
  have hzs := hz
  simp only [GTab.d, szL, List.length_map] at hzs
  obtain ⟨_, _, _, rfl, _, _, _⟩ := GTab.inv h
  refine evA_intro tok Tryz.func236 (by kernel_rfl) rfl ?_
  repeat' ((conv => whnf) <;> first
   | (refine callP_intro (ev_sRunEdits _ _ _ _ _ rdA rdA om om) ?_; rintro _ Sn ⟨hEn, cn, rfl, hFn⟩) | refine And.intro ?_ ?_)
  all_goals first
    | assumption
    | exact ⟨_, rfl, by assumption⟩
theorem ev_iTabDocument (t : GTab) (cs : List C) (S : Store) (h : Rd S t.d cs) (hz : szL t.d ≤ 4194304) : EvA Tryz.prog 52 [.agg cs] S (fun r S' => Ext S S' ∧ ∃ c', r = .v (.s c') ∧ Fr S.length S' [.sl 5 ((runEdits t.Base t.Edits).map GNode.d)] [c']) := by
  have hzs := hz
  simp only [GTab.d, szL, List.length_map] at hzs
  obtain ⟨_, _, _, rfl, _, _, _⟩ := GTab.inv h
  refine evA_intro tok Tryz.func52 (by kernel_rfl) rfl ?_
  repeat' ((conv => whnf) <;> first
   | (refine callP_intro (ev_iRunEdits _ _ _ _ _ rdA rdA om om) ?_; rintro _ Sn ⟨hEn, cn, rfl, hFn⟩) | refine And.intro ?_ ?_)
  all_goals first
    | assumption
    | exact ⟨_, rfl, by assumption⟩
end Go.Proofs.YtlmmdpmmdmhacaaGreat
