--@need spec.l31Draw
/- Edits keep a document a document. -/
import Derived.Test.YtfkfoidojmjacaaFnNb
import Derived.Test.YtfkfoidojmjacaaFnZxb
namespace Go.Proofs.Ytfkfoidojmjacaa
open Go Go.ChangeShapes Go.WideShapes Go.ChangeAt Go.RowKit
set_option linter.unusedVariables false
set_option linter.unusedSimpArgs false
set_option maxRecDepth 100000

structure DocF (d : List GNode) : Prop where
  len : d.length ≤ 16
  asc : d.Pairwise (fun a b => a.Id < b.Id)
  head : ∃ r t, d = r :: t ∧ r.Id = 0 ∧ r.Parent = -1
  par : ∀ x ∈ d, x.Id ≠ 0 → ∃ y ∈ d, y.Id = x.Parent ∧ y.Id < x.Id
  val : ∀ x ∈ d, (0 ≤ x.Tag ∧ x.Tag ≤ 9) ∧ (0 ≤ x.Text ∧ x.Text ≤ 999) ∧ 0 ≤ x.By ∧ x.By ≤ 5
theorem asc_at {d : List GNode} (h : d.Pairwise (fun a b => a.Id < b.Id)) {i j : Nat} (hi : i < d.length) (hj : j < d.length) (hij : i < j) : (d[i]).Id < (d[j]).Id := List.pairwise_iff_getElem.1 h i j hi hj hij
theorem asc_inj {d : List GNode} (h : d.Pairwise (fun a b => a.Id < b.Id)) {i j : Nat} (hi : i < d.length) (hj : j < d.length) (he : (d[i]).Id = (d[j]).Id) : i = j := by
  rcases Nat.lt_trichotomy i j with hlt | he' | hlt
  · have := asc_at h hi hj hlt; omega
  · exact he'
  · have := asc_at h hj hi hlt; omega
theorem nodeOf_first {d : List GNode} : ∀ (l : List GNode) (i j : Nat) (h : j < l.length), nodeOfGo (l[j]).Id l i ≤ ((i + j : Nat) : Int)
  | x :: r, i, 0, h => by rw [List.getElem_cons_zero, nodeOfGo, if_pos rfl]; omega
  | x :: r, i, j + 1, h => by
    rw [List.getElem_cons_succ, nodeOfGo]
    split
    · omega
    · have := nodeOf_first (d := d) r (i + 1) j (by simpa using h); omega
theorem nodeOf_idx {d : List GNode} (h : d.Pairwise (fun a b => a.Id < b.Id)) {j : Nat} (hj : j < d.length) : nodeOf d (d[j]).Id = j := by
  have h0 : 0 ≤ nodeOf d (d[j]).Id := nodeOf_mem (List.getElem_mem hj)
  obtain ⟨hk, he⟩ := nodeOf_at h0
  have := asc_inj h hk hj he
  omega
theorem DocF.zero {d : List GNode} (h : DocF d) : ∃ h0 : 0 < d.length, (d[0]).Id = 0 ∧ (d[0]).Parent = -1 := by
  obtain ⟨r, t, rfl, h1, h2⟩ := h.head
  exact ⟨by simp, h1, h2⟩
theorem doc_F {d : List GNode} : isDoc d = true ↔ DocF d := by
  rw [doc_iff]
  constructor
  · rintro ⟨⟨h1, h2⟩, hok⟩
    have hpos : ∀ j (hj : j < d.length), 0 < j → (d[j - 1]'(by omega)).Id < (d[j]).Id ∧ 0 ≤ nodeOf (d.take j) (d[j]).Parent := fun j hj h0 => by
      have := hok j hj
      rw [okNode_pos h0 (by omega)] at this
      simp only [Bool.and_eq_true, decide_eq_true_eq] at this
      exact this.2
    have hasc : ∀ (k i : Nat) (hk : i + k + 1 < d.length), (d[i]'(by omega)).Id < (d[i + k + 1]).Id := by
      intro k
      induction k with
      | zero => intro i hk; exact (hpos (i + 1) hk (by omega)).1
      | succ k ih =>
        intro i hk
        have a := ih i (by omega)
        have b := (hpos (i + (k + 1) + 1) hk (by omega)).1
        have e : i + (k + 1) + 1 - 1 = i + k + 1 := by omega
        simp only [e] at b
        omega
    have hpw : d.Pairwise (fun a b => a.Id < b.Id) := by
      rw [List.pairwise_iff_getElem]
      intro i j hi hj hij
      have := hasc (j - i - 1) i (by omega)
      have e : i + (j - i - 1) + 1 = j := by omega
      simp only [e] at this
      exact this
    have h0 := hok 0 (by omega)
    rw [okNode_zero] at h0
    simp only [Bool.and_eq_true, decide_eq_true_eq] at h0
    refine ⟨h2, hpw, ?_, fun x hx hne => ?_, fun x hx => ?_⟩
    · cases d with
      | nil => simp at h1
      | cons r t => exact ⟨r, t, rfl, h0.2.1, h0.2.2⟩
    · obtain ⟨j, hj, rfl⟩ := List.mem_iff_getElem.1 hx
      have hj0 : 0 < j := by
        rcases Nat.eq_zero_or_pos j with e | e
        · subst e; exact absurd h0.2.1 hne
        · exact e
      obtain ⟨_, hp⟩ := hpos j hj hj0
      obtain ⟨hk, he⟩ := nodeOf_at hp
      have hk2 : (nodeOf (d.take j) (d[j]).Parent).toNat < j := by rw [List.length_take] at hk; omega
      rw [List.getElem_take] at he
      exact ⟨_, List.getElem_mem (by omega), he, asc_at hpw (by omega) hj hk2⟩
    · obtain ⟨j, hj, rfl⟩ := List.mem_iff_getElem.1 hx
      have := hok j hj
      unfold okNode at this
      simp only [inR, Bool.and_eq_true, decide_eq_true_eq] at this
      exact ⟨this.1.1.1, this.1.1.2, this.1.2⟩
  · intro h
    obtain ⟨hl0, z1, z2⟩ := h.zero
    refine ⟨⟨hl0, h.len⟩, fun j hj => ?_⟩
    have hv := h.val _ (List.getElem_mem hj)
    by_cases e : j = 0
    · subst e
      rw [okNode_zero]; simp only [inR, Bool.and_eq_true, decide_eq_true_eq]; omega
    · rw [okNode_pos (by omega) (by omega)]
      have a := asc_at h.asc (i := j - 1) (j := j) (by omega) hj (by omega)
      have hz := asc_at h.asc (i := 0) (j := j) hl0 hj (by omega)
      obtain ⟨y, hy, e1, e2⟩ := h.par _ (List.getElem_mem hj) (by omega)
      obtain ⟨k, hk, rfl⟩ := List.mem_iff_getElem.1 hy
      have hkj : k < j := by
        rcases Nat.lt_or_ge k j with h1 | h1
        · exact h1
        · rcases Nat.eq_or_lt_of_le h1 with h1 | h1
          · subst h1; omega
          · have := asc_at h.asc hj hk h1; omega
      have hm : (d[k]) ∈ d.take j := by
        rw [List.mem_iff_getElem]; exact ⟨k, by rw [List.length_take]; omega, by rw [List.getElem_take]⟩
      have := nodeOf_mem hm
      rw [e1] at this
      simp only [inR, Bool.and_eq_true, decide_eq_true_eq]; omega
theorem no_node {d : List GNode} {id : Int} (h : nodeOf d id < 0) : ∀ x ∈ d, x.Id ≠ id := fun x hx e => by
  have := nodeOf_mem hx; rw [e] at this; omega
theorem posOf_spec {n : Int} : ∀ {l : List GNode}, l.Pairwise (fun a b => a.Id < b.Id) → (∀ x ∈ l.take (posOf n l), x.Id < n) ∧ ∀ x ∈ l.drop (posOf n l), n ≤ x.Id
  | [], _ => ⟨fun x hx => (by cases hx), fun x hx => (by cases hx)⟩
  | y :: r, h => by
    rw [List.pairwise_cons] at h
    rw [posOf]
    split
    · rename_i hy
      obtain ⟨a, b⟩ := posOf_spec (n := n) h.2
      rw [Nat.add_comm 1, List.take_succ_cons, List.drop_succ_cons]
      refine ⟨fun x hx => ?_, b⟩
      rcases List.mem_cons.1 hx with rfl | hx
      · exact hy
      · exact a x hx
    · rename_i hy
      rw [List.take_zero, List.drop_zero]
      refine ⟨fun x hx => (by cases hx), fun x hx => ?_⟩
      rcases List.mem_cons.1 hx with rfl | hx
      · omega
      · have := h.1 x hx; omega
theorem addNode_doc {d : List GNode} {e : GEdit} (h : DocF d) (he : isEdit e = true) : DocF (addNode d e).1 := by
  unfold addNode
  split
  · rename_i hm
    simp only [mayAdd, Bool.and_eq_true, decide_eq_true_eq] at hm
    obtain ⟨⟨⟨m1, m2⟩, m3⟩, m4⟩ := hm
    simp only [isEdit, inR, Bool.and_eq_true, decide_eq_true_eq] at he
    have hno := no_node m1
    obtain ⟨p1, p2⟩ := posOf_spec (n := e.Node) h.asc
    have hmem : ∀ x, x ∈ d.take (posOf e.Node d) ++ edNode e :: d.drop (posOf e.Node d) ↔ x = edNode e ∨ x ∈ d := fun x => by
      rw [List.mem_append, List.mem_cons]
      constructor
      · rintro (h | h | h)
        · exact .inr (List.mem_of_mem_take h)
        · exact .inl h
        · exact .inr (List.mem_of_mem_drop h)
      · rintro (h | h)
        · exact .inr (.inl h)
        · rw [← List.take_append_drop (posOf e.Node d) d, List.mem_append] at h
          rcases h with h | h
          · exact .inl h
          · exact .inr (.inr h)
    have hl := posOf_le e.Node d
    refine ⟨by simp only [List.length_append, List.length_cons, List.length_take, List.length_drop]; omega, ?_, ?_, fun x hx hne => ?_, fun x hx => ?_⟩
    · rw [List.pairwise_append, List.pairwise_cons]
      refine ⟨h.asc.sublist (List.take_sublist _ _), ⟨fun y hy => ?_, h.asc.sublist (List.drop_sublist _ _)⟩, fun a ha b hb => ?_⟩
      · have := p2 y hy
        have := hno y (List.mem_of_mem_drop hy)
        show e.Node < y.Id; omega
      · have ha1 := p1 a ha
        rcases List.mem_cons.1 hb with rfl | hb
        · exact ha1
        · have := p2 b hb; omega
    · obtain ⟨r, t, hd, r1, r2⟩ := h.head
      have : posOf e.Node d = 1 + posOf e.Node t := by rw [hd, posOf, if_pos (by omega)]
      rw [this, hd, Nat.add_comm 1, List.take_succ_cons]
      exact ⟨r, _, rfl, r1, r2⟩
    · rcases (hmem x).1 hx with rfl | hx
      · obtain ⟨hk, hp⟩ := nodeOf_at m2
        have hpm := List.getElem_mem hk
        have := hno _ hpm
        refine ⟨_, (hmem _).2 (.inr hpm), hp, ?_⟩
        show _ < e.Node; omega
      · obtain ⟨y, hy, h1, h2⟩ := h.par x hx hne
        exact ⟨y, (hmem y).2 (.inr hy), h1, h2⟩
    · rcases (hmem x).1 hx with rfl | hx
      · simp only [edNode]; omega
      · exact h.val x hx
  · exact h
theorem upGo_fuel {d : List GNode} (h : DocF d) (top : Int) : ∀ (f g : Nat) (id : Int), (nodeOf d id).toNat < f → (nodeOf d id).toNat < g → upGo d top f id = upGo d top g id
  | 0, _, _, hf, _ => by omega
  | _, 0, _, _, hg => by omega
  | f + 1, g + 1, id, hf, hg => by
    rw [upGo, upGo]
    split
    · rfl
    · split
      · rfl
      · rename_i h1 h2
        obtain ⟨hk, he⟩ := nodeOf_at (d := d) (id := id) (by omega)
        have hz := h.zero
        obtain ⟨hl0, z1, z2⟩ := hz
        have hid : (d[(nodeOf d id).toNat]).Id ≠ 0 := by
          have := asc_at h.asc (i := 0) (j := (nodeOf d id).toNat) hl0 hk (by omega)
          omega
        obtain ⟨y, hy, e1, e2⟩ := h.par _ (List.getElem_mem hk) hid
        obtain ⟨k, hk2, rfl⟩ := List.mem_iff_getElem.1 hy
        have hlt : k < (nodeOf d id).toNat := by
          rcases Nat.lt_trichotomy k (nodeOf d id).toNat with hh | hh | hh
          · exact hh
          · subst hh; omega
          · have := asc_at h.asc hk hk2 hh; omega
        have hn := nodeOf_idx h.asc hk2
        rw [getD_at hk, ← e1]
        exact upGo_fuel h top f g _ (by rw [hn]; omega) (by rw [hn]; omega)
theorem above_child {d : List GNode} (h : DocF d) {top : Int} {x y : GNode} (hx : x ∈ d) (hne : x.Id ≠ 0) (hy : y ∈ d) (h1 : y.Id = x.Parent) (h2 : y.Id < x.Id) (ha : above d y.Id top = true) : above d x.Id top = true := by
  obtain ⟨j, hj, rfl⟩ := List.mem_iff_getElem.1 hx
  obtain ⟨k, hk, rfl⟩ := List.mem_iff_getElem.1 hy
  have e1 := nodeOf_idx h.asc hj
  have e2 := nodeOf_idx h.asc hk
  have hkj : k < j := by
    rcases Nat.lt_trichotomy k j with hh | hh | hh
    · exact hh
    · subst hh; omega
    · have := asc_at h.asc hj hk hh; omega
  unfold above
  rw [upGo]
  split
  · rfl
  · rw [if_neg (by rw [e1]; omega), e1, Int.toNat_natCast, getD_at hj, ← h1]
    unfold above at ha
    rw [← ha]
    exact upGo_fuel h top _ _ _ (by rw [e2]; omega) (by rw [e2]; omega)
theorem dropNode_doc {d : List GNode} {id : Int} (h : DocF d) (hid : 1 ≤ id) : DocF (dropNode d id).1 := by
  unfold dropNode
  split
  · refine ⟨Nat.le_trans (List.length_filter_le _ _) h.len, h.asc.filter _, ?_, fun x hx hne => ?_, fun x hx => h.val x ((List.mem_filter.1 hx).1)⟩
    · obtain ⟨r, t, hd, r1, r2⟩ := h.head
      have hr : above d r.Id id = false := by
        have hn : nodeOf d r.Id = 0 := by
          have := nodeOf_idx h.asc (j := 0) (by rw [hd]; simp)
          simpa [hd] using this
        unfold above
        rw [upGo, if_neg (by omega), if_pos (by omega)]
      refine ⟨r, t.filter (fun x => !above d x.Id id), ?_, r1, r2⟩
      have hd2 : d.filter (fun x => !above d x.Id id) = (r :: t).filter (fun x => !above d x.Id id) := by rw [← hd]
      rw [hd2, List.filter_cons_of_pos (by rw [hr]; rfl)]
    · rw [List.mem_filter] at hx
      obtain ⟨y, hy, h1, h2⟩ := h.par x hx.1 hne
      refine ⟨y, ?_, h1, h2⟩
      rw [List.mem_filter]
      refine ⟨hy, ?_⟩
      cases hb : above d y.Id id with
      | false => rfl
      | true =>
        have := above_child h hx.1 hne hy h1 h2 hb
        rw [this] at hx; exact absurd hx.2 (by simp)
  · exact h
theorem textNode_doc {d : List GNode} {e : GEdit} (h : DocF d) (he : isEdit e = true) : DocF (textNode d e).1 := by
  unfold textNode
  split
  · rename_i h0
    obtain ⟨hk, hp⟩ := nodeOf_at h0
    simp only [isEdit, inR, Bool.and_eq_true, decide_eq_true_eq] at he
    have hv := h.val _ (List.getElem_mem hk)
    rw [getD_at hk]
    exact doc_F.1 (doc_set (doc_F.2 h) hk rfl rfl ⟨hv.1, by dsimp only; omega, by dsimp only; omega⟩)
  · exact h
theorem moveNode_doc {d : List GNode} {e : GEdit} (h : DocF d) (he : isEdit e = true) : DocF (moveNode d e).1 := by
  unfold moveNode
  split
  · rename_i hm
    simp only [mayMove, Bool.and_eq_true, decide_eq_true_eq] at hm
    obtain ⟨⟨m1, m2⟩, m3⟩ := hm
    obtain ⟨hk, hp⟩ := nodeOf_at m1
    obtain ⟨hq, hpar⟩ := nodeOf_at m2
    simp only [isEdit, inR, Bool.and_eq_true, decide_eq_true_eq] at he
    have hv := h.val _ (List.getElem_mem hk)
    rw [getD_at hk]
    obtain ⟨x', hx'⟩ : ∃ x' : GNode, x' = { d[(nodeOf d e.Node).toNat] with Parent := e.Parent, By := e.By } := ⟨_, rfl⟩
    rw [← hx']
    have i1 : x'.Id = e.Node := by rw [hx']; exact hp
    have i2 : x'.Parent = e.Parent := by rw [hx']
    have hids : ∀ y ∈ d, ∃ y' ∈ d.set (nodeOf d e.Node).toNat x', y'.Id = y.Id := fun y hy => by
      obtain ⟨j, hj, rfl⟩ := List.mem_iff_getElem.1 hy
      by_cases e' : j = (nodeOf d e.Node).toNat
      · exact ⟨x', List.mem_set hk _, by rw [i1, ← hp]; subst e'; rfl⟩
      · exact ⟨d[j], by rw [List.mem_iff_getElem]; exact ⟨j, by rw [List.length_set]; exact hj, by rw [List.getElem_set_ne (Ne.symm e')]⟩, rfl⟩
    refine ⟨by rw [List.length_set]; exact h.len, ?_, ?_, fun x hx hne => ?_, fun x hx => ?_⟩
    · rw [List.pairwise_iff_getElem]
      intro i j hi hj hij
      rw [List.length_set] at hi hj
      have e3 : ∀ (k : Nat) (h1 : k < (d.set (nodeOf d e.Node).toNat x').length) (h2 : k < d.length), ((d.set (nodeOf d e.Node).toNat x')[k]).Id = (d[k]).Id := fun k h1 h2 => by
        rw [List.getElem_set]
        split
        · rename_i e'; subst e'; rw [i1, hp]
        · rfl
      rw [e3 i (by rw [List.length_set]; exact hi) hi, e3 j (by rw [List.length_set]; exact hj) hj]
      exact asc_at h.asc hi hj hij
    · obtain ⟨r, t, hd, r1, r2⟩ := h.head
      have hz : (nodeOf d e.Node).toNat ≠ 0 := fun e' => by
        have : (d[(nodeOf d e.Node).toNat]'hk).Id = 0 := by simp only [e']; simpa [hd] using r1
        omega
      obtain ⟨m, hm⟩ : ∃ m, (nodeOf d e.Node).toNat = m + 1 := ⟨(nodeOf d e.Node).toNat - 1, by omega⟩
      refine ⟨r, t.set m x', ?_, r1, r2⟩
      have : d.set (nodeOf d e.Node).toNat x' = (r :: t).set (m + 1) x' := by rw [← hd, hm]
      rw [this, List.set_cons_succ]
    · rcases List.mem_or_eq_of_mem_set hx with hx | rfl
      · obtain ⟨y, hy, h1, h2⟩ := h.par x hx hne
        obtain ⟨y', hy', h3⟩ := hids y hy
        exact ⟨y', hy', by omega, by omega⟩
      · obtain ⟨y', hy', h3⟩ := hids _ (List.getElem_mem hq)
        exact ⟨y', hy', by omega, by omega⟩
    · rcases List.mem_or_eq_of_mem_set hx with hx | rfl
      · exact h.val x hx
      · rw [hx']; exact ⟨hv.1, hv.2.1, by dsimp only; omega⟩
  · exact h
theorem applyEdit_doc {d : List GNode} {e : GEdit} (h : isDoc d = true) : isDoc (applyEdit d e).1 = true := by
  unfold applyEdit
  split
  · rename_i hb
    rw [Bool.and_eq_true] at hb
    have hF := doc_F.1 h
    have he := hb.2
    have hn : 1 ≤ e.Node := by simp only [isEdit, inR, Bool.and_eq_true, decide_eq_true_eq] at he; omega
    split
    · exact doc_F.2 (addNode_doc hF he)
    · split
      · exact doc_F.2 (dropNode_doc hF hn)
      · split
        · exact doc_F.2 (textNode_doc hF he)
        · exact doc_F.2 (moveNode_doc hF he)
  · exact h
theorem runEdits_doc : ∀ (l : List GEdit) {d : List GNode}, isDoc d = true → isDoc (runEdits d l) = true
  | [], d, h => h
  | e :: l, d, h => runEdits_doc l (d := (applyEdit d e).1) (applyEdit_doc h)
theorem tab_doc {t : GTab} (h : isTab t = true) : isDoc (runEdits t.Base t.Edits) = true := by
  unfold isTab at h
  simp only [Bool.and_eq_true] at h
  exact runEdits_doc _ h.1.1.1.1.2
theorem isTab_without {t : GTab} {by' : Int} (h : isTab t = true) : isTab (tabWithout t by') = true := by
  unfold isTab at h ⊢
  simp only [Bool.and_eq_true, decide_eq_true_eq, tabWithout] at h ⊢
  have hl := List.length_filter_le (edNot by') t.Edits
  refine ⟨⟨⟨⟨h.1.1.1.1, ?_⟩, h.1.1.2⟩, ?_⟩, h.2⟩
  · exact decide_eq_true (Nat.le_trans hl h.1.1.1.2)
  have ha := h.1.2
  rw [List.all_eq_true] at ha ⊢
  exact fun x hx => ha x ((List.mem_filter.1 hx).1)
end Go.Proofs.Ytfkfoidojmjacaa
