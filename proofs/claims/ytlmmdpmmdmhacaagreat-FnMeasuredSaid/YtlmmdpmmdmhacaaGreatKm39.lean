/- Edits of documents. -/
import Derived.Test.YtlmmdpmmdmhacaaGreatKm23
import Derived.Test.YtlmmdpmmdmhacaaGreatKm38
import Derived.Test.YtlmmdpmmdmhacaaGreatKm31
namespace Go.Proofs.YtlmmdpmmdmhacaaGreat
open Go Go.ChangeShapes Go.WideShapes Go.ChangeAt Go.RowKit
set_option linter.unusedVariables false
set_option linter.unusedSimpArgs false
set_option maxRecDepth 100000
theorem fr_stoNode {S0 S : Store} {c : C} {l : List GNode} {i v : Int} {off : Nat} {K : Store → Prop} (x0 x' : GNode) (A Z : List D) (o : C) (hE : Ext S0 S) (h : Fr S0.length S [.sl 5 (l.map GNode.d)] [c]) (h0 : 0 ≤ i) (hl : l[i.toNat]? = some x0)
    (hx : x'.d = A ++ [.x (.int .i64 v)] ++ Z) (ho : x0.d = A ++ [.x o] ++ Z) (hA : A.length = off)
    (hK : ∀ S', Ext S0 S' → Fr S0.length S' [.sl 5 ((l.set i.toNat x').map GNode.d)] [c] → K S') : StoP S c i off [.int .i64 v] K := by
  have hlt : i.toNat < l.length := (List.getElem?_eq_some_iff.1 hl).1
  refine fr_sto (A := A) (B := [.x o]) (B' := [.x (.int .i64 v)]) (Z := Z) (k := 5) hE h (Ext.refl S) (fr_x fr_nil) hE.len ⟨h0, by rw [List.length_map]; exact hlt⟩ (by rw [List.getElem?_map, hl, ← ho]; rfl) hA rfl (by rw [← ho]; rfl) fun S' h1 h2 _ => hK S' h1 ?_
  rw [List.map_set, hx]; exact h2
theorem fr_litG {S : Store} {α : Type} {f : α → List D} {k : Nat} (l : List α) (hf : ∀ x, Flat (f x)) (h : l.length ≤ 9223372036854775807) : Fr S.length (S ++ [⟨true, k, l.map fun x => flatC (f x)⟩]) [.sl k (l.map f)] [.sl S.length 0 l.length l.length] :=
  fr_push (xs := l.map f) (js := []) (rep2_flat hf l) List.nodup_nil (fun _ h => by cases h) (Nat.le_refl _) (by rw [maxLen_eq]; simpa using h) (by simp)
def upGo (d : List GNode) (top : Int) : Nat → Int → Bool
  | 0, _ => false
  | f + 1, id => if id = top then true else if nodeOf d id ≤ 0 then false else upGo d top f (d.getD (nodeOf d id).toNat default).Parent
def above (d : List GNode) (id top : Int) : Bool := upGo d top ((nodeOf d id).toNat + 1) id
def isUnder (d : List GNode) (id top : Int) : Bool := isDoc d && decide (0 ≤ nodeOf d id) && decide (0 ≤ nodeOf d top) && above d id top
theorem nodeOfGo_at (id : Int) : ∀ (l : List GNode) (i : Nat), nodeOfGo id l i = -1 ∨ ∃ j, ∃ h : j < l.length, nodeOfGo id l i = ((i + j : Nat) : Int) ∧ (l[j]'h).Id = id
  | [], i => .inl rfl
  | x :: r, i => by
    rw [nodeOfGo]
    split
    · rename_i h; exact .inr ⟨0, by simp, by simp, h⟩
    · rcases nodeOfGo_at id r (i + 1) with h | ⟨j, hj, h1, h2⟩
      · exact .inl h
      · exact .inr ⟨j + 1, by simp; omega, by rw [h1]; congr 1; omega, by simpa using h2⟩
theorem nodeOf_at {d : List GNode} {id : Int} (h : 0 ≤ nodeOf d id) : ∃ hj : (nodeOf d id).toNat < d.length, (d[(nodeOf d id).toNat]'hj).Id = id := by
  unfold nodeOf at h ⊢
  rcases nodeOfGo_at id d 0 with h1 | ⟨j, hj, h1, h2⟩
  · omega
  · have e : (nodeOfGo id d 0).toNat = j := by rw [h1]; omega
    simp only [e]
    exact ⟨hj, h2⟩
theorem nodeOfGo_mem {x : GNode} : ∀ {l : List GNode}, x ∈ l → ∀ i : Nat, 0 ≤ nodeOfGo x.Id l i
  | y :: r, h, i => by
    rw [nodeOfGo]
    split
    · omega
    · rename_i hne
      rcases List.mem_cons.1 h with rfl | h
      · exact absurd rfl hne
      · exact nodeOfGo_mem h (i + 1)
theorem nodeOf_mem {d : List GNode} {x : GNode} (h : x ∈ d) : 0 ≤ nodeOf d x.Id := nodeOfGo_mem h 0
theorem nodeOf_lt (d : List GNode) (id : Int) : nodeOf d id < d.length ∧ -1 ≤ nodeOf d id := by
  unfold nodeOf
  rcases nodeOfGo_at id d 0 with h1 | ⟨j, hj, h1, h2⟩ <;> omega
theorem nodeOfGo_app (id : Int) : ∀ (l m : List GNode) (i : Nat), nodeOfGo id (l ++ m) i = if 0 ≤ nodeOfGo id l i then nodeOfGo id l i else nodeOfGo id m (i + l.length)
  | [], m, i => by simp [nodeOfGo]
  | x :: r, m, i => by
    rw [List.cons_append, nodeOfGo, nodeOfGo]
    split
    · rw [if_pos (by omega)]
    · rw [nodeOfGo_app id r m (i + 1), List.length_cons, show i + 1 + r.length = i + (r.length + 1) by omega]
theorem nodeOf_take {d : List GNode} {id : Int} {i : Nat} (h : 0 ≤ nodeOf (d.take i) id) : nodeOf d id = nodeOf (d.take i) id ∧ nodeOf d id < i := by
  have e : nodeOf d id = nodeOf (d.take i) id := by
    unfold nodeOf at h ⊢
    have h1 := nodeOfGo_app id (d.take i) (d.drop i) 0
    rw [List.take_append_drop, if_pos h] at h1
    exact h1
  refine ⟨e, ?_⟩
  have := (nodeOf_lt (d.take i) id).1
  rw [List.length_take] at this
  omega
theorem docGo_at (d : List GNode) : ∀ (l : List GNode) (i : Nat), docGo d l i = true → ∀ j (h : j < l.length), okNode d (l[j]'h) (i + j) = true
  | [], i, _, j, h => by cases h
  | x :: r, i, h, j, hj => by
    rw [docGo] at h
    split at h
    · rename_i hx
      cases j with
      | zero => exact hx
      | succ j =>
        have := docGo_at d r (i + 1) h j (by simpa using hj)
        rw [show i + (j + 1) = i + 1 + j by omega]
        simpa using this
    · cases h
theorem doc_ok {d : List GNode} (h : isDoc d = true) : (1 ≤ d.length ∧ d.length ≤ 16) ∧ ∀ j (hj : j < d.length), okNode d (d[j]'hj) j = true := by
  simp only [isDoc, Bool.and_eq_true, decide_eq_true_eq] at h
  exact ⟨h.1, fun j hj => by have := docGo_at d d 0 h.2 j hj; rwa [Nat.zero_add] at this⟩
theorem doc_parent {d : List GNode} (h : isDoc d = true) {j : Nat} (hj : j < d.length) (h0 : 0 < j) : 0 ≤ nodeOf d (d[j]'hj).Parent ∧ nodeOf d (d[j]'hj).Parent < j := by
  have := (doc_ok h).2 j hj
  rw [okNode_pos h0 (by omega)] at this
  simp only [Bool.and_eq_true, decide_eq_true_eq] at this
  have h1 := nodeOf_take this.2.2
  exact ⟨by rw [h1.1]; exact this.2.2, h1.2⟩
theorem doc_ids {d : List GNode} (h : isDoc d = true) : ∀ (j : Nat) (hj : j < d.length), (j : Int) ≤ (d[j]'hj).Id ∧ (j = 0 → (d[j]'hj).Id = 0)
  | 0, hj => by
    have := (doc_ok h).2 0 hj
    rw [okNode_zero] at this
    simp only [Bool.and_eq_true, decide_eq_true_eq] at this
    omega
  | j + 1, hj => by
    have := (doc_ok h).2 (j + 1) hj
    rw [okNode_pos (by omega) (by omega)] at this
    simp only [Bool.and_eq_true, decide_eq_true_eq, Nat.add_sub_cancel] at this
    have ih := (doc_ids h j (by omega)).1
    omega
theorem doc_zero {d : List GNode} (h : isDoc d = true) {id : Int} (hi : 0 ≤ nodeOf d id) : id ≤ 0 ↔ nodeOf d id = 0 := by
  obtain ⟨hj, he⟩ := nodeOf_at hi
  have := doc_ids h _ hj
  rw [he] at this
  constructor
  · intro h1; omega
  · intro h1; have := this.2 (by omega); omega
theorem upGo_more {d : List GNode} (h : isDoc d = true) (top : Int) : ∀ (f g : Nat) (id : Int), (nodeOf d id).toNat < f → (nodeOf d id).toNat < g → upGo d top f id = upGo d top g id
  | 0, g, id, h1, _ => by omega
  | f + 1, 0, id, _, h2 => by omega
  | f + 1, g + 1, id, h1, h2 => by
    rw [upGo, upGo]
    split
    · rfl
    · split
      · rfl
      · rename_i hp
        have hp : ¬ nodeOf d id ≤ 0 := hp
        obtain ⟨hj, _⟩ := nodeOf_at (d := d) (id := id) (by omega)
        have hpar := doc_parent h hj (by omega)
        rw [getD_at hj]
        exact upGo_more h top f g _ (by omega) (by omega)
theorem above_eq {d : List GNode} (h : isDoc d = true) (id top : Int) : above d id top = if id = top then true else if nodeOf d id ≤ 0 then false else above d (d.getD (nodeOf d id).toNat default).Parent top := by
  unfold above
  rw [upGo]
  split
  · rfl
  · split
    · rfl
    · rename_i hp
      obtain ⟨hj, _⟩ := nodeOf_at (d := d) (id := id) (by omega)
      have hpar := doc_parent h hj (by omega)
      rw [getD_at hj]
      exact upGo_more h top _ _ _ (by omega) (by omega)
theorem ev_above (d : List GNode) (id top : Int) (c : C) (S : Store) (h : Rd S [.sl 5 (d.map GNode.d)] [c]) (hd : isDoc d = true) : EvA Tryz.prog 267 [.s c, .s (.int .i64 id), .s (.int .i64 top)] S (fun r S' => r = .v (.s (.bool (above d id top))) ∧ S' = S) := by
  refine evA_intro tok Tryz.func267 (by kernel_rfl) rfl ?_
  skip
  refine loop_intro {x : Int // above d x top = above d id top} [1, 6, 7, 8, 9, 10, 11, 12, 13, 14, 15, 16, 17, 18, 19, 20] (fun zb => [(1, .v (.s (.int .i64 zb.1)))]) (fun _ => S) (fun zb => (nodeOf d zb.1).toNat) ⟨id, rfl⟩ ?_ rfl ?_
  · (conv => whnf); repeat' (first | exact trivial | exact rfl | apply And.intro)
  rintro ⟨x, hinv⟩; dsimp only
  have hax := above_eq hd x top
  rw [hinv] at hax
  by_cases hxt : x = top
  · rw [if_pos hxt] at hax
    rw [hax]
    repeat' ((conv => whnf) <;> first
     | (show CondP _ _ _; refine cS ?_) | refine And.intro ?_ ?_)
    all_goals rfl
  · rw [if_neg hxt] at hax
    by_cases hn : nodeOf d x ≤ 0
    · rw [if_pos hn] at hax
      rw [hax]
      repeat' ((conv => whnf) <;> first
       | (show CondP _ _ _; refine cS ?_) | refine callP_eq (ev_iNodeOf _ _ _ _ aN) ?_ | refine And.intro ?_ ?_)
      all_goals rfl
    · rw [if_neg hn] at hax
      obtain ⟨hj, _⟩ := nodeOf_at (d := d) (id := x) (by omega)
      have hpar := doc_parent hd hj (by omega)
      rw [getD_at hj] at hax
      have hidx : 0 ≤ nodeOf d x ∧ (nodeOf d x).toNat < d.length := ⟨by omega, hj⟩
      repeat' ((conv => whnf) <;> first
       | (show CondP _ _ _; refine cS ?_) | refine callP_eq (ev_iNodeOf _ _ _ _ aN) ?_ | refine rI aN rf ix ?_ | refine rd_loadf aN tv ix ?_)
      all_goals first
        | (refine ⟨⟨(d[(nodeOf d x).toNat]'hj).Parent, hax.symm⟩, ?_, rfl, by dsimp only; omega⟩; (conv => whnf); repeat' (first | exact trivial | exact rfl | apply And.intro))
theorem ev_IsUnder (d : List GNode) (id top : Int) (c : C) (S : Store) (h : Rd S [.sl 5 (d.map GNode.d)] [c]) : EvA Tryz.prog 301 [.s c, .s (.int .i64 id), .s (.int .i64 top)] S (fun r S' => r = .v (.s (.bool (isUnder d id top))) ∧ S' = S) := by
  by_cases hd : isDoc d = true ∧ 0 ≤ nodeOf d id ∧ 0 ≤ nodeOf d top
  · obtain ⟨hd, hi, ht⟩ := hd
    rw [show isUnder d id top = above d id top from by unfold isUnder; simp [hd, hi, ht]]
    refine evA_intro tok Tryz.func301 (by kernel_rfl) rfl ?_
    repeat' ((conv => whnf) <;> first
     | (show CondP _ _ _; refine cS ?_) | refine callP_eq (ev_sNodeOf _ _ _ _ aN) ?_ | refine callP_eq (ev_sIsDocument _ _ _ aN) ?_)
    refine loop_intro {x : Int // above d x top = above d id top ∧ 0 ≤ nodeOf d x} [1, 22, 23, 24, 25, 26, 27, 28, 29, 30, 31, 32, 33, 34, 35] (fun zb => [(1, .v (.s (.int .i64 zb.1)))]) (fun _ => S) (fun zb => (nodeOf d zb.1).toNat) ⟨id, rfl, hi⟩ ?_ rfl ?_
    · (conv => whnf); repeat' (first | exact trivial | exact rfl | apply And.intro)
    rintro ⟨x, hinv, hx0⟩; dsimp only
    have hax := above_eq hd x top
    rw [hinv] at hax
    have hz := doc_zero hd hx0
    by_cases hxt : x = top
    · rw [if_pos hxt] at hax
      rw [hax]
      repeat' ((conv => whnf) <;> first
       | (show CondP _ _ _; refine cS ?_) | refine cF ?_ | refine And.intro ?_ ?_)
      all_goals (show _ = _; rw [decide_eq_true hxt]; rfl)
    · rw [if_neg hxt] at hax
      by_cases hn : nodeOf d x ≤ 0
      · rw [if_pos hn] at hax
        rw [hax]
        have hx1 : x ≤ 0 := hz.2 (by omega)
        repeat' ((conv => whnf) <;> first
         | (show CondP _ _ _; refine cS ?_) | refine And.intro ?_ ?_)
        all_goals (show _ = _; rw [decide_eq_false hxt]; rfl)
      · rw [if_neg hn] at hax
        have hx1 : 0 < x := by
          rcases Int.lt_or_le 0 x with h1 | h1
          · exact h1
          · have := hz.1 h1; omega
        obtain ⟨hj, _⟩ := nodeOf_at (d := d) (id := x) (by omega)
        have hpar := doc_parent hd hj (by omega)
        rw [getD_at hj] at hax
        have hidx : 0 ≤ nodeOf d x ∧ (nodeOf d x).toNat < d.length := ⟨by omega, hj⟩
        repeat' ((conv => whnf) <;> first
         | (show CondP _ _ _; refine cS ?_) | refine callP_eq (ev_sNodeOf _ _ _ _ aN) ?_ | refine rI aN rf ix ?_ | refine rd_loadf aN tv ix ?_)
        all_goals first
          | (refine ⟨⟨(d[(nodeOf d x).toNat]'hj).Parent, hax.symm, hpar.1⟩, ?_, rfl, by dsimp only; omega⟩; (conv => whnf); repeat' (first | exact trivial | exact rfl | apply And.intro))
  · rw [show isUnder d id top = false from by
      unfold isUnder
      cases h1 : isDoc d <;> simp only [h1, Bool.false_and, Bool.true_and] at hd ⊢
      by_cases h2 : 0 ≤ nodeOf d id <;> by_cases h3 : 0 ≤ nodeOf d top <;> simp_all <;> intros <;> omega]
    refine evA_intro tok Tryz.func301 (by kernel_rfl) rfl ?_
    repeat' ((conv => whnf) <;> first
     | refine cD (fun _ => ?_) fun _ => ?_ | refine cT ?_ | refine cN (fun _ => ?_) fun _ => ?_ | refine callP_eq (ev_sNodeOf _ _ _ _ aN) ?_ | refine callP_eq (ev_sIsDocument _ _ _ aN) ?_ | refine And.intro ?_ ?_)
    all_goals first | rfl | (exfalso; simp_all; done) | (exfalso; simp_all; omega)
end Go.Proofs.YtlmmdpmmdmhacaaGreat
