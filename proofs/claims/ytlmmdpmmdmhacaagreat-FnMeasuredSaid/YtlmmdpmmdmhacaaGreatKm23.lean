/- Marking: every plain cell of every element of a value's slices is overwritten, in order; rows other than the value's stay. Copies; a tab without a hand's edits. -/
import Derived.Test.YtlmmdpmmdmhacaaGreatKm19
import Derived.Test.YtlmmdpmmdmhacaaGreatKm22
namespace Go.Proofs.YtlmmdpmmdmhacaaGreat
open Go
set_option linter.unusedVariables false
set_option linter.unusedSimpArgs false
def Mk (ids : List Nat) (S S' : Store) : Prop := S'.length = S.length ∧ ∀ id, id ∉ ids → S'[id]? = S[id]?
theorem Mk.refl (ids : List Nat) (S : Store) : Mk ids S S := ⟨rfl, fun _ _ => rfl⟩
theorem Mk.trans {ids : List Nat} {S1 S2 S3 : Store} (h : Mk ids S1 S2) (g : Mk ids S2 S3) : Mk ids S1 S3 := ⟨g.1.trans h.1, fun id hi => (g.2 id hi).trans (h.2 id hi)⟩
theorem Mk.mono {i j : List Nat} {S S' : Store} (h : Mk i S S') (hs : ∀ id ∈ i, id ∈ j) : Mk j S S' := ⟨h.1, fun id hi => h.2 id fun g => hi (hs id g)⟩
mutual
def cntD : D → Nat
  | .x _ => 1
  | .sl _ xs => cntE xs
def cntL : List D → Nat
  | [] => 0
  | d :: ds => cntD d + cntL ds
def cntE : List (List D) → Nat
  | [] => 0
  | x :: xs => cntL x + cntE xs
end
def cntT : List D → Nat
  | [] => 0
  | .x c :: ds => cntT ds
  | .sl n xs :: ds => cntE xs + cntT ds
section
variable {q : Bool} {S S' S0 : Store}
theorem RepL.setAt : ∀ {e : List D} {cs : List C} {ids : List Nat}, RepL q S e cs ids → ∀ (off : Nat) d, e[off]? = some d → ∃ c' a m b, cs[off]? = some c' ∧ ids = a ++ m ++ b ∧ Rep q S d c' m ∧
    ∀ {S' : Store} {d' : D} {c'' : C} {m' : List Nat}, (∀ id ∈ a ++ b, S'[id]? = S[id]?) → Rep q S' d' c'' m' → RepL q S' (e.set off d') (cs.set off c'') (a ++ m' ++ b)
  | [], cs, ids, h, off, d, hx => by simp at hx
  | y :: e, cs, ids, h, off, d, hx => by
    rw [repL_cons] at h
    obtain ⟨c, cs', i, j, h1, h2, h3, h4⟩ := h
    subst h1; subst h2
    cases off with
    | zero =>
      simp at hx; subst hx
      refine ⟨c, [], i, j, rfl, by simp, h3, fun {S' d' c'' m'} hf hr => ?_⟩
      rw [List.set_cons_zero, List.set_cons_zero, repL_cons]
      exact ⟨c'', cs', m', j, rfl, by simp, hr, h4.frame (fun id hi => hf id (by simp [hi]))⟩
    | succ off =>
      obtain ⟨c1, a, m, b, k1, k2, k3, k4⟩ := h4.setAt off d (by simpa using hx)
      refine ⟨c1, i ++ a, m, b, by simpa using k1, by rw [k2]; simp, k3, fun {S' d' c'' m'} hf hr => ?_⟩
      rw [List.set_cons_succ, List.set_cons_succ, repL_cons]
      exact ⟨c, cs'.set off c'', i, a ++ m' ++ b, rfl, by simp, h3.frame (fun id hi => hf id (by simp [hi])), k4 (fun id hi => hf id (by
        rcases List.mem_append.1 hi with hi | hi <;> simp [hi])) hr⟩
end
section
variable {S S' S0 : Store}
def In (lo hi : Nat) (S : Store) (ds : List D) (cs : List C) : Prop := ∃ ids, RepL true S ds cs ids ∧ ids.Nodup ∧ ∀ id ∈ ids, lo ≤ id ∧ id < hi
def Out (lo hi : Nat) (S S' : Store) : Prop := S'.length = S.length ∧ ∀ id, (id < lo ∨ hi ≤ id) → S'[id]? = S[id]?
theorem Fr.inn {lo : Nat} {ds : List D} {cs : List C} (h : Fr lo S ds cs) : In lo S.length S ds cs := by
  obtain ⟨ids, h, h1, h2⟩ := h
  exact ⟨ids, h, h1, fun id hi => ⟨h2 id hi, h.lt id hi⟩⟩
theorem In.ext {lo hi : Nat} {ds : List D} {cs : List C} (h : In lo hi S ds cs) (e : Ext S S') : In lo hi S' ds cs := by
  obtain ⟨ids, h, h1, h2⟩ := h
  exact ⟨ids, h.frame fun id hi => e.at (h.lt id hi), h1, h2⟩
theorem In.rd {lo hi : Nat} {ds : List D} {cs : List C} (h : In lo hi S ds cs) : Rd S ds cs := by obtain ⟨ids, h, _⟩ := h; exact .of h
theorem In.out {lo hi a b : Nat} {ds : List D} {cs : List C} (h : In a b S ds cs) (o : Out lo hi S S') (hd : b ≤ lo ∨ hi ≤ a) : In a b S' ds cs := by
  obtain ⟨ids, h, h1, h2⟩ := h
  exact ⟨ids, h.frame fun id hi => o.2 id (by have := h2 id hi; omega), h1, h2⟩
theorem Rd.out {lo hi : Nat} {ds : List D} {cs : List C} {S1 : Store} (h : Rd S1 ds cs) (e : Ext S1 S) (o : Out lo hi S S') (hl : S1.length ≤ lo) : Rd S' ds cs := by
  obtain ⟨ids, h⟩ := h
  exact ⟨ids, h.frame fun id hi => by have := h.lt id hi; rw [o.2 id (by omega), e.at this]⟩
def Be (hi : Nat) (S : Store) (ds : List D) (cs : List C) : Prop := ∃ ids, RepL false S ds cs ids ∧ ∀ id ∈ ids, id < hi
theorem Rd.be {ds : List D} {cs : List C} (h : Rd S ds cs) : Be S.length S ds cs := by
  obtain ⟨ids, h⟩ := h
  exact ⟨ids, h, fun id hi => h.lt id hi⟩
theorem Be.rd {hi : Nat} {ds : List D} {cs : List C} (h : Be hi S ds cs) : Rd S ds cs := by obtain ⟨ids, h, _⟩ := h; exact ⟨ids, h⟩
theorem Be.ext {hi : Nat} {ds : List D} {cs : List C} (h : Be hi S ds cs) (e : Ext S S') : Be hi S' ds cs := by
  obtain ⟨ids, h, h2⟩ := h
  exact ⟨ids, h.frame fun id hi => e.at (h.lt id hi), h2⟩
theorem Be.out {lo hi b : Nat} {ds : List D} {cs : List C} (h : Be b S ds cs) (o : Out lo hi S S') (hd : b ≤ lo) : Be b S' ds cs := by
  obtain ⟨ids, h, h2⟩ := h
  exact ⟨ids, h.frame fun id hi => o.2 id (by have := h2 id hi; omega), h2⟩
theorem Out.len {lo hi : Nat} (o : Out lo hi S S') : S'.length = S.length := o.1
theorem Mk.out {lo hi : Nat} {ids : List Nat} (h : Mk ids S S') (hb : ∀ id ∈ ids, lo ≤ id ∧ id < hi) : Out lo hi S S' := ⟨h.1, fun id hi' => h.2 id fun g => by have := hb id g; omega⟩
theorem In.one {lo hi : Nat} {d : D} {c : C} (h : In lo hi S [d] [c]) : ∃ ids, Rep true S d c ids ∧ ids.Nodup ∧ ∀ id ∈ ids, lo ≤ id ∧ id < hi := by
  obtain ⟨ids, h, h1, h2⟩ := h
  rw [repL_cons] at h
  obtain ⟨c1, cs', i, j, g1, g2, g3, g4⟩ := h
  rw [repL_nil] at g4
  simp only [List.cons.injEq] at g1
  obtain ⟨g1, _⟩ := g1
  obtain ⟨_, g5⟩ := g4
  subst g1; subst g5
  rw [List.append_nil] at g2
  subst g2
  exact ⟨_, g3, h1, h2⟩
end
theorem GNode.cT (x : GNode) : cntT x.d = 0 := by
  simp only [GNode.d, Go.Proofs.YtlmmdpmmdmhacaaGreat.cntT]
def GNode.m (k : Int) : GNode := ⟨k, k + 1, k + 1 + 1, k + 1 + 1 + 1, k + 1 + 1 + 1 + 1⟩
theorem GEdit.cT (x : GEdit) : cntT x.d = 0 := by
  simp only [GEdit.d, Go.Proofs.YtlmmdpmmdmhacaaGreat.cntT]
def GEdit.m (k : Int) : GEdit := ⟨k, k + 1, k + 1 + 1, k + 1 + 1 + 1, k + 1 + 1 + 1 + 1, k + 1 + 1 + 1 + 1 + 1⟩
theorem GSite.cT (x : GSite) : cntT x.d = 0 := by
  simp only [GSite.d, Go.Proofs.YtlmmdpmmdmhacaaGreat.cntT]
def GSite.m (k : Int) : GSite := ⟨k, k + 1⟩
theorem GPattern.cT (x : GPattern) : cntT x.d = 0 := by
  simp only [GPattern.d, Go.Proofs.YtlmmdpmmdmhacaaGreat.cntT]
def GPattern.m (k : Int) : GPattern := ⟨k, k + 1⟩
theorem GGrant.cT (x : GGrant) : cntT x.d = 0 := by
  simp only [GGrant.d, Go.Proofs.YtlmmdpmmdmhacaaGreat.cntT]
def GGrant.m (k : Int) : GGrant := ⟨k, ⟨k + 1, k + 1 + 1⟩, k + 1 + 1 + 1, k + 1 + 1 + 1 + 1, k + 1 + 1 + 1 + 1 + 1, decide (Int.tmod (k + 1 + 1 + 1 + 1 + 1 + 1) 3 = 0)⟩
theorem GLimit.cT (x : GLimit) : cntT x.d = 0 := by
  simp only [GLimit.d, Go.Proofs.YtlmmdpmmdmhacaaGreat.cntT]
def GLimit.m (k : Int) : GLimit := ⟨k, ⟨k + 1, k + 1 + 1⟩, k + 1 + 1 + 1⟩
theorem GRule.cT (x : GRule) : cntT x.d = 0 := by
  simp only [GRule.d, Go.Proofs.YtlmmdpmmdmhacaaGreat.cntT]
def GRule.m (k : Int) : GRule := ⟨k, k + 1, ⟨k + 1 + 1, k + 1 + 1 + 1⟩, k + 1 + 1 + 1 + 1, k + 1 + 1 + 1 + 1 + 1, ⟨k + 1 + 1 + 1 + 1 + 1 + 1, k + 1 + 1 + 1 + 1 + 1 + 1 + 1⟩⟩
theorem GRequest.cT (x : GRequest) : cntT x.d = 0 := by
  simp only [GRequest.d, Go.Proofs.YtlmmdpmmdmhacaaGreat.cntT]
def GRequest.m (k : Int) : GRequest := ⟨⟨k, k + 1⟩, k + 1 + 1⟩
theorem GOutcome.cT (x : GOutcome) : cntT x.d = cntE (x.Path.map GSite.d) := by
  simp only [GOutcome.d, Go.Proofs.YtlmmdpmmdmhacaaGreat.cntT]; try omega
theorem GFlow.cT (x : GFlow) : cntT x.d = 0 := by
  simp only [GFlow.d, Go.Proofs.YtlmmdpmmdmhacaaGreat.cntT]
def GFlow.m (k : Int) : GFlow := ⟨k, k + 1, k + 1 + 1⟩
theorem GOp.cT (x : GOp) : cntT x.d = 0 := by
  simp only [GOp.d, Go.Proofs.YtlmmdpmmdmhacaaGreat.cntT]
def GOp.m (k : Int) : GOp := ⟨k, k + 1, k + 1 + 1, k + 1 + 1 + 1⟩
theorem GSent.cT (x : GSent) : cntT x.d = 0 := by
  simp only [GSent.d, Go.Proofs.YtlmmdpmmdmhacaaGreat.cntT]
def GSent.m (k : Int) : GSent := ⟨k, k + 1, k + 1 + 1⟩
theorem GLetter.cT (x : GLetter) : cntT x.d = 0 := by
  simp only [GLetter.d, Go.Proofs.YtlmmdpmmdmhacaaGreat.cntT]
def GLetter.m (k : Int) : GLetter := ⟨k, k + 1, k + 1 + 1, k + 1 + 1 + 1⟩
theorem GStored.cT (x : GStored) : cntT x.d = 0 := by
  simp only [GStored.d, Go.Proofs.YtlmmdpmmdmhacaaGreat.cntT]
def GStored.m (k : Int) : GStored := ⟨k, k + 1, k + 1 + 1, k + 1 + 1 + 1⟩
theorem GWindow.cT (x : GWindow) : cntT x.d = cntE (x.Base.map GStored.d) + cntE (x.Own.map GStored.d) := by
  simp only [GWindow.d, Go.Proofs.YtlmmdpmmdmhacaaGreat.cntT]; try omega
theorem GPackage.cT (x : GPackage) : cntT x.d = cntE (x.Grants.map GGrant.d) + cntE (x.Flows.map GFlow.d) + cntE (x.Rules.map GRule.d) + cntE (x.Ops.map GOp.d) := by
  simp only [GPackage.d, Go.Proofs.YtlmmdpmmdmhacaaGreat.cntT]; try omega
theorem GDeed.cT (x : GDeed) : cntT x.d = 0 := by
  simp only [GDeed.d, Go.Proofs.YtlmmdpmmdmhacaaGreat.cntT]
def GDeed.m (k : Int) : GDeed := ⟨k, k + 1, k + 1 + 1, k + 1 + 1 + 1, k + 1 + 1 + 1 + 1⟩
theorem GSnapshot.cT (x : GSnapshot) : cntT x.d = cntE (x.Package.Grants.map GGrant.d) + cntE (x.Package.Flows.map GFlow.d) + cntE (x.Package.Rules.map GRule.d) + cntE (x.Package.Ops.map GOp.d) + cntE (x.Entries.map GStored.d) := by
  simp only [GSnapshot.d, Go.Proofs.YtlmmdpmmdmhacaaGreat.cntT]; try omega
theorem GTab.cT (x : GTab) : cntT x.d = cntE (x.Base.map GNode.d) + cntE (x.Edits.map GEdit.d) + cntE (x.Hidden.map dInt) := by
  simp only [GTab.d, Go.Proofs.YtlmmdpmmdmhacaaGreat.cntT]; try omega
theorem GBrowser.cT (x : GBrowser) : cntT x.d = cntE (x.Tabs.map GTab.d) + cntE (x.Packs.map GPackage.d) + cntE (x.Grants.map GGrant.d) + cntE (x.Limits.map GLimit.d) + cntE (x.Rules.map GRule.d) + cntE (x.Store.map GStored.d) := by
  simp only [GBrowser.d, Go.Proofs.YtlmmdpmmdmhacaaGreat.cntT]; try omega
theorem GEvent.cT (x : GEvent) : cntT x.d = cntE (x.Package.Grants.map GGrant.d) + cntE (x.Package.Flows.map GFlow.d) + cntE (x.Package.Rules.map GRule.d) + cntE (x.Package.Ops.map GOp.d) := by
  simp only [GEvent.d, Go.Proofs.YtlmmdpmmdmhacaaGreat.cntT]; try omega
end Go.Proofs.YtlmmdpmmdmhacaaGreat
namespace Go.Proofs.YtlmmdpmmdmhacaaGreat
open Go Go.ChangeShapes Go.WideShapes Go.ChangeAt Go.RowKit
set_option linter.unusedVariables false
set_option linter.unusedSimpArgs false
set_option maxRecDepth 100000
theorem rd_shape {S : Store} {k : Nat} {xs : List (List D)} {c : C} (h : Rd S [.sl k xs] [c]) : (c = .nil ∧ xs = []) ∨ (c = .zc ∧ xs = []) ∨ ∃ id o n t, c = .sl id o n t := by
  obtain ⟨ids, h⟩ := h.one
  unfold Rep at h
  rcases h.2 with ⟨h1, h2, _⟩ | ⟨id, o, t, row, js, h1, _⟩
  · rcases h2 with h2 | h2
    · exact .inl ⟨h2, h1⟩
    · exact .inr (.inl ⟨h2, h1⟩)
  · exact .inr (.inr ⟨_, _, _, _, h1⟩)
theorem Rep2.flat {q : Bool} {S : Store} {α : Type} {f : α → List D} (hf : ∀ x, Flat (f x)) : ∀ {l : List α} {rows : List (List C)} {ids : List Nat}, Rep2 q S (l.map f) rows ids → rows = l.map fun x => flatC (f x)
  | [], rows, ids, h => by rw [List.map_nil, rep2_nil] at h; exact h.1
  | x :: l, rows, ids, h => by
    rw [List.map_cons, rep2_cons] at h
    obtain ⟨cs, rows', i, j, h1, h2, h3, h4⟩ := h
    rw [h1, (h3.flat (hf x)).1, Rep2.flat hf h4]; rfl
theorem rd_elemsf {S : Store} {α : Type} {f : α → List D} {k : Nat} {l : List α} {c : C} {K : List (List C) → Prop} (h : Rd S [.sl k (l.map f)] [c]) (hf : ∀ x, Flat (f x)) (hK : l.length ≤ 9223372036854775807 → K (l.map fun x => flatC (f x))) : ElemsP S c K := by
  obtain ⟨ids, h⟩ := h.one
  obtain ⟨rows, js, h1, h2, h3, h4⟩ := h.elems
  unfold ElemsP
  refine ⟨rows, h1, ?_⟩
  rw [h2.flat hf]
  exact hK (by rw [List.length_map, maxLen_eq] at h4; exact h4)
theorem fr_clone {S : Store} {α : Type} {f : α → List D} {k by' : Nat} {l : List α} {K : C → Store → Prop} (hf : ∀ x, Flat (f x)) (hk : ∀ x, (f x).length = k) (hb : l.length * by' ≤ 140737488355328) (hm : l.length ≤ 9223372036854775807)
    (hK : ∀ c' S', Ext S S' → Fr S.length S' [.sl k (l.map f)] [c'] → K c' S') : AppP k by' (S ++ [⟨true, k, []⟩]) (.sl S.length 0 0 0) (l.map fun x => flatC (f x)) K :=
  fr_app_flat (S0 := S) (l := []) (m := l) hf (Ext.push _ _) fr_lit0 rfl hk (by simpa using hb) (by rw [maxLen_eq]; simpa using hm) fun c' S' h1 h2 _ => hK c' S' h1 h2
theorem In.set {S : Store} {lo hi a b : Nat} {e : List D} {cs : List C} {off : Nat} {d d' : D} {c' : C} (h : In lo hi S e cs) (ho : e[off]? = some d) (h2 : In a b S [d'] [c']) (h1 : lo ≤ hi) (hab : hi ≤ a) (hb : hi ≤ b) : In lo b S (e.set off d') (cs.set off c') := by
  obtain ⟨ids, h, hn, hl⟩ := h
  obtain ⟨j, g, gn, gl⟩ := h2.one
  obtain ⟨c0, x, m, y, k1, k2, k3, k4⟩ := h.setAt off _ ho
  subst k2
  refine ⟨x ++ j ++ y, k4 (fun _ _ => rfl) g, ?_, fun id hi' => ?_⟩
  · simp only [List.nodup_append, List.mem_append] at hn ⊢
    obtain ⟨⟨b1, b2, b3⟩, b4, b5⟩ := hn
    have far : ∀ i, (i ∈ x ∨ i ∈ y) → ∀ i', i' ∈ j → i ≠ i' := fun i hi i' hj e => by
      have h1 := hl i (by rcases hi with hi | hi <;> simp [hi])
      have h2 := gl i' hj
      omega
    refine ⟨⟨b1, gn, fun i hi i' hj => far i (.inl hi) i' hj⟩, b4, fun i hi i' hj => ?_⟩
    rcases hi with hi | hi
    · exact b5 i (.inl hi) i' hj
    · exact fun e => far i' (.inr hj) i hi e.symm
  · rcases List.mem_append.1 hi' with hi' | hi'
    · rcases List.mem_append.1 hi' with hi' | hi'
      · have := hl id (by simp [hi']); omega
      · have := gl id hi'; omega
    · have := hl id (by simp [hi']); omega
theorem In.fr {S : Store} {lo hi : Nat} {ds : List D} {cs : List C} (h : In lo hi S ds cs) : Fr lo S ds cs := by
  obtain ⟨ids, h, h1, h2⟩ := h
  exact ⟨ids, h, h1, fun id hi => (h2 id hi).1⟩
theorem ev_CloneNode (l : List GNode) (c : C) (S : Store) (h : Rd S [.sl 5 (l.map GNode.d)] [c]) (hz : l.length ≤ 4194304) : EvA Tryz.prog 196 [.s c] S (fun r S' => Ext S S' ∧ ∃ c', r = .v (.s c') ∧ Fr S.length S' [.sl 5 (l.map GNode.d)] [c']) := by
  rcases rd_shape h with ⟨rfl, hx⟩ | ⟨rfl, hx⟩ | ⟨id, o, n, t, rfl⟩
  · refine evA_intro tok Tryz.func196 (by kernel_rfl) rfl ?_
    repeat' ((conv => whnf) <;> first
     | refine cT ?_ | refine And.intro ?_ ?_)
    all_goals first
      | rfl
      | exact Ext.refl _
      | assumption
      | exact ⟨_, rfl, by assumption⟩
      | (rw [hx]; exact ⟨_, rfl, fr_empty (.inl rfl)⟩)
  · refine evA_intro tok Tryz.func196 (by kernel_rfl) rfl ?_
    repeat' ((conv => whnf) <;> first
     | refine cF ?_ | (refine rd_elemsf (f := GNode.d) rdA tv (fun _ => ?_)) | (refine fr_clone (f := GNode.d) tv rf (by dsimp only [T139]; omega) om ?_; intro cX SX hEX hFX) | refine And.intro ?_ ?_)
    all_goals first
      | rfl
      | exact Ext.refl _
      | assumption
      | exact ⟨_, rfl, by assumption⟩
      | (rw [hx]; exact ⟨_, rfl, fr_empty (.inl rfl)⟩)
  · refine evA_intro tok Tryz.func196 (by kernel_rfl) rfl ?_
    repeat' ((conv => whnf) <;> first
     | refine cF ?_ | (refine rd_elemsf (f := GNode.d) rdA tv (fun _ => ?_)) | (refine fr_clone (f := GNode.d) tv rf (by dsimp only [T139]; omega) om ?_; intro cX SX hEX hFX) | refine And.intro ?_ ?_)
    all_goals first
      | rfl
      | exact Ext.refl _
      | assumption
      | exact ⟨_, rfl, by assumption⟩
      | (rw [hx]; exact ⟨_, rfl, fr_empty (.inl rfl)⟩)
theorem ev_l5Copy (l : List GNode) (c : C) (S : Store) (h : Rd S [.sl 5 (l.map GNode.d)] [c]) (hz : l.length ≤ 4194304) : EvA Tryz.prog 313 [.s c] S (fun r S' => Ext S S' ∧ ∃ c', r = .v (.s c') ∧ Fr S.length S' [.sl 5 (l.map GNode.d)] [c']) := by
  · refine evA_intro tok Tryz.func313 (by kernel_rfl) rfl ?_
    repeat' ((conv => whnf) <;> first
     | (refine rd_elemsf (f := GNode.d) rdA tv (fun _ => ?_)) | (refine fr_clone (f := GNode.d) tv rf (by dsimp only [T139]; omega) om ?_; intro cX SX hEX hFX) | refine And.intro ?_ ?_)
    all_goals first
      | rfl
      | exact Ext.refl _
      | assumption
      | exact ⟨_, rfl, by assumption⟩
      | (rw [hx]; exact ⟨_, rfl, fr_empty (.inl rfl)⟩)
theorem ev_l31Copy (x : GTab) (cs : List C) (S : Store) (h : Rd S x.d cs) (hz : szL x.d ≤ 4194304) : EvA Tryz.prog 248 [.agg cs] S (fun r S' => Ext S S' ∧ ∃ c2 c3 c4, r = .v (.agg [(.int .i64 x.Site.Owner), (.int .i64 x.Site.Sub), c2, c3, c4, (.int .i64 x.Click)]) ∧ Fr S.length S' x.d [(.int .i64 x.Site.Owner), (.int .i64 x.Site.Sub), c2, c3, c4, (.int .i64 x.Click)]) := by
  simp only [GTab.d, szL, List.length_map] at hz
  obtain ⟨_, _, _, rfl, _, _, _⟩ := GTab.inv h
  refine evA_intro tok Tryz.func248 (by kernel_rfl) rfl ?_
  repeat' ((conv => whnf) <;> first
   | refine draw_intro 3 [.fl 0, .fl 1, .fl 2, .fl 3, .fl 5, .fl 6, .fl 7, .fl 9, .fl 10, .fl 11, .fl 13, .fl 14, .st 4 [0, 1, 5, 6, 7, 9, 10, 11, 13, 14], .st 8 [0, 1, 9, 10, 11, 13, 14], .st 12 [0, 1, 13, 14], .fl 15, .st 16 []] (by rfl) (by kernel_rfl) ?_)
  (conv => whnf)
  refine callP_intro (ev_l5Copy _ _ _ rdA (by omega)) ?_; rintro _ S0 ⟨e0, d0, rfl, f0⟩
  have E0 : Ext S S0 := e0
  repeat' ((conv => whnf) <;> first
   | (refine rd_elemsf (f := GEdit.d) (l := x.Edits) rdA tv (fun _ => ?_)) | refine And.intro ?_ ?_)
  (conv => whnf)
  refine fr_clone (f := GEdit.d) (by intro _; exact trivial) (by intro _; rfl) (by dsimp only [T3, T87]; omega) (by omega) ?_; intro d1 S1 e1 f1
  have E1 : Ext S S1 := E0.trans e1
  repeat' ((conv => whnf) <;> first
   | (refine rd_elemsf (f := dInt) (l := x.Hidden) rdA tv (fun _ => ?_)) | refine And.intro ?_ ?_)
  (conv => whnf)
  refine fr_clone (f := dInt) (by intro _; exact trivial) (by intro _; rfl) (by dsimp only [T3, T87]; omega) (by omega) ?_; intro d2 S2 e2 f2
  have E2 : Ext S S2 := E1.trans e2
  repeat' ((conv => whnf) <;> first
   | refine And.intro ?_ ?_)
  · exact E2
  · exact ⟨_, _, _, rfl, fr_x (fr_x (fr_sl (fr_seg f0 (Ext.trans e1 (e2))) (fr_sl (fr_seg f1 (e2)) (fr_sl (fr_seg f2 (Ext.refl _)) (fr_x (fr_nil)) (e2).len) (e1).len) (e0).len))⟩
def tabWithout (t : GTab) (by' : Int) : GTab := { t with Edits := t.Edits.filter (edNot by') }
theorem ev_sTabWithout (x : GTab) (by' : Int) (cs : List C) (S : Store) (h : Rd S x.d cs) (hz : szL x.d ≤ 1048576) : EvA Tryz.prog 334 [.agg cs, .s (.int .i64 by')] S (fun r S' => Ext S S' ∧ ∃ c2 c3 c4, r = .v (.agg [(.int .i64 x.Site.Owner), (.int .i64 x.Site.Sub), c2, c3, c4, (.int .i64 x.Click)]) ∧ Fr S.length S' (tabWithout x by').d [(.int .i64 x.Site.Owner), (.int .i64 x.Site.Sub), c2, c3, c4, (.int .i64 x.Click)]) := by
  have hzs := hz
  simp only [GTab.d, szL, List.length_map] at hzs
  obtain ⟨_, _, _, rfl, _, _, _⟩ := GTab.inv h
  refine evA_intro tok Tryz.func334 (by kernel_rfl) rfl ?_
  skip
  (conv => whnf)
  refine callP_intro (ev_l31Copy _ _ _ rdcA (by omega)) ?_; rintro _ S0 ⟨e0, c0, c1, c2, rfl, f0⟩
  skip
  (conv => whnf)
  refine callP_intro (ev_sWithoutBy x.Edits by' _ _ rdA (by omega)) ?_; rintro _ S1 ⟨e1, d1, rfl, f1⟩
  repeat' ((conv => whnf) <;> first
   | refine And.intro ?_ ?_)
  · exact e0.trans e1
  · exact ⟨_, _, _, rfl, (In.set (off := 3) (f0.inn.ext e1) rfl f1.inn e0.len (Nat.le_refl _) e1.len).fr⟩
end Go.Proofs.YtlmmdpmmdmhacaaGreat
