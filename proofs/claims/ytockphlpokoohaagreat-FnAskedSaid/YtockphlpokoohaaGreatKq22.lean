/- Small predicates. Documents. Marking: every plain cell of every element of a value's slices is overwritten, in order; rows other than the value's stay. -/
import Derived.Test.YtockphlpokoohaaGreatKq21
namespace Go.Proofs.YtockphlpokoohaaGreat
open Go Go.ChangeShapes Go.WideShapes Go.ChangeAt Go.RowKit
set_option linter.unusedVariables false
set_option linter.unusedSimpArgs false
set_option maxRecDepth 100000
theorem ev_l1In (x lo hi : Int) (S : Store) : EvA Tryz.prog 283 [.s (.int .i64 x), .s (.int .i64 lo), .s (.int .i64 hi)] S (fun r S' => r = .v (.s (.bool (inR x lo hi))) ∧ S' = S) := by
  refine evA_intro tok Tryz.func283 (by kernel_rfl) rfl ?_
  repeat' ((conv => whnf) <;> first
   | refine cD (fun _ => ?_) fun _ => ?_ | refine cE (fun _ => ?_) fun _ => ?_ | refine cT ?_ | refine cF ?_ | refine cN (fun _ => ?_) fun _ => ?_ | refine cI (fun _ => ?_) fun _ => ?_ | refine nP ?_ | refine And.intro ?_ ?_)
  all_goals first | rfl | (simp_all [resAV, inR]; done) | (simp_all [resAV, inR]; omega)
theorem ev_InRange (x lo hi : Int) (S : Store) : EvA Tryz.prog 104 [.s (.int .i64 x), .s (.int .i64 lo), .s (.int .i64 hi)] S (fun r S' => r = .v (.s (.bool (inR x lo hi))) ∧ S' = S) := by
  refine evA_intro tok Tryz.func104 (by kernel_rfl) rfl ?_
  repeat' ((conv => whnf) <;> first
   | refine cD (fun _ => ?_) fun _ => ?_ | refine cE (fun _ => ?_) fun _ => ?_ | refine cT ?_ | refine cF ?_ | refine cN (fun _ => ?_) fun _ => ?_ | refine cI (fun _ => ?_) fun _ => ?_ | refine nP ?_ | refine And.intro ?_ ?_)
  all_goals first | rfl | (simp_all [resAV, inR]; done) | (simp_all [resAV, inR]; omega)
def isSite (s : GSite) : Bool := inR s.Owner 1 9 && inR s.Sub 0 9
theorem ev_sIsSite (s : GSite) (S : Store) : EvA Tryz.prog 377 [.agg s.c] S (fun r S' => r = .v (.s (.bool (isSite s))) ∧ S' = S) := by
  refine evA_intro tok Tryz.func377 (by kernel_rfl) rfl ?_
  repeat' ((conv => whnf) <;> first
   | refine cD (fun _ => ?_) fun _ => ?_ | refine cE (fun _ => ?_) fun _ => ?_ | refine cT ?_ | refine cF ?_ | refine condP_inR (fun _ _ => ?_) (fun _ _ => ?_) | refine condP_ninR (fun _ _ => ?_) (fun _ _ => ?_) | refine cN (fun _ => ?_) fun _ => ?_ | refine cI (fun _ => ?_) fun _ => ?_ | refine callP_eq (ev_l1In _ _ _ _) ?_ | refine nP ?_ | refine And.intro ?_ ?_)
  all_goals first | rfl | (simp_all [resAV, isSite]; done)
theorem ev_iIsSite (s : GSite) (S : Store) : EvA Tryz.prog 174 [.agg s.c] S (fun r S' => r = .v (.s (.bool (isSite s))) ∧ S' = S) := by
  refine evA_intro tok Tryz.func174 (by kernel_rfl) rfl ?_
  repeat' ((conv => whnf) <;> first
   | refine cD (fun _ => ?_) fun _ => ?_ | refine cE (fun _ => ?_) fun _ => ?_ | refine cT ?_ | refine cF ?_ | refine condP_inR (fun _ _ => ?_) (fun _ _ => ?_) | refine condP_ninR (fun _ _ => ?_) (fun _ _ => ?_) | refine cN (fun _ => ?_) fun _ => ?_ | refine cI (fun _ => ?_) fun _ => ?_ | refine callP_eq (ev_InRange _ _ _ _) ?_ | refine nP ?_ | refine And.intro ?_ ?_)
  all_goals first | rfl | (simp_all [resAV, isSite]; done)
def isEdit (e : GEdit) : Bool := inR e.Kind 1 4 && inR e.Node 1 99 && inR e.Parent 0 99 && inR e.Tag 0 9 && inR e.Text 0 999 && inR e.By 0 5
theorem ev_sIsEdit (e : GEdit) (S : Store) : EvA Tryz.prog 338 [.agg e.c] S (fun r S' => r = .v (.s (.bool (isEdit e))) ∧ S' = S) := by
  refine evA_intro tok Tryz.func338 (by kernel_rfl) rfl ?_
  repeat' ((conv => whnf) <;> first
   | refine cD (fun _ => ?_) fun _ => ?_ | refine cE (fun _ => ?_) fun _ => ?_ | refine cT ?_ | refine cF ?_ | refine condP_inR (fun _ _ => ?_) (fun _ _ => ?_) | refine condP_ninR (fun _ _ => ?_) (fun _ _ => ?_) | refine cN (fun _ => ?_) fun _ => ?_ | refine cI (fun _ => ?_) fun _ => ?_ | refine callP_eq (ev_l1In _ _ _ _) ?_ | refine nP ?_ | refine And.intro ?_ ?_)
  all_goals first | rfl | (simp_all [resAV, isEdit]; done)
end Go.Proofs.YtockphlpokoohaaGreat
namespace Go.Proofs.YtockphlpokoohaaGreat
open Go Go.ChangeShapes Go.WideShapes Go.ChangeAt Go.RowKit
set_option linter.unusedVariables false
set_option linter.unusedSimpArgs false
set_option maxRecDepth 100000
def nodeOfGo (id : Int) : List GNode → Nat → Int
  | [], _ => -1
  | x :: r, i => if x.Id = id then i else nodeOfGo id r (i + 1)
def nodeOf (d : List GNode) (id : Int) : Int := nodeOfGo id d 0
theorem ev_sNodeOf (d : List GNode) (id : Int) (c : C) (S : Store) (h : Rd S [.sl 5 (d.map GNode.d)] [c]) : EvA Tryz.prog 339 [.s c, .s (.int .i64 id)] S (fun r S' => r = .v (.s (.int .i64 (nodeOf d id))) ∧ S' = S) := by
  refine evA_intro tok Tryz.func339 (by kernel_rfl) rfl ?_
  skip
  refine loop_intro {i : Nat // i ≤ d.length ∧ nodeOfGo id (d.drop i) i = nodeOf d id} [4, 5, 6, 7, 8, 9, 10, 11, 12, 13, 14, 15, 16, 17, 18, 19] (fun zb => [(5, .v (.s (.int .i64 zb.1)))]) (fun _ => S) (fun zb => d.length - zb.1) ⟨0, Nat.zero_le _, rfl⟩ ?_ rfl ?_
  · (conv => whnf); repeat' (first | exact trivial | exact rfl | apply And.intro)
  rintro ⟨i, hi, hinv⟩; dsimp only
  repeat' ((conv => whnf) <;> first
   | rw [wrapI_i64 (by omega)] | refine cD (fun _ => ?_) fun _ => ?_ | refine rE fun hml => ?_ | refine rI aN rf ix ?_ | refine rd_loadf aN tv ix ?_ | refine And.intro ?_ ?_)
  all_goals first
    | rfl
    | (rw [drop_at (by omega), nodeOfGo] at hinv; simp_all [resAV]; done)
    | (rw [drop_end (by omega), nodeOfGo] at hinv; simp_all [resAV]; done)
    | (refine ⟨⟨i + 1, by omega, by rw [drop_at (by omega), nodeOfGo] at hinv; simp_all⟩, ?_, rfl, by simp; omega⟩; (conv => whnf); repeat' (first | exact trivial | exact rfl | apply And.intro))
def okNode (d : List GNode) (x : GNode) (i : Nat) : Bool := inR x.Tag 0 9 && inR x.Text 0 999 && inR x.By 0 5 &&
  (if i = 0 then decide (x.Id = 0) && decide (x.Parent = -1) else decide ((d.getD (i - 1) default).Id < x.Id) && decide (0 ≤ nodeOf (d.take i) x.Parent))
def docGo (d : List GNode) : List GNode → Nat → Bool
  | [], _ => true
  | x :: r, i => if okNode d x i then docGo d r (i + 1) else false
def isDoc (d : List GNode) : Bool := decide (1 ≤ d.length) && decide (d.length ≤ 16) && docGo d d 0
theorem pred_toNat {i : Nat} (h : 0 < i) : ((i : Int) - 1).toNat = i - 1 := by omega
theorem okNode_zero (d : List GNode) (x : GNode) : okNode d x 0 = (inR x.Tag 0 9 && inR x.Text 0 999 && inR x.By 0 5 && (decide (x.Id = 0) && decide (x.Parent = -1))) := rfl
theorem okNode_pos {d : List GNode} {x : GNode} {i : Nat} (h0 : 0 < i) (hl : i ≤ d.length) : okNode d x i = (inR x.Tag 0 9 && inR x.Text 0 999 && inR x.By 0 5 && (decide ((d[i - 1]'(by omega)).Id < x.Id) && decide (0 ≤ nodeOf (d.take i) x.Parent))) := by
  unfold okNode
  rw [if_neg (by omega)]
  congr 3
  rw [List.getD_eq_getElem?_getD, List.getElem?_eq_getElem (by omega)]; rfl
theorem getD_at {α : Type} {l : List α} {i : Nat} {d : α} (h : i < l.length) : l.getD i d = l[i] := by simp [h]
theorem ev_sIsDocument (d : List GNode) (c : C) (S : Store) (h : Rd S [.sl 5 (d.map GNode.d)] [c]) : EvA Tryz.prog 378 [.s c] S (fun r S' => r = .v (.s (.bool (isDoc d))) ∧ S' = S) := by
  refine evA_intro tok Tryz.func378 (by kernel_rfl) rfl ?_
  repeat' ((conv => whnf) <;> first
   | refine cE (fun _ => ?_) fun _ => ?_ | refine cT ?_ | refine condP_ninR (fun _ _ => ?_) (fun _ _ => ?_) | refine callP_eq (ev_l1In _ _ _ _) ?_ | refine rE fun hml => ?_ | refine rI aN rf ix ?_ | refine rd_loadf aN tv ix ?_ | refine And.intro ?_ ?_)
  all_goals try first
    | rfl
    | (have e : isDoc d = false := by
         cases hd : d with
         | nil => rfl
         | cons y l =>
           subst hd
           unfold isDoc
           rw [docGo, Bool.and_eq_false_iff]
           first
             | (left; simp only [Bool.and_eq_false_iff, decide_eq_false_iff_not]; omega)
             | (right; rw [okNode_zero]; simp_all; done)
       rw [e]; rfl)
  refine loop_intro {i : Nat // i ≤ d.length ∧ docGo d (d.drop i) i = docGo d d 0} [2, 3, 22, 23, 24, 25, 26, 27, 28, 29, 30, 31, 32, 33, 34, 35, 36, 37, 38, 39, 40, 41, 42, 43, 44, 45, 46, 47, 48, 49, 50, 51, 52, 53, 54, 55, 56, 57, 58, 59, 60, 61, 62, 63, 64, 65, 66, 67, 68, 69, 70, 71, 72, 73, 74, 75, 76, 77, 78, 79, 80] (fun zb => [(3, .v (.s (.int .i64 zb.1)))]) (fun _ => S) (fun zb => d.length - zb.1) ⟨0, Nat.zero_le _, rfl⟩ ?_ rfl ?_
  · (conv => whnf); repeat' (first | exact trivial | exact rfl | apply And.intro)
  rintro ⟨i, hi, hinv⟩; dsimp only
  repeat' ((conv => whnf) <;> first
   | rw [wrapI_i64 (by omega)] | refine cD (fun _ => ?_) fun _ => ?_ | refine cT ?_ | refine cF ?_ | refine condP_ninR (fun _ _ => ?_) (fun _ _ => ?_) | refine callP_eq (ev_l1In _ _ _ _) ?_ | refine callP_eq (ev_sNodeOf _ _ _ _ aN) ?_ | refine rE fun hml => ?_ | refine rI aN rf ix ?_ | refine rd_loadf aN tv ix ?_ | (refine rd_slif aN rf om ?_; intro cSl hSl) | refine draw_intro 28 [.fl 0, .fl 1, .fl 2, .fl 3, .fl 4, .fl 5, .fl 6, .fl 7, .fl 8, .fl 9, .fl 10, .fl 11, .fl 12, .fl 13, .fl 14, .fl 15, .fl 16, .fl 17, .fl 18, .fl 19, .fl 20, .fl 21, .fl 22, .fl 23, .st 24 [], .fl 25, .fl 26, .fl 27] (by rfl) (by kernel_rfl) ?_ | refine And.intro ?_ ?_)
  all_goals first
    | rfl
    | (rw [drop_end (by omega), docGo] at hinv
       rw [show isDoc d = true from by unfold isDoc; rw [← hinv]; simp; omega]; rfl)
    | (rw [show isDoc d = false from by
         rw [drop_at (by omega), docGo] at hinv
         have e : okNode d d[i] i = false := by
           clear hinv
           first
             | (have h0 : i = 0 := by omega
                subst h0; rw [okNode_zero]; simp_all; done)
             | (have h0 : 0 < i := by omega
                rw [okNode_pos h0 (by omega)]
                first | (simp_all [pred_toNat h0]; done) | (simp_all [pred_toNat h0]; intros; omega))
             | (simp_all [okNode]; done)
         rw [e] at hinv
         unfold isDoc; rw [← hinv]; simp]
       rfl)
    | (have e : okNode d (d[i]'(by omega)) i = true := by
         clear hinv
         first
           | (have h0 : i = 0 := by omega
              subst h0; rw [okNode_zero]; simp_all; done)
           | (have h0 : 0 < i := by omega
              rw [okNode_pos h0 (by omega)]
              first | (simp_all [pred_toNat h0]; done) | (simp_all [pred_toNat h0]; intros; omega))
           | (simp_all [okNode]; done)
       (refine ⟨⟨i + 1, by omega, by rw [drop_at (by omega), docGo, if_pos e] at hinv; exact hinv⟩, ?_, rfl, by simp; omega⟩; (conv => whnf); repeat' (first | exact trivial | exact rfl | apply And.intro)))
end Go.Proofs.YtockphlpokoohaaGreat
namespace Go.Proofs.YtockphlpokoohaaGreat
open Go
set_option linter.unusedVariables false
set_option linter.unusedSimpArgs false
def Mk (ids : List Nat) (S S' : Store) : Prop := S'.length = S.length ∧ ∀ id, id ∉ ids → S'[id]? = S[id]?
theorem Mk.refl (ids : List Nat) (S : Store) : Mk ids S S := ⟨rfl, fun _ _ => rfl⟩
theorem Mk.trans {ids : List Nat} {S1 S2 S3 : Store} (h : Mk ids S1 S2) (g : Mk ids S2 S3) : Mk ids S1 S3 := ⟨g.1.trans h.1, fun id hi => (g.2 id hi).trans (h.2 id hi)⟩
theorem Mk.mono {i j : List Nat} {S S' : Store} (h : Mk i S S') (hs : ∀ id ∈ i, id ∈ j) : Mk j S S' := ⟨h.1, fun id hi => h.2 id fun g => hi (hs id g)⟩
mutual
def cntD : D → Nat
  | .x _ => 1
  | .sl _ xs => cntE xs
def cntL : List D → Nat
  | [] => 0
  | d :: ds => cntD d + cntL ds
def cntE : List (List D) → Nat
  | [] => 0
  | x :: xs => cntL x + cntE xs
end
def cntT : List D → Nat
  | [] => 0
  | .x c :: ds => cntT ds
  | .sl n xs :: ds => cntE xs + cntT ds
section
variable {q : Bool} {S S' S0 : Store}
theorem RepL.setAt : ∀ {e : List D} {cs : List C} {ids : List Nat}, RepL q S e cs ids → ∀ (off : Nat) d, e[off]? = some d → ∃ c' a m b, cs[off]? = some c' ∧ ids = a ++ m ++ b ∧ Rep q S d c' m ∧
    ∀ {S' : Store} {d' : D} {c'' : C} {m' : List Nat}, (∀ id ∈ a ++ b, S'[id]? = S[id]?) → Rep q S' d' c'' m' → RepL q S' (e.set off d') (cs.set off c'') (a ++ m' ++ b)
  | [], cs, ids, h, off, d, hx => by simp at hx
  | y :: e, cs, ids, h, off, d, hx => by
    rw [repL_cons] at h
    obtain ⟨c, cs', i, j, h1, h2, h3, h4⟩ := h
    subst h1; subst h2
    cases off with
    | zero =>
      simp at hx; subst hx
      refine ⟨c, [], i, j, rfl, by simp, h3, fun {S' d' c'' m'} hf hr => ?_⟩
      rw [List.set_cons_zero, List.set_cons_zero, repL_cons]
      exact ⟨c'', cs', m', j, rfl, by simp, hr, h4.frame (fun id hi => hf id (by simp [hi]))⟩
    | succ off =>
      obtain ⟨c1, a, m, b, k1, k2, k3, k4⟩ := h4.setAt off d (by simpa using hx)
      refine ⟨c1, i ++ a, m, b, by simpa using k1, by rw [k2]; simp, k3, fun {S' d' c'' m'} hf hr => ?_⟩
      rw [List.set_cons_succ, List.set_cons_succ, repL_cons]
      exact ⟨c, cs'.set off c'', i, a ++ m' ++ b, rfl, by simp, h3.frame (fun id hi => hf id (by simp [hi])), k4 (fun id hi => hf id (by
        rcases List.mem_append.1 hi with hi | hi <;> simp [hi])) hr⟩
end
section
variable {S S' S0 : Store}
def In (lo hi : Nat) (S : Store) (ds : List D) (cs : List C) : Prop := ∃ ids, RepL true S ds cs ids ∧ ids.Nodup ∧ ∀ id ∈ ids, lo ≤ id ∧ id < hi
def Out (lo hi : Nat) (S S' : Store) : Prop := S'.length = S.length ∧ ∀ id, (id < lo ∨ hi ≤ id) → S'[id]? = S[id]?
theorem In.ext {lo hi : Nat} {ds : List D} {cs : List C} (h : In lo hi S ds cs) (e : Ext S S') : In lo hi S' ds cs := by
  obtain ⟨ids, h, h1, h2⟩ := h
  exact ⟨ids, h.frame fun id hi => e.at (h.lt id hi), h1, h2⟩
theorem In.rd {lo hi : Nat} {ds : List D} {cs : List C} (h : In lo hi S ds cs) : Rd S ds cs := by obtain ⟨ids, h, _⟩ := h; exact .of h
theorem In.out {lo hi a b : Nat} {ds : List D} {cs : List C} (h : In a b S ds cs) (o : Out lo hi S S') (hd : b ≤ lo ∨ hi ≤ a) : In a b S' ds cs := by
  obtain ⟨ids, h, h1, h2⟩ := h
  exact ⟨ids, h.frame fun id hi => o.2 id (by have := h2 id hi; omega), h1, h2⟩
theorem Rd.out {lo hi : Nat} {ds : List D} {cs : List C} {S1 : Store} (h : Rd S1 ds cs) (e : Ext S1 S) (o : Out lo hi S S') (hl : S1.length ≤ lo) : Rd S' ds cs := by
  obtain ⟨ids, h⟩ := h
  exact ⟨ids, h.frame fun id hi => by have := h.lt id hi; rw [o.2 id (by omega), e.at this]⟩
def Be (hi : Nat) (S : Store) (ds : List D) (cs : List C) : Prop := ∃ ids, RepL false S ds cs ids ∧ ∀ id ∈ ids, id < hi
theorem Be.rd {hi : Nat} {ds : List D} {cs : List C} (h : Be hi S ds cs) : Rd S ds cs := by obtain ⟨ids, h, _⟩ := h; exact ⟨ids, h⟩
theorem Be.ext {hi : Nat} {ds : List D} {cs : List C} (h : Be hi S ds cs) (e : Ext S S') : Be hi S' ds cs := by
  obtain ⟨ids, h, h2⟩ := h
  exact ⟨ids, h.frame fun id hi => e.at (h.lt id hi), h2⟩
theorem Be.out {lo hi b : Nat} {ds : List D} {cs : List C} (h : Be b S ds cs) (o : Out lo hi S S') (hd : b ≤ lo) : Be b S' ds cs := by
  obtain ⟨ids, h, h2⟩ := h
  exact ⟨ids, h.frame fun id hi => o.2 id (by have := h2 id hi; omega), h2⟩
theorem Out.len {lo hi : Nat} (o : Out lo hi S S') : S'.length = S.length := o.1
theorem Mk.out {lo hi : Nat} {ids : List Nat} (h : Mk ids S S') (hb : ∀ id ∈ ids, lo ≤ id ∧ id < hi) : Out lo hi S S' := ⟨h.1, fun id hi' => h.2 id fun g => by have := hb id g; omega⟩
theorem In.one {lo hi : Nat} {d : D} {c : C} (h : In lo hi S [d] [c]) : ∃ ids, Rep true S d c ids ∧ ids.Nodup ∧ ∀ id ∈ ids, lo ≤ id ∧ id < hi := by
  obtain ⟨ids, h, h1, h2⟩ := h
  rw [repL_cons] at h
  obtain ⟨c1, cs', i, j, g1, g2, g3, g4⟩ := h
  rw [repL_nil] at g4
  simp only [List.cons.injEq] at g1
  obtain ⟨g1, _⟩ := g1
  obtain ⟨_, g5⟩ := g4
  subst g1; subst g5
  rw [List.append_nil] at g2
  subst g2
  exact ⟨_, g3, h1, h2⟩
end
theorem GNode.cT (x : GNode) : cntT x.d = 0 := by
  simp only [GNode.d, Go.Proofs.YtockphlpokoohaaGreat.cntT]
def GNode.m (k : Int) : GNode := ⟨k, k + 1, k + 1 + 1, k + 1 + 1 + 1, k + 1 + 1 + 1 + 1⟩
theorem GEdit.cT (x : GEdit) : cntT x.d = 0 := by
  simp only [GEdit.d, Go.Proofs.YtockphlpokoohaaGreat.cntT]
def GEdit.m (k : Int) : GEdit := ⟨k, k + 1, k + 1 + 1, k + 1 + 1 + 1, k + 1 + 1 + 1 + 1, k + 1 + 1 + 1 + 1 + 1⟩
theorem GSite.cT (x : GSite) : cntT x.d = 0 := by
  simp only [GSite.d, Go.Proofs.YtockphlpokoohaaGreat.cntT]
def GSite.m (k : Int) : GSite := ⟨k, k + 1⟩
theorem GPattern.cT (x : GPattern) : cntT x.d = 0 := by
  simp only [GPattern.d, Go.Proofs.YtockphlpokoohaaGreat.cntT]
def GPattern.m (k : Int) : GPattern := ⟨k, k + 1⟩
theorem GGrant.cT (x : GGrant) : cntT x.d = 0 := by
  simp only [GGrant.d, Go.Proofs.YtockphlpokoohaaGreat.cntT]
def GGrant.m (k : Int) : GGrant := ⟨k, ⟨k + 1, k + 1 + 1⟩, k + 1 + 1 + 1, k + 1 + 1 + 1 + 1, k + 1 + 1 + 1 + 1 + 1, decide (Int.tmod (k + 1 + 1 + 1 + 1 + 1 + 1) 3 = 0)⟩
theorem GLimit.cT (x : GLimit) : cntT x.d = 0 := by
  simp only [GLimit.d, Go.Proofs.YtockphlpokoohaaGreat.cntT]
def GLimit.m (k : Int) : GLimit := ⟨k, ⟨k + 1, k + 1 + 1⟩, k + 1 + 1 + 1⟩
theorem GRule.cT (x : GRule) : cntT x.d = 0 := by
  simp only [GRule.d, Go.Proofs.YtockphlpokoohaaGreat.cntT]
def GRule.m (k : Int) : GRule := ⟨k, k + 1, ⟨k + 1 + 1, k + 1 + 1 + 1⟩, k + 1 + 1 + 1 + 1, k + 1 + 1 + 1 + 1 + 1, ⟨k + 1 + 1 + 1 + 1 + 1 + 1, k + 1 + 1 + 1 + 1 + 1 + 1 + 1⟩⟩
theorem GRequest.cT (x : GRequest) : cntT x.d = 0 := by
  simp only [GRequest.d, Go.Proofs.YtockphlpokoohaaGreat.cntT]
def GRequest.m (k : Int) : GRequest := ⟨⟨k, k + 1⟩, k + 1 + 1⟩
theorem GOutcome.cT (x : GOutcome) : cntT x.d = cntE (x.Path.map GSite.d) := by
  simp only [GOutcome.d, Go.Proofs.YtockphlpokoohaaGreat.cntT]; try omega
theorem GFlow.cT (x : GFlow) : cntT x.d = 0 := by
  simp only [GFlow.d, Go.Proofs.YtockphlpokoohaaGreat.cntT]
def GFlow.m (k : Int) : GFlow := ⟨k, k + 1, k + 1 + 1⟩
theorem GOp.cT (x : GOp) : cntT x.d = 0 := by
  simp only [GOp.d, Go.Proofs.YtockphlpokoohaaGreat.cntT]
def GOp.m (k : Int) : GOp := ⟨k, k + 1, k + 1 + 1, k + 1 + 1 + 1⟩
theorem GSent.cT (x : GSent) : cntT x.d = 0 := by
  simp only [GSent.d, Go.Proofs.YtockphlpokoohaaGreat.cntT]
def GSent.m (k : Int) : GSent := ⟨k, k + 1, k + 1 + 1⟩
theorem GLetter.cT (x : GLetter) : cntT x.d = 0 := by
  simp only [GLetter.d, Go.Proofs.YtockphlpokoohaaGreat.cntT]
def GLetter.m (k : Int) : GLetter := ⟨k, k + 1, k + 1 + 1, k + 1 + 1 + 1⟩
theorem GStored.cT (x : GStored) : cntT x.d = 0 := by
  simp only [GStored.d, Go.Proofs.YtockphlpokoohaaGreat.cntT]
def GStored.m (k : Int) : GStored := ⟨k, k + 1, k + 1 + 1, k + 1 + 1 + 1⟩
theorem GWindow.cT (x : GWindow) : cntT x.d = cntE (x.Base.map GStored.d) + cntE (x.Own.map GStored.d) := by
  simp only [GWindow.d, Go.Proofs.YtockphlpokoohaaGreat.cntT]; try omega
theorem GPackage.cT (x : GPackage) : cntT x.d = cntE (x.Grants.map GGrant.d) + cntE (x.Flows.map GFlow.d) + cntE (x.Rules.map GRule.d) + cntE (x.Ops.map GOp.d) := by
  simp only [GPackage.d, Go.Proofs.YtockphlpokoohaaGreat.cntT]; try omega
theorem GDeed.cT (x : GDeed) : cntT x.d = 0 := by
  simp only [GDeed.d, Go.Proofs.YtockphlpokoohaaGreat.cntT]
def GDeed.m (k : Int) : GDeed := ⟨k, k + 1, k + 1 + 1, k + 1 + 1 + 1, k + 1 + 1 + 1 + 1⟩
theorem GSnapshot.cT (x : GSnapshot) : cntT x.d = cntE (x.Package.Grants.map GGrant.d) + cntE (x.Package.Flows.map GFlow.d) + cntE (x.Package.Rules.map GRule.d) + cntE (x.Package.Ops.map GOp.d) + cntE (x.Entries.map GStored.d) := by
  simp only [GSnapshot.d, Go.Proofs.YtockphlpokoohaaGreat.cntT]; try omega
theorem GTab.cT (x : GTab) : cntT x.d = cntE (x.Base.map GNode.d) + cntE (x.Edits.map GEdit.d) + cntE (x.Hidden.map dInt) := by
  simp only [GTab.d, Go.Proofs.YtockphlpokoohaaGreat.cntT]; try omega
theorem GBrowser.cT (x : GBrowser) : cntT x.d = cntE (x.Tabs.map GTab.d) + cntE (x.Packs.map GPackage.d) + cntE (x.Grants.map GGrant.d) + cntE (x.Limits.map GLimit.d) + cntE (x.Rules.map GRule.d) + cntE (x.Store.map GStored.d) := by
  simp only [GBrowser.d, Go.Proofs.YtockphlpokoohaaGreat.cntT]; try omega
theorem GEvent.cT (x : GEvent) : cntT x.d = cntE (x.Package.Grants.map GGrant.d) + cntE (x.Package.Flows.map GFlow.d) + cntE (x.Package.Rules.map GRule.d) + cntE (x.Package.Ops.map GOp.d) := by
  simp only [GEvent.d, Go.Proofs.YtockphlpokoohaaGreat.cntT]; try omega
end Go.Proofs.YtockphlpokoohaaGreat
