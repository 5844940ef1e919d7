/- Small predicates. Documents. -/
import Derived.Test.YtlmmdpmmdmhacaaGreatKm19
namespace Go.Proofs.YtlmmdpmmdmhacaaGreat
open Go Go.ChangeShapes Go.WideShapes Go.ChangeAt Go.RowKit
set_option linter.unusedVariables false
set_option linter.unusedSimpArgs false
set_option maxRecDepth 100000
theorem ev_l1In (x lo hi : Int) (S : Store) : EvA Tryz.prog 229 [.s (.int .i64 x), .s (.int .i64 lo), .s (.int .i64 hi)] S (fun r S' => r = .v (.s (.bool (inR x lo hi))) ∧ S' = S) := by
  refine evA_intro tok Tryz.func229 (by kernel_rfl) rfl ?_
  repeat' ((conv => whnf) <;> first
   | refine cD (fun _ => ?_) fun _ => ?_ | refine cE (fun _ => ?_) fun _ => ?_ | refine cT ?_ | refine cF ?_ | refine cN (fun _ => ?_) fun _ => ?_ | refine cI (fun _ => ?_) fun _ => ?_ | refine nP ?_ | refine And.intro ?_ ?_)
  all_goals first | rfl | (simp_all [resAV, inR]; done) | (simp_all [resAV, inR]; omega)
theorem ev_InRange (x lo hi : Int) (S : Store) : EvA Tryz.prog 63 [.s (.int .i64 x), .s (.int .i64 lo), .s (.int .i64 hi)] S (fun r S' => r = .v (.s (.bool (inR x lo hi))) ∧ S' = S) := by
  refine evA_intro tok Tryz.func63 (by kernel_rfl) rfl ?_
  repeat' ((conv => whnf) <;> first
   | refine cD (fun _ => ?_) fun _ => ?_ | refine cE (fun _ => ?_) fun _ => ?_ | refine cT ?_ | refine cF ?_ | refine cN (fun _ => ?_) fun _ => ?_ | refine cI (fun _ => ?_) fun _ => ?_ | refine nP ?_ | refine And.intro ?_ ?_)
  all_goals first | rfl | (simp_all [resAV, inR]; done) | (simp_all [resAV, inR]; omega)
def isSite (s : GSite) : Bool := inR s.Owner 1 9 && inR s.Sub 0 9
theorem ev_sIsSite (s : GSite) (S : Store) : EvA Tryz.prog 336 [.agg s.c] S (fun r S' => r = .v (.s (.bool (isSite s))) ∧ S' = S) := by
  refine evA_intro tok Tryz.func336 (by kernel_rfl) rfl ?_
  repeat' ((conv => whnf) <;> first
   | refine cD (fun _ => ?_) fun _ => ?_ | refine cE (fun _ => ?_) fun _ => ?_ | refine cT ?_ | refine cF ?_ | refine condP_inR (fun _ _ => ?_) (fun _ _ => ?_) | refine condP_ninR (fun _ _ => ?_) (fun _ _ => ?_) | refine cN (fun _ => ?_) fun _ => ?_ | refine cI (fun _ => ?_) fun _ => ?_ | refine callP_eq (ev_l1In _ _ _ _) ?_ | refine nP ?_ | refine And.intro ?_ ?_)
  all_goals first | rfl | (simp_all [resAV, isSite]; done)
theorem ev_iIsSite (s : GSite) (S : Store) : EvA Tryz.prog 103 [.agg s.c] S (fun r S' => r = .v (.s (.bool (isSite s))) ∧ S' = S) := by
  refine evA_intro tok Tryz.func103 (by kernel_rfl) rfl ?_
  repeat' ((conv => whnf) <;> first
   | refine cD (fun _ => ?_) fun _ => ?_ | refine cE (fun _ => ?_) fun _ => ?_ | refine cT ?_ | refine cF ?_ | refine condP_inR (fun _ _ => ?_) (fun _ _ => ?_) | refine condP_ninR (fun _ _ => ?_) (fun _ _ => ?_) | refine cN (fun _ => ?_) fun _ => ?_ | refine cI (fun _ => ?_) fun _ => ?_ | refine callP_eq (ev_InRange _ _ _ _) ?_ | refine nP ?_ | refine And.intro ?_ ?_)
  all_goals first | rfl | (simp_all [resAV, isSite]; done)
def isEdit (e : GEdit) : Bool := inR e.Kind 1 4 && inR e.Node 1 99 && inR e.Parent 0 99 && inR e.Tag 0 9 && inR e.Text 0 999 && inR e.By 0 5
theorem ev_sIsEdit (e : GEdit) (S : Store) : EvA Tryz.prog 298 [.agg e.c] S (fun r S' => r = .v (.s (.bool (isEdit e))) ∧ S' = S) := by
  refine evA_intro tok Tryz.func298 (by kernel_rfl) rfl ?_
  repeat' ((conv => whnf) <;> first
   | refine cD (fun _ => ?_) fun _ => ?_ | refine cE (fun _ => ?_) fun _ => ?_ | refine cT ?_ | refine cF ?_ | refine condP_inR (fun _ _ => ?_) (fun _ _ => ?_) | refine condP_ninR (fun _ _ => ?_) (fun _ _ => ?_) | refine cN (fun _ => ?_) fun _ => ?_ | refine cI (fun _ => ?_) fun _ => ?_ | refine callP_eq (ev_l1In _ _ _ _) ?_ | refine nP ?_ | refine And.intro ?_ ?_)
  all_goals first | rfl | (simp_all [resAV, isEdit]; done)
theorem ev_iIsEdit (e : GEdit) (S : Store) : EvA Tryz.prog 139 [.agg e.c] S (fun r S' => r = .v (.s (.bool (isEdit e))) ∧ S' = S) := by
  refine evA_intro tok Tryz.func139 (by kernel_rfl) rfl ?_
  repeat' ((conv => whnf) <;> first
   | refine cD (fun _ => ?_) fun _ => ?_ | refine cE (fun _ => ?_) fun _ => ?_ | refine cT ?_ | refine cF ?_ | refine condP_inR (fun _ _ => ?_) (fun _ _ => ?_) | refine condP_ninR (fun _ _ => ?_) (fun _ _ => ?_) | refine cN (fun _ => ?_) fun _ => ?_ | refine cI (fun _ => ?_) fun _ => ?_ | refine callP_eq (ev_InRange _ _ _ _) ?_ | refine nP ?_ | refine And.intro ?_ ?_)
  all_goals first | rfl | (simp_all [resAV, isEdit]; done)
end Go.Proofs.YtlmmdpmmdmhacaaGreat
namespace Go.Proofs.YtlmmdpmmdmhacaaGreat
open Go Go.ChangeShapes Go.WideShapes Go.ChangeAt Go.RowKit
set_option linter.unusedVariables false
set_option linter.unusedSimpArgs false
set_option maxRecDepth 100000
def nodeOfGo (id : Int) : List GNode → Nat → Int
  | [], _ => -1
  | x :: r, i => if x.Id = id then i else nodeOfGo id r (i + 1)
def nodeOf (d : List GNode) (id : Int) : Int := nodeOfGo id d 0
theorem ev_iNodeOf (d : List GNode) (id : Int) (c : C) (S : Store) (h : Rd S [.sl 5 (d.map GNode.d)] [c]) : EvA Tryz.prog 216 [.s c, .s (.int .i64 id)] S (fun r S' => r = .v (.s (.int .i64 (nodeOf d id))) ∧ S' = S) := by
  refine evA_intro tok Tryz.func216 (by kernel_rfl) rfl ?_
  repeat' ((conv => whnf) <;> first
   | refine rE fun hml => ?_)
  refine loop_intro {i : Nat // i ≤ d.length ∧ nodeOfGo id (d.drop i) i = nodeOf d id} [4, 5, 6, 9, 10, 11, 12, 13, 14, 15, 16, 17, 18, 19] (fun zb => [(9, .v (.s (.int .i64 zb.1)))]) (fun _ => S) (fun zb => d.length - zb.1) ⟨0, Nat.zero_le _, rfl⟩ ?_ rfl ?_
  · (conv => whnf); repeat' (first | exact trivial | exact rfl | apply And.intro)
  rintro ⟨i, hi, hinv⟩; dsimp only
  repeat' ((conv => whnf) <;> first
   | rw [wrapI_i64 (by omega)] | refine cD (fun _ => ?_) fun _ => ?_ | refine rI aN rf ix ?_ | refine rd_loadf aN tv ix ?_ | refine And.intro ?_ ?_)
  all_goals first
    | rfl
    | (rw [drop_at (by omega), nodeOfGo] at hinv; simp_all [resAV]; done)
    | (rw [drop_end (by omega), nodeOfGo] at hinv; simp_all [resAV]; done)
    | (refine ⟨⟨i + 1, by omega, by rw [drop_at (by omega), nodeOfGo] at hinv; simp_all⟩, ?_, rfl, by simp; omega⟩; (conv => whnf); repeat' (first | exact trivial | exact rfl | apply And.intro))
theorem ev_sNodeOf (d : List GNode) (id : Int) (c : C) (S : Store) (h : Rd S [.sl 5 (d.map GNode.d)] [c]) : EvA Tryz.prog 299 [.s c, .s (.int .i64 id)] S (fun r S' => r = .v (.s (.int .i64 (nodeOf d id))) ∧ S' = S) := by
  refine evA_intro tok Tryz.func299 (by kernel_rfl) rfl ?_
  skip
  refine loop_intro {i : Nat // i ≤ d.length ∧ nodeOfGo id (d.drop i) i = nodeOf d id} [4, 5, 6, 7, 8, 9, 10, 11, 12, 13, 14, 15, 16, 17, 18, 19] (fun zb => [(5, .v (.s (.int .i64 zb.1)))]) (fun _ => S) (fun zb => d.length - zb.1) ⟨0, Nat.zero_le _, rfl⟩ ?_ rfl ?_
  · (conv => whnf); repeat' (first | exact trivial | exact rfl | apply And.intro)
  rintro ⟨i, hi, hinv⟩; dsimp only
  repeat' ((conv => whnf) <;> first
   | rw [wrapI_i64 (by omega)] | refine cD (fun _ => ?_) fun _ => ?_ | refine rE fun hml => ?_ | refine rI aN rf ix ?_ | refine rd_loadf aN tv ix ?_ | refine And.intro ?_ ?_)
  all_goals first
    | rfl
    | (rw [drop_at (by omega), nodeOfGo] at hinv; simp_all [resAV]; done)
    | (rw [drop_end (by omega), nodeOfGo] at hinv; simp_all [resAV]; done)
    | (refine ⟨⟨i + 1, by omega, by rw [drop_at (by omega), nodeOfGo] at hinv; simp_all⟩, ?_, rfl, by simp; omega⟩; (conv => whnf); repeat' (first | exact trivial | exact rfl | apply And.intro))
def okNode (d : List GNode) (x : GNode) (i : Nat) : Bool := inR x.Tag 0 9 && inR x.Text 0 999 && inR x.By 0 5 &&
  (if i = 0 then decide (x.Id = 0) && decide (x.Parent = -1) else decide ((d.getD (i - 1) default).Id < x.Id) && decide (0 ≤ nodeOf (d.take i) x.Parent))
def docGo (d : List GNode) : List GNode → Nat → Bool
  | [], _ => true
  | x :: r, i => if okNode d x i then docGo d r (i + 1) else false
def isDoc (d : List GNode) : Bool := decide (1 ≤ d.length) && decide (d.length ≤ 16) && docGo d d 0
theorem pred_toNat {i : Nat} (h : 0 < i) : ((i : Int) - 1).toNat = i - 1 := by omega
theorem okNode_zero (d : List GNode) (x : GNode) : okNode d x 0 = (inR x.Tag 0 9 && inR x.Text 0 999 && inR x.By 0 5 && (decide (x.Id = 0) && decide (x.Parent = -1))) := rfl
theorem okNode_pos {d : List GNode} {x : GNode} {i : Nat} (h0 : 0 < i) (hl : i ≤ d.length) : okNode d x i = (inR x.Tag 0 9 && inR x.Text 0 999 && inR x.By 0 5 && (decide ((d[i - 1]'(by omega)).Id < x.Id) && decide (0 ≤ nodeOf (d.take i) x.Parent))) := by
  unfold okNode
  rw [if_neg (by omega)]
  congr 3
  rw [List.getD_eq_getElem?_getD, List.getElem?_eq_getElem (by omega)]; rfl
theorem getD_at {α : Type} {l : List α} {i : Nat} {d : α} (h : i < l.length) : l.getD i d = l[i] := by simp [h]
theorem ev_iIsDocument (d : List GNode) (c : C) (S : Store) (h : Rd S [.sl 5 (d.map GNode.d)] [c]) : EvA Tryz.prog 138 [.s c] S (fun r S' => r = .v (.s (.bool (isDoc d))) ∧ S' = S) := by
  refine evA_intro tok Tryz.func138 (by kernel_rfl) rfl ?_
  repeat' ((conv => whnf) <;> first
   | refine cD (fun _ => ?_) fun _ => ?_ | refine cT ?_ | refine rE fun hml => ?_ | refine And.intro ?_ ?_)
  all_goals try first
    | rfl
    | (have e : isDoc d = false := by
         unfold isDoc
         first | rw [decide_eq_false (p := 1 ≤ d.length) (by omega), Bool.false_and, Bool.false_and] | rw [decide_eq_false (p := d.length ≤ 16) (by omega), Bool.and_false, Bool.false_and]
       rw [e]; rfl)
  refine loop_intro {i : Nat // i ≤ d.length ∧ docGo d (d.drop i) i = docGo d d 0} [2, 3, 4, 15, 16, 17, 18, 19, 20, 21, 22, 23, 24, 25, 26, 27, 28, 29, 30, 31, 32, 33, 34, 35, 36, 37, 38, 39, 40, 41, 42, 43, 44, 45, 46, 47, 48, 49, 50, 51, 52, 53, 54, 55, 56, 57, 58, 59, 60, 61, 62, 63, 64] (fun zb => [(15, .v (.s (.int .i64 zb.1)))]) (fun _ => S) (fun zb => d.length - zb.1) ⟨0, Nat.zero_le _, rfl⟩ ?_ rfl ?_
  · (conv => whnf); repeat' (first | exact trivial | exact rfl | apply And.intro)
  rintro ⟨i, hi, hinv⟩; dsimp only
  repeat' ((conv => whnf) <;> first
   | rw [wrapI_i64 (by omega)] | refine cD (fun _ => ?_) fun _ => ?_ | refine cE (fun _ => ?_) fun _ => ?_ | refine cT ?_ | refine condP_ninR (fun _ _ => ?_) (fun _ _ => ?_) | refine callP_eq (ev_InRange _ _ _ _) ?_ | refine callP_eq (ev_iNodeOf _ _ _ _ aN) ?_ | refine rI aN rf ix ?_ | refine rd_loadf aN tv ix ?_ | (refine rd_slif aN rf om ?_; intro cSl hSl) | refine draw_intro 46 [.fl 0, .fl 1, .fl 2, .fl 3, .fl 4, .fl 5, .fl 6, .fl 7, .fl 8, .fl 9, .fl 10, .fl 11, .fl 12, .fl 13, .fl 14, .st 15 [], .fl 16, .fl 17] (by rfl) (by kernel_rfl) ?_ | refine And.intro ?_ ?_)
  all_goals first
    | rfl
    | (rw [drop_end (by omega), docGo] at hinv
       rw [show isDoc d = true from by unfold isDoc; rw [← hinv]; simp; omega]; rfl)
    | (rw [show isDoc d = false from by
         rw [drop_at (by omega), docGo] at hinv
         have e : okNode d d[i] i = false := by
           clear hinv
           first
             | (have h0 : i = 0 := by omega
                subst h0; rw [okNode_zero]; simp_all; done)
             | (have h0 : 0 < i := by omega
                rw [okNode_pos h0 (by omega)]
                first | (simp_all [pred_toNat h0]; done) | (simp_all [pred_toNat h0]; intros; omega))
             | (simp_all [okNode]; done)
         rw [e] at hinv
         unfold isDoc; rw [← hinv]; simp]
       rfl)
    | (have e : okNode d (d[i]'(by omega)) i = true := by
         clear hinv
         first
           | (have h0 : i = 0 := by omega
              subst h0; rw [okNode_zero]; simp_all; done)
           | (have h0 : 0 < i := by omega
              rw [okNode_pos h0 (by omega)]
              first | (simp_all [pred_toNat h0]; done) | (simp_all [pred_toNat h0]; intros; omega))
           | (simp_all [okNode]; done)
       (refine ⟨⟨i + 1, by omega, by rw [drop_at (by omega), docGo, if_pos e] at hinv; exact hinv⟩, ?_, rfl, by simp; omega⟩; (conv => whnf); repeat' (first | exact trivial | exact rfl | apply And.intro)))
theorem ev_sIsDocument (d : List GNode) (c : C) (S : Store) (h : Rd S [.sl 5 (d.map GNode.d)] [c]) : EvA Tryz.prog 345 [.s c] S (fun r S' => r = .v (.s (.bool (isDoc d))) ∧ S' = S) := by
  refine evA_intro tok Tryz.func345 (by kernel_rfl) rfl ?_
  repeat' ((conv => whnf) <;> first
   | refine cE (fun _ => ?_) fun _ => ?_ | refine cT ?_ | refine condP_ninR (fun _ _ => ?_) (fun _ _ => ?_) | refine callP_eq (ev_l1In _ _ _ _) ?_ | refine rE fun hml => ?_ | refine rI aN rf ix ?_ | refine rd_loadf aN tv ix ?_ | refine And.intro ?_ ?_)
  all_goals try first
    | rfl
    | (have e : isDoc d = false := by
         cases hd : d with
         | nil => rfl
         | cons y l =>
           subst hd
           unfold isDoc
           rw [docGo, Bool.and_eq_false_iff]
           first
             | (left; simp only [Bool.and_eq_false_iff, decide_eq_false_iff_not]; omega)
             | (right; rw [okNode_zero]; simp_all; done)
       rw [e]; rfl)
  refine loop_intro {i : Nat // i ≤ d.length ∧ docGo d (d.drop i) i = docGo d d 0} [2, 3, 22, 23, 24, 25, 26, 27, 28, 29, 30, 31, 32, 33, 34, 35, 36, 37, 38, 39, 40, 41, 42, 43, 44, 45, 46, 47, 48, 49, 50, 51, 52, 53, 54, 55, 56, 57, 58, 59, 60, 61, 62, 63, 64, 65, 66, 67, 68, 69, 70, 71, 72, 73, 74, 75, 76, 77, 78, 79, 80] (fun zb => [(3, .v (.s (.int .i64 zb.1)))]) (fun _ => S) (fun zb => d.length - zb.1) ⟨0, Nat.zero_le _, rfl⟩ ?_ rfl ?_
  · (conv => whnf); repeat' (first | exact trivial | exact rfl | apply And.intro)
  rintro ⟨i, hi, hinv⟩; dsimp only
  repeat' ((conv => whnf) <;> first
   | rw [wrapI_i64 (by omega)] | refine cD (fun _ => ?_) fun _ => ?_ | refine cT ?_ | refine cF ?_ | refine condP_ninR (fun _ _ => ?_) (fun _ _ => ?_) | refine callP_eq (ev_l1In _ _ _ _) ?_ | refine callP_eq (ev_sNodeOf _ _ _ _ aN) ?_ | refine rE fun hml => ?_ | refine rI aN rf ix ?_ | refine rd_loadf aN tv ix ?_ | (refine rd_slif aN rf om ?_; intro cSl hSl) | refine draw_intro 28 [.fl 0, .fl 1, .fl 2, .fl 3, .fl 4, .fl 5, .fl 6, .fl 7, .fl 8, .fl 9, .fl 10, .fl 11, .fl 12, .fl 13, .fl 14, .fl 15, .fl 16, .fl 17, .fl 18, .fl 19, .fl 20, .fl 21, .fl 22, .fl 23, .st 24 [], .fl 25, .fl 26, .fl 27] (by rfl) (by kernel_rfl) ?_ | refine And.intro ?_ ?_)
  all_goals first
    | rfl
    | (rw [drop_end (by omega), docGo] at hinv
       rw [show isDoc d = true from by unfold isDoc; rw [← hinv]; simp; omega]; rfl)
    | (rw [show isDoc d = false from by
         rw [drop_at (by omega), docGo] at hinv
         have e : okNode d d[i] i = false := by
           clear hinv
           first
             | (have h0 : i = 0 := by omega
                subst h0; rw [okNode_zero]; simp_all; done)
             | (have h0 : 0 < i := by omega
                rw [okNode_pos h0 (by omega)]
                first | (simp_all [pred_toNat h0]; done) | (simp_all [pred_toNat h0]; intros; omega))
             | (simp_all [okNode]; done)
         rw [e] at hinv
         unfold isDoc; rw [← hinv]; simp]
       rfl)
    | (have e : okNode d (d[i]'(by omega)) i = true := by
         clear hinv
         first
           | (have h0 : i = 0 := by omega
              subst h0; rw [okNode_zero]; simp_all; done)
           | (have h0 : 0 < i := by omega
              rw [okNode_pos h0 (by omega)]
              first | (simp_all [pred_toNat h0]; done) | (simp_all [pred_toNat h0]; intros; omega))
           | (simp_all [okNode]; done)
       (refine ⟨⟨i + 1, by omega, by rw [drop_at (by omega), docGo, if_pos e] at hinv; exact hinv⟩, ?_, rfl, by simp; omega⟩; (conv => whnf); repeat' (first | exact trivial | exact rfl | apply And.intro)))
end Go.Proofs.YtlmmdpmmdmhacaaGreat
