/- Documents. Patterns, grants, limits. -/
import Derived.Test.YtlmmdpmmdmhacaaGreatKt16
namespace Go.Proofs.YtlmmdpmmdmhacaaGreat
open Go Go.ChangeShapes Go.WideShapes Go.ChangeAt Go.RowKit
set_option linter.unusedVariables false
set_option linter.unusedSimpArgs false
set_option maxRecDepth 100000
def zbh (id : Int) : List GNode → Nat → Int
 | [], _ => -1
 | x :: r, i => if x.Id = id then i else zbh id r (i + 1)
def zah (d : List GNode) (id : Int) : Int := zbh id d 0
theorem zax (d : List GNode) (id : Int) (c : C) (S : Store) (h : Rd S [.sl 5 (d.map GNode.d)] [c]) : EvA Tryz.prog 216 [.s c, .s (.int .i64 id)] S (fun r S' => r = .v (.s (.int .i64 (zah d id))) ∧ S' = S) := by
 refine zac tok Tryz.func216 (by kernel_rfl) rfl ?_
 repeat' ((conv => whnf) <;> first
  | refine rE fun hml => ?_)
 refine zag {i : Nat // i ≤ d.length ∧ zbh id (d.drop i) i = zah d id} [4, 5, 6, 9, 10, 11, 12, 13, 14, 15, 16, 17, 18, 19] (fun zb => [(9, .v (.s (.int .i64 zb.1)))]) (fun _ => S) (fun zb => d.length - zb.1) ⟨0, Nat.zero_le _, rfl⟩ okL rfl ?_
 rintro ⟨i, hi, hinv⟩; dsimp only
 repeat' ((conv => whnf) <;> first
  | rw [zad (by omega)] | refine cD (fun _ => ?_) fun _ => ?_ | refine rI aN rf ix ?_ | refine zaf aN tv ix ?_ | refine And.intro ?_ ?_)
 all_goals first
  | rfl
  | (rw [zam (by omega), zbh] at hinv; simp_all [zay]; done)
  | (rw [zak (by omega), zbh] at hinv; simp_all [zay]; done)
  | (refine ⟨⟨i + 1, by omega, by rw [zam (by omega), zbh] at hinv; simp_all⟩, ?_, rfl, by simp; omega⟩; (conv => whnf); repeat' (first | exact trivial | exact rfl | apply And.intro))
theorem zyr (d : List GNode) (id : Int) (c : C) (S : Store) (h : Rd S [.sl 5 (d.map GNode.d)] [c]) : EvA Tryz.prog 299 [.s c, .s (.int .i64 id)] S (fun r S' => r = .v (.s (.int .i64 (zah d id))) ∧ S' = S) := by
 refine zac tok Tryz.func299 (by kernel_rfl) rfl ?_
 skip
 refine zag {i : Nat // i ≤ d.length ∧ zbh id (d.drop i) i = zah d id} [4, 5, 6, 7, 8, 9, 10, 11, 12, 13, 14, 15, 16, 17, 18, 19] (fun zb => [(5, .v (.s (.int .i64 zb.1)))]) (fun _ => S) (fun zb => d.length - zb.1) ⟨0, Nat.zero_le _, rfl⟩ okL rfl ?_
 rintro ⟨i, hi, hinv⟩; dsimp only
 repeat' ((conv => whnf) <;> first
  | rw [zad (by omega)] | refine cD (fun _ => ?_) fun _ => ?_ | refine rE fun hml => ?_ | refine rI aN rf ix ?_ | refine zaf aN tv ix ?_ | refine And.intro ?_ ?_)
 all_goals first
  | rfl
  | (rw [zam (by omega), zbh] at hinv; simp_all [zay]; done)
  | (rw [zak (by omega), zbh] at hinv; simp_all [zay]; done)
  | (refine ⟨⟨i + 1, by omega, by rw [zam (by omega), zbh] at hinv; simp_all⟩, ?_, rfl, by simp; omega⟩; (conv => whnf); repeat' (first | exact trivial | exact rfl | apply And.intro))
def zej (d : List GNode) (x : GNode) (i : Nat) : Bool := inR x.Tag 0 9 && inR x.Text 0 999 && inR x.By 0 5 &&
 (if i = 0 then decide (x.Id = 0) && decide (x.Parent = -1) else decide ((d.getD (i - 1) default).Id < x.Id) && decide (0 ≤ zah (d.take i) x.Parent))
def zh4 (d : List GNode) : List GNode → Nat → Bool
 | [], _ => true
 | x :: r, i => if zej d x i then zh4 d r (i + 1) else false
def zck (d : List GNode) : Bool := decide (1 ≤ d.length) && decide (d.length ≤ 16) && zh4 d d 0
theorem zb2 {i : Nat} (h : 0 < i) : ((i : Int) - 1).toNat = i - 1 := by omega
theorem zex (d : List GNode) (x : GNode) : zej d x 0 = (inR x.Tag 0 9 && inR x.Text 0 999 && inR x.By 0 5 && (decide (x.Id = 0) && decide (x.Parent = -1))) := rfl
theorem zfu {d : List GNode} {x : GNode} {i : Nat} (h0 : 0 < i) (hl : i ≤ d.length) : zej d x i = (inR x.Tag 0 9 && inR x.Text 0 999 && inR x.By 0 5 && (decide ((d[i - 1]'(by omega)).Id < x.Id) && decide (0 ≤ zah (d.take i) x.Parent))) := by
 unfold zej
 rw [if_neg (by omega)]
 congr 3
 rw [List.getD_eq_getElem?_getD, List.getElem?_eq_getElem (by omega)]; rfl
theorem zea {α : Type} {l : List α} {i : Nat} {d : α} (h : i < l.length) : l.getD i d = l[i] := by simp [h]
theorem za3 (d : List GNode) (c : C) (S : Store) (h : Rd S [.sl 5 (d.map GNode.d)] [c]) : EvA Tryz.prog 138 [.s c] S (fun r S' => r = .v (.s (.bool (zck d))) ∧ S' = S) := by
 refine zac tok Tryz.func138 (by kernel_rfl) rfl ?_
 repeat' ((conv => whnf) <;> first
  | refine cD (fun _ => ?_) fun _ => ?_ | refine cT ?_ | refine rE fun hml => ?_ | refine And.intro ?_ ?_)
 all_goals try first
  | rfl
  | (have e : zck d = false := by
      unfold zck
      first | rw [decide_eq_false (p := 1 ≤ d.length) (by omega), Bool.false_and, Bool.false_and] | rw [decide_eq_false (p := d.length ≤ 16) (by omega), Bool.and_false, Bool.false_and]
     rw [e]; rfl)
 refine zag {i : Nat // i ≤ d.length ∧ zh4 d (d.drop i) i = zh4 d d 0} [2, 3, 4, 15, 16, 17, 18, 19, 20, 21, 22, 23, 24, 25, 26, 27, 28, 29, 30, 31, 32, 33, 34, 35, 36, 37, 38, 39, 40, 41, 42, 43, 44, 45, 46, 47, 48, 49, 50, 51, 52, 53, 54, 55, 56, 57, 58, 59, 60, 61, 62, 63, 64] (fun zb => [(15, .v (.s (.int .i64 zb.1)))]) (fun _ => S) (fun zb => d.length - zb.1) ⟨0, Nat.zero_le _, rfl⟩ okL rfl ?_
 rintro ⟨i, hi, hinv⟩; dsimp only
 repeat' ((conv => whnf) <;> first
  | rw [zad (by omega)] | refine cD (fun _ => ?_) fun _ => ?_ | refine cE (fun _ => ?_) fun _ => ?_ | refine cT ?_ | refine zar (fun _ _ => ?_) (fun _ _ => ?_) | refine zaa (zat _ _ _ _) ?_ | refine zaa (zax _ _ _ _ aN) ?_ | refine rI aN rf ix ?_ | refine zaf aN tv ix ?_ | (refine zk8 aN rf om ?_; intro cSl hSl) | refine zae 46 (iN 18 0 [15]) (by rfl) (by kernel_rfl) ?_ | refine And.intro ?_ ?_)
 all_goals first
  | rfl
  | (rw [zak (by omega), zh4] at hinv
     rw [show zck d = true from by unfold zck; rw [← hinv]; simp; omega]; rfl)
  | (rw [show zck d = false from by
      rw [zam (by omega), zh4] at hinv
      have e : zej d d[i] i = false := by
       clear hinv
       first
        | (have h0 : i = 0 := by omega
           subst h0; rw [zex]; simp_all; done)
        | (have h0 : 0 < i := by omega
           rw [zfu h0 (by omega)]
           first | (simp_all [zb2 h0]; done) | (simp_all [zb2 h0]; intros; omega))
        | (simp_all [zej]; done)
      rw [e] at hinv
      unfold zck; rw [← hinv]; simp]
     rfl)
  | (have e : zej d (d[i]'(by omega)) i = true := by
      clear hinv
      first
       | (have h0 : i = 0 := by omega
          subst h0; rw [zex]; simp_all; done)
       | (have h0 : 0 < i := by omega
          rw [zfu h0 (by omega)]
          first | (simp_all [zb2 h0]; done) | (simp_all [zb2 h0]; intros; omega))
       | (simp_all [zej]; done)
     (refine ⟨⟨i + 1, by omega, by rw [zam (by omega), zh4, if_pos e] at hinv; exact hinv⟩, ?_, rfl, by simp; omega⟩; (conv => whnf); repeat' (first | exact trivial | exact rfl | apply And.intro)))
theorem zoq (d : List GNode) (c : C) (S : Store) (h : Rd S [.sl 5 (d.map GNode.d)] [c]) : EvA Tryz.prog 345 [.s c] S (fun r S' => r = .v (.s (.bool (zck d))) ∧ S' = S) := by
 refine zac tok Tryz.func345 (by kernel_rfl) rfl ?_
 repeat' ((conv => whnf) <;> first
  | refine cE (fun _ => ?_) fun _ => ?_ | refine cT ?_ | refine zar (fun _ _ => ?_) (fun _ _ => ?_) | refine zaa (zcp _ _ _ _) ?_ | refine rE fun hml => ?_ | refine rI aN rf ix ?_ | refine zaf aN tv ix ?_ | refine And.intro ?_ ?_)
 all_goals try first
  | rfl
  | (have e : zck d = false := by
      cases hd : d with
      | nil => rfl
      | cons y l =>
        subst hd
        unfold zck
        rw [zh4, Bool.and_eq_false_iff]
        first
         | (left; simp only [Bool.and_eq_false_iff, decide_eq_false_iff_not]; omega)
         | (right; rw [zex]; simp_all; done)
     rw [e]; rfl)
 refine zag {i : Nat // i ≤ d.length ∧ zh4 d (d.drop i) i = zh4 d d 0} [2, 3, 22, 23, 24, 25, 26, 27, 28, 29, 30, 31, 32, 33, 34, 35, 36, 37, 38, 39, 40, 41, 42, 43, 44, 45, 46, 47, 48, 49, 50, 51, 52, 53, 54, 55, 56, 57, 58, 59, 60, 61, 62, 63, 64, 65, 66, 67, 68, 69, 70, 71, 72, 73, 74, 75, 76, 77, 78, 79, 80] (fun zb => [(3, .v (.s (.int .i64 zb.1)))]) (fun _ => S) (fun zb => d.length - zb.1) ⟨0, Nat.zero_le _, rfl⟩ okL rfl ?_
 rintro ⟨i, hi, hinv⟩; dsimp only
 repeat' ((conv => whnf) <;> first
  | rw [zad (by omega)] | refine cD (fun _ => ?_) fun _ => ?_ | refine cT ?_ | refine cF ?_ | refine zar (fun _ _ => ?_) (fun _ _ => ?_) | refine zaa (zcp _ _ _ _) ?_ | refine zaa (zyr _ _ _ _ aN) ?_ | refine rE fun hml => ?_ | refine rI aN rf ix ?_ | refine zaf aN tv ix ?_ | (refine zk8 aN rf om ?_; intro cSl hSl) | refine zae 28 (iN 28 0 [24]) (by rfl) (by kernel_rfl) ?_ | refine And.intro ?_ ?_)
 all_goals first
  | rfl
  | (rw [zak (by omega), zh4] at hinv
     rw [show zck d = true from by unfold zck; rw [← hinv]; simp; omega]; rfl)
  | (rw [show zck d = false from by
      rw [zam (by omega), zh4] at hinv
      have e : zej d d[i] i = false := by
       clear hinv
       first
        | (have h0 : i = 0 := by omega
           subst h0; rw [zex]; simp_all; done)
        | (have h0 : 0 < i := by omega
           rw [zfu h0 (by omega)]
           first | (simp_all [zb2 h0]; done) | (simp_all [zb2 h0]; intros; omega))
        | (simp_all [zej]; done)
      rw [e] at hinv
      unfold zck; rw [← hinv]; simp]
     rfl)
  | (have e : zej d (d[i]'(by omega)) i = true := by
      clear hinv
      first
       | (have h0 : i = 0 := by omega
          subst h0; rw [zex]; simp_all; done)
       | (have h0 : 0 < i := by omega
          rw [zfu h0 (by omega)]
          first | (simp_all [zb2 h0]; done) | (simp_all [zb2 h0]; intros; omega))
       | (simp_all [zej]; done)
     (refine ⟨⟨i + 1, by omega, by rw [zam (by omega), zh4, if_pos e] at hinv; exact hinv⟩, ?_, rfl, by simp; omega⟩; (conv => whnf); repeat' (first | exact trivial | exact rfl | apply And.intro)))
def zbl (p : GPattern) : Bool := inR p.Owner 0 9 && inR p.Sub (-1) 9
theorem zhf (p : GPattern) (S : Store) : EvA Tryz.prog 338 [.agg p.c] S (fun r S' => r = .v (.s (.bool (zbl p))) ∧ S' = S) := by
 refine zac tok Tryz.func338 (by kernel_rfl) rfl ?_
 repeat' ((conv => whnf) <;> first
  | refine zbu (fun _ _ => ?_) (fun _ _ => ?_) | refine zaa (zcp _ _ _ _) ?_ | refine And.intro ?_ ?_)
 all_goals first | rfl | (simp_all [zay, zbl]; done) | (simp_all [zay, zbl]; intros; omega)
theorem zeq (p : GPattern) (S : Store) : EvA Tryz.prog 140 [.agg p.c] S (fun r S' => r = .v (.s (.bool (zbl p))) ∧ S' = S) := by
 refine zac tok Tryz.func140 (by kernel_rfl) rfl ?_
 repeat' ((conv => whnf) <;> first
  | refine zbu (fun _ _ => ?_) (fun _ _ => ?_) | refine zaa (zat _ _ _ _) ?_ | refine And.intro ?_ ?_)
 all_goals first | rfl | (simp_all [zay, zbl]; done) | (simp_all [zay, zbl]; intros; omega)
def ze8 (p : GPattern) (s : GSite) : Bool := zbl p && ze7 s && (decide (p.Owner = 0) || decide (p.Owner = s.Owner)) && (decide (p.Sub = -1) || decide (p.Sub = s.Sub))
theorem zfk (p : GPattern) (s : GSite) (S : Store) : EvA Tryz.prog 159 [.agg p.c, .agg s.c] S (fun r S' => r = .v (.s (.bool (ze8 p s))) ∧ S' = S) := by
 refine zac tok Tryz.func159 (by kernel_rfl) rfl ?_
 repeat' ((conv => whnf) <;> first
  | refine cD (fun _ => ?_) fun _ => ?_ | refine cT ?_ | refine cF ?_ | refine cI (fun _ => ?_) fun _ => ?_ | refine zaa (zeg _ _) ?_ | refine zaa (zeq _ _) ?_ | refine And.intro ?_ ?_)
 all_goals first | rfl | (simp_all [zay, ze8]; done) | (simp_all [zay, ze8]; intros; omega)
def zgi (p : GPattern) (q : GPattern) : Bool := zbl p && zbl q && (decide (q.Owner = 0) || decide (p.Owner = q.Owner)) && (decide (q.Sub = -1) || decide (p.Sub = q.Sub))
theorem zgn (p : GPattern) (q : GPattern) (S : Store) : EvA Tryz.prog 141 [.agg p.c, .agg q.c] S (fun r S' => r = .v (.s (.bool (zgi p q))) ∧ S' = S) := by
 refine zac tok Tryz.func141 (by kernel_rfl) rfl ?_
 repeat' ((conv => whnf) <;> first
  | refine cD (fun _ => ?_) fun _ => ?_ | refine cT ?_ | refine cF ?_ | refine cI (fun _ => ?_) fun _ => ?_ | refine zaa (zeq _ _) ?_ | refine And.intro ?_ ?_)
 all_goals first | rfl | (simp_all [zay, zgi]; done) | (simp_all [zay, zgi]; intros; omega)
def za4 (g : GGrant) : Bool := inR g.Ext 1 5 && zbl g.Pattern && inR g.Kind 1 4 && decide (0 ≤ g.From) && decide (g.From ≤ g.Until) && decide (g.Until ≤ 10000)
theorem zhi (g : GGrant) (S : Store) : EvA Tryz.prog 277 [.agg g.c] S (fun r S' => r = .v (.s (.bool (za4 g))) ∧ S' = S) := by
 refine zac tok Tryz.func277 (by kernel_rfl) rfl ?_
 repeat' ((conv => whnf) <;> first
  | refine cD (fun _ => ?_) fun _ => ?_ | refine cF ?_ | refine zbu (fun _ _ => ?_) (fun _ _ => ?_) | refine cI (fun _ => ?_) fun _ => ?_ | refine zaa (zcp _ _ _ _) ?_ | refine zaa (zhf _ _) ?_ | refine And.intro ?_ ?_)
 all_goals first | rfl | (simp_all [zay, za4]; done) | (simp_all [zay, za4]; intros; omega)
theorem zco (g : GGrant) (S : Store) : EvA Tryz.prog 68 [.agg g.c] S (fun r S' => r = .v (.s (.bool (za4 g))) ∧ S' = S) := by
 refine zac tok Tryz.func68 (by kernel_rfl) rfl ?_
 repeat' ((conv => whnf) <;> first
  | refine cD (fun _ => ?_) fun _ => ?_ | refine cF ?_ | refine zbu (fun _ _ => ?_) (fun _ _ => ?_) | refine cI (fun _ => ?_) fun _ => ?_ | refine zaa (zat _ _ _ _) ?_ | refine zaa (zeq _ _) ?_ | refine And.intro ?_ ?_)
 all_goals first | rfl | (simp_all [zay, za4]; done) | (simp_all [zay, za4]; intros; omega)
def zwu (g : GGrant) (ext : Int) (s : GSite) (kind : Int) (tick : Int) (clicked : Bool) : Bool := za4 g && decide (g.Ext = ext) && decide (g.Kind = kind) && ze8 g.Pattern s && inR tick g.From g.Until && (clicked || !g.Click)
theorem zxw (g : GGrant) (ext : Int) (s : GSite) (kind : Int) (tick : Int) (clicked : Bool) (S : Store) : EvA Tryz.prog 158 [.agg g.c, .s (.int .i64 ext), .agg s.c, .s (.int .i64 kind), .s (.int .i64 tick), .s (.bool clicked)] S (fun r S' => r = .v (.s (.bool (zwu g ext s kind tick clicked))) ∧ S' = S) := by
 refine zac tok Tryz.func158 (by kernel_rfl) rfl ?_
 repeat' ((conv => whnf) <;> first
  | refine cD (fun _ => ?_) fun _ => ?_ | refine cF ?_ | refine zbu (fun _ _ => ?_) (fun _ _ => ?_) | refine cI (fun _ => ?_) fun _ => ?_ | refine zaa (zat _ _ _ _) ?_ | refine zaa (zco _ _) ?_ | refine zaa (zfk _ _ _) ?_ | refine And.intro ?_ ?_)
 all_goals first | rfl | (simp_all [zay, zwu]; done) | (simp_all [zay, zwu]; intros; omega)
def ze6 (l : List GGrant) (ext : Int) (s : GSite) (kind : Int) (tick : Int) (clicked : Bool) : Bool := l.any fun x => zwu x ext s kind tick clicked
theorem zqy (l : List GGrant) (ext : Int) (s : GSite) (kind : Int) (tick : Int) (clicked : Bool) (c : C) (S : Store) (h : Rd S [.sl 7 (l.map GGrant.d)] [c]) : EvA Tryz.prog 85 [.s c, .s (.int .i64 ext), .agg s.c, .s (.int .i64 kind), .s (.int .i64 tick), .s (.bool clicked)] S (fun r S' => r = .v (.s (.bool (ze6 l ext s kind tick clicked))) ∧ S' = S) := by
 refine zac tok Tryz.func85 (by kernel_rfl) rfl ?_
 repeat' ((conv => whnf) <;> first
  | refine rE fun hml => ?_)
 refine zag {i : Nat // i ≤ l.length ∧ ze6 (l.drop i) ext s kind tick clicked = ze6 l ext s kind tick clicked} [12, 14, 17, 18, 19, 20, 21, 22, 23, 24, 25, 26, 27, 28] (fun zb => [(17, .v (.s (.int .i64 zb.1)))]) (fun _ => S) (fun zb => l.length - zb.1) ⟨0, Nat.zero_le _, by simp⟩ okL rfl ?_
 rintro ⟨i, hi, hinv⟩; dsimp only
 repeat' ((conv => whnf) <;> first
  | rw [zad (by omega)] | refine cD (fun _ => ?_) fun _ => ?_ | refine cI (fun _ => ?_) fun _ => ?_ | refine zaa (zxw _ _ _ _ _ _ _) ?_ | refine rI aN rf ix ?_ | refine zaf aN tv ix ?_ | refine And.intro ?_ ?_)
 all_goals first
  | rfl
  | (rw [zak (by omega)] at hinv; rw [← hinv]; rfl)
  | (rw [zam (by omega)] at hinv; simp only [ze6, List.any_cons] at hinv
     first
      | (rw [show ze6 l ext s kind tick clicked = true from by simp only [ze6]; rw [← hinv]; simp_all]; rfl)
      | (refine ⟨⟨i + 1, by omega, by simp only [ze6]; rw [← hinv]; simp_all⟩, ?_, rfl, by simp; omega⟩; (conv => whnf); repeat' (first | exact trivial | exact rfl | apply And.intro)))
def zb6 (x : GLimit) : Bool := inR x.Ext 0 5 && zbl x.Pattern && inR x.Kind 0 4
theorem zoa (x : GLimit) (S : Store) : EvA Tryz.prog 319 [.agg x.c] S (fun r S' => r = .v (.s (.bool (zb6 x))) ∧ S' = S) := by
 refine zac tok Tryz.func319 (by kernel_rfl) rfl ?_
 repeat' ((conv => whnf) <;> first
  | refine cF ?_ | refine zbu (fun _ _ => ?_) (fun _ _ => ?_) | refine cI (fun _ => ?_) fun _ => ?_ | refine zaa (zcp _ _ _ _) ?_ | refine zaa (zhf _ _) ?_ | refine And.intro ?_ ?_)
 all_goals first | rfl | (simp_all [zay, zb6]; done) | (simp_all [zay, zb6]; intros; omega)
theorem zf5 (x : GLimit) (S : Store) : EvA Tryz.prog 69 [.agg x.c] S (fun r S' => r = .v (.s (.bool (zb6 x))) ∧ S' = S) := by
 refine zac tok Tryz.func69 (by kernel_rfl) rfl ?_
 repeat' ((conv => whnf) <;> first
  | refine cF ?_ | refine zbu (fun _ _ => ?_) (fun _ _ => ?_) | refine cI (fun _ => ?_) fun _ => ?_ | refine zaa (zat _ _ _ _) ?_ | refine zaa (zeq _ _) ?_ | refine And.intro ?_ ?_)
 all_goals first | rfl | (simp_all [zay, zb6]; done) | (simp_all [zay, zb6]; intros; omega)
def zvk (x : GLimit) (ext : Int) (s : GSite) (kind : Int) : Bool := zb6 x && (decide (x.Ext = 0) || decide (x.Ext = ext)) && (decide (x.Kind = 0) || decide (x.Kind = kind)) && ze8 x.Pattern s
def zgd (l : List GLimit) (ext : Int) (s : GSite) (kind : Int) : Bool := l.any fun x => zvk x ext s kind
theorem zt1 (l : List GLimit) (ext : Int) (s : GSite) (kind : Int) (c : C) (S : Store) (h : Rd S [.sl 4 (l.map GLimit.d)] [c]) : EvA Tryz.prog 86 [.s c, .s (.int .i64 ext), .agg s.c, .s (.int .i64 kind)] S (fun r S' => r = .v (.s (.bool (zgd l ext s kind))) ∧ S' = S) := by
 refine zac tok Tryz.func86 (by kernel_rfl) rfl ?_
 repeat' ((conv => whnf) <;> first
  | refine rE fun hml => ?_)
 refine zag {i : Nat // i ≤ l.length ∧ zgd (l.drop i) ext s kind = zgd l ext s kind} [8, 10, 13, 14, 15, 16, 17, 18, 19, 20, 21, 22, 23, 24, 25, 26, 27, 28, 29, 30, 31, 32, 33, 34, 35, 36, 37, 38, 39, 40, 41, 42, 43, 44, 45, 46, 47] (fun zb => [(13, .v (.s (.int .i64 zb.1)))]) (fun _ => S) (fun zb => l.length - zb.1) ⟨0, Nat.zero_le _, by simp⟩ okL rfl ?_
 rintro ⟨i, hi, hinv⟩; dsimp only
 repeat' ((conv => whnf) <;> first
  | rw [zad (by omega)] | refine cD (fun _ => ?_) fun _ => ?_ | refine cT ?_ | refine cF ?_ | refine cI (fun _ => ?_) fun _ => ?_ | refine zaa (zf5 _ _) ?_ | refine zaa (zfk _ _ _) ?_ | refine rI aN rf ix ?_ | refine zaf aN tv ix ?_ | refine And.intro ?_ ?_)
 all_goals first
  | rfl
  | (rw [zak (by omega)] at hinv; rw [← hinv]; rfl)
  | (rw [zam (by omega)] at hinv; simp only [zgd, List.any_cons] at hinv
     first
      | (rw [show zgd l ext s kind = true from by simp only [zgd]; rw [← hinv]; simp_all [zvk]]; rfl)
      | (refine ⟨⟨i + 1, by omega, by simp only [zgd]; rw [← hinv]; simp_all [zvk]⟩, ?_, rfl, by simp; omega⟩; (conv => whnf); repeat' (first | exact trivial | exact rfl | apply And.intro)))
def zxl (g : List GGrant) (l : List GLimit) (ext : Int) (s : GSite) (kind tick : Int) (clicked : Bool) : Bool := ze6 g ext s kind tick clicked && !zgd l ext s kind
theorem znb (g : List GGrant) (l : List GLimit) (ext : Int) (s : GSite) (kind tick : Int) (clicked : Bool) (c c' : C) (S : Store) (h : Rd S [.sl 7 (g.map GGrant.d)] [c]) (h' : Rd S [.sl 4 (l.map GLimit.d)] [c']) : EvA Tryz.prog 24 [.s c, .s c', .s (.int .i64 ext), .agg s.c, .s (.int .i64 kind), .s (.int .i64 tick), .s (.bool clicked)] S (fun r S' => r = .v (.s (.bool (zxl g l ext s kind tick clicked))) ∧ S' = S) := by
 refine zac tok Tryz.func24 (by kernel_rfl) rfl ?_
 repeat' ((conv => whnf) <;> first
  | refine cI (fun _ => ?_) fun _ => ?_ | refine zaa (zqy _ _ _ _ _ _ _ _ aN) ?_ | refine zaa (zt1 _ _ _ _ _ _ aN) ?_ | refine And.intro ?_ ?_)
 all_goals first | rfl | (simp_all [zay, zxl]; done)
def zfa (g : GGrant) : Bool := za4 g && !decide (g.Pattern.Owner = 0) && !decide (g.Pattern.Sub = -1) && (decide (g.Kind = 1) || decide (g.Kind = 2)) && decide (g.Until = g.From + 5) && !g.Click
theorem zlh (g : GGrant) (S : Store) : EvA Tryz.prog 70 [.agg g.c] S (fun r S' => r = .v (.s (.bool (zfa g))) ∧ S' = S) := by
 have hg : za4 g = true → (1 ≤ g.Kind ∧ g.Kind ≤ 4) ∧ 0 ≤ g.From ∧ g.From ≤ g.Until ∧ g.Until ≤ 10000 := by
  intro h; simp [za4, inR] at h; omega
 by_cases hG : za4 g = true
 ·have hq := hg hG
  refine zac tok Tryz.func70 (by kernel_rfl) rfl ?_
  repeat' ((conv => whnf) <;> first
   | rw [zad (by omega)] | refine cD (fun _ => ?_) fun _ => ?_ | refine cE (fun _ => ?_) fun _ => ?_ | refine cT ?_ | refine cF ?_ | refine cI (fun _ => ?_) fun _ => ?_ | refine zaa (zco _ _) ?_ | refine And.intro ?_ ?_)
  all_goals first | rfl | (simp_all [zay, zfa]; done) | (simp_all [zay, zfa]; omega)
 ·have hL : zfa g = false := by simp_all [zfa]
  rw [hL]
  refine zac tok Tryz.func70 (by kernel_rfl) rfl ?_
  repeat' ((conv => whnf) <;> first
   | refine cD (fun _ => ?_) fun _ => ?_ | refine cE (fun _ => ?_) fun _ => ?_ | refine cT ?_ | refine cF ?_ | refine cI (fun _ => ?_) fun _ => ?_ | refine zaa (zco _ _) ?_ | refine And.intro ?_ ?_)
  all_goals first | rfl | (exfalso; simp_all; done)
end Go.Proofs.YtlmmdpmmdmhacaaGreat
