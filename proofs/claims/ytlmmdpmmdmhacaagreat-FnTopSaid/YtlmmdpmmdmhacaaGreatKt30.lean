/- The review of packages. -/
import Derived.Test.YtlmmdpmmdmhacaaGreatKt27
import Derived.Test.YtlmmdpmmdmhacaaGreatKt23
import Derived.Test.YtlmmdpmmdmhacaaGreatKt29
namespace Go.Proofs.YtlmmdpmmdmhacaaGreat
open Go Go.ChangeShapes Go.WideShapes Go.ChangeAt Go.RowKit
set_option linter.unusedVariables false
set_option linter.unusedSimpArgs false
set_option maxRecDepth 100000
theorem zf7 {α : Type} {P : α → Bool} {l : List α} {i : Nat} (h : i < l.length) : (l.drop i).all P = (P l[i] && (l.drop (i + 1)).all P) := by rw [zam h, List.all_cons]
def gfor (kind owner : Int) (g : GGrant) : Bool := za4 g && decide (g.Kind = kind) && (decide (g.Pattern.Owner = 0) || decide (g.Pattern.Owner = owner))
def zsm (l : List GGrant) (kind owner : Int) : Bool := l.any (gfor kind owner)
theorem z6n {kind owner : Int} {g : GGrant} (h : gfor kind owner g = false) : za4 g = false ∨ (za4 g = true ∧ ¬ g.Kind = kind) ∨ (za4 g = true ∧ g.Kind = kind ∧ ¬ g.Pattern.Owner = 0 ∧ ¬ g.Pattern.Owner = owner) := by
 unfold gfor at h
 cases h1 : za4 g
 ·exact .inl rfl
 ·rw [h1, Bool.true_and] at h
  by_cases h2 : g.Kind = kind
  ·rw [decide_eq_true h2, Bool.true_and, Bool.or_eq_false_iff] at h
   exact .inr (.inr ⟨rfl, h2, of_decide_eq_false h.1, of_decide_eq_false h.2⟩)
  ·exact .inr (.inl ⟨rfl, h2⟩)
theorem z6a {kind owner : Int} {g : GGrant} (h : gfor kind owner g = true) : za4 g = true ∧ g.Kind = kind ∧ (g.Pattern.Owner = 0 ∨ (¬ g.Pattern.Owner = 0 ∧ g.Pattern.Owner = owner)) := by
 simp only [gfor, Bool.and_eq_true, Bool.or_eq_true, decide_eq_true_eq] at h
 exact ⟨h.1.1, h.1.2, by omega⟩
theorem zwn {α : Type} {P : α → Bool} {l : List α} {i : Nat} (h : i < l.length) : (l.drop i).any P = (P l[i] || (l.drop (i + 1)).any P) := by rw [zam h, List.any_cons]
theorem zti (l : List GGrant) (kind owner : Int) (c : C) (S : Store) (h : Rd S [.sl 7 (l.map GGrant.d)] [c]) : EvA Tryz.prog 217 [.s c, .s (.int .i64 kind), .s (.int .i64 owner)] S (fun r S' => r = .v (.s (.bool (zsm l kind owner))) ∧ S' = S) := by
 refine zac tok Tryz.func217 (by kernel_rfl) rfl ?_
 repeat' ((conv => whnf) <;> first
  | refine rE fun hml => ?_)
 refine zag {i : Nat // i ≤ l.length ∧ (l.drop i).any (gfor kind owner) = zsm l kind owner} [6, 8, 11, 12, 13, 14, 15, 16, 17, 18, 19, 20, 21, 22, 23, 24, 25, 26, 27, 28, 29, 30, 31, 32, 33, 34, 35, 36] (fun zb => [(11, .v (.s (.int .i64 zb.1)))]) (fun _ => S) (fun zb => l.length - zb.1) ⟨0, Nat.zero_le _, rfl⟩ okL rfl ?_
 rintro ⟨i, hi, hinv⟩; dsimp only
 by_cases hlt : i < l.length
 ·have hlt' : ((i : Nat) : Int).toNat < l.length := hlt
  have hinv : (gfor kind owner (l[((i : Nat) : Int).toNat]'hlt') || (l.drop (i + 1)).any (gfor kind owner)) = zsm l kind owner := (zwn hlt).symm.trans hinv
  cases hg : gfor kind owner (l[((i : Nat) : Int).toNat]'hlt') with
  | true =>
    rw [hg, Bool.true_or] at hinv
    rw [← hinv]
    obtain ⟨g1, g2, g3 | ⟨g3, g4⟩⟩ := z6a hg
    all_goals
     repeat' ((conv => whnf) <;> first
      | (refine zaa (zco (l[((i : Nat) : Int).toNat]'hlt') _) ?_) | (show CondP _ _ _; refine cS ?_) | refine cT ?_ | refine rI aN rf ix ?_ | refine zaf aN tv ix ?_ | refine And.intro ?_ ?_)
     all_goals first
      | rfl
      | (exfalso; omega)
  | false =>
    rw [hg, Bool.false_or] at hinv
    rcases z6n hg with g1 | ⟨g1, g2⟩ | ⟨g1, g2, g3, g4⟩
    all_goals
     repeat' ((conv => whnf) <;> first
      | (refine zaa (zco (l[((i : Nat) : Int).toNat]'hlt') _) ?_) | rw [zad (by omega)] | (show CondP _ _ _; refine cS ?_) | refine cF ?_ | refine rI aN rf ix ?_ | refine zaf aN tv ix ?_)
     all_goals first
      | (refine ⟨⟨i + 1, by omega, hinv⟩, ?_, rfl, by simp; omega⟩; (conv => whnf); repeat' (first | exact trivial | exact rfl | apply And.intro))
      | (exfalso; omega)
 ·rw [zak (by omega), List.any_nil] at hinv
  rw [← hinv]
  repeat' ((conv => whnf) <;> first
   | (show CondP _ _ _; refine cS ?_) | refine And.intro ?_ ?_)
  all_goals first
   | rfl
   | (exfalso; omega)
def zj2 (l : List GGrant) (kind : Int) (owners : List Int) : Bool := owners.all (zsm l kind)
theorem zfp (l : List GGrant) (kind : Int) (owners : List Int) (c c2 : C) (S : Store) (h : Rd S [.sl 7 (l.map GGrant.d)] [c]) (h2 : Rd S [.sl 1 (owners.map dInt)] [c2]) : EvA Tryz.prog 143 [.s c, .s (.int .i64 kind), .s c2] S (fun r S' => r = .v (.s (.bool (zj2 l kind owners))) ∧ S' = S) := by
 refine zac tok Tryz.func143 (by kernel_rfl) rfl ?_
 repeat' ((conv => whnf) <;> first
  | refine rE fun hml => ?_)
 refine zag {i : Nat // i ≤ owners.length ∧ (owners.drop i).all (zsm l kind) = zj2 l kind owners} [6, 8, 11, 12, 13, 14, 15, 16, 17, 18, 19, 20] (fun zb => [(11, .v (.s (.int .i64 zb.1)))]) (fun _ => S) (fun zb => owners.length - zb.1) ⟨0, Nat.zero_le _, rfl⟩ okL rfl ?_
 rintro ⟨i, hi, hinv⟩; dsimp only
 by_cases hlt : i < owners.length
 ·have hlt' : ((i : Nat) : Int).toNat < owners.length := hlt
  have hinv : (zsm l kind (owners[((i : Nat) : Int).toNat]'hlt') && (owners.drop (i + 1)).all (zsm l kind)) = zj2 l kind owners := (zf7 hlt).symm.trans hinv
  cases hg : zsm l kind (owners[((i : Nat) : Int).toNat]'hlt') with
  | true =>
    rw [hg, Bool.true_and] at hinv
    repeat' ((conv => whnf) <;> first
     | rw [zad (by omega)] | (show CondP _ _ _; refine cS ?_) | refine zaa (zti _ _ _ _ _ aN) ?_ | refine rI aN rf ix ?_ | refine zaf aN tv ix ?_)
    all_goals first
     | (refine ⟨⟨i + 1, by omega, hinv⟩, ?_, rfl, by simp; omega⟩; (conv => whnf); repeat' (first | exact trivial | exact rfl | apply And.intro))
     | (exfalso; omega)
  | false =>
    rw [hg, Bool.false_and] at hinv
    rw [← hinv]
    repeat' ((conv => whnf) <;> first
     | (show CondP _ _ _; refine cS ?_) | refine zaa (zti _ _ _ _ _ aN) ?_ | refine rI aN rf ix ?_ | refine zaf aN tv ix ?_ | refine And.intro ?_ ?_)
    all_goals first
     | rfl
     | (exfalso; omega)
 ·rw [zak (by omega), List.all_nil] at hinv
  rw [← hinv]
  repeat' ((conv => whnf) <;> first
   | (show CondP _ _ _; refine cS ?_) | refine And.intro ?_ ?_)
  all_goals first
   | rfl
   | (exfalso; omega)
def cov1 (p : GPattern) (g : GGrant) : Bool := decide (g.Kind = 3) && zgi p g.Pattern
def zda (l : List GGrant) (p : GPattern) : Bool := l.any (cov1 p)
theorem zy7 (p : GPattern) (g : GGrant) : (¬ g.Kind = 3 ∧ cov1 p g = false) ∨ (g.Kind = 3 ∧ zgi p g.Pattern = cov1 p g) := by
 unfold cov1
 by_cases h : g.Kind = 3
 ·exact .inr ⟨h, by rw [decide_eq_true h, Bool.true_and]⟩
 ·exact .inl ⟨h, by rw [decide_eq_false h, Bool.false_and]⟩
theorem zll (l : List GGrant) (p : GPattern) (c : C) (S : Store) (h : Rd S [.sl 7 (l.map GGrant.d)] [c]) : EvA Tryz.prog 142 [.s c, .agg p.c] S (fun r S' => r = .v (.s (.bool (zda l p))) ∧ S' = S) := by
 refine zac tok Tryz.func142 (by kernel_rfl) rfl ?_
 repeat' ((conv => whnf) <;> first
  | refine rE fun hml => ?_)
 refine zag {i : Nat // i ≤ l.length ∧ (l.drop i).any (cov1 p) = zda l p} [4, 6, 9, 10, 11, 12, 13, 14, 15, 16, 17, 18, 19, 20, 21, 22] (fun zb => [(9, .v (.s (.int .i64 zb.1)))]) (fun _ => S) (fun zb => l.length - zb.1) ⟨0, Nat.zero_le _, rfl⟩ okL rfl ?_
 rintro ⟨i, hi, hinv⟩; dsimp only
 by_cases hlt : i < l.length
 ·have hlt' : ((i : Nat) : Int).toNat < l.length := hlt
  have hinv : (cov1 p (l[((i : Nat) : Int).toNat]'hlt') || (l.drop (i + 1)).any (cov1 p)) = zda l p := (zwn hlt).symm.trans hinv
  rcases zy7 p (l[((i : Nat) : Int).toNat]'hlt') with ⟨g1, g2⟩ | ⟨g1, g2⟩
  ·rw [g2, Bool.false_or] at hinv
   repeat' ((conv => whnf) <;> first
    | rw [zad (by omega)] | (show CondP _ _ _; refine cS ?_) | refine cF ?_ | refine rI aN rf ix ?_ | refine zaf aN tv ix ?_)
   all_goals first
    | (refine ⟨⟨i + 1, by omega, hinv⟩, ?_, rfl, by simp; omega⟩; (conv => whnf); repeat' (first | exact trivial | exact rfl | apply And.intro))
    | (exfalso; omega)
  ·cases hg : cov1 p (l[((i : Nat) : Int).toNat]'hlt') with
   | true =>
     rw [hg, Bool.true_or] at hinv
     rw [hg] at g2
     rw [← hinv]
     repeat' ((conv => whnf) <;> first
      | (refine zaa (zgn p (l[((i : Nat) : Int).toNat]'hlt').Pattern _) ?_) | (show CondP _ _ _; refine cS ?_) | refine rI aN rf ix ?_ | refine zaf aN tv ix ?_ | refine And.intro ?_ ?_)
     all_goals first
      | rfl
      | (exfalso; omega)
   | false =>
     rw [hg, Bool.false_or] at hinv
     rw [hg] at g2
     repeat' ((conv => whnf) <;> first
      | (refine zaa (zgn p (l[((i : Nat) : Int).toNat]'hlt').Pattern _) ?_) | rw [zad (by omega)] | (show CondP _ _ _; refine cS ?_) | refine rI aN rf ix ?_ | refine zaf aN tv ix ?_)
     all_goals first
      | (refine ⟨⟨i + 1, by omega, hinv⟩, ?_, rfl, by simp; omega⟩; (conv => whnf); repeat' (first | exact trivial | exact rfl | apply And.intro))
      | (exfalso; omega)
 ·rw [zak (by omega), List.any_nil] at hinv
  rw [← hinv]
  repeat' ((conv => whnf) <;> first
   | (show CondP _ _ _; refine cS ?_) | refine And.intro ?_ ?_)
  all_goals first
   | rfl
   | (exfalso; omega)
def zgj (p : GPackage) : Bool := p.Rules.all fun r => zda p.Grants r.Pattern
def opsB (kind : Int) (l : List GOp) : List Int := (l.filter fun x : GOp => decide (x.Kind = kind)).map (·.B)
theorem zw1 (kind : Int) (l : List GOp) : (opsB kind l).length ≤ l.length := by unfold opsB; rw [List.length_map]; exact List.length_filter_le _ _
theorem z7e {kind : Int} {l : List GOp} {i : Nat} (h : i < l.length) (hb : (l[i]).Kind = kind) : opsB kind (l.take (i + 1)) = opsB kind (l.take i) ++ [(l[i]).B] := by
 unfold opsB; rw [zcz h (by simpa using hb), List.map_append]; rfl
theorem z6q {kind : Int} {l : List GOp} {i : Nat} (h : i < l.length) (hb : ¬ (l[i]).Kind = kind) : opsB kind (l.take (i + 1)) = opsB kind (l.take i) := by
 unfold opsB; rw [zc0 h (by simpa using hb)]
def zb5 (l : List GOp) (kind : Int) : List Int := if zcv l then ordL (opsB kind l) else []
theorem zmu (l : List GOp) (kind : Int) (c : C) (S : Store) (h : Rd S [.sl 4 (l.map GOp.d)] [c]) : EvA Tryz.prog 218 [.s c, .s (.int .i64 kind)] S (fun r S' => Ext S S' ∧ ∃ d, r = .v (.s d) ∧ Fr S.length S' [.sl 1 ((zb5 l kind).map dInt)] [d]) := by
 rcases ho : zcv l with _ | _
 ·rw [show zb5 l kind = [] from by unfold zb5; rw [ho]; rfl]
  refine zac tok Tryz.func218 (by kernel_rfl) rfl ?_
  repeat' ((conv => whnf) <;> first
   | (show CondP _ _ _; refine cS ?_) | refine zaa (zdu _ _ _ rdA) ?_ | refine And.intro ?_ ?_)
  all_goals first
   | exact Ext.push _ _
   | exact ⟨_, rfl, zba⟩
   | (exfalso; simp_all; done)
 ·rw [show zb5 l kind = ordL (opsB kind l) from by unfold zb5; rw [ho]; rfl]
  obtain ⟨hall, hl16⟩ := zum ho
  refine zac tok Tryz.func218 (by kernel_rfl) rfl ?_
  repeat' ((conv => whnf) <;> first
   | (show CondP _ _ _; refine cS ?_) | refine zaa (zdu _ _ _ rdA) ?_ | refine rE fun hml => ?_)
  all_goals try (exfalso; simp_all; done)
  (conv => whnf)
  refine zag {p : Nat × Store × C // p.1 ≤ l.length ∧ Ext S p.2.1 ∧ Fr S.length p.2.1 [.sl 1 ((opsB kind (l.take p.1)).map dInt)] [p.2.2] ∧ (opsB kind (l.take p.1) = [] → p.2.2 = .sl S.length 0 0 0)} [5, 7, 15, 16, 17, 18, 19, 20, 21, 22, 23, 24, 25, 26, 27, 28] (fun zb => [(15, .v (.s (.int .i64 zb.1.1))), (5, .v (.s zb.1.2.2))]) (fun zb => zb.1.2.1) (fun zb => l.length - zb.1.1) ⟨(0, _, _), Nat.zero_le _, Ext.push _ _, zba, fun _ => rfl⟩ okL rfl ?_
  rintro ⟨⟨i, Si, ci⟩, hi, hE, hF, hc⟩; dsimp only
  replace hi : i ≤ l.length := hi
  replace hE : Ext S Si := hE
  replace hF : Fr S.length Si [.sl 1 ((opsB kind (l.take i)).map dInt)] [ci] := hF
  replace hc : opsB kind (l.take i) = [] → ci = .sl S.length 0 0 0 := hc
  have hb1 := zw1 kind (l.take i)
  rw [List.length_take] at hb1
  have hbr := h.ext hE
  by_cases hlt : i < l.length
  ·by_cases hk : (l[((i : Nat) : Int).toNat]'hlt).Kind = kind
   ·have hp : opsB kind (l.take (i + 1)) = opsB kind (l.take i) ++ [(l[((i : Nat) : Int).toNat]'hlt).B] := z7e hlt hk
    repeat' ((conv => whnf) <;> first
     | rw [zad (by omega)] | (show CondP _ _ _; refine cS ?_) | refine rI rdA rf ix ?_ | refine zaf rdA tv ix ?_ | (refine zdc (f := dInt) (x := (l[((i : Nat) : Int).toNat]'hlt).B) hF hE tv (by rfl) rf (by dsimp only [T3]; omega) om ?_; intro cN SN hEN hFN))
    all_goals first
     | (exfalso; omega)
     | (refine ⟨⟨(i + 1, _, _), by dsimp only; omega, by assumption, by rw [hp]; assumption, by dsimp only; rw [hp]; intro hh; simp at hh⟩, ?_, rfl, by dsimp only; omega⟩; (conv => whnf); repeat' (first | exact trivial | exact rfl | (show _ = _; congr 3; dsimp only; omega) | apply And.intro))
   ·have hp : opsB kind (l.take (i + 1)) = opsB kind (l.take i) := z6q hlt hk
    repeat' ((conv => whnf) <;> first
     | rw [zad (by omega)] | (show CondP _ _ _; refine cS ?_) | refine rI rdA rf ix ?_ | refine zaf rdA tv ix ?_)
    all_goals first
     | (exfalso; omega)
     | (refine ⟨⟨(i + 1, _, _), by dsimp only; omega, hE, by rw [hp]; exact hF, by dsimp only; rw [hp]; exact hc⟩, ?_, rfl, by dsimp only; omega⟩; (conv => whnf); repeat' (first | exact trivial | exact rfl | (show _ = _; congr 3; dsimp only; omega) | apply And.intro))
  ·have htk : l.take i = l := List.take_of_length_le (by omega)
   rw [htk] at hF hc
   have hb3 := zw1 kind l
   repeat' ((conv => whnf) <;> first
    | (show CondP _ _ _; refine cS ?_))
   all_goals try (exfalso; omega)
   (conv => whnf)
   refine zab (zx9 (opsB kind l) _ hE hF (fun hh => ⟨_, _, _, _, hc hh⟩) (by omega)) ?_; rintro _ S2 ⟨e2, c2, rfl, f2, _⟩
   repeat' ((conv => whnf) <;> first
    | refine And.intro ?_ ?_)
   all_goals first
    | exact e2
    | (exfalso; omega)
    | exact ⟨_, rfl, f2⟩
def addF (ext to : Int) (out : List GFlow) (o : Int) : List GFlow := if o = to ∨ (⟨ext, o, to⟩ : GFlow) ∈ out then out else out ++ [⟨ext, o, to⟩]
def zfn (ext : Int) (out : List GFlow) (s : GSent) : List GFlow := (zbe s.Label).foldl (addF ext s.To) out
def zfq (l : List GOp) (ext : Int) : List GFlow := if zcv l then (mach [] l).1.foldl (zfn ext) [] else []
theorem z37 (ext to : Int) (out : List GFlow) (o : Int) : (addF ext to out o).length ≤ out.length + 1 := by
 unfold addF; split
 ·omega
 ·simp
theorem zk0 (ext to : Int) : ∀ (x : List Int) (out : List GFlow), (x.foldl (addF ext to) out).length ≤ out.length + x.length
 | [], out => Nat.le_refl _
 | o :: x, out => by
   have h1 := zk0 ext to x (addF ext to out o)
   have h2 := z37 ext to out o
   rw [List.foldl_cons, List.length_cons]; omega
theorem zio (ext : Int) : ∀ (x : List GSent) (out : List GFlow), (x.foldl (zfn ext) out).length ≤ out.length + 9 * x.length
 | [], out => Nat.le_refl _
 | s :: x, out => by
   have h1 := zio ext x (zfn ext out s)
   have h2 := zk0 ext s.To (zbe s.Label) out
   have h3 := zei s.Label
   rw [List.foldl_cons, List.length_cons]
   have h4 : (zfn ext out s).length ≤ out.length + (zbe s.Label).length := h2
   omega
theorem zlf {α β : Type} (f : β → α → β) (a : β) {l : List α} {i : Nat} (h : i < l.length) : (l.take (i + 1)).foldl f a = f ((l.take i).foldl f a) l[i] := by
 rw [List.take_succ_eq_append_getElem h, List.foldl_append]; rfl
theorem z1t (l : List GOp) (ext : Int) (c : C) (S : Store) (h : Rd S [.sl 4 (l.map GOp.d)] [c]) : EvA Tryz.prog 220 [.s c, .s (.int .i64 ext)] S (fun r S' => Ext S S' ∧ ∃ d, r = .v (.s d) ∧ Fr S.length S' [.sl 3 ((zfq l ext).map GFlow.d)] [d]) := by
 rcases ho : zcv l with _ | _
 ·rw [show zfq l ext = [] from by unfold zfq; rw [ho]; rfl]
  refine zac tok Tryz.func220 (by kernel_rfl) rfl ?_
  repeat' ((conv => whnf) <;> first
   | (show CondP _ _ _; refine cS ?_) | refine zaa (zdu _ _ _ rdA) ?_ | refine And.intro ?_ ?_)
  all_goals first
   | exact Ext.push _ _
   | exact ⟨_, rfl, zba⟩
   | (exfalso; simp_all; done)
 ·rw [show zfq l ext = (mach [] l).1.foldl (zfn ext) [] from by unfold zfq; rw [ho]; rfl]
  have hml := zmh [] ho
  refine zac tok Tryz.func220 (by kernel_rfl) rfl ?_
  repeat' ((conv => whnf) <;> first
   | (show CondP _ _ _; refine cS ?_) | refine zaa (zdu _ _ _ rdA) ?_)
  all_goals try (exfalso; simp_all; done)
  (conv => whnf)
  refine zab (zni l [] _ _ _ (h.ext (Ext.push _ _)) ((za6 (lo := 0) (by first | exact .inl rfl | exact .inr rfl)).rd) ho) ?_; rintro _ S1 ⟨e1, c3, c4, rfl, f1⟩
  have f0 := (zba (S := S) (k := 3)).join e1 f1 (Ext.push S _).len
  have E1 : Ext S S1 := (Ext.push _ _).trans e1
  generalize (mach [] l).1 = x at *
  generalize (mach [] l).2.2 = lb at *
  have r1 := f0.rdAt (o := 1) (d := .sl 3 (x.map GSent.d)) rfl rfl
  repeat' ((conv => whnf) <;> first
   | refine rE fun hml => ?_)
  (conv => whnf)
  refine zag {p : Nat × Store × C // p.1 ≤ x.length ∧ Ext S p.2.1 ∧ Fr S.length p.2.1 [.sl 3 (((x.take p.1).foldl (zfn ext) []).map GFlow.d), .sl 3 (x.map GSent.d), .sl 1 (lb.map dInt)] [p.2.2, c3, c4]} [5, 9, 11, 12, 25, 26, 27, 28, 29, 30, 31, 32, 33, 34, 35, 36, 37, 38, 39, 40, 41, 42, 43, 44, 45, 46, 47, 48, 49, 50, 51, 52, 53, 54, 55, 56, 57] (fun zb => [(25, .v (.s (.int .i64 zb.1.1))), (5, .v (.s zb.1.2.2))]) (fun zb => zb.1.2.1) (fun zb => x.length - zb.1.1) ⟨(0, _, _), Nat.zero_le _, E1, f0⟩ okL rfl ?_
  rintro ⟨⟨i, Si, ci⟩, hi, hE, hF⟩; dsimp only
  replace hi : i ≤ x.length := hi
  replace hE : Ext S Si := hE
  replace hF : Fr S.length Si [.sl 3 (((x.take i).foldl (zfn ext) []).map GFlow.d), .sl 3 (x.map GSent.d), .sl 1 (lb.map dInt)] [ci, c3, c4] := hF
  have r2 := hF.rdAt (o := 1) (d := .sl 3 (x.map GSent.d)) rfl rfl
  have hol := zio ext (x.take i) []
  rw [List.length_take, List.length_nil] at hol
  by_cases hlt : i < x.length
  ·have hst : (x.take (i + 1)).foldl (zfn ext) [] = (zbe (x[((i : Nat) : Int).toNat]'hlt).Label).foldl (addF ext (x[((i : Nat) : Int).toNat]'hlt).To) ((x.take i).foldl (zfn ext) []) := zlf (zfn ext) [] hlt
   have hyl := zei (x[((i : Nat) : Int).toNat]'hlt).Label
   repeat' ((conv => whnf) <;> first
    | (show CondP _ _ _; refine cS ?_) | refine rI rdA rf ix ?_ | refine zaf rdA tv ix ?_)
   all_goals try (exfalso; omega)
   (conv => whnf)
   refine zab (zib (x[((i : Nat) : Int).toNat]'hlt).Label _) ?_; rintro _ S2 ⟨e2, cy, rfl, f2⟩
   have f3 := hF.join e2 f2 hE.len
   have E2 := hE.trans e2
   generalize (x.take i).foldl (zfn ext) [] = o0 at *
   generalize zbe (x[((i : Nat) : Int).toNat]'hlt).Label = y at *
   have r3 := f3.rdAt (o := 3) (d := .sl 1 (y.map dInt)) rfl rfl
   clear f2 hF
   repeat' ((conv => whnf) <;> first
    | refine rE fun hml => ?_)
   (conv => whnf)
   refine zag {p : Nat × Store × C // p.1 ≤ y.length ∧ Ext S p.2.1 ∧ Fr S.length p.2.1 [.sl 3 (((y.take p.1).foldl (addF ext (x[((i : Nat) : Int).toNat]'hlt).To) o0).map GFlow.d), .sl 3 (x.map GSent.d), .sl 1 (lb.map dInt), .sl 1 (y.map dInt)] [p.2.2, c3, c4, cy]} [5, 11, 12, 33, 34, 35, 36, 37, 38, 39, 40, 41, 42, 43, 44, 45, 46, 47, 48, 49, 50, 51, 52, 53, 54, 55, 56] (fun zb => [(33, .v (.s (.int .i64 zb.1.1))), (5, .v (.s zb.1.2.2))]) (fun zb => zb.1.2.1) (fun zb => y.length - zb.1.1) ⟨(0, _, _), Nat.zero_le _, E2, f3⟩ okL rfl ?_
   rintro ⟨⟨j, Sj, cj⟩, hj, hEj, hFj⟩; dsimp only
   replace hj : j ≤ y.length := hj
   replace hEj : Ext S Sj := hEj
   replace hFj : Fr S.length Sj [.sl 3 (((y.take j).foldl (addF ext (x[((i : Nat) : Int).toNat]'hlt).To) o0).map GFlow.d), .sl 3 (x.map GSent.d), .sl 1 (lb.map dInt), .sl 1 (y.map dInt)] [cj, c3, c4, cy] := hFj
   have r4 := hFj.rdAt (o := 3) (d := .sl 1 (y.map dInt)) rfl rfl
   have r5 := hFj.rdAt (o := 0) rfl rfl
   have hpl := zk0 ext (x[((i : Nat) : Int).toNat]'hlt).To (y.take j) o0
   rw [List.length_take] at hpl
   clear f3 e1 e2 r1 r2 r3 f0 E1 E2
   by_cases hjl : j < y.length
   ·have hjs := zlf (addF ext (x[((i : Nat) : Int).toNat]'hlt).To) o0 hjl
    generalize (y.take j).foldl (addF ext (x[((i : Nat) : Int).toNat]'hlt).To) o0 = o1 at *
    by_cases h1 : (y[((j : Nat) : Int).toNat]'hjl) = (x[((i : Nat) : Int).toNat]'hlt).To
    ·have hp : (y.take (j + 1)).foldl (addF ext (x[((i : Nat) : Int).toNat]'hlt).To) o0 = o1 := hjs.trans (if_pos (.inl h1))
     repeat' ((conv => whnf) <;> first
      | rw [zad (by omega)] | (show CondP _ _ _; refine cS ?_) | refine cF ?_ | refine rI rdA rf ix ?_ | refine zaf rdA tv ix ?_)
     all_goals first
      | (exfalso; omega)
      | (refine ⟨⟨(j + 1, _, _), by dsimp only; omega, hEj, by rw [hp]; exact hFj⟩, ?_, rfl, by dsimp only; omega⟩; (conv => whnf); repeat' (first | exact trivial | exact rfl | (show _ = _; congr 3; dsimp only; omega) | apply And.intro))
    ·by_cases h2 : (⟨ext, y[((j : Nat) : Int).toNat]'hjl, (x[((i : Nat) : Int).toNat]'hlt).To⟩ : GFlow) ∈ o1
     ·have hp : (y.take (j + 1)).foldl (addF ext (x[((i : Nat) : Int).toNat]'hlt).To) o0 = o1 := hjs.trans (if_pos (.inr h2))
      have h2d : decide ((⟨ext, y[((j : Nat) : Int).toNat]'hjl, (x[((i : Nat) : Int).toNat]'hlt).To⟩ : GFlow) ∈ o1) = true := decide_eq_true h2
      repeat' ((conv => whnf) <;> first
       | (refine zaa (zfs o1 ⟨ext, y[((j : Nat) : Int).toNat]'hjl, (x[((i : Nat) : Int).toNat]'hlt).To⟩ _ _ r5) ?_) | rw [zad (by omega)] | (show CondP _ _ _; refine cS ?_) | refine rI rdA rf ix ?_ | refine zaf rdA tv ix ?_)
      all_goals first
       | (exfalso; omega)
       | (refine ⟨⟨(j + 1, _, _), by dsimp only; omega, hEj, by rw [hp]; exact hFj⟩, ?_, rfl, by dsimp only; omega⟩; (conv => whnf); repeat' (first | exact trivial | exact rfl | (show _ = _; congr 3; dsimp only; omega) | apply And.intro))
     ·have hp : (y.take (j + 1)).foldl (addF ext (x[((i : Nat) : Int).toNat]'hlt).To) o0 = o1 ++ [⟨ext, y[((j : Nat) : Int).toNat]'hjl, (x[((i : Nat) : Int).toNat]'hlt).To⟩] := hjs.trans (if_neg (fun hh => hh.elim h1 h2))
      have h2d : decide ((⟨ext, y[((j : Nat) : Int).toNat]'hjl, (x[((i : Nat) : Int).toNat]'hlt).To⟩ : GFlow) ∈ o1) = false := decide_eq_false h2
      repeat' ((conv => whnf) <;> first
       | (refine zaa (zfs o1 ⟨ext, y[((j : Nat) : Int).toNat]'hjl, (x[((i : Nat) : Int).toNat]'hlt).To⟩ _ _ r5) ?_) | rw [zad (by omega)] | (show CondP _ _ _; refine cS ?_) | refine rI rdA rf ix ?_ | refine zaf rdA tv ix ?_ | (refine zcq (f := GFlow.d) (o := 0) (l := o1) (m := [⟨ext, y[((j : Nat) : Int).toNat]'hjl, (x[((i : Nat) : Int).toNat]'hlt).To⟩]) (fun _ => trivial) hEj hFj rfl rfl (by rfl) rf (by dsimp only [T199]; simp only [List.length_cons, List.length_nil]; omega) (by simp only [List.length_cons, List.length_nil]; omega) ?_; intro cN SN hEN hFN hlN))
      all_goals first
       | (exfalso; omega)
       | (refine ⟨⟨(j + 1, _, _), by dsimp only; omega, by assumption, by rw [hp]; exact hFN⟩, ?_, rfl, by dsimp only; omega⟩; (conv => whnf); repeat' (first | exact trivial | exact rfl | (show _ = _; congr 3; dsimp only; omega) | apply And.intro))
   ·rw [List.take_of_length_le (by omega), ← hst] at hFj
    repeat' ((conv => whnf) <;> first
     | rw [zad (by omega)] | (show CondP _ _ _; refine cS ?_))
    all_goals first
     | (exfalso; omega)
     | (refine ⟨⟨(i + 1, _, _), by dsimp only; omega, hEj, Fr.left (ds := [_, _, _]) (cs := [_, _, _]) hFj rfl⟩, ?_, rfl, by dsimp only; omega⟩; (conv => whnf); repeat' (first | exact trivial | exact rfl | (show _ = _; congr 3; dsimp only; omega) | apply And.intro))
  ·rw [List.take_of_length_le (by omega)] at hF
   repeat' ((conv => whnf) <;> first
    | (show CondP _ _ _; refine cS ?_) | refine And.intro ?_ ?_)
   all_goals first
    | exact hE
    | (exfalso; omega)
    | exact ⟨_, rfl, Fr.left (ds := [_]) (cs := [_]) hF rfl⟩
theorem zy8 {ext : Int} {out : List GFlow} {x : GOp} {v b : List Int} (h : ¬ x.Kind = 5) : (opS x v b).foldl (zfn ext) out = out := by unfold opS; rw [if_neg h]; rfl
theorem z0u {ext : Int} {out : List GFlow} {x : GOp} {v b : List Int} (h : x.Kind = 5) : (opS x v b).foldl (zfn ext) out = (zbe (zdk x v b).Label).foldl (addF ext (zdk x v b).To) out := by unfold opS; rw [if_pos h]; rfl
set_option maxHeartbeats 4000000 in
theorem zsx (l : List GOp) (ext : Int) (c : C) (S : Store) (h : Rd S [.sl 4 (l.map GOp.d)] [c]) : EvA Tryz.prog 168 [.s c, .s (.int .i64 ext)] S (fun r S' => Ext S S' ∧ ∃ d, r = .v (.s d) ∧ Fr S.length S' [.sl 3 ((zfq l ext).map GFlow.d)] [d]) := by
 refine zac tok Tryz.func168 (by kernel_rfl) rfl ?_
 skip
 (conv => whnf)
 refine zab (zob _) ?_; rintro _ S1 ⟨e1, cv, rfl, f1⟩
 skip
 (conv => whnf)
 refine zab (zob _) ?_; rintro _ S2 ⟨e2, cb, rfl, f2⟩
 have f0 : Fr S.length S2 [.sl 3 [], .sl 1 (zdx.map dInt), .sl 1 (zdx.map dInt)] [.sl S.length 0 0 0, cv, cb] := ((zba (S := S) (k := 3)).join e1 f1 (Ext.push S _).len).join e2 f2 ((Ext.push S _).trans e1).len
 have E2 : Ext S S2 := ((Ext.push _ _).trans e1).trans e2
 clear f1 f2
 rcases ho : zcv l with _ | _
 ·rw [show zfq l ext = [] from by unfold zfq; rw [ho]; rfl]
  skip
  (conv => whnf)
  refine zag Unit [5, 8, 9, 10, 11, 12, 13, 17, 18, 19, 20, 21, 22, 23, 24, 25, 26, 27, 28, 29, 30, 31, 32, 33, 34, 35, 36, 37, 38, 39, 40, 41, 42, 43, 44, 45, 46, 47, 48, 49, 50, 51, 52, 53, 54, 55, 56, 57, 58, 59, 60, 61, 62, 63, 64, 65, 66, 67, 68, 69, 70, 71, 72, 73, 74] (fun _ => [(8, .v (.s (.int .i64 0))), (5, .v (.s (.sl S.length 0 0 0)))]) (fun _ => S2) (fun _ => 0) () okL rfl ?_
  intro _; dsimp only
  repeat' ((conv => whnf) <;> first
   | (show CondP _ _ _; refine cS ?_) | refine cD (fun _ => ?_) fun _ => ?_ | refine cF ?_ | refine zaa (zle _ _ _ rdA) ?_ | refine rE fun hml => ?_ | refine And.intro ?_ ?_)
  all_goals first
   | exact E2
   | exact ⟨_, rfl, Fr.left (ds := [_]) (cs := [_]) f0 rfl⟩
   | (exfalso; omega)
   | (exfalso; simp_all; done)
 ·rw [show zfq l ext = (mach [] l).1.foldl (zfn ext) [] from by unfold zfq; rw [ho]; rfl]
  obtain ⟨hall, hl16⟩ := zum ho
  skip
  (conv => whnf)
  refine zag {p : Nat × Store × C // p.1 ≤ l.length ∧ Ext S p.2.1 ∧ Fr S.length p.2.1 [.sl 3 (((mach [] (l.take p.1)).1.foldl (zfn ext) []).map GFlow.d), .sl 1 ((mach [] (l.take p.1)).2.1.map dInt), .sl 1 ((mach [] (l.take p.1)).2.2.map dInt)] [p.2.2, cv, cb]} [5, 8, 9, 10, 11, 12, 13, 17, 18, 19, 20, 21, 22, 23, 24, 25, 26, 27, 28, 29, 30, 31, 32, 33, 34, 35, 36, 37, 38, 39, 40, 41, 42, 43, 44, 45, 46, 47, 48, 49, 50, 51, 52, 53, 54, 55, 56, 57, 58, 59, 60, 61, 62, 63, 64, 65, 66, 67, 68, 69, 70, 71, 72, 73, 74] (fun zb => [(8, .v (.s (.int .i64 zb.1.1))), (5, .v (.s zb.1.2.2))]) (fun zb => zb.1.2.1) (fun zb => l.length - zb.1.1) ⟨(0, _, _), Nat.zero_le _, E2, f0⟩ okL rfl ?_
  rintro ⟨⟨i, Si, ci⟩, hi, hE, hF⟩; dsimp only
  replace hi : i ≤ l.length := hi
  replace hE : Ext S Si := hE
  replace hF : Fr S.length Si [.sl 3 (((mach [] (l.take i)).1.foldl (zfn ext) []).map GFlow.d), .sl 1 ((mach [] (l.take i)).2.1.map dInt), .sl 1 ((mach [] (l.take i)).2.2.map dInt)] [ci, cv, cb] := hF
  obtain ⟨g, gl⟩ := zkd (values := []) hall i hi
  clear E2 f0 e1 e2
  by_cases hlt : i < l.length
  ·have hmt := zny (values := []) hlt
   rcases hM : mach [] (l.take i) with ⟨se, v, b⟩
   rw [hM] at hF g gl hmt
   dsimp only at hF g gl
   have hol := zio ext se []
   rw [List.length_nil] at hol
   have hX : isOp (l[((i : Nat) : Int).toNat]'hlt) = true := hall _ (List.getElem_mem _)
   have hmt2 : mach [] (l.take (i + 1)) = (se ++ opS (l[((i : Nat) : Int).toNat]'hlt) v b, opV [] (l[((i : Nat) : Int).toNat]'hlt) v, opL (l[((i : Nat) : Int).toNat]'hlt) b) := hmt
   repeat' ((conv => whnf) <;> first
    | (show CondP _ _ _; refine cS ?_) | refine zaa (zle _ _ _ rdA) ?_ | refine rE fun hml => ?_ | refine rI rdA rf ix ?_ | refine zaf rdA tv ix ?_)
   all_goals try (exfalso; omega)
   (conv => whnf)
   refine zab (zx4 (l[((i : Nat) : Int).toNat]'hlt) [] v b _ _ (.sl Si.length 0 0 0) _ _ _ _ (hE.trans (Ext.push _ _)) (hF.ext (Ext.push _ _)) zba.rd hX g) ?_; rintro _ S5 ⟨e5, f5, rfl⟩
   skip
   (conv => whnf)
   refine zab (zh8 (zdk (l[((i : Nat) : Int).toNat]'hlt) v b).Label _) ?_; rintro _ S6 ⟨e6, cy, rfl, f6⟩
   have f7 := f5.join e6 f6 e5.len
   have E7 := e5.trans e6
   clear f6 f5
   by_cases hk : (l[((i : Nat) : Int).toNat]'hlt).Kind = 5
   ·have hd : decide ((l[((i : Nat) : Int).toNat]'hlt).Kind = 5) = true := decide_eq_true hk
    rw [hd]
    have hst : (se ++ opS (l[((i : Nat) : Int).toNat]'hlt) v b).foldl (zfn ext) [] = (zbe (zdk (l[((i : Nat) : Int).toNat]'hlt) v b).Label).foldl (addF ext (zdk (l[((i : Nat) : Int).toNat]'hlt) v b).To) (se.foldl (zfn ext) []) := by rw [List.foldl_append, z0u hk]
    have hyl := zei (zdk (l[((i : Nat) : Int).toNat]'hlt) v b).Label
    generalize zdk (l[((i : Nat) : Int).toNat]'hlt) v b = sn at *
    generalize se.foldl (zfn ext) [] = o0 at *
    generalize zbe sn.Label = y at *
    generalize opV [] (l[((i : Nat) : Int).toNat]'hlt) v = v' at *
    generalize opL (l[((i : Nat) : Int).toNat]'hlt) b = b' at *
    have r3 := f7.rdAt (o := 3) (d := .sl 1 (y.map dInt)) rfl rfl
    skip
    (conv => whnf)
    refine zag {p : Nat × Store × C // p.1 ≤ y.length ∧ Ext S p.2.1 ∧ Fr S.length p.2.1 [.sl 3 (((y.take p.1).foldl (addF ext sn.To) o0).map GFlow.d), .sl 1 (v'.map dInt), .sl 1 (b'.map dInt), .sl 1 (y.map dInt)] [p.2.2, cv, cb, cy]} [5, 12, 13, 41, 42, 43, 44, 45, 46, 47, 48, 49, 50, 51, 52, 53, 54, 55, 56, 57, 58, 59, 60, 61, 62, 63, 64, 65, 66, 67, 68, 69, 70, 71, 72, 73, 74] (fun zb => [(12, .v (.s (.int .i64 zb.1.1))), (5, .v (.s zb.1.2.2))]) (fun zb => zb.1.2.1) (fun zb => y.length - zb.1.1) ⟨(0, _, _), Nat.zero_le _, E7, f7⟩ okL rfl ?_
    rintro ⟨⟨j, Sj, cj⟩, hj, hEj, hFj⟩; dsimp only
    replace hj : j ≤ y.length := hj
    replace hEj : Ext S Sj := hEj
    replace hFj : Fr S.length Sj [.sl 3 (((y.take j).foldl (addF ext sn.To) o0).map GFlow.d), .sl 1 (v'.map dInt), .sl 1 (b'.map dInt), .sl 1 (y.map dInt)] [cj, cv, cb, cy] := hFj
    have r4 := hFj.rdAt (o := 3) (d := .sl 1 (y.map dInt)) rfl rfl
    have r5 := hFj.rdAt (o := 0) rfl rfl
    have hpl := zk0 ext sn.To (y.take j) o0
    rw [List.length_take] at hpl
    clear r3 f7 E7 e5 e6
    by_cases hjl : j < y.length
    ·have hjs := zlf (addF ext sn.To) o0 hjl
     generalize (y.take j).foldl (addF ext sn.To) o0 = o1 at *
     by_cases h1 : (y[((j : Nat) : Int).toNat]'hjl) = sn.To
     ·have hp : (y.take (j + 1)).foldl (addF ext sn.To) o0 = o1 := hjs.trans (if_pos (.inl h1))
      repeat' ((conv => whnf) <;> first
       | rw [zad (by omega)] | (show CondP _ _ _; refine cS ?_) | refine cT ?_ | refine cF ?_ | refine rE fun hml => ?_ | refine rI rdA rf ix ?_ | refine zaf rdA tv ix ?_ | refine zae 50 (iN 10 0 [9]) (by rfl) (by kernel_rfl) ?_ | refine zae 58 (iN 13 0 [10]) (by rfl) (by kernel_rfl) ?_)
      all_goals first
       | (exfalso; omega)
       | (refine ⟨⟨(j + 1, _, _), by dsimp only; omega, hEj, by rw [hp]; exact hFj⟩, ?_, rfl, by dsimp only; omega⟩; (conv => whnf); repeat' (first | exact trivial | exact rfl | (show _ = _; congr 3; dsimp only; omega) | apply And.intro))
     ·by_cases h2 : (⟨ext, y[((j : Nat) : Int).toNat]'hjl, sn.To⟩ : GFlow) ∈ o1
      ·have hp : (y.take (j + 1)).foldl (addF ext sn.To) o0 = o1 := hjs.trans (if_pos (.inr h2))
       have h2d : decide ((⟨ext, y[((j : Nat) : Int).toNat]'hjl, sn.To⟩ : GFlow) ∈ o1) = true := decide_eq_true h2
       repeat' ((conv => whnf) <;> first
        | (refine zaa (zsb o1 ⟨ext, y[((j : Nat) : Int).toNat]'hjl, sn.To⟩ _ _ r5) ?_) | rw [zad (by omega)] | (show CondP _ _ _; refine cS ?_) | refine cT ?_ | refine rE fun hml => ?_ | refine rI rdA rf ix ?_ | refine zaf rdA tv ix ?_ | refine zae 50 (iN 10 0 [9]) (by rfl) (by kernel_rfl) ?_ | refine zae 58 (iN 13 0 [10]) (by rfl) (by kernel_rfl) ?_)
       all_goals first
        | (exfalso; omega)
        | (refine ⟨⟨(j + 1, _, _), by dsimp only; omega, hEj, by rw [hp]; exact hFj⟩, ?_, rfl, by dsimp only; omega⟩; (conv => whnf); repeat' (first | exact trivial | exact rfl | (show _ = _; congr 3; dsimp only; omega) | apply And.intro))
      ·have hp : (y.take (j + 1)).foldl (addF ext sn.To) o0 = o1 ++ [⟨ext, y[((j : Nat) : Int).toNat]'hjl, sn.To⟩] := hjs.trans (if_neg (fun hh => hh.elim h1 h2))
       have h2d : decide ((⟨ext, y[((j : Nat) : Int).toNat]'hjl, sn.To⟩ : GFlow) ∈ o1) = false := decide_eq_false h2
       repeat' ((conv => whnf) <;> first
        | (refine zaa (zsb o1 ⟨ext, y[((j : Nat) : Int).toNat]'hjl, sn.To⟩ _ _ r5) ?_) | rw [zad (by omega)] | (show CondP _ _ _; refine cS ?_) | refine cT ?_ | refine rE fun hml => ?_ | refine rI rdA rf ix ?_ | refine zaf rdA tv ix ?_ | refine zae 50 (iN 10 0 [9]) (by rfl) (by kernel_rfl) ?_ | refine zae 58 (iN 13 0 [10]) (by rfl) (by kernel_rfl) ?_ | (refine zcq (f := GFlow.d) (o := 0) (l := o1) (m := [⟨ext, y[((j : Nat) : Int).toNat]'hjl, sn.To⟩]) (fun _ => trivial) hEj hFj rfl rfl (by rfl) rf (by dsimp only [T199]; simp only [List.length_cons, List.length_nil]; omega) (by simp only [List.length_cons, List.length_nil]; omega) ?_; intro cN SN hEN hFN hlN))
       all_goals first
        | (exfalso; omega)
        | (refine ⟨⟨(j + 1, _, _), by dsimp only; omega, by assumption, by rw [hp]; exact hFN⟩, ?_, rfl, by dsimp only; omega⟩; (conv => whnf); repeat' (first | exact trivial | exact rfl | (show _ = _; congr 3; dsimp only; omega) | apply And.intro))
    ·rw [List.take_of_length_le (by omega), ← hst] at hFj
     repeat' ((conv => whnf) <;> first
      | rw [zad (by omega)] | (show CondP _ _ _; refine cS ?_) | refine cF ?_ | refine rE fun hml => ?_)
     all_goals first
      | (exfalso; omega)
      | (refine ⟨⟨(i + 1, _, _), by dsimp only; omega, hEj, by rw [hmt2]; exact Fr.left (ds := [_, _, _]) (cs := [_, _, _]) hFj rfl⟩, ?_, rfl, by dsimp only; omega⟩; (conv => whnf); repeat' (first | exact trivial | exact rfl | (show _ = _; congr 3; dsimp only; omega) | apply And.intro))
   ·have hd : decide ((l[((i : Nat) : Int).toNat]'hlt).Kind = 5) = false := decide_eq_false hk
    rw [hd]
    have hst : (se ++ opS (l[((i : Nat) : Int).toNat]'hlt) v b).foldl (zfn ext) [] = se.foldl (zfn ext) [] := by rw [List.foldl_append, zy8 hk]
    have r3 := f7.rdAt (o := 3) rfl rfl
    skip
    (conv => whnf)
    refine zag Unit [5, 12, 13, 41, 42, 43, 44, 45, 46, 47, 48, 49, 50, 51, 52, 53, 54, 55, 56, 57, 58, 59, 60, 61, 62, 63, 64, 65, 66, 67, 68, 69, 70, 71, 72, 73, 74] (fun _ => [(12, .v (.s (.int .i64 0))), (5, .v (.s ci))]) (fun _ => S6) (fun _ => 0) () okL rfl ?_
    intro _; dsimp only
    repeat' ((conv => whnf) <;> first
     | rw [zad (by omega)] | refine cD (fun _ => ?_) fun _ => ?_ | refine cF ?_ | refine rE fun hml => ?_)
    all_goals first
     | (exfalso; omega)
     | (refine ⟨⟨(i + 1, _, _), by dsimp only; omega, E7, by rw [hmt2]; dsimp only; rw [hst]; exact Fr.left (ds := [_, _, _]) (cs := [_, _, _]) f7 rfl⟩, ?_, rfl, by dsimp only; omega⟩; (conv => whnf); repeat' (first | exact trivial | exact rfl | (show _ = _; congr 3; dsimp only; omega) | apply And.intro))
  ·rw [List.take_of_length_le (by omega)] at hF
   repeat' ((conv => whnf) <;> first
    | (show CondP _ _ _; refine cS ?_) | refine cF ?_ | refine rE fun hml => ?_ | refine And.intro ?_ ?_)
   all_goals first
    | exact hE
    | (exfalso; omega)
    | exact ⟨_, rfl, Fr.left (ds := [_]) (cs := [_]) hF rfl⟩
def zjc (b : List GFlow) (f : GFlow) : Bool := zel f && decide (f ∈ b)
def zjf (a b : List GFlow) : Bool := a.all (zjc b)
theorem zmv (a b : List GFlow) (c c' : C) (S : Store) (h : Rd S [.sl 3 (a.map GFlow.d)] [c]) (h' : Rd S [.sl 3 (b.map GFlow.d)] [c']) : EvA Tryz.prog 219 [.s c, .s c'] S (fun r S' => r = .v (.s (.bool (zjf a b))) ∧ S' = S) := by
 refine zac tok Tryz.func219 (by kernel_rfl) rfl ?_
 repeat' ((conv => whnf) <;> first
  | refine rE fun hml => ?_)
 refine zag {i : Nat // i ≤ a.length ∧ (a.drop i).all (zjc b) = zjf a b} [4, 6, 9, 10, 11, 12, 13, 14, 15, 16, 17, 18, 19, 20, 21, 22] (fun zb => [(9, .v (.s (.int .i64 zb.1)))]) (fun _ => S) (fun zb => a.length - zb.1) ⟨0, Nat.zero_le _, rfl⟩ okL rfl ?_
 rintro ⟨i, hi, hinv⟩; dsimp only
 by_cases hlt : i < a.length
 ·have hlt' : ((i : Nat) : Int).toNat < a.length := hlt
  have hinv : (zjc b (a[((i : Nat) : Int).toNat]'hlt') && (a.drop (i + 1)).all (zjc b)) = zjf a b := (zf7 hlt).symm.trans hinv
  cases h1 : zel (a[((i : Nat) : Int).toNat]'hlt') with
  | false =>
    rw [show zjc b (a[((i : Nat) : Int).toNat]'hlt') = false from by unfold zjc; rw [h1, Bool.false_and], Bool.false_and] at hinv
    rw [← hinv]
    repeat' ((conv => whnf) <;> first
     | (refine zaa (ze1 (a[((i : Nat) : Int).toNat]'hlt') _) ?_) | (show CondP _ _ _; refine cS ?_) | refine cT ?_ | refine rI aN rf ix ?_ | refine zaf aN tv ix ?_ | refine And.intro ?_ ?_)
    all_goals first
     | rfl
     | (exfalso; omega)
     | (exfalso; simp_all; done)
  | true =>
    by_cases h2 : a[((i : Nat) : Int).toNat]'hlt' ∈ b
    ·have h2d : decide (a[((i : Nat) : Int).toNat]'hlt' ∈ b) = true := decide_eq_true h2
     rw [show zjc b (a[((i : Nat) : Int).toNat]'hlt') = true from by unfold zjc; rw [h1, h2d]; rfl, Bool.true_and] at hinv
     repeat' ((conv => whnf) <;> first
      | (refine zaa (zfs b (a[((i : Nat) : Int).toNat]'hlt') _ _ h') ?_) | (refine zaa (ze1 (a[((i : Nat) : Int).toNat]'hlt') _) ?_) | rw [zad (by omega)] | (show CondP _ _ _; refine cS ?_) | refine rI aN rf ix ?_ | refine zaf aN tv ix ?_)
     all_goals first
      | (refine ⟨⟨i + 1, by omega, hinv⟩, ?_, rfl, by simp; omega⟩; (conv => whnf); repeat' (first | exact trivial | exact rfl | apply And.intro))
      | (exfalso; omega)
      | (exfalso; simp_all; done)
    ·have h2d : decide (a[((i : Nat) : Int).toNat]'hlt' ∈ b) = false := decide_eq_false h2
     rw [show zjc b (a[((i : Nat) : Int).toNat]'hlt') = false from by unfold zjc; rw [h1, h2d]; rfl, Bool.false_and] at hinv
     rw [← hinv]
     repeat' ((conv => whnf) <;> first
      | (refine zaa (zfs b (a[((i : Nat) : Int).toNat]'hlt') _ _ h') ?_) | (refine zaa (ze1 (a[((i : Nat) : Int).toNat]'hlt') _) ?_) | (show CondP _ _ _; refine cS ?_) | refine rI aN rf ix ?_ | refine zaf aN tv ix ?_ | refine And.intro ?_ ?_)
     all_goals first
      | rfl
      | (exfalso; omega)
      | (exfalso; simp_all; done)
 ·rw [zak (by omega), List.all_nil] at hinv
  rw [← hinv]
  repeat' ((conv => whnf) <;> first
   | (show CondP _ _ _; refine cS ?_) | refine And.intro ?_ ?_)
  all_goals first
   | rfl
   | (exfalso; omega)
def zfm (l : List GOp) (flows : List GFlow) (ext : Int) : Bool := zcv l && zjf (zfq l ext) flows
theorem z05 (l : List GOp) (flows : List GFlow) (ext : Int) (c c' : C) (S : Store) (h : Rd S [.sl 4 (l.map GOp.d)] [c]) (h' : Rd S [.sl 3 (flows.map GFlow.d)] [c']) : EvA Tryz.prog 146 [.s c, .s c', .s (.int .i64 ext)] S (fun r S' => r = .v (.s (.bool (zfm l flows ext))) ∧ S' = S) := by
 refine EvA.drop rfl ?_
 rcases ho : zcv l with _ | _
 ·rw [show zfm l flows ext = false from by unfold zfm; rw [ho]; rfl]
  refine zac tok Tryz.func146 (by kernel_rfl) rfl ?_
  repeat' ((conv => whnf) <;> first
   | (show CondP _ _ _; refine cS ?_) | refine zaa (zdu _ _ _ rdA) ?_ | refine And.intro ?_ ?_)
  all_goals first
   | rfl
   | exact Ext.refl _
   | (exfalso; simp_all; done)
 ·rw [show zfm l flows ext = zjf (zfq l ext) flows from by unfold zfm; rw [ho]; rfl]
  refine zac tok Tryz.func146 (by kernel_rfl) rfl ?_
  repeat' ((conv => whnf) <;> first
   | (show CondP _ _ _; refine cS ?_) | refine zaa (zdu _ _ _ rdA) ?_)
  all_goals try (exfalso; simp_all; done)
  (conv => whnf)
  refine zab (z1t l ext _ _ h) ?_; rintro _ S1 ⟨e1, c1, rfl, f1⟩
  have h1 := h'.ext e1
  repeat' ((conv => whnf) <;> first
   | (refine zaa (zmv (zfq l ext) flows _ _ _ f1.rd h1) ?_) | refine And.intro ?_ ?_)
  all_goals first
   | rfl
   | exact e1
theorem zou (l : List GOp) (c : C) (S : Store) (h : Rd S [.sl 4 (l.map GOp.d)] [c]) : EvA Tryz.prog 144 [.s c] S (fun r S' => Ext S S' ∧ ∃ d, r = .v (.s d) ∧ Fr S.length S' [.sl 1 ((zb5 l 1).map dInt)] [d]) := by
 refine zac tok Tryz.func144 (by kernel_rfl) rfl ?_
 (conv => whnf)
 refine zab (zmu l 1 _ _ h) ?_; rintro _ S1 ⟨e1, c1, rfl, f1⟩
 repeat' ((conv => whnf) <;> first
  | refine And.intro ?_ ?_)
 all_goals first
  | exact e1
  | exact ⟨_, rfl, f1⟩
theorem zog (l : List GOp) (c : C) (S : Store) (h : Rd S [.sl 4 (l.map GOp.d)] [c]) : EvA Tryz.prog 145 [.s c] S (fun r S' => Ext S S' ∧ ∃ d, r = .v (.s d) ∧ Fr S.length S' [.sl 1 ((zb5 l 5).map dInt)] [d]) := by
 refine zac tok Tryz.func145 (by kernel_rfl) rfl ?_
 (conv => whnf)
 refine zab (zmu l 5 _ _ h) ?_; rintro _ S1 ⟨e1, c1, rfl, f1⟩
 repeat' ((conv => whnf) <;> first
  | refine And.intro ?_ ?_)
 all_goals first
  | exact e1
  | exact ⟨_, rfl, f1⟩
def zcg (key : Int) (p : GPackage) : Int :=
 if zal p = true then
  if zb4 key p = true then
   if zgj p = true then
    if zj2 p.Grants 1 (zb5 p.Ops 1) = true then
     if zj2 p.Grants 3 (zb5 p.Ops 5) = true then
      if zfm p.Ops p.Flows p.Ext = true then 0 else 6
     else 5
    else 4
   else 3
  else 2
 else 1
theorem zto (key : Int) (p : GPackage) :
 (zal p = false ∧ zcg key p = 1) ∨
 (zal p = true ∧ zb4 key p = false ∧ zcg key p = 2) ∨
 (zal p = true ∧ zb4 key p = true ∧ zgj p = false ∧ zcg key p = 3) ∨
 (zal p = true ∧ zb4 key p = true ∧ zgj p = true ∧
  ((zj2 p.Grants 1 (zb5 p.Ops 1) = false ∧ zcg key p = 4) ∨
  (zj2 p.Grants 1 (zb5 p.Ops 1) = true ∧ zj2 p.Grants 3 (zb5 p.Ops 5) = false ∧ zcg key p = 5) ∨
  (zj2 p.Grants 1 (zb5 p.Ops 1) = true ∧ zj2 p.Grants 3 (zb5 p.Ops 5) = true ∧ zfm p.Ops p.Flows p.Ext = false ∧ zcg key p = 6) ∨
  (zj2 p.Grants 1 (zb5 p.Ops 1) = true ∧ zj2 p.Grants 3 (zb5 p.Ops 5) = true ∧ zfm p.Ops p.Flows p.Ext = true ∧ zcg key p = 0))) := by
 unfold zcg
 cases h1 : zal p <;> cases h2 : zb4 key p <;> cases h3 : zgj p <;> cases h4 : zj2 p.Grants 1 (zb5 p.Ops 1) <;> cases h5 : zj2 p.Grants 3 (zb5 p.Ops 5) <;> cases h6 : zfm p.Ops p.Flows p.Ext <;> simp
set_option maxHeartbeats 4000000 in
theorem zft (key : Int) (p : GPackage) (cs : List C) (S : Store) (h : Rd S p.d cs) : EvA Tryz.prog 73 [.s (.int .i64 key), .agg cs] S (fun r S' => r = .v (.s (.int .i64 (zcg key p))) ∧ S' = S) := by
 have hR := h
 obtain ⟨_, _, _, _, rfl, q1, q2, q3, q4⟩ := GPackage.inv h
 refine EvA.drop rfl ?_
 rcases zto key p with ⟨a1, a0⟩ | ⟨a1, a2, a0⟩ | ⟨a1, a2, a3, a0⟩ | ⟨a1, a2, a3, hrest⟩
 ·rw [a0]
  refine zac tok Tryz.func73 (by kernel_rfl) rfl ?_
  repeat' ((conv => whnf) <;> first
   | (refine zaa (zcb p _ _ hR) ?_) | (show CondP _ _ _; refine cS ?_) | refine And.intro ?_ ?_)
  all_goals first
   | rfl
   | exact Ext.refl _
   | (exfalso; simp_all; done)
 ·rw [a0]
  refine zac tok Tryz.func73 (by kernel_rfl) rfl ?_
  repeat' ((conv => whnf) <;> first
   | (refine zaa (zdl key p _ _ hR) ?_) | (refine zaa (zcb p _ _ hR) ?_) | (show CondP _ _ _; refine cS ?_) | refine And.intro ?_ ?_)
  all_goals first
   | rfl
   | exact Ext.refl _
   | (exfalso; simp_all; done)
 ·rw [a0]
  refine zac tok Tryz.func73 (by kernel_rfl) rfl ?_
  repeat' ((conv => whnf) <;> first
   | (refine zaa (zdl key p _ _ hR) ?_) | (refine zaa (zcb p _ _ hR) ?_) | (show CondP _ _ _; refine cS ?_) | refine rE fun hml => ?_)
  refine zag {i : Nat // i ≤ p.Rules.length ∧ (p.Rules.drop i).all (fun r : GRule => zda p.Grants r.Pattern) = zgj p} [4, 6, 17, 18, 19, 20, 21, 22, 23, 24, 25, 26, 27] (fun zb => [(17, .v (.s (.int .i64 zb.1)))]) (fun _ => S) (fun zb => p.Rules.length - zb.1) ⟨0, Nat.zero_le _, rfl⟩ okL rfl ?_
  rintro ⟨i, hi, hinv⟩; dsimp only
  by_cases hlt : i < p.Rules.length
  ·have hlt' : ((i : Nat) : Int).toNat < p.Rules.length := hlt
   have hinv : (zda p.Grants (p.Rules[((i : Nat) : Int).toNat]'hlt').Pattern && (p.Rules.drop (i + 1)).all (fun r : GRule => zda p.Grants r.Pattern)) = zgj p := (zf7 hlt).symm.trans hinv
   cases hc : zda p.Grants (p.Rules[((i : Nat) : Int).toNat]'hlt').Pattern with
   | true =>
     rw [hc, Bool.true_and] at hinv
     repeat' ((conv => whnf) <;> first
      | (refine zaa (zll p.Grants (p.Rules[((i : Nat) : Int).toNat]'hlt').Pattern _ _ q1) ?_) | rw [zad (by omega)] | (show CondP _ _ _; refine cS ?_) | refine rI rdA rf ix ?_ | refine zaf rdA tv ix ?_)
     all_goals first
      | (refine ⟨⟨i + 1, by omega, hinv⟩, ?_, rfl, by simp; omega⟩; (conv => whnf); repeat' (first | exact trivial | exact rfl | apply And.intro))
      | (exfalso; omega)
   | false =>
     repeat' ((conv => whnf) <;> first
      | (refine zaa (zll p.Grants (p.Rules[((i : Nat) : Int).toNat]'hlt').Pattern _ _ q1) ?_) | (show CondP _ _ _; refine cS ?_) | refine rI rdA rf ix ?_ | refine zaf rdA tv ix ?_ | refine And.intro ?_ ?_)
     all_goals first
      | rfl
      | exact Ext.refl _
      | (exfalso; omega)
  ·rw [zak (by omega), List.all_nil, a3] at hinv
   cases hinv
 refine zac tok Tryz.func73 (by kernel_rfl) rfl ?_
 repeat' ((conv => whnf) <;> first
  | (refine zaa (zdl key p _ _ hR) ?_) | (refine zaa (zcb p _ _ hR) ?_) | (show CondP _ _ _; refine cS ?_) | refine rE fun hml => ?_)
 refine zag {i : Nat // i ≤ p.Rules.length ∧ (p.Rules.drop i).all (fun r : GRule => zda p.Grants r.Pattern) = zgj p} [4, 6, 17, 18, 19, 20, 21, 22, 23, 24, 25, 26, 27] (fun zb => [(17, .v (.s (.int .i64 zb.1)))]) (fun _ => S) (fun zb => p.Rules.length - zb.1) ⟨0, Nat.zero_le _, rfl⟩ okL rfl ?_
 rintro ⟨i, hi, hinv⟩; dsimp only
 by_cases hlt : i < p.Rules.length
 ·have hlt' : ((i : Nat) : Int).toNat < p.Rules.length := hlt
  have hinv : (zda p.Grants (p.Rules[((i : Nat) : Int).toNat]'hlt').Pattern && (p.Rules.drop (i + 1)).all (fun r : GRule => zda p.Grants r.Pattern)) = zgj p := (zf7 hlt).symm.trans hinv
  cases hc : zda p.Grants (p.Rules[((i : Nat) : Int).toNat]'hlt').Pattern with
  | true =>
    rw [hc, Bool.true_and] at hinv
    repeat' ((conv => whnf) <;> first
     | (refine zaa (zll p.Grants (p.Rules[((i : Nat) : Int).toNat]'hlt').Pattern _ _ q1) ?_) | rw [zad (by omega)] | (show CondP _ _ _; refine cS ?_) | refine rI rdA rf ix ?_ | refine zaf rdA tv ix ?_)
    all_goals first
     | (refine ⟨⟨i + 1, by omega, hinv⟩, ?_, rfl, by simp; omega⟩; (conv => whnf); repeat' (first | exact trivial | exact rfl | apply And.intro))
     | (exfalso; omega)
  | false =>
    rw [hc, Bool.false_and, a3] at hinv
    cases hinv
 rcases hrest with ⟨a4, a0⟩ | ⟨a4, a5, a0⟩ | ⟨a4, a5, a6, a0⟩ | ⟨a4, a5, a6, a0⟩
 all_goals rw [a0]
 all_goals
  repeat' ((conv => whnf) <;> first
   | (refine zjj ?_ ?_; · exact decide_eq_false om) | refine zae 29 [.fl 0, .fl 1, .fl 2, .fl 3, .st 4 [0, 1], .st 5 [], .fl 6, .st 7 []] (by rfl) (by kernel_rfl) ?_ | refine zae 37 [.fl 0, .fl 1, .fl 2, .fl 3, .st 4 [0, 1], .st 5 [], .fl 6, .st 7 []] (by rfl) (by kernel_rfl) ?_)
  all_goals try (exfalso; simp_all; done)
  (conv => whnf)
  refine zab (zou p.Ops _ _ q4) ?_; rintro _ S1 ⟨e1, c1, rfl, f1⟩
  have g1 : Rd S1 [.sl 7 (p.Grants.map GGrant.d)] _ := q1.ext e1
 ·repeat' ((conv => whnf) <;> first
   | (refine zaa (zfp p.Grants 1 (zb5 p.Ops 1) _ _ _ g1 f1.rd) ?_) | (show CondP _ _ _; refine cS ?_) | refine And.intro ?_ ?_)
  all_goals first
   | rfl
   | exact e1
   | (exfalso; simp_all; done)
 all_goals
  repeat' ((conv => whnf) <;> first
   | (refine zaa (zfp p.Grants 1 (zb5 p.Ops 1) _ _ _ g1 f1.rd) ?_) | (show CondP _ _ _; refine cS ?_) | refine zae 29 [.fl 0, .fl 1, .fl 2, .fl 3, .st 4 [0, 1], .st 5 [], .fl 6, .st 7 []] (by rfl) (by kernel_rfl) ?_ | refine zae 37 [.fl 0, .fl 1, .fl 2, .fl 3, .st 4 [0, 1], .st 5 [], .fl 6, .st 7 []] (by rfl) (by kernel_rfl) ?_ | refine And.intro ?_ ?_)
  all_goals try (exfalso; simp_all; done)
  (conv => whnf)
  refine zab (zog p.Ops _ _ (q4.ext e1)) ?_; rintro _ S2 ⟨e2, c2, rfl, f2⟩
  have g2 : Rd S2 [.sl 7 (p.Grants.map GGrant.d)] _ := g1.ext e2
  have e3 := e1.trans e2
  have t1 := q4.ext e3
  have t2 := q2.ext e3
 ·repeat' ((conv => whnf) <;> first
   | (refine zaa (zfp p.Grants 3 (zb5 p.Ops 5) _ _ _ g2 f2.rd) ?_) | (show CondP _ _ _; refine cS ?_) | refine And.intro ?_ ?_)
  all_goals first
   | rfl
   | exact e3
   | (exfalso; simp_all; done)
 all_goals
  repeat' ((conv => whnf) <;> first
   | (refine zaa (z05 p.Ops p.Flows p.Ext _ _ _ t1 t2) ?_) | (refine zaa (zfp p.Grants 3 (zb5 p.Ops 5) _ _ _ g2 f2.rd) ?_) | (show CondP _ _ _; refine cS ?_) | refine And.intro ?_ ?_)
  all_goals first
   | rfl
   | exact e3
   | (exfalso; simp_all; done)
def zho (b : GBrowser) : Bool := b.Packs.all fun p : GPackage => decide (zcg b.Key p = 0)
set_option maxHeartbeats 1000000 in
theorem zov (b : GBrowser) (cs : List C) (S : Store) (h : Rd S b.d cs) (hz : szL b.d ≤ 2097152) : EvA Tryz.prog 13 [.agg cs] S (fun r S' => r = .v (.s (.bool (zho b))) ∧ S' = S) := by
 have hzs := hz
 simp only [GBrowser.d, szL, List.length_map] at hzs
 obtain ⟨_, _, _, _, _, _, rfl, _, _, _, _, _, _⟩ := GBrowser.inv h
 have hpk : Rd S [.sl 8 (b.Packs.map GPackage.d)] _ := (by assumption)
 refine zac tok Tryz.func13 (by kernel_rfl) rfl ?_
 repeat' ((conv => whnf) <;> first
  | refine rE fun hml => ?_)
 refine zag {i : Nat // i ≤ b.Packs.length ∧ (b.Packs.drop i).all (fun p : GPackage => decide (zcg b.Key p = 0)) = zho b} [2, 4, 8, 9, 10, 11, 12, 13, 14, 15, 16, 17] (fun zb => [(8, .v (.s (.int .i64 zb.1)))]) (fun _ => S) (fun zb => b.Packs.length - zb.1) ⟨0, Nat.zero_le _, rfl⟩ okL rfl ?_
 rintro ⟨i, hi, hinv⟩; dsimp only
 by_cases hlt : i < b.Packs.length
 ·have hlt' : ((i : Nat) : Int).toNat < b.Packs.length := hlt
  have hsz : szL (b.Packs[((i : Nat) : Int).toNat]'hlt').d ≤ 4194304 := by
   have h2 : szL (b.Packs[((i : Nat) : Int).toNat]'hlt').d ≤ szL.szLL (b.Packs.map GPackage.d) := zdf (f := GPackage.d) (List.getElem_mem hlt')
   omega
  obtain ⟨pcs, hpr, hpld⟩ := zd6 hpk (i := ((i : Nat) : Int)) ⟨by omega, hlt'⟩
  have hinv : (decide (zcg b.Key (b.Packs[((i : Nat) : Int).toNat]'hlt') = 0) && (b.Packs.drop (i + 1)).all (fun p : GPackage => decide (zcg b.Key p = 0))) = zho b := (zf7 hlt).symm.trans hinv
  have hprR := hpr
  obtain ⟨_, _, _, _, rfl, _, _, _, _⟩ := GPackage.inv hpr
  by_cases h0 : zcg b.Key (b.Packs[((i : Nat) : Int).toNat]'hlt') = 0
  ·rw [decide_eq_true h0, Bool.true_and] at hinv
   repeat' ((conv => whnf) <;> first
    | (refine zaa (zft b.Key (b.Packs[((i : Nat) : Int).toNat]'hlt') _ _ hprR) ?_) | refine hpld _ (Ext.refl _) _ ?_ | rw [zad (by omega)] | (show CondP _ _ _; refine cS ?_) | refine rI aN rf ix ?_)
   all_goals first
    | (refine ⟨⟨i + 1, by omega, hinv⟩, ?_, rfl, by simp; omega⟩; (conv => whnf); repeat' (first | exact trivial | exact rfl | apply And.intro))
    | (exfalso; omega)
  ·rw [decide_eq_false h0, Bool.false_and] at hinv
   rw [← hinv]
   repeat' ((conv => whnf) <;> first
    | (refine zaa (zft b.Key (b.Packs[((i : Nat) : Int).toNat]'hlt') _ _ hprR) ?_) | refine hpld _ (Ext.refl _) _ ?_ | (show CondP _ _ _; refine cS ?_) | refine rI aN rf ix ?_ | refine And.intro ?_ ?_)
   all_goals first
    | rfl
    | (exfalso; omega)
 ·rw [zak (by omega), List.all_nil] at hinv
  rw [← hinv]
  repeat' ((conv => whnf) <;> first
   | (show CondP _ _ _; refine cS ?_) | refine And.intro ?_ ?_)
  all_goals first
   | rfl
   | (exfalso; omega)
end Go.Proofs.YtlmmdpmmdmhacaaGreat
