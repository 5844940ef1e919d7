/- A text of the proof. A text of the proof. PLAIN: what FnMeasured asks. A text of the proof. -/
import Derived.Test.YtlmmdpmmdmhacaaGreatKt45
import Derived.Test.YtlmmdpmmdmhacaaGreatKt39
import Derived.Test.YtlmmdpmmdmhacaaGreatKt42
import Derived.Test.YtlmmdpmmdmhacaaGreatKt43
import Derived.Test.YtlmmdpmmdmhacaaGreatKt29
import Derived.Test.YtlmmdpmmdmhacaaGreatKt31
import Derived.Test.YtlmmdpmmdmhacaaGreatKt44
import Derived.Test.YtlmmdpmmdmhacaaGreatKt35
namespace Go.Proofs.YtlmmdpmmdmhacaaGreat
open Go Go.ChangeShapes Go.WideShapes Go.ChangeAt Go.RowKit
set_option linter.unusedVariables false
set_option linter.unusedSimpArgs false
set_option maxRecDepth 100000
def zdq (l : List GRule) : List D := [.sl 8 (l.map GRule.d)]
def byR (s : List GRule) : List (List GRule) := (List.range 9).map fun k : Nat => zbf ((k : Int) + 1) s
theorem zjn (s : List GRule) : (byR s).length = 9 := by unfold byR; rw [List.length_map, List.length_range]
theorem zpp (s : List GRule) {k : Nat} (h : k < (byR s).length) : (byR s)[k] = zbf ((k : Int) + 1) s := by
 simp only [byR, List.getElem_map, List.getElem_range]
theorem zhk (o : Int) (s : List GRule) (x : GRule) : zbf o (s ++ [x]) = if x.Pattern.Owner = o then zbf o s ++ [x] else zbf o s := by
 unfold zbf
 rw [List.filter_append]
 split
 ·rename_i h; simp [h]
 ·rename_i h; simp [h]
theorem z4q (s : List GRule) (x : GRule) {k : Nat} (hx : x.Pattern.Owner = (k : Int) + 1) (h : k < (byR s).length) : byR (s ++ [x]) = (byR s).set k ((byR s)[k] ++ [x]) := by
 apply List.ext_getElem
 ·rw [List.length_set, zjn, zjn]
 ·intro i h1 h2
  have hb := zpp (s ++ [x]) h1
  rw [List.getElem_set, hb, zhk]
  by_cases e : k = i
  ·subst e; rw [if_pos hx, if_pos rfl]; exact congrArg (· ++ [x]) (zpp s h).symm
  ·rw [if_neg (fun hh => e (by omega)), if_neg e]; exact (zpp s _).symm
theorem z2h (s : List GRule) (x : GRule) (hx : x.Pattern.Owner = 0) : byR (s ++ [x]) = byR s := by
 unfold byR
 refine List.map_congr_left fun k _ => ?_
 rw [zhk, if_neg (by omega)]
theorem zn5 (o : Int) (s : List GRule) : (zbf o s).length ≤ s.length := List.length_filter_le _ _
theorem z4v {S0 S : Store} {q : Nat} {ds : List D} {cs : List C} {bys : List (List GRule)} {cB : C} {k : Int} (x : GRule) (hE : Ext S0 S) (h : Fr S0.length S ds cs) (hd : ds[q]? = some (.sl 1 (bys.map zdq))) (hc : cs[q]? = some cB) (hk : 0 ≤ k ∧ k.toNat < bys.length) (hlen : (bys[k.toNat]'hk.2).length ≤ 20) :
 ∃ c4 : C, (∀ K : List C → Prop, K [c4] → LoadP S cB k K) ∧ ∀ by' : Nat, ((bys[k.toNat]'hk.2).length + 1) * by' ≤ 140737488355328 → ∀ K : C → Store → Prop, (∀ c' S', (∀ K' : Prop, K' → IdxP S' cB 1 k K') → (∀ K' : Store → Prop, (∀ S'', Ext S0 S'' → Fr S0.length S'' (ds.set q (.sl 1 ((bys.set k.toNat ((bys[k.toNat]'hk.2) ++ [x])).map zdq))) cs → K' S'') → StoP S' cB k 0 [c'] K') → K c' S') → AppP 8 by' S c4 [x.c] K := by
 obtain ⟨pcs, c4, hl, hr, hc4, hap⟩ := z1c (q := q) (k := 1) (k2 := 8) (i := k) (off := 0) (A := []) (Z := []) (ys := (bys[k.toNat]'hk.2).map GRule.d) hE h hd hc (by rw [List.length_map]; exact hk) (by simp [zdq, hk.2]) rfl rfl
 have hp1 : pcs.length = 1 := by obtain ⟨_, hh⟩ := hr; exact hh.len
 obtain rfl : pcs = [c4] := by
  match pcs, hp1, hc4 with
  | [y], _, h => simp at h; rw [h]
 refine ⟨c4, hl, fun by' hb K hK => ?_⟩
 refine hap [x.d] [x.c] by' (by rw [zbn]; exact ⟨x.c, [], [], [], rfl, rfl, zbr (by exact trivial), by rw [zc6]; exact ⟨rfl, rfl⟩⟩) (by intro y hy; simp at hy; subst hy; rfl) (by simpa using hb) (by simp; omega) K ?_
 intro c' S' a1 a2 a3 a4
 refine hK c' S' (fun K' hK' => ?_) (fun K' hK' => a4 K' (fun S'' b1 b2 _ => hK' S'' b1 ?_))
 ·have := hl (fun cs => cs.length = 1) rfl
  unfold LoadP at this
  obtain ⟨l, e1, cs1, e2, e3, e4⟩ := this
  unfold IdxP
  exact ⟨l, cs1, by rw [a3]; exact e1, e3, e2, e4, hK'⟩
 ·rw [List.map_set]
  have e : zdq ((bys[k.toNat]'hk.2) ++ [x]) = [] ++ [.sl 8 ((bys[k.toNat]'hk.2).map GRule.d ++ [x.d])] ++ [] := by
   unfold zdq; rw [List.map_append]; rfl
  rw [e]; exact b2
theorem zp8 (l : List GRule) (q : GRequest) (c : C) (S : Store) (h : Rd S [.sl 8 (l.map GRule.d)] [c]) : EvA Tryz.prog 131 [.s c, .agg q.c] S (fun r S' => r = .v (.s (.int .i64 (zcx l q))) ∧ S' = S) := by
 refine zac tok Tryz.func131 (by kernel_rfl) rfl ?_
 repeat' ((conv => whnf) <;> first
  | refine rE fun hml => ?_)
 refine zag {i : Nat // i ≤ l.length ∧ zif q (l.drop i) i = zcx l q} [4, 5, 6, 9, 10, 11, 12, 13, 14, 15, 16, 17, 18] (fun zb => [(9, .v (.s (.int .i64 zb.1)))]) (fun _ => S) (fun zb => l.length - zb.1) ⟨0, Nat.zero_le _, rfl⟩ okL rfl ?_
 rintro ⟨i, hi, hinv⟩; dsimp only
 by_cases hlt : i < l.length
 ·rw [zam hlt, zif] at hinv
  have hi' : ((i : Nat) : Int).toNat = i := rfl
  have ka := zeb (l[((i : Nat) : Int).toNat]'hlt) q S
  cases ha : zbd (l[i]) q with
  | true =>
    rw [if_pos ha] at hinv
    rw [show zbd (l[((i : Nat) : Int).toNat]'hlt) q = true from ha] at ka
    repeat' ((conv => whnf) <;> first
     | (refine zaa ka ?_) | (show CondP _ _ _; refine cS ?_) | refine cT ?_ | refine rI aN rf ix ?_ | refine zaf aN tv ix ?_ | refine And.intro ?_ ?_)
    all_goals first
     | (exfalso; omega)
     | (show _ = _; rw [← hinv]; rfl)
     | rfl
  | false =>
    rw [if_neg (by rw [ha]; exact Bool.false_ne_true)] at hinv
    rw [show zbd (l[((i : Nat) : Int).toNat]'hlt) q = false from ha] at ka
    repeat' ((conv => whnf) <;> first
     | (refine zaa ka ?_) | rw [zad (by omega)] | (show CondP _ _ _; refine cS ?_) | refine cF ?_ | refine rI aN rf ix ?_ | refine zaf aN tv ix ?_)
    all_goals first
     | (exfalso; omega)
     | (refine ⟨⟨i + 1, by omega, hinv⟩, ?_, rfl, by simp; omega⟩; (conv => whnf); repeat' (first | exact trivial | exact rfl | apply And.intro))
 rw [zak (by omega), zif] at hinv
 repeat' ((conv => whnf) <;> first
  | (show CondP _ _ _; refine cS ?_) | refine And.intro ?_ ?_)
 all_goals first
  | (exfalso; omega)
  | (show _ = _; rw [← hinv]; rfl)
  | rfl
theorem zp7 (l : List GRule) (q : GRequest) : zcx l q = -1 ∨ (0 ≤ zcx l q ∧ (zcx l q).toNat < l.length) := by
 rcases zik l q with ⟨h, _⟩ | ⟨j, hj, h, _⟩
 ·exact .inl h
 ·exact .inr (by omega)
abbrev z7b : GRule := ⟨0, 0, ⟨0, 0⟩, 0, 0, ⟨0, 0⟩⟩
set_option maxHeartbeats 4000000 in
theorem z3x (any : List GRule) (bys : List (List GRule)) (q : GRequest) (k : Nat) (hk : q.Site.Owner = (k : Int) + 1) (hk2 : k < bys.length) (hb9 : bys.length ≤ 9) (cA cB : C) (S : Store) (h : Rd S [.sl 8 (any.map GRule.d)] [cA]) (h' : Rd S [.sl 1 (bys.map zdq)] [cB]) :
 EvA Tryz.prog 58 [.agg [cA, cB], .agg q.c] S (fun r S' => S' = S ∧ ((zge any (bys[k]'hk2) q = none ∧ r = .tup [.agg z7b.c, .s (.bool false)]) ∨ ∃ x, zge any (bys[k]'hk2) q = some x ∧ r = .tup [.agg x.c, .s (.bool true)])) := by
 have hki : 0 ≤ q.Site.Owner - 1 ∧ (q.Site.Owner - 1).toNat < bys.length := by omega
 have hke : (q.Site.Owner - 1).toNat = k := by omega
 obtain ⟨pcs, hpr, hpld⟩ := zd6 (f := zdq) h' (i := q.Site.Owner - 1) hki
 have hp1 : pcs.length = 1 := by obtain ⟨_, hh⟩ := hpr; exact hh.len
 obtain ⟨cK, rfl⟩ : ∃ cK, pcs = [cK] := by
  match pcs, hp1 with
  | [y], _ => exact ⟨y, rfl⟩
 have hK : Rd S [.sl 8 ((bys[k]'hk2).map GRule.d)] [cK] := by
  have : (bys[(q.Site.Owner - 1).toNat]'hki.2) = bys[k]'hk2 := by simp only [hke]
  rw [this] at hpr; exact hpr
 have ka := zp8 any q cA S h
 have kb := zp8 (bys[k]'hk2) q cK S hK
 generalize hbk : bys[k]'hk2 = bk at *
 unfold zge
 have fb := zp7 bk q
 have fa := zp7 any q
 rcases fb with fb | fb
 ·rw [fb] at kb
  rw [if_neg (by rw [fb]; omega)]
  rcases fa with fa | fa
  ·rw [fa] at ka
   rw [if_pos (by rw [fa]; omega)]
   refine zac tok Tryz.func58 (by kernel_rfl) rfl ?_
   repeat' ((conv => whnf) <;> first
    | (refine hpld _ (Ext.refl _) _ ?_) | (refine zaa kb ?_) | (refine zaa ka ?_) | rw [zad (by omega)] | (show CondP _ _ _; refine cS ?_) | refine cF ?_ | refine rE fun hml => ?_ | refine rI aN rf ix ?_ | refine zae 26 (iN 8 0 [6, 7]) (by rfl) (by kernel_rfl) ?_ | refine zae 33 (iN 22 0 [19]) (by rfl) (by kernel_rfl) ?_ | refine And.intro ?_ ?_)
   all_goals first
    | (exfalso; omega)
    | exact ⟨rfl, .inl ⟨rfl, rfl⟩⟩
    | rfl
    | exact .inl ⟨rfl, rfl⟩
  ·rw [if_neg (by omega), zgr fa.2]
   refine zac tok Tryz.func58 (by kernel_rfl) rfl ?_
   repeat' ((conv => whnf) <;> first
    | (refine hpld _ (Ext.refl _) _ ?_) | (refine zaa kb ?_) | (refine zaa ka ?_) | rw [zad (by omega)] | (show CondP _ _ _; refine cS ?_) | refine cF ?_ | refine rE fun hml => ?_ | refine rI aN rf ix ?_ | refine zaf aN tv ix ?_ | refine zae 26 (iN 8 0 [6, 7]) (by rfl) (by kernel_rfl) ?_ | refine zae 33 (iN 22 0 [19]) (by rfl) (by kernel_rfl) ?_ | refine And.intro ?_ ?_)
   all_goals first
    | (exfalso; omega)
    | exact ⟨rfl, .inr ⟨_, rfl, rfl⟩⟩
    | rfl
    | exact .inr ⟨_, rfl, rfl⟩
 ·rcases fa with fa | fa
  ·rw [fa] at ka
   rw [if_pos ⟨fb.1, .inl (by rw [fa]; omega)⟩, zgr fb.2]
   refine zac tok Tryz.func58 (by kernel_rfl) rfl ?_
   repeat' ((conv => whnf) <;> first
    | (refine hpld _ (Ext.refl _) _ ?_) | (refine zaa kb ?_) | (refine zaa ka ?_) | rw [zad (by omega)] | (show CondP _ _ _; refine cS ?_) | refine cT ?_ | refine rE fun hml => ?_ | refine rI aN rf ix ?_ | refine zaf aN tv ix ?_ | refine zae 26 (iN 8 0 [6, 7]) (by rfl) (by kernel_rfl) ?_ | refine zae 33 (iN 22 0 [19]) (by rfl) (by kernel_rfl) ?_ | refine And.intro ?_ ?_)
   all_goals first
    | (exfalso; omega)
    | exact ⟨rfl, .inr ⟨_, rfl, rfl⟩⟩
    | rfl
    | exact .inr ⟨_, rfl, rfl⟩
  ·rw [zgr fb.2, zgr fa.2]
   have kc := zds (bk[(zcx bk q).toNat]'fb.2) (any[(zcx any q).toNat]'fa.2) S
   by_cases hbf : zcw (bk[(zcx bk q).toNat]'fb.2) (any[(zcx any q).toNat]'fa.2) = true
   ·rw [if_pos ⟨fb.1, .inr hbf⟩]
    rw [hbf] at kc
    refine zac tok Tryz.func58 (by kernel_rfl) rfl ?_
    repeat' ((conv => whnf) <;> first
     | (refine hpld _ (Ext.refl _) _ ?_) | (refine zaa kc ?_) | (refine zaa kb ?_) | (refine zaa ka ?_) | rw [zad (by omega)] | (show CondP _ _ _; refine cS ?_) | refine cT ?_ | refine rE fun hml => ?_ | refine rI aN rf ix ?_ | refine zaf aN tv ix ?_ | refine zae 26 (iN 8 0 [6, 7]) (by rfl) (by kernel_rfl) ?_ | refine zae 33 (iN 22 0 [19]) (by rfl) (by kernel_rfl) ?_ | refine And.intro ?_ ?_)
    all_goals first
     | (exfalso; omega)
     | exact ⟨rfl, .inr ⟨_, rfl, rfl⟩⟩
     | rfl
     | exact .inr ⟨_, rfl, rfl⟩
   ·rw [if_neg (fun hh => hh.2.elim (fun h2 => by omega) hbf), if_neg (by omega)]
    rw [show zcw (bk[(zcx bk q).toNat]'fb.2) (any[(zcx any q).toNat]'fa.2) = false by simpa using hbf] at kc
    refine zac tok Tryz.func58 (by kernel_rfl) rfl ?_
    repeat' ((conv => whnf) <;> first
     | (refine hpld _ (Ext.refl _) _ ?_) | (refine zaa kc ?_) | (refine zaa kb ?_) | (refine zaa ka ?_) | rw [zad (by omega)] | (show CondP _ _ _; refine cS ?_) | refine cF ?_ | refine rE fun hml => ?_ | refine rI aN rf ix ?_ | refine zaf aN tv ix ?_ | refine zae 26 (iN 8 0 [6, 7]) (by rfl) (by kernel_rfl) ?_ | refine zae 33 (iN 22 0 [19]) (by rfl) (by kernel_rfl) ?_ | refine And.intro ?_ ?_)
    all_goals first
     | (exfalso; omega)
     | exact ⟨rfl, .inr ⟨_, rfl, rfl⟩⟩
     | rfl
     | exact .inr ⟨_, rfl, rfl⟩
theorem zuk (a b : GRule) (h1 : a.Prio = b.Prio) (h2 : a.Action = b.Action) (h3 : a.Ext = b.Ext) (h4 : a.To = b.To) (S : Store) : EvA Tryz.prog 60 [.agg a.c, .agg b.c] S (fun r S' => r = .v (.s (.bool true)) ∧ S' = S) := by
 have h5 : a.To.Owner = b.To.Owner := by rw [h4]
 have h6 : a.To.Sub = b.To.Sub := by rw [h4]
 refine zac tok Tryz.func60 (by kernel_rfl) rfl ?_
 repeat' ((conv => whnf) <;> first
  | (show CondP _ _ _; refine cS ?_) | refine And.intro ?_ ?_)
 all_goals first
  | rfl
  | (exfalso; omega)
  | (show _ = _; simp [zay, *]; done)
theorem z39 (l : List GRule) : (zav l).length ≤ l.length := by
 unfold zav; rw [z0b]; exact List.length_filter_le _ _
theorem zzm {i : Nat} (h : i < 9) : ((byR []).map zdq)[i]? = some [.sl 8 []] := by
 have hl := zjn []
 rw [List.getElem?_map, List.getElem?_eq_getElem (by omega), zpp]; rfl
theorem z2p {S0 S : Store} {cA cB : C} {i : Int} {K : Store → Prop} (hE : Ext S0 S) (h : Fr S0.length S [.sl 8 [], .sl 1 ((byR []).map zdq)] [cA, cB]) (hi : 0 ≤ i ∧ i.toNat < 9) (hK : ∀ S', Ext S0 S' → Fr S0.length S' [.sl 8 [], .sl 1 ((byR []).map zdq)] [cA, cB] → K S') : StoP (S ++ [⟨true, 8, []⟩]) cB i 0 [.sl S.length 0 0 0] K := by
 have hx := zzm hi.2
 refine zj6 (q := 1) (A := []) (B := [.sl 8 []]) (B' := [.sl 8 []]) (Z := []) (hE.trans (Ext.push _ _)) h (Ext.push _ _) hE.len rfl rfl zba ⟨hi.1, by rw [List.length_map, zjn]; exact hi.2⟩ hx rfl rfl rfl fun S' e1 f1 _ => hK S' e1 ?_
 rw [show [] ++ [D.sl 8 []] ++ [] = [D.sl 8 []] from rfl, ztx hx] at f1
 exact f1
theorem zze {l : List GRule} {r : GRule} (h : r ∈ zav l) : 0 ≤ r.Pattern.Owner ∧ r.Pattern.Owner ≤ 9 := by
 have := (zq7.1 h).2
 unfold zbt zbl at this
 simp only [Bool.and_eq_true] at this
 exact zky this.1.1.2.1
set_option maxHeartbeats 8000000 in
theorem zvs (l : List GRule) (c : C) (S : Store) (h : Rd S [.sl 8 (l.map GRule.d)] [c]) (hz : l.length ≤ 20) : EvA Tryz.prog 57 [.s c] S (fun r S' => Ext S S' ∧ ∃ cA cB, r = .v (.agg [cA, cB]) ∧ Fr S.length S' [.sl 8 ((zbf 0 (zav l)).map GRule.d), .sl 1 ((byR (zav l)).map zdq)] [cA, cB]) := by
 have hsl := z39 l
 have h9 := zjn []
 have E0 : Ext S (S ++ [(⟨true, 8, []⟩ : Row)] ++ [(⟨true, 1, List.replicate 9 [.nil]⟩ : Row)]) := (Ext.push _ _).trans (Ext.push _ _)
 have f0 : Fr S.length (S ++ [(⟨true, 8, []⟩ : Row)] ++ [(⟨true, 1, List.replicate 9 [.nil]⟩ : Row)]) [.sl 8 [], .sl 1 ((byR []).map zdq)] [.sl S.length 0 0 0, .sl (S ++ [(⟨true, 8, []⟩ : Row)]).length 0 9 9] := Fr.join (ds := [.sl 8 []]) (cs := [.sl S.length 0 0 0]) (zba (S := S) (k := 8)) (Ext.push _ _) (zv0 (n := 9) (z := [.sl 8 []]) (zc := [.nil]) (z3l zz9) (by rw [zan]; omega)) (Ext.push S _).len
 have rB : Rd (S ++ [(⟨true, 8, []⟩ : Row)] ++ [(⟨true, 1, List.replicate 9 [.nil]⟩ : Row)]) [.sl 1 ((byR []).map zdq)] [.sl (S ++ [(⟨true, 8, []⟩ : Row)]).length 0 9 9] := f0.rdAt (o := 1) rfl rfl
 refine zac tok Tryz.func57 (by kernel_rfl) rfl ?_
 repeat' ((conv => whnf) <;> first
  | (refine zdp rB ?_; intro hml) | refine zdn (by dsimp only [T101, T103, T108, T28, T3]; first | omega | (constructor <;> omega) | fail) ?_)
 refine zag {p : Nat × Store × C × C // p.1 ≤ 9 ∧ Ext S p.2.1 ∧ Fr S.length p.2.1 [.sl 8 [], .sl 1 ((byR []).map zdq)] [p.2.2.1, p.2.2.2]} [4, 13, 14, 15, 16, 17, 18, 19, 20, 21] (fun zb => [(13, .v (.s (.int .i64 (zb.1.1 : Nat)))), (3, .box [zb.1.2.2.1, zb.1.2.2.2])]) (fun zb => zb.1.2.1) (fun zb => 9 - zb.1.1) ⟨(0, _, _, _), Nat.zero_le _, E0, f0⟩ okL rfl ?_
 rintro ⟨⟨i, Si, cA, cB⟩, hi, hE, hF⟩; dsimp only
 replace hi : i ≤ 9 := hi
 replace hE : Ext S Si := hE
 replace hF : Fr S.length Si [.sl 8 [], .sl 1 ((byR []).map zdq)] [cA, cB] := hF
 have rBi : Rd Si [.sl 1 ((byR []).map zdq)] [cB] := hF.rdAt (o := 1) rfl rfl
 clear f0 E0 rB
 by_cases hlt : i < 9
 ·have hi' : 0 ≤ ((i : Nat) : Int) ∧ ((i : Nat) : Int).toNat < 9 := ⟨by omega, by simpa using hlt⟩
  have hi2 : 0 ≤ ((i : Nat) : Int) ∧ ((i : Nat) : Int).toNat < (byR []).length := ⟨by omega, by rw [h9]; simpa using hlt⟩
  repeat' ((conv => whnf) <;> first
   | rw [zad (by omega)] | (show CondP _ _ _; refine cS ?_) | refine rI rdA rf ix ?_ | (refine z2p hE hF hi' ?_; intro SN hEN hFN))
  all_goals first
   | (exfalso; omega)
   | (refine ⟨⟨(i + 1, SN, cA, cB), by dsimp only; omega, hEN, hFN⟩, ?_, rfl, by dsimp only; omega⟩; (conv => whnf); repeat' (first | exact trivial | exact rfl | apply And.intro))
 repeat' ((conv => whnf) <;> first
  | (show CondP _ _ _; refine cS ?_))
 all_goals try (exfalso; omega)
 (conv => whnf)
 refine zab (zra l _ _ (h.ext hE) hz) ?_; rintro _ S2 ⟨e2, cs, rfl, f2⟩
 have rs := f2.rd
 have hF2 : Fr S.length S2 [.sl 8 [], .sl 1 ((byR []).map zdq), .sl 8 ((zav l).map GRule.d)] [cA, cB, cs] := hF.join (ds := [.sl 8 [], .sl 1 ((byR []).map zdq)]) (cs := [cA, cB]) e2 f2 hE.len
 have hE2 := hE.trans e2
 have hmem : ∀ r ∈ zav l, 0 ≤ r.Pattern.Owner ∧ r.Pattern.Owner ≤ 9 := fun r hr => zze hr
 clear f2 e2 hF hlt hi rBi
 generalize hs : zav l = s at *
 repeat' ((conv => whnf) <;> first
  | (refine zdp rs ?_; intro hml))
 refine zag {p : Nat × Store × C // p.1 ≤ s.length ∧ Ext S p.2.1 ∧ Fr S.length p.2.1 [.sl 8 ((zbf 0 (s.take p.1)).map GRule.d), .sl 1 ((byR (s.take p.1)).map zdq), .sl 8 (s.map GRule.d)] [p.2.2, cB, cs]} [3, 6, 25, 26, 27, 28, 29, 30, 31, 32, 33, 34, 35, 36, 37, 38, 39, 40, 41, 42, 43, 44, 45, 46, 47, 48, 49, 50, 51, 52, 53, 54, 55, 56, 57] (fun zb => [(25, .v (.s (.int .i64 (zb.1.1 : Nat)))), (3, .box [zb.1.2.2, cB])]) (fun zb => zb.1.2.1) (fun zb => s.length - zb.1.1) ⟨(0, S2, cA), Nat.zero_le _, hE2, hF2⟩ okL rfl ?_
 clear hF2 rs hE2
 rintro ⟨⟨i, Sj, cA⟩, hi, hE, hF⟩; dsimp only
 replace hi : i ≤ s.length := hi
 replace hE : Ext S Sj := hE
 replace hF : Fr S.length Sj [.sl 8 ((zbf 0 (s.take i)).map GRule.d), .sl 1 ((byR (s.take i)).map zdq), .sl 8 (s.map GRule.d)] [cA, cB, cs] := hF
 have rs : Rd Sj [.sl 8 (s.map GRule.d)] [cs] := hF.rdAt (o := 2) rfl rfl
 have rBj : Rd Sj [.sl 1 ((byR (s.take i)).map zdq)] [cB] := hF.rdAt (o := 1) rfl rfl
 have h9 := zjn (s.take i)
 have htl : (s.take i).length ≤ 20 := by rw [List.length_take]; omega
 have h0l := zn5 0 (s.take i)
 by_cases hlt : i < s.length
 ·have hi' : 0 ≤ ((i : Nat) : Int) ∧ ((i : Nat) : Int).toNat < s.length := ⟨by omega, by simpa using hlt⟩
  have ho := hmem _ (List.getElem_mem hlt)
  have hts : s.take (i + 1) = s.take i ++ [s[i]] := List.take_succ_eq_append_getElem hlt
  by_cases h0 : s[i].Pattern.Owner = 0
  ·have ha : zbf 0 (s.take (i + 1)) = zbf 0 (s.take i) ++ [s[i]] := by rw [hts, zhk, if_pos h0]
   have hb : byR (s.take (i + 1)) = byR (s.take i) := by rw [hts, z2h _ _ h0]
   have h0' : (s[((i : Nat) : Int).toNat]'hi'.2).Pattern.Owner = 0 := h0
   repeat' ((conv => whnf) <;> first
    | rw [zad (by omega)] | (show CondP _ _ _; refine cS ?_) | refine rI rdA rf ix ?_ | refine zaf rdA tv ix ?_ | (refine zcq (f := GRule.d) (o := 0) (l := zbf 0 (s.take i)) (m := [s[i]]) tv hE hF rfl rfl rfl rf (by dsimp only [T108, List.length_cons, List.length_nil]; omega) (by simp only [List.length_cons, List.length_nil]; omega) ?_; intro cN SN hEN hFN hlN))
   all_goals first
    | (exfalso; omega)
    | (refine ⟨⟨(i + 1, SN, cN), by dsimp only; omega, hEN, by dsimp only; rw [ha, hb]; exact hFN⟩, ?_, rfl, by dsimp only; omega⟩; (conv => whnf); repeat' (first | exact trivial | exact rfl | apply And.intro))
  ·have hk : 0 ≤ s[i].Pattern.Owner - 1 ∧ (s[i].Pattern.Owner - 1).toNat < (byR (s.take i)).length := by omega
   have hk' : 0 ≤ (s[((i : Nat) : Int).toNat]'hi'.2).Pattern.Owner - 1 ∧ ((s[((i : Nat) : Int).toNat]'hi'.2).Pattern.Owner - 1).toNat < (byR (s.take i)).length := hk
   have ha : zbf 0 (s.take (i + 1)) = zbf 0 (s.take i) := by rw [hts, zhk, if_neg h0]
   have hb : byR (s.take (i + 1)) = (byR (s.take i)).set (s[i].Pattern.Owner - 1).toNat ((byR (s.take i))[(s[i].Pattern.Owner - 1).toNat]'hk.2 ++ [s[i]]) := by rw [hts, z4q _ _ (by omega) hk.2]
   have hbl : ((byR (s.take i))[(s[i].Pattern.Owner - 1).toNat]'hk.2).length ≤ 20 := by
    rw [zpp]; exact Nat.le_trans (zn5 _ _) htl
   obtain ⟨c4, hld, hap⟩ := z4v (q := 1) (k := s[i].Pattern.Owner - 1) (s[i]) hE hF rfl rfl hk hbl
   have h0' : ¬ (s[((i : Nat) : Int).toNat]'hi'.2).Pattern.Owner = 0 := h0
   repeat' ((conv => whnf) <;> first
    | (refine hld _ ?_) | rw [zad (by omega)] | (show CondP _ _ _; refine cS ?_) | refine rI rdA rf ix ?_ | refine zaf rdA tv ix ?_ | refine zae 39 [.fl 0, .fl 1, .fl 2, .fl 3, .fl 4, .fl 5, .fl 6, .fl 7, .fl 8, .fl 9, .fl 10, .fl 11, .fl 12, .fl 13, .fl 14, .fl 15, .st 16 [0, 1, 2, 3, 4, 5], .fl 17, .st 18 []] (by rfl) (by kernel_rfl) ?_ | (refine hap _ (by dsimp only [T108]; omega) _ ?_; intro cN SN hIX hST) | (refine hIX _ ?_) | (refine hST _ ?_; intro SX hEX hFX) | refine And.intro ?_ ?_)
   all_goals first
    | (exfalso; omega)
    | (refine ⟨⟨(i + 1, SX, cA), by dsimp only; omega, hEX, by dsimp only; rw [ha, hb]; exact hFX⟩, ?_, rfl, by dsimp only; omega⟩; (conv => whnf); repeat' (first | exact trivial | exact rfl | apply And.intro))
 rw [List.take_of_length_le (by omega)] at hF
 repeat' ((conv => whnf) <;> first
  | (show CondP _ _ _; refine cS ?_) | refine And.intro ?_ ?_)
 all_goals first
  | (exfalso; omega)
  | exact hE
  | exact ⟨_, _, rfl, Fr.left (ds := [.sl 8 ((zbf 0 s).map GRule.d), .sl 1 ((byR s).map zdq)]) (cs := [cA, cB]) hF rfl⟩
structure Good (b : GBrowser) : Prop where
 ok : BrOk b
 gr : ∀ g ∈ b.Grants, zfa g = true ∨ ∃ p ∈ b.Packs, p.Ext = g.Ext ∧ ∃ y ∈ p.Grants, zfz g y = true
 ru : ∀ r ∈ b.Rules, ∃ p ∈ b.Packs, p.Ext = r.Ext ∧ r ∈ p.Rules
 rv : ∀ p ∈ b.Packs, zcg b.Key p = 0
theorem zla {b : GBrowser} (h : BrOk b) {p : GPackage} (hp : p ∈ b.Packs) : zau b p.Ext = p := by
 obtain ⟨i, hi, rfl⟩ := List.getElem_of_mem hp
 exact zlz (zpq.2 h) hi
theorem z0j {l : List GOp} {values : List Int} {flows : List GFlow} {ext : Int} {s : GSent} (h : s ∈ zhr l values flows ext) : zfe flows ext s.Label s.To = true := by
 unfold zhr at h
 split at h
 ·exact (List.mem_filter.1 h).2
 ·cases h
theorem z01 {b : GBrowser} (h : BrOk b) (values : List Int) : zx8 b values = true := by
 unfold zx8 zyw
 rw [List.all_eq_true]
 intro p hp
 rw [List.all_eq_true]
 intro s hs
 unfold zd7 at hs
 split at hs
 ·have := z0j (List.mem_filter.1 hs).1
  rw [zla h hp] at this
  exact this
 ·cases hs
theorem zuc {b : GBrowser} (h : Good b) : zfw b = true := by
 unfold zfw gr1
 rw [List.all_eq_true]
 intro g hg
 rw [Bool.or_eq_true]
 refine (h.gr g hg).imp id ?_
 rintro ⟨p, hp, he, y, hy, hw⟩
 rw [← he, zla h.ok hp]
 unfold zbv
 simp only [List.all_cons, List.all_nil, Bool.and_true, List.any_eq_true]
 exact ⟨y, hy, hw⟩
theorem zyb {b : GBrowser} (h : Good b) : zjt b = true := by
 unfold zjt
 rw [List.all_eq_true]
 intro r hr
 obtain ⟨p, hp, he, hm⟩ := h.ru r hr
 rw [← he, zla h.ok hp, decide_eq_true_eq]
 exact hm
theorem zrj {b : GBrowser} (h : Good b) : zho b = true := by
 unfold zho
 rw [List.all_eq_true]
 exact fun p hp => decide_eq_true (h.rv p hp)
theorem zpc {b : GBrowser} (h : Good b) : zrd b = ⟨#[]⟩ := by
 unfold zrd
 rw [if_pos (zpq.2 h.ok), if_pos (zuc h), if_pos (zrj h), if_pos (zyb h), if_pos (z01 h.ok [])]
theorem Good.keep {b b' : GBrowser} (h : Good b) (ok : BrOk b') (hk : b'.Key = b.Key) (hp : b'.Packs = b.Packs) (hg : ∀ g ∈ b'.Grants, g ∈ b.Grants ∨ zfa g = true) (hr : b'.Rules = b.Rules) : Good b' :=
 ⟨ok, fun g hm => by
  rcases hg g hm with h1 | h1
  ·rw [hp]; exact h.gr g h1
  ·exact .inl h1, by rw [hr, hp]; exact h.ru, by rw [hk, hp]; exact h.rv⟩
theorem zos {b : GBrowser} (h : Good b) (x : GLimit) : Good (zb0 b x).1 := by
 have ok := zls h.ok x
 revert ok
 unfold zb0
 split
 ·exact fun ok => h.keep ok rfl rfl (fun g hg => .inl hg) rfl
 ·exact fun _ => h
theorem zo1 {b : GBrowser} (h : Good b) (tab ext : Int) : Good (zbz b tab ext).1 := by
 have ok := zlv h.ok tab ext
 revert ok
 unfold zbz
 split
 ·dsimp only
  split
  ·exact fun ok => h.keep ok rfl rfl (fun g hg => ((zlq b.Grants ext (zg2 b tab).Site b.Now).2 g hg).imp id fun hh => hh.2.1) rfl
  ·exact fun ok => h.keep ok rfl rfl (fun g hg => .inl hg) rfl
 ·exact fun _ => h
theorem zv7 {b : GBrowser} (h : Good b) (tab : Int) (s : GSite) : Good (zew b tab s).1 := by
 have ok := ztc h.ok tab s
 revert ok
 unfold zew
 split
 ·exact fun ok => h.keep ok rfl rfl (fun g hg => .inl (List.mem_filter.1 hg).1) rfl
 ·exact fun _ => h
theorem zqs {b : GBrowser} (h : Good b) (n : Int) : Good (zci b n).1 := by
 have ok := znf h.ok n
 revert ok
 unfold zci
 split
 ·exact fun ok => h.keep ok rfl rfl (fun g hg => .inl (List.mem_filter.1 hg).1) rfl
 ·exact fun _ => h
theorem zj4 {b : GBrowser} (h : Good b) {tab : Int} {e : GEdit} (ok : BrOk (zcf b tab e).1) : Good (zcf b tab e).1 := by
 revert ok
 unfold zcf
 split
 ·exact fun ok => h.keep ok rfl rfl (fun g hg => .inl hg) rfl
 ·exact fun _ => h
theorem zry {b : GBrowser} (h : Good b) (tab : Int) (e : GEdit) : Good (zcn b tab e).1 := by
 have ok := zmn h.ok tab e
 revert ok
 unfold zcn
 split
 ·exact fun ok => zj4 h ok
 ·exact fun _ => h
theorem zr1 {b : GBrowser} (h : Good b) (ext tab : Int) (e : GEdit) : Good (zca b ext tab e).1 := by
 have ok := zm3 h.ok ext tab e
 revert ok
 unfold zca
 split
 ·exact fun ok => zj4 h ok
 ·exact fun _ => h
theorem zrl {b : GBrowser} (h : Good b) (ext tab name value : Int) : Good (zcj b ext tab name value).1 := by
 have ok := zm4 h.ok ext tab name value
 revert ok
 unfold zcj
 split
 ·exact fun ok => h.keep ok rfl rfl (fun g hg => .inl hg) rfl
 ·exact fun _ => h
theorem zvn {key : Int} {p : GPackage} (h : zcg key p = 0) : zal p = true ∧ zb4 key p = true := by
 unfold zcg at h
 split at h
 ·rename_i h1
  split at h
  ·rename_i h2; exact ⟨h1, h2⟩
  ·omega
 ·omega
theorem zsl {p : GPattern} (h : zbl p = true) : zgi p p = true := by
 unfold zgi; rw [h]; simp
theorem zn2 {g : GGrant} (h : za4 g = true) : zfz g g = true := by
 have hp : zbl g.Pattern = true := by
  unfold za4 at h; simp only [Bool.and_eq_true] at h; exact h.1.1.1.1.2
 unfold zfz
 rw [h, zsl hp]; simp
structure PkFine (key : Int) (p : GPackage) : Prop where
 rv : zcg key p = 0
 gr : ∀ g ∈ p.Grants, za4 g = true ∧ g.Ext = p.Ext
 ru : ∀ r ∈ p.Rules, r.Ext = p.Ext
theorem z0l {key : Int} {p : GPackage} (h : zcg key p = 0) : PkFine key p := by
 have h1 := (zvn h).1
 unfold zal at h1
 simp only [Bool.and_eq_true, List.all_eq_true, decide_eq_true_eq] at h1
 exact ⟨h, h1.1.1.2, fun r hr => (h1.2 r hr).2⟩
theorem zl3 {b : GBrowser} (h : Good b) (p : GPackage) : Good (za9 b p).1 := by
 have ok := zi8 h.ok p
 revert ok
 unfold za9
 split
 ·rename_i hk
  intro ok
  have hf := z0l hk.1
  have hin : ∀ q ∈ b.Packs, q ∈ (zf6 b p).Packs := fun q hq => by
   unfold zf6
   rw [← List.take_append_drop (zrg b.Packs p.Ext) b.Packs, List.mem_append] at hq
   exact hq.elim (fun hq => List.mem_append_left _ hq) fun hq => List.mem_append_right _ (List.mem_cons_of_mem _ hq)
  have hp : p ∈ (zf6 b p).Packs := List.mem_append_right _ (List.mem_cons_self ..)
  refine ⟨ok, fun g hg => ?_, fun r hr => ?_, fun q hq => ?_⟩
  ·rcases List.mem_append.1 hg with hg | hg
   ·refine (h.gr g hg).imp id ?_
    rintro ⟨q, hq, h1, h2⟩
    exact ⟨q, hin q hq, h1, h2⟩
   ·obtain ⟨g1, g2⟩ := hf.gr g hg
    exact .inr ⟨p, hp, g2.symm, g, hg, zn2 g1⟩
  ·rcases List.mem_append.1 hr with hr | hr
   ·obtain ⟨q, hq, h1⟩ := h.ru r hr
    exact ⟨q, hin q hq, h1⟩
   ·exact ⟨p, hp, (hf.ru r hr).symm, hr⟩
  ·rcases List.mem_append.1 hq with hq | hq
   ·exact h.rv q (List.mem_of_mem_take hq)
   ·rcases List.mem_cons.1 hq with rfl | hq
    ·exact hk.1
    ·exact h.rv q (List.mem_of_mem_drop hq)
 ·exact fun _ => h
theorem zs0 {key : Int} {old p : GPackage} {c : Bool} (h : zdo key old p c = 0) : zcg key p = 0 ∧ old.Ext = p.Ext ∧ ¬ p.Version ≤ old.Version := by
 rcases zk4 key old p c with h1 | h1 | h1 | h1 | h1 | h1 | h1 | h1
 ·omega
 ·omega
 ·omega
 ·omega
 ·omega
 ·exact ⟨h1.2.1, h1.2.2.1, h1.2.2.2.2.1⟩
 ·exact ⟨h1.2.1, h1.2.2.1, h1.2.2.2.2.1⟩
 ·omega
theorem z5y {α : Type} {l : List α} {i : Nat} {x q : α} (h : q ∈ l) : q ∈ l.set i x ∨ ∃ hi : i < l.length, q = l[i] := by
 obtain ⟨j, hj, rfl⟩ := List.getElem_of_mem h
 by_cases e : j = i
 ·subst e; exact .inr ⟨hj, rfl⟩
 ·left
  have : (l.set i x)[j]'(by rw [List.length_set]; exact hj) = l[j] := by rw [List.getElem_set, if_neg (Ne.symm e)]
  rw [← this]; exact List.getElem_mem _
theorem znc {b : GBrowser} (h : Good b) (p : GPackage) (c : Bool) : Good (zbi b p c).1 := by
 have ok := zkh h.ok p c
 revert ok
 unfold zbi
 split
 ·rename_i hk
  intro ok
  obtain ⟨hi, he⟩ := zod hk.1
  obtain ⟨u1, u2, u3⟩ := zs0 hk.2.1
  have hf := z0l u1
  have hin : ∀ q ∈ b.Packs, q.Ext ≠ p.Ext → q ∈ (zjz b p).Packs := fun q hq hn => by
   rcases z5y (i := (zai b p.Ext).toNat) (x := p) hq with hq | ⟨_, e⟩
   ·exact hq
   ·exact absurd (e ▸ he) hn
  have hp : p ∈ (zjz b p).Packs := by
   have : (b.Packs.set (zai b p.Ext).toNat p)[(zai b p.Ext).toNat]'(by rw [List.length_set]; exact hi) = p := by rw [List.getElem_set_self]
   exact List.mem_of_getElem this
  refine ⟨ok, fun g hg => ?_, fun r hr => ?_, fun q hq => ?_⟩
  ·rcases List.mem_append.1 hg with hg | hg
   ·obtain ⟨hg1, hg2⟩ := List.mem_filter.1 hg
    unfold gBut at hg2
    simp only [Bool.not_eq_true', decide_eq_false_iff_not] at hg2
    refine (h.gr g hg1).imp id ?_
    rintro ⟨q, hq, h1, h2⟩
    exact ⟨q, hin q hq (by rw [h1]; exact hg2), h1, h2⟩
   ·obtain ⟨g1, g2⟩ := hf.gr g hg
    exact .inr ⟨p, hp, g2.symm, g, hg, zn2 g1⟩
  ·rcases List.mem_append.1 hr with hr | hr
   ·obtain ⟨hg1, hg2⟩ := List.mem_filter.1 hr
    unfold rBut at hg2
    simp only [Bool.not_eq_true', decide_eq_false_iff_not] at hg2
    obtain ⟨q, hq, h1, h2⟩ := h.ru r hg1
    exact ⟨q, hin q hq (by rw [h1]; exact hg2), h1, h2⟩
   ·exact ⟨p, hp, (hf.ru r hr).symm, hr⟩
  ·rcases List.mem_or_eq_of_mem_set hq with hq | rfl
   ·exact h.rv q hq
   ·exact u1
 ·exact fun _ => h
theorem zh9 {b : GBrowser} (h : Good b) (ext : Int) : Good (zbs b ext).1 := by
 have ok := zkc h.ok ext
 revert ok
 unfold zbs
 split
 ·rename_i hp
  intro ok
  refine ⟨ok, fun g hg => ?_, fun r hr => ?_, fun q hq => h.rv q ((zq8 _ _).subset hq)⟩
  ·obtain ⟨hg1, hg2⟩ := List.mem_filter.1 hg
   unfold gBut at hg2
   simp only [Bool.not_eq_true', decide_eq_false_iff_not] at hg2
   refine (h.gr g hg1).imp id ?_
   rintro ⟨q, hq, h1, h2⟩
   exact ⟨q, zie hp hq (by rw [h1]; exact hg2), h1, h2⟩
  ·obtain ⟨hg1, hg2⟩ := List.mem_filter.1 hr
   unfold rBut at hg2
   simp only [Bool.not_eq_true', decide_eq_false_iff_not] at hg2
   obtain ⟨q, hq, h1, h2⟩ := h.ru r hg1
   exact ⟨q, zie hp hq (by rw [h1]; exact hg2), h1, h2⟩
 ·exact fun _ => h
end Go.Proofs.YtlmmdpmmdmhacaaGreat
namespace Go.Proofs.YtlmmdpmmdmhacaaGreat
open Go Go.ChangeShapes Go.WideShapes Go.ChangeAt Go.RowKit
set_option linter.unusedVariables false
set_option linter.unusedSimpArgs false
theorem z5b {key : Int} {p : GPackage} (h : zb4 key p = true) : 1 ≤ p.Ext ∧ p.Ext ≤ 5 := by
 unfold zb4 zal zhu at h
 simp only [Bool.and_eq_true] at h
 have := h.1.1.1.1.1
 simp_all [inR]
theorem z45 {b : GBrowser} (hb : BrOk b) {e : Int} (h : e ∈ exts b) : 1 ≤ e ∧ e ≤ 5 := by
 obtain ⟨p, hp, rfl⟩ := List.mem_map.1 h
 exact z5b (hb.sld p hp)
end Go.Proofs.YtlmmdpmmdmhacaaGreat
namespace Go.Proofs.YtlmmdpmmdmhacaaGreat
open Go Go.ChangeShapes Go.WideShapes Go.ChangeAt Go.RowKit
set_option linter.unusedVariables false
set_option linter.unusedSimpArgs false
set_option maxRecDepth 100000
theorem zw2 (a b : Array UInt8) : eqS ⟨a⟩ ⟨b⟩ = (a.toList == b.toList) := by
 unfold eqS
 rw [Lib.toList_data, Lib.toList_data]
theorem ztr {b : GBrowser} (h : Good b) (e : GEvent) : Good (za1 b e).1 := by
 rcases zsv b e with ⟨_, k⟩ | ⟨_, k⟩ | ⟨_, k⟩ | ⟨_, k⟩ | ⟨_, k⟩ | ⟨_, k⟩ | ⟨_, k⟩ | ⟨_, k⟩ | ⟨_, k⟩ | ⟨_, k⟩ | ⟨_, k⟩ <;> rw [k]
 ·exact zl3 h _
 ·exact zh9 h _
 ·exact znc h _ _
 ·exact zos h _
 ·exact zo1 h _ _
 ·exact zv7 h _ _
 ·exact zqs h _
 ·exact zry h _ _
 ·exact zr1 h _ _ _
 ·exact zrl h _ _ _ _
 ·exact h
theorem zp1 {b : GBrowser} (h : Good b) : ∀ l : List GEvent, Good (zk7 b l) := fun l => by
 induction l generalizing b with
 | nil => exact h
 | cons e r ih => exact ih (ztr h e)
theorem z3v {b : GBrowser} (h : DrOk b) (hp : b.Packs = []) (hg : b.Grants = []) (hr : b.Rules = []) : Good b :=
 ⟨h.ok, fun g hm => (by rw [hg] at hm; cases hm), fun r hm => (by rw [hr] at hm; cases hm), fun p hm => (by rw [hp] at hm; cases hm)⟩
theorem z03 (b : GBrowser) (ext : Int) : (zgb b ext).Tabs.length = b.Tabs.length := by unfold zgb; rw [List.length_map]
theorem z2u {b : GBrowser} {ext : Int} {i : Nat} (h : i < b.Tabs.length) (h2 : i < (zgb b ext).Tabs.length) : (zgb b ext).Tabs[i] = zdw (b.Tabs[i]) ext := by
 simp only [zgb, List.getElem_map]
theorem zya {b : GBrowser} (h : Good b) {ext : Int} (hp : 0 ≤ zai b ext) : Good (zgb b ext) := by
 have := zh9 h ext
 rw [zu5 hp] at this
 exact this
theorem zy0 {b : GBrowser} (hb : BrOk b) {ext : Int} (h : 0 ≤ zai b ext) : ¬ 0 ≤ zai (zgb b ext) ext := fun hh => by
 obtain ⟨p, hp, he⟩ := List.mem_map.1 (zfv.1 hh)
 exact zss hb h hp he
theorem z0g (l : List Int) (o : Int) : 0 ≤ zbm l o ∧ zbm l o ≤ 999 := by
 unfold zbm
 split
 ·split
  ·rename_i h; exact zky h
  ·omega
 ·omega
theorem z1s (l : List Int) (w x o : Int) : 0 ≤ zok l w x o ∧ zok l w x o ≤ 999 := by
 unfold zok
 split
 ·rename_i h; exact zky h.2
 ·exact z0g l o
theorem zn9 (l : List Int) (w x o : Int) (ho : 1 ≤ o ∧ o ≤ 9) : zbm (zb8 l w x) o = zok l w x o := by
 have hl : (zb8 l w x).length = 9 := zc1 _ 9
 have hi : o.toNat - 1 < (zb8 l w x).length := by omega
 have hd : (zb8 l w x).getD (o.toNat - 1) 0 = zok l w x o := by
  rw [List.getD_eq_getElem?_getD, List.getElem?_eq_getElem hi]
  show (zb8 l w x)[o.toNat - 1]'hi = _
  exact (zi3 (zok l w x) 9 (o.toNat - 1) hi).trans (by congr 1; omega)
 have hr := z1s l w x o
 unfold zbm
 rw [if_pos ⟨ho.1, by rw [hl]; exact ho.2⟩, hd, if_pos (by unfold inR; simp only [Bool.and_eq_true, decide_eq_true_eq]; exact hr)]
theorem zlu {P Q : Int → Int} : ∀ n : Nat, (∀ o : Int, 1 ≤ o ∧ o ≤ n → P o = Q o) → zc7 P n = zc7 Q n
 | 0, _ => rfl
 | n + 1, h => by rw [zc7, zc7, zlu n fun o ho => h o (by omega), h ((n : Int) + 1) (by omega)]
theorem z0a {b : GBrowser} {ext o : Int} (l : List Int) (x : Int) (h : zgc b ext o 1 = false) : zd7 b ext (zb8 l o x) = zd7 b ext l := by
 have hv : zd3 b ext (zb8 l o x) = zd3 b ext l := by
  unfold zd3
  refine zlu 9 fun w hw => ?_
  unfold zht
  split
  ·rename_i hm
   have hn : w ≠ o := fun e => by rw [e, h] at hm; cases hm
   rw [zn9 _ _ _ _ (by omega)]
   unfold zok
   rw [if_neg (fun hh => hn hh.1)]
  ·rfl
 unfold zd7
 rw [hv]
theorem filz {α : Type} {P : α → Bool} {l : List α} (h : ∀ x ∈ l, P x = false) : (l.filter P).length = 0 := by
 rw [List.length_eq_zero_iff, List.filter_eq_nil_iff]
 intro x hx hq
 rw [h x hx] at hq; cases hq
theorem zz0 (ext : Int) : ∀ l : List GTab, (∀ t ∈ l, ∀ e ∈ t.Edits, e.By ≠ ext) → zga ext l = 0
 | [], _ => rfl
 | t :: r, h => by
   have h1 := zz0 ext r fun t ht => h t (List.mem_cons_of_mem _ ht)
   have h2 : (t.Edits.filter (zrk ext)).length = 0 := filz fun e he => decide_eq_false (h t List.mem_cons_self e he)
   rw [zga, h1, h2]; rfl
theorem zvq {b : GBrowser} (hb : BrOk b) {ext : Int} (he : 1 ≤ ext) (hp : ¬ 0 ≤ zai b ext) : zkb b ext = 0 := by
 have hn : ext ∉ exts b := fun hh => hp (zfv.2 hh)
 have z1 : (b.Grants.filter (grOf ext)).length = 0 := filz fun x hx => decide_eq_false fun hh => hn (hh ▸ hb.gex x hx)
 have z2 : (b.Rules.filter (ruOf ext)).length = 0 := filz fun x hx => decide_eq_false fun hh => hn (hh ▸ hb.rex x hx)
 have z3 : (b.Store.filter (stOf ext)).length = 0 := filz fun x hx => decide_eq_false fun hh => hn (hh ▸ hb.sex x hx)
 have z4 : (b.Packs.filter (paOf ext)).length = 0 := filz fun x hx => decide_eq_false fun hh => hn (hh ▸ List.mem_map.2 ⟨x, hx, rfl⟩)
 have z5 : zga ext b.Tabs = 0 := zz0 ext _ fun t ht e he' hh => by
  rcases hb.eds t ht e he' with h0 | h0
  ·omega
  ·exact hn (hh ▸ h0)
 unfold zkb zpj zj1
 rw [z1, z2, z3, z4, z5]; rfl
end Go.Proofs.YtlmmdpmmdmhacaaGreat
