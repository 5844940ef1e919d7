/- A text of the proof. A text of the proof. Equal lists, tabs, packages, browsers. -/
import Derived.Test.YtlmmdpmmdmhacaaGreatKt33
import Derived.Test.YtlmmdpmmdmhacaaGreatKt22
import Derived.Test.YtlmmdpmmdmhacaaGreatKt28
import Derived.Test.YtlmmdpmmdmhacaaGreatKt24
import Derived.Test.YtlmmdpmmdmhacaaGreatKt31
import Derived.Test.YtlmmdpmmdmhacaaGreatKt17
namespace Go.Proofs.YtlmmdpmmdmhacaaGreat
open Go Go.ChangeShapes Go.WideShapes Go.ChangeAt Go.RowKit
set_option linter.unusedVariables false
set_option linter.unusedSimpArgs false
set_option maxRecDepth 100000
theorem z6v {id o k by' : Nat} {S0 S : Store} {c : C} {ds : List D} {cs : List C} {xs yd : List (List D)} {ys : List (List C)} {K : C → Store → Prop}
 (hD : Drw id S0 S) (h : Fr S0.length S ds cs) (hd : ds[o]? = some (.sl k xs)) (hc : cs[o]? = some c) (hy : Rep2 true S yd ys [])
 (hk : ∀ y ∈ yd, y.length = k) (hb : (xs.length + yd.length) * by' ≤ 140737488355328) (hm : xs.length + yd.length ≤ 9223372036854775807)
 (hK : ∀ c' S', Drw id S0 S' → Fr S0.length S' (ds.set o (.sl k (xs ++ yd))) (cs.set o c') → K c' S') : AppP k by' S c ys K := by
 have ht := zrf hD
 refine zrc (S0 := S.take S0.length) (S1 := S) (zqj S _) (by rw [ht]; exact h) (Ext.refl S) (by rw [ht]; exact hD.len) hd hc ⟨[], hy, List.nodup_nil, fun _ hi => by cases hi⟩ hk hb hm fun c' S' e f _ => hK c' S' (hD.own e) (by rw [ht] at f; exact f)
theorem z0s {α : Type} {f : α → List D} (hf : ∀ x, Flat (f x)) {id o k by' : Nat} {S0 S : Store} {c : C} {ds : List D} {cs : List C} {l m : List α} {ys : List (List C)} {K : C → Store → Prop}
 (hD : Drw id S0 S) (h : Fr S0.length S ds cs) (hd : ds[o]? = some (.sl k (l.map f))) (hc : cs[o]? = some c)
 (hy : ys = m.map fun x => zdz (f x)) (hk : ∀ x, (f x).length = k) (hb : (l.length + m.length) * by' ≤ 140737488355328) (hm : l.length + m.length ≤ 9223372036854775807)
 (hK : ∀ c' S', Drw id S0 S' → Fr S0.length S' (ds.set o (.sl k ((l ++ m).map f))) (cs.set o c') → K c' S') : AppP k by' S c ys K := by
 subst hy
 refine z6v (yd := m.map f) hD h hd hc (zem hf m) (fun y hy => by obtain ⟨x, _, rfl⟩ := List.mem_map.1 hy; exact hk x) (by simpa using hb) (by simpa using hm) fun c' S' h1 h2 => hK c' S' h1 (by rw [List.map_append]; exact h2)
theorem Drw.push {id : Nat} {S S1 : Store} (h : Drw id S S1) (r : Row) : Drw id S (S1 ++ [r]) := h.ext (Ext.push _ _)
theorem Fr.pushD {lo k : Nat} {S : Store} {ds : List D} {cs : List C} {α : Type} {f : α → List D} (h : Fr lo S ds cs) (hlo : lo ≤ S.length) (l : List α) (hf : ∀ x, Flat (f x)) (hl : l.length ≤ 9223372036854775807) {rows : List (List C)} (hr : rows = l.map fun x => zdz (f x)) :
 Fr lo (S ++ [⟨true, k, rows⟩]) (ds ++ [.sl k (l.map f)]) (cs ++ [.sl S.length 0 l.length l.length]) := by
 subst hr
 exact h.join (Ext.push S _) (zjq l hf hl) hlo
theorem ztg (d : List GNode) : ∀ (r : List GNode) (i : Nat), r = d.drop i → (zh4 d r i = true ↔ ∀ j (h : j < d.length), i ≤ j → zej d d[j] j = true)
 | [], i, hr => by
   have : d.length ≤ i := by have := congrArg List.length hr; simp at this; omega
   constructor
   ·intro _ j h hij; omega
   ·intro _; rfl
 | x :: r, i, hr => by
   have hi : i < d.length := by have := congrArg List.length hr; simp at this; omega
   rw [List.drop_eq_getElem_cons hi] at hr
   injection hr with h1 h2
   rw [zh4]
   have ih := ztg d r (i + 1) h2
   constructor
   ·intro h j hj hij
    split at h
    ·rename_i hok
     by_cases e : j = i
     ·subst e; rw [← h1]; exact hok
     ·exact ih.1 h j hj (by omega)
    ·cases h
   ·intro h
    rw [if_pos (by rw [h1]; exact h i hi (Nat.le_refl _))]
    exact ih.2 fun j hj hij => h j hj (by omega)
theorem znd {d : List GNode} : zck d = true ↔ (1 ≤ d.length ∧ d.length ≤ 16) ∧ ∀ j (h : j < d.length), zej d d[j] j = true := by
 unfold zck
 rw [Bool.and_eq_true, Bool.and_eq_true, decide_eq_true_eq, decide_eq_true_eq, ztg d d 0 rfl]
 exact ⟨fun ⟨h1, h2⟩ => ⟨h1, fun j h => h2 j h (Nat.zero_le _)⟩, fun ⟨h1, h2⟩ => ⟨h1, fun j h _ => h2 j h⟩⟩
theorem zwc {id : Int} : ∀ {l : List GNode} {i : Nat}, (∃ x ∈ l, x.Id = id) → 0 ≤ zbh id l i
 | [], _, h => by obtain ⟨x, hx, _⟩ := h; cases hx
 | y :: l, i, h => by
   rw [zbh]
   split
   ·omega
   ·rename_i hn
    obtain ⟨x, hx, he⟩ := h
    rcases List.mem_cons.1 hx with rfl | hx
    ·exact absurd he hn
    ·exact zwc ⟨x, hx, he⟩
theorem z63 {l : List GNode} {x : GNode} (h : x ∈ l) : 0 ≤ zah l x.Id := zwc ⟨x, h, rfl⟩
theorem zwb {α : Type} {l m : List α} {i : Nat} {d : α} (h : i < l.length) : (l ++ m).getD i d = l.getD i d := by rw [List.getD_eq_getElem?_getD, List.getD_eq_getElem?_getD, List.getElem?_append_left h]
theorem z35 {l : List GNode} {x : GNode} (h : zck l = true) (hl : l.length < 16) (hi : (l.getD (l.length - 1) default).Id < x.Id) (hp : 0 ≤ zah l x.Parent) (h1 : 0 ≤ x.Tag ∧ x.Tag ≤ 9) (h2 : 0 ≤ x.Text ∧ x.Text ≤ 999) (h3 : 0 ≤ x.By ∧ x.By ≤ 5) : zck (l ++ [x]) = true := by
 rw [znd] at h ⊢
 obtain ⟨ha, hb⟩ := h
 refine ⟨by simp; omega, fun j hj => ?_⟩
 by_cases e : j < l.length
 ·rw [List.getElem_append_left e]
  have := hb j e
  unfold zej at this ⊢
  rw [zwb (by omega), List.take_append_of_le_length (by omega)]
  exact this
 ·have e : j = l.length := by simp at hj; omega
  subst e
  rw [List.getElem_append_right (Nat.le_refl _)]
  simp only [Nat.sub_self, List.getElem_cons_zero]
  unfold zej
  rw [if_neg (by omega), zwb (by omega), List.take_left]
  simp only [inR, Bool.and_eq_true, decide_eq_true_eq]
  omega
set_option maxHeartbeats 2000000 in
theorem z1r {id : Nat} {S : Store} (h : Cur id S) : EvA Tryz.prog 310 [.s (.pt id)] S (fun r S' => Drw id S S' ∧ ∃ l : List GNode, zck l = true ∧ l.length ≤ 7 ∧ ∃ c', r = .v (.s c') ∧ Fr S.length S' [.sl 5 (l.map GNode.d)] [c']) := by
 have hlt := h.lt
 have hD := Drw.refl h
 have hF : Fr S.length S [] [] := zc2
 refine zac tok Tryz.func310 (by kernel_rfl) rfl ?_
 skip
 (conv => whnf)
 have hD1 := hD.push ⟨true, 5, [[.int .i64 0, .int .i64 (-1), .int .i64 0, .int .i64 0, .int .i64 0]]⟩
 have hF1 := hF.pushD (k := 5) (f := GNode.d) hD.len [(⟨0, -1, 0, 0, 0⟩ : GNode)] (fun _ => trivial) (by decide) (rows := [[.int .i64 0, .int .i64 (-1), .int .i64 0, .int .i64 0, .int .i64 0]]) rfl
 refine zab (za7 _ hD1.cur) ?_; rintro _ Sn ⟨hDn, xn, hxn, rfl⟩
 replace hF1 := hF1.drw hlt hDn
 replace hD1 := hD1.trans hDn
 obtain ⟨n, rfl⟩ := Int.eq_ofNat_of_zero_le hxn.1
 skip
 refine zag {q : (Nat × Int) × Store × C // q.1.1 ≤ 6 ∧ Drw id S q.2.1 ∧ ∃ l : List GNode, zck l = true ∧ l.length + q.1.1 ≤ 7 ∧ (l.getD (l.length - 1) default).Id = q.1.2 ∧ 0 ≤ q.1.2 ∧ q.1.2 + 2 * q.1.1 ≤ 12 ∧ Fr S.length q.2.1 [.sl 5 (l.map GNode.d)] [q.2.2]} [3, 4, 5, 10, 11, 12, 13, 14, 15, 16, 17, 18, 19, 20, 21, 22, 23, 24, 25, 26, 27, 28, 29, 30, 31, 32, 33, 34, 35, 36, 37] (fun zb => [(5, .v (.s (.int .i64 (zb.1.1.1 : Nat)))), (4, .v (.s (.int .i64 zb.1.1.2))), (3, .v (.s zb.1.2.2))]) (fun zb => zb.1.2.1) (fun zb => zb.1.1.1) ⟨((n, 0), _, _), by have := hxn.2.2.1 (by omega); dsimp only; omega, hD1, [⟨0, -1, 0, 0, 0⟩], by decide, by have := hxn.2.2.1 (by omega); simp; omega, rfl, by simp, by have := hxn.2.2.1 (by omega); dsimp only; omega, hF1⟩ okL rfl ?_
 rintro ⟨⟨⟨k, z⟩, Si, ci⟩, hk, hP⟩; dsimp only
 clear hF hD hD1 hF1 hDn hxn
 replace hk : k ≤ 6 := hk
 obtain ⟨hD, l, hdoc, hl, hlast, hz0, hz, hF⟩ : Drw id S Si ∧ ∃ l : List GNode, zck l = true ∧ l.length + k ≤ 7 ∧ (l.getD (l.length - 1) default).Id = z ∧ 0 ≤ z ∧ z + 2 * k ≤ 12 ∧ Fr S.length Si [.sl 5 (l.map GNode.d)] [ci] := hP
 have hl1 : 1 ≤ l.length := (znd.1 hdoc).1.1
 have rl := hF.rd
 repeat' ((conv => whnf) <;> first
  | rw [zad (by omega)] | refine cD (fun _ => ?_) fun _ => ?_ | (refine zab (za7 _ hD.cur) ?_; rintro _ Sn ⟨hDn, xn, hxn, rfl⟩; replace hF := hF.drw hlt hDn; replace hD := hD.trans hDn; clear hDn) | refine rE fun hml => ?_ | refine rI rdA rf ix ?_ | refine zaf rdA tv ix ?_ | refine zae 19 [.fl 0, .fl 1, .fl 2, .fl 3, .fl 4, .fl 5, .fl 10, .fl 12, .fl 14, .st 6 [0, 1, 2, 10, 12, 14], .fl 7, .fl 8, .fl 9, .st 11 [0, 1, 2, 12, 14, 7, 8, 9], .st 13 [0, 1, 2, 14, 7, 8, 9], .st 15 [0, 1, 2, 7, 8, 9], .fl 16, .fl 17, .st 18 [], .st 19 []] (by rfl) (by kernel_rfl) ?_ | (refine z0s (f := GNode.d) (o := 0) (l := l) (m := [⟨_, _, _, _, _⟩]) (fun _ => trivial) hD hF rfl rfl rfl rf (by dsimp only [T139]; simp only [List.length_singleton]; omega) (by simp only [List.length_singleton]; omega) ?_; intro cN SN hDN hFN) | refine And.intro ?_ ?_)
 all_goals first
  | exact hD
  | exact ⟨l, hdoc, by omega, _, rfl, hF⟩
  | (rename_i _ x1 hx1 _ x2 hx2 _ x3 hx3 _ x4 hx4
     refine ⟨⟨((k - 1, z + 1 + x1), SN, cN), by dsimp only; omega, hDN, _, z35 hdoc (by omega) ?_ ?_ ?_ ?_ ?_, ?_, ?_, ?_, ?_, hFN⟩, ?_, rfl, by dsimp only; omega⟩
     ·dsimp only; omega
     ·exact z63 (List.getElem_mem _)
     ·dsimp only; omega
     ·dsimp only; omega
     ·dsimp only; omega
     ·simp only [List.length_append, List.length_singleton]; omega
     ·simp
     ·dsimp only; omega
     ·dsimp only; omega
     ·(conv => whnf); repeat' (first | exact trivial | exact rfl | (show _ = _; congr 3; dsimp only; omega) | apply And.intro))
theorem Fr.putLast {lo o : Nat} {S : Store} {ds : List D} {cs : List C} {d' : D} {c' : C} (h : Fr lo S (ds ++ [d']) (cs ++ [c'])) (hl : cs.length = ds.length) (ho : o < ds.length) : Fr lo S (ds.set o d') (cs.set o c') := by
 obtain ⟨ids, hg, hn, hlo⟩ := h
 obtain ⟨p1, p2, ia, j, s1, s2, h, g⟩ := hg.split
 obtain ⟨s3, s4⟩ := List.append_inj s1 (by rw [hl, h.len])
 subst s3; subst s4; subst s2
 rw [zaw] at g
 obtain ⟨c1, cs1, i1, j1, q1, q2, g, q4⟩ := g
 rw [zce] at q4
 obtain ⟨rfl, rfl⟩ := q4
 injection q1 with q3 _
 subst q3; rw [List.append_nil] at q2; subst q2
 obtain ⟨c0, x, m, y, k1, k2, k3, k4⟩ := h.setAt o _ (List.getElem?_eq_getElem ho)
 subst k2
 simp only [List.nodup_append, List.mem_append] at hn
 obtain ⟨⟨⟨b1, b2, b3⟩, b4, b5⟩, b6, b7⟩ := hn
 refine ⟨x ++ j ++ y, k4 (fun _ _ => rfl) g, ?_, fun i hi => hlo i ?_⟩
 ·simp only [List.nodup_append, List.mem_append]
  refine ⟨⟨b1, b6, fun a ha b hb => b7 a (.inl (.inl ha)) b hb⟩, b4, fun a ha b hb => ?_⟩
  rcases ha with ha | ha
  ·exact b5 a (.inl ha) b hb
  ·exact fun e => b7 b (.inr hb) a ha e.symm
 ·simp only [List.mem_append] at hi ⊢
  rcases hi with (hi | hi) | hi
  ·exact .inl (.inl (.inl hi))
  ·exact .inr hi
  ·exact .inl (.inr hi)
theorem dsto {id q k : Nat} {S0 S : Store} {c : C} {ds : List D} {cs : List C} {xs : List (List D)} {i : Int} {off : Nat} {A B Z : List D} {y : C} {K : Store → Prop}
 (hD : Drw id S0 S) (h : Fr S0.length S ds cs) (hd : ds[q]? = some (.sl k xs)) (hc : cs[q]? = some c)
 (h0 : 0 ≤ i ∧ i.toNat < xs.length) (hx : xs[i.toNat]? = some (A ++ B ++ Z)) (hA : A.length = off) (hB : B.length = 1) (hk : (A ++ B ++ Z).length = k)
 (hK : ∀ S', Drw id S0 S' → Fr S0.length S' (ds.set q (.sl k (xs.set i.toNat (A ++ [.x y] ++ Z)))) cs → K S') : StoP S c i off [y] K := by
 have ht := zrf hD
 refine zj6 (S0 := S.take S0.length) (S1 := S) (zqj S _) (by rw [ht]; exact h) (Ext.refl S) (by rw [ht]; exact hD.len) hd hc ziu h0 hx hA (by rw [hB]; rfl) hk fun S' e f _ => hK S' (hD.own e) (by rw [ht] at f; exact f)
theorem z7m {l : List GNode} {i : Int} (h : 0 ≤ i ∧ i.toNat < l.length) : (l.map GNode.d)[i.toNat]? = some (l[i.toNat]'h.2).d := by simp [h.2]
theorem z62 {l : List GNode} {i : Nat} {x : GNode} : (l.map GNode.d).set i x.d = (l.set i x).map GNode.d := by rw [List.map_set]
theorem zkw {id : Nat} {S : Store} (h : Cur id S) : EvA Tryz.prog 84 [.s (.pt id)] S (fun r S' => Drw id S S' ∧ ∃ s : GSite, (ze7 s = true ∧ 1 ≤ s.Owner ∧ s.Owner ≤ 4 ∧ 0 ≤ s.Sub ∧ s.Sub ≤ 2) ∧ r = .v (.agg s.c)) := by
 have hlt := h.lt
 have hD := Drw.refl h
 have hF : Fr S.length S [] [] := zc2
 refine zac tok Tryz.func84 (by kernel_rfl) rfl ?_
 repeat' ((conv => whnf) <;> first
  | rw [zad (by omega)] | (refine zab (za7 _ hD.cur) ?_; rintro _ Sn ⟨hDn, xn, hxn, rfl⟩; replace hF := hF.drw hlt hDn; replace hD := hD.trans hDn; clear hDn) | refine And.intro ?_ ?_)
 all_goals first
  | exact hD
  | exact ⟨⟨_, _⟩, ⟨by simp only [ze7, inR, Bool.and_eq_true, decide_eq_true_eq]; omega, by dsimp only; omega, by dsimp only; omega, by dsimp only; omega, by dsimp only; omega⟩, rfl⟩
theorem ztf {id : Nat} {S : Store} (h : Cur id S) : EvA Tryz.prog 163 [.s (.pt id)] S (fun r S' => Drw id S S' ∧ ∃ e : GEdit, (zc4 e = true ∧ e.By ≤ 3) ∧ r = .v (.agg e.c)) := by
 have hlt := h.lt
 have hD := Drw.refl h
 have hF : Fr S.length S [] [] := zc2
 refine zac tok Tryz.func163 (by kernel_rfl) rfl ?_
 repeat' ((conv => whnf) <;> first
  | rw [zad (by omega)] | (refine zab (za7 _ hD.cur) ?_; rintro _ Sn ⟨hDn, xn, hxn, rfl⟩; replace hF := hF.drw hlt hDn; replace hD := hD.trans hDn; clear hDn) | refine And.intro ?_ ?_)
 all_goals first
  | exact hD
  | exact ⟨⟨_, _, _, _, _, _⟩, ⟨by simp only [zc4, inR, Bool.and_eq_true, decide_eq_true_eq]; omega, by dsimp only; omega⟩, rfl⟩
theorem zt0 {l : List Int} : ∀ (r : List Int) (i : Nat), r = l.drop i → l.Pairwise (· < ·) → (∀ x ∈ l, 0 ≤ x ∧ x ≤ 9) → zgp l r i = true
 | [], _, _, _, _ => rfl
 | n :: r, i, hr, hp, hx => by
   have hi : i < l.length := by have := congrArg List.length hr; simp at this; omega
   rw [List.drop_eq_getElem_cons hi] at hr
   injection hr with h1 h2
   rw [zgp, if_pos]
   ·exact zt0 r (i + 1) h2 hp hx
   ·have hn := hx n (by rw [h1]; exact List.getElem_mem hi)
    by_cases h0 : i = 0
    ·subst h0; rw [zfr]; simp only [inR, Bool.and_eq_true, decide_eq_true_eq]; omega
    ·rw [zg1 (by omega) (by omega), h1]
     have := List.pairwise_iff_getElem.1 hp (i - 1) i (by omega) hi (by omega)
     rw [h1] at hn
     simp only [inR, Bool.and_eq_true, decide_eq_true_eq]; omega
theorem zm5 {id : Nat} {S : Store} (h : Cur id S) : EvA Tryz.prog 312 [.s (.pt id)] S (fun r S' => Drw id S S' ∧ ∃ l : List Int, zgp l l 0 = true ∧ l.length ≤ 2 ∧ ∃ c', r = .v (.s c') ∧ Fr S.length S' [.sl 1 (l.map dInt)] [c']) := by
 have hlt := h.lt
 have hD := Drw.refl h
 have hF : Fr S.length S [] [] := zc2
 refine zac tok Tryz.func312 (by kernel_rfl) rfl ?_
 skip
 (conv => whnf)
 have hD1 := hD.push ⟨true, 1, []⟩
 have hF1 := hF.pushD (k := 1) (f := dInt) hD.len [] (fun _ => trivial) (by decide) (rows := []) rfl
 refine zab (za7 _ hD1.cur) ?_; rintro _ Sn ⟨hDn, xn, hxn, rfl⟩
 replace hF1 := hF1.drw hlt hDn
 replace hD1 := hD1.trans hDn
 obtain ⟨n, rfl⟩ := Int.eq_ofNat_of_zero_le hxn.1
 skip
 refine zag {q : Nat × Store × C // q.1 ≤ 2 ∧ Drw id S q.2.1 ∧ ∃ l : List Int, l.Pairwise (· < ·) ∧ (∀ x ∈ l, 0 ≤ x ∧ x ≤ 9) ∧ l.length + q.1 ≤ 2 ∧ Fr S.length q.2.1 [.sl 1 (l.map dInt)] [q.2.2]} [3, 4, 8, 9, 10, 11, 12, 13, 14, 15] (fun zb => [(4, .v (.s (.int .i64 (zb.1.1 : Nat)))), (3, .v (.s zb.1.2.2))]) (fun zb => zb.1.2.1) (fun zb => zb.1.1) ⟨(n, _, _), by have := hxn.2.2.1 (by omega); dsimp only; omega, hD1, [], List.Pairwise.nil, fun _ h => (by cases h), by have := hxn.2.2.1 (by omega); simp; omega, hF1⟩ okL rfl ?_
 rintro ⟨⟨k, Si, ci⟩, hk, hP⟩; dsimp only
 clear hF hD hD1 hF1 hDn hxn
 replace hk : k ≤ 2 := hk
 obtain ⟨hD, l, hasc, hx, hl, hF⟩ : Drw id S Si ∧ ∃ l : List Int, l.Pairwise (· < ·) ∧ (∀ x ∈ l, 0 ≤ x ∧ x ≤ 9) ∧ l.length + k ≤ 2 ∧ Fr S.length Si [.sl 1 (l.map dInt)] [ci] := hP
 repeat' ((conv => whnf) <;> first
  | rw [zad (by omega)] | refine cD (fun _ => ?_) fun _ => ?_ | (refine zab (za7 _ hD.cur) ?_; rintro _ Sn ⟨hDn, xn, hxn, rfl⟩; replace hF := hF.drw hlt hDn; replace hD := hD.trans hDn; clear hDn) | (refine zab (z2k _ _ _ _ rdA om) ?_; rintro _ Sn ⟨hEn, cn, rfl, hFn⟩) | refine And.intro ?_ ?_)
 all_goals first
  | exact hD
  | exact ⟨l, zt0 l 0 rfl hasc hx, by omega, _, rfl, hF⟩
  | skip
 have hlen := z34 l xn
 refine ⟨⟨(k - 1, _, _), by dsimp only; omega, hD.ext hEn, putI l xn, zwo xn hasc, fun x hx' => ?_, by omega, hFn.mono hD.len⟩, ?_, rfl, by dsimp only; omega⟩
 ·rcases (zre x xn l).1 hx' with rfl | h
  ·have := hxn.2.2.1 (by omega); omega
  ·exact hx x h
 ·(conv => whnf); repeat' (first | exact trivial | exact rfl | (show _ = _; congr 3; dsimp only; omega) | apply And.intro)
theorem z2i {l m : List GNode} (h : zck l = true) (he : m.map (fun x => (x.Id, x.Parent)) = l.map fun x => (x.Id, x.Parent)) (hv : ∀ x ∈ m, (0 ≤ x.Tag ∧ x.Tag ≤ 9) ∧ (0 ≤ x.Text ∧ x.Text ≤ 999) ∧ 0 ≤ x.By ∧ x.By ≤ 5) : zck m = true := by
 rw [znd] at h ⊢
 obtain ⟨ha, hb⟩ := h
 have hl : m.length = l.length := by simpa using congrArg List.length he
 have hat : ∀ j (h1 : j < m.length) (h2 : j < l.length), (m[j]).Id = (l[j]).Id ∧ (m[j]).Parent = (l[j]).Parent := fun j h1 h2 => by
  have := congrArg (fun z => z[j]?) he
  simp only [List.getElem?_map, List.getElem?_eq_getElem h1, List.getElem?_eq_getElem h2, Option.map_some] at this
  injection this with this
  injection this with e1 e2
  exact ⟨e1, e2⟩
 have hno : ∀ (a b : List GNode) (p : Int) (i : Nat), a.map GNode.Id = b.map GNode.Id → zbh p a i = zbh p b i := by
  intro a
  induction a with
  | nil => intro b p i h; cases b with
    | nil => rfl
    | cons y b => cases h
  | cons x a ih => intro b p i h; cases b with
    | nil => cases h
    | cons y b =>
      rw [List.map_cons, List.map_cons] at h
      injection h with h1 h2
      rw [zbh, zbh, h1, ih b p (i + 1) h2]
 have hids : m.map GNode.Id = l.map GNode.Id := by
  have := congrArg (List.map Prod.fst) he
  simpa [Function.comp_def] using this
 refine ⟨by omega, fun j hj => ?_⟩
 have hj2 : j < l.length := by omega
 have h0 := hb j hj2
 obtain ⟨e1, e2⟩ := hat j hj hj2
 have hvj := hv m[j] (List.getElem_mem hj)
 by_cases hz : j = 0
 ·subst hz
  rw [zex] at h0 ⊢
  simp only [inR, Bool.and_eq_true, decide_eq_true_eq] at h0 ⊢
  omega
 ·rw [zfu (by omega) (by omega)] at h0 ⊢
  obtain ⟨e3, _⟩ := hat (j - 1) (by omega) (by omega)
  simp only [inR, Bool.and_eq_true, decide_eq_true_eq] at h0 ⊢
  rw [e3, e1, e2]
  have : zah (m.take j) (l[j]).Parent = zah (l.take j) (l[j]).Parent := hno _ _ _ _ (by rw [List.map_take, List.map_take, hids])
  rw [this]
  omega
theorem z53 {l : List GNode} (h : zck l = true) {i : Nat} (hi : i < l.length) {x : GNode} (h1 : x.Id = (l[i]).Id) (h2 : x.Parent = (l[i]).Parent) (hv : (0 ≤ x.Tag ∧ x.Tag ≤ 9) ∧ (0 ≤ x.Text ∧ x.Text ≤ 999) ∧ 0 ≤ x.By ∧ x.By ≤ 5) : zck (l.set i x) = true := by
 refine z2i h ?_ fun y hy => ?_
 ·rw [List.map_set, h1, h2]
  apply List.ext_getElem?
  intro j
  rw [List.getElem?_set]
  split
  ·rename_i e; subst e; simp [hi]
  ·rfl
 ·rcases List.mem_or_eq_of_mem_set hy with hy | rfl
  ·obtain ⟨j, hj, rfl⟩ := List.mem_iff_getElem.1 hy
   have := (znd.1 h).2 j hj
   unfold zej at this
   simp only [inR, Bool.and_eq_true, decide_eq_true_eq] at this
   exact ⟨this.1.1.1, this.1.1.2, this.1.2⟩
  ·exact hv
theorem zsj {s : GSite} {base : List GNode} {hid : List Int} (h1 : ze7 s = true) (h2 : zck base = true) (h3 : zgp hid hid 0 = true) : zcr (zet s base hid) = true := by
 unfold zcr zet; simp [h1, h2, h3, inR]
theorem zy4 {t : GTab} {e : GEdit} (h : zcr t = true) (he : zc4 e = true) (hl : t.Edits.length < 40) : zcr { t with Edits := t.Edits ++ [e] } = true := by
 unfold zcr at h ⊢
 simp only [Bool.and_eq_true, decide_eq_true_eq, List.length_append, List.length_singleton, List.all_append, List.all_cons, List.all_nil, Bool.and_true] at h ⊢
 exact ⟨⟨⟨⟨⟨h.1.1.1.1.1, h.1.1.1.1.2⟩, by omega⟩, h.1.1.2⟩, h.1.2, he⟩, h.2⟩
theorem zvl {t : GTab} {n : Int} (h : zcr t = true) (hn : -1 ≤ n ∧ n ≤ 10000) : zcr { t with Click := n } = true := by
 unfold zcr at h ⊢
 simp only [Bool.and_eq_true, decide_eq_true_eq, inR] at h ⊢
 exact ⟨⟨⟨h.1.1.1, hn⟩, h.1.2⟩, h.2⟩
set_option maxHeartbeats 4000000 in
theorem zzj {id : Nat} {S : Store} (h : Cur id S) : EvA Tryz.prog 247 [.s (.pt id)] S (fun r S' => Drw id S S' ∧ ∃ t : GTab, zcr t = true ∧ (∀ n ∈ t.Base, n.By = 0) ∧ (t.Base.length ≤ 7 ∧ t.Edits.length ≤ 5 ∧ t.Hidden.length ≤ 2) ∧ ∃ c2 c3 c4, r = .v (.agg [.int .i64 t.Site.Owner, .int .i64 t.Site.Sub, c2, c3, c4, .int .i64 t.Click]) ∧ Fr S.length S' t.d [.int .i64 t.Site.Owner, .int .i64 t.Site.Sub, c2, c3, c4, .int .i64 t.Click]) := by
 have hlt := h.lt
 have hD := Drw.refl h
 have hF : Fr S.length S [] [] := zc2
 refine zac tok Tryz.func247 (by kernel_rfl) rfl ?_
 skip
 (conv => whnf)
 refine zab (z1r hD.cur) ?_; rintro _ Sn ⟨hDn, l0, hdoc, hl0, ci, rfl, hFn⟩
 clear hF hD
 skip
 refine zag {q : Nat × Store // Drw id S q.2 ∧ ∃ l : List GNode, zck l = true ∧ l.length = l0.length ∧ q.1 ≤ l0.length ∧ (∀ j (hj : j < l.length), j < q.1 → (l[j]).By = 0) ∧ Fr S.length q.2 [.sl 5 (l.map GNode.d)] [ci]} [4, 10, 11, 12, 13, 14, 15, 16, 17, 18, 19] (fun zb => [(4, .v (.s (.int .i64 (zb.1.1 : Nat))))]) (fun zb => zb.1.2) (fun zb => l0.length - zb.1.1) ⟨(0, _), hDn, l0, hdoc, rfl, Nat.zero_le _, fun j _ hj => absurd hj (Nat.not_lt_zero j), hFn⟩ okL rfl ?_
 rintro ⟨⟨k, Si⟩, hP⟩; dsimp only
 clear hDn hFn
 obtain ⟨hD, l, hdl, hll, hk, hby, hF⟩ : Drw id S Si ∧ ∃ l : List GNode, zck l = true ∧ l.length = l0.length ∧ k ≤ l0.length ∧ (∀ j (hj : j < l.length), j < k → (l[j]).By = 0) ∧ Fr S.length Si [.sl 5 (l.map GNode.d)] [ci] := hP
 by_cases hlt2 : k < l.length
 ·have hi0 : 0 ≤ ((k : Nat) : Int) ∧ ((k : Nat) : Int).toNat < l.length := ⟨by omega, by rw [Int.toNat_natCast]; exact hlt2⟩
  repeat' ((conv => whnf) <;> first
   | (refine rI hF.rd rf hi0 ?_) | (refine zdp hF.rd ?_; intro hml; rw [zan] at hml) | rw [zad (by omega)] | refine cD (fun _ => ?_) fun _ => ?_ | (refine zab (zkw hD.cur) ?_; rintro _ Sn ⟨hDn, sn, hsn, rfl⟩; replace hF := hF.drw hlt hDn; replace hD := hD.trans hDn; clear hDn) | (refine zab (zm5 hD.cur) ?_; rintro _ Sn ⟨hDn, gn, hgn, hzg, cg, rfl, hFn⟩; replace hF := hF.joinD hlt hDn hFn hD.len; replace hD := hD.trans hDn; clear hDn hFn) | (refine dsto (q := 0) (k := 5) (xs := l.map GNode.d) (A := [.x (.int .i64 (l[((k : Nat) : Int).toNat]'hi0.2).Id), .x (.int .i64 (l[((k : Nat) : Int).toNat]'hi0.2).Parent), .x (.int .i64 (l[((k : Nat) : Int).toNat]'hi0.2).Tag), .x (.int .i64 (l[((k : Nat) : Int).toNat]'hi0.2).Text)]) (B := [.x (.int .i64 (l[((k : Nat) : Int).toNat]'hi0.2).By)]) (Z := []) hD hF rfl rfl (by rw [List.length_map]; exact hi0) (z7m hi0) rfl rfl rfl ?_; intro SN hDN hFN))
  all_goals try (exfalso; omega)
  have hv := (znd.1 hdl).2 k hlt2
  unfold zej at hv
  simp only [inR, Bool.and_eq_true, decide_eq_true_eq] at hv
  refine ⟨⟨(k + 1, SN), hDN, l.set k ⟨(l[k]).Id, (l[k]).Parent, (l[k]).Tag, (l[k]).Text, 0⟩, z53 hdl hlt2 rfl rfl ⟨hv.1.1.1, hv.1.1.2, by dsimp only; omega⟩, by rw [List.length_set]; exact hll, by dsimp only; omega, fun j hj hjk => ?_, ?_⟩, ?_, rfl, by dsimp only; omega⟩
  ·rw [List.getElem_set]
   split
   ·rfl
   ·exact hby j (by rw [List.length_set] at hj; exact hj) (by dsimp only at hjk; omega)
  ·rw [← z62]; exact hFN
  ·(conv => whnf); repeat' (first | exact trivial | exact rfl | apply And.intro)
 have hby0 : k = l.length → ∀ n ∈ l, n.By = 0 := fun he n hn => by
  obtain ⟨j, hj, rfl⟩ := List.mem_iff_getElem.1 hn
  exact hby j hj (by omega)
 replace hby0 := hby0 (by omega)
 clear hby
 repeat' ((conv => whnf) <;> first
  | (refine zdp hF.rd ?_; intro hml; rw [zan] at hml) | refine cD (fun _ => ?_) fun _ => ?_ | refine rI rdA rf ix ?_)
 all_goals try (exfalso; omega)
 (conv => whnf)
 refine zab (zkw hD.cur) ?_; rintro _ S1 ⟨hDn, s, hs, rfl⟩
 replace hF := hF.drw hlt hDn
 replace hD := hD.trans hDn
 clear hDn
 skip
 (conv => whnf)
 refine zab (zm5 hD.cur) ?_; rintro _ S2 ⟨hDn, hid, hhid, hzh, ch, rfl, hFn⟩
 replace hF := hF.drw hlt hDn
 replace hD := hD.trans hDn
 clear hDn
 skip
 (conv => whnf)
 refine zab (zu6 s l hid _ _ _ hF.rd hFn.rd (by omega)) ?_; rintro _ S3 ⟨e3, c2, c3, c4, rfl, f3⟩
 rw [show zb7 s l hid = (zet s l hid, true) from by unfold zb7; rw [if_pos (zsj hs.1 hdl hhid)]] at f3 ⊢
 have hT := zsj (s := s) hs.1 hdl hhid
 replace hF := f3.mono hD.len
 replace hD := hD.ext e3
 clear hFn f3
 skip
 (conv => whnf)
 refine zab (za7 _ hD.cur) ?_; rintro _ S4 ⟨hDn, x, hx, rfl⟩
 replace hF := hF.drw hlt hDn
 replace hD := hD.trans hDn
 clear hDn
 obtain ⟨n, rfl⟩ := Int.eq_ofNat_of_zero_le hx.1
 skip
 refine zag {q : (Nat × List GEdit) × Store × C // q.1.1 ≤ 5 ∧ Drw id S q.2.1 ∧ zcr ⟨s, l, q.1.2, hid, -1⟩ = true ∧ q.1.2.length + q.1.1 ≤ 5 ∧ Fr S.length q.2.1 (GTab.d ⟨s, l, q.1.2, hid, -1⟩) [.int .i64 s.Owner, .int .i64 s.Sub, c2, q.2.2, c4, .int .i64 (-1)]} [5, 7, 31, 32, 33, 34, 35, 36, 37, 38, 39, 40, 41] (fun zb => [(7, .v (.s (.int .i64 (zb.1.1.1 : Nat)))), (5, .box [.int .i64 s.Owner, .int .i64 s.Sub, c2, zb.1.2.2, c4, .int .i64 (-1)])]) (fun zb => zb.1.2.1) (fun zb => zb.1.1.1) ⟨((n, []), _, _), by have := hx.2.2.1 (by omega); dsimp only; omega, hD, hT, by have := hx.2.2.1 (by omega); simp; omega, hF⟩ okL rfl ?_
 rintro ⟨⟨⟨j, eds⟩, Si', c3'⟩, hj, hP⟩; dsimp only
 clear hF hD hx hT
 replace hj : j ≤ 5 := hj
 obtain ⟨hD, hT, hle, hF⟩ : Drw id S Si' ∧ zcr ⟨s, l, eds, hid, -1⟩ = true ∧ eds.length + j ≤ 5 ∧ Fr S.length Si' (GTab.d ⟨s, l, eds, hid, -1⟩) [.int .i64 s.Owner, .int .i64 s.Sub, c2, c3', c4, .int .i64 (-1)] := hP
 repeat' ((conv => whnf) <;> first
  | rw [zad (by omega)] | refine cD (fun _ => ?_) fun _ => ?_ | (refine zab (za7 _ hD.cur) ?_; rintro _ Sn ⟨hDn, xn, hxn, rfl⟩; replace hF := hF.drw hlt hDn; replace hD := hD.trans hDn; clear hDn) | (refine zab (ztf hD.cur) ?_; rintro _ Sn ⟨hDn, en, hen, rfl⟩; replace hF := hF.drw hlt hDn; replace hD := hD.trans hDn; clear hDn) | refine zae 35 [.fl 0, .fl 1, .fl 2, .st 3 [0, 1], .fl 4, .st 5 [], .fl 6, .st 7 []] (by rfl) (by kernel_rfl) ?_ | (refine z0s (f := GEdit.d) (o := 3) (l := eds) (fun _ => trivial) hD hF rfl rfl (m := [_]) rfl rf (by dsimp only [T87]; simp only [List.length_singleton]; omega) (by simp only [List.length_singleton]; omega) ?_; intro cN SN hDN hFN) | refine And.intro ?_ ?_)
 have hl7 := hl0
 all_goals first
  | exact hD
  | exact ⟨⟨s, l, eds, hid, xn - 1⟩, zvl hT (by have := hxn.2.2.1 (by omega); omega), hby0, ⟨by dsimp only; omega, by dsimp only; omega, hzh⟩, c2, c3', c4, rfl, hF.setX (o := 5) (c' := .int .i64 (xn - 1)) (by show 5 < 6; decide)⟩
  | (refine ⟨⟨((j - 1, eds ++ [en]), SN, cN), by dsimp only; omega, hDN, zy4 hT hen.1 (by show eds.length < 40; omega), by simp only [List.length_append, List.length_singleton]; omega, hFN⟩, ?_, rfl, by dsimp only; omega⟩; (conv => whnf); repeat' (first | exact trivial | exact rfl | (show _ = _; congr 3; dsimp only; omega) | apply And.intro))
theorem z41 {S S1 S2 : Store} (e : Ext S S1) (h : Drw S.length S1 S2) : Ext S S2 :=
 zh7 (Nat.le_trans e.len h.len) fun i hi => (h.same i (Nat.lt_of_lt_of_le hi e.len) (by omega)).trans (e.at hi)
theorem zp4 (ext : Int) : ∀ (l : List GPackage) (i : Nat), (0 ≤ zc9 ext l i) ↔ ext ∈ l.map GPackage.Ext
 | [], i => by simp [zc9]
 | p :: r, i => by
   rw [zc9, List.map_cons, List.mem_cons]
   split
   ·rename_i h; exact ⟨fun _ => .inl h.symm, fun _ => by omega⟩
   ·rename_i h
    rw [zp4 ext r (i + 1)]
    exact ⟨.inr, fun hh => hh.resolve_left (fun e => h e.symm)⟩
abbrev exts (b : GBrowser) : List Int := b.Packs.map GPackage.Ext
theorem zfv {b : GBrowser} {ext : Int} : 0 ≤ zai b ext ↔ ext ∈ exts b := zp4 ext b.Packs 0
theorem zs7 (ext : Int) : ∀ (l : List GPackage) (i : Nat), 0 ≤ zc9 ext l i → ∃ j, ∃ h : j < l.length, zc9 ext l i = ((i + j : Nat) : Int) ∧ (l[j]'h).Ext = ext
 | [], i, h => by simp [zc9] at h
 | p :: r, i, h => by
   rw [zc9] at h ⊢
   split
   ·rename_i he; exact ⟨0, by simp, rfl, he⟩
   ·rename_i hn
    rw [if_neg hn] at h
    obtain ⟨j, hj, h1, h2⟩ := zs7 ext r (i + 1) h
    exact ⟨j + 1, by simpa using hj, by rw [h1]; congr 1; omega, h2⟩
theorem zod {b : GBrowser} {ext : Int} (h : 0 ≤ zai b ext) : ∃ hi : (zai b ext).toNat < b.Packs.length, (b.Packs[(zai b ext).toNat]'hi).Ext = ext := by
 obtain ⟨j, hj, h1, h2⟩ := zs7 ext b.Packs 0 h
 have e : (zai b ext).toNat = j := by show (zc9 ext b.Packs 0).toNat = j; rw [h1]; omega
 refine ⟨by omega, ?_⟩
 simp only [e]; exact h2
structure TabOk (t : GTab) : Prop where
 site : ze7 t.Site = true
 doc : zck t.Base = true
 len : t.Edits.length ≤ 40
 click : -1 ≤ t.Click ∧ t.Click ≤ 10000
 eds : ∀ e ∈ t.Edits, zc4 e = true
 hid : zgp t.Hidden t.Hidden 0 = true
theorem zv5 {t : GTab} : zcr t = true ↔ TabOk t := by
 unfold zcr
 simp only [Bool.and_eq_true, decide_eq_true_eq, List.all_eq_true, inR]
 exact ⟨fun ⟨⟨⟨⟨⟨a, b⟩, c⟩, d⟩, e⟩, f⟩ => ⟨a, b, c, d, e, f⟩, fun ⟨a, b, c, d, e, f⟩ => ⟨⟨⟨⟨⟨a, b⟩, c⟩, d⟩, e⟩, f⟩⟩
theorem TabOk.edits {t : GTab} (h : TabOk t) {l : List GEdit} (hl : l.length ≤ 40) (he : ∀ e ∈ l, zc4 e = true) : TabOk { t with Edits := l } := ⟨h.site, h.doc, hl, h.click, he, h.hid⟩
structure BrOk (b : GBrowser) : Prop where
 key : zhw b.Key = true
 tl : 1 ≤ b.Tabs.length ∧ b.Tabs.length ≤ 3
 pl : b.Packs.length ≤ 5
 gl : b.Grants.length ≤ 16
 ll : b.Limits.length ≤ 8
 fair : zdm b.Rules = true
 store : zbw b.Store = true
 now : 0 ≤ b.Now ∧ b.Now ≤ 10000
 sld : ∀ p ∈ b.Packs, zb4 b.Key p = true
 asc : b.Packs.Pairwise fun p q => p.Ext < q.Ext
 tabs : ∀ t ∈ b.Tabs, TabOk t
 eds : ∀ t ∈ b.Tabs, ∀ e ∈ t.Edits, e.By = 0 ∨ e.By ∈ exts b
 grants : ∀ g ∈ b.Grants, za4 g = true
 gex : ∀ g ∈ b.Grants, g.Ext ∈ exts b
 lims : ∀ x ∈ b.Limits, zb6 x = true
 rex : ∀ r ∈ b.Rules, r.Ext ∈ exts b
 sex : ∀ x ∈ b.Store, x.Ext ∈ exts b
theorem zpe (b : GBrowser) : ∀ (l : List GPackage) (i : Nat), (∀ (j : Nat) (h : j < l.length), zee b l[j] (i + j) = true) → zd0 b l i = true
 | [], _, _ => rfl
 | p :: r, i, h => by
   have h0 := h 0 (by simp)
   simp only [List.getElem_cons_zero, Nat.add_zero] at h0
   rw [zd0, if_pos h0]
   exact zpe b r (i + 1) fun j hj => by
    have := h (j + 1) (by simpa using hj)
    rw [show i + 1 + j = i + (j + 1) from by omega]; exact this
theorem zz2 {b : GBrowser} : zd0 b b.Packs 0 = true ↔ (∀ p ∈ b.Packs, zb4 b.Key p = true) ∧ b.Packs.Pairwise fun p q => p.Ext < q.Ext := by
 constructor
 ·intro h
  have h1 := zk5 b b.Packs 0 h
  have hs : ∀ (i : Nat) (hi : i + 1 < b.Packs.length), (b.Packs[i]).Ext < (b.Packs[i + 1]).Ext := fun i hi => by
   have h2 := h1 (i + 1) hi
   rw [Nat.zero_add, zgw (by omega) (by omega)] at h2
   simp only [Bool.and_eq_true, decide_eq_true_eq] at h2
   have h3 := h2.2
   have e : (((i + 1 : Nat) : Int) - 1).toNat = i := by omega
   simp only [e] at h3
   exact h3
  have hl : ∀ (d i : Nat) (hi : i + d + 1 < b.Packs.length), (b.Packs[i]'(by omega)).Ext < (b.Packs[i + d + 1]).Ext := fun d => by
   induction d with
   | zero => exact fun i hi => hs i hi
   | succ d ih => exact fun i hi => Int.lt_trans (ih i (by omega)) (hs (i + d + 1) (by omega))
  refine ⟨fun p hp => ?_, List.pairwise_iff_getElem.2 fun i j hi hj hij => ?_⟩
  ·obtain ⟨i, hi, rfl⟩ := List.getElem_of_mem hp
   have := h1 i hi
   unfold zee at this
   rw [Bool.and_eq_true] at this
   exact this.1
  ·have := hl (j - i - 1) i (by omega)
   simp only [show i + (j - i - 1) + 1 = j from by omega] at this
   exact this
 ·rintro ⟨h1, h2⟩
  refine zpe b b.Packs 0 fun j hj => ?_
  rw [Nat.zero_add]
  by_cases h0 : j = 0
  ·subst h0; rw [zje rfl]; exact h1 _ (List.getElem_mem _)
  ·rw [zgw (by omega) (by omega), h1 _ (List.getElem_mem _), Bool.true_and, decide_eq_true_eq]
   exact List.pairwise_iff_getElem.1 h2 _ j (by omega) hj (by omega)
theorem zpq {b : GBrowser} : zaj b = true ↔ BrOk b := by
 unfold zaj isB0 zlj edOk grOk
 simp only [Bool.and_eq_true, Bool.or_eq_true, decide_eq_true_eq, List.all_eq_true, zz2, zfv, inR]
 constructor
 ·rintro ⟨⟨⟨⟨⟨⟨⟨⟨⟨⟨⟨⟨⟨a1, a2⟩, a3⟩, a4⟩, a5⟩, a6⟩, a7⟩, a8⟩, b1, b2⟩, c⟩, d⟩, e⟩, f⟩, g⟩
  exact ⟨a1, by omega, a3, a4, a5, a6, a7, a8, b1, b2, fun t ht => zv5.1 (c t ht).1, fun t ht => (c t ht).2, fun x hx => (d x hx).1, fun x hx => (d x hx).2, e, f, g⟩
 ·intro h
  exact ⟨⟨⟨⟨⟨⟨⟨⟨⟨⟨⟨⟨⟨h.key, by have := h.tl; omega⟩, h.pl⟩, h.gl⟩, h.ll⟩, h.fair⟩, h.store⟩, h.now⟩, h.sld, h.asc⟩, fun t ht => ⟨zv5.2 (h.tabs t ht), h.eds t ht⟩⟩, fun x hx => ⟨h.grants x hx, h.gex x hx⟩⟩, h.lims⟩, h.rex⟩, h.sex⟩
theorem BrOk.tabs' {b : GBrowser} (h : BrOk b) {ts : List GTab} (hl : ts.length = b.Tabs.length) (h1 : ∀ t ∈ ts, TabOk t) (h2 : ∀ t ∈ ts, ∀ e ∈ t.Edits, e.By = 0 ∨ e.By ∈ exts b) : BrOk { b with Tabs := ts } :=
 ⟨h.key, by rw [hl]; exact h.tl, h.pl, h.gl, h.ll, h.fair, h.store, h.now, h.sld, h.asc, h1, h2, h.grants, h.gex, h.lims, h.rex, h.sex⟩
theorem BrOk.setTab {b : GBrowser} (h : BrOk b) {i : Nat} {t : GTab} (h1 : TabOk t) (h2 : ∀ e ∈ t.Edits, e.By = 0 ∨ e.By ∈ exts b) : BrOk { b with Tabs := b.Tabs.set i t } :=
 h.tabs' (List.length_set ..) (fun x hx => (List.mem_or_eq_of_mem_set hx).elim (h.tabs x) fun e => e ▸ h1) fun x hx => (List.mem_or_eq_of_mem_set hx).elim (h.eds x) fun e => e ▸ h2
theorem BrOk.grants' {b : GBrowser} (h : BrOk b) {gs : List GGrant} (hl : gs.length ≤ 16) (h1 : ∀ g ∈ gs, za4 g = true ∧ g.Ext ∈ exts b) : BrOk { b with Grants := gs } :=
 ⟨h.key, h.tl, h.pl, hl, h.ll, h.fair, h.store, h.now, h.sld, h.asc, h.tabs, h.eds, fun g hg => (h1 g hg).1, fun g hg => (h1 g hg).2, h.lims, h.rex, h.sex⟩
theorem BrOk.filterG {b : GBrowser} (h : BrOk b) (P : GGrant → Bool) : BrOk { b with Grants := b.Grants.filter P } :=
 h.grants' (Nat.le_trans (List.length_filter_le _ _) h.gl) fun g hg => by have := (List.mem_filter.1 hg).1; exact ⟨h.grants g this, h.gex g this⟩
theorem BrOk.now' {b : GBrowser} (h : BrOk b) {n : Int} (hn : 0 ≤ n ∧ n ≤ 10000) : BrOk { b with Now := n } :=
 ⟨h.key, h.tl, h.pl, h.gl, h.ll, h.fair, h.store, hn, h.sld, h.asc, h.tabs, h.eds, h.grants, h.gex, h.lims, h.rex, h.sex⟩
theorem BrOk.limits' {b : GBrowser} (h : BrOk b) {l : List GLimit} (hl : l.length ≤ 8) (h1 : ∀ x ∈ l, zb6 x = true) : BrOk { b with Limits := l } :=
 ⟨h.key, h.tl, h.pl, h.gl, hl, h.fair, h.store, h.now, h.sld, h.asc, h.tabs, h.eds, h.grants, h.gex, h1, h.rex, h.sex⟩
theorem BrOk.store' {b : GBrowser} (h : BrOk b) {l : List GStored} (hs : zbw l = true) (h1 : ∀ x ∈ l, x.Ext ∈ exts b) : BrOk { b with Store := l } :=
 ⟨h.key, h.tl, h.pl, h.gl, h.ll, h.fair, hs, h.now, h.sld, h.asc, h.tabs, h.eds, h.grants, h.gex, h.lims, h.rex, h1⟩
theorem zmf {α : Type} {l m : List α} {i : Nat} (hi : i < l.length) (hm : i < m.length) (h : l.drop i = m.drop i ↔ l = m) : (l[i] = m[i] → (l.drop (i + 1) = m.drop (i + 1) ↔ l = m)) ∧ (l[i] ≠ m[i] → l ≠ m) := by
 rw [zam hi, zam hm, List.cons.injEq] at h
 exact ⟨fun e => ⟨fun g => h.1 ⟨e, g⟩, fun g => (h.2 g).2⟩, fun e g => e (h.2 g).1⟩
theorem z08 {α : Type} {l m : List α} {i : Nat} (hi : l.length ≤ i) (hm : m.length ≤ i) (h : l.drop i = m.drop i ↔ l = m) : l = m := by
 rw [zak hi, zak hm] at h
 exact h.1 rfl
theorem z0z (l m : List GNode) (c c' : C) (S : Store) (h : Rd S [.sl 5 (l.map GNode.d)] [c]) (h' : Rd S [.sl 5 (m.map GNode.d)] [c']) : EvA Tryz.prog 123 [.s c, .s c'] S (fun r S' => r = .v (.s (.bool (decide (l = m)))) ∧ S' = S) := by
 by_cases hlen : l.length = m.length
 ·refine zac tok Tryz.func123 (by kernel_rfl) rfl ?_
  repeat' ((conv => whnf) <;> first
   | refine cE (fun _ => ?_) fun _ => ?_ | refine rE fun hml => ?_ | refine And.intro ?_ ?_)
  all_goals try first | rfl | (exfalso; omega)
  refine zag {i : Nat // i ≤ l.length ∧ (l.drop i = m.drop i ↔ l = m)} [4, 5, 13, 14, 15, 16, 17, 18, 19, 20, 21, 22, 23, 24, 25] (fun zb => [(13, .v (.s (.int .i64 zb.1)))]) (fun _ => S) (fun zb => l.length - zb.1) ⟨0, Nat.zero_le _, by simp⟩ okL rfl ?_
  rintro ⟨i, hi, hinv⟩; dsimp only
  repeat' ((conv => whnf) <;> first
   | rw [zad (by omega)] | refine cD (fun _ => ?_) fun _ => ?_ | refine cN (fun _ => ?_) fun _ => ?_ | refine rI aN rf ix ?_ | refine zaf aN tv ix ?_ | refine zae 16 (iN 9 0 []) (by rfl) (by kernel_rfl) ?_ | refine And.intro ?_ ?_)
  all_goals first
   | rfl
   | (exfalso; omega)
   | (have he := z08 (by omega) (by omega) hinv; rw [decide_eq_true he] <;> rfl)
   | (have hlt : i < l.length := by omega
      have hs := (zmf hlt (by omega) hinv).2
      have hb : ¬ (l[((i : Nat) : Int).toNat]'hlt = m[((i : Nat) : Int).toNat]'(by omega)) := by first | assumption | exact of_decide_eq_false (by assumption) | exact of_decide_eq_false ((GNode.eqb _ _).symm.trans (by assumption))
      rw [decide_eq_false (hs hb)] <;> rfl)
   | (have hlt : i < l.length := by omega
      have hs := (zmf hlt (by omega) hinv).1
      have hb : l[((i : Nat) : Int).toNat]'hlt = m[((i : Nat) : Int).toNat]'(by omega) := by first | assumption | exact of_decide_eq_true (by assumption) | exact of_decide_eq_true ((GNode.eqb _ _).symm.trans (by assumption))
      (refine ⟨⟨i + 1, by omega, hs hb⟩, ?_, rfl, by dsimp only; omega⟩; (conv => whnf); repeat' (first | exact trivial | exact rfl | apply And.intro)))
 ·rw [decide_eq_false (p := l = m) (fun e => hlen (by rw [e]))]
  refine zac tok Tryz.func123 (by kernel_rfl) rfl ?_
  repeat' ((conv => whnf) <;> first
   | refine cE (fun _ => ?_) fun _ => ?_ | refine rE fun hml => ?_ | refine And.intro ?_ ?_)
  all_goals first | rfl | (exfalso; omega)
end Go.Proofs.YtlmmdpmmdmhacaaGreat
