/- The call's own data with a say on where its rows lie; append and stores with what they leave alone. -/
import Derived.Test.YtlmmdpmmdmhacaaGreatKt18
namespace Go.Proofs.YtlmmdpmmdmhacaaGreat
set_option linter.unusedVariables false
set_option linter.unusedSimpArgs false
section
open Go
section
variable {S S' S1 S2 : Store}
theorem zu9 {k by' : Nat} {c : C} {xs yd : List (List D)} {ys : List (List C)} {ids js : List Nat} {K : C → Store → Prop}
 (h : Rep true S (.sl k xs) c ids) (hn : ids.Nodup) (hy : Rep2 true S yd ys js) (hyn : js.Nodup) (hd : ∀ i ∈ ids, ∀ j ∈ js, i ≠ j)
 (hk : ∀ y ∈ yd, y.length = k) (hb : (xs.length + yd.length) * by' ≤ 140737488355328) (hm : xs.length + yd.length ≤ maxLen)
 (hK : ∀ c' S' ids', Rep true S' (.sl k (xs ++ yd)) c' ids' → ids'.Nodup → (∀ id ∈ ids', id ∈ ids ∨ id ∈ js ∨ S.length ≤ id) → S.length ≤ S'.length → (∀ id, id < S.length → id ∉ ids → S'[id]? = S[id]?) → K c' S') : AppP k by' S c ys K := by
 have hyk : ∀ y ∈ ys, y.length = k := fun y hy' => by
  obtain ⟨i, hi, rfl⟩ := List.mem_iff_getElem.1 hy'
  have hl := hy.len
  obtain ⟨cs, j, k1, k2, _⟩ := hy.at i _ (List.getElem?_eq_getElem (by omega))
  rw [List.getElem?_eq_getElem hi] at k1; cases k1
  rw [k2.len]; exact hk _ (List.getElem_mem _)
 have hyl' : ys.length = yd.length := hy.len
 have hjl : ∀ j ∈ js, j < S.length := hy.lt
 unfold Rep at h
 obtain ⟨hl, h⟩ := h
 unfold AppP
 refine ⟨hyk, ?_⟩
 have new : xs = [] → ids = [] → ys.length * by' ≤ 140737488355328 ∧ (ys = [] → ∀ c0, (c0 = .nil ∨ c0 = .zc) → K c0 S) ∧ (ys ≠ [] → K (.sl S.length 0 ys.length ys.length) (S ++ [⟨true, k, ys⟩])) := by
  intro hx hi0
  subst hx; subst hi0
  refine ⟨by rw [hyl']; simpa using hb, fun hy0 c0 hc0 => ?_, fun hy0 => ?_⟩
  ·have : yd = [] := List.eq_nil_of_length_eq_zero (by rw [← hyl', hy0]; rfl)
   subst this
   refine hK _ _ [] ?_ List.nodup_nil (fun _ h => by cases h) (Nat.le_refl _) (fun _ _ _ => rfl)
   unfold Rep
   exact ⟨Nat.zero_le _, .inl ⟨rfl, hc0, rfl⟩⟩
  ·refine hK _ _ (S.length :: js) ?_ (List.nodup_cons.2 ⟨fun h => by have := hjl _ h; omega, hyn⟩) (fun id hi => ?_) (by simp) (fun id hi _ => List.getElem?_append_left hi)
   ·unfold Rep
    refine ⟨by simpa using hm, .inr ⟨S.length, 0, ys.length, ⟨true, k, ys⟩, js, by rw [hyl']; simp, rfl, by simp, rfl, rfl, by simp [hyl'], fun _ => ⟨rfl, by simp [hyl'], rfl⟩, ?_⟩⟩
    simp only
    rw [List.nil_append, List.drop_zero, List.take_of_length_le (by omega)]
    exact hy.frame fun i hi => List.getElem?_append_left (hjl i hi)
   ·rcases List.mem_cons.1 hi with rfl | hi
    ·exact .inr (.inr (Nat.le_refl _))
    ·exact .inr (.inl hi)
 rcases h with ⟨h1, h2, h3⟩ | ⟨id, o, t, row, js0, h1, h2, h3, h4, h5, h6, h7, h8⟩
 ·obtain ⟨n1, n2, n3⟩ := new h1 h3
  rcases h2 with rfl | rfl
  ·exact .inl ⟨rfl, n1, fun e => n2 e _ (.inl rfl), n3⟩
  ·exact .inr (.inl ⟨rfl, n1, fun e => n2 e _ (.inr rfl), n3⟩)
 ·obtain ⟨ho, ht, hown⟩ := h7 rfl
  subst ho; subst h2
  have hrl : row.xs.length = xs.length := by omega
  have hrow : row = ⟨true, k, row.xs⟩ := by cases row; simp at hown h4; simp [hown, h4]
  refine .inr (.inr ⟨id, row.xs, by rw [h1, hrl, ht], by rw [h3, ← hrow], by rw [hrl, hyl']; exact hb, ?_⟩)
  have hidl : id < S.length := (List.getElem?_eq_some_iff.1 h3).1
  rw [List.nodup_cons] at hn
  have hdj : ∀ j ∈ js, id ≠ j := fun j hj => hd id (by simp) j hj
  refine hK _ _ (id :: (js0 ++ js)) ?_ ?_ ?_ (by simp) (fun i hi hni => List.getElem?_set_ne (by rintro rfl; exact hni (by simp)))
  ·unfold Rep
   refine ⟨by simpa using hm, .inr ⟨id, 0, xs.length + yd.length, ⟨true, k, row.xs ++ ys⟩, js0 ++ js, by rw [hrl, hyl']; simp, rfl, by rw [List.getElem?_set_self hidl], rfl, by simp [hrl, hyl'], by simp, fun _ => ⟨rfl, by simp, rfl⟩, ?_⟩⟩
   have e : List.take (xs ++ yd).length (List.drop 0 (row.xs ++ ys)) = row.xs ++ ys := by
    rw [List.drop_zero, List.take_of_length_le (by simp [hrl, hyl'])]
   simp only [e]
   rw [List.drop_zero, List.take_of_length_le (by omega)] at h8
   refine (h8.frame fun i hi => ?_).append (hy.frame fun i hi => ?_)
   ·exact List.getElem?_set_ne (by rintro rfl; exact hn.1 hi)
   ·exact List.getElem?_set_ne (hdj i hi)
  ·rw [List.nodup_cons, List.nodup_append]
   refine ⟨fun hi => ?_, hn.2, hyn, fun a ha b hb => hd a (by simp [ha]) b hb⟩
   rcases List.mem_append.1 hi with hi | hi
   ·exact hn.1 hi
   ·exact hdj id hi rfl
  ·intro i hi
   rcases List.mem_cons.1 hi with rfl | hi
   ·exact .inl (by simp)
   ·rcases List.mem_append.1 hi with hi | hi
    ·exact .inl (by simp [hi])
    ·exact .inr (.inl hi)
def Frm (p : Nat → Prop) (S S' : Store) : Prop := S.length ≤ S'.length ∧ ∀ id, id < S.length → ¬ p id → S'[id]? = S[id]?
theorem Frm.len {p : Nat → Prop} (h : Frm p S S') : S.length ≤ S'.length := h.1
theorem Frm.refl (p : Nat → Prop) (S : Store) : Frm p S S := ⟨Nat.le_refl _, fun _ _ _ => rfl⟩
end
end
section
open Go
section
variable {S S' S0 S1 S2 : Store}
theorem Fr.join {lo : Nat} {ds ds' : List D} {cs cs' : List C} (h : Fr lo S0 ds cs) (e : Ext S0 S) (g : Fr S0.length S ds' cs') (hl : lo ≤ S0.length) : Fr lo S (ds ++ ds') (cs ++ cs') := by
 obtain ⟨i, h, h1, h2⟩ := h
 obtain ⟨j, g, g1, g2⟩ := g
 refine ⟨i ++ j, (h.frame fun id hi => e.at (h.lt id hi)).append g, ?_, fun id hi => ?_⟩
 ·rw [List.nodup_append]
  exact ⟨h1, g1, fun a ha b hb e => by have := h.lt a ha; have := g2 b hb; omega⟩
 ·rcases List.mem_append.1 hi with hi | hi
  ·exact h2 id hi
  ·exact Nat.le_trans hl (g2 id hi)
theorem zrn {α : Type} : ∀ {l : List α} {i : Nat} {x : α}, l[i]? = some x → l.set i x = l
 | [], _, _, h => by simp at h
 | y :: l, 0, x, h => by simp at h; subst h; rfl
 | y :: l, i + 1, x, h => by rw [List.set_cons_succ, zrn (by simpa using h)]
theorem Fr.setAt {lo o : Nat} {ds : List D} {cs : List C} {d' : D} {c' : C} (h : Fr lo S0 ds cs) (e : Ext S0 S) (g : Fr S0.length S [d'] [c']) (hl : lo ≤ S0.length) (ho : o < ds.length) : Fr lo S (ds.set o d') (cs.set o c') := by
 obtain ⟨ids, h, hn, hlo⟩ := h
 obtain ⟨j, g, gn, gl⟩ := g.one
 have hlt := h.lt
 obtain ⟨c0, x, m, y, k1, k2, k3, k4⟩ := h.setAt o _ (List.getElem?_eq_getElem ho)
 subst k2
 have far : ∀ i, (i ∈ x ∨ i ∈ y) → ∀ i', i' ∈ j → i ≠ i' := fun i hi i' hj e => by
  have := hlt i (by rcases hi with hi | hi <;> simp [hi])
  have := gl i' hj
  omega
 refine ⟨x ++ j ++ y, k4 (fun id hid => e.at (hlt id (by rcases List.mem_append.1 hid with h | h <;> simp [h]))) g, ?_, fun id hi' => ?_⟩
 ·simp only [List.nodup_append, List.mem_append] at hn ⊢
  obtain ⟨⟨b1, b2, b3⟩, b4, b5⟩ := hn
  refine ⟨⟨b1, gn, fun i hi i' hj => far i (.inl hi) i' hj⟩, b4, fun i hi i' hj => ?_⟩
  rcases hi with hi | hi
  ·exact b5 i (.inl hi) i' hj
  ·exact fun e => far i' (.inr hj) i hi e.symm
 ·rcases List.mem_append.1 hi' with hi' | hi'
  ·rcases List.mem_append.1 hi' with hi' | hi'
   ·exact hlo id (by simp [hi'])
   ·exact Nat.le_trans hl (gl id hi')
  ·exact hlo id (by simp [hi'])
theorem Fr.setX {lo o : Nat} {ds : List D} {cs : List C} {c' : C} (h : Fr lo S ds cs) (ho : o < ds.length) : Fr lo S (ds.set o (.x c')) (cs.set o c') := by
 obtain ⟨ids, h, hn, hlo⟩ := h
 obtain ⟨c0, x, m, y, k1, k2, k3, k4⟩ := h.setAt o _ (List.getElem?_eq_getElem ho)
 subst k2
 refine ⟨x ++ [] ++ y, k4 (fun _ _ => rfl) (by rw [zse]; exact ⟨rfl, rfl⟩), ?_, fun id hi => hlo id (by simp at hi; rcases hi with h | h <;> simp [h])⟩
 simp only [List.append_nil]
 simp only [List.nodup_append, List.mem_append] at hn ⊢
 exact ⟨hn.1.1, hn.2.1, fun a ha b hb => hn.2.2 a (.inl ha) b hb⟩
theorem ziu {lo : Nat} {c : C} : Fr lo S [.x c] [c] := fr_x zc2
theorem Fr.rdAt {lo o : Nat} {ds : List D} {cs : List C} {d : D} {c : C} (h : Fr lo S ds cs) (hd : ds[o]? = some d) (hc : cs[o]? = some c) : Rd S [d] [c] := by
 obtain ⟨ids, h, hn, hlo⟩ := h
 obtain ⟨c0, x, m, y, k1, k2, k3, k4⟩ := h.setAt o _ hd
 rw [hc] at k1; cases k1
 exact zkz k3
theorem zrc {o k by' : Nat} {c : C} {ds : List D} {cs : List C} {xs yd : List (List D)} {ys : List (List C)} {K : C → Store → Prop}
 (hE : Ext S0 S) (h : Fr S0.length S1 ds cs) (e1 : Ext S1 S) (h01 : S0.length ≤ S1.length) (hd : ds[o]? = some (.sl k xs)) (hc : cs[o]? = some c)
 (hy : ∃ js, Rep2 true S yd ys js ∧ js.Nodup ∧ ∀ j ∈ js, S1.length ≤ j)
 (hk : ∀ y ∈ yd, y.length = k) (hb : (xs.length + yd.length) * by' ≤ 140737488355328) (hm : xs.length + yd.length ≤ 9223372036854775807)
 (hK : ∀ c' S', Ext S0 S' → Fr S0.length S' (ds.set o (.sl k (xs ++ yd))) (cs.set o c') → S.length ≤ S'.length → K c' S') : AppP k by' S c ys K := by
 obtain ⟨ids, h, hn, hlo⟩ := h
 obtain ⟨js, hy, hyn, hyl⟩ := hy
 have hlt := h.lt
 obtain ⟨c0, x, m, y, k1, k2, k3, k4⟩ := h.setAt o _ hd
 rw [hc] at k1; cases k1
 subst k2
 have hml : ∀ i ∈ m, i < S1.length := fun i hi => hlt i (by simp [hi])
 simp only [List.nodup_append, List.mem_append] at hn
 obtain ⟨⟨b1, b2, b3⟩, b4, b5⟩ := hn
 refine zu9 (yd := yd) (js := js) (k3.frame fun i hi => e1.at (hml i hi)) b2 hy hyn (fun i hi j hj e => by have := hml i hi; have := hyl j hj; omega) hk hb (by rw [zan]; exact hm) fun c' S' ids' r1 r2 r3 r4 r5 => ?_
 have hxy : ∀ i, (i ∈ x ∨ i ∈ y) → S'[i]? = S1[i]? := fun i hi => by
  have hil := hlt i (by rcases hi with hi | hi <;> simp [hi])
  rw [r5 i (Nat.lt_of_lt_of_le hil e1.len) (fun hm => by rcases hi with hi | hi; exact b3 i hi i hm rfl; exact b5 i (.inr hm) i hi rfl), e1.at hil]
 have far : ∀ i, (i ∈ x ∨ i ∈ y) → ∀ i', i' ∈ ids' → i ≠ i' := fun i hi i' hj e => by
  subst e
  have hil := hlt i (by rcases hi with hi | hi <;> simp [hi])
  rcases r3 i hj with h | h | h
  ·rcases hi with hi | hi
   ·exact b3 i hi i h rfl
   ·exact b5 i (.inr h) i hi rfl
  ·have := hyl i h; omega
  ·have := e1.len; omega
 refine hK c' S' ?_ ⟨x ++ ids' ++ y, k4 (fun i hi => hxy i (by simpa using hi)) r1, ?_, fun i hi => ?_⟩ r4
 ·refine zh7 (Nat.le_trans hE.len r4) fun i hi => ?_
  rw [r5 i (Nat.lt_of_lt_of_le hi hE.len) (fun hm => by have := hlo i (by simp [hm]); omega), hE.at hi]
 ·simp only [List.nodup_append, List.mem_append]
  refine ⟨⟨b1, r2, fun i hi i' hj => far i (.inl hi) i' hj⟩, b4, fun i hi i' hj => ?_⟩
  rcases hi with hi | hi
  ·exact b5 i (.inl hi) i' hj
  ·exact fun e => far i' (.inr hj) i hi e.symm
 ·rcases List.mem_append.1 hi with hi | hi
  ·rcases List.mem_append.1 hi with hi | hi
   ·exact hlo i (by simp [hi])
   ·rcases r3 i hi with h | h | h
    ·exact hlo i (by simp [h])
    ·exact Nat.le_trans h01 (hyl i h)
    ·have := hE.len; omega
  ·exact hlo i (by simp [hi])
theorem zjw {o k by' : Nat} {c : C} {ds : List D} {cs : List C} {xs : List (List D)} {dy : List D} {cy : List C} {K : C → Store → Prop}
 (hE : Ext S0 S) (h : Fr S0.length S1 ds cs) (e1 : Ext S1 S) (h01 : S0.length ≤ S1.length) (hd : ds[o]? = some (.sl k xs)) (hc : cs[o]? = some c)
 (hy : Fr S1.length S dy cy) (hk : dy.length = k) (hb : (xs.length + 1) * by' ≤ 140737488355328) (hm : xs.length + 1 ≤ 9223372036854775807)
 (hK : ∀ c' S', Ext S0 S' → Fr S0.length S' (ds.set o (.sl k (xs ++ [dy]))) (cs.set o c') → S.length ≤ S'.length → K c' S') : AppP k by' S c [cy] K := by
 obtain ⟨j, g, g1, g2⟩ := hy
 exact zrc (yd := [dy]) hE h e1 h01 hd hc ⟨j ++ [], by rw [zbn]; exact ⟨cy, [], j, [], rfl, rfl, g, by rw [zc6]; exact ⟨rfl, rfl⟩⟩, by simpa using g1, by simpa using g2⟩ (fun y hy => by simp at hy; subst hy; exact hk) (by simpa using hb) (by simpa using hm) hK
theorem zcq {α : Type} {f : α → List D} (hf : ∀ x, Flat (f x)) {o k by' : Nat} {c : C} {ds : List D} {cs : List C} {l m : List α} {ys : List (List C)} {K : C → Store → Prop}
 (hE : Ext S0 S) (h : Fr S0.length S ds cs) (hd : ds[o]? = some (.sl k (l.map f))) (hc : cs[o]? = some c)
 (hy : ys = m.map fun x => zdz (f x)) (hk : ∀ x, (f x).length = k) (hb : (l.length + m.length) * by' ≤ 140737488355328) (hm : l.length + m.length ≤ 9223372036854775807)
 (hK : ∀ c' S', Ext S0 S' → Fr S0.length S' (ds.set o (.sl k ((l ++ m).map f))) (cs.set o c') → S.length ≤ S'.length → K c' S') : AppP k by' S c ys K := by
 subst hy
 refine zrc (yd := m.map f) hE h (Ext.refl S) hE.len hd hc ⟨[], zem hf m, List.nodup_nil, fun _ hi => by cases hi⟩ (fun y hy => by obtain ⟨x, _, rfl⟩ := List.mem_map.1 hy; exact hk x) (by simpa using hb) (by simpa using hm) fun c' S' h1 h2 h3 => hK c' S' h1 (by rw [List.map_append]; exact h2) h3
theorem zwv {k : Nat} {c : C} {xs : List (List D)} {i : Int} {off : Nat} {A B Z : List D} {ids : List Nat} (h : Rep true S1 (.sl k xs) c ids) (hn : ids.Nodup)
 (h0 : 0 ≤ i ∧ i.toNat < xs.length) (hx : xs[i.toNat]? = some (A ++ B ++ Z)) (hA : A.length = off) (hk : (A ++ B ++ Z).length = k) :
 ∃ (j4 : List Nat) (r3 r4 r2 : List C), (∀ K : List C → Prop, K (r3 ++ r4 ++ r2) → LoadP S1 c i K) ∧ r3.length = off ∧ r4.length = B.length ∧ RepL true S1 B r4 j4 ∧ j4.Nodup ∧ (∀ id ∈ j4, id ∈ ids) ∧
  ∀ (S : Store), (∀ id ∈ ids, id ∉ j4 → S[id]? = S1[id]?) → S1.length ≤ S.length → ∀ (B' : List D) (ys : List C) (jy : List Nat), RepL true S B' ys jy → jy.Nodup → (∀ b ∈ jy, b ∈ ids → b ∈ j4) → B'.length = B.length →
   ∀ K : Store → Prop, (∀ S' ids', Rep true S' (.sl k (xs.set i.toNat (A ++ B' ++ Z))) c ids' → ids'.Nodup → (∀ id ∈ ids', (id ∈ ids ∧ id ∉ j4) ∨ id ∈ jy) → S'.length = S.length → (∀ id, (id ∉ ids ∨ id ∈ j4) → S'[id]? = S[id]?) → K S') → StoP S c i off ys K := by
 have hids : ∀ id ∈ ids, id < S1.length := h.lt
 have hel := h.elems
 unfold Rep at h
 obtain ⟨hl, h⟩ := h
 rcases h with ⟨h1, h2, h3⟩ | ⟨id, o, t, row, js, h1, h2, h3, h4, h5, h6, h7, h8⟩
 ·subst h1; simp at h0
 ·obtain ⟨ho, ht, hown⟩ := h7 rfl
  subst ho; subst h1; subst h2
  have hrl : row.xs.length = xs.length := by omega
  rw [List.drop_zero, List.take_of_length_le (by omega)] at h8
  rw [List.nodup_cons] at hn
  obtain ⟨cs, pre, mid, post, k1, k2, k3, k4⟩ := h8.setAt _ _ hx
  obtain ⟨r1, r2, j1, j2, g1, g2, g3, g4⟩ := k3.split
  obtain ⟨r3, r4, j3, j4, g5, g6, g7, g8⟩ := g3.split
  subst g1; subst g5; subst g2; subst g6; subst k2
  have l3 := g7.len
  have l4 := g8.len
  have l2 := g4.len
  obtain ⟨hn1, hn2⟩ := hn
  simp only [List.nodup_append, List.mem_append] at hn2
  obtain ⟨⟨a1, ⟨⟨b1, b2, b3⟩, b4, b5⟩, a3⟩, a4, a5⟩ := hn2
  refine ⟨j4, r3, r4, r2, fun K hK => ?_, by omega, l4, g8, b2, fun x hx => by simp [hx], ?_⟩
  ·have hel' : elems S1 (.sl id 0 xs.length t) = some row.xs := by
    unfold elems
    simp only [h3]
    rw [if_pos ⟨h5, h6⟩, List.drop_zero, List.take_of_length_le (by omega)]
   exact zey hel' k1 h0.1 hK
  ·intro S hS hSl B' ys jy hy hyn hyd hB K hK
   have hyL := hy.len
   have hidj4 : id ∉ j4 := fun hh => hn1 (by simp [hh])
   have h3S : S[id]? = some row := by rw [hS id (by simp) hidj4]; exact h3
   have hidl : id < S.length := (List.getElem?_eq_some_iff.1 h3S).1
   have hidjy : id ∉ jy := fun hh => hidj4 (hyd id hh (by simp))
   have ePut : putCells (r3 ++ r4 ++ r2) off ys = r3 ++ ys ++ r2 := by
    unfold putCells
    have h3 : r3.length = off := by omega
    have h4 : ys.length = r4.length := by omega
    rw [List.append_assoc r3 r4 r2, List.take_append_of_le_length (by omega), List.take_of_length_le (by omega)]
    congr 1
    rw [h4, ← h3, ← List.length_append, ← List.append_assoc, List.drop_left]
   unfold StoP
   refine ⟨id, 0, xs.length, t, row, r3 ++ r4 ++ r2, rfl, h3S, hown, h5, h6, h0.1, by omega, by rw [Nat.zero_add]; exact k1, ?_, ?_⟩
   ·rw [h4, ← hk]; simp; omega
   ·rw [ePut, Nat.zero_add]
    have out : ∀ x, (x ∈ pre ∨ x ∈ post ∨ x ∈ j3 ∨ x ∈ j2) → x ∉ j4 ∧ (S.set id ⟨true, row.k, row.xs.set i.toNat (r3 ++ ys ++ r2)⟩)[x]? = S1[x]? := fun x hx => by
     have h4' : x ∉ j4 := fun hh => by
      rcases hx with hx | hx | hx | hx
      ·exact a3 x hx x (.inl (.inr hh)) rfl
      ·exact a5 x (.inr (.inl (.inr hh))) x hx rfl
      ·exact b3 x hx x hh rfl
      ·exact b5 x (.inr hh) x hx rfl
     refine ⟨h4', ?_⟩
     have hne : x ≠ id := by rintro rfl; exact hn1 (by rcases hx with hx | hx | hx | hx <;> simp [hx])
     rw [List.getElem?_set_ne (fun e => hne e.symm), hS x (by rcases hx with hx | hx | hx | hx <;> simp [hx]) h4']
    have memj : ∀ x, x ∈ pre ++ (j3 ++ jy ++ j2) ++ post → x ∈ jy ∨ (x ∈ pre ∨ x ∈ post ∨ x ∈ j3 ∨ x ∈ j2) := by
     intro x hx
     simp only [List.mem_append] at hx
     rcases hx with (h | (h | h) | h) | h
     ·exact .inr (.inl h)
     ·exact .inr (.inr (.inr (.inl h)))
     ·exact .inl h
     ·exact .inr (.inr (.inr (.inr h)))
     ·exact .inr (.inr (.inl h))
    have far : ∀ x, (x ∈ pre ∨ x ∈ post ∨ x ∈ j3 ∨ x ∈ j2) → ∀ y ∈ jy, x ≠ y := fun x hx y hy e => by
     subst e
     exact (out x hx).1 (hyd x hy (by rcases hx with hx | hx | hx | hx <;> simp [hx]))
    refine hK _ (id :: (pre ++ (j3 ++ jy ++ j2) ++ post)) ?_ ?_ ?_ (by simp) ?_
    ·have hr := k4 (S' := S.set id ⟨true, row.k, row.xs.set i.toNat (r3 ++ ys ++ r2)⟩) (x' := A ++ B' ++ Z) (cs' := r3 ++ ys ++ r2) (mid' := j3 ++ jy ++ j2) (fun x hx => (out x (by
      rcases List.mem_append.1 hx with h | h <;> simp [h])).2)
      (((g7.frame fun x hx => (out x (by simp [hx])).2).append (hy.frame fun x hx => List.getElem?_set_ne (by rintro rfl; exact hidjy hx))).append (g4.frame fun x hx => (out x (by simp [hx])).2))
     unfold Rep
     refine ⟨by simpa using hl, .inr ⟨id, 0, t, ⟨true, row.k, row.xs.set i.toNat (r3 ++ ys ++ r2)⟩, _, by simp, rfl, by rw [List.getElem?_set_self hidl], h4, by simpa using h5, by simpa using h6, fun _ => ⟨rfl, by simpa using ht, rfl⟩, ?_⟩⟩
     simp only
     rw [List.drop_zero, List.take_of_length_le (by simp; omega)]
     exact hr
    ·rw [List.nodup_cons]
     refine ⟨fun hx => ?_, ?_⟩
     ·rcases memj id hx with h | h
      ·exact hidjy h
      ·exact hn1 (by rcases h with h | h | h | h <;> simp [h])
     ·simp only [List.nodup_append, List.mem_append]
      refine ⟨⟨a1, ⟨⟨b1, hyn, fun x hx y hy => far x (.inr (.inr (.inl hx))) y hy⟩, b4, fun x hx y hy => ?_⟩, fun x hx y hy => ?_⟩, a4, fun x hx y hy => ?_⟩
      ·rcases hx with hx | hx
       ·exact b5 x (.inl hx) y hy
       ·exact fun e => far y (.inr (.inr (.inr hy))) x hx e.symm
      ·rcases hy with (hy | hy) | hy
       ·exact a3 x hx y (.inl (.inl hy))
       ·exact far x (.inl hx) y hy
       ·exact a3 x hx y (.inr hy)
      ·rcases hx with hx | (hx | hx) | hx
       ·exact a5 x (.inl hx) y hy
       ·exact a5 x (.inr (.inl (.inl hx))) y hy
       ·exact fun e => far y (.inr (.inl hy)) x hx e.symm
       ·exact a5 x (.inr (.inr hx)) y hy
    ·intro x hx
     rcases List.mem_cons.1 hx with rfl | hx
     ·exact .inl ⟨by simp, hidj4⟩
     ·rcases memj x hx with h | h
      ·exact .inr h
      ·exact .inl ⟨by rcases h with h | h | h | h <;> simp [h], (out x h).1⟩
    ·intro x hx
     have : x ≠ id := by
      rcases hx with hx | hx
      ·rintro rfl; exact hx (by simp)
      ·rintro rfl; exact hidj4 hx
     rw [List.getElem?_set_ne (fun e => this e.symm)]
theorem zj6 {q k : Nat} {c : C} {ds : List D} {cs : List C} {xs : List (List D)} {i : Int} {off : Nat} {A B B' Z : List D} {ys : List C} {K : Store → Prop}
 (hE : Ext S0 S) (h : Fr S0.length S1 ds cs) (e1 : Ext S1 S) (h01 : S0.length ≤ S1.length) (hd : ds[q]? = some (.sl k xs)) (hc : cs[q]? = some c) (hy : Fr S1.length S B' ys)
 (h0 : 0 ≤ i ∧ i.toNat < xs.length) (hx : xs[i.toNat]? = some (A ++ B ++ Z)) (hA : A.length = off) (hB : B'.length = B.length) (hk : (A ++ B ++ Z).length = k)
 (hK : ∀ S', Ext S0 S' → Fr S0.length S' (ds.set q (.sl k (xs.set i.toNat (A ++ B' ++ Z)))) cs → S'.length = S.length → K S') : StoP S c i off ys K := by
 obtain ⟨ids, h, hn, hlo⟩ := h
 obtain ⟨jy, hy, hyn, hyl⟩ := hy
 have hlt := h.lt
 obtain ⟨c0, x, m, y, k1, k2, k3, k4⟩ := h.setAt q _ hd
 rw [hc] at k1; cases k1
 subst k2
 simp only [List.nodup_append, List.mem_append] at hn
 obtain ⟨⟨b1, b2, b3⟩, b4, b5⟩ := hn
 obtain ⟨j4, r3, r4, r2, u1, u2, u3, u4, u5, u6, u7⟩ := zwv k3 b2 h0 hx hA hk
 refine u7 S (fun id hi _ => e1.at (hlt id (by simp [hi]))) e1.len B' ys jy hy hyn (fun b hb hb' => by have := hyl b hb; have := hlt b (by simp [hb']); omega) hB K fun S' ids' r1 r2 r3 r4 r5 => ?_
 have hxy : ∀ i, (i ∈ x ∨ i ∈ y) → S'[i]? = S1[i]? := fun i hi => by
  rw [r5 i (.inl fun hm => by rcases hi with hi | hi; exact b3 i hi i hm rfl; exact b5 i (.inr hm) i hi rfl), e1.at (hlt i (by rcases hi with hi | hi <;> simp [hi]))]
 have far : ∀ i, (i ∈ x ∨ i ∈ y) → ∀ i', i' ∈ ids' → i ≠ i' := fun i hi i' hj e => by
  subst e
  rcases r3 i hj with h | h
  ·rcases hi with hi | hi
   ·exact b3 i hi i h.1 rfl
   ·exact b5 i (.inr h.1) i hi rfl
  ·have := hyl i h
   have := hlt i (by rcases hi with hi | hi <;> simp [hi])
   omega
 have hr := k4 (fun i hi => hxy i (by simpa using hi)) r1
 rw [zrn hc] at hr
 refine hK S' ?_ ⟨x ++ ids' ++ y, hr, ?_, fun i hi => ?_⟩ r4
 ·refine zh7 (by rw [r4]; exact hE.len) fun i hi => ?_
  rw [r5 i (.inl fun hm => by have := hlo i (by simp [hm]); omega), hE.at hi]
 ·simp only [List.nodup_append, List.mem_append]
  refine ⟨⟨b1, r2, fun i hi i' hj => far i (.inl hi) i' hj⟩, b4, fun i hi i' hj => ?_⟩
  rcases hi with hi | hi
  ·exact b5 i (.inl hi) i' hj
  ·exact fun e => far i' (.inr hj) i hi e.symm
 ·rcases List.mem_append.1 hi with hi | hi
  ·rcases List.mem_append.1 hi with hi | hi
   ·exact hlo i (by simp [hi])
   ·rcases r3 i hi with h | h
    ·exact hlo i (by simp [h.1])
    ·exact Nat.le_trans h01 (hyl i h)
  ·exact hlo i (by simp [hi])
theorem zq9 {q k : Nat} {c : C} {ds : List D} {cs : List C} {xs : List (List D)} {i : Int} {off : Nat} {A B B' Z : List D} {ys : List C} {K : Store → Prop}
 (hE : Ext S0 S) (h : Fr S0.length S (ds ++ B') (cs ++ ys)) (hl : cs.length = ds.length) (hd : ds[q]? = some (.sl k xs)) (hc : cs[q]? = some c)
 (h0 : 0 ≤ i ∧ i.toNat < xs.length) (hx : xs[i.toNat]? = some (A ++ B ++ Z)) (hA : A.length = off) (hB : B'.length = B.length) (hk : (A ++ B ++ Z).length = k)
 (hK : ∀ S', Ext S0 S' → Fr S0.length S' (ds.set q (.sl k (xs.set i.toNat (A ++ B' ++ Z)))) cs → S'.length = S.length → K S') : StoP S c i off ys K := by
 obtain ⟨ids, hg, hn, hlo⟩ := h
 obtain ⟨p1, p2, ia, jy, s1, s2, h, hy⟩ := hg.split
 obtain ⟨s3, s4⟩ := List.append_inj s1 (by rw [hl, h.len])
 subst s3; subst s4; subst s2
 have hnn := hn
 rw [List.nodup_append] at hnn
 obtain ⟨hna, hyn, hay⟩ := hnn
 have hlt := h.lt
 obtain ⟨c0, x, m, y, k1, k2, k3, k4⟩ := h.setAt q _ hd
 rw [hc] at k1; cases k1
 subst k2
 simp only [List.nodup_append, List.mem_append] at hna
 obtain ⟨⟨b1, b2, b3⟩, b4, b5⟩ := hna
 obtain ⟨j4, r3, r4, r2, u1, u2, u3, u4, u5, u6, u7⟩ := zwv k3 b2 h0 hx hA hk
 refine u7 S (fun id hi _ => rfl) (Nat.le_refl _) B' ys jy hy hyn (fun b hb hb' => absurd rfl (hay b (by simp [hb']) b hb)) hB K fun S' ids' r1 r2 r3 r4 r5 => ?_
 have hxy : ∀ i, (i ∈ x ∨ i ∈ y) → S'[i]? = S[i]? := fun i hi => by
  rw [r5 i (.inl fun hm => by rcases hi with hi | hi; exact b3 i hi i hm rfl; exact b5 i (.inr hm) i hi rfl)]
 have far : ∀ i, (i ∈ x ∨ i ∈ y) → ∀ i', i' ∈ ids' → i ≠ i' := fun i hi i' hj e => by
  subst e
  rcases r3 i hj with h | h
  ·rcases hi with hi | hi
   ·exact b3 i hi i h.1 rfl
   ·exact b5 i (.inr h.1) i hi rfl
  ·exact hay i (by rcases hi with hi | hi <;> simp [hi]) i h rfl
 have hr := k4 (fun i hi => hxy i (by simpa using hi)) r1
 rw [zrn hc] at hr
 refine hK S' ?_ ⟨x ++ ids' ++ y, hr, ?_, fun i hi => ?_⟩ r4
 ·refine zh7 (by rw [r4]; exact hE.len) fun i hi => ?_
  rw [r5 i (.inl fun hm => by have := hlo i (by simp [hm]); omega), hE.at hi]
 ·simp only [List.nodup_append, List.mem_append]
  refine ⟨⟨b1, r2, fun i hi i' hj => far i (.inl hi) i' hj⟩, b4, fun i hi i' hj => ?_⟩
  rcases hi with hi | hi
  ·exact b5 i (.inl hi) i' hj
  ·exact fun e => far i' (.inr hj) i hi e.symm
 ·rcases List.mem_append.1 hi with hi | hi
  ·rcases List.mem_append.1 hi with hi | hi
   ·exact hlo i (by simp [hi])
   ·rcases r3 i hi with h | h
    ·exact hlo i (by simp [h.1])
    ·exact hlo i (by simp [h])
  ·exact hlo i (by simp [hi])
theorem zwl {o k by' : Nat} {c : C} {ds : List D} {cs : List C} {xs : List (List D)} {dy : List D} {cy : List C} {K : C → Store → Prop}
 (hE : Ext S0 S) (h : Fr S0.length S (ds ++ dy) (cs ++ cy)) (hl : cs.length = ds.length) (hd : ds[o]? = some (.sl k xs)) (hc : cs[o]? = some c)
 (hk : dy.length = k) (hb : (xs.length + 1) * by' ≤ 140737488355328) (hm : xs.length + 1 ≤ 9223372036854775807)
 (hK : ∀ c' S', Ext S0 S' → Fr S0.length S' (ds.set o (.sl k (xs ++ [dy]))) (cs.set o c') → S.length ≤ S'.length → K c' S') : AppP k by' S c [cy] K := by
 obtain ⟨ids, hg, hn, hlo⟩ := h
 obtain ⟨p1, p2, ia, jy, s1, s2, h, hy⟩ := hg.split
 obtain ⟨s3, s4⟩ := List.append_inj s1 (by rw [hl, h.len])
 subst s3; subst s4; subst s2
 have hnn := hn
 rw [List.nodup_append] at hnn
 obtain ⟨hna, hyn, hay⟩ := hnn
 have hlt := h.lt
 have hylt := hy.lt
 obtain ⟨c0, x, m, y, k1, k2, k3, k4⟩ := h.setAt o _ hd
 rw [hc] at k1; cases k1
 subst k2
 simp only [List.nodup_append, List.mem_append] at hna
 obtain ⟨⟨b1, b2, b3⟩, b4, b5⟩ := hna
 refine zu9 (yd := [dy]) (js := jy ++ []) k3 b2 (by rw [zbn]; exact ⟨cy, [], jy, [], rfl, rfl, hy, by rw [zc6]; exact ⟨rfl, rfl⟩⟩) (by simpa using hyn) (fun i hi j hj => hay i (by simp [hi]) j (by simpa using hj)) (fun y hy => by simp at hy; subst hy; exact hk) (by simpa using hb) (by rw [zan]; simpa using hm) fun c' S' ids' r1 r2 r3 r4 r5 => ?_
 have hxy : ∀ i, (i ∈ x ∨ i ∈ y) → S'[i]? = S[i]? := fun i hi => by
  have hil := hlt i (by rcases hi with hi | hi <;> simp [hi])
  rw [r5 i hil (fun hm => by rcases hi with hi | hi; exact b3 i hi i hm rfl; exact b5 i (.inr hm) i hi rfl)]
 have far : ∀ i, (i ∈ x ∨ i ∈ y) → ∀ i', i' ∈ ids' → i ≠ i' := fun i hi i' hj e => by
  subst e
  have hil := hlt i (by rcases hi with hi | hi <;> simp [hi])
  rcases r3 i hj with h | h | h
  ·rcases hi with hi | hi
   ·exact b3 i hi i h rfl
   ·exact b5 i (.inr h) i hi rfl
  ·exact hay i (by rcases hi with hi | hi <;> simp [hi]) i (by simpa using h) rfl
  ·omega
 refine hK c' S' ?_ ⟨x ++ ids' ++ y, k4 (fun i hi => hxy i (by simpa using hi)) r1, ?_, fun i hi => ?_⟩ r4
 ·refine zh7 (Nat.le_trans hE.len r4) fun i hi => ?_
  rw [r5 i (Nat.lt_of_lt_of_le hi hE.len) (fun hm => by have := hlo i (by simp [hm]); omega), hE.at hi]
 ·simp only [List.nodup_append, List.mem_append]
  refine ⟨⟨b1, r2, fun i hi i' hj => far i (.inl hi) i' hj⟩, b4, fun i hi i' hj => ?_⟩
  rcases hi with hi | hi
  ·exact b5 i (.inl hi) i' hj
  ·exact fun e => far i' (.inr hj) i hi e.symm
 ·rcases List.mem_append.1 hi with hi | hi
  ·rcases List.mem_append.1 hi with hi | hi
   ·exact hlo i (by simp [hi])
   ·rcases r3 i hi with h | h | h
    ·exact hlo i (by simp [h])
    ·exact hlo i (by simp at h; simp [h])
    ·have := hE.len; omega
  ·exact hlo i (by simp [hi])
theorem Fr.left {lo : Nat} {ds ds' : List D} {cs cs' : List C} (h : Fr lo S (ds ++ ds') (cs ++ cs')) (hl : cs.length = ds.length) : Fr lo S ds cs := by
 obtain ⟨ids, hg, hn, hlo⟩ := h
 obtain ⟨p1, p2, ia, jy, s1, s2, h, hy⟩ := hg.split
 obtain ⟨s3, s4⟩ := List.append_inj s1 (by rw [hl, h.len])
 subst s3; subst s4; subst s2
 exact ⟨ia, h, (List.nodup_append.1 hn).1, fun id hi => hlo id (by simp [hi])⟩
end
open Go.RowKit in
theorem zku {μ : Mp} {S : Store} {w : World} (hrs : RS μ S w) {id n : Nat} {row : Row} {u : Value} (hr : S[id]? = some row) (ho : row.own = true) (hn : row.xs.length = n) (hu : CR μ S (.sl id 0 n n) u) :
 ∃ m arr e, μ id = some m ∧ u = .slice (some ⟨m.blk, 0, none⟩) n m.cap ∧ n ≤ m.cap ∧ m.cap ≤ maxLen ∧ m.base = 0 ∧ w.heap[m.blk]? = some (.cells arr e (0, 0)) ∧ arr.size = m.cap * row.k ∧ FlatR μ S row.k row.xs (arr.toList.take (row.xs.length * row.k)) := by
 obtain ⟨ad, cap, rfl, hnc, row', q1, q2, q3⟩ := hu
 obtain rfl : row = row' := Option.some.inj (hr.symm.trans q1)
 obtain ⟨m, m1, m2, m3, m4⟩ := q3 hn
 obtain ⟨rfl, rfl⟩ := m4 ho rfl rfl
 have hok := hrs.ok id _ m hr m1
 obtain ⟨arr, e', a1, a2, a3⟩ := hok.flat ho
 obtain ⟨hb, arr2, e2, g1, g2, g3, g4⟩ := hok.mine ho
 exact ⟨m, arr, e', m1, rfl, hnc, g4, hb, a1, a2, a3⟩
end
end Go.Proofs.YtlmmdpmmdmhacaaGreat
