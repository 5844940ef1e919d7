/- A slice within an element of one of the call's own slices: appended to, and put back. The reference's insertion into a list of numbers in order. -/
import Derived.Test.YtlmmdpmmdmhacaaGreatKt20
import Derived.Sort.OwnSortedInts
import Derived.Test.YtlmmdpmmdmhacaaGreatKt19
namespace Go.Proofs.YtlmmdpmmdmhacaaGreat
set_option linter.unusedVariables false
set_option linter.unusedSimpArgs false
section
open Go
section
variable {S S' S0 S1 S2 : Store}
theorem zz7 {k : Nat} {c : C} {xs : List (List D)} {i : Int} {off : Nat} {A B Z : List D} {ids : List Nat} (h : Rep true S1 (.sl k xs) c ids) (hn : ids.Nodup)
 (h0 : 0 ≤ i ∧ i.toNat < xs.length) (hx : xs[i.toNat]? = some (A ++ B ++ Z)) (hA : A.length = off) (hk : (A ++ B ++ Z).length = k) :
 ∃ (j4 : List Nat) (r3 r4 r2 : List C), (∃ id o n t, c = .sl id o n t ∧ id ∈ ids ∧ id ∉ j4) ∧ (∀ K : List C → Prop, K (r3 ++ r4 ++ r2) → LoadP S1 c i K) ∧ r3.length = off ∧ r4.length = B.length ∧ RepL true S1 B r4 j4 ∧ j4.Nodup ∧ (∀ id ∈ j4, id ∈ ids) ∧
  ∀ (S : Store), (∀ id ∈ ids, id ∉ j4 → S[id]? = S1[id]?) → S1.length ≤ S.length → ∀ (B' : List D) (ys : List C) (jy : List Nat), RepL true S B' ys jy → jy.Nodup → (∀ b ∈ jy, b ∈ ids → b ∈ j4) → B'.length = B.length →
   ∀ K : Store → Prop, (∀ S' ids', Rep true S' (.sl k (xs.set i.toNat (A ++ B' ++ Z))) c ids' → ids'.Nodup → (∀ id ∈ ids', (id ∈ ids ∧ id ∉ j4) ∨ id ∈ jy) → S'.length = S.length → (∀ id, (id ∉ ids ∨ id ∈ j4) → S'[id]? = S[id]?) → K S') → StoP S c i off ys K := by
 have hids : ∀ id ∈ ids, id < S1.length := h.lt
 have hel := h.elems
 unfold Rep at h
 obtain ⟨hl, h⟩ := h
 rcases h with ⟨h1, h2, h3⟩ | ⟨id, o, t, row, js, h1, h2, h3, h4, h5, h6, h7, h8⟩
 ·subst h1; simp at h0
 ·obtain ⟨ho, ht, hown⟩ := h7 rfl
  subst ho; subst h1; subst h2
  have hrl : row.xs.length = xs.length := by omega
  rw [List.drop_zero, List.take_of_length_le (by omega)] at h8
  rw [List.nodup_cons] at hn
  obtain ⟨cs, pre, mid, post, k1, k2, k3, k4⟩ := h8.setAt _ _ hx
  obtain ⟨r1, r2, j1, j2, g1, g2, g3, g4⟩ := k3.split
  obtain ⟨r3, r4, j3, j4, g5, g6, g7, g8⟩ := g3.split
  subst g1; subst g5; subst g2; subst g6; subst k2
  have l3 := g7.len
  have l4 := g8.len
  have l2 := g4.len
  obtain ⟨hn1, hn2⟩ := hn
  simp only [List.nodup_append, List.mem_append] at hn2
  obtain ⟨⟨a1, ⟨⟨b1, b2, b3⟩, b4, b5⟩, a3⟩, a4, a5⟩ := hn2
  refine ⟨j4, r3, r4, r2, ⟨id, 0, xs.length, t, rfl, by simp, fun hh => hn1 (by simp [hh])⟩, fun K hK => ?_, by omega, l4, g8, b2, fun x hx => by simp [hx], ?_⟩
  ·have hel' : elems S1 (.sl id 0 xs.length t) = some row.xs := by
    unfold elems
    simp only [h3]
    rw [if_pos ⟨h5, h6⟩, List.drop_zero, List.take_of_length_le (by omega)]
   exact zey hel' k1 h0.1 hK
  ·intro S hS hSl B' ys jy hy hyn hyd hB K hK
   have hyL := hy.len
   have hidj4 : id ∉ j4 := fun hh => hn1 (by simp [hh])
   have h3S : S[id]? = some row := by rw [hS id (by simp) hidj4]; exact h3
   have hidl : id < S.length := (List.getElem?_eq_some_iff.1 h3S).1
   have hidjy : id ∉ jy := fun hh => hidj4 (hyd id hh (by simp))
   have ePut : putCells (r3 ++ r4 ++ r2) off ys = r3 ++ ys ++ r2 := by
    unfold putCells
    have h3 : r3.length = off := by omega
    have h4 : ys.length = r4.length := by omega
    rw [List.append_assoc r3 r4 r2, List.take_append_of_le_length (by omega), List.take_of_length_le (by omega)]
    congr 1
    rw [h4, ← h3, ← List.length_append, ← List.append_assoc, List.drop_left]
   unfold StoP
   refine ⟨id, 0, xs.length, t, row, r3 ++ r4 ++ r2, rfl, h3S, hown, h5, h6, h0.1, by omega, by rw [Nat.zero_add]; exact k1, ?_, ?_⟩
   ·rw [h4, ← hk]; simp; omega
   ·rw [ePut, Nat.zero_add]
    have out : ∀ x, (x ∈ pre ∨ x ∈ post ∨ x ∈ j3 ∨ x ∈ j2) → x ∉ j4 ∧ (S.set id ⟨true, row.k, row.xs.set i.toNat (r3 ++ ys ++ r2)⟩)[x]? = S1[x]? := fun x hx => by
     have h4' : x ∉ j4 := fun hh => by
      rcases hx with hx | hx | hx | hx
      ·exact a3 x hx x (.inl (.inr hh)) rfl
      ·exact a5 x (.inr (.inl (.inr hh))) x hx rfl
      ·exact b3 x hx x hh rfl
      ·exact b5 x (.inr hh) x hx rfl
     refine ⟨h4', ?_⟩
     have hne : x ≠ id := by rintro rfl; exact hn1 (by rcases hx with hx | hx | hx | hx <;> simp [hx])
     rw [List.getElem?_set_ne (fun e => hne e.symm), hS x (by rcases hx with hx | hx | hx | hx <;> simp [hx]) h4']
    have memj : ∀ x, x ∈ pre ++ (j3 ++ jy ++ j2) ++ post → x ∈ jy ∨ (x ∈ pre ∨ x ∈ post ∨ x ∈ j3 ∨ x ∈ j2) := by
     intro x hx
     simp only [List.mem_append] at hx
     rcases hx with (h | (h | h) | h) | h
     ·exact .inr (.inl h)
     ·exact .inr (.inr (.inr (.inl h)))
     ·exact .inl h
     ·exact .inr (.inr (.inr (.inr h)))
     ·exact .inr (.inr (.inl h))
    have far : ∀ x, (x ∈ pre ∨ x ∈ post ∨ x ∈ j3 ∨ x ∈ j2) → ∀ y ∈ jy, x ≠ y := fun x hx y hy e => by
     subst e
     exact (out x hx).1 (hyd x hy (by rcases hx with hx | hx | hx | hx <;> simp [hx]))
    refine hK _ (id :: (pre ++ (j3 ++ jy ++ j2) ++ post)) ?_ ?_ ?_ (by simp) ?_
    ·have hr := k4 (S' := S.set id ⟨true, row.k, row.xs.set i.toNat (r3 ++ ys ++ r2)⟩) (x' := A ++ B' ++ Z) (cs' := r3 ++ ys ++ r2) (mid' := j3 ++ jy ++ j2) (fun x hx => (out x (by
      rcases List.mem_append.1 hx with h | h <;> simp [h])).2)
      (((g7.frame fun x hx => (out x (by simp [hx])).2).append (hy.frame fun x hx => List.getElem?_set_ne (by rintro rfl; exact hidjy hx))).append (g4.frame fun x hx => (out x (by simp [hx])).2))
     unfold Rep
     refine ⟨by simpa using hl, .inr ⟨id, 0, t, ⟨true, row.k, row.xs.set i.toNat (r3 ++ ys ++ r2)⟩, _, by simp, rfl, by rw [List.getElem?_set_self hidl], h4, by simpa using h5, by simpa using h6, fun _ => ⟨rfl, by simpa using ht, rfl⟩, ?_⟩⟩
     simp only
     rw [List.drop_zero, List.take_of_length_le (by simp; omega)]
     exact hr
    ·rw [List.nodup_cons]
     refine ⟨fun hx => ?_, ?_⟩
     ·rcases memj id hx with h | h
      ·exact hidjy h
      ·exact hn1 (by rcases h with h | h | h | h <;> simp [h])
     ·simp only [List.nodup_append, List.mem_append]
      refine ⟨⟨a1, ⟨⟨b1, hyn, fun x hx y hy => far x (.inr (.inr (.inl hx))) y hy⟩, b4, fun x hx y hy => ?_⟩, fun x hx y hy => ?_⟩, a4, fun x hx y hy => ?_⟩
      ·rcases hx with hx | hx
       ·exact b5 x (.inl hx) y hy
       ·exact fun e => far y (.inr (.inr (.inr hy))) x hx e.symm
      ·rcases hy with (hy | hy) | hy
       ·exact a3 x hx y (.inl (.inl hy))
       ·exact far x (.inl hx) y hy
       ·exact a3 x hx y (.inr hy)
      ·rcases hx with hx | (hx | hx) | hx
       ·exact a5 x (.inl hx) y hy
       ·exact a5 x (.inr (.inl (.inl hx))) y hy
       ·exact fun e => far y (.inr (.inl hy)) x hx e.symm
       ·exact a5 x (.inr (.inr hx)) y hy
    ·intro x hx
     rcases List.mem_cons.1 hx with rfl | hx
     ·exact .inl ⟨by simp, hidj4⟩
     ·rcases memj x hx with h | h
      ·exact .inr h
      ·exact .inl ⟨by rcases h with h | h | h | h <;> simp [h], (out x h).1⟩
    ·intro x hx
     have : x ≠ id := by
      rcases hx with hx | hx
      ·rintro rfl; exact hx (by simp)
      ·rintro rfl; exact hidj4 hx
     rw [List.getElem?_set_ne (fun e => this e.symm)]
theorem z1c {q k k2 : Nat} {c : C} {ds : List D} {cs : List C} {xs : List (List D)} {i : Int} {off : Nat} {A Z : List D} {ys : List (List D)}
 (hE : Ext S0 S) (h : Fr S0.length S ds cs) (hd : ds[q]? = some (.sl k xs)) (hc : cs[q]? = some c) (h0 : 0 ≤ i ∧ i.toNat < xs.length) (hx : xs[i.toNat]? = some (A ++ [.sl k2 ys] ++ Z)) (hA : A.length = off) (hk : (A ++ [D.sl k2 ys] ++ Z).length = k) :
 ∃ (pcs : List C) (c4 : C), (∀ K : List C → Prop, K pcs → LoadP S c i K) ∧ Rd S (A ++ [.sl k2 ys] ++ Z) pcs ∧ pcs[off]? = some c4 ∧
  ∀ (yd : List (List D)) (yc : List (List C)) (by' : Nat), Rep2 true S yd yc [] → (∀ y ∈ yd, y.length = k2) → (ys.length + yd.length) * by' ≤ 140737488355328 → ys.length + yd.length ≤ 9223372036854775807 →
   ∀ K : C → Store → Prop, (∀ c' S', Ext S0 S' → S.length ≤ S'.length → elems S' c = elems S c →
    (∀ K' : Store → Prop, (∀ S'', Ext S0 S'' → Fr S0.length S'' (ds.set q (.sl k (xs.set i.toNat (A ++ [.sl k2 (ys ++ yd)] ++ Z)))) cs → S''.length = S'.length → K' S'') → StoP S' c i off [c'] K') → K c' S') → AppP k2 by' S c4 yc K := by
 obtain ⟨ids, h, hn, hlo⟩ := h
 have hlt := h.lt
 obtain ⟨c0, x, m, y, k1, k2', k3, k4⟩ := h.setAt q _ hd
 rw [hc] at k1; cases k1
 subst k2'
 simp only [List.nodup_append, List.mem_append] at hn
 obtain ⟨⟨n1, n2, n3⟩, n4, n5⟩ := hn
 obtain ⟨j4, r3, r4, r2, ⟨id, o, n, t, hcid, hidm, hidj⟩, u1, u2, u3, u4, u5, u6, u7⟩ := zz7 k3 n2 h0 hx hA hk
 rw [zaw] at u4
 obtain ⟨c4, cs', i4, jj, w1, w2, w3, w4⟩ := u4
 rw [zce] at w4
 obtain ⟨rfl, rfl⟩ := w4
 subst w1
 rw [List.append_nil] at w2
 subst w2
 have hload := u1 (fun cs => cs = r3 ++ [c4] ++ r2) rfl
 have hrd : Rd S (A ++ [.sl k2 ys] ++ Z) (r3 ++ [c4] ++ r2) := by
  have g := z15 (K := fun cs => Rd S (xs[i.toNat]'h0.2) cs) (zkz k3) h0 (fun cs hcs => hcs)
  unfold LoadP at g hload
  obtain ⟨l, e1, cs1, e2, _, e3⟩ := g
  obtain ⟨l', e1', cs2, e2', _, e3'⟩ := hload
  rw [e1] at e1'; cases e1'
  rw [e2] at e2'; cases e2'
  rw [← e3']
  have hxx : xs[i.toNat]'h0.2 = A ++ [.sl k2 ys] ++ Z := by
   have := List.getElem?_eq_getElem h0.2
   rw [hx] at this; exact (Option.some.inj this).symm
  rw [hxx] at e3; exact e3
 refine ⟨r3 ++ [c4] ++ r2, c4, u1, hrd, by rw [List.append_assoc, List.getElem?_append_right (by omega), u2]; simp, ?_⟩
 intro yd yc by' hy hyk hb hm K hK
 refine zu9 w3 u5 hy List.nodup_nil (fun _ _ j hj => by cases hj) hyk hb (by rw [zan]; exact hm) ?_
 intro c' S' ids' hr' hn' hids' hl' hf'
 have hE' : Ext S0 S' := zh7 (Nat.le_trans hE.len hl') fun z hz => by
  rw [hf' z (Nat.lt_of_lt_of_le hz hE.len) (fun hh => by have := hlo z (by simp [u6 z hh]); omega), hE.at hz]
 have hml : ∀ z ∈ m, z < S.length := fun z hz => hlt z (by simp [hz])
 refine hK c' S' hE' hl' ?_ ?_
 ·rw [hcid]
  have e := hf' id (hml id hidm) hidj
  simp only [elems, e]
 ·intro K' hK'
  have hids2 : ∀ b ∈ ids', b ∈ j4 ∨ S.length ≤ b := fun b hb => by
   rcases hids' b hb with h | h | h
   ·exact .inl h
   ·cases h
   ·exact .inr h
  refine u7 S' (fun z hz hj => hf' z (hml z hz) hj) hl' [.sl k2 (ys ++ yd)] [c'] (ids' ++ []) (by rw [zaw]; exact ⟨c', [], ids', [], rfl, rfl, hr', by rw [zce]; exact ⟨rfl, rfl⟩⟩) (by simpa using hn') (fun b hb hbm => by
   rw [List.append_nil] at hb
   rcases hids2 b hb with h | h
   ·exact h
   ·have := hml b hbm; omega) rfl K' ?_
  intro S'' ids'' hr'' hn'' hm'' hl'' hf''
  rw [List.append_nil] at hm''
  have hout : ∀ z, (z ∈ x ∨ z ∈ y) → S''[z]? = S[z]? := fun z hz => by
   have hzm : z ∉ m := fun hh => by
    rcases hz with hz | hz
    ·exact n3 z hz z hh rfl
    ·exact n5 z (.inr hh) z hz rfl
   have hzl : z < S.length := hlt z (by rcases hz with hz | hz <;> simp [hz])
   rw [hf'' z (.inl hzm), hf' z hzl (fun hh => hzm (u6 z hh))]
  refine hK' S'' ?_ ⟨x ++ ids'' ++ y, ?_, ?_, ?_⟩ hl''
  ·refine zh7 (by rw [hl'']; exact Nat.le_trans hE.len hl') fun z hz => ?_
   have hz1 : z ∉ m := fun hh => by have := hlo z (by simp [hh]); omega
   rw [hf'' z (.inl hz1), hf' z (Nat.lt_of_lt_of_le hz hE.len) (fun hh => hz1 (u6 z hh)), hE.at hz]
  ·have hset : cs.set q c = cs := by
    apply List.ext_getElem?
    intro z
    rw [List.getElem?_set]
    split
    ·rename_i e; subst e
     have hql := (List.getElem?_eq_some_iff.1 hc).1
     rw [if_pos hql, hc]
    ·rfl
   have := k4 (S' := S'') (fun z hz => hout z (by rcases List.mem_append.1 hz with h | h; exact .inl h; exact .inr h)) hr''
   rw [hset] at this
   exact this
  ·have far : ∀ z ∈ ids'', z ∉ x ∧ z ∉ y := fun z hz => by
    rcases hm'' z hz with ⟨h1, _⟩ | h1
    ·exact ⟨fun hh => n3 z hh z h1 rfl, fun hh => n5 z (.inr h1) z hh rfl⟩
    ·rcases hids2 z h1 with h2 | h2
     ·exact ⟨fun hh => n3 z hh z (u6 z h2) rfl, fun hh => n5 z (.inr (u6 z h2)) z hh rfl⟩
     ·exact ⟨fun hh => by have := hlt z (by simp [hh]); omega, fun hh => by have := hlt z (by simp [hh]); omega⟩
   simp only [List.nodup_append, List.mem_append]
   refine ⟨⟨n1, hn'', fun a ha b hb e => (far b hb).1 (e ▸ ha)⟩, n4, fun a ha b hb e => ?_⟩
   rcases ha with ha | ha
   ·exact n5 a (.inl ha) b hb e
   ·exact (far a ha).2 (e ▸ hb)
  ·intro z hz
   simp only [List.mem_append] at hz
   rcases hz with (hz | hz) | hz
   ·exact hlo z (by simp [hz])
   ·rcases hm'' z hz with ⟨h1, _⟩ | h1
    ·exact hlo z (by simp [h1])
    ·rcases hids2 z h1 with h2 | h2
     ·exact hlo z (by simp [u6 z h2])
     ·exact Nat.le_trans hE.len h2
   ·exact hlo z (by simp [hz])
end
theorem zm2 {S : Store} {α : Type} {f : α → List D} {k n : Nat} {l : List α} {c : C} {lo : Int} {K : C → Prop} (h : Rd S [.sl k (l.map f)] [c]) (hk : ∀ x, (f x).length = n) (h0 : 0 ≤ lo ∧ lo ≤ l.length)
 (hK : ∀ c', Rd S [.sl k ((l.drop lo.toNat).map f)] [c'] → K c') : SlhP S c n lo K := by
 have h2 := zk8 (hi := (l.length : Int)) (K := K) h hk ⟨h0.1, h0.2, Int.le_refl _⟩ (fun c' hc => hK c' (by
  rw [Int.toNat_natCast, List.take_of_length_le (by rw [List.length_drop]; exact Nat.le_refl _)] at hc; exact hc))
 have h3 := zwi (K := fun n => n = l.length) h (fun _ => by simp)
 unfold LenP at h3
 obtain ⟨rows, e1, e2⟩ := h3
 unfold SliP at h2
 obtain ⟨xs, a1, a2, a3, a4, a5, a6⟩ := h2
 obtain rfl : rows = xs := Option.some.inj (e1.symm.trans a1)
 unfold SlhP
 refine ⟨rows, a1, a2, a3, by rw [e2]; exact a4, ?_⟩
 rw [show ((rows.length : Nat) : Int) = (l.length : Int) by rw [e2]]; exact a6
theorem z0x {S : Store} {α : Type} {f : α → List D} {k n : Nat} {l : List α} {c : C} {lo : Int} (h : Rd S [.sl k (l.map f)] [c]) (hk : ∀ x, (f x).length = n) (h0 : 0 ≤ lo ∧ lo ≤ l.length) :
 ∃ cH, cH = cutC c lo l.length ∧ Rd S [.sl k ((l.drop lo.toNat).map f)] [cH] := by
 have h2 := zm2 (K := fun cH => cH = cutC c lo l.length → Rd S [.sl k ((l.drop lo.toNat).map f)] [cH]) h hk h0 (fun c' hc _ => hc)
 have h3 := zwi (K := fun n => n = l.length) h (fun _ => by simp)
 unfold LenP at h3
 obtain ⟨rows, e1, e2⟩ := h3
 unfold SlhP at h2
 obtain ⟨xs, a1, a2, a3, a4, a6⟩ := h2
 obtain rfl : rows = xs := Option.some.inj (e1.symm.trans a1)
 rw [e2] at a6
 exact ⟨_, rfl, a6 rfl⟩
theorem z1j {S : Store} {α : Type} {f : α → List D} {k n : Nat} {l : List α} {c cH : C} {lo : Int} {K : C → Prop} (hc : cH = cutC c lo l.length) (h : Rd S [.sl k (l.map f)] [c]) (hk : ∀ x, (f x).length = n) (h0 : 0 ≤ lo ∧ lo ≤ l.length) (hK : K cH) : SlhP S c n lo K := by
 have h2 := zm2 (n := n) (K := fun _ => True) h hk h0 (fun _ _ => trivial)
 have h3 := zwi (K := fun n => n = l.length) h (fun _ => by simp)
 unfold LenP at h3
 obtain ⟨rows, e1, e2⟩ := h3
 unfold SlhP at h2 ⊢
 obtain ⟨xs, a1, a2, a3, a4, a6⟩ := h2
 obtain rfl : rows = xs := Option.some.inj (e1.symm.trans a1)
 refine ⟨rows, a1, a2, a3, a4, ?_⟩
 rw [e2, ← hc]; exact hK
end
section
open Go
section
variable {μ μ' : Mp} {S S' : Store} {w w' : World}
theorem RS.reset (h : RS μ S w) {row row' : Row} {m : Loc} {id : Nat} (hr : S[id]? = some row) (hm : μ id = some m) (ho : row.own = true) (ho' : row'.own = true) (hk : row'.k = row.k) (hl : row'.xs.length = row.xs.length)
 (hg : w.grownBy w' (some m.blk)) (hok : RowOK μ (S.set id row') w' row' m) : RS μ (S.set id row') w' ∧ Evo μ S w μ (S.set id row') w' := by
 obtain ⟨g1, g2, g3, g4, g5⟩ := hg
 have kp : Keeps μ S μ (S.set id row') := zsq hr (ho'.trans ho.symm) hk hl
 have hlt := (List.getElem?_eq_some_iff.1 hr).1
 refine ⟨⟨fun id' r m' h1 h2 => ?_, fun id1 id2 r1 r2 m1 m2 h1 h2 h3 h4 hd hown => ?_⟩, ⟨g1, g2, g3, g4, fun b hb hn => ?_, fun id' r h' => ?_, fun id' r m' h1 h2 => ?_⟩⟩
 ·rcases zdi h1 with ⟨rfl, rfl, _⟩ | ⟨hne, h1⟩
  ·rw [hm] at h2; cases h2; exact hok
  ·exact ((h.ok id' r m' h1 h2).world g4 (g5 _ (h.ok id' r m' h1 h2).lt (fun e => h.sep id id' row r m m' hr h1 hm h2 (Ne.symm hne) ho (Option.some.inj e).symm))).keep kp
 ·have get : ∀ {i : Nat} {r : Row}, (S.set id row')[i]? = some r → ∃ r0, S[i]? = some r0 ∧ r0.own = r.own := by
   intro i r hi
   rcases zdi hi with ⟨rfl, rfl, _⟩ | ⟨_, hi⟩
   ·exact ⟨row, hr, ho.trans ho'.symm⟩
   ·exact ⟨r, hi, rfl⟩
  obtain ⟨a1, b1, c1⟩ := get h1
  obtain ⟨a2, b2, c2⟩ := get h2
  exact h.sep id1 id2 a1 a2 m1 m2 b1 b2 h3 h4 hd (c1.trans hown)
 ·exact g5 b hb (fun e => hn id row m hr hm ho (Option.some.inj e).symm)
 ·by_cases e : id' = id
  ·subst e
   rw [hr] at h'; cases h'
   exact ⟨row', by simp [hlt], ho'.trans ho.symm, hk, by omega, fun _ => rfl, fun hf => by rw [ho] at hf; cases hf⟩
  ·exact ⟨r, by rw [List.getElem?_set_ne (Ne.symm e)]; exact h', rfl, rfl, Nat.le_refl _, fun _ => rfl, fun _ => rfl⟩
 ·rcases zdi h1 with ⟨rfl, rfl, _⟩ | ⟨hne, h1⟩
  ·exact .inr ⟨id', row, m', hr, h2, ho.trans ho'.symm, rfl⟩
  ·exact .inr ⟨id', r, m', h1, h2, rfl, rfl⟩
def zf9 (S : Store) (id : Nat) (row : Row) (xs : List (List C)) : Store := S.set id ⟨true, row.k, row.xs ++ [[]]⟩ ++ [⟨true, row.k, xs⟩]
theorem zkm {id : Nat} {row : Row} {xs : List (List C)} {i : Nat} {r : Row} (h : (zf9 S id row xs)[i]? = some r) :
 (i = S.length ∧ r = ⟨true, row.k, xs⟩) ∨ (i = id ∧ r = ⟨true, row.k, row.xs ++ [[]]⟩ ∧ id < S.length) ∨ (i ≠ id ∧ i < S.length ∧ S[i]? = some r) := by
 rcases zek h with ⟨h1, h2⟩ | ⟨h1, h2⟩
 ·rw [List.length_set] at h1
  rcases zdi h2 with ⟨h3, h4, h5⟩ | ⟨h3, h4⟩
  ·exact .inr (.inl ⟨h3, h4, h5⟩)
  ·exact .inr (.inr ⟨h3, h1, h4⟩)
 ·rw [List.length_set] at h1
  exact .inl ⟨h1, h2⟩
theorem RS.shrink (h : RS μ S w) {row : Row} {m : Loc} {id : Nat} (hr : S[id]? = some row) (hm : μ id = some m) (ho : row.own = true) {xs : List (List C)} {us : List Value} {arr : Array Value} {e : Nat}
 (hg : w.grownBy w' (some m.blk)) (ha : w'.heap[m.blk]? = some (.cells arr e (0, 0))) (hs : arr.size = m.cap * row.k) (hx : xs.length ≤ m.cap) (hcm : m.cap ≤ maxLen) (hb0 : m.base = 0)
 (hf : FlatR μ S row.k xs us) (hp : ∀ (j : Nat) u, us[j]? = some u → arr[j]? = some u) :
 RS (upd (upd μ id none) S.length (some m)) (zf9 S id row xs) w' ∧ Evo μ S w (upd (upd μ id none) S.length (some m)) (zf9 S id row xs) w' ∧
 CR (upd (upd μ id none) S.length (some m)) (zf9 S id row xs) (.sl S.length 0 xs.length xs.length) (.slice (some ⟨m.blk, 0, none⟩) xs.length m.cap) := by
 obtain ⟨g1, g2, g3, g4, g5⟩ := hg
 have hlt := (List.getElem?_eq_some_iff.1 hr).1
 have hlast : (zf9 S id row xs)[S.length]? = some ⟨true, row.k, xs⟩ := by
  unfold zf9
  have : (S.set id ⟨true, row.k, row.xs ++ [[]]⟩).length = S.length := List.length_set
  rw [← this]; simp
 have hold : ∀ i, i ≠ id → i < S.length → (zf9 S id row xs)[i]? = S[i]? := fun i hi hl => by
  unfold zf9
  rw [List.getElem?_append_left (by rw [List.length_set]; exact hl), List.getElem?_set_ne (Ne.symm hi)]
 have hat : (zf9 S id row xs)[id]? = some ⟨true, row.k, row.xs ++ [[]]⟩ := by
  unfold zf9
  rw [List.getElem?_append_left (by rw [List.length_set]; exact hlt), List.getElem?_set_self hlt]
 have hmu : ∀ i, i ≠ id → i < S.length → upd (upd μ id none) S.length (some m) i = μ i := fun i hi hl => by
  rw [zbb _ _ (by omega), zbb _ _ hi]
 have hmid : upd (upd μ id none) S.length (some m) id = none := by rw [zbb _ _ (by omega), za2]
 have kp : Keeps μ S (upd (upd μ id none) S.length (some m)) (zf9 S id row xs) := by
  intro i r hi
  have hil := (List.getElem?_eq_some_iff.1 hi).1
  by_cases e : i = id
  ·subst e
   rw [hr] at hi; cases hi
   exact ⟨_, hat, ho.symm, rfl, by simp, fun e => by simp at e⟩
  ·exact ⟨r, by rw [hold i e hil]; exact hi, rfl, rfl, Nat.le_refl _, fun _ => hmu i e hil⟩
 have far : ∀ i r m1, i ≠ id → S[i]? = some r → μ i = some m1 → m1.blk ≠ m.blk := fun i r m1 hi h1 h2 e => h.sep id i row r m m1 hr h1 hm h2 (Ne.symm hi) ho e.symm
 refine ⟨⟨fun i r m1 h1 h2 => ?_, fun i1 i2 r1 r2 m1 m2 h1 h2 h3 h4 hd hown => ?_⟩, ⟨g1, g2, g3, g4, fun b hb hn => ?_, fun i r h' => ?_, fun i r m1 h1 h2 => ?_⟩, ?_⟩
 ·rcases zkm h1 with ⟨rfl, rfl⟩ | ⟨rfl, rfl, _⟩ | ⟨hne, hil, h1⟩
  ·rw [za2] at h2; cases h2
   exact RowOK.of_flat rfl (hf.keep kp) hb0 ha hp hs hx hcm
  ·rw [hmid] at h2; cases h2
  ·rw [hmu i hne hil] at h2
   exact ((h.ok i r m1 h1 h2).world g4 (g5 _ (h.ok i r m1 h1 h2).lt (fun e => far i r m1 hne h1 h2 (Option.some.inj e)))).keep kp
 ·rcases zkm h1 with ⟨e1, f1⟩ | ⟨e1, f1, _⟩ | ⟨n1, l1, k1⟩ <;> rcases zkm h2 with ⟨e2, f2⟩ | ⟨e2, f2, _⟩ | ⟨n2, l2, k2⟩
  ·exact absurd (e1.trans e2.symm) hd
  ·rw [e2, hmid] at h4; cases h4
  ·rw [e1, za2] at h3; cases h3
   rw [hmu i2 n2 l2] at h4
   exact fun x => far i2 r2 m2 n2 k2 h4 x.symm
  ·rw [e1, hmid] at h3; cases h3
  ·rw [e1, hmid] at h3; cases h3
  ·rw [e1, hmid] at h3; cases h3
  ·rw [e2, za2] at h4; cases h4
   rw [hmu i1 n1 l1] at h3
   exact far i1 r1 m1 n1 k1 h3
  ·rw [e2, hmid] at h4; cases h4
  ·rw [hmu i1 n1 l1] at h3
   rw [hmu i2 n2 l2] at h4
   exact h.sep i1 i2 r1 r2 m1 m2 k1 k2 h3 h4 hd hown
 ·exact g5 b hb (fun e => hn id row m hr hm ho (Option.some.inj e).symm)
 ·have hil := (List.getElem?_eq_some_iff.1 h').1
  by_cases e : i = id
  ·subst e
   rw [hr] at h'; cases h'
   exact ⟨_, hat, ho.symm, rfl, by simp, fun e => by simp at e, fun hf => by rw [ho] at hf; cases hf⟩
  ·exact ⟨r, by rw [hold i e hil]; exact h', rfl, rfl, Nat.le_refl _, fun _ => hmu i e hil, fun _ => rfl⟩
 ·rcases zkm h1 with ⟨rfl, rfl⟩ | ⟨rfl, rfl, _⟩ | ⟨hne, hil, h1⟩
  ·rw [za2] at h2; cases h2
   exact .inr ⟨id, row, m, hr, hm, ho, rfl⟩
  ·rw [hmid] at h2; cases h2
  ·rw [hmu i hne hil] at h2
   exact .inr ⟨i, r, m1, h1, h2, rfl, rfl⟩
 ·exact ⟨⟨m.blk, 0, none⟩, m.cap, rfl, hx, ⟨true, row.k, xs⟩, hlast, Nat.le_refl _, fun _ => ⟨m, za2 _ _ _, by omega, fun _ => by simp [hb0], fun _ _ _ => ⟨rfl, rfl⟩⟩⟩
end
theorem zwq {μ : Mp} {S : Store} {c : C} {us : Array Value} (h : VsR μ S [.s c] us) : ∃ u, us = #[u] ∧ CR μ S c u := by
 obtain ⟨hl, hv⟩ := h
 obtain ⟨u, h1, h2⟩ := hv 0 _ rfl
 refine ⟨u, ?_, h2⟩
 apply Array.ext
 ·simpa using hl
 ·intro i hi hi2
  have : i = 0 := by simp at hi2; omega
  subst this
  have := (Array.getElem?_eq_some_iff.1 h1).2
  simpa using this
theorem zs1 {μ : Mp} {S : Store} {zs : List Int} : FlatR μ S 1 (zs.map fun z => [C.int .i64 z]) (zs.map (Value.int .i64)) := by
 refine ⟨by simp, fun i cs hi => ?_⟩
 rw [List.getElem?_map] at hi
 cases hz : zs[i]? with
 | none => rw [hz] at hi; cases hi
 | some z =>
   rw [hz] at hi; cases hi
   refine ⟨rfl, fun j c hj => ?_⟩
   have hj0 : j = 0 := by
    have := (List.getElem?_eq_some_iff.1 hj).1
    simp at this; exact this
   subst hj0
   cases hj
   exact ⟨.int .i64 z, by rw [Nat.mul_one, Nat.add_zero, List.getElem?_map, hz]; rfl, rfl⟩
theorem zl1 {μ : Mp} {S : Store} {zs : List Int} {us : List Value} (h : FlatR μ S 1 (zs.map fun z => [C.int .i64 z]) us) : us = zs.map (Value.int .i64) := by
 apply List.ext_getElem?
 intro j
 by_cases hj : j < zs.length
 ·obtain ⟨u, h1, h2⟩ := (h.2 j [C.int .i64 zs[j]] (by simp [hj])).2 0 _ rfl
  have h2 : u = .int .i64 zs[j] := h2
  rw [Nat.mul_one, Nat.add_zero] at h1
  rw [h1, h2]; simp [hj]
 ·rw [List.getElem?_eq_none (by rw [h.1]; simp; omega), List.getElem?_eq_none (by simp; omega)]
end
end Go.Proofs.YtlmmdpmmdmhacaaGreat
namespace Go.Proofs.YtlmmdpmmdmhacaaGreat
open Go Go.ChangeShapes Go.WideShapes Go.ChangeAt Go.RowKit
set_option linter.unusedVariables false
set_option linter.unusedSimpArgs false
set_option maxRecDepth 100000
def posI (n : Int) : List Int → Nat
 | [] => 0
 | x :: r => if x < n then 1 + posI n r else 0
theorem zuv (n : Int) : ∀ l : List Int, posI n l ≤ l.length
 | [] => Nat.le_refl _
 | x :: r => by
   rw [posI]
   split
   ·have := zuv n r; rw [List.length_cons]; omega
   ·exact Nat.zero_le _
def putI (l : List Int) (n : Int) : List Int := if l[posI n l]? = some n then l else l.take (posI n l) ++ n :: l.drop (posI n l)
theorem z34 (l : List Int) (n : Int) : (putI l n).length ≤ l.length + 1 := by
 unfold putI
 have := zuv n l
 split
 ·omega
 ·simp only [List.length_append, List.length_cons, List.length_take, List.length_drop]; omega
theorem zr8 (x n : Int) (r : List Int) : putI (x :: r) n = if x < n then x :: putI r n else if x = n then x :: r else n :: x :: r := by
 unfold putI
 rw [posI]
 split
 ·rw [Nat.add_comm 1, List.getElem?_cons_succ, List.take_succ_cons, List.drop_succ_cons]
  split <;> rfl
 ·rw [List.getElem?_cons_zero]
  by_cases h : x = n
  ·rw [if_pos (by rw [h]), if_pos h]
  ·rw [if_neg (by simpa using h), if_neg h]; rfl
theorem zre (y n : Int) : ∀ l : List Int, y ∈ putI l n ↔ y = n ∨ y ∈ l
 | [] => by simp [putI, posI]
 | x :: r => by
   rw [zr8]
   split
   ·rw [List.mem_cons, zre y n r, List.mem_cons]
    constructor <;> (intro h; rcases h with h | h | h <;> simp [h])
   ·split
    ·rename_i h; subst h; simp
    ·simp [List.mem_cons]
theorem zwo (n : Int) : ∀ {l : List Int}, l.Pairwise (· < ·) → (putI l n).Pairwise (· < ·)
 | [], _ => by simp [putI, posI]
 | x :: r, h => by
   rw [List.pairwise_cons] at h
   rw [zr8]
   split
   ·rename_i hx
    rw [List.pairwise_cons]
    refine ⟨fun y hy => ?_, zwo n h.2⟩
    rcases (zre y n r).1 hy with rfl | hy
    ·exact hx
    ·exact h.1 y hy
   ·split
    ·exact List.pairwise_cons.2 h
    ·rename_i h1 h2
     rw [List.pairwise_cons]
     refine ⟨fun y hy => ?_, List.pairwise_cons.2 h⟩
     rcases List.mem_cons.1 hy with rfl | hy
     ·omega
     ·have := h.1 y hy; omega
set_option maxHeartbeats 2000000 in
theorem z2k (l : List Int) (n : Int) (c : C) (S : Store) (h : Rd S [.sl 1 (l.map dInt)] [c]) (hz : l.length ≤ 4194304) : EvA Tryz.prog 352 [.s c, .s (.int .i64 n)] S (fun r S' => Ext S S' ∧ ∃ c', r = .v (.s c') ∧ Fr S.length S' [.sl 1 ((putI l n).map dInt)] [c']) := by
 have hp := zuv n l
 refine zac tok Tryz.func352 (by kernel_rfl) rfl ?_
 skip
 refine zag {i : Nat // i ≤ l.length ∧ i + posI n (l.drop i) = posI n l} [5, 6, 7, 8, 9, 10, 11, 12, 13, 14, 15, 16, 17, 18, 19] (fun zb => [(5, .v (.s (.int .i64 zb.1)))]) (fun _ => S) (fun zb => l.length - zb.1) ⟨0, Nat.zero_le _, by simp⟩ okL rfl ?_
 rintro ⟨i, hi, hinv⟩; dsimp only
 by_cases hlt : i < l.length
 ·have hlt' : ((i : Nat) : Int).toNat < l.length := hlt
  rw [zam hlt, posI] at hinv
  by_cases hc : l[((i : Nat) : Int).toNat]'hlt' < n
  ·rw [if_pos (by simpa using hc)] at hinv
   repeat' ((conv => whnf) <;> first
    | rw [zad (by omega)] | (show CondP _ _ _; refine cS ?_) | refine rE fun hml => ?_ | refine rI rdA rf ix ?_ | refine zaf rdA tv ix ?_)
   all_goals first
    | (refine ⟨⟨i + 1, by omega, by omega⟩, ?_, rfl, by simp; omega⟩; (conv => whnf); repeat' (first | exact trivial | exact rfl | apply And.intro))
    | (exfalso; omega)
  ·rw [if_neg (by simpa using hc), Nat.add_zero] at hinv
   by_cases he : l[((i : Nat) : Int).toNat]'hlt' = n
   ·rw [show putI l n = l from by
     unfold putI
     rw [← hinv, if_pos]
     rw [List.getElem?_eq_getElem hlt]; exact congrArg some he]
    repeat' ((conv => whnf) <;> first
     | (show CondP _ _ _; refine cS ?_) | refine rE fun hml => ?_ | refine rI rdA rf ix ?_ | refine zaf rdA tv ix ?_ | (refine zaq (f := dInt) rdA tv (fun _ => ?_)) | (refine za8 (f := dInt) tv rf (by dsimp only [T3]; omega) om ?_; intro cX SX hEX hFX) | refine And.intro ?_ ?_)
    all_goals first
     | assumption
     | exact ⟨_, rfl, by assumption⟩
     | (exfalso; omega)
   ·rw [show putI l n = l.take i ++ n :: l.drop i from by
     unfold putI
     rw [← hinv, if_neg]
     rw [List.getElem?_eq_getElem hlt]; intro hh; exact he (Option.some.inj hh)]
    obtain ⟨cH, hcH, hH⟩ := z0x (n := 1) (lo := (i : Int)) h (by intro _; rfl) (by omega)
    rw [Int.toNat_natCast] at hH
    repeat' ((conv => whnf) <;> first
     | (refine z1j hcH rdA rf om ?_) | (show CondP _ _ _; refine cS ?_) | refine rE fun hml => ?_ | refine rI rdA rf ix ?_ | refine zaf rdA tv ix ?_ | (refine zk8 rdA rf om ?_; intro cSl hSl) | refine zae 35 [.fl 0, .fl 1, .fl 2, .fl 3, .fl 5, .fl 6, .fl 8, .fl 9, .fl 10, .st 4 [5, 6, 8, 9, 10], .st 7 [8, 9, 10], .st 11 [], .st 12 []] (by rfl) (by kernel_rfl) ?_ | (refine zaq (f := dInt) rdA tv (fun _ => ?_)) | (refine za8 (f := dInt) (l := l.take i) tv rf (by dsimp only [T3]; rw [List.length_take]; omega) (by rw [List.length_take]; omega) ?_; intro cX SX hEX hFX) | (refine zas (f := dInt) (m := [n]) tv (by assumption) (by assumption) (by rfl) rf (by dsimp only [T3]; simp only [List.length_take, List.length_drop, List.length_cons, List.length_nil]; omega) (by rw [zan]; simp only [List.length_take, List.length_drop, List.length_cons, List.length_nil]; omega) ?_; intro cA SA hEA hFA hlA) | (refine zas (f := dInt) (m := l.drop i) tv (by assumption) (by assumption) (by rfl) rf (by dsimp only [T3]; simp only [List.length_append, List.length_take, List.length_drop, List.length_cons, List.length_nil]; omega) (by rw [zan]; simp only [List.length_append, List.length_take, List.length_drop, List.length_cons, List.length_nil]; omega) ?_; intro cB SB hEB hFB hlB) | refine And.intro ?_ ?_)
    all_goals first
     | assumption
     | (rw [List.append_assoc] at hFB; exact ⟨_, rfl, hFB⟩)
     | (exfalso; omega)
 ·have he : i = l.length := by omega
  subst he
  rw [zak (Nat.le_refl _), posI, Nat.add_zero] at hinv
  rw [show putI l n = l.take l.length ++ n :: l.drop l.length from by
   unfold putI
   rw [← hinv, if_neg]
   rw [List.getElem?_eq_none (Nat.le_refl _)]; intro hh; cases hh]
  obtain ⟨cH, hcH, hH⟩ := z0x (n := 1) (lo := (l.length : Int)) h (by intro _; rfl) (by omega)
  rw [Int.toNat_natCast] at hH
  repeat' ((conv => whnf) <;> first
   | (refine z1j hcH rdA rf om ?_) | (show CondP _ _ _; refine cS ?_) | refine cF ?_ | refine rE fun hml => ?_ | (refine zk8 rdA rf om ?_; intro cSl hSl) | refine zae 35 [.fl 0, .fl 1, .fl 2, .fl 3, .fl 5, .fl 6, .fl 8, .fl 9, .fl 10, .st 4 [5, 6, 8, 9, 10], .st 7 [8, 9, 10], .st 11 [], .st 12 []] (by rfl) (by kernel_rfl) ?_ | (refine zaq (f := dInt) rdA tv (fun _ => ?_)) | (refine za8 (f := dInt) (l := l.take l.length) tv rf (by dsimp only [T3]; rw [List.length_take]; omega) (by rw [List.length_take]; omega) ?_; intro cX SX hEX hFX) | (refine zas (f := dInt) (m := [n]) tv (by assumption) (by assumption) (by rfl) rf (by dsimp only [T3]; simp only [List.length_take, List.length_drop, List.length_cons, List.length_nil]; omega) (by rw [zan]; simp only [List.length_take, List.length_drop, List.length_cons, List.length_nil]; omega) ?_; intro cA SA hEA hFA hlA) | (refine zas (f := dInt) (m := l.drop l.length) tv (by assumption) (by assumption) (by rfl) rf (by dsimp only [T3]; simp only [List.length_append, List.length_take, List.length_drop, List.length_cons, List.length_nil]; omega) (by rw [zan]; simp only [List.length_append, List.length_take, List.length_drop, List.length_cons, List.length_nil]; omega) ?_; intro cB SB hEB hFB hlB) | refine And.intro ?_ ?_)
  all_goals first
   | assumption
   | (rw [List.append_assoc] at hFB; exact ⟨_, rfl, hFB⟩)
   | (exfalso; omega)
end Go.Proofs.YtlmmdpmmdmhacaaGreat
