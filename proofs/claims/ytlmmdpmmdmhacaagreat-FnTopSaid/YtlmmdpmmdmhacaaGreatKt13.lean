/- Regions whose order is open, 4: the proof that every order does as the schedule does. -/
import Derived.Test.YtlmmdpmmdmhacaaGreatKt12
namespace Go.Proofs.YtlmmdpmmdmhacaaGreat
open Go
set_option linter.unusedVariables false
set_option linter.unusedSimpArgs false
theorem zs4 {t : List Nat} : ∀ (ds : List Nat) (m k : Nat), bitB (ds.foldl (fun m d => m ||| (2 ^ d ||| t.getD d 0)) m) k = true → bitB m k = true ∨ ∃ d ∈ ds, k = d ∨ bitB (t.getD d 0) k = true
 | [], m, k, h => .inl h
 | d :: ds, m, k, h => by
   rw [List.foldl_cons] at h
   rcases zs4 ds _ k h with h | ⟨d', h1, h2⟩
   ·simp only [bitB, Nat.testBit_or, Bool.or_eq_true, Nat.testBit_two_pow] at h
    rcases h with h | h | h
    ·exact .inl h
    ·exact .inr ⟨d, by simp, .inl (by have h : d = k := by simpa using h
                                      exact h.symm)⟩
    ·exact .inr ⟨d, by simp, .inr h⟩
   ·exact .inr ⟨d', by simp [h1], h2⟩
theorem ztu : ∀ (l : List Oper) (t : List Nat), ∃ s, zi6 l t = t ++ s
 | [], t => ⟨[], by simp [zi6]⟩
 | o :: r, t => by
   obtain ⟨s, hs⟩ := ztu r (t ++ [(zeh o).foldl (fun m d => m ||| (2 ^ d ||| t.getD d 0)) 0])
   exact ⟨_, by rw [zi6, hs, List.append_assoc]⟩
theorem zw8 : ∀ (l : List Oper) (t : List Nat) (j : Nat) (k : Nat), bitB ((zi6 l t).getD (t.length + j) 0) k = true → ∃ o, l[j]? = some o ∧ ∃ d ∈ zeh o, k = d ∨ (d < t.length + j ∧ bitB ((zi6 l t).getD d 0) k = true)
 | [], t, j, k, h => by simp [zi6, bitB] at h
 | o :: r, t, 0, k, h => by
   obtain ⟨s, hs⟩ := ztu r (t ++ [(zeh o).foldl (fun m d => m ||| (2 ^ d ||| t.getD d 0)) 0])
   have e : zi6 (o :: r) t = t ++ [(zeh o).foldl (fun m d => m ||| (2 ^ d ||| t.getD d 0)) 0] ++ s := by rw [zi6, hs]
   have e1 : (zi6 (o :: r) t).getD (t.length + 0) 0 = (zeh o).foldl (fun m d => m ||| (2 ^ d ||| t.getD d 0)) 0 := by
    rw [e]; simp
   rw [e1] at h
   rcases zs4 _ _ _ h with h | ⟨d, h1, h2⟩
   ·simp [bitB] at h
   ·refine ⟨o, rfl, d, h1, h2.imp id fun h2 => ?_⟩
    have hd : d < t.length := by
     rcases Nat.lt_or_ge d t.length with h' | h'
     ·exact h'
     ·rw [List.getD_eq_getElem?_getD, List.getElem?_eq_none h'] at h2; simp [bitB] at h2
    refine ⟨by omega, ?_⟩
    rw [e, List.append_assoc]
    rw [List.getD_eq_getElem?_getD] at h2 ⊢
    rw [List.getElem?_append_left hd]; exact h2
 | o :: r, t, j + 1, k, h => by
   have h' : bitB ((zi6 r (t ++ [(zeh o).foldl (fun m d => m ||| (2 ^ d ||| t.getD d 0)) 0])).getD ((t ++ [(zeh o).foldl (fun m d => m ||| (2 ^ d ||| t.getD d 0)) 0]).length + j) 0) k = true := by
    have e : (t ++ [(zeh o).foldl (fun m d => m ||| (2 ^ d ||| t.getD d 0)) 0]).length + j = t.length + (j + 1) := by simp; omega
    rw [e]; exact h
   obtain ⟨o', h1, d, h2, h3⟩ := zw8 r _ j k h'
   refine ⟨o', by simpa using h1, d, h2, h3.imp id fun ⟨h4, h5⟩ => ⟨by simp at h4; omega, h5⟩⟩
section
variable {T : TT} {EV : Nat → List V → Store → (AV → Store → Prop) → Prop} {ops : Array Oper} {K : Env → Store → Prop}
def Dc (ops : Array Oper) (listed : Array Bool) : Prop := ∀ i o, ops[i]? = some o → listed.getD i false = true → ∀ k ∈ zeh o, listed.getD k false = true
theorem zp5 {listed : Array Bool} (hdc : Dc ops listed) : ∀ (n j : Nat), j < n → ∀ o, ops[j]? = some o → (∀ k ∈ zeh o, listed.getD k false = true) → ∀ k, bitB ((zi6 ops.toList []).getD j 0) k = true → listed.getD k false = true
 | 0, j, h, _, _, _, _, _ => by omega
 | n + 1, j, hj, o, ho, hl, k, hk => by
   obtain ⟨o', h1, d, h2, h3⟩ := zw8 ops.toList [] j k (by simpa using hk)
   have : o' = o := by rw [Array.getElem?_toList, ho] at h1; cases h1; rfl
   subst this
   rcases h3 with rfl | ⟨h4, h5⟩
   ·exact hl _ h2
   ·simp at h4
    have hlt : d < ops.size := by have := (Array.getElem?_eq_some_iff.1 ho).1; omega
    exact zp5 hdc n d (by omega) ops[d] (Array.getElem?_eq_getElem hlt) (hdc d _ (Array.getElem?_eq_getElem hlt) (hl d h2)) k h5
def Yd (T : TT) (EV : Nat → List V → Store → (AV → Store → Prop) → Prop) (all : List Oper) (o : Oper) (d : Nat) (e : Env) (S : Store) : Prop :=
 (zhx all o e = some true ∧ Yl T EV o.op d e S (getE e d)) ∨ (zhx all o e = some false ∧ getE e d = .und)
structure Pn (T : TT) (EV : Nat → List V → Store → (AV → Store → Prop) → Prop) (ops : Array Oper) (items : List It) (e : Env) (S : Store) (i : Nat) (o : Oper) (d : Nat) : Prop where
 op : ops[i]? = some o
 dst : o.dst = some d
 fl : isFl o.op = true
 lt : d < e.length
 own : d ∉ zj3 ops.toList o
 ssa : ∀ (k : Nat) ok, ops[k]? = some ok → d ∈ zj3 ops.toList ok → bitB ((zi6 ops.toList []).getD k 0) i = true
 uniq : ∀ k, k ≠ i → zqq ops.toList k ≠ some d
 later : ∀ k ∈ items.map It.i, bitB ((zi6 ops.toList []).getD i 0) k = false
 out : i ∉ items.map It.i
 nb : ∀ cs, getE e d ≠ .box cs
 y : Yd T EV ops.toList o d e S
theorem zr3 {D : List Nat} {e e' : Env} (h : Ag D e e') {all : List Oper} {o : Oper} (hD : ∀ t ∈ z1h all o, t ∉ D) : zhx all o e = zhx all o e' := by
 unfold zhx z1h at *
 split
 ·rfl
 ·rename_i j want hg
  rw [hg] at hD
  simp only at hD
  split
  ·rename_i t ht
   rw [ht] at hD
   rw [h.out t (hD t (by simp))]
  ·rfl
theorem Yd.set {all : List Oper} {o : Oper} {d d1 : Nat} {e : Env} {S : Store} {v : AV} (h : Yd T EV all o d e S) (hd : d1 ∉ zj3 all o) (hne : d1 ≠ d) (hb : ∀ cs, getE e d1 ≠ .box cs) : Yd T EV all o d (e.set d1 v) S := by
 have ag : Ag [d1] (e.set d1 v) e := ⟨by simp, fun t ht => by rw [zc5, if_neg (fun x => ht (by simp [x.1]))], fun t ht cs => by simp at ht; subst ht; exact hb cs⟩
 have hw : zhx all o (e.set d1 v) = zhx all o e := zr3 ag fun t ht h1 => by
  simp at h1; subst h1; exact hd (List.mem_append_right _ ht)
 have hg : getE (e.set d1 v) d = getE e d := ag.out d (by simp [Ne.symm hne])
 unfold Yd at *
 rw [hw, hg]
 refine h.imp (fun ⟨h1, h2⟩ => ⟨h1, fun D e1 ha hD K hk => ?_⟩) id
 refine h2 (d1 :: D) e1 ⟨by rw [ha.len]; simp, fun t ht => ?_, fun t ht cs => ?_⟩ (fun t ht h3 => ?_) K hk
 ·simp at ht
  rw [ha.out t ht.2, ag.out t (by simp [ht.1])]
 ·by_cases h4 : t = d1
  ·subst h4; exact hb cs
  ·have := ha.nob t (by simpa [h4] using ht) cs
   rw [ag.out t (by simp [h4])] at this; exact this
 ·rcases List.mem_cons.1 h3 with rfl | h3
  ·exact hd (List.mem_append_left _ ht)
  ·exact hD t ht h3
def dsts (ops : Array Oper) (P : List Nat) : List Nat := P.filterMap (zqq ops.toList)
theorem ziv {P : List Nat} {t : Nat} : t ∈ dsts ops P ↔ ∃ i ∈ P, zqq ops.toList i = some t := List.mem_filterMap
theorem zit {i : Nat} {o : Oper} (h : ops[i]? = some o) : zqq ops.toList i = o.dst := by
 unfold zqq; rw [Array.getElem?_toList, h]; rfl
structure SimSt (T : TT) (EV : Nat → List V → Store → (AV → Store → Prop) → Prop) (ops : Array Oper) (listed : Array Bool) (P : List Nat) (items : List It) (e e' : Env) (S : Store) : Prop where
 size : listed.size = ops.size
 dc : Dc ops listed
 small : ∀ i o, ops[i]? = some o → ∀ k ∈ zeh o, k < i
 ag : Ag (dsts ops P) e e'
 pn : ∀ i ∈ P, listed.getD i false = false ∧ ∃ o d, Pn T EV ops items e' S i o d
 nd : P.Nodup
 cover : ∀ i, i < ops.size → listed.getD i false = true ∨ i ∈ P ∨ i ∈ items.map It.i
 disj : ∀ i ∈ items.map It.i, listed.getD i false = false
 ok : zgs ops.toList (zi6 ops.toList []) items = true
theorem z4a {o : Oper} {ed : Edge} (h : ed ∈ o.after) (hb : Region.binds .any ed = true) : ed.on ∈ zeh o := by
 unfold zeh
 exact List.mem_map.2 ⟨ed, List.mem_filter.2 ⟨by simpa using h, hb⟩, rfl⟩
theorem z32 {o : Oper} {k : Nat} (h : k ∈ zeh o) : ∃ ed ∈ o.after, Region.binds .any ed = true ∧ ed.on = k := by
 unfold zeh at h
 obtain ⟨ed, h1, h2⟩ := List.mem_map.1 h
 obtain ⟨h3, h4⟩ := List.mem_filter.1 h1
 exact ⟨ed, by simpa using h3, h4, h2⟩
theorem zvv {listed : Array Bool} {i : Nat} (h : i < listed.size) : listed.getD i true = listed.getD i false := by
 simp [h]
theorem zow {listed : Array Bool} {i : Nat} (h : i < listed.size) : (listed.setIfInBounds i true).getD i false = true := by
 simp [h]
theorem z3p {listed : Array Bool} (hs : listed.size = ops.size) (small : ∀ i o, ops[i]? = some o → ∀ k ∈ zeh o, k < i) {i : Nat} (hi : i < ops.size) (hl : listed.getD i false = false) : Region.ready .any ops listed ≠ [] := by
 have : ∃ j, j < ops.size ∧ listed.getD j false = false ∧ ∀ k, k < j → listed.getD k false = true := by
  induction i using Nat.strongRecOn with
  | ind i ih =>
    by_cases h : ∃ k, k < i ∧ listed.getD k false = false
    ·obtain ⟨k, h1, h2⟩ := h
     exact ih k h1 (by omega) h2
    ·refine ⟨i, hi, hl, fun k hk => ?_⟩
     cases hh : listed.getD k false with
     | true => rfl
     | false => exact absurd ⟨k, hk, hh⟩ h
 obtain ⟨j, h1, h2, h3⟩ := this
 have : j ∈ Region.ready .any ops listed := mem_ready.2 ⟨by rw [zvv (by omega)]; exact h2, ops[j], Array.getElem?_eq_getElem h1, fun ed he hb => h3 _ (small j _ (Array.getElem?_eq_getElem h1) _ (z4a he hb))⟩
 intro h0
 rw [h0] at this
 cases this
theorem z4f {e e' : Env} (h : Ag [] e e') : e = e' := by
 apply List.ext_getElem h.len
 intro i h1 h2
 have := h.out i (by simp)
 simpa [getE, h1, h2] using this
theorem zp0 {all : List Oper} {e : Env} {S : Store} {A : Prop} : ∀ {l : List Nat}, zvj T EV all e S l A → A ∧ ∀ i ∈ l, ∀ o d, all[i]? = some o → o.dst = some d → d < e.length ∧ (isFl o.op = true → Yd T EV all o d e S ∧ ∀ cs, getE e d ≠ .box cs)
 | [], h => ⟨h, fun i hi => by cases hi⟩
 | i :: r, h => by
   unfold zvj at h
   split at h
   ·rename_i o ho
    split at h
    ·rename_i d hd
     cases hb : (Nat.blt d e.length && flW all o e) with
     | false => rw [hb] at h; exact h.elim
     | true =>
       rw [hb] at h
       rw [Bool.and_eq_true] at hb
       have hlt : d < e.length := by simpa [Nat.blt_eq] using hb.1
       simp only [cond_true] at h
       obtain ⟨h1, h2⟩ := h
       obtain ⟨h3, h4⟩ := zp0 h2
       refine ⟨h3, fun i' hi' o' d' ho' hd' => ?_⟩
       rcases List.mem_cons.1 hi' with rfl | hi'
       ·rw [ho] at ho'; cases ho'; rw [hd] at hd'; cases hd'
        refine ⟨hlt, fun hfl => ?_⟩
        unfold zfg at h1
        split at h1
        ·rename_i hw
         rw [hd] at h1
         obtain ⟨v, k1, k2, k3⟩ := zug (S := S) hfl (z4c hb.2 hw) h1
         rw [zc5, if_pos ⟨rfl, hlt⟩] at k3
         subst k3
         exact ⟨.inl ⟨hw, k1⟩, k2⟩
        ·rename_i hw
         rw [hd, zdd, putE] at h1
         rw [zc5, if_pos ⟨rfl, hlt⟩] at h1
         exact ⟨.inr ⟨hw, h1.symm⟩, fun cs hx => by rw [← h1] at hx; cases hx⟩
        ·exact h1.elim
       ·exact h4 i' hi' o' d' ho' hd'
    ·exact h.elim
   ·exact h.elim
theorem zx1 {tab : List Nat} {i : Nat} {r : List It} (h : zgs ops.toList tab (.fl i :: r) = true) : ∃ o d, ops[i]? = some o ∧ o.dst = some d ∧ isFl o.op = true ∧ d ∉ zj3 ops.toList o ∧
 (∀ (k : Nat) ok, ops[k]? = some ok → d ∈ zj3 ops.toList ok → bitB (tab.getD k 0) i = true) ∧ (∀ k, k ≠ i → zqq ops.toList k ≠ some d) ∧ (∀ k ∈ r.map It.i, bitB (tab.getD i 0) k = false ∧ k ≠ i) ∧ zgs ops.toList tab r = true := by
 unfold zgs at h
 rw [Bool.and_eq_true, Bool.and_eq_true] at h
 obtain ⟨⟨h1, h2⟩, h3⟩ := h
 split at h1
 ·rename_i o ho
  rw [Bool.and_eq_true] at h1
  obtain ⟨h1, h4⟩ := h1
  split at h4
  ·rename_i d hd
   rw [Bool.and_eq_true] at h4
   obtain ⟨h4, h5⟩ := h4
   rw [List.all_eq_true] at h5
   rw [Array.getElem?_toList] at ho
   refine ⟨o, d, ho, hd, h1, by simpa using h4, fun k ok hk hl => ?_, fun k hk hx => ?_, fun k hk => ?_, h3⟩
   ·have hlt : k < ops.toList.length := by simpa using (Array.getElem?_eq_some_iff.1 hk).1
    have := h5 k (List.mem_range.2 hlt)
    rw [Array.getElem?_toList, hk] at this
    simp only [Bool.and_eq_true, Bool.or_eq_true, Bool.not_eq_true'] at this
    rcases this.1 with h6 | h6
    ·simp at h6; exact absurd hl h6
    ·exact h6
   ·have hlt : k < ops.toList.length := by
     unfold zqq at hx
     cases hk2 : ops.toList[k]? with
     | none => rw [hk2] at hx; cases hx
     | some ok => exact (List.getElem?_eq_some_iff.1 hk2).1
    have := h5 k (List.mem_range.2 hlt)
    simp only [Bool.and_eq_true, Bool.or_eq_true, Bool.not_eq_true'] at this
    rcases this.2 with h6 | h6
    ·exact hk (Nat.eq_of_beq_eq_true h6)
    ·rw [hx] at h6; simp at h6
   ·rw [List.all_eq_true] at h2
    have := h2 k hk
    simp only [Bool.and_eq_true, Bool.not_eq_true'] at this
    exact ⟨this.1, fun e => by subst e; simp at this⟩
  ·cases h4
 ·cases h1
theorem zpk {tab : List Nat} {j : Nat} {pend : List Nat} {r : List It} (h : zgs ops.toList tab (.st j pend :: r) = true) : ∃ o, ops[j]? = some o ∧ isSt o.op = true ∧ (∀ k ∈ r.map It.i, bitB (tab.getD k 0) j = true ∧ k ≠ j) ∧
 (∀ i, i < ops.size → i = j ∨ i ∈ r.map It.i ∨ i ∈ pend ∨ bitB (tab.getD j 0) i = true) ∧ zgs ops.toList tab r = true := by
 unfold zgs at h
 rw [Bool.and_eq_true, Bool.and_eq_true, Bool.and_eq_true] at h
 obtain ⟨⟨⟨h1, h2⟩, h3⟩, h4⟩ := h
 split at h1
 ·rename_i o ho
  rw [Array.getElem?_toList] at ho
  refine ⟨o, ho, h1, fun k hk => ?_, fun i hi => ?_, h4⟩
  ·rw [List.all_eq_true] at h2
   have := h2 k hk
   simp only [Bool.and_eq_true, Bool.not_eq_true'] at this
   exact ⟨this.1, fun e => by subst e; simp at this⟩
  ·rw [List.all_eq_true] at h3
   have := h3 i (List.mem_range.2 (by simpa using hi))
   simp only [Bool.or_eq_true] at this
   rcases this with ((h5 | h5) | h5) | h5
   ·exact .inl (Nat.eq_of_beq_eq_true h5)
   ·exact .inr (.inl (by simpa using h5))
   ·exact .inr (.inr (.inl (by simpa using h5)))
   ·exact .inr (.inr (.inr h5))
 ·cases h1
theorem Dc.set {listed : Array Bool} (h : Dc ops listed) {j : Nat} {o : Oper} (ho : ops[j]? = some o) (hr : ∀ k ∈ zeh o, listed.getD k false = true) : Dc ops (listed.setIfInBounds j true) := by
 intro i oi hi hl k hk
 by_cases hij : j = i
 ·subst hij
  rw [ho] at hi; cases hi
  exact getD_set_true (hr k hk)
 ·rw [Go.getD_set_ne false hij] at hl
  exact getD_set_true (h i oi hi hl k hk)
theorem z6y {listed : Array Bool} {P : List Nat} {i : Nat} {r : List It} {e e' : Env} {S : Store} (h : SimSt T EV ops listed P (.fl i :: r) e e' S) (hs : zfb T EV ops.toList K (.fl i :: r) e' S) :
 ∃ e1', SimSt T EV ops listed (i :: P) r e e1' S ∧ zfb T EV ops.toList K r e1' S := by
 obtain ⟨o, d, ho, hd, hfl, hown, hssa, huniq, hlater, hok⟩ := zx1 h.ok
 unfold zfb at hs
 rw [Array.getElem?_toList, ho] at hs
 simp only [hd] at hs
 cases hb : (Nat.blt d e'.length && zzu (getE e' d) && flW ops.toList o e') with
 | false => rw [hb] at hs; exact hs.elim
 | true =>
 rw [hb] at hs
 simp only [cond_true] at hs
 rw [Bool.and_eq_true, Bool.and_eq_true] at hb
 obtain ⟨⟨hb1, hb2⟩, hb3⟩ := hb
 have hlt : d < e'.length := by simpa [Nat.blt_eq] using hb1
 have hnb : ∀ cs, getE e' d ≠ .box cs := fun cs hx => by rw [hx] at hb2; cases hb2
 have key : ∃ v, ((zhx ops.toList o e' = some true ∧ Yl T EV o.op d e' S v) ∨ (zhx ops.toList o e' = some false ∧ v = .und)) ∧ (∀ cs, v ≠ .box cs) ∧ zfb T EV ops.toList K r (e'.set d v) S := by
  have spl : ∀ v, (zwd (isGd ops.toList i) d (e'.set d v) fun env => zfb T EV ops.toList K r env S) → zfb T EV ops.toList K r (e'.set d v) S := by
   intro v hv
   unfold zwd at hv
   cases hg : isGd ops.toList i with
   | false => rw [hg] at hv; exact hv
   | true =>
     rw [hg] at hv
     simp only [cond_true] at hv
     split at hv
     ·rename_i b hx
      rw [zc5, if_pos ⟨rfl, hlt⟩] at hx
      subst hx
      unfold CondP at hv
      simp only [zb3, List.set_set] at hv
      cases b
      ·exact hv.2 rfl
      ·exact hv.1 rfl
     ·exact hv
  unfold zfg at hs
  split at hs
  ·rename_i hw
   rw [hd] at hs
   obtain ⟨v, k1, k2, k3⟩ := zug (S := S) hfl (z4c hb3 hw) hs
   exact ⟨v, .inl ⟨hw, k1⟩, k2, spl v k3⟩
  ·rename_i hw
   rw [hd, zdd, putE] at hs
   exact ⟨.und, .inr ⟨hw, rfl⟩, (by intro cs h; cases h), spl _ hs⟩
  ·exact hs.elim
 obtain ⟨v, hy, hvb, hs⟩ := key
 have hgd : getE (e'.set d v) d = v := by rw [zc5, if_pos ⟨rfl, hlt⟩]
 have hi : listed.getD i false = false := h.disj i (by simp [It.i])
 have agi : Ag (d :: dsts ops P) e (e'.set d v) := ⟨by rw [h.ag.len]; simp, fun t ht => by
  simp at ht
  rw [h.ag.out t ht.2, zc5, if_neg (fun x => ht.1 x.1)], fun t ht cs => by
  rw [zc5]
  split
  ·exact hvb cs
  ·rename_i hn
   have : t ∈ dsts ops P := by
    rcases List.mem_cons.1 ht with rfl | h'
    ·exact absurd ⟨rfl, hlt⟩ hn
    ·exact h'
   exact h.ag.nob t this cs⟩
 have hdst : zqq ops.toList i = some d := by rw [zit ho, hd]
 have hiP : i ∉ P := fun hP => by
  obtain ⟨_, _, _, hp⟩ := h.pn i hP
  exact hp.out (by simp [It.i])
 refine ⟨e'.set d v, ⟨h.size, h.dc, h.small, ?_, fun p hp => ?_, List.nodup_cons.2 ⟨hiP, h.nd⟩, fun k hk => ?_, fun k hk => h.disj k (by simp at hk ⊢; exact .inr hk), hok⟩, hs⟩
 ·have : dsts ops (i :: P) = d :: dsts ops P := by simp [dsts, hdst]
  rw [this]; exact agi
 ·rcases List.mem_cons.1 hp with rfl | hp
  ·refine ⟨hi, o, d, ho, hd, hfl, by simpa using hlt, hown, hssa, huniq, fun k hk => (hlater k hk).1, fun hx => (hlater _ hx).2 rfl, fun cs => by rw [hgd]; exact hvb cs, ?_⟩
   have hw : zhx ops.toList o (e'.set d v) = zhx ops.toList o e' := zr3 (D := [d]) ⟨by simp, fun t ht => by rw [zc5, if_neg (fun x => ht (by simp [x.1]))], fun t ht cs => by simp at ht; subst ht; exact hnb cs⟩ fun t ht h1 => by
    simp at h1; subst h1; exact hown (List.mem_append_right _ ht)
   unfold Yd
   rw [hw, hgd]
   refine hy.imp (fun ⟨h1, h2⟩ => ⟨h1, fun D e1 ha hD K hk => ?_⟩) id
   refine h2 (d :: D) e1 ⟨by rw [ha.len]; simp, fun t ht => ?_, fun t ht cs => ?_⟩ (fun t ht h3 => ?_) K hk
   ·simp at ht
    rw [ha.out t ht.2, zc5, if_neg (fun x => ht.1 x.1)]
   ·by_cases h4 : t = d
    ·subst h4; exact hnb cs
    ·have := ha.nob t (by simpa [h4] using ht) cs
     rw [zc5, if_neg (fun x => h4 x.1)] at this; exact this
   ·rcases List.mem_cons.1 h3 with rfl | h3
    ·exact hown (List.mem_append_left _ ht)
    ·exact hD t ht h3
  ·obtain ⟨k1, o', d', k2⟩ := h.pn p hp
   have hpi : p ≠ i := fun e => hiP (e ▸ hp)
   have hne : d ≠ d' := fun e => huniq p hpi (by rw [zit k2.op, k2.dst, e])
   have hnl : d ∉ zj3 ops.toList o' := fun hl => by
    have := hssa p o' k2.op hl
    rw [k2.later i (by simp [It.i])] at this
    cases this
   refine ⟨k1, o', d', k2.op, k2.dst, k2.fl, by simpa using k2.lt, k2.own, k2.ssa, k2.uniq, fun k hk => k2.later k (by simp at hk ⊢; exact .inr hk), fun hx => k2.out (by simp at hx ⊢; exact .inr hx), fun cs => ?_, k2.y.set hnl hne hnb⟩
   rw [zc5, if_neg (fun x => hne x.1.symm)]
   exact k2.nb cs
 ·rcases h.cover k hk with h1 | h1 | h1
  ·exact .inl h1
  ·exact .inr (.inl (List.mem_cons_of_mem _ h1))
  ·simp at h1
   rcases h1 with h1 | h1
   ·subst h1; exact .inr (.inl (by simp))
   ·exact .inr (.inr (by simpa using h1))
theorem sim : ∀ (fuel : Nat) (listed : Array Bool) (items : List It) (P : List Nat) (e e' : Env) (S : Store), SimSt T EV ops listed P items e e' S → P.length + items.length ≤ fuel → zfb T EV ops.toList K items e' S → dAny T EV ops K fuel listed e S := by
 intro fuel
 induction fuel with
 | zero =>
   intro listed items P e e' S h hf hs
   have hi : items = [] := List.eq_nil_of_length_eq_zero (by omega)
   have hp : P = [] := List.eq_nil_of_length_eq_zero (by omega)
   subst hi; subst hp
   refine ⟨?_, ?_⟩
   ·cases hr : Region.ready .any ops listed with
    | nil => rfl
    | cons j js =>
      have hj : j ∈ Region.ready .any ops listed := by rw [hr]; simp
      obtain ⟨h1, o, h2, _⟩ := mem_ready.1 hj
      have hlt := (Array.getElem?_eq_some_iff.1 h2).1
      rcases h.cover j hlt with h3 | h3 | h3
      ·rw [zvv (by rw [h.size]; exact hlt), h3] at h1; cases h1
      ·cases h3
      ·simp at h3
   ·rw [z4f h.ag]; exact hs
 | succ fuel IH =>
   intro listed items
   induction items with
   | nil =>
     intro P e e' S h hf hs
     exact step fuel IH [] (fun i r h => by cases h) listed P e e' S h hf hs
   | cons it r ih =>
     intro P e e' S h hf hs
     cases it with
     | fl i =>
       obtain ⟨e1', h1, h2⟩ := z6y h hs
       exact ih (i :: P) e e1' S h1 (by simp at hf ⊢; omega) h2
     | st j pend => exact step fuel IH (.st j pend :: r) (fun i r h => by cases h) listed P e e' S h hf hs
where
 step (fuel : Nat) (IH : ∀ (listed : Array Bool) (items : List It) (P : List Nat) (e e' : Env) (S : Store), SimSt T EV ops listed P items e e' S → P.length + items.length ≤ fuel → zfb T EV ops.toList K items e' S → dAny T EV ops K fuel listed e S)
  (items : List It) (hn : ∀ i r, items ≠ .fl i :: r) (listed : Array Bool) (P : List Nat) (e e' : Env) (S : Store) (h : SimSt T EV ops listed P items e e' S) (hf : P.length + items.length ≤ fuel + 1) (hs : zfb T EV ops.toList K items e' S) : dAny T EV ops K (fuel + 1) listed e S := by
  refine ⟨fun h0 => ?_, fun j hj => ?_⟩
  ·
   have all : ∀ i, i < ops.size → listed.getD i false = true := fun i hi => by
    cases hl : listed.getD i false with
    | true => rfl
    | false => exact absurd h0 (z3p h.size h.small hi hl)
   have hp : P = [] := by
    cases P with
    | nil => rfl
    | cons i P =>
      obtain ⟨h1, o, d, h2⟩ := h.pn i (by simp)
      rw [all i (Array.getElem?_eq_some_iff.1 h2.op).1] at h1; cases h1
   have hi : items = [] := by
    cases items with
    | nil => rfl
    | cons it r =>
      have h1 := h.disj it.i (by simp)
      have hlt : it.i < ops.size := by
       cases it with
       | fl i => exact absurd rfl (hn i r)
       | st j pend =>
         obtain ⟨o, h2, _⟩ := zpk h.ok
         exact (Array.getElem?_eq_some_iff.1 h2).1
      rw [all _ hlt] at h1; cases h1
   subst hp; subst hi
   rw [z4f h.ag]; exact hs
  ·obtain ⟨hl0, o, ho, hdep⟩ := mem_ready.1 hj
   have hlt := (Array.getElem?_eq_some_iff.1 ho).1
   have hl : listed.getD j false = false := by rw [← zvv (by rw [h.size]; exact hlt)]; exact hl0
   have hdl : ∀ k ∈ zeh o, listed.getD k false = true := fun k hk => by
    obtain ⟨ed, h1, h2, rfl⟩ := z32 hk
    exact hdep ed h1 h2
   have hanc := zp5 h.dc (j + 1) j (by omega) o ho hdl
   rw [ho]
   have hlook : ∀ t ∈ zj3 ops.toList o, t ∉ dsts ops P := fun t ht hD => by
    obtain ⟨i, h1, h2⟩ := ziv.1 hD
    obtain ⟨h3, o', d, h4⟩ := h.pn i h1
    rw [zit h4.op, h4.dst] at h2; cases h2
    have := hanc i (h4.ssa j o ho ht)
    rw [h3] at this; cases this
   have hw : zhx ops.toList o e = zhx ops.toList o e' := zr3 h.ag fun t ht => hlook t (List.mem_append_right _ ht)
   have hdc := h.dc.set ho hdl
   have hsz : (listed.setIfInBounds j true).size = ops.size := by simp [h.size]
   have hself : (listed.setIfInBounds j true).getD j false = true := zow (by rw [h.size]; exact hlt)
   by_cases hjP : j ∈ P
   ·
    obtain ⟨_, o', d, hp⟩ := h.pn j hjP
    have hoo : o' = o := by have := hp.op; rw [ho] at this; cases this; rfl
    subst hoo
    have hnxt : dAny T EV ops K fuel (listed.setIfInBounds j true) (e.set d (getE e' d)) S := by
     refine IH _ items (P.erase j) _ e' S ⟨hsz, hdc, h.small, ⟨by simp [h.ag.len], fun t ht => ?_, fun t ht cs => ?_⟩, fun i hi => ?_, h.nd.erase _, fun i hi => ?_, fun i hi => ?_, h.ok⟩ (by rw [List.length_erase_of_mem hjP]; have := List.length_pos_of_mem hjP; omega) hs
     ·rw [zc5]
      split
      ·rename_i hh; rw [hh.1]
      ·rename_i hh
       refine h.ag.out t fun hD => ht ?_
       obtain ⟨i, h1, h2⟩ := ziv.1 hD
       refine ziv.2 ⟨i, ?_, h2⟩
       refine (List.mem_erase_of_ne fun e => ?_).2 h1
       subst e
       rw [zit hp.op, hp.dst] at h2; cases h2
       exact hh ⟨rfl, by rw [h.ag.len]; exact hp.lt⟩
     ·obtain ⟨i, h1, h2⟩ := ziv.1 ht
      exact h.ag.nob t (ziv.2 ⟨i, List.mem_of_mem_erase h1, h2⟩) cs
     ·have hi' := List.mem_of_mem_erase hi
      have hne : j ≠ i := fun e => by subst e; exact absurd hi (h.nd.not_mem_erase)
      obtain ⟨h1, h2⟩ := h.pn i hi'
      exact ⟨by rw [Go.getD_set_ne false hne]; exact h1, h2⟩
     ·rcases h.cover i hi with h1 | h1 | h1
      ·exact .inl (getD_set_true h1)
      ·by_cases hij : i = j
       ·subst hij; exact .inl hself
       ·exact .inr (.inl ((List.mem_erase_of_ne hij).2 h1))
      ·exact .inr (.inr h1)
     ·have hne : j ≠ i := fun e => by subst e; exact hp.out hi
      rw [Go.getD_set_ne false hne]; exact h.disj i hi
    simp only [zfg, hw]
    rcases hp.y with ⟨h1, h2⟩ | ⟨h1, h2⟩
    ·rw [h1, hp.dst]
     exact h2 _ e h.ag (fun t ht => hlook t (List.mem_append_left _ ht)) _ hnxt
    ·rw [h1, hp.dst]
     simp only [zdd, putE]
     rw [h2] at hnxt
     exact hnxt
   ·
    have hjI : j ∈ items.map It.i := by
     rcases h.cover j hlt with h1 | h1 | h1
     ·rw [hl] at h1; cases h1
     ·exact absurd h1 hjP
     ·exact h1
    cases items with
    | nil => simp at hjI
    | cons it r =>
    cases it with
    | fl i => exact absurd rfl (hn i r)
    | st j0 pend =>
    obtain ⟨o0, h1, h2, h3, h4, h5⟩ := zpk h.ok
    have hjj : j = j0 := by
     simp only [List.map_cons, It.i, List.mem_cons] at hjI
     rcases hjI with h6 | h6
     ·exact h6
     ·have h7 := hanc j0 (h3 j h6).1
      rw [h.disj j0 (by simp [It.i])] at h7; cases h7
    subst hjj
    have hoo : o0 = o := by rw [ho] at h1; cases h1; rfl
    subst hoo
    have hs : zfg T EV ops.toList o0 (fun env' S' => zvj T EV ops.toList env' S' pend (zfb T EV ops.toList K r env' S')) e' S := by
     unfold zfb at hs
     rw [Array.getElem?_toList, ho] at hs
     exact hs
    have hnxt : ∀ e1 e1' S1, Ag (dsts ops P) e1 e1' → zvj T EV ops.toList e1' S1 pend (zfb T EV ops.toList K r e1' S1) → dAny T EV ops K fuel (listed.setIfInBounds j true) e1 S1 := by
     intro e1 e1' S1 ha hp
     obtain ⟨k1, k2⟩ := zp0 hp
     refine IH _ r P e1 e1' S1 ⟨hsz, hdc, h.small, ha, fun i hi => ?_, h.nd, fun i hi => ?_, fun i hi => ?_, h5⟩ (by simp at hf; omega) k1
     ·obtain ⟨m1, oi, d, m2⟩ := h.pn i hi
      have hne : j ≠ i := fun e => by subst e; exact hjP hi
      have hpend : i ∈ pend := by
       rcases h4 i (Array.getElem?_eq_some_iff.1 m2.op).1 with h6 | h6 | h6 | h6
       ·exact absurd h6.symm hne
       ·exact absurd (by simp at h6 ⊢; exact .inr h6) m2.out
       ·exact h6
       ·have := hanc i h6; rw [m1] at this; cases this
      obtain ⟨n1, n2⟩ := k2 i hpend oi d (by rw [Array.getElem?_toList]; exact m2.op) m2.dst
      obtain ⟨n3, n4⟩ := n2 m2.fl
      exact ⟨by rw [Go.getD_set_ne false hne]; exact m1, oi, d, m2.op, m2.dst, m2.fl, n1, m2.own, m2.ssa, m2.uniq, fun k hk => m2.later k (by simp at hk ⊢; exact .inr hk), fun hx => m2.out (by simp at hx ⊢; exact .inr hx), n4, n3⟩
     ·rcases h.cover i hi with h6 | h6 | h6
      ·exact .inl (getD_set_true h6)
      ·exact .inr (.inl h6)
      ·simp only [List.map_cons, It.i, List.mem_cons] at h6
       rcases h6 with h6 | h6
       ·subst h6; exact .inl hself
       ·exact .inr (.inr h6)
     ·have hne : j ≠ i := fun e => (h3 i hi).2 e.symm
      rw [Go.getD_set_ne false hne]; exact h.disj i (by simp at hi ⊢; exact .inr hi)
    have hdD : ∀ d, o0.dst = some d → d ∉ dsts ops P := fun d hd hD => by
     obtain ⟨i, m1, m2⟩ := ziv.1 hD
     obtain ⟨_, oi, di, m3⟩ := h.pn i m1
     rw [zit m3.op, m3.dst] at m2; cases m2
     exact m3.uniq j (fun e => by subst e; exact hjP m1) (by rw [zit ho, hd])
    unfold zfg at hs
    split at hs
    ·rename_i hw1
     simp only [zfg, hw, hw1]
     exact z4t h2 hnxt h.ag (fun t ht => hlook t (List.mem_append_left _ ht)) hdD hs
    ·rename_i hw1
     simp only [zfg, hw, hw1]
     simp only [zdd] at hs ⊢
     refine hnxt _ _ _ ?_ hs
     unfold putE
     cases hd : o0.dst with
     | none => exact h.ag
     | some d => exact h.ag.set d (fun hD => absurd hD (hdD d hd))
    ·exact hs.elim
theorem zvm (items : List It) {e : Env} {S : Store} (hok : zvf ops.toList items = true) (h : zfb T EV ops.toList K items e S) : DrawP T EV ops K e S := by
 unfold DrawP
 unfold zvf at hok
 rw [Bool.and_eq_true, Bool.and_eq_true] at hok
 obtain ⟨⟨h1, h2⟩, h3⟩ := hok
 rw [List.all_eq_true] at h2
 have hlen : items.length = ops.size := by simpa using Nat.eq_of_beq_eq_true h3
 refine sim ops.size _ items [] e e S ⟨by simp, fun i o ho hl => ?_, fun i o ho k hk => ?_, ⟨rfl, fun t ht => rfl, fun t ht => by simp [dsts] at ht⟩, fun i hi => (by cases hi), List.nodup_nil, fun i hi => ?_, fun i hi => ?_, h1⟩ (by simp [hlen]) h
 ·have hlt := (Array.getElem?_eq_some_iff.1 ho).1
  simp [hlt] at hl
 ·have hlt := (Array.getElem?_eq_some_iff.1 ho).1
  have := h2 i (List.mem_range.2 (by simpa using hlt))
  rw [Bool.and_eq_true, Array.getElem?_toList, ho] at this
  have := this.2
  simp only [Option.map_some, Option.getD_some, List.all_eq_true] at this
  simpa [Nat.blt_eq] using this k hk
 ·have := h2 i (List.mem_range.2 (by simpa using hi))
  rw [Bool.and_eq_true] at this
  exact .inr (.inr (by simpa using this.1))
 ·by_cases hlt : i < ops.size <;> simp [hlt]
end
section
variable (T : TT) (EV : Nat → List V → Store → (AV → Store → Prop) → Prop)
def z6c (all : List Oper) (env : Env) (S : Store) (i : Nat) (ih : Prop) : Prop := match all[i]? with
 | some o => match o.dst with
   | some d => bif Nat.blt d env.length && flW all o env then zfg T EV all o (fun env' _ => getE env' d = getE env d) env S ∧ ih else False
   | none => False
 | none => False
noncomputable def pendR (all : List Oper) (env : Env) (S : Store) (l : List Nat) (A : Prop) : Prop := List.rec (motive := fun _ => Prop) A (fun i _ ih => z6c T EV all env S i ih) l
theorem z30 (all : List Oper) (env : Env) (S : Store) (l : List Nat) (A : Prop) : pendR T EV all env S l A = zvj T EV all env S l A := by
 induction l with
 | nil => rfl
 | cons i r ih => show z6c T EV all env S i (pendR T EV all env S r A) = _; rw [ih]; rfl
noncomputable def schedM (all : List Oper) (it : It) (ih : Env → Store → Prop) (env : Env) (S : Store) : Prop := match it with
 | .fl i => match all[i]? with
   | some o => match o.dst with
     | some d => bif Nat.blt d env.length && zzu (getE env d) && flW all o env then zfg T EV all o (fun env' _ => zwd (isGd all i) d env' fun env => ih env S) env S else False
     | none => False
   | none => False
 | .st j pend => match all[j]? with
   | some o => zfg T EV all o (fun env' S' => pendR T EV all env' S' pend (ih env' S')) env S
   | none => False
noncomputable def dSchedR (all : List Oper) (K : Env → Store → Prop) (items : List It) : Env → Store → Prop :=
 List.rec (motive := fun _ => Env → Store → Prop) K (fun it _ ih => schedM T EV all it ih) items
theorem zyi (all : List Oper) (K : Env → Store → Prop) (items : List It) : dSchedR T EV all K items = zfb T EV all K items := by
 induction items with
 | nil => funext env S; rfl
 | cons it r ih =>
   funext env S
   show schedM T EV all it (dSchedR T EV all K r) env S = _
   rw [ih]
   cases it with
   | fl i => rfl
   | st j pend =>
     simp only [schedM, zfb, z30]
     cases all[j]? <;> rfl
def iN : Nat → Nat → List Nat → List It
 | 0, _, _ => []
 | n + 1, i, [] => .fl i :: iN n (i + 1) []
 | n + 1, i, s :: r => bif Nat.beq s i then .st i [] :: iN n (i + 1) r else .fl i :: iN n (i + 1) (s :: r)
variable {T EV} in
theorem zae {ops : Array Oper} {K : Env → Store → Prop} (d0 : Nat) (items : List It) {e : Env} {S : Store} (h0 : (ops.toList.head?).bind (·.dst) = some d0) (hok : zvf ops.toList items = true) (h : dSchedR T EV ops.toList K items e S) : DrawP T EV ops K e S :=
 zvm items hok (by rw [zyi] at h; exact h)
end
end Go.Proofs.YtlmmdpmmdmhacaaGreat
