/- A text of the proof. A text of the proof. -/
import Derived.Test.YtlmmdpmmdmhacaaGreatKt44
import Derived.Test.YtlmmdpmmdmhacaaGreatKt28
namespace Go.Proofs.YtlmmdpmmdmhacaaGreat
open Go Go.ChangeShapes Go.WideShapes Go.ChangeAt Go.RowKit
set_option linter.unusedVariables false
set_option linter.unusedSimpArgs false
theorem zo7 (a b : GRule) : zcw a b = true ↔ (b.Prio < a.Prio ∨ (a.Prio = b.Prio ∧ (a.Action < b.Action ∨ (a.Action = b.Action ∧ (a.Ext < b.Ext ∨ (a.Ext = b.Ext ∧ (a.To.Owner < b.To.Owner ∨ (a.To.Owner = b.To.Owner ∧ a.To.Sub < b.To.Sub)))))))) := by
 unfold zcw
 split
 ·split
  ·split
   ·split
    ·rw [decide_eq_true_eq]; omega
    ·rw [decide_eq_true_eq]; omega
   ·rw [decide_eq_true_eq]; omega
  ·rw [decide_eq_true_eq]; omega
 ·rw [decide_eq_true_eq]; omega
def ruLe (a b : GRule) : Prop := zcw b a = false
theorem zma (a b : GRule) : ruLe a b ↔ (b.Prio < a.Prio ∨ (a.Prio = b.Prio ∧ (a.Action < b.Action ∨ (a.Action = b.Action ∧ (a.Ext < b.Ext ∨ (a.Ext = b.Ext ∧ (a.To.Owner < b.To.Owner ∨ (a.To.Owner = b.To.Owner ∧ a.To.Sub ≤ b.To.Sub)))))))) := by
 unfold ruLe
 rw [Bool.eq_false_iff, Ne, zo7]
 omega
theorem zi0 {a b c : GRule} (h : ruLe a b) (g : ruLe b c) : ruLe a c := by
 rw [zma] at *
 omega
theorem zun {a b : GRule} (h : zcw a b = true) : ruLe a b := by
 rw [zma]; rw [zo7] at h
 omega
theorem zsi (a : GRule) : ruLe a a := by rw [zma]; omega
theorem z1o {a b : GRule} (h : ruLe a b) (g : ruLe b a) : a.Prio = b.Prio ∧ a.Action = b.Action ∧ a.Ext = b.Ext ∧ a.To = b.To := by
 rw [zma] at *
 have : a.Prio = b.Prio ∧ a.Action = b.Action ∧ a.Ext = b.Ext ∧ a.To.Owner = b.To.Owner ∧ a.To.Sub = b.To.Sub := by omega
 refine ⟨this.1, this.2.1, this.2.2.1, ?_⟩
 cases ha : a.To; cases hb : b.To
 rw [ha, hb] at this
 simp only [GSite.mk.injEq]
 exact ⟨this.2.2.2.1, this.2.2.2.2⟩
def zoz (l : List GRule) (j : Nat) : List GRule := (l.set (j + 1) (l.getD j default)).set j (l.getD (j + 1) default)
theorem zt3 (l : List GRule) (j : Nat) : (zoz l j).length = l.length := by unfold zoz; rw [List.length_set, List.length_set]
def sink : List GRule → Nat → List GRule
 | l, 0 => l
 | l, j + 1 => if zcw (l.getD (j + 1) default) (l.getD j default) = true then sink (zoz l j) j else l
theorem zw6 : ∀ (j : Nat) (l : List GRule), (sink l j).length = l.length
 | 0, l => rfl
 | j + 1, l => by
   rw [sink]
   split
   ·rw [zw6 j, zt3]
   ·rfl
def zff (l : List GRule) : Nat → List GRule
 | 0 => l
 | n + 1 => sink (zff l n) n
theorem zk9 (l : List GRule) : ∀ n, (zff l n).length = l.length
 | 0 => rfl
 | n + 1 => by rw [zff, zw6, zk9 l n]
def zl6 (l : List GRule) : List GRule := zff l l.length
theorem z0b (l : List GRule) : (zl6 l).length = l.length := zk9 l _
theorem z2f (ys : List GRule) (y x : GRule) (r : List GRule) : zoz (ys ++ y :: x :: r) ys.length = ys ++ x :: y :: r := by
 unfold zoz
 have h1 : (ys ++ y :: x :: r).getD ys.length default = y := by simp
 have h2 : (ys ++ y :: x :: r).getD (ys.length + 1) default = x := by
  rw [List.getD_eq_getElem?_getD, List.getElem?_append_right (by omega)]
  simp
 rw [h1, h2, List.set_append_right _ _ (by omega), List.set_append_right _ _ (Nat.le_refl _)]
 simp
theorem zsy : ∀ (n : Nat) (xs : List GRule) (x : GRule) (r : List GRule), xs.length = n → ∃ zs : List GRule, sink (xs ++ x :: r) n = zs ++ r ∧ zs.Perm (x :: xs) ∧ (xs.Pairwise ruLe → zs.Pairwise ruLe)
 | 0, xs, x, r, h => by
   obtain rfl := List.length_eq_zero_iff.1 h
   exact ⟨[x], rfl, List.Perm.refl _, fun _ => List.pairwise_singleton _ _⟩
 | n + 1, xs, x, r, h => by
   obtain ⟨ys, y, rfl⟩ : ∃ ys y, xs = ys ++ [y] := by
    rcases List.eq_nil_or_concat xs with h0 | ⟨ys, y, h0⟩
    ·rw [h0] at h; simp at h
    ·exact ⟨ys, y, by rw [h0, List.concat_eq_append]⟩
   have hn : ys.length = n := by simpa using h
   have e : ys ++ [y] ++ x :: r = ys ++ y :: x :: r := by simp
   rw [e, sink]
   have h1 : (ys ++ y :: x :: r).getD n default = y := by subst hn; simp
   have h2 : (ys ++ y :: x :: r).getD (n + 1) default = x := by
    subst hn
    rw [List.getD_eq_getElem?_getD, List.getElem?_append_right (by omega)]
    simp
   rw [h1, h2]
   split
   ·rename_i hb
    have hs : zoz (ys ++ y :: x :: r) n = ys ++ x :: y :: r := by subst hn; exact z2f ys y x r
    rw [hs]
    obtain ⟨zs, k1, k2, k3⟩ := zsy n ys x (y :: r) hn
    refine ⟨zs ++ [y], by rw [k1]; simp, ?_, fun hp => ?_⟩
    ·refine (List.Perm.append_right [y] k2).trans ?_
     simp
    ·rw [List.pairwise_append] at hp
     rw [List.pairwise_append]
     refine ⟨k3 hp.1, List.pairwise_singleton _ _, fun z hz w hw => ?_⟩
     rw [List.mem_singleton] at hw
     subst hw
     rcases List.mem_cons.1 (k2.mem_iff.1 hz) with rfl | hz
     ·exact zun hb
     ·exact hp.2.2 z hz w (by simp)
   ·rename_i hb
    refine ⟨ys ++ [y, x], by simp, ?_, fun hp => ?_⟩
    ·have : (ys ++ [y, x]) = (ys ++ [y]) ++ [x] := by simp
     rw [this]
     exact List.perm_append_singleton x (ys ++ [y])
    ·have hyx : ruLe y x := by unfold ruLe; simpa using hb
     rw [List.pairwise_append] at hp ⊢
     refine ⟨hp.1, by simp [hyx], fun z hz w hw => ?_⟩
     have hzy := hp.2.2 z hz y (by simp)
     simp only [List.mem_cons, List.not_mem_nil, or_false] at hw
     rcases hw with rfl | rfl
     ·exact hzy
     ·exact zi0 hzy hyx
theorem zn7 (l : List GRule) : ∀ n, n ≤ l.length → ∃ zs : List GRule, zff l n = zs ++ l.drop n ∧ zs.Perm (l.take n) ∧ zs.Pairwise ruLe
 | 0, _ => ⟨[], rfl, by simp, List.Pairwise.nil⟩
 | n + 1, h => by
   obtain ⟨zs, h1, h2, h3⟩ := zn7 l n (by omega)
   have hl : zs.length = n := by rw [h2.length_eq, List.length_take]; omega
   rw [zff, h1, List.drop_eq_getElem_cons (by omega)]
   obtain ⟨ws, k1, k2, k3⟩ := zsy n zs l[n] (l.drop (n + 1)) hl
   refine ⟨ws, k1, k2.trans ?_, k3 h3⟩
   rw [List.take_succ_eq_append_getElem (by omega)]
   exact (List.Perm.cons _ h2).trans (List.perm_append_singleton _ _).symm
theorem zpf (l : List GRule) : (zl6 l).Perm l ∧ (zl6 l).Pairwise ruLe := by
 obtain ⟨zs, h1, h2, h3⟩ := zn7 l l.length (Nat.le_refl _)
 have e : zl6 l = zs := by unfold zl6; rw [h1, List.drop_length, List.append_nil]
 rw [e]
 rw [List.take_length] at h2
 exact ⟨h2, h3⟩
def zav (l : List GRule) : List GRule := zl6 (l.filter zbt)
def zif (q : GRequest) : List GRule → Nat → Int
 | [], _ => -1
 | r :: l, i => if zbd r q = true then (i : Int) else zif q l (i + 1)
def zcx (l : List GRule) (q : GRequest) : Int := zif q l 0
theorem zlo (q : GRequest) : ∀ (l : List GRule) (i : Nat), (zif q l i = -1 ∧ ∀ r ∈ l, zbd r q = false) ∨ ∃ j : Nat, ∃ hj : j < l.length, zif q l i = ((i + j : Nat) : Int) ∧ zbd (l[j]'hj) q = true ∧ (l.Pairwise ruLe → ∀ r ∈ l, zbd r q = true → ruLe (l[j]'hj) r)
 | [], i => .inl ⟨rfl, fun r hr => by cases hr⟩
 | r :: l, i => by
   rw [zif]
   by_cases ha : zbd r q = true
   ·rw [if_pos ha]
    refine .inr ⟨0, by simp, rfl, ha, fun hp x hx _ => ?_⟩
    rcases List.mem_cons.1 hx with rfl | hx
    ·exact zsi _
    ·exact (List.pairwise_cons.1 hp).1 x hx
   ·rw [if_neg ha]
    rcases zlo q l (i + 1) with ⟨h1, h2⟩ | ⟨j, hj, h1, h2, h3⟩
    ·refine .inl ⟨h1, fun x hx => ?_⟩
     rcases List.mem_cons.1 hx with rfl | hx
     ·simpa using ha
     ·exact h2 x hx
    ·refine .inr ⟨j + 1, by simpa using hj, by rw [h1]; congr 1; omega, h2, fun hp x hx hxa => ?_⟩
     rcases List.mem_cons.1 hx with rfl | hx
     ·exact absurd hxa ha
     ·exact h3 (List.pairwise_cons.1 hp).2 x hx hxa
theorem zik (l : List GRule) (q : GRequest) : (zcx l q = -1 ∧ ∀ r ∈ l, zbd r q = false) ∨ ∃ j : Nat, ∃ hj : j < l.length, zcx l q = (j : Int) ∧ zbd (l[j]'hj) q = true ∧ (l.Pairwise ruLe → ∀ r ∈ l, zbd r q = true → ruLe (l[j]'hj) r) := by
 have := zlo q l 0
 simpa [zcx] using this
theorem zm8 (l : List GRule) (q : GRequest) : ∀ n k, k < n → zbd (l.getD k default) q = true → 0 ≤ zf1 l q n ∧ ruLe (l.getD (zf1 l q n).toNat default) (l.getD k default)
 | 0, k, h, _ => by omega
 | n + 1, k, h, ha => by
   rw [zf1]
   by_cases hc : (zbd (l.getD n default) q && (decide (zf1 l q n < 0) || zcw (l.getD n default) (l.getD (zf1 l q n).toNat default))) = true
   ·rw [if_pos hc]
    refine ⟨by omega, ?_⟩
    rw [Int.toNat_natCast]
    rw [Bool.and_eq_true, Bool.or_eq_true, decide_eq_true_eq] at hc
    rcases Nat.lt_or_ge k n with hk | hk
    ·have ih := zm8 l q n k hk ha
     rcases hc.2 with h1 | h1
     ·omega
     ·exact zi0 (zun h1) ih.2
    ·have : k = n := by omega
     subst this; exact zsi _
   ·rw [if_neg hc]
    rcases Nat.lt_or_ge k n with hk | hk
    ·exact zm8 l q n k hk ha
    ·have : k = n := by omega
     subst this
     rw [ha, Bool.true_and, Bool.or_eq_true, decide_eq_true_eq, not_or] at hc
     refine ⟨by omega, ?_⟩
     unfold ruLe
     simpa using hc.2
theorem zvc (l : List GRule) (q : GRequest) : (zbj l q < 0 ∧ ∀ r ∈ l, zbd r q = false) ∨ ∃ h : 0 ≤ zbj l q ∧ (zbj l q).toNat < l.length, zbd (l[(zbj l q).toNat]'h.2) q = true ∧ ∀ r ∈ l, zbd r q = true → ruLe (l[(zbj l q).toNat]'h.2) r := by
 have hl := zq3 l q l.length
 have hm := zm8 l q l.length
 by_cases h0 : 0 ≤ zbj l q
 ·right
  have h1 : (zbj l q).toNat < l.length := by unfold zbj at h0 ⊢; omega
  have ge : ∀ (k : Nat) (hk : k < l.length), l.getD k default = l[k] := fun k hk => by simp [hk]
  have ha := zr9 l q l.length h0
  refine ⟨⟨h0, h1⟩, ?_, fun r hr hra => ?_⟩
  ·rw [← ge _ h1]; exact ha
  ·obtain ⟨k, hk, rfl⟩ := List.getElem_of_mem hr
   have := (hm k hk (by rw [ge k hk]; exact hra)).2
   rw [ge k hk] at this
   rw [← ge _ h1]; exact this
 ·left
  refine ⟨by omega, fun r hr => ?_⟩
  obtain ⟨k, hk, rfl⟩ := List.getElem_of_mem hr
  cases ha : zbd l[k] q with
  | false => rfl
  | true => exact absurd (hm k hk (by simp [hk, ha])).1 h0
def zge (any bk : List GRule) (q : GRequest) : Option GRule :=
 if 0 ≤ zcx bk q ∧ (zcx any q < 0 ∨ zcw (bk.getD (zcx bk q).toNat default) (any.getD (zcx any q).toNat default) = true) then some (bk.getD (zcx bk q).toNat default)
 else if zcx any q < 0 then none else some (any.getD (zcx any q).toNat default)
def zbf (o : Int) (l : List GRule) : List GRule := l.filter fun r => decide (r.Pattern.Owner = o)
theorem zq7 {l : List GRule} {r : GRule} : r ∈ zav l ↔ r ∈ l ∧ zbt r = true := by
 unfold zav
 rw [(zpf _).1.mem_iff, List.mem_filter]
theorem ztl {r : GRule} {q : GRequest} (h : zbd r q = true) : zbt r = true ∧ (r.Pattern.Owner = 0 ∨ r.Pattern.Owner = q.Site.Owner) := by
 unfold zbd ze8 at h
 simp only [Bool.and_eq_true, Bool.or_eq_true, decide_eq_true_eq] at h
 exact ⟨h.1.1.1, h.1.2.1.2⟩
theorem zgr {l : List GRule} {k : Nat} (h : k < l.length) : l.getD k default = l[k] := by simp [h]
theorem z2c (l : List GRule) (q : GRequest) : (zge (zbf 0 (zav l)) (zbf q.Site.Owner (zav l)) q = none ∧ ∀ r ∈ l, zbd r q = false) ∨ ∃ x, zge (zbf 0 (zav l)) (zbf q.Site.Owner (zav l)) q = some x ∧ (x ∈ l ∧ zbd x q = true) ∧ ∀ r ∈ l, zbd r q = true → ruLe x r := by
 have hp := (zpf (l.filter zbt)).2
 have hp0 : (zbf 0 (zav l)).Pairwise ruLe := hp.filter _
 have hp1 : (zbf q.Site.Owner (zav l)).Pairwise ruLe := hp.filter _
 have m0 : ∀ o r, r ∈ zbf o (zav l) → r ∈ l := fun o r h => (zq7.1 (List.mem_filter.1 h).1).1
 have m1 : ∀ r ∈ l, zbd r q = true → r ∈ zbf 0 (zav l) ∨ r ∈ zbf q.Site.Owner (zav l) := fun r hr ha => by
  obtain ⟨h1, h2⟩ := ztl ha
  have hs := zq7.2 ⟨hr, h1⟩
  rcases h2 with h2 | h2
  ·exact .inl (List.mem_filter.2 ⟨hs, decide_eq_true h2⟩)
  ·exact .inr (List.mem_filter.2 ⟨hs, decide_eq_true h2⟩)
 unfold zge
 rcases zik (zbf q.Site.Owner (zav l)) q with ⟨b1, b2⟩ | ⟨j, hj, b1, b2, b3⟩ <;> rcases zik (zbf 0 (zav l)) q with ⟨a1, a2⟩ | ⟨i, hi, a1, a2, a3⟩
 ·left
  rw [if_neg (by rw [b1]; omega), if_pos (by rw [a1]; omega)]
  refine ⟨rfl, fun r hr => ?_⟩
  cases ha : zbd r q with
  | false => rfl
  | true =>
    rcases m1 r hr ha with h | h
    ·rw [a2 r h] at ha; cases ha
    ·rw [b2 r h] at ha; cases ha
 ·right
  rw [if_neg (by rw [b1]; omega), if_neg (by rw [a1]; omega), a1, Int.toNat_natCast, zgr hi]
  refine ⟨_, rfl, ⟨m0 _ _ (List.getElem_mem hi), a2⟩, fun r hr ha => ?_⟩
  rcases m1 r hr ha with h | h
  ·exact a3 hp0 r h ha
  ·rw [b2 r h] at ha; cases ha
 ·right
  rw [if_pos ⟨by rw [b1]; omega, .inl (by rw [a1]; omega)⟩, b1, Int.toNat_natCast, zgr hj]
  refine ⟨_, rfl, ⟨m0 _ _ (List.getElem_mem hj), b2⟩, fun r hr ha => ?_⟩
  rcases m1 r hr ha with h | h
  ·rw [a2 r h] at ha; cases ha
  ·exact b3 hp1 r h ha
 ·right
  rw [a1, b1, Int.toNat_natCast, Int.toNat_natCast, zgr hj, zgr hi]
  by_cases hb : zcw (zbf q.Site.Owner (zav l))[j] (zbf 0 (zav l))[i] = true
  ·rw [if_pos ⟨by omega, .inr hb⟩]
   refine ⟨_, rfl, ⟨m0 _ _ (List.getElem_mem hj), b2⟩, fun r hr ha => ?_⟩
   rcases m1 r hr ha with h | h
   ·exact zi0 (zun hb) (a3 hp0 r h ha)
   ·exact b3 hp1 r h ha
  ·rw [if_neg (fun h => h.2.elim (fun h => by omega) hb), if_neg (by omega)]
   refine ⟨_, rfl, ⟨m0 _ _ (List.getElem_mem hi), a2⟩, fun r hr ha => ?_⟩
   rcases m1 r hr ha with h | h
   ·exact a3 hp0 r h ha
   ·exact zi0 (by unfold ruLe; simpa using hb) (b3 hp1 r h ha)
theorem zvb (l : List GRule) (q : GRequest) : (zge (zbf 0 (zav l)) (zbf q.Site.Owner (zav l)) q = none ∧ zbj l q < 0) ∨ ∃ x, zge (zbf 0 (zav l)) (zbf q.Site.Owner (zav l)) q = some x ∧ ∃ h : 0 ≤ zbj l q ∧ (zbj l q).toNat < l.length, x.Prio = (l[(zbj l q).toNat]'h.2).Prio ∧ x.Action = (l[(zbj l q).toNat]'h.2).Action ∧ x.Ext = (l[(zbj l q).toNat]'h.2).Ext ∧ x.To = (l[(zbj l q).toNat]'h.2).To := by
 rcases z2c l q with ⟨f1, f2⟩ | ⟨x, f1, ⟨f2, f3⟩, f4⟩ <;> rcases zvc l q with ⟨d1, d2⟩ | ⟨d0, d1, d2⟩
 ·exact .inl ⟨f1, d1⟩
 ·have := f2 _ (List.getElem_mem d0.2)
  rw [d1] at this; cases this
 ·have := d2 x f2
  rw [f3] at this; cases this
 ·exact .inr ⟨x, f1, d0, z1o (f4 _ (List.getElem_mem d0.2) d1) (d2 x f2 f3)⟩
end Go.Proofs.YtlmmdpmmdmhacaaGreat
namespace Go.Proofs.YtlmmdpmmdmhacaaGreat
open Go Go.ChangeShapes Go.WideShapes Go.ChangeAt Go.RowKit
set_option linter.unusedVariables false
set_option linter.unusedSimpArgs false
set_option maxRecDepth 100000
theorem z3r {l : List GRule} {i : Int} (h : 0 ≤ i ∧ i.toNat < l.length) : (l.map GRule.d)[i.toNat]? = some ([] ++ (l[i.toNat]'h.2).d ++ []) := by simp [h.2]
theorem z5d {lo : Nat} {S : Store} (x : GRule) : Fr lo S x.d x.c := fr_x (fr_x (fr_x (fr_x (fr_x (fr_x (fr_x (fr_x zc2)))))))
theorem zxg {S0 S : Store} {l : List GRule} {c : C} {i : Int} (x : GRule) {K : Store → Prop} (hE : Ext S0 S) (hF : Fr S0.length S [.sl 8 (l.map GRule.d)] [c]) (h : 0 ≤ i ∧ i.toNat < l.length)
 (hK : ∀ S', Ext S0 S' → Fr S0.length S' [.sl 8 ((l.set i.toNat x).map GRule.d)] [c] → K S') : StoP S c i 0 x.c K := by
 refine z1y (A := []) (B := (l[i.toNat]'h.2).d) (B' := x.d) (Z := []) hE hF (Ext.refl S) (z5d x) hE.len ⟨h.1, by rw [List.length_map]; exact h.2⟩ (z3r h) rfl rfl rfl fun S' e1 f1 _ => hK S' e1 ?_
 rw [List.map_set]
 simpa using f1
set_option maxHeartbeats 4000000 in
theorem zyp (S0 : Store) (l : List GRule) (c : C) (S : Store) (hE : Ext S0 S) (hF : Fr S0.length S [.sl 8 (l.map GRule.d)] [c]) (hz : l.length ≤ 4194304) : EvA Tryz.prog 328 [.s c, .s (.int .i64 0), .s (.int .i64 (l.length : Nat)), .s (.fn 210)] S (fun r S' => r = .tup [] ∧ Ext S0 S' ∧ Fr S0.length S' [.sl 8 ((zl6 l).map GRule.d)] [c]) := by
 refine zac tok Tryz.func328 (by kernel_rfl) rfl ?_
 repeat' ((conv => whnf) <;> first
  | rw [zad (by omega)])
 refine zag {p : Nat × Store // 1 ≤ p.1 ∧ (p.1 ≤ l.length ∨ p.1 = 1) ∧ Ext S0 p.2 ∧ Fr S0.length p.2 [.sl 8 ((zff l p.1).map GRule.d)] [c]} [8, 9, 12, 13, 14, 15, 16, 17, 18, 19, 20, 21, 22, 23, 24, 25, 26, 27, 28, 29, 30, 31, 32, 33, 34, 35, 36, 37, 38, 39, 40, 41, 42, 43, 44, 45, 46, 47, 48, 49, 50, 51, 52] (fun zb => [(8, .v (.s (.int .i64 (zb.1.1 : Nat))))]) (fun zb => zb.1.2) (fun zb => l.length + 1 - zb.1.1) ⟨(1, S), Nat.le_refl 1, .inr rfl, hE, hF⟩ okL rfl ?_
 rintro ⟨⟨i, Si⟩, hi1, hi2, hEi, hFi⟩; dsimp only
 replace hi1 : 1 ≤ i := hi1
 replace hi2 : i ≤ l.length ∨ i = 1 := hi2
 replace hEi : Ext S0 Si := hEi
 replace hFi : Fr S0.length Si [.sl 8 ((zff l i).map GRule.d)] [c] := hFi
 have hil := zk9 l i
 by_cases hlt : i < l.length
 ·repeat' ((conv => whnf) <;> first
   | (show CondP _ _ _; refine cS ?_))
  all_goals try (exfalso; omega)
  refine zag {p : Nat × Store × List GRule // p.1 ≤ i ∧ p.2.2.length = l.length ∧ sink p.2.2 p.1 = sink (zff l i) i ∧ Ext S0 p.2.1 ∧ Fr S0.length p.2.1 [.sl 8 (p.2.2.map GRule.d)] [c]} [9, 18, 19, 20, 21, 22, 23, 24, 25, 26, 27, 28, 29, 30, 31, 32, 33, 34, 35, 36, 37, 38, 39, 40, 41, 42, 43, 44, 45, 46, 47, 48, 49, 50, 51, 52] (fun zb => [(9, .v (.s (.int .i64 (zb.1.1 : Nat))))]) (fun zb => zb.1.2.1) (fun zb => zb.1.1) ⟨(i, Si, zff l i), Nat.le_refl _, hil, rfl, hEi, hFi⟩ okL rfl ?_
  rintro ⟨⟨j, Sj, m⟩, hj, hml, hms, hEj, hFj⟩; dsimp only
  replace hj : j ≤ i := hj
  replace hml : m.length = l.length := hml
  replace hms : sink m j = sink (zff l i) i := hms
  replace hEj : Ext S0 Sj := hEj
  replace hFj : Fr S0.length Sj [.sl 8 (m.map GRule.d)] [c] := hFj
  have hR := hFj.rd
  cases j with
  | zero =>
    repeat' ((conv => whnf) <;> first
     | rw [zad (by omega)] | (show CondP _ _ _; refine cS ?_) | refine cF ?_ | refine zae 18 (iN 17 0 [14]) (by rfl) (by kernel_rfl) ?_)
    all_goals first
     | (exfalso; omega)
     | (refine ⟨⟨(i + 1, Sj), by dsimp only; omega, by dsimp only; omega, hEj, ?_⟩, ?_, rfl, by dsimp only; omega⟩
        ·show Fr S0.length Sj [.sl 8 ((zff l (i + 1)).map GRule.d)] [c]
         rw [zff, ← hms]; exact hFj
        ·(conv => whnf); repeat' (first | exact trivial | exact rfl | (show _ = _; congr 3; dsimp only; omega) | apply And.intro))
  | succ j =>
    have ha : 0 ≤ ((j + 1 : Nat) : Int) ∧ ((j + 1 : Nat) : Int).toNat < m.length := by omega
    have hb : 0 ≤ ((j + 1 : Nat) : Int) - 1 ∧ (((j + 1 : Nat) : Int) - 1).toNat < m.length := by omega
    have ea : (((j + 1 : Nat) : Int)).toNat = j + 1 := by omega
    have eb : (((j + 1 : Nat) : Int) - 1).toNat = j := by omega
    have kc := zh0 (m[((j + 1 : Nat) : Int).toNat]'ha.2) (m[(((j + 1 : Nat) : Int) - 1).toNat]'hb.2) Sj
    have hbf := zpo (m[((j + 1 : Nat) : Int).toNat]'ha.2) (m[(((j + 1 : Nat) : Int) - 1).toNat]'hb.2)
    have ga : m.getD (j + 1) default = m[((j + 1 : Nat) : Int).toNat]'ha.2 := by simp only [ea]; exact zgr (by omega)
    have gb : m.getD j default = m[(((j + 1 : Nat) : Int) - 1).toNat]'hb.2 := by simp only [eb]; exact zgr (by omega)
    by_cases hbe : orGo (cmpR (m[((j + 1 : Nat) : Int).toNat]'ha.2) (m[(((j + 1 : Nat) : Int) - 1).toNat]'hb.2)) < 0
    ·have hbt : zcw (m.getD (j + 1) default) (m.getD j default) = true := by rw [ga, gb, ← hbf]; exact decide_eq_true hbe
     have hs : sink m (j + 1) = sink (zoz m j) j := by rw [sink, if_pos hbt]
     rw [hs] at hms
     have hsw : zoz m j = (m.set (((j + 1 : Nat) : Int)).toNat (m[(((j + 1 : Nat) : Int) - 1).toNat]'hb.2)).set (((j + 1 : Nat) : Int) - 1).toNat (m[((j + 1 : Nat) : Int).toNat]'ha.2) := by
      unfold zoz; rw [ga, gb]; simp only [ea, eb]
     repeat' ((conv => whnf) <;> first
      | (refine zxg _ hEX hFX (by rw [List.length_set]; exact hb) ?_; intro SY hEY hFY) | (refine zxg _ hEj hFj ha ?_; intro SX hEX hFX) | (refine zaa kc ?_) | rw [zad (by omega)] | (show CondP _ _ _; refine cS ?_) | refine rI aN rf ix ?_ | refine zaf aN tv ix ?_ | refine zae 18 (iN 17 0 [14]) (by rfl) (by kernel_rfl) ?_ | refine zae 37 [.fl 0, .fl 1, .fl 2, .fl 3, .fl 4, .fl 5, .fl 6, .fl 7, .fl 8, .fl 9, .fl 10, .fl 11, .fl 12, .fl 13, .fl 14, .st 15 [2, 3, 4], .fl 16, .st 17 []] (by rfl) (by kernel_rfl) ?_ | (refine rI hFX.rd rf (by rw [List.length_set]; exact hb) ?_) | refine And.intro ?_ ?_)
     all_goals first
      | (exfalso; omega)
      | (refine ⟨⟨(j, SY, zoz m j), by dsimp only; omega, by dsimp only; rw [zt3]; exact hml, hms, hEY, by dsimp only; rw [hsw]; exact hFY⟩, ?_, rfl, by dsimp only; omega⟩; (conv => whnf); repeat' (first | exact trivial | exact rfl | (show _ = _; congr 3; dsimp only; omega) | apply And.intro))
    ·have hbt : ¬ zcw (m.getD (j + 1) default) (m.getD j default) = true := by rw [ga, gb, ← hbf]; simpa using hbe
     have hs : sink m (j + 1) = m := by rw [sink, if_neg hbt]
     rw [hs] at hms
     repeat' ((conv => whnf) <;> first
      | (refine zaa kc ?_) | rw [zad (by omega)] | (show CondP _ _ _; refine cS ?_) | refine rI aN rf ix ?_ | refine zaf aN tv ix ?_ | refine zae 18 (iN 17 0 [14]) (by rfl) (by kernel_rfl) ?_)
     all_goals first
      | (exfalso; omega)
      | (refine ⟨⟨(i + 1, Sj), by dsimp only; omega, by dsimp only; omega, hEj, ?_⟩, ?_, rfl, by dsimp only; omega⟩
         ·show Fr S0.length Sj [.sl 8 ((zff l (i + 1)).map GRule.d)] [c]
          rw [zff, ← hms]; exact hFj
         ·(conv => whnf); repeat' (first | exact trivial | exact rfl | (show _ = _; congr 3; dsimp only; omega) | apply And.intro))
 have hdone : zff l i = zl6 l := by
  unfold zl6
  rcases Nat.lt_or_ge l.length i with h | h
  ·have e0 : l.length = 0 := by omega
   have e1 : i = 1 := by omega
   rw [e0, e1]; rfl
  ·have e2 : i = l.length := by omega
   rw [e2]
 rw [hdone] at hFi
 repeat' ((conv => whnf) <;> first
  | (show CondP _ _ _; refine cS ?_) | refine And.intro ?_ ?_)
 all_goals first
  | (exfalso; omega)
  | rfl
  | exact hEi
  | exact hFi
  | exact ⟨rfl, hEi, hFi⟩
theorem zzf (c : C) (S : Store) : EvA Tryz.prog 328 [.s c, .s (.int .i64 20), .s (.int .i64 20), .s (.fn 210)] S (fun r S' => r = .tup [] ∧ S' = S) := by
 refine zac tok Tryz.func328 (by kernel_rfl) rfl ?_
 repeat' ((conv => whnf) <;> first
  | rw [zad (by omega)])
 refine zag {u : Nat // True} [8, 9, 12, 13, 14, 15, 16, 17, 18, 19, 20, 21, 22, 23, 24, 25, 26, 27, 28, 29, 30, 31, 32, 33, 34, 35, 36, 37, 38, 39, 40, 41, 42, 43, 44, 45, 46, 47, 48, 49, 50, 51, 52] (fun _ => [(8, .v (.s (.int .i64 21)))]) (fun _ => S) (fun _ => 0) ⟨0, trivial⟩ okL rfl ?_
 rintro ⟨u, _⟩; dsimp only
 repeat' ((conv => whnf) <;> first
  | (show CondP _ _ _; refine cS ?_) | refine And.intro ?_ ?_)
 all_goals first
  | rfl
  | (exfalso; omega)
set_option maxHeartbeats 2000000 in
theorem z0i (S0 : Store) (l : List GRule) (c : C) (S : Store) (hE : Ext S0 S) (hF : Fr S0.length S [.sl 8 (l.map GRule.d)] [c]) (hz : l.length ≤ 20) : EvA Tryz.prog 269 [.s c, .s (.int .i64 (l.length : Nat)), .s (.fn 210)] S (fun r S' => r = .tup [] ∧ Ext S0 S' ∧ Fr S0.length S' [.sl 8 ((zl6 l).map GRule.d)] [c]) := by
 refine zac tok Tryz.func269 (by kernel_rfl) rfl ?_
 skip
 refine zag {q : Int × Int × Store // (q.1 = 0 ∧ q.2.1 = 20 ∧ Ext S0 q.2.2 ∧ Fr S0.length q.2.2 [.sl 8 (l.map GRule.d)] [c]) ∨ (q.1 = 20 ∧ q.2.1 = 40 ∧ l.length = 20 ∧ Ext S0 q.2.2 ∧ Fr S0.length q.2.2 [.sl 8 ((zl6 l).map GRule.d)] [c])} [7, 8, 11, 12, 13, 14, 15, 16, 17, 18, 19, 20, 21, 22] (fun zb => [(7, .v (.s (.int .i64 zb.1.1))), (8, .v (.s (.int .i64 zb.1.2.1)))]) (fun zb => zb.1.2.2) (fun zb => (40 - zb.1.2.1).toNat) ⟨(0, 20, S), .inl ⟨rfl, rfl, hE, hF⟩⟩ okL rfl ?_
 rintro ⟨⟨a, b, Si⟩, hq⟩; dsimp only
 dsimp only at hq
 rcases hq with ⟨rfl, rfl, hEi, hFi⟩ | ⟨rfl, rfl, h20, hEi, hFi⟩
 ·have ks := zyp S0 l c Si hEi hFi (by omega)
  by_cases h20 : l.length = 20
  ·rw [show ((l.length : Nat) : Int) = 20 from by omega] at ks
   repeat' ((conv => whnf) <;> first
    | (show CondP _ _ _; refine cS ?_))
   all_goals try (exfalso; omega)
   (conv => whnf)
   refine zab ks ?_; rintro _ S2 ⟨rfl, e2, f2⟩
   repeat' ((conv => whnf) <;> first
    | rw [zad (by omega)])
   all_goals first
    | (exfalso; omega)
    | (refine ⟨⟨(20, 40, S2), .inr ⟨rfl, rfl, h20, e2, f2⟩⟩, ?_, rfl, by dsimp only; omega⟩; (conv => whnf); repeat' (first | exact trivial | exact rfl | apply And.intro))
  ·repeat' ((conv => whnf) <;> first
    | (show CondP _ _ _; refine cS ?_))
   all_goals try (exfalso; omega)
   (conv => whnf)
   refine zab ks ?_; rintro _ S2 ⟨rfl, e2, f2⟩
   skip
   refine zag {u : Nat // True} [6, 7, 8, 9, 28, 29, 30, 31, 32, 33, 34, 35, 36, 37, 38, 39, 40, 41, 42, 43, 44, 45, 46, 47, 48, 49, 50, 51, 52, 53, 54, 55, 56, 57, 58, 59, 60, 61, 62] (fun _ => [(6, .v (.s (.int .i64 20)))]) (fun _ => S2) (fun _ => 0) ⟨0, trivial⟩ okL rfl ?_
   rintro ⟨u, _⟩; dsimp only
   repeat' ((conv => whnf) <;> first
    | (show CondP _ _ _; refine cS ?_) | refine And.intro ?_ ?_)
   all_goals first
    | (exfalso; omega)
    | rfl
    | exact e2
    | exact f2
    | exact ⟨rfl, e2, f2⟩
 ·have ks := zzf c Si
  repeat' ((conv => whnf) <;> first
   | (show CondP _ _ _; refine cS ?_))
  all_goals try (exfalso; omega)
  (conv => whnf)
  rw [show ((l.length : Nat) : Int) = 20 from by omega]
  refine zab ks ?_; rintro _ Sx ⟨rfl, hs⟩; replace hs := hs.symm; subst hs
  skip
  refine zag {u : Nat // True} [6, 7, 8, 9, 28, 29, 30, 31, 32, 33, 34, 35, 36, 37, 38, 39, 40, 41, 42, 43, 44, 45, 46, 47, 48, 49, 50, 51, 52, 53, 54, 55, 56, 57, 58, 59, 60, 61, 62] (fun _ => [(6, .v (.s (.int .i64 20)))]) (fun _ => Si) (fun _ => 0) ⟨0, trivial⟩ okL rfl ?_
  rintro ⟨u, _⟩; dsimp only
  repeat' ((conv => whnf) <;> first
   | (show CondP _ _ _; refine cS ?_) | refine And.intro ?_ ?_)
  all_goals first
   | (exfalso; omega)
   | rfl
   | exact hEi
   | exact hFi
   | exact ⟨rfl, hEi, hFi⟩
theorem zqv (S0 : Store) (l : List GRule) (c : C) (S : Store) (hE : Ext S0 S) (hF : Fr S0.length S [.sl 8 (l.map GRule.d)] [c]) (hz : l.length ≤ 20) : EvA Tryz.prog 209 [.s c, .s (.fn 210)] S (fun r S' => r = .tup [] ∧ Ext S0 S' ∧ Fr S0.length S' [.sl 8 ((zl6 l).map GRule.d)] [c]) := by
 have hR := hF.rd
 refine zac tok Tryz.func209 (by kernel_rfl) rfl ?_
 repeat' ((conv => whnf) <;> first
  | (refine zab (z0i S0 l c S hE hF hz) ?_; rintro _ S2 ⟨rfl, e2, f2⟩) | (refine zdp hR ?_; intro hml) | refine And.intro ?_ ?_)
 all_goals first
  | rfl
  | exact e2
  | exact f2
  | exact ⟨rfl, e2, f2⟩
theorem zra (l : List GRule) (c : C) (S : Store) (h : Rd S [.sl 8 (l.map GRule.d)] [c]) (hz : l.length ≤ 20) : EvA Tryz.prog 130 [.s c] S (fun r S' => Ext S S' ∧ ∃ c', r = .v (.s c') ∧ Fr S.length S' [.sl 8 ((zav l).map GRule.d)] [c']) := by
 have hfl := List.length_filter_le zbt l
 refine zac tok Tryz.func130 (by kernel_rfl) rfl ?_
 repeat' ((conv => whnf) <;> first
  | refine rE fun hml => ?_)
 refine zag {p : Nat × Store × C // p.1 ≤ l.length ∧ Ext S p.2.1 ∧ Fr S.length p.2.1 [.sl 8 (((l.take p.1).filter (zbt)).map GRule.d)] [p.2.2]} [3, 5, 9, 10, 11, 12, 13, 14, 15, 16, 17, 18, 19] (fun zb => [(9, .v (.s (.int .i64 zb.1.1))), (3, .v (.s zb.1.2.2))]) (fun zb => zb.1.2.1) (fun zb => l.length - zb.1.1) ⟨(0, _, _), Nat.zero_le _, Ext.push _ _, zba⟩ okL rfl ?_
 rintro ⟨⟨i, Si, ci⟩, hi, hE, hF⟩; dsimp only
 replace hi : i ≤ l.length := hi
 replace hE : Ext S Si := hE
 replace hF : Fr S.length Si [.sl 8 (((l.take i).filter (zbt)).map GRule.d)] [ci] := hF
 have hfl := zb9 (zbt) l i
 repeat' ((conv => whnf) <;> first
  | rw [zad (by omega)] | refine cD (fun _ => ?_) fun _ => ?_ | refine cI (fun _ => ?_) fun _ => ?_ | refine zaa (zez _ _) ?_ | refine rI rdA rf ix ?_ | refine zaf rdA tv ix ?_ | (refine zdc (f := GRule.d) aN aN tv (by rfl) rf (by dsimp only [T108]; omega) om ?_; intro cN SN hEN hFN) | (rw [List.take_of_length_le (by omega)] at hF; refine zab (zqv S _ _ _ hE hF (by omega)) ?_; rintro _ SN ⟨rfl, hEN, hFN⟩) | refine And.intro ?_ ?_)
 all_goals first
  | exact hEN
  | exact ⟨_, rfl, hFN⟩
  | (refine ⟨⟨(i + 1, _, _), by dsimp only; omega, by assumption, by first | (rw [zcz (by omega) (by simp_all)]; assumption) | (rw [zc0 (by omega) (by simp_all)]; assumption)⟩, ?_, rfl, by dsimp only; omega⟩; (conv => whnf); repeat' (first | exact trivial | exact rfl | apply And.intro))
end Go.Proofs.YtlmmdpmmdmhacaaGreat
