/- A text of the proof. A text of the proof. A text of the proof. A text of the proof. A text of the proof. A text of the proof. -/
import Derived.Test.YtlmmdpmmdmhacaaGreatKt42
import Derived.Test.YtlmmdpmmdmhacaaGreatKt24
import Derived.Test.YtlmmdpmmdmhacaaGreatKt23
import Derived.Test.YtlmmdpmmdmhacaaGreatKt22
import Derived.Test.YtlmmdpmmdmhacaaGreatKt30
import Derived.Test.YtlmmdpmmdmhacaaGreatKt35
namespace Go.Proofs.YtlmmdpmmdmhacaaGreat
open Go Go.ChangeShapes Go.WideShapes Go.ChangeAt Go.RowKit
set_option linter.unusedVariables false
set_option linter.unusedSimpArgs false
set_option maxRecDepth 100000
theorem Fr.pushMv {lo k : Nat} {S : Store} {ds dy : List D} {cs cy : List C} (h : Fr lo S (ds ++ dy) (cs ++ cy)) (hl : cs.length = ds.length) (hlo : lo ≤ S.length) {rows : List (List C)} (hr : rows = [cy]) :
 Fr lo (S ++ [⟨true, k, rows⟩]) (ds ++ [.sl k [dy]]) (cs ++ [.sl S.length 0 1 1]) := by
 subst hr
 obtain ⟨ids, hg, hn, hlo'⟩ := h
 obtain ⟨p1, p2, ia, jy, s1, s2, h, hy⟩ := hg.split
 obtain ⟨s3, s4⟩ := List.append_inj s1 (by rw [hl, h.len])
 subst s3; subst s4; subst s2
 have hlt := h.lt
 have hylt := hy.lt
 rw [List.nodup_append] at hn
 have keep : ∀ j, j < S.length → (S ++ ([⟨true, k, [cy]⟩] : Store))[j]? = S[j]? := fun j hj => List.getElem?_append_left hj
 have h2 : RepL true (S ++ ([⟨true, k, [cy]⟩] : Store)) ds cs ia := h.frame fun j hj => keep j (hlt j hj)
 have hy2 : RepL true (S ++ ([⟨true, k, [cy]⟩] : Store)) dy cy jy := hy.frame fun j hj => keep j (hylt j hj)
 refine ⟨ia ++ ((S.length :: jy) ++ []), h2.append ?_, ?_, fun j hj => ?_⟩
 ·rw [zaw]
  refine ⟨_, [], S.length :: jy, [], rfl, rfl, ?_, by rw [zce]; exact ⟨rfl, rfl⟩⟩
  unfold Rep
  refine ⟨by rw [zan]; simp, .inr ⟨S.length, 0, 1, ⟨true, k, [cy]⟩, jy, rfl, rfl, by simp, rfl, rfl, by simp, fun _ => ⟨rfl, rfl, rfl⟩, ?_⟩⟩
  show Rep2 true _ [dy] [cy] jy
  rw [zbn]
  exact ⟨cy, [], jy, [], rfl, by simp, hy2, by rw [zc6]; exact ⟨rfl, rfl⟩⟩
 ·rw [List.append_nil, List.nodup_append, List.nodup_cons]
  refine ⟨hn.1, ⟨fun hm => by have := hylt _ hm; omega, hn.2.1⟩, fun a ha b hb => ?_⟩
  rcases List.mem_cons.1 hb with rfl | hb
  ·have := hlt a ha; omega
  ·exact hn.2.2 a ha b hb
 ·simp only [List.append_nil, List.mem_append, List.mem_cons] at hj
  rcases hj with hj | rfl | hj
  ·exact hlo' j (by simp [hj])
  ·exact hlo
  ·exact hlo' j (by simp [hj])
theorem z4i {id o k by' : Nat} {S0 S : Store} {c : C} {ds : List D} {cs : List C} {xs : List (List D)} {dy : List D} {cy : List C} {K : C → Store → Prop}
 (hD : Drw id S0 S) (h : Fr S0.length S (ds ++ dy) (cs ++ cy)) (hl : cs.length = ds.length) (hd : ds[o]? = some (.sl k xs)) (hc : cs[o]? = some c)
 (hk : dy.length = k) (hb : (xs.length + 1) * by' ≤ 140737488355328) (hm : xs.length + 1 ≤ 9223372036854775807)
 (hK : ∀ c' S', Drw id S0 S' → Fr S0.length S' (ds.set o (.sl k (xs ++ [dy]))) (cs.set o c') → K c' S') : AppP k by' S c [cy] K := by
 have ht := zrf hD
 exact zwl (S0 := S.take S0.length) (zqj S _) (by rw [ht]; exact h) hl hd hc hk hb hm fun c' S' e f _ => hK c' S' (hD.own e) (by rw [ht] at f; exact f)
theorem zl9 {α : Type} {f : α → List D} {m : Nat} : ∀ {l : List α}, (∀ x ∈ l, szL (f x) ≤ m) → szL.szLL (l.map f) ≤ l.length * m
 | [], _ => by rw [List.map_nil, szL.szLL]; omega
 | x :: l, h => by
   have := zl9 (l := l) fun y hy => h y (List.mem_cons_of_mem _ hy)
   have hx := h x (List.mem_cons_self ..)
   rw [List.map_cons, szL.szLL, List.length_cons, Nat.add_mul]; omega
theorem zq2 (t : GTab) : szL t.d = t.Base.length + (t.Edits.length + t.Hidden.length) := by
 simp only [GTab.d, szL, List.length_map]
 rw [zbk (f := GNode.d) (by intro x; simp only [szL, GNode.d]), zbk (f := GEdit.d) (by intro x; simp only [szL, GEdit.d]), zbk (f := dInt) (by intro x; simp only [szL, dInt])]
 omega
theorem z7j {l : List GEdit} {i : Int} (h : 0 ≤ i ∧ i.toNat < l.length) : (l.map GEdit.d)[i.toNat]? = some (l[i.toNat]'h.2).d := by simp [h.2]
theorem z1b {e : GEdit} (h : zc4 e = true) (n : Int) (hn : 0 ≤ n ∧ n ≤ 5) : zc4 ⟨e.Kind, e.Node, e.Parent, e.Tag, e.Text, n⟩ = true := by
 simp only [zc4, inR, Bool.and_eq_true, decide_eq_true_eq] at h ⊢; omega
theorem z2a {t : GTab} {l : List GEdit} {i : Nat} {e : GEdit} (h : zcr { t with Edits := l } = true) (he : zc4 e = true) : zcr { t with Edits := l.set i e } = true := by
 unfold zcr at h ⊢
 simp only [Bool.and_eq_true, decide_eq_true_eq] at h ⊢
 refine ⟨⟨⟨⟨h.1.1.1.1, ?_⟩, h.1.1.2⟩, ?_⟩, h.2⟩
 ·have := h.1.1.1.2; simpa using this
 ·have ha := h.1.2
  rw [List.all_eq_true] at ha ⊢
  intro x hx
  rcases List.mem_or_eq_of_mem_set hx with hx | rfl
  ·exact ha x hx
  ·exact he
theorem z2e {t : GTab} (h : zcr t = true) : ∀ e ∈ t.Edits, zc4 e = true := by
 unfold zcr at h
 simp only [Bool.and_eq_true] at h
 exact fun e he => List.all_eq_true.1 h.1.2 e he
set_option maxHeartbeats 2000000 in
theorem zud {id : Nat} {S : Store} (h : Cur id S) : EvA Tryz.prog 184 [.s (.pt id)] S (fun r S' => Drw id S S' ∧ ∃ t : GTab, zcr t = true ∧ (∀ e ∈ t.Edits, e.By = 0) ∧ (∀ n ∈ t.Base, n.By = 0) ∧ (t.Base.length ≤ 7 ∧ t.Edits.length ≤ 5 ∧ t.Hidden.length ≤ 2) ∧ ∃ c2 c3 c4, r = .v (.agg [.int .i64 t.Site.Owner, .int .i64 t.Site.Sub, c2, c3, c4, .int .i64 t.Click]) ∧ Fr S.length S' t.d [.int .i64 t.Site.Owner, .int .i64 t.Site.Sub, c2, c3, c4, .int .i64 t.Click]) := by
 have hlt := h.lt
 have hD := Drw.refl h
 have hF : Fr S.length S [] [] := zc2
 refine zac tok Tryz.func184 (by kernel_rfl) rfl ?_
 skip
 (conv => whnf)
 refine zab (zzj hD.cur) ?_; rintro _ Sn ⟨hDn, t, hT, hb0, hz, c2, c3, c4, rfl, hFn⟩
 clear hF hD
 skip
 refine zag {q : Nat × Store // q.1 ≤ t.Edits.length ∧ Drw id S q.2 ∧ ∃ l : List GEdit, l.length = t.Edits.length ∧ zcr { t with Edits := l } = true ∧ (∀ j (hj : j < l.length), j < q.1 → (l[j]).By = 0) ∧ Fr S.length q.2 (GTab.d { t with Edits := l }) [.int .i64 t.Site.Owner, .int .i64 t.Site.Sub, c2, c3, c4, .int .i64 t.Click]} [4, 7, 8, 9, 10, 11, 12, 13, 14, 15, 16, 17, 18] (fun zb => [(4, .v (.s (.int .i64 (zb.1.1 : Nat))))]) (fun zb => zb.1.2) (fun zb => t.Edits.length - zb.1.1) ⟨(0, _), Nat.zero_le _, hDn, t.Edits, rfl, hT, fun j _ hj => absurd hj (Nat.not_lt_zero j), hFn⟩ okL rfl ?_
 rintro ⟨⟨k, Si⟩, hk, hP⟩; dsimp only
 clear hDn hFn
 replace hk : k ≤ t.Edits.length := hk
 obtain ⟨hD, l, hl, hTl, hb, hF⟩ : Drw id S Si ∧ ∃ l : List GEdit, l.length = t.Edits.length ∧ zcr { t with Edits := l } = true ∧ (∀ j (hj : j < l.length), j < k → (l[j]).By = 0) ∧ Fr S.length Si (GTab.d { t with Edits := l }) [.int .i64 t.Site.Owner, .int .i64 t.Site.Sub, c2, c3, c4, .int .i64 t.Click] := hP
 have r3 : Rd Si [.sl 6 (l.map GEdit.d)] [c3] := hF.rdAt (o := 3) rfl rfl
 by_cases hlt2 : k < l.length
 ·have hi0 : 0 ≤ ((k : Nat) : Int) ∧ ((k : Nat) : Int).toNat < l.length := ⟨by omega, by rw [Int.toNat_natCast]; exact hlt2⟩
  repeat' ((conv => whnf) <;> first
   | (refine rI r3 rf hi0 ?_) | (refine zdp r3 ?_; intro hml; rw [zan] at hml) | rw [zad (by omega)] | refine cD (fun _ => ?_) fun _ => ?_ | (refine dsto (q := 3) (k := 6) (xs := l.map GEdit.d) (A := [.x (.int .i64 (l[((k : Nat) : Int).toNat]'hi0.2).Kind), .x (.int .i64 (l[((k : Nat) : Int).toNat]'hi0.2).Node), .x (.int .i64 (l[((k : Nat) : Int).toNat]'hi0.2).Parent), .x (.int .i64 (l[((k : Nat) : Int).toNat]'hi0.2).Tag), .x (.int .i64 (l[((k : Nat) : Int).toNat]'hi0.2).Text)]) (B := [.x (.int .i64 (l[((k : Nat) : Int).toNat]'hi0.2).By)]) (Z := []) hD hF rfl rfl (by rw [List.length_map]; exact hi0) (z7j hi0) rfl rfl rfl ?_; intro SN hDN hFN) | refine And.intro ?_ ?_)
  all_goals try (exfalso; omega)
  have he := z2e hTl _ (List.getElem_mem (show k < l.length from hlt2))
  refine ⟨⟨(k + 1, SN), by dsimp only; omega, hDN, l.set k ⟨(l[k]).Kind, (l[k]).Node, (l[k]).Parent, (l[k]).Tag, (l[k]).Text, 0⟩, by rw [List.length_set]; exact hl, z2a hTl (z1b he 0 (by omega)), fun j hj hjk => ?_, ?_⟩, ?_, rfl, by dsimp only; omega⟩
  ·rw [List.getElem_set]
   split
   ·rfl
   ·exact hb j (by rw [List.length_set] at hj; exact hj) (by dsimp only at hjk; omega)
  ·simp only [GTab.d]
   rw [List.map_set]; exact hFN
  ·(conv => whnf); repeat' (first | exact trivial | exact rfl | apply And.intro)
 repeat' ((conv => whnf) <;> first
  | (refine zdp r3 ?_; intro hml; rw [zan] at hml) | refine cD (fun _ => ?_) fun _ => ?_ | refine rI rdA rf ix ?_ | refine And.intro ?_ ?_)
 all_goals first
  | exact hD
  | (exfalso; omega)
  | (refine ⟨{ t with Edits := l }, hTl, fun e he => ?_, hb0, ⟨hz.1, by dsimp only; omega, hz.2.2⟩, c2, c3, c4, rfl, hF⟩
     obtain ⟨j, hj, rfl⟩ := List.mem_iff_getElem.1 he
     have hj' : j < l.length := hj
     exact hb j hj' (by omega))
theorem z40 {tabs : List GTab} (h1 : 1 ≤ tabs.length ∧ tabs.length ≤ 3) (ht : ∀ t ∈ tabs, zcr t = true ∧ ∀ e ∈ t.Edits, e.By = 0) : zaj (newB 5 tabs) = true := by
 have hl : inR tabs.length 1 3 = true := by simp only [inR, Bool.and_eq_true, decide_eq_true_eq]; omega
 have h0 : isB0 (newB 5 tabs) = true := by
  simp only [isB0, newB, hl]
  rfl
 have htb : tabs.all (fun x => zlj (newB 5 tabs) x) = true := by
  rw [List.all_eq_true]
  intro t hm
  obtain ⟨a, b⟩ := ht t hm
  unfold zlj
  rw [a, Bool.true_and, List.all_eq_true]
  intro e he
  unfold edOk
  rw [b e he]; rfl
 unfold zaj
 rw [h0]
 show (true && zd0 _ [] 0 && tabs.all (fun x => zlj (newB 5 tabs) x) && _ && _ && _ && _) = true
 rw [htb]; rfl
set_option maxHeartbeats 4000000 in
theorem zyv {id : Nat} {S : Store} (h : Cur id S) : EvA Tryz.prog 95 [.s (.pt id)] S (fun r S' => Drw id S S' ∧ ∃ ts : List GTab, zaj (newB 5 ts) = true ∧ (∀ t ∈ ts, ∀ n ∈ t.Base, n.By = 0) ∧ (1 ≤ ts.length ∧ ts.length ≤ 3 ∧ ∀ t ∈ ts, t.Base.length ≤ 7 ∧ t.Edits.length ≤ 5 ∧ t.Hidden.length ≤ 2) ∧ ∃ c1 c2 c3 c4 c5 c6, r = .v (.agg [.int .i64 5, c1, c2, c3, c4, c5, c6, .int .i64 0]) ∧ Fr S.length S' (newB 5 ts).d [.int .i64 5, c1, c2, c3, c4, c5, c6, .int .i64 0]) := by
 have hlt := h.lt
 have hD := Drw.refl h
 have hF : Fr S.length S [] [] := zc2
 refine zac tok Tryz.func95 (by kernel_rfl) rfl ?_
 skip
 (conv => whnf)
 refine zab (zud hD.cur) ?_; rintro _ S1 ⟨hD1, t0, hT0, hb0, hn0, hz0, c2, c3, c4, rfl, hF1⟩
 skip
 (conv => whnf)
 have hF2 := Fr.pushMv (k := 6) (ds := []) (cs := []) hF1 rfl hD1.len rfl
 have hD2 := hD1.push ⟨true, 6, [[.int .i64 t0.Site.Owner, .int .i64 t0.Site.Sub, c2, c3, c4, .int .i64 t0.Click]]⟩
 refine zab (za7 _ hD2.cur) ?_; rintro _ Sn ⟨hDn, xn, hxn, rfl⟩
 replace hF2 := hF2.drw hlt hDn
 replace hD2 := hD2.trans hDn
 obtain ⟨n, rfl⟩ := Int.eq_ofNat_of_zero_le hxn.1
 skip
 refine zag {q : Nat × Store × C // q.1 ≤ 2 ∧ Drw id S q.2.1 ∧ ∃ l : List GTab, (∀ t ∈ l, zcr t = true ∧ ∀ e ∈ t.Edits, e.By = 0) ∧ (∀ t ∈ l, ∀ n ∈ t.Base, n.By = 0) ∧ (∀ t ∈ l, t.Base.length ≤ 7 ∧ t.Edits.length ≤ 5 ∧ t.Hidden.length ≤ 2) ∧ (1 ≤ l.length ∧ l.length + q.1 ≤ 3) ∧ Fr S.length q.2.1 [.sl 6 (l.map GTab.d)] [q.2.2]} [3, 4, 12, 13, 14, 15, 16, 17, 18, 19, 20] (fun zb => [(4, .v (.s (.int .i64 (zb.1.1 : Nat)))), (3, .v (.s zb.1.2.2))]) (fun zb => zb.1.2.1) (fun zb => zb.1.1) ⟨(n, _, _), by have := hxn.2.2.1 (by omega); dsimp only; omega, hD2, [t0], fun t ht => by rw [List.mem_singleton.1 ht]; exact ⟨hT0, hb0⟩, fun t ht => by rw [List.mem_singleton.1 ht]; exact hn0, fun t ht => by rw [List.mem_singleton.1 ht]; exact hz0, by have := hxn.2.2.1 (by omega); simp; omega, hF2⟩ okL rfl ?_
 rintro ⟨⟨k, Si, ci⟩, hk, hP⟩; dsimp only
 clear hF hD hD1 hF1 hD2 hF2 hDn hxn
 replace hk : k ≤ 2 := hk
 obtain ⟨hD, l, hT, hN, hz, hl, hF⟩ : Drw id S Si ∧ ∃ l : List GTab, (∀ t ∈ l, zcr t = true ∧ ∀ e ∈ t.Edits, e.By = 0) ∧ (∀ t ∈ l, ∀ n ∈ t.Base, n.By = 0) ∧ (∀ t ∈ l, t.Base.length ≤ 7 ∧ t.Edits.length ≤ 5 ∧ t.Hidden.length ≤ 2) ∧ (1 ≤ l.length ∧ l.length + k ≤ 3) ∧ Fr S.length Si [.sl 6 (l.map GTab.d)] [ci] := hP
 have hszm : szL.szLL (l.map GTab.d) ≤ l.length * 14 := zl9 fun t ht => by have := hz t ht; have := zq2 t; omega
 by_cases hk0 : 0 < k
 ·repeat' ((conv => whnf) <;> first
   | (show CondP _ _ _; refine cS ?_))
  (conv => whnf)
  refine zab (zud hD.cur) ?_; rintro _ S2 ⟨hDn, t, hTt, hbt, hnt, hzt, e2, e3, e4, rfl, hFn⟩
  replace hF := hF.joinD hlt hDn hFn hD.len
  replace hD := hD.trans hDn
  clear hDn hFn
  repeat' ((conv => whnf) <;> first
   | rw [zad (by omega)] | (refine z4i (ds := [.sl 6 (l.map GTab.d)]) (cs := [ci]) (dy := t.d) (o := 0) hD hF rfl rfl rfl rfl (by dsimp only [T48]; simp only [List.length_map]; omega) (by simp only [List.length_map]; omega) ?_; intro cN SN hDN hFN))
  all_goals try (exfalso; omega)
  refine ⟨⟨(k - 1, SN, cN), by dsimp only; omega, hDN, l ++ [t], fun x hx => ?_, fun x hx => ?_, fun x hx => ?_, by simp only [List.length_append, List.length_singleton]; omega, ?_⟩, ?_, rfl, by dsimp only; omega⟩
  ·rcases List.mem_append.1 hx with h | h
   ·exact hT x h
   ·rw [List.mem_singleton.1 h]; exact ⟨hTt, hbt⟩
  ·rcases List.mem_append.1 hx with h | h
   ·exact hN x h
   ·rw [List.mem_singleton.1 h]; exact hnt
  ·rcases List.mem_append.1 hx with h | h
   ·exact hz x h
   ·rw [List.mem_singleton.1 h]; exact hzt
  ·rw [List.map_append]; exact hFN
  ·(conv => whnf); repeat' (first | exact trivial | exact rfl | (show _ = _; congr 3; dsimp only; omega) | apply And.intro)
 ·repeat' ((conv => whnf) <;> first
   | (show CondP _ _ _; refine cS ?_))
  (conv => whnf)
  refine zab (zom 5 l _ _ hF.rd (by omega)) ?_; rintro _ S2 ⟨e2, c1, c2', c3', c4', c5, c6, rfl, hFn⟩
  have hok := z40 ⟨hl.1, by omega⟩ hT
  rw [show zc3 5 l = (newB 5 l, true) from if_pos hok] at hFn ⊢
  replace hF := hFn.mono hD.len
  replace hD := hD.ext e2
  repeat' ((conv => whnf) <;> first
   | refine And.intro ?_ ?_)
  all_goals first
   | exact hD
   | exact ⟨l, hok, hN, ⟨hl.1, by omega, hz⟩, c1, c2', c3', c4', c5, c6, rfl, hF⟩
theorem ztt (p : GPackage) : szL p.d = p.Grants.length + (p.Flows.length + (p.Rules.length + p.Ops.length)) := by
 simp only [GPackage.d, szL, List.length_map]
 rw [zbk (f := GGrant.d) (by intro x; simp only [szL, GGrant.d]), zbk (f := GFlow.d) (by intro x; simp only [szL, GFlow.d]), zbk (f := GRule.d) (by intro x; simp only [szL, GRule.d]), zbk (f := GOp.d) (by intro x; simp only [szL, GOp.d])]
 omega
theorem z3t {lo : Nat} {S : Store} {d : D} {c x : C} (h : Fr lo S [d] [c]) : Fr lo S [d, .x x] [c, x] := by
 obtain ⟨ids, h, hn, hl⟩ := h
 refine ⟨ids ++ [], h.append (ys := [.x x]) (cs' := [x]) (by rw [zaw]; exact ⟨x, [], [], [], rfl, rfl, by rw [zse]; exact ⟨rfl, rfl⟩, by rw [zce]; exact ⟨rfl, rfl⟩⟩), by rw [List.append_nil]; exact hn, fun j hj => hl j (by simpa using hj)⟩
theorem z6d (b : GBrowser) : szL b.d = b.Tabs.length + szL.szLL (b.Tabs.map GTab.d) + (b.Packs.length + szL.szLL (b.Packs.map GPackage.d) + (b.Grants.length + (b.Limits.length + (b.Rules.length + b.Store.length)))) := by
 simp only [GBrowser.d, szL, List.length_map]
 rw [zbk (f := GGrant.d) (by intro x; simp only [szL, GGrant.d]), zbk (f := GLimit.d) (by intro x; simp only [szL, GLimit.d]), zbk (f := GRule.d) (by intro x; simp only [szL, GRule.d]), zbk (f := GStored.d) (by intro x; simp only [szL, GStored.d])]
 omega
theorem zw7 (m : List Int) : ∀ (l : List Int) (i : Nat), zgp m l i = true → ∀ (j : Nat) (h : j < l.length), zl5 m l[j] (i + j) = true
 | [], _, _, j, h => absurd h (by simp)
 | p :: r, i, hg, j, h => by
   rw [zgp] at hg
   split at hg
   ·rename_i hp
    match j, h with
    | 0, _ => exact hp
    | j + 1, h =>
      have := zw7 m r (i + 1) hg j (by simpa using h)
      rw [show i + (j + 1) = i + 1 + j from by omega]; exact this
   ·cases hg
theorem z4p {l : List Int} (h : zgp l l 0 = true) : l.length ≤ 10 := by
 have h1 := zw7 l l 0 h
 have hj : ∀ (j : Nat) (hj : j < l.length), (j : Int) ≤ l[j] ∧ l[j] ≤ 9 := fun j => by
  induction j with
  | zero =>
    intro hj
    have h2 := h1 0 hj
    rw [Nat.zero_add, zfr] at h2
    have := zky h2
    omega
  | succ j ih =>
    intro hj
    have h3 := ih (by omega)
    have h2 := h1 (j + 1) hj
    rw [Nat.zero_add, zg1 (by omega) (by omega), Bool.and_eq_true, decide_eq_true_eq] at h2
    have h4 := zky h2.1
    have h5 := h2.2
    simp only [Nat.add_sub_cancel] at h5
    omega
 rcases Nat.lt_or_ge 10 l.length with h | h
 ·have := hj 10 h; omega
 ·exact h
theorem zqb {t : GTab} (h : TabOk t) : szL t.d ≤ 66 := by
 have h1 := zq2 t
 have h2 := z4p h.hid
 have h3 := h.len
 have h4 := h.doc
 unfold zck at h4
 simp only [Bool.and_eq_true, decide_eq_true_eq] at h4
 omega
theorem z5z {key : Int} {p : GPackage} (h : zb4 key p = true) : szL p.d ≤ 34 := by
 unfold zb4 zal zhu zcv at h
 simp only [Bool.and_eq_true, decide_eq_true_eq] at h
 have h1 := ztt p
 omega
theorem BrOk.sz {b : GBrowser} (h : BrOk b) : szL b.d ≤ 500 := by
 have h1 := z6d b
 have h2 : szL.szLL (b.Tabs.map GTab.d) ≤ b.Tabs.length * 66 := zl9 fun t ht => zqb (h.tabs t ht)
 have h3 : szL.szLL (b.Packs.map GPackage.d) ≤ b.Packs.length * 34 := zl9 fun p hp => z5z (h.sld p hp)
 have h4 := h.fair
 unfold zdm at h4
 rw [Bool.and_eq_true, decide_eq_true_eq] at h4
 have h5 := (zub.1 h.store).len
 have := h.tl; have := h.pl; have := h.gl; have := h.ll
 omega
def NoBy (b : GBrowser) : Prop := ∀ t ∈ b.Tabs, ∀ n ∈ t.Base, n.By = 0
structure DrOk (b : GBrowser) : Prop where
 ok : BrOk b
 nb : NoBy b
theorem NoBy.set {b : GBrowser} (h : NoBy b) {i : Nat} {t : GTab} (ht : ∀ n ∈ t.Base, n.By = 0) : NoBy { b with Tabs := b.Tabs.set i t } := fun x hx => by
 rcases List.mem_or_eq_of_mem_set hx with hx | rfl
 ·exact h x hx
 ·exact ht
theorem zst {b : GBrowser} (h : DrOk b) (x : GLimit) : DrOk (zb0 b x).1 := ⟨zls h.ok x, by unfold zb0; split <;> exact h.nb⟩
theorem zur {b : GBrowser} (h : DrOk b) (n : Int) : DrOk (zci b n).1 := ⟨znf h.ok n, by unfold zci; split <;> exact h.nb⟩
theorem zo2 {b : GBrowser} (h : DrOk b) (p : GPackage) : DrOk (za9 b p).1 := ⟨zi8 h.ok p, by unfold za9; split <;> exact h.nb⟩
theorem zqr {b : GBrowser} (h : DrOk b) (p : GPackage) (c : Bool) : DrOk (zbi b p c).1 := ⟨zkh h.ok p c, by unfold zbi; split <;> exact h.nb⟩
theorem zuu {b : GBrowser} (h : DrOk b) (ext tab name value : Int) : DrOk (zcj b ext tab name value).1 := ⟨zm4 h.ok ext tab name value, by unfold zcj; split <;> exact h.nb⟩
theorem zq1 {b : GBrowser} (h : DrOk b) (ext : Int) : DrOk (zbs b ext).1 := ⟨zkc h.ok ext, by
 unfold zbs
 split
 ·intro t ht
  obtain ⟨t0, h0, rfl⟩ := List.mem_map.1 ht
  exact h.nb t0 h0
 ·exact h.nb⟩
theorem ztz {b : GBrowser} (h : DrOk b) (tab ext : Int) : DrOk (zbz b tab ext).1 := ⟨zlv h.ok tab ext, by
 unfold zbz
 split
 ·rename_i ht
  obtain ⟨hi, he⟩ := zxj ht
  have : NoBy (ze4 b tab) := by
   unfold ze4
   exact h.nb.set fun n hn => h.nb _ (List.getElem_mem hi) n (by rw [he] at hn; exact hn)
  dsimp only
  split <;> exact this
 ·exact h.nb⟩
theorem z0r {b : GBrowser} (h : DrOk b) (tab : Int) (s : GSite) : DrOk (zew b tab s).1 := ⟨ztc h.ok tab s, by
 unfold zew
 split
 ·refine NoBy.set (b := { b with Grants := b.Grants.filter (zhs (zg2 b tab).Site) }) h.nb fun n hn => ?_
  unfold zi5 zb7 at hn
  split at hn
  ·rcases List.mem_cons.1 hn with rfl | hn
   ·rfl
   ·cases hn
  ·cases hn
 ·exact h.nb⟩
theorem zmk {b : GBrowser} (h : NoBy b) (tab : Int) (e : GEdit) (hi : 0 ≤ tab ∧ tab.toNat < b.Tabs.length) : NoBy (zcf b tab e).1 := by
 unfold zcf
 split
 ·obtain ⟨hx, hm⟩ := zwx hi
  show NoBy (zh6 b tab e)
  unfold zh6
  exact h.set fun n hn => h _ hm n (by rw [hx] at hn; exact hn)
 ·exact h
theorem zvy {b : GBrowser} (h : DrOk b) (tab : Int) (e : GEdit) : DrOk (zcn b tab e).1 := ⟨zmn h.ok tab e, by
 unfold zcn
 split
 ·rename_i ht
  have := zky ht
  exact zmk h.nb _ _ (by omega)
 ·exact h.nb⟩
theorem zux {b : GBrowser} (h : DrOk b) (ext tab : Int) (e : GEdit) : DrOk (zca b ext tab e).1 := ⟨zm3 h.ok ext tab e, by
 unfold zca
 split
 ·rename_i hk
  rw [Bool.and_eq_true] at hk
  exact zmk h.nb _ _ (znl hk.1)
 ·exact h.nb⟩
theorem z5l {ts : List GTab} (h : zaj (newB 5 ts) = true) (hn : ∀ t ∈ ts, ∀ n ∈ t.Base, n.By = 0) : DrOk (newB 5 ts) := ⟨zpq.1 h, hn⟩
theorem z16 (i : Int) : getI zdx i = 0 := by
 unfold getI
 rcases h : i.toNat with _ | _ | _ | _ | _ | _ | _ <;> rfl
theorem z0q {l : List GOp} (ext : Int) (h : l.length ≤ 1) : zfq l ext = [] := by
 unfold zfq
 split
 ·match l, h with
  | [], _ => rfl
  | [o], _ =>
    show (([] : List GSent) ++ opS o zdx zdx).foldl (zfn ext) [] = []
    unfold opS
    split
    ·rename_i hk
     have hl : (zdk o zdx zdx).Label = 0 := by
      unfold zdk; rw [if_pos hk]
      exact z16 o.A
     show zfn ext [] (zdk o zdx zdx) = []
     unfold zfn
     rw [hl]; rfl
    ·rfl
 ·rfl
theorem zuj (l : List GOp) (ext : Int) : (zfq l ext).length ≤ 144 := by
 unfold zfq
 split
 ·rename_i ho
  have h1 := zio ext (mach [] l).1 []
  have h2 := zmh [] ho
  simp only [List.length_nil] at h1
  omega
 ·exact Nat.zero_le _
theorem z0d {S : Store} {α : Type} {f : α → List D} {k n : Nat} {l : List α} {c : C} {lo hi : Int} {K : C → Prop} (h : Rd S [.sl k (l.map f)] [c]) (hk : ∀ x, (f x).length = n) (h0 : 0 ≤ lo ∧ lo ≤ hi ∧ hi ≤ l.length) (hK : K (cutC c lo hi)) : SliP S c n lo hi K := by
 have h2 := zk8 (K := fun _ => True) h hk h0 (fun _ _ => trivial)
 unfold SliP at h2 ⊢
 obtain ⟨xs, a1, a2, a3, a4, a5, _⟩ := h2
 exact ⟨xs, a1, a2, a3, a4, a5, hK⟩
theorem zvo {S : Store} {α : Type} {f : α → List D} {k : Nat} {l : List α} {c : C} (h : Rd S [.sl k (l.map f)] [c]) (h0 : 2 ≤ l.length) : Rd S [.sl k ((l.take 2).map f)] [cutC c 0 2] := by
 have := z4k (lo := 0) (hi := 2) h ⟨Int.le_refl _, by decide, by rw [List.length_map]; omega⟩
 rw [← List.map_drop, ← List.map_take] at this
 exact this
theorem zmd {S : Store} {e a v z : Int} {gs : List GGrant} {fl : List GFlow} {rs : List GRule} {ops : List GOp} {cG cF cR co : C} (h : Rd S (GPackage.mk e a v gs fl rs ops z).d [.int .i64 e, .int .i64 a, .int .i64 v, cG, cF, cR, co, .int .i64 z]) :
 Rd S [.sl 7 (gs.map GGrant.d)] [cG] ∧ Rd S [.sl 3 (fl.map GFlow.d)] [cF] ∧ Rd S [.sl 8 (rs.map GRule.d)] [cR] ∧ Rd S [.sl 4 (ops.map GOp.d)] [co] := by
 obtain ⟨_, _, _, _, he, h1, h2, h3, h4⟩ := GPackage.inv h
 simp only [List.cons.injEq, true_and, and_true] at he
 obtain ⟨rfl, rfl, rfl, rfl⟩ := he
 exact ⟨h1, h2, h3, h4⟩
theorem z69 {l : List GGrant} {i : Int} (h : 0 ≤ i ∧ i.toNat < l.length) : (l.map GGrant.d)[i.toNat]? = some (l[i.toNat]'h.2).d := by simp [h.2]
abbrev z4d (ext x1 x2 : Int) (gs : List GGrant) (fl : List GFlow) (rs : List GRule) (ops : List GOp) : GPackage := GPackage.mk ext (1 + x1) (1 + x2) gs fl rs ops 0
set_option maxHeartbeats 4000000 in
theorem zpz {id : Nat} {S : Store} (ext : Int) (h : Cur id S) : EvA Tryz.prog 89 [.s (.pt id), .s (.int .i64 ext)] S (fun r S' => Drw id S S' ∧ ∃ p : GPackage, p.Ext = ext ∧ (p.Grants.length ≤ 4 ∧ p.Flows.length ≤ 144 ∧ p.Rules.length ≤ 2 ∧ p.Ops.length ≤ 9 ∧ 1 ≤ p.Grants.length) ∧ ∃ c3 c4 c5 c6, r = .v (.agg [.int .i64 p.Ext, .int .i64 p.Author, .int .i64 p.Version, c3, c4, c5, c6, .int .i64 p.Seal]) ∧ Fr S.length S' p.d [.int .i64 p.Ext, .int .i64 p.Author, .int .i64 p.Version, c3, c4, c5, c6, .int .i64 p.Seal]) := by
 have hlt := h.lt
 have hD := Drw.refl h
 have hF : Fr S.length S [] [] := zc2
 refine zac tok Tryz.func89 (by kernel_rfl) rfl ?_
 skip
 (conv => whnf)
 refine zab (za7 _ hD.cur) ?_; rintro _ S1 ⟨hDn, x1, hx1, rfl⟩
 replace hD := hD.trans hDn; clear hDn hF
 repeat' ((conv => whnf) <;> first
  | rw [zad (by omega)])
 (conv => whnf)
 refine zab (za7 _ hD.cur) ?_; rintro _ S2 ⟨hDn, x2, hx2, rfl⟩
 replace hD := hD.trans hDn; clear hDn
 repeat' ((conv => whnf) <;> first
  | rw [zad (by omega)])
 (conv => whnf)
 refine zab (zzo hD.cur) ?_; rintro _ S3 ⟨hDn, ops, hops, hzo, co, rfl, hFn⟩
 have hF : Fr S.length S3 (GPackage.mk ext (1 + x1) (1 + x2) [] [] [] ops 0).d [.int .i64 ext, .int .i64 (1 + x1), .int .i64 (1 + x2), .nil, .nil, .nil, co, .int .i64 0] := fr_x (fr_x (fr_x (zct (zct (zct (z3t (hFn.mono hD.len)))))))
 replace hD := hD.trans hDn; clear hDn hFn
 skip
 refine zag {q : (Nat × List GGrant) × Store × C // q.1.1 ≤ 4 ∧ Drw id S q.2.1 ∧ q.1.2.length = q.1.1 ∧ Fr S.length q.2.1 (GPackage.mk ext (1 + x1) (1 + x2) q.1.2 [] [] ops 0).d [.int .i64 ext, .int .i64 (1 + x1), .int .i64 (1 + x2), q.2.2, .nil, .nil, co, .int .i64 0]} [5, 7, 21, 22, 23, 24, 25, 26, 27, 28, 29, 30, 31, 32, 33, 34, 35, 36] (fun zb => [(7, .v (.s (.int .i64 (1 + (zb.1.1.1 : Nat))))), (5, .box [.int .i64 ext, .int .i64 (1 + x1), .int .i64 (1 + x2), zb.1.2.2, .nil, .nil, co, .int .i64 0])]) (fun zb => zb.1.2.1) (fun zb => 4 - zb.1.1.1) ⟨((0, []), _, _), Nat.zero_le _, hD, rfl, hF⟩ okL rfl ?_
 rintro ⟨⟨⟨k, gs⟩, Si, cG⟩, hk, hP⟩; dsimp only
 clear hF hD
 replace hk : k ≤ 4 := hk
 obtain ⟨hD, hle, hF⟩ : Drw id S Si ∧ gs.length = k ∧ Fr S.length Si (GPackage.mk ext (1 + x1) (1 + x2) gs [] [] ops 0).d [.int .i64 ext, .int .i64 (1 + x1), .int .i64 (1 + x2), cG, .nil, .nil, co, .int .i64 0] := hP
 by_cases hk0 : k < 4
 ·repeat' ((conv => whnf) <;> first
   | rw [zad (by omega)] | (show CondP _ _ _; refine cS ?_) | (refine zab (za7 _ hD.cur) ?_; rintro _ Sn ⟨hDn, xn, hxn, rfl⟩; replace hF := hF.drw hlt hDn; replace hD := hD.trans hDn; clear hDn) | refine zae 25 [.fl 0, .fl 1, .fl 2, .fl 3, .fl 4, .fl 5, .st 6 [0, 1, 2, 3, 4], .fl 7, .fl 8, .fl 9, .st 10 [], .fl 11, .st 12 []] (by rfl) (by kernel_rfl) ?_ | (refine z0s (f := GGrant.d) (o := 3) (l := gs) (m := [⟨ext, ⟨0, -1⟩, 1 + (k : Nat), 0, 5 + xn, false⟩]) (fun _ => trivial) hD hF rfl rfl rfl rf (by dsimp only [T108, T120]; simp only [List.length_singleton]; omega) (by simp only [List.length_singleton]; omega) ?_; intro cN SN hDN hFN) | refine And.intro ?_ ?_)
  all_goals try (exfalso; omega)
  refine ⟨⟨((k + 1, gs ++ [_]), SN, cN), by dsimp only; omega, hDN, by rw [List.length_append]; show gs.length + 1 = k + 1; omega, hFN⟩, ?_, rfl, by dsimp only; omega⟩
  (conv => whnf); repeat' (first | exact trivial | exact rfl | (show _ = _; congr 3; dsimp only; omega) | apply And.intro)
 repeat' ((conv => whnf) <;> first
  | (show CondP _ _ _; refine cS ?_))
 all_goals try (exfalso; omega)
 have hg4 : gs.length = 4 := by omega
 clear hle hk0 hk
 (conv => whnf)
 refine zab (za7 _ hD.cur) ?_; rintro _ T1 ⟨hDn, y1, hy1, rfl⟩
 replace hF := hF.drw hlt hDn
 replace hD := hD.trans hDn; clear hDn
 obtain ⟨n1, rfl⟩ := Int.eq_ofNat_of_zero_le hy1.1
 skip
 refine zag {q : (Nat × List GRule) × Store × C // q.1.1 ≤ 2 ∧ Drw id S q.2.1 ∧ q.1.2.length + q.1.1 ≤ 2 ∧ Fr S.length q.2.1 (GPackage.mk ext (1 + x1) (1 + x2) gs [] q.1.2 ops 0).d [.int .i64 ext, .int .i64 (1 + x1), .int .i64 (1 + x2), cG, .nil, q.2.2, co, .int .i64 0]} [5, 8, 9, 39, 40, 41, 42, 43, 44, 45, 46, 47, 48, 49, 50, 51, 52] (fun zb => [(8, .v (.s (.int .i64 (zb.1.1.1 : Nat)))), (5, .box [.int .i64 ext, .int .i64 (1 + x1), .int .i64 (1 + x2), cG, .nil, zb.1.2.2, co, .int .i64 0])]) (fun zb => zb.1.2.1) (fun zb => zb.1.1.1) ⟨((n1, []), _, _), by have := hy1.2.2.1 (by omega); dsimp only; omega, hD, by have := hy1.2.2.1 (by omega); simp; omega, hF⟩ okL rfl ?_
 rintro ⟨⟨⟨k, rs⟩, Si', cR⟩, hk, hP⟩; dsimp only
 clear hF hD hy1
 replace hk : k ≤ 2 := hk
 obtain ⟨hD, hle, hF⟩ : Drw id S Si' ∧ rs.length + k ≤ 2 ∧ Fr S.length Si' (GPackage.mk ext (1 + x1) (1 + x2) gs [] rs ops 0).d [.int .i64 ext, .int .i64 (1 + x1), .int .i64 (1 + x2), cG, .nil, cR, co, .int .i64 0] := hP
 by_cases hk0 : 0 < k
 ·repeat' ((conv => whnf) <;> first
   | rw [zad (by omega)] | (show CondP _ _ _; refine cS ?_) | (refine zab (zxn hD.cur) ?_; rintro _ Sn ⟨hDn, un, hun, rfl⟩; replace hF := hF.drw hlt hDn; replace hD := hD.trans hDn; clear hDn) | (refine z0s (f := GRule.d) (o := 5) (l := rs) (m := [⟨_, un.Prio, un.Pattern, un.Sort', un.Action, un.To⟩]) (fun _ => trivial) hD hF rfl rfl rfl rf (by dsimp only [T108, T120]; simp only [List.length_singleton]; omega) (by simp only [List.length_singleton]; omega) ?_; intro cN SN hDN hFN))
  all_goals try (exfalso; omega)
  refine ⟨⟨((k - 1, rs ++ [_]), SN, cN), by dsimp only; omega, hDN, by rw [List.length_append]; show rs.length + 1 + (k - 1) ≤ 2; omega, hFN⟩, ?_, rfl, by dsimp only; omega⟩
  (conv => whnf); repeat' (first | exact trivial | exact rfl | (show _ = _; congr 3; dsimp only; omega) | apply And.intro)
 have hr2 : rs.length ≤ 2 := by omega
 have ro : Rd Si' [.sl 4 (ops.map GOp.d)] [co] := (zmd hF.rd).2.2.2
 repeat' ((conv => whnf) <;> first
  | (show CondP _ _ _; refine cS ?_))
 all_goals try (exfalso; omega)
 clear hle hk0 hk
 (conv => whnf)
 refine zab (zsx ops ext _ _ ro) ?_; rintro _ T2 ⟨e2, cF0, rfl, f2⟩
 have hF2 : Fr S.length T2 (GPackage.mk ext (1 + x1) (1 + x2) gs (zfq ops ext) rs ops 0).d [.int .i64 ext, .int .i64 (1 + x1), .int .i64 (1 + x2), cG, cF0, cR, co, .int .i64 0] := Fr.putLast (o := 4) (hF.join e2 f2 hD.len) rfl (by show 4 < 8; decide)
 replace hD := hD.ext e2
 have ro2 := ro.ext e2
 have rf2 := f2.rd
 have hn1 := zuj ops ext
 clear hF f2 e2 ro
 by_cases h6 : 6 < (zfq ops ext).length
 case' pos =>
  have ho2 : 2 ≤ ops.length := by
   rcases Nat.lt_or_ge ops.length 2 with h | h
   ·rw [z0q ext (by omega)] at h6; simp at h6
   ·exact h
  have rc2 := zvo ro2 ho2
  repeat' ((conv => whnf) <;> first
   | (refine z0d ro2 rf om ?_) | (refine zdp rf2 ?_; intro hml) | (show CondP _ _ _; refine cS ?_))
  all_goals try (exfalso; omega)
  (conv => whnf)
  refine zab (zsx (ops.take 2) ext _ _ rc2) ?_; rintro _ T3 ⟨e3, cF, rfl, f3⟩
  have hF : Fr S.length T3 (GPackage.mk ext (1 + x1) (1 + x2) gs (zfq (ops.take 2) ext) rs ops 0).d [.int .i64 ext, .int .i64 (1 + x1), .int .i64 (1 + x2), cG, cF, cR, co, .int .i64 0] := Fr.putLast (o := 4) (hF2.join e3 f3 hD.len) rfl (by show 4 < 8; decide)
  replace hD := hD.ext e3
  have hnl : (zfq (ops.take 2) ext).length ≤ 144 := zuj _ ext
  have hO : ∀ S', Rd S' [.sl 4 (ops.map GOp.d)] [co] → Rd S' [.sl 4 ((ops.take 2).map GOp.d)] [cutC co 0 2] := fun S' h => zvo h ho2
  have hOl : (ops.take 2).length ≤ 9 := by rw [List.length_take]; omega
  generalize zfq (ops.take 2) ext = fl at hF hnl
  generalize ops.take 2 = op2 at hO hOl
  generalize cutC co 0 2 = cO at hO ⊢
  clear f3 e3 rc2 ho2
 case' neg =>
  repeat' ((conv => whnf) <;> first
   | (refine zdp rf2 ?_; intro hml) | (show CondP _ _ _; refine cS ?_))
  all_goals try (exfalso; omega)
  have hF := hF2
  have hnl : (zfq ops ext).length ≤ 144 := hn1
  have hO : ∀ S', Rd S' [.sl 4 (ops.map GOp.d)] [co] → Rd S' [.sl 4 (ops.map GOp.d)] [co] := fun S' h => h
  have hOl := hzo
  obtain ⟨fl, hfl⟩ : ∃ fl, fl = zfq ops ext := ⟨_, rfl⟩
  rw [← hfl] at hF hnl
  obtain ⟨cF, hcF⟩ : ∃ c, c = cF0 := ⟨_, rfl⟩
  rw [← hcF] at hF ⊢
  clear hfl hcF
 all_goals
  clear ro2 rf2 hn1 h6 hF2
  (conv => whnf)
  refine zab (za7 _ hD.cur) ?_; rintro _ T4 ⟨hDn, y, hy, rfl⟩
  replace hF := hF.drw hlt hDn
  replace hD := hD.trans hDn; clear hDn
  have hg0 : 0 ≤ (0 : Int) ∧ (0 : Int).toNat < gs.length := ⟨Int.le_refl _, by show 0 < gs.length; omega⟩
  have hg2 : 0 ≤ (2 : Int) ∧ (2 : Int).toNat < gs.length := ⟨by decide, by show 2 < gs.length; omega⟩
  obtain ⟨rG, rF, rR, rO⟩ := zmd hF.rd
  have hfin : ∀ (S5 : Store) (gs' : List GGrant) (fl' : List GFlow) (op' : List GOp) (dG dF dR dO : C), Drw id S S5 → 1 ≤ gs'.length ∧ gs'.length ≤ 4 → fl'.length ≤ 144 → op'.length ≤ 9 → Rd S5 [.sl 7 (gs'.map GGrant.d)] [dG] → Rd S5 [.sl 3 (fl'.map GFlow.d)] [dF] → Rd S5 [.sl 8 (rs.map GRule.d)] [dR] → Rd S5 [.sl 4 (op'.map GOp.d)] [dO] →
   EvA Tryz.prog 153 [.s (.int .i64 5), .agg [.int .i64 ext, .int .i64 (1 + x1), .int .i64 (1 + x2), dG, dF, dR, dO, .int .i64 0]] S5 (fun r S' => Drw id S S' ∧ ∃ p : GPackage, p.Ext = ext ∧ (p.Grants.length ≤ 4 ∧ p.Flows.length ≤ 144 ∧ p.Rules.length ≤ 2 ∧ p.Ops.length ≤ 9 ∧ 1 ≤ p.Grants.length) ∧ ∃ c3 c4 c5 c6, r = .v (.agg [.int .i64 p.Ext, .int .i64 p.Author, .int .i64 p.Version, c3, c4, c5, c6, .int .i64 p.Seal]) ∧ Fr S.length S' p.d [.int .i64 p.Ext, .int .i64 p.Author, .int .i64 p.Version, c3, c4, c5, c6, .int .i64 p.Seal]) := fun S5 gs' fl' op' dG dF dR dO hD5 q1 q2 q3 w1 w2 w3 w4 => by
   refine (zfx 5 (z4d ext x1 x2 gs' fl' rs op') _ _ (GPackage.rd w1 w2 w3 w4) (by rw [ztt]; dsimp only; omega)).mono ?_
   rintro r S' ⟨e9, g3, g4, g5, g6, rfl, f9⟩
   exact ⟨hD5.ext e9, zwg 5 (z4d ext x1 x2 gs' fl' rs op'), rfl, ⟨q1.2, q2, hr2, q3, q1.1⟩, g3, g4, g5, g6, rfl, f9.mono hD5.len⟩
  by_cases y0 : y = 0
  ·subst y0
   repeat' ((conv => whnf) <;> first
    | (refine rI rG rf hg0 ?_) | (show CondP _ _ _; refine cS ?_) | (refine dsto (q := 3) (k := 7) (xs := gs.map GGrant.d) (A := [.x (.int .i64 (gs[(0 : Int).toNat]'hg0.2).Ext)]) (B := [.x (.int .i64 (gs[(0 : Int).toNat]'hg0.2).Pattern.Owner)]) (Z := (gs[(0 : Int).toNat]'hg0.2).d.drop 2) hD hF rfl rfl (by rw [List.length_map]; exact hg0) (z69 hg0) rfl rfl rfl ?_; intro SN hDN hFN))
   all_goals try (exfalso; omega)
   have hFS : Fr S.length SN (GPackage.mk ext (1 + x1) (1 + x2) (gs.set 0 ⟨(gs[(0 : Int).toNat]'hg0.2).Ext, ⟨1, (gs[(0 : Int).toNat]'hg0.2).Pattern.Sub⟩, (gs[(0 : Int).toNat]'hg0.2).Kind, (gs[(0 : Int).toNat]'hg0.2).From, (gs[(0 : Int).toNat]'hg0.2).Until, (gs[(0 : Int).toNat]'hg0.2).Click⟩) fl rs ops 0).d [.int .i64 ext, .int .i64 (1 + x1), .int .i64 (1 + x2), cG, cF, cR, co, .int .i64 0] := by
    simp only [GPackage.d]; rw [List.map_set]; exact hFN
   obtain ⟨w1, w2, w3, w4⟩ := zmd hFS.rd
   (conv => whnf)
   refine zab (hfin SN _ fl _ _ _ _ _ hDN (by rw [List.length_set]; omega) hnl hOl w1 w2 w3 (hO _ w4)) ?_; rintro _ S9 ⟨hD9, p, hp, hq, d3, d4, d5, d6, rfl, h9⟩
   repeat' ((conv => whnf) <;> first
    | refine And.intro ?_ ?_)
   all_goals first
    | exact hD9
    | exact ⟨p, hp, hq, d3, d4, d5, d6, rfl, h9⟩
  by_cases y1 : y = 1
  ·subst y1
   repeat' ((conv => whnf) <;> first
    | (refine rI rG rf hg2 ?_) | (show CondP _ _ _; refine cS ?_) | (refine dsto (q := 3) (k := 7) (xs := gs.map GGrant.d) (A := [.x (.int .i64 (gs[(2 : Int).toNat]'hg2.2).Ext)]) (B := [.x (.int .i64 (gs[(2 : Int).toNat]'hg2.2).Pattern.Owner)]) (Z := (gs[(2 : Int).toNat]'hg2.2).d.drop 2) hD hF rfl rfl (by rw [List.length_map]; exact hg2) (z69 hg2) rfl rfl rfl ?_; intro SN hDN hFN))
   all_goals try (exfalso; omega)
   have hFS : Fr S.length SN (GPackage.mk ext (1 + x1) (1 + x2) (gs.set 2 ⟨(gs[(2 : Int).toNat]'hg2.2).Ext, ⟨1, (gs[(2 : Int).toNat]'hg2.2).Pattern.Sub⟩, (gs[(2 : Int).toNat]'hg2.2).Kind, (gs[(2 : Int).toNat]'hg2.2).From, (gs[(2 : Int).toNat]'hg2.2).Until, (gs[(2 : Int).toNat]'hg2.2).Click⟩) fl rs ops 0).d [.int .i64 ext, .int .i64 (1 + x1), .int .i64 (1 + x2), cG, cF, cR, co, .int .i64 0] := by
    simp only [GPackage.d]; rw [List.map_set]; exact hFN
   obtain ⟨w1, w2, w3, w4⟩ := zmd hFS.rd
   (conv => whnf)
   refine zab (hfin SN _ fl _ _ _ _ _ hDN (by rw [List.length_set]; omega) hnl hOl w1 w2 w3 (hO _ w4)) ?_; rintro _ S9 ⟨hD9, p, hp, hq, d3, d4, d5, d6, rfl, h9⟩
   repeat' ((conv => whnf) <;> first
    | refine And.intro ?_ ?_)
   all_goals first
    | exact hD9
    | exact ⟨p, hp, hq, d3, d4, d5, d6, rfl, h9⟩
  by_cases y2 : y = 2
  ·subst y2
   repeat' ((conv => whnf) <;> first
    | (show CondP _ _ _; refine cS ?_))
   all_goals try (exfalso; omega)
   (conv => whnf)
   refine zab (hfin (T4 ++ [⟨true, 3, []⟩]) gs [] _ _ _ _ _ (hD.push _) (by omega) (by simp) hOl (rG.ext (Ext.push _ _)) (zba (S := T4) (k := 3)).rd (rR.ext (Ext.push _ _)) (hO _ (rO.ext (Ext.push _ _)))) ?_; rintro _ S9 ⟨hD9, p, hp, hq, d3, d4, d5, d6, rfl, h9⟩
   repeat' ((conv => whnf) <;> first
    | refine And.intro ?_ ?_)
   all_goals first
    | exact hD9
    | exact ⟨p, hp, hq, d3, d4, d5, d6, rfl, h9⟩
  by_cases y3 : y = 3
  ·subst y3
   repeat' ((conv => whnf) <;> first
    | (refine z0d rG rf om ?_) | (show CondP _ _ _; refine cS ?_))
   all_goals try (exfalso; omega)
   (conv => whnf)
   refine zab (hfin T4 (gs.take 2) fl _ _ _ _ _ hD (by rw [List.length_take]; omega) hnl hOl (zvo rG (by omega)) rF rR (hO _ rO)) ?_; rintro _ S9 ⟨hD9, p, hp, hq, d3, d4, d5, d6, rfl, h9⟩
   repeat' ((conv => whnf) <;> first
    | refine And.intro ?_ ?_)
   all_goals first
    | exact hD9
    | exact ⟨p, hp, hq, d3, d4, d5, d6, rfl, h9⟩
  ·repeat' ((conv => whnf) <;> first
    | (show CondP _ _ _; refine cS ?_))
   all_goals try (exfalso; omega)
   (conv => whnf)
   refine zab (hfin T4 gs fl _ _ _ _ _ hD (by omega) hnl hOl rG rF rR (hO _ rO)) ?_; rintro _ S9 ⟨hD9, p, hp, hq, d3, d4, d5, d6, rfl, h9⟩
   repeat' ((conv => whnf) <;> first
    | refine And.intro ?_ ?_)
   all_goals first
    | exact hD9
    | exact ⟨p, hp, hq, d3, d4, d5, d6, rfl, h9⟩
structure L35 (id : Nat) (S : Store) (m : Nat) where
 k : Nat
 T : Store
 b : GBrowser
 c1 : C
 c2 : C
 c3 : C
 c4 : C
 c5 : C
 c6 : C
 hk : k ≤ m
 hD : Drw id S T
 hb : DrOk b
 hF : Fr S.length T b.d [.int .i64 b.Key, c1, c2, c3, c4, c5, c6, .int .i64 b.Now]
end Go.Proofs.YtlmmdpmmdmhacaaGreat
