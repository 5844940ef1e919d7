/- A text of the proof. A text of the proof. A text of the proof. A text of the proof. A text of the proof. -/
import Derived.Test.YtlmmdpmmdmhacaaGreatKm36
import Derived.Test.YtlmmdpmmdmhacaaGreatKm21
import Derived.Test.YtlmmdpmmdmhacaaGreatKm25
import Derived.Test.YtlmmdpmmdmhacaaGreatKm28
import Derived.Test.YtlmmdpmmdmhacaaGreatKm27
import Derived.Test.YtlmmdpmmdmhacaaGreatKm26
namespace Go.Proofs.YtlmmdpmmdmhacaaGreat
open Go Go.ChangeShapes Go.WideShapes Go.ChangeAt Go.RowKit
set_option linter.unusedVariables false
set_option linter.unusedSimpArgs false
set_option maxRecDepth 100000
theorem ex_l9Pattern {o s : Int} (h1 : 0 ≤ o ∧ o ≤ 9) (h2 : -1 ≤ s ∧ s ≤ 9) : ∃ x : GPattern, (isPattern x = true) ∧ AV.v (.agg [.int .i64 o, .int .i64 s]) = .v (.agg x.c) :=
  ⟨⟨o, s⟩, by simp only [isPattern, inR, Bool.and_eq_true, decide_eq_true_eq]; omega, rfl⟩
theorem ev_l9Pattern {id : Nat} {S : Store} (h : Cur id S) : EvA Tryz.prog 238 [.s (.pt id)] S (fun r S' => Drw id S S' ∧ ∃ x : GPattern, (isPattern x = true) ∧ r = .v (.agg x.c)) := by
  have hlt := h.lt
  have hD := Drw.refl h
  have hF : Fr S.length S [] [] := fr_nil
  refine evA_intro tok Tryz.func238 (by kernel_rfl) rfl ?_
  repeat' ((conv => whnf) <;> first
   | rw [wrapI_i64 (by omega)] | (refine callP_intro (ev_l1Below _ hD.cur) ?_; rintro _ Sn ⟨hDn, xn, hxn, rfl⟩; replace hF := hF.drw hlt hDn; replace hD := hD.trans hDn; clear hDn) | refine And.intro ?_ ?_)
  all_goals first
    | exact hD
    | exact ex_l9Pattern (by omega) (by omega)
theorem ex_l11Draw {e k : Int} {p : GPattern} (h1 : 0 ≤ e ∧ e ≤ 5) (hp : isPattern p = true) (h2 : 0 ≤ k ∧ k ≤ 4) : ∃ x : GLimit, (isLimit x = true) ∧ AV.v (.agg [.int .i64 e, .int .i64 p.Owner, .int .i64 p.Sub, .int .i64 k]) = .v (.agg x.c) :=
  ⟨⟨e, p, k⟩, by simp only [isLimit, inR, Bool.and_eq_true, decide_eq_true_eq]; exact ⟨⟨by omega, hp⟩, by omega⟩, rfl⟩
theorem ev_l11Draw {id : Nat} {S : Store} (h : Cur id S) : EvA Tryz.prog 192 [.s (.pt id)] S (fun r S' => Drw id S S' ∧ ∃ x : GLimit, (isLimit x = true) ∧ r = .v (.agg x.c)) := by
  have hlt := h.lt
  have hD := Drw.refl h
  have hF : Fr S.length S [] [] := fr_nil
  refine evA_intro tok Tryz.func192 (by kernel_rfl) rfl ?_
  repeat' ((conv => whnf) <;> first
   | (refine callP_intro (ev_l1Below _ hD.cur) ?_; rintro _ Sn ⟨hDn, xn, hxn, rfl⟩; replace hF := hF.drw hlt hDn; replace hD := hD.trans hDn; clear hDn) | (refine callP_intro (ev_l9Pattern hD.cur) ?_; rintro _ Sn ⟨hDn, pn, hpn, rfl⟩; replace hF := hF.drw hlt hDn; replace hD := hD.trans hDn; clear hDn) | refine And.intro ?_ ?_)
  all_goals first
    | exact hD
    | exact ex_l11Draw (by omega) (by assumption) (by omega)
theorem ex_l13D {e q t a : Int} {p : GPattern} {s : GSite} (h1 : 1 ≤ e ∧ e ≤ 3) (h2 : 1 ≤ q ∧ q ≤ 9) (hp : isPattern p = true) (h3 : 0 ≤ t ∧ t ≤ 4) (ha : a = 3) (hs : isSite s = true) : ∃ x : GRule, (isRule x = true ∧ 1 ≤ x.Ext ∧ x.Ext ≤ 3) ∧ AV.v (.agg [.int .i64 e, .int .i64 q, .int .i64 p.Owner, .int .i64 p.Sub, .int .i64 t, .int .i64 a, .int .i64 s.Owner, .int .i64 s.Sub]) = .v (.agg x.c) :=
  ⟨⟨e, q, p, t, a, s⟩, ⟨by subst ha; simp only [isRule, inR, hp, hs, Bool.and_eq_true, Bool.or_eq_true, decide_eq_true_eq]; refine ⟨⟨⟨⟨?_, ?_⟩, ?_⟩, ?_⟩, .inl ⟨?_, ?_⟩⟩ <;> first | trivial | omega, h1.1, h1.2⟩, rfl⟩
theorem ex_l13N {e q t a : Int} {p : GPattern} (h1 : 1 ≤ e ∧ e ≤ 3) (h2 : 1 ≤ q ∧ q ≤ 9) (hp : isPattern p = true) (h3 : 0 ≤ t ∧ t ≤ 4) (ha : a = 1 ∨ a = 2) : ∃ x : GRule, (isRule x = true ∧ 1 ≤ x.Ext ∧ x.Ext ≤ 3) ∧ AV.v (.agg [.int .i64 e, .int .i64 q, .int .i64 p.Owner, .int .i64 p.Sub, .int .i64 t, .int .i64 a, .int .i64 0, .int .i64 0]) = .v (.agg x.c) :=
  ⟨⟨e, q, p, t, a, ⟨0, 0⟩⟩, ⟨by simp only [isRule, inR, hp, Bool.and_eq_true, Bool.or_eq_true, decide_eq_true_eq]; refine ⟨⟨⟨⟨?_, ?_⟩, ?_⟩, ?_⟩, .inr ⟨⟨ha, ?_⟩, ?_⟩⟩ <;> first | trivial | omega, h1.1, h1.2⟩, rfl⟩
set_option maxHeartbeats 2000000 in
theorem ev_l13Draw {id : Nat} {S : Store} (h : Cur id S) : EvA Tryz.prog 167 [.s (.pt id)] S (fun r S' => Drw id S S' ∧ ∃ x : GRule, (isRule x = true ∧ 1 ≤ x.Ext ∧ x.Ext ≤ 3) ∧ r = .v (.agg x.c)) := by
  have hlt := h.lt
  have hD := Drw.refl h
  have hF : Fr S.length S [] [] := fr_nil
  refine evA_intro tok Tryz.func167 (by kernel_rfl) rfl ?_
  repeat' ((conv => whnf) <;> first
   | rw [wrapI_i64 (by omega)] | refine cD (fun _ => ?_) fun _ => ?_ | (refine callP_intro (ev_l1Below _ hD.cur) ?_; rintro _ Sn ⟨hDn, xn, hxn, rfl⟩; replace hF := hF.drw hlt hDn; replace hD := hD.trans hDn; clear hDn) | (refine callP_intro (ev_l9Site hD.cur) ?_; rintro _ Sn ⟨hDn, sn, hsn, rfl⟩; replace hF := hF.drw hlt hDn; replace hD := hD.trans hDn; clear hDn) | (refine callP_intro (ev_l9Pattern hD.cur) ?_; rintro _ Sn ⟨hDn, pn, hpn, rfl⟩; replace hF := hF.drw hlt hDn; replace hD := hD.trans hDn; clear hDn) | refine And.intro ?_ ?_)
  all_goals first
    | exact hD
    | exact ex_l13D (by omega) (by omega) (by assumption) (by omega) (by omega) (by first | assumption | exact hsn.1)
    | exact ex_l13N (by omega) (by omega) (by assumption) (by omega) (by omega)
theorem ex_l21Op {k a b c : Int} (h : isOp ⟨k, a, b, c⟩ = true) : ∃ x : GOp, (isOp x = true) ∧ AV.v (.agg [.int .i64 k, .int .i64 a, .int .i64 b, .int .i64 c]) = .v (.agg x.c) := ⟨⟨k, a, b, c⟩, h, rfl⟩
set_option maxHeartbeats 2000000 in
theorem ev_l21Op {id : Nat} {S : Store} (h : Cur id S) : EvA Tryz.prog 237 [.s (.pt id)] S (fun r S' => Drw id S S' ∧ ∃ x : GOp, (isOp x = true) ∧ r = .v (.agg x.c)) := by
  have hlt := h.lt
  have hD := Drw.refl h
  have hF : Fr S.length S [] [] := fr_nil
  refine evA_intro tok Tryz.func237 (by kernel_rfl) rfl ?_
  repeat' ((conv => whnf) <;> first
   | rw [wrapI_i64 (by omega)] | refine cD (fun _ => ?_) fun _ => ?_ | (refine callP_intro (ev_l1Below _ hD.cur) ?_; rintro _ Sn ⟨hDn, xn, hxn, rfl⟩; replace hF := hF.drw hlt hDn; replace hD := hD.trans hDn; clear hDn) | refine And.intro ?_ ?_)
  all_goals first
    | exact hD
    | exact ex_l21Op (by simp only [isOp, inR, Bool.and_eq_true, Bool.or_eq_true, decide_eq_true_eq, and_true]; omega)
set_option maxHeartbeats 2000000 in
theorem ev_l21Ops {id : Nat} {S : Store} (h : Cur id S) : EvA Tryz.prog 166 [.s (.pt id)] S (fun r S' => Drw id S S' ∧ ∃ l : List GOp, (∀ x ∈ l, isOp x = true) ∧ l.length ≤ 9 ∧ ∃ c', r = .v (.s c') ∧ Fr S.length S' [.sl 4 (l.map GOp.d)] [c']) := by
  have hlt := h.lt
  have hD := Drw.refl h
  have hF : Fr S.length S [] [] := fr_nil
  refine evA_intro tok Tryz.func166 (by kernel_rfl) rfl ?_
  skip
  (conv => whnf)
  have hD1 := hD.push ⟨true, 4, []⟩
  have hF1 := hF.pushD (k := 4) (f := GOp.d) hD.len [] (fun _ => trivial) (by decide) (rows := []) rfl
  refine callP_intro (ev_l1Below _ hD1.cur) ?_; rintro _ Sn ⟨hDn, xn, hxn, rfl⟩
  replace hF1 := hF1.drw hlt hDn
  replace hD1 := hD1.trans hDn
  obtain ⟨n, rfl⟩ := Int.eq_ofNat_of_zero_le hxn.1
  skip
  refine loop_intro {q : Nat × Store × C // q.1 ≤ 9 ∧ Drw id S q.2.1 ∧ ∃ l : List GOp, (∀ x ∈ l, isOp x = true) ∧ l.length + q.1 ≤ 9 ∧ Fr S.length q.2.1 [.sl 4 (l.map GOp.d)] [q.2.2]} [3, 4, 8, 9, 10, 11, 12, 13, 14, 15, 16] (fun zb => [(4, .v (.s (.int .i64 (zb.1.1 : Nat)))), (3, .v (.s zb.1.2.2))]) (fun zb => zb.1.2.1) (fun zb => zb.1.1) ⟨(n, _, _), by have := hxn.2.2.1 (by omega); dsimp only; omega, hD1, [], fun _ h => (by cases h), by have := hxn.2.2.1 (by omega); simp; omega, hF1⟩ ?_ rfl ?_
  · (conv => whnf); repeat' (first | exact trivial | exact rfl | apply And.intro)
  rintro ⟨⟨k, Si, ci⟩, hk, hP⟩; dsimp only
  clear hF hD hD1 hF1 hDn hxn
  replace hk : k ≤ 9 := hk
  obtain ⟨hD, l, hx, hl, hF⟩ : Drw id S Si ∧ ∃ l : List GOp, (∀ x ∈ l, isOp x = true) ∧ l.length + k ≤ 9 ∧ Fr S.length Si [.sl 4 (l.map GOp.d)] [ci] := hP
  repeat' ((conv => whnf) <;> first
   | rw [wrapI_i64 (by omega)] | refine cD (fun _ => ?_) fun _ => ?_ | (refine callP_intro (ev_l21Op hD.cur) ?_; rintro _ Sn ⟨hDn, opn, hopn, rfl⟩; replace hF := hF.drw hlt hDn; replace hD := hD.trans hDn; clear hDn) | (refine dappF (f := GOp.d) (o := 0) (l := l) (m := [_]) (fun _ => trivial) hD hF rfl rfl rfl rf (by dsimp only [T225]; simp only [List.length_singleton]; omega) (by simp only [List.length_singleton]; omega) ?_; intro cN SN hDN hFN) | refine And.intro ?_ ?_)
  all_goals first
    | exact hD
    | exact ⟨l, hx, by omega, _, rfl, hF⟩
    | (refine ⟨⟨(k - 1, SN, cN), by dsimp only; omega, hDN, _, fun x hx' => ?_, by rw [List.length_append]; show l.length + 1 + (k - 1) ≤ 9; omega, hFN⟩, ?_, rfl, by dsimp only; omega⟩
       · rcases List.mem_append.1 hx' with h | h
         · exact hx x h
         · rw [List.mem_singleton.1 h]; exact hopn
       · (conv => whnf); repeat' (first | exact trivial | exact rfl | (show _ = _; congr 3; dsimp only; omega) | apply And.intro))
end Go.Proofs.YtlmmdpmmdmhacaaGreat
namespace Go.Proofs.YtlmmdpmmdmhacaaGreat
open Go Go.ChangeShapes Go.WideShapes Go.ChangeAt Go.RowKit
set_option linter.unusedVariables false
set_option linter.unusedSimpArgs false
set_option maxRecDepth 100000
theorem Fr.pushMv {lo k : Nat} {S : Store} {ds dy : List D} {cs cy : List C} (h : Fr lo S (ds ++ dy) (cs ++ cy)) (hl : cs.length = ds.length) (hlo : lo ≤ S.length) {rows : List (List C)} (hr : rows = [cy]) :
    Fr lo (S ++ [⟨true, k, rows⟩]) (ds ++ [.sl k [dy]]) (cs ++ [.sl S.length 0 1 1]) := by
  subst hr
  obtain ⟨ids, hg, hn, hlo'⟩ := h
  obtain ⟨p1, p2, ia, jy, s1, s2, h, hy⟩ := hg.split
  obtain ⟨s3, s4⟩ := List.append_inj s1 (by rw [hl, h.len])
  subst s3; subst s4; subst s2
  have hlt := h.lt
  have hylt := hy.lt
  rw [List.nodup_append] at hn
  have keep : ∀ j, j < S.length → (S ++ ([⟨true, k, [cy]⟩] : Store))[j]? = S[j]? := fun j hj => List.getElem?_append_left hj
  have h2 : RepL true (S ++ ([⟨true, k, [cy]⟩] : Store)) ds cs ia := h.frame fun j hj => keep j (hlt j hj)
  have hy2 : RepL true (S ++ ([⟨true, k, [cy]⟩] : Store)) dy cy jy := hy.frame fun j hj => keep j (hylt j hj)
  refine ⟨ia ++ ((S.length :: jy) ++ []), h2.append ?_, ?_, fun j hj => ?_⟩
  · rw [repL_cons]
    refine ⟨_, [], S.length :: jy, [], rfl, rfl, ?_, by rw [repL_nil]; exact ⟨rfl, rfl⟩⟩
    unfold Rep
    refine ⟨by rw [maxLen_eq]; simp, .inr ⟨S.length, 0, 1, ⟨true, k, [cy]⟩, jy, rfl, rfl, by simp, rfl, rfl, by simp, fun _ => ⟨rfl, rfl, rfl⟩, ?_⟩⟩
    show Rep2 true _ [dy] [cy] jy
    rw [rep2_cons]
    exact ⟨cy, [], jy, [], rfl, by simp, hy2, by rw [rep2_nil]; exact ⟨rfl, rfl⟩⟩
  · rw [List.append_nil, List.nodup_append, List.nodup_cons]
    refine ⟨hn.1, ⟨fun hm => by have := hylt _ hm; omega, hn.2.1⟩, fun a ha b hb => ?_⟩
    rcases List.mem_cons.1 hb with rfl | hb
    · have := hlt a ha; omega
    · exact hn.2.2 a ha b hb
  · simp only [List.append_nil, List.mem_append, List.mem_cons] at hj
    rcases hj with hj | rfl | hj
    · exact hlo' j (by simp [hj])
    · exact hlo
    · exact hlo' j (by simp [hj])
theorem dappMv {id o k by' : Nat} {S0 S : Store} {c : C} {ds : List D} {cs : List C} {xs : List (List D)} {dy : List D} {cy : List C} {K : C → Store → Prop}
    (hD : Drw id S0 S) (h : Fr S0.length S (ds ++ dy) (cs ++ cy)) (hl : cs.length = ds.length) (hd : ds[o]? = some (.sl k xs)) (hc : cs[o]? = some c)
    (hk : dy.length = k) (hb : (xs.length + 1) * by' ≤ 140737488355328) (hm : xs.length + 1 ≤ 9223372036854775807)
    (hK : ∀ c' S', Drw id S0 S' → Fr S0.length S' (ds.set o (.sl k (xs ++ [dy]))) (cs.set o c') → K c' S') : AppP k by' S c [cy] K := by
  have ht := take_len hD
  exact fr_appMv (S0 := S.take S0.length) (take_ext S _) (by rw [ht]; exact h) hl hd hc hk hb hm fun c' S' e f _ => hK c' S' (hD.own e) (by rw [ht] at f; exact f)
theorem szLL_max {α : Type} {f : α → List D} {m : Nat} : ∀ {l : List α}, (∀ x ∈ l, szL (f x) ≤ m) → szL.szLL (l.map f) ≤ l.length * m
  | [], _ => by rw [List.map_nil, szL.szLL]; omega
  | x :: l, h => by
    have := szLL_max (l := l) fun y hy => h y (List.mem_cons_of_mem _ hy)
    have hx := h x (List.mem_cons_self ..)
    rw [List.map_cons, szL.szLL, List.length_cons, Nat.add_mul]; omega
theorem tab_szD (t : GTab) : szL t.d = t.Base.length + (t.Edits.length + t.Hidden.length) := by
  simp only [GTab.d, szL, List.length_map]
  rw [szLL_flat (f := GNode.d) (by intro x; simp only [szL, GNode.d]), szLL_flat (f := GEdit.d) (by intro x; simp only [szL, GEdit.d]), szLL_flat (f := dInt) (by intro x; simp only [szL, dInt])]
  omega
theorem ed_at {l : List GEdit} {i : Int} (h : 0 ≤ i ∧ i.toNat < l.length) : (l.map GEdit.d)[i.toNat]? = some (l[i.toNat]'h.2).d := by simp [h.2]
theorem isEdit_by {e : GEdit} (h : isEdit e = true) (n : Int) (hn : 0 ≤ n ∧ n ≤ 5) : isEdit ⟨e.Kind, e.Node, e.Parent, e.Tag, e.Text, n⟩ = true := by
  simp only [isEdit, inR, Bool.and_eq_true, decide_eq_true_eq] at h ⊢; omega
theorem isTab_set {t : GTab} {l : List GEdit} {i : Nat} {e : GEdit} (h : isTab { t with Edits := l } = true) (he : isEdit e = true) : isTab { t with Edits := l.set i e } = true := by
  unfold isTab at h ⊢
  simp only [Bool.and_eq_true, decide_eq_true_eq] at h ⊢
  refine ⟨⟨⟨⟨h.1.1.1.1, ?_⟩, h.1.1.2⟩, ?_⟩, h.2⟩
  · have := h.1.1.1.2; simpa using this
  · have ha := h.1.2
    rw [List.all_eq_true] at ha ⊢
    intro x hx
    rcases List.mem_or_eq_of_mem_set hx with hx | rfl
    · exact ha x hx
    · exact he
theorem tab_edit {t : GTab} (h : isTab t = true) : ∀ e ∈ t.Edits, isEdit e = true := by
  unfold isTab at h
  simp only [Bool.and_eq_true] at h
  exact fun e he => List.all_eq_true.1 h.1.2 e he
set_option maxHeartbeats 2000000 in
theorem ev_l32Tab {id : Nat} {S : Store} (h : Cur id S) : EvA Tryz.prog 184 [.s (.pt id)] S (fun r S' => Drw id S S' ∧ ∃ t : GTab, isTab t = true ∧ (∀ e ∈ t.Edits, e.By = 0) ∧ (∀ n ∈ t.Base, n.By = 0) ∧ (t.Base.length ≤ 7 ∧ t.Edits.length ≤ 5 ∧ t.Hidden.length ≤ 2) ∧ ∃ c2 c3 c4, r = .v (.agg [.int .i64 t.Site.Owner, .int .i64 t.Site.Sub, c2, c3, c4, .int .i64 t.Click]) ∧ Fr S.length S' t.d [.int .i64 t.Site.Owner, .int .i64 t.Site.Sub, c2, c3, c4, .int .i64 t.Click]) := by
  have hlt := h.lt
  have hD := Drw.refl h
  have hF : Fr S.length S [] [] := fr_nil
  refine evA_intro tok Tryz.func184 (by kernel_rfl) rfl ?_
  skip
  (conv => whnf)
  refine callP_intro (ev_l31Draw hD.cur) ?_; rintro _ Sn ⟨hDn, t, hT, hb0, hz, c2, c3, c4, rfl, hFn⟩
  clear hF hD
  skip
  refine loop_intro {q : Nat × Store // q.1 ≤ t.Edits.length ∧ Drw id S q.2 ∧ ∃ l : List GEdit, l.length = t.Edits.length ∧ isTab { t with Edits := l } = true ∧ (∀ j (hj : j < l.length), j < q.1 → (l[j]).By = 0) ∧ Fr S.length q.2 (GTab.d { t with Edits := l }) [.int .i64 t.Site.Owner, .int .i64 t.Site.Sub, c2, c3, c4, .int .i64 t.Click]} [4, 7, 8, 9, 10, 11, 12, 13, 14, 15, 16, 17, 18] (fun zb => [(4, .v (.s (.int .i64 (zb.1.1 : Nat))))]) (fun zb => zb.1.2) (fun zb => t.Edits.length - zb.1.1) ⟨(0, _), Nat.zero_le _, hDn, t.Edits, rfl, hT, fun j _ hj => absurd hj (Nat.not_lt_zero j), hFn⟩ ?_ rfl ?_
  · (conv => whnf); repeat' (first | exact trivial | exact rfl | apply And.intro)
  rintro ⟨⟨k, Si⟩, hk, hP⟩; dsimp only
  clear hDn hFn
  replace hk : k ≤ t.Edits.length := hk
  obtain ⟨hD, l, hl, hTl, hb, hF⟩ : Drw id S Si ∧ ∃ l : List GEdit, l.length = t.Edits.length ∧ isTab { t with Edits := l } = true ∧ (∀ j (hj : j < l.length), j < k → (l[j]).By = 0) ∧ Fr S.length Si (GTab.d { t with Edits := l }) [.int .i64 t.Site.Owner, .int .i64 t.Site.Sub, c2, c3, c4, .int .i64 t.Click] := hP
  have r3 : Rd Si [.sl 6 (l.map GEdit.d)] [c3] := hF.rdAt (o := 3) rfl rfl
  by_cases hlt2 : k < l.length
  · have hi0 : 0 ≤ ((k : Nat) : Int) ∧ ((k : Nat) : Int).toNat < l.length := ⟨by omega, by rw [Int.toNat_natCast]; exact hlt2⟩
    repeat' ((conv => whnf) <;> first
     | (refine rI r3 rf hi0 ?_) | (refine rd_lenm r3 ?_; intro hml; rw [maxLen_eq] at hml) | rw [wrapI_i64 (by omega)] | refine cD (fun _ => ?_) fun _ => ?_ | (refine dsto (q := 3) (k := 6) (xs := l.map GEdit.d) (A := [.x (.int .i64 (l[((k : Nat) : Int).toNat]'hi0.2).Kind), .x (.int .i64 (l[((k : Nat) : Int).toNat]'hi0.2).Node), .x (.int .i64 (l[((k : Nat) : Int).toNat]'hi0.2).Parent), .x (.int .i64 (l[((k : Nat) : Int).toNat]'hi0.2).Tag), .x (.int .i64 (l[((k : Nat) : Int).toNat]'hi0.2).Text)]) (B := [.x (.int .i64 (l[((k : Nat) : Int).toNat]'hi0.2).By)]) (Z := []) hD hF rfl rfl (by rw [List.length_map]; exact hi0) (ed_at hi0) rfl rfl rfl ?_; intro SN hDN hFN) | refine And.intro ?_ ?_)
    all_goals try (exfalso; omega)
    have he := tab_edit hTl _ (List.getElem_mem (show k < l.length from hlt2))
    refine ⟨⟨(k + 1, SN), by dsimp only; omega, hDN, l.set k ⟨(l[k]).Kind, (l[k]).Node, (l[k]).Parent, (l[k]).Tag, (l[k]).Text, 0⟩, by rw [List.length_set]; exact hl, isTab_set hTl (isEdit_by he 0 (by omega)), fun j hj hjk => ?_, ?_⟩, ?_, rfl, by dsimp only; omega⟩
    · rw [List.getElem_set]
      split
      · rfl
      · exact hb j (by rw [List.length_set] at hj; exact hj) (by dsimp only at hjk; omega)
    · simp only [GTab.d]
      rw [List.map_set]; exact hFN
    · (conv => whnf); repeat' (first | exact trivial | exact rfl | apply And.intro)
  repeat' ((conv => whnf) <;> first
   | (refine rd_lenm r3 ?_; intro hml; rw [maxLen_eq] at hml) | refine cD (fun _ => ?_) fun _ => ?_ | refine rI rdA rf ix ?_ | refine And.intro ?_ ?_)
  all_goals first
    | exact hD
    | (exfalso; omega)
    | (refine ⟨{ t with Edits := l }, hTl, fun e he => ?_, hb0, ⟨hz.1, by dsimp only; omega, hz.2.2⟩, c2, c3, c4, rfl, hF⟩
       obtain ⟨j, hj, rfl⟩ := List.mem_iff_getElem.1 he
       have hj' : j < l.length := hj
       exact hb j hj' (by omega))
theorem newB_ok {tabs : List GTab} (h1 : 1 ≤ tabs.length ∧ tabs.length ≤ 3) (ht : ∀ t ∈ tabs, isTab t = true ∧ ∀ e ∈ t.Edits, e.By = 0) : isBrowser (newB 5 tabs) = true := by
  have hl : inR tabs.length 1 3 = true := by simp only [inR, Bool.and_eq_true, decide_eq_true_eq]; omega
  have h0 : isB0 (newB 5 tabs) = true := by
    simp only [isB0, newB, hl]
    rfl
  have htb : tabs.all (fun x => tabOk (newB 5 tabs) x) = true := by
    rw [List.all_eq_true]
    intro t hm
    obtain ⟨a, b⟩ := ht t hm
    unfold tabOk
    rw [a, Bool.true_and, List.all_eq_true]
    intro e he
    unfold edOk
    rw [b e he]; rfl
  unfold isBrowser
  rw [h0]
  show (true && packsGo _ [] 0 && tabs.all (fun x => tabOk (newB 5 tabs) x) && _ && _ && _ && _) = true
  rw [htb]; rfl
set_option maxHeartbeats 4000000 in
theorem ev_l32Draw {id : Nat} {S : Store} (h : Cur id S) : EvA Tryz.prog 95 [.s (.pt id)] S (fun r S' => Drw id S S' ∧ ∃ ts : List GTab, isBrowser (newB 5 ts) = true ∧ (∀ t ∈ ts, ∀ n ∈ t.Base, n.By = 0) ∧ (1 ≤ ts.length ∧ ts.length ≤ 3 ∧ ∀ t ∈ ts, t.Base.length ≤ 7 ∧ t.Edits.length ≤ 5 ∧ t.Hidden.length ≤ 2) ∧ ∃ c1 c2 c3 c4 c5 c6, r = .v (.agg [.int .i64 5, c1, c2, c3, c4, c5, c6, .int .i64 0]) ∧ Fr S.length S' (newB 5 ts).d [.int .i64 5, c1, c2, c3, c4, c5, c6, .int .i64 0]) := by
  have hlt := h.lt
  have hD := Drw.refl h
  have hF : Fr S.length S [] [] := fr_nil
  refine evA_intro tok Tryz.func95 (by kernel_rfl) rfl ?_
  skip
  (conv => whnf)
  refine callP_intro (ev_l32Tab hD.cur) ?_; rintro _ S1 ⟨hD1, t0, hT0, hb0, hn0, hz0, c2, c3, c4, rfl, hF1⟩
  skip
  (conv => whnf)
  have hF2 := Fr.pushMv (k := 6) (ds := []) (cs := []) hF1 rfl hD1.len rfl
  have hD2 := hD1.push ⟨true, 6, [[.int .i64 t0.Site.Owner, .int .i64 t0.Site.Sub, c2, c3, c4, .int .i64 t0.Click]]⟩
  refine callP_intro (ev_l1Below _ hD2.cur) ?_; rintro _ Sn ⟨hDn, xn, hxn, rfl⟩
  replace hF2 := hF2.drw hlt hDn
  replace hD2 := hD2.trans hDn
  obtain ⟨n, rfl⟩ := Int.eq_ofNat_of_zero_le hxn.1
  skip
  refine loop_intro {q : Nat × Store × C // q.1 ≤ 2 ∧ Drw id S q.2.1 ∧ ∃ l : List GTab, (∀ t ∈ l, isTab t = true ∧ ∀ e ∈ t.Edits, e.By = 0) ∧ (∀ t ∈ l, ∀ n ∈ t.Base, n.By = 0) ∧ (∀ t ∈ l, t.Base.length ≤ 7 ∧ t.Edits.length ≤ 5 ∧ t.Hidden.length ≤ 2) ∧ (1 ≤ l.length ∧ l.length + q.1 ≤ 3) ∧ Fr S.length q.2.1 [.sl 6 (l.map GTab.d)] [q.2.2]} [3, 4, 12, 13, 14, 15, 16, 17, 18, 19, 20] (fun zb => [(4, .v (.s (.int .i64 (zb.1.1 : Nat)))), (3, .v (.s zb.1.2.2))]) (fun zb => zb.1.2.1) (fun zb => zb.1.1) ⟨(n, _, _), by have := hxn.2.2.1 (by omega); dsimp only; omega, hD2, [t0], fun t ht => by rw [List.mem_singleton.1 ht]; exact ⟨hT0, hb0⟩, fun t ht => by rw [List.mem_singleton.1 ht]; exact hn0, fun t ht => by rw [List.mem_singleton.1 ht]; exact hz0, by have := hxn.2.2.1 (by omega); simp; omega, hF2⟩ ?_ rfl ?_
  · (conv => whnf); repeat' (first | exact trivial | exact rfl | apply And.intro)
  rintro ⟨⟨k, Si, ci⟩, hk, hP⟩; dsimp only
  clear hF hD hD1 hF1 hD2 hF2 hDn hxn
  replace hk : k ≤ 2 := hk
  obtain ⟨hD, l, hT, hN, hz, hl, hF⟩ : Drw id S Si ∧ ∃ l : List GTab, (∀ t ∈ l, isTab t = true ∧ ∀ e ∈ t.Edits, e.By = 0) ∧ (∀ t ∈ l, ∀ n ∈ t.Base, n.By = 0) ∧ (∀ t ∈ l, t.Base.length ≤ 7 ∧ t.Edits.length ≤ 5 ∧ t.Hidden.length ≤ 2) ∧ (1 ≤ l.length ∧ l.length + k ≤ 3) ∧ Fr S.length Si [.sl 6 (l.map GTab.d)] [ci] := hP
  have hszm : szL.szLL (l.map GTab.d) ≤ l.length * 14 := szLL_max fun t ht => by have := hz t ht; have := tab_szD t; omega
  by_cases hk0 : 0 < k
  · repeat' ((conv => whnf) <;> first
     | (show CondP _ _ _; refine cS ?_))
    (conv => whnf)
    refine callP_intro (ev_l32Tab hD.cur) ?_; rintro _ S2 ⟨hDn, t, hTt, hbt, hnt, hzt, e2, e3, e4, rfl, hFn⟩
    replace hF := hF.joinD hlt hDn hFn hD.len
    replace hD := hD.trans hDn
    clear hDn hFn
    repeat' ((conv => whnf) <;> first
     | rw [wrapI_i64 (by omega)] | (refine dappMv (ds := [.sl 6 (l.map GTab.d)]) (cs := [ci]) (dy := t.d) (o := 0) hD hF rfl rfl rfl rfl (by dsimp only [T48]; simp only [List.length_map]; omega) (by simp only [List.length_map]; omega) ?_; intro cN SN hDN hFN))
    all_goals try (exfalso; omega)
    refine ⟨⟨(k - 1, SN, cN), by dsimp only; omega, hDN, l ++ [t], fun x hx => ?_, fun x hx => ?_, fun x hx => ?_, by simp only [List.length_append, List.length_singleton]; omega, ?_⟩, ?_, rfl, by dsimp only; omega⟩
    · rcases List.mem_append.1 hx with h | h
      · exact hT x h
      · rw [List.mem_singleton.1 h]; exact ⟨hTt, hbt⟩
    · rcases List.mem_append.1 hx with h | h
      · exact hN x h
      · rw [List.mem_singleton.1 h]; exact hnt
    · rcases List.mem_append.1 hx with h | h
      · exact hz x h
      · rw [List.mem_singleton.1 h]; exact hzt
    · rw [List.map_append]; exact hFN
    · (conv => whnf); repeat' (first | exact trivial | exact rfl | (show _ = _; congr 3; dsimp only; omega) | apply And.intro)
  · repeat' ((conv => whnf) <;> first
     | (show CondP _ _ _; refine cS ?_))
    (conv => whnf)
    refine callP_intro (ev_sNewBrowser 5 l _ _ hF.rd (by omega)) ?_; rintro _ S2 ⟨e2, c1, c2', c3', c4', c5, c6, rfl, hFn⟩
    have hok := newB_ok ⟨hl.1, by omega⟩ hT
    rw [show newBrowser 5 l = (newB 5 l, true) from if_pos hok] at hFn ⊢
    replace hF := hFn.mono hD.len
    replace hD := hD.ext e2
    repeat' ((conv => whnf) <;> first
     | refine And.intro ?_ ?_)
    all_goals first
      | exact hD
      | exact ⟨l, hok, hN, ⟨hl.1, by omega, hz⟩, c1, c2', c3', c4', c5, c6, rfl, hF⟩
end Go.Proofs.YtlmmdpmmdmhacaaGreat
namespace Go.Proofs.YtlmmdpmmdmhacaaGreat
open Go Go.ChangeShapes Go.WideShapes Go.ChangeAt Go.RowKit
set_option linter.unusedVariables false
set_option linter.unusedSimpArgs false
set_option maxRecDepth 100000
theorem pk_szD (p : GPackage) : szL p.d = p.Grants.length + (p.Flows.length + (p.Rules.length + p.Ops.length)) := by
  simp only [GPackage.d, szL, List.length_map]
  rw [szLL_flat (f := GGrant.d) (by intro x; simp only [szL, GGrant.d]), szLL_flat (f := GFlow.d) (by intro x; simp only [szL, GFlow.d]), szLL_flat (f := GRule.d) (by intro x; simp only [szL, GRule.d]), szLL_flat (f := GOp.d) (by intro x; simp only [szL, GOp.d])]
  omega
theorem fr_snocX {lo : Nat} {S : Store} {d : D} {c x : C} (h : Fr lo S [d] [c]) : Fr lo S [d, .x x] [c, x] := by
  obtain ⟨ids, h, hn, hl⟩ := h
  refine ⟨ids ++ [], h.append (ys := [.x x]) (cs' := [x]) (by rw [repL_cons]; exact ⟨x, [], [], [], rfl, rfl, by rw [rep_x]; exact ⟨rfl, rfl⟩, by rw [repL_nil]; exact ⟨rfl, rfl⟩⟩), by rw [List.append_nil]; exact hn, fun j hj => hl j (by simpa using hj)⟩
end Go.Proofs.YtlmmdpmmdmhacaaGreat
namespace Go.Proofs.YtlmmdpmmdmhacaaGreat
open Go Go.ChangeShapes Go.WideShapes Go.ChangeAt Go.RowKit
set_option linter.unusedVariables false
set_option linter.unusedSimpArgs false
set_option maxRecDepth 100000
theorem ev_l24Find (l : List GStored) (ext name : Int) (c : C) (S : Store) (h : Rd S [.sl 4 (l.map GStored.d)] [c]) : EvA Tryz.prog 294 [.s c, .s (.int .i64 ext), .s (.int .i64 name)] S (fun r S' => S' = S ∧ ∃ x : Int, (-1 ≤ x ∧ x < l.length) ∧ r = .v (.s (.int .i64 x))) := by
  refine evA_intro tok Tryz.func294 (by kernel_rfl) rfl ?_
  skip
  refine loop_intro {i : Nat // i ≤ l.length ∧ True} [6, 7, 8, 9, 10, 11, 12, 13, 14, 15, 16, 17, 18, 19, 20, 21, 22, 23, 24, 25, 26, 27, 28, 29, 30] (fun zb => [(7, .v (.s (.int .i64 zb.1)))]) (fun _ => S) (fun zb => l.length - zb.1) ⟨0, Nat.zero_le _, trivial⟩ ?_ rfl ?_
  · (conv => whnf); repeat' (first | exact trivial | exact rfl | apply And.intro)
  rintro ⟨i, hi, hinv⟩; dsimp only
  repeat' ((conv => whnf) <;> first
   | rw [wrapI_i64 (by omega)] | refine cD (fun _ => ?_) fun _ => ?_ | refine cF ?_ | refine rE fun hml => ?_ | refine rI aN rf ix ?_ | refine rd_loadf aN tv ix ?_ | refine And.intro ?_ ?_)
  all_goals first
    | rfl
    | exact ⟨_, by omega, rfl⟩
    | (refine ⟨⟨i + 1, by omega, trivial⟩, ?_, rfl, by simp; omega⟩; (conv => whnf); repeat' (first | exact trivial | exact rfl | apply And.intro))
set_option maxHeartbeats 2000000 in
theorem ev_l24Set (l : List GStored) (x : GStored) (c : C) (S : Store) (h : Rd S [.sl 4 (l.map GStored.d)] [c]) (hz : l.length ≤ 1048576) : EvA Tryz.prog 295 [.s c, .agg x.c] S (fun r S' => Ext S S' ∧ ∃ m : List GStored, (m.length ≤ l.length + 1 ∧ ∀ y ∈ m, y ∈ l ∨ y = x) ∧ ∃ c', r = .v (.s c') ∧ Fr S.length S' [.sl 4 (m.map GStored.d)] [c']) := by
  refine evA_intro tok Tryz.func295 (by kernel_rfl) rfl ?_
  skip
  refine loop_intro {q : Nat × Store × C // q.1 ≤ l.length ∧ Ext S q.2.1 ∧ Fr S.length q.2.1 [.sl 4 ((l.take q.1).map GStored.d)] [q.2.2]} [5, 6, 8, 9, 10, 11, 12, 13, 14, 15, 16, 17, 18, 19, 20, 21, 22, 23, 24, 25, 26, 27, 28] (fun zb => [(6, .v (.s (.int .i64 (zb.1.1)))), (5, .v (.s zb.1.2.2))]) (fun zb => zb.1.2.1) (fun zb => l.length - zb.1.1) ⟨(0, _, _), Nat.zero_le _, ⟨Ext.push _ _, fr_lit0⟩⟩ ?_ rfl ?_
  · (conv => whnf); repeat' (first | exact trivial | exact rfl | apply And.intro)
  rintro ⟨⟨i, Si, ci⟩, hi, hP⟩; dsimp only
  replace hi : i ≤ l.length := hi
  replace hP : Ext S Si ∧ Fr S.length Si [.sl 4 ((l.take i).map GStored.d)] [ci] := hP
  obtain ⟨hE, hF⟩ := hP
  have htl : (l.take i).length = i := by rw [List.length_take]; omega
  repeat' ((conv => whnf) <;> first
   | (refine rd_loadf (h.ext aN) tv ix ?_) | (refine rI (h.ext aN) rf ix ?_) | (refine rd_lenm (h.ext (by assumption)) ?_; intro hml; rw [maxLen_eq] at hml) | rw [wrapI_i64 (by omega)] | refine cD (fun _ => ?_) fun _ => ?_ | refine cF ?_ | refine cI (fun _ => ?_) fun _ => ?_ | refine callP_eq (ev_l24Less _ _ _) ?_ | refine draw_intro 8 [.fl 0, .fl 1, .fl 2, .fl 3, .fl 4, .fl 5, .fl 6, .fl 7, .fl 8, .fl 9, .st 10 [], .fl 11] (by rfl) (by kernel_rfl) ?_ | refine draw_intro 33 [.fl 0, .fl 1, .fl 2, .fl 3, .fl 4, .fl 5, .fl 6, .fl 7, .fl 8, .fl 9, .st 10 [], .fl 11, .fl 12] (by rfl) (by kernel_rfl) ?_ | (refine fr_app_flat (f := GStored.d) (l := l.take i) (m := [_]) (fun _ => trivial) hE hF rfl rf (by dsimp only [T124]; simp only [List.length_singleton]; omega) (by rw [maxLen_eq]; simp only [List.length_singleton]; omega) ?_; intro cN SN hEN hFN hlN) | (refine rd_slhf (h.ext hEN) rf om ?_; intro cH hH) | (refine rd_elemsf (f := GStored.d) hH tv (fun _ => ?_)) | (refine fr_app_flat (f := GStored.d) (l := l.take i ++ [x]) (fun _ => trivial) hEN hFN rfl rf (by dsimp only [T124]; simp only [List.length_append, List.length_singleton, List.length_drop]; omega) (by rw [maxLen_eq]; simp only [List.length_append, List.length_singleton, List.length_drop]; omega) ?_; intro cB SB hEB hFB hlB) | refine And.intro ?_ ?_)
  all_goals first
    | assumption
    | (refine ⟨_, ⟨?_, fun y hy => ?_⟩, _, rfl, hFB⟩
       · simp only [List.length_append, List.length_singleton, List.length_drop]; omega
       · rcases List.mem_append.1 hy with hy | hy
         · rcases List.mem_append.1 hy with hy | hy
           · exact .inl (List.mem_of_mem_take hy)
           · exact .inr (List.mem_singleton.1 hy)
         · exact .inl (List.mem_of_mem_drop hy))
    | (refine ⟨⟨(i + 1, _, _), by dsimp only; omega, hEN, by rw [← List.take_append_getElem (by omega)]; exact hFN⟩, ?_, rfl, by dsimp only; omega⟩; (conv => whnf); repeat' (first | exact trivial | exact rfl | apply And.intro))
set_option maxHeartbeats 2000000 in
theorem ev_sPutStored (l : List GStored) (ext name value : Int) (c : C) (S : Store) (h : Rd S [.sl 4 (l.map GStored.d)] [c]) (hz : l.length ≤ 1048576) : EvA Tryz.prog 233 [.s c, .s (.int .i64 ext), .s (.int .i64 name), .s (.int .i64 value)] S (fun r S' => Ext S S' ∧ ∃ (m : List GStored) (b : Bool), (m.length ≤ l.length + 1 ∧ (b = false → m = l) ∧ (b = true → isStore m = true ∧ ∀ y ∈ m, y ∈ l ∨ y.Ext = ext)) ∧ ∃ c', r = .tup [.s c', .s (.bool b)] ∧ Fr S.length S' [.sl 4 (m.map GStored.d)] [c']) := by
  cases hS : isStore l
  · refine evA_intro tok Tryz.func233 (by kernel_rfl) rfl ?_
    repeat' ((conv => whnf) <;> first
     | (show CondP _ _ _; refine cS ?_) | refine callP_eq (ev_sIsStore _ _ _ rdA) ?_ | (refine rd_elemsf (f := GStored.d) (l := l) (h.ext (by first | exact Ext.refl _ | exact Ext.push _ _)) tv (fun _ => ?_)) | (refine fr_clone (f := GStored.d) (l := l) tv rf (by dsimp only [T124]; omega) om ?_; intro cX SX hEX hFX) | refine And.intro ?_ ?_)
    all_goals first
      | assumption
      | exact ⟨l, false, ⟨by omega, fun _ => rfl, fun hh => Bool.noConfusion hh⟩, _, rfl, hFX⟩
      | (exfalso; simp_all; done)
  refine evA_intro tok Tryz.func233 (by kernel_rfl) rfl ?_
  repeat' ((conv => whnf) <;> first
   | (show CondP _ _ _; refine cS ?_) | refine callP_eq (ev_sIsStore _ _ _ rdA) ?_)
  (conv => whnf)
  refine callP_intro (ev_l24Find l ext name _ _ h) ?_; rintro _ _ ⟨rfl, x, hx, rfl⟩
  by_cases hx0 : 0 ≤ x
  case' pos =>
    have hx1 : 0 ≤ x ∧ x.toNat < l.length := by omega
    repeat' ((conv => whnf) <;> first
     | (refine rd_loadf h tv hx1 ?_) | (refine rI h rf hx1 ?_) | (show CondP _ _ _; refine cS ?_))
    all_goals try (exfalso; omega)
    (conv => whnf)
    refine callP_intro (ev_l24Set l ⟨ext, name, value, _⟩ _ _ h hz) ?_; rintro _ S2 ⟨e2, m, hm, c2, rfl, f2⟩
  case' neg =>
    repeat' ((conv => whnf) <;> first
     | (show CondP _ _ _; refine cS ?_))
    all_goals try (exfalso; omega)
    (conv => whnf)
    refine callP_intro (ev_l24Set l ⟨ext, name, value, 1⟩ _ _ h hz) ?_; rintro _ S2 ⟨e2, m, hm, c2, rfl, f2⟩
  all_goals
    have r2 := f2.rd
    have h2 := h.ext e2
    cases hM : isStore m
    case' false =>
      repeat' ((conv => whnf) <;> first
       | (refine callP_eq (ev_sIsStore m _ _ r2) ?_) | (show CondP _ _ _; refine cS ?_) | (refine rd_elemsf (f := GStored.d) (l := l) (h2.ext (by first | exact Ext.refl _ | exact Ext.push _ _)) tv (fun _ => ?_)) | (refine fr_clone (f := GStored.d) (l := l) tv rf (by dsimp only [T124]; omega) om ?_; intro cX SX hEX hFX) | refine And.intro ?_ ?_)
    case' true =>
      repeat' ((conv => whnf) <;> first
       | (refine callP_eq (ev_sIsStore m _ _ r2) ?_) | (show CondP _ _ _; refine cS ?_) | refine And.intro ?_ ?_)
  all_goals first
    | exact e2.trans hEX
    | exact e2
    | exact ⟨l, false, ⟨by omega, fun _ => rfl, fun hh => Bool.noConfusion hh⟩, _, rfl, hFX.mono e2.len⟩
    | exact ⟨m, true, ⟨hm.1, fun hh => Bool.noConfusion hh, fun _ => ⟨hM, fun y hy => (hm.2 y hy).imp id fun h => by rw [h]⟩⟩, _, rfl, f2⟩
    | (exfalso; simp_all; done)
end Go.Proofs.YtlmmdpmmdmhacaaGreat
namespace Go.Proofs.YtlmmdpmmdmhacaaGreat
open Go Go.ChangeShapes Go.WideShapes Go.ChangeAt Go.RowKit
set_option linter.unusedVariables false
set_option linter.unusedSimpArgs false
set_option maxRecDepth 100000
theorem br_szD (b : GBrowser) : szL b.d = b.Tabs.length + szL.szLL (b.Tabs.map GTab.d) + (b.Packs.length + szL.szLL (b.Packs.map GPackage.d) + (b.Grants.length + (b.Limits.length + (b.Rules.length + b.Store.length)))) := by
  simp only [GBrowser.d, szL, List.length_map]
  rw [szLL_flat (f := GGrant.d) (by intro x; simp only [szL, GGrant.d]), szLL_flat (f := GLimit.d) (by intro x; simp only [szL, GLimit.d]), szLL_flat (f := GRule.d) (by intro x; simp only [szL, GRule.d]), szLL_flat (f := GStored.d) (by intro x; simp only [szL, GStored.d])]
  omega
end Go.Proofs.YtlmmdpmmdmhacaaGreat
