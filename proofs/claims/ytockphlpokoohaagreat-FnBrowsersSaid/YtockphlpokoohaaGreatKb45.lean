/- A text of the proof. -/
import Derived.Test.YtockphlpokoohaaGreatKb44
namespace Go.Proofs.YtockphlpokoohaaGreat
open Go Go.ChangeShapes Go.WideShapes Go.ChangeAt Go.RowKit
set_option linter.unusedVariables false
set_option linter.unusedSimpArgs false
set_option maxRecDepth 100000
def RdF (id : Nat) (S : Store) (ds : List D) (cs : List C) : Prop := ∀ S' : Store, (∀ j, j < S.length → j ≠ id → S'[j]? = S[j]?) → Rd S' ds cs
theorem RdF.rd {id : Nat} {S : Store} {ds : List D} {cs : List C} (h : RdF id S ds cs) : Rd S ds cs := h S fun _ _ _ => rfl
theorem RdF.drw {id : Nat} {S S' : Store} {ds : List D} {cs : List C} (h : RdF id S ds cs) (e : Drw id S S') : RdF id S' ds cs := fun S2 hs => h S2 fun j hj hn => (hs j (Nat.lt_of_lt_of_le hj e.len) hn).trans (e.same j hj hn)
theorem Fr.rdF {id lo : Nat} {S : Store} {ds : List D} {cs : List C} (h : Fr lo S ds cs) (hl : id < lo) : RdF id S ds cs := fun S' hs => by
  obtain ⟨ids, h1, h2, h3⟩ := h
  exact ⟨ids, h1.read.frame fun j hj => hs j (h1.lt j hj) (by have := h3 j hj; omega)⟩
theorem repL_plain {q : Bool} {S : Store} : ∀ {r cs : List C} {ids : List Nat}, RepL q S (r.map D.x) cs ids → cs = r ∧ ids = []
  | [], cs, ids, h => by rw [List.map_nil, repL_nil] at h; exact h
  | x :: r, cs, ids, h => by
    rw [List.map_cons, repL_cons] at h
    obtain ⟨c, cs', i, j, h1, h2, h3, h4⟩ := h
    rw [rep_x] at h3
    obtain ⟨e1, e2⟩ := repL_plain h4
    rw [h1, h2, h3.1, h3.2, e1, e2]; exact ⟨rfl, rfl⟩
theorem rep2_plainQ {q : Bool} {S : Store} : ∀ {rs rows : List (List C)} {ids : List Nat}, Rep2 q S (rs.map (List.map D.x)) rows ids → rows = rs ∧ ids = []
  | [], rows, ids, h => by rw [List.map_nil, rep2_nil] at h; exact h
  | x :: rs, rows, ids, h => by
    rw [List.map_cons, rep2_cons] at h
    obtain ⟨c, cs', i, j, h1, h2, h3, h4⟩ := h
    obtain ⟨e1, e2⟩ := repL_plain h3
    obtain ⟨e3, e4⟩ := rep2_plainQ h4
    rw [h1, h2, e1, e2, e3, e4]; exact ⟨rfl, rfl⟩
theorem len8 : ∀ {l : List C}, l.length = 8 → ∃ a b c d e f g k, l = [a, b, c, d, e, f, g, k]
  | [a, b, c, d, e, f, g, k], _ => ⟨a, b, c, d, e, f, g, k, rfl⟩
theorem rd_loadpl {S : Store} {c : C} {k : Nat} {rows : List (List C)} {i : Int} {r0 : List C} {K : List C → Prop} (h : Rd S [.sl k (rows.map (List.map D.x))] [c]) (h0 : 0 ≤ i ∧ i.toNat < rows.length) (he : rows[i.toNat]'h0.2 = r0) (hK : K r0) : LoadP S c i K :=
  rd_load h (by simpa using h0) fun cs hc => by
    obtain ⟨ids, hr⟩ := hc
    rw [List.getElem_map] at hr
    rw [(repL_plain hr).1, he]; exact hK
theorem rep2_unflatQ {q : Bool} {S : Store} : ∀ {xs : List (List D)} {rows : List (List C)} {js : List Nat}, RepL q S xs.flatten rows.flatten js → rows.map List.length = xs.map List.length → Rep2 q S xs rows js
  | [], [], js, h, _ => by rw [List.flatten_nil, List.flatten_nil, repL_nil] at h; rw [rep2_nil]; exact ⟨rfl, h.2⟩
  | [], r :: rows, js, _, hl => by cases hl
  | x :: xs, [], js, _, hl => by cases hl
  | x :: xs, r :: rows, js, h, hl => by
    rw [List.map_cons, List.map_cons] at hl
    injection hl with hl1 hl2
    rw [List.flatten_cons, List.flatten_cons] at h
    obtain ⟨r1, r2, i, j, h1, h2, h3, h4⟩ := h.split
    obtain ⟨e1, e2⟩ := List.append_inj h1 (by rw [h3.len, hl1])
    subst e1; subst e2
    rw [rep2_cons]
    exact ⟨r, rows, i, j, rfl, h2, h3, rep2_unflatQ h4 hl2⟩
theorem rd_twice {S : Store} {o k i : Nat} {ds : List D} {cs : List C} {xs : List (List D)} {rows : List (List C)} {c : C} {x0 : List D} {r0 : List C} (h : Rd S (ds ++ xs.flatten) (cs ++ rows.flatten)) (hl : cs.length = ds.length)
    (hd : ds[o]? = some (.sl k (rows.map (List.map D.x) ++ [r0].map (List.map D.x)))) (hc : cs[o]? = some c) (hlen : rows.map List.length = xs.map List.length) (hx : xs[i]? = some x0) (hr : rows[i]? = some r0) : Rd S (ds.set o (.sl k (xs ++ [x0]))) cs := by
  obtain ⟨ids, hg⟩ := h
  obtain ⟨p1, p2, ia, js, s1, s2, h, hz⟩ := hg.split
  obtain ⟨s3, s4⟩ := List.append_inj s1 (by rw [hl, h.len])
  subst s3; subst s4
  have h2 := rep2_unflatQ hz hlen
  obtain ⟨cs0, i0, b1, b2, _⟩ := h2.at i _ hx
  rw [hr] at b1; cases b1
  have h3 : Rep2 false S (xs ++ [x0]) (rows ++ [r0]) (js ++ i0) := h2.append (by rw [rep2_cons]; exact ⟨r0, [], i0, [], rfl, by simp, b2, by rw [rep2_nil]; exact ⟨rfl, rfl⟩⟩)
  have hxr : rows.length = xs.length := by simpa using congrArg List.length hlen
  obtain ⟨c0, x, m, y, k1, k2, k3, k4⟩ := h.setAt o _ hd
  rw [hc] at k1; cases k1
  have hset : cs.set o c = cs := set_same hc
  rw [← List.map_append] at k3
  unfold Rep at k3
  obtain ⟨hlm, k3⟩ := k3
  rcases k3 with ⟨h1, h2', h3'⟩ | ⟨id, o', t, row, js0, h1, h2', h3', h4, h5, h6, h7, h8⟩
  · simp at h1
  · obtain ⟨e8, e9⟩ := rep2_plainQ h8
    rw [List.length_map] at h1 h6 e8 hlm
    have hle : (rows ++ [r0]).length = (xs ++ [x0]).length := by rw [List.length_append, List.length_append, hxr]; rfl
    have hrr : Rep false S (.sl k (xs ++ [x0])) c (id :: (js ++ i0)) := by
      unfold Rep
      rw [← hle]
      exact ⟨hlm, .inr ⟨id, o', t, row, js ++ i0, h1, rfl, h3', h4, h5, h6, (fun hq => by cases hq), by rw [e8]; exact h3⟩⟩
    have := k4 (S' := S) (c'' := c) (fun _ _ => rfl) hrr
    rw [hset] at this
    exact ⟨_, this⟩
theorem dstoMv {id q k : Nat} {S0 S : Store} {c : C} {ds : List D} {cs : List C} {xs : List (List D)} {i : Int} {off : Nat} {A B B' Z : List D} {ys : List C} {K : Store → Prop}
    (hD : Drw id S0 S) (h : Fr S0.length S (ds ++ B') (cs ++ ys)) (hl : cs.length = ds.length) (hd : ds[q]? = some (.sl k xs)) (hc : cs[q]? = some c)
    (h0 : 0 ≤ i ∧ i.toNat < xs.length) (hx : xs[i.toNat]? = some (A ++ B ++ Z)) (hA : A.length = off) (hB : B'.length = B.length) (hk : (A ++ B ++ Z).length = k)
    (hK : ∀ S', Drw id S0 S' → Fr S0.length S' (ds.set q (.sl k (xs.set i.toNat (A ++ B' ++ Z)))) cs → K S') : StoP S c i off ys K := by
  have ht := take_len hD
  exact fr_stoMv (S0 := S.take S0.length) (take_ext S _) (by rw [ht]; exact h) hl hd hc h0 hx hA hB hk fun S' e f _ => hK S' (hD.own e) (by rw [ht] at f; exact f)
theorem st_at {l : List GStored} {i : Int} (h : 0 ≤ i ∧ i.toNat < l.length) : (l.map GStored.d)[i.toNat]? = some (l[i.toNat]'h.2).d := by simp [h.2]
theorem st_ex {lo i : Nat} {S : Store} {ci : C} {l : List GStored} {a b c d : Int} (h : Fr lo S [.sl 4 ((l.map GStored.d).set i [.x (.int .i64 a), .x (.int .i64 b), .x (.int .i64 c), .x (.int .i64 d)])] [ci]) (hl : l.length ≤ 9) :
    ∃ l' : List GStored, l'.length ≤ 9 ∧ ∃ c', AV.v (.s ci) = .v (.s c') ∧ Fr lo S [.sl 4 (l'.map GStored.d)] [c'] := by
  refine ⟨l.set i ⟨a, b, c, d⟩, by rw [List.length_set]; exact hl, ci, rfl, ?_⟩
  rw [List.map_set]; exact h
set_option maxHeartbeats 2000000 in
theorem ev_l24Draw {id : Nat} {S : Store} (h : Cur id S) : EvA Tryz.prog 274 [.s (.pt id)] S (fun r S' => Drw id S S' ∧ ∃ l : List GStored, l.length ≤ 8 ∧ ∃ c', r = .v (.s c') ∧ Fr S.length S' [.sl 4 (l.map GStored.d)] [c']) := by
  have hlt := h.lt
  have hD := Drw.refl h
  have hF : Fr S.length S [] [] := fr_nil
  refine evA_intro tok Tryz.func274 (by kernel_rfl) rfl ?_
  repeat' ((conv => whnf) <;> first
   | rw [wrapI_i64 (by omega)] | refine cD (fun _ => ?_) fun _ => ?_ | refine cE (fun _ => ?_) fun _ => ?_ | refine cT ?_ | refine cF ?_ | refine cN (fun _ => ?_) fun _ => ?_ | refine cI (fun _ => ?_) fun _ => ?_ | refine nP ?_ | refine And.intro ?_ ?_)
  (conv => whnf)
  have hD1 := hD.push ⟨true, 4, []⟩
  have hF1 := hF.pushD (k := 4) (f := GStored.d) hD.len [] (fun _ => trivial) (by decide) (rows := []) rfl
  refine callP_intro (ev_l1Below _ hD1.cur) ?_; rintro _ Sn ⟨hDn, xn, hxn, rfl⟩
  replace hF1 := hF1.drw hlt hDn
  replace hD1 := hD1.trans hDn
  obtain ⟨n, rfl⟩ := Int.eq_ofNat_of_zero_le hxn.1
  repeat' ((conv => whnf) <;> first
   | rw [wrapI_i64 (by omega)] | refine cD (fun _ => ?_) fun _ => ?_ | refine cE (fun _ => ?_) fun _ => ?_ | refine cT ?_ | refine cF ?_ | refine cN (fun _ => ?_) fun _ => ?_ | refine cI (fun _ => ?_) fun _ => ?_ | refine nP ?_ | refine And.intro ?_ ?_)
  refine loop_intro {q : Nat × Store × C // q.1 ≤ 8 ∧ Drw id S q.2.1 ∧ ∃ l : List GStored, l.length + q.1 ≤ 8 ∧ Fr S.length q.2.1 [.sl 4 (l.map GStored.d)] [q.2.2]} [3, 4, 8, 9, 10, 11, 12, 13, 14, 15, 16, 17, 18, 19, 20, 21, 22, 23] (fun zb => [(4, .v (.s (.int .i64 (zb.1.1 : Nat)))), (3, .v (.s zb.1.2.2))]) (fun zb => zb.1.2.1) (fun zb => zb.1.1) ⟨(n, _, _), by have := hxn.2.2.1 (by omega); dsimp only; omega, hD1, [], by have := hxn.2.2.1 (by omega); simp; omega, hF1⟩ ?_ rfl ?_
  · (conv => whnf); repeat' (first | exact trivial | exact rfl | apply And.intro)
  rintro ⟨⟨k, Si, ci⟩, hk, hP⟩; dsimp only
  clear hF hD hD1 hF1 hDn hxn
  replace hk : k ≤ 8 := hk
  obtain ⟨hD, l, hl, hF⟩ : Drw id S Si ∧ ∃ l : List GStored, l.length + k ≤ 8 ∧ Fr S.length Si [.sl 4 (l.map GStored.d)] [ci] := hP
  by_cases hk0 : 0 < k
  · repeat' ((conv => whnf) <;> first
     | rw [wrapI_i64 (by omega)] | (show CondP _ _ _; refine cS ?_) | refine cD (fun _ => ?_) fun _ => ?_ | refine cE (fun _ => ?_) fun _ => ?_ | refine cT ?_ | refine cF ?_ | refine cN (fun _ => ?_) fun _ => ?_ | refine cI (fun _ => ?_) fun _ => ?_ | refine nP ?_ | refine And.intro ?_ ?_)
    all_goals try (exfalso; omega)
    (conv => whnf)
    refine callP_intro (ev_l1Below _ hD.cur) ?_; rintro _ S1 ⟨hDn, x1, hx1, rfl⟩
    replace hF := hF.drw hlt hDn
    replace hD := hD.trans hDn
    clear hDn
    repeat' ((conv => whnf) <;> first
     | rw [wrapI_i64 (by omega)] | (show CondP _ _ _; refine cS ?_) | refine cD (fun _ => ?_) fun _ => ?_ | refine cE (fun _ => ?_) fun _ => ?_ | refine cT ?_ | refine cF ?_ | refine cN (fun _ => ?_) fun _ => ?_ | refine cI (fun _ => ?_) fun _ => ?_ | refine nP ?_ | refine And.intro ?_ ?_)
    (conv => whnf)
    refine callP_intro (ev_l1Below _ hD.cur) ?_; rintro _ S2 ⟨hDn, x2, hx2, rfl⟩
    replace hF := hF.drw hlt hDn
    replace hD := hD.trans hDn
    clear hDn
    repeat' ((conv => whnf) <;> first
     | rw [wrapI_i64 (by omega)] | (show CondP _ _ _; refine cS ?_) | refine cD (fun _ => ?_) fun _ => ?_ | refine cE (fun _ => ?_) fun _ => ?_ | refine cT ?_ | refine cF ?_ | refine cN (fun _ => ?_) fun _ => ?_ | refine cI (fun _ => ?_) fun _ => ?_ | refine nP ?_ | refine And.intro ?_ ?_)
    (conv => whnf)
    refine callP_intro (ev_l1Below _ hD.cur) ?_; rintro _ S3 ⟨hDn, x3, hx3, rfl⟩
    replace hF := hF.drw hlt hDn
    replace hD := hD.trans hDn
    clear hDn
    repeat' ((conv => whnf) <;> first
     | rw [wrapI_i64 (by omega)] | (show CondP _ _ _; refine cS ?_) | refine cD (fun _ => ?_) fun _ => ?_ | refine cE (fun _ => ?_) fun _ => ?_ | refine cT ?_ | refine cF ?_ | refine cN (fun _ => ?_) fun _ => ?_ | refine cI (fun _ => ?_) fun _ => ?_ | refine nP ?_ | refine And.intro ?_ ?_)
    (conv => whnf)
    refine callP_intro (ev_sPutStored l _ _ _ _ _ hF.rd (by omega)) ?_; rintro _ S4 ⟨e4, m, bb, hm, c4, rfl, f4⟩
    repeat' ((conv => whnf) <;> first
     | rw [wrapI_i64 (by omega)] | (show CondP _ _ _; refine cS ?_) | refine cD (fun _ => ?_) fun _ => ?_ | refine cE (fun _ => ?_) fun _ => ?_ | refine cT ?_ | refine cF ?_ | refine cN (fun _ => ?_) fun _ => ?_ | refine cI (fun _ => ?_) fun _ => ?_ | (refine callP_intro (ev_l1Below _ hD.cur) ?_; rintro _ Sn ⟨hDn, xn, hxn, rfl⟩; replace hF := hF.drw hlt hDn; replace hD := hD.trans hDn; clear hDn) | (refine callP_intro (ev_sPutStored _ _ _ _ _ _ rdA om) ?_; rintro _ Sn ⟨hEn, mn, bn, hmn, cn, rfl, hFn⟩) | refine nP ?_ | refine And.intro ?_ ?_)
    refine ⟨⟨(k - 1, S4, c4), by dsimp only; omega, hD.ext e4, m, by dsimp only; omega, f4.mono hD.len⟩, ?_, rfl, by dsimp only; omega⟩
    (conv => whnf); repeat' (first | exact trivial | exact rfl | (show _ = _; congr 3; dsimp only; omega) | apply And.intro)
  repeat' ((conv => whnf) <;> first
   | rw [wrapI_i64 (by omega)] | (show CondP _ _ _; refine cS ?_) | refine cD (fun _ => ?_) fun _ => ?_ | refine cE (fun _ => ?_) fun _ => ?_ | refine cT ?_ | refine cF ?_ | refine cN (fun _ => ?_) fun _ => ?_ | refine cI (fun _ => ?_) fun _ => ?_ | (refine callP_intro (ev_l1Below _ hD.cur) ?_; rintro _ Sn ⟨hDn, xn, hxn, rfl⟩; replace hF := hF.drw hlt hDn; replace hD := hD.trans hDn; clear hDn) | (refine callP_intro (ev_sPutStored _ _ _ _ _ _ rdA om) ?_; rintro _ Sn ⟨hEn, mn, bn, hmn, cn, rfl, hFn⟩) | refine nP ?_ | refine And.intro ?_ ?_)
  all_goals first
    | exact hD
    | (exfalso; omega)
    | exact ⟨l, by omega, _, rfl, hF⟩
set_option maxHeartbeats 4000000 in
theorem ev_l24Any {id : Nat} {S : Store} (h : Cur id S) : EvA Tryz.prog 203 [.s (.pt id)] S (fun r S' => Drw id S S' ∧ ∃ l : List GStored, l.length ≤ 9 ∧ ∃ c', r = .v (.s c') ∧ Fr S.length S' [.sl 4 (l.map GStored.d)] [c']) := by
  have hlt := h.lt
  have hD := Drw.refl h
  have hF : Fr S.length S [] [] := fr_nil
  refine evA_intro tok Tryz.func203 (by kernel_rfl) rfl ?_
  repeat' ((conv => whnf) <;> first
   | refine cD (fun _ => ?_) fun _ => ?_ | refine cE (fun _ => ?_) fun _ => ?_ | refine cT ?_ | refine cF ?_ | refine cN (fun _ => ?_) fun _ => ?_ | refine cI (fun _ => ?_) fun _ => ?_ | refine rE fun hml => ?_ | refine rI rdA rf ix ?_ | refine rd_loadf rdA tv ix ?_ | refine nP ?_ | refine And.intro ?_ ?_)
  (conv => whnf)
  refine callP_intro (ev_l24Draw hD.cur) ?_; rintro _ Sn ⟨hDn, l, hl, ci, rfl, hFn⟩
  replace hF := hFn
  replace hD := hDn
  clear hDn hFn
  by_cases hl0 : l.length = 0
  · repeat' ((conv => whnf) <;> first
     | (refine rd_lenm hF.rd ?_; intro hml; rw [maxLen_eq] at hml) | (show CondP _ _ _; refine cS ?_) | refine cD (fun _ => ?_) fun _ => ?_ | refine cE (fun _ => ?_) fun _ => ?_ | refine cT ?_ | refine cF ?_ | refine cN (fun _ => ?_) fun _ => ?_ | refine cI (fun _ => ?_) fun _ => ?_ | (refine callP_intro (ev_l1Below _ hD.cur) ?_; rintro _ Sn ⟨hDn, xn, hxn, rfl⟩; replace hF := hF.drw hlt hDn; replace hD := hD.trans hDn; clear hDn) | (refine callP_intro (ev_l1Int hD.cur (by rfl) (by rfl) (by rfl)) ?_; rintro _ Sn ⟨hDn, xn, rfl⟩; replace hF := hF.drw hlt hDn; replace hD := hD.trans hDn; clear hDn) | (refine callP_intro (ev_l9Raw hD.cur) ?_; rintro _ Sn ⟨hDn, xn, rfl⟩; replace hF := hF.drw hlt hDn; replace hD := hD.trans hDn; clear hDn) | (refine callP_intro (ev_l24Draw hD.cur) ?_; rintro _ Sn ⟨hDn, ln, hzn, cn, rfl, hFn⟩; replace hF := hF.joinD hlt hDn hFn hD.len; replace hD := hD.trans hDn; clear hDn hFn) | refine rE fun hml => ?_ | refine rI rdA rf ix ?_ | refine rd_loadf rdA tv ix ?_ | refine nP ?_ | refine And.intro ?_ ?_)
    all_goals first
      | exact hD
      | exact ⟨l, by omega, _, rfl, hF⟩
      | (exfalso; omega)
  repeat' ((conv => whnf) <;> first
   | (refine rd_lenm hF.rd ?_; intro hml; rw [maxLen_eq] at hml) | (show CondP _ _ _; refine cS ?_) | refine cD (fun _ => ?_) fun _ => ?_ | refine cE (fun _ => ?_) fun _ => ?_ | refine cT ?_ | refine cF ?_ | refine cN (fun _ => ?_) fun _ => ?_ | refine cI (fun _ => ?_) fun _ => ?_ | refine rE fun hml => ?_ | refine rI rdA rf ix ?_ | refine rd_loadf rdA tv ix ?_ | refine nP ?_ | refine And.intro ?_ ?_)
  all_goals try (exfalso; omega)
  (conv => whnf)
  refine callP_intro (ev_l1Below _ hD.cur) ?_; rintro _ Sn ⟨hDn, i, hi, rfl⟩
  replace hF := hF.drw hlt hDn
  replace hD := hD.trans hDn
  clear hDn
  have hi0 : 0 ≤ i ∧ i.toNat < l.length := by have := hi.2.2.1 (by omega); omega
  have hz0 : 0 ≤ (0 : Int) ∧ (0 : Int).toNat < l.length := ⟨Int.le_refl _, by show 0 < l.length; omega⟩
  repeat' ((conv => whnf) <;> first
   | (refine rd_loadf hF.rd tv hz0 ?_) | (refine rI hF.rd rf hz0 ?_) | (refine rI hF.rd rf hi0 ?_) | refine cD (fun _ => ?_) fun _ => ?_ | refine cE (fun _ => ?_) fun _ => ?_ | refine cT ?_ | refine cF ?_ | refine cN (fun _ => ?_) fun _ => ?_ | refine cI (fun _ => ?_) fun _ => ?_ | (refine callP_intro (ev_l1Below _ hD.cur) ?_; rintro _ Sn ⟨hDn, xn, hxn, rfl⟩; replace hF := hF.drw hlt hDn; replace hD := hD.trans hDn; clear hDn) | (refine callP_intro (ev_l1Int hD.cur (by rfl) (by rfl) (by rfl)) ?_; rintro _ Sn ⟨hDn, xn, rfl⟩; replace hF := hF.drw hlt hDn; replace hD := hD.trans hDn; clear hDn) | (refine callP_intro (ev_l9Raw hD.cur) ?_; rintro _ Sn ⟨hDn, xn, rfl⟩; replace hF := hF.drw hlt hDn; replace hD := hD.trans hDn; clear hDn) | (refine callP_intro (ev_l24Draw hD.cur) ?_; rintro _ Sn ⟨hDn, ln, hzn, cn, rfl, hFn⟩; replace hF := hF.joinD hlt hDn hFn hD.len; replace hD := hD.trans hDn; clear hDn hFn) | refine rE fun hml => ?_ | refine rI rdA rf ix ?_ | refine rd_loadf rdA tv ix ?_ | refine nP ?_ | (fail) | (refine dsto (q := 0) (k := 4) (xs := l.map GStored.d) (A := []) (B := [.x (.int .i64 (l[i.toNat]'hi0.2).Ext)]) (Z := [.x (.int .i64 (l[i.toNat]'hi0.2).Name), .x (.int .i64 (l[i.toNat]'hi0.2).Value), .x (.int .i64 (l[i.toNat]'hi0.2).Ver)]) hD hF rfl rfl (by rw [List.length_map]; exact hi0) (st_at hi0) rfl rfl rfl ?_; intro SN hDN hFN) | (refine dsto (q := 0) (k := 4) (xs := l.map GStored.d) (A := [.x (.int .i64 (l[i.toNat]'hi0.2).Ext), .x (.int .i64 (l[i.toNat]'hi0.2).Name), .x (.int .i64 (l[i.toNat]'hi0.2).Value)]) (B := [.x (.int .i64 (l[i.toNat]'hi0.2).Ver)]) (Z := []) hD hF rfl rfl (by rw [List.length_map]; exact hi0) (st_at hi0) rfl rfl rfl ?_; intro SN hDN hFN) | (refine dsto (q := 0) (k := 4) (xs := l.map GStored.d) (A := [.x (.int .i64 (l[i.toNat]'hi0.2).Ext), .x (.int .i64 (l[i.toNat]'hi0.2).Name)]) (B := [.x (.int .i64 (l[i.toNat]'hi0.2).Value)]) (Z := [.x (.int .i64 (l[i.toNat]'hi0.2).Ver)]) hD hF rfl rfl (by rw [List.length_map]; exact hi0) (st_at hi0) rfl rfl rfl ?_; intro SN hDN hFN) | (refine dappF (f := GStored.d) (o := 0) (l := l) (m := [l[(0 : Int).toNat]'hz0.2]) (fun _ => trivial) hD hF rfl rfl rfl rf (by dsimp only [T174]; simp only [List.length_singleton]; omega) (by simp only [List.length_singleton]; omega) ?_; intro cN SN hDN hFN) | refine And.intro ?_ ?_)
  all_goals first
    | exact hDN
    | exact hD
    | exact ⟨l, by omega, _, rfl, hF⟩
    | exact st_ex hFN (by omega)
    | exact ⟨_, by simp only [List.length_append, List.length_singleton]; omega, _, rfl, hFN⟩
theorem br_ex {id lo : Nat} {S : Store} {key now : Int} {tabs : List GTab} {packs : List GPackage} {gs : List GGrant} {ls : List GLimit} {rs : List GRule} {ss : List GStored} {c1 c2 c3 c4 c5 c6 : C} (hl : id < lo)
    (h : Fr lo S [.x (.int .i64 key), .sl 6 (tabs.map GTab.d), .sl 8 (packs.map GPackage.d), .sl 7 (gs.map GGrant.d), .sl 4 (ls.map GLimit.d), .sl 8 (rs.map GRule.d), .sl 4 (ss.map GStored.d), .x (.int .i64 now)] [.int .i64 key, c1, c2, c3, c4, c5, c6, .int .i64 now])
    (hz : szL (GBrowser.mk key tabs packs gs ls rs ss now).d ≤ 450) : ∃ b : GBrowser, szL b.d ≤ 450 ∧ ∃ d1 d2 d3 d4 d5 d6, AV.v (.agg [.int .i64 key, c1, c2, c3, c4, c5, c6, .int .i64 now]) = .v (.agg [.int .i64 b.Key, d1, d2, d3, d4, d5, d6, .int .i64 b.Now]) ∧ RdF id S b.d [.int .i64 b.Key, d1, d2, d3, d4, d5, d6, .int .i64 b.Now] :=
  ⟨⟨key, tabs, packs, gs, ls, rs, ss, now⟩, hz, c1, c2, c3, c4, c5, c6, rfl, h.rdF hl⟩
theorem szLL_setLe {α : Type} {f : α → List D} (a : α) : ∀ (l : List α) (i : Nat), szL.szLL ((l.set i a).map f) ≤ szL.szLL (l.map f) + szL (f a)
  | [], i => by rw [List.set_nil]; exact Nat.le_add_right _ _
  | x :: l, 0 => by rw [List.set_cons_zero, List.map_cons, List.map_cons, szL.szLL, szL.szLL]; omega
  | x :: l, i + 1 => by
    have := szLL_setLe (f := f) a l i
    rw [List.set_cons_succ, List.map_cons, List.map_cons, szL.szLL, szL.szLL]; omega
theorem tabX_at {l : List GTab} {i : Int} (h : 0 ≤ i ∧ i.toNat < l.length) : (l.map GTab.d)[i.toNat]? = some (l[i.toNat]'h.2).d := by simp [h.2]
theorem pkX_at {l : List GPackage} {i : Int} (h : 0 ≤ i ∧ i.toNat < l.length) : (l.map GPackage.d)[i.toNat]? = some (l[i.toNat]'h.2).d := by simp [h.2]
theorem szLL_drop {α : Type} {f : α → List D} : ∀ (l : List α) (n : Nat), szL.szLL ((l.drop n).map f) ≤ szL.szLL (l.map f)
  | [], n => by rw [List.drop_nil]; exact Nat.le_refl _
  | x :: l, 0 => by rw [List.drop_zero]; exact Nat.le_refl _
  | x :: l, n + 1 => by
    have := szLL_drop (f := f) l n
    rw [List.drop_succ_cons, List.map_cons, szL.szLL]; omega
theorem szLL_app1 {α : Type} {f : α → List D} (a : α) (l : List α) : szL.szLL ((l ++ [a]).map f) = szL.szLL (l.map f) + szL (f a) := by
  rw [List.map_append, szLL_app, List.map_cons, List.map_nil, szL.szLL, szL.szLL]; omega
set_option maxHeartbeats 4000000 in
theorem ev_l32Any {id : Nat} {S : Store} (h : Cur id S) : EvA Tryz.prog 111 [.s (.pt id)] S (fun r S' => Drw id S S' ∧ ∃ b : GBrowser, szL b.d ≤ 450 ∧ ∃ c1 c2 c3 c4 c5 c6, r = .v (.agg [.int .i64 b.Key, c1, c2, c3, c4, c5, c6, .int .i64 b.Now]) ∧ RdF id S' b.d [.int .i64 b.Key, c1, c2, c3, c4, c5, c6, .int .i64 b.Now]) := by
  have hlt := h.lt
  have hD := Drw.refl h
  refine evA_intro tok Tryz.func111 (by kernel_rfl) rfl ?_
  repeat' ((conv => whnf) <;> first
   | refine cD (fun _ => ?_) fun _ => ?_ | refine cE (fun _ => ?_) fun _ => ?_ | refine cT ?_ | refine cF ?_ | refine cN (fun _ => ?_) fun _ => ?_ | refine cI (fun _ => ?_) fun _ => ?_ | refine rI rdA rf ix ?_ | (refine rd_loadm (f := GPackage.d) rdA ix ?_; intro _ hcs; obtain ⟨_, _, _, _, rfl, _, _, _, _⟩ := GPackage.inv hcs) | (refine rd_loadm (f := GTab.d) rdA ix ?_; intro _ hcs; obtain ⟨_, _, _, rfl, _, _, _⟩ := GTab.inv hcs) | (refine rd_slif rdA rf om ?_; intro cSl hSl) | refine nP ?_ | refine draw_intro 16 [.fl 0, .fl 1, .fl 2, .st 3 [0, 1], .fl 4, .st 5 []] (by rfl) (by kernel_rfl) ?_ | refine draw_intro 29 [.fl 0, .fl 1, .fl 2, .fl 3, .fl 4, .fl 5, .fl 6, .st 7 [], .fl 8, .st 9 []] (by rfl) (by kernel_rfl) ?_ | refine draw_intro 40 [.fl 0, .fl 1, .fl 2, .st 3 [0, 1], .fl 4, .st 5 [], .fl 6, .st 7 []] (by rfl) (by kernel_rfl) ?_ | refine draw_intro 49 [.fl 0, .fl 1, .fl 2, .st 3 [0, 1], .fl 4, .st 5 [], .fl 6, .st 7 []] (by rfl) (by kernel_rfl) ?_ | refine draw_intro 58 [.fl 0, .fl 1, .fl 2, .st 3 [0, 1], .fl 4, .st 5 [], .fl 6, .st 7 []] (by rfl) (by kernel_rfl) ?_ | refine And.intro ?_ ?_)
  (conv => whnf)
  refine callP_intro (ev_l32Full hD.cur) ?_; rintro _ S1 ⟨hDn, b, hb, c1, c2, c3, c4, c5, c6, rfl, hFn⟩
  obtain ⟨hz, ht1, hg12, hp1⟩ := hb
  have hF := hFn
  replace hD := hDn
  clear hDn hFn
  have hsz := br_szD b
  repeat' ((conv => whnf) <;> first
   | refine cD (fun _ => ?_) fun _ => ?_ | refine cE (fun _ => ?_) fun _ => ?_ | refine cT ?_ | refine cF ?_ | refine cN (fun _ => ?_) fun _ => ?_ | refine cI (fun _ => ?_) fun _ => ?_ | refine rI rdA rf ix ?_ | (refine rd_loadm (f := GPackage.d) rdA ix ?_; intro _ hcs; obtain ⟨_, _, _, _, rfl, _, _, _, _⟩ := GPackage.inv hcs) | (refine rd_loadm (f := GTab.d) rdA ix ?_; intro _ hcs; obtain ⟨_, _, _, rfl, _, _, _⟩ := GTab.inv hcs) | (refine rd_slif rdA rf om ?_; intro cSl hSl) | refine nP ?_ | refine draw_intro 16 [.fl 0, .fl 1, .fl 2, .st 3 [0, 1], .fl 4, .st 5 []] (by rfl) (by kernel_rfl) ?_ | refine draw_intro 29 [.fl 0, .fl 1, .fl 2, .fl 3, .fl 4, .fl 5, .fl 6, .st 7 [], .fl 8, .st 9 []] (by rfl) (by kernel_rfl) ?_ | refine draw_intro 40 [.fl 0, .fl 1, .fl 2, .st 3 [0, 1], .fl 4, .st 5 [], .fl 6, .st 7 []] (by rfl) (by kernel_rfl) ?_ | refine draw_intro 49 [.fl 0, .fl 1, .fl 2, .st 3 [0, 1], .fl 4, .st 5 [], .fl 6, .st 7 []] (by rfl) (by kernel_rfl) ?_ | refine draw_intro 58 [.fl 0, .fl 1, .fl 2, .st 3 [0, 1], .fl 4, .st 5 [], .fl 6, .st 7 []] (by rfl) (by kernel_rfl) ?_ | refine And.intro ?_ ?_)
  (conv => whnf)
  refine callP_intro (ev_l1Below _ hD.cur) ?_; rintro _ S2 ⟨hDn, x, hx, rfl⟩
  replace hF := hF.drw hlt hDn
  replace hD := hD.trans hDn
  clear hDn
  have hi00 : 0 ≤ (0 : Int) ∧ (0 : Int).toNat < b.Tabs.length := ⟨Int.le_refl _, ht1⟩
  have hj00 : 0 ≤ (0 : Int) ∧ (0 : Int).toNat < b.Packs.length := ⟨Int.le_refl _, hp1⟩
  have hzt0 := szLL_mem (f := GPackage.d) (List.getElem_mem (show 0 < b.Packs.length from hp1))
  by_cases x1 : x = 1
  · subst x1
    repeat' ((conv => whnf) <;> first
     | (show CondP _ _ _; refine cS ?_) | refine cD (fun _ => ?_) fun _ => ?_ | refine cE (fun _ => ?_) fun _ => ?_ | refine cT ?_ | refine cF ?_ | refine cN (fun _ => ?_) fun _ => ?_ | refine cI (fun _ => ?_) fun _ => ?_ | refine rI rdA rf ix ?_ | (refine rd_loadm (f := GPackage.d) rdA ix ?_; intro _ hcs; obtain ⟨_, _, _, _, rfl, _, _, _, _⟩ := GPackage.inv hcs) | (refine rd_loadm (f := GTab.d) rdA ix ?_; intro _ hcs; obtain ⟨_, _, _, rfl, _, _, _⟩ := GTab.inv hcs) | (refine rd_slif rdA rf om ?_; intro cSl hSl) | refine nP ?_ | refine draw_intro 16 [.fl 0, .fl 1, .fl 2, .st 3 [0, 1], .fl 4, .st 5 []] (by rfl) (by kernel_rfl) ?_ | refine draw_intro 29 [.fl 0, .fl 1, .fl 2, .fl 3, .fl 4, .fl 5, .fl 6, .st 7 [], .fl 8, .st 9 []] (by rfl) (by kernel_rfl) ?_ | refine draw_intro 40 [.fl 0, .fl 1, .fl 2, .st 3 [0, 1], .fl 4, .st 5 [], .fl 6, .st 7 []] (by rfl) (by kernel_rfl) ?_ | refine draw_intro 49 [.fl 0, .fl 1, .fl 2, .st 3 [0, 1], .fl 4, .st 5 [], .fl 6, .st 7 []] (by rfl) (by kernel_rfl) ?_ | refine draw_intro 58 [.fl 0, .fl 1, .fl 2, .st 3 [0, 1], .fl 4, .st 5 [], .fl 6, .st 7 []] (by rfl) (by kernel_rfl) ?_ | refine And.intro ?_ ?_)
    (conv => whnf)
    refine callP_intro (ev_l31Any hD.cur) ?_; rintro _ S3 ⟨hDn, t, htz, d2, d3, d4, rfl, hFn⟩
    replace hF := hF.joinD hlt hDn hFn hD.len
    replace hD := hD.trans hDn
    clear hDn hFn
    have rt : Rd S3 [.sl 6 (b.Tabs.map GTab.d)] [c1] := hF.rdAt (o := 1) rfl rfl
    have hsx := szLL_setLe (f := GTab.d) t b.Tabs 0
    have hst := tab_szD t
    have hsb := br_szD ⟨b.Key, b.Tabs.set 0 t, b.Packs, b.Grants, b.Limits, b.Rules, b.Store, b.Now⟩
    simp only [List.length_set] at hsb
    repeat' ((conv => whnf) <;> first
     | (refine rI rt rf hi00 ?_) | (show CondP _ _ _; refine cS ?_) | refine cD (fun _ => ?_) fun _ => ?_ | refine cE (fun _ => ?_) fun _ => ?_ | refine cT ?_ | refine cF ?_ | refine cN (fun _ => ?_) fun _ => ?_ | refine cI (fun _ => ?_) fun _ => ?_ | (refine callP_intro (ev_l1Below _ hD.cur) ?_; rintro _ Sn ⟨hDn, xn, hxn, rfl⟩; replace hF := hF.drw hlt hDn; replace hD := hD.trans hDn; clear hDn) | (refine callP_intro (ev_l31Any hD.cur) ?_; rintro _ Sn ⟨hDn, tn, hzn, c2, c3, c4, rfl, hFn⟩; replace hF := hF.joinD hlt hDn hFn hD.len; replace hD := hD.trans hDn; clear hDn hFn) | (refine callP_intro (ev_l1Int hD.cur (by rfl) (by rfl) (by rfl)) ?_; rintro _ Sn ⟨hDn, xn, rfl⟩; replace hF := hF.drw hlt hDn; replace hD := hD.trans hDn; clear hDn) | (refine callP_intro (ev_l11Any hD.cur) ?_; rintro _ Sn ⟨hDn, qn, rfl⟩; replace hF := hF.drw hlt hDn; replace hD := hD.trans hDn; clear hDn) | (refine callP_intro (ev_l32Full hD.cur) ?_; rintro _ Sn ⟨hDn, bn, hbn, _, _, _, _, _, _, rfl, hFn⟩; replace hF := hF.joinD hlt hDn hFn hD.len; replace hD := hD.trans hDn; clear hDn hFn) | (refine callP_intro (ev_l10Any hD.cur) ?_; rintro _ Sn ⟨hDn, gn, rfl⟩; replace hF := hF.drw hlt hDn; replace hD := hD.trans hDn; clear hDn) | (refine callP_intro (ev_l13Any hD.cur) ?_; rintro _ Sn ⟨hDn, un, rfl⟩; replace hF := hF.drw hlt hDn; replace hD := hD.trans hDn; clear hDn) | (refine callP_intro (ev_l24Any hD.cur) ?_; rintro _ Sn ⟨hDn, ln, hzn, cn, rfl, hFn⟩; replace hF := hF.joinD hlt hDn hFn hD.len; replace hD := hD.trans hDn; clear hDn hFn) | refine rI rdA rf ix ?_ | (refine rd_loadm (f := GPackage.d) rdA ix ?_; intro _ hcs; obtain ⟨_, _, _, _, rfl, _, _, _, _⟩ := GPackage.inv hcs) | (refine rd_loadm (f := GTab.d) rdA ix ?_; intro _ hcs; obtain ⟨_, _, _, rfl, _, _, _⟩ := GTab.inv hcs) | (refine rd_slif rdA rf om ?_; intro cSl hSl) | refine nP ?_ | refine draw_intro 16 [.fl 0, .fl 1, .fl 2, .st 3 [0, 1], .fl 4, .st 5 []] (by rfl) (by kernel_rfl) ?_ | refine draw_intro 29 [.fl 0, .fl 1, .fl 2, .fl 3, .fl 4, .fl 5, .fl 6, .st 7 [], .fl 8, .st 9 []] (by rfl) (by kernel_rfl) ?_ | refine draw_intro 40 [.fl 0, .fl 1, .fl 2, .st 3 [0, 1], .fl 4, .st 5 [], .fl 6, .st 7 []] (by rfl) (by kernel_rfl) ?_ | refine draw_intro 49 [.fl 0, .fl 1, .fl 2, .st 3 [0, 1], .fl 4, .st 5 [], .fl 6, .st 7 []] (by rfl) (by kernel_rfl) ?_ | refine draw_intro 58 [.fl 0, .fl 1, .fl 2, .st 3 [0, 1], .fl 4, .st 5 [], .fl 6, .st 7 []] (by rfl) (by kernel_rfl) ?_ | (refine dstoMv (q := 1) (k := 6) (ds := b.d) (cs := [.int .i64 b.Key, c1, c2, c3, c4, c5, c6, .int .i64 b.Now]) (xs := b.Tabs.map GTab.d) (A := []) (B := (b.Tabs[(0 : Int).toNat]'hi00.2).d) (B' := t.d) (Z := []) hD hF rfl rfl rfl (by rw [List.length_map]; exact hi00) (by rw [List.nil_append, List.append_nil]; exact tabX_at hi00) rfl rfl rfl ?_; intro SN hDN hFN) | refine And.intro ?_ ?_)
    all_goals first
      | exact hDN
      | (refine br_ex hlt ?_ (show szL (GBrowser.mk b.Key (b.Tabs.set 0 t) b.Packs b.Grants b.Limits b.Rules b.Store b.Now).d ≤ 450 by omega); rw [List.map_set]; exact hFN)
  by_cases x2 : x = 2
  · subst x2
    have r2 : Rd S2 [.sl 8 (b.Packs.map GPackage.d)] [c2] := hF.rdAt (o := 2) rfl rfl
    have hsd := szLL_drop (f := GPackage.d) b.Packs 1
    have hsb := br_szD ⟨b.Key, b.Tabs, b.Packs.drop 1, b.Grants, b.Limits, b.Rules, b.Store, b.Now⟩
    simp only [List.length_drop] at hsb
    repeat' ((conv => whnf) <;> first
     | (refine rd_slhe (cH := cutC c2 1 b.Packs.length) rfl r2 rf om ?_) | (show CondP _ _ _; refine cS ?_) | refine cD (fun _ => ?_) fun _ => ?_ | refine cE (fun _ => ?_) fun _ => ?_ | refine cT ?_ | refine cF ?_ | refine cN (fun _ => ?_) fun _ => ?_ | refine cI (fun _ => ?_) fun _ => ?_ | (refine callP_intro (ev_l1Below _ hD.cur) ?_; rintro _ Sn ⟨hDn, xn, hxn, rfl⟩; replace hF := hF.drw hlt hDn; replace hD := hD.trans hDn; clear hDn) | (refine callP_intro (ev_l31Any hD.cur) ?_; rintro _ Sn ⟨hDn, tn, hzn, c2, c3, c4, rfl, hFn⟩; replace hF := hF.joinD hlt hDn hFn hD.len; replace hD := hD.trans hDn; clear hDn hFn) | (refine callP_intro (ev_l1Int hD.cur (by rfl) (by rfl) (by rfl)) ?_; rintro _ Sn ⟨hDn, xn, rfl⟩; replace hF := hF.drw hlt hDn; replace hD := hD.trans hDn; clear hDn) | (refine callP_intro (ev_l11Any hD.cur) ?_; rintro _ Sn ⟨hDn, qn, rfl⟩; replace hF := hF.drw hlt hDn; replace hD := hD.trans hDn; clear hDn) | (refine callP_intro (ev_l32Full hD.cur) ?_; rintro _ Sn ⟨hDn, bn, hbn, _, _, _, _, _, _, rfl, hFn⟩; replace hF := hF.joinD hlt hDn hFn hD.len; replace hD := hD.trans hDn; clear hDn hFn) | (refine callP_intro (ev_l10Any hD.cur) ?_; rintro _ Sn ⟨hDn, gn, rfl⟩; replace hF := hF.drw hlt hDn; replace hD := hD.trans hDn; clear hDn) | (refine callP_intro (ev_l13Any hD.cur) ?_; rintro _ Sn ⟨hDn, un, rfl⟩; replace hF := hF.drw hlt hDn; replace hD := hD.trans hDn; clear hDn) | (refine callP_intro (ev_l24Any hD.cur) ?_; rintro _ Sn ⟨hDn, ln, hzn, cn, rfl, hFn⟩; replace hF := hF.joinD hlt hDn hFn hD.len; replace hD := hD.trans hDn; clear hDn hFn) | refine rI rdA rf ix ?_ | (refine rd_loadm (f := GPackage.d) rdA ix ?_; intro _ hcs; obtain ⟨_, _, _, _, rfl, _, _, _, _⟩ := GPackage.inv hcs) | (refine rd_loadm (f := GTab.d) rdA ix ?_; intro _ hcs; obtain ⟨_, _, _, rfl, _, _, _⟩ := GTab.inv hcs) | (refine rd_slif rdA rf om ?_; intro cSl hSl) | refine nP ?_ | refine draw_intro 16 [.fl 0, .fl 1, .fl 2, .st 3 [0, 1], .fl 4, .st 5 []] (by rfl) (by kernel_rfl) ?_ | refine draw_intro 29 [.fl 0, .fl 1, .fl 2, .fl 3, .fl 4, .fl 5, .fl 6, .st 7 [], .fl 8, .st 9 []] (by rfl) (by kernel_rfl) ?_ | refine draw_intro 40 [.fl 0, .fl 1, .fl 2, .st 3 [0, 1], .fl 4, .st 5 [], .fl 6, .st 7 []] (by rfl) (by kernel_rfl) ?_ | refine draw_intro 49 [.fl 0, .fl 1, .fl 2, .st 3 [0, 1], .fl 4, .st 5 [], .fl 6, .st 7 []] (by rfl) (by kernel_rfl) ?_ | refine draw_intro 58 [.fl 0, .fl 1, .fl 2, .st 3 [0, 1], .fl 4, .st 5 [], .fl 6, .st 7 []] (by rfl) (by kernel_rfl) ?_ | refine And.intro ?_ ?_)
    all_goals first
      | exact hD
      | (refine ⟨⟨b.Key, b.Tabs, b.Packs.drop 1, b.Grants, b.Limits, b.Rules, b.Store, b.Now⟩, by omega, c1, _, c3, c4, c5, c6, rfl, fun S' hs => ?_⟩
         have hR := hF.rdF hlt S' hs
         obtain ⟨_, _, _, _, _, _, he, q1, q2, q3, q4, q5, q6⟩ := GBrowser.inv hR
         simp only [List.cons.injEq, and_true, true_and] at he
         obtain ⟨rfl, rfl, rfl, rfl, rfl, rfl⟩ := he
         obtain ⟨cH, hcH, hH⟩ := rd_slhx (n := 8) (lo := 1) q2 (by intro _; rfl) (by omega)
         subst hcH
         exact GBrowser.rd q1 hH q3 q4 q5 q6)
  by_cases x3 : x = 3
  · subst x3
    obtain ⟨rows, hrl, hO⟩ := Fr.openAt (o := 2) hF rfl rfl
    have hrl2 : rows.length = b.Packs.length := by simpa using congrArg List.length hrl
    have hr00 : 0 ≤ (0 : Int) ∧ (0 : Int).toNat < rows.length := ⟨Int.le_refl _, by show 0 < rows.length; omega⟩
    have hr8 : ∀ y ∈ rows, y.length = 8 := fun y hy => by
      have : y.length ∈ (b.Packs.map GPackage.d).map List.length := by rw [← hrl]; exact List.mem_map_of_mem hy
      rw [List.map_map] at this
      obtain ⟨p, _, hp⟩ := List.mem_map.1 this
      exact hp.symm
    obtain ⟨a1, a2, a3, a4, a5, a6, a7, a8, hr0⟩ := len8 (hr8 _ (List.getElem_mem hr00.2))
    have r2 : Rd S2 [.sl 8 (rows.map (List.map D.x))] [c2] := hO.rdAt (o := 2) rfl rfl
    have hsa := szLL_app1 (f := GPackage.d) (b.Packs[0]) b.Packs
    have hsb := br_szD ⟨b.Key, b.Tabs, b.Packs ++ [b.Packs[0]], b.Grants, b.Limits, b.Rules, b.Store, b.Now⟩
    simp only [List.length_append, List.length_singleton] at hsb
    repeat' ((conv => whnf) <;> first
     | (refine rd_loadpl r2 hr00 hr0 ?_) | (refine rd_idx r2 (fun y hy => by obtain ⟨z, hz, rfl⟩ := List.mem_map.1 hy; rw [List.length_map]; exact hr8 z hz) (by rw [List.length_map]; exact hr00) ?_) | (show CondP _ _ _; refine cS ?_) | refine cD (fun _ => ?_) fun _ => ?_ | refine cE (fun _ => ?_) fun _ => ?_ | refine cT ?_ | refine cF ?_ | refine cN (fun _ => ?_) fun _ => ?_ | refine cI (fun _ => ?_) fun _ => ?_ | (refine callP_intro (ev_l1Below _ hD.cur) ?_; rintro _ Sn ⟨hDn, xn, hxn, rfl⟩; replace hF := hF.drw hlt hDn; replace hD := hD.trans hDn; clear hDn) | (refine callP_intro (ev_l31Any hD.cur) ?_; rintro _ Sn ⟨hDn, tn, hzn, c2, c3, c4, rfl, hFn⟩; replace hF := hF.joinD hlt hDn hFn hD.len; replace hD := hD.trans hDn; clear hDn hFn) | (refine callP_intro (ev_l1Int hD.cur (by rfl) (by rfl) (by rfl)) ?_; rintro _ Sn ⟨hDn, xn, rfl⟩; replace hF := hF.drw hlt hDn; replace hD := hD.trans hDn; clear hDn) | (refine callP_intro (ev_l11Any hD.cur) ?_; rintro _ Sn ⟨hDn, qn, rfl⟩; replace hF := hF.drw hlt hDn; replace hD := hD.trans hDn; clear hDn) | (refine callP_intro (ev_l32Full hD.cur) ?_; rintro _ Sn ⟨hDn, bn, hbn, _, _, _, _, _, _, rfl, hFn⟩; replace hF := hF.joinD hlt hDn hFn hD.len; replace hD := hD.trans hDn; clear hDn hFn) | (refine callP_intro (ev_l10Any hD.cur) ?_; rintro _ Sn ⟨hDn, gn, rfl⟩; replace hF := hF.drw hlt hDn; replace hD := hD.trans hDn; clear hDn) | (refine callP_intro (ev_l13Any hD.cur) ?_; rintro _ Sn ⟨hDn, un, rfl⟩; replace hF := hF.drw hlt hDn; replace hD := hD.trans hDn; clear hDn) | (refine callP_intro (ev_l24Any hD.cur) ?_; rintro _ Sn ⟨hDn, ln, hzn, cn, rfl, hFn⟩; replace hF := hF.joinD hlt hDn hFn hD.len; replace hD := hD.trans hDn; clear hDn hFn) | refine rI rdA rf ix ?_ | (refine rd_loadm (f := GPackage.d) rdA ix ?_; intro _ hcs; obtain ⟨_, _, _, _, rfl, _, _, _, _⟩ := GPackage.inv hcs) | (refine rd_loadm (f := GTab.d) rdA ix ?_; intro _ hcs; obtain ⟨_, _, _, rfl, _, _, _⟩ := GTab.inv hcs) | (refine rd_slif rdA rf om ?_; intro cSl hSl) | refine nP ?_ | refine draw_intro 16 [.fl 0, .fl 1, .fl 2, .st 3 [0, 1], .fl 4, .st 5 []] (by rfl) (by kernel_rfl) ?_ | refine draw_intro 29 [.fl 0, .fl 1, .fl 2, .fl 3, .fl 4, .fl 5, .fl 6, .st 7 [], .fl 8, .st 9 []] (by rfl) (by kernel_rfl) ?_ | refine draw_intro 40 [.fl 0, .fl 1, .fl 2, .st 3 [0, 1], .fl 4, .st 5 [], .fl 6, .st 7 []] (by rfl) (by kernel_rfl) ?_ | refine draw_intro 49 [.fl 0, .fl 1, .fl 2, .st 3 [0, 1], .fl 4, .st 5 [], .fl 6, .st 7 []] (by rfl) (by kernel_rfl) ?_ | refine draw_intro 58 [.fl 0, .fl 1, .fl 2, .st 3 [0, 1], .fl 4, .st 5 [], .fl 6, .st 7 []] (by rfl) (by kernel_rfl) ?_ | (refine dappAt (o := 2) (yd := [[a1, a2, a3, a4, a5, a6, a7, a8]].map (List.map D.x)) hD hO rfl rfl (plain_rep2 _) (by intro y hy; obtain ⟨z, hz, rfl⟩ := List.mem_map.1 hy; rw [List.mem_singleton.1 hz]; rfl) (by dsimp only [T125, T151, T170, T46]; simp only [List.length_map, List.length_singleton]; omega) (by simp only [List.length_map, List.length_singleton]; omega) ?_; intro cP SP hDP hFP) | refine And.intro ?_ ?_)
    all_goals first
      | exact hDP
      | (refine ⟨⟨b.Key, b.Tabs, b.Packs ++ [b.Packs[0]], b.Grants, b.Limits, b.Rules, b.Store, b.Now⟩, by omega, c1, cP, c3, c4, c5, c6, rfl, fun S' hs => ?_⟩
         have hR := rd_twice (o := 2) (i := 0) (ds := [.x (.int .i64 b.Key), .sl 6 (b.Tabs.map GTab.d), .sl 8 (rows.map (List.map D.x) ++ [[a1, a2, a3, a4, a5, a6, a7, a8]].map (List.map D.x)), .sl 7 (b.Grants.map GGrant.d), .sl 4 (b.Limits.map GLimit.d), .sl 8 (b.Rules.map GRule.d), .sl 4 (b.Store.map GStored.d), .x (.int .i64 b.Now)]) (cs := [.int .i64 b.Key, c1, cP, c3, c4, c5, c6, .int .i64 b.Now]) (xs := b.Packs.map GPackage.d) (x0 := (b.Packs[0]).d) (r0 := [a1, a2, a3, a4, a5, a6, a7, a8]) (hFP.rdF hlt S' hs) rfl rfl rfl hrl (by rw [List.getElem?_map, List.getElem?_eq_getElem hp1]; rfl) (by rw [← hr0]; exact List.getElem?_eq_getElem hr00.2)
         show Rd S' [_, _, .sl 8 ((b.Packs ++ [b.Packs[0]]).map GPackage.d), _, _, _, _, _] _
         rw [List.map_append]
         exact hR)
  by_cases x10 : x = 10
  · subst x10
    have r2 : Rd S2 [.sl 8 (b.Packs.map GPackage.d)] [c2] := hF.rdAt (o := 2) rfl rfl
    have hsx := szLL_setE (f := GPackage.d) ⟨(b.Packs[0]).Ext, (b.Packs[0]).Author, 9, (b.Packs[0]).Grants, (b.Packs[0]).Flows, (b.Packs[0]).Rules, (b.Packs[0]).Ops, (b.Packs[0]).Seal⟩ b.Packs 0 hp1
    rw [pk_szD, pk_szD] at hsx
    dsimp only at hsx
    have hsb := br_szD ⟨b.Key, b.Tabs, b.Packs.set 0 ⟨(b.Packs[0]).Ext, (b.Packs[0]).Author, 9, (b.Packs[0]).Grants, (b.Packs[0]).Flows, (b.Packs[0]).Rules, (b.Packs[0]).Ops, (b.Packs[0]).Seal⟩, b.Grants, b.Limits, b.Rules, b.Store, b.Now⟩
    simp only [List.length_set] at hsb
    repeat' ((conv => whnf) <;> first
     | (refine rI r2 rf hj00 ?_) | (show CondP _ _ _; refine cS ?_) | refine cD (fun _ => ?_) fun _ => ?_ | refine cE (fun _ => ?_) fun _ => ?_ | refine cT ?_ | refine cF ?_ | refine cN (fun _ => ?_) fun _ => ?_ | refine cI (fun _ => ?_) fun _ => ?_ | (refine callP_intro (ev_l1Below _ hD.cur) ?_; rintro _ Sn ⟨hDn, xn, hxn, rfl⟩; replace hF := hF.drw hlt hDn; replace hD := hD.trans hDn; clear hDn) | (refine callP_intro (ev_l31Any hD.cur) ?_; rintro _ Sn ⟨hDn, tn, hzn, c2, c3, c4, rfl, hFn⟩; replace hF := hF.joinD hlt hDn hFn hD.len; replace hD := hD.trans hDn; clear hDn hFn) | (refine callP_intro (ev_l1Int hD.cur (by rfl) (by rfl) (by rfl)) ?_; rintro _ Sn ⟨hDn, xn, rfl⟩; replace hF := hF.drw hlt hDn; replace hD := hD.trans hDn; clear hDn) | (refine callP_intro (ev_l11Any hD.cur) ?_; rintro _ Sn ⟨hDn, qn, rfl⟩; replace hF := hF.drw hlt hDn; replace hD := hD.trans hDn; clear hDn) | (refine callP_intro (ev_l32Full hD.cur) ?_; rintro _ Sn ⟨hDn, bn, hbn, _, _, _, _, _, _, rfl, hFn⟩; replace hF := hF.joinD hlt hDn hFn hD.len; replace hD := hD.trans hDn; clear hDn hFn) | (refine callP_intro (ev_l10Any hD.cur) ?_; rintro _ Sn ⟨hDn, gn, rfl⟩; replace hF := hF.drw hlt hDn; replace hD := hD.trans hDn; clear hDn) | (refine callP_intro (ev_l13Any hD.cur) ?_; rintro _ Sn ⟨hDn, un, rfl⟩; replace hF := hF.drw hlt hDn; replace hD := hD.trans hDn; clear hDn) | (refine callP_intro (ev_l24Any hD.cur) ?_; rintro _ Sn ⟨hDn, ln, hzn, cn, rfl, hFn⟩; replace hF := hF.joinD hlt hDn hFn hD.len; replace hD := hD.trans hDn; clear hDn hFn) | refine rI rdA rf ix ?_ | (refine rd_loadm (f := GPackage.d) rdA ix ?_; intro _ hcs; obtain ⟨_, _, _, _, rfl, _, _, _, _⟩ := GPackage.inv hcs) | (refine rd_loadm (f := GTab.d) rdA ix ?_; intro _ hcs; obtain ⟨_, _, _, rfl, _, _, _⟩ := GTab.inv hcs) | (refine rd_slif rdA rf om ?_; intro cSl hSl) | refine nP ?_ | refine draw_intro 16 [.fl 0, .fl 1, .fl 2, .st 3 [0, 1], .fl 4, .st 5 []] (by rfl) (by kernel_rfl) ?_ | refine draw_intro 29 [.fl 0, .fl 1, .fl 2, .fl 3, .fl 4, .fl 5, .fl 6, .st 7 [], .fl 8, .st 9 []] (by rfl) (by kernel_rfl) ?_ | refine draw_intro 40 [.fl 0, .fl 1, .fl 2, .st 3 [0, 1], .fl 4, .st 5 [], .fl 6, .st 7 []] (by rfl) (by kernel_rfl) ?_ | refine draw_intro 49 [.fl 0, .fl 1, .fl 2, .st 3 [0, 1], .fl 4, .st 5 [], .fl 6, .st 7 []] (by rfl) (by kernel_rfl) ?_ | refine draw_intro 58 [.fl 0, .fl 1, .fl 2, .st 3 [0, 1], .fl 4, .st 5 [], .fl 6, .st 7 []] (by rfl) (by kernel_rfl) ?_ | (refine dsto (q := 2) (k := 8) (xs := b.Packs.map GPackage.d) (A := [.x (.int .i64 (b.Packs[(0 : Int).toNat]'hj00.2).Ext), .x (.int .i64 (b.Packs[(0 : Int).toNat]'hj00.2).Author)]) (B := [.x (.int .i64 (b.Packs[(0 : Int).toNat]'hj00.2).Version)]) (Z := (b.Packs[(0 : Int).toNat]'hj00.2).d.drop 3) hD hF rfl rfl (by rw [List.length_map]; exact hj00) (pkX_at hj00) rfl rfl rfl ?_; intro SN hDN hFN) | refine And.intro ?_ ?_)
    all_goals first
      | exact hDN
      | (refine br_ex hlt ?_ (show szL (GBrowser.mk b.Key b.Tabs (b.Packs.set 0 ⟨(b.Packs[0]).Ext, (b.Packs[0]).Author, 9, (b.Packs[0]).Grants, (b.Packs[0]).Flows, (b.Packs[0]).Rules, (b.Packs[0]).Ops, (b.Packs[0]).Seal⟩) b.Grants b.Limits b.Rules b.Store b.Now).d ≤ 450 by omega); rw [List.map_set]; exact hFN)
  have hs0 : ∀ (key now : Int) (gs : List GGrant) (ls : List GLimit) (rs : List GRule) (ss : List GStored), gs.length ≤ b.Grants.length + 1 → ls.length ≤ b.Limits.length + 1 → rs.length ≤ b.Rules.length + 1 → ss.length ≤ b.Store.length + 9 → szL (GBrowser.mk key b.Tabs b.Packs gs ls rs ss now).d ≤ 450 := fun key now gs ls rs ss q1 q2 q3 q4 => by
    have := br_szD (GBrowser.mk key b.Tabs b.Packs gs ls rs ss now); dsimp only at this; omega
  have hsn : szL (GBrowser.mk b.Key [] b.Packs b.Grants b.Limits b.Rules b.Store b.Now).d ≤ 450 := by
    have := br_szD (GBrowser.mk b.Key [] b.Packs b.Grants b.Limits b.Rules b.Store b.Now); simp only [List.length_nil, List.map_nil, szL.szLL] at this; omega
  repeat' ((conv => whnf) <;> first
   | (show CondP _ _ _; refine cS ?_) | refine cD (fun _ => ?_) fun _ => ?_ | refine cE (fun _ => ?_) fun _ => ?_ | refine cT ?_ | refine cF ?_ | refine cN (fun _ => ?_) fun _ => ?_ | refine cI (fun _ => ?_) fun _ => ?_ | (refine callP_intro (ev_l1Below _ hD.cur) ?_; rintro _ Sn ⟨hDn, xn, hxn, rfl⟩; replace hF := hF.drw hlt hDn; replace hD := hD.trans hDn; clear hDn) | (refine callP_intro (ev_l31Any hD.cur) ?_; rintro _ Sn ⟨hDn, tn, hzn, c2, c3, c4, rfl, hFn⟩; replace hF := hF.joinD hlt hDn hFn hD.len; replace hD := hD.trans hDn; clear hDn hFn) | (refine callP_intro (ev_l1Int hD.cur (by rfl) (by rfl) (by rfl)) ?_; rintro _ Sn ⟨hDn, xn, rfl⟩; replace hF := hF.drw hlt hDn; replace hD := hD.trans hDn; clear hDn) | (refine callP_intro (ev_l11Any hD.cur) ?_; rintro _ Sn ⟨hDn, qn, rfl⟩; replace hF := hF.drw hlt hDn; replace hD := hD.trans hDn; clear hDn) | (refine callP_intro (ev_l32Full hD.cur) ?_; rintro _ Sn ⟨hDn, bn, hbn, _, _, _, _, _, _, rfl, hFn⟩; replace hF := hF.joinD hlt hDn hFn hD.len; replace hD := hD.trans hDn; clear hDn hFn) | (refine callP_intro (ev_l10Any hD.cur) ?_; rintro _ Sn ⟨hDn, gn, rfl⟩; replace hF := hF.drw hlt hDn; replace hD := hD.trans hDn; clear hDn) | (refine callP_intro (ev_l13Any hD.cur) ?_; rintro _ Sn ⟨hDn, un, rfl⟩; replace hF := hF.drw hlt hDn; replace hD := hD.trans hDn; clear hDn) | (refine callP_intro (ev_l24Any hD.cur) ?_; rintro _ Sn ⟨hDn, ln, hzn, cn, rfl, hFn⟩; replace hF := hF.joinD hlt hDn hFn hD.len; replace hD := hD.trans hDn; clear hDn hFn) | refine rI rdA rf ix ?_ | (refine rd_loadm (f := GPackage.d) rdA ix ?_; intro _ hcs; obtain ⟨_, _, _, _, rfl, _, _, _, _⟩ := GPackage.inv hcs) | (refine rd_loadm (f := GTab.d) rdA ix ?_; intro _ hcs; obtain ⟨_, _, _, rfl, _, _, _⟩ := GTab.inv hcs) | (refine rd_slif rdA rf om ?_; intro cSl hSl) | refine nP ?_ | refine draw_intro 16 [.fl 0, .fl 1, .fl 2, .st 3 [0, 1], .fl 4, .st 5 []] (by rfl) (by kernel_rfl) ?_ | refine draw_intro 29 [.fl 0, .fl 1, .fl 2, .fl 3, .fl 4, .fl 5, .fl 6, .st 7 [], .fl 8, .st 9 []] (by rfl) (by kernel_rfl) ?_ | refine draw_intro 40 [.fl 0, .fl 1, .fl 2, .st 3 [0, 1], .fl 4, .st 5 [], .fl 6, .st 7 []] (by rfl) (by kernel_rfl) ?_ | refine draw_intro 49 [.fl 0, .fl 1, .fl 2, .st 3 [0, 1], .fl 4, .st 5 [], .fl 6, .st 7 []] (by rfl) (by kernel_rfl) ?_ | refine draw_intro 58 [.fl 0, .fl 1, .fl 2, .st 3 [0, 1], .fl 4, .st 5 [], .fl 6, .st 7 []] (by rfl) (by kernel_rfl) ?_ | (refine dappF (f := GGrant.d) (o := 3) (l := b.Grants) (m := [_]) (fun _ => trivial) hD hF rfl rfl rfl rf (by dsimp only [T125, T151, T170, T46]; simp only [List.length_singleton]; omega) (by simp only [List.length_singleton]; omega) ?_; intro cN SN hDN hFN) | (refine dappF (f := GLimit.d) (o := 4) (l := b.Limits) (m := [_]) (fun _ => trivial) hD hF rfl rfl rfl rf (by dsimp only [T125, T151, T170, T46]; simp only [List.length_singleton]; omega) (by simp only [List.length_singleton]; omega) ?_; intro cN SN hDN hFN) | (refine dappF (f := GRule.d) (o := 5) (l := b.Rules) (m := [_]) (fun _ => trivial) hD hF rfl rfl rfl rf (by dsimp only [T125, T151, T170, T46]; simp only [List.length_singleton]; omega) (by simp only [List.length_singleton]; omega) ?_; intro cN SN hDN hFN) | refine And.intro ?_ ?_)
  all_goals first
    | exact hDN
    | exact hD
    | exact absurd rfl x1
    | exact absurd rfl x2
    | exact absurd rfl x3
    | exact absurd rfl x10
    | exact br_ex hlt hF (hs0 _ _ _ _ _ _ (by omega) (by omega) (by omega) (by omega))
    | exact br_ex hlt hFN (hs0 _ _ _ _ _ _ (by first | omega | (simp only [List.length_append, List.length_singleton]; omega)) (by first | omega | (simp only [List.length_append, List.length_singleton]; omega)) (by first | omega | (simp only [List.length_append, List.length_singleton]; omega)) (by omega))
    | exact br_ex hlt (hF.setX (o := 0) (by show 0 < 8; decide)) (hs0 _ _ _ _ _ _ (by omega) (by omega) (by omega) (by omega))
    | exact br_ex hlt (hF.setX (o := 7) (by show 7 < 8; decide)) (hs0 _ _ _ _ _ _ (by omega) (by omega) (by omega) (by omega))
    | exact br_ex hlt (hF.putLast (o := 6) rfl (by show 6 < 8; decide)) (hs0 _ _ _ _ _ _ (by omega) (by omega) (by omega) (by omega))
    | exact br_ex hlt (hF.setAt (o := 1) (Ext.refl _) fr_nilC hD.len (by show 1 < 8; decide)) hsn
    | (exfalso; omega)
end Go.Proofs.YtockphlpokoohaaGreat
