/- A text of the proof. A text of the proof. A text of the proof. A text of the proof. Requests that meet rules. -/
import Derived.Test.YtlmmdpmmdmhacaaGreatKt43
import Derived.Test.YtlmmdpmmdmhacaaGreatKt21
import Derived.Test.YtlmmdpmmdmhacaaGreatKt18
import Derived.Test.YtlmmdpmmdmhacaaGreatKt20
namespace Go.Proofs.YtlmmdpmmdmhacaaGreat
open Go Go.ChangeShapes Go.WideShapes Go.ChangeAt Go.RowKit
set_option linter.unusedVariables false
set_option linter.unusedSimpArgs false
set_option maxRecDepth 100000
theorem zqz {lo : Nat} {S : Store} {p : GPackage} {pcs : List C} (h : Fr lo S p.d pcs) (k x t n v so ss le lo' ls lk ek en ep et ex eb : Int) (co : Bool) : Fr lo S (GEvent.mk k x t n v co ⟨so, ss⟩ ⟨le, ⟨lo', ls⟩, lk⟩ ⟨ek, en, ep, et, ex, eb⟩ p).d ([.int .i64 k, .int .i64 x, .int .i64 t, .int .i64 n, .int .i64 v, .bool co, .int .i64 so, .int .i64 ss, .int .i64 le, .int .i64 lo', .int .i64 ls, .int .i64 lk, .int .i64 ek, .int .i64 en, .int .i64 ep, .int .i64 et, .int .i64 ex, .int .i64 eb] ++ pcs) :=
 fr_x (fr_x (fr_x (fr_x (fr_x (fr_x (fr_x (fr_x (fr_x (fr_x (fr_x (fr_x (fr_x (fr_x (fr_x (fr_x (fr_x (fr_x h)))))))))))))))))
abbrev pk00 : GPackage := ⟨0, 0, 0, [], [], [], [], 0⟩
theorem z6j {lo : Nat} {S : Store} : Fr lo S pk00.d [.int .i64 0, .int .i64 0, .int .i64 0, .nil, .nil, .nil, .nil, .int .i64 0] := fr_x (fr_x (fr_x (zct (zct (zct (zct (fr_x zc2)))))))
theorem z64 {lo : Nat} {S : Store} {p : GPackage} {c3 c4 c5 c6 : C} {k x t n v so ss le lo' ls lk ek en ep et ex eb : Int} {co : Bool} (h : Fr lo S p.d [.int .i64 p.Ext, .int .i64 p.Author, .int .i64 p.Version, c3, c4, c5, c6, .int .i64 p.Seal]) (hz : szL p.d ≤ 200) :
 ∃ e : GEvent, szL e.Package.d ≤ 200 ∧ ∃ c21 c22 c23 c24, AV.v (.agg [.int .i64 k, .int .i64 x, .int .i64 t, .int .i64 n, .int .i64 v, .bool co, .int .i64 so, .int .i64 ss, .int .i64 le, .int .i64 lo', .int .i64 ls, .int .i64 lk, .int .i64 ek, .int .i64 en, .int .i64 ep, .int .i64 et, .int .i64 ex, .int .i64 eb, .int .i64 p.Ext, .int .i64 p.Author, .int .i64 p.Version, c3, c4, c5, c6, .int .i64 p.Seal]) = .v (.agg [.int .i64 e.Kind, .int .i64 e.Ext, .int .i64 e.Tab, .int .i64 e.N, .int .i64 e.Value, .bool e.Consent, .int .i64 e.Site.Owner, .int .i64 e.Site.Sub, .int .i64 e.Limit.Ext, .int .i64 e.Limit.Pattern.Owner, .int .i64 e.Limit.Pattern.Sub, .int .i64 e.Limit.Kind, .int .i64 e.Edit.Kind, .int .i64 e.Edit.Node, .int .i64 e.Edit.Parent, .int .i64 e.Edit.Tag, .int .i64 e.Edit.Text, .int .i64 e.Edit.By, .int .i64 e.Package.Ext, .int .i64 e.Package.Author, .int .i64 e.Package.Version, c21, c22, c23, c24, .int .i64 e.Package.Seal]) ∧ Fr lo S e.d [.int .i64 e.Kind, .int .i64 e.Ext, .int .i64 e.Tab, .int .i64 e.N, .int .i64 e.Value, .bool e.Consent, .int .i64 e.Site.Owner, .int .i64 e.Site.Sub, .int .i64 e.Limit.Ext, .int .i64 e.Limit.Pattern.Owner, .int .i64 e.Limit.Pattern.Sub, .int .i64 e.Limit.Kind, .int .i64 e.Edit.Kind, .int .i64 e.Edit.Node, .int .i64 e.Edit.Parent, .int .i64 e.Edit.Tag, .int .i64 e.Edit.Text, .int .i64 e.Edit.By, .int .i64 e.Package.Ext, .int .i64 e.Package.Author, .int .i64 e.Package.Version, c21, c22, c23, c24, .int .i64 e.Package.Seal] :=
 ⟨GEvent.mk k x t n v co ⟨so, ss⟩ ⟨le, ⟨lo', ls⟩, lk⟩ ⟨ek, en, ep, et, ex, eb⟩ p, hz, c3, c4, c5, c6, rfl, zqz h k x t n v so ss le lo' ls lk ek en ep et ex eb co⟩
theorem z6r {lo : Nat} {S : Store} {k x t n v so ss le lo' ls lk ek en ep et ex eb : Int} {co : Bool} :
 ∃ e : GEvent, szL e.Package.d ≤ 200 ∧ ∃ c21 c22 c23 c24, AV.v (.agg [.int .i64 k, .int .i64 x, .int .i64 t, .int .i64 n, .int .i64 v, .bool co, .int .i64 so, .int .i64 ss, .int .i64 le, .int .i64 lo', .int .i64 ls, .int .i64 lk, .int .i64 ek, .int .i64 en, .int .i64 ep, .int .i64 et, .int .i64 ex, .int .i64 eb, .int .i64 0, .int .i64 0, .int .i64 0, .nil, .nil, .nil, .nil, .int .i64 0]) = .v (.agg [.int .i64 e.Kind, .int .i64 e.Ext, .int .i64 e.Tab, .int .i64 e.N, .int .i64 e.Value, .bool e.Consent, .int .i64 e.Site.Owner, .int .i64 e.Site.Sub, .int .i64 e.Limit.Ext, .int .i64 e.Limit.Pattern.Owner, .int .i64 e.Limit.Pattern.Sub, .int .i64 e.Limit.Kind, .int .i64 e.Edit.Kind, .int .i64 e.Edit.Node, .int .i64 e.Edit.Parent, .int .i64 e.Edit.Tag, .int .i64 e.Edit.Text, .int .i64 e.Edit.By, .int .i64 e.Package.Ext, .int .i64 e.Package.Author, .int .i64 e.Package.Version, c21, c22, c23, c24, .int .i64 e.Package.Seal]) ∧ Fr lo S e.d [.int .i64 e.Kind, .int .i64 e.Ext, .int .i64 e.Tab, .int .i64 e.N, .int .i64 e.Value, .bool e.Consent, .int .i64 e.Site.Owner, .int .i64 e.Site.Sub, .int .i64 e.Limit.Ext, .int .i64 e.Limit.Pattern.Owner, .int .i64 e.Limit.Pattern.Sub, .int .i64 e.Limit.Kind, .int .i64 e.Edit.Kind, .int .i64 e.Edit.Node, .int .i64 e.Edit.Parent, .int .i64 e.Edit.Tag, .int .i64 e.Edit.Text, .int .i64 e.Edit.By, .int .i64 e.Package.Ext, .int .i64 e.Package.Author, .int .i64 e.Package.Version, c21, c22, c23, c24, .int .i64 e.Package.Seal] :=
 ⟨GEvent.mk k x t n v co ⟨so, ss⟩ ⟨le, ⟨lo', ls⟩, lk⟩ ⟨ek, en, ep, et, ex, eb⟩ pk00, (show szL pk00.d ≤ 200 by rw [ztt]; decide), .nil, .nil, .nil, .nil, rfl, zqz z6j k x t n v so ss le lo' ls lk ek en ep et ex eb co⟩
set_option maxHeartbeats 8000000 in
theorem z0k {id : Nat} {S : Store} (h : Cur id S) : EvA Tryz.prog 117 [.s (.pt id)] S (fun r S' => Drw id S S' ∧ ∃ e : GEvent, szL e.Package.d ≤ 200 ∧ ∃ c21 c22 c23 c24, r = .v (.agg [.int .i64 e.Kind, .int .i64 e.Ext, .int .i64 e.Tab, .int .i64 e.N, .int .i64 e.Value, .bool e.Consent, .int .i64 e.Site.Owner, .int .i64 e.Site.Sub, .int .i64 e.Limit.Ext, .int .i64 e.Limit.Pattern.Owner, .int .i64 e.Limit.Pattern.Sub, .int .i64 e.Limit.Kind, .int .i64 e.Edit.Kind, .int .i64 e.Edit.Node, .int .i64 e.Edit.Parent, .int .i64 e.Edit.Tag, .int .i64 e.Edit.Text, .int .i64 e.Edit.By, .int .i64 e.Package.Ext, .int .i64 e.Package.Author, .int .i64 e.Package.Version, c21, c22, c23, c24, .int .i64 e.Package.Seal]) ∧ Fr S.length S' e.d [.int .i64 e.Kind, .int .i64 e.Ext, .int .i64 e.Tab, .int .i64 e.N, .int .i64 e.Value, .bool e.Consent, .int .i64 e.Site.Owner, .int .i64 e.Site.Sub, .int .i64 e.Limit.Ext, .int .i64 e.Limit.Pattern.Owner, .int .i64 e.Limit.Pattern.Sub, .int .i64 e.Limit.Kind, .int .i64 e.Edit.Kind, .int .i64 e.Edit.Node, .int .i64 e.Edit.Parent, .int .i64 e.Edit.Tag, .int .i64 e.Edit.Text, .int .i64 e.Edit.By, .int .i64 e.Package.Ext, .int .i64 e.Package.Author, .int .i64 e.Package.Version, c21, c22, c23, c24, .int .i64 e.Package.Seal]) := by
 have hlt := h.lt
 have hD := Drw.refl h
 have hF : Fr S.length S [] [] := zc2
 refine zac tok Tryz.func117 (by kernel_rfl) rfl ?_
 repeat' ((conv => whnf) <;> first
  | rw [zad (by omega)] | refine cD (fun _ => ?_) fun _ => ?_ | refine cN (fun _ => ?_) fun _ => ?_ | refine cI (fun _ => ?_) fun _ => ?_ | (refine zab (za7 _ hD.cur) ?_; rintro _ Sn ⟨hDn, xn, hxn, rfl⟩; replace hF := hF.drw hlt hDn; replace hD := hD.trans hDn; clear hDn) | (refine zab (zkw hD.cur) ?_; rintro _ Sn ⟨hDn, sn, hsn, rfl⟩; replace hF := hF.drw hlt hDn; replace hD := hD.trans hDn; clear hDn) | (refine zab (zpz _ hD.cur) ?_; rintro _ Sn ⟨hDn, pn, hen, hzn, _, _, _, _, rfl, hFn⟩; replace hF := hF.joinD hlt hDn hFn hD.len; replace hD := hD.trans hDn; clear hDn hFn) | (refine zab (zzq _ hD.cur) ?_; rintro _ Sn ⟨hDn, bn, rfl⟩; replace hF := hF.drw hlt hDn; replace hD := hD.trans hDn; clear hDn) | (refine zab (ztf hD.cur) ?_; rintro _ Sn ⟨hDn, en, hen, rfl⟩; replace hF := hF.drw hlt hDn; replace hD := hD.trans hDn; clear hDn) | (refine zab (zyk hD.cur) ?_; rintro _ Sn ⟨hDn, qn, hqn, rfl⟩; replace hF := hF.drw hlt hDn; replace hD := hD.trans hDn; clear hDn) | refine And.intro ?_ ?_)
 all_goals first
  | exact hD
  | exact z6r
  | exact z64 hF (by have := ztt pn; omega)
  | (exfalso; omega)
set_option maxHeartbeats 4000000 in
theorem ztk {id : Nat} {S : Store} (most : Int) (h : Cur id S) (hm : most ≤ 100) : EvA Tryz.prog 116 [.s (.pt id), .s (.int .i64 most)] S (fun r S' => Drw id S S' ∧ ∃ l : List GEvent, l.length ≤ 101 ∧ 1 ≤ l.length ∧ (∀ e ∈ l, szL e.Package.d ≤ 200) ∧ ∃ c', r = .v (.s c') ∧ Fr S.length S' [.sl 26 (l.map GEvent.d)] [c']) := by
 have hlt := h.lt
 have hD := Drw.refl h
 refine zac tok Tryz.func116 (by kernel_rfl) rfl ?_
 skip
 (conv => whnf)
 refine zab (za7 _ hD.cur) ?_; rintro _ S1 ⟨hDn, x1, hx1, rfl⟩
 replace hD := hD.trans hDn; clear hDn
 repeat' ((conv => whnf) <;> first
  | rw [zad (by omega)])
 (conv => whnf)
 refine zab (zpz _ hD.cur) ?_; rintro _ S2 ⟨hDn, p, hpe, hpz, p3, p4, p5, p6, rfl, hFn⟩
 have hps := ztt p
 have hE := zqz (hFn.mono hD.len) 1 (1 + x1) 0 0 0 0 0 0 0 0 0 0 0 0 0 0 0 false
 replace hD := hD.trans hDn; clear hDn hFn
 skip
 (conv => whnf)
 have hF := Fr.pushMv (k := 26) (ds := []) (cs := []) hE rfl hD.len rfl
 have hD1 := hD.push ⟨true, 26, [[.int .i64 1, .int .i64 (1 + x1), .int .i64 0, .int .i64 0, .int .i64 0, .bool false, .int .i64 0, .int .i64 0, .int .i64 0, .int .i64 0, .int .i64 0, .int .i64 0, .int .i64 0, .int .i64 0, .int .i64 0, .int .i64 0, .int .i64 0, .int .i64 0, .int .i64 p.Ext, .int .i64 p.Author, .int .i64 p.Version, p3, p4, p5, p6, .int .i64 p.Seal]]⟩
 refine zab (za7 _ hD1.cur) ?_; rintro _ S3 ⟨hDn, x2, hx2, rfl⟩
 replace hF := hF.drw hlt hDn
 replace hD1 := hD1.trans hDn; clear hDn hD hE
 obtain ⟨n, rfl⟩ := Int.eq_ofNat_of_zero_le hx2.1
 have hn100 : n ≤ 100 := by
  rcases Int.lt_or_le 0 most with h | h
  ·have := hx2.2.2.1 h; omega
  ·have := hx2.2.2.2 h; omega
 skip
 refine zag {q : Nat × Store × C // q.1 ≤ 100 ∧ Drw id S q.2.1 ∧ ∃ l : List GEvent, (∀ e ∈ l, szL e.Package.d ≤ 200) ∧ (1 ≤ l.length ∧ l.length + q.1 ≤ 101) ∧ Fr S.length q.2.1 [.sl 26 (l.map GEvent.d)] [q.2.2]} [6, 7, 20, 21, 22, 23, 24, 25, 26, 27, 28] (fun zb => [(7, .v (.s (.int .i64 (zb.1.1 : Nat)))), (6, .v (.s zb.1.2.2))]) (fun zb => zb.1.2.1) (fun zb => zb.1.1) ⟨(n, _, _), by dsimp only; omega, hD1, [(GEvent.mk 1 (1 + x1) 0 0 0 false ⟨0, 0⟩ ⟨0, ⟨0, 0⟩, 0⟩ ⟨0, 0, 0, 0, 0, 0⟩ p)], fun t ht => by rw [List.mem_singleton.1 ht]; dsimp only; omega, by simp; omega, hF⟩ okL rfl ?_
 rintro ⟨⟨k, Si, ci⟩, hk, hP⟩; dsimp only
 clear hF hD1 hx2 hn100
 replace hk : k ≤ 100 := hk
 obtain ⟨hD, l, hT, hl, hF⟩ : Drw id S Si ∧ ∃ l : List GEvent, (∀ e ∈ l, szL e.Package.d ≤ 200) ∧ (1 ≤ l.length ∧ l.length + k ≤ 101) ∧ Fr S.length Si [.sl 26 (l.map GEvent.d)] [ci] := hP
 by_cases hk0 : 0 < k
 ·repeat' ((conv => whnf) <;> first
   | (show CondP _ _ _; refine cS ?_))
  all_goals try (exfalso; omega)
  (conv => whnf)
  refine zab (z0k hD.cur) ?_; rintro _ S4 ⟨hDn, e, hez, c21, c22, c23, c24, rfl, hFn⟩
  replace hF := hF.joinD hlt hDn hFn hD.len
  replace hD := hD.trans hDn
  clear hDn hFn
  repeat' ((conv => whnf) <;> first
   | rw [zad (by omega)] | (refine z4i (ds := [.sl 26 (l.map GEvent.d)]) (cs := [ci]) (dy := e.d) (o := 0) hD hF rfl rfl rfl rfl (by dsimp only [T89]; simp only [List.length_map]; omega) (by simp only [List.length_map]; omega) ?_; intro cN SN hDN hFN))
  all_goals try (exfalso; omega)
  refine ⟨⟨(k - 1, SN, cN), by dsimp only; omega, hDN, l ++ [e], fun x hx => ?_, by simp only [List.length_append, List.length_singleton]; omega, ?_⟩, ?_, rfl, by dsimp only; omega⟩
  ·rcases List.mem_append.1 hx with h | h
   ·exact hT x h
   ·rw [List.mem_singleton.1 h]; exact hez
  ·rw [List.map_append]; exact hFN
  ·(conv => whnf); repeat' (first | exact trivial | exact rfl | (show _ = _; congr 3; dsimp only; omega) | apply And.intro)
 repeat' ((conv => whnf) <;> first
  | (show CondP _ _ _; refine cS ?_) | refine And.intro ?_ ?_)
 all_goals first
  | exact hD
  | (exfalso; omega)
  | exact ⟨l, by omega, hl.1, hT, _, rfl, hF⟩
theorem zwk {S : Store} {e : GEvent} {cs : List C} (h : Rd S e.d cs) : ∃ c21 c22 c23 c24, cs = [.int .i64 e.Kind, .int .i64 e.Ext, .int .i64 e.Tab, .int .i64 e.N, .int .i64 e.Value, .bool e.Consent, .int .i64 e.Site.Owner, .int .i64 e.Site.Sub, .int .i64 e.Limit.Ext, .int .i64 e.Limit.Pattern.Owner, .int .i64 e.Limit.Pattern.Sub, .int .i64 e.Limit.Kind, .int .i64 e.Edit.Kind, .int .i64 e.Edit.Node, .int .i64 e.Edit.Parent, .int .i64 e.Edit.Tag, .int .i64 e.Edit.Text, .int .i64 e.Edit.By, .int .i64 e.Package.Ext, .int .i64 e.Package.Author, .int .i64 e.Package.Version, c21, c22, c23, c24, .int .i64 e.Package.Seal] ∧ Rd S e.Package.d [.int .i64 e.Package.Ext, .int .i64 e.Package.Author, .int .i64 e.Package.Version, c21, c22, c23, c24, .int .i64 e.Package.Seal] := by
 obtain ⟨c21, c22, c23, c24, rfl, h1, h2, h3, h4⟩ := GEvent.inv h
 exact ⟨c21, c22, c23, c24, rfl, GPackage.rd h1 h2 h3 h4⟩
set_option maxHeartbeats 2000000 in
theorem zl2 {S : Store} {c : C} (l : List Int) (hr : Rd S [.sl 1 (l.map zot)] [c]) (hz : l.length ≤ 1048576) : EvA Tryz.prog 41 [.s c] S (fun r S' => Ext S S' ∧ ∃ (b : GBrowser) (es : List GEvent), DrOk b ∧ b.Packs = [] ∧ b.Grants = [] ∧ b.Rules = [] ∧ es.length ≤ 101 ∧ 1 ≤ es.length ∧ (∀ e ∈ es, szL e.Package.d ≤ 200) ∧ ∃ c1 c2 c3 c4 c5 c6 d, r = .tup [.agg [.int .i64 b.Key, c1, c2, c3, c4, c5, c6, .int .i64 b.Now], .s d] ∧ Rd S' b.d [.int .i64 b.Key, c1, c2, c3, c4, c5, c6, .int .i64 b.Now] ∧ Rd S' [.sl 26 (es.map GEvent.d)] [d]) := by
 refine zac tok Tryz.func41 (by kernel_rfl) rfl ?_
 skip
 (conv => whnf)
 refine zab (z28 l hr hz) ?_; rintro _ S1 ⟨hE, h, rfl⟩
 have hlt := h.lt
 skip
 have hD := Drw.refl h
 (conv => whnf)
 refine zab (zyv hD.cur) ?_; rintro _ S2 ⟨hDn, ts, hb, hnb, hts, c1, c2, c3, c4, c5, c6, rfl, hF⟩
 have hb0 := z5l hb hnb
 replace hD := hD.trans hDn; clear hDn
 repeat' ((conv => whnf) <;> first
  | refine zae 10 [.fl 0, .fl 1, .st 2 [0], .st 3 [], .st 4 []] (by rfl) (by kernel_rfl) ?_)
 (conv => whnf)
 refine zab (ztk _ hD.cur (by decide)) ?_; rintro _ S3 ⟨hDn, es, hl, h1l, hlz, cl, rfl, hL⟩
 replace hF := hF.drw hlt hDn
 repeat' ((conv => whnf) <;> first
  | refine And.intro ?_ ?_)
 all_goals first
  | exact z41 hE (hD.trans hDn)
  | exact ⟨newB 5 ts, es, hb0, rfl, rfl, rfl, hl, h1l, hlz, _, _, _, _, _, _, _, rfl, hF.rd, hL.rd⟩
def za1 (b : GBrowser) (e : GEvent) : GBrowser × Bool :=
 if e.Kind = 1 then za9 b e.Package
 else if e.Kind = 2 then zbs b e.Ext
 else if e.Kind = 3 then zbi b e.Package e.Consent
 else if e.Kind = 4 then zb0 b e.Limit
 else if e.Kind = 5 then zbz b e.Tab e.Ext
 else if e.Kind = 6 then zew b e.Tab e.Site
 else if e.Kind = 7 then zci b e.N
 else if e.Kind = 8 then zcn b e.Tab e.Edit
 else if e.Kind = 9 then zca b e.Ext e.Tab e.Edit
 else if e.Kind = 10 then zcj b e.Ext e.Tab e.N e.Value
 else (b, false)
theorem app1 {b : GBrowser} {e : GEvent} (h : e.Kind = 1) : za1 b e = za9 b e.Package := by unfold za1; rw [h]; rfl
theorem app2 {b : GBrowser} {e : GEvent} (h : e.Kind = 2) : za1 b e = zbs b e.Ext := by unfold za1; rw [h]; rfl
theorem app3 {b : GBrowser} {e : GEvent} (h : e.Kind = 3) : za1 b e = zbi b e.Package e.Consent := by unfold za1; rw [h]; rfl
theorem app4 {b : GBrowser} {e : GEvent} (h : e.Kind = 4) : za1 b e = zb0 b e.Limit := by unfold za1; rw [h]; rfl
theorem app5 {b : GBrowser} {e : GEvent} (h : e.Kind = 5) : za1 b e = zbz b e.Tab e.Ext := by unfold za1; rw [h]; rfl
theorem app6 {b : GBrowser} {e : GEvent} (h : e.Kind = 6) : za1 b e = zew b e.Tab e.Site := by unfold za1; rw [h]; rfl
theorem app7 {b : GBrowser} {e : GEvent} (h : e.Kind = 7) : za1 b e = zci b e.N := by unfold za1; rw [h]; rfl
theorem app8 {b : GBrowser} {e : GEvent} (h : e.Kind = 8) : za1 b e = zcn b e.Tab e.Edit := by unfold za1; rw [h]; rfl
theorem app9 {b : GBrowser} {e : GEvent} (h : e.Kind = 9) : za1 b e = zca b e.Ext e.Tab e.Edit := by unfold za1; rw [h]; rfl
theorem z6i {b : GBrowser} {e : GEvent} (h : e.Kind = 10) : za1 b e = zcj b e.Ext e.Tab e.N e.Value := by unfold za1; rw [h]; rfl
theorem app0 {b : GBrowser} {e : GEvent} (h1 : e.Kind ≠ 1) (h2 : e.Kind ≠ 2) (h3 : e.Kind ≠ 3) (h4 : e.Kind ≠ 4) (h5 : e.Kind ≠ 5) (h6 : e.Kind ≠ 6) (h7 : e.Kind ≠ 7) (h8 : e.Kind ≠ 8) (h9 : e.Kind ≠ 9) (h10 : e.Kind ≠ 10) : za1 b e = (b, false) := by
 unfold za1; rw [if_neg h1, if_neg h2, if_neg h3, if_neg h4, if_neg h5, if_neg h6, if_neg h7, if_neg h8, if_neg h9, if_neg h10]
theorem zsv (b : GBrowser) (e : GEvent) : (e.Kind = 1 ∧ za1 b e = za9 b e.Package) ∨ (e.Kind = 2 ∧ za1 b e = zbs b e.Ext) ∨ (e.Kind = 3 ∧ za1 b e = zbi b e.Package e.Consent) ∨ (e.Kind = 4 ∧ za1 b e = zb0 b e.Limit) ∨ (e.Kind = 5 ∧ za1 b e = zbz b e.Tab e.Ext) ∨ (e.Kind = 6 ∧ za1 b e = zew b e.Tab e.Site) ∨ (e.Kind = 7 ∧ za1 b e = zci b e.N) ∨ (e.Kind = 8 ∧ za1 b e = zcn b e.Tab e.Edit) ∨ (e.Kind = 9 ∧ za1 b e = zca b e.Ext e.Tab e.Edit) ∨ (e.Kind = 10 ∧ za1 b e = zcj b e.Ext e.Tab e.N e.Value) ∨ (¬ (1 ≤ e.Kind ∧ e.Kind ≤ 10) ∧ za1 b e = (b, false)) := by
 by_cases k1 : e.Kind = 1
 ·exact .inl ⟨k1, app1 k1⟩
 right
 by_cases k2 : e.Kind = 2
 ·exact .inl ⟨k2, app2 k2⟩
 right
 by_cases k3 : e.Kind = 3
 ·exact .inl ⟨k3, app3 k3⟩
 right
 by_cases k4 : e.Kind = 4
 ·exact .inl ⟨k4, app4 k4⟩
 right
 by_cases k5 : e.Kind = 5
 ·exact .inl ⟨k5, app5 k5⟩
 right
 by_cases k6 : e.Kind = 6
 ·exact .inl ⟨k6, app6 k6⟩
 right
 by_cases k7 : e.Kind = 7
 ·exact .inl ⟨k7, app7 k7⟩
 right
 by_cases k8 : e.Kind = 8
 ·exact .inl ⟨k8, app8 k8⟩
 right
 by_cases k9 : e.Kind = 9
 ·exact .inl ⟨k9, app9 k9⟩
 right
 by_cases k10 : e.Kind = 10
 ·exact .inl ⟨k10, z6i k10⟩
 right
 exact ⟨by omega, app0 k1 k2 k3 k4 k5 k6 k7 k8 k9 k10⟩
theorem zxo {b : GBrowser} (h : DrOk b) (e : GEvent) : DrOk (za1 b e).1 := by
 rcases zsv b e with ⟨_, k⟩ | ⟨_, k⟩ | ⟨_, k⟩ | ⟨_, k⟩ | ⟨_, k⟩ | ⟨_, k⟩ | ⟨_, k⟩ | ⟨_, k⟩ | ⟨_, k⟩ | ⟨_, k⟩ | ⟨_, k⟩ <;> rw [k]
 ·exact zo2 h _
 ·exact zq1 h _
 ·exact zqr h _ _
 ·exact zst h _
 ·exact ztz h _ _
 ·exact z0r h _ _
 ·exact zur h _
 ·exact zvy h _ _
 ·exact zux h _ _ _
 ·exact zuu h _ _ _ _
 ·exact h
def zk7 (b : GBrowser) (l : List GEvent) : GBrowser := l.foldl (fun x e => (za1 x e).1) b
theorem zyl {b : GBrowser} {l : List GEvent} {i : Nat} (h : i < l.length) : zk7 b (l.take (i + 1)) = (za1 (zk7 b (l.take i)) l[i]).1 := by
 unfold zk7
 rw [List.take_succ_eq_append_getElem h, List.foldl_append]; rfl
theorem z3i {b : GBrowser} (h : DrOk b) : ∀ l : List GEvent, DrOk (zk7 b l) := fun l => by
 induction l generalizing b with
 | nil => exact h
 | cons e r ih => exact ih (zxo h e)
set_option maxHeartbeats 8000000 in
theorem zoo {b : GBrowser} (hb : DrOk b) (e : GEvent) (he : szL e.Package.d ≤ 200) (cs cs' : List C) (S : Store) (h : Rd S b.d cs) (h' : Rd S e.d cs') : EvA Tryz.prog 48 [.agg cs, .agg cs'] S (fun r S' => Ext S S' ∧ ∃ c1 c2 c3 c4 c5 c6, r = .tup [.agg [.int .i64 (za1 b e).1.Key, c1, c2, c3, c4, c5, c6, .int .i64 (za1 b e).1.Now], .s (.bool (za1 b e).2)] ∧ Fr S.length S' (za1 b e).1.d [.int .i64 (za1 b e).1.Key, c1, c2, c3, c4, c5, c6, .int .i64 (za1 b e).1.Now]) := by
 have hsz := hb.ok.sz
 obtain ⟨_, _, _, _, _, _, rfl, _⟩ := GBrowser.inv h
 obtain ⟨_, _, _, _, rfl, hP⟩ := zwk h'
 have hz1 : szL b.d ≤ 1048576 := by omega
 have hz2 : szL b.d ≤ 2097152 := by omega
 have hz3 : szL b.d ≤ 4194304 := by omega
 have hz4 : szL e.Package.d ≤ 1048576 := by omega
 have hnow := hb.ok.now
 have ha0 : e.Kind ≠ 1 → e.Kind ≠ 2 → e.Kind ≠ 3 → e.Kind ≠ 4 → e.Kind ≠ 5 → e.Kind ≠ 6 → e.Kind ≠ 7 → e.Kind ≠ 8 → e.Kind ≠ 9 → e.Kind ≠ 10 → za1 b e = (b, false) := app0
 refine zac tok Tryz.func48 (by kernel_rfl) rfl ?_
 repeat' ((conv => whnf) <;> first
  | (refine zab (zao b _ _ h hz3) ?_; rintro _ Sn ⟨hEn, _, _, _, _, _, _, rfl, hFn⟩; have hA := ha0 aN aN aN aN aN aN aN aN aN aN) | (refine zab (zsu b e.Ext e.Tab e.N e.Value _ _ h hz1) ?_; rintro _ Sn ⟨hEn, _, _, _, _, _, _, rfl, hFn⟩; have hA := z6i (b := b) (e := e) aN) | (refine zab (zsw b e.Ext e.Tab e.Edit _ _ h hz2) ?_; rintro _ Sn ⟨hEn, _, _, _, _, _, _, rfl, hFn⟩; have hA := app9 (b := b) (e := e) aN) | (refine zab (zts b e.Tab e.Edit _ _ h hz2) ?_; rintro _ Sn ⟨hEn, _, _, _, _, _, _, rfl, hFn⟩; have hA := app8 (b := b) (e := e) aN) | (refine zab (zso b e.N _ _ h hz2 hnow) ?_; rintro _ Sn ⟨hEn, _, _, _, _, _, _, rfl, hFn⟩; have hA := app7 (b := b) (e := e) aN) | (refine zab (zy5 b e.Tab e.Site _ _ h hz2) ?_; rintro _ Sn ⟨hEn, _, _, _, _, _, _, rfl, hFn⟩; have hA := app6 (b := b) (e := e) aN) | (refine zab (zqw b e.Tab e.Ext _ _ h hz2) ?_; rintro _ Sn ⟨hEn, _, _, _, _, _, _, rfl, hFn⟩; have hA := app5 (b := b) (e := e) aN) | (refine zab (zrr b e.Limit _ _ h hz2) ?_; rintro _ Sn ⟨hEn, _, _, _, _, _, _, rfl, hFn⟩; have hA := app4 (b := b) (e := e) aN) | (refine zab (zol b e.Package e.Consent _ _ _ h hP hz1 hz4) ?_; rintro _ Sn ⟨hEn, _, _, _, _, _, _, rfl, hFn⟩; have hA := app3 (b := b) (e := e) aN) | (refine zab (zjb b e.Ext _ _ h hz1) ?_; rintro _ Sn ⟨hEn, _, _, _, _, _, _, rfl, hFn⟩; have hA := app2 (b := b) (e := e) aN) | (refine zab (zm6 b e.Package _ _ _ h hP hz1 hz4) ?_; rintro _ Sn ⟨hEn, _, _, _, _, _, _, rfl, hFn⟩; have hA := app1 (b := b) (e := e) aN) | refine cD (fun _ => ?_) fun _ => ?_ | refine And.intro ?_ ?_)
 all_goals first
  | exact hEn
  | (rw [hA]; exact ⟨_, _, _, _, _, _, rfl, hFn⟩)
def cmpR (a b : GRule) : List Int := [cmpI b.Prio a.Prio, cmpI a.Action b.Action, cmpI a.Ext b.Ext, cmpI a.To.Owner b.To.Owner, cmpI a.To.Sub b.To.Sub]
theorem zh0 (a b : GRule) (S : Store) : EvA Tryz.prog 210 [.agg a.c, .agg b.c] S (fun r S' => r = .v (.s (.int .i64 (orGo (cmpR a b)))) ∧ S' = S) := by
 refine EvA.drop rfl ?_
 refine zac tok Tryz.func210 (by kernel_rfl) rfl ?_
 repeat' ((conv => whnf) <;> first
  | refine zaa (zpg _ _ _) ?_ | refine zae 5 [.fl 0, .fl 1, .fl 2, .fl 3, .fl 5, .fl 6, .fl 7, .fl 8, .fl 10, .fl 11, .fl 12, .fl 13, .fl 15, .fl 16, .fl 17, .fl 18, .fl 19, .fl 20, .fl 22, .fl 23, .fl 24, .fl 25, .fl 26, .fl 27, .st 4 [5, 6, 7, 8, 10, 11, 12, 13, 15, 16, 17, 18, 19, 20, 22, 23, 24, 25, 26, 27], .st 9 [10, 11, 12, 13, 15, 16, 17, 18, 19, 20, 22, 23, 24, 25, 26, 27], .st 14 [15, 16, 17, 18, 19, 20, 22, 23, 24, 25, 26, 27], .st 21 [22, 23, 24, 25, 26, 27], .st 28 [], .fl 29, .st 30 [], .st 31 []] (by rfl) (by kernel_rfl) ?_ | (refine zaa (z6o (cmpR a b) _ _ (zvh (cmpR a b) (by simp [cmpR]))) ?_) | refine And.intro ?_ ?_)
 all_goals first | rfl | exact Ext.push _ _
def zcw (a b : GRule) : Bool := if a.Prio = b.Prio then (if a.Action = b.Action then (if a.Ext = b.Ext then (if a.To.Owner = b.To.Owner then decide (a.To.Sub < b.To.Sub) else decide (a.To.Owner < b.To.Owner)) else decide (a.Ext < b.Ext)) else decide (a.Action < b.Action)) else decide (b.Prio < a.Prio)
theorem z49 (x y : Int) (r : List Int) : orGo (cmpI x y :: r) = if x = y then orGo r else cmpI x y := by
 rw [orGo]; unfold cmpI
 split <;> split <;> first | rfl | omega | skip
 all_goals split <;> first | rfl | omega | skip
theorem zmq (x y : Int) : decide (cmpI x y < 0) = decide (x < y) := by
 unfold cmpI; rw [decide_eq_decide]
 split
 ·simp_all
 ·split <;> simp_all
theorem zpo (a b : GRule) : decide (orGo (cmpR a b) < 0) = zcw a b := by
 unfold cmpR zcw
 simp only [z49]
 by_cases h1 : a.Prio = b.Prio
 ·rw [if_pos h1.symm, if_pos h1]
  by_cases h2 : a.Action = b.Action
  ·rw [if_pos h2, if_pos h2]
   by_cases h3 : a.Ext = b.Ext
   ·rw [if_pos h3, if_pos h3]
    by_cases h4 : a.To.Owner = b.To.Owner
    ·rw [if_pos h4, if_pos h4]
     by_cases h5 : a.To.Sub = b.To.Sub
     ·rw [if_pos h5]; rw [decide_eq_decide]; simp [orGo, h5]
     ·rw [if_neg h5]; exact zmq _ _
    ·rw [if_neg h4, if_neg h4]; exact zmq _ _
   ·rw [if_neg h3, if_neg h3]; exact zmq _ _
  ·rw [if_neg h2, if_neg h2]; exact zmq _ _
 ·rw [if_neg (Ne.symm h1), if_neg h1]; exact zmq _ _
theorem zds (a b : GRule) (S : Store) : EvA Tryz.prog 132 [.agg a.c, .agg b.c] S (fun r S' => r = .v (.s (.bool (zcw a b))) ∧ S' = S) := by
 rw [← zpo]
 refine zac tok Tryz.func132 (by kernel_rfl) rfl ?_
 repeat' ((conv => whnf) <;> first
  | refine zaa (zh0 _ _ _) ?_ | refine And.intro ?_ ?_)
 all_goals rfl
def zf1 (l : List GRule) (q : GRequest) : Nat → Int
 | 0 => -1
 | n + 1 => if zbd (l.getD n default) q && (decide (zf1 l q n < 0) || zcw (l.getD n default) (l.getD (zf1 l q n).toNat default)) then (n : Int) else zf1 l q n
theorem zq3 (l : List GRule) (q : GRequest) : ∀ n, -1 ≤ zf1 l q n ∧ zf1 l q n < n
 | 0 => by unfold zf1; omega
 | n + 1 => by
   have := zq3 l q n
   rw [zf1]; split <;> omega
theorem zr9 (l : List GRule) (q : GRequest) : ∀ n, 0 ≤ zf1 l q n → zbd (l.getD (zf1 l q n).toNat default) q = true
 | 0, h => by unfold zf1 at h; omega
 | n + 1, h => by
   rw [zf1] at h ⊢
   split at h
   ·rename_i hc
    rw [if_pos hc]
    simp only [Bool.and_eq_true] at hc
    simpa using hc.1
   ·rename_i hc
    rw [if_neg hc]
    exact zr9 l q n h
def zbj (l : List GRule) (q : GRequest) : Int := zf1 l q l.length
theorem zxt (l : List GRule) (q : GRequest) (c : C) (S : Store) (h : Rd S [.sl 8 (l.map GRule.d)] [c]) : EvA Tryz.prog 59 [.s c, .agg q.c] S (fun r S' => r = .v (.s (.int .i64 (zbj l q))) ∧ S' = S) := by
 refine zac tok Tryz.func59 (by kernel_rfl) rfl ?_
 repeat' ((conv => whnf) <;> first
  | refine rE fun hml => ?_)
 refine zag {p : Nat × Int // p.1 ≤ l.length ∧ p.2 = zf1 l q p.1} [5, 6, 7, 10, 11, 12, 13, 14, 15, 16, 17, 18, 19, 20, 21, 22, 23, 24, 25, 26, 27, 28, 29, 30, 31] (fun zb => [(10, .v (.s (.int .i64 zb.1.1))), (5, .v (.s (.int .i64 zb.1.2)))]) (fun _ => S) (fun zb => l.length - zb.1.1) ⟨(0, -1), Nat.zero_le _, rfl⟩ okL rfl ?_
 rintro ⟨⟨i, st⟩, hi, hinv⟩; dsimp only
 replace hi : i ≤ l.length := hi; dsimp only at hinv
 have hd := zq3 l q i
 by_cases hlt : i < l.length
 ·have hg : l.getD i default = l[i] := zea hlt
  have hst : 0 ≤ st → l.getD (zf1 l q i).toNat default = l[st.toNat]'(by omega) := fun h0 => by rw [← hinv]; exact zea (by omega)
  have hup : zf1 l q (i + 1) = if zbd (l.getD i default) q && (decide (zf1 l q i < 0) || zcw (l.getD i default) (l.getD (zf1 l q i).toNat default)) then (i : Int) else zf1 l q i := rfl
  rw [hg, ← hinv] at hup
  by_cases h0 : 0 ≤ st
  ·have hs := hst h0
   rw [← hinv] at hs
   rw [hs, decide_eq_false (show ¬ st < 0 by omega), Bool.false_or] at hup
   rcases hA : zbd (l[i]'hlt) q with _ | _
   ·skip
    rw [hA, Bool.false_and, if_neg (by decide)] at hup
    repeat' ((conv => whnf) <;> first
     | rw [zad (by omega)] | refine cD (fun _ => ?_) fun _ => ?_ | refine cT ?_ | refine cF ?_ | refine cI (fun _ => ?_) fun _ => ?_ | refine zaa (zds _ _ _) ?_ | refine zaa (zeb _ _ _) ?_ | refine rI aN rf ix ?_ | refine zaf aN tv ix ?_ | refine zae 15 (iN 15 0 [2, 12]) (by rfl) (by kernel_rfl) ?_ | refine And.intro ?_ ?_)
    all_goals first
     | rfl
     | (exfalso; omega)
     | (refine absurd (?_ : zbd (l[i]'hlt) q = true) (by rw [hA]; decide); assumption)
     | (refine ⟨⟨(i + 1, _), by dsimp only; omega, hup.symm⟩, ?_, rfl, by dsimp only; omega⟩; (conv => whnf); repeat' (first | exact trivial | exact rfl | apply And.intro))
   ·skip
    rcases hB : zcw (l[i]'hlt) (l[st.toNat]'(by omega)) with _ | _
    ·skip
     rw [hA, hB, Bool.and_false, if_neg (by decide)] at hup
     repeat' ((conv => whnf) <;> first
      | rw [zad (by omega)] | refine cD (fun _ => ?_) fun _ => ?_ | refine cT ?_ | refine cF ?_ | refine cI (fun _ => ?_) fun _ => ?_ | refine zaa (zds _ _ _) ?_ | refine zaa (zeb _ _ _) ?_ | refine rI aN rf ix ?_ | refine zaf aN tv ix ?_ | refine zae 15 (iN 15 0 [2, 12]) (by rfl) (by kernel_rfl) ?_ | refine And.intro ?_ ?_)
     all_goals first
      | rfl
      | (exfalso; omega)
      | (refine absurd (?_ : zbd (l[i]'hlt) q = false) (by rw [hA]; decide); assumption)
      | (refine absurd (?_ : zcw (l[i]'hlt) (l[st.toNat]'(by omega)) = true) (by rw [hB]; decide); assumption)
      | (refine ⟨⟨(i + 1, _), by dsimp only; omega, hup.symm⟩, ?_, rfl, by dsimp only; omega⟩; (conv => whnf); repeat' (first | exact trivial | exact rfl | apply And.intro))
    ·skip
     rw [hA, hB, Bool.and_true, if_pos rfl] at hup
     repeat' ((conv => whnf) <;> first
      | rw [zad (by omega)] | refine cD (fun _ => ?_) fun _ => ?_ | refine cT ?_ | refine cF ?_ | refine cI (fun _ => ?_) fun _ => ?_ | refine zaa (zds _ _ _) ?_ | refine zaa (zeb _ _ _) ?_ | refine rI aN rf ix ?_ | refine zaf aN tv ix ?_ | refine zae 15 (iN 15 0 [2, 12]) (by rfl) (by kernel_rfl) ?_ | refine And.intro ?_ ?_)
     all_goals first
      | rfl
      | (exfalso; omega)
      | (refine absurd (?_ : zbd (l[i]'hlt) q = false) (by rw [hA]; decide); assumption)
      | (refine absurd (?_ : zcw (l[i]'hlt) (l[st.toNat]'(by omega)) = false) (by rw [hB]; decide); assumption)
      | (refine ⟨⟨(i + 1, _), by dsimp only; omega, hup.symm⟩, ?_, rfl, by dsimp only; omega⟩; (conv => whnf); repeat' (first | exact trivial | exact rfl | apply And.intro))
  ·rw [decide_eq_true (show st < 0 by omega), Bool.true_or, Bool.and_true] at hup
   rcases hA : zbd (l[i]'hlt) q with _ | _
   ·skip
    rw [hA, if_neg (by decide)] at hup
    repeat' ((conv => whnf) <;> first
     | rw [zad (by omega)] | refine cD (fun _ => ?_) fun _ => ?_ | refine cT ?_ | refine cF ?_ | refine cI (fun _ => ?_) fun _ => ?_ | refine zaa (zds _ _ _) ?_ | refine zaa (zeb _ _ _) ?_ | refine rI aN rf ix ?_ | refine zaf aN tv ix ?_ | refine zae 15 (iN 15 0 [2, 12]) (by rfl) (by kernel_rfl) ?_ | refine And.intro ?_ ?_)
    all_goals first
     | rfl
     | (exfalso; omega)
     | (refine absurd (?_ : zbd (l[i]'hlt) q = true) (by rw [hA]; decide); assumption)
     | (refine ⟨⟨(i + 1, _), by dsimp only; omega, hup.symm⟩, ?_, rfl, by dsimp only; omega⟩; (conv => whnf); repeat' (first | exact trivial | exact rfl | apply And.intro))
   ·skip
    rw [hA, if_pos rfl] at hup
    repeat' ((conv => whnf) <;> first
     | rw [zad (by omega)] | refine cD (fun _ => ?_) fun _ => ?_ | refine cT ?_ | refine cF ?_ | refine cI (fun _ => ?_) fun _ => ?_ | refine zaa (zds _ _ _) ?_ | refine zaa (zeb _ _ _) ?_ | refine rI aN rf ix ?_ | refine zaf aN tv ix ?_ | refine zae 15 (iN 15 0 [2, 12]) (by rfl) (by kernel_rfl) ?_ | refine And.intro ?_ ?_)
    all_goals first
     | rfl
     | (exfalso; omega)
     | (refine absurd (?_ : zbd (l[i]'hlt) q = false) (by rw [hA]; decide); assumption)
     | (refine ⟨⟨(i + 1, _), by dsimp only; omega, hup.symm⟩, ?_, rfl, by dsimp only; omega⟩; (conv => whnf); repeat' (first | exact trivial | exact rfl | apply And.intro))
 ·have he : zbj l q = st := by unfold zbj; rw [hinv, show l.length = i from by omega]
  repeat' ((conv => whnf) <;> first
   | rw [zad (by omega)] | refine cD (fun _ => ?_) fun _ => ?_ | refine cT ?_ | refine cF ?_ | refine cI (fun _ => ?_) fun _ => ?_ | refine zaa (zds _ _ _) ?_ | refine zaa (zeb _ _ _) ?_ | refine rI aN rf ix ?_ | refine zaf aN tv ix ?_ | refine zae 15 (iN 15 0 [2, 12]) (by rfl) (by kernel_rfl) ?_ | refine And.intro ?_ ?_)
  all_goals first
   | rfl
   | (exfalso; omega)
   | (rw [he] <;> rfl)
end Go.Proofs.YtlmmdpmmdmhacaaGreat
