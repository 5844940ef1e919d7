/- A text of the proof. A text of the proof. A text of the proof. A function's body cut in two: what holds between is said once, for all ways there. -/
import Derived.Test.YtlmmdpmmdmhacaaGreatKm46
import Derived.Test.YtlmmdpmmdmhacaaGreatKm45
import Derived.Test.YtlmmdpmmdmhacaaGreatKm11
namespace Go.Proofs.YtlmmdpmmdmhacaaGreat
open Go Go.ChangeShapes Go.WideShapes Go.ChangeAt Go.RowKit
set_option linter.unusedVariables false
set_option linter.unusedSimpArgs false
set_option maxRecDepth 100000
theorem fr_event {lo : Nat} {S : Store} {p : GPackage} {pcs : List C} (h : Fr lo S p.d pcs) (k x t n v so ss le lo' ls lk ek en ep et ex eb : Int) (co : Bool) : Fr lo S (GEvent.mk k x t n v co ⟨so, ss⟩ ⟨le, ⟨lo', ls⟩, lk⟩ ⟨ek, en, ep, et, ex, eb⟩ p).d ([.int .i64 k, .int .i64 x, .int .i64 t, .int .i64 n, .int .i64 v, .bool co, .int .i64 so, .int .i64 ss, .int .i64 le, .int .i64 lo', .int .i64 ls, .int .i64 lk, .int .i64 ek, .int .i64 en, .int .i64 ep, .int .i64 et, .int .i64 ex, .int .i64 eb] ++ pcs) :=
  fr_x (fr_x (fr_x (fr_x (fr_x (fr_x (fr_x (fr_x (fr_x (fr_x (fr_x (fr_x (fr_x (fr_x (fr_x (fr_x (fr_x (fr_x h)))))))))))))))))
abbrev pk00 : GPackage := ⟨0, 0, 0, [], [], [], [], 0⟩
theorem fr_pk0 {lo : Nat} {S : Store} : Fr lo S pk00.d [.int .i64 0, .int .i64 0, .int .i64 0, .nil, .nil, .nil, .nil, .int .i64 0] := fr_x (fr_x (fr_x (fr_slnil (fr_slnil (fr_slnil (fr_slnil (fr_x fr_nil)))))))
theorem ev_exP {lo : Nat} {S : Store} {p : GPackage} {c3 c4 c5 c6 : C} {k x t n v so ss le lo' ls lk ek en ep et ex eb : Int} {co : Bool} (h : Fr lo S p.d [.int .i64 p.Ext, .int .i64 p.Author, .int .i64 p.Version, c3, c4, c5, c6, .int .i64 p.Seal]) (hz : szL p.d ≤ 200) :
    ∃ e : GEvent, szL e.Package.d ≤ 200 ∧ ∃ c21 c22 c23 c24, AV.v (.agg [.int .i64 k, .int .i64 x, .int .i64 t, .int .i64 n, .int .i64 v, .bool co, .int .i64 so, .int .i64 ss, .int .i64 le, .int .i64 lo', .int .i64 ls, .int .i64 lk, .int .i64 ek, .int .i64 en, .int .i64 ep, .int .i64 et, .int .i64 ex, .int .i64 eb, .int .i64 p.Ext, .int .i64 p.Author, .int .i64 p.Version, c3, c4, c5, c6, .int .i64 p.Seal]) = .v (.agg [.int .i64 e.Kind, .int .i64 e.Ext, .int .i64 e.Tab, .int .i64 e.N, .int .i64 e.Value, .bool e.Consent, .int .i64 e.Site.Owner, .int .i64 e.Site.Sub, .int .i64 e.Limit.Ext, .int .i64 e.Limit.Pattern.Owner, .int .i64 e.Limit.Pattern.Sub, .int .i64 e.Limit.Kind, .int .i64 e.Edit.Kind, .int .i64 e.Edit.Node, .int .i64 e.Edit.Parent, .int .i64 e.Edit.Tag, .int .i64 e.Edit.Text, .int .i64 e.Edit.By, .int .i64 e.Package.Ext, .int .i64 e.Package.Author, .int .i64 e.Package.Version, c21, c22, c23, c24, .int .i64 e.Package.Seal]) ∧ Fr lo S e.d [.int .i64 e.Kind, .int .i64 e.Ext, .int .i64 e.Tab, .int .i64 e.N, .int .i64 e.Value, .bool e.Consent, .int .i64 e.Site.Owner, .int .i64 e.Site.Sub, .int .i64 e.Limit.Ext, .int .i64 e.Limit.Pattern.Owner, .int .i64 e.Limit.Pattern.Sub, .int .i64 e.Limit.Kind, .int .i64 e.Edit.Kind, .int .i64 e.Edit.Node, .int .i64 e.Edit.Parent, .int .i64 e.Edit.Tag, .int .i64 e.Edit.Text, .int .i64 e.Edit.By, .int .i64 e.Package.Ext, .int .i64 e.Package.Author, .int .i64 e.Package.Version, c21, c22, c23, c24, .int .i64 e.Package.Seal] :=
  ⟨GEvent.mk k x t n v co ⟨so, ss⟩ ⟨le, ⟨lo', ls⟩, lk⟩ ⟨ek, en, ep, et, ex, eb⟩ p, hz, c3, c4, c5, c6, rfl, fr_event h k x t n v so ss le lo' ls lk ek en ep et ex eb co⟩
theorem ev_ex0 {lo : Nat} {S : Store} {k x t n v so ss le lo' ls lk ek en ep et ex eb : Int} {co : Bool} :
    ∃ e : GEvent, szL e.Package.d ≤ 200 ∧ ∃ c21 c22 c23 c24, AV.v (.agg [.int .i64 k, .int .i64 x, .int .i64 t, .int .i64 n, .int .i64 v, .bool co, .int .i64 so, .int .i64 ss, .int .i64 le, .int .i64 lo', .int .i64 ls, .int .i64 lk, .int .i64 ek, .int .i64 en, .int .i64 ep, .int .i64 et, .int .i64 ex, .int .i64 eb, .int .i64 0, .int .i64 0, .int .i64 0, .nil, .nil, .nil, .nil, .int .i64 0]) = .v (.agg [.int .i64 e.Kind, .int .i64 e.Ext, .int .i64 e.Tab, .int .i64 e.N, .int .i64 e.Value, .bool e.Consent, .int .i64 e.Site.Owner, .int .i64 e.Site.Sub, .int .i64 e.Limit.Ext, .int .i64 e.Limit.Pattern.Owner, .int .i64 e.Limit.Pattern.Sub, .int .i64 e.Limit.Kind, .int .i64 e.Edit.Kind, .int .i64 e.Edit.Node, .int .i64 e.Edit.Parent, .int .i64 e.Edit.Tag, .int .i64 e.Edit.Text, .int .i64 e.Edit.By, .int .i64 e.Package.Ext, .int .i64 e.Package.Author, .int .i64 e.Package.Version, c21, c22, c23, c24, .int .i64 e.Package.Seal]) ∧ Fr lo S e.d [.int .i64 e.Kind, .int .i64 e.Ext, .int .i64 e.Tab, .int .i64 e.N, .int .i64 e.Value, .bool e.Consent, .int .i64 e.Site.Owner, .int .i64 e.Site.Sub, .int .i64 e.Limit.Ext, .int .i64 e.Limit.Pattern.Owner, .int .i64 e.Limit.Pattern.Sub, .int .i64 e.Limit.Kind, .int .i64 e.Edit.Kind, .int .i64 e.Edit.Node, .int .i64 e.Edit.Parent, .int .i64 e.Edit.Tag, .int .i64 e.Edit.Text, .int .i64 e.Edit.By, .int .i64 e.Package.Ext, .int .i64 e.Package.Author, .int .i64 e.Package.Version, c21, c22, c23, c24, .int .i64 e.Package.Seal] :=
  ⟨GEvent.mk k x t n v co ⟨so, ss⟩ ⟨le, ⟨lo', ls⟩, lk⟩ ⟨ek, en, ep, et, ex, eb⟩ pk00, (show szL pk00.d ≤ 200 by rw [pk_szD]; decide), .nil, .nil, .nil, .nil, rfl, fr_event fr_pk0 k x t n v so ss le lo' ls lk ek en ep et ex eb co⟩
set_option maxHeartbeats 8000000 in
theorem ev_l36One {id : Nat} {S : Store} (h : Cur id S) : EvA Tryz.prog 117 [.s (.pt id)] S (fun r S' => Drw id S S' ∧ ∃ e : GEvent, szL e.Package.d ≤ 200 ∧ ∃ c21 c22 c23 c24, r = .v (.agg [.int .i64 e.Kind, .int .i64 e.Ext, .int .i64 e.Tab, .int .i64 e.N, .int .i64 e.Value, .bool e.Consent, .int .i64 e.Site.Owner, .int .i64 e.Site.Sub, .int .i64 e.Limit.Ext, .int .i64 e.Limit.Pattern.Owner, .int .i64 e.Limit.Pattern.Sub, .int .i64 e.Limit.Kind, .int .i64 e.Edit.Kind, .int .i64 e.Edit.Node, .int .i64 e.Edit.Parent, .int .i64 e.Edit.Tag, .int .i64 e.Edit.Text, .int .i64 e.Edit.By, .int .i64 e.Package.Ext, .int .i64 e.Package.Author, .int .i64 e.Package.Version, c21, c22, c23, c24, .int .i64 e.Package.Seal]) ∧ Fr S.length S' e.d [.int .i64 e.Kind, .int .i64 e.Ext, .int .i64 e.Tab, .int .i64 e.N, .int .i64 e.Value, .bool e.Consent, .int .i64 e.Site.Owner, .int .i64 e.Site.Sub, .int .i64 e.Limit.Ext, .int .i64 e.Limit.Pattern.Owner, .int .i64 e.Limit.Pattern.Sub, .int .i64 e.Limit.Kind, .int .i64 e.Edit.Kind, .int .i64 e.Edit.Node, .int .i64 e.Edit.Parent, .int .i64 e.Edit.Tag, .int .i64 e.Edit.Text, .int .i64 e.Edit.By, .int .i64 e.Package.Ext, .int .i64 e.Package.Author, .int .i64 e.Package.Version, c21, c22, c23, c24, .int .i64 e.Package.Seal]) := by
  have hlt := h.lt
  have hD := Drw.refl h
  have hF : Fr S.length S [] [] := fr_nil
  refine evA_intro tok Tryz.func117 (by kernel_rfl) rfl ?_
  repeat' ((conv => whnf) <;> first
   | rw [wrapI_i64 (by omega)] | refine cD (fun _ => ?_) fun _ => ?_ | refine cN (fun _ => ?_) fun _ => ?_ | refine cI (fun _ => ?_) fun _ => ?_ | (refine callP_intro (ev_l1Below _ hD.cur) ?_; rintro _ Sn ⟨hDn, xn, hxn, rfl⟩; replace hF := hF.drw hlt hDn; replace hD := hD.trans hDn; clear hDn) | (refine callP_intro (ev_l9Site hD.cur) ?_; rintro _ Sn ⟨hDn, sn, hsn, rfl⟩; replace hF := hF.drw hlt hDn; replace hD := hD.trans hDn; clear hDn) | (refine callP_intro (ev_l27Fine _ hD.cur) ?_; rintro _ Sn ⟨hDn, pn, hen, hzn, _, _, _, _, rfl, hFn⟩; replace hF := hF.joinD hlt hDn hFn hD.len; replace hD := hD.trans hDn; clear hDn hFn) | (refine callP_intro (ev_l1Once _ hD.cur) ?_; rintro _ Sn ⟨hDn, bn, rfl⟩; replace hF := hF.drw hlt hDn; replace hD := hD.trans hDn; clear hDn) | (refine callP_intro (ev_l5Edit hD.cur) ?_; rintro _ Sn ⟨hDn, en, hen, rfl⟩; replace hF := hF.drw hlt hDn; replace hD := hD.trans hDn; clear hDn) | (refine callP_intro (ev_l11Draw hD.cur) ?_; rintro _ Sn ⟨hDn, qn, hqn, rfl⟩; replace hF := hF.drw hlt hDn; replace hD := hD.trans hDn; clear hDn) | refine And.intro ?_ ?_)
  all_goals first
    | exact hD
    | exact ev_ex0
    | exact ev_exP hF (by have := pk_szD pn; omega)
    | (exfalso; omega)
set_option maxHeartbeats 4000000 in
theorem ev_l36Events {id : Nat} {S : Store} (most : Int) (h : Cur id S) (hm : most ≤ 100) : EvA Tryz.prog 116 [.s (.pt id), .s (.int .i64 most)] S (fun r S' => Drw id S S' ∧ ∃ l : List GEvent, l.length ≤ 101 ∧ 1 ≤ l.length ∧ (∀ e ∈ l, szL e.Package.d ≤ 200) ∧ ∃ c', r = .v (.s c') ∧ Fr S.length S' [.sl 26 (l.map GEvent.d)] [c']) := by
  have hlt := h.lt
  have hD := Drw.refl h
  refine evA_intro tok Tryz.func116 (by kernel_rfl) rfl ?_
  skip
  (conv => whnf)
  refine callP_intro (ev_l1Below _ hD.cur) ?_; rintro _ S1 ⟨hDn, x1, hx1, rfl⟩
  replace hD := hD.trans hDn; clear hDn
  repeat' ((conv => whnf) <;> first
   | rw [wrapI_i64 (by omega)])
  (conv => whnf)
  refine callP_intro (ev_l27Fine _ hD.cur) ?_; rintro _ S2 ⟨hDn, p, hpe, hpz, p3, p4, p5, p6, rfl, hFn⟩
  have hps := pk_szD p
  have hE := fr_event (hFn.mono hD.len) 1 (1 + x1) 0 0 0 0 0 0 0 0 0 0 0 0 0 0 0 false
  replace hD := hD.trans hDn; clear hDn hFn
  skip
  (conv => whnf)
  have hF := Fr.pushMv (k := 26) (ds := []) (cs := []) hE rfl hD.len rfl
  have hD1 := hD.push ⟨true, 26, [[.int .i64 1, .int .i64 (1 + x1), .int .i64 0, .int .i64 0, .int .i64 0, .bool false, .int .i64 0, .int .i64 0, .int .i64 0, .int .i64 0, .int .i64 0, .int .i64 0, .int .i64 0, .int .i64 0, .int .i64 0, .int .i64 0, .int .i64 0, .int .i64 0, .int .i64 p.Ext, .int .i64 p.Author, .int .i64 p.Version, p3, p4, p5, p6, .int .i64 p.Seal]]⟩
  refine callP_intro (ev_l1Below _ hD1.cur) ?_; rintro _ S3 ⟨hDn, x2, hx2, rfl⟩
  replace hF := hF.drw hlt hDn
  replace hD1 := hD1.trans hDn; clear hDn hD hE
  obtain ⟨n, rfl⟩ := Int.eq_ofNat_of_zero_le hx2.1
  have hn100 : n ≤ 100 := by
    rcases Int.lt_or_le 0 most with h | h
    · have := hx2.2.2.1 h; omega
    · have := hx2.2.2.2 h; omega
  skip
  refine loop_intro {q : Nat × Store × C // q.1 ≤ 100 ∧ Drw id S q.2.1 ∧ ∃ l : List GEvent, (∀ e ∈ l, szL e.Package.d ≤ 200) ∧ (1 ≤ l.length ∧ l.length + q.1 ≤ 101) ∧ Fr S.length q.2.1 [.sl 26 (l.map GEvent.d)] [q.2.2]} [6, 7, 20, 21, 22, 23, 24, 25, 26, 27, 28] (fun zb => [(7, .v (.s (.int .i64 (zb.1.1 : Nat)))), (6, .v (.s zb.1.2.2))]) (fun zb => zb.1.2.1) (fun zb => zb.1.1) ⟨(n, _, _), by dsimp only; omega, hD1, [(GEvent.mk 1 (1 + x1) 0 0 0 false ⟨0, 0⟩ ⟨0, ⟨0, 0⟩, 0⟩ ⟨0, 0, 0, 0, 0, 0⟩ p)], fun t ht => by rw [List.mem_singleton.1 ht]; dsimp only; omega, by simp; omega, hF⟩ ?_ rfl ?_
  · (conv => whnf); repeat' (first | exact trivial | exact rfl | apply And.intro)
  rintro ⟨⟨k, Si, ci⟩, hk, hP⟩; dsimp only
  clear hF hD1 hx2 hn100
  replace hk : k ≤ 100 := hk
  obtain ⟨hD, l, hT, hl, hF⟩ : Drw id S Si ∧ ∃ l : List GEvent, (∀ e ∈ l, szL e.Package.d ≤ 200) ∧ (1 ≤ l.length ∧ l.length + k ≤ 101) ∧ Fr S.length Si [.sl 26 (l.map GEvent.d)] [ci] := hP
  by_cases hk0 : 0 < k
  · repeat' ((conv => whnf) <;> first
     | (show CondP _ _ _; refine cS ?_))
    all_goals try (exfalso; omega)
    (conv => whnf)
    refine callP_intro (ev_l36One hD.cur) ?_; rintro _ S4 ⟨hDn, e, hez, c21, c22, c23, c24, rfl, hFn⟩
    replace hF := hF.joinD hlt hDn hFn hD.len
    replace hD := hD.trans hDn
    clear hDn hFn
    repeat' ((conv => whnf) <;> first
     | rw [wrapI_i64 (by omega)] | (refine dappMv (ds := [.sl 26 (l.map GEvent.d)]) (cs := [ci]) (dy := e.d) (o := 0) hD hF rfl rfl rfl rfl (by dsimp only [T89]; simp only [List.length_map]; omega) (by simp only [List.length_map]; omega) ?_; intro cN SN hDN hFN))
    all_goals try (exfalso; omega)
    refine ⟨⟨(k - 1, SN, cN), by dsimp only; omega, hDN, l ++ [e], fun x hx => ?_, by simp only [List.length_append, List.length_singleton]; omega, ?_⟩, ?_, rfl, by dsimp only; omega⟩
    · rcases List.mem_append.1 hx with h | h
      · exact hT x h
      · rw [List.mem_singleton.1 h]; exact hez
    · rw [List.map_append]; exact hFN
    · (conv => whnf); repeat' (first | exact trivial | exact rfl | (show _ = _; congr 3; dsimp only; omega) | apply And.intro)
  repeat' ((conv => whnf) <;> first
   | (show CondP _ _ _; refine cS ?_) | refine And.intro ?_ ?_)
  all_goals first
    | exact hD
    | (exfalso; omega)
    | exact ⟨l, by omega, hl.1, hT, _, rfl, hF⟩
theorem ev_parts {S : Store} {e : GEvent} {cs : List C} (h : Rd S e.d cs) : ∃ c21 c22 c23 c24, cs = [.int .i64 e.Kind, .int .i64 e.Ext, .int .i64 e.Tab, .int .i64 e.N, .int .i64 e.Value, .bool e.Consent, .int .i64 e.Site.Owner, .int .i64 e.Site.Sub, .int .i64 e.Limit.Ext, .int .i64 e.Limit.Pattern.Owner, .int .i64 e.Limit.Pattern.Sub, .int .i64 e.Limit.Kind, .int .i64 e.Edit.Kind, .int .i64 e.Edit.Node, .int .i64 e.Edit.Parent, .int .i64 e.Edit.Tag, .int .i64 e.Edit.Text, .int .i64 e.Edit.By, .int .i64 e.Package.Ext, .int .i64 e.Package.Author, .int .i64 e.Package.Version, c21, c22, c23, c24, .int .i64 e.Package.Seal] ∧ Rd S e.Package.d [.int .i64 e.Package.Ext, .int .i64 e.Package.Author, .int .i64 e.Package.Version, c21, c22, c23, c24, .int .i64 e.Package.Seal] := by
  obtain ⟨c21, c22, c23, c24, rfl, h1, h2, h3, h4⟩ := GEvent.inv h
  exact ⟨c21, c22, c23, c24, rfl, GPackage.rd h1 h2 h3 h4⟩
set_option maxHeartbeats 8000000 in
theorem ev_sApplyEvent {b : GBrowser} (hb : DrOk b) (e : GEvent) (he : szL e.Package.d ≤ 200) (cs cs' : List C) (S : Store) (h : Rd S b.d cs) (h' : Rd S e.d cs') : EvA Tryz.prog 222 [.agg cs, .agg cs'] S (fun r S' => Ext S S' ∧ ∃ (b' : GBrowser) (ok : Bool), DrOk b' ∧ ∃ c1 c2 c3 c4 c5 c6, r = .tup [.agg [.int .i64 b'.Key, c1, c2, c3, c4, c5, c6, .int .i64 b'.Now], .s (.bool ok)] ∧ Fr S.length S' b'.d [.int .i64 b'.Key, c1, c2, c3, c4, c5, c6, .int .i64 b'.Now]) := by
  have hsz := hb.ok.sz
  obtain ⟨_, _, _, _, _, _, rfl, _⟩ := GBrowser.inv h
  obtain ⟨_, _, _, _, rfl, hP⟩ := ev_parts h'
  have hz1 : szL b.d ≤ 1048576 := by omega
  have hz2 : szL b.d ≤ 2097152 := by omega
  have hz3 : szL b.d ≤ 4194304 := by omega
  have hz4 : szL e.Package.d ≤ 1048576 := by omega
  refine evA_intro tok Tryz.func222 (by kernel_rfl) rfl ?_
  repeat' ((conv => whnf) <;> first
   | (refine callP_intro (ev_l32Copy b _ _ h hz3) ?_; rintro _ Sn ⟨hEn, _, _, _, _, _, _, rfl, hFn⟩; have hDn := hb) | (refine callP_intro (ev_sStoreFor b e.Ext e.Tab e.N e.Value _ _ h hz1) ?_; rintro _ Sn ⟨hEn, ss, ok, hpp, _, _, _, _, _, _, rfl, hFn⟩; have hDn := stPut_dr hb hpp) | (refine callP_intro (ev_sWriteTab b e.Ext e.Tab e.Edit _ _ h hz2) ?_; rintro _ Sn ⟨hEn, _, _, _, _, _, _, rfl, hFn⟩; have hDn := writeTab_dr hb e.Ext e.Tab e.Edit) | (refine callP_intro (ev_sPageEdit b e.Tab e.Edit _ _ h hz2) ?_; rintro _ Sn ⟨hEn, _, _, _, _, _, _, rfl, hFn⟩; have hDn := pageEdit_dr hb e.Tab e.Edit) | (refine callP_intro (ev_sStepTick b e.N _ _ h hz2) ?_; rintro _ Sn ⟨hEn, _, _, _, _, _, _, rfl, hFn⟩; have hDn := stepTick_dr hb e.N) | (refine callP_intro (ev_sStepGo b e.Tab e.Site _ _ h hz2) ?_; rintro _ Sn ⟨hEn, _, _, _, _, _, _, rfl, hFn⟩; have hDn := stepGo_dr hb e.Tab e.Site) | (refine callP_intro (ev_sStepClick b e.Tab e.Ext _ _ h hz2) ?_; rintro _ Sn ⟨hEn, _, _, _, _, _, _, rfl, hFn⟩; have hDn := stepClick_dr hb e.Tab e.Ext) | (refine callP_intro (ev_sStepLimit b e.Limit _ _ h hz2) ?_; rintro _ Sn ⟨hEn, _, _, _, _, _, _, rfl, hFn⟩; have hDn := stepLimit_dr hb e.Limit) | (refine callP_intro (ev_sStepUpdate b e.Package e.Consent _ _ _ h hP hz1 hz4) ?_; rintro _ Sn ⟨hEn, _, _, _, _, _, _, rfl, hFn⟩; have hDn := stepUpdate_dr hb e.Package e.Consent) | (refine callP_intro (ev_sStepRemove b e.Ext _ _ h hz1) ?_; rintro _ Sn ⟨hEn, _, _, _, _, _, _, rfl, hFn⟩; have hDn := stepRemove_dr hb e.Ext) | (refine callP_intro (ev_sStepInstall b e.Package _ _ _ h hP hz1 hz4) ?_; rintro _ Sn ⟨hEn, _, _, _, _, _, _, rfl, hFn⟩; have hDn := stepInstall_dr hb e.Package) | refine cD (fun _ => ?_) fun _ => ?_ | refine And.intro ?_ ?_)
  all_goals first
    | exact hEn
    | exact ⟨_, _, hDn, _, _, _, _, _, _, rfl, hFn⟩
set_option maxHeartbeats 8000000 in
theorem ev_sRunEvents {b : GBrowser} (hb : DrOk b) (l : List GEvent) (he : ∀ e ∈ l, szL e.Package.d ≤ 200) (cs : List C) (c : C) (S : Store) (h : Rd S b.d cs) (h' : Rd S [.sl 26 (l.map GEvent.d)] [c]) (hz : l.length ≤ 4194304) : EvA Tryz.prog 152 [.agg cs, .s c] S (fun r S' => Ext S S' ∧ ∃ b' : GBrowser, DrOk b' ∧ ∃ c1 c2 c3 c4 c5 c6, r = .v (.agg [.int .i64 b'.Key, c1, c2, c3, c4, c5, c6, .int .i64 b'.Now]) ∧ Fr S.length S' b'.d [.int .i64 b'.Key, c1, c2, c3, c4, c5, c6, .int .i64 b'.Now]) := by
  have hsz := hb.ok.sz
  have hB := h
  obtain ⟨_, _, _, _, _, _, rfl, _⟩ := GBrowser.inv h
  refine evA_intro tok Tryz.func152 (by kernel_rfl) rfl ?_
  skip
  (conv => whnf)
  refine callP_intro (ev_l32Copy b _ _ hB (by omega)) ?_; rintro _ S1 ⟨e1, c1, c2, c3, c4, c5, c6, rfl, f1⟩
  skip
  refine loop_intro {q : Nat × Store × GBrowser × C × C × C × C × C × C // q.1 ≤ l.length ∧ Ext S q.2.1 ∧ DrOk q.2.2.1 ∧ Fr S.length q.2.1 q.2.2.1.d [.int .i64 q.2.2.1.Key, q.2.2.2.1, q.2.2.2.2.1, q.2.2.2.2.2.1, q.2.2.2.2.2.2.1, q.2.2.2.2.2.2.2.1, q.2.2.2.2.2.2.2.2, .int .i64 q.2.2.1.Now]} [5, 6, 9, 10, 11, 12, 13, 14, 15, 16, 17, 18, 19, 20, 21, 22, 23] (fun zb => [(6, .v (.s (.int .i64 (zb.1.1 : Nat)))), (5, .box [.int .i64 zb.1.2.2.1.Key, zb.1.2.2.2.1, zb.1.2.2.2.2.1, zb.1.2.2.2.2.2.1, zb.1.2.2.2.2.2.2.1, zb.1.2.2.2.2.2.2.2.1, zb.1.2.2.2.2.2.2.2.2, .int .i64 zb.1.2.2.1.Now])]) (fun zb => zb.1.2.1) (fun zb => l.length - zb.1.1) ⟨(0, S1, b, _, _, _, _, _, _), Nat.zero_le _, e1, hb, f1⟩ ?_ rfl ?_
  · (conv => whnf); repeat' (first | exact trivial | exact rfl | apply And.intro)
  rintro ⟨⟨i, Si, x, d1, d2, d3, d4, d5, d6⟩, hi, hE, hx, hF⟩; dsimp only
  dsimp only at hi hE hx hF
  have hl := h'.ext hE
  by_cases hlt : i < l.length
  · have hi' : 0 ≤ ((i : Nat) : Int) ∧ ((i : Nat) : Int).toNat < l.length := ⟨by omega, by simpa using hlt⟩
    obtain ⟨pcs, hpr, hpld⟩ := rd_loadx hl (i := ((i : Nat) : Int)) hi'
    have hpr0 := hpr
    obtain ⟨_, _, _, _, rfl, _⟩ := ev_parts hpr
    repeat' ((conv => whnf) <;> first
     | (refine rd_lenm hl ?_; intro hml) | (refine hpld _ (Ext.refl _) _ ?_) | (show CondP _ _ _; refine cS ?_) | refine rI rdA rf ix ?_ | refine draw_intro 16 [.fl 0, .fl 1, .fl 2, .fl 3, .fl 4, .st 5 [], .fl 6, .fl 7, .fl 8, .st 9 [8]] (by rfl) (by kernel_rfl) ?_)
    all_goals try (exfalso; omega)
    (conv => whnf)
    refine callP_intro (ev_sApplyEvent hx _ (he _ (List.getElem_mem hi'.2)) _ _ _ hF.rd hpr0) ?_; rintro _ S2 ⟨e2, y, ok, hy, g1, g2, g3, g4, g5, g6, rfl, f2⟩
    repeat' ((conv => whnf) <;> first
     | rw [wrapI_i64 (by omega)] | refine And.intro ?_ ?_)
    all_goals try (exfalso; omega)
    refine ⟨⟨(i + 1, S2, y, _, _, _, _, _, _), by dsimp only; omega, hE.trans e2, hy, f2.mono hE.len⟩, ?_, rfl, by dsimp only; omega⟩
    (conv => whnf); repeat' (first | exact trivial | exact rfl | apply And.intro)
  repeat' ((conv => whnf) <;> first
   | (refine rd_lenm hl ?_; intro hml) | (show CondP _ _ _; refine cS ?_) | refine And.intro ?_ ?_)
  all_goals first
    | exact hE
    | (exfalso; omega)
    | exact ⟨x, hx, _, _, _, _, _, _, rfl, hF⟩
end Go.Proofs.YtlmmdpmmdmhacaaGreat
namespace Go.Proofs.YtlmmdpmmdmhacaaGreat
open Go Go.ChangeShapes Go.WideShapes Go.ChangeAt Go.RowKit
set_option linter.unusedVariables false
set_option linter.unusedSimpArgs false
set_option maxRecDepth 100000
def RdF (id : Nat) (S : Store) (ds : List D) (cs : List C) : Prop := ∀ S' : Store, (∀ j, j < S.length → j ≠ id → S'[j]? = S[j]?) → Rd S' ds cs
theorem RdF.rd {id : Nat} {S : Store} {ds : List D} {cs : List C} (h : RdF id S ds cs) : Rd S ds cs := h S fun _ _ _ => rfl
theorem RdF.drw {id : Nat} {S S' : Store} {ds : List D} {cs : List C} (h : RdF id S ds cs) (e : Drw id S S') : RdF id S' ds cs := fun S2 hs => h S2 fun j hj hn => (hs j (Nat.lt_of_lt_of_le hj e.len) hn).trans (e.same j hj hn)
end Go.Proofs.YtlmmdpmmdmhacaaGreat
namespace Go.Proofs.YtlmmdpmmdmhacaaGreat
open Go Go.ChangeShapes Go.WideShapes Go.ChangeAt Go.RowKit
set_option linter.unusedVariables false
set_option linter.unusedSimpArgs false
set_option maxRecDepth 100000
set_option maxHeartbeats 2000000 in
theorem ev_l38Draw {id : Nat} {S : Store} (h : Cur id S) : EvA Tryz.prog 81 [.s (.pt id)] S (fun r S' => Drw id S S' ∧ ∃ b : GBrowser, DrOk b ∧ ∃ c1 c2 c3 c4 c5 c6, r = .v (.agg [.int .i64 b.Key, c1, c2, c3, c4, c5, c6, .int .i64 b.Now]) ∧ Fr S.length S' b.d [.int .i64 b.Key, c1, c2, c3, c4, c5, c6, .int .i64 b.Now]) := by
  have hlt := h.lt
  have hD := Drw.refl h
  refine evA_intro tok Tryz.func81 (by kernel_rfl) rfl ?_
  skip
  (conv => whnf)
  refine callP_intro (ev_l32Draw hD.cur) ?_; rintro _ S1 ⟨hDn, ts, hb, hnb, hts, a1, a2, a3, a4, a5, a6, rfl, hF⟩
  have hb0 := newB_dr hb hnb
  replace hD := hD.trans hDn; clear hDn
  skip
  (conv => whnf)
  refine callP_intro (ev_l36Events _ hD.cur (by decide)) ?_; rintro _ S2 ⟨hDn, l, hl, h1l, hlz, cl, rfl, hL⟩
  replace hF := hF.drw hlt hDn
  have hL0 := hD.len
  replace hD := hD.trans hDn; clear hDn
  skip
  (conv => whnf)
  refine callP_intro (ev_sRunEvents hb0 l hlz _ _ _ hF.rd hL.rd (by omega)) ?_; rintro _ S3 ⟨e3, b, hbd, c1, c2, c3, c4, c5, c6, rfl, f3⟩
  clear hF
  have hF := f3.mono hD.len
  replace hD := hD.ext e3
  have hsz := hbd.ok.sz
  clear f3 e3 hL hL0 hb0
  repeat' ((conv => whnf) <;> first
   | refine And.intro ?_ ?_)
  all_goals first
    | exact hD
    | exact ⟨b, hbd, c1, c2, c3, c4, c5, c6, rfl, hF⟩
set_option maxHeartbeats 2000000 in
theorem ev_DrawEditShare {S : Store} {c : C} (l : List Int) (hr : Rd S [.sl 1 (l.map dByte)] [c]) (hz : l.length ≤ 1048576) : EvA Tryz.prog 19 [.s c] S (fun r S' => Ext S S' ∧ ∃ (b : GBrowser) (e : Int), DrOk b ∧ ∃ c1 c2 c3 c4 c5 c6, r = .tup [.agg [.int .i64 b.Key, c1, c2, c3, c4, c5, c6, .int .i64 b.Now], .s (.int .i64 e)] ∧ Rd S' b.d [.int .i64 b.Key, c1, c2, c3, c4, c5, c6, .int .i64 b.Now]) := by
  refine evA_intro tok Tryz.func19 (by kernel_rfl) rfl ?_
  skip
  (conv => whnf)
  refine callP_intro (ev_l1New l hr hz) ?_; rintro _ S1 ⟨hE, h, rfl⟩
  have hlt := h.lt
  skip
  (conv => whnf)
  refine callP_intro (ev_l38Draw h) ?_; rintro _ S2 ⟨hD, b, hb, c1, c2, c3, c4, c5, c6, rfl, hF⟩
  repeat' ((conv => whnf) <;> first
   | rw [wrapI_i64 (by omega)] | (refine callP_intro (ev_l1Below _ hD.cur) ?_; rintro _ Sn ⟨hDn, xn, hxn, rfl⟩; replace hF := hF.drw hlt hDn; replace hD := hD.trans hDn; clear hDn) | refine draw_intro 10 [.fl 0, .fl 1, .st 2 [0], .fl 3, .st 4 [3], .st 5 []] (by rfl) (by kernel_rfl) ?_ | refine And.intro ?_ ?_)
  all_goals first
    | exact drw_ext hE hD
    | exact ⟨b, _, hb, _, _, _, _, _, _, rfl, hF.rd⟩
set_option maxHeartbeats 2000000 in
theorem ev_DrawPowersOf {S : Store} {c : C} (l : List Int) (hr : Rd S [.sl 1 (l.map dByte)] [c]) (hz : l.length ≤ 1048576) : EvA Tryz.prog 22 [.s c] S (fun r S' => Ext S S' ∧ ∃ (b : GBrowser) (e : Int) (s : GSite), DrOk b ∧ ∃ c1 c2 c3 c4 c5 c6, r = .tup [.agg [.int .i64 b.Key, c1, c2, c3, c4, c5, c6, .int .i64 b.Now], .s (.int .i64 e), .agg s.c] ∧ Rd S' b.d [.int .i64 b.Key, c1, c2, c3, c4, c5, c6, .int .i64 b.Now]) := by
  refine evA_intro tok Tryz.func22 (by kernel_rfl) rfl ?_
  skip
  (conv => whnf)
  refine callP_intro (ev_l1New l hr hz) ?_; rintro _ S1 ⟨hE, h, rfl⟩
  have hlt := h.lt
  skip
  (conv => whnf)
  refine callP_intro (ev_l38Draw h) ?_; rintro _ S2 ⟨hD, b, hb, c1, c2, c3, c4, c5, c6, rfl, hF⟩
  repeat' ((conv => whnf) <;> first
   | rw [wrapI_i64 (by omega)] | (refine callP_intro (ev_l1Below _ hD.cur) ?_; rintro _ Sn ⟨hDn, xn, hxn, rfl⟩; replace hF := hF.drw hlt hDn; replace hD := hD.trans hDn; clear hDn) | (refine callP_intro (ev_l9Site hD.cur) ?_; rintro _ Sn ⟨hDn, sn, hsn, rfl⟩; replace hF := hF.drw hlt hDn; replace hD := hD.trans hDn; clear hDn) | refine draw_intro 15 [.fl 0, .fl 1, .fl 2, .st 3 [0, 1], .st 4 [1], .st 5 [], .st 6 []] (by rfl) (by kernel_rfl) ?_ | refine And.intro ?_ ?_)
  all_goals first
    | exact drw_ext hE hD
    | exact ⟨b, _, _, hb, _, _, _, _, _, _, rfl, hF.rd⟩
end Go.Proofs.YtlmmdpmmdmhacaaGreat
namespace Go.Proofs.YtlmmdpmmdmhacaaGreat
open Go
set_option linter.unusedVariables false
set_option linter.unusedSimpArgs false
set_option maxRecDepth 100000
def cutAt : Nat → Code → Option (Code × Code)
  | 0, .seq x y => some (x, y)
  | n + 1, .seq x y => match cutAt n y with
    | some (p, r) => some (.seq x p, r)
    | none => none
  | _, _ => none
def SmP (P : Program) (c : Code) (Q0 : Ex → Env → Store → Prop) (env : Env) (S : Store) : Prop :=
  ∀ (μ0 : Mp) (S0 : Store) (w0 : World) (Q : Exit → Act → World → Prop), NextE μ0 S0 w0 Q0 Q → ∀ (μ : Mp) (β : Nat → Nat) (a : Act) (w : World), a.defers = [] → St μ0 S0 w0 μ β env S a.tmps w → c.wp P Q a w
def liveP (env : Env) : List (Nat × AV) → Prop
  | [] => True
  | (d, x) :: r => env[d]? = some x ∧ liveP env r
def cutK (n : Nat) {B : Type} (L : B → List (Nat × AV)) (SS : B → Store) (Q : Ex → Env → Store → Prop) : Ex → Env → Store → Prop
  | .normal => fun env' S' => ∃ b, env'.length = n ∧ liveP env' (L b) ∧ S' = SS b
  | .exit j => Q (.exit j)
  | .ret => Q .ret
def liveE (n : Nat) (L : List (Nat × AV)) : Env := setL (List.replicate n .top) L
theorem envLe_top : ∀ env : Env, EnvLe env (List.replicate env.length .top)
  | [] => trivial
  | x :: e => ⟨trivial, envLe_top e⟩
theorem envLe_set : ∀ {env e : Env} {d : Nat} {x : AV}, EnvLe env e → env[d]? = some x → EnvLe env (e.set d x)
  | [], [], d, x, _, h => by simp at h
  | y :: env, z :: e, 0, x, hl, h => by
    simp only [List.getElem?_cons_zero, Option.some.injEq] at h
    subst h
    exact ⟨by cases y <;> trivial, hl.2⟩
  | y :: env, z :: e, d + 1, x, hl, h => ⟨hl.1, envLe_set hl.2 (by simpa using h)⟩
theorem envLe_setL : ∀ {L : List (Nat × AV)} {env e : Env}, EnvLe env e → liveP env L → EnvLe env (setL e L)
  | [], env, e, h, _ => h
  | (d, x) :: r, env, e, h, g => envLe_setL (L := r) (envLe_set h g.1) g.2
theorem liveP_le {env : Env} {n : Nat} {L : List (Nat × AV)} (hn : env.length = n) (h : liveP env L) : EnvLe env (liveE n L) := by
  subst hn
  exact envLe_setL (envLe_top env) h
section
variable {P : Program} {T : TT} {EV : Nat → List V → Store → (AV → Store → Prop) → Prop}
theorem cut_sound (hmix : P.follows .mixedOrders = true) (hT : TOK P T) (hEV : ∀ f args S R, EV f args S R → EvA P f args S R) {μ0 : Mp} {S0 : Store} {w0 : World} {K Q0 : Ex → Env → Store → Prop} {Q : Exit → Act → World → Prop} (hn : NextE μ0 S0 w0 Q0 Q) (hx : ∀ j, K (.exit j) = Q0 (.exit j)) (hr : K .ret = Q0 .ret) :
    ∀ (n : Nat) (c p r : Code), cutAt n c = some (p, r) → (∀ env S μ β a w, K .normal env S → a.defers = [] → St μ0 S0 w0 μ β env S a.tmps w → r.wp P Q a w) →
      ∀ env S μ β a w, den T EV p K env S → a.defers = [] → St μ0 S0 w0 μ β env S a.tmps w → c.wp P Q a w
  | 0, .seq x y, p, r, hc, hk, env, S, μ, β, a, w, h, hd, hst => by
    simp only [cutAt, Option.some.injEq, Prod.mk.injEq] at hc
    obtain ⟨rfl, rfl⟩ := hc
    refine wp_seq (den_sound hmix hT hEV x _ _ ?_ env S μ β a w h hd hst)
    intro e env' S' μ' β' a' w' h' hd' hst'
    cases e with
    | normal => exact hk _ _ _ _ _ _ h' hd' hst'
    | exit id => exact hn (.exit id) _ _ _ _ _ _ (by rw [← hx]; exact h') hd' hst'
    | ret => exact hn .ret _ _ _ _ _ _ (by rw [← hr]; exact h') hd' hst'
  | n + 1, .seq x y, p, r, hc, hk, env, S, μ, β, a, w, h, hd, hst => by
    simp only [cutAt] at hc
    split at hc
    · rename_i p' r' hc'
      simp only [Option.some.injEq, Prod.mk.injEq] at hc
      obtain ⟨rfl, rfl⟩ := hc
      have ih := cut_sound hmix hT hEV hn hx hr n y p' r' hc' hk
      refine wp_seq (den_sound hmix hT hEV x _ _ ?_ env S μ β a w h hd hst)
      intro e env' S' μ' β' a' w' h' hd' hst'
      cases e with
      | normal => exact ih _ _ _ _ _ _ h' hd' hst'
      | exit id => exact hn (.exit id) _ _ _ _ _ _ (by rw [← hx]; exact h') hd' hst'
      | ret => exact hn .ret _ _ _ _ _ _ (by rw [← hr]; exact h') hd' hst'
    · cases hc
theorem sm_den (hT : P.follows .mixedOrders = true ∧ TOK P T) {c : Code} {Q0 : Ex → Env → Store → Prop} {env : Env} {S : Store} (h : denR T (EvA P) c Q0 env S) : SmP P c Q0 env S := by
  intro μ0 S0 w0 Q hn μ β a w hd hst
  rw [denR_eq] at h
  exact den_sound hT.1 hT.2 (fun _ _ _ _ h => h) c Q0 Q hn env S μ β a w h hd hst
theorem sm_cut (hT : P.follows .mixedOrders = true ∧ TOK P T) (n m : Nat) {c p r : Code} {Q0 : Ex → Env → Store → Prop} {env : Env} {S : Store} {B : Type} (L : B → List (Nat × AV)) (SS : B → Store) (hc : cutAt n c = some (p, r))
    (h1 : denR T (EvA P) p (cutK m L SS Q0) env S) (h2 : ∀ b, SmP P r Q0 (liveE m (L b)) (SS b)) : SmP P c Q0 env S := by
  intro μ0 S0 w0 Q hn μ β a w hd hst
  rw [denR_eq] at h1
  refine cut_sound hT.1 hT.2 (fun _ _ _ _ h => h) hn (K := cutK m L SS Q0) (fun _ => rfl) rfl n c p r hc ?_ env S μ β a w h1 hd hst
  intro env' S' μ' β' a' w' h' hd' hst'
  obtain ⟨b, hl, hv, rfl⟩ := h'
  exact h2 b μ0 S0 w0 Q hn μ' β' a' w' hd' (hst'.weaken (liveP_le hl hv))
end
theorem evA_introS {P : Program} {T : TT} (hT : P.follows .mixedOrders = true ∧ TOK P T) {f : Nat} {fn : Func} {c : Code} {args : List V} {S : Store} {R : AV → Store → Prop} (hf : P.funcs[f]? = some fn) (hname : (fn.name == "runtime.NumGoroutine") = false) (hb : fn.body = some c)
    (h : SmP P c (retK T fn R) (args.map AV.v ++ List.replicate (fn.ntmps - args.length) .und) S) : EvA P f args S R := by
  obtain ⟨hmix, hT⟩ := hT
  refine ⟨⟨fn, hf, hname, by rw [hb]; rfl⟩, fun μ w us rs hA hv => calls_of_wp hf hb ?_⟩
  have hst : St μ S w μ (fun _ => 0) (args.map AV.v ++ List.replicate (fn.ntmps - args.length) .und) S (us ++ Array.replicate (fn.ntmps - us.size) undef) w := by
    have np : ∀ (d : Nat) x, (args.map AV.v ++ List.replicate (fn.ntmps - args.length) .und)[d]? = some x → x.priv = true → False := by
      intro d x hx hp
      rcases List.mem_append.1 (List.mem_of_getElem? hx) with h | h
      · obtain ⟨v, _, rfl⟩ := List.mem_map.1 h; cases hp
      · rw [List.eq_of_mem_replicate h] at hp; cases hp
    refine ⟨rs, Evo.refl μ S w, by simp [hv.1], fun d x hx => ?_, fun d d' x x' h1 _ p1 => (np d x h1 p1).elim, fun d x id row m h1 p1 => (np d x h1 p1).elim, fun d x h1 p1 => (np d x h1 p1).elim, hA⟩
    by_cases hd : d < args.length
    · rw [List.getElem?_append_left (by simpa using hd), List.getElem?_map] at hx
      cases ha : args[d]? with
      | none => rw [ha] at hx; cases hx
      | some v =>
        rw [ha] at hx
        simp at hx; subst hx
        obtain ⟨u, u1, u2⟩ := hv.2 d v ha
        have hus : d < us.size := by rw [hv.1]; exact hd
        have : (us ++ Array.replicate (fn.ntmps - us.size) undef).getD d undef = u := by
          rw [Array.getD_eq_getD_getElem?, Array.getElem?_append_left hus, u1]; rfl
        rw [this]
        exact u2
    · rw [List.getElem?_append_right (by simpa using hd)] at hx
      have := List.eq_of_mem_replicate (List.mem_of_getElem? hx)
      subst this
      have : (us ++ Array.replicate (fn.ntmps - us.size) undef).getD d undef = undef := by
        rw [Array.getD_eq_getD_getElem?, Array.getElem?_append_right (by rw [hv.1]; omega)]
        cases hg : (Array.replicate (fn.ntmps - us.size) undef)[d - us.size]? with
        | none => rfl
        | some x =>
          have := Array.getElem?_eq_some_iff.1 hg
          obtain ⟨h1, h2⟩ := this
          simp at h2
          rw [← h2]; rfl
      rw [this]
      rfl
  have fin : ∀ env' S1 μ' β' a' w', dRet T fn R env' S1 → a'.defers = [] → St μ S w μ' β' env' S1 a'.tmps w' → bodyPost P fn (fun e w' => ∃ res S' u μ', R res S' ∧ e = .returned u ∧ RS μ' S' w' ∧ AVR μ' S' res u ∧ Evo μ S w μ' S' w') .ret a' w' := by
    intro env' S1 μ' β' a' w' hr hd hst'
    obtain ⟨vs, us', env2, S2, μ2, k1, k3, k4, k5, k6⟩ := resK_sound hT _ _ _ _ _ hst' hr
    refine ⟨hd, if h : us'.toArray.size = 1 then us'.toArray[0] else .tuple us'.toArray, ?_, resAV vs, S2, _, μ2, k1, rfl, k3.rs, ?_, k3.evo⟩
    · have e : (fn.results.mapM (resF a'.tmps)).run P w' = .ok us'.toArray w' := by
        rw [Array.mapM_eq_mapM_toList, Sem.run_map, k5]
        rfl
      show (fn.results.mapM (resF a'.tmps) >>= fun vs => pure (if h : vs.size = 1 then vs[0] else .tuple vs)).run P w' = _
      rw [Sem.run_bind, e]
      rfl
    · cases vs with
      | nil =>
        have : us' = [] := by have := k6.1; simpa using this
        subst this
        exact ⟨_, rfl, k6⟩
      | cons v vs =>
        cases vs with
        | nil =>
          obtain ⟨u, rfl⟩ : ∃ u, us' = [u] := by
            have := k6.1
            simp at this
            exact List.length_eq_one_iff.1 this
          obtain ⟨u', u1, u2⟩ := k6.2 0 v rfl
          simp at u1; subst u1
          exact u2
        | cons v' vs =>
          have hl : us'.toArray.size ≠ 1 := by rw [k6.1]; simp
          rw [dif_neg hl]
          exact ⟨_, rfl, k6⟩
  refine h μ S w _ ?_ μ (fun _ => 0) _ w rfl hst
  intro e env' S1 μ' β' a' w' h' hd' hst'
  cases e with
  | normal => exact fin _ _ _ _ _ _ h' hd' hst'
  | ret => exact fin _ _ _ _ _ _ h' hd' hst'
  | exit id => exact h'.elim
end Go.Proofs.YtlmmdpmmdmhacaaGreat
