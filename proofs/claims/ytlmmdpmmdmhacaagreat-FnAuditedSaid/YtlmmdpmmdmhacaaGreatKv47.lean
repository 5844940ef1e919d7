/- A text of the proof. A text of the proof. A text of the proof. A text of the proof. -/
import Derived.Test.YtlmmdpmmdmhacaaGreatKv46
import Derived.Test.YtlmmdpmmdmhacaaGreatKv45
import Derived.Test.YtlmmdpmmdmhacaaGreatKv40
import Derived.Test.YtlmmdpmmdmhacaaGreatKv19
import Derived.Test.YtlmmdpmmdmhacaaGreatKv11
namespace Go.Proofs.YtlmmdpmmdmhacaaGreat
open Go Go.ChangeShapes Go.WideShapes Go.ChangeAt Go.RowKit
set_option linter.unusedVariables false
set_option linter.unusedSimpArgs false
set_option maxRecDepth 100000
theorem fr_event {lo : Nat} {S : Store} {p : GPackage} {pcs : List C} (h : Fr lo S p.d pcs) (k x t n v so ss le lo' ls lk ek en ep et ex eb : Int) (co : Bool) : Fr lo S (GEvent.mk k x t n v co ⟨so, ss⟩ ⟨le, ⟨lo', ls⟩, lk⟩ ⟨ek, en, ep, et, ex, eb⟩ p).d ([.int .i64 k, .int .i64 x, .int .i64 t, .int .i64 n, .int .i64 v, .bool co, .int .i64 so, .int .i64 ss, .int .i64 le, .int .i64 lo', .int .i64 ls, .int .i64 lk, .int .i64 ek, .int .i64 en, .int .i64 ep, .int .i64 et, .int .i64 ex, .int .i64 eb] ++ pcs) :=
  fr_x (fr_x (fr_x (fr_x (fr_x (fr_x (fr_x (fr_x (fr_x (fr_x (fr_x (fr_x (fr_x (fr_x (fr_x (fr_x (fr_x (fr_x h)))))))))))))))))
abbrev pk00 : GPackage := ⟨0, 0, 0, [], [], [], [], 0⟩
theorem fr_pk0 {lo : Nat} {S : Store} : Fr lo S pk00.d [.int .i64 0, .int .i64 0, .int .i64 0, .nil, .nil, .nil, .nil, .int .i64 0] := fr_x (fr_x (fr_x (fr_slnil (fr_slnil (fr_slnil (fr_slnil (fr_x fr_nil)))))))
theorem ev_exP {lo : Nat} {S : Store} {p : GPackage} {c3 c4 c5 c6 : C} {k x t n v so ss le lo' ls lk ek en ep et ex eb : Int} {co : Bool} (h : Fr lo S p.d [.int .i64 p.Ext, .int .i64 p.Author, .int .i64 p.Version, c3, c4, c5, c6, .int .i64 p.Seal]) (hz : szL p.d ≤ 200) :
    ∃ e : GEvent, szL e.Package.d ≤ 200 ∧ ∃ c21 c22 c23 c24, AV.v (.agg [.int .i64 k, .int .i64 x, .int .i64 t, .int .i64 n, .int .i64 v, .bool co, .int .i64 so, .int .i64 ss, .int .i64 le, .int .i64 lo', .int .i64 ls, .int .i64 lk, .int .i64 ek, .int .i64 en, .int .i64 ep, .int .i64 et, .int .i64 ex, .int .i64 eb, .int .i64 p.Ext, .int .i64 p.Author, .int .i64 p.Version, c3, c4, c5, c6, .int .i64 p.Seal]) = .v (.agg [.int .i64 e.Kind, .int .i64 e.Ext, .int .i64 e.Tab, .int .i64 e.N, .int .i64 e.Value, .bool e.Consent, .int .i64 e.Site.Owner, .int .i64 e.Site.Sub, .int .i64 e.Limit.Ext, .int .i64 e.Limit.Pattern.Owner, .int .i64 e.Limit.Pattern.Sub, .int .i64 e.Limit.Kind, .int .i64 e.Edit.Kind, .int .i64 e.Edit.Node, .int .i64 e.Edit.Parent, .int .i64 e.Edit.Tag, .int .i64 e.Edit.Text, .int .i64 e.Edit.By, .int .i64 e.Package.Ext, .int .i64 e.Package.Author, .int .i64 e.Package.Version, c21, c22, c23, c24, .int .i64 e.Package.Seal]) ∧ Fr lo S e.d [.int .i64 e.Kind, .int .i64 e.Ext, .int .i64 e.Tab, .int .i64 e.N, .int .i64 e.Value, .bool e.Consent, .int .i64 e.Site.Owner, .int .i64 e.Site.Sub, .int .i64 e.Limit.Ext, .int .i64 e.Limit.Pattern.Owner, .int .i64 e.Limit.Pattern.Sub, .int .i64 e.Limit.Kind, .int .i64 e.Edit.Kind, .int .i64 e.Edit.Node, .int .i64 e.Edit.Parent, .int .i64 e.Edit.Tag, .int .i64 e.Edit.Text, .int .i64 e.Edit.By, .int .i64 e.Package.Ext, .int .i64 e.Package.Author, .int .i64 e.Package.Version, c21, c22, c23, c24, .int .i64 e.Package.Seal] :=
  ⟨GEvent.mk k x t n v co ⟨so, ss⟩ ⟨le, ⟨lo', ls⟩, lk⟩ ⟨ek, en, ep, et, ex, eb⟩ p, hz, c3, c4, c5, c6, rfl, fr_event h k x t n v so ss le lo' ls lk ek en ep et ex eb co⟩
theorem ev_ex0 {lo : Nat} {S : Store} {k x t n v so ss le lo' ls lk ek en ep et ex eb : Int} {co : Bool} :
    ∃ e : GEvent, szL e.Package.d ≤ 200 ∧ ∃ c21 c22 c23 c24, AV.v (.agg [.int .i64 k, .int .i64 x, .int .i64 t, .int .i64 n, .int .i64 v, .bool co, .int .i64 so, .int .i64 ss, .int .i64 le, .int .i64 lo', .int .i64 ls, .int .i64 lk, .int .i64 ek, .int .i64 en, .int .i64 ep, .int .i64 et, .int .i64 ex, .int .i64 eb, .int .i64 0, .int .i64 0, .int .i64 0, .nil, .nil, .nil, .nil, .int .i64 0]) = .v (.agg [.int .i64 e.Kind, .int .i64 e.Ext, .int .i64 e.Tab, .int .i64 e.N, .int .i64 e.Value, .bool e.Consent, .int .i64 e.Site.Owner, .int .i64 e.Site.Sub, .int .i64 e.Limit.Ext, .int .i64 e.Limit.Pattern.Owner, .int .i64 e.Limit.Pattern.Sub, .int .i64 e.Limit.Kind, .int .i64 e.Edit.Kind, .int .i64 e.Edit.Node, .int .i64 e.Edit.Parent, .int .i64 e.Edit.Tag, .int .i64 e.Edit.Text, .int .i64 e.Edit.By, .int .i64 e.Package.Ext, .int .i64 e.Package.Author, .int .i64 e.Package.Version, c21, c22, c23, c24, .int .i64 e.Package.Seal]) ∧ Fr lo S e.d [.int .i64 e.Kind, .int .i64 e.Ext, .int .i64 e.Tab, .int .i64 e.N, .int .i64 e.Value, .bool e.Consent, .int .i64 e.Site.Owner, .int .i64 e.Site.Sub, .int .i64 e.Limit.Ext, .int .i64 e.Limit.Pattern.Owner, .int .i64 e.Limit.Pattern.Sub, .int .i64 e.Limit.Kind, .int .i64 e.Edit.Kind, .int .i64 e.Edit.Node, .int .i64 e.Edit.Parent, .int .i64 e.Edit.Tag, .int .i64 e.Edit.Text, .int .i64 e.Edit.By, .int .i64 e.Package.Ext, .int .i64 e.Package.Author, .int .i64 e.Package.Version, c21, c22, c23, c24, .int .i64 e.Package.Seal] :=
  ⟨GEvent.mk k x t n v co ⟨so, ss⟩ ⟨le, ⟨lo', ls⟩, lk⟩ ⟨ek, en, ep, et, ex, eb⟩ pk00, (show szL pk00.d ≤ 200 by rw [pk_szD]; decide), .nil, .nil, .nil, .nil, rfl, fr_event fr_pk0 k x t n v so ss le lo' ls lk ek en ep et ex eb co⟩
set_option maxHeartbeats 8000000 in
theorem ev_l36One {id : Nat} {S : Store} (h : Cur id S) : EvA Tryz.prog 117 [.s (.pt id)] S (fun r S' => Drw id S S' ∧ ∃ e : GEvent, szL e.Package.d ≤ 200 ∧ ∃ c21 c22 c23 c24, r = .v (.agg [.int .i64 e.Kind, .int .i64 e.Ext, .int .i64 e.Tab, .int .i64 e.N, .int .i64 e.Value, .bool e.Consent, .int .i64 e.Site.Owner, .int .i64 e.Site.Sub, .int .i64 e.Limit.Ext, .int .i64 e.Limit.Pattern.Owner, .int .i64 e.Limit.Pattern.Sub, .int .i64 e.Limit.Kind, .int .i64 e.Edit.Kind, .int .i64 e.Edit.Node, .int .i64 e.Edit.Parent, .int .i64 e.Edit.Tag, .int .i64 e.Edit.Text, .int .i64 e.Edit.By, .int .i64 e.Package.Ext, .int .i64 e.Package.Author, .int .i64 e.Package.Version, c21, c22, c23, c24, .int .i64 e.Package.Seal]) ∧ Fr S.length S' e.d [.int .i64 e.Kind, .int .i64 e.Ext, .int .i64 e.Tab, .int .i64 e.N, .int .i64 e.Value, .bool e.Consent, .int .i64 e.Site.Owner, .int .i64 e.Site.Sub, .int .i64 e.Limit.Ext, .int .i64 e.Limit.Pattern.Owner, .int .i64 e.Limit.Pattern.Sub, .int .i64 e.Limit.Kind, .int .i64 e.Edit.Kind, .int .i64 e.Edit.Node, .int .i64 e.Edit.Parent, .int .i64 e.Edit.Tag, .int .i64 e.Edit.Text, .int .i64 e.Edit.By, .int .i64 e.Package.Ext, .int .i64 e.Package.Author, .int .i64 e.Package.Version, c21, c22, c23, c24, .int .i64 e.Package.Seal]) := by
  have hlt := h.lt
  have hD := Drw.refl h
  have hF : Fr S.length S [] [] := fr_nil
  refine evA_intro tok Tryz.func117 (by kernel_rfl) rfl ?_
  repeat' ((conv => whnf) <;> first
   | rw [wrapI_i64 (by omega)] | refine cD (fun _ => ?_) fun _ => ?_ | refine cN (fun _ => ?_) fun _ => ?_ | refine cI (fun _ => ?_) fun _ => ?_ | (refine callP_intro (ev_l1Below _ hD.cur) ?_; rintro _ Sn ⟨hDn, xn, hxn, rfl⟩; replace hF := hF.drw hlt hDn; replace hD := hD.trans hDn; clear hDn) | (refine callP_intro (ev_l9Site hD.cur) ?_; rintro _ Sn ⟨hDn, sn, hsn, rfl⟩; replace hF := hF.drw hlt hDn; replace hD := hD.trans hDn; clear hDn) | (refine callP_intro (ev_l27Fine _ hD.cur) ?_; rintro _ Sn ⟨hDn, pn, hen, hzn, _, _, _, _, rfl, hFn⟩; replace hF := hF.joinD hlt hDn hFn hD.len; replace hD := hD.trans hDn; clear hDn hFn) | (refine callP_intro (ev_l1Once _ hD.cur) ?_; rintro _ Sn ⟨hDn, bn, rfl⟩; replace hF := hF.drw hlt hDn; replace hD := hD.trans hDn; clear hDn) | (refine callP_intro (ev_l5Edit hD.cur) ?_; rintro _ Sn ⟨hDn, en, hen, rfl⟩; replace hF := hF.drw hlt hDn; replace hD := hD.trans hDn; clear hDn) | (refine callP_intro (ev_l11Draw hD.cur) ?_; rintro _ Sn ⟨hDn, qn, hqn, rfl⟩; replace hF := hF.drw hlt hDn; replace hD := hD.trans hDn; clear hDn) | refine And.intro ?_ ?_)
  all_goals first
    | exact hD
    | exact ev_ex0
    | exact ev_exP hF (by have := pk_szD pn; omega)
    | (exfalso; omega)
set_option maxHeartbeats 4000000 in
theorem ev_l36Events {id : Nat} {S : Store} (most : Int) (h : Cur id S) (hm : most ≤ 100) : EvA Tryz.prog 116 [.s (.pt id), .s (.int .i64 most)] S (fun r S' => Drw id S S' ∧ ∃ l : List GEvent, l.length ≤ 101 ∧ 1 ≤ l.length ∧ (∀ e ∈ l, szL e.Package.d ≤ 200) ∧ ∃ c', r = .v (.s c') ∧ Fr S.length S' [.sl 26 (l.map GEvent.d)] [c']) := by
  have hlt := h.lt
  have hD := Drw.refl h
  refine evA_intro tok Tryz.func116 (by kernel_rfl) rfl ?_
  skip
  (conv => whnf)
  refine callP_intro (ev_l1Below _ hD.cur) ?_; rintro _ S1 ⟨hDn, x1, hx1, rfl⟩
  replace hD := hD.trans hDn; clear hDn
  repeat' ((conv => whnf) <;> first
   | rw [wrapI_i64 (by omega)])
  (conv => whnf)
  refine callP_intro (ev_l27Fine _ hD.cur) ?_; rintro _ S2 ⟨hDn, p, hpe, hpz, p3, p4, p5, p6, rfl, hFn⟩
  have hps := pk_szD p
  have hE := fr_event (hFn.mono hD.len) 1 (1 + x1) 0 0 0 0 0 0 0 0 0 0 0 0 0 0 0 false
  replace hD := hD.trans hDn; clear hDn hFn
  skip
  (conv => whnf)
  have hF := Fr.pushMv (k := 26) (ds := []) (cs := []) hE rfl hD.len rfl
  have hD1 := hD.push ⟨true, 26, [[.int .i64 1, .int .i64 (1 + x1), .int .i64 0, .int .i64 0, .int .i64 0, .bool false, .int .i64 0, .int .i64 0, .int .i64 0, .int .i64 0, .int .i64 0, .int .i64 0, .int .i64 0, .int .i64 0, .int .i64 0, .int .i64 0, .int .i64 0, .int .i64 0, .int .i64 p.Ext, .int .i64 p.Author, .int .i64 p.Version, p3, p4, p5, p6, .int .i64 p.Seal]]⟩
  refine callP_intro (ev_l1Below _ hD1.cur) ?_; rintro _ S3 ⟨hDn, x2, hx2, rfl⟩
  replace hF := hF.drw hlt hDn
  replace hD1 := hD1.trans hDn; clear hDn hD hE
  obtain ⟨n, rfl⟩ := Int.eq_ofNat_of_zero_le hx2.1
  have hn100 : n ≤ 100 := by
    rcases Int.lt_or_le 0 most with h | h
    · have := hx2.2.2.1 h; omega
    · have := hx2.2.2.2 h; omega
  skip
  refine loop_intro {q : Nat × Store × C // q.1 ≤ 100 ∧ Drw id S q.2.1 ∧ ∃ l : List GEvent, (∀ e ∈ l, szL e.Package.d ≤ 200) ∧ (1 ≤ l.length ∧ l.length + q.1 ≤ 101) ∧ Fr S.length q.2.1 [.sl 26 (l.map GEvent.d)] [q.2.2]} [6, 7, 20, 21, 22, 23, 24, 25, 26, 27, 28] (fun zb => [(7, .v (.s (.int .i64 (zb.1.1 : Nat)))), (6, .v (.s zb.1.2.2))]) (fun zb => zb.1.2.1) (fun zb => zb.1.1) ⟨(n, _, _), by dsimp only; omega, hD1, [(GEvent.mk 1 (1 + x1) 0 0 0 false ⟨0, 0⟩ ⟨0, ⟨0, 0⟩, 0⟩ ⟨0, 0, 0, 0, 0, 0⟩ p)], fun t ht => by rw [List.mem_singleton.1 ht]; dsimp only; omega, by simp; omega, hF⟩ ?_ rfl ?_
  · (conv => whnf); repeat' (first | exact trivial | exact rfl | apply And.intro)
  rintro ⟨⟨k, Si, ci⟩, hk, hP⟩; dsimp only
  clear hF hD1 hx2 hn100
  replace hk : k ≤ 100 := hk
  obtain ⟨hD, l, hT, hl, hF⟩ : Drw id S Si ∧ ∃ l : List GEvent, (∀ e ∈ l, szL e.Package.d ≤ 200) ∧ (1 ≤ l.length ∧ l.length + k ≤ 101) ∧ Fr S.length Si [.sl 26 (l.map GEvent.d)] [ci] := hP
  by_cases hk0 : 0 < k
  · repeat' ((conv => whnf) <;> first
     | (show CondP _ _ _; refine cS ?_))
    all_goals try (exfalso; omega)
    (conv => whnf)
    refine callP_intro (ev_l36One hD.cur) ?_; rintro _ S4 ⟨hDn, e, hez, c21, c22, c23, c24, rfl, hFn⟩
    replace hF := hF.joinD hlt hDn hFn hD.len
    replace hD := hD.trans hDn
    clear hDn hFn
    repeat' ((conv => whnf) <;> first
     | rw [wrapI_i64 (by omega)] | (refine dappMv (ds := [.sl 26 (l.map GEvent.d)]) (cs := [ci]) (dy := e.d) (o := 0) hD hF rfl rfl rfl rfl (by dsimp only [T89]; simp only [List.length_map]; omega) (by simp only [List.length_map]; omega) ?_; intro cN SN hDN hFN))
    all_goals try (exfalso; omega)
    refine ⟨⟨(k - 1, SN, cN), by dsimp only; omega, hDN, l ++ [e], fun x hx => ?_, by simp only [List.length_append, List.length_singleton]; omega, ?_⟩, ?_, rfl, by dsimp only; omega⟩
    · rcases List.mem_append.1 hx with h | h
      · exact hT x h
      · rw [List.mem_singleton.1 h]; exact hez
    · rw [List.map_append]; exact hFN
    · (conv => whnf); repeat' (first | exact trivial | exact rfl | (show _ = _; congr 3; dsimp only; omega) | apply And.intro)
  repeat' ((conv => whnf) <;> first
   | (show CondP _ _ _; refine cS ?_) | refine And.intro ?_ ?_)
  all_goals first
    | exact hD
    | (exfalso; omega)
    | exact ⟨l, by omega, hl.1, hT, _, rfl, hF⟩
theorem ev_parts {S : Store} {e : GEvent} {cs : List C} (h : Rd S e.d cs) : ∃ c21 c22 c23 c24, cs = [.int .i64 e.Kind, .int .i64 e.Ext, .int .i64 e.Tab, .int .i64 e.N, .int .i64 e.Value, .bool e.Consent, .int .i64 e.Site.Owner, .int .i64 e.Site.Sub, .int .i64 e.Limit.Ext, .int .i64 e.Limit.Pattern.Owner, .int .i64 e.Limit.Pattern.Sub, .int .i64 e.Limit.Kind, .int .i64 e.Edit.Kind, .int .i64 e.Edit.Node, .int .i64 e.Edit.Parent, .int .i64 e.Edit.Tag, .int .i64 e.Edit.Text, .int .i64 e.Edit.By, .int .i64 e.Package.Ext, .int .i64 e.Package.Author, .int .i64 e.Package.Version, c21, c22, c23, c24, .int .i64 e.Package.Seal] ∧ Rd S e.Package.d [.int .i64 e.Package.Ext, .int .i64 e.Package.Author, .int .i64 e.Package.Version, c21, c22, c23, c24, .int .i64 e.Package.Seal] := by
  obtain ⟨c21, c22, c23, c24, rfl, h1, h2, h3, h4⟩ := GEvent.inv h
  exact ⟨c21, c22, c23, c24, rfl, GPackage.rd h1 h2 h3 h4⟩
set_option maxHeartbeats 8000000 in
theorem ev_sApplyEvent {b : GBrowser} (hb : DrOk b) (e : GEvent) (he : szL e.Package.d ≤ 200) (cs cs' : List C) (S : Store) (h : Rd S b.d cs) (h' : Rd S e.d cs') : EvA Tryz.prog 222 [.agg cs, .agg cs'] S (fun r S' => Ext S S' ∧ ∃ (b' : GBrowser) (ok : Bool), DrOk b' ∧ ∃ c1 c2 c3 c4 c5 c6, r = .tup [.agg [.int .i64 b'.Key, c1, c2, c3, c4, c5, c6, .int .i64 b'.Now], .s (.bool ok)] ∧ Fr S.length S' b'.d [.int .i64 b'.Key, c1, c2, c3, c4, c5, c6, .int .i64 b'.Now]) := by
  have hsz := hb.ok.sz
  obtain ⟨_, _, _, _, _, _, rfl, _⟩ := GBrowser.inv h
  obtain ⟨_, _, _, _, rfl, hP⟩ := ev_parts h'
  have hz1 : szL b.d ≤ 1048576 := by omega
  have hz2 : szL b.d ≤ 2097152 := by omega
  have hz3 : szL b.d ≤ 4194304 := by omega
  have hz4 : szL e.Package.d ≤ 1048576 := by omega
  refine evA_intro tok Tryz.func222 (by kernel_rfl) rfl ?_
  repeat' ((conv => whnf) <;> first
   | (refine callP_intro (ev_l32Copy b _ _ h hz3) ?_; rintro _ Sn ⟨hEn, _, _, _, _, _, _, rfl, hFn⟩; have hDn := hb) | (refine callP_intro (ev_sStoreFor b e.Ext e.Tab e.N e.Value _ _ h hz1) ?_; rintro _ Sn ⟨hEn, ss, ok, hpp, _, _, _, _, _, _, rfl, hFn⟩; have hDn := stPut_dr hb hpp) | (refine callP_intro (ev_sWriteTab b e.Ext e.Tab e.Edit _ _ h hz2) ?_; rintro _ Sn ⟨hEn, _, _, _, _, _, _, rfl, hFn⟩; have hDn := writeTab_dr hb e.Ext e.Tab e.Edit) | (refine callP_intro (ev_sPageEdit b e.Tab e.Edit _ _ h hz2) ?_; rintro _ Sn ⟨hEn, _, _, _, _, _, _, rfl, hFn⟩; have hDn := pageEdit_dr hb e.Tab e.Edit) | (refine callP_intro (ev_sStepTick b e.N _ _ h hz2) ?_; rintro _ Sn ⟨hEn, _, _, _, _, _, _, rfl, hFn⟩; have hDn := stepTick_dr hb e.N) | (refine callP_intro (ev_sStepGo b e.Tab e.Site _ _ h hz2) ?_; rintro _ Sn ⟨hEn, _, _, _, _, _, _, rfl, hFn⟩; have hDn := stepGo_dr hb e.Tab e.Site) | (refine callP_intro (ev_sStepClick b e.Tab e.Ext _ _ h hz2) ?_; rintro _ Sn ⟨hEn, _, _, _, _, _, _, rfl, hFn⟩; have hDn := stepClick_dr hb e.Tab e.Ext) | (refine callP_intro (ev_sStepLimit b e.Limit _ _ h hz2) ?_; rintro _ Sn ⟨hEn, _, _, _, _, _, _, rfl, hFn⟩; have hDn := stepLimit_dr hb e.Limit) | (refine callP_intro (ev_sStepUpdate b e.Package e.Consent _ _ _ h hP hz1 hz4) ?_; rintro _ Sn ⟨hEn, _, _, _, _, _, _, rfl, hFn⟩; have hDn := stepUpdate_dr hb e.Package e.Consent) | (refine callP_intro (ev_sStepRemove b e.Ext _ _ h hz1) ?_; rintro _ Sn ⟨hEn, _, _, _, _, _, _, rfl, hFn⟩; have hDn := stepRemove_dr hb e.Ext) | (refine callP_intro (ev_sStepInstall b e.Package _ _ _ h hP hz1 hz4) ?_; rintro _ Sn ⟨hEn, _, _, _, _, _, _, rfl, hFn⟩; have hDn := stepInstall_dr hb e.Package) | refine cD (fun _ => ?_) fun _ => ?_ | refine And.intro ?_ ?_)
  all_goals first
    | exact hEn
    | exact ⟨_, _, hDn, _, _, _, _, _, _, rfl, hFn⟩
set_option maxHeartbeats 8000000 in
theorem ev_sRunEvents {b : GBrowser} (hb : DrOk b) (l : List GEvent) (he : ∀ e ∈ l, szL e.Package.d ≤ 200) (cs : List C) (c : C) (S : Store) (h : Rd S b.d cs) (h' : Rd S [.sl 26 (l.map GEvent.d)] [c]) (hz : l.length ≤ 4194304) : EvA Tryz.prog 152 [.agg cs, .s c] S (fun r S' => Ext S S' ∧ ∃ b' : GBrowser, DrOk b' ∧ ∃ c1 c2 c3 c4 c5 c6, r = .v (.agg [.int .i64 b'.Key, c1, c2, c3, c4, c5, c6, .int .i64 b'.Now]) ∧ Fr S.length S' b'.d [.int .i64 b'.Key, c1, c2, c3, c4, c5, c6, .int .i64 b'.Now]) := by
  have hsz := hb.ok.sz
  have hB := h
  obtain ⟨_, _, _, _, _, _, rfl, _⟩ := GBrowser.inv h
  refine evA_intro tok Tryz.func152 (by kernel_rfl) rfl ?_
  skip
  (conv => whnf)
  refine callP_intro (ev_l32Copy b _ _ hB (by omega)) ?_; rintro _ S1 ⟨e1, c1, c2, c3, c4, c5, c6, rfl, f1⟩
  skip
  refine loop_intro {q : Nat × Store × GBrowser × C × C × C × C × C × C // q.1 ≤ l.length ∧ Ext S q.2.1 ∧ DrOk q.2.2.1 ∧ Fr S.length q.2.1 q.2.2.1.d [.int .i64 q.2.2.1.Key, q.2.2.2.1, q.2.2.2.2.1, q.2.2.2.2.2.1, q.2.2.2.2.2.2.1, q.2.2.2.2.2.2.2.1, q.2.2.2.2.2.2.2.2, .int .i64 q.2.2.1.Now]} [5, 6, 9, 10, 11, 12, 13, 14, 15, 16, 17, 18, 19, 20, 21, 22, 23] (fun zb => [(6, .v (.s (.int .i64 (zb.1.1 : Nat)))), (5, .box [.int .i64 zb.1.2.2.1.Key, zb.1.2.2.2.1, zb.1.2.2.2.2.1, zb.1.2.2.2.2.2.1, zb.1.2.2.2.2.2.2.1, zb.1.2.2.2.2.2.2.2.1, zb.1.2.2.2.2.2.2.2.2, .int .i64 zb.1.2.2.1.Now])]) (fun zb => zb.1.2.1) (fun zb => l.length - zb.1.1) ⟨(0, S1, b, _, _, _, _, _, _), Nat.zero_le _, e1, hb, f1⟩ ?_ rfl ?_
  · (conv => whnf); repeat' (first | exact trivial | exact rfl | apply And.intro)
  rintro ⟨⟨i, Si, x, d1, d2, d3, d4, d5, d6⟩, hi, hE, hx, hF⟩; dsimp only
  dsimp only at hi hE hx hF
  have hl := h'.ext hE
  by_cases hlt : i < l.length
  · have hi' : 0 ≤ ((i : Nat) : Int) ∧ ((i : Nat) : Int).toNat < l.length := ⟨by omega, by simpa using hlt⟩
    obtain ⟨pcs, hpr, hpld⟩ := rd_loadx hl (i := ((i : Nat) : Int)) hi'
    have hpr0 := hpr
    obtain ⟨_, _, _, _, rfl, _⟩ := ev_parts hpr
    repeat' ((conv => whnf) <;> first
     | (refine rd_lenm hl ?_; intro hml) | (refine hpld _ (Ext.refl _) _ ?_) | (show CondP _ _ _; refine cS ?_) | refine rI rdA rf ix ?_ | refine draw_intro 16 [.fl 0, .fl 1, .fl 2, .fl 3, .fl 4, .st 5 [], .fl 6, .fl 7, .fl 8, .st 9 [8]] (by rfl) (by kernel_rfl) ?_)
    all_goals try (exfalso; omega)
    (conv => whnf)
    refine callP_intro (ev_sApplyEvent hx _ (he _ (List.getElem_mem hi'.2)) _ _ _ hF.rd hpr0) ?_; rintro _ S2 ⟨e2, y, ok, hy, g1, g2, g3, g4, g5, g6, rfl, f2⟩
    repeat' ((conv => whnf) <;> first
     | rw [wrapI_i64 (by omega)] | refine And.intro ?_ ?_)
    all_goals try (exfalso; omega)
    refine ⟨⟨(i + 1, S2, y, _, _, _, _, _, _), by dsimp only; omega, hE.trans e2, hy, f2.mono hE.len⟩, ?_, rfl, by dsimp only; omega⟩
    (conv => whnf); repeat' (first | exact trivial | exact rfl | apply And.intro)
  repeat' ((conv => whnf) <;> first
   | (refine rd_lenm hl ?_; intro hml) | (show CondP _ _ _; refine cS ?_) | refine And.intro ?_ ?_)
  all_goals first
    | exact hE
    | (exfalso; omega)
    | exact ⟨x, hx, _, _, _, _, _, _, rfl, hF⟩
end Go.Proofs.YtlmmdpmmdmhacaaGreat
namespace Go.Proofs.YtlmmdpmmdmhacaaGreat
open Go Go.ChangeShapes Go.WideShapes Go.ChangeAt Go.RowKit
set_option linter.unusedVariables false
set_option linter.unusedSimpArgs false
set_option maxRecDepth 100000
def RdF (id : Nat) (S : Store) (ds : List D) (cs : List C) : Prop := ∀ S' : Store, (∀ j, j < S.length → j ≠ id → S'[j]? = S[j]?) → Rd S' ds cs
theorem RdF.rd {id : Nat} {S : Store} {ds : List D} {cs : List C} (h : RdF id S ds cs) : Rd S ds cs := h S fun _ _ _ => rfl
theorem RdF.drw {id : Nat} {S S' : Store} {ds : List D} {cs : List C} (h : RdF id S ds cs) (e : Drw id S S') : RdF id S' ds cs := fun S2 hs => h S2 fun j hj hn => (hs j (Nat.lt_of_lt_of_le hj e.len) hn).trans (e.same j hj hn)
theorem dstoMv {id q k : Nat} {S0 S : Store} {c : C} {ds : List D} {cs : List C} {xs : List (List D)} {i : Int} {off : Nat} {A B B' Z : List D} {ys : List C} {K : Store → Prop}
    (hD : Drw id S0 S) (h : Fr S0.length S (ds ++ B') (cs ++ ys)) (hl : cs.length = ds.length) (hd : ds[q]? = some (.sl k xs)) (hc : cs[q]? = some c)
    (h0 : 0 ≤ i ∧ i.toNat < xs.length) (hx : xs[i.toNat]? = some (A ++ B ++ Z)) (hA : A.length = off) (hB : B'.length = B.length) (hk : (A ++ B ++ Z).length = k)
    (hK : ∀ S', Drw id S0 S' → Fr S0.length S' (ds.set q (.sl k (xs.set i.toNat (A ++ B' ++ Z)))) cs → K S') : StoP S c i off ys K := by
  have ht := take_len hD
  exact fr_stoMv (S0 := S.take S0.length) (take_ext S _) (by rw [ht]; exact h) hl hd hc h0 hx hA hB hk fun S' e f _ => hK S' (hD.own e) (by rw [ht] at f; exact f)
theorem szLL_setLe {α : Type} {f : α → List D} (a : α) : ∀ (l : List α) (i : Nat), szL.szLL ((l.set i a).map f) ≤ szL.szLL (l.map f) + szL (f a)
  | [], i => by rw [List.set_nil]; exact Nat.le_add_right _ _
  | x :: l, 0 => by rw [List.set_cons_zero, List.map_cons, List.map_cons, szL.szLL, szL.szLL]; omega
  | x :: l, i + 1 => by
    have := szLL_setLe (f := f) a l i
    rw [List.set_cons_succ, List.map_cons, List.map_cons, szL.szLL, szL.szLL]; omega
theorem pkX_at {l : List GPackage} {i : Int} (h : 0 ≤ i ∧ i.toNat < l.length) : (l.map GPackage.d)[i.toNat]? = some (l[i.toNat]'h.2).d := by simp [h.2]
end Go.Proofs.YtlmmdpmmdmhacaaGreat
namespace Go.Proofs.YtlmmdpmmdmhacaaGreat
open Go Go.ChangeShapes Go.WideShapes Go.ChangeAt Go.RowKit
set_option linter.unusedVariables false
set_option linter.unusedSimpArgs false
set_option maxRecDepth 100000
theorem br_exF {lo : Nat} {S : Store} {key now : Int} {tabs : List GTab} {packs : List GPackage} {gs : List GGrant} {ls : List GLimit} {rs : List GRule} {ss : List GStored} {c1 c2 c3 c4 c5 c6 : C}
    (h : Fr lo S [.x (.int .i64 key), .sl 6 (tabs.map GTab.d), .sl 8 (packs.map GPackage.d), .sl 7 (gs.map GGrant.d), .sl 4 (ls.map GLimit.d), .sl 8 (rs.map GRule.d), .sl 4 (ss.map GStored.d), .x (.int .i64 now)] [.int .i64 key, c1, c2, c3, c4, c5, c6, .int .i64 now])
    (hz : szL (GBrowser.mk key tabs packs gs ls rs ss now).d ≤ 1000) : ∃ b : GBrowser, szL b.d ≤ 1000 ∧ ∃ d1 d2 d3 d4 d5 d6, AV.v (.agg [.int .i64 key, c1, c2, c3, c4, c5, c6, .int .i64 now]) = .v (.agg [.int .i64 b.Key, d1, d2, d3, d4, d5, d6, .int .i64 b.Now]) ∧ Fr lo S b.d [.int .i64 b.Key, d1, d2, d3, d4, d5, d6, .int .i64 b.Now] :=
  ⟨⟨key, tabs, packs, gs, ls, rs, ss, now⟩, hz, c1, c2, c3, c4, c5, c6, rfl, h⟩
set_option maxHeartbeats 4000000 in
theorem ev_l37Draw {id : Nat} {S : Store} (h : Cur id S) : EvA Tryz.prog 77 [.s (.pt id)] S (fun r S' => Drw id S S' ∧ ∃ b : GBrowser, szL b.d ≤ 1000 ∧ ∃ c1 c2 c3 c4 c5 c6, r = .v (.agg [.int .i64 b.Key, c1, c2, c3, c4, c5, c6, .int .i64 b.Now]) ∧ Fr S.length S' b.d [.int .i64 b.Key, c1, c2, c3, c4, c5, c6, .int .i64 b.Now]) := by
  have hlt := h.lt
  have hD := Drw.refl h
  refine evA_intro tok Tryz.func77 (by kernel_rfl) rfl ?_
  skip
  (conv => whnf)
  refine callP_intro (ev_l32Draw hD.cur) ?_; rintro _ S1 ⟨hDn, ts, hb, hnb, hts, a1, a2, a3, a4, a5, a6, rfl, hF⟩
  have hb0 := newB_dr hb hnb
  replace hD := hD.trans hDn; clear hDn
  skip
  (conv => whnf)
  refine callP_intro (ev_l36Events _ hD.cur (by decide)) ?_; rintro _ S2 ⟨hDn, l, hl, h1l, hlz, cl, rfl, hL⟩
  replace hF := hF.drw hlt hDn
  have hL0 := hD.len
  replace hD := hD.trans hDn; clear hDn
  skip
  (conv => whnf)
  refine callP_intro (ev_sRunEvents hb0 l hlz _ _ _ hF.rd hL.rd (by omega)) ?_; rintro _ S3 ⟨e3, b, hbd, c1, c2, c3, c4, c5, c6, rfl, f3⟩
  clear hF
  have hF := f3.mono hD.len
  replace hD := hD.ext e3
  have hsz := hbd.ok.sz
  clear f3 e3 hL hL0 hb0
  skip
  (conv => whnf)
  refine callP_intro (ev_l1Below _ hD.cur) ?_; rintro _ S4 ⟨hDn, y, hy, rfl⟩
  replace hF := hF.drw hlt hDn
  replace hD := hD.trans hDn; clear hDn
  have hs2 := br_szD b
  have r2 : Rd S4 [.sl 8 (b.Packs.map GPackage.d)] [c2] := hF.rdAt (o := 2) rfl rfl
  by_cases hp0 : b.Packs.length = 0
  · have hsn := br_szD (GBrowser.mk b.Key b.Tabs [] b.Grants b.Limits b.Rules b.Store b.Now)
    have hs1 := br_szD (GBrowser.mk b.Key b.Tabs b.Packs b.Grants b.Limits b.Rules b.Store (-1))
    simp only [List.length_nil, List.map_nil, szL.szLL] at hsn hs1
    repeat' ((conv => whnf) <;> first
     | (refine rd_lenm r2 ?_; intro hml) | (show CondP _ _ _; refine cS ?_) | refine cD (fun _ => ?_) fun _ => ?_ | refine And.intro ?_ ?_)
    all_goals first
      | exact hD
      | exact hD.push _
      | (exfalso; omega)
      | exact ⟨b, by omega, c1, c2, c3, c4, c5, c6, rfl, hF⟩
      | exact br_exF (hF.setX (o := 7) (c' := .int .i64 (-1)) (by show 7 < 8; decide)) (by omega)
      | exact br_exF (packs := []) (hF.setAt (o := 2) (d' := .sl 8 []) (c' := .sl S4.length 0 0 0) (Ext.push S4 ⟨true, 8, []⟩) (fr_lit0 (S := S4) (k := 8)) hD.len (by show 2 < 8; decide)) (by omega)
  have hj00 : 0 ≤ (0 : Int) ∧ (0 : Int).toNat < b.Packs.length := ⟨Int.le_refl _, by show 0 < b.Packs.length; omega⟩
  have hzt0 := szLL_mem (f := GPackage.d) (List.getElem_mem hj00.2)
  have hpz := pk_szD (b.Packs[(0 : Int).toNat]'hj00.2)
  obtain ⟨pcs, hpr, hpld⟩ := rd_loadx r2 (i := (0 : Int)) hj00
  obtain ⟨p3, p4, p5, p6, rfl, q3, q4, q5, q6⟩ := GPackage.inv hpr
  by_cases y3 : y = 3
  · subst y3
    repeat' ((conv => whnf) <;> first
     | (refine rd_lenm r2 ?_; intro hml) | (refine hpld _ (Ext.refl _) _ ?_) | (show CondP _ _ _; refine cS ?_) | refine rI rdA rf ix ?_ | refine draw_intro 63 [.fl 0, .fl 1, .fl 2, .fl 3, .fl 4, .st 5 [0, 1], .fl 6, .st 7 []] (by rfl) (by kernel_rfl) ?_)
    all_goals try (exfalso; omega)
    (conv => whnf)
    have hpx : Rd (S4 ++ [⟨true, 7, []⟩]) (GPackage.mk (b.Packs[(0 : Int).toNat]'hj00.2).Ext (b.Packs[(0 : Int).toNat]'hj00.2).Author (b.Packs[(0 : Int).toNat]'hj00.2).Version [] (b.Packs[(0 : Int).toNat]'hj00.2).Flows (b.Packs[(0 : Int).toNat]'hj00.2).Rules (b.Packs[(0 : Int).toNat]'hj00.2).Ops (b.Packs[(0 : Int).toNat]'hj00.2).Seal).d _ := GPackage.rd (fr_lit0 (S := S4) (k := 7)).rd (q4.ext (Ext.push _ _)) (q5.ext (Ext.push _ _)) (q6.ext (Ext.push _ _))
    refine callP_intro (ev_sSealPackage b.Key _ _ _ hpx (by rw [pk_szD]; simp only [List.length_nil]; omega)) ?_; rintro _ S5 ⟨e5, g3, g4, g5, g6, rfl, f5⟩
    have hJ := (hF.ext (Ext.push S4 ⟨true, 7, []⟩)).join e5 f5 (hD.push ⟨true, 7, []⟩).len
    have hD5 := (hD.push ⟨true, 7, []⟩).ext e5
    have hs3 := szLL_setLe (f := GPackage.d) (sealed b.Key (GPackage.mk (b.Packs[(0 : Int).toNat]'hj00.2).Ext (b.Packs[(0 : Int).toNat]'hj00.2).Author (b.Packs[(0 : Int).toNat]'hj00.2).Version [] (b.Packs[(0 : Int).toNat]'hj00.2).Flows (b.Packs[(0 : Int).toNat]'hj00.2).Rules (b.Packs[(0 : Int).toNat]'hj00.2).Ops (b.Packs[(0 : Int).toNat]'hj00.2).Seal)) b.Packs 0
    rw [pk_szD (sealed _ _)] at hs3
    have r25 := (r2.ext (Ext.push S4 ⟨true, 7, []⟩)).ext e5
    repeat' ((conv => whnf) <;> first
     | (refine rI r25 rf hj00 ?_) | (refine dstoMv (q := 2) (k := 8) (ds := b.d) (cs := [.int .i64 b.Key, c1, c2, c3, c4, c5, c6, .int .i64 b.Now]) (xs := b.Packs.map GPackage.d) (A := []) (B := (b.Packs[(0 : Int).toNat]'hj00.2).d) (B' := (sealed b.Key (GPackage.mk (b.Packs[(0 : Int).toNat]'hj00.2).Ext (b.Packs[(0 : Int).toNat]'hj00.2).Author (b.Packs[(0 : Int).toNat]'hj00.2).Version [] (b.Packs[(0 : Int).toNat]'hj00.2).Flows (b.Packs[(0 : Int).toNat]'hj00.2).Rules (b.Packs[(0 : Int).toNat]'hj00.2).Ops (b.Packs[(0 : Int).toNat]'hj00.2).Seal)).d) (Z := []) hD5 hJ rfl rfl rfl (by rw [List.length_map]; exact hj00) (by rw [List.nil_append, List.append_nil]; exact pkX_at hj00) rfl rfl rfl ?_; intro SN hDN hFN) | refine And.intro ?_ ?_)
    skip
    all_goals first
      | exact hDN.push _
      | (refine br_exF (gs := []) (packs := b.Packs.set 0 (sealed b.Key (GPackage.mk (b.Packs[(0 : Int).toNat]'hj00.2).Ext (b.Packs[(0 : Int).toNat]'hj00.2).Author (b.Packs[(0 : Int).toNat]'hj00.2).Version [] (b.Packs[(0 : Int).toNat]'hj00.2).Flows (b.Packs[(0 : Int).toNat]'hj00.2).Rules (b.Packs[(0 : Int).toNat]'hj00.2).Ops (b.Packs[(0 : Int).toNat]'hj00.2).Seal))) (tabs := b.Tabs) (ls := b.Limits) (rs := b.Rules) (ss := b.Store) ?_ ?_
         · rw [List.map_set]
           exact hFN.setAt (o := 3) (Ext.push _ _) (fr_lit0 (k := 7)) hDN.len (by show 3 < 8; decide)
         · rw [br_szD]; dsimp only [sealed] at hs3 ⊢; simp only [List.length_nil, List.length_set] at hs3 ⊢; omega)
  have hsn := br_szD (GBrowser.mk b.Key b.Tabs [] b.Grants b.Limits b.Rules b.Store b.Now)
  have hs1 := br_szD (GBrowser.mk b.Key b.Tabs b.Packs b.Grants b.Limits b.Rules b.Store (-1))
  simp only [List.length_nil, List.map_nil, szL.szLL] at hsn hs1
  repeat' ((conv => whnf) <;> first
   | (refine rd_lenm r2 ?_; intro hml) | (refine hpld _ (Ext.refl _) _ ?_) | (show CondP _ _ _; refine cS ?_) | refine cD (fun _ => ?_) fun _ => ?_ | refine rI rdA rf ix ?_ | refine draw_intro 21 [.fl 0, .fl 1, .fl 2, .fl 3, .fl 4, .fl 5, .fl 6, .fl 7, .fl 8, .fl 9, .st 10 [], .fl 11, .st 12 []] (by rfl) (by kernel_rfl) ?_ | refine draw_intro 39 [.fl 0, .fl 1, .fl 2, .fl 3, .fl 4, .fl 5, .fl 6, .fl 7, .fl 8, .fl 9, .st 10 [], .fl 11, .st 12 []] (by rfl) (by kernel_rfl) ?_ | (refine dappF (f := GGrant.d) (o := 3) (l := b.Grants) (m := [⟨(b.Packs[(0 : Int).toNat]'hj00.2).Ext, ⟨0, -1⟩, 1, 0, 999, false⟩]) (fun _ => trivial) hD hF rfl rfl rfl rf (by dsimp only [T108, T120]; simp only [List.length_singleton]; omega) (by simp only [List.length_singleton]; omega) ?_; intro cN SN hDN hFN) | (refine dappF (f := GRule.d) (o := 5) (l := b.Rules) (m := [⟨(b.Packs[(0 : Int).toNat]'hj00.2).Ext, 9, ⟨9, 9⟩, 0, 2, ⟨0, 0⟩⟩]) (fun _ => trivial) hD hF rfl rfl rfl rf (by dsimp only [T108, T120]; simp only [List.length_singleton]; omega) (by simp only [List.length_singleton]; omega) ?_; intro cN SN hDN hFN) | refine And.intro ?_ ?_)
  all_goals first
    | exact hDN
    | exact hD
    | exact hD.push _
    | (exfalso; omega)
    | exact ⟨b, by omega, c1, c2, c3, c4, c5, c6, rfl, hF⟩
    | exact br_exF hFN (by rw [br_szD]; simp only [List.length_append, List.length_singleton]; omega)
    | exact br_exF (hF.setX (o := 7) (c' := .int .i64 (-1)) (by show 7 < 8; decide)) (by omega)
    | exact br_exF (packs := []) (hF.setAt (o := 2) (d' := .sl 8 []) (c' := .sl S4.length 0 0 0) (Ext.push S4 ⟨true, 8, []⟩) (fr_lit0 (S := S4) (k := 8)) hD.len (by show 2 < 8; decide)) (by omega)
set_option maxHeartbeats 2000000 in
theorem ev_DrawTracesOf {S : Store} {c : C} (l : List Int) (hr : Rd S [.sl 1 (l.map dByte)] [c]) (hz : l.length ≤ 1048576) : EvA Tryz.prog 16 [.s c] S (fun r S' => Ext S S' ∧ ∃ (b : GBrowser) (e : Int), szL b.d ≤ 1000 ∧ 1 ≤ e ∧ ∃ c1 c2 c3 c4 c5 c6, r = .tup [.agg [.int .i64 b.Key, c1, c2, c3, c4, c5, c6, .int .i64 b.Now], .s (.int .i64 e)] ∧ Rd S' b.d [.int .i64 b.Key, c1, c2, c3, c4, c5, c6, .int .i64 b.Now]) := by
  refine evA_intro tok Tryz.func16 (by kernel_rfl) rfl ?_
  skip
  (conv => whnf)
  refine callP_intro (ev_l1New l hr hz) ?_; rintro _ S1 ⟨hE, h, rfl⟩
  have hlt := h.lt
  skip
  (conv => whnf)
  refine callP_intro (ev_l37Draw h) ?_; rintro _ S2 ⟨hD, b, hb, c1, c2, c3, c4, c5, c6, rfl, hF⟩
  repeat' ((conv => whnf) <;> first
   | rw [wrapI_i64 (by omega)] | (refine callP_intro (ev_l1Below _ hD.cur) ?_; rintro _ Sn ⟨hDn, xn, hxn, rfl⟩; replace hF := hF.drw hlt hDn; replace hD := hD.trans hDn; clear hDn) | refine draw_intro 10 [.fl 0, .fl 1, .st 2 [0], .fl 3, .st 4 [3], .st 5 []] (by rfl) (by kernel_rfl) ?_ | refine And.intro ?_ ?_)
  all_goals first
    | exact drw_ext hE hD
    | exact ⟨b, _, hb, by omega, _, _, _, _, _, _, rfl, hF.rd⟩
set_option maxHeartbeats 2000000 in
theorem ev_DrawIsGranted {S : Store} {c : C} (l : List Int) (hr : Rd S [.sl 1 (l.map dByte)] [c]) (hz : l.length ≤ 1048576) : EvA Tryz.prog 61 [.s c] S (fun r S' => Ext S S' ∧ ∃ (b : GBrowser), szL b.d ≤ 1000 ∧ ∃ c1 c2 c3 c4 c5 c6, r = .v (.agg [.int .i64 b.Key, c1, c2, c3, c4, c5, c6, .int .i64 b.Now]) ∧ Rd S' b.d [.int .i64 b.Key, c1, c2, c3, c4, c5, c6, .int .i64 b.Now]) := by
  refine evA_intro tok Tryz.func61 (by kernel_rfl) rfl ?_
  skip
  repeat' ((conv => whnf) <;> first
   | (refine callP_intro (ev_DrawTracesOf _ rdA om) ?_; rintro _ Sn ⟨hEn, bn, en, hbn, hen, _, _, _, _, _, _, rfl, hRn⟩) | refine And.intro ?_ ?_)
  all_goals first
    | exact hEn
    | exact ⟨bn, hbn, _, _, _, _, _, _, rfl, hRn⟩
set_option maxHeartbeats 2000000 in
theorem ev_DrawFaultOf {S : Store} {c : C} (l : List Int) (hr : Rd S [.sl 1 (l.map dByte)] [c]) (hz : l.length ≤ 1048576) : EvA Tryz.prog 9 [.s c] S (fun r S' => Ext S S' ∧ ∃ (b : GBrowser), szL b.d ≤ 1000 ∧ ∃ c1 c2 c3 c4 c5 c6, r = .v (.agg [.int .i64 b.Key, c1, c2, c3, c4, c5, c6, .int .i64 b.Now]) ∧ Rd S' b.d [.int .i64 b.Key, c1, c2, c3, c4, c5, c6, .int .i64 b.Now]) := by
  refine evA_intro tok Tryz.func9 (by kernel_rfl) rfl ?_
  skip
  repeat' ((conv => whnf) <;> first
   | (refine callP_intro (ev_DrawIsGranted _ rdA om) ?_; rintro _ Sn ⟨hEn, bn, hbn, _, _, _, _, _, _, rfl, hRn⟩) | refine And.intro ?_ ?_)
  all_goals first
    | exact hEn
    | exact ⟨bn, hbn, _, _, _, _, _, _, rfl, hRn⟩
end Go.Proofs.YtlmmdpmmdmhacaaGreat
namespace Go.Proofs.YtlmmdpmmdmhacaaGreat
open Go Go.ChangeShapes Go.WideShapes Go.ChangeAt Go.RowKit
set_option linter.unusedVariables false
set_option linter.unusedSimpArgs false
set_option maxRecDepth 100000
structure StC (x0 : List Int) (c0 : C) where
  S : Store
  hc : Rd S [.sl 1 (x0.map dByte)] [c0]
theorem ev_big (l : List Int) (c : C) (S : Store) (h : Rd S [.sl 1 (l.map dByte)] [c]) : EvA Tryz.prog 8 [.s c] S (fun r S' => r = .v (.s (.bool (decide (1048576 < (l.length : Int))))) ∧ S' = S) := by
  refine evA_intro tok Tryz.func8 (by kernel_rfl) rfl ?_
  repeat' ((conv => whnf) <;> first
   | refine rE fun hml => ?_ | refine nP ?_ | refine And.intro ?_ ?_)
  all_goals rfl
end Go.Proofs.YtlmmdpmmdmhacaaGreat
