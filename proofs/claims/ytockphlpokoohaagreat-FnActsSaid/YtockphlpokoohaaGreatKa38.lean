/- A text of the proof. -/
import Derived.Test.YtockphlpokoohaaGreatKa37
namespace Go.Proofs.YtockphlpokoohaaGreat
open Go Go.ChangeShapes Go.WideShapes Go.ChangeAt Go.RowKit
set_option linter.unusedVariables false
set_option linter.unusedSimpArgs false
set_option maxRecDepth 100000
theorem tab_holeD {id : Nat} {S0 S : Store} {ds : List D} {cs : List C} {c1 : C} {l : List GTab} (hD : Drw id S0 S) (h : Fr S0.length S ds cs) (hd : ds[1]? = some (.sl 6 (l.map GTab.d))) (hc : cs[1]? = some c1) (hl : 0 < l.length) :
    ∃ d2 d3 d4, (∀ K : List C → Prop, K [.int .i64 (l[0]).Site.Owner, .int .i64 (l[0]).Site.Sub, d2, d3, d4, .int .i64 (l[0]).Click] → LoadP S c1 0 K) ∧
      ∀ (e : GEdit) (by' : Nat) (K : C → Store → Prop), ((l[0]).Edits.length + 1) * by' ≤ 140737488355328 → (l[0]).Edits.length + 1 ≤ 9223372036854775807 →
        (∀ c' S', (∀ K' : Prop, K' → IdxP S' c1 6 0 K') → (∀ K' : Store → Prop, (∀ S'', Drw id S0 S'' → Fr S0.length S'' (ds.set 1 (.sl 6 ((l.set 0 ⟨(l[0]).Site, (l[0]).Base, (l[0]).Edits ++ [e], (l[0]).Hidden, (l[0]).Click⟩).map GTab.d))) cs → K' S'') → StoP S' c1 0 3 [c'] K') → K c' S') → AppP 6 by' S d3 [e.c] K := by
  have ht := take_len hD
  obtain ⟨pcs, c4, hl2, hr2, hc2, hap⟩ := fr_hole (S0 := S.take S0.length) (q := 1) (k := 6) (k2 := 6) (i := 0) (off := 3) (xs := l.map GTab.d) (A := [.x (.int .i64 (l[0]).Site.Owner), .x (.int .i64 (l[0]).Site.Sub), .sl 5 ((l[0]).Base.map GNode.d)])
    (Z := [.sl 1 ((l[0]).Hidden.map dInt), .x (.int .i64 (l[0]).Click)]) (ys := (l[0]).Edits.map GEdit.d) (take_ext S _) (by rw [ht]; exact h) hd hc ⟨by omega, by rw [List.length_map]; exact hl⟩ (by rw [List.getElem?_map]; show Option.map GTab.d l[0]? = _; rw [List.getElem?_eq_getElem hl]; rfl) rfl rfl
  obtain ⟨d2, d3, d4, rfl, _, _, _⟩ := GTab.inv (x := l[0]) hr2
  obtain rfl : d3 = c4 := Option.some.inj hc2
  refine ⟨d2, d3, d4, hl2, fun e by' K hb hm hK => ?_⟩
  refine hap [e.d] [e.c] by' (by rw [rep2_cons]; exact ⟨e.c, [], [], [], rfl, rfl, repL_flat (by exact trivial), by rw [rep2_nil]; exact ⟨rfl, rfl⟩⟩) (by intro y hy; simp at hy; subst hy; rfl) (by simpa using hb) (by simpa using hm) K ?_
  intro c' S' a1 a2 a3 a4
  refine hK c' S' (fun K' hK' => ?_) (fun K' hK' => a4 K' (fun S'' b1 b2 _ => hK' S'' (hD.own b1) ?_))
  · have := hl2 (fun cs => cs.length = 6) rfl
    unfold LoadP at this
    obtain ⟨l', e1, cs1, e2, e3, e4⟩ := this
    unfold IdxP
    exact ⟨l', cs1, by rw [a3]; exact e1, e3, e2, e4, hK'⟩
  · rw [ht] at b2
    rw [List.map_set]
    have e9 : (GTab.d ⟨(l[0]).Site, (l[0]).Base, (l[0]).Edits ++ [e], (l[0]).Hidden, (l[0]).Click⟩) = [.x (.int .i64 (l[0]).Site.Owner), .x (.int .i64 (l[0]).Site.Sub), .sl 5 ((l[0]).Base.map GNode.d)] ++ [.sl 6 ((l[0]).Edits.map GEdit.d ++ [e.d])] ++ [.sl 1 ((l[0]).Hidden.map dInt), .x (.int .i64 (l[0]).Click)] := by
      simp only [GTab.d, List.map_append, List.map_cons, List.map_nil]; rfl
    rw [e9]; exact b2
theorem szLL_setE {α : Type} {f : α → List D} (a : α) : ∀ (l : List α) (i : Nat) (h : i < l.length), szL.szLL ((l.set i a).map f) + szL (f (l[i])) = szL.szLL (l.map f) + szL (f a)
  | x :: l, 0, _ => by rw [List.set_cons_zero, List.map_cons, List.map_cons, szL.szLL, szL.szLL, List.getElem_cons_zero]; omega
  | x :: l, i + 1, h => by
    have := szLL_setE (f := f) a l i (by simpa using h)
    rw [List.set_cons_succ, List.map_cons, List.map_cons, szL.szLL, szL.szLL, List.getElem_cons_succ]; omega
theorem br_szD (b : GBrowser) : szL b.d = b.Tabs.length + szL.szLL (b.Tabs.map GTab.d) + (b.Packs.length + szL.szLL (b.Packs.map GPackage.d) + (b.Grants.length + (b.Limits.length + (b.Rules.length + b.Store.length)))) := by
  simp only [GBrowser.d, szL, List.length_map]
  rw [szLL_flat (f := GGrant.d) (by intro x; simp only [szL, GGrant.d]), szLL_flat (f := GLimit.d) (by intro x; simp only [szL, GLimit.d]), szLL_flat (f := GRule.d) (by intro x; simp only [szL, GRule.d]), szLL_flat (f := GStored.d) (by intro x; simp only [szL, GStored.d])]
  omega
set_option maxHeartbeats 4000000 in
theorem ev_l32Full {id : Nat} {S : Store} (h : Cur id S) : EvA Tryz.prog 200 [.s (.pt id)] S (fun r S' => Drw id S S' ∧ ∃ b : GBrowser, (szL b.d ≤ 200 ∧ 1 ≤ b.Tabs.length ∧ b.Grants.length ≤ 12 ∧ 1 ≤ b.Packs.length) ∧ ∃ c1 c2 c3 c4 c5 c6, r = .v (.agg [.int .i64 b.Key, c1, c2, c3, c4, c5, c6, .int .i64 b.Now]) ∧ Fr S.length S' b.d [.int .i64 b.Key, c1, c2, c3, c4, c5, c6, .int .i64 b.Now]) := by
  have hlt := h.lt
  have hD := Drw.refl h
  have hF : Fr S.length S [] [] := fr_nil
  refine evA_intro tok Tryz.func200 (by kernel_rfl) rfl ?_
  repeat' ((conv => whnf) <;> first
   | rw [wrapI_i64 (by omega)] | refine cD (fun _ => ?_) fun _ => ?_ | refine cE (fun _ => ?_) fun _ => ?_ | refine cT ?_ | refine cF ?_ | refine cN (fun _ => ?_) fun _ => ?_ | refine cI (fun _ => ?_) fun _ => ?_ | refine rI rdA rf ix ?_ | (refine rd_loadm (f := GTab.d) rdA ix ?_; intro _ hcs; obtain ⟨_, _, _, rfl, _, _, _⟩ := GTab.inv hcs) | refine nP ?_ | refine draw_intro 37 [.fl 0, .fl 1, .fl 2, .fl 3, .fl 5, .st 4 [0, 1, 2, 5], .st 6 [0, 1, 2], .st 7 [], .fl 8, .fl 9, .fl 10, .fl 11, .st 12 [10]] (by rfl) (by kernel_rfl) ?_ | refine draw_intro 48 [.fl 0, .fl 1, .fl 2, .fl 3, .fl 4, .fl 5, .fl 6, .fl 7, .fl 8, .fl 9, .fl 10, .fl 11, .st 12 [0, 1], .fl 13, .fl 14, .st 15 []] (by rfl) (by kernel_rfl) ?_ | refine And.intro ?_ ?_)
  (conv => whnf)
  refine callP_intro (ev_l32Draw hD.cur) ?_; rintro _ Sn ⟨hDn, ts, hb, hnb, hts, c1, c2, c3, c4, c5, c6, rfl, hFn⟩
  have hsz0 : szL (newB 5 ts).d ≤ 50 := by
    have := szLL_max (f := GTab.d) (m := 14) (l := ts) fun t ht => by have := hts.2.2 t ht; have := tab_szD t; omega
    rw [newB_sz]; omega
  clear hF hD
  repeat' ((conv => whnf) <;> first
   | rw [wrapI_i64 (by omega)] | refine cD (fun _ => ?_) fun _ => ?_ | refine cE (fun _ => ?_) fun _ => ?_ | refine cT ?_ | refine cF ?_ | refine cN (fun _ => ?_) fun _ => ?_ | refine cI (fun _ => ?_) fun _ => ?_ | refine rI rdA rf ix ?_ | (refine rd_loadm (f := GTab.d) rdA ix ?_; intro _ hcs; obtain ⟨_, _, _, rfl, _, _, _⟩ := GTab.inv hcs) | refine nP ?_ | refine draw_intro 37 [.fl 0, .fl 1, .fl 2, .fl 3, .fl 5, .st 4 [0, 1, 2, 5], .st 6 [0, 1, 2], .st 7 [], .fl 8, .fl 9, .fl 10, .fl 11, .st 12 [10]] (by rfl) (by kernel_rfl) ?_ | refine draw_intro 48 [.fl 0, .fl 1, .fl 2, .fl 3, .fl 4, .fl 5, .fl 6, .fl 7, .fl 8, .fl 9, .fl 10, .fl 11, .st 12 [0, 1], .fl 13, .fl 14, .st 15 []] (by rfl) (by kernel_rfl) ?_ | refine And.intro ?_ ?_)
  refine loop_intro {q : (Int × GBrowser) × Store × (C × C × C × C) // 1 ≤ q.1.1 ∧ Drw id S q.2.1 ∧ q.1.2.Key = 5 ∧ q.1.2.Now = 0 ∧ (szL q.1.2.d : Int) ≤ 50 + 30 * (q.1.1 - 1) ∧ (1 ≤ q.1.2.Tabs.length ∧ (q.1.2.Grants.length : Int) ≤ 3 * (q.1.1 - 1) ∧ (1 < q.1.1 → 1 ≤ q.1.2.Packs.length)) ∧ q.1.1 ≤ 5 ∧ Fr S.length q.2.1 q.1.2.d [.int .i64 5, c1, q.2.2.1, q.2.2.2.1, c4, q.2.2.2.2.1, q.2.2.2.2.2, .int .i64 0]} [3, 4, 5, 8, 9, 10, 11, 12, 13, 14, 15, 16, 17, 18, 19, 20, 21, 22, 23, 24, 25, 26, 27, 28, 29, 30, 31, 32, 33, 34, 35, 36, 37, 38, 39, 40, 41, 42, 43, 44, 45, 46, 47, 48, 49, 50, 51, 52, 53, 54, 55, 56, 57, 58, 59, 60, 61, 62] (fun zb => [(4, .v (.s (.int .i64 zb.1.1.1))), (3, .box [.int .i64 5, c1, zb.1.2.2.1, zb.1.2.2.2.1, c4, zb.1.2.2.2.2.1, zb.1.2.2.2.2.2, .int .i64 0])]) (fun zb => zb.1.2.1) (fun zb => (5 - zb.1.1.1).toNat) ⟨((1, newB 5 ts), _, (_, _, _, _)), by dsimp only; omega, hDn, rfl, rfl, by dsimp only; omega, ⟨hts.1, by simp [newB], fun h => absurd (show (1 : Int) < 1 from h) (by decide)⟩, by dsimp only; omega, hFn⟩ ?_ rfl ?_
  · (conv => whnf); repeat' (first | exact trivial | exact rfl | apply And.intro)
  rintro ⟨⟨⟨e, b⟩, Si, p2, p3, p5, p6⟩, he, hP⟩; dsimp only
  clear hDn hFn
  replace he : 1 ≤ e := he
  obtain ⟨hD, hk5, hn0, hsz, ⟨ht1, hgl, hpl⟩, he5, hF⟩ : Drw id S Si ∧ b.Key = 5 ∧ b.Now = 0 ∧ (szL b.d : Int) ≤ 50 + 30 * (e - 1) ∧ (1 ≤ b.Tabs.length ∧ (b.Grants.length : Int) ≤ 3 * (e - 1) ∧ (1 < e → 1 ≤ b.Packs.length)) ∧ e ≤ 5 ∧ Fr S.length Si b.d [.int .i64 5, c1, p2, p3, c4, p5, p6, .int .i64 0] := hP
  by_cases he3 : e ≤ 3
  · obtain ⟨rows, hrl, hO⟩ := Fr.openAt (o := 2) hF rfl rfl
    have hsz2 := br_szD b
    repeat' ((conv => whnf) <;> first
     | rw [wrapI_i64 (by omega)] | (show CondP _ _ _; refine cS ?_) | refine cD (fun _ => ?_) fun _ => ?_ | refine cE (fun _ => ?_) fun _ => ?_ | refine cT ?_ | refine cF ?_ | refine cN (fun _ => ?_) fun _ => ?_ | refine cI (fun _ => ?_) fun _ => ?_ | refine rI rdA rf ix ?_ | (refine rd_loadm (f := GTab.d) rdA ix ?_; intro _ hcs; obtain ⟨_, _, _, rfl, _, _, _⟩ := GTab.inv hcs) | refine nP ?_ | refine draw_intro 37 [.fl 0, .fl 1, .fl 2, .fl 3, .fl 5, .st 4 [0, 1, 2, 5], .st 6 [0, 1, 2], .st 7 [], .fl 8, .fl 9, .fl 10, .fl 11, .st 12 [10]] (by rfl) (by kernel_rfl) ?_ | refine draw_intro 48 [.fl 0, .fl 1, .fl 2, .fl 3, .fl 4, .fl 5, .fl 6, .fl 7, .fl 8, .fl 9, .fl 10, .fl 11, .st 12 [0, 1], .fl 13, .fl 14, .st 15 []] (by rfl) (by kernel_rfl) ?_ | refine And.intro ?_ ?_)
    all_goals try (exfalso; omega)
    (conv => whnf)
    refine callP_intro (ev_l26Draw e hD.cur) ?_; rintro _ S1 ⟨hDn, p, hpe, hzp, g3, g4, g5, g6, rfl, hFn⟩
    have hJ := hO.joinD hlt hDn hFn hD.len
    replace hD := hD.trans hDn
    clear hDn hFn hO hF
    have hrl2 : rows.length = b.Packs.length := by simpa using congrArg List.length hrl
    repeat' ((conv => whnf) <;> first
     | rw [wrapI_i64 (by omega)] | (show CondP _ _ _; refine cS ?_) | refine cD (fun _ => ?_) fun _ => ?_ | refine cE (fun _ => ?_) fun _ => ?_ | refine cT ?_ | refine cF ?_ | refine cN (fun _ => ?_) fun _ => ?_ | refine cI (fun _ => ?_) fun _ => ?_ | refine rI rdA rf ix ?_ | (refine rd_loadm (f := GTab.d) rdA ix ?_; intro _ hcs; obtain ⟨_, _, _, rfl, _, _, _⟩ := GTab.inv hcs) | refine nP ?_ | refine draw_intro 37 [.fl 0, .fl 1, .fl 2, .fl 3, .fl 5, .st 4 [0, 1, 2, 5], .st 6 [0, 1, 2], .st 7 [], .fl 8, .fl 9, .fl 10, .fl 11, .st 12 [10]] (by rfl) (by kernel_rfl) ?_ | refine draw_intro 48 [.fl 0, .fl 1, .fl 2, .fl 3, .fl 4, .fl 5, .fl 6, .fl 7, .fl 8, .fl 9, .fl 10, .fl 11, .st 12 [0, 1], .fl 13, .fl 14, .st 15 []] (by rfl) (by kernel_rfl) ?_ | refine And.intro ?_ ?_)
    all_goals try (exfalso; omega)
    (conv => whnf)
    refine dappAt (o := 2) (yd := [[.int .i64 p.Ext, .int .i64 p.Author, .int .i64 p.Version, g3, g4, g5, g6, .int .i64 p.Seal]].map (List.map D.x)) hD hJ rfl rfl (plain_rep2 _) (by intro y hy; obtain ⟨z, hz, rfl⟩ := List.mem_map.1 hy; rw [List.mem_singleton.1 hz]; rfl) (by dsimp only [T151, T170, T46, T76]; simp only [List.length_map, List.length_singleton]; omega) (by simp only [List.length_map, List.length_singleton]; omega) ?_; intro cP SP hDP hFP
    have hlen : ∀ (a1 a2 a3 a4 a5 a6 a7 a8 : C) (b1 b2 b3 b4 b5 b6 b7 b8 : D), ([a1, a2, a3, a4, a5, a6, a7, a8] ++ rows.flatten).length = ([b1, b2, b3, b4, b5, b6, b7, b8] ++ (b.Packs.map GPackage.d).flatten).length := fun _ _ _ _ _ _ _ _ _ _ _ _ _ _ _ _ => by
      simp only [List.length_append, List.length_flatten, hrl, List.length_cons, List.length_nil]
    have hP1 : Fr S.length SP (([.x (.int .i64 b.Key), .sl 6 (b.Tabs.map GTab.d), .sl 8 (rows.map (List.map D.x) ++ [[.int .i64 p.Ext, .int .i64 p.Author, .int .i64 p.Version, g3, g4, g5, g6, .int .i64 p.Seal]].map (List.map D.x)), .sl 7 (b.Grants.map GGrant.d), .sl 4 (b.Limits.map GLimit.d), .sl 8 (b.Rules.map GRule.d), .sl 4 (b.Store.map GStored.d), .x (.int .i64 b.Now)] ++ (b.Packs.map GPackage.d).flatten) ++ p.d) (([.int .i64 5, c1, cP, p3, c4, p5, p6, .int .i64 0] ++ rows.flatten) ++ [.int .i64 p.Ext, .int .i64 p.Author, .int .i64 p.Version, g3, g4, g5, g6, .int .i64 p.Seal]) := hFP
    have rg : Rd SP [.sl 7 (p.Grants.map GGrant.d)] [g3] := (Fr.rest hP1 (hlen ..)).rdAt (o := 3) rfl rfl
    clear hFP hJ hD
    repeat' ((conv => whnf) <;> first
     | rw [wrapI_i64 (by omega)] | (show CondP _ _ _; refine cS ?_) | refine cD (fun _ => ?_) fun _ => ?_ | refine cE (fun _ => ?_) fun _ => ?_ | refine cT ?_ | refine cF ?_ | refine cN (fun _ => ?_) fun _ => ?_ | refine cI (fun _ => ?_) fun _ => ?_ | refine rI rdA rf ix ?_ | (refine rd_loadm (f := GTab.d) rdA ix ?_; intro _ hcs; obtain ⟨_, _, _, rfl, _, _, _⟩ := GTab.inv hcs) | refine nP ?_ | refine draw_intro 37 [.fl 0, .fl 1, .fl 2, .fl 3, .fl 5, .st 4 [0, 1, 2, 5], .st 6 [0, 1, 2], .st 7 [], .fl 8, .fl 9, .fl 10, .fl 11, .st 12 [10]] (by rfl) (by kernel_rfl) ?_ | refine draw_intro 48 [.fl 0, .fl 1, .fl 2, .fl 3, .fl 4, .fl 5, .fl 6, .fl 7, .fl 8, .fl 9, .fl 10, .fl 11, .st 12 [0, 1], .fl 13, .fl 14, .st 15 []] (by rfl) (by kernel_rfl) ?_ | (refine rd_elemsf (f := GGrant.d) (l := p.Grants) rg tv (fun _ => ?_)) | refine And.intro ?_ ?_)
    (conv => whnf)
    refine dappF (f := GGrant.d) (o := 3) (l := b.Grants) (m := p.Grants) (fun _ => trivial) hDP hP1 rfl rfl rfl (by intro _; rfl) (by dsimp only [T151, T170, T46, T76]; omega) (by omega) ?_; intro cG SG hDG hFG
    have hG1 : Fr S.length SG (([.x (.int .i64 b.Key), .sl 6 (b.Tabs.map GTab.d), .sl 8 (rows.map (List.map D.x) ++ [[.int .i64 p.Ext, .int .i64 p.Author, .int .i64 p.Version, g3, g4, g5, g6, .int .i64 p.Seal]].map (List.map D.x)), .sl 7 ((b.Grants ++ p.Grants).map GGrant.d), .sl 4 (b.Limits.map GLimit.d), .sl 8 (b.Rules.map GRule.d), .sl 4 (b.Store.map GStored.d), .x (.int .i64 b.Now)] ++ (b.Packs.map GPackage.d).flatten) ++ p.d) (([.int .i64 5, c1, cP, cG, c4, p5, p6, .int .i64 0] ++ rows.flatten) ++ [.int .i64 p.Ext, .int .i64 p.Author, .int .i64 p.Version, g3, g4, g5, g6, .int .i64 p.Seal]) := hFG
    have rr : Rd SG [.sl 8 (p.Rules.map GRule.d)] [g5] := (Fr.rest hG1 (hlen ..)).rdAt (o := 5) rfl rfl
    clear hFG hP1 rg hDP
    repeat' ((conv => whnf) <;> first
     | rw [wrapI_i64 (by omega)] | (show CondP _ _ _; refine cS ?_) | refine cD (fun _ => ?_) fun _ => ?_ | refine cE (fun _ => ?_) fun _ => ?_ | refine cT ?_ | refine cF ?_ | refine cN (fun _ => ?_) fun _ => ?_ | refine cI (fun _ => ?_) fun _ => ?_ | refine rI rdA rf ix ?_ | (refine rd_loadm (f := GTab.d) rdA ix ?_; intro _ hcs; obtain ⟨_, _, _, rfl, _, _, _⟩ := GTab.inv hcs) | refine nP ?_ | refine draw_intro 37 [.fl 0, .fl 1, .fl 2, .fl 3, .fl 5, .st 4 [0, 1, 2, 5], .st 6 [0, 1, 2], .st 7 [], .fl 8, .fl 9, .fl 10, .fl 11, .st 12 [10]] (by rfl) (by kernel_rfl) ?_ | refine draw_intro 48 [.fl 0, .fl 1, .fl 2, .fl 3, .fl 4, .fl 5, .fl 6, .fl 7, .fl 8, .fl 9, .fl 10, .fl 11, .st 12 [0, 1], .fl 13, .fl 14, .st 15 []] (by rfl) (by kernel_rfl) ?_ | (refine rd_elemsf (f := GRule.d) (l := p.Rules) rr tv (fun _ => ?_)) | refine And.intro ?_ ?_)
    (conv => whnf)
    refine dappF (f := GRule.d) (o := 5) (l := b.Rules) (m := p.Rules) (fun _ => trivial) hDG hG1 rfl rfl rfl (by intro _; rfl) (by dsimp only [T151, T170, T46, T76]; omega) (by omega) ?_; intro cR SR hDR hFR
    have hR1 : Fr S.length SR (([.x (.int .i64 b.Key), .sl 6 (b.Tabs.map GTab.d), .sl 8 (rows.map (List.map D.x) ++ [[.int .i64 p.Ext, .int .i64 p.Author, .int .i64 p.Version, g3, g4, g5, g6, .int .i64 p.Seal]].map (List.map D.x)), .sl 7 ((b.Grants ++ p.Grants).map GGrant.d), .sl 4 (b.Limits.map GLimit.d), .sl 8 ((b.Rules ++ p.Rules).map GRule.d), .sl 4 (b.Store.map GStored.d), .x (.int .i64 b.Now)] ++ (b.Packs.map GPackage.d).flatten) ++ p.d) (([.int .i64 5, c1, cP, cG, c4, cR, p6, .int .i64 0] ++ rows.flatten) ++ [.int .i64 p.Ext, .int .i64 p.Author, .int .i64 p.Version, g3, g4, g5, g6, .int .i64 p.Seal]) := hFR
    clear hFR hG1 rr hDG
    repeat' ((conv => whnf) <;> first
     | rw [wrapI_i64 (by omega)] | (show CondP _ _ _; refine cS ?_) | refine cD (fun _ => ?_) fun _ => ?_ | refine cE (fun _ => ?_) fun _ => ?_ | refine cT ?_ | refine cF ?_ | refine cN (fun _ => ?_) fun _ => ?_ | refine cI (fun _ => ?_) fun _ => ?_ | refine rI rdA rf ix ?_ | (refine rd_loadm (f := GTab.d) rdA ix ?_; intro _ hcs; obtain ⟨_, _, _, rfl, _, _, _⟩ := GTab.inv hcs) | refine nP ?_ | refine draw_intro 37 [.fl 0, .fl 1, .fl 2, .fl 3, .fl 5, .st 4 [0, 1, 2, 5], .st 6 [0, 1, 2], .st 7 [], .fl 8, .fl 9, .fl 10, .fl 11, .st 12 [10]] (by rfl) (by kernel_rfl) ?_ | refine draw_intro 48 [.fl 0, .fl 1, .fl 2, .fl 3, .fl 4, .fl 5, .fl 6, .fl 7, .fl 8, .fl 9, .fl 10, .fl 11, .st 12 [0, 1], .fl 13, .fl 14, .st 15 []] (by rfl) (by kernel_rfl) ?_ | refine And.intro ?_ ?_)
    (conv => whnf)
    refine callP_intro (ev_l1Below _ hDR.cur) ?_; rintro _ S4 ⟨hDn, x4, hx4, rfl⟩
    replace hR1 := hR1.drw hlt hDn
    replace hDR := hDR.trans hDn
    clear hDn
    repeat' ((conv => whnf) <;> first
     | rw [wrapI_i64 (by omega)] | (show CondP _ _ _; refine cS ?_) | refine cD (fun _ => ?_) fun _ => ?_ | refine cE (fun _ => ?_) fun _ => ?_ | refine cT ?_ | refine cF ?_ | refine cN (fun _ => ?_) fun _ => ?_ | refine cI (fun _ => ?_) fun _ => ?_ | refine rI rdA rf ix ?_ | (refine rd_loadm (f := GTab.d) rdA ix ?_; intro _ hcs; obtain ⟨_, _, _, rfl, _, _, _⟩ := GTab.inv hcs) | refine nP ?_ | refine draw_intro 37 [.fl 0, .fl 1, .fl 2, .fl 3, .fl 5, .st 4 [0, 1, 2, 5], .st 6 [0, 1, 2], .st 7 [], .fl 8, .fl 9, .fl 10, .fl 11, .st 12 [10]] (by rfl) (by kernel_rfl) ?_ | refine draw_intro 48 [.fl 0, .fl 1, .fl 2, .fl 3, .fl 4, .fl 5, .fl 6, .fl 7, .fl 8, .fl 9, .fl 10, .fl 11, .st 12 [0, 1], .fl 13, .fl 14, .st 15 []] (by rfl) (by kernel_rfl) ?_ | refine And.intro ?_ ?_)
    (conv => whnf)
    refine callP_intro (ev_l1Below _ hDR.cur) ?_; rintro _ S5 ⟨hDn, x5, hx5, rfl⟩
    replace hR1 := hR1.drw hlt hDn
    replace hDR := hDR.trans hDn
    clear hDn
    have rs : Rd S5 [.sl 4 (b.Store.map GStored.d)] [p6] := hR1.rdAt (o := 6) rfl rfl
    repeat' ((conv => whnf) <;> first
     | rw [wrapI_i64 (by omega)] | (show CondP _ _ _; refine cS ?_) | refine cD (fun _ => ?_) fun _ => ?_ | refine cE (fun _ => ?_) fun _ => ?_ | refine cT ?_ | refine cF ?_ | refine cN (fun _ => ?_) fun _ => ?_ | refine cI (fun _ => ?_) fun _ => ?_ | refine rI rdA rf ix ?_ | (refine rd_loadm (f := GTab.d) rdA ix ?_; intro _ hcs; obtain ⟨_, _, _, rfl, _, _, _⟩ := GTab.inv hcs) | refine nP ?_ | refine draw_intro 37 [.fl 0, .fl 1, .fl 2, .fl 3, .fl 5, .st 4 [0, 1, 2, 5], .st 6 [0, 1, 2], .st 7 [], .fl 8, .fl 9, .fl 10, .fl 11, .st 12 [10]] (by rfl) (by kernel_rfl) ?_ | refine draw_intro 48 [.fl 0, .fl 1, .fl 2, .fl 3, .fl 4, .fl 5, .fl 6, .fl 7, .fl 8, .fl 9, .fl 10, .fl 11, .st 12 [0, 1], .fl 13, .fl 14, .st 15 []] (by rfl) (by kernel_rfl) ?_ | refine And.intro ?_ ?_)
    (conv => whnf)
    refine callP_intro (ev_sPutStored b.Store e x4 x5 _ _ rs (by omega)) ?_; rintro _ S6 ⟨e6, ms, ok, hms, cS, rfl, fS⟩
    have hS1 : Fr S.length S6 (([.x (.int .i64 b.Key), .sl 6 (b.Tabs.map GTab.d), .sl 8 (rows.map (List.map D.x) ++ [[.int .i64 p.Ext, .int .i64 p.Author, .int .i64 p.Version, g3, g4, g5, g6, .int .i64 p.Seal]].map (List.map D.x)), .sl 7 ((b.Grants ++ p.Grants).map GGrant.d), .sl 4 (b.Limits.map GLimit.d), .sl 8 ((b.Rules ++ p.Rules).map GRule.d), .sl 4 (ms.map GStored.d), .x (.int .i64 b.Now)] ++ (b.Packs.map GPackage.d).flatten) ++ p.d) (([.int .i64 5, c1, cP, cG, c4, cR, cS, .int .i64 0] ++ rows.flatten) ++ [.int .i64 p.Ext, .int .i64 p.Author, .int .i64 p.Version, g3, g4, g5, g6, .int .i64 p.Seal]) := Fr.putLast (o := 6) (hR1.join e6 fS hDR.len) (by simp only [List.length_append, List.length_flatten, hrl, List.length_cons, List.length_nil]; rfl) (by rw [List.length_append, List.length_append]; show 6 < 8 + _ + _; omega)
    have hD6 := hDR.ext e6
    clear hR1 rs fS hDR
    obtain ⟨d2, d3, d4, hld, hap⟩ := tab_holeD hD6 hS1 rfl rfl ht1
    have rt : Rd S6 [.sl 6 (b.Tabs.map GTab.d)] [c1] := hS1.rdAt (o := 1) rfl rfl
    have hi00 : 0 ≤ (0 : Int) ∧ (0 : Int).toNat < b.Tabs.length := ⟨Int.le_refl _, ht1⟩
    have hzt0 := szLL_mem (f := GTab.d) (List.getElem_mem (show 0 < b.Tabs.length from ht1))
    have hzt1 := tab_szD (b.Tabs[0])
    repeat' ((conv => whnf) <;> first
     | (refine hld _ ?_) | rw [wrapI_i64 (by omega)] | (show CondP _ _ _; refine cS ?_) | refine cD (fun _ => ?_) fun _ => ?_ | refine cE (fun _ => ?_) fun _ => ?_ | refine cT ?_ | refine cF ?_ | refine cN (fun _ => ?_) fun _ => ?_ | refine cI (fun _ => ?_) fun _ => ?_ | refine rI rdA rf ix ?_ | (refine rd_loadm (f := GTab.d) rdA ix ?_; intro _ hcs; obtain ⟨_, _, _, rfl, _, _, _⟩ := GTab.inv hcs) | refine nP ?_ | refine draw_intro 37 [.fl 0, .fl 1, .fl 2, .fl 3, .fl 5, .st 4 [0, 1, 2, 5], .st 6 [0, 1, 2], .st 7 [], .fl 8, .fl 9, .fl 10, .fl 11, .st 12 [10]] (by rfl) (by kernel_rfl) ?_ | refine draw_intro 48 [.fl 0, .fl 1, .fl 2, .fl 3, .fl 4, .fl 5, .fl 6, .fl 7, .fl 8, .fl 9, .fl 10, .fl 11, .st 12 [0, 1], .fl 13, .fl 14, .st 15 []] (by rfl) (by kernel_rfl) ?_ | (refine rI rt rf hi00 ?_) | (refine hap ⟨1, 20 + e, 0, 1, 0, e⟩ _ _ (by dsimp only [T151, T170, T46, T76]; omega) om ?_; intro cE SE hIx hSt) | (refine hIx _ ?_) | (refine hSt _ ?_; intro S9 hD9 hF9) | refine And.intro ?_ ?_)
    (conv => whnf)
    refine callP_intro (ev_l1Below _ hD9.cur) ?_; rintro _ S10 ⟨hDn, x6, hx6, rfl⟩
    replace hF9 := hF9.drw hlt hDn
    replace hD9 := hD9.trans hDn
    clear hDn
    repeat' ((conv => whnf) <;> first
     | rw [wrapI_i64 (by omega)] | (show CondP _ _ _; refine cS ?_) | refine cD (fun _ => ?_) fun _ => ?_ | refine cE (fun _ => ?_) fun _ => ?_ | refine cT ?_ | refine cF ?_ | refine cN (fun _ => ?_) fun _ => ?_ | refine cI (fun _ => ?_) fun _ => ?_ | (refine callP_intro (ev_l1Below _ hD.cur) ?_; rintro _ Sn ⟨hDn, xn, hxn, rfl⟩; replace hF := hF.drw hlt hDn; replace hD := hD.trans hDn; clear hDn) | (refine callP_intro (ev_l32Draw hD.cur) ?_; rintro _ Sn ⟨hDn, tn, htn, hbzn, hzn, _, _, _, _, _, _, rfl, hFn⟩; replace hF := hF.joinD hlt hDn hFn hD.len; replace hD := hD.trans hDn; clear hDn hFn) | (refine callP_intro (ev_l11List hD.cur) ?_; rintro _ Sn ⟨hDn, ln, hln, hzn, cn, rfl, hFn⟩; replace hF := hF.joinD hlt hDn hFn hD.len; replace hD := hD.trans hDn; clear hDn hFn) | (refine callP_intro (ev_l26Draw _ hD.cur) ?_; rintro _ Sn ⟨hDn, pn, hen, hzn, _, _, _, _, rfl, hFn⟩; replace hF := hF.joinD hlt hDn hFn hD.len; replace hD := hD.trans hDn; clear hDn hFn) | (refine callP_intro (ev_sPutStored _ _ _ _ _ _ rdA om) ?_; rintro _ Sn ⟨hEn, mn, bn, hmn, cn, rfl, hFn⟩) | refine rI rdA rf ix ?_ | (refine rd_loadm (f := GTab.d) rdA ix ?_; intro _ hcs; obtain ⟨_, _, _, rfl, _, _, _⟩ := GTab.inv hcs) | refine nP ?_ | refine draw_intro 37 [.fl 0, .fl 1, .fl 2, .fl 3, .fl 5, .st 4 [0, 1, 2, 5], .st 6 [0, 1, 2], .st 7 [], .fl 8, .fl 9, .fl 10, .fl 11, .st 12 [10]] (by rfl) (by kernel_rfl) ?_ | refine draw_intro 48 [.fl 0, .fl 1, .fl 2, .fl 3, .fl 4, .fl 5, .fl 6, .fl 7, .fl 8, .fl 9, .fl 10, .fl 11, .st 12 [0, 1], .fl 13, .fl 14, .st 15 []] (by rfl) (by kernel_rfl) ?_ | refine And.intro ?_ ?_)
    have e1 : ((b.Packs ++ [p]).map GPackage.d).flatten = (b.Packs.map GPackage.d).flatten ++ p.d := by simp
    have e2 : (rows ++ [[.int .i64 p.Ext, .int .i64 p.Author, .int .i64 p.Version, g3, g4, g5, g6, .int .i64 p.Seal]]).flatten = rows.flatten ++ [.int .i64 p.Ext, .int .i64 p.Author, .int .i64 p.Version, g3, g4, g5, g6, .int .i64 p.Seal] := by simp
    have hC := Fr.closeAt (o := 2) (k := 8) (ds := [.x (.int .i64 b.Key), .sl 6 ((b.Tabs.set 0 ⟨(b.Tabs[0]).Site, (b.Tabs[0]).Base, (b.Tabs[0]).Edits ++ [⟨1, 20 + e, 0, 1, 0, e⟩], (b.Tabs[0]).Hidden, (b.Tabs[0]).Click⟩).map GTab.d), .sl 8 (rows.map (List.map D.x) ++ [[.int .i64 p.Ext, .int .i64 p.Author, .int .i64 p.Version, g3, g4, g5, g6, .int .i64 p.Seal]].map (List.map D.x)), .sl 7 ((b.Grants ++ p.Grants).map GGrant.d), .sl 4 (b.Limits.map GLimit.d), .sl 8 ((b.Rules ++ p.Rules).map GRule.d), .sl 4 (ms.map GStored.d), .x (.int .i64 b.Now)]) (cs := [.int .i64 5, c1, cP, cG, c4, cR, cS, .int .i64 0]) (xs := (b.Packs ++ [p]).map GPackage.d) (rows := rows ++ [[.int .i64 p.Ext, .int .i64 p.Author, .int .i64 p.Version, g3, g4, g5, g6, .int .i64 p.Seal]]) (c := cP) (by rw [e1, e2, ← List.append_assoc, ← List.append_assoc]; exact hF9) rfl (by rw [show (rows ++ [[.int .i64 p.Ext, .int .i64 p.Author, .int .i64 p.Version, g3, g4, g5, g6, .int .i64 p.Seal]]).map (List.map D.x) = rows.map (List.map D.x) ++ [[.int .i64 p.Ext, .int .i64 p.Author, .int .i64 p.Version, g3, g4, g5, g6, .int .i64 p.Seal]].map (List.map D.x) from List.map_append]; rfl) rfl (by rw [List.map_append, List.map_append, List.map_append, hrl]; rfl)
    refine ⟨⟨((e + 1 + x6, ⟨b.Key, (b.Tabs.set 0 ⟨(b.Tabs[0]).Site, (b.Tabs[0]).Base, (b.Tabs[0]).Edits ++ [⟨1, 20 + e, 0, 1, 0, e⟩], (b.Tabs[0]).Hidden, (b.Tabs[0]).Click⟩), b.Packs ++ [p], b.Grants ++ p.Grants, b.Limits, b.Rules ++ p.Rules, ms, b.Now⟩), S10, (cP, cG, cR, cS)), by dsimp only; omega, hD9, hk5, hn0, ?_, ⟨by dsimp only; rw [List.length_set]; exact ht1, by dsimp only; rw [List.length_append]; omega, fun _ => by dsimp only; rw [List.length_append, List.length_singleton]; omega⟩, by have := hx6.2.2.1 (by omega); dsimp only; omega, hC⟩, ?_, rfl, by dsimp only; omega⟩
    · have hq : szL.szLL ((b.Packs ++ [p]).map GPackage.d) = szL.szLL (b.Packs.map GPackage.d) + szL p.d := by rw [List.map_append, szLL_app, List.map_cons, List.map_nil, szL.szLL, szL.szLL]; omega
      have hs1 := szLL_setE (f := GTab.d) ⟨(b.Tabs[0]).Site, (b.Tabs[0]).Base, (b.Tabs[0]).Edits ++ [⟨1, 20 + e, 0, 1, 0, e⟩], (b.Tabs[0]).Hidden, (b.Tabs[0]).Click⟩ b.Tabs 0 ht1
      have hs2 := tab_szD ⟨(b.Tabs[0]).Site, (b.Tabs[0]).Base, (b.Tabs[0]).Edits ++ [⟨1, 20 + e, 0, 1, 0, e⟩], (b.Tabs[0]).Hidden, (b.Tabs[0]).Click⟩
      have hs3 := pk_szD p
      have hs4 := hms.1
      simp only [List.length_append, List.length_singleton] at hs2
      dsimp only
      rw [br_szD]
      simp only [List.length_set, List.length_append, List.length_singleton, hq]
      omega
    · (conv => whnf); repeat' (first | exact trivial | exact rfl | apply And.intro)
  repeat' ((conv => whnf) <;> first
   | rw [wrapI_i64 (by omega)] | (show CondP _ _ _; refine cS ?_) | refine cD (fun _ => ?_) fun _ => ?_ | refine cE (fun _ => ?_) fun _ => ?_ | refine cT ?_ | refine cF ?_ | refine cN (fun _ => ?_) fun _ => ?_ | refine cI (fun _ => ?_) fun _ => ?_ | (refine callP_intro (ev_l1Below _ hD.cur) ?_; rintro _ Sn ⟨hDn, xn, hxn, rfl⟩; replace hF := hF.drw hlt hDn; replace hD := hD.trans hDn; clear hDn) | (refine callP_intro (ev_l32Draw hD.cur) ?_; rintro _ Sn ⟨hDn, tn, htn, hbzn, hzn, _, _, _, _, _, _, rfl, hFn⟩; replace hF := hF.joinD hlt hDn hFn hD.len; replace hD := hD.trans hDn; clear hDn hFn) | (refine callP_intro (ev_l11List hD.cur) ?_; rintro _ Sn ⟨hDn, ln, hln, hzn, cn, rfl, hFn⟩; replace hF := hF.joinD hlt hDn hFn hD.len; replace hD := hD.trans hDn; clear hDn hFn) | (refine callP_intro (ev_l26Draw _ hD.cur) ?_; rintro _ Sn ⟨hDn, pn, hen, hzn, _, _, _, _, rfl, hFn⟩; replace hF := hF.joinD hlt hDn hFn hD.len; replace hD := hD.trans hDn; clear hDn hFn) | (refine callP_intro (ev_sPutStored _ _ _ _ _ _ rdA om) ?_; rintro _ Sn ⟨hEn, mn, bn, hmn, cn, rfl, hFn⟩) | refine rI rdA rf ix ?_ | (refine rd_loadm (f := GTab.d) rdA ix ?_; intro _ hcs; obtain ⟨_, _, _, rfl, _, _, _⟩ := GTab.inv hcs) | refine nP ?_ | refine draw_intro 37 [.fl 0, .fl 1, .fl 2, .fl 3, .fl 5, .st 4 [0, 1, 2, 5], .st 6 [0, 1, 2], .st 7 [], .fl 8, .fl 9, .fl 10, .fl 11, .st 12 [10]] (by rfl) (by kernel_rfl) ?_ | refine draw_intro 48 [.fl 0, .fl 1, .fl 2, .fl 3, .fl 4, .fl 5, .fl 6, .fl 7, .fl 8, .fl 9, .fl 10, .fl 11, .st 12 [0, 1], .fl 13, .fl 14, .st 15 []] (by rfl) (by kernel_rfl) ?_ | refine And.intro ?_ ?_)
  all_goals first
    | exact hD
    | (exfalso; omega)
    | skip
  have hq := (hF.putLast (o := 4) rfl (by show 4 < 8; decide)).setX (o := 7) (c' := .int .i64 xn) (by show 7 < 8; decide)
  refine ⟨⟨b.Key, b.Tabs, b.Packs, b.Grants, ln, b.Rules, b.Store, xn⟩, ⟨?_, ht1, by dsimp only; omega, hpl (by omega)⟩, c1, p2, p3, cn, p5, p6, by dsimp only; rw [hk5]; rfl, by rw [← hk5] at hq; exact hq⟩
  have hs1 := br_szD b
  rw [br_szD]; dsimp only; omega
end Go.Proofs.YtockphlpokoohaaGreat
