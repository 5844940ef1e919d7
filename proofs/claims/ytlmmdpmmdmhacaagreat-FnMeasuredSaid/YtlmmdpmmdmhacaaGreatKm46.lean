/- A text of the proof. A text of the proof. A text of the proof. -/
import Derived.Test.YtlmmdpmmdmhacaaGreatKm44
import Derived.Test.YtlmmdpmmdmhacaaGreatKm45
import Derived.Test.YtlmmdpmmdmhacaaGreatKm33
import Derived.Test.YtlmmdpmmdmhacaaGreatKm37
namespace Go.Proofs.YtlmmdpmmdmhacaaGreat
open Go Go.ChangeShapes Go.WideShapes Go.ChangeAt Go.RowKit
set_option linter.unusedVariables false
set_option linter.unusedSimpArgs false
set_option maxRecDepth 100000
theorem hidGo_at (m : List Int) : ∀ (l : List Int) (i : Nat), hidGo m l i = true → ∀ (j : Nat) (h : j < l.length), okHid m l[j] (i + j) = true
  | [], _, _, j, h => absurd h (by simp)
  | p :: r, i, hg, j, h => by
    rw [hidGo] at hg
    split at hg
    · rename_i hp
      match j, h with
      | 0, _ => exact hp
      | j + 1, h =>
        have := hidGo_at m r (i + 1) hg j (by simpa using h)
        rw [show i + (j + 1) = i + 1 + j from by omega]; exact this
    · cases hg
theorem hid_len {l : List Int} (h : hidGo l l 0 = true) : l.length ≤ 10 := by
  have h1 := hidGo_at l l 0 h
  have hj : ∀ (j : Nat) (hj : j < l.length), (j : Int) ≤ l[j] ∧ l[j] ≤ 9 := fun j => by
    induction j with
    | zero =>
      intro hj
      have h2 := h1 0 hj
      rw [Nat.zero_add, okHid_zero] at h2
      have := inR_t h2
      omega
    | succ j ih =>
      intro hj
      have h3 := ih (by omega)
      have h2 := h1 (j + 1) hj
      rw [Nat.zero_add, okHid_pos (by omega) (by omega), Bool.and_eq_true, decide_eq_true_eq] at h2
      have h4 := inR_t h2.1
      have h5 := h2.2
      simp only [Nat.add_sub_cancel] at h5
      omega
  rcases Nat.lt_or_ge 10 l.length with h | h
  · have := hj 10 h; omega
  · exact h
theorem tab_sz66 {t : GTab} (h : TabOk t) : szL t.d ≤ 66 := by
  have h1 := tab_szD t
  have h2 := hid_len h.hid
  have h3 := h.len
  have h4 := h.doc
  unfold isDoc at h4
  simp only [Bool.and_eq_true, decide_eq_true_eq] at h4
  omega
theorem pk_sz34 {key : Int} {p : GPackage} (h : isSealed key p = true) : szL p.d ≤ 34 := by
  unfold isSealed isPackage pack0 areOps at h
  simp only [Bool.and_eq_true, decide_eq_true_eq] at h
  have h1 := pk_szD p
  omega
theorem BrOk.sz {b : GBrowser} (h : BrOk b) : szL b.d ≤ 500 := by
  have h1 := br_szD b
  have h2 : szL.szLL (b.Tabs.map GTab.d) ≤ b.Tabs.length * 66 := szLL_max fun t ht => tab_sz66 (h.tabs t ht)
  have h3 : szL.szLL (b.Packs.map GPackage.d) ≤ b.Packs.length * 34 := szLL_max fun p hp => pk_sz34 (h.sld p hp)
  have h4 := h.fair
  unfold isFair at h4
  rw [Bool.and_eq_true, decide_eq_true_eq] at h4
  have h5 := (store_iff.1 h.store).len
  have := h.tl; have := h.pl; have := h.gl; have := h.ll
  omega
def NoBy (b : GBrowser) : Prop := ∀ t ∈ b.Tabs, ∀ n ∈ t.Base, n.By = 0
structure DrOk (b : GBrowser) : Prop where
  ok : BrOk b
  nb : NoBy b
theorem NoBy.set {b : GBrowser} (h : NoBy b) {i : Nat} {t : GTab} (ht : ∀ n ∈ t.Base, n.By = 0) : NoBy { b with Tabs := b.Tabs.set i t } := fun x hx => by
  rcases List.mem_or_eq_of_mem_set hx with hx | rfl
  · exact h x hx
  · exact ht
theorem stepLimit_dr {b : GBrowser} (h : DrOk b) (x : GLimit) : DrOk (stepLimit b x).1 := ⟨stepLimit_ok h.ok x, by unfold stepLimit; split <;> exact h.nb⟩
theorem stepTick_dr {b : GBrowser} (h : DrOk b) (n : Int) : DrOk (stepTick b n).1 := ⟨stepTick_ok h.ok n, by unfold stepTick; split <;> exact h.nb⟩
theorem stepInstall_dr {b : GBrowser} (h : DrOk b) (p : GPackage) : DrOk (stepInstall b p).1 := ⟨stepInstall_ok h.ok p, by unfold stepInstall; split <;> exact h.nb⟩
theorem stepUpdate_dr {b : GBrowser} (h : DrOk b) (p : GPackage) (c : Bool) : DrOk (stepUpdate b p c).1 := ⟨stepUpdate_ok h.ok p c, by unfold stepUpdate; split <;> exact h.nb⟩
theorem stepRemove_dr {b : GBrowser} (h : DrOk b) (ext : Int) : DrOk (stepRemove b ext).1 := ⟨stepRemove_ok h.ok ext, by
  unfold stepRemove
  split
  · intro t ht
    obtain ⟨t0, h0, rfl⟩ := List.mem_map.1 ht
    exact h.nb t0 h0
  · exact h.nb⟩
theorem stepClick_dr {b : GBrowser} (h : DrOk b) (tab ext : Int) : DrOk (stepClick b tab ext).1 := ⟨stepClick_ok h.ok tab ext, by
  unfold stepClick
  split
  · rename_i ht
    obtain ⟨hi, he⟩ := tabOf_at ht
    have : NoBy (clickTab b tab) := by
      unfold clickTab
      exact h.nb.set fun n hn => h.nb _ (List.getElem_mem hi) n (by rw [he] at hn; exact hn)
    dsimp only
    split <;> exact this
  · exact h.nb⟩
theorem stepGo_dr {b : GBrowser} (h : DrOk b) (tab : Int) (s : GSite) : DrOk (stepGo b tab s).1 := ⟨stepGo_ok h.ok tab s, by
  unfold stepGo
  split
  · refine NoBy.set (b := { b with Grants := b.Grants.filter (notEnd (tabOf b tab).Site) }) h.nb fun n hn => ?_
    unfold goTab openTab at hn
    split at hn
    · rcases List.mem_cons.1 hn with rfl | hn
      · rfl
      · cases hn
    · cases hn
  · exact h.nb⟩
theorem appendEd_nb {b : GBrowser} (h : NoBy b) (tab : Int) (e : GEdit) (hi : 0 ≤ tab ∧ tab.toNat < b.Tabs.length) : NoBy (appendEd b tab e).1 := by
  unfold appendEd
  split
  · obtain ⟨hx, hm⟩ := tabX_mem hi
    show NoBy (putEdit b tab e)
    unfold putEdit
    exact h.set fun n hn => h _ hm n (by rw [hx] at hn; exact hn)
  · exact h
theorem pageEdit_dr {b : GBrowser} (h : DrOk b) (tab : Int) (e : GEdit) : DrOk (pageEdit b tab e).1 := ⟨pageEdit_ok h.ok tab e, by
  unfold pageEdit
  split
  · rename_i ht
    have := inR_t ht
    exact appendEd_nb h.nb _ _ (by omega)
  · exact h.nb⟩
theorem writeTab_dr {b : GBrowser} (h : DrOk b) (ext tab : Int) (e : GEdit) : DrOk (writeTab b ext tab e).1 := ⟨writeTab_ok h.ok ext tab e, by
  unfold writeTab
  split
  · rename_i hk
    rw [Bool.and_eq_true] at hk
    exact appendEd_nb h.nb _ _ (mayAct_in hk.1)
  · exact h.nb⟩
def StPut (b : GBrowser) (ext : Int) (ss : List GStored) (ok : Bool) : Prop := (ok = false → ss = b.Store) ∧ (ok = true → isStore ss = true ∧ (∀ y ∈ ss, y ∈ b.Store ∨ y.Ext = ext) ∧ ext ∈ exts b)
theorem stPut_dr {b : GBrowser} (h : DrOk b) {ext : Int} {ss : List GStored} {ok : Bool} (hp : StPut b ext ss ok) : DrOk { b with Store := ss } := by
  cases ok with
  | false => rw [hp.1 rfl]; exact h
  | true =>
    obtain ⟨h1, h2, h3⟩ := hp.2 rfl
    exact ⟨h.ok.store' h1 fun x hx => (h2 x hx).elim (h.ok.sex x) fun e => by rw [e]; exact h3, h.nb⟩
theorem newB_dr {ts : List GTab} (h : isBrowser (newB 5 ts) = true) (hn : ∀ t ∈ ts, ∀ n ∈ t.Base, n.By = 0) : DrOk (newB 5 ts) := ⟨br_iff.1 h, hn⟩
end Go.Proofs.YtlmmdpmmdmhacaaGreat
namespace Go.Proofs.YtlmmdpmmdmhacaaGreat
open Go Go.ChangeShapes Go.WideShapes Go.ChangeAt Go.RowKit
set_option linter.unusedVariables false
set_option linter.unusedSimpArgs false
set_option maxRecDepth 100000
theorem getI_zero (i : Int) : getI zeros6 i = 0 := by
  unfold getI
  rcases h : i.toNat with _ | _ | _ | _ | _ | _ | _ <;> rfl
theorem needs_few {l : List GOp} (ext : Int) (h : l.length ≤ 1) : needs l ext = [] := by
  unfold needs
  split
  · match l, h with
    | [], _ => rfl
    | [o], _ =>
      show (([] : List GSent) ++ opS o zeros6 zeros6).foldl (addFs ext) [] = []
      unfold opS
      split
      · rename_i hk
        have hl : (sentOf o zeros6 zeros6).Label = 0 := by
          unfold sentOf; rw [if_pos hk]
          exact getI_zero o.A
        show addFs ext [] (sentOf o zeros6 zeros6) = []
        unfold addFs
        rw [hl]; rfl
      · rfl
  · rfl
theorem needs_len (l : List GOp) (ext : Int) : (needs l ext).length ≤ 144 := by
  unfold needs
  split
  · rename_i ho
    have h1 := foldFs_len ext (mach [] l).1 []
    have h2 := mach_len [] ho
    simp only [List.length_nil] at h1
    omega
  · exact Nat.zero_le _
theorem rd_slie {S : Store} {α : Type} {f : α → List D} {k n : Nat} {l : List α} {c : C} {lo hi : Int} {K : C → Prop} (h : Rd S [.sl k (l.map f)] [c]) (hk : ∀ x, (f x).length = n) (h0 : 0 ≤ lo ∧ lo ≤ hi ∧ hi ≤ l.length) (hK : K (cutC c lo hi)) : SliP S c n lo hi K := by
  have h2 := rd_slif (K := fun _ => True) h hk h0 (fun _ _ => trivial)
  unfold SliP at h2 ⊢
  obtain ⟨xs, a1, a2, a3, a4, a5, _⟩ := h2
  exact ⟨xs, a1, a2, a3, a4, a5, hK⟩
theorem rd_cut2 {S : Store} {α : Type} {f : α → List D} {k : Nat} {l : List α} {c : C} (h : Rd S [.sl k (l.map f)] [c]) (h0 : 2 ≤ l.length) : Rd S [.sl k ((l.take 2).map f)] [cutC c 0 2] := by
  have := rd_cut (lo := 0) (hi := 2) h ⟨Int.le_refl _, by decide, by rw [List.length_map]; omega⟩
  rw [← List.map_drop, ← List.map_take] at this
  exact this
theorem pk_parts {S : Store} {e a v z : Int} {gs : List GGrant} {fl : List GFlow} {rs : List GRule} {ops : List GOp} {cG cF cR co : C} (h : Rd S (GPackage.mk e a v gs fl rs ops z).d [.int .i64 e, .int .i64 a, .int .i64 v, cG, cF, cR, co, .int .i64 z]) :
    Rd S [.sl 7 (gs.map GGrant.d)] [cG] ∧ Rd S [.sl 3 (fl.map GFlow.d)] [cF] ∧ Rd S [.sl 8 (rs.map GRule.d)] [cR] ∧ Rd S [.sl 4 (ops.map GOp.d)] [co] := by
  obtain ⟨_, _, _, _, he, h1, h2, h3, h4⟩ := GPackage.inv h
  simp only [List.cons.injEq, true_and, and_true] at he
  obtain ⟨rfl, rfl, rfl, rfl⟩ := he
  exact ⟨h1, h2, h3, h4⟩
theorem gr_at {l : List GGrant} {i : Int} (h : 0 ≤ i ∧ i.toNat < l.length) : (l.map GGrant.d)[i.toNat]? = some (l[i.toNat]'h.2).d := by simp [h.2]
abbrev pkFine (ext x1 x2 : Int) (gs : List GGrant) (fl : List GFlow) (rs : List GRule) (ops : List GOp) : GPackage := GPackage.mk ext (1 + x1) (1 + x2) gs fl rs ops 0
set_option maxHeartbeats 4000000 in
theorem ev_l27Fine {id : Nat} {S : Store} (ext : Int) (h : Cur id S) : EvA Tryz.prog 89 [.s (.pt id), .s (.int .i64 ext)] S (fun r S' => Drw id S S' ∧ ∃ p : GPackage, p.Ext = ext ∧ (p.Grants.length ≤ 4 ∧ p.Flows.length ≤ 144 ∧ p.Rules.length ≤ 2 ∧ p.Ops.length ≤ 9 ∧ 1 ≤ p.Grants.length) ∧ ∃ c3 c4 c5 c6, r = .v (.agg [.int .i64 p.Ext, .int .i64 p.Author, .int .i64 p.Version, c3, c4, c5, c6, .int .i64 p.Seal]) ∧ Fr S.length S' p.d [.int .i64 p.Ext, .int .i64 p.Author, .int .i64 p.Version, c3, c4, c5, c6, .int .i64 p.Seal]) := by
  have hlt := h.lt
  have hD := Drw.refl h
  have hF : Fr S.length S [] [] := fr_nil
  refine evA_intro tok Tryz.func89 (by kernel_rfl) rfl ?_
  skip
  (conv => whnf)
  refine callP_intro (ev_l1Below _ hD.cur) ?_; rintro _ S1 ⟨hDn, x1, hx1, rfl⟩
  replace hD := hD.trans hDn; clear hDn hF
  repeat' ((conv => whnf) <;> first
   | rw [wrapI_i64 (by omega)])
  (conv => whnf)
  refine callP_intro (ev_l1Below _ hD.cur) ?_; rintro _ S2 ⟨hDn, x2, hx2, rfl⟩
  replace hD := hD.trans hDn; clear hDn
  repeat' ((conv => whnf) <;> first
   | rw [wrapI_i64 (by omega)])
  (conv => whnf)
  refine callP_intro (ev_l21Ops hD.cur) ?_; rintro _ S3 ⟨hDn, ops, hops, hzo, co, rfl, hFn⟩
  have hF : Fr S.length S3 (GPackage.mk ext (1 + x1) (1 + x2) [] [] [] ops 0).d [.int .i64 ext, .int .i64 (1 + x1), .int .i64 (1 + x2), .nil, .nil, .nil, co, .int .i64 0] := fr_x (fr_x (fr_x (fr_slnil (fr_slnil (fr_slnil (fr_snocX (hFn.mono hD.len)))))))
  replace hD := hD.trans hDn; clear hDn hFn
  skip
  refine loop_intro {q : (Nat × List GGrant) × Store × C // q.1.1 ≤ 4 ∧ Drw id S q.2.1 ∧ q.1.2.length = q.1.1 ∧ Fr S.length q.2.1 (GPackage.mk ext (1 + x1) (1 + x2) q.1.2 [] [] ops 0).d [.int .i64 ext, .int .i64 (1 + x1), .int .i64 (1 + x2), q.2.2, .nil, .nil, co, .int .i64 0]} [5, 7, 21, 22, 23, 24, 25, 26, 27, 28, 29, 30, 31, 32, 33, 34, 35, 36] (fun zb => [(7, .v (.s (.int .i64 (1 + (zb.1.1.1 : Nat))))), (5, .box [.int .i64 ext, .int .i64 (1 + x1), .int .i64 (1 + x2), zb.1.2.2, .nil, .nil, co, .int .i64 0])]) (fun zb => zb.1.2.1) (fun zb => 4 - zb.1.1.1) ⟨((0, []), _, _), Nat.zero_le _, hD, rfl, hF⟩ ?_ rfl ?_
  · (conv => whnf); repeat' (first | exact trivial | exact rfl | apply And.intro)
  rintro ⟨⟨⟨k, gs⟩, Si, cG⟩, hk, hP⟩; dsimp only
  clear hF hD
  replace hk : k ≤ 4 := hk
  obtain ⟨hD, hle, hF⟩ : Drw id S Si ∧ gs.length = k ∧ Fr S.length Si (GPackage.mk ext (1 + x1) (1 + x2) gs [] [] ops 0).d [.int .i64 ext, .int .i64 (1 + x1), .int .i64 (1 + x2), cG, .nil, .nil, co, .int .i64 0] := hP
  by_cases hk0 : k < 4
  · repeat' ((conv => whnf) <;> first
     | rw [wrapI_i64 (by omega)] | (show CondP _ _ _; refine cS ?_) | (refine callP_intro (ev_l1Below _ hD.cur) ?_; rintro _ Sn ⟨hDn, xn, hxn, rfl⟩; replace hF := hF.drw hlt hDn; replace hD := hD.trans hDn; clear hDn) | refine draw_intro 25 [.fl 0, .fl 1, .fl 2, .fl 3, .fl 4, .fl 5, .st 6 [0, 1, 2, 3, 4], .fl 7, .fl 8, .fl 9, .st 10 [], .fl 11, .st 12 []] (by rfl) (by kernel_rfl) ?_ | (refine dappF (f := GGrant.d) (o := 3) (l := gs) (m := [⟨ext, ⟨0, -1⟩, 1 + (k : Nat), 0, 5 + xn, false⟩]) (fun _ => trivial) hD hF rfl rfl rfl rf (by dsimp only [T108, T120]; simp only [List.length_singleton]; omega) (by simp only [List.length_singleton]; omega) ?_; intro cN SN hDN hFN) | refine And.intro ?_ ?_)
    all_goals try (exfalso; omega)
    refine ⟨⟨((k + 1, gs ++ [_]), SN, cN), by dsimp only; omega, hDN, by rw [List.length_append]; show gs.length + 1 = k + 1; omega, hFN⟩, ?_, rfl, by dsimp only; omega⟩
    (conv => whnf); repeat' (first | exact trivial | exact rfl | (show _ = _; congr 3; dsimp only; omega) | apply And.intro)
  repeat' ((conv => whnf) <;> first
   | (show CondP _ _ _; refine cS ?_))
  all_goals try (exfalso; omega)
  have hg4 : gs.length = 4 := by omega
  clear hle hk0 hk
  (conv => whnf)
  refine callP_intro (ev_l1Below _ hD.cur) ?_; rintro _ T1 ⟨hDn, y1, hy1, rfl⟩
  replace hF := hF.drw hlt hDn
  replace hD := hD.trans hDn; clear hDn
  obtain ⟨n1, rfl⟩ := Int.eq_ofNat_of_zero_le hy1.1
  skip
  refine loop_intro {q : (Nat × List GRule) × Store × C // q.1.1 ≤ 2 ∧ Drw id S q.2.1 ∧ q.1.2.length + q.1.1 ≤ 2 ∧ Fr S.length q.2.1 (GPackage.mk ext (1 + x1) (1 + x2) gs [] q.1.2 ops 0).d [.int .i64 ext, .int .i64 (1 + x1), .int .i64 (1 + x2), cG, .nil, q.2.2, co, .int .i64 0]} [5, 8, 9, 39, 40, 41, 42, 43, 44, 45, 46, 47, 48, 49, 50, 51, 52] (fun zb => [(8, .v (.s (.int .i64 (zb.1.1.1 : Nat)))), (5, .box [.int .i64 ext, .int .i64 (1 + x1), .int .i64 (1 + x2), cG, .nil, zb.1.2.2, co, .int .i64 0])]) (fun zb => zb.1.2.1) (fun zb => zb.1.1.1) ⟨((n1, []), _, _), by have := hy1.2.2.1 (by omega); dsimp only; omega, hD, by have := hy1.2.2.1 (by omega); simp; omega, hF⟩ ?_ rfl ?_
  · (conv => whnf); repeat' (first | exact trivial | exact rfl | apply And.intro)
  rintro ⟨⟨⟨k, rs⟩, Si', cR⟩, hk, hP⟩; dsimp only
  clear hF hD hy1
  replace hk : k ≤ 2 := hk
  obtain ⟨hD, hle, hF⟩ : Drw id S Si' ∧ rs.length + k ≤ 2 ∧ Fr S.length Si' (GPackage.mk ext (1 + x1) (1 + x2) gs [] rs ops 0).d [.int .i64 ext, .int .i64 (1 + x1), .int .i64 (1 + x2), cG, .nil, cR, co, .int .i64 0] := hP
  by_cases hk0 : 0 < k
  · repeat' ((conv => whnf) <;> first
     | rw [wrapI_i64 (by omega)] | (show CondP _ _ _; refine cS ?_) | (refine callP_intro (ev_l13Draw hD.cur) ?_; rintro _ Sn ⟨hDn, un, hun, rfl⟩; replace hF := hF.drw hlt hDn; replace hD := hD.trans hDn; clear hDn) | (refine dappF (f := GRule.d) (o := 5) (l := rs) (m := [⟨_, un.Prio, un.Pattern, un.Sort', un.Action, un.To⟩]) (fun _ => trivial) hD hF rfl rfl rfl rf (by dsimp only [T108, T120]; simp only [List.length_singleton]; omega) (by simp only [List.length_singleton]; omega) ?_; intro cN SN hDN hFN))
    all_goals try (exfalso; omega)
    refine ⟨⟨((k - 1, rs ++ [_]), SN, cN), by dsimp only; omega, hDN, by rw [List.length_append]; show rs.length + 1 + (k - 1) ≤ 2; omega, hFN⟩, ?_, rfl, by dsimp only; omega⟩
    (conv => whnf); repeat' (first | exact trivial | exact rfl | (show _ = _; congr 3; dsimp only; omega) | apply And.intro)
  have hr2 : rs.length ≤ 2 := by omega
  have ro : Rd Si' [.sl 4 (ops.map GOp.d)] [co] := (pk_parts hF.rd).2.2.2
  repeat' ((conv => whnf) <;> first
   | (show CondP _ _ _; refine cS ?_))
  all_goals try (exfalso; omega)
  clear hle hk0 hk
  (conv => whnf)
  refine callP_intro (ev_sNeeds ops ext _ _ ro) ?_; rintro _ T2 ⟨e2, cF0, rfl, f2⟩
  have hF2 : Fr S.length T2 (GPackage.mk ext (1 + x1) (1 + x2) gs (needs ops ext) rs ops 0).d [.int .i64 ext, .int .i64 (1 + x1), .int .i64 (1 + x2), cG, cF0, cR, co, .int .i64 0] := Fr.putLast (o := 4) (hF.join e2 f2 hD.len) rfl (by show 4 < 8; decide)
  replace hD := hD.ext e2
  have ro2 := ro.ext e2
  have rf2 := f2.rd
  have hn1 := needs_len ops ext
  clear hF f2 e2 ro
  by_cases h6 : 6 < (needs ops ext).length
  case' pos =>
    have ho2 : 2 ≤ ops.length := by
      rcases Nat.lt_or_ge ops.length 2 with h | h
      · rw [needs_few ext (by omega)] at h6; simp at h6
      · exact h
    have rc2 := rd_cut2 ro2 ho2
    repeat' ((conv => whnf) <;> first
     | (refine rd_slie ro2 rf om ?_) | (refine rd_lenm rf2 ?_; intro hml) | (show CondP _ _ _; refine cS ?_))
    all_goals try (exfalso; omega)
    (conv => whnf)
    refine callP_intro (ev_sNeeds (ops.take 2) ext _ _ rc2) ?_; rintro _ T3 ⟨e3, cF, rfl, f3⟩
    have hF : Fr S.length T3 (GPackage.mk ext (1 + x1) (1 + x2) gs (needs (ops.take 2) ext) rs ops 0).d [.int .i64 ext, .int .i64 (1 + x1), .int .i64 (1 + x2), cG, cF, cR, co, .int .i64 0] := Fr.putLast (o := 4) (hF2.join e3 f3 hD.len) rfl (by show 4 < 8; decide)
    replace hD := hD.ext e3
    have hnl : (needs (ops.take 2) ext).length ≤ 144 := needs_len _ ext
    have hO : ∀ S', Rd S' [.sl 4 (ops.map GOp.d)] [co] → Rd S' [.sl 4 ((ops.take 2).map GOp.d)] [cutC co 0 2] := fun S' h => rd_cut2 h ho2
    have hOl : (ops.take 2).length ≤ 9 := by rw [List.length_take]; omega
    generalize needs (ops.take 2) ext = fl at hF hnl
    generalize ops.take 2 = op2 at hO hOl
    generalize cutC co 0 2 = cO at hO ⊢
    clear f3 e3 rc2 ho2
  case' neg =>
    repeat' ((conv => whnf) <;> first
     | (refine rd_lenm rf2 ?_; intro hml) | (show CondP _ _ _; refine cS ?_))
    all_goals try (exfalso; omega)
    have hF := hF2
    have hnl : (needs ops ext).length ≤ 144 := hn1
    have hO : ∀ S', Rd S' [.sl 4 (ops.map GOp.d)] [co] → Rd S' [.sl 4 (ops.map GOp.d)] [co] := fun S' h => h
    have hOl := hzo
    obtain ⟨fl, hfl⟩ : ∃ fl, fl = needs ops ext := ⟨_, rfl⟩
    rw [← hfl] at hF hnl
    obtain ⟨cF, hcF⟩ : ∃ c, c = cF0 := ⟨_, rfl⟩
    rw [← hcF] at hF ⊢
    clear hfl hcF
  all_goals
    clear ro2 rf2 hn1 h6 hF2
    (conv => whnf)
    refine callP_intro (ev_l1Below _ hD.cur) ?_; rintro _ T4 ⟨hDn, y, hy, rfl⟩
    replace hF := hF.drw hlt hDn
    replace hD := hD.trans hDn; clear hDn
    have hg0 : 0 ≤ (0 : Int) ∧ (0 : Int).toNat < gs.length := ⟨Int.le_refl _, by show 0 < gs.length; omega⟩
    have hg2 : 0 ≤ (2 : Int) ∧ (2 : Int).toNat < gs.length := ⟨by decide, by show 2 < gs.length; omega⟩
    obtain ⟨rG, rF, rR, rO⟩ := pk_parts hF.rd
    have hfin : ∀ (S5 : Store) (gs' : List GGrant) (fl' : List GFlow) (op' : List GOp) (dG dF dR dO : C), Drw id S S5 → 1 ≤ gs'.length ∧ gs'.length ≤ 4 → fl'.length ≤ 144 → op'.length ≤ 9 → Rd S5 [.sl 7 (gs'.map GGrant.d)] [dG] → Rd S5 [.sl 3 (fl'.map GFlow.d)] [dF] → Rd S5 [.sl 8 (rs.map GRule.d)] [dR] → Rd S5 [.sl 4 (op'.map GOp.d)] [dO] →
        EvA Tryz.prog 153 [.s (.int .i64 5), .agg [.int .i64 ext, .int .i64 (1 + x1), .int .i64 (1 + x2), dG, dF, dR, dO, .int .i64 0]] S5 (fun r S' => Drw id S S' ∧ ∃ p : GPackage, p.Ext = ext ∧ (p.Grants.length ≤ 4 ∧ p.Flows.length ≤ 144 ∧ p.Rules.length ≤ 2 ∧ p.Ops.length ≤ 9 ∧ 1 ≤ p.Grants.length) ∧ ∃ c3 c4 c5 c6, r = .v (.agg [.int .i64 p.Ext, .int .i64 p.Author, .int .i64 p.Version, c3, c4, c5, c6, .int .i64 p.Seal]) ∧ Fr S.length S' p.d [.int .i64 p.Ext, .int .i64 p.Author, .int .i64 p.Version, c3, c4, c5, c6, .int .i64 p.Seal]) := fun S5 gs' fl' op' dG dF dR dO hD5 q1 q2 q3 w1 w2 w3 w4 => by
      refine (ev_sSealPackage 5 (pkFine ext x1 x2 gs' fl' rs op') _ _ (GPackage.rd w1 w2 w3 w4) (by rw [pk_szD]; dsimp only; omega)).mono ?_
      rintro r S' ⟨e9, g3, g4, g5, g6, rfl, f9⟩
      exact ⟨hD5.ext e9, sealed 5 (pkFine ext x1 x2 gs' fl' rs op'), rfl, ⟨q1.2, q2, hr2, q3, q1.1⟩, g3, g4, g5, g6, rfl, f9.mono hD5.len⟩
    by_cases y0 : y = 0
    · subst y0
      repeat' ((conv => whnf) <;> first
       | (refine rI rG rf hg0 ?_) | (show CondP _ _ _; refine cS ?_) | (refine dsto (q := 3) (k := 7) (xs := gs.map GGrant.d) (A := [.x (.int .i64 (gs[(0 : Int).toNat]'hg0.2).Ext)]) (B := [.x (.int .i64 (gs[(0 : Int).toNat]'hg0.2).Pattern.Owner)]) (Z := (gs[(0 : Int).toNat]'hg0.2).d.drop 2) hD hF rfl rfl (by rw [List.length_map]; exact hg0) (gr_at hg0) rfl rfl rfl ?_; intro SN hDN hFN))
      all_goals try (exfalso; omega)
      have hFS : Fr S.length SN (GPackage.mk ext (1 + x1) (1 + x2) (gs.set 0 ⟨(gs[(0 : Int).toNat]'hg0.2).Ext, ⟨1, (gs[(0 : Int).toNat]'hg0.2).Pattern.Sub⟩, (gs[(0 : Int).toNat]'hg0.2).Kind, (gs[(0 : Int).toNat]'hg0.2).From, (gs[(0 : Int).toNat]'hg0.2).Until, (gs[(0 : Int).toNat]'hg0.2).Click⟩) fl rs ops 0).d [.int .i64 ext, .int .i64 (1 + x1), .int .i64 (1 + x2), cG, cF, cR, co, .int .i64 0] := by
        simp only [GPackage.d]; rw [List.map_set]; exact hFN
      obtain ⟨w1, w2, w3, w4⟩ := pk_parts hFS.rd
      (conv => whnf)
      refine callP_intro (hfin SN _ fl _ _ _ _ _ hDN (by rw [List.length_set]; omega) hnl hOl w1 w2 w3 (hO _ w4)) ?_; rintro _ S9 ⟨hD9, p, hp, hq, d3, d4, d5, d6, rfl, h9⟩
      repeat' ((conv => whnf) <;> first
       | refine And.intro ?_ ?_)
      all_goals first
        | exact hD9
        | exact ⟨p, hp, hq, d3, d4, d5, d6, rfl, h9⟩
    by_cases y1 : y = 1
    · subst y1
      repeat' ((conv => whnf) <;> first
       | (refine rI rG rf hg2 ?_) | (show CondP _ _ _; refine cS ?_) | (refine dsto (q := 3) (k := 7) (xs := gs.map GGrant.d) (A := [.x (.int .i64 (gs[(2 : Int).toNat]'hg2.2).Ext)]) (B := [.x (.int .i64 (gs[(2 : Int).toNat]'hg2.2).Pattern.Owner)]) (Z := (gs[(2 : Int).toNat]'hg2.2).d.drop 2) hD hF rfl rfl (by rw [List.length_map]; exact hg2) (gr_at hg2) rfl rfl rfl ?_; intro SN hDN hFN))
      all_goals try (exfalso; omega)
      have hFS : Fr S.length SN (GPackage.mk ext (1 + x1) (1 + x2) (gs.set 2 ⟨(gs[(2 : Int).toNat]'hg2.2).Ext, ⟨1, (gs[(2 : Int).toNat]'hg2.2).Pattern.Sub⟩, (gs[(2 : Int).toNat]'hg2.2).Kind, (gs[(2 : Int).toNat]'hg2.2).From, (gs[(2 : Int).toNat]'hg2.2).Until, (gs[(2 : Int).toNat]'hg2.2).Click⟩) fl rs ops 0).d [.int .i64 ext, .int .i64 (1 + x1), .int .i64 (1 + x2), cG, cF, cR, co, .int .i64 0] := by
        simp only [GPackage.d]; rw [List.map_set]; exact hFN
      obtain ⟨w1, w2, w3, w4⟩ := pk_parts hFS.rd
      (conv => whnf)
      refine callP_intro (hfin SN _ fl _ _ _ _ _ hDN (by rw [List.length_set]; omega) hnl hOl w1 w2 w3 (hO _ w4)) ?_; rintro _ S9 ⟨hD9, p, hp, hq, d3, d4, d5, d6, rfl, h9⟩
      repeat' ((conv => whnf) <;> first
       | refine And.intro ?_ ?_)
      all_goals first
        | exact hD9
        | exact ⟨p, hp, hq, d3, d4, d5, d6, rfl, h9⟩
    by_cases y2 : y = 2
    · subst y2
      repeat' ((conv => whnf) <;> first
       | (show CondP _ _ _; refine cS ?_))
      all_goals try (exfalso; omega)
      (conv => whnf)
      refine callP_intro (hfin (T4 ++ [⟨true, 3, []⟩]) gs [] _ _ _ _ _ (hD.push _) (by omega) (by simp) hOl (rG.ext (Ext.push _ _)) (fr_lit0 (S := T4) (k := 3)).rd (rR.ext (Ext.push _ _)) (hO _ (rO.ext (Ext.push _ _)))) ?_; rintro _ S9 ⟨hD9, p, hp, hq, d3, d4, d5, d6, rfl, h9⟩
      repeat' ((conv => whnf) <;> first
       | refine And.intro ?_ ?_)
      all_goals first
        | exact hD9
        | exact ⟨p, hp, hq, d3, d4, d5, d6, rfl, h9⟩
    by_cases y3 : y = 3
    · subst y3
      repeat' ((conv => whnf) <;> first
       | (refine rd_slie rG rf om ?_) | (show CondP _ _ _; refine cS ?_))
      all_goals try (exfalso; omega)
      (conv => whnf)
      refine callP_intro (hfin T4 (gs.take 2) fl _ _ _ _ _ hD (by rw [List.length_take]; omega) hnl hOl (rd_cut2 rG (by omega)) rF rR (hO _ rO)) ?_; rintro _ S9 ⟨hD9, p, hp, hq, d3, d4, d5, d6, rfl, h9⟩
      repeat' ((conv => whnf) <;> first
       | refine And.intro ?_ ?_)
      all_goals first
        | exact hD9
        | exact ⟨p, hp, hq, d3, d4, d5, d6, rfl, h9⟩
    · repeat' ((conv => whnf) <;> first
       | (show CondP _ _ _; refine cS ?_))
      all_goals try (exfalso; omega)
      (conv => whnf)
      refine callP_intro (hfin T4 gs fl _ _ _ _ _ hD (by omega) hnl hOl rG rF rR (hO _ rO)) ?_; rintro _ S9 ⟨hD9, p, hp, hq, d3, d4, d5, d6, rfl, h9⟩
      repeat' ((conv => whnf) <;> first
       | refine And.intro ?_ ?_)
      all_goals first
        | exact hD9
        | exact ⟨p, hp, hq, d3, d4, d5, d6, rfl, h9⟩
end Go.Proofs.YtlmmdpmmdmhacaaGreat
namespace Go.Proofs.YtlmmdpmmdmhacaaGreat
open Go Go.ChangeShapes Go.WideShapes Go.ChangeAt Go.RowKit
set_option linter.unusedVariables false
set_option linter.unusedSimpArgs false
set_option maxRecDepth 100000
set_option maxHeartbeats 2000000 in
theorem ev_sStoreFor (b : GBrowser) (ext tab name value : Int) (cs : List C) (S : Store) (h : Rd S b.d cs) (hz : szL b.d ≤ 1048576) : EvA Tryz.prog 164 [.agg cs, .s (.int .i64 ext), .s (.int .i64 tab), .s (.int .i64 name), .s (.int .i64 value)] S (fun r S' => Ext S S' ∧ ∃ (ss : List GStored) (ok : Bool), StPut b ext ss ok ∧ ∃ c1 c2 c3 c4 c5 c6, r = .tup [.agg [.int .i64 b.Key, c1, c2, c3, c4, c5, c6, .int .i64 b.Now], .s (.bool ok)] ∧ Fr S.length S' (GBrowser.mk b.Key b.Tabs b.Packs b.Grants b.Limits b.Rules ss b.Now).d [.int .i64 b.Key, c1, c2, c3, c4, c5, c6, .int .i64 b.Now]) := by
  have hzs := hz
  simp only [GBrowser.d, szL, List.length_map] at hzs
  have hh := h
  obtain ⟨_, _, _, _, _, _, rfl, r1, r2, r3, r4, r5, r6⟩ := GBrowser.inv h
  refine evA_intro tok Tryz.func164 (by kernel_rfl) rfl ?_
  skip
  (conv => whnf)
  refine callP_intro (ev_l32Copy b _ _ hh (by omega)) ?_; rintro _ S1 ⟨e1, g1, g2, g3, g4, g5, g6, rfl, f1⟩
  have r6c := r6.ext e1
  skip
  (conv => whnf)
  refine callP_intro (ev_sPutStored b.Store ext name value _ _ r6c (by omega)) ?_; rintro _ S2 ⟨e2, m, ok, hm, cN, rfl, f2⟩
  have hh2 := hh.ext (e1.trans e2)
  have e12 := e1.trans e2
  cases ok
  · repeat' ((conv => whnf) <;> first
     | refine cT ?_ | refine And.intro ?_ ?_)
    all_goals first
      | exact e12
      | exact ⟨b.Store, false, ⟨fun _ => rfl, fun hx => Bool.noConfusion hx⟩, _, _, _, _, _, _, rfl, f1.ext e2⟩
      | (exfalso; simp_all; done)
  · cases hma : mayAct b ext tab 4
    · have hev := ev_sMayAct b ext tab 4 _ _ hh2
      rw [hma] at hev
      repeat' ((conv => whnf) <;> first
       | (refine callP_eq hev ?_) | refine cT ?_ | refine cF ?_ | refine And.intro ?_ ?_)
      all_goals first
        | exact e12
        | exact ⟨b.Store, false, ⟨fun _ => rfl, fun hx => Bool.noConfusion hx⟩, _, _, _, _, _, _, rfl, f1.ext e2⟩
        | (exfalso; simp_all; done)
    · have hev := ev_sMayAct b ext tab 4 _ _ hh2
      rw [hma] at hev
      have fJ := (f1.join e2 f2 e1.len).putLast (o := 6) rfl (by show 6 < 8; decide)
      repeat' ((conv => whnf) <;> first
       | (refine callP_eq hev ?_) | refine cF ?_ | refine And.intro ?_ ?_)
      all_goals first
        | exact e12
        | exact ⟨m, true, ⟨fun hx => Bool.noConfusion hx, fun _ => ⟨(hm.2.2 rfl).1, (hm.2.2 rfl).2, mayAct_ext hma⟩⟩, _, _, _, _, _, _, rfl, fJ⟩
        | (exfalso; simp_all; done)
structure L35 (id : Nat) (S : Store) (m : Nat) where
  k : Nat
  T : Store
  b : GBrowser
  c1 : C
  c2 : C
  c3 : C
  c4 : C
  c5 : C
  c6 : C
  hk : k ≤ m
  hD : Drw id S T
  hb : DrOk b
  hF : Fr S.length T b.d [.int .i64 b.Key, c1, c2, c3, c4, c5, c6, .int .i64 b.Now]
end Go.Proofs.YtlmmdpmmdmhacaaGreat
