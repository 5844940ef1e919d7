/- A text of the proof. Numbers in order, each once: the shelf's contracts for slices.Sort and slices.Compact; the reference's insertion. PLAIN: what FnMeasured asks. A text of the proof. From the statement's arguments to typed values; what a law is made of. -/
import Derived.Test.YtlmmdpmmdmhacaaGreatKm40
import Derived.Test.YtlmmdpmmdmhacaaGreatKm20
import Derived.Test.YtlmmdpmmdmhacaaGreatKm47
import Derived.Test.YtlmmdpmmdmhacaaGreatKm42
import Derived.Test.YtlmmdpmmdmhacaaGreatKm32
import Derived.Test.YtlmmdpmmdmhacaaGreatKm46
import Derived.Test.YtlmmdpmmdmhacaaGreatKm34
import Derived.Test.YtlmmdpmmdmhacaaGreatKm19
import Derived.Test.YtlmmdpmmdmhacaaGreatRows
namespace Go.Proofs.YtlmmdpmmdmhacaaGreat
open Go Go.ChangeShapes Go.WideShapes Go.ChangeAt Go.RowKit
set_option linter.unusedVariables false
set_option linter.unusedSimpArgs false
set_option maxRecDepth 100000
structure StC (x0 : List Int) (c0 : C) where
  S : Store
  hc : Rd S [.sl 1 (x0.map dByte)] [c0]
theorem ev_big (l : List Int) (c : C) (S : Store) (h : Rd S [.sl 1 (l.map dByte)] [c]) : EvA Tryz.prog 8 [.s c] S (fun r S' => r = .v (.s (.bool (decide (1048576 < (l.length : Int))))) ∧ S' = S) := by
  refine evA_intro tok Tryz.func8 (by kernel_rfl) rfl ?_
  repeat' ((conv => whnf) <;> first
   | refine rE fun hml => ?_ | refine nP ?_ | refine And.intro ?_ ?_)
  all_goals rfl
end Go.Proofs.YtlmmdpmmdmhacaaGreat
namespace Go.Proofs.YtlmmdpmmdmhacaaGreat
open Go Go.ChangeShapes Go.WideShapes Go.ChangeAt Go.RowKit
set_option linter.unusedVariables false
set_option linter.unusedSimpArgs false
set_option maxRecDepth 100000
def chIds (l : List GNode) : List Int := (l.filter fun x => !decide (x.By = 0)).map (·.Id)
theorem chIds_len (l : List GNode) : (chIds l).length ≤ l.length := by unfold chIds; rw [List.length_map]; exact List.length_filter_le _ _
theorem chIds_t {l : List GNode} {i : Nat} (h : i < l.length) (hb : ¬ (l[i]).By = 0) : chIds (l.take (i + 1)) = chIds (l.take i) ++ [(l[i]).Id] := by
  unfold chIds; rw [filter_t h (by simpa using hb), List.map_append]; rfl
theorem chIds_f {l : List GNode} {i : Nat} (h : i < l.length) (hb : (l[i]).By = 0) : chIds (l.take (i + 1)) = chIds (l.take i) := by
  unfold chIds; rw [filter_f h (by simpa using hb)]
def changed (b : GBrowser) (tab : Int) : List Int := if inR tab 0 ((b.Tabs.length : Int) - 1) then ordL (chIds (docX (tabX b tab))) else []
set_option maxHeartbeats 2000000 in
theorem ev_iChangedNodes (b : GBrowser) (tab : Int) (cs : List C) (S : Store) (h : Rd S b.d cs) (hz : szL b.d ≤ 2097152) : EvA Tryz.prog 21 [.agg cs, .s (.int .i64 tab)] S (fun r S' => Ext S S' ∧ ∃ c', r = .v (.s c') ∧ Fr S.length S' [.sl 1 ((changed b tab).map dInt)] [c']) := by
  have hzs := hz
  simp only [GBrowser.d, szL, List.length_map] at hzs
  obtain ⟨_, _, _, _, _, _, rfl, r1, _, _, _, _, _⟩ := GBrowser.inv h
  cases hk : inR tab 0 ((b.Tabs.length : Int) - 1) with
  | false =>
    have hnt : ¬ (0 ≤ tab ∧ tab.toNat < b.Tabs.length) := fun hc => by rw [in_tabs.2 hc] at hk; cases hk
    rw [show changed b tab = [] from by unfold changed; rw [hk]; rfl]
    by_cases hneg : tab < 0
    all_goals
      refine evA_intro tok Tryz.func21 (by kernel_rfl) rfl ?_
      repeat' ((conv => whnf) <;> first
       | rw [wrapI_i64 (by omega)] | (show CondP _ _ _; refine cS ?_) | refine cD (fun _ => ?_) fun _ => ?_ | refine cE (fun _ => ?_) fun _ => ?_ | refine cT ?_ | refine cF ?_ | refine cN (fun _ => ?_) fun _ => ?_ | refine cI (fun _ => ?_) fun _ => ?_ | (refine callP_intro (ev_iTabDocument _ _ _ rdcA (by (first | omega | exact sz_at hz om | (simp only [szL]; omega)))) ?_; rintro _ Sn ⟨hEn, cn, rfl, hFn⟩) | refine rE fun hml => ?_ | refine rI rdA rf ix ?_ | refine rd_loadf rdA tv ix ?_ | (refine rd_loadm (f := GTab.d) rdA ix ?_; intro _ hcs; obtain ⟨_, _, _, rfl, _, _, _⟩ := GTab.inv hcs) | refine nP ?_ | refine And.intro ?_ ?_)
      all_goals first
        | exact Ext.push _ _
        | exact ⟨_, rfl, fr_lit0⟩
        | (exfalso; omega)
  | true =>
    have ht := in_tabs.1 hk
    have hto : tabX b tab = (b.Tabs[tab.toNat]'ht.2) := getD_at ht.2
    rw [show changed b tab = ordL (chIds (docX (b.Tabs[tab.toNat]'ht.2))) from by unfold changed; rw [hk, hto]; rfl]
    have hst := szLL_mem (f := GTab.d) (List.getElem_mem ht.2)
    have hst2 : szL (b.Tabs[tab.toNat]'ht.2).d ≤ 2097152 := by omega
    have hst3 := hst2
    simp only [GTab.d, szL, List.length_map] at hst3
    have hrl : (docX (b.Tabs[tab.toNat]'ht.2)).length ≤ max (b.Tabs[tab.toNat]'ht.2).Base.length 16 := runEdits_len _ _
    obtain ⟨pcs, hpr, hpld⟩ := rd_loadx r1 ht
    obtain ⟨d2, d3, d4, rfl, q2, q3, q4⟩ := GTab.inv hpr
    have hprL : Rd (S ++ [(⟨true, 1, []⟩ : Row)]) (b.Tabs[tab.toNat]'ht.2).d _ := hpr.ext (Ext.push _ _)
    refine evA_intro tok Tryz.func21 (by kernel_rfl) rfl ?_
    repeat' ((conv => whnf) <;> first
     | (refine callP_intro (ev_iTabDocument (b.Tabs[tab.toNat]'ht.2) _ _ (by first | exact hprL | assumption) om) ?_; rintro _ S1 ⟨e1, d1, rfl, f1⟩; have rd1 : Rd S1 [.sl 5 ((docX (b.Tabs[tab.toNat]'ht.2)).map GNode.d)] [d1] := f1.rd) | (refine hpld _ (by first | exact Ext.refl _ | exact Ext.push _ _ | assumption) _ ?_) | rw [wrapI_i64 (by omega)] | (show CondP _ _ _; refine cS ?_) | refine cD (fun _ => ?_) fun _ => ?_ | refine cE (fun _ => ?_) fun _ => ?_ | refine cT ?_ | refine cF ?_ | refine cN (fun _ => ?_) fun _ => ?_ | refine cI (fun _ => ?_) fun _ => ?_ | (refine callP_intro (ev_iTabDocument _ _ _ rdcA (by (first | omega | exact sz_at hz om | (simp only [szL]; omega)))) ?_; rintro _ Sn ⟨hEn, cn, rfl, hFn⟩) | refine rE fun hml => ?_ | refine rI rdA rf ix ?_ | refine rd_loadf rdA tv ix ?_ | (refine rd_loadm (f := GTab.d) rdA ix ?_; intro _ hcs; obtain ⟨_, _, _, rfl, _, _, _⟩ := GTab.inv hcs) | refine nP ?_ | refine And.intro ?_ ?_)
    have f0 : Fr S.length S1 [.sl 1 ((chIds ((docX (b.Tabs[tab.toNat]'ht.2)).take 0)).map dInt), .sl 5 ((docX (b.Tabs[tab.toNat]'ht.2)).map GNode.d)] [.sl S.length 0 0 0, d1] :=
      Fr.join (ds := [.sl 1 []]) (cs := [_]) (fr_lit0 (S := S) (k := 1)) e1 f1 (Ext.push S _).len
    refine loop_intro {p : Nat × Store × C // p.1 ≤ (docX (b.Tabs[tab.toNat]'ht.2)).length ∧ Ext S p.2.1 ∧ Fr S.length p.2.1 [.sl 1 ((chIds ((docX (b.Tabs[tab.toNat]'ht.2)).take p.1)).map dInt), .sl 5 ((docX (b.Tabs[tab.toNat]'ht.2)).map GNode.d)] [p.2.2, d1] ∧ (chIds ((docX (b.Tabs[tab.toNat]'ht.2)).take p.1) = [] → p.2.2 = .sl S.length 0 0 0)} [5, 7, 26, 27, 28, 29, 30, 31, 32, 33, 34, 35, 36, 37, 38] (fun zb => [(26, .v (.s (.int .i64 zb.1.1))), (5, .v (.s zb.1.2.2))]) (fun zb => zb.1.2.1) (fun zb => (docX (b.Tabs[tab.toNat]'ht.2)).length - zb.1.1) ⟨(0, _, _), Nat.zero_le _, (Ext.push S _).trans e1, f0, fun _ => rfl⟩ ?_ rfl ?_
    · (conv => whnf); repeat' (first | exact trivial | exact rfl | apply And.intro)
    rintro ⟨⟨i, Si, ci⟩, hi, hE, hF, hsl⟩; dsimp only
    replace hi : i ≤ (docX (b.Tabs[tab.toNat]'ht.2)).length := hi
    replace hE : Ext S Si := hE
    replace hF : Fr S.length Si [.sl 1 ((chIds ((docX (b.Tabs[tab.toNat]'ht.2)).take i)).map dInt), .sl 5 ((docX (b.Tabs[tab.toNat]'ht.2)).map GNode.d)] [ci, d1] := hF
    replace hsl : chIds ((docX (b.Tabs[tab.toNat]'ht.2)).take i) = [] → ci = .sl S.length 0 0 0 := hsl
    have hcl := chIds_len ((docX (b.Tabs[tab.toNat]'ht.2)).take i)
    rw [List.length_take] at hcl
    have rdi : Rd Si [.sl 5 ((docX (b.Tabs[tab.toNat]'ht.2)).map GNode.d)] [d1] := hF.rdAt (o := 1) rfl rfl
    by_cases hlt : i < (docX (b.Tabs[tab.toNat]'ht.2)).length
    · have hlt' : ((i : Nat) : Int).toNat < (docX (b.Tabs[tab.toNat]'ht.2)).length := hlt
      by_cases hb : ((docX (b.Tabs[tab.toNat]'ht.2))[((i : Nat) : Int).toNat]'hlt').By = 0
      · repeat' ((conv => whnf) <;> first
         | rw [wrapI_i64 (by omega)] | (show CondP _ _ _; refine cS ?_) | refine cD (fun _ => ?_) fun _ => ?_ | refine cE (fun _ => ?_) fun _ => ?_ | refine cT ?_ | refine cF ?_ | refine cN (fun _ => ?_) fun _ => ?_ | refine cI (fun _ => ?_) fun _ => ?_ | (refine callP_intro (ev_iTabDocument _ _ _ rdcA (by (first | omega | exact sz_at hz om | (simp only [szL]; omega)))) ?_; rintro _ Sn ⟨hEn, cn, rfl, hFn⟩) | refine rE fun hml => ?_ | refine rI rdA rf ix ?_ | refine rd_loadf rdA tv ix ?_ | (refine rd_loadm (f := GTab.d) rdA ix ?_; intro _ hcs; obtain ⟨_, _, _, rfl, _, _, _⟩ := GTab.inv hcs) | refine nP ?_ | refine And.intro ?_ ?_)
        all_goals first
          | (exfalso; omega)
          | (refine ⟨⟨(i + 1, Si, ci), by dsimp only; omega, hE, by dsimp only; rw [chIds_f hlt hb]; exact hF, by dsimp only; rw [chIds_f hlt hb]; exact hsl⟩, ?_, rfl, by dsimp only; omega⟩; (conv => whnf); repeat' (first | exact trivial | exact rfl | apply And.intro))
      · repeat' ((conv => whnf) <;> first
         | rw [wrapI_i64 (by omega)] | (show CondP _ _ _; refine cS ?_) | refine cD (fun _ => ?_) fun _ => ?_ | refine cE (fun _ => ?_) fun _ => ?_ | refine cT ?_ | refine cF ?_ | refine cN (fun _ => ?_) fun _ => ?_ | refine cI (fun _ => ?_) fun _ => ?_ | (refine callP_intro (ev_iTabDocument _ _ _ rdcA (by (first | omega | exact sz_at hz om | (simp only [szL]; omega)))) ?_; rintro _ Sn ⟨hEn, cn, rfl, hFn⟩) | refine rE fun hml => ?_ | refine rI rdA rf ix ?_ | refine rd_loadf rdA tv ix ?_ | (refine rd_loadm (f := GTab.d) rdA ix ?_; intro _ hcs; obtain ⟨_, _, _, rfl, _, _, _⟩ := GTab.inv hcs) | refine nP ?_ | (refine fr_appAtF (f := dInt) (o := 0) (l := chIds ((docX (b.Tabs[tab.toNat]'ht.2)).take i)) (m := [((docX (b.Tabs[tab.toNat]'ht.2))[((i : Nat) : Int).toNat]'hlt').Id]) tv hE hF (by rfl) (by rfl) (by rfl) rf (by dsimp only [T3]; simp only [List.length_cons, List.length_nil]; omega) (by simp only [List.length_cons, List.length_nil]; omega) ?_; intro cA SA hEA hFA hlA) | refine And.intro ?_ ?_)
        all_goals first
          | (exfalso; omega)
          | (refine ⟨⟨(i + 1, SA, cA), by dsimp only; omega, hEA, by dsimp only; rw [chIds_t hlt hb]; exact hFA, by dsimp only; rw [chIds_t hlt hb]; intro hh; simp at hh⟩, ?_, rfl, by dsimp only; omega⟩; (conv => whnf); repeat' (first | exact trivial | exact rfl | apply And.intro))
    · have htk : (docX (b.Tabs[tab.toNat]'ht.2)).take i = docX (b.Tabs[tab.toNat]'ht.2) := List.take_of_length_le (by omega)
      rw [htk] at hF hsl hcl
      have hcl2 := chIds_len (docX (b.Tabs[tab.toNat]'ht.2))
      repeat' ((conv => whnf) <;> first
       | (refine callP_intro (ev_ordered (chIds (docX (b.Tabs[tab.toNat]'ht.2))) ci hE hF.fst (fun hh => ⟨_, _, _, _, hsl hh⟩) om) ?_; rintro _ S2 ⟨e2, d5, rfl, f2, _⟩) | rw [wrapI_i64 (by omega)] | (show CondP _ _ _; refine cS ?_) | refine cD (fun _ => ?_) fun _ => ?_ | refine cE (fun _ => ?_) fun _ => ?_ | refine cT ?_ | refine cF ?_ | refine cN (fun _ => ?_) fun _ => ?_ | refine cI (fun _ => ?_) fun _ => ?_ | (refine callP_intro (ev_iTabDocument _ _ _ rdcA (by (first | omega | exact sz_at hz om | (simp only [szL]; omega)))) ?_; rintro _ Sn ⟨hEn, cn, rfl, hFn⟩) | refine rE fun hml => ?_ | refine rI rdA rf ix ?_ | refine rd_loadf rdA tv ix ?_ | (refine rd_loadm (f := GTab.d) rdA ix ?_; intro _ hcs; obtain ⟨_, _, _, rfl, _, _, _⟩ := GTab.inv hcs) | refine nP ?_ | refine And.intro ?_ ?_)
      all_goals first
        | exact e2
        | exact ⟨_, rfl, f2⟩
        | (exfalso; omega)
end Go.Proofs.YtlmmdpmmdmhacaaGreat
namespace Go.Proofs.YtlmmdpmmdmhacaaGreat
open Go Go.ChangeShapes Go.WideShapes Go.ChangeAt Go.RowKit
set_option linter.unusedVariables false
set_option linter.unusedSimpArgs false
theorem changed_in {b : GBrowser} {tab : Int} (h : changed b tab ≠ []) : inR tab 0 ((b.Tabs.length : Int) - 1) = true := by
  unfold changed at h
  split at h
  · assumption
  · exact absurd rfl h
theorem wid_fold (b : GBrowser) (s : GSite) : ∀ (l : List GPackage) (acc : Int × Int),
    acc.2 ≤ (l.foldl (widStep b s) acc).2 ∧ (∀ p ∈ l, ((powersOf b p.Ext s).length : Int) ≤ (l.foldl (widStep b s) acc).2) ∧ (l.foldl (widStep b s) acc = acc ∨ ∃ p ∈ l, l.foldl (widStep b s) acc = (p.Ext, ((powersOf b p.Ext s).length : Int)))
  | [], acc => ⟨Int.le_refl _, fun p h => (by cases h), .inl rfl⟩
  | p :: r, acc => by
    obtain ⟨h1, h2, h3⟩ := wid_fold b s r (widStep b s acc p)
    have k1 : acc.2 ≤ (widStep b s acc p).2 ∧ ((powersOf b p.Ext s).length : Int) ≤ (widStep b s acc p).2 ∧ (widStep b s acc p = acc ∨ widStep b s acc p = (p.Ext, ((powersOf b p.Ext s).length : Int))) := by
      unfold widStep
      split
      · exact ⟨by omega, Int.le_refl _, .inr rfl⟩
      · exact ⟨Int.le_refl _, by omega, .inl rfl⟩
    rw [List.foldl_cons]
    refine ⟨by omega, ?_, ?_⟩
    · intro q hq
      rcases List.mem_cons.1 hq with rfl | hq
      · omega
      · exact h2 q hq
    · rcases h3 with h3 | ⟨q, hq, h3⟩
      · rcases k1.2.2 with k | k
        · exact .inl (h3.trans k)
        · exact .inr ⟨p, List.mem_cons_self, h3.trans k⟩
      · exact .inr ⟨q, List.mem_cons_of_mem _ hq, h3⟩
theorem widest_max {b : GBrowser} {s : GSite} (hn : b.Packs ≠ []) : (∃ p ∈ b.Packs, widest b s = p.Ext) ∧ ∀ p ∈ b.Packs, (powersOf b p.Ext s).length ≤ (powersOf b (widest b s) s).length := by
  obtain ⟨h1, h2, h3⟩ := wid_fold b s b.Packs (0, -1)
  obtain ⟨p, hp⟩ := List.exists_mem_of_ne_nil _ hn
  rcases h3 with h3 | ⟨q, hq, h3⟩
  · have := h2 p hp
    rw [h3] at this
    exfalso
    have : ((powersOf b p.Ext s).length : Int) ≤ -1 := this
    omega
  · have hw : widest b s = q.Ext := by unfold widest; rw [h3]
    refine ⟨⟨q, hq, hw⟩, fun p hp => ?_⟩
    have := h2 p hp
    rw [h3] at this
    rw [hw]
    exact Int.ofNat_le.1 this
theorem changed_nil {b : GBrowser} (hn : NoBy b) {tab : Int} (h : 0 ≤ tab ∧ tab.toNat < b.Tabs.length) (he : (b.Tabs[tab.toNat]'h.2).Edits = []) : changed b tab = [] := by
  have ht : tabX b tab = b.Tabs[tab.toNat]'h.2 := by
    unfold tabX; rw [List.getD_eq_getElem?_getD, List.getElem?_eq_getElem h.2]; rfl
  unfold changed
  split
  · have hd : docX (tabX b tab) = (b.Tabs[tab.toNat]'h.2).Base := by unfold docX; rw [ht, he]; rfl
    have hc : chIds (docX (tabX b tab)) = [] := by
      rw [hd]
      unfold chIds
      rw [List.map_eq_nil_iff, List.filter_eq_nil_iff]
      intro n hm
      have := hn _ (List.getElem_mem h.2) n hm
      simp [this]
    rw [hc]; exact List.eq_nil_of_length_eq_zero (Nat.le_zero.1 (ordL_len []))
  · rfl
theorem covers_click {g : GGrant} {ext : Int} {s : GSite} {kind tick : Int} (h : covers g ext s kind tick false = true) : covers g ext s kind tick true = true := by
  unfold covers at h ⊢
  simp only [Bool.and_eq_true, Bool.true_or, and_true] at h ⊢
  exact h.1
theorem covers_ext {g : GGrant} {ext : Int} {s : GSite} {kind tick : Int} {c : Bool} (h : covers g ext s kind tick c = true) : g.Ext = ext := by
  unfold covers at h
  simp only [Bool.and_eq_true, decide_eq_true_eq] at h
  exact h.1.1.1.1.2
theorem mayDo_click {b : GBrowser} (hb : BrOk b) {ext : Int} {s : GSite} {kind tick : Int} (h : mayDo b.Grants b.Limits ext s kind tick false = true) : mayDo b.Grants b.Limits ext s kind tick true = true ∧ 0 ≤ packOf b ext := by
  unfold mayDo at h ⊢
  rw [Bool.and_eq_true] at h ⊢
  unfold isAllowed at h ⊢
  rw [List.any_eq_true] at h ⊢
  obtain ⟨⟨g, hg, hc⟩, hd⟩ := h
  exact ⟨⟨⟨g, hg, covers_click hc⟩, hd⟩, packOf_mem.2 (covers_ext hc ▸ hb.gex g hg)⟩
theorem st_sum : ∀ l : List GStored, (∀ x ∈ l, 1 ≤ x.Ext ∧ x.Ext ≤ 5) → (l.filter (stOf 1)).length + (l.filter (stOf 2)).length + (l.filter (stOf 3)).length + (l.filter (stOf 4)).length + (l.filter (stOf 5)).length = l.length
  | [], _ => rfl
  | x :: r, h => by
    have h1 := st_sum r fun y hy => h y (List.mem_cons_of_mem _ hy)
    have h2 := h x List.mem_cons_self
    have h3 : x.Ext = 1 ∨ x.Ext = 2 ∨ x.Ext = 3 ∨ x.Ext = 4 ∨ x.Ext = 5 := by omega
    unfold stOf at h1 ⊢
    rcases h3 with h3 | h3 | h3 | h3 | h3 <;> simp [List.filter_cons, h3] <;> omega
theorem sld_ext {key : Int} {p : GPackage} (h : isSealed key p = true) : 1 ≤ p.Ext ∧ p.Ext ≤ 5 := by
  unfold isSealed isPackage pack0 at h
  simp only [Bool.and_eq_true] at h
  have := h.1.1.1.1.1
  simp_all [inR]
theorem exts_in {b : GBrowser} (hb : BrOk b) {e : Int} (h : e ∈ exts b) : 1 ≤ e ∧ e ≤ 5 := by
  obtain ⟨p, hp, rfl⟩ := List.mem_map.1 h
  exact sld_ext (hb.sld p hp)
theorem stored_sum {b : GBrowser} (hb : BrOk b) : storedBy b 1 + storedBy b 2 + storedBy b 3 + storedBy b 4 + storedBy b 5 = (b.Store.length : Int) := by
  have := st_sum b.Store fun x hx => exts_in hb (hb.sex x hx)
  unfold storedBy
  omega
end Go.Proofs.YtlmmdpmmdmhacaaGreat
namespace Go.Proofs.YtlmmdpmmdmhacaaGreat
open Go Go.ChangeShapes Go.WideShapes Go.ChangeAt Go.RowKit
set_option linter.unusedVariables false
set_option linter.unusedSimpArgs false
set_option maxRecDepth 100000
theorem share_le (b : GBrowser) (tab : Int) : (editShare b tab).1 ≤ (editShare b tab).2 := by
  unfold editShare
  split
  · exact Int.ofNat_le.2 (List.length_filter_le _ _)
  · exact Int.le_refl _
theorem share_nn (b : GBrowser) (tab : Int) : 0 ≤ (editShare b tab).1 := by
  unfold editShare
  split
  · exact Int.natCast_nonneg _
  · exact Int.le_refl _
theorem share_at {b : GBrowser} {tab : Int} (hi : 0 ≤ tab ∧ tab.toNat < b.Tabs.length) : (editShare b tab).2 = ((b.Tabs[tab.toNat]'hi.2).Edits.length : Int) := by
  unfold editShare; rw [tabNo_in hi]
def sumSt (b : GBrowser) : Nat → Int
  | 0 => 0
  | n + 1 => sumSt b n + storedBy b ((n : Int) + 1)
theorem sumSt_le (b : GBrowser) : ∀ n, 0 ≤ sumSt b n ∧ sumSt b n ≤ n * (b.Store.length : Int)
  | 0 => by simp [sumSt]
  | n + 1 => by
    have ih := sumSt_le b n
    have h1 : 0 ≤ storedBy b ((n : Int) + 1) := Int.natCast_nonneg _
    have h2 : storedBy b ((n : Int) + 1) ≤ (b.Store.length : Int) := Int.ofNat_le.2 (List.length_filter_le _ _)
    rw [sumSt]
    have e : ((n + 1 : Nat) : Int) * (b.Store.length : Int) = n * (b.Store.length : Int) + (b.Store.length : Int) := by rw [Int.natCast_add, Int.add_mul]; simp
    rw [e]
    omega
theorem sumSt_five {b : GBrowser} (hb : BrOk b) : sumSt b 5 = (b.Store.length : Int) := by
  have := stored_sum hb
  show 0 + storedBy b ((0 : Nat) + 1) + storedBy b ((1 : Nat) + 1) + storedBy b ((2 : Nat) + 1) + storedBy b ((3 : Nat) + 1) + storedBy b ((4 : Nat) + 1) = _
  rw [← this]
  simp
theorem rulesLeft_eq {b : GBrowser} (hb : BrOk b) : rulesLeft b + (b.Rules.length : Int) = 20 := by
  have h := hb.fair
  unfold isFair at h
  rw [Bool.and_eq_true, decide_eq_true_eq] at h
  unfold rulesLeft
  rw [maxI_def]
  split <;> omega
structure StM where
  S : Store
  b : GBrowser
  c1 : C
  c2 : C
  c3 : C
  c4 : C
  c5 : C
  c6 : C
  ok : BrOk b
  rd : Rd S b.d [.int .i64 b.Key, c1, c2, c3, c4, c5, c6, .int .i64 b.Now]
set_option maxHeartbeats 16000000 in
theorem ev_lawM (x0 : List Int) (c0 : C) (S : Store) (h0 : Rd S [.sl 1 (x0.map dByte)] [c0]) : EvA Tryz.prog 4 [.s c0] S (fun r _ => r = .v (.s (.bool true))) := by
  refine evA_introS tok Tryz.func4 (by kernel_rfl) rfl ?_
  have hz1 : ¬ 1048576 < (x0.length : Int) → x0.length ≤ 1048576 := fun h => by omega
  by_cases hbig : 1048576 < (x0.length : Int)
  · refine sm_den tok ?_
    repeat' ((conv => whnf) <;> first
     | (show CondP _ _ _; refine cS ?_) | refine callP_eq (ev_big _ _ _ rdA) ?_)
    all_goals first
      | rfl
      | (exfalso; omega)
  have hz := hz1 hbig
  refine sm_cut tok 5 144 (fun q : StC x0 c0 => [(0, .v (.s c0))]) (fun q => q.S) rfl ?_ ?_
  · repeat' ((conv => whnf) <;> first
     | (show CondP _ _ _; refine cS ?_) | refine callP_eq (ev_big _ _ _ rdA) ?_)
    (conv => whnf)
    refine callP_intro (ev_DrawEditShare x0 h0 hz) ?_; rintro _ S1 ⟨e1, b, tab, hb, c1, c2, c3, c4, c5, c6, rfl, rb⟩
    have hc := h0.ext e1
    have hsz := hb.ok.sz
    have ke := ev_iEditShare b tab _ _ rb (by omega)
    have kc := ev_iChangedNodes b tab _ _ rb (by omega)
    obtain ⟨_, _, _, _, _, _, hk0, t1, _, _, _, _, _⟩ := GBrowser.inv rb
    simp only [List.cons.injEq, true_and, and_true] at hk0
    obtain ⟨rfl, rfl, rfl, rfl, rfl, rfl⟩ := hk0
    repeat' ((conv => whnf) <;> first
     | (refine callP_eq ke ?_))
    (conv => whnf)
    refine callP_intro kc ?_; rintro _ S2 ⟨e2, k2, rfl, f2⟩
    replace hc := hc.ext e2
    have t2 := t1.ext e2
    have r2 := f2.rd
    have hle := share_le b tab
    have hnn := share_nn b tab
    clear ke kc rb
    by_cases hcl : changed b tab = []
    · have hcz : (changed b tab).length = 0 := by rw [hcl]; rfl
      repeat' ((conv => whnf) <;> first
       | (refine rd_lenm r2 ?_; intro hml) | (show CondP _ _ _; refine cS ?_) | refine cF ?_)
      all_goals try (exfalso; omega)
      (conv => whnf)
      exact ⟨⟨_, hc⟩, rfl, ⟨rfl, trivial⟩, rfl⟩
    · have hcz : 0 < (changed b tab).length := List.length_pos_iff.2 hcl
      have hin := inR_t (changed_in hcl)
      have hi : 0 ≤ tab ∧ tab.toNat < b.Tabs.length := by omega
      have hs := share_at hi
      have hne : (editShare b tab).2 ≠ 0 := fun h => hcl (changed_nil hb.nb hi (List.length_eq_zero_iff.1 (by omega)))
      obtain ⟨pcs, hpr, hpld⟩ := rd_loadx t2 (i := tab) hi
      obtain ⟨_, _, _, rfl, a1, a2, a3⟩ := GTab.inv hpr
      repeat' ((conv => whnf) <;> first
       | (refine hpld _ (Ext.refl _) _ ?_) | (refine rd_lenm r2 ?_; intro hml) | (show CondP _ _ _; refine cS ?_) | refine cD (fun _ => ?_) fun _ => ?_ | refine cF ?_ | refine rE fun hml => ?_ | refine rI rdA rf ix ?_)
      all_goals try (exfalso; omega)
      all_goals
        (conv => whnf)
        exact ⟨⟨_, hc⟩, rfl, ⟨rfl, trivial⟩, rfl⟩
  rintro ⟨S0, hc⟩
  dsimp only at hc ⊢
  refine sm_cut tok 4 144 (fun q : StM => [(8, .box [.int .i64 q.b.Key, q.c1, q.c2, q.c3, q.c4, q.c5, q.c6, .int .i64 q.b.Now])]) (fun q => q.S) rfl ?_ ?_
  · skip
    (conv => whnf)
    refine callP_intro (ev_DrawPowersOf x0 hc hz) ?_; rintro _ S1 ⟨e1, x, ext, s, hx, c1, c2, c3, c4, c5, c6, rfl, rx⟩
    have hxz := hx.ok.sz
    clear hc e1
    obtain ⟨_, _, _, _, _, _, hk0, x1, x2, x3, x4, x5, x6⟩ := GBrowser.inv rx
    simp only [List.cons.injEq, true_and, and_true] at hk0
    obtain ⟨rfl, rfl, rfl, rfl, rfl, rfl⟩ := hk0
    skip
    (conv => whnf)
    refine callP_intro (ev_iPowersOf x ext s _ _ rx) ?_; rintro _ S2 ⟨e2, k2, rfl, f2⟩
    have rp := f2.rd
    replace rx := rx.ext e2
    replace x2 := x2.ext e2
    replace x3 := x3.ext e2
    replace x4 := x4.ext e2
    clear f2 e2 x1 x5 x6
    have hpl := powGo_len (fun k => mayDo x.Grants x.Limits ext s k x.Now false) 4
    replace hpl : (powersOf x ext s).length ≤ 4 := hpl
    have hmem : ∀ (i : Nat) (hi : i < (powersOf x ext s).length), mayDo x.Grants x.Limits ext s ((powersOf x ext s)[i]) x.Now true = true ∧ 0 ≤ packOf x ext := fun i hi => mayDo_click hx.ok (((powGo_mem _ _ 4).1 (List.getElem_mem hi)).2.2)
    have kp := ev_iPackOf x ext _ _ rx
    skip
    refine loop_intro {i : Nat // i ≤ (powersOf x ext s).length ∧ True} [2, 12, 69, 70, 71, 72, 73, 74, 75, 76, 77, 78, 79, 80, 81, 82, 83, 84, 85, 86, 87, 88, 89, 90, 91, 92, 93, 94] (fun zb => [(12, .v (.s (.int .i64 zb.1)))]) (fun _ => S2) (fun zb => (powersOf x ext s).length - zb.1) ⟨0, Nat.zero_le _, trivial⟩ ?_ rfl ?_
    · (conv => whnf); repeat' (first | exact trivial | exact rfl | apply And.intro)
    rintro ⟨i, hi, hinv⟩; dsimp only
    by_cases hlt : i < (powersOf x ext s).length
    · have hm := hmem i hlt
      have km := ev_iMayDo x.Grants x.Limits ext s ((powersOf x ext s)[i]) x.Now true _ _ S2 x3 x4
      rw [hm.1] at km
      repeat' ((conv => whnf) <;> first
       | (refine rd_lenm rp ?_; intro hml) | (refine callP_eq kp ?_) | (refine callP_eq km ?_) | rw [wrapI_i64 (by omega)] | (show CondP _ _ _; refine cS ?_) | refine cF ?_ | refine rI rdA rf ix ?_ | refine rd_loadf rdA tv ix ?_ | refine draw_intro 75 [.fl 0, .fl 1, .fl 2, .fl 3, .fl 4, .fl 5, .fl 6, .fl 7, .fl 8, .fl 9, .fl 10, .fl 11, .st 12 [], .fl 13, .fl 14, .fl 15, .fl 16, .st 17 [], .fl 18, .fl 19] (by rfl) (by kernel_rfl) ?_)
      all_goals first
        | (exfalso; omega)
        | (refine ⟨⟨i + 1, by omega, trivial⟩, ?_, rfl, by dsimp only; omega⟩; (conv => whnf); repeat' (first | exact trivial | exact rfl | (show _ = _; congr 3; dsimp only; omega) | apply And.intro))
    have kw := ev_iWidestExt x s _ _ rx
    have kq := ev_iPowersOf x (widest x s) s _ _ rx
    by_cases hP : x.Packs = []
    · have hw : widest x s = 0 := by unfold widest; rw [hP]; rfl
      have hl : x.Packs.length = 0 := by rw [hP]; rfl
      have hpk : ¬ 0 ≤ packOf x ext := fun h => by
        obtain ⟨p, hp, _⟩ := List.mem_map.1 (packOf_mem.1 h)
        rw [hP] at hp; cases hp
      have hde : decide (widest x s = 0) = decide ((x.Packs.length : Int) = 0) := by rw [decide_eq_true hw, decide_eq_true (by omega)]
      repeat' ((conv => whnf) <;> first
       | (refine rd_lenm rp ?_; intro hml) | (refine callP_eq kw ?_) | (show CondP _ _ _; refine cS ?_) | refine rE fun hml => ?_)
      all_goals try (exfalso; omega)
      (conv => whnf)
      refine callP_intro kq ?_; rintro _ S3 ⟨e3, k3, rfl, f3⟩
      replace kp := ev_iPackOf x ext _ _ (rx.ext e3)
      have rp3 := rp.ext e3
      have rw3 := f3.rd
      have rx3 := rx.ext e3
      clear kw kq rx rp
      repeat' ((conv => whnf) <;> first
       | (refine rd_lenm rp3 ?_; intro hml) | (refine rd_lenm rw3 ?_; intro hml) | (refine callP_eq kp ?_) | (show CondP _ _ _; refine cS ?_) | refine cD (fun _ => ?_) fun _ => ?_ | refine cF ?_)
      all_goals try (exfalso; omega)
      all_goals
        (conv => whnf)
        exact ⟨⟨S3, x, _, _, _, _, _, _, hx.ok, rx3⟩, rfl, ⟨rfl, trivial⟩, rfl⟩
    · have hl : 0 < x.Packs.length := List.length_pos_iff.2 hP
      obtain ⟨⟨p0, hp0, hw0⟩, hwm⟩ := widest_max (b := x) (s := s) hP
      have hw : widest x s ≠ 0 := fun h => by
        have := exts_in hx.ok (List.mem_map.2 ⟨p0, hp0, rfl⟩)
        omega
      have hpk : 0 ≤ packOf x ext → (powersOf x ext s).length ≤ (powersOf x (widest x s) s).length := fun h => by
        obtain ⟨p, hp, he⟩ := List.mem_map.1 (packOf_mem.1 h)
        rw [← he]; exact hwm p hp
      clear hwm
      have hde : decide (widest x s = 0) = decide ((x.Packs.length : Int) = 0) := by rw [decide_eq_false hw, decide_eq_false (by omega)]
      repeat' ((conv => whnf) <;> first
       | (refine rd_lenm rp ?_; intro hml) | (refine callP_eq kw ?_) | (show CondP _ _ _; refine cS ?_) | refine rE fun hml => ?_)
      all_goals try (exfalso; omega)
      (conv => whnf)
      refine callP_intro kq ?_; rintro _ S3 ⟨e3, k3, rfl, f3⟩
      replace kp := ev_iPackOf x ext _ _ (rx.ext e3)
      have rp3 := rp.ext e3
      have rw3 := f3.rd
      have rx3 := rx.ext e3
      clear kw kq rx rp
      repeat' ((conv => whnf) <;> first
       | (refine rd_lenm rp3 ?_; intro hml) | (refine rd_lenm rw3 ?_; intro hml) | (refine callP_eq kp ?_) | (show CondP _ _ _; refine cS ?_) | refine cD (fun _ => ?_) fun _ => ?_ | refine cF ?_)
      all_goals try (exfalso; omega)
      all_goals try (exfalso; have := hpk (by omega); omega)
      all_goals
        (conv => whnf)
        exact ⟨⟨S3, x, _, _, _, _, _, _, hx.ok, rx3⟩, rfl, ⟨rfl, trivial⟩, rfl⟩
  rintro ⟨S, x, c1, c2, c3, c4, c5, c6, ok, rx⟩
  dsimp only at ok rx ⊢
  refine sm_den tok ?_
  have hxz := ok.sz
  have h5 := sumSt_five ok
  have hr := rulesLeft_eq ok
  have hsl := (store_iff.1 ok.store).len
  obtain ⟨_, _, _, _, _, _, hk0, x1, x2, x3, x4, x5, x6⟩ := GBrowser.inv rx
  simp only [List.cons.injEq, true_and, and_true] at hk0
  obtain ⟨rfl, rfl, rfl, rfl, rfl, rfl⟩ := hk0
  have kr := ev_iRulesLeft x _ _ rx
  skip
  refine loop_intro {p : Nat × Int // p.1 ≤ 5 ∧ p.2 = sumSt x p.1} [14, 15, 121, 122, 123, 124, 125, 126, 127, 128, 129] (fun zb => [(15, .v (.s (.int .i64 ((zb.1.1 : Int) + 1)))), (14, .v (.s (.int .i64 zb.1.2)))]) (fun _ => S) (fun zb => 5 - zb.1.1) ⟨(0, 0), Nat.zero_le _, rfl⟩ ?_ rfl ?_
  · (conv => whnf); repeat' (first | exact trivial | exact rfl | apply And.intro)
  rintro ⟨⟨i, st⟩, hi, hinv⟩; dsimp only
  replace hi : i ≤ 5 := hi; dsimp only at hinv
  have hb2 := sumSt_le x i
  have hb3 : (i : Int) * (x.Store.length : Int) ≤ 5 * 24 := Int.mul_le_mul (by omega) (by omega) (by omega) (by omega)
  by_cases hlt : i < 5
  · have ks := ev_iStoredBy x ((i : Int) + 1) _ _ rx (by omega)
    have hs1 : 0 ≤ storedBy x ((i : Int) + 1) := Int.natCast_nonneg _
    have hs2 : storedBy x ((i : Int) + 1) ≤ (x.Store.length : Int) := Int.ofNat_le.2 (List.length_filter_le _ _)
    repeat' ((conv => whnf) <;> first
     | (refine callP_eq ks ?_) | rw [wrapI_i64 (by omega)] | (show CondP _ _ _; refine cS ?_))
    all_goals first
      | (exfalso; omega)
      | (refine ⟨⟨(i + 1, st + storedBy x ((i : Int) + 1)), by dsimp only; omega, (show st + storedBy x ((i : Int) + 1) = sumSt x (i + 1) from by rw [sumSt, hinv])⟩, ?_, rfl, by dsimp only; omega⟩; (conv => whnf); repeat' (first | exact trivial | exact rfl | (show _ = _; congr 3; dsimp only; omega) | apply And.intro))
  have hi5 : i = 5 := by omega
  subst hi5
  rw [h5] at hinv
  repeat' ((conv => whnf) <;> first
   | (refine callP_eq kr ?_) | rw [wrapI_i64 (by omega)] | (show CondP _ _ _; refine cS ?_) | refine rE fun hml => ?_ | refine draw_intro 130 [.fl 0, .fl 1, .fl 2, .fl 3, .fl 4, .fl 5, .fl 6, .fl 8, .fl 9, .fl 10, .st 7 [8, 9, 10], .fl 11, .fl 12, .fl 13, .st 14 []] (by rfl) (by kernel_rfl) ?_ | refine And.intro ?_ ?_)
  all_goals first
    | rfl
    | (exfalso; omega)
    | (show _ = _; simp [resAV, *]; done)
    | (show _ = _; simp [resAV, *]; omega)
end Go.Proofs.YtlmmdpmmdmhacaaGreat
namespace Go.Proofs.YtlmmdpmmdmhacaaGreat
open Go Go.ChangeShapes Go.WideShapes Go.ChangeAt Go.RowKit
set_option linter.unusedVariables false
set_option linter.unusedSimpArgs false
section
variable {P : Program} {S : Store}
theorem wt_int {m : Nat} {t : TypeId} {k : IntKind} {cs : List C} (ht : P.underlying t = some (.int k)) (h : WT P S m t cs) : ∃ z : Int, Rd S [.x (.int k z)] cs := by
  cases m with
  | zero => exact h.elim
  | succ m =>
    unfold WT at h
    rw [ht] at h
    obtain ⟨z, rfl, _⟩ := h
    exact ⟨z, rd_x rd_nil⟩
theorem rep2_of {α : Type} {f : α → List D} : ∀ (rows : List (List C)), (∀ x ∈ rows, ∃ y : α, Rd S (f y) x) → ∃ (l : List α) (js : List Nat), l.length = rows.length ∧ Rep2 false S (l.map f) rows js
  | [], _ => ⟨[], [], rfl, by rw [List.map_nil, rep2_nil]; exact ⟨rfl, rfl⟩⟩
  | x :: rows, h => by
    obtain ⟨y, i, hy⟩ := h x (by simp)
    obtain ⟨l, js, h1, h2⟩ := rep2_of rows (fun z hz => h z (by simp [hz]))
    exact ⟨y :: l, i ++ js, by simp [h1], by rw [List.map_cons, rep2_cons]; exact ⟨x, rows, i, js, rfl, rfl, hy, h2⟩⟩
theorem wt_slice {α : Type} {f : α → List D} {m : Nat} {t e : TypeId} {k : Nat} {cs : List C} (ht : P.underlying t = some (.slice e)) (hk : P.cellsOf e = k) (hel : ∀ m cs, WT P S m e cs → ∃ y : α, Rd S (f y) cs) (h : WT P S m t cs) : ∃ l : List α, Rd S [.sl k (l.map f)] cs := by
  cases m with
  | zero => exact h.elim
  | succ m =>
    unfold WT at h
    rw [ht] at h
    obtain ⟨c, rows, rfl, he, hl, hc, hx⟩ := h
    obtain ⟨l, js, h1, h2⟩ := rep2_of (f := f) rows fun x hx' => hel m x (hx x hx')
    rcases hc with rfl | rfl | ⟨id, rfl, hid⟩
    · have : rows = [] := by simpa [elems] using he.symm
      subst this
      have : l = [] := List.eq_nil_of_length_eq_zero h1
      subst this
      exact ⟨[], rd_one (q := false) (ids := []) (by unfold Rep; exact ⟨Nat.zero_le _, .inl ⟨rfl, .inl rfl, rfl⟩⟩)⟩
    · have : rows = [] := by simpa [elems] using he.symm
      subst this
      have : l = [] := List.eq_nil_of_length_eq_zero h1
      subst this
      exact ⟨[], rd_one (q := false) (ids := []) (by unfold Rep; exact ⟨Nat.zero_le _, .inl ⟨rfl, .inr rfl, rfl⟩⟩)⟩
    · refine ⟨l, rd_one (q := false) (ids := id :: js) ?_⟩
      unfold Rep
      refine ⟨by simpa [h1] using hl, .inr ⟨id, 0, rows.length, _, js, by simp [h1], rfl, hid, hk, rfl, by simp [h1], (by intro h; cases h), ?_⟩⟩
      simp only
      rw [List.drop_zero, List.take_of_length_le (by simp [h1])]
      exact h2
theorem vt_sc {m : Nat} {t : TypeId} {d : TypeDesc} {v : V} (ht : P.underlying t = some d) (hd : ∀ fs, d ≠ .struct fs) (h : VT P S m t v) : ∃ c, v = .s c ∧ WT P S m t [c] := by
  unfold VT at h
  rw [ht] at h
  split at h
  · rename_i fs he; cases he; exact absurd rfl (hd fs)
  · exact h
end
theorem own : ownKnob Tryz.prog.godebug = none := by kernel_rfl
theorem laidOut : laidOutB Tryz.prog = true := by kernel_rfl
end Go.Proofs.YtlmmdpmmdmhacaaGreat
