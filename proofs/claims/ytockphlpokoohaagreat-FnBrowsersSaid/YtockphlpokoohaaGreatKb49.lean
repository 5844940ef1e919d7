/- A text of the proof. From the statement's arguments to typed values; what a law is made of. -/
import Derived.Test.YtockphlpokoohaaGreatKb46
import Derived.Test.YtockphlpokoohaaGreatKb47
import Derived.Test.YtockphlpokoohaaGreatKb48
import Derived.Test.YtockphlpokoohaaGreatKb22
import Derived.Test.YtockphlpokoohaaGreatRows
namespace Go.Proofs.YtockphlpokoohaaGreat
open Go Go.ChangeShapes Go.WideShapes Go.ChangeAt Go.RowKit
set_option linter.unusedVariables false
set_option linter.unusedSimpArgs false
set_option maxRecDepth 100000
set_option maxHeartbeats 8000000 in
theorem ev_law (x0 : List Int) (c0 : C) (S : Store) (h0 : Rd S [.sl 1 (x0.map dByte)] [c0]) : EvA Tryz.prog 3 [.s c0] S (fun r _ => r = .v (.s (.bool true))) := by
  refine evA_intro tok Tryz.func3 (by kernel_rfl) rfl ?_
  by_cases hbig : 1048576 < (x0.length : Int)
  · repeat' ((conv => whnf) <;> first
     | (show CondP _ _ _; refine cS ?_) | refine cD (fun _ => ?_) fun _ => ?_ | refine cE (fun _ => ?_) fun _ => ?_ | refine cT ?_ | refine cF ?_ | refine cN (fun _ => ?_) fun _ => ?_ | refine cI (fun _ => ?_) fun _ => ?_ | refine callP_eq (ev_big _ _ _ rdA) ?_ | (refine callP_intro (ev_DrawNewBrowser _ rdA om) ?_; rintro _ Sn ⟨hEn, kn, tn, hzn, _, rfl, hFn⟩) | (refine callP_intro (ev_iNewBrowser _ _ _ _ rdA (by first | omega | (simp only [szL, List.length_map] at *; omega))) ?_; rintro _ Sn ⟨hEn, _, _, _, _, _, _, rfl, hFn⟩) | refine callP_eq (ev_iIsBrowser _ _ _ rdcA (by first | assumption | omega)) ?_ | (refine callP_intro (ev_iInstalled _ _ _ rdcA (by (first | omega | exact sz_at hz om | (simp only [szL]; omega)))) ?_; rintro _ Sn ⟨hEn, cn, rfl, hFn⟩) | (refine callP_eq (ev_iPackOf _ _ _ _ rdcA) ?_) | (refine callP_intro (ev_DrawPackOf _ rdA om) ?_; rintro _ Sn ⟨hEn, bn, en, hzn, _, _, _, _, _, _, rfl, hRn⟩) | refine callP_eq (ev_contains _ _ _ _ rdA) ?_ | (refine callP_intro (ev_DrawEqualBrowsers _ rdA om) ?_; rintro _ Sn ⟨hEn, an, bn, hzn, hzn', _, _, _, _, _, _, _, _, _, _, _, _, rfl, hRn, hRn'⟩) | (refine callP_eq (ev_iEqualBrowsers _ _ _ _ _ rdcA rdcA) ?_) | refine rE fun hml => ?_ | refine rI rdA rf ix ?_ | (refine rd_loadm (f := GPackage.d) rdA ix ?_; intro _ hcs; obtain ⟨_, _, _, _, rfl, _, _, _, _⟩ := GPackage.inv hcs) | refine nP ?_ | refine draw_intro 76 [.fl 0, .fl 1, .fl 3, .fl 4, .st 2 [3, 4], .st 5 [], .fl 6, .fl 7, .fl 8, .fl 9, .st 10 [], .fl 11, .st 12 []] (by rfl) (by kernel_rfl) ?_ | refine And.intro ?_ ?_)
    all_goals first
      | rfl
      | (exfalso; omega)
  have hz : x0.length ≤ 1048576 := by omega
  repeat' ((conv => whnf) <;> first
   | (show CondP _ _ _; refine cS ?_) | refine cD (fun _ => ?_) fun _ => ?_ | refine cE (fun _ => ?_) fun _ => ?_ | refine cT ?_ | refine cF ?_ | refine cN (fun _ => ?_) fun _ => ?_ | refine cI (fun _ => ?_) fun _ => ?_ | refine callP_eq (ev_big _ _ _ rdA) ?_ | refine callP_eq (ev_iIsBrowser _ _ _ rdcA (by first | assumption | omega)) ?_ | (refine callP_eq (ev_iPackOf _ _ _ _ rdcA) ?_) | refine callP_eq (ev_contains _ _ _ _ rdA) ?_ | (refine callP_eq (ev_iEqualBrowsers _ _ _ _ _ rdcA rdcA) ?_) | refine rE fun hml => ?_ | refine rI rdA rf ix ?_ | (refine rd_loadm (f := GPackage.d) rdA ix ?_; intro _ hcs; obtain ⟨_, _, _, _, rfl, _, _, _, _⟩ := GPackage.inv hcs) | refine nP ?_ | refine draw_intro 76 [.fl 0, .fl 1, .fl 3, .fl 4, .st 2 [3, 4], .st 5 [], .fl 6, .fl 7, .fl 8, .fl 9, .st 10 [], .fl 11, .st 12 []] (by rfl) (by kernel_rfl) ?_ | refine And.intro ?_ ?_)
  (conv => whnf)
  refine callP_intro (ev_DrawNewBrowser x0 h0 hz) ?_; rintro _ S1 ⟨e1, key, ts, hzt, d, rfl, f1⟩
  have h1 := h0.ext e1
  repeat' ((conv => whnf) <;> first
   | (show CondP _ _ _; refine cS ?_) | refine cD (fun _ => ?_) fun _ => ?_ | refine cE (fun _ => ?_) fun _ => ?_ | refine cT ?_ | refine cF ?_ | refine cN (fun _ => ?_) fun _ => ?_ | refine cI (fun _ => ?_) fun _ => ?_ | refine callP_eq (ev_big _ _ _ rdA) ?_ | refine callP_eq (ev_iIsBrowser _ _ _ rdcA (by first | assumption | omega)) ?_ | (refine callP_eq (ev_iPackOf _ _ _ _ rdcA) ?_) | refine callP_eq (ev_contains _ _ _ _ rdA) ?_ | (refine callP_eq (ev_iEqualBrowsers _ _ _ _ _ rdcA rdcA) ?_) | refine rE fun hml => ?_ | refine rI rdA rf ix ?_ | (refine rd_loadm (f := GPackage.d) rdA ix ?_; intro _ hcs; obtain ⟨_, _, _, _, rfl, _, _, _, _⟩ := GPackage.inv hcs) | refine nP ?_ | refine draw_intro 76 [.fl 0, .fl 1, .fl 3, .fl 4, .st 2 [3, 4], .st 5 [], .fl 6, .fl 7, .fl 8, .fl 9, .st 10 [], .fl 11, .st 12 []] (by rfl) (by kernel_rfl) ?_ | refine And.intro ?_ ?_)
  (conv => whnf)
  have hsz := newB_sz key ts
  refine callP_intro (ev_iNewBrowser key ts _ _ f1.rd (by omega)) ?_; rintro _ S2 ⟨e2, c1, c2, c3, c4, c5, c6, rfl, f2⟩
  have h2 := h1.ext e2
  cases hok : isBrowser (newB key ts)
  case' false =>
    rw [show newBrowser key ts = (default, false) from by unfold newBrowser; rw [if_neg (by rw [hok]; decide)]] at f2 ⊢
    repeat' ((conv => whnf) <;> first
     | (show CondP _ _ _; refine cS ?_) | refine cD (fun _ => ?_) fun _ => ?_ | refine cE (fun _ => ?_) fun _ => ?_ | refine cT ?_ | refine cF ?_ | refine cN (fun _ => ?_) fun _ => ?_ | refine cI (fun _ => ?_) fun _ => ?_ | refine callP_eq (ev_big _ _ _ rdA) ?_ | refine callP_eq (ev_iIsBrowser _ _ _ rdcA (by first | assumption | omega)) ?_ | (refine callP_eq (ev_iPackOf _ _ _ _ rdcA) ?_) | refine callP_eq (ev_contains _ _ _ _ rdA) ?_ | (refine callP_eq (ev_iEqualBrowsers _ _ _ _ _ rdcA rdcA) ?_) | refine rE fun hml => ?_ | refine rI rdA rf ix ?_ | (refine rd_loadm (f := GPackage.d) rdA ix ?_; intro _ hcs; obtain ⟨_, _, _, _, rfl, _, _, _, _⟩ := GPackage.inv hcs) | refine nP ?_ | refine draw_intro 76 [.fl 0, .fl 1, .fl 3, .fl 4, .st 2 [3, 4], .st 5 [], .fl 6, .fl 7, .fl 8, .fl 9, .st 10 [], .fl 11, .st 12 []] (by rfl) (by kernel_rfl) ?_ | refine And.intro ?_ ?_)
    clear f2
  case' true =>
    rw [show newBrowser key ts = (newB key ts, true) from by unfold newBrowser; rw [if_pos hok]] at f2 ⊢
    have r2 : Rd S2 (newB key ts).d _ := f2.rd
    repeat' ((conv => whnf) <;> first
     | (refine callP_eq (ev_iIsBrowser (newB key ts) _ _ r2 om) ?_) | (show CondP _ _ _; refine cS ?_) | refine cD (fun _ => ?_) fun _ => ?_ | refine cE (fun _ => ?_) fun _ => ?_ | refine cT ?_ | refine cF ?_ | refine cN (fun _ => ?_) fun _ => ?_ | refine cI (fun _ => ?_) fun _ => ?_ | refine callP_eq (ev_big _ _ _ rdA) ?_ | refine callP_eq (ev_iIsBrowser _ _ _ rdcA (by first | assumption | omega)) ?_ | (refine callP_eq (ev_iPackOf _ _ _ _ rdcA) ?_) | refine callP_eq (ev_contains _ _ _ _ rdA) ?_ | (refine callP_eq (ev_iEqualBrowsers _ _ _ _ _ rdcA rdcA) ?_) | refine rE fun hml => ?_ | refine rI rdA rf ix ?_ | (refine rd_loadm (f := GPackage.d) rdA ix ?_; intro _ hcs; obtain ⟨_, _, _, _, rfl, _, _, _, _⟩ := GPackage.inv hcs) | refine nP ?_ | refine draw_intro 76 [.fl 0, .fl 1, .fl 3, .fl 4, .st 2 [3, 4], .st 5 [], .fl 6, .fl 7, .fl 8, .fl 9, .st 10 [], .fl 11, .st 12 []] (by rfl) (by kernel_rfl) ?_ | refine And.intro ?_ ?_)
    all_goals try (exfalso; simp_all; done)
    (conv => whnf)
    refine callP_intro (ev_iInstalled (newB key ts) _ _ r2 (by omega)) ?_; rintro _ S3 ⟨e3, d3, rfl, f3⟩
    have r3 := r2.ext e3
    have q3 : Rd S3 [.sl 1 (([] : List Int).map dInt)] [d3] := f3.rd
    repeat' ((conv => whnf) <;> first
     | (refine callP_eq (ev_iPackOf (newB key ts) 1 _ _ r3) ?_) | (refine rd_lenm q3 ?_; intro hml) | (show CondP _ _ _; refine cS ?_) | refine cD (fun _ => ?_) fun _ => ?_ | refine cE (fun _ => ?_) fun _ => ?_ | refine cT ?_ | refine cF ?_ | refine cN (fun _ => ?_) fun _ => ?_ | refine cI (fun _ => ?_) fun _ => ?_ | refine callP_eq (ev_big _ _ _ rdA) ?_ | refine callP_eq (ev_iIsBrowser _ _ _ rdcA (by first | assumption | omega)) ?_ | (refine callP_eq (ev_iPackOf _ _ _ _ rdcA) ?_) | refine callP_eq (ev_contains _ _ _ _ rdA) ?_ | (refine callP_eq (ev_iEqualBrowsers _ _ _ _ _ rdcA rdcA) ?_) | refine rE fun hml => ?_ | refine rI rdA rf ix ?_ | (refine rd_loadm (f := GPackage.d) rdA ix ?_; intro _ hcs; obtain ⟨_, _, _, _, rfl, _, _, _, _⟩ := GPackage.inv hcs) | refine nP ?_ | refine draw_intro 76 [.fl 0, .fl 1, .fl 3, .fl 4, .st 2 [3, 4], .st 5 [], .fl 6, .fl 7, .fl 8, .fl 9, .st 10 [], .fl 11, .st 12 []] (by rfl) (by kernel_rfl) ?_ | refine And.intro ?_ ?_)
    all_goals try (exfalso; simp_all; done)
    replace h2 := h2.ext e3
    clear f2 f3 r2 r3 q3 e3
  all_goals
    (conv => whnf)
    refine callP_intro (ev_DrawPackOf x0 h2 hz) ?_; rintro _ S4 ⟨e4, x, ext, hzx, k1, k2, k3, k4, k5, k6, rfl, hx⟩
    replace h2 := h2.ext e4
    obtain ⟨_, _, _, _, _, _, hk0, p1, p2, p3, p4, p5, p6⟩ := GBrowser.inv hx
    simp only [List.cons.injEq, true_and, and_true] at hk0
    obtain ⟨rfl, rfl, rfl, rfl, rfl, rfl⟩ := hk0
    repeat' ((conv => whnf) <;> first
     | (refine callP_eq (ev_iPackOf x ext _ _ hx) ?_) | (show CondP _ _ _; refine cS ?_) | refine cD (fun _ => ?_) fun _ => ?_ | refine cE (fun _ => ?_) fun _ => ?_ | refine cT ?_ | refine cF ?_ | refine cN (fun _ => ?_) fun _ => ?_ | refine cI (fun _ => ?_) fun _ => ?_ | refine callP_eq (ev_big _ _ _ rdA) ?_ | refine callP_eq (ev_iIsBrowser _ _ _ rdcA (by first | assumption | omega)) ?_ | (refine callP_eq (ev_iPackOf _ _ _ _ rdcA) ?_) | refine callP_eq (ev_contains _ _ _ _ rdA) ?_ | (refine callP_eq (ev_iEqualBrowsers _ _ _ _ _ rdcA rdcA) ?_) | refine rE fun hml => ?_ | refine rI rdA rf ix ?_ | (refine rd_loadm (f := GPackage.d) rdA ix ?_; intro _ hcs; obtain ⟨_, _, _, _, rfl, _, _, _, _⟩ := GPackage.inv hcs) | refine nP ?_ | refine draw_intro 76 [.fl 0, .fl 1, .fl 3, .fl 4, .st 2 [3, 4], .st 5 [], .fl 6, .fl 7, .fl 8, .fl 9, .st 10 [], .fl 11, .st 12 []] (by rfl) (by kernel_rfl) ?_ | refine And.intro ?_ ?_)
    (conv => whnf)
    refine callP_intro (ev_iInstalled x _ _ hx (by omega)) ?_; rintro _ S5 ⟨e5, cI, rfl, f5⟩
    replace h2 := h2.ext e5
    have qI := f5.rd
    have pp2 := p2.ext e5
    have hcn : decide (ext ∈ installed x) = decide (0 ≤ packOf x ext) := by rw [decide_eq_decide]; exact packOf_mem.symm
    have hev := ev_contains (installed x) ext cI S5 qI
    rw [hcn] at hev
    clear f5 qI hcn e4 e5 p1 p2 p3 p4 p5 p6 hx
    by_cases hk : 0 ≤ packOf x ext
    case' pos =>
      obtain ⟨hi, he⟩ := packOf_at hk
      have hi' : 0 ≤ packOf x ext ∧ (packOf x ext).toNat < x.Packs.length := ⟨hk, hi⟩
      rw [decide_eq_true hk] at hev
      repeat' ((conv => whnf) <;> first
       | (refine rd_loadm (f := GPackage.d) pp2 hi' ?_; intro _ hcs; obtain ⟨_, _, _, _, rfl, _⟩ := GPackage.inv hcs) | (refine rI pp2 rf hi' ?_) | (refine callP_eq hev ?_) | (show CondP _ _ _; refine cS ?_) | refine cD (fun _ => ?_) fun _ => ?_ | refine cE (fun _ => ?_) fun _ => ?_ | refine cT ?_ | refine cF ?_ | refine cN (fun _ => ?_) fun _ => ?_ | refine cI (fun _ => ?_) fun _ => ?_ | refine callP_eq (ev_big _ _ _ rdA) ?_ | refine callP_eq (ev_iIsBrowser _ _ _ rdcA (by first | assumption | omega)) ?_ | (refine callP_eq (ev_iPackOf _ _ _ _ rdcA) ?_) | refine callP_eq (ev_contains _ _ _ _ rdA) ?_ | (refine callP_eq (ev_iEqualBrowsers _ _ _ _ _ rdcA rdcA) ?_) | refine rE fun hml => ?_ | refine rI rdA rf ix ?_ | (refine rd_loadm (f := GPackage.d) rdA ix ?_; intro _ hcs; obtain ⟨_, _, _, _, rfl, _, _, _, _⟩ := GPackage.inv hcs) | refine nP ?_ | refine draw_intro 76 [.fl 0, .fl 1, .fl 3, .fl 4, .st 2 [3, 4], .st 5 [], .fl 6, .fl 7, .fl 8, .fl 9, .st 10 [], .fl 11, .st 12 []] (by rfl) (by kernel_rfl) ?_ | refine And.intro ?_ ?_)
      all_goals try (exfalso; simp_all; done)
    case' neg =>
      rw [decide_eq_false hk] at hev
      repeat' ((conv => whnf) <;> first
       | (refine callP_eq hev ?_) | (show CondP _ _ _; refine cS ?_) | refine cD (fun _ => ?_) fun _ => ?_ | refine cE (fun _ => ?_) fun _ => ?_ | refine cT ?_ | refine cF ?_ | refine cN (fun _ => ?_) fun _ => ?_ | refine cI (fun _ => ?_) fun _ => ?_ | refine callP_eq (ev_big _ _ _ rdA) ?_ | refine callP_eq (ev_iIsBrowser _ _ _ rdcA (by first | assumption | omega)) ?_ | (refine callP_eq (ev_iPackOf _ _ _ _ rdcA) ?_) | refine callP_eq (ev_contains _ _ _ _ rdA) ?_ | (refine callP_eq (ev_iEqualBrowsers _ _ _ _ _ rdcA rdcA) ?_) | refine rE fun hml => ?_ | refine rI rdA rf ix ?_ | (refine rd_loadm (f := GPackage.d) rdA ix ?_; intro _ hcs; obtain ⟨_, _, _, _, rfl, _, _, _, _⟩ := GPackage.inv hcs) | refine nP ?_ | refine draw_intro 76 [.fl 0, .fl 1, .fl 3, .fl 4, .st 2 [3, 4], .st 5 [], .fl 6, .fl 7, .fl 8, .fl 9, .st 10 [], .fl 11, .st 12 []] (by rfl) (by kernel_rfl) ?_ | refine And.intro ?_ ?_)
      all_goals try (exfalso; simp_all; done)
    all_goals clear hev
  all_goals
    (conv => whnf)
    refine callP_intro (ev_DrawEqualBrowsers x0 h2 hz) ?_; rintro _ S6 ⟨e6, a, c, hza, hzc, _, _, _, _, _, _, _, _, _, _, _, _, rfl, ha, hc⟩
    have hsym : (decide (a = c) == decide (c = a)) = true := by
      by_cases hab : a = c
      · subst hab; simp
      · have hba : ¬ c = a := fun h => hab h.symm
        simp [hab, hba]
    repeat' ((conv => whnf) <;> first
     | (refine callP_eq (ev_iEqualBrowsers a a _ _ _ ha ha) ?_) | (refine callP_eq (ev_iEqualBrowsers c a _ _ _ hc ha) ?_) | (refine callP_eq (ev_iEqualBrowsers a c _ _ _ ha hc) ?_) | (show CondP _ _ _; refine cS ?_) | refine cD (fun _ => ?_) fun _ => ?_ | refine cE (fun _ => ?_) fun _ => ?_ | refine cT ?_ | refine cF ?_ | refine cN (fun _ => ?_) fun _ => ?_ | refine cI (fun _ => ?_) fun _ => ?_ | refine callP_eq (ev_big _ _ _ rdA) ?_ | (refine callP_intro (ev_DrawNewBrowser _ rdA om) ?_; rintro _ Sn ⟨hEn, kn, tn, hzn, _, rfl, hFn⟩) | (refine callP_intro (ev_iNewBrowser _ _ _ _ rdA (by first | omega | (simp only [szL, List.length_map] at *; omega))) ?_; rintro _ Sn ⟨hEn, _, _, _, _, _, _, rfl, hFn⟩) | refine callP_eq (ev_iIsBrowser _ _ _ rdcA (by first | assumption | omega)) ?_ | (refine callP_intro (ev_iInstalled _ _ _ rdcA (by (first | omega | exact sz_at hz om | (simp only [szL]; omega)))) ?_; rintro _ Sn ⟨hEn, cn, rfl, hFn⟩) | (refine callP_eq (ev_iPackOf _ _ _ _ rdcA) ?_) | (refine callP_intro (ev_DrawPackOf _ rdA om) ?_; rintro _ Sn ⟨hEn, bn, en, hzn, _, _, _, _, _, _, rfl, hRn⟩) | refine callP_eq (ev_contains _ _ _ _ rdA) ?_ | (refine callP_intro (ev_DrawEqualBrowsers _ rdA om) ?_; rintro _ Sn ⟨hEn, an, bn, hzn, hzn', _, _, _, _, _, _, _, _, _, _, _, _, rfl, hRn, hRn'⟩) | (refine callP_eq (ev_iEqualBrowsers _ _ _ _ _ rdcA rdcA) ?_) | refine rE fun hml => ?_ | refine rI rdA rf ix ?_ | (refine rd_loadm (f := GPackage.d) rdA ix ?_; intro _ hcs; obtain ⟨_, _, _, _, rfl, _, _, _, _⟩ := GPackage.inv hcs) | refine nP ?_ | refine draw_intro 76 [.fl 0, .fl 1, .fl 3, .fl 4, .st 2 [3, 4], .st 5 [], .fl 6, .fl 7, .fl 8, .fl 9, .st 10 [], .fl 11, .st 12 []] (by rfl) (by kernel_rfl) ?_ | refine And.intro ?_ ?_)
  all_goals first
    | rfl
    | (exfalso; omega)
    | (show _ = _; simp [hsym, resAV]; done)
end Go.Proofs.YtockphlpokoohaaGreat
namespace Go.Proofs.YtockphlpokoohaaGreat
open Go Go.ChangeShapes Go.WideShapes Go.ChangeAt Go.RowKit
set_option linter.unusedVariables false
set_option linter.unusedSimpArgs false
section
variable {P : Program} {S : Store}
theorem wt_int {m : Nat} {t : TypeId} {k : IntKind} {cs : List C} (ht : P.underlying t = some (.int k)) (h : WT P S m t cs) : ∃ z : Int, Rd S [.x (.int k z)] cs := by
  cases m with
  | zero => exact h.elim
  | succ m =>
    unfold WT at h
    rw [ht] at h
    obtain ⟨z, rfl, _⟩ := h
    exact ⟨z, rd_x rd_nil⟩
theorem rep2_of {α : Type} {f : α → List D} : ∀ (rows : List (List C)), (∀ x ∈ rows, ∃ y : α, Rd S (f y) x) → ∃ (l : List α) (js : List Nat), l.length = rows.length ∧ Rep2 false S (l.map f) rows js
  | [], _ => ⟨[], [], rfl, by rw [List.map_nil, rep2_nil]; exact ⟨rfl, rfl⟩⟩
  | x :: rows, h => by
    obtain ⟨y, i, hy⟩ := h x (by simp)
    obtain ⟨l, js, h1, h2⟩ := rep2_of rows (fun z hz => h z (by simp [hz]))
    exact ⟨y :: l, i ++ js, by simp [h1], by rw [List.map_cons, rep2_cons]; exact ⟨x, rows, i, js, rfl, rfl, hy, h2⟩⟩
theorem wt_slice {α : Type} {f : α → List D} {m : Nat} {t e : TypeId} {k : Nat} {cs : List C} (ht : P.underlying t = some (.slice e)) (hk : P.cellsOf e = k) (hel : ∀ m cs, WT P S m e cs → ∃ y : α, Rd S (f y) cs) (h : WT P S m t cs) : ∃ l : List α, Rd S [.sl k (l.map f)] cs := by
  cases m with
  | zero => exact h.elim
  | succ m =>
    unfold WT at h
    rw [ht] at h
    obtain ⟨c, rows, rfl, he, hl, hc, hx⟩ := h
    obtain ⟨l, js, h1, h2⟩ := rep2_of (f := f) rows fun x hx' => hel m x (hx x hx')
    rcases hc with rfl | rfl | ⟨id, rfl, hid⟩
    · have : rows = [] := by simpa [elems] using he.symm
      subst this
      have : l = [] := List.eq_nil_of_length_eq_zero h1
      subst this
      exact ⟨[], rd_one (q := false) (ids := []) (by unfold Rep; exact ⟨Nat.zero_le _, .inl ⟨rfl, .inl rfl, rfl⟩⟩)⟩
    · have : rows = [] := by simpa [elems] using he.symm
      subst this
      have : l = [] := List.eq_nil_of_length_eq_zero h1
      subst this
      exact ⟨[], rd_one (q := false) (ids := []) (by unfold Rep; exact ⟨Nat.zero_le _, .inl ⟨rfl, .inr rfl, rfl⟩⟩)⟩
    · refine ⟨l, rd_one (q := false) (ids := id :: js) ?_⟩
      unfold Rep
      refine ⟨by simpa [h1] using hl, .inr ⟨id, 0, rows.length, _, js, by simp [h1], rfl, hid, hk, rfl, by simp [h1], (by intro h; cases h), ?_⟩⟩
      simp only
      rw [List.drop_zero, List.take_of_length_le (by simp [h1])]
      exact h2
theorem vt_sc {m : Nat} {t : TypeId} {d : TypeDesc} {v : V} (ht : P.underlying t = some d) (hd : ∀ fs, d ≠ .struct fs) (h : VT P S m t v) : ∃ c, v = .s c ∧ WT P S m t [c] := by
  unfold VT at h
  rw [ht] at h
  split at h
  · rename_i fs he; cases he; exact absurd rfl (hd fs)
  · exact h
end
theorem own : ownKnob Tryz.prog.godebug = none := by kernel_rfl
theorem laidOut : laidOutB Tryz.prog = true := by kernel_rfl
end Go.Proofs.YtockphlpokoohaaGreat
