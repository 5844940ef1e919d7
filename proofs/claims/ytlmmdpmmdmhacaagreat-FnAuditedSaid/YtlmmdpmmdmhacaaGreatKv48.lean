/- A text of the proof. From the statement's arguments to typed values; what a law is made of. -/
import Derived.Test.YtlmmdpmmdmhacaaGreatKv47
import Derived.Test.YtlmmdpmmdmhacaaGreatKv35
import Derived.Test.YtlmmdpmmdmhacaaGreatKv44
import Derived.Test.YtlmmdpmmdmhacaaGreatKv23
import Derived.Test.YtlmmdpmmdmhacaaGreatKv19
import Derived.Test.YtlmmdpmmdmhacaaGreatKv18
import Derived.Test.YtlmmdpmmdmhacaaGreatRows
namespace Go.Proofs.YtlmmdpmmdmhacaaGreat
open Go Go.ChangeShapes Go.WideShapes Go.ChangeAt Go.RowKit
set_option linter.unusedVariables false
set_option linter.unusedSimpArgs false
set_option maxRecDepth 100000
theorem eqS_lit (a b : Array UInt8) : eqS ⟨a⟩ ⟨b⟩ = (a.toList == b.toList) := by
  unfold eqS
  rw [Lib.toList_data, Lib.toList_data]
theorem fil_pos {α : Type} {P : α → Bool} {l : List α} {x : α} (h : x ∈ l) (hp : P x = true) : 0 < (l.filter P).length :=
  List.length_pos_of_mem (List.mem_filter.2 ⟨h, hp⟩)
theorem fil_zero {α : Type} {P : α → Bool} {l : List α} (h : ∀ x ∈ l, P x = false) : (l.filter P).length = 0 := by
  rw [List.length_eq_zero_iff, List.filter_eq_nil_iff]
  intro x hx hq
  rw [h x hx] at hq; cases hq
theorem sumEd_nn (ext : Int) : ∀ l : List GTab, 0 ≤ sumEd ext l
  | [] => Int.le_refl _
  | t :: r => by have := sumEd_nn ext r; rw [sumEd]; omega
theorem sumEd_zero (ext : Int) : ∀ l : List GTab, (∀ t ∈ l, ∀ e ∈ t.Edits, e.By ≠ ext) → sumEd ext l = 0
  | [], _ => rfl
  | t :: r, h => by
    have h1 := sumEd_zero ext r fun t ht => h t (List.mem_cons_of_mem _ ht)
    have h2 : (t.Edits.filter (edBy1 ext)).length = 0 := fil_zero fun e he => decide_eq_false (h t List.mem_cons_self e he)
    rw [sumEd, h1, h2]; rfl
theorem traces_iff {b : GBrowser} (hb : BrOk b) {ext : Int} (he : 1 ≤ ext) : 0 < tracesOf b ext ↔ 0 ≤ packOf b ext := by
  have hs := sumEd_nn ext b.Tabs
  unfold tracesOf trBase storedBy
  constructor
  · intro h
    by_cases hp : 0 ≤ packOf b ext
    · exact hp
    exfalso
    have hn : ext ∉ exts b := fun hh => hp (packOf_mem.2 hh)
    have z1 : (b.Grants.filter (grOf ext)).length = 0 := fil_zero fun x hx => decide_eq_false fun hh => hn (hh ▸ hb.gex x hx)
    have z2 : (b.Rules.filter (ruOf ext)).length = 0 := fil_zero fun x hx => decide_eq_false fun hh => hn (hh ▸ hb.rex x hx)
    have z3 : (b.Store.filter (stOf ext)).length = 0 := fil_zero fun x hx => decide_eq_false fun hh => hn (hh ▸ hb.sex x hx)
    have z4 : (b.Packs.filter (paOf ext)).length = 0 := fil_zero fun x hx => decide_eq_false fun hh => hn (hh ▸ List.mem_map.2 ⟨x, hx, rfl⟩)
    have z5 : sumEd ext b.Tabs = 0 := sumEd_zero ext _ fun t ht e he' hh => by
      rcases hb.eds t ht e he' with h0 | h0
      · omega
      · exact hn (hh ▸ h0)
    omega
  · intro h
    obtain ⟨p, hp, hpe⟩ := List.mem_map.1 (packOf_mem.1 h)
    have := fil_pos (P := paOf ext) hp (decide_eq_true hpe)
    omega
set_option maxHeartbeats 8000000 in
theorem ev_lawU (x0 : List Int) (c0 : C) (S : Store) (h0 : Rd S [.sl 1 (x0.map dByte)] [c0]) : EvA Tryz.prog 3 [.s c0] S (fun r _ => r = .v (.s (.bool true))) := by
  refine evA_intro tok Tryz.func3 (by kernel_rfl) rfl ?_
  by_cases hbig : 1048576 < (x0.length : Int)
  · repeat' ((conv => whnf) <;> first
     | (show CondP _ _ _; refine cS ?_) | refine callP_eq (ev_big _ _ _ rdA) ?_)
    all_goals first
      | rfl
      | (exfalso; omega)
  have hz : x0.length ≤ 1048576 := by omega
  repeat' ((conv => whnf) <;> first
   | (show CondP _ _ _; refine cS ?_) | refine callP_eq (ev_big _ _ _ rdA) ?_)
  (conv => whnf)
  refine callP_intro (ev_DrawFaultOf x0 h0 hz) ?_; rintro _ S1 ⟨e1, b, hb, c1, c2, c3, c4, c5, c6, rfl, rb⟩
  have hc := h0.ext e1
  have kf := ev_iFaultOf b _ _ rb (by omega)
  have kb := ev_iIsBrowser b _ _ rb (by omega)
  have kg := ev_iIsGranted b _ _ rb
  have kr := ev_iIsReviewed b _ _ rb (by omega)
  have ku := ev_iIsRuled b _ _ rb
  have kd := ev_iIsDeclared b [] _ _ _ rb (fr_empty (lo := 0) (by first | exact .inl rfl | exact .inr rfl)).rd
  unfold faultOf at kf
  cases a1 : isBrowser b
  rotate_left
  cases a2 : isGranted b
  rotate_left
  cases a3 : reviewed b
  rotate_left
  cases a4 : isRuled b
  rotate_left
  cases a5 : declS b []
  all_goals try have a6 := (decl_eq a1 []).trans a5
  all_goals
    simp only [*, if_true, if_false, Bool.false_eq_true] at kf kb kg kr ku kd
    repeat' ((conv => whnf) <;> first
     | (refine callP_eq kd ?_) | (refine callP_eq ku ?_) | (refine callP_eq kr ?_) | (refine callP_eq kg ?_) | (refine callP_eq kb ?_) | (refine callP_eq kf ?_) | refine cE (fun _ => ?_) fun _ => ?_ | refine cT ?_ | refine cF ?_)
    all_goals try (exfalso; rename_i x; rw [eqS_lit] at x; exact x rfl)
    all_goals try (exfalso; simp_all; done)
    (conv => whnf)
    refine callP_intro (ev_DrawTracesOf x0 hc hz) ?_; rintro _ S2 ⟨e2, c, ext, hcz, hext, d1, d2, d3, d4, d5, d6, rfl, rc⟩
    clear kf kb kg kr ku kd
    have kb := ev_iIsBrowser c _ _ rc (by omega)
    have kt := ev_iTracesOf c ext _ _ rc (by omega)
    have kp := ev_iPackOf c ext _ _ rc
    cases v1 : isBrowser c
    rotate_left
    have hti := traces_iff (br_iff.1 v1) hext
    by_cases hp : 0 ≤ packOf c ext
    all_goals try have htr : tracesOf c ext > 0 := hti.2 hp
    all_goals try have htr : ¬ tracesOf c ext > 0 := fun hh => hp (hti.1 hh)
    all_goals
      rw [v1] at kb
      repeat' ((conv => whnf) <;> first
       | (refine callP_eq kp ?_) | (refine callP_eq kt ?_) | (refine callP_eq kb ?_) | refine cT ?_ | refine cF ?_ | refine draw_intro 49 [.fl 0, .st 1 [], .fl 2, .fl 3, .fl 4, .fl 5, .fl 8, .fl 9, .st 6 [8, 9], .fl 7, .st 10 [7], .fl 11, .fl 12, .fl 13, .st 14 []] (by rfl) (by kernel_rfl) ?_ | refine And.intro ?_ ?_)
      all_goals first
        | rfl
        | (exfalso; omega)
        | (exfalso; rename_i x; exact x rfl)
        | (exfalso; simp_all; done)
        | (show _ = _; simp [resAV, *]; done)
        | (show _ = _; simp [resAV, *]; omega)
end Go.Proofs.YtlmmdpmmdmhacaaGreat
namespace Go.Proofs.YtlmmdpmmdmhacaaGreat
open Go Go.ChangeShapes Go.WideShapes Go.ChangeAt Go.RowKit
set_option linter.unusedVariables false
set_option linter.unusedSimpArgs false
section
variable {P : Program} {S : Store}
theorem wt_int {m : Nat} {t : TypeId} {k : IntKind} {cs : List C} (ht : P.underlying t = some (.int k)) (h : WT P S m t cs) : ∃ z : Int, Rd S [.x (.int k z)] cs := by
  cases m with
  | zero => exact h.elim
  | succ m =>
    unfold WT at h
    rw [ht] at h
    obtain ⟨z, rfl, _⟩ := h
    exact ⟨z, rd_x rd_nil⟩
theorem rep2_of {α : Type} {f : α → List D} : ∀ (rows : List (List C)), (∀ x ∈ rows, ∃ y : α, Rd S (f y) x) → ∃ (l : List α) (js : List Nat), l.length = rows.length ∧ Rep2 false S (l.map f) rows js
  | [], _ => ⟨[], [], rfl, by rw [List.map_nil, rep2_nil]; exact ⟨rfl, rfl⟩⟩
  | x :: rows, h => by
    obtain ⟨y, i, hy⟩ := h x (by simp)
    obtain ⟨l, js, h1, h2⟩ := rep2_of rows (fun z hz => h z (by simp [hz]))
    exact ⟨y :: l, i ++ js, by simp [h1], by rw [List.map_cons, rep2_cons]; exact ⟨x, rows, i, js, rfl, rfl, hy, h2⟩⟩
theorem wt_slice {α : Type} {f : α → List D} {m : Nat} {t e : TypeId} {k : Nat} {cs : List C} (ht : P.underlying t = some (.slice e)) (hk : P.cellsOf e = k) (hel : ∀ m cs, WT P S m e cs → ∃ y : α, Rd S (f y) cs) (h : WT P S m t cs) : ∃ l : List α, Rd S [.sl k (l.map f)] cs := by
  cases m with
  | zero => exact h.elim
  | succ m =>
    unfold WT at h
    rw [ht] at h
    obtain ⟨c, rows, rfl, he, hl, hc, hx⟩ := h
    obtain ⟨l, js, h1, h2⟩ := rep2_of (f := f) rows fun x hx' => hel m x (hx x hx')
    rcases hc with rfl | rfl | ⟨id, rfl, hid⟩
    · have : rows = [] := by simpa [elems] using he.symm
      subst this
      have : l = [] := List.eq_nil_of_length_eq_zero h1
      subst this
      exact ⟨[], rd_one (q := false) (ids := []) (by unfold Rep; exact ⟨Nat.zero_le _, .inl ⟨rfl, .inl rfl, rfl⟩⟩)⟩
    · have : rows = [] := by simpa [elems] using he.symm
      subst this
      have : l = [] := List.eq_nil_of_length_eq_zero h1
      subst this
      exact ⟨[], rd_one (q := false) (ids := []) (by unfold Rep; exact ⟨Nat.zero_le _, .inl ⟨rfl, .inr rfl, rfl⟩⟩)⟩
    · refine ⟨l, rd_one (q := false) (ids := id :: js) ?_⟩
      unfold Rep
      refine ⟨by simpa [h1] using hl, .inr ⟨id, 0, rows.length, _, js, by simp [h1], rfl, hid, hk, rfl, by simp [h1], (by intro h; cases h), ?_⟩⟩
      simp only
      rw [List.drop_zero, List.take_of_length_le (by simp [h1])]
      exact h2
theorem vt_sc {m : Nat} {t : TypeId} {d : TypeDesc} {v : V} (ht : P.underlying t = some d) (hd : ∀ fs, d ≠ .struct fs) (h : VT P S m t v) : ∃ c, v = .s c ∧ WT P S m t [c] := by
  unfold VT at h
  rw [ht] at h
  split at h
  · rename_i fs he; cases he; exact absurd rfl (hd fs)
  · exact h
end
theorem own : ownKnob Tryz.prog.godebug = none := by kernel_rfl
theorem laidOut : laidOutB Tryz.prog = true := by kernel_rfl
end Go.Proofs.YtlmmdpmmdmhacaaGreat
