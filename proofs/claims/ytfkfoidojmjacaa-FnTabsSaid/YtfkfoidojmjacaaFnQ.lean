/- Tabs that are opened; copies of browsers. -/
import Derived.Test.YtfkfoidojmjacaaFnN
import Derived.Test.YtfkfoidojmjacaaFnD
import Derived.Test.YtfkfoidojmjacaaAeQ
namespace Go.Proofs.Ytfkfoidojmjacaa
open Go Go.ChangeShapes Go.WideShapes Go.ChangeAt Go.RowKit
set_option linter.unusedVariables false
set_option linter.unusedSimpArgs false
set_option maxRecDepth 100000

def newTab (s : GSite) (base : List GNode) (hidden : List Int) : GTab := ⟨s, base, [], hidden, -1⟩
def openTab (s : GSite) (base : List GNode) (hidden : List Int) : GTab × Bool := if isTab (newTab s base hidden) then (newTab s base hidden, true) else (default, false)
theorem fr_slnil {S : Store} {lo k : Nat} {ds : List D} {cs : List C} (h : Fr lo S ds cs) : Fr lo S (.sl k [] :: ds) (.nil :: cs) :=
  fr_sl (mid := lo) ⟨[], by unfold Rep; exact ⟨Nat.zero_le _, .inl ⟨rfl, .inl rfl, rfl⟩⟩, List.nodup_nil, fun _ h => by cases h⟩ h (Nat.le_refl _)
theorem rd_empty0 {S : Store} {k : Nat} : Rd S [.sl k []] [.nil] := rd_one (q := false) (ids := []) (by unfold Rep; exact ⟨Nat.zero_le _, .inl ⟨rfl, .inl rfl, rfl⟩⟩)
theorem fr_tab0 {S : Store} {lo : Nat} : Fr lo S (default : GTab).d [.int .i64 0, .int .i64 0, .nil, .nil, .nil, .int .i64 0] := fr_x (fr_x (fr_slnil (fr_slnil (fr_slnil (fr_x fr_nil)))))
theorem szTab_new (s : GSite) (base : List GNode) (hidden : List Int) : szL (newTab s base hidden).d = base.length + hidden.length := by
  simp only [newTab, GTab.d, szL, List.length_map]
  rw [szLL_flat (f := GNode.d) (by intro x; simp only [szL, GNode.d]), szLL_flat (f := dInt) (by intro x; simp only [szL, dInt]), List.map_nil, szL.szLL]
  simp
theorem ot_sz (s : GSite) (base : List GNode) (hidden : List Int) : szL (openTab s base hidden).1.d ≤ base.length + hidden.length := by
  unfold openTab
  split
  · rw [szTab_new]; exact Nat.le_refl _
  · have h0 : szL (default : GTab).d = 0 := by simp [default, instInhabitedGTab.default, GTab.d, szL, szL.szLL]
    show szL (default : GTab).d ≤ _
    rw [h0]; exact Nat.zero_le _
theorem ev_sOpenTab (s : GSite) (base : List GNode) (hidden : List Int) (c c' : C) (S : Store) (h : Rd S [.sl 5 (base.map GNode.d)] [c]) (h' : Rd S [.sl 1 (hidden.map dInt)] [c']) (hz : base.length + hidden.length ≤ 4194304) : EvA Try.prog 46 [.agg s.c, .s c, .s c'] S (fun r S' => Ext S S' ∧ ∃ c2 c3 c4, r = .tup [.agg [.int .i64 (openTab s base hidden).1.Site.Owner, .int .i64 (openTab s base hidden).1.Site.Sub, c2, c3, c4, .int .i64 (openTab s base hidden).1.Click], .s (.bool (openTab s base hidden).2)] ∧ Fr S.length S' (openTab s base hidden).1.d [.int .i64 (openTab s base hidden).1.Site.Owner, .int .i64 (openTab s base hidden).1.Site.Sub, c2, c3, c4, .int .i64 (openTab s base hidden).1.Click]) := by
  have hsz := szTab_new s base hidden
  by_cases hT : isTab (newTab s base hidden) = true
  · have ho : openTab s base hidden = (newTab s base hidden, true) := if_pos hT
    rw [ho]
    refine evA_intro tok Try.func46 (by kernel_rfl) rfl ?_
    repeat' ((conv => whnf) <;> first
     | refine cD (fun _ => ?_) fun _ => ?_ | refine cE (fun _ => ?_) fun _ => ?_ | refine cT ?_ | refine cF ?_ | refine cN (fun _ => ?_) fun _ => ?_ | refine cI (fun _ => ?_) fun _ => ?_ | refine callP_eq (ev_sIsTab _ _ _ rdcA) ?_ | refine nP ?_ | refine And.intro ?_ ?_)
    have hnil : Rd S [.sl 6 (([] : List GEdit).map GEdit.d)] [.nil] := rd_empty0
    have hT1 : Rd S (newTab s base hidden).d _ := GTab.rd h hnil h'
    (conv => whnf)
    refine callP_intro (ev_l31Copy (newTab s base hidden) _ _ hT1 (by omega)) ?_; rintro _ S0 ⟨e0, d0, d1, d2, rfl, f0⟩
    repeat' ((conv => whnf) <;> first
     | refine cD (fun _ => ?_) fun _ => ?_ | refine cE (fun _ => ?_) fun _ => ?_ | refine cT ?_ | refine cF ?_ | refine cN (fun _ => ?_) fun _ => ?_ | refine cI (fun _ => ?_) fun _ => ?_ | refine callP_eq (ev_sIsTab _ _ _ rdcA) ?_ | refine nP ?_ | (refine callP_eq (ev_sIsTab (newTab s base hidden) _ _ f0.rd) ?_) | refine And.intro ?_ ?_)
    all_goals first
      | rfl
      | exact e0
      | (exfalso; simp_all; done)
      | exact ⟨_, _, _, rfl, f0⟩
  · have ho : openTab s base hidden = (default, false) := if_neg hT
    rw [ho]
    refine evA_intro tok Try.func46 (by kernel_rfl) rfl ?_
    repeat' ((conv => whnf) <;> first
     | refine cD (fun _ => ?_) fun _ => ?_ | refine cE (fun _ => ?_) fun _ => ?_ | refine cT ?_ | refine cF ?_ | refine cN (fun _ => ?_) fun _ => ?_ | refine cI (fun _ => ?_) fun _ => ?_ | refine callP_eq (ev_sIsTab _ _ _ rdcA) ?_ | refine nP ?_ | refine And.intro ?_ ?_)
    have hnil : Rd S [.sl 6 (([] : List GEdit).map GEdit.d)] [.nil] := rd_empty0
    have hT1 : Rd S (newTab s base hidden).d _ := GTab.rd h hnil h'
    (conv => whnf)
    refine callP_intro (ev_l31Copy (newTab s base hidden) _ _ hT1 (by omega)) ?_; rintro _ S0 ⟨e0, d0, d1, d2, rfl, f0⟩
    repeat' ((conv => whnf) <;> first
     | refine cD (fun _ => ?_) fun _ => ?_ | refine cE (fun _ => ?_) fun _ => ?_ | refine cT ?_ | refine cF ?_ | refine cN (fun _ => ?_) fun _ => ?_ | refine cI (fun _ => ?_) fun _ => ?_ | refine callP_eq (ev_sIsTab _ _ _ rdcA) ?_ | refine nP ?_ | (refine callP_eq (ev_sIsTab (newTab s base hidden) _ _ f0.rd) ?_) | refine And.intro ?_ ?_)
    all_goals first
      | rfl
      | exact e0
      | (exfalso; simp_all; done)
      | exact ⟨_, _, _, rfl, fr_tab0⟩
theorem ev_iOpenTab (s : GSite) (base : List GNode) (hidden : List Int) (c c' : C) (S : Store) (h : Rd S [.sl 5 (base.map GNode.d)] [c]) (h' : Rd S [.sl 1 (hidden.map dInt)] [c']) (hz : base.length + hidden.length ≤ 4194304) : EvA Try.prog 13 [.agg s.c, .s c, .s c'] S (fun r S' => Ext S S' ∧ ∃ c2 c3 c4, r = .tup [.agg [.int .i64 (openTab s base hidden).1.Site.Owner, .int .i64 (openTab s base hidden).1.Site.Sub, c2, c3, c4, .int .i64 (openTab s base hidden).1.Click], .s (.bool (openTab s base hidden).2)] ∧ Fr S.length S' (openTab s base hidden).1.d [.int .i64 (openTab s base hidden).1.Site.Owner, .int .i64 (openTab s base hidden).1.Site.Sub, c2, c3, c4, .int .i64 (openTab s base hidden).1.Click]) := by
  have hsz := szTab_new s base hidden
  by_cases hT : isTab (newTab s base hidden) = true
  · have ho : openTab s base hidden = (newTab s base hidden, true) := if_pos hT
    rw [ho]
    refine evA_intro tok Try.func13 (by kernel_rfl) rfl ?_
    repeat' ((conv => whnf) <;> first
     | refine cD (fun _ => ?_) fun _ => ?_ | refine cE (fun _ => ?_) fun _ => ?_ | refine cT ?_ | refine cF ?_ | refine cN (fun _ => ?_) fun _ => ?_ | refine cI (fun _ => ?_) fun _ => ?_ | refine callP_eq (ev_iIsTab _ _ _ rdcA) ?_ | refine nP ?_ | refine draw_intro 9 [.fl 0, .fl 1, .fl 3, .fl 6, .st 2 [0, 3, 6], .st 4 [0, 6], .fl 5, .st 7 []] (by rfl) (by kernel_rfl) ?_ | refine And.intro ?_ ?_)
    (conv => whnf)
    refine callP_intro (ev_CloneNode base _ _ rdA (by omega)) ?_; rintro _ S0 ⟨e0, d0, rfl, f0⟩
    repeat' ((conv => whnf) <;> first
     | refine cD (fun _ => ?_) fun _ => ?_ | refine cE (fun _ => ?_) fun _ => ?_ | refine cT ?_ | refine cF ?_ | refine cN (fun _ => ?_) fun _ => ?_ | refine cI (fun _ => ?_) fun _ => ?_ | refine callP_eq (ev_iIsTab _ _ _ rdcA) ?_ | refine nP ?_ | refine draw_intro 9 [.fl 0, .fl 1, .fl 3, .fl 6, .st 2 [0, 3, 6], .st 4 [0, 6], .fl 5, .st 7 []] (by rfl) (by kernel_rfl) ?_ | refine And.intro ?_ ?_)
    (conv => whnf)
    refine callP_intro (ev_Cloneint hidden _ _ rdA (by omega)) ?_; rintro _ S1 ⟨e1, d1, rfl, f1⟩
    have hnil : Rd S1 [.sl 6 (([] : List GEdit).map GEdit.d)] [.nil] := rd_empty0
    have hT1 : Rd S1 (newTab s base hidden).d _ := GTab.rd (f0.rd.ext e1) hnil f1.rd
    repeat' ((conv => whnf) <;> first
     | refine cD (fun _ => ?_) fun _ => ?_ | refine cE (fun _ => ?_) fun _ => ?_ | refine cT ?_ | refine cF ?_ | refine cN (fun _ => ?_) fun _ => ?_ | refine cI (fun _ => ?_) fun _ => ?_ | refine callP_eq (ev_iIsTab _ _ _ rdcA) ?_ | refine nP ?_ | refine draw_intro 9 [.fl 0, .fl 1, .fl 3, .fl 6, .st 2 [0, 3, 6], .st 4 [0, 6], .fl 5, .st 7 []] (by rfl) (by kernel_rfl) ?_ | (refine callP_eq (ev_iIsTab (newTab s base hidden) _ _ hT1) ?_) | refine And.intro ?_ ?_)
    all_goals first
      | rfl
      | exact e0.trans e1
      | (exfalso; simp_all; done)
      | exact ⟨_, _, _, rfl, fr_x (fr_x (fr_sl (fr_seg f0 e1) (fr_slnil (fr_sl (fr_seg f1 (Ext.refl _)) (fr_x fr_nil) e1.len)) e0.len))⟩
  · have ho : openTab s base hidden = (default, false) := if_neg hT
    rw [ho]
    refine evA_intro tok Try.func13 (by kernel_rfl) rfl ?_
    repeat' ((conv => whnf) <;> first
     | refine cD (fun _ => ?_) fun _ => ?_ | refine cE (fun _ => ?_) fun _ => ?_ | refine cT ?_ | refine cF ?_ | refine cN (fun _ => ?_) fun _ => ?_ | refine cI (fun _ => ?_) fun _ => ?_ | refine callP_eq (ev_iIsTab _ _ _ rdcA) ?_ | refine nP ?_ | refine draw_intro 9 [.fl 0, .fl 1, .fl 3, .fl 6, .st 2 [0, 3, 6], .st 4 [0, 6], .fl 5, .st 7 []] (by rfl) (by kernel_rfl) ?_ | refine And.intro ?_ ?_)
    (conv => whnf)
    refine callP_intro (ev_CloneNode base _ _ rdA (by omega)) ?_; rintro _ S0 ⟨e0, d0, rfl, f0⟩
    repeat' ((conv => whnf) <;> first
     | refine cD (fun _ => ?_) fun _ => ?_ | refine cE (fun _ => ?_) fun _ => ?_ | refine cT ?_ | refine cF ?_ | refine cN (fun _ => ?_) fun _ => ?_ | refine cI (fun _ => ?_) fun _ => ?_ | refine callP_eq (ev_iIsTab _ _ _ rdcA) ?_ | refine nP ?_ | refine draw_intro 9 [.fl 0, .fl 1, .fl 3, .fl 6, .st 2 [0, 3, 6], .st 4 [0, 6], .fl 5, .st 7 []] (by rfl) (by kernel_rfl) ?_ | refine And.intro ?_ ?_)
    (conv => whnf)
    refine callP_intro (ev_Cloneint hidden _ _ rdA (by omega)) ?_; rintro _ S1 ⟨e1, d1, rfl, f1⟩
    have hnil : Rd S1 [.sl 6 (([] : List GEdit).map GEdit.d)] [.nil] := rd_empty0
    have hT1 : Rd S1 (newTab s base hidden).d _ := GTab.rd (f0.rd.ext e1) hnil f1.rd
    repeat' ((conv => whnf) <;> first
     | refine cD (fun _ => ?_) fun _ => ?_ | refine cE (fun _ => ?_) fun _ => ?_ | refine cT ?_ | refine cF ?_ | refine cN (fun _ => ?_) fun _ => ?_ | refine cI (fun _ => ?_) fun _ => ?_ | refine callP_eq (ev_iIsTab _ _ _ rdcA) ?_ | refine nP ?_ | refine draw_intro 9 [.fl 0, .fl 1, .fl 3, .fl 6, .st 2 [0, 3, 6], .st 4 [0, 6], .fl 5, .st 7 []] (by rfl) (by kernel_rfl) ?_ | (refine callP_eq (ev_iIsTab (newTab s base hidden) _ _ hT1) ?_) | refine And.intro ?_ ?_)
    all_goals first
      | rfl
      | exact e0.trans e1
      | (exfalso; simp_all; done)
      | exact ⟨_, _, _, rfl, fr_tab0⟩
def exTab1 : GTab := ⟨⟨1, 0⟩, [⟨0, -1, 0, 0, 0⟩, ⟨1, 0, 1, 5, 0⟩, ⟨2, 1, 3, 7, 0⟩], [], [3], -1⟩
def exTab2 : GTab := ⟨⟨2, 0⟩, [⟨0, -1, 0, 0, 0⟩], [], [3], -1⟩
def exTabs : List GTab := [exTab1, exTab2]
theorem fr_litF {S : Store} {α : Type} {f : α → List D} {k : Nat} (l : List α) (hf : ∀ x, Flat (f x)) (h : l.length ≤ 9223372036854775807) : Fr S.length (S ++ [⟨true, k, l.map fun x => flatC (f x)⟩]) [.sl k (l.map f)] [.sl S.length 0 l.length l.length] :=
  fr_push (xs := l.map f) (js := []) (rep2_flat hf l) List.nodup_nil (fun _ h => by cases h) (Nat.le_refl _) (by rw [maxLen_eq]; simpa using h) (by simp)
theorem fr_lit2 {S1 S2 : Store} {lo : Nat} {k : Nat} {d1 d2 : List D} {c1 c2 : List C} (h1 : Fr lo S1 d1 c1) (e : Ext S1 S2) (h2 : Fr S1.length S2 d2 c2) (hlo : lo ≤ S1.length) : Fr lo (S2 ++ [⟨true, k, [c1, c2]⟩]) [.sl k [d1, d2]] [.sl S2.length 0 2 2] := by
  obtain ⟨i, a1, a2, a3⟩ := h1
  obtain ⟨j, b1, b2, b3⟩ := h2
  have hi : ∀ id ∈ i, id < S1.length := a1.lt
  refine fr_push (js := i ++ (j ++ [])) ?_ ?_ (fun id hid => ?_) (Nat.le_trans hlo e.len) (by rw [maxLen_eq]; simp) rfl
  · rw [rep2_cons]
    refine ⟨c1, [c2], i, j ++ [], rfl, rfl, a1.frame fun id hid => e.at (hi id hid), ?_⟩
    rw [rep2_cons]
    exact ⟨c2, [], j, [], rfl, rfl, b1, by rw [rep2_nil]; exact ⟨rfl, rfl⟩⟩
  · rw [List.append_nil, List.nodup_append]
    exact ⟨a2, b2, fun a ha b hb e' => by have := hi a ha; have := b3 b hb; omega⟩
  · rcases List.mem_append.1 hid with h | h
    · exact a3 id h
    · rw [List.append_nil] at h; exact Nat.le_trans hlo (b3 id h)
abbrev exB1 : List GNode := [⟨0, -1, 0, 0, 0⟩, ⟨1, 0, 1, 5, 0⟩, ⟨2, 1, 3, 7, 0⟩]
abbrev exB2 : List GNode := [⟨0, -1, 0, 0, 0⟩]
abbrev exH : List Int := [3]
theorem ex_open1 : openTab ⟨1, 0⟩ exB1 exH = (exTab1, true) := by decide +kernel
theorem ex_open2 : openTab ⟨2, 0⟩ exB2 exH = (exTab2, true) := by decide +kernel
theorem litN {S : Store} (l : List GNode) (h : l.length ≤ 9) : Fr S.length (S ++ [⟨true, 5, l.map fun x => flatC (GNode.d x)⟩]) [.sl 5 (l.map GNode.d)] [.sl S.length 0 l.length l.length] := fr_litF l (fun _ => trivial) (by omega)
theorem litH {S : Store} : Fr S.length (S ++ [⟨true, 1, exH.map fun x => flatC (dInt x)⟩]) [.sl 1 (exH.map dInt)] [.sl S.length 0 1 1] := fr_litF exH (fun _ => trivial) (by decide)
end Go.Proofs.Ytfkfoidojmjacaa
