/- Tabs that are opened; copies of browsers. -/
import Derived.Test.YtockphlpokoohaaGreatKe21
import Derived.Test.YtockphlpokoohaaGreatKe24
import Derived.Test.YtockphlpokoohaaGreatKe22
namespace Go.Proofs.YtockphlpokoohaaGreat
open Go Go.ChangeShapes Go.WideShapes Go.ChangeAt Go.RowKit
set_option linter.unusedVariables false
set_option linter.unusedSimpArgs false
set_option maxRecDepth 100000
def newTab (s : GSite) (base : List GNode) (hidden : List Int) : GTab := ⟨s, base, [], hidden, -1⟩
def openTab (s : GSite) (base : List GNode) (hidden : List Int) : GTab × Bool := if isTab (newTab s base hidden) then (newTab s base hidden, true) else (default, false)
theorem fr_slnil {S : Store} {lo k : Nat} {ds : List D} {cs : List C} (h : Fr lo S ds cs) : Fr lo S (.sl k [] :: ds) (.nil :: cs) :=
  fr_sl (mid := lo) ⟨[], by unfold Rep; exact ⟨Nat.zero_le _, .inl ⟨rfl, .inl rfl, rfl⟩⟩, List.nodup_nil, fun _ h => by cases h⟩ h (Nat.le_refl _)
theorem rd_empty0 {S : Store} {k : Nat} : Rd S [.sl k []] [.nil] := rd_one (q := false) (ids := []) (by unfold Rep; exact ⟨Nat.zero_le _, .inl ⟨rfl, .inl rfl, rfl⟩⟩)
theorem fr_tab0 {S : Store} {lo : Nat} : Fr lo S (default : GTab).d [.int .i64 0, .int .i64 0, .nil, .nil, .nil, .int .i64 0] := fr_x (fr_x (fr_slnil (fr_slnil (fr_slnil (fr_x fr_nil)))))
theorem szTab_new (s : GSite) (base : List GNode) (hidden : List Int) : szL (newTab s base hidden).d = base.length + hidden.length := by
  simp only [newTab, GTab.d, szL, List.length_map]
  rw [szLL_flat (f := GNode.d) (by intro x; simp only [szL, GNode.d]), szLL_flat (f := dInt) (by intro x; simp only [szL, dInt]), List.map_nil, szL.szLL]
  simp
theorem ev_sOpenTab (s : GSite) (base : List GNode) (hidden : List Int) (c c' : C) (S : Store) (h : Rd S [.sl 5 (base.map GNode.d)] [c]) (h' : Rd S [.sl 1 (hidden.map dInt)] [c']) (hz : base.length + hidden.length ≤ 4194304) : EvA Tryz.prog 265 [.agg s.c, .s c, .s c'] S (fun r S' => Ext S S' ∧ ∃ c2 c3 c4, r = .tup [.agg [.int .i64 (openTab s base hidden).1.Site.Owner, .int .i64 (openTab s base hidden).1.Site.Sub, c2, c3, c4, .int .i64 (openTab s base hidden).1.Click], .s (.bool (openTab s base hidden).2)] ∧ Fr S.length S' (openTab s base hidden).1.d [.int .i64 (openTab s base hidden).1.Site.Owner, .int .i64 (openTab s base hidden).1.Site.Sub, c2, c3, c4, .int .i64 (openTab s base hidden).1.Click]) := by
  have hsz := szTab_new s base hidden
  by_cases hT : isTab (newTab s base hidden) = true
  · have ho : openTab s base hidden = (newTab s base hidden, true) := if_pos hT
    rw [ho]
    refine evA_intro tok Tryz.func265 (by kernel_rfl) rfl ?_
    repeat' ((conv => whnf) <;> first
     | refine cD (fun _ => ?_) fun _ => ?_ | refine cE (fun _ => ?_) fun _ => ?_ | refine cT ?_ | refine cF ?_ | refine cN (fun _ => ?_) fun _ => ?_ | refine cI (fun _ => ?_) fun _ => ?_ | refine callP_eq (ev_sIsTab _ _ _ rdcA) ?_ | refine nP ?_ | refine And.intro ?_ ?_)
    have hnil : Rd S [.sl 6 (([] : List GEdit).map GEdit.d)] [.nil] := rd_empty0
    have hT1 : Rd S (newTab s base hidden).d _ := GTab.rd h hnil h'
    (conv => whnf)
    refine callP_intro (ev_l31Copy (newTab s base hidden) _ _ hT1 (by omega)) ?_; rintro _ S0 ⟨e0, d0, d1, d2, rfl, f0⟩
    repeat' ((conv => whnf) <;> first
     | refine cD (fun _ => ?_) fun _ => ?_ | refine cE (fun _ => ?_) fun _ => ?_ | refine cT ?_ | refine cF ?_ | refine cN (fun _ => ?_) fun _ => ?_ | refine cI (fun _ => ?_) fun _ => ?_ | refine callP_eq (ev_sIsTab _ _ _ rdcA) ?_ | refine nP ?_ | (refine callP_eq (ev_sIsTab (newTab s base hidden) _ _ f0.rd) ?_) | refine And.intro ?_ ?_)
    all_goals first
      | rfl
      | exact e0
      | (exfalso; simp_all; done)
      | exact ⟨_, _, _, rfl, f0⟩
  · have ho : openTab s base hidden = (default, false) := if_neg hT
    rw [ho]
    refine evA_intro tok Tryz.func265 (by kernel_rfl) rfl ?_
    repeat' ((conv => whnf) <;> first
     | refine cD (fun _ => ?_) fun _ => ?_ | refine cE (fun _ => ?_) fun _ => ?_ | refine cT ?_ | refine cF ?_ | refine cN (fun _ => ?_) fun _ => ?_ | refine cI (fun _ => ?_) fun _ => ?_ | refine callP_eq (ev_sIsTab _ _ _ rdcA) ?_ | refine nP ?_ | refine And.intro ?_ ?_)
    have hnil : Rd S [.sl 6 (([] : List GEdit).map GEdit.d)] [.nil] := rd_empty0
    have hT1 : Rd S (newTab s base hidden).d _ := GTab.rd h hnil h'
    (conv => whnf)
    refine callP_intro (ev_l31Copy (newTab s base hidden) _ _ hT1 (by omega)) ?_; rintro _ S0 ⟨e0, d0, d1, d2, rfl, f0⟩
    repeat' ((conv => whnf) <;> first
     | refine cD (fun _ => ?_) fun _ => ?_ | refine cE (fun _ => ?_) fun _ => ?_ | refine cT ?_ | refine cF ?_ | refine cN (fun _ => ?_) fun _ => ?_ | refine cI (fun _ => ?_) fun _ => ?_ | refine callP_eq (ev_sIsTab _ _ _ rdcA) ?_ | refine nP ?_ | (refine callP_eq (ev_sIsTab (newTab s base hidden) _ _ f0.rd) ?_) | refine And.intro ?_ ?_)
    all_goals first
      | rfl
      | exact e0
      | (exfalso; simp_all; done)
      | exact ⟨_, _, _, rfl, fr_tab0⟩
theorem fr_litF {S : Store} {α : Type} {f : α → List D} {k : Nat} (l : List α) (hf : ∀ x, Flat (f x)) (h : l.length ≤ 9223372036854775807) : Fr S.length (S ++ [⟨true, k, l.map fun x => flatC (f x)⟩]) [.sl k (l.map f)] [.sl S.length 0 l.length l.length] :=
  fr_push (xs := l.map f) (js := []) (rep2_flat hf l) List.nodup_nil (fun _ h => by cases h) (Nat.le_refl _) (by rw [maxLen_eq]; simpa using h) (by simp)
end Go.Proofs.YtockphlpokoohaaGreat
