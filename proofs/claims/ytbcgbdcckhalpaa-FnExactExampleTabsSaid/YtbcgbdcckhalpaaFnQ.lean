/- Tabs that are opened; copies of browsers. -/
import Derived.Test.YtbcgbdcckhalpaaFnN
import Derived.Test.YtbcgbdcckhalpaaFnD
import Derived.Test.YtbcgbdcckhalpaaAeP
namespace Go.Proofs.Ytbcgbdcckhalpaa
open Go Go.ChangeShapes Go.WideShapes Go.ChangeAt Go.RowKit
set_option linter.unusedVariables false
set_option maxRecDepth 100000

def newTab (s : GSite) (base : List GNode) (hidden : List Int) : GTab := ⟨s, base, [], hidden, -1⟩
def openTab (s : GSite) (base : List GNode) (hidden : List Int) : GTab × Bool := if isTab (newTab s base hidden) then (newTab s base hidden, true) else (default, false)
theorem fr_slnil {S : Store} {lo k : Nat} {ds : List D} {cs : List C} (h : Fr lo S ds cs) : Fr lo S (.sl k [] :: ds) (.nil :: cs) :=
  fr_sl (mid := lo) ⟨[], by unfold Rep; exact ⟨Nat.zero_le _, .inl ⟨rfl, .inl rfl, rfl⟩⟩, List.nodup_nil, fun _ h => by cases h⟩ h (Nat.le_refl _)
theorem rd_empty0 {S : Store} {k : Nat} : Rd S [.sl k []] [.nil] := rd_one (q := false) (ids := []) (by unfold Rep; exact ⟨Nat.zero_le _, .inl ⟨rfl, .inl rfl, rfl⟩⟩)
theorem fr_tab0 {S : Store} {lo : Nat} : Fr lo S (default : GTab).d [.int .i64 0, .int .i64 0, .nil, .nil, .nil, .int .i64 0] := fr_x (fr_x (fr_slnil (fr_slnil (fr_slnil (fr_x fr_nil)))))
theorem szTab_new (s : GSite) (base : List GNode) (hidden : List Int) : szL (newTab s base hidden).d = base.length + hidden.length := by
  simp only [newTab, GTab.d, szL, List.length_map]
  rw [szLL_flat (f := GNode.d) (by intro x; simp only [szL, GNode.d]), szLL_flat (f := dInt) (by intro x; simp only [szL, dInt]), List.map_nil, szL.szLL]
  simp
theorem ev_sOpenTab (s : GSite) (base : List GNode) (hidden : List Int) (c c' : C) (S : Store) (h : Rd S [.sl 5 (base.map GNode.d)] [c]) (h' : Rd S [.sl 1 (hidden.map dInt)] [c']) (hz : base.length + hidden.length ≤ 4194304) : EvA Try.prog 9 [.agg s.c, .s c, .s c'] S (fun r S' => Ext S S' ∧ ∃ c2 c3 c4, r = .tup [.agg [.int .i64 (openTab s base hidden).1.Site.Owner, .int .i64 (openTab s base hidden).1.Site.Sub, c2, c3, c4, .int .i64 (openTab s base hidden).1.Click], .s (.bool (openTab s base hidden).2)] ∧ Fr S.length S' (openTab s base hidden).1.d [.int .i64 (openTab s base hidden).1.Site.Owner, .int .i64 (openTab s base hidden).1.Site.Sub, c2, c3, c4, .int .i64 (openTab s base hidden).1.Click]) := by
  have hsz := szTab_new s base hidden
  by_cases hT : isTab (newTab s base hidden) = true
  · have ho : openTab s base hidden = (newTab s base hidden, true) := if_pos hT
    rw [ho]
    refine evA_intro tok Try.func9 (by kernel_rfl) rfl ?_
    repeat' ((conv => whnf) <;> first
        | refine condP_dec (fun _ => ?_) (fun _ => ?_)
        | refine condP_ndec (fun _ => ?_) (fun _ => ?_)
        | refine condP_true rfl ?_
        | refine condP_false rfl ?_
        | refine condP_not (fun _ => ?_) (fun _ => ?_)
        | refine condP_intro (fun _ => ?_) (fun _ => ?_)
        | refine callP_eq (ev_sIsTab _ _ _ (by (first | assumption | exact Fr.rd (by assumption) | exact Rd.ext (by first | assumption | exact Fr.rd (by assumption)) (by (first | assumption | exact Ext.push _ _ | exact Ext.trans (by assumption) (by first | assumption | exact Ext.push _ _) | exact Ext.trans (by assumption) (Ext.trans (by assumption) (by assumption)) | exact Ext.trans (by assumption) (Ext.trans (by assumption) (Ext.trans (by assumption) (by assumption))))) | exact GPackage.rd (by (first | assumption | exact Fr.rd (by assumption) | exact Rd.ext (by first | assumption | exact Fr.rd (by assumption)) (by (first | assumption | exact Ext.push _ _ | exact Ext.trans (by assumption) (by first | assumption | exact Ext.push _ _) | exact Ext.trans (by assumption) (Ext.trans (by assumption) (by assumption)) | exact Ext.trans (by assumption) (Ext.trans (by assumption) (Ext.trans (by assumption) (by assumption))))))) (by (first | assumption | exact Fr.rd (by assumption) | exact Rd.ext (by first | assumption | exact Fr.rd (by assumption)) (by (first | assumption | exact Ext.push _ _ | exact Ext.trans (by assumption) (by first | assumption | exact Ext.push _ _) | exact Ext.trans (by assumption) (Ext.trans (by assumption) (by assumption)) | exact Ext.trans (by assumption) (Ext.trans (by assumption) (Ext.trans (by assumption) (by assumption))))))) (by (first | assumption | exact Fr.rd (by assumption) | exact Rd.ext (by first | assumption | exact Fr.rd (by assumption)) (by (first | assumption | exact Ext.push _ _ | exact Ext.trans (by assumption) (by first | assumption | exact Ext.push _ _) | exact Ext.trans (by assumption) (Ext.trans (by assumption) (by assumption)) | exact Ext.trans (by assumption) (Ext.trans (by assumption) (Ext.trans (by assumption) (by assumption))))))) (by (first | assumption | exact Fr.rd (by assumption) | exact Rd.ext (by first | assumption | exact Fr.rd (by assumption)) (by (first | assumption | exact Ext.push _ _ | exact Ext.trans (by assumption) (by first | assumption | exact Ext.push _ _) | exact Ext.trans (by assumption) (Ext.trans (by assumption) (by assumption)) | exact Ext.trans (by assumption) (Ext.trans (by assumption) (Ext.trans (by assumption) (by assumption))))))) | exact GTab.rd (by (first | assumption | exact Fr.rd (by assumption) | exact Rd.ext (by first | assumption | exact Fr.rd (by assumption)) (by (first | assumption | exact Ext.push _ _ | exact Ext.trans (by assumption) (by first | assumption | exact Ext.push _ _) | exact Ext.trans (by assumption) (Ext.trans (by assumption) (by assumption)) | exact Ext.trans (by assumption) (Ext.trans (by assumption) (Ext.trans (by assumption) (by assumption))))))) (by (first | assumption | exact Fr.rd (by assumption) | exact Rd.ext (by first | assumption | exact Fr.rd (by assumption)) (by (first | assumption | exact Ext.push _ _ | exact Ext.trans (by assumption) (by first | assumption | exact Ext.push _ _) | exact Ext.trans (by assumption) (Ext.trans (by assumption) (by assumption)) | exact Ext.trans (by assumption) (Ext.trans (by assumption) (Ext.trans (by assumption) (by assumption))))))) (by (first | assumption | exact Fr.rd (by assumption) | exact Rd.ext (by first | assumption | exact Fr.rd (by assumption)) (by (first | assumption | exact Ext.push _ _ | exact Ext.trans (by assumption) (by first | assumption | exact Ext.push _ _) | exact Ext.trans (by assumption) (Ext.trans (by assumption) (by assumption)) | exact Ext.trans (by assumption) (Ext.trans (by assumption) (Ext.trans (by assumption) (by assumption))))))) | exact GOutcome.rd (by (first | assumption | exact Fr.rd (by assumption) | exact Rd.ext (by first | assumption | exact Fr.rd (by assumption)) (by (first | assumption | exact Ext.push _ _ | exact Ext.trans (by assumption) (by first | assumption | exact Ext.push _ _) | exact Ext.trans (by assumption) (Ext.trans (by assumption) (by assumption)) | exact Ext.trans (by assumption) (Ext.trans (by assumption) (Ext.trans (by assumption) (by assumption)))))))))) ?_
        | refine needP_intro (by first | omega | (constructor <;> omega)) ?_
        | refine And.intro ?_ ?_)
    have hnil : Rd S [.sl 6 (([] : List GEdit).map GEdit.d)] [.nil] := rd_empty0
    have hT1 : Rd S (newTab s base hidden).d _ := GTab.rd h hnil h'
    (conv => whnf)
    refine callP_intro (ev_l31Copy (newTab s base hidden) _ _ hT1 (by omega)) ?_; rintro _ S0 ⟨e0, d0, d1, d2, rfl, f0⟩
    repeat' ((conv => whnf) <;> first
        | refine condP_dec (fun _ => ?_) (fun _ => ?_)
        | refine condP_ndec (fun _ => ?_) (fun _ => ?_)
        | refine condP_true rfl ?_
        | refine condP_false rfl ?_
        | refine condP_not (fun _ => ?_) (fun _ => ?_)
        | refine condP_intro (fun _ => ?_) (fun _ => ?_)
        | refine callP_eq (ev_sIsTab _ _ _ (by (first | assumption | exact Fr.rd (by assumption) | exact Rd.ext (by first | assumption | exact Fr.rd (by assumption)) (by (first | assumption | exact Ext.push _ _ | exact Ext.trans (by assumption) (by first | assumption | exact Ext.push _ _) | exact Ext.trans (by assumption) (Ext.trans (by assumption) (by assumption)) | exact Ext.trans (by assumption) (Ext.trans (by assumption) (Ext.trans (by assumption) (by assumption))))) | exact GPackage.rd (by (first | assumption | exact Fr.rd (by assumption) | exact Rd.ext (by first | assumption | exact Fr.rd (by assumption)) (by (first | assumption | exact Ext.push _ _ | exact Ext.trans (by assumption) (by first | assumption | exact Ext.push _ _) | exact Ext.trans (by assumption) (Ext.trans (by assumption) (by assumption)) | exact Ext.trans (by assumption) (Ext.trans (by assumption) (Ext.trans (by assumption) (by assumption))))))) (by (first | assumption | exact Fr.rd (by assumption) | exact Rd.ext (by first | assumption | exact Fr.rd (by assumption)) (by (first | assumption | exact Ext.push _ _ | exact Ext.trans (by assumption) (by first | assumption | exact Ext.push _ _) | exact Ext.trans (by assumption) (Ext.trans (by assumption) (by assumption)) | exact Ext.trans (by assumption) (Ext.trans (by assumption) (Ext.trans (by assumption) (by assumption))))))) (by (first | assumption | exact Fr.rd (by assumption) | exact Rd.ext (by first | assumption | exact Fr.rd (by assumption)) (by (first | assumption | exact Ext.push _ _ | exact Ext.trans (by assumption) (by first | assumption | exact Ext.push _ _) | exact Ext.trans (by assumption) (Ext.trans (by assumption) (by assumption)) | exact Ext.trans (by assumption) (Ext.trans (by assumption) (Ext.trans (by assumption) (by assumption))))))) (by (first | assumption | exact Fr.rd (by assumption) | exact Rd.ext (by first | assumption | exact Fr.rd (by assumption)) (by (first | assumption | exact Ext.push _ _ | exact Ext.trans (by assumption) (by first | assumption | exact Ext.push _ _) | exact Ext.trans (by assumption) (Ext.trans (by assumption) (by assumption)) | exact Ext.trans (by assumption) (Ext.trans (by assumption) (Ext.trans (by assumption) (by assumption))))))) | exact GTab.rd (by (first | assumption | exact Fr.rd (by assumption) | exact Rd.ext (by first | assumption | exact Fr.rd (by assumption)) (by (first | assumption | exact Ext.push _ _ | exact Ext.trans (by assumption) (by first | assumption | exact Ext.push _ _) | exact Ext.trans (by assumption) (Ext.trans (by assumption) (by assumption)) | exact Ext.trans (by assumption) (Ext.trans (by assumption) (Ext.trans (by assumption) (by assumption))))))) (by (first | assumption | exact Fr.rd (by assumption) | exact Rd.ext (by first | assumption | exact Fr.rd (by assumption)) (by (first | assumption | exact Ext.push _ _ | exact Ext.trans (by assumption) (by first | assumption | exact Ext.push _ _) | exact Ext.trans (by assumption) (Ext.trans (by assumption) (by assumption)) | exact Ext.trans (by assumption) (Ext.trans (by assumption) (Ext.trans (by assumption) (by assumption))))))) (by (first | assumption | exact Fr.rd (by assumption) | exact Rd.ext (by first | assumption | exact Fr.rd (by assumption)) (by (first | assumption | exact Ext.push _ _ | exact Ext.trans (by assumption) (by first | assumption | exact Ext.push _ _) | exact Ext.trans (by assumption) (Ext.trans (by assumption) (by assumption)) | exact Ext.trans (by assumption) (Ext.trans (by assumption) (Ext.trans (by assumption) (by assumption))))))) | exact GOutcome.rd (by (first | assumption | exact Fr.rd (by assumption) | exact Rd.ext (by first | assumption | exact Fr.rd (by assumption)) (by (first | assumption | exact Ext.push _ _ | exact Ext.trans (by assumption) (by first | assumption | exact Ext.push _ _) | exact Ext.trans (by assumption) (Ext.trans (by assumption) (by assumption)) | exact Ext.trans (by assumption) (Ext.trans (by assumption) (Ext.trans (by assumption) (by assumption)))))))))) ?_
        | refine needP_intro (by first | omega | (constructor <;> omega)) ?_
        | (refine callP_eq (ev_sIsTab (newTab s base hidden) _ _ f0.rd) ?_)
        | refine And.intro ?_ ?_)
    all_goals first
      | rfl
      | exact e0
      | (exfalso; simp_all; done)
      | exact ⟨_, _, _, rfl, f0⟩
  · have ho : openTab s base hidden = (default, false) := if_neg hT
    rw [ho]
    refine evA_intro tok Try.func9 (by kernel_rfl) rfl ?_
    repeat' ((conv => whnf) <;> first
        | refine condP_dec (fun _ => ?_) (fun _ => ?_)
        | refine condP_ndec (fun _ => ?_) (fun _ => ?_)
        | refine condP_true rfl ?_
        | refine condP_false rfl ?_
        | refine condP_not (fun _ => ?_) (fun _ => ?_)
        | refine condP_intro (fun _ => ?_) (fun _ => ?_)
        | refine callP_eq (ev_sIsTab _ _ _ (by (first | assumption | exact Fr.rd (by assumption) | exact Rd.ext (by first | assumption | exact Fr.rd (by assumption)) (by (first | assumption | exact Ext.push _ _ | exact Ext.trans (by assumption) (by first | assumption | exact Ext.push _ _) | exact Ext.trans (by assumption) (Ext.trans (by assumption) (by assumption)) | exact Ext.trans (by assumption) (Ext.trans (by assumption) (Ext.trans (by assumption) (by assumption))))) | exact GPackage.rd (by (first | assumption | exact Fr.rd (by assumption) | exact Rd.ext (by first | assumption | exact Fr.rd (by assumption)) (by (first | assumption | exact Ext.push _ _ | exact Ext.trans (by assumption) (by first | assumption | exact Ext.push _ _) | exact Ext.trans (by assumption) (Ext.trans (by assumption) (by assumption)) | exact Ext.trans (by assumption) (Ext.trans (by assumption) (Ext.trans (by assumption) (by assumption))))))) (by (first | assumption | exact Fr.rd (by assumption) | exact Rd.ext (by first | assumption | exact Fr.rd (by assumption)) (by (first | assumption | exact Ext.push _ _ | exact Ext.trans (by assumption) (by first | assumption | exact Ext.push _ _) | exact Ext.trans (by assumption) (Ext.trans (by assumption) (by assumption)) | exact Ext.trans (by assumption) (Ext.trans (by assumption) (Ext.trans (by assumption) (by assumption))))))) (by (first | assumption | exact Fr.rd (by assumption) | exact Rd.ext (by first | assumption | exact Fr.rd (by assumption)) (by (first | assumption | exact Ext.push _ _ | exact Ext.trans (by assumption) (by first | assumption | exact Ext.push _ _) | exact Ext.trans (by assumption) (Ext.trans (by assumption) (by assumption)) | exact Ext.trans (by assumption) (Ext.trans (by assumption) (Ext.trans (by assumption) (by assumption))))))) (by (first | assumption | exact Fr.rd (by assumption) | exact Rd.ext (by first | assumption | exact Fr.rd (by assumption)) (by (first | assumption | exact Ext.push _ _ | exact Ext.trans (by assumption) (by first | assumption | exact Ext.push _ _) | exact Ext.trans (by assumption) (Ext.trans (by assumption) (by assumption)) | exact Ext.trans (by assumption) (Ext.trans (by assumption) (Ext.trans (by assumption) (by assumption))))))) | exact GTab.rd (by (first | assumption | exact Fr.rd (by assumption) | exact Rd.ext (by first | assumption | exact Fr.rd (by assumption)) (by (first | assumption | exact Ext.push _ _ | exact Ext.trans (by assumption) (by first | assumption | exact Ext.push _ _) | exact Ext.trans (by assumption) (Ext.trans (by assumption) (by assumption)) | exact Ext.trans (by assumption) (Ext.trans (by assumption) (Ext.trans (by assumption) (by assumption))))))) (by (first | assumption | exact Fr.rd (by assumption) | exact Rd.ext (by first | assumption | exact Fr.rd (by assumption)) (by (first | assumption | exact Ext.push _ _ | exact Ext.trans (by assumption) (by first | assumption | exact Ext.push _ _) | exact Ext.trans (by assumption) (Ext.trans (by assumption) (by assumption)) | exact Ext.trans (by assumption) (Ext.trans (by assumption) (Ext.trans (by assumption) (by assumption))))))) (by (first | assumption | exact Fr.rd (by assumption) | exact Rd.ext (by first | assumption | exact Fr.rd (by assumption)) (by (first | assumption | exact Ext.push _ _ | exact Ext.trans (by assumption) (by first | assumption | exact Ext.push _ _) | exact Ext.trans (by assumption) (Ext.trans (by assumption) (by assumption)) | exact Ext.trans (by assumption) (Ext.trans (by assumption) (Ext.trans (by assumption) (by assumption))))))) | exact GOutcome.rd (by (first | assumption | exact Fr.rd (by assumption) | exact Rd.ext (by first | assumption | exact Fr.rd (by assumption)) (by (first | assumption | exact Ext.push _ _ | exact Ext.trans (by assumption) (by first | assumption | exact Ext.push _ _) | exact Ext.trans (by assumption) (Ext.trans (by assumption) (by assumption)) | exact Ext.trans (by assumption) (Ext.trans (by assumption) (Ext.trans (by assumption) (by assumption)))))))))) ?_
        | refine needP_intro (by first | omega | (constructor <;> omega)) ?_
        | refine And.intro ?_ ?_)
    have hnil : Rd S [.sl 6 (([] : List GEdit).map GEdit.d)] [.nil] := rd_empty0
    have hT1 : Rd S (newTab s base hidden).d _ := GTab.rd h hnil h'
    (conv => whnf)
    refine callP_intro (ev_l31Copy (newTab s base hidden) _ _ hT1 (by omega)) ?_; rintro _ S0 ⟨e0, d0, d1, d2, rfl, f0⟩
    repeat' ((conv => whnf) <;> first
        | refine condP_dec (fun _ => ?_) (fun _ => ?_)
        | refine condP_ndec (fun _ => ?_) (fun _ => ?_)
        | refine condP_true rfl ?_
        | refine condP_false rfl ?_
        | refine condP_not (fun _ => ?_) (fun _ => ?_)
        | refine condP_intro (fun _ => ?_) (fun _ => ?_)
        | refine callP_eq (ev_sIsTab _ _ _ (by (first | assumption | exact Fr.rd (by assumption) | exact Rd.ext (by first | assumption | exact Fr.rd (by assumption)) (by (first | assumption | exact Ext.push _ _ | exact Ext.trans (by assumption) (by first | assumption | exact Ext.push _ _) | exact Ext.trans (by assumption) (Ext.trans (by assumption) (by assumption)) | exact Ext.trans (by assumption) (Ext.trans (by assumption) (Ext.trans (by assumption) (by assumption))))) | exact GPackage.rd (by (first | assumption | exact Fr.rd (by assumption) | exact Rd.ext (by first | assumption | exact Fr.rd (by assumption)) (by (first | assumption | exact Ext.push _ _ | exact Ext.trans (by assumption) (by first | assumption | exact Ext.push _ _) | exact Ext.trans (by assumption) (Ext.trans (by assumption) (by assumption)) | exact Ext.trans (by assumption) (Ext.trans (by assumption) (Ext.trans (by assumption) (by assumption))))))) (by (first | assumption | exact Fr.rd (by assumption) | exact Rd.ext (by first | assumption | exact Fr.rd (by assumption)) (by (first | assumption | exact Ext.push _ _ | exact Ext.trans (by assumption) (by first | assumption | exact Ext.push _ _) | exact Ext.trans (by assumption) (Ext.trans (by assumption) (by assumption)) | exact Ext.trans (by assumption) (Ext.trans (by assumption) (Ext.trans (by assumption) (by assumption))))))) (by (first | assumption | exact Fr.rd (by assumption) | exact Rd.ext (by first | assumption | exact Fr.rd (by assumption)) (by (first | assumption | exact Ext.push _ _ | exact Ext.trans (by assumption) (by first | assumption | exact Ext.push _ _) | exact Ext.trans (by assumption) (Ext.trans (by assumption) (by assumption)) | exact Ext.trans (by assumption) (Ext.trans (by assumption) (Ext.trans (by assumption) (by assumption))))))) (by (first | assumption | exact Fr.rd (by assumption) | exact Rd.ext (by first | assumption | exact Fr.rd (by assumption)) (by (first | assumption | exact Ext.push _ _ | exact Ext.trans (by assumption) (by first | assumption | exact Ext.push _ _) | exact Ext.trans (by assumption) (Ext.trans (by assumption) (by assumption)) | exact Ext.trans (by assumption) (Ext.trans (by assumption) (Ext.trans (by assumption) (by assumption))))))) | exact GTab.rd (by (first | assumption | exact Fr.rd (by assumption) | exact Rd.ext (by first | assumption | exact Fr.rd (by assumption)) (by (first | assumption | exact Ext.push _ _ | exact Ext.trans (by assumption) (by first | assumption | exact Ext.push _ _) | exact Ext.trans (by assumption) (Ext.trans (by assumption) (by assumption)) | exact Ext.trans (by assumption) (Ext.trans (by assumption) (Ext.trans (by assumption) (by assumption))))))) (by (first | assumption | exact Fr.rd (by assumption) | exact Rd.ext (by first | assumption | exact Fr.rd (by assumption)) (by (first | assumption | exact Ext.push _ _ | exact Ext.trans (by assumption) (by first | assumption | exact Ext.push _ _) | exact Ext.trans (by assumption) (Ext.trans (by assumption) (by assumption)) | exact Ext.trans (by assumption) (Ext.trans (by assumption) (Ext.trans (by assumption) (by assumption))))))) (by (first | assumption | exact Fr.rd (by assumption) | exact Rd.ext (by first | assumption | exact Fr.rd (by assumption)) (by (first | assumption | exact Ext.push _ _ | exact Ext.trans (by assumption) (by first | assumption | exact Ext.push _ _) | exact Ext.trans (by assumption) (Ext.trans (by assumption) (by assumption)) | exact Ext.trans (by assumption) (Ext.trans (by assumption) (Ext.trans (by assumption) (by assumption))))))) | exact GOutcome.rd (by (first | assumption | exact Fr.rd (by assumption) | exact Rd.ext (by first | assumption | exact Fr.rd (by assumption)) (by (first | assumption | exact Ext.push _ _ | exact Ext.trans (by assumption) (by first | assumption | exact Ext.push _ _) | exact Ext.trans (by assumption) (Ext.trans (by assumption) (by assumption)) | exact Ext.trans (by assumption) (Ext.trans (by assumption) (Ext.trans (by assumption) (by assumption)))))))))) ?_
        | refine needP_intro (by first | omega | (constructor <;> omega)) ?_
        | (refine callP_eq (ev_sIsTab (newTab s base hidden) _ _ f0.rd) ?_)
        | refine And.intro ?_ ?_)
    all_goals first
      | rfl
      | exact e0
      | (exfalso; simp_all; done)
      | exact ⟨_, _, _, rfl, fr_tab0⟩
def exTab1 : GTab := ⟨⟨1, 0⟩, [⟨0, -1, 0, 0, 0⟩, ⟨1, 0, 1, 5, 0⟩, ⟨2, 1, 3, 7, 0⟩], [], [3], -1⟩
def exTab2 : GTab := ⟨⟨2, 0⟩, [⟨0, -1, 0, 0, 0⟩], [], [3], -1⟩
def exTabs : List GTab := [exTab1, exTab2]
theorem fr_litF {S : Store} {α : Type} {f : α → List D} {k : Nat} (l : List α) (hf : ∀ x, Flat (f x)) (h : l.length ≤ 9223372036854775807) : Fr S.length (S ++ [⟨true, k, l.map fun x => flatC (f x)⟩]) [.sl k (l.map f)] [.sl S.length 0 l.length l.length] :=
  fr_push (xs := l.map f) (js := []) (rep2_flat hf l) List.nodup_nil (fun _ h => by cases h) (Nat.le_refl _) (by rw [maxLen_eq]; simpa using h) (by simp)
theorem fr_lit2 {S1 S2 : Store} {lo : Nat} {k : Nat} {d1 d2 : List D} {c1 c2 : List C} (h1 : Fr lo S1 d1 c1) (e : Ext S1 S2) (h2 : Fr S1.length S2 d2 c2) (hlo : lo ≤ S1.length) : Fr lo (S2 ++ [⟨true, k, [c1, c2]⟩]) [.sl k [d1, d2]] [.sl S2.length 0 2 2] := by
  obtain ⟨i, a1, a2, a3⟩ := h1
  obtain ⟨j, b1, b2, b3⟩ := h2
  have hi : ∀ id ∈ i, id < S1.length := a1.lt
  refine fr_push (js := i ++ (j ++ [])) ?_ ?_ (fun id hid => ?_) (Nat.le_trans hlo e.len) (by rw [maxLen_eq]; simp) rfl
  · rw [rep2_cons]
    refine ⟨c1, [c2], i, j ++ [], rfl, rfl, a1.frame fun id hid => e.at (hi id hid), ?_⟩
    rw [rep2_cons]
    exact ⟨c2, [], j, [], rfl, rfl, b1, by rw [rep2_nil]; exact ⟨rfl, rfl⟩⟩
  · rw [List.append_nil, List.nodup_append]
    exact ⟨a2, b2, fun a ha b hb e' => by have := hi a ha; have := b3 b hb; omega⟩
  · rcases List.mem_append.1 hid with h | h
    · exact a3 id h
    · rw [List.append_nil] at h; exact Nat.le_trans hlo (b3 id h)
abbrev exB1 : List GNode := [⟨0, -1, 0, 0, 0⟩, ⟨1, 0, 1, 5, 0⟩, ⟨2, 1, 3, 7, 0⟩]
abbrev exB2 : List GNode := [⟨0, -1, 0, 0, 0⟩]
abbrev exH : List Int := [3]
theorem ex_open1 : openTab ⟨1, 0⟩ exB1 exH = (exTab1, true) := by decide +kernel
theorem ex_open2 : openTab ⟨2, 0⟩ exB2 exH = (exTab2, true) := by decide +kernel
theorem litN {S : Store} (l : List GNode) (h : l.length ≤ 9) : Fr S.length (S ++ [⟨true, 5, l.map fun x => flatC (GNode.d x)⟩]) [.sl 5 (l.map GNode.d)] [.sl S.length 0 l.length l.length] := fr_litF l (fun _ => trivial) (by omega)
theorem litH {S : Store} : Fr S.length (S ++ [⟨true, 1, exH.map fun x => flatC (dInt x)⟩]) [.sl 1 (exH.map dInt)] [.sl S.length 0 1 1] := fr_litF exH (fun _ => trivial) (by decide)
theorem ev_iExampleTabs (S : Store) : EvA Try.prog 5 [] S (fun r S' => Ext S S' ∧ ∃ c', r = .v (.s c') ∧ Fr S.length S' [.sl 6 (exTabs.map GTab.d)] [c']) := by
  have f0 := litN (S := S) exB1 (by decide)
  have f1 := litH (S := S ++ [⟨true, 5, exB1.map fun x => flatC (GNode.d x)⟩])
  have f2 := litN (S := S ++ [⟨true, 5, exB1.map fun x => flatC (GNode.d x)⟩] ++ [⟨true, 1, exH.map fun x => flatC (dInt x)⟩]) exB2 (by decide)
  have f3 := litH (S := S ++ [⟨true, 5, exB1.map fun x => flatC (GNode.d x)⟩] ++ [⟨true, 1, exH.map fun x => flatC (dInt x)⟩] ++ [⟨true, 5, exB2.map fun x => flatC (GNode.d x)⟩])
  have t1 : Fr S.length _ exTab1.d _ := fr_x (fr_x (fr_sl (fr_seg f0 (Ext.push _ _)) (fr_slnil (fr_sl (fr_seg f1 (Ext.refl _)) (fr_x fr_nil) (Ext.push _ _).len)) (Ext.push _ _).len))
  have t2 : Fr _ _ exTab2.d _ := fr_x (fr_x (fr_sl (fr_seg f2 (Ext.push _ _)) (fr_slnil (fr_sl (fr_seg f3 (Ext.refl _)) (fr_x fr_nil) (Ext.push _ _).len)) (Ext.push _ _).len))
  have t3 := fr_lit2 (k := 6) t1 ((Ext.push _ _).trans (Ext.push _ _)) t2 ((Ext.push _ _).trans (Ext.push _ _)).len
  refine evA_intro tok Try.func5 (by kernel_rfl) rfl ?_
  repeat' ((conv => whnf) <;> first
      | refine needP_intro (by first | omega | (constructor <;> omega)) ?_
      | refine And.intro ?_ ?_)
  all_goals first
    | exact ((((Ext.push _ _).trans (Ext.push _ _)).trans (Ext.push _ _)).trans (Ext.push _ _)).trans (Ext.push _ _)
    | exact ⟨_, rfl, t3⟩
theorem ev_sExampleTabs (S : Store) : EvA Try.prog 4 [] S (fun r S' => Ext S S' ∧ ∃ c', r = .v (.s c') ∧ Fr S.length S' [.sl 6 (exTabs.map GTab.d)] [c']) := by
  have f0 := litN (S := S) exB1 (by decide)
  have f1 := litH (S := S ++ [⟨true, 5, exB1.map fun x => flatC (GNode.d x)⟩])
  have k1 := ev_sOpenTab ⟨1, 0⟩ exB1 exH _ _ _ (f0.rd.ext (Ext.push _ _)) f1.rd (by decide)
  rw [ex_open1] at k1
  refine evA_intro tok Try.func4 (by kernel_rfl) rfl ?_
  repeat' ((conv => whnf) <;> first
      | refine needP_intro (by first | omega | (constructor <;> omega)) ?_
      | refine And.intro ?_ ?_)
  (conv => whnf)
  refine callP_intro k1 ?_; rintro _ S1 ⟨e1, b2, b3, b4, rfl, g1⟩
  have f2 := litN (S := S1) exB2 (by decide)
  have f3 := litH (S := S1 ++ [⟨true, 5, exB2.map fun x => flatC (GNode.d x)⟩])
  have k2 := ev_sOpenTab ⟨2, 0⟩ exB2 exH _ _ _ (f2.rd.ext (Ext.push _ _)) f3.rd (by decide)
  rw [ex_open2] at k2
  repeat' ((conv => whnf) <;> first
      | refine needP_intro (by first | omega | (constructor <;> omega)) ?_
      | refine And.intro ?_ ?_)
  (conv => whnf)
  refine callP_intro k2 ?_; rintro _ S2 ⟨e2, d2, d3, d4, rfl, g2⟩
  have e0 : Ext S (S ++ [⟨true, 5, exB1.map fun x => flatC (GNode.d x)⟩] ++ [⟨true, 1, exH.map fun x => flatC (dInt x)⟩]) := (Ext.push _ _).trans (Ext.push _ _)
  have e3 : Ext S1 (S1 ++ [⟨true, 5, exB2.map fun x => flatC (GNode.d x)⟩] ++ [⟨true, 1, exH.map fun x => flatC (dInt x)⟩]) := (Ext.push _ _).trans (Ext.push _ _)
  have t3 := fr_lit2 (k := 6) (g1.mono e0.len) (e3.trans e2) (g2.mono e3.len) (e0.trans e1).len
  repeat' ((conv => whnf) <;> first
      | refine needP_intro (by first | omega | (constructor <;> omega)) ?_
      | refine And.intro ?_ ?_)
  all_goals first
    | exact (((e0.trans e1).trans e3).trans e2).trans (Ext.push _ _)
    | exact ⟨_, rfl, t3⟩
end Go.Proofs.Ytbcgbdcckhalpaa
