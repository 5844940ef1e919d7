/- A text of the proof. A text of the proof. -/
import Derived.Test.YtockphlpokoohaaGreatKq29
import Derived.Test.YtockphlpokoohaaGreatKq25
import Derived.Test.YtockphlpokoohaaGreatKq24
import Derived.Test.YtockphlpokoohaaGreatKq43
import Derived.Test.YtockphlpokoohaaGreatKq12
import Derived.Test.YtockphlpokoohaaGreatKq35
import Derived.Test.YtockphlpokoohaaGreatKq41
import Derived.Test.YtockphlpokoohaaGreatKq46
import Derived.Test.YtockphlpokoohaaGreatKq28
import Derived.Test.YtockphlpokoohaaGreatKq30
namespace Go.Proofs.YtockphlpokoohaaGreat
open Go Go.ChangeShapes Go.WideShapes Go.ChangeAt Go.RowKit
set_option linter.unusedVariables false
set_option linter.unusedSimpArgs false
set_option maxRecDepth 100000
structure StC (x0 : List Int) (c0 : C) where
  S : Store
  hc : Rd S [.sl 1 (x0.map dByte)] [c0]
theorem ev_big (l : List Int) (c : C) (S : Store) (h : Rd S [.sl 1 (l.map dByte)] [c]) : EvA Tryz.prog 12 [.s c] S (fun r S' => r = .v (.s (.bool (decide (1048576 < (l.length : Int))))) ∧ S' = S) := by
  refine evA_intro tok Tryz.func12 (by kernel_rfl) rfl ?_
  repeat' ((conv => whnf) <;> first
   | refine rE fun hml => ?_ | refine nP ?_ | refine And.intro ?_ ?_)
  all_goals rfl
end Go.Proofs.YtockphlpokoohaaGreat
namespace Go.Proofs.YtockphlpokoohaaGreat
open Go Go.ChangeShapes Go.WideShapes Go.ChangeAt Go.RowKit
set_option linter.unusedVariables false
set_option linter.unusedSimpArgs false
set_option maxRecDepth 100000
abbrev exts (b : GBrowser) : List Int := b.Packs.map GPackage.Ext
theorem packGo_at (ext : Int) : ∀ (l : List GPackage) (i : Nat), 0 ≤ packGo ext l i → ∃ j, ∃ h : j < l.length, packGo ext l i = ((i + j : Nat) : Int) ∧ (l[j]'h).Ext = ext
  | [], i, h => by simp [packGo] at h
  | p :: r, i, h => by
    rw [packGo] at h ⊢
    split
    · rename_i he; exact ⟨0, by simp, rfl, he⟩
    · rename_i hn
      rw [if_neg hn] at h
      obtain ⟨j, hj, h1, h2⟩ := packGo_at ext r (i + 1) h
      exact ⟨j + 1, by simpa using hj, by rw [h1]; congr 1; omega, h2⟩
theorem packOf_at {b : GBrowser} {ext : Int} (h : 0 ≤ packOf b ext) : ∃ hi : (packOf b ext).toNat < b.Packs.length, (b.Packs[(packOf b ext).toNat]'hi).Ext = ext := by
  obtain ⟨j, hj, h1, h2⟩ := packGo_at ext b.Packs 0 h
  have e : (packOf b ext).toNat = j := by show (packGo ext b.Packs 0).toNat = j; rw [h1]; omega
  refine ⟨by omega, ?_⟩
  simp only [e]; exact h2
structure TabOk (t : GTab) : Prop where
  site : isSite t.Site = true
  doc : isDoc t.Base = true
  len : t.Edits.length ≤ 40
  click : -1 ≤ t.Click ∧ t.Click ≤ 10000
  eds : ∀ e ∈ t.Edits, isEdit e = true
  hid : hidGo t.Hidden t.Hidden 0 = true
structure BrOk (b : GBrowser) : Prop where
  key : isKey b.Key = true
  tl : 1 ≤ b.Tabs.length ∧ b.Tabs.length ≤ 3
  pl : b.Packs.length ≤ 5
  gl : b.Grants.length ≤ 16
  ll : b.Limits.length ≤ 8
  fair : isFair b.Rules = true
  store : isStore b.Store = true
  now : 0 ≤ b.Now ∧ b.Now ≤ 10000
  sld : ∀ p ∈ b.Packs, isSealed b.Key p = true
  asc : b.Packs.Pairwise fun p q => p.Ext < q.Ext
  tabs : ∀ t ∈ b.Tabs, TabOk t
  eds : ∀ t ∈ b.Tabs, ∀ e ∈ t.Edits, e.By = 0 ∨ e.By ∈ exts b
  grants : ∀ g ∈ b.Grants, isGrant g = true
  gex : ∀ g ∈ b.Grants, g.Ext ∈ exts b
  lims : ∀ x ∈ b.Limits, isLimit x = true
  rex : ∀ r ∈ b.Rules, r.Ext ∈ exts b
  sex : ∀ x ∈ b.Store, x.Ext ∈ exts b
end Go.Proofs.YtockphlpokoohaaGreat
