/- Numbers of any size as text: the shelf's contract for strconv.Itoa, in a seat whose rows list the table of powers of ten (tabAt). -/
import Derived.Lib.LaidTab
import Derived.Lib.AppendIntMem
import Derived.Sort.Grow
import Derived.Test.YtakmoigpjaceeaaDoorFnL
import Derived.Test.YtakmoigpjaceeaaDoorShelf
import Derived.Test.YtakmoigpjaceeaaDoorRows
namespace Go.Proofs.YtakmoigpjaceeaaDoor
open Go Go.ChangeShapes Go.WideShapes Go.ChangeAt Go.RowKit
set_option linter.unusedVariables false
set_option maxRecDepth 100000

theorem evo_grow (μ : Mp) (S : Store) (w : World) (k : Nat) (os : Array Obj) : Evo μ S w μ S (Sort.grow (w.drewN k) os) where
  os := rfl
  tape := rfl
  output := rfl
  size := by simp [Sort.grow]
  block := fun b hb _ => Lib.heap_grow_old w k os b hb
  rows := (Evo.refl μ S w).rows
  blks := (Evo.refl μ S w).blks
theorem tab_is {μ : Mp} {S : Store} {w : World} (h : Amb μ S w) : Lib.TabIs Tryd.prog w "internal/strconv.uint64pow10" .u64 Lib.pow10Tab := by
  obtain ⟨t, fr, hh⟩ := h.tab _ _ rfl
  unfold Lib.TabIs World.var?
  rw [show Tryd.prog.globalNamed "internal/strconv.uint64pow10" = some 0 from by kernel_rfl]
  simp only [Option.bind_some]
  rw [hh]
theorem one_arg {μ : Mp} {S : Store} {n : Int} {us : Array Value} (h : VsR μ S [.s (.int .i64 n)] us) : us = #[.int .i64 n] := by
  obtain ⟨hl, hv⟩ := h
  obtain ⟨u, h1, h2⟩ := hv 0 _ rfl
  have h2 : u = .int .i64 n := h2
  subst h2
  apply Array.ext
  · simpa using hl
  · intro i hi hi2
    have : i = 0 := by simp at hi2; omega
    subst this
    have := (Array.getElem?_eq_some_iff.1 h1).2
    simpa using this
theorem ev_ItoaT (n : Int) (S : Store) (h : -9223372036854775808 ≤ n ∧ n ≤ 9223372036854775807) : EvA Tryd.prog 29 [.s (.int .i64 n)] S (fun r S' => r = .v (.s (.str (numS n))) ∧ S' = S) := by
  refine ⟨⟨Tryd.f29, Tryd.func29, by kernel_rfl, by kernel_rfl⟩, fun μ w us rs hA hv => ?_⟩
  obtain rfl := one_arg hv
  refine (Tryd.strconv_Itoa n h.1 h.2 w (tab_is hA)).mono ?_
  rintro e w' ⟨rfl, k, os, rfl⟩
  exact ⟨_, S, _, μ, ⟨rfl, rfl⟩, rfl, rs.world (evo_grow μ S w k os).size (fun id row m h1 h2 => Lib.heap_grow_old w k os _ (rs.ok id row m h1 h2).lt), rfl, evo_grow μ S w k os⟩
theorem ev_iFormatIntT (n : Int) (S : Store) (h : -9223372036854775808 ≤ n ∧ n ≤ 9223372036854775807) : EvA Tryd.prog 18 [.s (.int .i64 n)] S (fun r S' => r = .v (.s (.str (numS n))) ∧ S' = S) := by
  refine evA_intro tok Tryd.func18 (by kernel_rfl) rfl ?_
  repeat' ((conv => whnf) <;> first
   | refine callP_eq (ev_Itoa _ _ (by omega)) ?_
   | refine callP_eq (ev_ItoaT _ _ (by omega)) ?_
   | refine needP_intro (by first | omega | (constructor <;> omega) | fail) ?_
   | refine And.intro ?_ ?_)
  all_goals rfl
theorem tab0_of_laid {d1 d2 : DataW Unit} {W : World} (h : laidMet Tryd.prog [("math/bits.deBruijn32tab", d1), ("math/bits.deBruijn64tab", d2), ("internal/strconv.uint64pow10", Rows.laid_internal_strconv_uint64pow10)] W) : Tab0 W := by
  obtain ⟨ps, ⟨_, _, _, _, _, _, _, _, _, _, ⟨_, _, _, _, _, _, _, _, _, _, ⟨g, t, cs, fuel, p, q, hg, ht, hvar, hd, _, _⟩, _⟩, _⟩, _⟩ := h
  intro g' cs' hc
  obtain ⟨rfl, rfl⟩ : 0 = g' ∧ (Lib.pow10Tab.map fun z => Value.int .u64 z).toArray = cs' := by
    have hc : (some (0, (Lib.pow10Tab.map fun z => Value.int .u64 z).toArray) : Option (Nat × Array Value)) = some (g', cs') := hc
    cases hc; exact ⟨rfl, rfl⟩
  obtain rfl := Option.some.inj ((show Tryd.prog.globalNamed "internal/strconv.uint64pow10" = some 0 by kernel_rfl).symm.trans hg)
  have hty : (Tryd.prog.globals[0]?).map (·.type) = some 79 := by kernel_rfl
  obtain rfl := Option.some.inj (hty.symm.trans ht)
  have e := Lib.cells_of_tab (zs := Lib.pow10Tab) (k := .u64) (n := 20) (e := 70) Tryd.underlying79 Tryd.underlying70 (by kernel_rfl) (by kernel_rfl) (show DataW.trod _ _ _ _ _ _ _ _ _ = some (Lib.tabData .u64 Lib.pow10Tab, p) from hd)
  unfold World.var? at hvar
  rw [hg] at hvar
  simp only [Option.bind_some] at hvar
  split at hvar
  · rename_i c t fr hh
    have hcs : c = cs := Option.some.inj hvar
    subst hcs
    refine ⟨t, fr, ?_⟩
    rw [hh, ← e]
  · cases hvar
end Go.Proofs.YtakmoigpjaceeaaDoor
