/- Texts joined: the shelf's contract for strings.Join. -/
import Derived.Lib.Join
import Derived.Test.YtakmoigpjaceeaaDoorFnLt
import Derived.Test.YtakmoigpjaceeaaDoorFnM
namespace Go.Proofs.YtakmoigpjaceeaaDoor
open Go Go.ChangeShapes Go.WideShapes Go.ChangeAt Go.RowKit
set_option linter.unusedVariables false
set_option maxRecDepth 100000

theorem evo_below {μ : Mp} {S : Store} {w w' : World} (h : Below w.heap.size w w') : Evo μ S w μ S w' :=
  ⟨h.os, h.tape, h.output, h.size, fun b hb _ => h.block b hb, (Evo.refl μ S w).rows, (Evo.refl μ S w).blks⟩
theorem two_args {μ : Mp} {S : Store} {c : C} {s : ByteArray} {us : Array Value} (h : VsR μ S [.s c, .s (.str s)] us) : ∃ u, us = #[u, .string s] ∧ CR μ S c u := by
  obtain ⟨hl, hv⟩ := h
  obtain ⟨u, h1, h2⟩ := hv 0 _ rfl
  obtain ⟨v, h3, h4⟩ := hv 1 _ rfl
  have h4 : v = .string s := h4
  subst h4
  refine ⟨u, ?_, h2⟩
  apply Array.ext
  · simpa using hl
  · intro i hi hi2
    have : i = 0 ∨ i = 1 := by simp at hi2; omega
    rcases this with rfl | rfl
    · have := (Array.getElem?_eq_some_iff.1 h1).2
      simpa using this
    · have := (Array.getElem?_eq_some_iff.1 h3).2
      simpa using this
theorem rd_strs {S : Store} {l : List ByteArray} {c : C} (h : Rd S [.sl 1 (l.map dStr)] [c]) : ∃ rows, elems S c = some rows ∧ rows.length = l.length ∧ ∀ j (hj : j < l.length), rows[j]? = some [.str l[j]] := by
  have h1 := rd_len (K := fun n => n = l.length) h (fun _ => by simp)
  unfold LenP at h1
  obtain ⟨rows, e1, e2⟩ := h1
  refine ⟨rows, e1, e2, fun j hj => ?_⟩
  have h3 := rd_loadf (K := fun cs => cs = [.str l[j]]) (i := (j : Int)) h (fun _ => trivial) ⟨by omega, by simpa using hj⟩ rfl
  unfold LoadP at h3
  obtain ⟨l', e3, cs, e4, _, e5⟩ := h3
  rw [e1] at e3; cases e3
  subst e5
  simpa using e4
def joinS (l : List ByteArray) (sep : ByteArray) : ByteArray := ⟨(Lib.join (l.map (·.data.toList)) sep.data.toList).toArray⟩
theorem ev_Join (l : List ByteArray) (sep : ByteArray) (c : C) (S : Store) (h : Rd S [.sl 1 (l.map dStr)] [c]) (hN : l.length ≤ 140737488355328) (hlen : (joinS l sep).size ≤ 140737488355328) (hne : 0 < l.length) : EvA Tryd.prog 32 [.s c, .s (.str sep)] S (fun r S' => r = .v (.s (.str (joinS l sep))) ∧ S' = S) := by
  refine ⟨⟨Tryd.f32, Tryd.func32, by kernel_rfl, by kernel_rfl⟩, fun μ w us rs hA hv => ?_⟩
  obtain ⟨u, rfl, hu⟩ := two_args hv
  obtain ⟨rows, e1, e2, e3⟩ := rd_strs h
  cases c with
  | sl id o n t =>
    obtain ⟨ad, cap, rfl, hcap, row, hrow, ht, hf⟩ := hu
    simp only [elems] at e1
    rw [hrow] at e1
    simp only at e1
    split at e1
    · rename_i hc
      have e1 : (row.xs.drop o).take n = rows := Option.some.inj e1
      have hn : n = l.length := by rw [← e2, ← e1, List.length_take, List.length_drop]; omega
      obtain ⟨m, hm, hot, had0, _⟩ := hf hc.1
      have had := had0 (by omega)
      clear had0 hf
      have ok := rs.ok id row m hrow hm
      have hx : ∀ j (hj : j < l.length), row.xs[o + j]? = some [.str l[j]] := fun j hj => by
        have := e3 j hj
        rw [← e1, List.getElem?_take_of_lt (by omega), List.getElem?_drop] at this
        exact this
      have hk : row.k = 1 := by
        have := (ok.cells _ _ (hx 0 hne)).1
        simpa using this.symm
      subst hn
      subst had
      refine (Tryd.strings_Join m.blk (m.base + o * row.k) cap l sep w (fun j x hj => ?_) ok.lt hN hcap hlen).mono ?_
      · obtain ⟨hj1, hj2⟩ := List.getElem?_eq_some_iff.1 hj
        obtain ⟨u, g1, g2⟩ := (ok.cells _ _ (hx j hj1)).2 0 _ rfl
        have g2 : u = .string l[j] := g2
        rw [g2, hj2] at g1
        rw [hk] at g1 ⊢
        rw [show m.base + o * 1 + j = m.base + (o + j) * 1 + 0 from by omega]
        exact g1
      · rintro e w' ⟨rfl, hb⟩
        have ev := evo_below (μ := μ) (S := S) hb
        exact ⟨_, S, _, μ, ⟨rfl, rfl⟩, rfl, rs.world hb.size (fun id row m h1 h2 => hb.block _ (rs.ok id row m h1 h2).lt), rfl, ev⟩
    · cases e1
  | nil => simp only [elems] at e1; cases e1; simp at e2; omega
  | zc => simp only [elems] at e1; cases e1; simp at e2; omega
  | _ => simp [elems] at e1
end Go.Proofs.YtakmoigpjaceeaaDoor
