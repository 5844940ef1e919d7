/- Arguments: what the statement's reading of them gives as abstract values and rows. A law: from what is computed of it to what its statement asks of the call. -/
import Derived.Test.YtlmmdpmmdmhacaaGreatKt09
import Derived.WalkKit
import Derived.ProofKit
import Derived.OpenShut
import Derived.Carry
namespace Go.Proofs.YtlmmdpmmdmhacaaGreat
open Go
set_option linter.unusedVariables false
set_option linter.unusedSimpArgs false
def All2 {α β : Type} (R : α → β → Prop) : List α → List β → Prop
 | [], [] => True
 | a :: as, b :: bs => R a b ∧ All2 R as bs
 | _, _ => False
theorem All2.mono {α β : Type} {R R' : α → β → Prop} : ∀ {as : List α} {bs : List β}, All2 R as bs → (∀ a b, R a b → R' a b) → All2 R' as bs
 | [], [], _, _ => trivial
 | _ :: _, _ :: _, h, f => ⟨f _ _ h.1, All2.mono h.2 f⟩
 | [], _ :: _, h, _ => h.elim
 | _ :: _, [], h, _ => h.elim
theorem All2.len {α β : Type} {R : α → β → Prop} : ∀ {as : List α} {bs : List β}, All2 R as bs → bs.length = as.length
 | [], [], _ => rfl
 | _ :: _, _ :: _, h => by simp [All2.len h.2]
 | [], _ :: _, h => h.elim
 | _ :: _, [], h => h.elim
theorem All2.at {α β : Type} {R : α → β → Prop} : ∀ {as : List α} {bs : List β}, All2 R as bs → ∀ (j : Nat) b, bs[j]? = some b → ∃ a, as[j]? = some a ∧ R a b
 | [], [], _, j, b, h => by simp at h
 | a :: _, _ :: _, h, j, b, hb => by
   cases j with
   | zero => simp at hb; subst hb; exact ⟨a, rfl, h.1⟩
   | succ j => simp at hb; simpa using All2.at h.2 j b hb
 | [], _ :: _, h, _, _, _ => h.elim
 | _ :: _, [], h, _, _, _ => h.elim
def WT (P : Program) (S : Store) : Nat → TypeId → List C → Prop
 | 0, _, _ => False
 | n + 1, t, cs => match P.underlying t with
   | some .bool => ∃ b, cs = [.bool b]
   | some (.int k) => ∃ z, cs = [.int k z] ∧ (Lit.int k z).wf = true
   | some .string => ∃ s, cs = [.str s] ∧ s.size ≤ maxLen
   | some (.slice e) => ∃ c l, cs = [c] ∧ elems S c = some l ∧ l.length ≤ maxLen ∧ (c = .nil ∨ c = .zc ∨ ∃ id, c = .sl id 0 l.length l.length ∧ S[id]? = some ⟨false, P.cellsOf e, l⟩) ∧ ∀ x ∈ l, WT P S n e x
   | some (.struct fs) => ∃ ps : List (List C), cs = ps.flatten ∧ All2 (fun f p => WT P S n f p) (fs.toList.map (·.type)) ps
   | _ => False
def z24 (P : Program) (tot : Nat) : Nat → List Field → Bool
 | o, [] => Nat.beq o tot
 | o, f :: fs => Nat.beq f.offset o && z24 P tot (o + P.cellsOf f.type) fs
def wtB (P : Program) : Nat → TypeId → Bool
 | 0, _ => false
 | n + 1, t => match P.underlying t with
   | some .bool => true
   | some (.int _) => true
   | some .string => true
   | some (.slice e) => Nat.blt 0 (P.cellsOf e) && wtB P n e
   | some (.struct fs) => z24 P (P.cellsOf t) 0 fs.toList && fs.toList.all fun f => wtB P n f.type
   | _ => false
theorem zsc {S R : Store} {c : C} {l : List (List C)} (h : elems S c = some l) : elems (S ++ R) c = some l := by
 cases c with
 | sl id o n t =>
   simp only [elems] at h ⊢
   split at h
   ·rename_i row hr
    have hlt := (List.getElem?_eq_some_iff.1 hr).1
    rw [List.getElem?_append_left hlt, hr]
    exact h
   ·cases h
 | _ => exact h
theorem WT.ext {P : Program} {S R : Store} : ∀ {n : Nat} {t : TypeId} {cs : List C}, WT P S n t cs → WT P (S ++ R) n t cs
 | 0, _, _, h => h
 | n + 1, t, cs, h => by
   unfold WT at h ⊢
   split at h
   ·exact h
   ·exact h
   ·exact h
   ·obtain ⟨c, l, h1, h2, h3, h4, h5⟩ := h
    refine ⟨c, l, h1, zsc h2, h3, ?_, fun x hx => (h5 x hx).ext⟩
    rcases h4 with h4 | h4 | ⟨id, h4, h6⟩
    ·exact .inl h4
    ·exact .inr (.inl h4)
    ·exact .inr (.inr ⟨id, h4, by rw [List.getElem?_append_left (List.getElem?_eq_some_iff.1 h6).1]; exact h6⟩)
   ·obtain ⟨ps, h1, h2⟩ := h
    exact ⟨ps, h1, h2.mono fun f p hp => hp.ext⟩
   ·exact h
def RO (S : Store) : Prop := ∀ r ∈ S, r.own = false
theorem LR.keep {μ μ' : Mp} {S S' : Store} (k : Keeps μ S μ' S') {cs : List C} {us : List Value} (h : LR μ S cs us) : LR μ' S' cs us :=
 ⟨h.1, fun j c hj => let ⟨u, h1, h2⟩ := h.2 j c hj; ⟨u, h1, h2.keep k⟩⟩
theorem LR.append {μ : Mp} {S : Store} {cs ds : List C} {us vs : List Value} (h : LR μ S cs us) (g : LR μ S ds vs) : LR μ S (cs ++ ds) (us ++ vs) := by
 refine ⟨by simp [h.1, g.1], fun j c hj => ?_⟩
 rw [List.getElem?_append] at hj ⊢
 rw [h.1]
 split at hj
 ·rename_i hl; rw [if_pos hl]; exact h.2 j c hj
 ·rename_i hl; rw [if_neg hl]; exact g.2 _ c hj
theorem LR.one {μ : Mp} {S : Store} {c : C} {u : Value} (h : CR μ S c u) : LR μ S [c] [u] := by
 refine ⟨rfl, fun j x hj => ?_⟩
 cases j with
 | zero => simp at hj; subst hj; exact ⟨u, rfl, h⟩
 | succ j => simp at hj
structure Ent (w : World) (μ : Mp) (S : Store) (μ' : Mp) (R : Store) : Prop where
 rs : RS μ' (S ++ R) w
 ro : RO R
 old : ∀ id, id < S.length → μ' id = μ id
section
variable {P : Program} {w : World} {μ μ' : Mp} {S R : Store}
theorem Ent.keeps (h : Ent w μ S μ' R) : Keeps μ S μ' (S ++ R) := fun id row h0 => by
 have hlt := (List.getElem?_eq_some_iff.1 h0).1
 exact ⟨row, by rw [List.getElem?_append_left hlt]; exact h0, rfl, rfl, Nat.le_refl _, fun _ => h.old id hlt⟩
theorem Ent.refl (h : RS μ S w) : Ent w μ S μ [] := ⟨by rw [List.append_nil]; exact h, fun r hr => (nomatch hr), fun _ _ => rfl⟩
theorem Ent.trans {μ1 μ2 : Mp} {R1 R2 : Store} (h : Ent w μ S μ1 R1) (k : Ent w μ1 (S ++ R1) μ2 R2) : Ent w μ S μ2 (R1 ++ R2) :=
 ⟨by rw [← List.append_assoc]; exact k.rs, fun r hr => (List.mem_append.1 hr).elim (h.ro r) (k.ro r), fun id hl => (k.old id (by simp; omega)).trans (h.old id hl)⟩
theorem RO.append (h : RO S) (k : RO R) : RO (S ++ R) := fun r hr => (List.mem_append.1 hr).elim (h r) (k r)
theorem Ent.push (h : RS μ S w) (hro : RO S) {r : Row} {m : Loc} (ho : r.own = false) (hr : RowOK (upd μ S.length (some m)) (S ++ [r]) w r m) : Ent w μ S (upd μ S.length (some m)) [r] := by
 have k := zef μ S r (some m)
 have hro' : RO [r] := fun x hx => by rw [List.mem_singleton.1 hx]; exact ho
 refine ⟨⟨fun id row m' h1 h2 => ?_, fun id id' row row' m1 m2 h1 h2 h3 h4 hd ho' => ?_⟩, hro', fun id hl => zbb _ _ (by omega)⟩
 ·rcases zek h1 with ⟨hl, h1⟩ | ⟨rfl, rfl⟩
  ·rw [zbb _ _ (by omega)] at h2
   exact (h.ok id row m' h1 h2).keep k
  ·rw [za2] at h2; cases h2; exact hr
 ·have := (hro.append hro') row (List.mem_of_getElem? h1)
  rw [this] at ho'; cases ho'
theorem zu7 {α : Type} (G : Mp → Store → α → List C → Prop) (hG : ∀ μ S μ' R, RS μ S w → RO S → Ent w μ S μ' R → ∀ x cs, G μ S x cs → G μ' (S ++ R) x cs) :
 ∀ (l : List α), (∀ x ∈ l, ∀ μ S, RS μ S w → RO S → ∃ μ' R cs, Ent w μ S μ' R ∧ G μ' (S ++ R) x cs) → ∀ μ S, RS μ S w → RO S →
  ∃ μ' R css, Ent w μ S μ' R ∧ All2 (G μ' (S ++ R)) l css
 | [], _, μ, S, h, hro => ⟨μ, [], [], Ent.refl h, trivial⟩
 | x :: l, hx, μ, S, h, hro => by
   obtain ⟨μ1, R1, cs, e1, g1⟩ := hx x (by simp) μ S h hro
   have hro1 : RO (S ++ R1) := hro.append e1.ro
   obtain ⟨μ2, R2, css, e2, g2⟩ := zu7 G hG l (fun y hy => hx y (by simp [hy])) μ1 (S ++ R1) e1.rs hro1
   exact ⟨μ2, R1 ++ R2, cs :: css, e1.trans e2, by rw [← List.append_assoc]; exact hG _ _ _ _ e1.rs hro1 e2 _ _ g1, by rw [← List.append_assoc]; exact g2⟩
theorem zxe {α β : Type} {f : α → Option β} : ∀ {l : List α} {r : List β}, l.mapM f = some r → r.length = l.length ∧ ∀ (j : Nat) x, l[j]? = some x → ∃ y, r[j]? = some y ∧ f x = some y
 | [], r, h => by simp at h; subst h; exact ⟨rfl, fun j x hj => by simp at hj⟩
 | a :: l, r, h => by
   rw [List.mapM_cons] at h
   cases ha : f a with
   | none => simp [ha] at h
   | some y =>
     cases hl : l.mapM f with
     | none => simp [ha, hl] at h
     | some ys =>
       simp [ha, hl] at h
       subst h
       obtain ⟨h1, h2⟩ := zxe hl
       refine ⟨by simp [h1], fun j x hj => ?_⟩
       cases j with
       | zero => simp at hj; subst hj; exact ⟨y, rfl, ha⟩
       | succ j => simp at hj; simpa using h2 j x hj
theorem zv9 {b : Nat} {a : Addr} {n : Nat} {us : List Value} (h : w.cells? b a n = some us) : us.length = n ∧ ∀ (j : Nat) u, us[j]? = some u → w.cell? (a.add j) = some u := by
 unfold World.cells? at h
 split at h
 ·obtain ⟨h1, h2⟩ := zxe h
  have hl : us.length = n := by simpa using h1
  refine ⟨hl, fun j u hj => ?_⟩
  have hlt : j < n := by rw [← hl]; exact (List.getElem?_eq_some_iff.1 hj).1
  obtain ⟨y, h3, h4⟩ := h2 j j (by simp [hlt])
  rw [hj] at h3; cases h3
  exact h4
 ·cases h
theorem zzk {a : Addr} {u : Value} (h : w.cell? a = some u) : a.spot = none ∧ a.block < w.heap.size := by
 unfold World.cell? at h
 split at h
 ·rename_i c e fr hh
  have hlt := (Array.getElem?_eq_some_iff.1 hh).1
  cases hs : a.spot with
  | none => exact ⟨rfl, hlt⟩
  | some s => simp [hs] at h
 ·cases h
variable {H : Type} {enc : TypeId × Value → H}
theorem zri {a : Addr} {u : Value} (h : w.cell? ((a.add 0).add 0) = some u) : a.spot = none ∧ a.block < w.heap.size := by
 have e : (a.add 0).add 0 = a := by simp [Addr.add]
 rw [e] at h
 exact zzk h
theorem z7a {a : Addr} (h : a.spot = none) (i : Nat) : a.add i = ⟨a.block, a.off + i, none⟩ := by
 unfold Addr.add
 split
 ·rename_i e; subst e; cases a; simp at h; subst h; rfl
 ·rfl
theorem znp {μ : Mp} {S : Store} {us : List Value} {tot : Nat} (hl : us.length = tot) : ∀ (fs : List Field) (o : Nat) (ps : List (List C)), z24 P tot o fs = true →
 All2 (fun (f : Field) p => LR μ S p ((us.drop f.offset).take (P.cellsOf f.type))) fs ps → LR μ S ps.flatten (us.drop o)
 | [], o, [], h, _ => by
   have : o = tot := Nat.eq_of_beq_eq_true h
   rw [List.drop_eq_nil_of_le (by omega)]
   exact ⟨rfl, fun j c hj => by simp at hj⟩
 | f :: fs, o, p :: ps, h, g => by
   rw [z24, Bool.and_eq_true] at h
   have ho := Nat.eq_of_beq_eq_true h.1
   have ih := znp hl fs _ ps h.2 g.2
   have e : us.drop o = (us.drop o).take (P.cellsOf f.type) ++ us.drop (o + P.cellsOf f.type) := by
    rw [← List.drop_drop]; exact (List.take_append_drop _ _).symm
   rw [e, List.flatten_cons]
   have hg : LR μ S p ((us.drop f.offset).take (P.cellsOf f.type)) := g.1
   rw [ho] at hg
   exact hg.append ih
 | [], _, _ :: _, _, g => g.elim
 | _ :: _, _, [], _, g => g.elim
theorem z7l : ∀ (m : Nat) (t : TypeId), wtB P m t = true → ∀ (n : Nat) (us : List Value) (x : DataW H × List MemPlace), DataW.trod enc P w 0 (fun _ => true) true n t us = some x → ∀ μ S, RS μ S w → RO S →
 ∃ μ' R cs, Ent w μ S μ' R ∧ LR μ' (S ++ R) cs us ∧ WT P (S ++ R) m t cs := by
 intro m
 induction m with
 | zero => intro t h; cases h
 | succ m ih =>
   intro t hB n us x h μ S hrs hro
   unfold wtB at hB
   have scal : ∀ (c : C) (u : Value), us = [u] → CR μ S c u → WT P S (m + 1) t [c] → ∃ μ' R cs, Ent w μ S μ' R ∧ LR μ' (S ++ R) cs us ∧ WT P (S ++ R) (m + 1) t cs := by
    intro c u hu hc hw
    subst hu
    exact ⟨μ, [], [c], Ent.refl hrs, by rw [List.append_nil]; exact LR.one hc, by rw [List.append_nil]; exact hw⟩
   split at hB
   ·rename_i ht
    obtain ⟨b, hc, _⟩ := DataW.trod_bool ht h
    exact scal (.bool b) (.bool b) hc rfl (by unfold WT; rw [ht]; exact ⟨b, rfl⟩)
   ·rename_i k ht
    obtain ⟨z, hc, _, hwf⟩ := DataW.trod_int ht h
    exact scal (.int k z) (.int k z) hc rfl (by unfold WT; rw [ht]; exact ⟨z, rfl, hwf⟩)
   ·rename_i ht
    obtain ⟨s, hc, _, hs⟩ := DataW.trod_string ht h
    exact scal (.str s) (.string s) hc rfl (by unfold WT; rw [ht]; exact ⟨s, rfl, hs⟩)
   ·rename_i e ht
    rw [Bool.and_eq_true] at hB
    have hpos : 0 < P.cellsOf e := by simpa [Nat.blt_eq] using hB.1
    rcases DataW.trod_slice ht h with ⟨hc, _⟩ | ⟨a, len, cap, els, rest, n', rfl, hc, _, _, hle, hcap, hlen, hel, hre⟩
    ·exact scal .nil (.slice none 0 0) hc rfl (by unfold WT; rw [ht]; exact ⟨.nil, [], rfl, rfl, Nat.zero_le _, .inl rfl, fun x hx => by cases hx⟩)
    ·by_cases hz : cap = 0
     ·have hl0 : len = 0 := by omega
      subst hz; subst hl0
      exact scal .zc (.slice (some a) 0 0) hc ⟨a, rfl⟩ (by unfold WT; rw [ht]; exact ⟨.zc, [], rfl, rfl, Nat.zero_le _, .inr (.inl rfl), fun x hx => by cases hx⟩)
     ·
      have hat : ∀ i, i < len → ∃ vs x, w.cells? 0 (a.add (i * P.cellsOf e)) (P.cellsOf e) = some vs ∧ DataW.trod enc P w 0 (fun _ => true) true n' e vs = some x := by
       intro i hi
       have := hel i hi
       rw [List.getElem?_eq_getElem (by omega)] at this
       cases hcs : w.cells? 0 (a.add (i * P.cellsOf e)) (P.cellsOf e) with
       | none => rw [hcs] at this; cases this
       | some vs => rw [hcs] at this; exact ⟨vs, _, rfl, this⟩
      have hblk : a.spot = none ∧ a.block < w.heap.size := by
       have one : ∀ vs, w.cells? 0 (a.add (0 * P.cellsOf e)) (P.cellsOf e) = some vs → a.spot = none ∧ a.block < w.heap.size := by
        intro vs hv
        rw [Nat.zero_mul] at hv
        obtain ⟨h1, h2⟩ := zv9 hv
        exact zri (h2 0 vs[0] (List.getElem?_eq_getElem (by omega)))
       by_cases hl0 : 0 < len
       ·obtain ⟨vs, _, hv, _⟩ := hat 0 hl0
        exact one vs hv
       ·obtain ⟨h1, h2⟩ := hre.1 rfl
        have h3 := h2 0 (by omega)
        rw [List.getElem?_eq_getElem (by omega), show len + 0 = 0 by omega] at h3
        cases hcs : w.cells? 0 (a.add (0 * P.cellsOf e)) (P.cellsOf e) with
        | none => rw [hcs] at h3; cases h3
        | some vs => exact one vs hcs
      obtain ⟨hsp, hlt⟩ := hblk
      have hadd := z7a hsp
      obtain ⟨μ1, R, css, e1, g1⟩ := zu7 (w := w) (fun μ S i cs => i < len → ∃ vs, w.cells? 0 (a.add (i * P.cellsOf e)) (P.cellsOf e) = some vs ∧ LR μ S cs vs ∧ WT P S m e cs)
       (fun μ S μ' R h1 h2 h3 i cs h4 hi => by obtain ⟨vs, k1, k2, k3⟩ := h4 hi; exact ⟨vs, k1, k2.keep h3.keeps, k3.ext⟩) (List.range len)
       (fun i hi μ S h1 h2 => by
        obtain ⟨vs, x, k1, k2⟩ := hat i (by simpa using hi)
        obtain ⟨μ', R, cs, k3, k4, k5⟩ := ih e hB.2 n' vs x k2 μ S h1 h2
        exact ⟨μ', R, cs, k3, fun _ => ⟨vs, k1, k4, k5⟩⟩) μ S hrs hro
      have hcl : css.length = len := by rw [g1.len]; simp
      have helm : ∀ (i : Nat) cs, css[i]? = some cs → ∃ vs, w.cells? 0 (a.add (i * P.cellsOf e)) (P.cellsOf e) = some vs ∧ LR μ1 (S ++ R) cs vs ∧ WT P (S ++ R) m e cs := by
       intro i cs hi
       obtain ⟨i', k1, k2⟩ := g1.at i cs hi
       have hi' : i < len := by rw [← hcl]; exact (List.getElem?_eq_some_iff.1 hi).1
       rw [List.getElem?_range hi'] at k1
       cases k1
       exact k2 hi'
      have hro1 := hro.append e1.ro
      have k := zef μ1 (S ++ R) ⟨false, P.cellsOf e, css⟩ (some ⟨a.block, a.off, cap⟩)
      have e2 := Ent.push (r := ⟨false, P.cellsOf e, css⟩) (m := ⟨a.block, a.off, cap⟩) e1.rs hro1 rfl ⟨fun i cs hi => by
       obtain ⟨vs, k1, k2, k3⟩ := helm i cs hi
       obtain ⟨k4, k5⟩ := zv9 k1
       refine ⟨by rw [← k2.1, k4], fun j c hj => ?_⟩
       obtain ⟨u, k6, k7⟩ := k2.2 j c hj
       have := k5 j u k6
       rw [hadd, zcl] at this
       exact ⟨u, this, k7.keep k⟩, hlt, fun hf => by cases hf⟩
      have hel2 : elems ((S ++ R) ++ [⟨false, P.cellsOf e, css⟩]) (.sl (S ++ R).length 0 css.length css.length) = some css := by
       simp [elems]
      refine ⟨_, R ++ [⟨false, P.cellsOf e, css⟩], [.sl (S ++ R).length 0 css.length css.length], e1.trans e2, ?_, ?_⟩
      ·rw [← List.append_assoc, hc]
       refine LR.one ⟨a, cap, by rw [hcl], by omega, ⟨false, P.cellsOf e, css⟩, by simp, Nat.le_refl _, fun _ => ⟨_, za2 _ _ _, by simp, fun _ => ?_, fun hf => by cases hf⟩⟩
       rw [Nat.zero_mul, Nat.add_zero]
       cases a
       simp at hsp
       subst hsp
       rfl
      ·rw [← List.append_assoc]
       unfold WT
       rw [ht]
       refine ⟨_, css, rfl, hel2, by omega, .inr (.inr ⟨_, rfl, by simp⟩), fun x hx => ?_⟩
       obtain ⟨i, hi⟩ := List.getElem?_of_mem hx
       obtain ⟨_, _, _, k3⟩ := helm i x hi
       exact k3.ext
   ·rename_i fs ht
    rw [Bool.and_eq_true] at hB
    obtain ⟨xs, n', rfl, _, hl, hxl, hf⟩ := DataW.trod_struct ht h
    have hall : ∀ f ∈ fs.toList, wtB P m f.type = true := List.all_eq_true.1 hB.2
    obtain ⟨μ1, R, ps, e1, g1⟩ := zu7 (w := w) (fun μ S (f : Field) cs => LR μ S cs ((us.drop f.offset).take (P.cellsOf f.type)) ∧ WT P S m f.type cs)
     (fun μ S μ' R h1 h2 h3 f cs h4 => ⟨h4.1.keep h3.keeps, h4.2.ext⟩) fs.toList
     (fun f hfm μ S h1 h2 => by
      obtain ⟨i, hi⟩ := List.getElem?_of_mem hfm
      have hi' : fs[i]? = some f := by simpa using hi
      have hlt : i < fs.size := (Array.getElem?_eq_some_iff.1 hi').1
      have := hf i f hi'
      rw [List.getElem?_eq_getElem (by omega)] at this
      exact ih f.type (hall f hfm) n' _ _ this μ S h1 h2) μ S hrs hro
    refine ⟨μ1, R, ps.flatten, e1, ?_, ?_⟩
    ·have := znp (P := P) hl fs.toList 0 ps hB.1 (g1.mono fun f p h => h.1)
     simpa using this
    ·unfold WT
     rw [ht]
     refine ⟨ps, rfl, ?_⟩
     have : ∀ (l : List Field) (qs : List (List C)), All2 (fun (f : Field) cs => LR μ1 (S ++ R) cs ((us.drop f.offset).take (P.cellsOf f.type)) ∧ WT P (S ++ R) m f.type cs) l qs → All2 (fun f p => WT P (S ++ R) m f p) (l.map (·.type)) qs := by
      intro l
      induction l with
      | nil => intro qs h; cases qs <;> first | trivial | exact h.elim
      | cons f l ih2 => intro qs h; cases qs with
        | nil => exact h.elim
        | cons q qs => exact ⟨h.1.2, ih2 qs h.2⟩
     exact this _ _ g1
   ·cases hB
end
end Go.Proofs.YtlmmdpmmdmhacaaGreat
namespace Go.Proofs.YtlmmdpmmdmhacaaGreat
open Go Go.ChangeShapes Go.WideShapes Go.RowKit
set_option linter.unusedVariables false
set_option linter.unusedSimpArgs false
section
variable {P : Program} {w : World} {H : Type} {enc : TypeId × Value → H}
@[irreducible] def VT (P : Program) (S : Store) (m : Nat) (t : TypeId) (v : V) : Prop :=
 match P.underlying t with
 | some (.struct _) => ∃ cs, v = .agg cs ∧ WT P S m t cs
 | _ => ∃ c, v = .s c ∧ WT P S m t [c]
theorem VT.ext {S R : Store} {m : Nat} {t : TypeId} {v : V} (h : VT P S m t v) : VT P (S ++ R) m t v := by
 unfold VT at h ⊢
 split at h <;> obtain ⟨c, h1, h2⟩ := h <;> exact ⟨c, h1, h2.ext⟩
theorem argV {m : Nat} {t : TypeId} (hB : wtB P m t = true) {b0 : Nat} {v : Value} (hv : Value.okWide P w .any b0 t v) {d : DataW H} {ps : List MemPlace} (hd : DataW.Trod enc P w 0 (fun _ => true) true t v d ps) {μ : Mp} {S : Store} (hrs : RS μ S w) (hro : RO S) :
 ∃ μ' R av, Ent w μ S μ' R ∧ VR μ' (S ++ R) av v ∧ VT P (S ++ R) m t av := by
 obtain ⟨fuel, hf⟩ := hd
 obtain ⟨μ', R, cs, h1, h2, h3⟩ := z7l m t hB fuel _ _ hf μ S hrs hro
 have one : v.cells = #[v] → (∀ fs, P.underlying t ≠ some (.struct fs)) → ∃ μ' R av, Ent w μ S μ' R ∧ VR μ' (S ++ R) av v ∧ VT P (S ++ R) m t av := by
  intro hc hns
  rw [hc] at h2
  have hlen := h2.1
  simp at hlen
  obtain ⟨c, rfl⟩ := List.length_eq_one_iff.1 hlen.symm
  obtain ⟨u, u1, u2⟩ := h2.2 0 c rfl
  simp at u1; subst u1
  refine ⟨μ', R, .s c, h1, u2, ?_⟩
  unfold VT
  split
  ·rename_i fs hfs; exact absurd hfs (hns fs)
  ·exact ⟨c, rfl, h3⟩
 cases m with
 | zero => cases hB
 | succ m =>
   unfold wtB at hB
   split at hB
   ·rename_i ht
    obtain ⟨b, rfl⟩ := okWide_bool ht hv
    exact one rfl (fun fs hfs => by rw [ht] at hfs; cases hfs)
   ·rename_i k ht
    obtain ⟨z, rfl⟩ := okWide_int ht hv
    exact one rfl (fun fs hfs => by rw [ht] at hfs; cases hfs)
   ·rename_i ht
    obtain ⟨s, rfl⟩ := okWide_string ht hv
    exact one rfl (fun fs hfs => by rw [ht] at hfs; cases hfs)
   ·rename_i e ht
    obtain ⟨a, len, cap, rfl⟩ := okWide_slice ht hv
    exact one rfl (fun fs hfs => by rw [ht] at hfs; cases hfs)
   ·rename_i fs ht
    unfold Value.okWide at hv
    rw [ht] at hv
    obtain ⟨us, rfl, _, _⟩ := hv
    refine ⟨μ', R, .agg cs, h1, ⟨us, rfl, by have := h2.1; simpa [Value.cells] using this, fun j c hj => ?_⟩, ?_⟩
    ·obtain ⟨u, u1, u2⟩ := h2.2 j c hj
     exact ⟨u, by simpa [Value.cells] using u1, u2⟩
    ·unfold VT
     rw [ht]
     exact ⟨cs, rfl, h3⟩
   ·cases hB
theorem z65 {m b0 : Nat} : ∀ (ts : List TypeId) (vs : List Value) (ds : List (DataW H)) (ps : List MemPlace), ts.all (wtB P m) = true → (∀ (j : Nat) t v, ts[j]? = some t → vs[j]? = some v → Value.okWide P w .any b0 t v) →
 DataW.TrodAll enc P w 0 (fun _ => true) true ts vs ds ps → ∀ μ S, RS μ S w → RO S → ∃ μ' R avs, Ent w μ S μ' R ∧ All2 (VR μ' (S ++ R)) avs vs ∧ All2 (VT P (S ++ R) m) ts avs
 | [], vs, ds, ps, _, _, h, μ, S, hrs, hro => by
   obtain ⟨rfl, rfl, rfl⟩ := trodAll_nil h
   exact ⟨μ, [], [], Ent.refl hrs, trivial, trivial⟩
 | t :: ts, vs, ds, ps, hB, hv, h, μ, S, hrs, hro => by
   obtain ⟨v, vs1, d, ds1, a, b, rfl, rfl, rfl, h1, h2⟩ := trodAll_cons h
   rw [List.all_cons, Bool.and_eq_true] at hB
   obtain ⟨μ1, R1, av, e1, r1, v1⟩ := argV hB.1 (hv 0 t v rfl rfl) h1 hrs hro
   obtain ⟨μ2, R2, avs, e2, r2, v2⟩ := z65 ts vs1 ds1 b hB.2 (fun j t v g1 g2 => hv (j + 1) t v (by simpa using g1) (by simpa using g2)) h2 μ1 (S ++ R1) e1.rs (hro.append e1.ro)
   refine ⟨μ2, R1 ++ R2, av :: avs, e1.trans e2, ?_, ?_⟩
   ·rw [← List.append_assoc]; exact ⟨VR.keep e2.keeps r1, r2⟩
   ·rw [← List.append_assoc]; exact ⟨v1.ext, v2⟩
theorem z36 {α β : Type} {R : α → β → Prop} {bs : List β} (h : All2 R [] bs) : bs = [] := by cases bs <;> first | rfl | exact h.elim
theorem zzl {α β : Type} {R : α → β → Prop} {a : α} {as : List α} {bs : List β} (h : All2 R (a :: as) bs) : ∃ b bs', bs = b :: bs' ∧ R a b ∧ All2 R as bs' := by
 cases bs with
 | nil => exact h.elim
 | cons b bs => exact ⟨b, bs, rfl, h.1, h.2⟩
theorem zj7 (hl : laidOutB P = true) {W W' : World} {sp : Nat → Bool} : ∀ (ts : List TypeId) (vs : List Value) (ds : List (DataW H)) (ps : List MemPlace), ts.all (fun t => P.readableRec t && decide (t < P.types.size)) = true →
 DataW.TrodAll enc P W 0 (fun _ => true) true ts vs ds ps → (∀ p ∈ ps, W.sameAt W' p) → (∀ p ∈ ps, sp p.block = true) → DataW.TrodAll enc P W' 0 sp true ts vs ds ps
 | [], vs, ds, ps, _, h, _, _ => by
   obtain ⟨rfl, rfl, rfl⟩ := trodAll_nil h
   exact trodAll_mk0
 | t :: ts, vs, ds, ps, hr, h, hs, hp => by
   obtain ⟨v, vs1, d, ds1, a, b, rfl, rfl, rfl, h1, h2⟩ := trodAll_cons h
   rw [List.all_cons, Bool.and_eq_true] at hr
   have hr1 := hr.1
   rw [Bool.and_eq_true] at hr1
   exact ⟨a, b, WideElems.Trod_stays hl hr1.1 (of_decide_eq_true hr1.2) h1 (fun p hx => hs p (List.mem_append.2 (.inl hx))) (fun p hx => hp p (List.mem_append.2 (.inl hx))),
    zj7 hl ts vs1 ds1 b hr.2 h2 (fun p hx => hs p (List.mem_append.2 (.inr hx))) (fun p hx => hp p (List.mem_append.2 (.inr hx))), rfl⟩
theorem znw : ∀ (ts : List TypeId) (vs : List Value) (ds : List (DataW H)) (ps : List MemPlace) {W : World} {b : Nat} {sp : Nat → Bool} {hd : Bool}, DataW.TrodAll enc P W b sp hd ts vs ds ps → ds.length = ts.length ∧ vs.length = ts.length
 | [], vs, ds, ps, _, _, _, _, h => by obtain ⟨rfl, rfl, rfl⟩ := trodAll_nil h; exact ⟨rfl, rfl⟩
 | t :: ts, vs, ds, ps, _, _, _, _, h => by
   obtain ⟨v, vs1, d, ds1, a, b, rfl, rfl, rfl, h1, h2⟩ := trodAll_cons h
   have := znw ts vs1 ds1 b h2
   simp [this.1, this.2]
theorem z3o {f : Func} {s : ChangeSpec} {W W' : World} {args : Array Value} {ds gs : List (DataW H)} {zcw : List MemPlace} (hW : DataW.Whole enc P f.params.toList s.vars false W args.toList ds gs zcw)
 (hl : laidOutB P = true) (hrd : f.params.toList.all (fun t => P.readableRec t && decide (t < P.types.size)) = true) (hv : s.vars = []) (hs : ∀ ds, ds.length = f.params.size → s.fn H ds = { results := [.lit (.bool true)], args := ds })
 {tb : TypeId} (hres : f.resultTypes = #[tb]) (htb : P.underlying tb = some .bool) (hb : Below W.heap.size W W') : s.post enc P f false true false false W args (.bool true) W' := by
 have hlt : ∀ p ∈ zcw, p.block < W.heap.size := fun p hp => by simpa using hW.lt p hp
 have hW' := hW
 obtain ⟨p, q, hA, hV, rfl, _, _⟩ := hW
 rw [hv] at hV
 obtain ⟨rfl, rfl⟩ := trodVars_none hV
 rw [List.append_nil] at hW' hlt
 have hlen := (znw _ _ _ _ hA).1
 have e := hs ds (by simpa using hlen)
 refine ⟨ds, [], p, [], p, [], hW', ?_, ?_, ?_, hb.frame _, fun h => by cases h⟩
 ·rw [List.append_nil, e, hres]
  exact trodAll_mk1 (shut_bool htb true)
 ·rw [List.append_nil, e]
  exact zj7 hl _ _ _ _ hrd hA (fun x hx => hb.same (hlt x hx)) (fun x hx => by simpa using hlt x hx)
 ·rw [hv, List.append_nil, e]
  rfl
theorem Evo.below {μ μ' : Mp} {S S' : Store} {w w' : World} (h : Evo μ S w μ' S' w') (hro : RO S) : Below w.heap.size w w' :=
 ⟨h.os, h.tape, h.output, h.size, fun k hk => h.block k hk fun id row m h1 h2 h3 => by rw [hro row (List.mem_of_getElem? h1)] at h3; cases h3⟩
theorem z1z {f : Nat} {fn : Func} {s : ChangeSpec} (m : Nat) (hl : laidOutB P = true) (hrd : fn.params.toList.all (fun t => P.readableRec t && decide (t < P.types.size)) = true) (hB : fn.params.toList.all (wtB P m) = true) (hv : s.vars = [])
 (hs : ∀ (H : Type) (ds : List (DataW H)), ds.length = fn.params.size → s.fn H ds = { results := [.lit (.bool true)], args := ds }) {tb : TypeId} (hres : fn.resultTypes = #[tb]) (htb : P.underlying tb = some .bool)
 (hE : ∀ S avs, RO S → All2 (VT P S m) fn.params.toList avs → EvA P f avs S (fun r _ => r = .v (.s (.bool true))))
 {W : World} {base : Nat} {args : Array Value} {ds gs : List (DataW H)} {zcw : List MemPlace} (hval : ∀ (j : Nat) t v, fn.params[j]? = some t → args[j]? = some v → Value.okWide P W .any base t v)
 (hW : DataW.Whole enc P fn.params.toList s.vars false W args.toList ds gs zcw) (htab : Tab0 W) :
 Calls P f args W fun e W' => ∃ v, e = .returned v ∧ s.post enc P fn false true false false W args v W' := by
 have hW' := hW
 obtain ⟨p, q, hA, hV, rfl, _, _⟩ := hW
 have hrs : RS (fun _ => none) [] W := ⟨fun id row m h1 => by simp at h1, fun id id' row row' m m' h1 => by simp at h1⟩
 obtain ⟨μ, R, avs, e1, r1, v1⟩ := z65 (m := m) (b0 := base) _ _ _ _ hB (fun j t v h1 h2 => hval j t v (by simpa using h1) (by simpa using h2)) hA (fun _ => none) [] hrs (fun r hr => (nomatch hr))
 have hro : RO ([] ++ R) := RO.append (fun r hr => (nomatch hr)) e1.ro
 have hE1 := hE _ avs hro v1
 refine (hE1.2 μ W args e1.rs ⟨htab, fun g cs hg id row m h1 h2 h3 => by rw [hro row (List.mem_of_getElem? h1)] at h3; cases h3⟩ ⟨?_, fun j v hj => ?_⟩).mono fun e W' he => ?_
 ·have := r1.len
  simpa using this
 ·have hl := r1.len
  have hj' : j < args.toList.length := by rw [hl]; exact (List.getElem?_eq_some_iff.1 hj).1
  obtain ⟨a, g1, g2⟩ := r1.at j args.toList[j] (List.getElem?_eq_getElem hj')
  rw [hj] at g1; cases g1
  exact ⟨args.toList[j], by simp, g2⟩
 ·obtain ⟨_, _, u, μ', rfl, rfl, _, hu, hev⟩ := he
  have hu : u = .bool true := hu
  subst hu
  exact ⟨_, rfl, z3o hW' hl hrd hv (hs H) hres htb (hev.below hro)⟩
end
end Go.Proofs.YtlmmdpmmdmhacaaGreat
