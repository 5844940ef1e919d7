/- An abstract evaluator over the model's code: abstract values, rows, what one operation and a piece of code do with them. The abstract values and rows against the model's values and its heap. -/
import Derived.Calls
import Derived.Lib.ItoaNum
import Derived.Control
import Derived.KernelRfl
import Derived.Maps.AppendAt
import Derived.Deep.AppendLies
import Derived.ArgAppend
import Derived.Laws.Rows
import Derived.Laws.IdiomCopy
import Derived.Tactics
import Derived.IntWalk
namespace Go.Proofs.YtlmmdpmmdmhacaaGreat
open Go
set_option linter.unusedVariables false
set_option linter.unusedSimpArgs false
theorem okL {P : Prop} (h : P := by (conv => whnf); repeat' (first | exact trivial | exact rfl | apply And.intro)) : P := h
inductive C where
 | int (k : IntKind) (n : Int)
 | bool (b : Bool)
 | str (s : ByteArray)
 | sl (id off len tot : Nat)
 | nil
 | zc
 | pt (id : Nat)
 | fn (f : Nat)
 | junk
 deriving Inhabited
inductive V where
 | s (c : C)
 | agg (xs : List C)
 deriving Inhabited
inductive AV where
 | v (x : V)
 | tup (vs : List V)
 | box (xs : List C)
 | plc (d off : Nat)
 | el (c : C) (i : Int) (off : Nat)
 | pe (id off : Nat)
 | lst (k : Nat) (xs : List (List C))
 | nb (xs : List C)
 | tt
 | ff
 | und
 | top
 deriving Inhabited
structure Row where
 own : Bool
 k : Nat
 xs : List (List C)
 deriving Inhabited
abbrev Store := List Row
abbrev Env := List AV
def elems (S : Store) : C → Option (List (List C))
 | .nil => some []
 | .zc => some []
 | .sl id o n t => match S[id]? with
   | some row => if row.xs.length = t ∧ o + n ≤ t then some ((row.xs.drop o).take n) else none
   | none => none
 | _ => none
def putCells (cs : List C) (off : Nat) (ys : List C) : List C := cs.take off ++ ys ++ cs.drop (off + ys.length)
def V.cells : V → List C
 | .s c => [c]
 | .agg xs => xs
def z6h : Option (Nat × Array Value) := none
inductive TK where
 | scalar (d : Nat)
 | struct (offs : List Nat)
 | array (len el : Nat)
 | slice (el : Nat)
 deriving Inhabited
structure TI where
 kd : TK
 sz : Nat
 by' : Nat
 zero : List C
 eq : List Nat := []
 ft : List Nat := []
 deriving Inhabited
def TK.agg : TK → Bool
 | .struct _ | .array _ _ => true
 | _ => false
abbrev TT := Nat → Option TI
@[irreducible] def wrapI (k : IntKind) (n : Int) : Int := k.wrap n
@[irreducible] def bitsI (op : BinOp) (k : IntKind) (x y : Int) : Int :=
 let a := BitVec.ofInt k.bits x
 let b := BitVec.ofInt k.bits y
 match op with
 | .and => k.wrap (a &&& b).toNat
 | .or => k.wrap (a ||| b).toNat
 | .xor => k.wrap (a ^^^ b).toNat
 | _ => k.wrap (a &&& ~~~b).toNat
@[irreducible] def shlI (k : IntKind) (x y : Int) : Int := k.wrap (x * 2 ^ (min y.toNat k.bits))
@[irreducible] def shrI (k : IntKind) (x y : Int) : Int := x.fdiv (2 ^ (min y.toNat k.bits))
@[irreducible] def catS (a b : ByteArray) : ByteArray := a ++ b
@[irreducible] def eqS (a b : ByteArray) : Bool := a.toList == b.toList
@[irreducible] def ltS (a b : ByteArray) : Bool := Op.bytesLess a.toList b.toList
@[irreducible] def cutS (s : ByteArray) (l h : Int) : ByteArray := s.extract l.toNat h.toNat
@[irreducible] def byteS (s : ByteArray) (i : Int) : Int := ((s[i.toNat]?.getD 0).toNat : Int)
@[irreducible] def maxI (x y : Int) : Int := if y > x then y else x
@[irreducible] def minI (x y : Int) : Int := if y < x then y else x
@[irreducible] def CondP (b : Bool) (A B : Prop) : Prop := (b = true → A) ∧ (b = false → B)
@[irreducible] def NeedP (p : Prop) (A : Prop) : Prop := p ∧ A
@[irreducible] def LoadP (S : Store) (c : C) (i : Int) (K : List C → Prop) : Prop := ∃ l, elems S c = some l ∧ ∃ cs, l[i.toNat]? = some cs ∧ 0 ≤ i ∧ K cs
@[irreducible] def RowP (S : Store) (id : Nat) (K : List C → Prop) : Prop := ∃ row cs, S[id]? = some row ∧ row.own = true ∧ row.xs = [cs] ∧ K cs
@[irreducible] def ElemsP (S : Store) (c : C) (K : List (List C) → Prop) : Prop := ∃ l, elems S c = some l ∧ K l
theorem zfy {b : Bool} {A B : Prop} (h1 : b = true → A) (h2 : b = false → B) : CondP b A B := by unfold CondP; exact ⟨h1, h2⟩
theorem zpr {b : Bool} {A B : Prop} (h : b = true) (h1 : A) : CondP b A B := by unfold CondP; exact ⟨fun _ => h1, fun h' => (by rw [h] at h'; cases h')⟩
theorem zjj {b : Bool} {A B : Prop} (h : b = false) (h1 : B) : CondP b A B := by unfold CondP; exact ⟨fun h' => (by rw [h] at h'; cases h'), fun _ => h1⟩
theorem zdn {p A : Prop} (h1 : p) (h2 : A) : NeedP p A := by unfold NeedP; exact ⟨h1, h2⟩
theorem zey {S : Store} {c : C} {i : Int} {K : List C → Prop} {l : List (List C)} {cs : List C} (h : elems S c = some l) (h1 : l[i.toNat]? = some cs) (h0 : 0 ≤ i) (hK : K cs) : LoadP S c i K := by
 unfold LoadP; exact ⟨l, h, cs, h1, h0, hK⟩
theorem zp2 {S : Store} {id : Nat} {K : List C → Prop} {row : Row} {cs : List C} (h : S[id]? = some row) (ho : row.own = true) (h1 : row.xs = [cs]) (hK : K cs) : RowP S id K := by
 unfold RowP; exact ⟨row, cs, h, ho, h1, hK⟩
theorem zt6 {S : Store} {c : C} {K : List (List C) → Prop} {l : List (List C)} (h : elems S c = some l) (hK : K l) : ElemsP S c K := by
 unfold ElemsP; exact ⟨l, h, hK⟩
structure Loc where
 blk : Nat
 base : Nat
 cap : Nat
abbrev Mp := Nat → Option Loc
def SlR (μ : Mp) (S : Store) (id off len tot : Nat) (ad : Addr) (cap : Nat) : Prop :=
 ∃ row, S[id]? = some row ∧ tot ≤ row.xs.length ∧ (row.xs.length = tot → ∃ m, μ id = some m ∧ off + len ≤ tot ∧
  (0 < len → ad = ⟨m.blk, m.base + off * row.k, none⟩) ∧ (row.own = true → off = 0 → len = tot → ad = ⟨m.blk, 0, none⟩ ∧ cap = m.cap))
def PtR (μ : Mp) (S : Store) (id off : Nat) (u : Value) : Prop :=
 (∃ b, u = .pointer (some ⟨b, off, none⟩)) ∧ ∃ row, S[id]? = some row ∧ row.own = true ∧ 1 ≤ row.xs.length ∧ (row.xs.length = 1 → ∃ m, μ id = some m ∧ u = .pointer (some ⟨m.blk, off, none⟩))
def CR (μ : Mp) (S : Store) : C → Value → Prop
 | .int k n, u => u = .int k n
 | .bool b, u => u = .bool b
 | .str s, u => u = .string s
 | .nil, u => u = .slice none 0 0
 | .zc, u => ∃ a, u = .slice (some a) 0 0
 | .fn f, u => u = .func (.func f) #[] #[]
 | .sl id o n t, u => ∃ ad cap, u = .slice (some ad) n cap ∧ n ≤ cap ∧ SlR μ S id o n t ad cap
 | .pt id, u => PtR μ S id 0 u
 | .junk, u => u.oneCell' = true
def AggR (μ : Mp) (S : Store) (cs : List C) (us : Array Value) : Prop :=
 us.size = cs.length ∧ ∀ (j : Nat) c, cs[j]? = some c → ∃ u, us[j]? = some u ∧ CR μ S c u
def VR (μ : Mp) (S : Store) : V → Value → Prop
 | .s c, u => CR μ S c u
 | .agg cs, u => ∃ us, u = .agg us ∧ AggR μ S cs us
def VsR (μ : Mp) (S : Store) (vs : List V) (us : Array Value) : Prop :=
 us.size = vs.length ∧ ∀ (j : Nat) v, vs[j]? = some v → ∃ u, us[j]? = some u ∧ VR μ S v u
def ElR (μ : Mp) (S : Store) (c : C) (i : Int) (off : Nat) (u : Value) : Prop :=
 match c with
 | .sl id o n t => (∃ b o', u = .pointer (some ⟨b, o', none⟩)) ∧ ∃ row, S[id]? = some row ∧ t ≤ row.xs.length ∧ (row.xs.length = t → ∃ m, μ id = some m ∧ o + n ≤ t ∧ 0 ≤ i ∧ i < n ∧
    u = .pointer (some ⟨m.blk, m.base + (o + i.toNat) * row.k + off, none⟩))
 | _ => False
def AVR (μ : Mp) (S : Store) : AV → Value → Prop
 | .v x, u => VR μ S x u
 | .tup vs, u => ∃ us, u = .tuple us ∧ VsR μ S vs us
 | .el c i off, u => ElR μ S c i off u
 | .pe id off, u => PtR μ S id off u
 | .tt, u => u = .bool true
 | .ff, u => u = .bool false
 | .und, u => u = undef
 | .top, _ => True
 | _, _ => False
structure RowOK (μ : Mp) (S : Store) (w : World) (row : Row) (m : Loc) : Prop where
 cells : ∀ (i : Nat) cs, row.xs[i]? = some cs → cs.length = row.k ∧ ∀ (j : Nat) c, cs[j]? = some c → ∃ u, w.cell? ⟨m.blk, m.base + i * row.k + j, none⟩ = some u ∧ CR μ S c u
 lt : m.blk < w.heap.size
 mine : row.own = true → m.base = 0 ∧ ∃ arr e, w.heap[m.blk]? = some (.cells arr e (0, 0)) ∧ arr.size = m.cap * row.k ∧ row.xs.length ≤ m.cap ∧ m.cap ≤ maxLen
structure RS (μ : Mp) (S : Store) (w : World) : Prop where
 ok : ∀ id row m, S[id]? = some row → μ id = some m → RowOK μ S w row m
 sep : ∀ id id' row row' m m', S[id]? = some row → S[id']? = some row' → μ id = some m → μ id' = some m' → id ≠ id' → row.own = true → m.blk ≠ m'.blk
structure Evo (μ : Mp) (S : Store) (w : World) (μ' : Mp) (S' : Store) (w' : World) : Prop where
 os : w'.os = w.os
 tape : w'.tape = w.tape
 output : w'.output = w.output
 size : w.heap.size ≤ w'.heap.size
 block : ∀ b, b < w.heap.size → (∀ id row m, S[id]? = some row → μ id = some m → row.own = true → m.blk ≠ b) → w'.heap[b]? = w.heap[b]?
 rows : ∀ id row, S[id]? = some row → ∃ row', S'[id]? = some row' ∧ row'.own = row.own ∧ row'.k = row.k ∧ row.xs.length ≤ row'.xs.length ∧
  (row'.xs.length = row.xs.length → μ' id = μ id) ∧ (row.own = false → row' = row)
 blks : ∀ id row' m', S'[id]? = some row' → μ' id = some m' →
  w.heap.size ≤ m'.blk ∨ ∃ id0 row0 m0, S[id0]? = some row0 ∧ μ id0 = some m0 ∧ row0.own = row'.own ∧ m0.blk = m'.blk
theorem Evo.refl (μ : Mp) (S : Store) (w : World) : Evo μ S w μ S w :=
 ⟨rfl, rfl, rfl, Nat.le_refl _, fun _ _ _ => rfl, fun id row h => ⟨row, h, rfl, rfl, Nat.le_refl _, fun _ => rfl, fun _ => rfl⟩,
  fun id row m h h1 => .inr ⟨id, row, m, h, h1, rfl, rfl⟩⟩
theorem Evo.trans {μ μ1 μ2 : Mp} {S S1 S2 : Store} {w w1 w2 : World} (h : Evo μ S w μ1 S1 w1) (k : Evo μ1 S1 w1 μ2 S2 w2) : Evo μ S w μ2 S2 w2 where
 os := k.os.trans h.os
 tape := k.tape.trans h.tape
 output := k.output.trans h.output
 size := Nat.le_trans h.size k.size
 block := fun b hb hn => by
  rw [k.block b (Nat.lt_of_lt_of_le hb h.size) ?_, h.block b hb hn]
  intro id row m h1 h2 h3 he
  rcases h.blks id row m h1 h2 with h4 | ⟨id0, row0, m0, h5, h6, h7, h8⟩
  ·omega
  ·exact hn id0 row0 m0 h5 h6 (h7.trans h3) (h8.trans he)
 rows := fun id row h0 => by
  obtain ⟨r1, a1, a2, a3, a4, a5, a6⟩ := h.rows id row h0
  obtain ⟨r2, b1, b2, b3, b4, b5, b6⟩ := k.rows id r1 a1
  refine ⟨r2, b1, b2.trans a2, b3.trans a3, Nat.le_trans a4 b4, fun he => ?_, fun ho => ?_⟩
  ·have e1 : r1.xs.length = row.xs.length := by omega
   rw [b5 (by omega), a5 e1]
  ·rw [b6 (by rw [a2]; exact ho), a6 ho]
 blks := fun id row' m' h1 h2 => by
  rcases k.blks id row' m' h1 h2 with h4 | ⟨id1, r1, m1, h5, h6, h7, h8⟩
  ·exact .inl (Nat.le_trans h.size h4)
  ·rcases h.blks id1 r1 m1 h5 h6 with h9 | ⟨id0, r0, m0, g1, g2, g3, g4⟩
   ·exact .inl (h8 ▸ h9)
   ·exact .inr ⟨id0, r0, m0, g1, g2, g3.trans h7, g4.trans h8⟩
def Tab0 (w : World) : Prop := ∀ g cs, z6h = some (g, cs) → ∃ t fr, w.heap[g]? = some (.cells cs t fr)
structure Amb (μ : Mp) (S : Store) (w : World) : Prop where
 tab : Tab0 w
 own : ∀ g cs, z6h = some (g, cs) → ∀ id row m, S[id]? = some row → μ id = some m → row.own = true → m.blk ≠ g
theorem Amb.evo {μ μ' : Mp} {S S' : Store} {w w' : World} (h : Amb μ S w) (e : Evo μ S w μ' S' w') : Amb μ' S' w' where
 tab := fun g cs hg => by
  obtain ⟨t, fr, hh⟩ := h.tab g cs hg
  have lt : g < w.heap.size := (Array.getElem?_eq_some_iff.1 hh).1
  exact ⟨t, fr, by rw [e.block g lt (h.own g cs hg)]; exact hh⟩
 own := fun g cs hg id row m h1 h2 h3 => by
  obtain ⟨t, fr, hh⟩ := h.tab g cs hg
  have lt : g < w.heap.size := (Array.getElem?_eq_some_iff.1 hh).1
  rcases e.blks id row m h1 h2 with h4 | ⟨id0, row0, m0, h5, h6, h7, h8⟩
  ·omega
  ·rw [← h8]; exact h.own g cs hg id0 row0 m0 h5 h6 (h7.trans h3)
section carry
variable {μ μ' : Mp} {S S' : Store} {w w' : World}
def Keeps (μ : Mp) (S : Store) (μ' : Mp) (S' : Store) : Prop :=
 ∀ id row, S[id]? = some row → ∃ row', S'[id]? = some row' ∧ row'.own = row.own ∧ row'.k = row.k ∧ row.xs.length ≤ row'.xs.length ∧ (row'.xs.length = row.xs.length → μ' id = μ id)
theorem Evo.keeps (h : Evo μ S w μ' S' w') : Keeps μ S μ' S' := fun id row h0 =>
 let ⟨r, a, b, c, d, e, _⟩ := h.rows id row h0
 ⟨r, a, b, c, d, e⟩
theorem SlR.keep (k : Keeps μ S μ' S') {id o n t : Nat} {ad : Addr} {cap : Nat} (h : SlR μ S id o n t ad cap) : SlR μ' S' id o n t ad cap := by
 obtain ⟨row, h0, hle, hv⟩ := h
 obtain ⟨r, a, b, c, d, e⟩ := k id row h0
 refine ⟨r, a, by omega, fun he => ?_⟩
 have hl : row.xs.length = t := by omega
 obtain ⟨m, m1, m2, m3, m4⟩ := hv hl
 refine ⟨m, by rw [e (by omega)]; exact m1, m2, ?_, ?_⟩
 ·rw [c]; exact m3
 ·rw [b]; exact m4
theorem PtR.keep (k : Keeps μ S μ' S') {id off : Nat} {u : Value} (h : PtR μ S id off u) : PtR μ' S' id off u := by
 obtain ⟨hp, row, h0, h1, h2, hv⟩ := h
 obtain ⟨r, a, b, c, d, e⟩ := k id row h0
 refine ⟨hp, r, a, b.trans h1, by omega, fun he => ?_⟩
 obtain ⟨m, m1, m2⟩ := hv (by omega)
 exact ⟨m, by rw [e (by omega)]; exact m1, m2⟩
theorem CR.keep (k : Keeps μ S μ' S') {c : C} {u : Value} (h : CR μ S c u) : CR μ' S' c u := by
 cases c with
 | sl id o n t =>
   obtain ⟨ad, cap, h1, h2, h3⟩ := h
   exact ⟨ad, cap, h1, h2, h3.keep k⟩
 | pt id => exact PtR.keep k h
 | _ => exact h
theorem AggR.keep (k : Keeps μ S μ' S') {cs : List C} {us : Array Value} (h : AggR μ S cs us) : AggR μ' S' cs us :=
 ⟨h.1, fun j c hj => let ⟨u, h1, h2⟩ := h.2 j c hj; ⟨u, h1, h2.keep k⟩⟩
theorem VR.keep (k : Keeps μ S μ' S') {v : V} {u : Value} (h : VR μ S v u) : VR μ' S' v u := by
 cases v with
 | s c => exact CR.keep k h
 | agg cs => obtain ⟨us, h1, h2⟩ := h; exact ⟨us, h1, h2.keep k⟩
theorem VsR.keep (k : Keeps μ S μ' S') {vs : List V} {us : Array Value} (h : VsR μ S vs us) : VsR μ' S' vs us :=
 ⟨h.1, fun j c hj => let ⟨u, h1, h2⟩ := h.2 j c hj; ⟨u, h1, h2.keep k⟩⟩
theorem ElR.keep (k : Keeps μ S μ' S') {c : C} {i : Int} {off : Nat} {u : Value} (h : ElR μ S c i off u) : ElR μ' S' c i off u := by
 cases c with
 | sl id o n t =>
   obtain ⟨hp, row, h0, hle, hv⟩ := h
   obtain ⟨r, a, b, c, d, e⟩ := k id row h0
   refine ⟨hp, r, a, by omega, fun he => ?_⟩
   obtain ⟨m, m1, m2, m3, m4, m5⟩ := hv (by omega)
   exact ⟨m, by rw [e (by omega)]; exact m1, m2, m3, m4, by rw [c]; exact m5⟩
 | _ => exact h
theorem AVR.keep (k : Keeps μ S μ' S') {x : AV} {u : Value} (h : AVR μ S x u) : AVR μ' S' x u := by
 cases x with
 | v x => exact VR.keep k h
 | tup vs => obtain ⟨us, h1, h2⟩ := h; exact ⟨us, h1, h2.keep k⟩
 | el c i off => exact ElR.keep k h
 | pe id off => exact PtR.keep k h
 | _ => exact h
end carry
theorem CR.one {μ : Mp} {S : Store} {c : C} {u : Value} (h : CR μ S c u) : u.oneCell' = true := by
 cases c with
 | sl id o n t => obtain ⟨ad, cap, rfl, _⟩ := h; rfl
 | pt id => obtain ⟨⟨a, rfl⟩, _⟩ := h; rfl
 | zc => obtain ⟨a, rfl⟩ := h; rfl
 | junk => exact h
 | _ => cases h; rfl
end Go.Proofs.YtlmmdpmmdmhacaaGreat
