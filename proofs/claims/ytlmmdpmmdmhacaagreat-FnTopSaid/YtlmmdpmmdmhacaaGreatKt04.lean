/- How a frame's state goes on: a new variable, a store, a new row, a row that grows, what a call has done. -/
import Derived.Test.YtlmmdpmmdmhacaaGreatKt03
namespace Go.Proofs.YtlmmdpmmdmhacaaGreat
open Go
set_option linter.unusedVariables false
set_option linter.unusedSimpArgs false
def upd {α : Type} (f : Nat → α) (i : Nat) (v : α) : Nat → α := fun j => if j = i then v else f j
theorem za2 {α : Type} (f : Nat → α) (i : Nat) (v : α) : upd f i v i = v := by simp [upd]
theorem zbb {α : Type} (f : Nat → α) {i j : Nat} (v : α) (h : j ≠ i) : upd f i v j = f j := by simp [upd, h]
section
variable {μ μ' : Mp} {S S' : Store} {w w' : World}
theorem RowOK.world {row : Row} {m : Loc} (h : RowOK μ S w row m) (hs : w.heap.size ≤ w'.heap.size) (hb : w'.heap[m.blk]? = w.heap[m.blk]?) : RowOK μ S w' row m where
 cells := fun i cs hi => by
  obtain ⟨h1, h2⟩ := h.cells i cs hi
  refine ⟨h1, fun j c hj => ?_⟩
  obtain ⟨u, hu, hc⟩ := h2 j c hj
  exact ⟨u, (World.cell?_of_block hb).trans hu, hc⟩
 lt := Nat.lt_of_lt_of_le h.lt hs
 mine := fun ho => by
  obtain ⟨h1, arr, e, h2, h3⟩ := h.mine ho
  exact ⟨h1, arr, e, hb.trans h2, h3⟩
theorem RowOK.keep {row : Row} {m : Loc} (k : Keeps μ S μ' S') (h : RowOK μ S w row m) : RowOK μ' S' w row m where
 cells := fun i cs hi => by
  obtain ⟨h1, h2⟩ := h.cells i cs hi
  refine ⟨h1, fun j c hj => ?_⟩
  obtain ⟨u, hu, hc⟩ := h2 j c hj
  exact ⟨u, hu, hc.keep k⟩
 lt := h.lt
 mine := h.mine
theorem RS.world (h : RS μ S w) (hs : w.heap.size ≤ w'.heap.size) (hb : ∀ id row m, S[id]? = some row → μ id = some m → w'.heap[m.blk]? = w.heap[m.blk]?) : RS μ S w' :=
 ⟨fun id row m h1 h2 => (h.ok id row m h1 h2).world hs (hb id row m h1 h2), h.sep⟩
theorem zef (μ : Mp) (S : Store) (r : Row) (m : Option Loc) : Keeps μ S (upd μ S.length m) (S ++ [r]) := by
 intro id row h
 have hlt : id < S.length := by
  rcases Nat.lt_or_ge id S.length with h' | h'
  ·exact h'
  ·rw [List.getElem?_eq_none h'] at h; cases h
 exact ⟨row, by rw [List.getElem?_append_left hlt]; exact h, rfl, rfl, Nat.le_refl _, fun _ => zbb _ _ (by omega)⟩
theorem zek {S : Store} {r row : Row} {id : Nat} (h : (S ++ [r])[id]? = some row) : (id < S.length ∧ S[id]? = some row) ∨ (id = S.length ∧ row = r) := by
 rcases Nat.lt_trichotomy id S.length with h' | h' | h'
 ·rw [List.getElem?_append_left h'] at h; exact .inl ⟨h', h⟩
 ·subst h'; simp at h; exact .inr ⟨rfl, h.symm⟩
 ·rw [List.getElem?_eq_none (by simp; omega)] at h; cases h
theorem RS.push (h : RS μ S w) {r : Row} {m : Loc} (hr : RowOK (upd μ S.length (some m)) (S ++ [r]) w r m) (hne : ∀ id row m', S[id]? = some row → μ id = some m' → m'.blk ≠ m.blk) : RS (upd μ S.length (some m)) (S ++ [r]) w := by
 have k := zef μ S r (some m)
 refine ⟨fun id row m' h1 h2 => ?_, fun id id' row row' m1 m2 h1 h2 h3 h4 hd ho => ?_⟩
 ·rcases zek h1 with ⟨hl, h1⟩ | ⟨rfl, rfl⟩
  ·rw [zbb _ _ (by omega)] at h2
   exact (h.ok id row m' h1 h2).keep k
  ·rw [za2] at h2; cases h2; exact hr
 ·rcases zek h1 with ⟨hl, g1⟩ | ⟨e1, e2⟩ <;> rcases zek h2 with ⟨hl', g2⟩ | ⟨e3, e4⟩
  ·rw [zbb _ _ (by omega)] at h3 h4
   exact h.sep id id' row row' m1 m2 g1 g2 h3 h4 hd ho
  ·rw [zbb _ _ (by omega)] at h3
   rw [e3, za2] at h4; cases h4
   exact hne id row m1 g1 h3
  ·rw [zbb _ _ (by omega)] at h4
   rw [e1, za2] at h3; cases h3
   exact fun e => hne id' row' m2 g2 h4 e.symm
  ·exact absurd (e1.trans e3.symm) hd
theorem zt5 (μ : Mp) (S : Store) (w : World) (o : Obj) : Evo μ S w μ S (w.alloc o) where
 os := rfl
 tape := rfl
 output := rfl
 size := by simp
 block := fun b hb _ => Go.heap_alloc_old w o b hb
 rows := (Evo.refl μ S w).rows
 blks := (Evo.refl μ S w).blks
theorem z3d (μ : Mp) (S : Store) (w : World) : Evo μ S w μ S w.drew := ⟨rfl, rfl, rfl, Nat.le_refl _, fun _ _ _ => rfl, (Evo.refl μ S w).rows, (Evo.refl μ S w).blks⟩
theorem zqi {μ0 : Mp} {S0 : Store} {w0 : World} (h : Evo μ0 S0 w0 μ S w) (r : Row) (m : Loc) (hm : w0.heap.size ≤ m.blk) : Evo μ0 S0 w0 (upd μ S.length (some m)) (S ++ [r]) w where
 os := h.os
 tape := h.tape
 output := h.output
 size := h.size
 block := h.block
 rows := fun id row h0 => by
  obtain ⟨r1, a1, a2, a3, a4, a5, a6⟩ := h.rows id row h0
  have hlt : id < S.length := (List.getElem?_eq_some_iff.1 a1).1
  exact ⟨r1, by rw [List.getElem?_append_left hlt]; exact a1, a2, a3, a4, fun e => by rw [zbb _ _ (by omega)]; exact a5 e, a6⟩
 blks := fun id row' m' h1 h2 => by
  rcases zek h1 with ⟨hl, h1⟩ | ⟨rfl, rfl⟩
  ·rw [zbb _ _ (by omega)] at h2
   exact h.blks id row' m' h1 h2
  ·rw [za2] at h2; cases h2; exact .inl hm
end
section
variable {μ0 : Mp} {S0 : Store} {w0 : World} {μ μ' : Mp} {β : Nat → Nat} {env : Env} {S S' : Store} {ts : Array Value} {w w' : World}
theorem SlotR.keep (k : Keeps μ S μ' S') {d : Nat} {x : AV} {u : Value} (hb : x.priv = true → w'.heap[β d]? = w.heap[β d]?) (h : SlotR μ S β env w d x u) : SlotR μ' S' β env w' d x u := by
 cases x with
 | box xs =>
   obtain ⟨h1, arr, e, h2, h3⟩ := h
   exact ⟨h1, arr, e, (hb rfl).trans h2, h3.keep k⟩
 | nb xs =>
   obtain ⟨h1, arr, e, h2, h3⟩ := h
   exact ⟨h1, arr, e, (hb rfl).trans h2, h3.keep k⟩
 | lst n xs =>
   obtain ⟨h1, h0, arr, e, h2, h3, h4⟩ := h
   refine ⟨h1, h0, arr, e, (hb rfl).trans h2, h3, fun i cs hi => ?_⟩
   obtain ⟨h5, h6⟩ := h4 i cs hi
   refine ⟨h5, fun j c hj => ?_⟩
   obtain ⟨u, hu, hc⟩ := h6 j c hj
   exact ⟨u, hu, hc.keep k⟩
 | plc d' o => exact h
 | v x => exact AVR.keep (x := .v x) k h
 | tup x => exact AVR.keep (x := .tup x) k h
 | el c i o => exact AVR.keep (x := .el c i o) k h
 | pe i o => exact AVR.keep (x := .pe i o) k h
 | tt => exact h
 | ff => exact h
 | und => exact h
 | top => trivial
theorem St.step (h : St μ0 S0 w0 μ β env S ts w) (rs : RS μ' S' w') (ev : Evo μ S w μ' S' w') : St μ0 S0 w0 μ' β env S' ts w' where
 rs := rs
 evo := h.evo.trans ev
 size := h.size
 slot := fun d x hd => SlotR.keep ev.keeps (fun hp => ev.block _ (h.bnew d x hd hp).2 (fun id row m h1 h2 h3 => h.brow d x id row m hd hp h1 h2)) (h.slot d x hd)
 bsep := h.bsep
 brow := fun d x id row m hd hp h1 h2 => by
  rcases ev.blks id row m h1 h2 with h4 | ⟨id0, r0, m0, g1, g2, g3, g4⟩
  ·have := (h.bnew d x hd hp).2
   omega
  ·rw [← g4]; exact h.brow d x id0 r0 m0 hd hp g1 g2
 bnew := fun d x hd hp => ⟨(h.bnew d x hd hp).1, Nat.lt_of_lt_of_le (h.bnew d x hd hp).2 ev.size⟩
 amb := h.amb
def newE (env : Env) (d : Nat) (x : AV) : Env := (env.map (zlc d)).set d x
theorem zir {d d' : Nat} {x y : AV} (h : (newE env d x)[d']? = some y) : (d' = d ∧ y = x) ∨ (d' ≠ d ∧ ∃ z, env[d']? = some z ∧ y = zlc d z) := by
 unfold newE at h
 rw [List.getElem?_set] at h
 split at h
 ·rename_i e
  split at h
  ·simp at h; exact .inl ⟨e.symm, h.symm⟩
  ·cases h
 ·rename_i e
  refine .inr ⟨fun e' => e e'.symm, ?_⟩
  simp only [List.getElem?_map, Option.map_eq_some_iff] at h
  obtain ⟨z, hz, rfl⟩ := h
  exact ⟨z, hz, rfl⟩
theorem zpt {d : Nat} {z : AV} (h : (zlc d z).priv = true) : z.priv = true ∧ zlc d z = z := by
 cases z <;> simp [zlc, AV.priv] at h ⊢
 revert h
 cases Nat.beq _ d <;> simp
theorem St.fresh (h : St μ0 S0 w0 μ β env S ts w) {d : Nat} {x : AV} (hp : x.priv = true) {arr : Array Value} {e : Nat} {u : Value}
 (hx : ∀ (β' : Nat → Nat) (env' : Env) (w' : World), β' d = w.heap.size → w'.heap[w.heap.size]? = some (.cells arr e (0, 0)) → SlotR μ S β' env' w' d x u) {a : Act} (hts : a.tmps = ts) :
 St μ0 S0 w0 μ (upd β d w.heap.size) (newE env d x) S (a.put (some d) u).tmps (w.alloc (.cells arr e)) := by
 subst hts
 have rs : RS μ S (w.alloc (.cells arr e)) := h.rs.world (by simp) (fun id row m h1 h2 => Go.heap_alloc_old w _ _ (h.rs.ok id row m h1 h2).lt)
 have h' := h.step rs (zt5 μ S w _)
 have lt : ∀ (d' : Nat) x, env[d']? = some x → x.priv = true → β d' ≠ w.heap.size := fun d' x hd hp => by have := (h.bnew d' x hd hp).2; omega
 have old : ∀ (d' : Nat) y, (newE env d x)[d']? = some y → y.priv = true → (d' = d ∧ y = x) ∨ (d' ≠ d ∧ env[d']? = some y) := by
  intro d' y hy hp
  rcases zir hy with h1 | ⟨hne, z, hz, rfl⟩
  ·exact .inl h1
  ·obtain ⟨p1, p2⟩ := zpt hp
   exact .inr ⟨hne, by rw [p2]; exact hz⟩
 refine ⟨rs, h'.evo, by simp [Act.put, newE, h.size], ?_, ?_, ?_, ?_, h.amb⟩
 ·intro d' y hy
  simp only [Act.put]
  rcases zir hy with ⟨rfl, rfl⟩ | ⟨hne, z, hz, rfl⟩
  ·have hlt : d' < env.length := by
    have := (List.getElem?_eq_some_iff.1 hy).1
    simpa [newE] using this
   rw [zg5 (by rw [h.size]; exact hlt)]
   exact hx _ _ _ (za2 _ _ _) (Go.heap_alloc_new w _)
  ·rw [getD_set_ne (Ne.symm hne)]
   have := h'.slot d' z hz
   cases z with
   | plc d1 o =>
     simp only [zlc]
     cases hb : Nat.beq d1 d with
     | true => trivial
     | false =>
       have hd1 : d1 ≠ d := by intro e; subst e; simp at hb
       refine ⟨this.1, fun xs hxs => ?_⟩
       rcases zir hxs with ⟨e1, _⟩ | ⟨_, z2, hz2, hz3⟩
       ·exact absurd e1 hd1
       ·rw [zbb _ _ hd1]
        refine this.2 xs ?_
        cases z2 <;> simp [zlc] at hz3
        ·rw [hz2, hz3]
        ·revert hz3; cases Nat.beq _ d <;> simp
   | box xs =>
     obtain ⟨h1, arr', e', h2, h3⟩ := this
     exact ⟨by rw [zbb _ _ hne]; exact h1, arr', e', by rw [zbb _ _ hne]; exact h2, h3⟩
   | nb xs =>
     obtain ⟨h1, arr', e', h2, h3⟩ := this
     exact ⟨by rw [zbb _ _ hne]; exact h1, arr', e', by rw [zbb _ _ hne]; exact h2, h3⟩
   | lst n xs =>
     obtain ⟨h1, h0, arr', e', h2, h3⟩ := this
     exact ⟨by rw [zbb _ _ hne]; exact h1, h0, arr', e', by rw [zbb _ _ hne]; exact h2, h3⟩
   | v x => exact this
   | tup x => exact this
   | el c i o => exact this
   | pe i o => exact this
   | tt => exact this
   | ff => exact this
   | und => exact this
   | top => trivial
 ·intro d1 d2 y1 y2 h1 h2 p1 p2 hne
  rcases old d1 y1 h1 p1 with ⟨rfl, rfl⟩ | ⟨n1, g1⟩ <;> rcases old d2 y2 h2 p2 with ⟨rfl, rfl⟩ | ⟨n2, g2⟩
  ·exact absurd rfl hne
  ·rw [za2, zbb _ _ n2]; exact (lt d2 y2 g2 p2).symm
  ·rw [za2, zbb _ _ n1]; exact lt d1 y1 g1 p1
  ·rw [zbb _ _ n1, zbb _ _ n2]; exact h.bsep d1 d2 y1 y2 g1 g2 p1 p2 hne
 ·intro d1 y id row m h1 p1 h2 h3
  rcases old d1 y h1 p1 with ⟨rfl, rfl⟩ | ⟨n1, g1⟩
  ·rw [za2]
   have := (h.rs.ok id row m h2 h3).lt
   omega
  ·rw [zbb _ _ n1]; exact h.brow d1 y id row m g1 p1 h2 h3
 ·intro d1 y h1 p1
  rcases old d1 y h1 p1 with ⟨rfl, rfl⟩ | ⟨n1, g1⟩
  ·rw [za2]; exact ⟨h.evo.size, by simp⟩
  ·rw [zbb _ _ n1]; exact h'.bnew d1 y g1 p1
theorem St.bear (h : St μ0 S0 w0 μ β env S ts w) {d : Nat} {cs : List C} (hd : env[d]? = some (.nb cs)) : St μ0 S0 w0 μ β (newE env d (.box cs)) S ts w := by
 have hdl : d < env.length := (List.getElem?_eq_some_iff.1 hd).1
 have old : ∀ (d' : Nat) y, (newE env d (.box cs))[d']? = some y → y.priv = true → ∃ z, env[d']? = some z ∧ z.priv = true := by
  intro d' y hy hp
  rcases zir hy with ⟨rfl, rfl⟩ | ⟨hne, z, hz, rfl⟩
  ·exact ⟨_, hd, rfl⟩
  ·obtain ⟨p1, p2⟩ := zpt hp
   exact ⟨z, hz, p1⟩
 refine ⟨h.rs, h.evo, by simp [newE, h.size], ?_, ?_, ?_, ?_, h.amb⟩
 ·intro d' y hy
  rcases zir hy with ⟨rfl, rfl⟩ | ⟨hne, z, hz, rfl⟩
  ·exact h.slot d' _ hd
  ·have := h.slot d' z hz
   cases z with
   | plc d1 o =>
     simp only [zlc]
     cases hb : Nat.beq d1 d with
     | true => trivial
     | false =>
       have hd1 : d1 ≠ d := by intro e; subst e; simp at hb
       refine ⟨this.1, fun xs hxs => ?_⟩
       rcases zir hxs with ⟨e1, _⟩ | ⟨_, z2, hz2, hz3⟩
       ·exact absurd e1 hd1
       ·refine this.2 xs ?_
        cases z2 <;> simp [zlc] at hz3
        ·rw [hz2, hz3]
        ·revert hz3; cases Nat.beq _ d <;> simp
   | box xs => exact this
   | nb xs => exact this
   | lst n xs => exact this
   | v x => exact this
   | tup x => exact this
   | el c i o => exact this
   | pe i o => exact this
   | tt => exact this
   | ff => exact this
   | und => exact this
   | top => trivial
 ·intro d1 d2 y1 y2 h1 h2 p1 p2 hne
  obtain ⟨z1, a1, b1⟩ := old d1 y1 h1 p1
  obtain ⟨z2, a2, b2⟩ := old d2 y2 h2 p2
  exact h.bsep d1 d2 z1 z2 a1 a2 b1 b2 hne
 ·intro d1 y id row m h1 p1 h2 h3
  obtain ⟨z1, a1, b1⟩ := old d1 y h1 p1
  exact h.brow d1 z1 id row m a1 b1 h2 h3
 ·intro d1 y h1 p1
  obtain ⟨z1, a1, b1⟩ := old d1 y h1 p1
  exact h.bnew d1 z1 a1 b1
theorem St.freshL (h : St μ0 S0 w0 μ β env S ts w) {d : Nat} {x : AV} (hp : x.priv = true) (hnb : ∀ ys, x ≠ .box ys) {arr : Array Value} {e : Nat} {u : Value}
 (hx : ∀ (β' : Nat → Nat) (env' : Env) (w' : World), β' d = w.heap.size → w'.heap[w.heap.size]? = some (.cells arr e (0, 0)) → SlotR μ S β' env' w' d x u) {a : Act} (hts : a.tmps = ts) :
 St μ0 S0 w0 μ (upd β d w.heap.size) (env.set d x) S (a.put (some d) u).tmps (w.alloc (.cells arr e)) := by
 subst hts
 have rs : RS μ S (w.alloc (.cells arr e)) := h.rs.world (by simp) (fun id row m h1 h2 => Go.heap_alloc_old w _ _ (h.rs.ok id row m h1 h2).lt)
 have h' := h.step rs (zt5 μ S w _)
 have lt : ∀ (d' : Nat) x, env[d']? = some x → x.priv = true → β d' ≠ w.heap.size := fun d' x hd hp => by have := (h.bnew d' x hd hp).2; omega
 have get : ∀ (d' : Nat) y, (env.set d x)[d']? = some y → (d' = d ∧ y = x) ∨ (d' ≠ d ∧ env[d']? = some y) := by
  intro d' y hy
  rw [List.getElem?_set] at hy
  split at hy
  ·rename_i e
   split at hy
   ·simp at hy; exact .inl ⟨e.symm, hy.symm⟩
   ·cases hy
  ·rename_i e
   exact .inr ⟨fun e' => e e'.symm, hy⟩
 refine ⟨rs, h'.evo, by simp [Act.put, h.size], ?_, ?_, ?_, ?_, h.amb⟩
 ·intro d' y hy
  simp only [Act.put]
  rcases get d' y hy with ⟨rfl, rfl⟩ | ⟨hne, hz⟩
  ·have hlt : d' < env.length := by
    have := (List.getElem?_eq_some_iff.1 hy).1
    simpa using this
   rw [zg5 (by rw [h.size]; exact hlt)]
   exact hx _ _ _ (za2 _ _ _) (Go.heap_alloc_new w _)
  ·rw [getD_set_ne (Ne.symm hne)]
   have := h'.slot d' y hz
   cases y with
   | plc d1 o =>
     refine ⟨this.1, fun xs hxs => ?_⟩
     rcases get d1 _ hxs with ⟨_, e1⟩ | ⟨hd1, h1⟩
     ·exact absurd e1.symm (hnb xs)
     ·rw [zbb _ _ hd1]
      exact this.2 xs h1
   | box xs =>
     obtain ⟨h1, arr', e', h2, h3⟩ := this
     exact ⟨by rw [zbb _ _ hne]; exact h1, arr', e', by rw [zbb _ _ hne]; exact h2, h3⟩
   | nb xs =>
     obtain ⟨h1, arr', e', h2, h3⟩ := this
     exact ⟨by rw [zbb _ _ hne]; exact h1, arr', e', by rw [zbb _ _ hne]; exact h2, h3⟩
   | lst n xs =>
     obtain ⟨h1, h0, arr', e', h2, h3⟩ := this
     exact ⟨by rw [zbb _ _ hne]; exact h1, h0, arr', e', by rw [zbb _ _ hne]; exact h2, h3⟩
   | v x => exact this
   | tup x => exact this
   | el c i o => exact this
   | pe i o => exact this
   | tt => exact this
   | ff => exact this
   | und => exact this
   | top => trivial
 ·intro d1 d2 y1 y2 h1 h2 p1 p2 hne
  rcases get d1 y1 h1 with ⟨rfl, rfl⟩ | ⟨n1, g1⟩ <;> rcases get d2 y2 h2 with ⟨rfl, rfl⟩ | ⟨n2, g2⟩
  ·exact absurd rfl hne
  ·rw [za2, zbb _ _ n2]; exact (lt d2 y2 g2 p2).symm
  ·rw [za2, zbb _ _ n1]; exact lt d1 y1 g1 p1
  ·rw [zbb _ _ n1, zbb _ _ n2]; exact h.bsep d1 d2 y1 y2 g1 g2 p1 p2 hne
 ·intro d1 y id row m h1 p1 h2 h3
  rcases get d1 y h1 with ⟨rfl, rfl⟩ | ⟨n1, g1⟩
  ·rw [za2]
   have := (h.rs.ok id row m h2 h3).lt
   omega
  ·rw [zbb _ _ n1]; exact h.brow d1 y id row m g1 p1 h2 h3
 ·intro d1 y h1 p1
  rcases get d1 y h1 with ⟨rfl, rfl⟩ | ⟨n1, g1⟩
  ·rw [za2]; exact ⟨h.evo.size, by simp⟩
  ·rw [zbb _ _ n1]; exact h'.bnew d1 y g1 p1
theorem St.prom (h : St μ0 S0 w0 μ β env S ts w) {t k : Nat} {xs : List (List C)} (ht : env[t]? = some (.lst k xs)) :
 St μ0 S0 w0 (upd μ S.length (some ⟨β t, 0, xs.length⟩)) β (env.set t (.v (.s (.sl S.length 0 xs.length xs.length)))) (S ++ [⟨true, k, xs⟩]) ts w ∧
 CR (upd μ S.length (some ⟨β t, 0, xs.length⟩)) (S ++ [⟨true, k, xs⟩]) (.sl S.length 0 xs.length xs.length) (ts.getD t undef) := by
 obtain ⟨h1, h0, arr, e, h2, h3, h4⟩ := h.slot t _ ht
 have kp : Keeps μ S _ _ := zef μ S ⟨true, k, xs⟩ (some ⟨β t, 0, xs.length⟩)
 have hb := h.bnew t _ ht rfl
 have cr : CR (upd μ S.length (some ⟨β t, 0, xs.length⟩)) (S ++ [⟨true, k, xs⟩]) (.sl S.length 0 xs.length xs.length) (ts.getD t undef) := by
  refine ⟨⟨β t, 0, none⟩, xs.length, h1, Nat.le_refl _, ⟨true, k, xs⟩, by simp, Nat.le_refl _, fun _ => ⟨_, za2 _ _ _, by simp, fun _ => by simp, fun _ _ _ => ⟨rfl, rfl⟩⟩⟩
 refine ⟨⟨?_, zqi h.evo _ _ hb.1, by simp [h.size], ?_, ?_, ?_, ?_, h.amb⟩, cr⟩
 ·refine h.rs.push ⟨fun i cs hi => ?_, hb.2, fun _ => ⟨rfl, arr, e, h2, h3, Nat.le_refl _, h0⟩⟩ (fun id row m' a b => h.brow t _ id row m' ht rfl a b)
  obtain ⟨h5, h6⟩ := h4 i cs hi
  refine ⟨h5, fun j c hj => ?_⟩
  obtain ⟨u, hu, hc⟩ := h6 j c hj
  refine ⟨u, ?_, hc.keep kp⟩
  rw [cell_of_row w _ _ arr e (0, 0) h2, Nat.zero_add]
  exact hu
 ·intro d y hy
  rw [List.getElem?_set] at hy
  split at hy
  ·rename_i e; subst e
   split at hy
   ·simp at hy; subst hy; exact cr
   ·cases hy
  ·rename_i hne
   have := SlotR.keep (w' := w) kp (fun _ => rfl) (h.slot d y hy)
   cases y with
   | plc d1 o =>
     refine ⟨this.1, fun xs' hxs => ?_⟩
     rw [List.getElem?_set] at hxs
     split at hxs
     ·split at hxs
      ·simp at hxs
      ·cases hxs
     ·exact this.2 xs' hxs
   | _ => exact this
 all_goals
  have old : ∀ (d : Nat) y, (env.set t (.v (.s (.sl S.length 0 xs.length xs.length))))[d]? = some y → y.priv = true → env[d]? = some y ∧ d ≠ t := by
   intro d y hy hp
   rw [List.getElem?_set] at hy
   split at hy
   ·split at hy
    ·simp at hy; subst hy; cases hp
    ·cases hy
   ·rename_i hne; exact ⟨hy, fun e => hne e.symm⟩
 ·intro d1 d2 y1 y2 g1 g2 p1 p2 hne
  exact h.bsep d1 d2 y1 y2 (old d1 y1 g1 p1).1 (old d2 y2 g2 p2).1 p1 p2 hne
 ·intro d1 y id row m g1 p1 g2 g3
  obtain ⟨o1, o2⟩ := old d1 y g1 p1
  rcases zek g2 with ⟨hl, g2⟩ | ⟨rfl, rfl⟩
  ·rw [zbb _ _ (by omega)] at g3
   exact h.brow d1 y id row m o1 p1 g2 g3
  ·rw [za2] at g3; cases g3
   exact h.bsep t d1 _ y ht o1 rfl p1 (Ne.symm o2)
 ·intro d1 y g1 p1
  exact h.bnew d1 y (old d1 y g1 p1).1 p1
theorem zzd {t id : Nat} {z : AV} (h : (zjs t id z).priv = true) : z.priv = true ∧ zjs t id z = z := by
 cases z <;> simp [zjs, AV.priv] at h ⊢
 revert h
 cases Nat.beq _ t <;> simp
theorem St.promBox (h : St μ0 S0 w0 μ β env S ts w) {t : Nat} {xs : List C} (ht : env[t]? = some (.box xs)) :
 St μ0 S0 w0 (upd μ S.length (some ⟨β t, 0, 1⟩)) β ((env.map (zjs t S.length)).set t (.v (.s (.pt S.length)))) (S ++ [⟨true, xs.length, [xs]⟩]) ts w ∧
 CR (upd μ S.length (some ⟨β t, 0, 1⟩)) (S ++ [⟨true, xs.length, [xs]⟩]) (.pt S.length) (ts.getD t undef) := by
 obtain ⟨h1, arr, e, h2, h3⟩ := h.slot t _ ht
 have kp : Keeps μ S _ _ := zef μ S ⟨true, xs.length, [xs]⟩ (some ⟨β t, 0, 1⟩)
 have hb := h.bnew t _ ht rfl
 have pr : ∀ o u, u = .pointer (some ⟨β t, o, none⟩) → PtR (upd μ S.length (some ⟨β t, 0, 1⟩)) (S ++ [⟨true, xs.length, [xs]⟩]) S.length o u := by
  intro o u hu
  exact ⟨⟨_, hu⟩, ⟨true, xs.length, [xs]⟩, by simp, rfl, by simp, fun _ => ⟨_, za2 _ _ _, hu⟩⟩
 have cr : CR (upd μ S.length (some ⟨β t, 0, 1⟩)) (S ++ [⟨true, xs.length, [xs]⟩]) (.pt S.length) (ts.getD t undef) := pr 0 _ h1
 have at' : ∀ (d : Nat) y, ((env.map (zjs t S.length)).set t (.v (.s (.pt S.length))))[d]? = some y → (d = t ∧ y = .v (.s (.pt S.length))) ∨ (d ≠ t ∧ ∃ z, env[d]? = some z ∧ y = zjs t S.length z) := by
  intro d y hy
  rw [List.getElem?_set] at hy
  split at hy
  ·rename_i e; subst e
   split at hy
   ·simp at hy; exact .inl ⟨rfl, hy.symm⟩
   ·cases hy
  ·rename_i hne
   rw [List.getElem?_map] at hy
   cases hz : env[d]? with
   | none => rw [hz] at hy; cases hy
   | some z => rw [hz] at hy; simp at hy; exact .inr ⟨fun e => hne e.symm, z, rfl, hy.symm⟩
 have old : ∀ (d : Nat) y, ((env.map (zjs t S.length)).set t (.v (.s (.pt S.length))))[d]? = some y → y.priv = true → env[d]? = some y ∧ d ≠ t := by
  intro d y hy hp
  rcases at' d y hy with ⟨_, rfl⟩ | ⟨hne, z, hz, rfl⟩
  ·cases hp
  ·obtain ⟨_, p2⟩ := zzd hp
   exact ⟨by rw [p2]; exact hz, hne⟩
 refine ⟨⟨?_, zqi h.evo _ _ hb.1, by simp [h.size], ?_, ?_, ?_, ?_, h.amb⟩, cr⟩
 ·refine h.rs.push ⟨fun i cs hi => ?_, hb.2, fun _ => ⟨rfl, arr, e, h2, by simp [h3.1], by simp, by simp [maxLen]⟩⟩ (fun id row m' a b => h.brow t _ id row m' ht rfl a b)
  cases i with
  | succ i => simp at hi
  | zero =>
    simp at hi; subst hi
    refine ⟨rfl, fun j c hj => ?_⟩
    obtain ⟨u, hu, hc⟩ := h3.2 j c hj
    refine ⟨u, ?_, hc.keep kp⟩
    rw [cell_of_row w _ _ arr e (0, 0) h2]
    simpa using hu
 ·intro d y hy
  rcases at' d y hy with ⟨rfl, rfl⟩ | ⟨hne, z, hz, rfl⟩
  ·exact cr
  ·have := SlotR.keep (w' := w) kp (fun _ => rfl) (h.slot d z hz)
   cases z with
   | plc d1 o =>
     cases hb : Nat.beq d1 t with
     | true =>
       have e1 : zjs t S.length (.plc d1 o) = .pe S.length o := by simp only [zjs, hb, cond_true]
       have e2 := Nat.eq_of_beq_eq_true hb
       subst e2
       rw [e1]
       exact pr o _ ((h.slot d _ hz).2 xs ht)
     | false =>
       have e1 : zjs t S.length (.plc d1 o) = .plc d1 o := by simp only [zjs, hb, cond_false]
       rw [e1]
       exact ⟨this.1, fun xs' hxs => this.2 xs' (old d1 _ hxs rfl).1⟩
   | _ => exact this
 ·intro d1 d2 y1 y2 g1 g2 p1 p2 hne
  exact h.bsep d1 d2 y1 y2 (old d1 y1 g1 p1).1 (old d2 y2 g2 p2).1 p1 p2 hne
 ·intro d1 y id row m g1 p1 g2 g3
  obtain ⟨o1, o2⟩ := old d1 y g1 p1
  rcases zek g2 with ⟨hl, g2⟩ | ⟨rfl, rfl⟩
  ·rw [zbb _ _ (by omega)] at g3
   exact h.brow d1 y id row m o1 p1 g2 g3
  ·rw [za2] at g3; cases g3
   exact h.bsep t d1 _ y ht o1 rfl p1 (Ne.symm o2)
 ·intro d1 y g1 p1
  exact h.bnew d1 y (old d1 y g1 p1).1 p1
theorem St.setBox (h : St μ0 S0 w0 μ β env S ts w) {d : Nat} {cs cs' : List C} (hd : env[d]? = some (.box cs)) {arr' : Array Value} (ha : AggR μ S cs' arr') :
 St μ0 S0 w0 μ β (env.set d (.box cs')) S ts (w.setRow (β d) arr') := by
 obtain ⟨h1, arr, e, h2, h3⟩ := h.slot d _ hd
 have hb := h.bnew d _ hd rfl
 have sz : (w.setRow (β d) arr').heap.size = w.heap.size := by simp [World.setRow]
 have old : ∀ (d' : Nat) y, (env.set d (.box cs'))[d']? = some y → (d' = d ∧ y = .box cs') ∨ (d' ≠ d ∧ env[d']? = some y) := by
  intro d' y hy
  rw [List.getElem?_set] at hy
  split at hy
  ·rename_i e
   split at hy
   ·simp at hy; exact .inl ⟨e.symm, hy.symm⟩
   ·cases hy
  ·rename_i hne; exact .inr ⟨fun e => hne e.symm, hy⟩
 have oldp : ∀ (d' : Nat) y, (env.set d (.box cs'))[d']? = some y → y.priv = true → ∃ z, env[d']? = some z ∧ z.priv = true := by
  intro d' y hy hp
  rcases old d' y hy with ⟨rfl, rfl⟩ | ⟨_, hz⟩
  ·exact ⟨_, hd, rfl⟩
  ·exact ⟨y, hz, hp⟩
 refine ⟨?_, ?_, by simp [h.size], ?_, ?_, ?_, ?_, h.amb⟩
 ·refine h.rs.world (by rw [sz]; exact Nat.le_refl _) fun id row m g1 g2 => setRow_other w _ _ _ (h.brow d _ id row m hd rfl g1 g2)
 ·have ev := h.evo
  exact ⟨ev.os, ev.tape, ev.output, by rw [sz]; exact ev.size, fun b hb' hn => by rw [setRow_other w _ _ _ (by omega)]; exact ev.block b hb' hn, ev.rows, ev.blks⟩
 ·intro d' y hy
  rcases old d' y hy with ⟨rfl, rfl⟩ | ⟨hne, hz⟩
  ·exact ⟨h1, arr', e, setRow_heap w _ arr arr' e _ h2, ha⟩
  ·have := SlotR.keep (w' := w.setRow (β d) arr') (fun id row g => ⟨row, g, rfl, rfl, Nat.le_refl _, fun _ => rfl⟩) (fun hp => setRow_other w _ _ _ (h.bsep d' d y _ hz hd hp rfl hne)) (h.slot d' y hz)
   cases y with
   | plc d1 o =>
     refine ⟨this.1, fun xs hxs => ?_⟩
     rcases old d1 _ hxs with ⟨rfl, _⟩ | ⟨_, g⟩
     ·exact this.2 _ hd
     ·exact this.2 xs g
   | _ => exact this
 ·intro d1 d2 y1 y2 g1 g2 p1 p2 hne
  obtain ⟨z1, a1, b1⟩ := oldp d1 y1 g1 p1
  obtain ⟨z2, a2, b2⟩ := oldp d2 y2 g2 p2
  exact h.bsep d1 d2 z1 z2 a1 a2 b1 b2 hne
 ·intro d1 y id row m g1 p1 g2 g3
  obtain ⟨z1, a1, b1⟩ := oldp d1 y g1 p1
  exact h.brow d1 z1 id row m a1 b1 g2 g3
 ·intro d1 y g1 p1
  obtain ⟨z1, a1, b1⟩ := oldp d1 y g1 p1
  rw [sz]
  exact h.bnew d1 z1 a1 b1
end
section
variable {μ : Mp} {S : Store} {w : World}
theorem zdi {S : Store} {r row : Row} {id id' : Nat} (h : (S.set id r)[id']? = some row) : (id' = id ∧ row = r ∧ id < S.length) ∨ (id' ≠ id ∧ S[id']? = some row) := by
 rw [List.getElem?_set] at h
 split at h
 ·rename_i e
  split at h
  ·rename_i hl; simp at h; exact .inl ⟨e.symm, h.symm, by omega⟩
  ·cases h
 ·rename_i e; exact .inr ⟨fun x => e x.symm, h⟩
theorem zsq {row row' : Row} {id : Nat} (h : S[id]? = some row) (ho : row'.own = row.own) (hk : row'.k = row.k) (hl : row'.xs.length = row.xs.length) : Keeps μ S μ (S.set id row') := by
 have hlt := (List.getElem?_eq_some_iff.1 h).1
 intro id' r h'
 by_cases e : id' = id
 ·subst e
  rw [h] at h'; cases h'
  exact ⟨row', by simp [hlt], ho, hk, by omega, fun _ => rfl⟩
 ·exact ⟨r, by rw [List.getElem?_set_ne (Ne.symm e)]; exact h', rfl, rfl, Nat.le_refl _, fun _ => rfl⟩
theorem RS.setRow (h : RS μ S w) {row row' : Row} {m : Loc} {id : Nat} (hr : S[id]? = some row) (hm : μ id = some m) (ho : row.own = true) (ho' : row'.own = true) (hk : row'.k = row.k) (hl : row'.xs.length = row.xs.length)
 {arr arr' : Array Value} {e : Nat} (ha : w.heap[m.blk]? = some (.cells arr e (0, 0))) (hs : arr'.size = arr.size)
 (hc : ∀ (i : Nat) cs, row'.xs[i]? = some cs → cs.length = row.k ∧ ∀ (j : Nat) c, cs[j]? = some c → ∃ u, arr'[i * row.k + j]? = some u ∧ CR μ S c u) :
 RS μ (S.set id row') (w.setRow m.blk arr') ∧ Evo μ S w μ (S.set id row') (w.setRow m.blk arr') := by
 have kp : Keeps μ S μ (S.set id row') := zsq hr (ho'.trans ho.symm) hk hl
 have hlt := (List.getElem?_eq_some_iff.1 hr).1
 have sz : (w.setRow m.blk arr').heap.size = w.heap.size := by simp [World.setRow]
 have hok := h.ok id row m hr hm
 obtain ⟨hb0, arr2, e2, g1, g2, g3, g4⟩ := hok.mine ho
 rw [ha] at g1; cases g1
 refine ⟨⟨fun id' r m' h1 h2 => ?_, fun id1 id2 r1 r2 m1 m2 h1 h2 h3 h4 hd hown => ?_⟩, ⟨rfl, rfl, rfl, by rw [sz]; exact Nat.le_refl _, fun b hb hn => ?_, fun id' r h' => ?_, fun id' r m' h1 h2 => ?_⟩⟩
 ·rcases zdi h1 with ⟨rfl, rfl, _⟩ | ⟨hne, h1⟩
  ·rw [hm] at h2; cases h2
   refine ⟨fun i cs hi => ?_, by rw [sz]; exact hok.lt, fun _ => ⟨hb0, arr', e, setRow_heap w _ arr arr' e _ ha, by rw [hs, g2, hk], by rw [hl]; exact g3, g4⟩⟩
   obtain ⟨c1, c2⟩ := hc i cs hi
   refine ⟨by rw [hk]; exact c1, fun j c hj => ?_⟩
   obtain ⟨u, hu, hcr⟩ := c2 j c hj
   refine ⟨u, ?_, hcr.keep kp⟩
   rw [cell_setRow_same w _ _ arr arr' e (0, 0) ha, hb0, Nat.zero_add, hk]
   exact hu
  ·refine ((h.ok id' r m' h1 h2).world (w' := w.setRow m.blk arr') (by rw [sz]; exact Nat.le_refl _) (setRow_other w _ _ _ ?_)).keep kp
   exact fun e => h.sep id id' row r m m' hr h1 hm h2 (Ne.symm hne) ho e.symm
 ·have get : ∀ {i : Nat} {r : Row}, (S.set id row')[i]? = some r → ∃ r0, S[i]? = some r0 ∧ r0.own = r.own := by
   intro i r hi
   rcases zdi hi with ⟨rfl, rfl, _⟩ | ⟨_, hi⟩
   ·exact ⟨row, hr, ho.trans ho'.symm⟩
   ·exact ⟨r, hi, rfl⟩
  obtain ⟨a1, b1, c1⟩ := get h1
  obtain ⟨a2, b2, c2⟩ := get h2
  exact h.sep id1 id2 a1 a2 m1 m2 b1 b2 h3 h4 hd (c1.trans hown)
 ·exact setRow_other w _ _ _ (fun e => hn id row m hr hm ho e.symm)
 ·by_cases e : id' = id
  ·subst e
   rw [hr] at h'; cases h'
   exact ⟨row', by simp [hlt], ho'.trans ho.symm, hk, by omega, fun _ => rfl, fun hf => by rw [ho] at hf; cases hf⟩
  ·exact ⟨r, by rw [List.getElem?_set_ne (Ne.symm e)]; exact h', rfl, rfl, Nat.le_refl _, fun _ => rfl, fun _ => rfl⟩
 ·rcases zdi h1 with ⟨rfl, rfl, _⟩ | ⟨hne, h1⟩
  ·exact .inr ⟨id', row, m', hr, h2, ho.trans ho'.symm, rfl⟩
  ·exact .inr ⟨id', r, m', h1, h2, rfl, rfl⟩
end
end Go.Proofs.YtlmmdpmmdmhacaaGreat
