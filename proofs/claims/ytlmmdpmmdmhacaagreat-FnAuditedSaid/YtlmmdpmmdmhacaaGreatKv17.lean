/- Data that is written: append, a store into an element; calls that leave nothing. The seat's types as the evaluator asks for them, and its functions' numbers. Written by gen.py. -/
import Derived.Test.YtlmmdpmmdmhacaaGreatKv16
import Derived.Test.YtlmmdpmmdmhacaaGreatKv12
import Derived.Test.YtlmmdpmmdmhacaaGreatProg
namespace Go.Proofs.YtlmmdpmmdmhacaaGreat
open Go
set_option linter.unusedVariables false
set_option linter.unusedSimpArgs false
section
variable {q : Bool} {S S' S0 S1 : Store}
theorem Rep2.setAt : ∀ {xs : List (List D)} {rows : List (List C)} {ids : List Nat}, Rep2 q S xs rows ids → ∀ (n : Nat) x, xs[n]? = some x → ∃ cs pre mid post, rows[n]? = some cs ∧ ids = pre ++ mid ++ post ∧ RepL q S x cs mid ∧
    ∀ {S' : Store} {x' : List D} {cs' : List C} {mid' : List Nat}, (∀ id ∈ pre ++ post, S'[id]? = S[id]?) → RepL q S' x' cs' mid' → Rep2 q S' (xs.set n x') (rows.set n cs') (pre ++ mid' ++ post)
  | [], rows, ids, h, n, x, hx => by simp at hx
  | y :: xs, rows, ids, h, n, x, hx => by
    rw [rep2_cons] at h
    obtain ⟨c, cs', i, j, h1, h2, h3, h4⟩ := h
    subst h1; subst h2
    cases n with
    | zero =>
      simp at hx; subst hx
      refine ⟨c, [], i, j, rfl, by simp, h3, fun {S' x' cs1 mid'} hf hr => ?_⟩
      rw [List.set_cons_zero, List.set_cons_zero, rep2_cons]
      exact ⟨cs1, cs', mid', j, rfl, by simp, hr, h4.frame (fun id hi => hf id (by simp [hi]))⟩
    | succ n =>
      obtain ⟨cs, pre, mid, post, k1, k2, k3, k4⟩ := h4.setAt n x (by simpa using hx)
      refine ⟨cs, i ++ pre, mid, post, by simpa using k1, by rw [k2]; simp, k3, fun {S' x' cs1 mid'} hf hr => ?_⟩
      rw [List.set_cons_succ, List.set_cons_succ, rep2_cons]
      exact ⟨c, cs'.set n cs1, i, pre ++ mid' ++ post, rfl, by simp, h3.frame (fun id hi => hf id (by simp [hi])), k4 (fun id hi => hf id (by
        rcases List.mem_append.1 hi with hi | hi <;> simp [hi])) hr⟩
theorem RepL.append : ∀ {xs ys : List D} {cs cs' : List C} {i j : List Nat}, RepL q S xs cs i → RepL q S ys cs' j → RepL q S (xs ++ ys) (cs ++ cs') (i ++ j)
  | [], ys, cs, cs', i, j, h, g => by rw [repL_nil] at h; rw [h.1, h.2]; exact g
  | x :: xs, ys, cs, cs', i, j, h, g => by
    rw [repL_cons] at h
    obtain ⟨c, cs1, i', j', h1, h2, h3, h4⟩ := h
    subst h1; subst h2
    rw [List.cons_append, repL_cons]
    exact ⟨c, cs1 ++ cs', i', j' ++ j, rfl, by simp, h3, h4.append g⟩
theorem RepL.split : ∀ {xs ys : List D} {cs : List C} {ids : List Nat}, RepL q S (xs ++ ys) cs ids → ∃ r1 r2 i j, cs = r1 ++ r2 ∧ ids = i ++ j ∧ RepL q S xs r1 i ∧ RepL q S ys r2 j
  | [], ys, cs, ids, h => ⟨[], cs, [], ids, rfl, rfl, by rw [repL_nil]; exact ⟨rfl, rfl⟩, h⟩
  | x :: xs, ys, cs, ids, h => by
    rw [List.cons_append, repL_cons] at h
    obtain ⟨c, cs1, i', j', h1, h2, h3, h4⟩ := h
    obtain ⟨r1, r2, i1, j1, k1, k2, k3, k4⟩ := h4.split
    subst h1; subst h2; subst k1; subst k2
    refine ⟨c :: r1, r2, i' ++ i1, j1, rfl, by simp, ?_, k4⟩
    rw [repL_cons]
    exact ⟨c, r1, i', i1, rfl, rfl, h3, k3⟩
theorem fr_app {k by' : Nat} {c : C} {xs yd : List (List D)} {ys : List (List C)} {js : List Nat} {K : C → Store → Prop}
    (hE : Ext S0 S) (h : Fr S0.length S1 [.sl k xs] [c]) (e1 : Ext S1 S) (hy : Rep2 true S yd ys js) (hyn : js.Nodup) (hyl : ∀ id ∈ js, S1.length ≤ id) (h01 : S0.length ≤ S1.length)
    (hk : ∀ y ∈ yd, y.length = k) (hb : (xs.length + yd.length) * by' ≤ 140737488355328) (hm : xs.length + yd.length ≤ maxLen)
    (hK : ∀ c' S', Ext S0 S' → Fr S0.length S' [.sl k (xs ++ yd)] [c'] → S.length ≤ S'.length → K c' S') : AppP k by' S c ys K := by
  obtain ⟨ids, h, hn, hlo⟩ := h.one
  have hid1 : ∀ id ∈ ids, id < S1.length := h.lt
  have h : Rep true S (.sl k xs) c ids := h.frame fun id hi => e1.at (hid1 id hi)
  have hyk : ∀ y ∈ ys, y.length = k := fun y hy' => by
    obtain ⟨i, hi, rfl⟩ := List.mem_iff_getElem.1 hy'
    have hl := hy.len
    obtain ⟨cs, j, k1, k2, _⟩ := hy.at i _ (List.getElem?_eq_getElem (by omega))
    rw [List.getElem?_eq_getElem hi] at k1; cases k1
    rw [k2.len]; exact hk _ (List.getElem_mem _)
  have hyl' : ys.length = yd.length := hy.len
  unfold Rep at h
  obtain ⟨hl, h⟩ := h
  unfold AppP
  refine ⟨hyk, ?_⟩
  have new : xs = [] → ys.length * by' ≤ 140737488355328 ∧ (ys = [] → ∀ c0, (c0 = .nil ∨ c0 = .zc) → K c0 S) ∧ (ys ≠ [] → K (.sl S.length 0 ys.length ys.length) (S ++ [⟨true, k, ys⟩])) := by
    intro hx
    subst hx
    refine ⟨by rw [hyl']; simpa using hb, fun hy0 c0 hc0 => ?_, fun hy0 => ?_⟩
    · have : yd = [] := List.eq_nil_of_length_eq_zero (by rw [← hyl', hy0]; rfl)
      subst this
      exact hK _ _ hE (fr_empty hc0) (Nat.le_refl _)
    · refine hK _ _ (hE.trans (Ext.push S _)) ?_ (by simp)
      exact fr_push (by simpa using hy) hyn (fun id hi => Nat.le_trans h01 (hyl id hi)) hE.len (by simpa using hm) (by simpa using hyl')
  rcases h with ⟨h1, h2, h3⟩ | ⟨id, o, t, row, js0, h1, h2, h3, h4, h5, h6, h7, h8⟩
  · obtain ⟨n1, n2, n3⟩ := new h1
    rcases h2 with rfl | rfl
    · exact .inl ⟨rfl, n1, fun e => n2 e _ (.inl rfl), n3⟩
    · exact .inr (.inl ⟨rfl, n1, fun e => n2 e _ (.inr rfl), n3⟩)
  · obtain ⟨ho, ht, hown⟩ := h7 rfl
    subst ho
    have hrl : row.xs.length = xs.length := by omega
    have hrow : row = ⟨true, k, row.xs⟩ := by cases row; simp at hown h4; simp [hown, h4]
    refine .inr (.inr ⟨id, row.xs, by rw [h1, hrl, ht], by rw [h3, ← hrow], by rw [hrl, hyl']; exact hb, ?_⟩)
    have hidl : id < S.length := (List.getElem?_eq_some_iff.1 h3).1
    have hid : S0.length ≤ id := hlo id (by rw [h2]; simp)
    have hid1' : id < S1.length := hid1 id (by rw [h2]; simp)
    rw [h2, List.nodup_cons] at hn
    refine hK _ _ (hE.set hid _) (fr_one (ids := id :: (js0 ++ js)) ?_ ?_ ?_) (by simp)
    · unfold Rep
      refine ⟨by simpa using hm, .inr ⟨id, 0, xs.length + yd.length, ⟨true, k, row.xs ++ ys⟩, js0 ++ js, by rw [hrl, hyl']; simp, rfl, by rw [List.getElem?_set_self hidl], rfl, by simp [hrl, hyl'], by simp, fun _ => ⟨rfl, by simp, rfl⟩, ?_⟩⟩
      have e : List.take (xs ++ yd).length (List.drop 0 (row.xs ++ ys)) = row.xs ++ ys := by
        rw [List.drop_zero, List.take_of_length_le (by simp [hrl, hyl'])]
      simp only [e]
      rw [List.drop_zero, List.take_of_length_le (by omega)] at h8
      refine (h8.frame fun i hi => ?_).append (hy.frame fun i hi => ?_)
      · exact List.getElem?_set_ne (by rintro rfl; exact hn.1 hi)
      · exact List.getElem?_set_ne (by have := hyl i hi; omega)
    · rw [List.nodup_cons, List.nodup_append]
      refine ⟨fun hi => ?_, hn.2, hyn, fun a ha b hb e => ?_⟩
      · rcases List.mem_append.1 hi with hi | hi
        · exact hn.1 hi
        · have := hyl id hi; omega
      · have := hyl b hb
        have := hid1 a (by rw [h2]; simp [ha])
        omega
    · intro i hi
      rcases List.mem_cons.1 hi with rfl | hi
      · exact hid
      · rcases List.mem_append.1 hi with hi | hi
        · exact hlo i (by rw [h2]; simp [hi])
        · exact Nat.le_trans h01 (hyl i hi)
theorem fr_app_flat {α : Type} {f : α → List D} (hf : ∀ x, Flat (f x)) {k by' : Nat} {c : C} {l m : List α} {ys : List (List C)} {K : C → Store → Prop}
    (hE : Ext S0 S) (h : Fr S0.length S [.sl k (l.map f)] [c]) (hy : ys = m.map fun x => flatC (f x))
    (hk : ∀ x, (f x).length = k) (hb : (l.length + m.length) * by' ≤ 140737488355328) (hm : l.length + m.length ≤ maxLen)
    (hK : ∀ c' S', Ext S0 S' → Fr S0.length S' [.sl k ((l ++ m).map f)] [c'] → S.length ≤ S'.length → K c' S') : AppP k by' S c ys K := by
  subst hy
  exact fr_app (S1 := S) (yd := m.map f) hE h (Ext.refl S) (rep2_flat hf m) List.nodup_nil (fun _ hi => by cases hi) hE.len (fun y hy => by obtain ⟨x, _, rfl⟩ := List.mem_map.1 hy; exact hk x) (by simpa using hb) (by simpa using hm)
    (fun c' S' h1 h2 h3 => hK c' S' h1 (by simpa using h2) h3)
theorem fr_sto {k : Nat} {c : C} {xs : List (List D)} {i : Int} {off : Nat} {A B B' Z : List D} {ys : List C} {K : Store → Prop}
    (hE : Ext S0 S) (h : Fr S0.length S1 [.sl k xs] [c]) (e1 : Ext S1 S) (hy : Fr S1.length S B' ys) (h01 : S0.length ≤ S1.length)
    (h0 : 0 ≤ i ∧ i.toNat < xs.length) (hx : xs[i.toNat]? = some (A ++ B ++ Z)) (hA : A.length = off) (hB : B'.length = B.length) (hk : (A ++ B ++ Z).length = k)
    (hK : ∀ S', Ext S0 S' → Fr S0.length S' [.sl k (xs.set i.toNat (A ++ B' ++ Z))] [c] → S'.length = S.length → K S') : StoP S c i off ys K := by
  obtain ⟨ids, h, hn, hlo⟩ := h.one
  have hid1 : ∀ id ∈ ids, id < S1.length := h.lt
  have h : Rep true S (.sl k xs) c ids := h.frame fun id hi => e1.at (hid1 id hi)
  obtain ⟨jy, hy, hyn, hyl⟩ := hy
  have hyL := hy.len
  unfold Rep at h
  obtain ⟨hl, h⟩ := h
  rcases h with ⟨h1, h2, h3⟩ | ⟨id, o, t, row, js, h1, h2, h3, h4, h5, h6, h7, h8⟩
  · subst h1; simp at h0
  · obtain ⟨ho, ht, hown⟩ := h7 rfl
    subst ho; subst h1; subst h2
    have hrl : row.xs.length = xs.length := by omega
    rw [List.drop_zero, List.take_of_length_le (by omega)] at h8
    have hidl : id < S.length := (List.getElem?_eq_some_iff.1 h3).1
    have hid : S0.length ≤ id := hlo id (by simp)
    have hid1' : id < S1.length := hid1 id (by simp)
    rw [List.nodup_cons] at hn
    obtain ⟨cs, pre, mid, post, k1, k2, k3, k4⟩ := h8.setAt _ _ hx
    obtain ⟨r1, r2, j1, j2, g1, g2, g3, g4⟩ := k3.split
    obtain ⟨r3, r4, j3, j4, g5, g6, g7, g8⟩ := g3.split
    subst g1; subst g5; subst g2; subst g6; subst k2
    have l3 := g7.len
    have l4 := g8.len
    have l2 := g4.len
    have ePut : putCells (r3 ++ r4 ++ r2) off ys = r3 ++ ys ++ r2 := by
      unfold putCells
      have h3 : r3.length = off := by omega
      have h4 : ys.length = r4.length := by omega
      rw [List.append_assoc r3 r4 r2, List.take_append_of_le_length (by omega), List.take_of_length_le (by omega)]
      congr 1
      rw [h4, ← h3, ← List.length_append, ← List.append_assoc, List.drop_left]
    unfold StoP
    refine ⟨id, 0, xs.length, t, row, r3 ++ r4 ++ r2, rfl, h3, hown, h5, h6, h0.1, by omega, by rw [Nat.zero_add]; exact k1, ?_, ?_⟩
    · rw [h4, ← hk]; simp; omega
    · rw [ePut, Nat.zero_add]
      have hlt : S.length = (S.set id ⟨true, row.k, row.xs.set i.toNat (r3 ++ ys ++ r2)⟩).length := by simp
      have memj : ∀ x, x ∈ pre ++ (j3 ++ jy ++ j2) ++ post → x ∈ jy ∨ x ∈ pre ++ (j3 ++ j4 ++ j2) ++ post := by
        intro x hx
        simp only [List.mem_append] at hx ⊢
        rcases hx with (h | (h | h) | h) | h
        · exact .inr (.inl (.inl h))
        · exact .inr (.inl (.inr (.inl (.inl h))))
        · exact .inl h
        · exact .inr (.inl (.inr (.inr h)))
        · exact .inr (.inr h)
      refine hK _ (hE.set hid _) (fr_one (ids := id :: (pre ++ (j3 ++ jy ++ j2) ++ post)) ?_ ?_ ?_) hlt.symm
      · have hne : ∀ x ∈ pre ++ (j3 ++ j4 ++ j2) ++ post, (S.set id ⟨true, row.k, row.xs.set i.toNat (r3 ++ ys ++ r2)⟩)[x]? = S[x]? := fun x hx => List.getElem?_set_ne (by rintro rfl; exact hn.1 hx)
        have hney : ∀ x ∈ jy, (S.set id ⟨true, row.k, row.xs.set i.toNat (r3 ++ ys ++ r2)⟩)[x]? = S[x]? := fun x hx => List.getElem?_set_ne (by have := hyl x hx; omega)
        have hr := k4 (S' := S.set id ⟨true, row.k, row.xs.set i.toNat (r3 ++ ys ++ r2)⟩) (x' := A ++ B' ++ Z) (cs' := r3 ++ ys ++ r2) (mid' := j3 ++ jy ++ j2) (fun x hx => hne x (by
            rcases List.mem_append.1 hx with h | h <;> simp [h]))
          (((g7.frame fun x hx => hne x (by simp [hx])).append (hy.frame hney)).append (g4.frame fun x hx => hne x (by simp [hx])))
        unfold Rep
        refine ⟨by simpa using hl, .inr ⟨id, 0, t, ⟨true, row.k, row.xs.set i.toNat (r3 ++ ys ++ r2)⟩, _, by simp, rfl, by rw [List.getElem?_set_self hidl], h4, by simpa using h5, by simpa using h6, fun _ => ⟨rfl, by simpa using ht, rfl⟩, ?_⟩⟩
        simp only
        rw [List.drop_zero, List.take_of_length_le (by simp; omega)]
        exact hr
      · rw [List.nodup_cons]
        have hn2 := hn.2
        refine ⟨fun hx => ?_, ?_⟩
        · rcases memj id hx with h | h
          · have := hyl id h; omega
          · exact hn.1 h
        · have far : ∀ x ∈ pre ++ (j3 ++ j4 ++ j2) ++ post, ∀ y ∈ jy, x ≠ y := fun x hx y hy e => by
            have := hid1 x (by simp only [List.mem_cons]; exact .inr hx)
            have := hyl y hy
            omega
          simp only [List.nodup_append, List.mem_append] at hn2 far ⊢
          obtain ⟨⟨a1, ⟨⟨b1, b2, b3⟩, b4, b5⟩, a3⟩, a4, a5⟩ := hn2
          refine ⟨⟨a1, ⟨⟨b1, hyn, fun x hx y hy => far x (.inl (.inr (.inl (.inl hx)))) y hy⟩, b4, fun x hx y hy => ?_⟩, fun x hx y hy => ?_⟩, a4, fun x hx y hy => ?_⟩
          · rcases hx with hx | hx
            · exact b5 x (.inl hx) y hy
            · exact fun e => far y (.inl (.inr (.inr hy))) x hx e.symm
          · rcases hy with (hy | hy) | hy
            · exact a3 x hx y (.inl (.inl hy))
            · exact far x (.inl (.inl hx)) y hy
            · exact a3 x hx y (.inr hy)
          · rcases hx with hx | (hx | hx) | hx
            · exact a5 x (.inl hx) y hy
            · exact a5 x (.inr (.inl (.inl hx))) y hy
            · exact fun e => far y (.inr hy) x hx e.symm
            · exact a5 x (.inr (.inr hx)) y hy
      · intro x hx
        rcases List.mem_cons.1 hx with rfl | hx
        · exact hid
        · rcases memj x hx with h | h
          · exact Nat.le_trans h01 (hyl x h)
          · exact hlo x (by simp only [List.mem_cons]; exact .inr h)
def scC : C → Bool
  | .int _ _ | .bool _ | .str _ | .nil | .zc | .fn _ | .junk => true
  | _ => false
def scV : V → Bool
  | .s c => scC c
  | .agg cs => cs.all scC
def scAV : AV → Bool
  | .v x => scV x
  | .tup vs => vs.all scV
  | _ => false
theorem scC_rel {μ μ' : Mp} {S S' : Store} {c : C} {u : Value} (h : scC c = true) (g : CR μ S c u) : CR μ' S' c u := by
  cases c <;> first | exact g | cases h
theorem scV_rel {μ μ' : Mp} {S S' : Store} {v : V} {u : Value} (h : scV v = true) (g : VR μ S v u) : VR μ' S' v u := by
  cases v with
  | s c => exact scC_rel h g
  | agg cs =>
    obtain ⟨us, h1, h2, h3⟩ := g
    refine ⟨us, h1, h2, fun j c hj => ?_⟩
    obtain ⟨u, k1, k2⟩ := h3 j c hj
    have h : cs.all scC = true := h
    rw [List.all_eq_true] at h
    exact ⟨u, k1, scC_rel (h c (List.mem_of_getElem? hj)) k2⟩
theorem scAV_rel {μ μ' : Mp} {S S' : Store} {x : AV} {u : Value} (h : scAV x = true) (g : AVR μ S x u) : AVR μ' S' x u := by
  cases x <;> first | exact scV_rel h g | cases h | skip
  rename_i vs
  obtain ⟨us, h1, h2, h3⟩ := g
  refine ⟨us, h1, h2, fun j v hj => ?_⟩
  obtain ⟨u, k1, k2⟩ := h3 j v hj
  have h : vs.all scV = true := h
  rw [List.all_eq_true] at h
  exact ⟨u, k1, scV_rel (h v (List.mem_of_getElem? hj)) k2⟩
theorem at_back {S J : Store} {id : Nat} {row row0 : Row} (h0 : S[id]? = some row0) (h : (S ++ J)[id]? = some row) : S[id]? = some row := by
  rw [List.getElem?_append_left (List.getElem?_eq_some_iff.1 h0).1] at h; exact h
theorem cr_back {μ μ' : Mp} {S J : Store} {c : C} {u u0 : Value} (h : CR μ S c u0) (g : CR μ' (S ++ J) c u) : CR μ' S c u := by
  cases c <;> first | exact g | skip
  · obtain ⟨_, _, _, _, row0, k0, _⟩ := h
    obtain ⟨ad, cap, h1, h2, row, k1, k2⟩ := g
    exact ⟨ad, cap, h1, h2, row, at_back k0 k1, k2⟩
  · obtain ⟨_, row0, k0, _⟩ := h
    obtain ⟨h1, row, k1, k2⟩ := g
    exact ⟨h1, row, at_back k0 k1, k2⟩
theorem EvA.drop {P : Program} {f : Nat} {args : List V} {S : Store} {r0 : AV} (hs : scAV r0 = true) (h : EvA P f args S (fun r S' => r = r0 ∧ Ext S S')) : EvA P f args S (fun r S' => r = r0 ∧ S' = S) :=
  ⟨h.1, fun μ w us h1 hA h2 => (h.2 μ w us h1 hA h2).mono fun e w' ⟨r, S', u, μ', ⟨hr, J, hJ⟩, b, c, d, ev⟩ => by
    subst hr; subst hJ
    have hat : ∀ id row, S[id]? = some row → (S ++ J)[id]? = some row := fun id row h => by
      rw [List.getElem?_append_left (List.getElem?_eq_some_iff.1 h).1]; exact h
    refine ⟨r, S, u, μ', ⟨rfl, rfl⟩, b, ⟨fun id row m g1 g2 => ?_, fun id id' row row' m m' g1 g2 => c.sep id id' row row' m m' (hat _ _ g1) (hat _ _ g2)⟩, scAV_rel hs d, ⟨ev.os, ev.tape, ev.output, ev.size, ev.block, fun id row g => ?_, fun id row m g1 g2 => ev.blks id row m (hat _ _ g1) g2⟩⟩
    · have ok := c.ok id row m (hat _ _ g1) g2
      obtain ⟨row', a1, a2, a3, a4, a5, a6⟩ := ev.rows id row g1
      rw [hat id row g1] at a1; cases a1
      rw [a5 rfl] at g2
      have ok0 := h1.ok id row m g1 g2
      refine ⟨fun i cs hi => ⟨(ok.cells i cs hi).1, fun j c hj => ?_⟩, ok.lt, ok.mine⟩
      obtain ⟨u, k1, k2⟩ := (ok.cells i cs hi).2 j c hj
      obtain ⟨u0, k3, k4⟩ := (ok0.cells i cs hi).2 j c hj
      exact ⟨u, k1, cr_back k4 k2⟩
    · obtain ⟨row', a1, a2, a3, a4, a5, a6⟩ := ev.rows id row g
      rw [hat id row g] at a1; cases a1
      exact ⟨row, g, rfl, rfl, Nat.le_refl _, a5, fun _ => rfl⟩⟩
end
end Go.Proofs.YtlmmdpmmdmhacaaGreat
namespace Go.Proofs.YtlmmdpmmdmhacaaGreat
open Go
def T2 : TI := { kd := .scalar 3, sz := 1, by' := 8, zero := [.int .i64 0], eq := [], ft := [] }
def T3 : TI := { kd := .scalar 3, sz := 1, by' := 8, zero := [.int .i64 0], eq := [], ft := [] }
def T4 : TI := { kd := .scalar 10, sz := 1, by' := 1, zero := [.bool false], eq := [], ft := [] }
def T5 : TI := { kd := .scalar 4, sz := 1, by' := 1, zero := [.int .u8 0], eq := [], ft := [] }
def T6 : TI := { kd := .scalar 4, sz := 1, by' := 1, zero := [.int .u8 0], eq := [], ft := [] }
def T7 : TI := { kd := .struct [0, 1, 2, 3], sz := 4, by' := 24, zero := [.int .i64 0, .int .i64 0, .bool false, .int .u8 0], eq := [], ft := [2, 3, 4, 6] }
def T8 : TI := { kd := .struct [0, 1, 2, 3], sz := 4, by' := 24, zero := [.int .i64 0, .int .i64 0, .bool false, .int .u8 0], eq := [], ft := [2, 3, 4, 6] }
def T9 : TI := { kd := .scalar 20, sz := 1, by' := 16, zero := [.str ⟨#[]⟩], eq := [], ft := [] }
def T10 : TI := { kd := .scalar 20, sz := 1, by' := 16, zero := [.str ⟨#[]⟩], eq := [], ft := [] }
def T11 : TI := { kd := .scalar 20, sz := 1, by' := 16, zero := [.str ⟨#[]⟩], eq := [], ft := [] }
def T12 : TI := { kd := .scalar 7, sz := 1, by' := 8, zero := [.int .u64 0], eq := [], ft := [] }
def T13 : TI := { kd := .struct [0, 1], sz := 2, by' := 24, zero := [.str ⟨#[]⟩, .int .u64 0], eq := [], ft := [9, 12] }
def T14 : TI := { kd := .struct [0, 1], sz := 2, by' := 24, zero := [.str ⟨#[]⟩, .int .u64 0], eq := [], ft := [9, 12] }
def T21 : TI := { kd := .scalar 2, sz := 1, by' := 4, zero := [.int .i32 0], eq := [], ft := [] }
def T22 : TI := { kd := .slice 5, sz := 1, by' := 24, zero := [.nil], eq := [], ft := [] }
def T24 : TI := { kd := .slice 48, sz := 1, by' := 24, zero := [.nil], eq := [], ft := [] }
def T25 : TI := { kd := .slice 58, sz := 1, by' := 24, zero := [.nil], eq := [], ft := [] }
def T26 : TI := { kd := .slice 120, sz := 1, by' := 24, zero := [.nil], eq := [], ft := [] }
def T27 : TI := { kd := .slice 68, sz := 1, by' := 24, zero := [.nil], eq := [], ft := [] }
def T28 : TI := { kd := .slice 108, sz := 1, by' := 24, zero := [.nil], eq := [], ft := [] }
def T29 : TI := { kd := .slice 124, sz := 1, by' := 24, zero := [.nil], eq := [], ft := [] }
def T30 : TI := { kd := .struct [0, 1, 2, 3, 4, 5, 6, 7], sz := 8, by' := 160, zero := [.int .i64 0, .nil, .nil, .nil, .nil, .nil, .nil, .int .i64 0], eq := [], ft := [3, 24, 25, 26, 27, 28, 29, 3] }
def T31 : TI := { kd := .struct [0, 1, 2, 3, 4, 5, 6, 7], sz := 8, by' := 160, zero := [.int .i64 0, .nil, .nil, .nil, .nil, .nil, .nil, .int .i64 0], eq := [], ft := [3, 24, 25, 26, 27, 28, 29, 3] }
def T41 : TI := { kd := .slice 3, sz := 1, by' := 24, zero := [.nil], eq := [], ft := [] }
def T43 : TI := { kd := .struct [0, 1], sz := 2, by' := 16, zero := [.int .i64 0, .int .i64 0], eq := [3, 3], ft := [3, 3] }
def T44 : TI := { kd := .struct [0, 1], sz := 2, by' := 16, zero := [.int .i64 0, .int .i64 0], eq := [3, 3], ft := [3, 3] }
def T45 : TI := { kd := .slice 139, sz := 1, by' := 24, zero := [.nil], eq := [], ft := [] }
def T46 : TI := { kd := .slice 87, sz := 1, by' := 24, zero := [.nil], eq := [], ft := [] }
def T47 : TI := { kd := .struct [0, 2, 3, 4, 5], sz := 6, by' := 96, zero := [.int .i64 0, .int .i64 0, .nil, .nil, .nil, .int .i64 0], eq := [], ft := [44, 45, 46, 41, 3] }
def T48 : TI := { kd := .struct [0, 2, 3, 4, 5], sz := 6, by' := 96, zero := [.int .i64 0, .int .i64 0, .nil, .nil, .nil, .int .i64 0], eq := [], ft := [44, 45, 46, 41, 3] }
def T55 : TI := { kd := .slice 199, sz := 1, by' := 24, zero := [.nil], eq := [], ft := [] }
def T56 : TI := { kd := .slice 225, sz := 1, by' := 24, zero := [.nil], eq := [], ft := [] }
def T57 : TI := { kd := .struct [0, 1, 2, 3, 4, 5, 6, 7], sz := 8, by' := 128, zero := [.int .i64 0, .int .i64 0, .int .i64 0, .nil, .nil, .nil, .nil, .int .i64 0], eq := [], ft := [3, 3, 3, 26, 55, 28, 56, 3] }
def T58 : TI := { kd := .struct [0, 1, 2, 3, 4, 5, 6, 7], sz := 8, by' := 128, zero := [.int .i64 0, .int .i64 0, .int .i64 0, .nil, .nil, .nil, .nil, .int .i64 0], eq := [], ft := [3, 3, 3, 26, 55, 28, 56, 3] }
def T66 : TI := { kd := .struct [0, 1], sz := 2, by' := 16, zero := [.int .i64 0, .int .i64 0], eq := [3, 3], ft := [3, 3] }
def T67 : TI := { kd := .struct [0, 1, 3], sz := 4, by' := 32, zero := [.int .i64 0, .int .i64 0, .int .i64 0, .int .i64 0], eq := [3, 3, 3, 3], ft := [3, 66, 3] }
def T68 : TI := { kd := .struct [0, 1, 3], sz := 4, by' := 32, zero := [.int .i64 0, .int .i64 0, .int .i64 0, .int .i64 0], eq := [3, 3, 3, 3], ft := [3, 66, 3] }
def T78 : TI := { kd := .slice 89, sz := 1, by' := 24, zero := [.nil], eq := [], ft := [] }
def T86 : TI := { kd := .struct [0, 1, 2, 3, 4, 5], sz := 6, by' := 48, zero := [.int .i64 0, .int .i64 0, .int .i64 0, .int .i64 0, .int .i64 0, .int .i64 0], eq := [3, 3, 3, 3, 3, 3], ft := [3, 3, 3, 3, 3, 3] }
def T87 : TI := { kd := .struct [0, 1, 2, 3, 4, 5], sz := 6, by' := 48, zero := [.int .i64 0, .int .i64 0, .int .i64 0, .int .i64 0, .int .i64 0, .int .i64 0], eq := [3, 3, 3, 3, 3, 3], ft := [3, 3, 3, 3, 3, 3] }
def T88 : TI := { kd := .struct [0, 1, 2, 3, 4, 5, 6, 8, 12, 18], sz := 26, by' := 272, zero := [.int .i64 0, .int .i64 0, .int .i64 0, .int .i64 0, .int .i64 0, .bool false, .int .i64 0, .int .i64 0, .int .i64 0, .int .i64 0, .int .i64 0, .int .i64 0, .int .i64 0, .int .i64 0, .int .i64 0, .int .i64 0, .int .i64 0, .int .i64 0, .int .i64 0, .int .i64 0, .int .i64 0, .nil, .nil, .nil, .nil, .int .i64 0], eq := [], ft := [3, 3, 3, 3, 3, 4, 44, 68, 87, 58] }
def T89 : TI := { kd := .struct [0, 1, 2, 3, 4, 5, 6, 8, 12, 18], sz := 26, by' := 272, zero := [.int .i64 0, .int .i64 0, .int .i64 0, .int .i64 0, .int .i64 0, .bool false, .int .i64 0, .int .i64 0, .int .i64 0, .int .i64 0, .int .i64 0, .int .i64 0, .int .i64 0, .int .i64 0, .int .i64 0, .int .i64 0, .int .i64 0, .int .i64 0, .int .i64 0, .int .i64 0, .int .i64 0, .nil, .nil, .nil, .nil, .int .i64 0], eq := [], ft := [3, 3, 3, 3, 3, 4, 44, 68, 87, 58] }
def T98 : TI := { kd := .slice 130, sz := 1, by' := 24, zero := [.nil], eq := [], ft := [] }
def T101 : TI := { kd := .slice 28, sz := 1, by' := 24, zero := [.nil], eq := [], ft := [] }
def T102 : TI := { kd := .struct [0, 1], sz := 2, by' := 48, zero := [.nil, .nil], eq := [], ft := [28, 101] }
def T103 : TI := { kd := .struct [0, 1], sz := 2, by' := 48, zero := [.nil, .nil], eq := [], ft := [28, 101] }
def T105 : TI := { kd := .struct [0, 2], sz := 3, by' := 24, zero := [.int .i64 0, .int .i64 0, .int .i64 0], eq := [3, 3, 3], ft := [44, 3] }
def T106 : TI := { kd := .struct [0, 2], sz := 3, by' := 24, zero := [.int .i64 0, .int .i64 0, .int .i64 0], eq := [3, 3, 3], ft := [44, 3] }
def T107 : TI := { kd := .struct [0, 1, 2, 4, 5, 6], sz := 8, by' := 64, zero := [.int .i64 0, .int .i64 0, .int .i64 0, .int .i64 0, .int .i64 0, .int .i64 0, .int .i64 0, .int .i64 0], eq := [3, 3, 3, 3, 3, 3, 3, 3], ft := [3, 3, 66, 3, 3, 44] }
def T108 : TI := { kd := .struct [0, 1, 2, 4, 5, 6], sz := 8, by' := 64, zero := [.int .i64 0, .int .i64 0, .int .i64 0, .int .i64 0, .int .i64 0, .int .i64 0, .int .i64 0, .int .i64 0], eq := [3, 3, 3, 3, 3, 3, 3, 3], ft := [3, 3, 66, 3, 3, 44] }
def T119 : TI := { kd := .struct [0, 1, 3, 4, 5, 6], sz := 7, by' := 56, zero := [.int .i64 0, .int .i64 0, .int .i64 0, .int .i64 0, .int .i64 0, .int .i64 0, .bool false], eq := [3, 3, 3, 3, 3, 3, 10], ft := [3, 66, 3, 3, 3, 4] }
def T120 : TI := { kd := .struct [0, 1, 3, 4, 5, 6], sz := 7, by' := 56, zero := [.int .i64 0, .int .i64 0, .int .i64 0, .int .i64 0, .int .i64 0, .int .i64 0, .bool false], eq := [3, 3, 3, 3, 3, 3, 10], ft := [3, 66, 3, 3, 3, 4] }
def T123 : TI := { kd := .struct [0, 1, 2, 3], sz := 4, by' := 32, zero := [.int .i64 0, .int .i64 0, .int .i64 0, .int .i64 0], eq := [3, 3, 3, 3], ft := [3, 3, 3, 3] }
def T124 : TI := { kd := .struct [0, 1, 2, 3], sz := 4, by' := 32, zero := [.int .i64 0, .int .i64 0, .int .i64 0, .int .i64 0], eq := [3, 3, 3, 3], ft := [3, 3, 3, 3] }
def T129 : TI := { kd := .struct [0, 1, 2], sz := 3, by' := 24, zero := [.int .i64 0, .int .i64 0, .int .i64 0], eq := [3, 3, 3], ft := [3, 3, 3] }
def T130 : TI := { kd := .struct [0, 1, 2], sz := 3, by' := 24, zero := [.int .i64 0, .int .i64 0, .int .i64 0], eq := [3, 3, 3], ft := [3, 3, 3] }
def T138 : TI := { kd := .struct [0, 1, 2, 3, 4], sz := 5, by' := 40, zero := [.int .i64 0, .int .i64 0, .int .i64 0, .int .i64 0, .int .i64 0], eq := [3, 3, 3, 3, 3], ft := [3, 3, 3, 3, 3] }
def T139 : TI := { kd := .struct [0, 1, 2, 3, 4], sz := 5, by' := 40, zero := [.int .i64 0, .int .i64 0, .int .i64 0, .int .i64 0, .int .i64 0], eq := [3, 3, 3, 3, 3], ft := [3, 3, 3, 3, 3] }
def T175 : TI := { kd := .array 10 9, sz := 10, by' := 160, zero := [.str ⟨#[]⟩, .str ⟨#[]⟩, .str ⟨#[]⟩, .str ⟨#[]⟩, .str ⟨#[]⟩, .str ⟨#[]⟩, .str ⟨#[]⟩, .str ⟨#[]⟩, .str ⟨#[]⟩, .str ⟨#[]⟩], eq := [], ft := [] }
def T198 : TI := { kd := .struct [0, 1, 2], sz := 3, by' := 24, zero := [.int .i64 0, .int .i64 0, .int .i64 0], eq := [3, 3, 3], ft := [3, 3, 3] }
def T199 : TI := { kd := .struct [0, 1, 2], sz := 3, by' := 24, zero := [.int .i64 0, .int .i64 0, .int .i64 0], eq := [3, 3, 3], ft := [3, 3, 3] }
def T202 : TI := { kd := .struct [0, 1, 2], sz := 3, by' := 40, zero := [.nil, .int .i64 0, .int .i64 0], eq := [], ft := [22, 3, 3] }
def T203 : TI := { kd := .struct [0, 1, 2], sz := 3, by' := 40, zero := [.nil, .int .i64 0, .int .i64 0], eq := [], ft := [22, 3, 3] }
def T224 : TI := { kd := .struct [0, 1, 2, 3], sz := 4, by' := 32, zero := [.int .i64 0, .int .i64 0, .int .i64 0, .int .i64 0], eq := [3, 3, 3, 3], ft := [3, 3, 3, 3] }
def T225 : TI := { kd := .struct [0, 1, 2, 3], sz := 4, by' := 32, zero := [.int .i64 0, .int .i64 0, .int .i64 0, .int .i64 0], eq := [3, 3, 3, 3], ft := [3, 3, 3, 3] }
def T256 : TI := { kd := .scalar 7, sz := 1, by' := 8, zero := [.int .u64 0], eq := [], ft := [] }
def T276 : TI := { kd := .scalar 3, sz := 1, by' := 8, zero := [.int .i64 0], eq := [], ft := [] }
def T285 : TI := { kd := .scalar 6, sz := 1, by' := 4, zero := [.int .u32 0], eq := [], ft := [] }
def T287 : TI := { kd := .scalar 7, sz := 1, by' := 8, zero := [.int .u64 0], eq := [], ft := [] }
def T295 : TI := { kd := .slice 4, sz := 1, by' := 24, zero := [.nil], eq := [], ft := [] }
def T301 : TI := { kd := .scalar 7, sz := 1, by' := 8, zero := [.int .u64 0], eq := [], ft := [] }
def T321 : TI := { kd := .scalar 4, sz := 1, by' := 1, zero := [.int .u8 0], eq := [], ft := [] }
def T322 : TI := { kd := .scalar 4, sz := 1, by' := 1, zero := [.int .u8 0], eq := [], ft := [] }
def T325 : TI := { kd := .scalar 2, sz := 1, by' := 4, zero := [.int .i32 0], eq := [], ft := [] }
def T326 : TI := { kd := .scalar 2, sz := 1, by' := 4, zero := [.int .i32 0], eq := [], ft := [] }
def T (t : Nat) : Option TI := bif Nat.blt t 330 then (bif Nat.blt t 165 then (bif Nat.blt t 82 then (bif Nat.blt t 41 then (bif Nat.blt t 20 then (bif Nat.blt t 10 then (bif Nat.blt t 5 then (bif Nat.blt t 2 then none else (bif Nat.blt t 3 then (some T2) else (bif Nat.blt t 4 then (some T3) else (some T4)))) else (bif Nat.blt t 7 then (bif Nat.blt t 6 then (some T5) else (some T6)) else (bif Nat.blt t 8 then (some T7) else (bif Nat.blt t 9 then (some T8) else (some T9))))) else (bif Nat.blt t 15 then (bif Nat.blt t 12 then (bif Nat.blt t 11 then (some T10) else (some T11)) else (bif Nat.blt t 13 then (some T12) else (bif Nat.blt t 14 then (some T13) else (some T14)))) else none)) else (bif Nat.blt t 30 then (bif Nat.blt t 25 then (bif Nat.blt t 22 then (bif Nat.blt t 21 then none else (some T21)) else (bif Nat.blt t 23 then (some T22) else (bif Nat.blt t 24 then none else (some T24)))) else (bif Nat.blt t 27 then (bif Nat.blt t 26 then (some T25) else (some T26)) else (bif Nat.blt t 28 then (some T27) else (bif Nat.blt t 29 then (some T28) else (some T29))))) else (bif Nat.blt t 35 then (bif Nat.blt t 32 then (bif Nat.blt t 31 then (some T30) else (some T31)) else none) else none))) else (bif Nat.blt t 61 then (bif Nat.blt t 51 then (bif Nat.blt t 46 then (bif Nat.blt t 43 then (bif Nat.blt t 42 then (some T41) else none) else (bif Nat.blt t 44 then (some T43) else (bif Nat.blt t 45 then (some T44) else (some T45)))) else (bif Nat.blt t 48 then (bif Nat.blt t 47 then (some T46) else (some T47)) else (bif Nat.blt t 49 then (some T48) else none))) else (bif Nat.blt t 56 then (bif Nat.blt t 53 then none else (bif Nat.blt t 54 then none else (bif Nat.blt t 55 then none else (some T55)))) else (bif Nat.blt t 58 then (bif Nat.blt t 57 then (some T56) else (some T57)) else (bif Nat.blt t 59 then (some T58) else none)))) else (bif Nat.blt t 71 then (bif Nat.blt t 66 then none else (bif Nat.blt t 68 then (bif Nat.blt t 67 then (some T66) else (some T67)) else (bif Nat.blt t 69 then (some T68) else none))) else (bif Nat.blt t 76 then none else (bif Nat.blt t 79 then (bif Nat.blt t 77 then none else (bif Nat.blt t 78 then none else (some T78))) else none))))) else (bif Nat.blt t 123 then (bif Nat.blt t 102 then (bif Nat.blt t 92 then (bif Nat.blt t 87 then (bif Nat.blt t 84 then none else (bif Nat.blt t 85 then none else (bif Nat.blt t 86 then none else (some T86)))) else (bif Nat.blt t 89 then (bif Nat.blt t 88 then (some T87) else (some T88)) else (bif Nat.blt t 90 then (some T89) else none))) else (bif Nat.blt t 97 then none else (bif Nat.blt t 99 then (bif Nat.blt t 98 then none else (some T98)) else (bif Nat.blt t 100 then none else (bif Nat.blt t 101 then none else (some T101)))))) else (bif Nat.blt t 112 then (bif Nat.blt t 107 then (bif Nat.blt t 104 then (bif Nat.blt t 103 then (some T102) else (some T103)) else (bif Nat.blt t 105 then none else (bif Nat.blt t 106 then (some T105) else (some T106)))) else (bif Nat.blt t 109 then (bif Nat.blt t 108 then (some T107) else (some T108)) else none)) else (bif Nat.blt t 117 then none else (bif Nat.blt t 120 then (bif Nat.blt t 118 then none else (bif Nat.blt t 119 then none else (some T119))) else (bif Nat.blt t 121 then (some T120) else none))))) else (bif Nat.blt t 144 then (bif Nat.blt t 133 then (bif Nat.blt t 128 then (bif Nat.blt t 125 then (bif Nat.blt t 124 then (some T123) else (some T124)) else none) else (bif Nat.blt t 130 then (bif Nat.blt t 129 then none else (some T129)) else (bif Nat.blt t 131 then (some T130) else none))) else (bif Nat.blt t 138 then none else (bif Nat.blt t 141 then (bif Nat.blt t 139 then (some T138) else (bif Nat.blt t 140 then (some T139) else none)) else none))) else none))) else (bif Nat.blt t 247 then (bif Nat.blt t 206 then (bif Nat.blt t 185 then (bif Nat.blt t 175 then none else (bif Nat.blt t 180 then (bif Nat.blt t 177 then (bif Nat.blt t 176 then (some T175) else none) else none) else none)) else (bif Nat.blt t 195 then none else (bif Nat.blt t 200 then (bif Nat.blt t 197 then none else (bif Nat.blt t 198 then none else (bif Nat.blt t 199 then (some T198) else (some T199)))) else (bif Nat.blt t 203 then (bif Nat.blt t 201 then none else (bif Nat.blt t 202 then none else (some T202))) else (bif Nat.blt t 204 then (some T203) else none))))) else (bif Nat.blt t 226 then (bif Nat.blt t 216 then none else (bif Nat.blt t 221 then none else (bif Nat.blt t 223 then none else (bif Nat.blt t 224 then none else (bif Nat.blt t 225 then (some T224) else (some T225)))))) else none)) else (bif Nat.blt t 288 then (bif Nat.blt t 267 then (bif Nat.blt t 257 then (bif Nat.blt t 252 then none else (bif Nat.blt t 254 then none else (bif Nat.blt t 255 then none else (bif Nat.blt t 256 then none else (some T256))))) else none) else (bif Nat.blt t 277 then (bif Nat.blt t 272 then none else (bif Nat.blt t 274 then none else (bif Nat.blt t 275 then none else (bif Nat.blt t 276 then none else (some T276))))) else (bif Nat.blt t 282 then none else (bif Nat.blt t 285 then none else (bif Nat.blt t 286 then (some T285) else (bif Nat.blt t 287 then none else (some T287))))))) else (bif Nat.blt t 309 then (bif Nat.blt t 298 then (bif Nat.blt t 293 then none else (bif Nat.blt t 295 then none else (bif Nat.blt t 296 then (some T295) else none))) else (bif Nat.blt t 303 then (bif Nat.blt t 300 then none else (bif Nat.blt t 301 then none else (bif Nat.blt t 302 then (some T301) else none))) else none)) else (bif Nat.blt t 319 then none else (bif Nat.blt t 324 then (bif Nat.blt t 321 then none else (bif Nat.blt t 322 then (some T321) else (bif Nat.blt t 323 then (some T322) else none))) else (bif Nat.blt t 327 then (bif Nat.blt t 325 then none else (bif Nat.blt t 326 then (some T325) else (some T326))) else none))))))) else none
theorem tok : Tryz.prog.follows .mixedOrders = true ∧ TOK Tryz.prog T := ⟨by kernel_rfl, tok_of (n := 330) (by kernel_rfl) (fun t ht => by
  have h : Nat.blt t 330 = false := by rw [← Bool.not_eq_true, Nat.blt_eq]; omega
  unfold T; rw [h]; rfl)⟩
end Go.Proofs.YtlmmdpmmdmhacaaGreat
