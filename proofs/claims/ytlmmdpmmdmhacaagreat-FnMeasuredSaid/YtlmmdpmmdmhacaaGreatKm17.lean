/- Data that is written: append, a store into an element; calls that leave nothing. -/
import Derived.Test.YtlmmdpmmdmhacaaGreatKm16
namespace Go.Proofs.YtlmmdpmmdmhacaaGreat
open Go
set_option linter.unusedVariables false
set_option linter.unusedSimpArgs false
section
variable {q : Bool} {S S' S0 S1 : Store}
theorem Rep2.setAt : ∀ {xs : List (List D)} {rows : List (List C)} {ids : List Nat}, Rep2 q S xs rows ids → ∀ (n : Nat) x, xs[n]? = some x → ∃ cs pre mid post, rows[n]? = some cs ∧ ids = pre ++ mid ++ post ∧ RepL q S x cs mid ∧
    ∀ {S' : Store} {x' : List D} {cs' : List C} {mid' : List Nat}, (∀ id ∈ pre ++ post, S'[id]? = S[id]?) → RepL q S' x' cs' mid' → Rep2 q S' (xs.set n x') (rows.set n cs') (pre ++ mid' ++ post)
  | [], rows, ids, h, n, x, hx => by simp at hx
  | y :: xs, rows, ids, h, n, x, hx => by
    rw [rep2_cons] at h
    obtain ⟨c, cs', i, j, h1, h2, h3, h4⟩ := h
    subst h1; subst h2
    cases n with
    | zero =>
      simp at hx; subst hx
      refine ⟨c, [], i, j, rfl, by simp, h3, fun {S' x' cs1 mid'} hf hr => ?_⟩
      rw [List.set_cons_zero, List.set_cons_zero, rep2_cons]
      exact ⟨cs1, cs', mid', j, rfl, by simp, hr, h4.frame (fun id hi => hf id (by simp [hi]))⟩
    | succ n =>
      obtain ⟨cs, pre, mid, post, k1, k2, k3, k4⟩ := h4.setAt n x (by simpa using hx)
      refine ⟨cs, i ++ pre, mid, post, by simpa using k1, by rw [k2]; simp, k3, fun {S' x' cs1 mid'} hf hr => ?_⟩
      rw [List.set_cons_succ, List.set_cons_succ, rep2_cons]
      exact ⟨c, cs'.set n cs1, i, pre ++ mid' ++ post, rfl, by simp, h3.frame (fun id hi => hf id (by simp [hi])), k4 (fun id hi => hf id (by
        rcases List.mem_append.1 hi with hi | hi <;> simp [hi])) hr⟩
theorem RepL.append : ∀ {xs ys : List D} {cs cs' : List C} {i j : List Nat}, RepL q S xs cs i → RepL q S ys cs' j → RepL q S (xs ++ ys) (cs ++ cs') (i ++ j)
  | [], ys, cs, cs', i, j, h, g => by rw [repL_nil] at h; rw [h.1, h.2]; exact g
  | x :: xs, ys, cs, cs', i, j, h, g => by
    rw [repL_cons] at h
    obtain ⟨c, cs1, i', j', h1, h2, h3, h4⟩ := h
    subst h1; subst h2
    rw [List.cons_append, repL_cons]
    exact ⟨c, cs1 ++ cs', i', j' ++ j, rfl, by simp, h3, h4.append g⟩
theorem RepL.split : ∀ {xs ys : List D} {cs : List C} {ids : List Nat}, RepL q S (xs ++ ys) cs ids → ∃ r1 r2 i j, cs = r1 ++ r2 ∧ ids = i ++ j ∧ RepL q S xs r1 i ∧ RepL q S ys r2 j
  | [], ys, cs, ids, h => ⟨[], cs, [], ids, rfl, rfl, by rw [repL_nil]; exact ⟨rfl, rfl⟩, h⟩
  | x :: xs, ys, cs, ids, h => by
    rw [List.cons_append, repL_cons] at h
    obtain ⟨c, cs1, i', j', h1, h2, h3, h4⟩ := h
    obtain ⟨r1, r2, i1, j1, k1, k2, k3, k4⟩ := h4.split
    subst h1; subst h2; subst k1; subst k2
    refine ⟨c :: r1, r2, i' ++ i1, j1, rfl, by simp, ?_, k4⟩
    rw [repL_cons]
    exact ⟨c, r1, i', i1, rfl, rfl, h3, k3⟩
theorem fr_app {k by' : Nat} {c : C} {xs yd : List (List D)} {ys : List (List C)} {js : List Nat} {K : C → Store → Prop}
    (hE : Ext S0 S) (h : Fr S0.length S1 [.sl k xs] [c]) (e1 : Ext S1 S) (hy : Rep2 true S yd ys js) (hyn : js.Nodup) (hyl : ∀ id ∈ js, S1.length ≤ id) (h01 : S0.length ≤ S1.length)
    (hk : ∀ y ∈ yd, y.length = k) (hb : (xs.length + yd.length) * by' ≤ 140737488355328) (hm : xs.length + yd.length ≤ maxLen)
    (hK : ∀ c' S', Ext S0 S' → Fr S0.length S' [.sl k (xs ++ yd)] [c'] → S.length ≤ S'.length → K c' S') : AppP k by' S c ys K := by
  obtain ⟨ids, h, hn, hlo⟩ := h.one
  have hid1 : ∀ id ∈ ids, id < S1.length := h.lt
  have h : Rep true S (.sl k xs) c ids := h.frame fun id hi => e1.at (hid1 id hi)
  have hyk : ∀ y ∈ ys, y.length = k := fun y hy' => by
    obtain ⟨i, hi, rfl⟩ := List.mem_iff_getElem.1 hy'
    have hl := hy.len
    obtain ⟨cs, j, k1, k2, _⟩ := hy.at i _ (List.getElem?_eq_getElem (by omega))
    rw [List.getElem?_eq_getElem hi] at k1; cases k1
    rw [k2.len]; exact hk _ (List.getElem_mem _)
  have hyl' : ys.length = yd.length := hy.len
  unfold Rep at h
  obtain ⟨hl, h⟩ := h
  unfold AppP
  refine ⟨hyk, ?_⟩
  have new : xs = [] → ys.length * by' ≤ 140737488355328 ∧ (ys = [] → ∀ c0, (c0 = .nil ∨ c0 = .zc) → K c0 S) ∧ (ys ≠ [] → K (.sl S.length 0 ys.length ys.length) (S ++ [⟨true, k, ys⟩])) := by
    intro hx
    subst hx
    refine ⟨by rw [hyl']; simpa using hb, fun hy0 c0 hc0 => ?_, fun hy0 => ?_⟩
    · have : yd = [] := List.eq_nil_of_length_eq_zero (by rw [← hyl', hy0]; rfl)
      subst this
      exact hK _ _ hE (fr_empty hc0) (Nat.le_refl _)
    · refine hK _ _ (hE.trans (Ext.push S _)) ?_ (by simp)
      exact fr_push (by simpa using hy) hyn (fun id hi => Nat.le_trans h01 (hyl id hi)) hE.len (by simpa using hm) (by simpa using hyl')
  rcases h with ⟨h1, h2, h3⟩ | ⟨id, o, t, row, js0, h1, h2, h3, h4, h5, h6, h7, h8⟩
  · obtain ⟨n1, n2, n3⟩ := new h1
    rcases h2 with rfl | rfl
    · exact .inl ⟨rfl, n1, fun e => n2 e _ (.inl rfl), n3⟩
    · exact .inr (.inl ⟨rfl, n1, fun e => n2 e _ (.inr rfl), n3⟩)
  · obtain ⟨ho, ht, hown⟩ := h7 rfl
    subst ho
    have hrl : row.xs.length = xs.length := by omega
    have hrow : row = ⟨true, k, row.xs⟩ := by cases row; simp at hown h4; simp [hown, h4]
    refine .inr (.inr ⟨id, row.xs, by rw [h1, hrl, ht], by rw [h3, ← hrow], by rw [hrl, hyl']; exact hb, ?_⟩)
    have hidl : id < S.length := (List.getElem?_eq_some_iff.1 h3).1
    have hid : S0.length ≤ id := hlo id (by rw [h2]; simp)
    have hid1' : id < S1.length := hid1 id (by rw [h2]; simp)
    rw [h2, List.nodup_cons] at hn
    refine hK _ _ (hE.set hid _) (fr_one (ids := id :: (js0 ++ js)) ?_ ?_ ?_) (by simp)
    · unfold Rep
      refine ⟨by simpa using hm, .inr ⟨id, 0, xs.length + yd.length, ⟨true, k, row.xs ++ ys⟩, js0 ++ js, by rw [hrl, hyl']; simp, rfl, by rw [List.getElem?_set_self hidl], rfl, by simp [hrl, hyl'], by simp, fun _ => ⟨rfl, by simp, rfl⟩, ?_⟩⟩
      have e : List.take (xs ++ yd).length (List.drop 0 (row.xs ++ ys)) = row.xs ++ ys := by
        rw [List.drop_zero, List.take_of_length_le (by simp [hrl, hyl'])]
      simp only [e]
      rw [List.drop_zero, List.take_of_length_le (by omega)] at h8
      refine (h8.frame fun i hi => ?_).append (hy.frame fun i hi => ?_)
      · exact List.getElem?_set_ne (by rintro rfl; exact hn.1 hi)
      · exact List.getElem?_set_ne (by have := hyl i hi; omega)
    · rw [List.nodup_cons, List.nodup_append]
      refine ⟨fun hi => ?_, hn.2, hyn, fun a ha b hb e => ?_⟩
      · rcases List.mem_append.1 hi with hi | hi
        · exact hn.1 hi
        · have := hyl id hi; omega
      · have := hyl b hb
        have := hid1 a (by rw [h2]; simp [ha])
        omega
    · intro i hi
      rcases List.mem_cons.1 hi with rfl | hi
      · exact hid
      · rcases List.mem_append.1 hi with hi | hi
        · exact hlo i (by rw [h2]; simp [hi])
        · exact Nat.le_trans h01 (hyl i hi)
theorem fr_app_flat {α : Type} {f : α → List D} (hf : ∀ x, Flat (f x)) {k by' : Nat} {c : C} {l m : List α} {ys : List (List C)} {K : C → Store → Prop}
    (hE : Ext S0 S) (h : Fr S0.length S [.sl k (l.map f)] [c]) (hy : ys = m.map fun x => flatC (f x))
    (hk : ∀ x, (f x).length = k) (hb : (l.length + m.length) * by' ≤ 140737488355328) (hm : l.length + m.length ≤ maxLen)
    (hK : ∀ c' S', Ext S0 S' → Fr S0.length S' [.sl k ((l ++ m).map f)] [c'] → S.length ≤ S'.length → K c' S') : AppP k by' S c ys K := by
  subst hy
  exact fr_app (S1 := S) (yd := m.map f) hE h (Ext.refl S) (rep2_flat hf m) List.nodup_nil (fun _ hi => by cases hi) hE.len (fun y hy => by obtain ⟨x, _, rfl⟩ := List.mem_map.1 hy; exact hk x) (by simpa using hb) (by simpa using hm)
    (fun c' S' h1 h2 h3 => hK c' S' h1 (by simpa using h2) h3)
theorem fr_sto {k : Nat} {c : C} {xs : List (List D)} {i : Int} {off : Nat} {A B B' Z : List D} {ys : List C} {K : Store → Prop}
    (hE : Ext S0 S) (h : Fr S0.length S1 [.sl k xs] [c]) (e1 : Ext S1 S) (hy : Fr S1.length S B' ys) (h01 : S0.length ≤ S1.length)
    (h0 : 0 ≤ i ∧ i.toNat < xs.length) (hx : xs[i.toNat]? = some (A ++ B ++ Z)) (hA : A.length = off) (hB : B'.length = B.length) (hk : (A ++ B ++ Z).length = k)
    (hK : ∀ S', Ext S0 S' → Fr S0.length S' [.sl k (xs.set i.toNat (A ++ B' ++ Z))] [c] → S'.length = S.length → K S') : StoP S c i off ys K := by
  obtain ⟨ids, h, hn, hlo⟩ := h.one
  have hid1 : ∀ id ∈ ids, id < S1.length := h.lt
  have h : Rep true S (.sl k xs) c ids := h.frame fun id hi => e1.at (hid1 id hi)
  obtain ⟨jy, hy, hyn, hyl⟩ := hy
  have hyL := hy.len
  unfold Rep at h
  obtain ⟨hl, h⟩ := h
  rcases h with ⟨h1, h2, h3⟩ | ⟨id, o, t, row, js, h1, h2, h3, h4, h5, h6, h7, h8⟩
  · subst h1; simp at h0
  · obtain ⟨ho, ht, hown⟩ := h7 rfl
    subst ho; subst h1; subst h2
    have hrl : row.xs.length = xs.length := by omega
    rw [List.drop_zero, List.take_of_length_le (by omega)] at h8
    have hidl : id < S.length := (List.getElem?_eq_some_iff.1 h3).1
    have hid : S0.length ≤ id := hlo id (by simp)
    have hid1' : id < S1.length := hid1 id (by simp)
    rw [List.nodup_cons] at hn
    obtain ⟨cs, pre, mid, post, k1, k2, k3, k4⟩ := h8.setAt _ _ hx
    obtain ⟨r1, r2, j1, j2, g1, g2, g3, g4⟩ := k3.split
    obtain ⟨r3, r4, j3, j4, g5, g6, g7, g8⟩ := g3.split
    subst g1; subst g5; subst g2; subst g6; subst k2
    have l3 := g7.len
    have l4 := g8.len
    have l2 := g4.len
    have ePut : putCells (r3 ++ r4 ++ r2) off ys = r3 ++ ys ++ r2 := by
      unfold putCells
      have h3 : r3.length = off := by omega
      have h4 : ys.length = r4.length := by omega
      rw [List.append_assoc r3 r4 r2, List.take_append_of_le_length (by omega), List.take_of_length_le (by omega)]
      congr 1
      rw [h4, ← h3, ← List.length_append, ← List.append_assoc, List.drop_left]
    unfold StoP
    refine ⟨id, 0, xs.length, t, row, r3 ++ r4 ++ r2, rfl, h3, hown, h5, h6, h0.1, by omega, by rw [Nat.zero_add]; exact k1, ?_, ?_⟩
    · rw [h4, ← hk]; simp; omega
    · rw [ePut, Nat.zero_add]
      have hlt : S.length = (S.set id ⟨true, row.k, row.xs.set i.toNat (r3 ++ ys ++ r2)⟩).length := by simp
      have memj : ∀ x, x ∈ pre ++ (j3 ++ jy ++ j2) ++ post → x ∈ jy ∨ x ∈ pre ++ (j3 ++ j4 ++ j2) ++ post := by
        intro x hx
        simp only [List.mem_append] at hx ⊢
        rcases hx with (h | (h | h) | h) | h
        · exact .inr (.inl (.inl h))
        · exact .inr (.inl (.inr (.inl (.inl h))))
        · exact .inl h
        · exact .inr (.inl (.inr (.inr h)))
        · exact .inr (.inr h)
      refine hK _ (hE.set hid _) (fr_one (ids := id :: (pre ++ (j3 ++ jy ++ j2) ++ post)) ?_ ?_ ?_) hlt.symm
      · have hne : ∀ x ∈ pre ++ (j3 ++ j4 ++ j2) ++ post, (S.set id ⟨true, row.k, row.xs.set i.toNat (r3 ++ ys ++ r2)⟩)[x]? = S[x]? := fun x hx => List.getElem?_set_ne (by rintro rfl; exact hn.1 hx)
        have hney : ∀ x ∈ jy, (S.set id ⟨true, row.k, row.xs.set i.toNat (r3 ++ ys ++ r2)⟩)[x]? = S[x]? := fun x hx => List.getElem?_set_ne (by have := hyl x hx; omega)
        have hr := k4 (S' := S.set id ⟨true, row.k, row.xs.set i.toNat (r3 ++ ys ++ r2)⟩) (x' := A ++ B' ++ Z) (cs' := r3 ++ ys ++ r2) (mid' := j3 ++ jy ++ j2) (fun x hx => hne x (by
            rcases List.mem_append.1 hx with h | h <;> simp [h]))
          (((g7.frame fun x hx => hne x (by simp [hx])).append (hy.frame hney)).append (g4.frame fun x hx => hne x (by simp [hx])))
        unfold Rep
        refine ⟨by simpa using hl, .inr ⟨id, 0, t, ⟨true, row.k, row.xs.set i.toNat (r3 ++ ys ++ r2)⟩, _, by simp, rfl, by rw [List.getElem?_set_self hidl], h4, by simpa using h5, by simpa using h6, fun _ => ⟨rfl, by simpa using ht, rfl⟩, ?_⟩⟩
        simp only
        rw [List.drop_zero, List.take_of_length_le (by simp; omega)]
        exact hr
      · rw [List.nodup_cons]
        have hn2 := hn.2
        refine ⟨fun hx => ?_, ?_⟩
        · rcases memj id hx with h | h
          · have := hyl id h; omega
          · exact hn.1 h
        · have far : ∀ x ∈ pre ++ (j3 ++ j4 ++ j2) ++ post, ∀ y ∈ jy, x ≠ y := fun x hx y hy e => by
            have := hid1 x (by simp only [List.mem_cons]; exact .inr hx)
            have := hyl y hy
            omega
          simp only [List.nodup_append, List.mem_append] at hn2 far ⊢
          obtain ⟨⟨a1, ⟨⟨b1, b2, b3⟩, b4, b5⟩, a3⟩, a4, a5⟩ := hn2
          refine ⟨⟨a1, ⟨⟨b1, hyn, fun x hx y hy => far x (.inl (.inr (.inl (.inl hx)))) y hy⟩, b4, fun x hx y hy => ?_⟩, fun x hx y hy => ?_⟩, a4, fun x hx y hy => ?_⟩
          · rcases hx with hx | hx
            · exact b5 x (.inl hx) y hy
            · exact fun e => far y (.inl (.inr (.inr hy))) x hx e.symm
          · rcases hy with (hy | hy) | hy
            · exact a3 x hx y (.inl (.inl hy))
            · exact far x (.inl (.inl hx)) y hy
            · exact a3 x hx y (.inr hy)
          · rcases hx with hx | (hx | hx) | hx
            · exact a5 x (.inl hx) y hy
            · exact a5 x (.inr (.inl (.inl hx))) y hy
            · exact fun e => far y (.inr hy) x hx e.symm
            · exact a5 x (.inr (.inr hx)) y hy
      · intro x hx
        rcases List.mem_cons.1 hx with rfl | hx
        · exact hid
        · rcases memj x hx with h | h
          · exact Nat.le_trans h01 (hyl x h)
          · exact hlo x (by simp only [List.mem_cons]; exact .inr h)
def scC : C → Bool
  | .int _ _ | .bool _ | .str _ | .nil | .zc | .fn _ | .junk => true
  | _ => false
def scV : V → Bool
  | .s c => scC c
  | .agg cs => cs.all scC
def scAV : AV → Bool
  | .v x => scV x
  | .tup vs => vs.all scV
  | _ => false
theorem scC_rel {μ μ' : Mp} {S S' : Store} {c : C} {u : Value} (h : scC c = true) (g : CR μ S c u) : CR μ' S' c u := by
  cases c <;> first | exact g | cases h
theorem scV_rel {μ μ' : Mp} {S S' : Store} {v : V} {u : Value} (h : scV v = true) (g : VR μ S v u) : VR μ' S' v u := by
  cases v with
  | s c => exact scC_rel h g
  | agg cs =>
    obtain ⟨us, h1, h2, h3⟩ := g
    refine ⟨us, h1, h2, fun j c hj => ?_⟩
    obtain ⟨u, k1, k2⟩ := h3 j c hj
    have h : cs.all scC = true := h
    rw [List.all_eq_true] at h
    exact ⟨u, k1, scC_rel (h c (List.mem_of_getElem? hj)) k2⟩
theorem scAV_rel {μ μ' : Mp} {S S' : Store} {x : AV} {u : Value} (h : scAV x = true) (g : AVR μ S x u) : AVR μ' S' x u := by
  cases x <;> first | exact scV_rel h g | cases h | skip
  rename_i vs
  obtain ⟨us, h1, h2, h3⟩ := g
  refine ⟨us, h1, h2, fun j v hj => ?_⟩
  obtain ⟨u, k1, k2⟩ := h3 j v hj
  have h : vs.all scV = true := h
  rw [List.all_eq_true] at h
  exact ⟨u, k1, scV_rel (h v (List.mem_of_getElem? hj)) k2⟩
theorem at_back {S J : Store} {id : Nat} {row row0 : Row} (h0 : S[id]? = some row0) (h : (S ++ J)[id]? = some row) : S[id]? = some row := by
  rw [List.getElem?_append_left (List.getElem?_eq_some_iff.1 h0).1] at h; exact h
theorem cr_back {μ μ' : Mp} {S J : Store} {c : C} {u u0 : Value} (h : CR μ S c u0) (g : CR μ' (S ++ J) c u) : CR μ' S c u := by
  cases c <;> first | exact g | skip
  · obtain ⟨_, _, _, _, row0, k0, _⟩ := h
    obtain ⟨ad, cap, h1, h2, row, k1, k2⟩ := g
    exact ⟨ad, cap, h1, h2, row, at_back k0 k1, k2⟩
  · obtain ⟨_, row0, k0, _⟩ := h
    obtain ⟨h1, row, k1, k2⟩ := g
    exact ⟨h1, row, at_back k0 k1, k2⟩
theorem EvA.drop {P : Program} {f : Nat} {args : List V} {S : Store} {r0 : AV} (hs : scAV r0 = true) (h : EvA P f args S (fun r S' => r = r0 ∧ Ext S S')) : EvA P f args S (fun r S' => r = r0 ∧ S' = S) :=
  ⟨h.1, fun μ w us h1 hA h2 => (h.2 μ w us h1 hA h2).mono fun e w' ⟨r, S', u, μ', ⟨hr, J, hJ⟩, b, c, d, ev⟩ => by
    subst hr; subst hJ
    have hat : ∀ id row, S[id]? = some row → (S ++ J)[id]? = some row := fun id row h => by
      rw [List.getElem?_append_left (List.getElem?_eq_some_iff.1 h).1]; exact h
    refine ⟨r, S, u, μ', ⟨rfl, rfl⟩, b, ⟨fun id row m g1 g2 => ?_, fun id id' row row' m m' g1 g2 => c.sep id id' row row' m m' (hat _ _ g1) (hat _ _ g2)⟩, scAV_rel hs d, ⟨ev.os, ev.tape, ev.output, ev.size, ev.block, fun id row g => ?_, fun id row m g1 g2 => ev.blks id row m (hat _ _ g1) g2⟩⟩
    · have ok := c.ok id row m (hat _ _ g1) g2
      obtain ⟨row', a1, a2, a3, a4, a5, a6⟩ := ev.rows id row g1
      rw [hat id row g1] at a1; cases a1
      rw [a5 rfl] at g2
      have ok0 := h1.ok id row m g1 g2
      refine ⟨fun i cs hi => ⟨(ok.cells i cs hi).1, fun j c hj => ?_⟩, ok.lt, ok.mine⟩
      obtain ⟨u, k1, k2⟩ := (ok.cells i cs hi).2 j c hj
      obtain ⟨u0, k3, k4⟩ := (ok0.cells i cs hi).2 j c hj
      exact ⟨u, k1, cr_back k4 k2⟩
    · obtain ⟨row', a1, a2, a3, a4, a5, a6⟩ := ev.rows id row g
      rw [hat id row g] at a1; cases a1
      exact ⟨row, g, rfl, rfl, Nat.le_refl _, a5, fun _ => rfl⟩⟩
end
end Go.Proofs.YtlmmdpmmdmhacaaGreat
