/- Data that is written: append, a store into an element; calls that leave nothing. The seat's types as the evaluator asks for them, and its functions' numbers. Written by gen.py. -/
import Derived.Test.YtockphlpokoohaaGreatKe16
import Derived.Test.YtockphlpokoohaaGreatKe12
import Derived.Test.YtockphlpokoohaaGreatProg
namespace Go.Proofs.YtockphlpokoohaaGreat
open Go
set_option linter.unusedVariables false
set_option linter.unusedSimpArgs false
section
variable {q : Bool} {S S' S0 S1 : Store}
theorem Rep2.setAt : ∀ {xs : List (List D)} {rows : List (List C)} {ids : List Nat}, Rep2 q S xs rows ids → ∀ (n : Nat) x, xs[n]? = some x → ∃ cs pre mid post, rows[n]? = some cs ∧ ids = pre ++ mid ++ post ∧ RepL q S x cs mid ∧
    ∀ {S' : Store} {x' : List D} {cs' : List C} {mid' : List Nat}, (∀ id ∈ pre ++ post, S'[id]? = S[id]?) → RepL q S' x' cs' mid' → Rep2 q S' (xs.set n x') (rows.set n cs') (pre ++ mid' ++ post)
  | [], rows, ids, h, n, x, hx => by simp at hx
  | y :: xs, rows, ids, h, n, x, hx => by
    rw [rep2_cons] at h
    obtain ⟨c, cs', i, j, h1, h2, h3, h4⟩ := h
    subst h1; subst h2
    cases n with
    | zero =>
      simp at hx; subst hx
      refine ⟨c, [], i, j, rfl, by simp, h3, fun {S' x' cs1 mid'} hf hr => ?_⟩
      rw [List.set_cons_zero, List.set_cons_zero, rep2_cons]
      exact ⟨cs1, cs', mid', j, rfl, by simp, hr, h4.frame (fun id hi => hf id (by simp [hi]))⟩
    | succ n =>
      obtain ⟨cs, pre, mid, post, k1, k2, k3, k4⟩ := h4.setAt n x (by simpa using hx)
      refine ⟨cs, i ++ pre, mid, post, by simpa using k1, by rw [k2]; simp, k3, fun {S' x' cs1 mid'} hf hr => ?_⟩
      rw [List.set_cons_succ, List.set_cons_succ, rep2_cons]
      exact ⟨c, cs'.set n cs1, i, pre ++ mid' ++ post, rfl, by simp, h3.frame (fun id hi => hf id (by simp [hi])), k4 (fun id hi => hf id (by
        rcases List.mem_append.1 hi with hi | hi <;> simp [hi])) hr⟩
theorem RepL.append : ∀ {xs ys : List D} {cs cs' : List C} {i j : List Nat}, RepL q S xs cs i → RepL q S ys cs' j → RepL q S (xs ++ ys) (cs ++ cs') (i ++ j)
  | [], ys, cs, cs', i, j, h, g => by rw [repL_nil] at h; rw [h.1, h.2]; exact g
  | x :: xs, ys, cs, cs', i, j, h, g => by
    rw [repL_cons] at h
    obtain ⟨c, cs1, i', j', h1, h2, h3, h4⟩ := h
    subst h1; subst h2
    rw [List.cons_append, repL_cons]
    exact ⟨c, cs1 ++ cs', i', j' ++ j, rfl, by simp, h3, h4.append g⟩
theorem RepL.split : ∀ {xs ys : List D} {cs : List C} {ids : List Nat}, RepL q S (xs ++ ys) cs ids → ∃ r1 r2 i j, cs = r1 ++ r2 ∧ ids = i ++ j ∧ RepL q S xs r1 i ∧ RepL q S ys r2 j
  | [], ys, cs, ids, h => ⟨[], cs, [], ids, rfl, rfl, by rw [repL_nil]; exact ⟨rfl, rfl⟩, h⟩
  | x :: xs, ys, cs, ids, h => by
    rw [List.cons_append, repL_cons] at h
    obtain ⟨c, cs1, i', j', h1, h2, h3, h4⟩ := h
    obtain ⟨r1, r2, i1, j1, k1, k2, k3, k4⟩ := h4.split
    subst h1; subst h2; subst k1; subst k2
    refine ⟨c :: r1, r2, i' ++ i1, j1, rfl, by simp, ?_, k4⟩
    rw [repL_cons]
    exact ⟨c, r1, i', i1, rfl, rfl, h3, k3⟩
theorem fr_app {k by' : Nat} {c : C} {xs yd : List (List D)} {ys : List (List C)} {js : List Nat} {K : C → Store → Prop}
    (hE : Ext S0 S) (h : Fr S0.length S1 [.sl k xs] [c]) (e1 : Ext S1 S) (hy : Rep2 true S yd ys js) (hyn : js.Nodup) (hyl : ∀ id ∈ js, S1.length ≤ id) (h01 : S0.length ≤ S1.length)
    (hk : ∀ y ∈ yd, y.length = k) (hb : (xs.length + yd.length) * by' ≤ 140737488355328) (hm : xs.length + yd.length ≤ maxLen)
    (hK : ∀ c' S', Ext S0 S' → Fr S0.length S' [.sl k (xs ++ yd)] [c'] → S.length ≤ S'.length → K c' S') : AppP k by' S c ys K := by
  obtain ⟨ids, h, hn, hlo⟩ := h.one
  have hid1 : ∀ id ∈ ids, id < S1.length := h.lt
  have h : Rep true S (.sl k xs) c ids := h.frame fun id hi => e1.at (hid1 id hi)
  have hyk : ∀ y ∈ ys, y.length = k := fun y hy' => by
    obtain ⟨i, hi, rfl⟩ := List.mem_iff_getElem.1 hy'
    have hl := hy.len
    obtain ⟨cs, j, k1, k2, _⟩ := hy.at i _ (List.getElem?_eq_getElem (by omega))
    rw [List.getElem?_eq_getElem hi] at k1; cases k1
    rw [k2.len]; exact hk _ (List.getElem_mem _)
  have hyl' : ys.length = yd.length := hy.len
  unfold Rep at h
  obtain ⟨hl, h⟩ := h
  unfold AppP
  refine ⟨hyk, ?_⟩
  have new : xs = [] → ys.length * by' ≤ 140737488355328 ∧ (ys = [] → ∀ c0, (c0 = .nil ∨ c0 = .zc) → K c0 S) ∧ (ys ≠ [] → K (.sl S.length 0 ys.length ys.length) (S ++ [⟨true, k, ys⟩])) := by
    intro hx
    subst hx
    refine ⟨by rw [hyl']; simpa using hb, fun hy0 c0 hc0 => ?_, fun hy0 => ?_⟩
    · have : yd = [] := List.eq_nil_of_length_eq_zero (by rw [← hyl', hy0]; rfl)
      subst this
      exact hK _ _ hE (fr_empty hc0) (Nat.le_refl _)
    · refine hK _ _ (hE.trans (Ext.push S _)) ?_ (by simp)
      exact fr_push (by simpa using hy) hyn (fun id hi => Nat.le_trans h01 (hyl id hi)) hE.len (by simpa using hm) (by simpa using hyl')
  rcases h with ⟨h1, h2, h3⟩ | ⟨id, o, t, row, js0, h1, h2, h3, h4, h5, h6, h7, h8⟩
  · obtain ⟨n1, n2, n3⟩ := new h1
    rcases h2 with rfl | rfl
    · exact .inl ⟨rfl, n1, fun e => n2 e _ (.inl rfl), n3⟩
    · exact .inr (.inl ⟨rfl, n1, fun e => n2 e _ (.inr rfl), n3⟩)
  · obtain ⟨ho, ht, hown⟩ := h7 rfl
    subst ho
    have hrl : row.xs.length = xs.length := by omega
    have hrow : row = ⟨true, k, row.xs⟩ := by cases row; simp at hown h4; simp [hown, h4]
    refine .inr (.inr ⟨id, row.xs, by rw [h1, hrl, ht], by rw [h3, ← hrow], by rw [hrl, hyl']; exact hb, ?_⟩)
    have hidl : id < S.length := (List.getElem?_eq_some_iff.1 h3).1
    have hid : S0.length ≤ id := hlo id (by rw [h2]; simp)
    have hid1' : id < S1.length := hid1 id (by rw [h2]; simp)
    rw [h2, List.nodup_cons] at hn
    refine hK _ _ (hE.set hid _) (fr_one (ids := id :: (js0 ++ js)) ?_ ?_ ?_) (by simp)
    · unfold Rep
      refine ⟨by simpa using hm, .inr ⟨id, 0, xs.length + yd.length, ⟨true, k, row.xs ++ ys⟩, js0 ++ js, by rw [hrl, hyl']; simp, rfl, by rw [List.getElem?_set_self hidl], rfl, by simp [hrl, hyl'], by simp, fun _ => ⟨rfl, by simp, rfl⟩, ?_⟩⟩
      have e : List.take (xs ++ yd).length (List.drop 0 (row.xs ++ ys)) = row.xs ++ ys := by
        rw [List.drop_zero, List.take_of_length_le (by simp [hrl, hyl'])]
      simp only [e]
      rw [List.drop_zero, List.take_of_length_le (by omega)] at h8
      refine (h8.frame fun i hi => ?_).append (hy.frame fun i hi => ?_)
      · exact List.getElem?_set_ne (by rintro rfl; exact hn.1 hi)
      · exact List.getElem?_set_ne (by have := hyl i hi; omega)
    · rw [List.nodup_cons, List.nodup_append]
      refine ⟨fun hi => ?_, hn.2, hyn, fun a ha b hb e => ?_⟩
      · rcases List.mem_append.1 hi with hi | hi
        · exact hn.1 hi
        · have := hyl id hi; omega
      · have := hyl b hb
        have := hid1 a (by rw [h2]; simp [ha])
        omega
    · intro i hi
      rcases List.mem_cons.1 hi with rfl | hi
      · exact hid
      · rcases List.mem_append.1 hi with hi | hi
        · exact hlo i (by rw [h2]; simp [hi])
        · exact Nat.le_trans h01 (hyl i hi)
theorem fr_app_flat {α : Type} {f : α → List D} (hf : ∀ x, Flat (f x)) {k by' : Nat} {c : C} {l m : List α} {ys : List (List C)} {K : C → Store → Prop}
    (hE : Ext S0 S) (h : Fr S0.length S [.sl k (l.map f)] [c]) (hy : ys = m.map fun x => flatC (f x))
    (hk : ∀ x, (f x).length = k) (hb : (l.length + m.length) * by' ≤ 140737488355328) (hm : l.length + m.length ≤ maxLen)
    (hK : ∀ c' S', Ext S0 S' → Fr S0.length S' [.sl k ((l ++ m).map f)] [c'] → S.length ≤ S'.length → K c' S') : AppP k by' S c ys K := by
  subst hy
  exact fr_app (S1 := S) (yd := m.map f) hE h (Ext.refl S) (rep2_flat hf m) List.nodup_nil (fun _ hi => by cases hi) hE.len (fun y hy => by obtain ⟨x, _, rfl⟩ := List.mem_map.1 hy; exact hk x) (by simpa using hb) (by simpa using hm)
    (fun c' S' h1 h2 h3 => hK c' S' h1 (by simpa using h2) h3)
theorem fr_sto {k : Nat} {c : C} {xs : List (List D)} {i : Int} {off : Nat} {A B B' Z : List D} {ys : List C} {K : Store → Prop}
    (hE : Ext S0 S) (h : Fr S0.length S1 [.sl k xs] [c]) (e1 : Ext S1 S) (hy : Fr S1.length S B' ys) (h01 : S0.length ≤ S1.length)
    (h0 : 0 ≤ i ∧ i.toNat < xs.length) (hx : xs[i.toNat]? = some (A ++ B ++ Z)) (hA : A.length = off) (hB : B'.length = B.length) (hk : (A ++ B ++ Z).length = k)
    (hK : ∀ S', Ext S0 S' → Fr S0.length S' [.sl k (xs.set i.toNat (A ++ B' ++ Z))] [c] → S'.length = S.length → K S') : StoP S c i off ys K := by
  obtain ⟨ids, h, hn, hlo⟩ := h.one
  have hid1 : ∀ id ∈ ids, id < S1.length := h.lt
  have h : Rep true S (.sl k xs) c ids := h.frame fun id hi => e1.at (hid1 id hi)
  obtain ⟨jy, hy, hyn, hyl⟩ := hy
  have hyL := hy.len
  unfold Rep at h
  obtain ⟨hl, h⟩ := h
  rcases h with ⟨h1, h2, h3⟩ | ⟨id, o, t, row, js, h1, h2, h3, h4, h5, h6, h7, h8⟩
  · subst h1; simp at h0
  · obtain ⟨ho, ht, hown⟩ := h7 rfl
    subst ho; subst h1; subst h2
    have hrl : row.xs.length = xs.length := by omega
    rw [List.drop_zero, List.take_of_length_le (by omega)] at h8
    have hidl : id < S.length := (List.getElem?_eq_some_iff.1 h3).1
    have hid : S0.length ≤ id := hlo id (by simp)
    have hid1' : id < S1.length := hid1 id (by simp)
    rw [List.nodup_cons] at hn
    obtain ⟨cs, pre, mid, post, k1, k2, k3, k4⟩ := h8.setAt _ _ hx
    obtain ⟨r1, r2, j1, j2, g1, g2, g3, g4⟩ := k3.split
    obtain ⟨r3, r4, j3, j4, g5, g6, g7, g8⟩ := g3.split
    subst g1; subst g5; subst g2; subst g6; subst k2
    have l3 := g7.len
    have l4 := g8.len
    have l2 := g4.len
    have ePut : putCells (r3 ++ r4 ++ r2) off ys = r3 ++ ys ++ r2 := by
      unfold putCells
      have h3 : r3.length = off := by omega
      have h4 : ys.length = r4.length := by omega
      rw [List.append_assoc r3 r4 r2, List.take_append_of_le_length (by omega), List.take_of_length_le (by omega)]
      congr 1
      rw [h4, ← h3, ← List.length_append, ← List.append_assoc, List.drop_left]
    unfold StoP
    refine ⟨id, 0, xs.length, t, row, r3 ++ r4 ++ r2, rfl, h3, hown, h5, h6, h0.1, by omega, by rw [Nat.zero_add]; exact k1, ?_, ?_⟩
    · rw [h4, ← hk]; simp; omega
    · rw [ePut, Nat.zero_add]
      have hlt : S.length = (S.set id ⟨true, row.k, row.xs.set i.toNat (r3 ++ ys ++ r2)⟩).length := by simp
      have memj : ∀ x, x ∈ pre ++ (j3 ++ jy ++ j2) ++ post → x ∈ jy ∨ x ∈ pre ++ (j3 ++ j4 ++ j2) ++ post := by
        intro x hx
        simp only [List.mem_append] at hx ⊢
        rcases hx with (h | (h | h) | h) | h
        · exact .inr (.inl (.inl h))
        · exact .inr (.inl (.inr (.inl (.inl h))))
        · exact .inl h
        · exact .inr (.inl (.inr (.inr h)))
        · exact .inr (.inr h)
      refine hK _ (hE.set hid _) (fr_one (ids := id :: (pre ++ (j3 ++ jy ++ j2) ++ post)) ?_ ?_ ?_) hlt.symm
      · have hne : ∀ x ∈ pre ++ (j3 ++ j4 ++ j2) ++ post, (S.set id ⟨true, row.k, row.xs.set i.toNat (r3 ++ ys ++ r2)⟩)[x]? = S[x]? := fun x hx => List.getElem?_set_ne (by rintro rfl; exact hn.1 hx)
        have hney : ∀ x ∈ jy, (S.set id ⟨true, row.k, row.xs.set i.toNat (r3 ++ ys ++ r2)⟩)[x]? = S[x]? := fun x hx => List.getElem?_set_ne (by have := hyl x hx; omega)
        have hr := k4 (S' := S.set id ⟨true, row.k, row.xs.set i.toNat (r3 ++ ys ++ r2)⟩) (x' := A ++ B' ++ Z) (cs' := r3 ++ ys ++ r2) (mid' := j3 ++ jy ++ j2) (fun x hx => hne x (by
            rcases List.mem_append.1 hx with h | h <;> simp [h]))
          (((g7.frame fun x hx => hne x (by simp [hx])).append (hy.frame hney)).append (g4.frame fun x hx => hne x (by simp [hx])))
        unfold Rep
        refine ⟨by simpa using hl, .inr ⟨id, 0, t, ⟨true, row.k, row.xs.set i.toNat (r3 ++ ys ++ r2)⟩, _, by simp, rfl, by rw [List.getElem?_set_self hidl], h4, by simpa using h5, by simpa using h6, fun _ => ⟨rfl, by simpa using ht, rfl⟩, ?_⟩⟩
        simp only
        rw [List.drop_zero, List.take_of_length_le (by simp; omega)]
        exact hr
      · rw [List.nodup_cons]
        have hn2 := hn.2
        refine ⟨fun hx => ?_, ?_⟩
        · rcases memj id hx with h | h
          · have := hyl id h; omega
          · exact hn.1 h
        · have far : ∀ x ∈ pre ++ (j3 ++ j4 ++ j2) ++ post, ∀ y ∈ jy, x ≠ y := fun x hx y hy e => by
            have := hid1 x (by simp only [List.mem_cons]; exact .inr hx)
            have := hyl y hy
            omega
          simp only [List.nodup_append, List.mem_append] at hn2 far ⊢
          obtain ⟨⟨a1, ⟨⟨b1, b2, b3⟩, b4, b5⟩, a3⟩, a4, a5⟩ := hn2
          refine ⟨⟨a1, ⟨⟨b1, hyn, fun x hx y hy => far x (.inl (.inr (.inl (.inl hx)))) y hy⟩, b4, fun x hx y hy => ?_⟩, fun x hx y hy => ?_⟩, a4, fun x hx y hy => ?_⟩
          · rcases hx with hx | hx
            · exact b5 x (.inl hx) y hy
            · exact fun e => far y (.inl (.inr (.inr hy))) x hx e.symm
          · rcases hy with (hy | hy) | hy
            · exact a3 x hx y (.inl (.inl hy))
            · exact far x (.inl (.inl hx)) y hy
            · exact a3 x hx y (.inr hy)
          · rcases hx with hx | (hx | hx) | hx
            · exact a5 x (.inl hx) y hy
            · exact a5 x (.inr (.inl (.inl hx))) y hy
            · exact fun e => far y (.inr hy) x hx e.symm
            · exact a5 x (.inr (.inr hx)) y hy
      · intro x hx
        rcases List.mem_cons.1 hx with rfl | hx
        · exact hid
        · rcases memj x hx with h | h
          · exact Nat.le_trans h01 (hyl x h)
          · exact hlo x (by simp only [List.mem_cons]; exact .inr h)
def scC : C → Bool
  | .int _ _ | .bool _ | .str _ | .nil | .zc | .fn _ | .junk => true
  | _ => false
def scV : V → Bool
  | .s c => scC c
  | .agg cs => cs.all scC
def scAV : AV → Bool
  | .v x => scV x
  | .tup vs => vs.all scV
  | _ => false
theorem scC_rel {μ μ' : Mp} {S S' : Store} {c : C} {u : Value} (h : scC c = true) (g : CR μ S c u) : CR μ' S' c u := by
  cases c <;> first | exact g | cases h
theorem scV_rel {μ μ' : Mp} {S S' : Store} {v : V} {u : Value} (h : scV v = true) (g : VR μ S v u) : VR μ' S' v u := by
  cases v with
  | s c => exact scC_rel h g
  | agg cs =>
    obtain ⟨us, h1, h2, h3⟩ := g
    refine ⟨us, h1, h2, fun j c hj => ?_⟩
    obtain ⟨u, k1, k2⟩ := h3 j c hj
    have h : cs.all scC = true := h
    rw [List.all_eq_true] at h
    exact ⟨u, k1, scC_rel (h c (List.mem_of_getElem? hj)) k2⟩
theorem scAV_rel {μ μ' : Mp} {S S' : Store} {x : AV} {u : Value} (h : scAV x = true) (g : AVR μ S x u) : AVR μ' S' x u := by
  cases x <;> first | exact scV_rel h g | cases h | skip
  rename_i vs
  obtain ⟨us, h1, h2, h3⟩ := g
  refine ⟨us, h1, h2, fun j v hj => ?_⟩
  obtain ⟨u, k1, k2⟩ := h3 j v hj
  have h : vs.all scV = true := h
  rw [List.all_eq_true] at h
  exact ⟨u, k1, scV_rel (h v (List.mem_of_getElem? hj)) k2⟩
theorem at_back {S J : Store} {id : Nat} {row row0 : Row} (h0 : S[id]? = some row0) (h : (S ++ J)[id]? = some row) : S[id]? = some row := by
  rw [List.getElem?_append_left (List.getElem?_eq_some_iff.1 h0).1] at h; exact h
theorem cr_back {μ μ' : Mp} {S J : Store} {c : C} {u u0 : Value} (h : CR μ S c u0) (g : CR μ' (S ++ J) c u) : CR μ' S c u := by
  cases c <;> first | exact g | skip
  · obtain ⟨_, _, _, _, row0, k0, _⟩ := h
    obtain ⟨ad, cap, h1, h2, row, k1, k2⟩ := g
    exact ⟨ad, cap, h1, h2, row, at_back k0 k1, k2⟩
  · obtain ⟨_, row0, k0, _⟩ := h
    obtain ⟨h1, row, k1, k2⟩ := g
    exact ⟨h1, row, at_back k0 k1, k2⟩
theorem EvA.drop {P : Program} {f : Nat} {args : List V} {S : Store} {r0 : AV} (hs : scAV r0 = true) (h : EvA P f args S (fun r S' => r = r0 ∧ Ext S S')) : EvA P f args S (fun r S' => r = r0 ∧ S' = S) :=
  ⟨h.1, fun μ w us h1 hA h2 => (h.2 μ w us h1 hA h2).mono fun e w' ⟨r, S', u, μ', ⟨hr, J, hJ⟩, b, c, d, ev⟩ => by
    subst hr; subst hJ
    have hat : ∀ id row, S[id]? = some row → (S ++ J)[id]? = some row := fun id row h => by
      rw [List.getElem?_append_left (List.getElem?_eq_some_iff.1 h).1]; exact h
    refine ⟨r, S, u, μ', ⟨rfl, rfl⟩, b, ⟨fun id row m g1 g2 => ?_, fun id id' row row' m m' g1 g2 => c.sep id id' row row' m m' (hat _ _ g1) (hat _ _ g2)⟩, scAV_rel hs d, ⟨ev.os, ev.tape, ev.output, ev.size, ev.block, fun id row g => ?_, fun id row m g1 g2 => ev.blks id row m (hat _ _ g1) g2⟩⟩
    · have ok := c.ok id row m (hat _ _ g1) g2
      obtain ⟨row', a1, a2, a3, a4, a5, a6⟩ := ev.rows id row g1
      rw [hat id row g1] at a1; cases a1
      rw [a5 rfl] at g2
      have ok0 := h1.ok id row m g1 g2
      refine ⟨fun i cs hi => ⟨(ok.cells i cs hi).1, fun j c hj => ?_⟩, ok.lt, ok.mine⟩
      obtain ⟨u, k1, k2⟩ := (ok.cells i cs hi).2 j c hj
      obtain ⟨u0, k3, k4⟩ := (ok0.cells i cs hi).2 j c hj
      exact ⟨u, k1, cr_back k4 k2⟩
    · obtain ⟨row', a1, a2, a3, a4, a5, a6⟩ := ev.rows id row g
      rw [hat id row g] at a1; cases a1
      exact ⟨row, g, rfl, rfl, Nat.le_refl _, a5, fun _ => rfl⟩⟩
end
end Go.Proofs.YtockphlpokoohaaGreat
namespace Go.Proofs.YtockphlpokoohaaGreat
open Go
def T2 : TI := { kd := .scalar 3, sz := 1, by' := 8, zero := [.int .i64 0], eq := [], ft := [] }
def T3 : TI := { kd := .scalar 3, sz := 1, by' := 8, zero := [.int .i64 0], eq := [], ft := [] }
def T4 : TI := { kd := .scalar 10, sz := 1, by' := 1, zero := [.bool false], eq := [], ft := [] }
def T5 : TI := { kd := .scalar 4, sz := 1, by' := 1, zero := [.int .u8 0], eq := [], ft := [] }
def T6 : TI := { kd := .scalar 4, sz := 1, by' := 1, zero := [.int .u8 0], eq := [], ft := [] }
def T7 : TI := { kd := .struct [0, 1, 2, 3], sz := 4, by' := 24, zero := [.int .i64 0, .int .i64 0, .bool false, .int .u8 0], eq := [], ft := [2, 3, 4, 6] }
def T8 : TI := { kd := .struct [0, 1, 2, 3], sz := 4, by' := 24, zero := [.int .i64 0, .int .i64 0, .bool false, .int .u8 0], eq := [], ft := [2, 3, 4, 6] }
def T9 : TI := { kd := .scalar 20, sz := 1, by' := 16, zero := [.str ⟨#[]⟩], eq := [], ft := [] }
def T10 : TI := { kd := .scalar 20, sz := 1, by' := 16, zero := [.str ⟨#[]⟩], eq := [], ft := [] }
def T11 : TI := { kd := .scalar 20, sz := 1, by' := 16, zero := [.str ⟨#[]⟩], eq := [], ft := [] }
def T12 : TI := { kd := .scalar 7, sz := 1, by' := 8, zero := [.int .u64 0], eq := [], ft := [] }
def T13 : TI := { kd := .struct [0, 1], sz := 2, by' := 24, zero := [.str ⟨#[]⟩, .int .u64 0], eq := [], ft := [9, 12] }
def T14 : TI := { kd := .struct [0, 1], sz := 2, by' := 24, zero := [.str ⟨#[]⟩, .int .u64 0], eq := [], ft := [9, 12] }
def T21 : TI := { kd := .scalar 2, sz := 1, by' := 4, zero := [.int .i32 0], eq := [], ft := [] }
def T22 : TI := { kd := .slice 5, sz := 1, by' := 24, zero := [.nil], eq := [], ft := [] }
def T24 : TI := { kd := .slice 85, sz := 1, by' := 24, zero := [.nil], eq := [], ft := [] }
def T27 : TI := { kd := .slice 46, sz := 1, by' := 24, zero := [.nil], eq := [], ft := [] }
def T28 : TI := { kd := .slice 170, sz := 1, by' := 24, zero := [.nil], eq := [], ft := [] }
def T29 : TI := { kd := .slice 125, sz := 1, by' := 24, zero := [.nil], eq := [], ft := [] }
def T30 : TI := { kd := .slice 151, sz := 1, by' := 24, zero := [.nil], eq := [], ft := [] }
def T31 : TI := { kd := .slice 174, sz := 1, by' := 24, zero := [.nil], eq := [], ft := [] }
def T32 : TI := { kd := .struct [0, 1, 2, 3, 4, 5, 6, 7], sz := 8, by' := 160, zero := [.int .i64 0, .nil, .nil, .nil, .nil, .nil, .nil, .int .i64 0], eq := [], ft := [3, 24, 27, 28, 29, 30, 31, 3] }
def T33 : TI := { kd := .struct [0, 1, 2, 3, 4, 5, 6, 7], sz := 8, by' := 160, zero := [.int .i64 0, .nil, .nil, .nil, .nil, .nil, .nil, .int .i64 0], eq := [], ft := [3, 24, 27, 28, 29, 30, 31, 3] }
def T37 : TI := { kd := .slice 3, sz := 1, by' := 24, zero := [.nil], eq := [], ft := [] }
def T43 : TI := { kd := .slice 188, sz := 1, by' := 24, zero := [.nil], eq := [], ft := [] }
def T44 : TI := { kd := .slice 253, sz := 1, by' := 24, zero := [.nil], eq := [], ft := [] }
def T45 : TI := { kd := .struct [0, 1, 2, 3, 4, 5, 6, 7], sz := 8, by' := 128, zero := [.int .i64 0, .int .i64 0, .int .i64 0, .nil, .nil, .nil, .nil, .int .i64 0], eq := [], ft := [3, 3, 3, 28, 43, 30, 44, 3] }
def T46 : TI := { kd := .struct [0, 1, 2, 3, 4, 5, 6, 7], sz := 8, by' := 128, zero := [.int .i64 0, .int .i64 0, .int .i64 0, .nil, .nil, .nil, .nil, .int .i64 0], eq := [], ft := [3, 3, 3, 28, 43, 30, 44, 3] }
def T52 : TI := { kd := .slice 62, sz := 1, by' := 24, zero := [.nil], eq := [], ft := [] }
def T55 : TI := { kd := .struct [0, 1], sz := 2, by' := 16, zero := [.int .i64 0, .int .i64 0], eq := [3, 3], ft := [3, 3] }
def T56 : TI := { kd := .struct [0, 1], sz := 2, by' := 16, zero := [.int .i64 0, .int .i64 0], eq := [3, 3], ft := [3, 3] }
def T61 : TI := { kd := .struct [0, 1, 2], sz := 3, by' := 24, zero := [.int .i64 0, .int .i64 0, .int .i64 0], eq := [3, 3, 3], ft := [3, 3, 3] }
def T62 : TI := { kd := .struct [0, 1, 2], sz := 3, by' := 24, zero := [.int .i64 0, .int .i64 0, .int .i64 0], eq := [3, 3, 3], ft := [3, 3, 3] }
def T63 : TI := { kd := .struct [0, 2], sz := 3, by' := 24, zero := [.int .i64 0, .int .i64 0, .int .i64 0], eq := [3, 3, 3], ft := [56, 3] }
def T64 : TI := { kd := .struct [0, 2], sz := 3, by' := 24, zero := [.int .i64 0, .int .i64 0, .int .i64 0], eq := [3, 3, 3], ft := [56, 3] }
def T69 : TI := { kd := .slice 56, sz := 1, by' := 24, zero := [.nil], eq := [], ft := [] }
def T70 : TI := { kd := .struct [0, 1, 3], sz := 4, by' := 48, zero := [.int .i64 0, .int .i64 0, .int .i64 0, .nil], eq := [], ft := [3, 56, 69] }
def T71 : TI := { kd := .struct [0, 1, 3], sz := 4, by' := 48, zero := [.int .i64 0, .int .i64 0, .int .i64 0, .nil], eq := [], ft := [3, 56, 69] }
def T75 : TI := { kd := .struct [0, 1, 2, 3, 4, 5], sz := 6, by' := 48, zero := [.int .i64 0, .int .i64 0, .int .i64 0, .int .i64 0, .int .i64 0, .int .i64 0], eq := [3, 3, 3, 3, 3, 3], ft := [3, 3, 3, 3, 3, 3] }
def T76 : TI := { kd := .struct [0, 1, 2, 3, 4, 5], sz := 6, by' := 48, zero := [.int .i64 0, .int .i64 0, .int .i64 0, .int .i64 0, .int .i64 0, .int .i64 0], eq := [3, 3, 3, 3, 3, 3], ft := [3, 3, 3, 3, 3, 3] }
def T81 : TI := { kd := .slice 76, sz := 1, by' := 24, zero := [.nil], eq := [], ft := [] }
def T83 : TI := { kd := .slice 88, sz := 1, by' := 24, zero := [.nil], eq := [], ft := [] }
def T84 : TI := { kd := .struct [0, 2, 3, 4, 5], sz := 6, by' := 96, zero := [.int .i64 0, .int .i64 0, .nil, .nil, .nil, .int .i64 0], eq := [], ft := [56, 83, 81, 37, 3] }
def T85 : TI := { kd := .struct [0, 2, 3, 4, 5], sz := 6, by' := 96, zero := [.int .i64 0, .int .i64 0, .nil, .nil, .nil, .int .i64 0], eq := [], ft := [56, 83, 81, 37, 3] }
def T87 : TI := { kd := .struct [0, 1, 2, 3, 4], sz := 5, by' := 40, zero := [.int .i64 0, .int .i64 0, .int .i64 0, .int .i64 0, .int .i64 0], eq := [3, 3, 3, 3, 3], ft := [3, 3, 3, 3, 3] }
def T88 : TI := { kd := .struct [0, 1, 2, 3, 4], sz := 5, by' := 40, zero := [.int .i64 0, .int .i64 0, .int .i64 0, .int .i64 0, .int .i64 0], eq := [3, 3, 3, 3, 3], ft := [3, 3, 3, 3, 3] }
def T123 : TI := { kd := .struct [0, 1], sz := 2, by' := 16, zero := [.int .i64 0, .int .i64 0], eq := [3, 3], ft := [3, 3] }
def T124 : TI := { kd := .struct [0, 1, 3], sz := 4, by' := 32, zero := [.int .i64 0, .int .i64 0, .int .i64 0, .int .i64 0], eq := [3, 3, 3, 3], ft := [3, 123, 3] }
def T125 : TI := { kd := .struct [0, 1, 3], sz := 4, by' := 32, zero := [.int .i64 0, .int .i64 0, .int .i64 0, .int .i64 0], eq := [3, 3, 3, 3], ft := [3, 123, 3] }
def T133 : TI := { kd := .slice 141, sz := 1, by' := 24, zero := [.nil], eq := [], ft := [] }
def T140 : TI := { kd := .struct [0, 1, 2, 3, 4, 5, 6, 8, 12, 18], sz := 26, by' := 272, zero := [.int .i64 0, .int .i64 0, .int .i64 0, .int .i64 0, .int .i64 0, .bool false, .int .i64 0, .int .i64 0, .int .i64 0, .int .i64 0, .int .i64 0, .int .i64 0, .int .i64 0, .int .i64 0, .int .i64 0, .int .i64 0, .int .i64 0, .int .i64 0, .int .i64 0, .int .i64 0, .int .i64 0, .nil, .nil, .nil, .nil, .int .i64 0], eq := [], ft := [3, 3, 3, 3, 3, 4, 56, 125, 76, 46] }
def T141 : TI := { kd := .struct [0, 1, 2, 3, 4, 5, 6, 8, 12, 18], sz := 26, by' := 272, zero := [.int .i64 0, .int .i64 0, .int .i64 0, .int .i64 0, .int .i64 0, .bool false, .int .i64 0, .int .i64 0, .int .i64 0, .int .i64 0, .int .i64 0, .int .i64 0, .int .i64 0, .int .i64 0, .int .i64 0, .int .i64 0, .int .i64 0, .int .i64 0, .int .i64 0, .int .i64 0, .int .i64 0, .nil, .nil, .nil, .nil, .int .i64 0], eq := [], ft := [3, 3, 3, 3, 3, 4, 56, 125, 76, 46] }
def T146 : TI := { kd := .slice 30, sz := 1, by' := 24, zero := [.nil], eq := [], ft := [] }
def T147 : TI := { kd := .struct [0, 1], sz := 2, by' := 48, zero := [.nil, .nil], eq := [], ft := [30, 146] }
def T148 : TI := { kd := .struct [0, 1], sz := 2, by' := 48, zero := [.nil, .nil], eq := [], ft := [30, 146] }
def T150 : TI := { kd := .struct [0, 1, 2, 4, 5, 6], sz := 8, by' := 64, zero := [.int .i64 0, .int .i64 0, .int .i64 0, .int .i64 0, .int .i64 0, .int .i64 0, .int .i64 0, .int .i64 0], eq := [3, 3, 3, 3, 3, 3, 3, 3], ft := [3, 3, 123, 3, 3, 56] }
def T151 : TI := { kd := .struct [0, 1, 2, 4, 5, 6], sz := 8, by' := 64, zero := [.int .i64 0, .int .i64 0, .int .i64 0, .int .i64 0, .int .i64 0, .int .i64 0, .int .i64 0, .int .i64 0], eq := [3, 3, 3, 3, 3, 3, 3, 3], ft := [3, 3, 123, 3, 3, 56] }
def T169 : TI := { kd := .struct [0, 1, 3, 4, 5, 6], sz := 7, by' := 56, zero := [.int .i64 0, .int .i64 0, .int .i64 0, .int .i64 0, .int .i64 0, .int .i64 0, .bool false], eq := [3, 3, 3, 3, 3, 3, 10], ft := [3, 123, 3, 3, 3, 4] }
def T170 : TI := { kd := .struct [0, 1, 3, 4, 5, 6], sz := 7, by' := 56, zero := [.int .i64 0, .int .i64 0, .int .i64 0, .int .i64 0, .int .i64 0, .int .i64 0, .bool false], eq := [3, 3, 3, 3, 3, 3, 10], ft := [3, 123, 3, 3, 3, 4] }
def T173 : TI := { kd := .struct [0, 1, 2, 3], sz := 4, by' := 32, zero := [.int .i64 0, .int .i64 0, .int .i64 0, .int .i64 0], eq := [3, 3, 3, 3], ft := [3, 3, 3, 3] }
def T174 : TI := { kd := .struct [0, 1, 2, 3], sz := 4, by' := 32, zero := [.int .i64 0, .int .i64 0, .int .i64 0, .int .i64 0], eq := [3, 3, 3, 3], ft := [3, 3, 3, 3] }
def T187 : TI := { kd := .struct [0, 1, 2], sz := 3, by' := 24, zero := [.int .i64 0, .int .i64 0, .int .i64 0], eq := [3, 3, 3], ft := [3, 3, 3] }
def T188 : TI := { kd := .struct [0, 1, 2], sz := 3, by' := 24, zero := [.int .i64 0, .int .i64 0, .int .i64 0], eq := [3, 3, 3], ft := [3, 3, 3] }
def T228 : TI := { kd := .array 10 9, sz := 10, by' := 160, zero := [.str ⟨#[]⟩, .str ⟨#[]⟩, .str ⟨#[]⟩, .str ⟨#[]⟩, .str ⟨#[]⟩, .str ⟨#[]⟩, .str ⟨#[]⟩, .str ⟨#[]⟩, .str ⟨#[]⟩, .str ⟨#[]⟩], eq := [], ft := [] }
def T231 : TI := { kd := .struct [0, 1, 2], sz := 3, by' := 40, zero := [.nil, .int .i64 0, .int .i64 0], eq := [], ft := [22, 3, 3] }
def T232 : TI := { kd := .struct [0, 1, 2], sz := 3, by' := 40, zero := [.nil, .int .i64 0, .int .i64 0], eq := [], ft := [22, 3, 3] }
def T252 : TI := { kd := .struct [0, 1, 2, 3], sz := 4, by' := 32, zero := [.int .i64 0, .int .i64 0, .int .i64 0, .int .i64 0], eq := [3, 3, 3, 3], ft := [3, 3, 3, 3] }
def T253 : TI := { kd := .struct [0, 1, 2, 3], sz := 4, by' := 32, zero := [.int .i64 0, .int .i64 0, .int .i64 0, .int .i64 0], eq := [3, 3, 3, 3], ft := [3, 3, 3, 3] }
def T269 : TI := { kd := .slice 4, sz := 1, by' := 24, zero := [.nil], eq := [], ft := [] }
def T293 : TI := { kd := .scalar 7, sz := 1, by' := 8, zero := [.int .u64 0], eq := [], ft := [] }
def T318 : TI := { kd := .scalar 3, sz := 1, by' := 8, zero := [.int .i64 0], eq := [], ft := [] }
def T326 : TI := { kd := .scalar 6, sz := 1, by' := 4, zero := [.int .u32 0], eq := [], ft := [] }
def T328 : TI := { kd := .scalar 7, sz := 1, by' := 8, zero := [.int .u64 0], eq := [], ft := [] }
def T337 : TI := { kd := .scalar 7, sz := 1, by' := 8, zero := [.int .u64 0], eq := [], ft := [] }
def T354 : TI := { kd := .scalar 4, sz := 1, by' := 1, zero := [.int .u8 0], eq := [], ft := [] }
def T355 : TI := { kd := .scalar 4, sz := 1, by' := 1, zero := [.int .u8 0], eq := [], ft := [] }
def T358 : TI := { kd := .scalar 2, sz := 1, by' := 4, zero := [.int .i32 0], eq := [], ft := [] }
def T359 : TI := { kd := .scalar 2, sz := 1, by' := 4, zero := [.int .i32 0], eq := [], ft := [] }
def T (t : Nat) : Option TI := bif Nat.blt t 363 then (bif Nat.blt t 181 then (bif Nat.blt t 90 then (bif Nat.blt t 45 then (bif Nat.blt t 22 then (bif Nat.blt t 11 then (bif Nat.blt t 5 then (bif Nat.blt t 2 then none else (bif Nat.blt t 3 then (some T2) else (bif Nat.blt t 4 then (some T3) else (some T4)))) else (bif Nat.blt t 8 then (bif Nat.blt t 6 then (some T5) else (bif Nat.blt t 7 then (some T6) else (some T7))) else (bif Nat.blt t 9 then (some T8) else (bif Nat.blt t 10 then (some T9) else (some T10))))) else (bif Nat.blt t 16 then (bif Nat.blt t 13 then (bif Nat.blt t 12 then (some T11) else (some T12)) else (bif Nat.blt t 14 then (some T13) else (bif Nat.blt t 15 then (some T14) else none))) else (bif Nat.blt t 19 then none else (bif Nat.blt t 20 then none else (bif Nat.blt t 21 then none else (some T21)))))) else (bif Nat.blt t 33 then (bif Nat.blt t 27 then (bif Nat.blt t 24 then (bif Nat.blt t 23 then (some T22) else none) else (bif Nat.blt t 25 then (some T24) else none)) else (bif Nat.blt t 30 then (bif Nat.blt t 28 then (some T27) else (bif Nat.blt t 29 then (some T28) else (some T29))) else (bif Nat.blt t 31 then (some T30) else (bif Nat.blt t 32 then (some T31) else (some T32))))) else (bif Nat.blt t 39 then (bif Nat.blt t 36 then (bif Nat.blt t 34 then (some T33) else none) else (bif Nat.blt t 37 then none else (bif Nat.blt t 38 then (some T37) else none))) else (bif Nat.blt t 42 then none else (bif Nat.blt t 43 then none else (bif Nat.blt t 44 then (some T43) else (some T44))))))) else (bif Nat.blt t 67 then (bif Nat.blt t 56 then (bif Nat.blt t 50 then (bif Nat.blt t 47 then (bif Nat.blt t 46 then (some T45) else (some T46)) else none) else (bif Nat.blt t 53 then (bif Nat.blt t 51 then none else (bif Nat.blt t 52 then none else (some T52))) else (bif Nat.blt t 54 then none else (bif Nat.blt t 55 then none else (some T55))))) else (bif Nat.blt t 61 then (bif Nat.blt t 58 then (bif Nat.blt t 57 then (some T56) else none) else none) else (bif Nat.blt t 64 then (bif Nat.blt t 62 then (some T61) else (bif Nat.blt t 63 then (some T62) else (some T63))) else (bif Nat.blt t 65 then (some T64) else none)))) else (bif Nat.blt t 78 then (bif Nat.blt t 72 then (bif Nat.blt t 69 then none else (bif Nat.blt t 70 then (some T69) else (bif Nat.blt t 71 then (some T70) else (some T71)))) else (bif Nat.blt t 75 then none else (bif Nat.blt t 76 then (some T75) else (bif Nat.blt t 77 then (some T76) else none)))) else (bif Nat.blt t 84 then (bif Nat.blt t 81 then none else (bif Nat.blt t 82 then (some T81) else (bif Nat.blt t 83 then none else (some T83)))) else (bif Nat.blt t 87 then (bif Nat.blt t 85 then (some T84) else (bif Nat.blt t 86 then (some T85) else none)) else (bif Nat.blt t 88 then (some T87) else (bif Nat.blt t 89 then (some T88) else none))))))) else (bif Nat.blt t 135 then (bif Nat.blt t 112 then none else (bif Nat.blt t 123 then none else (bif Nat.blt t 129 then (bif Nat.blt t 126 then (bif Nat.blt t 124 then (some T123) else (bif Nat.blt t 125 then (some T124) else (some T125))) else none) else (bif Nat.blt t 132 then none else (bif Nat.blt t 133 then none else (bif Nat.blt t 134 then (some T133) else none)))))) else (bif Nat.blt t 158 then (bif Nat.blt t 146 then (bif Nat.blt t 140 then none else (bif Nat.blt t 143 then (bif Nat.blt t 141 then (some T140) else (bif Nat.blt t 142 then (some T141) else none)) else none)) else (bif Nat.blt t 152 then (bif Nat.blt t 149 then (bif Nat.blt t 147 then (some T146) else (bif Nat.blt t 148 then (some T147) else (some T148))) else (bif Nat.blt t 150 then none else (bif Nat.blt t 151 then (some T150) else (some T151)))) else none)) else (bif Nat.blt t 169 then none else (bif Nat.blt t 175 then (bif Nat.blt t 172 then (bif Nat.blt t 170 then (some T169) else (bif Nat.blt t 171 then (some T170) else none)) else (bif Nat.blt t 173 then none else (bif Nat.blt t 174 then (some T173) else (some T174)))) else none))))) else (bif Nat.blt t 272 then (bif Nat.blt t 226 then (bif Nat.blt t 203 then (bif Nat.blt t 192 then (bif Nat.blt t 186 then none else (bif Nat.blt t 189 then (bif Nat.blt t 187 then none else (bif Nat.blt t 188 then (some T187) else (some T188))) else none)) else none) else none) else (bif Nat.blt t 249 then (bif Nat.blt t 237 then (bif Nat.blt t 231 then (bif Nat.blt t 228 then none else (bif Nat.blt t 229 then (some T228) else none)) else (bif Nat.blt t 234 then (bif Nat.blt t 232 then (some T231) else (bif Nat.blt t 233 then (some T232) else none)) else none)) else none) else (bif Nat.blt t 260 then (bif Nat.blt t 254 then (bif Nat.blt t 251 then none else (bif Nat.blt t 252 then none else (bif Nat.blt t 253 then (some T252) else (some T253)))) else none) else (bif Nat.blt t 266 then none else (bif Nat.blt t 269 then none else (bif Nat.blt t 270 then (some T269) else none)))))) else (bif Nat.blt t 317 then (bif Nat.blt t 294 then (bif Nat.blt t 283 then none else (bif Nat.blt t 288 then none else (bif Nat.blt t 291 then none else (bif Nat.blt t 292 then none else (bif Nat.blt t 293 then none else (some T293)))))) else none) else (bif Nat.blt t 340 then (bif Nat.blt t 328 then (bif Nat.blt t 322 then (bif Nat.blt t 319 then (bif Nat.blt t 318 then none else (some T318)) else none) else (bif Nat.blt t 325 then none else (bif Nat.blt t 326 then none else (bif Nat.blt t 327 then (some T326) else none)))) else (bif Nat.blt t 334 then (bif Nat.blt t 331 then (bif Nat.blt t 329 then (some T328) else none) else none) else (bif Nat.blt t 337 then none else (bif Nat.blt t 338 then (some T337) else none)))) else (bif Nat.blt t 351 then none else (bif Nat.blt t 357 then (bif Nat.blt t 354 then none else (bif Nat.blt t 355 then (some T354) else (bif Nat.blt t 356 then (some T355) else none))) else (bif Nat.blt t 360 then (bif Nat.blt t 358 then none else (bif Nat.blt t 359 then (some T358) else (some T359))) else none))))))) else none
theorem tok : Tryz.prog.follows .mixedOrders = true ∧ TOK Tryz.prog T := ⟨by kernel_rfl, tok_of (n := 363) (by kernel_rfl) (fun t ht => by
  have h : Nat.blt t 363 = false := by rw [← Bool.not_eq_true, Nat.blt_eq]; omega
  unfold T; rw [h]; rfl)⟩
end Go.Proofs.YtockphlpokoohaaGreat
