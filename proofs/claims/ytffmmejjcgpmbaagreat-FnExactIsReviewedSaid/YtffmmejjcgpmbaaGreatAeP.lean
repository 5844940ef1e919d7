/- The call's own data with a say on where its rows lie; append and stores with what they leave alone. -/
import Derived.Test.YtffmmejjcgpmbaaGreatAeO
namespace Go.Proofs.YtffmmejjcgpmbaaGreat
open Go
set_option linter.unusedVariables false

section
variable {S S' S1 S2 : Store}

theorem app_ids {k by' : Nat} {c : C} {xs yd : List (List D)} {ys : List (List C)} {ids js : List Nat} {K : C → Store → Prop}
    (h : Rep true S (.sl k xs) c ids) (hn : ids.Nodup) (hy : Rep2 true S yd ys js) (hyn : js.Nodup) (hd : ∀ i ∈ ids, ∀ j ∈ js, i ≠ j)
    (hk : ∀ y ∈ yd, y.length = k) (hb : (xs.length + yd.length) * by' ≤ 140737488355328) (hm : xs.length + yd.length ≤ maxLen)
    (hK : ∀ c' S' ids', Rep true S' (.sl k (xs ++ yd)) c' ids' → ids'.Nodup → (∀ id ∈ ids', id ∈ ids ∨ id ∈ js ∨ S.length ≤ id) → S.length ≤ S'.length → (∀ id, id < S.length → id ∉ ids → S'[id]? = S[id]?) → K c' S') : AppP k by' S c ys K := by
  have hyk : ∀ y ∈ ys, y.length = k := fun y hy' => by
    obtain ⟨i, hi, rfl⟩ := List.mem_iff_getElem.1 hy'
    have hl := hy.len
    obtain ⟨cs, j, k1, k2, _⟩ := hy.at i _ (List.getElem?_eq_getElem (by omega))
    rw [List.getElem?_eq_getElem hi] at k1; cases k1
    rw [k2.len]; exact hk _ (List.getElem_mem _)
  have hyl' : ys.length = yd.length := hy.len
  have hjl : ∀ j ∈ js, j < S.length := hy.lt
  unfold Rep at h
  obtain ⟨hl, h⟩ := h
  unfold AppP
  refine ⟨hyk, ?_⟩
  have new : xs = [] → ids = [] → ys.length * by' ≤ 140737488355328 ∧ (ys = [] → ∀ c0, (c0 = .nil ∨ c0 = .zc) → K c0 S) ∧ (ys ≠ [] → K (.sl S.length 0 ys.length ys.length) (S ++ [⟨true, k, ys⟩])) := by
    intro hx hi0
    subst hx; subst hi0
    refine ⟨by rw [hyl']; simpa using hb, fun hy0 c0 hc0 => ?_, fun hy0 => ?_⟩
    · have : yd = [] := List.eq_nil_of_length_eq_zero (by rw [← hyl', hy0]; rfl)
      subst this
      refine hK _ _ [] ?_ List.nodup_nil (fun _ h => by cases h) (Nat.le_refl _) (fun _ _ _ => rfl)
      unfold Rep
      exact ⟨Nat.zero_le _, .inl ⟨rfl, hc0, rfl⟩⟩
    · refine hK _ _ (S.length :: js) ?_ (List.nodup_cons.2 ⟨fun h => by have := hjl _ h; omega, hyn⟩) (fun id hi => ?_) (by simp) (fun id hi _ => List.getElem?_append_left hi)
      · unfold Rep
        refine ⟨by simpa using hm, .inr ⟨S.length, 0, ys.length, ⟨true, k, ys⟩, js, by rw [hyl']; simp, rfl, by simp, rfl, rfl, by simp [hyl'], fun _ => ⟨rfl, by simp [hyl'], rfl⟩, ?_⟩⟩
        simp only
        rw [List.nil_append, List.drop_zero, List.take_of_length_le (by omega)]
        exact hy.frame fun i hi => List.getElem?_append_left (hjl i hi)
      · rcases List.mem_cons.1 hi with rfl | hi
        · exact .inr (.inr (Nat.le_refl _))
        · exact .inr (.inl hi)
  rcases h with ⟨h1, h2, h3⟩ | ⟨id, o, t, row, js0, h1, h2, h3, h4, h5, h6, h7, h8⟩
  · obtain ⟨n1, n2, n3⟩ := new h1 h3
    rcases h2 with rfl | rfl
    · exact .inl ⟨rfl, n1, fun e => n2 e _ (.inl rfl), n3⟩
    · exact .inr (.inl ⟨rfl, n1, fun e => n2 e _ (.inr rfl), n3⟩)
  · obtain ⟨ho, ht, hown⟩ := h7 rfl
    subst ho; subst h2
    have hrl : row.xs.length = xs.length := by omega
    have hrow : row = ⟨true, k, row.xs⟩ := by cases row; simp at hown h4; simp [hown, h4]
    refine .inr (.inr ⟨id, row.xs, by rw [h1, hrl, ht], by rw [h3, ← hrow], by rw [hrl, hyl']; exact hb, ?_⟩)
    have hidl : id < S.length := (List.getElem?_eq_some_iff.1 h3).1
    rw [List.nodup_cons] at hn
    have hdj : ∀ j ∈ js, id ≠ j := fun j hj => hd id (by simp) j hj
    refine hK _ _ (id :: (js0 ++ js)) ?_ ?_ ?_ (by simp) (fun i hi hni => List.getElem?_set_ne (by rintro rfl; exact hni (by simp)))
    · unfold Rep
      refine ⟨by simpa using hm, .inr ⟨id, 0, xs.length + yd.length, ⟨true, k, row.xs ++ ys⟩, js0 ++ js, by rw [hrl, hyl']; simp, rfl, by rw [List.getElem?_set_self hidl], rfl, by simp [hrl, hyl'], by simp, fun _ => ⟨rfl, by simp, rfl⟩, ?_⟩⟩
      have e : List.take (xs ++ yd).length (List.drop 0 (row.xs ++ ys)) = row.xs ++ ys := by
        rw [List.drop_zero, List.take_of_length_le (by simp [hrl, hyl'])]
      simp only [e]
      rw [List.drop_zero, List.take_of_length_le (by omega)] at h8
      refine (h8.frame fun i hi => ?_).append (hy.frame fun i hi => ?_)
      · exact List.getElem?_set_ne (by rintro rfl; exact hn.1 hi)
      · exact List.getElem?_set_ne (hdj i hi)
    · rw [List.nodup_cons, List.nodup_append]
      refine ⟨fun hi => ?_, hn.2, hyn, fun a ha b hb => hd a (by simp [ha]) b hb⟩
      rcases List.mem_append.1 hi with hi | hi
      · exact hn.1 hi
      · exact hdj id hi rfl
    · intro i hi
      rcases List.mem_cons.1 hi with rfl | hi
      · exact .inl (by simp)
      · rcases List.mem_append.1 hi with hi | hi
        · exact .inl (by simp [hi])
        · exact .inr (.inl hi)

/-- the call's own, its rows where p says -/
def InP (p : Nat → Prop) (S : Store) (ds : List D) (cs : List C) : Prop := ∃ ids, RepL true S ds cs ids ∧ ids.Nodup ∧ ∀ id ∈ ids, p id
/-- what lies outside p is as it was -/
def Frm (p : Nat → Prop) (S S' : Store) : Prop := S.length ≤ S'.length ∧ ∀ id, id < S.length → ¬ p id → S'[id]? = S[id]?

theorem Frm.len {p : Nat → Prop} (h : Frm p S S') : S.length ≤ S'.length := h.1
theorem Frm.of_ext {p : Nat → Prop} (h : Ext S S') : Frm p S S' := ⟨h.len, fun id hi _ => h.at hi⟩
theorem Frm.trans {p : Nat → Prop} (h : Frm p S S1) (g : Frm p S1 S2) : Frm p S S2 := ⟨Nat.le_trans h.1 g.1, fun id hi hp => (g.2 id (Nat.lt_of_lt_of_le hi h.1) hp).trans (h.2 id hi hp)⟩
theorem Frm.mono {p p' : Nat → Prop} (h : Frm p S S') (hp : ∀ id, id < S.length → p id → p' id) : Frm p' S S' := ⟨h.1, fun id hi hn => h.2 id hi fun g => hn (hp id hi g)⟩
theorem Frm.ext {p : Nat → Prop} (h : Frm p S S') (hp : ∀ id, p id → S.length ≤ id) : Ext S S' := ext_of h.1 fun id hi => h.2 id hi fun g => by have := hp id g; omega
theorem Frm.refl (p : Nat → Prop) (S : Store) : Frm p S S := ⟨Nat.le_refl _, fun _ _ _ => rfl⟩

theorem InP.mono {p p' : Nat → Prop} {ds : List D} {cs : List C} (h : InP p S ds cs) (hp : ∀ id, id < S.length → p id → p' id) : InP p' S ds cs := by
  obtain ⟨ids, h, h1, h2⟩ := h
  exact ⟨ids, h, h1, fun id hi => hp id (h.lt id hi) (h2 id hi)⟩
theorem InP.lt {p : Nat → Prop} {ds : List D} {cs : List C} (h : InP p S ds cs) : InP (fun id => p id ∧ id < S.length) S ds cs := h.mono fun id h1 h2 => ⟨h2, h1⟩
theorem InP.frm {p q : Nat → Prop} {ds : List D} {cs : List C} (h : InP p S ds cs) (f : Frm q S S') (hd : ∀ id, id < S.length → p id → q id → False) : InP p S' ds cs := by
  obtain ⟨ids, h, h1, h2⟩ := h
  exact ⟨ids, h.frame fun id hi => f.2 id (h.lt id hi) fun g => hd id (h.lt id hi) (h2 id hi) g, h1, h2⟩
theorem InP.ext {p : Nat → Prop} {ds : List D} {cs : List C} (h : InP p S ds cs) (e : Ext S S') : InP p S' ds cs := h.frm (q := fun _ => False) (.of_ext e) fun _ _ _ h => h
theorem InP.rd {p : Nat → Prop} {ds : List D} {cs : List C} (h : InP p S ds cs) : Rd S ds cs := by obtain ⟨ids, h, _⟩ := h; exact .of h
theorem InP.fr {p : Nat → Prop} {lo : Nat} {ds : List D} {cs : List C} (h : InP p S ds cs) (hp : ∀ id, p id → lo ≤ id) : Fr lo S ds cs := by
  obtain ⟨ids, h, h1, h2⟩ := h
  exact ⟨ids, h, h1, fun id hi => hp id (h2 id hi)⟩
theorem Fr.inp {lo : Nat} {ds : List D} {cs : List C} (h : Fr lo S ds cs) : InP (fun id => lo ≤ id ∧ id < S.length) S ds cs := by
  obtain ⟨ids, h, h1, h2⟩ := h
  exact ⟨ids, h, h1, fun id hi => ⟨h2 id hi, h.lt id hi⟩⟩
theorem inp_nil : InP (fun _ => False) S [] [] := ⟨[], by rw [repL_nil]; exact ⟨rfl, rfl⟩, List.nodup_nil, fun _ h => by cases h⟩
theorem InP.x {p : Nat → Prop} {c : C} {ds : List D} {cs : List C} (h : InP p S ds cs) : InP p S (.x c :: ds) (c :: cs) := by
  obtain ⟨ids, h, h1, h2⟩ := h
  exact ⟨[] ++ ids, by rw [repL_cons]; exact ⟨c, cs, [], ids, rfl, rfl, by rw [rep_x]; exact ⟨rfl, rfl⟩, h⟩, by simpa using h1, by simpa using h2⟩
theorem InP.app {p q : Nat → Prop} {ds ds' : List D} {cs cs' : List C} (h : InP p S ds cs) (g : InP q S ds' cs') (hd : ∀ id, p id → q id → False) : InP (fun id => p id ∨ q id) S (ds ++ ds') (cs ++ cs') := by
  obtain ⟨i, h, h1, h2⟩ := h
  obtain ⟨j, g, g1, g2⟩ := g
  refine ⟨i ++ j, h.append g, ?_, fun id hi => ?_⟩
  · rw [List.nodup_append]
    exact ⟨h1, g1, fun a ha b hb e => hd a (h2 a ha) (e ▸ g2 b hb)⟩
  · rcases List.mem_append.1 hi with hi | hi
    · exact .inl (h2 id hi)
    · exact .inr (g2 id hi)
theorem InP.one {p : Nat → Prop} {d : D} {c : C} (h : InP p S [d] [c]) : ∃ ids, Rep true S d c ids ∧ ids.Nodup ∧ ∀ id ∈ ids, p id := by
  obtain ⟨ids, h, h1, h2⟩ := h
  rw [repL_cons] at h
  obtain ⟨c1, cs', i, j, g1, g2, g3, g4⟩ := h
  rw [repL_nil] at g4
  simp only [List.cons.injEq] at g1
  obtain ⟨g1, _⟩ := g1
  obtain ⟨_, g5⟩ := g4
  subst g1; subst g5
  rw [List.append_nil] at g2
  subst g2
  exact ⟨_, g3, h1, h2⟩
theorem inp_one {p : Nat → Prop} {d : D} {c : C} {ids : List Nat} (h : Rep true S d c ids) (hn : ids.Nodup) (hp : ∀ id ∈ ids, p id) : InP p S [d] [c] :=
  ⟨ids ++ [], by rw [repL_cons]; exact ⟨c, [], ids, [], rfl, rfl, h, by rw [repL_nil]; exact ⟨rfl, rfl⟩⟩, by simpa using hn, by simpa using hp⟩

/-- append one element with rows of its own -/
theorem inp_app {p q : Nat → Prop} {k by' : Nat} {c : C} {xs : List (List D)} {ds : List D} {cs : List C} {K : C → Store → Prop} (h : InP p S [.sl k xs] [c]) (hy : InP q S ds cs) (hd : ∀ id, p id → q id → False)
    (hk : ds.length = k) (hb : (xs.length + 1) * by' ≤ 140737488355328) (hm : xs.length + 1 ≤ 9223372036854775807)
    (hK : ∀ c' S', InP (fun id => p id ∨ q id ∨ S.length ≤ id) S' [.sl k (xs ++ [ds])] [c'] → Frm p S S' → K c' S') : AppP k by' S c [cs] K := by
  obtain ⟨ids, h, hn, hp⟩ := h.one
  obtain ⟨js, g, gn, gq⟩ := hy
  refine app_ids (yd := [ds]) (js := js ++ []) h hn (by rw [rep2_cons]; exact ⟨cs, [], js, [], rfl, rfl, g, by rw [rep2_nil]; exact ⟨rfl, rfl⟩⟩) (by simpa using gn) (fun i hi j hj e => hd i (hp i hi) (e ▸ gq j (by simpa using hj))) (fun y hy => by simp at hy; subst hy; exact hk) (by simpa using hb) (by rw [maxLen_eq]; simpa using hm) fun c' S' ids' r1 r2 r3 r4 r5 => hK c' S' (inp_one r1 r2 fun id hi => ?_) ⟨r4, fun id hi hni => r5 id hi fun hh => hni (hp id hh)⟩
  rcases r3 id hi with h | h | h
  · exact .inl (hp id h)
  · exact .inr (.inl (gq id (by simpa using h)))
  · exact .inr (.inr h)
/-- an own slice of an aggregate may be exchanged -/
theorem InP.set {p q : Nat → Prop} {e : List D} {cs : List C} {off : Nat} {d d' : D} {c' : C} (h : InP p S e cs) (ho : e[off]? = some d) (h2 : InP q S [d'] [c']) (hd : ∀ id, p id → q id → False) : InP (fun id => p id ∨ q id) S (e.set off d') (cs.set off c') := by
  obtain ⟨ids, h, hn, hl⟩ := h
  obtain ⟨j, g, gn, gl⟩ := h2.one
  obtain ⟨c0, x, m, y, k1, k2, k3, k4⟩ := h.setAt off _ ho
  subst k2
  have far : ∀ i, (i ∈ x ∨ i ∈ y) → ∀ i', i' ∈ j → i ≠ i' := fun i hi i' hj e => hd i (hl i (by rcases hi with hi | hi <;> simp [hi])) (e ▸ gl i' hj)
  refine ⟨x ++ j ++ y, k4 (fun _ _ => rfl) g, ?_, fun id hi' => ?_⟩
  · simp only [List.nodup_append, List.mem_append] at hn ⊢
    obtain ⟨⟨b1, b2, b3⟩, b4, b5⟩ := hn
    refine ⟨⟨b1, gn, fun i hi i' hj => far i (.inl hi) i' hj⟩, b4, fun i hi i' hj => ?_⟩
    rcases hi with hi | hi
    · exact b5 i (.inl hi) i' hj
    · exact fun e => far i' (.inr hj) i hi e.symm
  · rcases List.mem_append.1 hi' with hi' | hi'
    · rcases List.mem_append.1 hi' with hi' | hi'
      · exact .inl (hl id (by simp [hi']))
      · exact .inr (gl id hi')
    · exact .inl (hl id (by simp [hi']))
end
end Go.Proofs.YtffmmejjcgpmbaaGreat
