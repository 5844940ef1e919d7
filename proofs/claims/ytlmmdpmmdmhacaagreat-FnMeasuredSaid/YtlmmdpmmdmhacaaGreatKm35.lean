/- slices.Delete of one element at one of several own data; an own row that takes over another's elements. Draws: a cursor's row, what a draw leaves alone, own data beside it. A text of the proof. -/
import Derived.Test.YtlmmdpmmdmhacaaGreatKm31
import Derived.Test.YtlmmdpmmdmhacaaGreatKm34
import Derived.Lib.SlicesDelete
import Derived.Test.YtlmmdpmmdmhacaaGreatKm19
import Derived.Test.YtlmmdpmmdmhacaaGreatKm20
namespace Go.Proofs.YtlmmdpmmdmhacaaGreat
set_option linter.unusedVariables false
set_option linter.unusedSimpArgs false
set_option maxRecDepth 100000
open Go Go.RowKit
structure DelRaw (P : Program) (F k : Nat) : Prop where
  del : ∀ (b n c i : Nat) (cur : Array Value) (e : Nat) (w : World), i < n → n ≤ c → c ≤ 9223372036854775807 →
    w.heap[b]? = some (.cells cur e (0, 0)) → cur.size = c * k →
    (∀ v ∈ (cur.toList.drop ((i + 1) * k)).take ((n - (i + 1)) * k), v.oneCell' = true) →
    Calls P F #[.slice (some ⟨b, 0, none⟩) n c, .int .i64 i, .int .i64 ((i : Int) + 1)] w fun r w' =>
      r = .returned (.slice (some ⟨b, 0, none⟩) (n - 1) c) ∧ ∃ Z : List Value, Z.length = k ∧ w' = w.drew.setRow b (cur.toList.take (i * k) ++ (cur.toList.drop ((i + 1) * k)).take ((n - (i + 1)) * k) ++ Z ++ cur.toList.drop (n * k)).toArray
theorem DelRaw.ev {P : Program} {F k : Nat} (hR : DelRaw P F k) (hk : 0 < k) (fok : FOK P F) {S : Store} {rows : List (List C)} {id i : Nat} (hrow : S[id]? = some ⟨true, k, rows⟩) (hi : i < rows.length) :
    EvA P F [.s (.sl id 0 rows.length rows.length), .s (.int .i64 i), .s (.int .i64 ((i : Int) + 1))] S (fun r S' => r = .v (.s (.sl S.length 0 (rows.length - 1) (rows.length - 1))) ∧ S' = cutS0 S id ⟨true, k, rows⟩ (rows.take i ++ rows.drop (i + 1))) := by
  refine ⟨fok, fun μ w us rs hA hvs => ?_⟩
  obtain ⟨u, x, rfl, hu, hx⟩ := three_args hvs
  have hx : x = .int .i64 ((i : Int) + 1) := hx
  subst hx
  obtain ⟨m, cur, e, m1, rfl, hnc, hcm, hb0, hh, hsz, hf⟩ := whole_at rs hrow rfl rfl hu
  simp only at hsz hf
  have hnc : rows.length ≤ m.cap := hnc
  have hmulc : rows.length * k ≤ m.cap * k := Nat.mul_le_mul_right _ hnc
  have hik : (i + 1) * k ≤ rows.length * k := Nat.mul_le_mul_right _ hi
  have hik0 : i * k ≤ rows.length * k := Nat.mul_le_mul_right _ (Nat.le_of_lt hi)
  have ht : cur.toList.take (i * k) = (cur.toList.take (rows.length * k)).take (i * k) := by rw [List.take_take]; congr 1; omega
  have hd : (cur.toList.drop ((i + 1) * k)).take ((rows.length - (i + 1)) * k) = (cur.toList.take (rows.length * k)).drop ((i + 1) * k) := by
    rw [List.drop_take, Nat.sub_mul]
  have flat : FlatR μ S k (rows.take i ++ rows.drop (i + 1)) (cur.toList.take (i * k) ++ (cur.toList.drop ((i + 1) * k)).take ((rows.length - (i + 1)) * k)) := by
    rw [ht, hd]
    exact (hf.take i).append (hf.drop (i + 1))
  have hlen : (rows.take i ++ rows.drop (i + 1)).length = rows.length - 1 := by simp; omega
  have h1 : ∀ v ∈ (cur.toList.drop ((i + 1) * k)).take ((rows.length - (i + 1)) * k), v.oneCell' = true := by rw [hd]; exact (hf.drop (i + 1)).ones
  refine (hR.del m.blk rows.length m.cap i cur e w hi hnc (by simp only [maxLen] at hcm; omega) hh hsz h1).mono ?_
  rintro r w' ⟨rfl, Z, hZ, rfl⟩
  have hheap := setRow_heap w.drew m.blk cur (cur.toList.take (i * k) ++ (cur.toList.drop ((i + 1) * k)).take ((rows.length - (i + 1)) * k) ++ Z ++ cur.toList.drop (rows.length * k)).toArray e (0, 0) hh
  have e1 : (i + 1) * k = i * k + k := by rw [Nat.add_mul, Nat.one_mul]
  have e2 : (rows.length - (i + 1)) * k = rows.length * k - (i + 1) * k := Nat.sub_mul ..
  obtain ⟨rs', ev, cr⟩ := rs.shrink (xs := rows.take i ++ rows.drop (i + 1)) (us := cur.toList.take (i * k) ++ (cur.toList.drop ((i + 1) * k)).take ((rows.length - (i + 1)) * k))
    (w' := w.drew.setRow m.blk (cur.toList.take (i * k) ++ (cur.toList.drop ((i + 1) * k)).take ((rows.length - (i + 1)) * k) ++ Z ++ cur.toList.drop (rows.length * k)).toArray)
    hrow m1 rfl ⟨rfl, rfl, rfl, by simp [World.setRow], fun b hb hne => setRow_other w.drew _ _ _ (fun e => hne (by rw [e]))⟩ hheap
    (by simp only [List.size_toArray, List.length_append, List.length_take, List.length_drop, Array.length_toList, hZ]; omega) (by rw [hlen]; omega) hcm hb0 flat
    (fun j u hj => by rw [List.getElem?_toArray, List.append_assoc, List.getElem?_append_left (List.getElem?_eq_some_iff.1 hj).1]; exact hj)
  rw [hlen] at cr
  exact ⟨_, _, _, _, ⟨rfl, rfl⟩, rfl, rs', cr, ev⟩
theorem DelRaw.ids {P : Program} {F k : Nat} (hR : DelRaw P F k) (hk : 0 < k) (fok : FOK P F) {S2 : Store} {xs : List (List D)} {c : C} {i : Nat} {ids : List Nat}
    (h : Rep true S2 (.sl k xs) c ids) (hn : ids.Nodup) (hi : i < xs.length) :
    EvA P F [.s c, .s (.int .i64 i), .s (.int .i64 ((i : Int) + 1))] S2 (fun r S' => ∃ c' ids', r = .v (.s c') ∧ Rep true S' (.sl k (xs.take i ++ xs.drop (i + 1))) c' ids' ∧ ids'.Nodup ∧ (∀ x ∈ ids', x ∈ ids ∨ S2.length ≤ x) ∧ S2.length ≤ S'.length ∧ ∀ x, x < S2.length → x ∉ ids → S'[x]? = S2[x]?) := by
  have hid1 : ∀ id ∈ ids, id < S2.length := h.lt
  unfold Rep at h
  obtain ⟨hl, h⟩ := h
  rcases h with ⟨h1, _, _⟩ | ⟨id, o, t, row, js0, h1, h2, h3, h4, h5, h6, h7, h8⟩
  · subst h1; cases hi
  obtain ⟨ho, ht, hown⟩ := h7 rfl
  subst ho
  have hrl : row.xs.length = xs.length := by omega
  have hrow : row = ⟨true, k, row.xs⟩ := by cases row; simp at hown h4; simp [hown, h4]
  rw [h2, List.nodup_cons] at hn
  have hrow2 : S2[id]? = some ⟨true, k, row.xs⟩ := by rw [h3, ← hrow]
  refine EvA.mono (R := fun r S' => r = .v (.s (.sl S2.length 0 (row.xs.length - 1) (row.xs.length - 1))) ∧ S' = cutS0 S2 id ⟨true, k, row.xs⟩ (row.xs.take i ++ row.xs.drop (i + 1))) ?_ ?_
  · rw [h1, ← ht, ← hrl]
    exact hR.ev hk fok hrow2 (by omega)
  · rintro r S' ⟨rfl, rfl⟩
    rw [List.drop_zero, List.take_of_length_le (by omega)] at h8
    have hxl : (xs.take i ++ xs.drop (i + 1)).length = xs.length - 1 := by simp; omega
    have e8 : Rep2 true S2 (xs.take i ++ ((xs.drop i).take 1 ++ xs.drop (i + 1))) row.xs js0 := by
      have : (xs.drop i).take 1 ++ xs.drop (i + 1) = xs.drop i := by
        rw [← List.drop_drop]; exact List.take_append_drop 1 (xs.drop i)
      rw [this, List.take_append_drop]; exact h8
    obtain ⟨r1, r2, j1, j2, g1, g2, g3, g4⟩ := e8.split
    obtain ⟨r3, r4, j3, j4, k1, k2, k3, k4⟩ := g4.split
    subst k1; subst k2
    have hr1 : r1.length = i := by rw [g3.len, List.length_take]; omega
    have hr3 : r3.length = 1 := by rw [k3.len, List.length_take, List.length_drop]; omega
    have t1 : row.xs.take i = r1 := by rw [g1]; exact List.take_left' hr1
    have t2 : row.xs.drop (i + 1) = r4 := by rw [g1, ← List.append_assoc]; exact List.drop_left' (by rw [List.length_append]; omega)
    rw [t1, t2]
    have hkeep : ∀ x, x ≠ id → x < S2.length → (cutS0 S2 id ⟨true, k, row.xs⟩ (r1 ++ r4))[x]? = S2[x]? := fun x hx hl2 => by
      unfold cutS0
      rw [List.getElem?_append_left (by rw [List.length_set]; exact hl2), List.getElem?_set_ne (Ne.symm hx)]
    have far : ∀ x ∈ js0, x ≠ id := fun x hx e => hn.1 (e ▸ hx)
    have farl : ∀ x ∈ js0, x < S2.length := fun x hx => hid1 x (by rw [h2]; simp [hx])
    have hlast : (cutS0 S2 id ⟨true, k, row.xs⟩ (r1 ++ r4))[S2.length]? = some ⟨true, k, r1 ++ r4⟩ := by
      unfold cutS0
      have : (S2.set id ⟨true, k, row.xs ++ [[]]⟩).length = S2.length := List.length_set
      rw [← this]; simp
    have h14 : (r1 ++ r4).length = xs.length - 1 := by
      rw [List.length_append, hr1, k4.len, List.length_drop]; omega
    have hn2 := hn.2
    rw [g2, List.nodup_append] at hn2
    obtain ⟨n1, n2, n3⟩ := hn2
    rw [List.nodup_append] at n2
    obtain ⟨n4, n5, n6⟩ := n2
    refine ⟨_, S2.length :: (j1 ++ j4), rfl, ?_, ?_, fun x hx => ?_, by unfold cutS0; simp, fun x hx hxi => hkeep x (fun e => hxi (by rw [h2, e]; simp)) hx⟩
    · unfold Rep
      refine ⟨by rw [hxl]; omega, .inr ⟨S2.length, 0, xs.length - 1, ⟨true, k, r1 ++ r4⟩, j1 ++ j4, by rw [hxl, hrl], rfl, hlast, rfl, h14, by omega, fun _ => ⟨rfl, hxl, rfl⟩, ?_⟩⟩
      have e : List.take (xs.take i ++ xs.drop (i + 1)).length (List.drop 0 (r1 ++ r4)) = r1 ++ r4 := by
        rw [List.drop_zero, List.take_of_length_le (by rw [hxl, h14]; exact Nat.le_refl _)]
      rw [e]
      refine (g3.frame fun x hx => ?_).append (k4.frame fun x hx => ?_)
      · exact hkeep x (far x (by rw [g2]; simp [hx])) (farl x (by rw [g2]; simp [hx]))
      · exact hkeep x (far x (by rw [g2]; simp [hx])) (farl x (by rw [g2]; simp [hx]))
    · rw [List.nodup_cons, List.nodup_append]
      refine ⟨fun hx => ?_, n1, n5, fun a ha b hb => n3 a ha b (by simp [hb])⟩
      have := farl S2.length (by rw [g2]; rcases List.mem_append.1 hx with hx | hx <;> simp [hx])
      omega
    · simp only [List.mem_cons, List.mem_append] at hx
      rcases hx with rfl | hx | hx
      · exact .inr (Nat.le_refl _)
      · exact .inl (by rw [h2, g2]; simp [hx])
      · exact .inl (by rw [h2, g2]; simp [hx])
section
variable {S0 S S2 : Store}
theorem rep2_plain {S : Store} : ∀ {rs rows : List (List C)} {ids : List Nat}, Rep2 true S (rs.map (List.map D.x)) rows ids → rows = rs ∧ ids = []
  | [], rows, ids, h => by rw [List.map_nil, rep2_nil] at h; exact h
  | r :: rs, rows, ids, h => by
    rw [List.map_cons, rep2_cons] at h
    obtain ⟨c, cs', i, j, h1, h2, h3, h4⟩ := h
    obtain ⟨rfl, rfl⟩ := rep2_plain h4
    have key : ∀ {r cs : List C} {i : List Nat}, RepL true S (r.map D.x) cs i → cs = r ∧ i = [] := by
      intro r
      induction r with
      | nil => intro cs i h; rw [List.map_nil, repL_nil] at h; exact h
      | cons a r ih =>
        intro cs i h
        rw [List.map_cons, repL_cons] at h
        obtain ⟨c, cs', i, j, h1, h2, h3, h4⟩ := h
        rw [rep_x] at h3
        obtain ⟨rfl, rfl⟩ := ih h4
        exact ⟨by rw [h1, h3.1], by rw [h2, h3.2]; rfl⟩
    obtain ⟨rfl, rfl⟩ := key h3
    exact ⟨h1, h2⟩
theorem Fr.refit {lo o k : Nat} {ds dy : List D} {cs cy : List C} {xs xs' : List (List D)} {rs' : List (List C)} {c pc : C}
    (h : Fr lo S (ds ++ (.sl k (rs'.map (List.map D.x)) :: dy)) (cs ++ (pc :: cy))) (hl : cs.length = ds.length) (hd : ds[o]? = some (.sl k xs)) (hc : cs[o]? = some c)
    (hre : ∀ rows js jy, elems S c = some rows → Rep2 true S xs rows js → RepL true S dy cy jy → (js ++ jy).Nodup → ∃ js', Rep2 true S xs' rs' js' ∧ js'.Nodup ∧ ∀ x ∈ js', x ∈ js ∨ x ∈ jy) :
    Fr lo S (ds.set o (.sl k xs')) (cs.set o pc) := by
  obtain ⟨ids, hg, hn, hlo⟩ := h
  obtain ⟨p1, p2, ia, jz, s1, s2, h, hz⟩ := hg.split
  obtain ⟨s3, s4⟩ := List.append_inj s1 (by rw [hl, h.len])
  subst s3; subst s4; subst s2
  rw [repL_cons] at hz
  obtain ⟨pc', cy', jp, jy, q1, q2, hp, hy⟩ := hz
  injection q1 with q3 q4
  subst q3; subst q4; subst q2
  obtain ⟨c0, x, m, y, k1, k2, k3, k4⟩ := h.setAt o _ hd
  rw [hc] at k1; cases k1
  subst k2
  obtain ⟨rows, js, e1, e2, e3, _⟩ : ∃ rows js, elems S c = some rows ∧ Rep2 true S xs rows js ∧ (∀ id ∈ js, id ∈ m) ∧ js.Nodup := by
    have hnm : m.Nodup := by simp only [List.nodup_append] at hn; exact hn.1.1.2.1
    have k3' := k3
    unfold Rep at k3'
    obtain ⟨_, k3'⟩ := k3'
    rcases k3' with ⟨h1, h2, h3⟩ | ⟨id, o, t, row, js, h1, h2, h3, h4, h5, h6, h7, h8⟩
    · subst h1
      exact ⟨[], [], by rcases h2 with rfl | rfl <;> rfl, by rw [rep2_nil]; exact ⟨rfl, rfl⟩, fun _ h => (by cases h), List.nodup_nil⟩
    · refine ⟨_, js, by rw [h1]; simp [Go.Proofs.YtlmmdpmmdmhacaaGreat.elems, h3, h5, h6], h8, fun id hi => by rw [h2]; simp [hi], ?_⟩
      rw [h2, List.nodup_cons] at hnm; exact hnm.2
  simp only [List.nodup_append, List.mem_append] at hn
  obtain ⟨⟨⟨b1, b2, b3⟩, b4, b5⟩, ⟨b6, b7, b8⟩, b9⟩ := hn
  obtain ⟨js', g1, g2, g3⟩ := hre rows js jy e1 e2 hy (by
    rw [List.nodup_append]
    exact ⟨by assumption, b7, fun a ha b hb => b9 a (.inl (.inr (e3 a ha))) b (.inr hb)⟩)
  have hdis : ∀ a ∈ jp, ∀ b ∈ js', a ≠ b := fun a ha b hb => by
    rcases g3 b hb with hb | hb
    · exact fun e => b9 b (.inl (.inr (e3 b hb))) a (.inl ha) e.symm
    · exact b8 a ha b hb
  have hnew : ∃ ids', Rep true S (.sl k xs') pc ids' ∧ ids'.Nodup ∧ ∀ x ∈ ids', x ∈ jp ∨ x ∈ js' := by
    unfold Rep at hp
    obtain ⟨hpl, hp⟩ := hp
    have hlx : rs'.length = xs'.length := g1.len
    rcases hp with ⟨h1, h2, h3⟩ | ⟨id, o, t, row, js2, h1, h2, h3, h4, h5, h6, h7, h8⟩
    · have hr0 : rs' = [] := List.map_eq_nil_iff.1 h1
      have hx0 : xs' = [] := List.eq_nil_of_length_eq_zero (by rw [← hlx, hr0]; rfl)
      refine ⟨[], ?_, List.nodup_nil, fun _ h => (by cases h)⟩
      unfold Rep
      exact ⟨by rw [hx0]; simp, .inl ⟨hx0, h2, rfl⟩⟩
    · obtain ⟨e8, e9⟩ := rep2_plain h8
      subst e9
      rw [List.length_map] at h1 h6 e8 hpl
      refine ⟨id :: js', ?_, ?_, fun x hx => ?_⟩
      · unfold Rep
        refine ⟨by omega, .inr ⟨id, o, t, row, js', by rw [h1, hlx], rfl, h3, h4, h5, by omega, fun hq => ?_, ?_⟩⟩
        · obtain ⟨z1, z2, z3⟩ := h7 hq
          rw [List.length_map] at z2
          exact ⟨z1, by omega, z3⟩
        · rw [← hlx, e8]; exact g1
      · rw [List.nodup_cons]
        exact ⟨fun hx => hdis id (by rw [h2]; simp) id hx rfl, g2⟩
      · rcases List.mem_cons.1 hx with rfl | hx
        · exact .inl (by rw [h2]; simp)
        · exact .inr hx
  obtain ⟨ids', n1, n2, n3⟩ := hnew
  have far : ∀ i, (i ∈ x ∨ i ∈ y) → ∀ i', i' ∈ ids' → i ≠ i' := fun i hi i' hj e => by
    subst e
    rcases n3 i hj with h | h
    · exact b9 i (by rcases hi with hi | hi; exact .inl (.inl hi); exact .inr hi) i (.inl h) rfl
    · rcases g3 i h with h | h
      · rcases hi with hi | hi
        · exact b3 i hi i (e3 i h) rfl
        · exact b5 i (.inr (e3 i h)) i hi rfl
      · exact b9 i (by rcases hi with hi | hi; exact .inl (.inl hi); exact .inr hi) i (.inr h) rfl
  refine ⟨x ++ ids' ++ y, k4 (fun i hi => rfl) n1, ?_, fun i hi => ?_⟩
  · simp only [List.nodup_append, List.mem_append]
    refine ⟨⟨b1, n2, fun i hi i' hj => far i (.inl hi) i' hj⟩, b4, fun i hi i' hj => ?_⟩
    rcases hi with hi | hi
    · exact b5 i (.inl hi) i' hj
    · exact fun e => far i' (.inr hj) i hi e.symm
  · rcases List.mem_append.1 hi with hi | hi
    · rcases List.mem_append.1 hi with hi | hi
      · exact hlo i (by simp [hi])
      · rcases n3 i hi with h | h
        · exact hlo i (by simp [h])
        · rcases g3 i h with h | h
          · exact hlo i (by simp [e3 i h])
          · exact hlo i (by simp [h])
    · exact hlo i (by simp [hi])
end
section
variable {S0 S S' : Store}
theorem elemsE {c : C} {rs : List (List C)} (h : elems S c = some rs) (e : Ext S S') : elems S' c = some rs := by
  cases c with
  | sl id o n t =>
    simp only [elems] at h ⊢
    cases hr : S[id]? with
    | none => rw [hr] at h; cases h
    | some row =>
      rw [hr] at h
      rw [e.at (List.getElem?_eq_some_iff.1 hr).1, hr]; exact h
  | _ => exact h
theorem elems_cut {c : C} {rs : List (List C)} {i : Nat} (h : elems S c = some rs) (hi : i ≤ rs.length) : elems S (cutC c i rs.length) = some (rs.drop i) := by
  cases c with
  | sl id o n t =>
    simp only [elems, cutC, Int.toNat_natCast] at h ⊢
    cases hr : S[id]? with
    | none => rw [hr] at h; cases h
    | some row =>
      rw [hr] at h
      simp only at h ⊢
      split at h
      · rename_i hc
        injection h with h
        have hl : rs.length = n := by rw [← h, List.length_take, List.length_drop]; omega
        rw [if_pos ⟨hc.1, by omega⟩, ← h]
        congr 1
        rw [← h] at hl hi
        rw [List.drop_take, List.drop_drop, hl]
      · cases h
  | nil => simp only [elems] at h; cases h; simp [cutC, elems]
  | zc => simp only [elems] at h; cases h; simp [cutC, elems]
  | _ => cases h
theorem slh_intro {k : Nat} {c : C} {l : Int} {rs : List (List C)} {K : C → Prop} (he : elems S c = some rs) (hk : ∀ y ∈ rs, y.length = k) (h0 : 0 ≤ l ∧ l ≤ rs.length) (hK : K (cutC c l rs.length)) : SlhP S c k l K := by
  unfold SlhP; exact ⟨rs, he, hk, h0.1, h0.2, hK⟩
theorem plain_rep {S : Store} : ∀ (r : List C), RepL true S (r.map D.x) r []
  | [] => by rw [List.map_nil, repL_nil]; exact ⟨rfl, rfl⟩
  | c :: r => by rw [List.map_cons, repL_cons]; exact ⟨c, r, [], [], rfl, rfl, by rw [rep_x]; exact ⟨rfl, rfl⟩, plain_rep r⟩
theorem plain_rep2 {S : Store} : ∀ (rs : List (List C)), Rep2 true S (rs.map (List.map D.x)) rs []
  | [] => by rw [List.map_nil, rep2_nil]; exact ⟨rfl, rfl⟩
  | r :: rs => by rw [List.map_cons, rep2_cons]; exact ⟨r, rs, [], [], rfl, rfl, plain_rep r, plain_rep2 rs⟩
theorem plain_app {k by' : Nat} {c : C} {rs ys : List (List C)} {K : C → Store → Prop} (hE : Ext S0 S) (h : Fr S0.length S [.sl k (rs.map (List.map D.x))] [c]) (hk : ∀ y ∈ ys, y.length = k)
    (hb : (rs.length + ys.length) * by' ≤ 140737488355328) (hm : rs.length + ys.length ≤ maxLen)
    (hK : ∀ c' S', Ext S0 S' → Fr S0.length S' [.sl k ((rs ++ ys).map (List.map D.x))] [c'] → S.length ≤ S'.length → K c' S') : AppP k by' S c ys K :=
  fr_app (S1 := S) (yd := ys.map (List.map D.x)) hE h (Ext.refl S) (plain_rep2 ys) List.nodup_nil (fun _ hi => by cases hi) hE.len (fun y hy => by obtain ⟨z, hz, rfl⟩ := List.mem_map.1 hy; rw [List.length_map]; exact hk z hz) (by simpa using hb) (by simpa using hm)
    (fun c' S' h1 h2 h3 => hK c' S' h1 (by rw [List.map_append]; exact h2) h3)
theorem plain_appAt {o k by' : Nat} {c : C} {ds : List D} {cs : List C} {rs ys : List (List C)} {K : C → Store → Prop} (hE : Ext S0 S) (h : Fr S0.length S ds cs) (hd : ds[o]? = some (.sl k (rs.map (List.map D.x)))) (hc : cs[o]? = some c)
    (hk : ∀ y ∈ ys, y.length = k) (hb : (rs.length + ys.length) * by' ≤ 140737488355328) (hm : rs.length + ys.length ≤ maxLen)
    (hK : ∀ c' S', Ext S0 S' → Fr S0.length S' (ds.set o (.sl k ((rs ++ ys).map (List.map D.x)))) (cs.set o c') → S.length ≤ S'.length → K c' S') : AppP k by' S c ys K :=
  fr_appAt (yd := ys.map (List.map D.x)) hE h (Ext.refl S) hE.len hd hc ⟨[], plain_rep2 ys, List.nodup_nil, fun _ hi => by cases hi⟩ (fun y hy => by obtain ⟨z, hz, rfl⟩ := List.mem_map.1 hy; rw [List.length_map]; exact hk z hz) (by simpa using hb) (by simpa [maxLen] using hm)
    (fun c' S' h1 h2 h3 => hK c' S' h1 (by rw [List.map_append]; exact h2) h3)
theorem pk_rows {l : List GPackage} {c : C} (h : Rd S [.sl 8 (l.map GPackage.d)] [c]) : ∃ rs : List (List C), rs.length = l.length ∧ elems S c = some rs ∧ (∀ y ∈ rs, y.length = 8) ∧
    ∀ i (hi : i < l.length), ∃ a b f g, rs[i]? = some [.int .i64 l[i].Ext, .int .i64 l[i].Author, .int .i64 l[i].Version, a, b, f, g, .int .i64 l[i].Seal] := by
  obtain ⟨ids, h⟩ := h.one
  obtain ⟨rows, js, h1, h2, _, _⟩ := h.elems
  have hlen := h2.len
  have key : ∀ i (hi : i < l.length), ∃ a b f g, rows[i]? = some [.int .i64 l[i].Ext, .int .i64 l[i].Author, .int .i64 l[i].Version, a, b, f, g, .int .i64 l[i].Seal] := fun i hi => by
    obtain ⟨cs, ii, g1, g2, _⟩ := h2.at i (l[i].d) (by simp [hi])
    obtain ⟨a, b, f, g, e, _⟩ := GPackage.inv (Rd.of g2)
    exact ⟨a, b, f, g, by rw [g1, e]⟩
  refine ⟨rows, by rw [hlen]; simp, h1, fun y hy => ?_, key⟩
  obtain ⟨i, hi, rfl⟩ := List.mem_iff_getElem.1 hy
  obtain ⟨a, b, f, g, e⟩ := key i (by rw [hlen] at hi; simpa using hi)
  rw [List.getElem?_eq_getElem hi] at e
  injection e with e
  rw [e]; rfl
end
end Go.Proofs.YtlmmdpmmdmhacaaGreat
namespace Go.Proofs.YtlmmdpmmdmhacaaGreat
set_option linter.unusedVariables false
set_option linter.unusedSimpArgs false
set_option maxRecDepth 100000
open Go Go.RowKit
structure Cur (id : Nat) (S : Store) : Prop where
  out : ∃ (c : C) (i h : Int) (l : List Int) (ids : List Nat), S[id]? = some ⟨true, 3, [[c, .int .i64 i, .int .i64 h]]⟩ ∧ RepL false S [.sl 1 (l.map dByte)] [c] ids ∧ (∀ j ∈ ids, j < id) ∧ 0 ≤ i ∧ i ≤ l.length ∧ l.length ≤ 1048576
structure Drw (id : Nat) (S S' : Store) : Prop where
  cur : Cur id S'
  len : S.length ≤ S'.length
  lt : id < S.length
  same : ∀ j, j < S.length → j ≠ id → S'[j]? = S[j]?
section
variable {id : Nat} {S S1 S2 S' : Store}
theorem Cur.lt (h : Cur id S) : id < S.length := by
  obtain ⟨c, i, hh, l, ids, h1, _⟩ := h.out
  exact (List.getElem?_eq_some_iff.1 h1).1
theorem Cur.frame (h : Cur id S) (hf : ∀ j, j ≤ id → S'[j]? = S[j]?) : Cur id S' := by
  obtain ⟨c, i, hh, l, ids, h1, h2, h3, h4⟩ := h.out
  exact ⟨c, i, hh, l, ids, by rw [hf id (Nat.le_refl _)]; exact h1, h2.frame (fun j hj => hf j (Nat.le_of_lt (h3 j hj))), h3, h4⟩
theorem Cur.ext (h : Cur id S) (e : Ext S S') : Cur id S' := h.frame fun j hj => e.at (Nat.lt_of_le_of_lt hj h.lt)
theorem Drw.refl (h : Cur id S) : Drw id S S := ⟨h, Nat.le_refl _, h.lt, fun _ _ _ => rfl⟩
theorem Drw.trans (h : Drw id S S1) (g : Drw id S1 S2) : Drw id S S2 :=
  ⟨g.cur, Nat.le_trans h.len g.len, h.lt, fun j hj hn => (g.same j (Nat.lt_of_lt_of_le hj h.len) hn).trans (h.same j hj hn)⟩
theorem Drw.ext (h : Drw id S S1) (e : Ext S1 S2) : Drw id S S2 :=
  ⟨h.cur.ext e, Nat.le_trans h.len e.len, h.lt, fun j hj hn => (e.at (Nat.lt_of_lt_of_le hj h.len)).trans (h.same j hj hn)⟩
theorem Drw.of_ext (h : Cur id S) (e : Ext S S') : Drw id S S' := (Drw.refl h).ext e
theorem Drw.own (h : Drw id S S1) (e : Ext (S1.take S.length) S2) : Drw id S S2 := by
  have hl : (S1.take S.length).length = S.length := by rw [List.length_take]; exact Nat.min_eq_left h.len
  have hat : ∀ j, j < S.length → S2[j]? = S1[j]? := fun j hj => by rw [e.at (by omega), List.getElem?_take, if_pos hj]
  exact ⟨h.cur.frame fun j hj => hat j (Nat.lt_of_le_of_lt hj h.lt), by have := e.len; omega, h.lt, fun j hj hn => (hat j hj).trans (h.same j hj hn)⟩
theorem Fr.drw {lo : Nat} {ds : List D} {cs : List C} (h : Fr lo S ds cs) (hl : id < lo) (e : Drw id S S') : Fr lo S' ds cs := by
  obtain ⟨ids, h1, h2, h3⟩ := h
  exact ⟨ids, h1.frame fun j hj => e.same j (h1.lt j hj) (by have := h3 j hj; omega), h2, h3⟩
theorem Fr.joinD {lo : Nat} {ds ds' : List D} {cs cs' : List C} (h : Fr lo S ds cs) (hl : id < lo) (e : Drw id S S') (g : Fr S.length S' ds' cs') (hlo : lo ≤ S.length) : Fr lo S' (ds ++ ds') (cs ++ cs') := by
  obtain ⟨i, h1, h2, h3⟩ := h
  obtain ⟨j, g1, g2, g3⟩ := g
  have hlt := h1.lt
  have h1' : RepL true S' ds cs i := h1.frame fun k hk => e.same k (hlt k hk) (by have := h3 k hk; omega)
  refine ⟨i ++ j, h1'.append g1, ?_, fun k hk => ?_⟩
  · rw [List.nodup_append]
    exact ⟨h2, g2, fun a ha b hb => by have := hlt a ha; have := g3 b hb; omega⟩
  · rcases List.mem_append.1 hk with hk | hk
    · exact h3 k hk
    · exact Nat.le_trans hlo (g3 k hk)
theorem take_len (h : Drw id S S1) : (S1.take S.length).length = S.length := by rw [List.length_take]; exact Nat.min_eq_left h.len
theorem take_ext (S1 : Store) (n : Nat) : Ext (S1.take n) S1 := ⟨S1.drop n, (List.take_append_drop n S1).symm⟩
def RdN (id : Nat) (S : Store) (ds : List D) (cs : List C) : Prop := ∃ ids, RepL false S ds cs ids ∧ id ∉ ids
theorem RdN.drw {ds : List D} {cs : List C} (h : RdN id S ds cs) (e : Drw id S S') : RdN id S' ds cs := by
  obtain ⟨ids, h1, h2⟩ := h
  exact ⟨ids, h1.frame fun j hj => e.same j (h1.lt j hj) (fun hh => h2 (hh ▸ hj)), h2⟩
theorem RdN.rd {ds : List D} {cs : List C} (h : RdN id S ds cs) : Rd S ds cs := by
  obtain ⟨ids, h1, h2⟩ := h
  exact ⟨ids, h1⟩
theorem Cur.set {c : C} {i h i' h' : Int} {l : List Int} {ids : List Nat} (h1 : S[id]? = some ⟨true, 3, [[c, .int .i64 i, .int .i64 h]]⟩) (h2 : RepL false S [.sl 1 (l.map dByte)] [c] ids) (h3 : ∀ j ∈ ids, j < id) (hi : 0 ≤ i' ∧ i' ≤ l.length) (hl : l.length ≤ 1048576) {r : Row} (hr : r = ⟨true, 3, [[c, .int .i64 i', .int .i64 h']]⟩) : Drw id S (S.set id r) := by
  subst hr
  have hlt := (List.getElem?_eq_some_iff.1 h1).1
  refine ⟨⟨c, i', h', l, ids, List.getElem?_set_self hlt, h2.frame fun j hj => ?_, h3, hi.1, hi.2, hl⟩, by rw [List.length_set]; exact Nat.le_refl _, hlt, fun j hj hn => List.getElem?_set_ne (Ne.symm hn)⟩
  rw [List.getElem?_set_ne (by have := h3 j hj; omega)]
end
inductive IntRows : List (List C) → List Int → Prop
  | nil : IntRows [] []
  | cons {z : Int} {r : List (List C)} {l : List Int} : IntRows r l → IntRows ([.int .i64 z] :: r) (z :: l)
theorem IntRows.eq {r : List (List C)} {l : List Int} (h : IntRows r l) : r = l.map fun z => [C.int .i64 z] := by
  induction h with
  | nil => rfl
  | cons _ ih => rw [ih]; rfl
theorem bits255 (x : Int) : 0 ≤ bitsI .and .i64 x 255 ∧ bitsI .and .i64 x 255 ≤ 255 := by
  have h0 : (BitVec.ofInt IntKind.i64.bits x &&& BitVec.ofInt IntKind.i64.bits 255).toNat ≤ 255 := by
    rw [BitVec.toNat_and]
    refine Nat.le_trans Nat.and_le_right ?_
    decide
  unfold bitsI
  dsimp only
  generalize (BitVec.ofInt IntKind.i64.bits x &&& BitVec.ofInt IntKind.i64.bits 255).toNat = n at h0
  rw [IntKind.wrap_i64]
  omega
end Go.Proofs.YtlmmdpmmdmhacaaGreat
namespace Go.Proofs.YtlmmdpmmdmhacaaGreat
open Go Go.RowKit
set_option linter.unusedVariables false
set_option linter.unusedSimpArgs false
set_option maxRecDepth 100000
theorem rowP_set {S : Store} {id : Nat} {r : Row} {cs : List C} {K : List C → Prop} (hlt : id < S.length) (ho : r.own = true) (hx : r.xs = [cs]) (hK : K cs) : RowP (S.set id r) id K :=
  rowP_intro (List.getElem?_set_self hlt) ho hx hK
theorem rd_setC {S : Store} {id : Nat} {r : Row} {ds : List D} {cs : List C} {ids : List Nat} (h : RepL false S ds cs ids) (hn : ∀ j ∈ ids, j < id) : Rd (S.set id r) ds cs :=
  ⟨ids, h.frame fun j hj => by rw [List.getElem?_set_ne (by have := hn j hj; omega)]⟩
theorem row_k {S : Store} {id k : Nat} {xs : List (List C)} (h : S[id]? = some ⟨true, k, xs⟩) : ((S[id]?).map Row.k).getD 0 = k := by rw [h]; rfl
theorem row_kset {S : Store} {id k : Nat} {xs : List (List C)} (h : id < S.length) : (((S.set id ⟨true, k, xs⟩)[id]?).map Row.k).getD 0 = k := by rw [List.getElem?_set_self h]; rfl
theorem tmod_in {x n : Int} (h0 : 0 ≤ x) (hn : 0 < n) : 0 ≤ x.tmod n ∧ x.tmod n < n := ⟨Int.tmod_nonneg _ h0, Int.tmod_lt_of_pos _ hn⟩
theorem tmod_le {x n : Int} (h0 : 0 ≤ x) (hn : 0 < n) : x.tmod n ≤ x := by
  rw [Int.tmod_eq_emod_of_nonneg h0]
  have h1 := Int.emod_add_mul_ediv x n
  have h2 : 0 ≤ n * (x / n) := Int.mul_nonneg (Int.le_of_lt hn) (Int.ediv_nonneg h0 (Int.le_of_lt hn))
  omega
theorem ev_l1Byte {id : Nat} {S : Store} (h : Cur id S) : EvA Tryz.prog 154 [.s (.pt id)] S (fun r S' => Drw id S S' ∧ ∃ x : Int, (0 ≤ x ∧ x ≤ 255) ∧ r = .v (.s (.int .i64 x))) := by
  have hlt := h.lt
  obtain ⟨c, i, hh, l, ids, h1, h2, h3, h4, h5, h6⟩ := h.out
  have hR : ∀ r, Rd (S.set id r) [.sl 1 (l.map dByte)] [c] := fun r => rd_setC h2 h3
  have hk := row_k h1
  refine evA_intro tok Tryz.func154 (by kernel_rfl) rfl ?_
  repeat' ((conv => whnf) <;> first
   | (refine needP_intro (by decide) ?_) | (refine rd_loadf (hR _) tv ix ?_) | (refine rI (hR _) rf ix ?_) | (refine rd_lenm (hR _) ?_; intro hml; rw [maxLen_eq] at hml) | (refine rowP_set (by first | exact hlt | (simp only [List.length_set]; exact hlt)) rfl rfl ?_) | (refine rowP_intro h1 rfl rfl ?_) | rw [wrapI_i64 (by omega)] | refine cD (fun _ => ?_) fun _ => ?_ | refine cE (fun _ => ?_) fun _ => ?_ | refine cT ?_ | refine cF ?_ | refine cN (fun _ => ?_) fun _ => ?_ | refine cI (fun _ => ?_) fun _ => ?_ | refine rE fun hml => ?_ | refine rI aN rf ix ?_ | refine rd_loadf aN tv ix ?_ | refine nP ?_ | refine draw_intro 13 [.fl 0, .fl 1, .fl 2, .fl 3, .fl 4, .fl 5, .fl 6, .fl 7, .fl 8, .fl 9, .fl 10, .fl 11, .st 12 []] (by rfl) (by kernel_rfl) ?_ | refine draw_intro 25 [.fl 0, .fl 1, .fl 2, .fl 3, .fl 4, .fl 5, .fl 6, .fl 7, .fl 8, .fl 9] (by rfl) (by kernel_rfl) ?_ | refine draw_intro 35 [.fl 0, .fl 1, .fl 2, .fl 3, .fl 4, .fl 5, .fl 6, .fl 7, .fl 8, .fl 9, .fl 10, .fl 11, .fl 12, .fl 13, .st 14 []] (by rfl) (by kernel_rfl) ?_ | (fail) | (refine needP_intro (by exact Nat.le_of_ble_eq_true rfl) ?_) | refine And.intro ?_ ?_)
  all_goals first
    | exact ⟨_, bits255 _, rfl⟩
    | (refine Cur.set (i' := i) (h' := wrapI .i64 (wrapI .i64 (hh * 6364136223846793005) + 1442695040888963407)) h1 h2 h3 (by omega) h6 ?_; rw [hk]; rfl)
    | skip
  all_goals (rw [List.set_set]; refine Cur.set (i' := i + 1) (h' := wrapI .i64 (wrapI .i64 (hh * 6364136223846793005) + 1442695040888963407)) h1 h2 h3 (by omega) h6 ?_; rw [row_kset hlt, hk]; rfl)
theorem ev_l1Below {id : Nat} {S : Store} (n : Int) (h : Cur id S) : EvA Tryz.prog 78 [.s (.pt id), .s (.int .i64 n)] S (fun r S' => Drw id S S' ∧ ∃ x : Int, (0 ≤ x ∧ x ≤ 16777215 ∧ (0 < n → x < n) ∧ (n ≤ 0 → x = 0)) ∧ r = .v (.s (.int .i64 x))) := by
  have hlt := h.lt
  have hD := Drw.refl h
  have hF : Fr S.length S [] [] := fr_nil
  refine evA_intro tok Tryz.func78 (by kernel_rfl) rfl ?_
  repeat' ((conv => whnf) <;> first
   | rw [wrapI_i64 (by omega)] | refine cD (fun _ => ?_) fun _ => ?_ | refine cE (fun _ => ?_) fun _ => ?_ | refine cT ?_ | refine cF ?_ | refine cN (fun _ => ?_) fun _ => ?_ | refine cI (fun _ => ?_) fun _ => ?_ | (refine callP_intro (ev_l1Byte hD.cur) ?_; rintro _ Sn ⟨hDn, xn, hxn, rfl⟩; replace hF := hF.drw hlt hDn; replace hD := hD.trans hDn; clear hDn) | refine nP ?_ | refine And.intro ?_ ?_)
  all_goals first
    | exact hD
    | exact ⟨0, ⟨by omega, by omega, by omega, by omega⟩, rfl⟩
    | (exact ⟨_, ⟨(tmod_in (by omega) (by omega)).1, Int.le_trans (tmod_le (by omega) (by omega)) (by omega), fun _ => (tmod_in (by omega) (by omega)).2, fun _ => by omega⟩, rfl⟩)
theorem ev_l1Once {id : Nat} {S : Store} (n : Int) (h : Cur id S) : EvA Tryz.prog 90 [.s (.pt id), .s (.int .i64 n)] S (fun r S' => Drw id S S' ∧ ∃ b : Bool, r = .v (.s (.bool b))) := by
  have hlt := h.lt
  have hD := Drw.refl h
  have hF : Fr S.length S [] [] := fr_nil
  refine evA_intro tok Tryz.func90 (by kernel_rfl) rfl ?_
  repeat' ((conv => whnf) <;> first
   | (refine callP_intro (ev_l1Below _ hD.cur) ?_; rintro _ Sn ⟨hDn, xn, hxn, rfl⟩; replace hF := hF.drw hlt hDn; replace hD := hD.trans hDn; clear hDn) | refine nP ?_ | refine And.intro ?_ ?_)
  all_goals first
    | exact hD
    | exact ⟨_, rfl⟩
theorem ev_l1New {S : Store} {c : C} (l : List Int) (h : Rd S [.sl 1 (l.map dByte)] [c]) (hz : l.length ≤ 1048576) : EvA Tryz.prog 76 [.s c] S (fun r S' => Ext S S' ∧ Cur S.length S' ∧ r = .v (.s (.pt S.length))) := by
  refine evA_intro tok Tryz.func76 (by kernel_rfl) rfl ?_
  repeat' ((conv => whnf) <;> first
   | rw [wrapI_i64 (by omega)] | refine cD (fun _ => ?_) fun _ => ?_ | refine cE (fun _ => ?_) fun _ => ?_ | refine cT ?_ | refine cF ?_ | refine cN (fun _ => ?_) fun _ => ?_ | refine cI (fun _ => ?_) fun _ => ?_ | refine rE fun hml => ?_ | refine rI aN rf ix ?_ | refine rd_loadf aN tv ix ?_ | refine nP ?_ | refine And.intro ?_ ?_)
  refine loop_intro {q : Nat × Int // q.1 ≤ l.length} [3, 4, 8, 9, 10, 11, 12, 13, 14, 15, 16, 17, 18, 19, 20, 21, 22, 23, 24, 25, 26, 27] (fun zb => [(4, .v (.s (.int .i64 zb.1.1))), (3, .v (.s (.int .i64 zb.1.2)))]) (fun _ => S) (fun zb => l.length - zb.1.1) ⟨(0, 193017 + (l.length : Int)), Nat.zero_le _⟩ ?_ rfl ?_
  · (conv => whnf); repeat' (first | exact trivial | exact rfl | apply And.intro)
  rintro ⟨⟨i, st⟩, hi⟩; dsimp only
  replace hi : i ≤ l.length := hi
  repeat' ((conv => whnf) <;> first
   | rw [wrapI_i64 (by omega)] | refine cD (fun _ => ?_) fun _ => ?_ | refine cE (fun _ => ?_) fun _ => ?_ | refine cT ?_ | refine cF ?_ | refine cN (fun _ => ?_) fun _ => ?_ | refine cI (fun _ => ?_) fun _ => ?_ | refine rE fun hml => ?_ | refine rI aN rf ix ?_ | refine rd_loadf aN tv ix ?_ | refine nP ?_ | refine And.intro ?_ ?_)
  all_goals first
    | exact Ext.push _ _
    | rfl
    | (refine ⟨⟨(i + 1, bitsI .and .i64 (wrapI .i64 (wrapI .i64 (wrapI .i64 (st * 137) + wrapI .i64 (l[((i : Nat) : Int).toNat]'(by omega))) + 11)) 1073741823), by dsimp only; omega⟩, ?_, rfl, by dsimp only; omega⟩; (conv => whnf); repeat' (first | exact trivial | exact rfl | (rw [wrapI_i64 (by omega)]; exact rfl) | apply And.intro))
    | (obtain ⟨ids, h1⟩ := h
       have hlt := h1.lt
       refine ⟨⟨c, 0, st, l, ids, by rw [List.getElem?_append_right (Nat.le_refl _), Nat.sub_self]; rfl, h1.frame fun j hj => List.getElem?_append_left (hlt j hj), hlt, by omega, by omega, hz⟩⟩)
    | (exfalso; omega)
end Go.Proofs.YtlmmdpmmdmhacaaGreat
