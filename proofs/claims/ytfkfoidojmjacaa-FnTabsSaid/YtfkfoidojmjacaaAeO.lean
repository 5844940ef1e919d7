/- Marking: every plain cell of every element of a value's slices is overwritten, in order; rows other than the value's stay. -/
import Derived.Test.YtfkfoidojmjacaaAeM
namespace Go.Proofs.Ytfkfoidojmjacaa
open Go
set_option linter.unusedVariables false
set_option linter.unusedSimpArgs false

/-- the rows other than these are as they were -/
def Mk (ids : List Nat) (S S' : Store) : Prop := S'.length = S.length ∧ ∀ id, id ∉ ids → S'[id]? = S[id]?
theorem Mk.refl (ids : List Nat) (S : Store) : Mk ids S S := ⟨rfl, fun _ _ => rfl⟩
theorem Mk.trans {ids : List Nat} {S1 S2 S3 : Store} (h : Mk ids S1 S2) (g : Mk ids S2 S3) : Mk ids S1 S3 := ⟨g.1.trans h.1, fun id hi => (g.2 id hi).trans (h.2 id hi)⟩
theorem Mk.mono {i j : List Nat} {S S' : Store} (h : Mk i S S') (hs : ∀ id ∈ i, id ∈ j) : Mk j S S' := ⟨h.1, fun id hi => h.2 id fun g => hi (hs id g)⟩

/-- a cell that is overwritten -/
def mkC (c : C) (k : Int) : C := match c with
  | .int w _ => .int w k
  | .bool _ => .bool (decide (Int.tmod k 3 = 0))
  | c => c
mutual
def cntD : D → Nat
  | .x _ => 1
  | .sl _ xs => cntE xs
def cntL : List D → Nat
  | [] => 0
  | d :: ds => cntD d + cntL ds
def cntE : List (List D) → Nat
  | [] => 0
  | x :: xs => cntL x + cntE xs
end
mutual
def mkD : D → Int → D
  | .x c, k => .x (mkC c k)
  | .sl n xs, k => .sl n (mkE xs k)
def mkL : List D → Int → List D
  | [], _ => []
  | d :: ds, k => mkD d k :: mkL ds (k + cntD d)
def mkE : List (List D) → Int → List (List D)
  | [], _ => []
  | x :: xs, k => mkL x k :: mkE xs (k + cntL x)
end
/-- an aggregate's: its own plain cells stay -/
def mkT : List D → Int → List D
  | [], _ => []
  | .x c :: ds, k => .x c :: mkT ds k
  | .sl n xs :: ds, k => .sl n (mkE xs k) :: mkT ds (k + cntE xs)
def cntT : List D → Nat
  | [] => 0
  | .x c :: ds => cntT ds
  | .sl n xs :: ds => cntE xs + cntT ds

theorem cntE_nil : cntE [] = 0 := by rw [cntE]
theorem cntE_cons (x : List D) (xs : List (List D)) : cntE (x :: xs) = cntL x + cntE xs := by rw [cntE]
theorem mkE_nil (k : Int) : mkE [] k = [] := by rw [mkE]
theorem mkE_cons (x : List D) (xs : List (List D)) (k : Int) : mkE (x :: xs) k = mkL x k :: mkE xs (k + cntL x) := by rw [mkE]
theorem cntE_app : ∀ (a b : List (List D)), cntE (a ++ b) = cntE a + cntE b
  | [], b => by rw [List.nil_append, cntE_nil]; omega
  | x :: a, b => by rw [List.cons_append, cntE_cons, cntE_cons, cntE_app a b]; omega
theorem mkE_app : ∀ (a b : List (List D)) (k : Int), mkE (a ++ b) k = mkE a k ++ mkE b (k + cntE a)
  | [], b, k => by rw [List.nil_append, mkE_nil, cntE_nil]; simp
  | x :: a, b, k => by
    rw [List.cons_append, mkE_cons, mkE_cons, mkE_app a b, cntE_cons, List.cons_append]
    congr 3; omega
theorem mkE_len : ∀ (a : List (List D)) (k : Int), (mkE a k).length = a.length
  | [], k => by rw [mkE_nil]
  | x :: a, k => by rw [mkE_cons, List.length_cons, List.length_cons, mkE_len a]
theorem mkE_at : ∀ (a : List (List D)) (k : Int) (i : Nat) (h : i < a.length) (h' : i < (mkE a k).length), (mkE a k)[i]'h' = mkL a[i] (k + cntE (a.take i))
  | x :: a, k, 0, h, h' => by simp [mkE_cons, cntE_nil]
  | x :: a, k, i + 1, h, h' => by
    simp only [mkE_cons, List.getElem_cons_succ, List.take_succ_cons, cntE_cons]
    rw [mkE_at a _ i (by simpa using h)]
    congr 1; omega
theorem cntE_take {α : Type} {f : α → List D} {l : List α} {i : Nat} (h : i < l.length) : cntE ((l.take (i + 1)).map f) = cntE ((l.take i).map f) + cntL (f l[i]) := by
  rw [List.take_succ_eq_append_getElem h, List.map_append, cntE_app]
  simp [cntE_cons, cntE_nil]
theorem cntE_le {α : Type} {f : α → List D} (l : List α) (i : Nat) : cntE ((l.take i).map f) ≤ cntE (l.map f) := by
  have e : l.map f = (l.take i).map f ++ (l.drop i).map f := by rw [← List.map_append, List.take_append_drop]
  rw [e, cntE_app]; omega
theorem cntE_bd {α : Type} {f : α → List D} (hf : ∀ x, cntL (f x) ≤ 32 + 32 * szL (f x)) : ∀ (l : List α), cntE (l.map f) ≤ 32 * (l.length + szL.szLL (l.map f))
  | [] => by rw [List.map_nil, cntE_nil]; omega
  | x :: l => by
    have h1 := hf x
    have h2 := cntE_bd hf l
    rw [List.map_cons, cntE_cons, szL.szLL, List.length_cons]; omega

theorem set_self' {α : Type} : ∀ {l : List α} {i : Nat} {x : α}, l[i]? = some x → l.set i x = l
  | [], i, x, h => by simp at h
  | y :: l, 0, x, h => by simp at h; rw [h]; rfl
  | y :: l, i + 1, x, h => by rw [List.set_cons_succ, set_self' (by simpa using h)]

section
variable {q : Bool} {S S' S0 : Store}

theorem RepL.setAt : ∀ {e : List D} {cs : List C} {ids : List Nat}, RepL q S e cs ids → ∀ (off : Nat) d, e[off]? = some d → ∃ c' a m b, cs[off]? = some c' ∧ ids = a ++ m ++ b ∧ Rep q S d c' m ∧
    ∀ {S' : Store} {d' : D} {c'' : C} {m' : List Nat}, (∀ id ∈ a ++ b, S'[id]? = S[id]?) → Rep q S' d' c'' m' → RepL q S' (e.set off d') (cs.set off c'') (a ++ m' ++ b)
  | [], cs, ids, h, off, d, hx => by simp at hx
  | y :: e, cs, ids, h, off, d, hx => by
    rw [repL_cons] at h
    obtain ⟨c, cs', i, j, h1, h2, h3, h4⟩ := h
    subst h1; subst h2
    cases off with
    | zero =>
      simp at hx; subst hx
      refine ⟨c, [], i, j, rfl, by simp, h3, fun {S' d' c'' m'} hf hr => ?_⟩
      rw [List.set_cons_zero, List.set_cons_zero, repL_cons]
      exact ⟨c'', cs', m', j, rfl, by simp, hr, h4.frame (fun id hi => hf id (by simp [hi]))⟩
    | succ off =>
      obtain ⟨c1, a, m, b, k1, k2, k3, k4⟩ := h4.setAt off d (by simpa using hx)
      refine ⟨c1, i ++ a, m, b, by simpa using k1, by rw [k2]; simp, k3, fun {S' d' c'' m'} hf hr => ?_⟩
      rw [List.set_cons_succ, List.set_cons_succ, repL_cons]
      exact ⟨c, cs'.set off c'', i, a ++ m' ++ b, rfl, by simp, h3.frame (fun id hi => hf id (by simp [hi])), k4 (fun id hi => hf id (by
        rcases List.mem_append.1 hi with hi | hi <;> simp [hi])) hr⟩

/-- while a slice is marked: the elements before are done, this one is under way -/
structure MkI (ids : List Nat) (S0 S : Store) (n : Nat) (P : List (List D)) (e : List D) (Q : List (List D)) (c : C) : Prop where
  rep : Rep true S (.sl n (P ++ e :: Q)) c ids
  mrk : Mk ids S0 S

theorem mk_len {ids : List Nat} {n : Nat} {xs : List (List D)} {c : C} {N : Nat} {K : Nat → Prop} (h : Rep true S (.sl n xs) c ids) (hl : xs.length = N) (hK : N ≤ 9223372036854775807 → K N) : LenP S c K :=
  rd_len (rd_one h) fun g => by rw [hl] at g ⊢; exact hK (by rw [maxLen_eq] at g; exact g)

theorem mid_at (P : List (List D)) (e : List D) (Q : List (List D)) : (P ++ e :: Q)[P.length]? = some e := by simp
theorem mid_set (P : List (List D)) (e e' : List D) (Q : List (List D)) : (P ++ e :: Q).set P.length e' = P ++ e' :: Q := by simp

theorem mk_idx {ids : List Nat} {n m : Nat} {P Q : List (List D)} {e : List D} {c : C} {i : Int} {K : Prop} (h : MkI ids S0 S n P e Q c) (hi : i = P.length) (he : e.length = m) (hK : K) : IdxP S c m i K := by
  obtain ⟨rows, js, h1, h2, h3, h4⟩ := h.rep.elems
  obtain ⟨cs, j, k1, k2, k3⟩ := h2.at P.length e (mid_at P e Q)
  unfold IdxP
  exact ⟨rows, cs, h1, by omega, by rw [hi]; exact k1, by rw [k2.len]; exact he, hK⟩

theorem put_set : ∀ {cs : List C} {off : Nat} {v : C}, off < cs.length → putCells cs off [v] = cs.set off v
  | cs, off, v, h => by
    unfold putCells
    rw [List.set_eq_take_append_cons_drop, if_pos h]; simp

theorem mk_store {ids : List Nat} {n : Nat} {P Q : List (List D)} {e : List D} {c : C} {i : Int} {off : Nat} {v old : C} {K : Store → Prop} (h : MkI ids S0 S n P e Q c) (hn : ids.Nodup) (hi : i = P.length) (ho : e[off]? = some (.x old)) (he : e.length = n)
    (hK : ∀ S', MkI ids S0 S' n P (e.set off (.x v)) Q c → K S') : StoP S c i off [v] K := by
  obtain ⟨h, hm⟩ := h
  subst hi
  unfold Rep at h
  obtain ⟨hl, h⟩ := h
  rcases h with ⟨h1, h2, h3⟩ | ⟨id, o, t, row, js, h1, h2, h3, h4, h5, h6, h7, h8⟩
  · simp at h1
  · obtain ⟨hoo, ht, hown⟩ := h7 rfl
    subst hoo; subst h1; subst h2
    have hrl : row.xs.length = (P ++ e :: Q).length := by omega
    have hPl : (P ++ e :: Q).length = P.length + (Q.length + 1) := by simp
    rw [List.drop_zero, List.take_of_length_le (by omega)] at h8
    have hidl : id < S.length := (List.getElem?_eq_some_iff.1 h3).1
    rw [List.nodup_cons] at hn
    obtain ⟨cs, pre, mid, post, k1, k2, k3, k4⟩ := h8.setAt _ _ (mid_at P e Q)
    obtain ⟨c', a, m, b, g1, g2, g3, g4⟩ := k3.setAt off _ ho
    rw [rep_x] at g3
    have hm0 := g3.2
    subst hm0; subst g2; subst k2
    have hoff : off < cs.length := (List.getElem?_eq_some_iff.1 g1).1
    have hcl := k3.len
    unfold StoP
    refine ⟨id, 0, (P ++ e :: Q).length, t, row, cs, rfl, h3, hown, h5, h6, by omega, by simp; omega, by rw [Nat.zero_add]; simpa using k1, by simp; omega, hK _ ⟨?_, ?_⟩⟩
    · rw [put_set hoff, Nat.zero_add]
      have hne : ∀ x ∈ pre ++ (a ++ [] ++ b) ++ post, (S.set id ⟨true, row.k, row.xs.set P.length (cs.set off v)⟩)[x]? = S[x]? := fun x hx => List.getElem?_set_ne (by rintro rfl; exact hn.1 hx)
      have hr := k4 (S' := S.set id ⟨true, row.k, row.xs.set P.length (cs.set off v)⟩) (fun x hx => hne x (by rcases List.mem_append.1 hx with h | h <;> simp [h])) (g4 (d' := .x v) (c'' := v) (m' := []) (fun x hx => hne x (by rcases List.mem_append.1 hx with h | h <;> simp [h])) (by rw [rep_x]; exact ⟨rfl, rfl⟩))
      rw [mid_set] at hr
      unfold Rep
      refine ⟨by simpa using hl, .inr ⟨id, 0, t, ⟨true, row.k, row.xs.set P.length (cs.set off v)⟩, _, by simp, rfl, by rw [Int.toNat_natCast, List.getElem?_set_self hidl], h4, by simpa using h5, by simpa using h6, fun _ => ⟨rfl, by simpa using ht, rfl⟩, ?_⟩⟩
      simp only
      rw [List.drop_zero, List.take_of_length_le (by simp; omega)]
      exact hr
    · exact hm.trans ⟨by simp, fun x hx => List.getElem?_set_ne (by rintro rfl; exact hx (by simp))⟩

/-- n cells, written out -/
def lstC (cs : List C) (n : Nat) : Nat → List C := @Nat.rec (fun _ => Nat → List C) (fun _ => []) (fun _ ih j => cs.getD j .nil :: ih (j + 1)) n
theorem lstC_eq (cs : List C) : ∀ (n j : Nat), n + j = cs.length → lstC cs n j = cs.drop j
  | 0, j, h => by rw [show lstC cs 0 j = [] from rfl, List.drop_eq_nil_of_le (by omega)]
  | n + 1, j, h => by
    rw [show lstC cs (n + 1) j = cs.getD j .nil :: lstC cs n (j + 1) from rfl, lstC_eq cs n (j + 1) (by omega), List.drop_eq_getElem_cons (i := j) (by omega), List.getD_eq_getElem?_getD, List.getElem?_eq_getElem (by omega)]; rfl
theorem lstC_all {cs : List C} {n : Nat} (h : cs.length = n) : cs = lstC cs n 0 := by have e := lstC_eq cs n 0 (by omega); rw [List.drop_zero] at e; exact e.symm

theorem mk_sub {ids : List Nat} {n m : Nat} {P Q : List (List D)} {e : List D} {c : C} {i : Int} {off : Nat} {d : D} {K : List C → Prop} (h : MkI ids S0 S n P e Q c) (hn : ids.Nodup) (hi : i = P.length) (ho : e[off]? = some d) (he : e.length = m)
    (hK : ∀ (cs : List C) (j : List Nat), Rep true S d (cs.getD off .nil) j → j.Nodup → (∀ S' d', Mk j S S' → Rep true S' d' (cs.getD off .nil) j → MkI ids S0 S' n P (e.set off d') Q c) → K (lstC cs m 0)) : LoadP S c i K := by
  obtain ⟨h, hm⟩ := h
  subst hi
  have hel := h.elems
  unfold Rep at h
  obtain ⟨hl, h⟩ := h
  rcases h with ⟨h1, h2, h3⟩ | ⟨id, o, t, row, js, h1, h2, h3, h4, h5, h6, h7, h8⟩
  · simp at h1
  · obtain ⟨hoo, ht, hown⟩ := h7 rfl
    subst hoo; subst h1; subst h2
    have hrl : row.xs.length = (P ++ e :: Q).length := by omega
    have hPl : (P ++ e :: Q).length = P.length + (Q.length + 1) := by simp
    rw [List.drop_zero, List.take_of_length_le (by omega)] at h8
    rw [List.nodup_cons] at hn
    obtain ⟨hn1, hn2⟩ := hn
    obtain ⟨cs, pre, mid, post, k1, k2, k3, k4⟩ := h8.setAt _ _ (mid_at P e Q)
    obtain ⟨c', a, j, b, g1, g2, g3, g4⟩ := k3.setAt off _ ho
    subst g2; subst k2
    have hel' : elems S (.sl id 0 (P ++ e :: Q).length t) = some row.xs := by
      unfold elems
      simp only [h3]
      rw [if_pos ⟨h5, h6⟩, List.drop_zero, List.take_of_length_le (by omega)]
    have hcs : cs.getD off .nil = c' := by rw [List.getD_eq_getElem?_getD, g1]; rfl
    have hcl := k3.len
    refine loadP_intro hel' (by simpa using k1) (by omega) ?_
    rw [lstC_all (cs := cs) (n := m) (by omega)]
    refine hK cs j (by rw [hcs]; exact g3) ?_ fun S' d' hM hr => ?_
    · simp only [List.nodup_append] at hn2
      exact hn2.1.2.1.1.2.1
    · rw [hcs] at hr
      have hout : ∀ x, x ∉ j → S'[x]? = S[x]? := hM.2
      have hdis : ∀ x, (x ∈ pre ∨ x ∈ a ∨ x ∈ b ∨ x ∈ post) → x ∉ j := fun x hx hj => by
        simp only [List.nodup_append, List.mem_append] at hn2
        obtain ⟨⟨a1, ⟨⟨b1, b2, b3⟩, b4, b5⟩, a3⟩, a4, a5⟩ := hn2
        rcases hx with hx | hx | hx | hx
        · exact a3 x hx x (.inl (.inr hj)) rfl
        · exact b3 x hx x hj rfl
        · exact b5 x (.inr hj) x hx rfl
        · exact a5 x (.inr (.inl (.inr hj))) x hx rfl
      refine ⟨?_, hm.trans (hM.mono fun x hx => by simp [hx])⟩
      have hr2 := k4 (S' := S') (fun x hx => hout x (hdis x (by rcases List.mem_append.1 hx with h | h <;> simp [h]))) (g4 (d' := d') (c'' := c') (m' := j) (fun x hx => hout x (hdis x (by rcases List.mem_append.1 hx with h | h <;> simp [h]))) hr)
      rw [mid_set, set_self' g1, set_self' k1] at hr2
      unfold Rep
      refine ⟨by simpa using hl, .inr ⟨id, 0, t, row, _, by simp, rfl, by rw [hout id (fun hj => hn1 (by simp [hj]))]; exact h3, h4, h5, by simpa using h6, fun _ => ⟨rfl, by simpa using ht, hown⟩, ?_⟩⟩
      rw [List.drop_zero, List.take_of_length_le (by simp; simp at hrl; omega)]
      exact hr2
end

section
variable {S S' S0 : Store}
theorem cntb_int (x : Int) : cntL (dInt x) ≤ 32 + 32 * szL (dInt x) := by simp only [dInt, cntL, cntD]; omega
theorem cntb_bool (x : Bool) : cntL (dBool x) ≤ 32 + 32 * szL (dBool x) := by simp only [dBool, cntL, cntD]; omega
theorem int_mk (x k : Int) : mkL (dInt x) k = dInt k := rfl
theorem int_cnt (x : Int) : cntL (dInt x) = 1 := by simp only [dInt, cntL, cntD]
def int_m (k : Int) : Int := k

theorem mk_start {α : Type} {f : α → List D} {ids : List Nat} {n : Nat} {l : List α} {i : Nat} {k : Int} {c : C} (hM : Mk ids S0 S) (h : Rep true S (.sl n (mkE ((l.take i).map f) k ++ (l.drop i).map f)) c ids) (hi : i < l.length) : MkI ids S0 S n (mkE ((l.take i).map f) k) (f l[i]) ((l.drop (i + 1)).map f) c :=
  ⟨by rw [drop_at hi, List.map_cons] at h; exact h, hM⟩
theorem mk_pos {α : Type} {f : α → List D} {l : List α} {i : Nat} (k : Int) (hi : i < l.length) : ((i : Nat) : Int) = (mkE ((l.take i).map f) k).length := by rw [mkE_len]; simp; omega
theorem mk_next {α : Type} {f : α → List D} {ids : List Nat} {n : Nat} {l : List α} {i : Nat} {k : Int} {c : C} {e : List D} (h : MkI ids S0 S n (mkE ((l.take i).map f) k) e ((l.drop (i + 1)).map f) c) (hi : i < l.length) (he : e = mkL (f l[i]) (k + cntE ((l.take i).map f))) :
    Mk ids S0 S ∧ Rep true S (.sl n (mkE ((l.take (i + 1)).map f) k ++ (l.drop (i + 1)).map f)) c ids := by
  refine ⟨h.mrk, ?_⟩
  have h := h.rep
  rw [List.take_succ_eq_append_getElem hi, List.map_append, mkE_app, List.append_assoc]
  simp only [List.map_cons, List.map_nil, mkE_cons, mkE_nil, List.cons_append, List.nil_append]
  rw [← he]; exact h
theorem mk_full {α : Type} {f : α → List D} {ids : List Nat} {n : Nat} {l : List α} {i : Nat} {k : Int} {c : C} (h : Rep true S (.sl n (mkE ((l.take i).map f) k ++ (l.drop i).map f)) c ids) (hi : l.length ≤ i) : Rep true S (.sl n (mkE (l.map f) k)) c ids := by
  rw [List.take_of_length_le hi, drop_end hi, List.map_nil, List.append_nil] at h; exact h

theorem mk_lenr {α : Type} {f : α → List D} {n : Nat} {l : List α} {k : Int} {c : C} {K : Nat → Prop} (h : Rd S [.sl n (mkE (l.map f) k)] [c]) (hK : l.length ≤ 9223372036854775807 → K l.length) : LenP S c K :=
  rd_len h fun g => by rw [mkE_len, List.length_map] at g ⊢; exact hK (by rw [maxLen_eq] at g; exact g)
theorem mkL_len : ∀ (x : List D) (k : Int), (mkL x k).length = x.length
  | [], k => by rw [mkL]
  | d :: x, k => by rw [mkL, List.length_cons, List.length_cons, mkL_len x]
theorem mkE_mem : ∀ {xs : List (List D)} {k : Int} {y : List D}, y ∈ mkE xs k → ∃ x ∈ xs, y.length = x.length
  | [], k, y, h => by rw [mkE_nil] at h; cases h
  | x :: xs, k, y, h => by
    rw [mkE_cons] at h
    rcases List.mem_cons.1 h with rfl | h
    · exact ⟨x, by simp, mkL_len _ _⟩
    · obtain ⟨x', h1, h2⟩ := mkE_mem h; exact ⟨x', by simp [h1], h2⟩
theorem mk_idxr {α : Type} {f : α → List D} {n m : Nat} {l : List α} {k : Int} {c : C} {i : Int} {K : Prop} (h : Rd S [.sl n (mkE (l.map f) k)] [c]) (hf : ∀ x, (f x).length = m) (h0 : 0 ≤ i ∧ i.toNat < l.length) (hK : K) : IdxP S c m i K :=
  rd_idx h (fun y hy => by
    obtain ⟨x, h1, h2⟩ := mkE_mem hy
    obtain ⟨z, _, rfl⟩ := List.mem_map.1 h1
    rw [h2]; exact hf z) (by rw [mkE_len, List.length_map]; exact h0) hK
theorem mk_ldn {α : Type} {f : α → List D} {n : Nat} {l : List α} {k : Int} {c : C} {i : Int} {K : List C → Prop} (h : Rd S [.sl n (mkE (l.map f) k)] [c]) (h0 : 0 ≤ i ∧ i.toNat < l.length) (hK : ∀ cs, Rd S (mkL (f (l[i.toNat]'h0.2)) (k + cntE ((l.take i.toNat).map f))) cs → K cs) : LoadP S c i K :=
  rd_load h (by rw [mkE_len, List.length_map]; exact h0) fun cs hc => hK cs (by rw [mkE_at _ _ _ (by rw [List.length_map]; exact h0.2), List.getElem_map, ← List.map_take] at hc; exact hc)
theorem mk_elem {α : Type} {f : α → List D} {n : Nat} {l : List α} {k : Int} {c : C} {i : Nat} (h : Rd S [.sl n (mkE (l.map f) k)] [c]) (hi : i < l.length) : ∃ cs, Rd S (mkL (f l[i]) (k + cntE ((l.take i).map f))) cs ∧ ∀ K : List C → Prop, K cs → LoadP S c (i : Int) K := by
  obtain ⟨ids, h⟩ := h.one
  obtain ⟨rows, js, h1, h2, h3, h4⟩ := h.elems
  have hi' : i < (mkE (l.map f) k).length := by rw [mkE_len, List.length_map]; exact hi
  obtain ⟨cs, j, k1, k2, k3⟩ := h2.at i _ (List.getElem?_eq_getElem hi')
  rw [mkE_at _ _ _ (by rw [List.length_map]; exact hi), List.getElem_map, ← List.map_take] at k2
  exact ⟨cs, .of k2, fun K hK => loadP_intro h1 (by simpa using k1) (by omega) hK⟩
theorem mk_ldf {α : Type} {f : α → List D} {g : Int → α} {n : Nat} {l : List α} {k : Int} {c : C} {i : Int} {K : List C → Prop} (h : Rd S [.sl n (mkE (l.map f) k)] [c]) (hm : ∀ x k, mkL (f x) k = f (g k)) (hf : ∀ x, Flat (f x)) (h0 : 0 ≤ i ∧ i.toNat < l.length) (hK : K (flatC (f (g (k + cntE ((l.take i.toNat).map f)))))) : LoadP S c i K :=
  mk_ldn h h0 fun cs hc => by rw [hm] at hc; rw [hc.flat (hf _)]; exact hK

theorem repL_sub {e : List D} {cs : List C} {ids : List Nat} {off : Nat} {d : D} (h : RepL true S e cs ids) (hn : ids.Nodup) (ho : e[off]? = some d) :
    ∃ j, Rep true S d (cs.getD off .nil) j ∧ j.Nodup ∧ ∀ S' d', Mk j S S' → Rep true S' d' (cs.getD off .nil) j → RepL true S' (e.set off d') cs ids ∧ Mk ids S S' := by
  obtain ⟨c', a, j, b, g1, g2, g3, g4⟩ := h.setAt off _ ho
  subst g2
  have hcs : cs.getD off .nil = c' := by rw [List.getD_eq_getElem?_getD, g1]; rfl
  have hn' := hn
  simp only [List.nodup_append, List.mem_append] at hn'
  obtain ⟨⟨b1, b2, b3⟩, b4, b5⟩ := hn'
  refine ⟨j, by rw [hcs]; exact g3, b2, fun S' d' hM hr => ?_⟩
  rw [hcs] at hr
  have hr2 := g4 (S' := S') (d' := d') (c'' := c') (m' := j) (fun x hx => hM.2 x (fun hj => by
    rcases List.mem_append.1 hx with hx | hx
    · exact b3 x hx x hj rfl
    · exact b5 x (.inr hj) x hx rfl)) hr
  rw [set_self' g1] at hr2
  exact ⟨hr2, hM.mono fun x hx => by simp [hx]⟩

/-- the call's own between two marks of time -/
def In (lo hi : Nat) (S : Store) (ds : List D) (cs : List C) : Prop := ∃ ids, RepL true S ds cs ids ∧ ids.Nodup ∧ ∀ id ∈ ids, lo ≤ id ∧ id < hi
def Out (lo hi : Nat) (S S' : Store) : Prop := S'.length = S.length ∧ ∀ id, (id < lo ∨ hi ≤ id) → S'[id]? = S[id]?
theorem Fr.inn {lo : Nat} {ds : List D} {cs : List C} (h : Fr lo S ds cs) : In lo S.length S ds cs := by
  obtain ⟨ids, h, h1, h2⟩ := h
  exact ⟨ids, h, h1, fun id hi => ⟨h2 id hi, h.lt id hi⟩⟩
theorem In.ext {lo hi : Nat} {ds : List D} {cs : List C} (h : In lo hi S ds cs) (e : Ext S S') : In lo hi S' ds cs := by
  obtain ⟨ids, h, h1, h2⟩ := h
  exact ⟨ids, h.frame fun id hi => e.at (h.lt id hi), h1, h2⟩
theorem In.rd {lo hi : Nat} {ds : List D} {cs : List C} (h : In lo hi S ds cs) : Rd S ds cs := by obtain ⟨ids, h, _⟩ := h; exact .of h
theorem In.out {lo hi a b : Nat} {ds : List D} {cs : List C} (h : In a b S ds cs) (o : Out lo hi S S') (hd : b ≤ lo ∨ hi ≤ a) : In a b S' ds cs := by
  obtain ⟨ids, h, h1, h2⟩ := h
  exact ⟨ids, h.frame fun id hi => o.2 id (by have := h2 id hi; omega), h1, h2⟩
/-- what was there before stays -/
theorem Rd.out {lo hi : Nat} {ds : List D} {cs : List C} {S1 : Store} (h : Rd S1 ds cs) (e : Ext S1 S) (o : Out lo hi S S') (hl : S1.length ≤ lo) : Rd S' ds cs := by
  obtain ⟨ids, h⟩ := h
  exact ⟨ids, h.frame fun id hi => by have := h.lt id hi; rw [o.2 id (by omega), e.at this]⟩
/-- all of it was there when the store had hi rows -/
def Be (hi : Nat) (S : Store) (ds : List D) (cs : List C) : Prop := ∃ ids, RepL false S ds cs ids ∧ ∀ id ∈ ids, id < hi
theorem Rd.be {ds : List D} {cs : List C} (h : Rd S ds cs) : Be S.length S ds cs := by
  obtain ⟨ids, h⟩ := h
  exact ⟨ids, h, fun id hi => h.lt id hi⟩
theorem Be.rd {hi : Nat} {ds : List D} {cs : List C} (h : Be hi S ds cs) : Rd S ds cs := by obtain ⟨ids, h, _⟩ := h; exact ⟨ids, h⟩
theorem Be.ext {hi : Nat} {ds : List D} {cs : List C} (h : Be hi S ds cs) (e : Ext S S') : Be hi S' ds cs := by
  obtain ⟨ids, h, h2⟩ := h
  exact ⟨ids, h.frame fun id hi => e.at (h.lt id hi), h2⟩
theorem Be.out {lo hi b : Nat} {ds : List D} {cs : List C} (h : Be b S ds cs) (o : Out lo hi S S') (hd : b ≤ lo) : Be b S' ds cs := by
  obtain ⟨ids, h, h2⟩ := h
  exact ⟨ids, h.frame fun id hi => o.2 id (by have := h2 id hi; omega), h2⟩
theorem Out.len {lo hi : Nat} (o : Out lo hi S S') : S'.length = S.length := o.1
theorem Mk.out {lo hi : Nat} {ids : List Nat} (h : Mk ids S S') (hb : ∀ id ∈ ids, lo ≤ id ∧ id < hi) : Out lo hi S S' := ⟨h.1, fun id hi' => h.2 id fun g => by have := hb id g; omega⟩
theorem In.one {lo hi : Nat} {d : D} {c : C} (h : In lo hi S [d] [c]) : ∃ ids, Rep true S d c ids ∧ ids.Nodup ∧ ∀ id ∈ ids, lo ≤ id ∧ id < hi := by
  obtain ⟨ids, h, h1, h2⟩ := h
  rw [repL_cons] at h
  obtain ⟨c1, cs', i, j, g1, g2, g3, g4⟩ := h
  rw [repL_nil] at g4
  simp only [List.cons.injEq] at g1
  obtain ⟨g1, _⟩ := g1
  obtain ⟨_, g5⟩ := g4
  subst g1; subst g5
  rw [List.append_nil] at g2
  subst g2
  exact ⟨_, g3, h1, h2⟩
end
theorem GNode.cnt (x : GNode) : cntL x.d = 5 := by
  simp only [GNode.d, cntL, cntD]
theorem GNode.cT (x : GNode) : cntT x.d = 0 := by
  simp only [GNode.d, Go.Proofs.Ytfkfoidojmjacaa.cntT]
theorem GNode.cntb (x : GNode) : cntL x.d ≤ 32 + 32 * szL x.d := by
  rw [GNode.cnt]
  simp only [GNode.d, szL, List.length_map]; omega
theorem GNode.cntTb (x : GNode) : cntT x.d ≤ 32 * szL x.d := by
  rw [GNode.cT]
  simp only [GNode.d, szL, List.length_map]; omega
theorem GNode.mkL (x : GNode) (k : Int) : mkL x.d k = [.x (.int .i64 (k)), .x (.int .i64 (k + 1)), .x (.int .i64 (k + 1 + 1)), .x (.int .i64 (k + 1 + 1 + 1)), .x (.int .i64 (k + 1 + 1 + 1 + 1))] := rfl
theorem GNode.mkT (x : GNode) (k : Int) : mkT x.d k = [.x (.int .i64 x.Id), .x (.int .i64 x.Parent), .x (.int .i64 x.Tag), .x (.int .i64 x.Text), .x (.int .i64 x.By)] := rfl
def GNode.m (k : Int) : GNode := ⟨k, k + 1, k + 1 + 1, k + 1 + 1 + 1, k + 1 + 1 + 1 + 1⟩
theorem GNode.mk' (x : GNode) (k : Int) : Go.Proofs.Ytfkfoidojmjacaa.mkL x.d k = (GNode.m k).d := rfl
theorem GEdit.cnt (x : GEdit) : cntL x.d = 6 := by
  simp only [GEdit.d, cntL, cntD]
theorem GEdit.cT (x : GEdit) : cntT x.d = 0 := by
  simp only [GEdit.d, Go.Proofs.Ytfkfoidojmjacaa.cntT]
theorem GEdit.cntb (x : GEdit) : cntL x.d ≤ 32 + 32 * szL x.d := by
  rw [GEdit.cnt]
  simp only [GEdit.d, szL, List.length_map]; omega
theorem GEdit.cntTb (x : GEdit) : cntT x.d ≤ 32 * szL x.d := by
  rw [GEdit.cT]
  simp only [GEdit.d, szL, List.length_map]; omega
theorem GEdit.mkL (x : GEdit) (k : Int) : mkL x.d k = [.x (.int .i64 (k)), .x (.int .i64 (k + 1)), .x (.int .i64 (k + 1 + 1)), .x (.int .i64 (k + 1 + 1 + 1)), .x (.int .i64 (k + 1 + 1 + 1 + 1)), .x (.int .i64 (k + 1 + 1 + 1 + 1 + 1))] := rfl
theorem GEdit.mkT (x : GEdit) (k : Int) : mkT x.d k = [.x (.int .i64 x.Kind), .x (.int .i64 x.Node), .x (.int .i64 x.Parent), .x (.int .i64 x.Tag), .x (.int .i64 x.Text), .x (.int .i64 x.By)] := rfl
def GEdit.m (k : Int) : GEdit := ⟨k, k + 1, k + 1 + 1, k + 1 + 1 + 1, k + 1 + 1 + 1 + 1, k + 1 + 1 + 1 + 1 + 1⟩
theorem GEdit.mk' (x : GEdit) (k : Int) : Go.Proofs.Ytfkfoidojmjacaa.mkL x.d k = (GEdit.m k).d := rfl
theorem GSite.cnt (x : GSite) : cntL x.d = 2 := by
  simp only [GSite.d, cntL, cntD]
theorem GSite.cT (x : GSite) : cntT x.d = 0 := by
  simp only [GSite.d, Go.Proofs.Ytfkfoidojmjacaa.cntT]
theorem GSite.cntb (x : GSite) : cntL x.d ≤ 32 + 32 * szL x.d := by
  rw [GSite.cnt]
  simp only [GSite.d, szL, List.length_map]; omega
theorem GSite.cntTb (x : GSite) : cntT x.d ≤ 32 * szL x.d := by
  rw [GSite.cT]
  simp only [GSite.d, szL, List.length_map]; omega
theorem GSite.mkL (x : GSite) (k : Int) : mkL x.d k = [.x (.int .i64 (k)), .x (.int .i64 (k + 1))] := rfl
theorem GSite.mkT (x : GSite) (k : Int) : mkT x.d k = [.x (.int .i64 x.Owner), .x (.int .i64 x.Sub)] := rfl
def GSite.m (k : Int) : GSite := ⟨k, k + 1⟩
theorem GSite.mk' (x : GSite) (k : Int) : Go.Proofs.Ytfkfoidojmjacaa.mkL x.d k = (GSite.m k).d := rfl
theorem GPattern.cnt (x : GPattern) : cntL x.d = 2 := by
  simp only [GPattern.d, cntL, cntD]
theorem GPattern.cT (x : GPattern) : cntT x.d = 0 := by
  simp only [GPattern.d, Go.Proofs.Ytfkfoidojmjacaa.cntT]
theorem GPattern.cntb (x : GPattern) : cntL x.d ≤ 32 + 32 * szL x.d := by
  rw [GPattern.cnt]
  simp only [GPattern.d, szL, List.length_map]; omega
theorem GPattern.cntTb (x : GPattern) : cntT x.d ≤ 32 * szL x.d := by
  rw [GPattern.cT]
  simp only [GPattern.d, szL, List.length_map]; omega
theorem GPattern.mkL (x : GPattern) (k : Int) : mkL x.d k = [.x (.int .i64 (k)), .x (.int .i64 (k + 1))] := rfl
theorem GPattern.mkT (x : GPattern) (k : Int) : mkT x.d k = [.x (.int .i64 x.Owner), .x (.int .i64 x.Sub)] := rfl
def GPattern.m (k : Int) : GPattern := ⟨k, k + 1⟩
theorem GPattern.mk' (x : GPattern) (k : Int) : Go.Proofs.Ytfkfoidojmjacaa.mkL x.d k = (GPattern.m k).d := rfl
theorem GGrant.cnt (x : GGrant) : cntL x.d = 7 := by
  simp only [GGrant.d, cntL, cntD]
theorem GGrant.cT (x : GGrant) : cntT x.d = 0 := by
  simp only [GGrant.d, Go.Proofs.Ytfkfoidojmjacaa.cntT]
theorem GGrant.cntb (x : GGrant) : cntL x.d ≤ 32 + 32 * szL x.d := by
  rw [GGrant.cnt]
  simp only [GGrant.d, szL, List.length_map]; omega
theorem GGrant.cntTb (x : GGrant) : cntT x.d ≤ 32 * szL x.d := by
  rw [GGrant.cT]
  simp only [GGrant.d, szL, List.length_map]; omega
theorem GGrant.mkL (x : GGrant) (k : Int) : mkL x.d k = [.x (.int .i64 (k)), .x (.int .i64 (k + 1)), .x (.int .i64 (k + 1 + 1)), .x (.int .i64 (k + 1 + 1 + 1)), .x (.int .i64 (k + 1 + 1 + 1 + 1)), .x (.int .i64 (k + 1 + 1 + 1 + 1 + 1)), .x (.bool (decide (Int.tmod (k + 1 + 1 + 1 + 1 + 1 + 1) 3 = 0)))] := rfl
theorem GGrant.mkT (x : GGrant) (k : Int) : mkT x.d k = [.x (.int .i64 x.Ext), .x (.int .i64 x.Pattern.Owner), .x (.int .i64 x.Pattern.Sub), .x (.int .i64 x.Kind), .x (.int .i64 x.From), .x (.int .i64 x.Until), .x (.bool x.Click)] := rfl
def GGrant.m (k : Int) : GGrant := ⟨k, ⟨k + 1, k + 1 + 1⟩, k + 1 + 1 + 1, k + 1 + 1 + 1 + 1, k + 1 + 1 + 1 + 1 + 1, decide (Int.tmod (k + 1 + 1 + 1 + 1 + 1 + 1) 3 = 0)⟩
theorem GGrant.mk' (x : GGrant) (k : Int) : Go.Proofs.Ytfkfoidojmjacaa.mkL x.d k = (GGrant.m k).d := rfl
theorem GLimit.cnt (x : GLimit) : cntL x.d = 4 := by
  simp only [GLimit.d, cntL, cntD]
theorem GLimit.cT (x : GLimit) : cntT x.d = 0 := by
  simp only [GLimit.d, Go.Proofs.Ytfkfoidojmjacaa.cntT]
theorem GLimit.cntb (x : GLimit) : cntL x.d ≤ 32 + 32 * szL x.d := by
  rw [GLimit.cnt]
  simp only [GLimit.d, szL, List.length_map]; omega
theorem GLimit.cntTb (x : GLimit) : cntT x.d ≤ 32 * szL x.d := by
  rw [GLimit.cT]
  simp only [GLimit.d, szL, List.length_map]; omega
theorem GLimit.mkL (x : GLimit) (k : Int) : mkL x.d k = [.x (.int .i64 (k)), .x (.int .i64 (k + 1)), .x (.int .i64 (k + 1 + 1)), .x (.int .i64 (k + 1 + 1 + 1))] := rfl
theorem GLimit.mkT (x : GLimit) (k : Int) : mkT x.d k = [.x (.int .i64 x.Ext), .x (.int .i64 x.Pattern.Owner), .x (.int .i64 x.Pattern.Sub), .x (.int .i64 x.Kind)] := rfl
def GLimit.m (k : Int) : GLimit := ⟨k, ⟨k + 1, k + 1 + 1⟩, k + 1 + 1 + 1⟩
theorem GLimit.mk' (x : GLimit) (k : Int) : Go.Proofs.Ytfkfoidojmjacaa.mkL x.d k = (GLimit.m k).d := rfl
theorem GRule.cnt (x : GRule) : cntL x.d = 8 := by
  simp only [GRule.d, cntL, cntD]
theorem GRule.cT (x : GRule) : cntT x.d = 0 := by
  simp only [GRule.d, Go.Proofs.Ytfkfoidojmjacaa.cntT]
theorem GRule.cntb (x : GRule) : cntL x.d ≤ 32 + 32 * szL x.d := by
  rw [GRule.cnt]
  simp only [GRule.d, szL, List.length_map]; omega
theorem GRule.cntTb (x : GRule) : cntT x.d ≤ 32 * szL x.d := by
  rw [GRule.cT]
  simp only [GRule.d, szL, List.length_map]; omega
theorem GRule.mkL (x : GRule) (k : Int) : mkL x.d k = [.x (.int .i64 (k)), .x (.int .i64 (k + 1)), .x (.int .i64 (k + 1 + 1)), .x (.int .i64 (k + 1 + 1 + 1)), .x (.int .i64 (k + 1 + 1 + 1 + 1)), .x (.int .i64 (k + 1 + 1 + 1 + 1 + 1)), .x (.int .i64 (k + 1 + 1 + 1 + 1 + 1 + 1)), .x (.int .i64 (k + 1 + 1 + 1 + 1 + 1 + 1 + 1))] := rfl
theorem GRule.mkT (x : GRule) (k : Int) : mkT x.d k = [.x (.int .i64 x.Ext), .x (.int .i64 x.Prio), .x (.int .i64 x.Pattern.Owner), .x (.int .i64 x.Pattern.Sub), .x (.int .i64 x.Sort'), .x (.int .i64 x.Action), .x (.int .i64 x.To.Owner), .x (.int .i64 x.To.Sub)] := rfl
def GRule.m (k : Int) : GRule := ⟨k, k + 1, ⟨k + 1 + 1, k + 1 + 1 + 1⟩, k + 1 + 1 + 1 + 1, k + 1 + 1 + 1 + 1 + 1, ⟨k + 1 + 1 + 1 + 1 + 1 + 1, k + 1 + 1 + 1 + 1 + 1 + 1 + 1⟩⟩
theorem GRule.mk' (x : GRule) (k : Int) : Go.Proofs.Ytfkfoidojmjacaa.mkL x.d k = (GRule.m k).d := rfl
theorem GRequest.cnt (x : GRequest) : cntL x.d = 3 := by
  simp only [GRequest.d, cntL, cntD]
theorem GRequest.cT (x : GRequest) : cntT x.d = 0 := by
  simp only [GRequest.d, Go.Proofs.Ytfkfoidojmjacaa.cntT]
theorem GRequest.cntb (x : GRequest) : cntL x.d ≤ 32 + 32 * szL x.d := by
  rw [GRequest.cnt]
  simp only [GRequest.d, szL, List.length_map]; omega
theorem GRequest.cntTb (x : GRequest) : cntT x.d ≤ 32 * szL x.d := by
  rw [GRequest.cT]
  simp only [GRequest.d, szL, List.length_map]; omega
theorem GRequest.mkL (x : GRequest) (k : Int) : mkL x.d k = [.x (.int .i64 (k)), .x (.int .i64 (k + 1)), .x (.int .i64 (k + 1 + 1))] := rfl
theorem GRequest.mkT (x : GRequest) (k : Int) : mkT x.d k = [.x (.int .i64 x.Site.Owner), .x (.int .i64 x.Site.Sub), .x (.int .i64 x.Sort')] := rfl
def GRequest.m (k : Int) : GRequest := ⟨⟨k, k + 1⟩, k + 1 + 1⟩
theorem GRequest.mk' (x : GRequest) (k : Int) : Go.Proofs.Ytfkfoidojmjacaa.mkL x.d k = (GRequest.m k).d := rfl
theorem GOutcome.cnt (x : GOutcome) : cntL x.d = 3 + cntE (x.Path.map GSite.d) := by
  simp only [GOutcome.d, cntL, cntD]; omega
theorem GOutcome.cT (x : GOutcome) : cntT x.d = cntE (x.Path.map GSite.d) := by
  simp only [GOutcome.d, Go.Proofs.Ytfkfoidojmjacaa.cntT]; try omega
theorem GOutcome.cntb (x : GOutcome) : cntL x.d ≤ 32 + 32 * szL x.d := by
  rw [GOutcome.cnt]
  have b0 := cntE_bd (f := GSite.d) GSite.cntb (x.Path)
  simp only [GOutcome.d, szL, List.length_map]; omega
theorem GOutcome.cntTb (x : GOutcome) : cntT x.d ≤ 32 * szL x.d := by
  rw [GOutcome.cT]
  have b0 := cntE_bd (f := GSite.d) GSite.cntb (x.Path)
  simp only [GOutcome.d, szL, List.length_map]; omega
theorem GOutcome.mkL (x : GOutcome) (k : Int) : mkL x.d k = [.x (.int .i64 (k)), .x (.int .i64 (k + 1)), .x (.int .i64 (k + 1 + 1)), .sl 2 (mkE (x.Path.map GSite.d) (k + 1 + 1 + 1))] := rfl
theorem GOutcome.mkT (x : GOutcome) (k : Int) : mkT x.d k = [.x (.int .i64 x.Code), .x (.int .i64 x.Site.Owner), .x (.int .i64 x.Site.Sub), .sl 2 (mkE (x.Path.map GSite.d) (k))] := rfl
theorem GFlow.cnt (x : GFlow) : cntL x.d = 3 := by
  simp only [GFlow.d, cntL, cntD]
theorem GFlow.cT (x : GFlow) : cntT x.d = 0 := by
  simp only [GFlow.d, Go.Proofs.Ytfkfoidojmjacaa.cntT]
theorem GFlow.cntb (x : GFlow) : cntL x.d ≤ 32 + 32 * szL x.d := by
  rw [GFlow.cnt]
  simp only [GFlow.d, szL, List.length_map]; omega
theorem GFlow.cntTb (x : GFlow) : cntT x.d ≤ 32 * szL x.d := by
  rw [GFlow.cT]
  simp only [GFlow.d, szL, List.length_map]; omega
theorem GFlow.mkL (x : GFlow) (k : Int) : mkL x.d k = [.x (.int .i64 (k)), .x (.int .i64 (k + 1)), .x (.int .i64 (k + 1 + 1))] := rfl
theorem GFlow.mkT (x : GFlow) (k : Int) : mkT x.d k = [.x (.int .i64 x.Ext), .x (.int .i64 x.From), .x (.int .i64 x.To)] := rfl
def GFlow.m (k : Int) : GFlow := ⟨k, k + 1, k + 1 + 1⟩
theorem GFlow.mk' (x : GFlow) (k : Int) : Go.Proofs.Ytfkfoidojmjacaa.mkL x.d k = (GFlow.m k).d := rfl
theorem GOp.cnt (x : GOp) : cntL x.d = 4 := by
  simp only [GOp.d, cntL, cntD]
theorem GOp.cT (x : GOp) : cntT x.d = 0 := by
  simp only [GOp.d, Go.Proofs.Ytfkfoidojmjacaa.cntT]
theorem GOp.cntb (x : GOp) : cntL x.d ≤ 32 + 32 * szL x.d := by
  rw [GOp.cnt]
  simp only [GOp.d, szL, List.length_map]; omega
theorem GOp.cntTb (x : GOp) : cntT x.d ≤ 32 * szL x.d := by
  rw [GOp.cT]
  simp only [GOp.d, szL, List.length_map]; omega
theorem GOp.mkL (x : GOp) (k : Int) : mkL x.d k = [.x (.int .i64 (k)), .x (.int .i64 (k + 1)), .x (.int .i64 (k + 1 + 1)), .x (.int .i64 (k + 1 + 1 + 1))] := rfl
theorem GOp.mkT (x : GOp) (k : Int) : mkT x.d k = [.x (.int .i64 x.Kind), .x (.int .i64 x.A), .x (.int .i64 x.B), .x (.int .i64 x.C)] := rfl
def GOp.m (k : Int) : GOp := ⟨k, k + 1, k + 1 + 1, k + 1 + 1 + 1⟩
theorem GOp.mk' (x : GOp) (k : Int) : Go.Proofs.Ytfkfoidojmjacaa.mkL x.d k = (GOp.m k).d := rfl
theorem GSent.cnt (x : GSent) : cntL x.d = 3 := by
  simp only [GSent.d, cntL, cntD]
theorem GSent.cT (x : GSent) : cntT x.d = 0 := by
  simp only [GSent.d, Go.Proofs.Ytfkfoidojmjacaa.cntT]
theorem GSent.cntb (x : GSent) : cntL x.d ≤ 32 + 32 * szL x.d := by
  rw [GSent.cnt]
  simp only [GSent.d, szL, List.length_map]; omega
theorem GSent.cntTb (x : GSent) : cntT x.d ≤ 32 * szL x.d := by
  rw [GSent.cT]
  simp only [GSent.d, szL, List.length_map]; omega
theorem GSent.mkL (x : GSent) (k : Int) : mkL x.d k = [.x (.int .i64 (k)), .x (.int .i64 (k + 1)), .x (.int .i64 (k + 1 + 1))] := rfl
theorem GSent.mkT (x : GSent) (k : Int) : mkT x.d k = [.x (.int .i64 x.To), .x (.int .i64 x.Value), .x (.int .i64 x.Label)] := rfl
def GSent.m (k : Int) : GSent := ⟨k, k + 1, k + 1 + 1⟩
theorem GSent.mk' (x : GSent) (k : Int) : Go.Proofs.Ytfkfoidojmjacaa.mkL x.d k = (GSent.m k).d := rfl
theorem GLetter.cnt (x : GLetter) : cntL x.d = 4 := by
  simp only [GLetter.d, cntL, cntD]
theorem GLetter.cT (x : GLetter) : cntT x.d = 0 := by
  simp only [GLetter.d, Go.Proofs.Ytfkfoidojmjacaa.cntT]
theorem GLetter.cntb (x : GLetter) : cntL x.d ≤ 32 + 32 * szL x.d := by
  rw [GLetter.cnt]
  simp only [GLetter.d, szL, List.length_map]; omega
theorem GLetter.cntTb (x : GLetter) : cntT x.d ≤ 32 * szL x.d := by
  rw [GLetter.cT]
  simp only [GLetter.d, szL, List.length_map]; omega
theorem GLetter.mkL (x : GLetter) (k : Int) : mkL x.d k = [.x (.int .i64 (k)), .x (.int .i64 (k + 1)), .x (.int .i64 (k + 1 + 1)), .x (.int .i64 (k + 1 + 1 + 1))] := rfl
theorem GLetter.mkT (x : GLetter) (k : Int) : mkT x.d k = [.x (.int .i64 x.From), .x (.int .i64 x.To), .x (.int .i64 x.Body), .x (.int .i64 x.Seal)] := rfl
def GLetter.m (k : Int) : GLetter := ⟨k, k + 1, k + 1 + 1, k + 1 + 1 + 1⟩
theorem GLetter.mk' (x : GLetter) (k : Int) : Go.Proofs.Ytfkfoidojmjacaa.mkL x.d k = (GLetter.m k).d := rfl
theorem GStored.cnt (x : GStored) : cntL x.d = 4 := by
  simp only [GStored.d, cntL, cntD]
theorem GStored.cT (x : GStored) : cntT x.d = 0 := by
  simp only [GStored.d, Go.Proofs.Ytfkfoidojmjacaa.cntT]
theorem GStored.cntb (x : GStored) : cntL x.d ≤ 32 + 32 * szL x.d := by
  rw [GStored.cnt]
  simp only [GStored.d, szL, List.length_map]; omega
theorem GStored.cntTb (x : GStored) : cntT x.d ≤ 32 * szL x.d := by
  rw [GStored.cT]
  simp only [GStored.d, szL, List.length_map]; omega
theorem GStored.mkL (x : GStored) (k : Int) : mkL x.d k = [.x (.int .i64 (k)), .x (.int .i64 (k + 1)), .x (.int .i64 (k + 1 + 1)), .x (.int .i64 (k + 1 + 1 + 1))] := rfl
theorem GStored.mkT (x : GStored) (k : Int) : mkT x.d k = [.x (.int .i64 x.Ext), .x (.int .i64 x.Name), .x (.int .i64 x.Value), .x (.int .i64 x.Ver)] := rfl
def GStored.m (k : Int) : GStored := ⟨k, k + 1, k + 1 + 1, k + 1 + 1 + 1⟩
theorem GStored.mk' (x : GStored) (k : Int) : Go.Proofs.Ytfkfoidojmjacaa.mkL x.d k = (GStored.m k).d := rfl
theorem GWindow.cnt (x : GWindow) : cntL x.d = 1 + cntE (x.Base.map GStored.d) + cntE (x.Own.map GStored.d) := by
  simp only [GWindow.d, cntL, cntD]; omega
theorem GWindow.cT (x : GWindow) : cntT x.d = cntE (x.Base.map GStored.d) + cntE (x.Own.map GStored.d) := by
  simp only [GWindow.d, Go.Proofs.Ytfkfoidojmjacaa.cntT]; try omega
theorem GWindow.cntb (x : GWindow) : cntL x.d ≤ 32 + 32 * szL x.d := by
  rw [GWindow.cnt]
  have b0 := cntE_bd (f := GStored.d) GStored.cntb (x.Base)
  have b1 := cntE_bd (f := GStored.d) GStored.cntb (x.Own)
  simp only [GWindow.d, szL, List.length_map]; omega
theorem GWindow.cntTb (x : GWindow) : cntT x.d ≤ 32 * szL x.d := by
  rw [GWindow.cT]
  have b0 := cntE_bd (f := GStored.d) GStored.cntb (x.Base)
  have b1 := cntE_bd (f := GStored.d) GStored.cntb (x.Own)
  simp only [GWindow.d, szL, List.length_map]; omega
theorem GWindow.mkL (x : GWindow) (k : Int) : mkL x.d k = [.x (.bool (decide (Int.tmod (k) 3 = 0))), .sl 4 (mkE (x.Base.map GStored.d) (k + 1)), .sl 4 (mkE (x.Own.map GStored.d) (k + 1 + (cntE (x.Base.map GStored.d) : Int)))] := rfl
theorem GWindow.mkT (x : GWindow) (k : Int) : mkT x.d k = [.x (.bool x.Private), .sl 4 (mkE (x.Base.map GStored.d) (k)), .sl 4 (mkE (x.Own.map GStored.d) (k + (cntE (x.Base.map GStored.d) : Int)))] := rfl
theorem GPackage.cnt (x : GPackage) : cntL x.d = 4 + cntE (x.Grants.map GGrant.d) + cntE (x.Flows.map GFlow.d) + cntE (x.Rules.map GRule.d) + cntE (x.Ops.map GOp.d) := by
  simp only [GPackage.d, cntL, cntD]; omega
theorem GPackage.cT (x : GPackage) : cntT x.d = cntE (x.Grants.map GGrant.d) + cntE (x.Flows.map GFlow.d) + cntE (x.Rules.map GRule.d) + cntE (x.Ops.map GOp.d) := by
  simp only [GPackage.d, Go.Proofs.Ytfkfoidojmjacaa.cntT]; try omega
theorem GPackage.cntb (x : GPackage) : cntL x.d ≤ 32 + 32 * szL x.d := by
  rw [GPackage.cnt]
  have b0 := cntE_bd (f := GGrant.d) GGrant.cntb (x.Grants)
  have b1 := cntE_bd (f := GFlow.d) GFlow.cntb (x.Flows)
  have b2 := cntE_bd (f := GRule.d) GRule.cntb (x.Rules)
  have b3 := cntE_bd (f := GOp.d) GOp.cntb (x.Ops)
  simp only [GPackage.d, szL, List.length_map]; omega
theorem GPackage.cntTb (x : GPackage) : cntT x.d ≤ 32 * szL x.d := by
  rw [GPackage.cT]
  have b0 := cntE_bd (f := GGrant.d) GGrant.cntb (x.Grants)
  have b1 := cntE_bd (f := GFlow.d) GFlow.cntb (x.Flows)
  have b2 := cntE_bd (f := GRule.d) GRule.cntb (x.Rules)
  have b3 := cntE_bd (f := GOp.d) GOp.cntb (x.Ops)
  simp only [GPackage.d, szL, List.length_map]; omega
theorem GPackage.mkL (x : GPackage) (k : Int) : mkL x.d k = [.x (.int .i64 (k)), .x (.int .i64 (k + 1)), .x (.int .i64 (k + 1 + 1)), .sl 7 (mkE (x.Grants.map GGrant.d) (k + 1 + 1 + 1)), .sl 3 (mkE (x.Flows.map GFlow.d) (k + 1 + 1 + 1 + (cntE (x.Grants.map GGrant.d) : Int))), .sl 8 (mkE (x.Rules.map GRule.d) (k + 1 + 1 + 1 + (cntE (x.Grants.map GGrant.d) : Int) + (cntE (x.Flows.map GFlow.d) : Int))), .sl 4 (mkE (x.Ops.map GOp.d) (k + 1 + 1 + 1 + (cntE (x.Grants.map GGrant.d) : Int) + (cntE (x.Flows.map GFlow.d) : Int) + (cntE (x.Rules.map GRule.d) : Int))), .x (.int .i64 (k + 1 + 1 + 1 + (cntE (x.Grants.map GGrant.d) : Int) + (cntE (x.Flows.map GFlow.d) : Int) + (cntE (x.Rules.map GRule.d) : Int) + (cntE (x.Ops.map GOp.d) : Int)))] := rfl
theorem GPackage.mkT (x : GPackage) (k : Int) : mkT x.d k = [.x (.int .i64 x.Ext), .x (.int .i64 x.Author), .x (.int .i64 x.Version), .sl 7 (mkE (x.Grants.map GGrant.d) (k)), .sl 3 (mkE (x.Flows.map GFlow.d) (k + (cntE (x.Grants.map GGrant.d) : Int))), .sl 8 (mkE (x.Rules.map GRule.d) (k + (cntE (x.Grants.map GGrant.d) : Int) + (cntE (x.Flows.map GFlow.d) : Int))), .sl 4 (mkE (x.Ops.map GOp.d) (k + (cntE (x.Grants.map GGrant.d) : Int) + (cntE (x.Flows.map GFlow.d) : Int) + (cntE (x.Rules.map GRule.d) : Int))), .x (.int .i64 x.Seal)] := rfl
theorem GDeed.cnt (x : GDeed) : cntL x.d = 5 := by
  simp only [GDeed.d, cntL, cntD]
theorem GDeed.cT (x : GDeed) : cntT x.d = 0 := by
  simp only [GDeed.d, Go.Proofs.Ytfkfoidojmjacaa.cntT]
theorem GDeed.cntb (x : GDeed) : cntL x.d ≤ 32 + 32 * szL x.d := by
  rw [GDeed.cnt]
  simp only [GDeed.d, szL, List.length_map]; omega
theorem GDeed.cntTb (x : GDeed) : cntT x.d ≤ 32 * szL x.d := by
  rw [GDeed.cT]
  simp only [GDeed.d, szL, List.length_map]; omega
theorem GDeed.mkL (x : GDeed) (k : Int) : mkL x.d k = [.x (.int .i64 (k)), .x (.int .i64 (k + 1)), .x (.int .i64 (k + 1 + 1)), .x (.int .i64 (k + 1 + 1 + 1)), .x (.int .i64 (k + 1 + 1 + 1 + 1))] := rfl
theorem GDeed.mkT (x : GDeed) (k : Int) : mkT x.d k = [.x (.int .i64 x.Ext), .x (.int .i64 x.From), .x (.int .i64 x.To), .x (.int .i64 x.SealFrom), .x (.int .i64 x.SealTo)] := rfl
def GDeed.m (k : Int) : GDeed := ⟨k, k + 1, k + 1 + 1, k + 1 + 1 + 1, k + 1 + 1 + 1 + 1⟩
theorem GDeed.mk' (x : GDeed) (k : Int) : Go.Proofs.Ytfkfoidojmjacaa.mkL x.d k = (GDeed.m k).d := rfl
theorem GSnapshot.cnt (x : GSnapshot) : cntL x.d = 4 + cntE (x.Package.Grants.map GGrant.d) + cntE (x.Package.Flows.map GFlow.d) + cntE (x.Package.Rules.map GRule.d) + cntE (x.Package.Ops.map GOp.d) + cntE (x.Entries.map GStored.d) := by
  simp only [GSnapshot.d, cntL, cntD]; omega
theorem GSnapshot.cT (x : GSnapshot) : cntT x.d = cntE (x.Package.Grants.map GGrant.d) + cntE (x.Package.Flows.map GFlow.d) + cntE (x.Package.Rules.map GRule.d) + cntE (x.Package.Ops.map GOp.d) + cntE (x.Entries.map GStored.d) := by
  simp only [GSnapshot.d, Go.Proofs.Ytfkfoidojmjacaa.cntT]; try omega
theorem GSnapshot.cntb (x : GSnapshot) : cntL x.d ≤ 32 + 32 * szL x.d := by
  rw [GSnapshot.cnt]
  have b0 := cntE_bd (f := GGrant.d) GGrant.cntb (x.Package.Grants)
  have b1 := cntE_bd (f := GFlow.d) GFlow.cntb (x.Package.Flows)
  have b2 := cntE_bd (f := GRule.d) GRule.cntb (x.Package.Rules)
  have b3 := cntE_bd (f := GOp.d) GOp.cntb (x.Package.Ops)
  have b4 := cntE_bd (f := GStored.d) GStored.cntb (x.Entries)
  simp only [GSnapshot.d, szL, List.length_map]; omega
theorem GSnapshot.cntTb (x : GSnapshot) : cntT x.d ≤ 32 * szL x.d := by
  rw [GSnapshot.cT]
  have b0 := cntE_bd (f := GGrant.d) GGrant.cntb (x.Package.Grants)
  have b1 := cntE_bd (f := GFlow.d) GFlow.cntb (x.Package.Flows)
  have b2 := cntE_bd (f := GRule.d) GRule.cntb (x.Package.Rules)
  have b3 := cntE_bd (f := GOp.d) GOp.cntb (x.Package.Ops)
  have b4 := cntE_bd (f := GStored.d) GStored.cntb (x.Entries)
  simp only [GSnapshot.d, szL, List.length_map]; omega
theorem GSnapshot.mkL (x : GSnapshot) (k : Int) : mkL x.d k = [.x (.int .i64 (k)), .x (.int .i64 (k + 1)), .x (.int .i64 (k + 1 + 1)), .sl 7 (mkE (x.Package.Grants.map GGrant.d) (k + 1 + 1 + 1)), .sl 3 (mkE (x.Package.Flows.map GFlow.d) (k + 1 + 1 + 1 + (cntE (x.Package.Grants.map GGrant.d) : Int))), .sl 8 (mkE (x.Package.Rules.map GRule.d) (k + 1 + 1 + 1 + (cntE (x.Package.Grants.map GGrant.d) : Int) + (cntE (x.Package.Flows.map GFlow.d) : Int))), .sl 4 (mkE (x.Package.Ops.map GOp.d) (k + 1 + 1 + 1 + (cntE (x.Package.Grants.map GGrant.d) : Int) + (cntE (x.Package.Flows.map GFlow.d) : Int) + (cntE (x.Package.Rules.map GRule.d) : Int))), .x (.int .i64 (k + 1 + 1 + 1 + (cntE (x.Package.Grants.map GGrant.d) : Int) + (cntE (x.Package.Flows.map GFlow.d) : Int) + (cntE (x.Package.Rules.map GRule.d) : Int) + (cntE (x.Package.Ops.map GOp.d) : Int))), .sl 4 (mkE (x.Entries.map GStored.d) (k + 1 + 1 + 1 + (cntE (x.Package.Grants.map GGrant.d) : Int) + (cntE (x.Package.Flows.map GFlow.d) : Int) + (cntE (x.Package.Rules.map GRule.d) : Int) + (cntE (x.Package.Ops.map GOp.d) : Int) + 1))] := rfl
theorem GSnapshot.mkT (x : GSnapshot) (k : Int) : mkT x.d k = [.x (.int .i64 x.Package.Ext), .x (.int .i64 x.Package.Author), .x (.int .i64 x.Package.Version), .sl 7 (mkE (x.Package.Grants.map GGrant.d) (k)), .sl 3 (mkE (x.Package.Flows.map GFlow.d) (k + (cntE (x.Package.Grants.map GGrant.d) : Int))), .sl 8 (mkE (x.Package.Rules.map GRule.d) (k + (cntE (x.Package.Grants.map GGrant.d) : Int) + (cntE (x.Package.Flows.map GFlow.d) : Int))), .sl 4 (mkE (x.Package.Ops.map GOp.d) (k + (cntE (x.Package.Grants.map GGrant.d) : Int) + (cntE (x.Package.Flows.map GFlow.d) : Int) + (cntE (x.Package.Rules.map GRule.d) : Int))), .x (.int .i64 x.Package.Seal), .sl 4 (mkE (x.Entries.map GStored.d) (k + (cntE (x.Package.Grants.map GGrant.d) : Int) + (cntE (x.Package.Flows.map GFlow.d) : Int) + (cntE (x.Package.Rules.map GRule.d) : Int) + (cntE (x.Package.Ops.map GOp.d) : Int)))] := rfl
theorem GTab.cnt (x : GTab) : cntL x.d = 3 + cntE (x.Base.map GNode.d) + cntE (x.Edits.map GEdit.d) + cntE (x.Hidden.map dInt) := by
  simp only [GTab.d, cntL, cntD]; omega
theorem GTab.cT (x : GTab) : cntT x.d = cntE (x.Base.map GNode.d) + cntE (x.Edits.map GEdit.d) + cntE (x.Hidden.map dInt) := by
  simp only [GTab.d, Go.Proofs.Ytfkfoidojmjacaa.cntT]; try omega
theorem GTab.cntb (x : GTab) : cntL x.d ≤ 32 + 32 * szL x.d := by
  rw [GTab.cnt]
  have b0 := cntE_bd (f := GNode.d) GNode.cntb (x.Base)
  have b1 := cntE_bd (f := GEdit.d) GEdit.cntb (x.Edits)
  have b2 := cntE_bd (f := dInt) cntb_int (x.Hidden)
  simp only [GTab.d, szL, List.length_map]; omega
theorem GTab.cntTb (x : GTab) : cntT x.d ≤ 32 * szL x.d := by
  rw [GTab.cT]
  have b0 := cntE_bd (f := GNode.d) GNode.cntb (x.Base)
  have b1 := cntE_bd (f := GEdit.d) GEdit.cntb (x.Edits)
  have b2 := cntE_bd (f := dInt) cntb_int (x.Hidden)
  simp only [GTab.d, szL, List.length_map]; omega
theorem GTab.mkL (x : GTab) (k : Int) : mkL x.d k = [.x (.int .i64 (k)), .x (.int .i64 (k + 1)), .sl 5 (mkE (x.Base.map GNode.d) (k + 1 + 1)), .sl 6 (mkE (x.Edits.map GEdit.d) (k + 1 + 1 + (cntE (x.Base.map GNode.d) : Int))), .sl 1 (mkE (x.Hidden.map dInt) (k + 1 + 1 + (cntE (x.Base.map GNode.d) : Int) + (cntE (x.Edits.map GEdit.d) : Int))), .x (.int .i64 (k + 1 + 1 + (cntE (x.Base.map GNode.d) : Int) + (cntE (x.Edits.map GEdit.d) : Int) + (cntE (x.Hidden.map dInt) : Int)))] := rfl
theorem GTab.mkT (x : GTab) (k : Int) : mkT x.d k = [.x (.int .i64 x.Site.Owner), .x (.int .i64 x.Site.Sub), .sl 5 (mkE (x.Base.map GNode.d) (k)), .sl 6 (mkE (x.Edits.map GEdit.d) (k + (cntE (x.Base.map GNode.d) : Int))), .sl 1 (mkE (x.Hidden.map dInt) (k + (cntE (x.Base.map GNode.d) : Int) + (cntE (x.Edits.map GEdit.d) : Int))), .x (.int .i64 x.Click)] := rfl
theorem GBrowser.cnt (x : GBrowser) : cntL x.d = 2 + cntE (x.Tabs.map GTab.d) + cntE (x.Packs.map GPackage.d) + cntE (x.Grants.map GGrant.d) + cntE (x.Limits.map GLimit.d) + cntE (x.Rules.map GRule.d) + cntE (x.Store.map GStored.d) := by
  simp only [GBrowser.d, cntL, cntD]; omega
theorem GBrowser.cT (x : GBrowser) : cntT x.d = cntE (x.Tabs.map GTab.d) + cntE (x.Packs.map GPackage.d) + cntE (x.Grants.map GGrant.d) + cntE (x.Limits.map GLimit.d) + cntE (x.Rules.map GRule.d) + cntE (x.Store.map GStored.d) := by
  simp only [GBrowser.d, Go.Proofs.Ytfkfoidojmjacaa.cntT]; try omega
theorem GBrowser.cntb (x : GBrowser) : cntL x.d ≤ 32 + 32 * szL x.d := by
  rw [GBrowser.cnt]
  have b0 := cntE_bd (f := GTab.d) GTab.cntb (x.Tabs)
  have b1 := cntE_bd (f := GPackage.d) GPackage.cntb (x.Packs)
  have b2 := cntE_bd (f := GGrant.d) GGrant.cntb (x.Grants)
  have b3 := cntE_bd (f := GLimit.d) GLimit.cntb (x.Limits)
  have b4 := cntE_bd (f := GRule.d) GRule.cntb (x.Rules)
  have b5 := cntE_bd (f := GStored.d) GStored.cntb (x.Store)
  simp only [GBrowser.d, szL, List.length_map]; omega
theorem GBrowser.cntTb (x : GBrowser) : cntT x.d ≤ 32 * szL x.d := by
  rw [GBrowser.cT]
  have b0 := cntE_bd (f := GTab.d) GTab.cntb (x.Tabs)
  have b1 := cntE_bd (f := GPackage.d) GPackage.cntb (x.Packs)
  have b2 := cntE_bd (f := GGrant.d) GGrant.cntb (x.Grants)
  have b3 := cntE_bd (f := GLimit.d) GLimit.cntb (x.Limits)
  have b4 := cntE_bd (f := GRule.d) GRule.cntb (x.Rules)
  have b5 := cntE_bd (f := GStored.d) GStored.cntb (x.Store)
  simp only [GBrowser.d, szL, List.length_map]; omega
theorem GBrowser.mkL (x : GBrowser) (k : Int) : mkL x.d k = [.x (.int .i64 (k)), .sl 6 (mkE (x.Tabs.map GTab.d) (k + 1)), .sl 8 (mkE (x.Packs.map GPackage.d) (k + 1 + (cntE (x.Tabs.map GTab.d) : Int))), .sl 7 (mkE (x.Grants.map GGrant.d) (k + 1 + (cntE (x.Tabs.map GTab.d) : Int) + (cntE (x.Packs.map GPackage.d) : Int))), .sl 4 (mkE (x.Limits.map GLimit.d) (k + 1 + (cntE (x.Tabs.map GTab.d) : Int) + (cntE (x.Packs.map GPackage.d) : Int) + (cntE (x.Grants.map GGrant.d) : Int))), .sl 8 (mkE (x.Rules.map GRule.d) (k + 1 + (cntE (x.Tabs.map GTab.d) : Int) + (cntE (x.Packs.map GPackage.d) : Int) + (cntE (x.Grants.map GGrant.d) : Int) + (cntE (x.Limits.map GLimit.d) : Int))), .sl 4 (mkE (x.Store.map GStored.d) (k + 1 + (cntE (x.Tabs.map GTab.d) : Int) + (cntE (x.Packs.map GPackage.d) : Int) + (cntE (x.Grants.map GGrant.d) : Int) + (cntE (x.Limits.map GLimit.d) : Int) + (cntE (x.Rules.map GRule.d) : Int))), .x (.int .i64 (k + 1 + (cntE (x.Tabs.map GTab.d) : Int) + (cntE (x.Packs.map GPackage.d) : Int) + (cntE (x.Grants.map GGrant.d) : Int) + (cntE (x.Limits.map GLimit.d) : Int) + (cntE (x.Rules.map GRule.d) : Int) + (cntE (x.Store.map GStored.d) : Int)))] := rfl
theorem GBrowser.mkT (x : GBrowser) (k : Int) : mkT x.d k = [.x (.int .i64 x.Key), .sl 6 (mkE (x.Tabs.map GTab.d) (k)), .sl 8 (mkE (x.Packs.map GPackage.d) (k + (cntE (x.Tabs.map GTab.d) : Int))), .sl 7 (mkE (x.Grants.map GGrant.d) (k + (cntE (x.Tabs.map GTab.d) : Int) + (cntE (x.Packs.map GPackage.d) : Int))), .sl 4 (mkE (x.Limits.map GLimit.d) (k + (cntE (x.Tabs.map GTab.d) : Int) + (cntE (x.Packs.map GPackage.d) : Int) + (cntE (x.Grants.map GGrant.d) : Int))), .sl 8 (mkE (x.Rules.map GRule.d) (k + (cntE (x.Tabs.map GTab.d) : Int) + (cntE (x.Packs.map GPackage.d) : Int) + (cntE (x.Grants.map GGrant.d) : Int) + (cntE (x.Limits.map GLimit.d) : Int))), .sl 4 (mkE (x.Store.map GStored.d) (k + (cntE (x.Tabs.map GTab.d) : Int) + (cntE (x.Packs.map GPackage.d) : Int) + (cntE (x.Grants.map GGrant.d) : Int) + (cntE (x.Limits.map GLimit.d) : Int) + (cntE (x.Rules.map GRule.d) : Int))), .x (.int .i64 x.Now)] := rfl
theorem GEvent.cnt (x : GEvent) : cntL x.d = 22 + cntE (x.Package.Grants.map GGrant.d) + cntE (x.Package.Flows.map GFlow.d) + cntE (x.Package.Rules.map GRule.d) + cntE (x.Package.Ops.map GOp.d) := by
  simp only [GEvent.d, cntL, cntD]; omega
theorem GEvent.cT (x : GEvent) : cntT x.d = cntE (x.Package.Grants.map GGrant.d) + cntE (x.Package.Flows.map GFlow.d) + cntE (x.Package.Rules.map GRule.d) + cntE (x.Package.Ops.map GOp.d) := by
  simp only [GEvent.d, Go.Proofs.Ytfkfoidojmjacaa.cntT]; try omega
theorem GEvent.cntb (x : GEvent) : cntL x.d ≤ 32 + 32 * szL x.d := by
  rw [GEvent.cnt]
  have b0 := cntE_bd (f := GGrant.d) GGrant.cntb (x.Package.Grants)
  have b1 := cntE_bd (f := GFlow.d) GFlow.cntb (x.Package.Flows)
  have b2 := cntE_bd (f := GRule.d) GRule.cntb (x.Package.Rules)
  have b3 := cntE_bd (f := GOp.d) GOp.cntb (x.Package.Ops)
  simp only [GEvent.d, szL, List.length_map]; omega
theorem GEvent.cntTb (x : GEvent) : cntT x.d ≤ 32 * szL x.d := by
  rw [GEvent.cT]
  have b0 := cntE_bd (f := GGrant.d) GGrant.cntb (x.Package.Grants)
  have b1 := cntE_bd (f := GFlow.d) GFlow.cntb (x.Package.Flows)
  have b2 := cntE_bd (f := GRule.d) GRule.cntb (x.Package.Rules)
  have b3 := cntE_bd (f := GOp.d) GOp.cntb (x.Package.Ops)
  simp only [GEvent.d, szL, List.length_map]; omega
theorem GEvent.mkL (x : GEvent) (k : Int) : mkL x.d k = [.x (.int .i64 (k)), .x (.int .i64 (k + 1)), .x (.int .i64 (k + 1 + 1)), .x (.int .i64 (k + 1 + 1 + 1)), .x (.int .i64 (k + 1 + 1 + 1 + 1)), .x (.bool (decide (Int.tmod (k + 1 + 1 + 1 + 1 + 1) 3 = 0))), .x (.int .i64 (k + 1 + 1 + 1 + 1 + 1 + 1)), .x (.int .i64 (k + 1 + 1 + 1 + 1 + 1 + 1 + 1)), .x (.int .i64 (k + 1 + 1 + 1 + 1 + 1 + 1 + 1 + 1)), .x (.int .i64 (k + 1 + 1 + 1 + 1 + 1 + 1 + 1 + 1 + 1)), .x (.int .i64 (k + 1 + 1 + 1 + 1 + 1 + 1 + 1 + 1 + 1 + 1)), .x (.int .i64 (k + 1 + 1 + 1 + 1 + 1 + 1 + 1 + 1 + 1 + 1 + 1)), .x (.int .i64 (k + 1 + 1 + 1 + 1 + 1 + 1 + 1 + 1 + 1 + 1 + 1 + 1)), .x (.int .i64 (k + 1 + 1 + 1 + 1 + 1 + 1 + 1 + 1 + 1 + 1 + 1 + 1 + 1)), .x (.int .i64 (k + 1 + 1 + 1 + 1 + 1 + 1 + 1 + 1 + 1 + 1 + 1 + 1 + 1 + 1)), .x (.int .i64 (k + 1 + 1 + 1 + 1 + 1 + 1 + 1 + 1 + 1 + 1 + 1 + 1 + 1 + 1 + 1)), .x (.int .i64 (k + 1 + 1 + 1 + 1 + 1 + 1 + 1 + 1 + 1 + 1 + 1 + 1 + 1 + 1 + 1 + 1)), .x (.int .i64 (k + 1 + 1 + 1 + 1 + 1 + 1 + 1 + 1 + 1 + 1 + 1 + 1 + 1 + 1 + 1 + 1 + 1)), .x (.int .i64 (k + 1 + 1 + 1 + 1 + 1 + 1 + 1 + 1 + 1 + 1 + 1 + 1 + 1 + 1 + 1 + 1 + 1 + 1)), .x (.int .i64 (k + 1 + 1 + 1 + 1 + 1 + 1 + 1 + 1 + 1 + 1 + 1 + 1 + 1 + 1 + 1 + 1 + 1 + 1 + 1)), .x (.int .i64 (k + 1 + 1 + 1 + 1 + 1 + 1 + 1 + 1 + 1 + 1 + 1 + 1 + 1 + 1 + 1 + 1 + 1 + 1 + 1 + 1)), .sl 7 (mkE (x.Package.Grants.map GGrant.d) (k + 1 + 1 + 1 + 1 + 1 + 1 + 1 + 1 + 1 + 1 + 1 + 1 + 1 + 1 + 1 + 1 + 1 + 1 + 1 + 1 + 1)), .sl 3 (mkE (x.Package.Flows.map GFlow.d) (k + 1 + 1 + 1 + 1 + 1 + 1 + 1 + 1 + 1 + 1 + 1 + 1 + 1 + 1 + 1 + 1 + 1 + 1 + 1 + 1 + 1 + (cntE (x.Package.Grants.map GGrant.d) : Int))), .sl 8 (mkE (x.Package.Rules.map GRule.d) (k + 1 + 1 + 1 + 1 + 1 + 1 + 1 + 1 + 1 + 1 + 1 + 1 + 1 + 1 + 1 + 1 + 1 + 1 + 1 + 1 + 1 + (cntE (x.Package.Grants.map GGrant.d) : Int) + (cntE (x.Package.Flows.map GFlow.d) : Int))), .sl 4 (mkE (x.Package.Ops.map GOp.d) (k + 1 + 1 + 1 + 1 + 1 + 1 + 1 + 1 + 1 + 1 + 1 + 1 + 1 + 1 + 1 + 1 + 1 + 1 + 1 + 1 + 1 + (cntE (x.Package.Grants.map GGrant.d) : Int) + (cntE (x.Package.Flows.map GFlow.d) : Int) + (cntE (x.Package.Rules.map GRule.d) : Int))), .x (.int .i64 (k + 1 + 1 + 1 + 1 + 1 + 1 + 1 + 1 + 1 + 1 + 1 + 1 + 1 + 1 + 1 + 1 + 1 + 1 + 1 + 1 + 1 + (cntE (x.Package.Grants.map GGrant.d) : Int) + (cntE (x.Package.Flows.map GFlow.d) : Int) + (cntE (x.Package.Rules.map GRule.d) : Int) + (cntE (x.Package.Ops.map GOp.d) : Int)))] := rfl
theorem GEvent.mkT (x : GEvent) (k : Int) : mkT x.d k = [.x (.int .i64 x.Kind), .x (.int .i64 x.Ext), .x (.int .i64 x.Tab), .x (.int .i64 x.N), .x (.int .i64 x.Value), .x (.bool x.Consent), .x (.int .i64 x.Site.Owner), .x (.int .i64 x.Site.Sub), .x (.int .i64 x.Limit.Ext), .x (.int .i64 x.Limit.Pattern.Owner), .x (.int .i64 x.Limit.Pattern.Sub), .x (.int .i64 x.Limit.Kind), .x (.int .i64 x.Edit.Kind), .x (.int .i64 x.Edit.Node), .x (.int .i64 x.Edit.Parent), .x (.int .i64 x.Edit.Tag), .x (.int .i64 x.Edit.Text), .x (.int .i64 x.Edit.By), .x (.int .i64 x.Package.Ext), .x (.int .i64 x.Package.Author), .x (.int .i64 x.Package.Version), .sl 7 (mkE (x.Package.Grants.map GGrant.d) (k)), .sl 3 (mkE (x.Package.Flows.map GFlow.d) (k + (cntE (x.Package.Grants.map GGrant.d) : Int))), .sl 8 (mkE (x.Package.Rules.map GRule.d) (k + (cntE (x.Package.Grants.map GGrant.d) : Int) + (cntE (x.Package.Flows.map GFlow.d) : Int))), .sl 4 (mkE (x.Package.Ops.map GOp.d) (k + (cntE (x.Package.Grants.map GGrant.d) : Int) + (cntE (x.Package.Flows.map GFlow.d) : Int) + (cntE (x.Package.Rules.map GRule.d) : Int))), .x (.int .i64 x.Package.Seal)] := rfl
end Go.Proofs.Ytfkfoidojmjacaa
