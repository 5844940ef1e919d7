/- A slice within an element of one of the call's own slices: appended to, and put back. -/
import Derived.Test.YtockphlpokoohaaGreatKq23
import Derived.Sort.OwnSortedInts
namespace Go.Proofs.YtockphlpokoohaaGreat
set_option linter.unusedVariables false
set_option linter.unusedSimpArgs false
section
open Go
theorem rd_slhf {S : Store} {α : Type} {f : α → List D} {k n : Nat} {l : List α} {c : C} {lo : Int} {K : C → Prop} (h : Rd S [.sl k (l.map f)] [c]) (hk : ∀ x, (f x).length = n) (h0 : 0 ≤ lo ∧ lo ≤ l.length)
    (hK : ∀ c', Rd S [.sl k ((l.drop lo.toNat).map f)] [c'] → K c') : SlhP S c n lo K := by
  have h2 := rd_slif (hi := (l.length : Int)) (K := K) h hk ⟨h0.1, h0.2, Int.le_refl _⟩ (fun c' hc => hK c' (by
    rw [Int.toNat_natCast, List.take_of_length_le (by rw [List.length_drop]; exact Nat.le_refl _)] at hc; exact hc))
  have h3 := rd_len (K := fun n => n = l.length) h (fun _ => by simp)
  unfold LenP at h3
  obtain ⟨rows, e1, e2⟩ := h3
  unfold SliP at h2
  obtain ⟨xs, a1, a2, a3, a4, a5, a6⟩ := h2
  obtain rfl : rows = xs := Option.some.inj (e1.symm.trans a1)
  unfold SlhP
  refine ⟨rows, a1, a2, a3, by rw [e2]; exact a4, ?_⟩
  rw [show ((rows.length : Nat) : Int) = (l.length : Int) by rw [e2]]; exact a6
theorem rd_slhx {S : Store} {α : Type} {f : α → List D} {k n : Nat} {l : List α} {c : C} {lo : Int} (h : Rd S [.sl k (l.map f)] [c]) (hk : ∀ x, (f x).length = n) (h0 : 0 ≤ lo ∧ lo ≤ l.length) :
    ∃ cH, cH = cutC c lo l.length ∧ Rd S [.sl k ((l.drop lo.toNat).map f)] [cH] := by
  have h2 := rd_slhf (K := fun cH => cH = cutC c lo l.length → Rd S [.sl k ((l.drop lo.toNat).map f)] [cH]) h hk h0 (fun c' hc _ => hc)
  have h3 := rd_len (K := fun n => n = l.length) h (fun _ => by simp)
  unfold LenP at h3
  obtain ⟨rows, e1, e2⟩ := h3
  unfold SlhP at h2
  obtain ⟨xs, a1, a2, a3, a4, a6⟩ := h2
  obtain rfl : rows = xs := Option.some.inj (e1.symm.trans a1)
  rw [e2] at a6
  exact ⟨_, rfl, a6 rfl⟩
theorem rd_slhe {S : Store} {α : Type} {f : α → List D} {k n : Nat} {l : List α} {c cH : C} {lo : Int} {K : C → Prop} (hc : cH = cutC c lo l.length) (h : Rd S [.sl k (l.map f)] [c]) (hk : ∀ x, (f x).length = n) (h0 : 0 ≤ lo ∧ lo ≤ l.length) (hK : K cH) : SlhP S c n lo K := by
  have h2 := rd_slhf (n := n) (K := fun _ => True) h hk h0 (fun _ _ => trivial)
  have h3 := rd_len (K := fun n => n = l.length) h (fun _ => by simp)
  unfold LenP at h3
  obtain ⟨rows, e1, e2⟩ := h3
  unfold SlhP at h2 ⊢
  obtain ⟨xs, a1, a2, a3, a4, a6⟩ := h2
  obtain rfl : rows = xs := Option.some.inj (e1.symm.trans a1)
  refine ⟨rows, a1, a2, a3, a4, ?_⟩
  rw [e2, ← hc]; exact hK
end
section
open Go
section
variable {μ μ' : Mp} {S S' : Store} {w w' : World}
def cutS0 (S : Store) (id : Nat) (row : Row) (xs : List (List C)) : Store := S.set id ⟨true, row.k, row.xs ++ [[]]⟩ ++ [⟨true, row.k, xs⟩]
theorem cut_cases {id : Nat} {row : Row} {xs : List (List C)} {i : Nat} {r : Row} (h : (cutS0 S id row xs)[i]? = some r) :
    (i = S.length ∧ r = ⟨true, row.k, xs⟩) ∨ (i = id ∧ r = ⟨true, row.k, row.xs ++ [[]]⟩ ∧ id < S.length) ∨ (i ≠ id ∧ i < S.length ∧ S[i]? = some r) := by
  rcases push_cases h with ⟨h1, h2⟩ | ⟨h1, h2⟩
  · rw [List.length_set] at h1
    rcases set_cases h2 with ⟨h3, h4, h5⟩ | ⟨h3, h4⟩
    · exact .inr (.inl ⟨h3, h4, h5⟩)
    · exact .inr (.inr ⟨h3, h1, h4⟩)
  · rw [List.length_set] at h1
    exact .inl ⟨h1, h2⟩
theorem RS.shrink (h : RS μ S w) {row : Row} {m : Loc} {id : Nat} (hr : S[id]? = some row) (hm : μ id = some m) (ho : row.own = true) {xs : List (List C)} {us : List Value} {arr : Array Value} {e : Nat}
    (hg : w.grownBy w' (some m.blk)) (ha : w'.heap[m.blk]? = some (.cells arr e (0, 0))) (hs : arr.size = m.cap * row.k) (hx : xs.length ≤ m.cap) (hcm : m.cap ≤ maxLen) (hb0 : m.base = 0)
    (hf : FlatR μ S row.k xs us) (hp : ∀ (j : Nat) u, us[j]? = some u → arr[j]? = some u) :
    RS (upd (upd μ id none) S.length (some m)) (cutS0 S id row xs) w' ∧ Evo μ S w (upd (upd μ id none) S.length (some m)) (cutS0 S id row xs) w' ∧
    CR (upd (upd μ id none) S.length (some m)) (cutS0 S id row xs) (.sl S.length 0 xs.length xs.length) (.slice (some ⟨m.blk, 0, none⟩) xs.length m.cap) := by
  obtain ⟨g1, g2, g3, g4, g5⟩ := hg
  have hlt := (List.getElem?_eq_some_iff.1 hr).1
  have hlast : (cutS0 S id row xs)[S.length]? = some ⟨true, row.k, xs⟩ := by
    unfold cutS0
    have : (S.set id ⟨true, row.k, row.xs ++ [[]]⟩).length = S.length := List.length_set
    rw [← this]; simp
  have hold : ∀ i, i ≠ id → i < S.length → (cutS0 S id row xs)[i]? = S[i]? := fun i hi hl => by
    unfold cutS0
    rw [List.getElem?_append_left (by rw [List.length_set]; exact hl), List.getElem?_set_ne (Ne.symm hi)]
  have hat : (cutS0 S id row xs)[id]? = some ⟨true, row.k, row.xs ++ [[]]⟩ := by
    unfold cutS0
    rw [List.getElem?_append_left (by rw [List.length_set]; exact hlt), List.getElem?_set_self hlt]
  have hmu : ∀ i, i ≠ id → i < S.length → upd (upd μ id none) S.length (some m) i = μ i := fun i hi hl => by
    rw [upd_ne _ _ (by omega), upd_ne _ _ hi]
  have hmid : upd (upd μ id none) S.length (some m) id = none := by rw [upd_ne _ _ (by omega), upd_same]
  have kp : Keeps μ S (upd (upd μ id none) S.length (some m)) (cutS0 S id row xs) := by
    intro i r hi
    have hil := (List.getElem?_eq_some_iff.1 hi).1
    by_cases e : i = id
    · subst e
      rw [hr] at hi; cases hi
      exact ⟨_, hat, ho.symm, rfl, by simp, fun e => by simp at e⟩
    · exact ⟨r, by rw [hold i e hil]; exact hi, rfl, rfl, Nat.le_refl _, fun _ => hmu i e hil⟩
  have far : ∀ i r m1, i ≠ id → S[i]? = some r → μ i = some m1 → m1.blk ≠ m.blk := fun i r m1 hi h1 h2 e => h.sep id i row r m m1 hr h1 hm h2 (Ne.symm hi) ho e.symm
  refine ⟨⟨fun i r m1 h1 h2 => ?_, fun i1 i2 r1 r2 m1 m2 h1 h2 h3 h4 hd hown => ?_⟩, ⟨g1, g2, g3, g4, fun b hb hn => ?_, fun i r h' => ?_, fun i r m1 h1 h2 => ?_⟩, ?_⟩
  · rcases cut_cases h1 with ⟨rfl, rfl⟩ | ⟨rfl, rfl, _⟩ | ⟨hne, hil, h1⟩
    · rw [upd_same] at h2; cases h2
      exact RowOK.of_flat rfl (hf.keep kp) hb0 ha hp hs hx hcm
    · rw [hmid] at h2; cases h2
    · rw [hmu i hne hil] at h2
      exact ((h.ok i r m1 h1 h2).world g4 (g5 _ (h.ok i r m1 h1 h2).lt (fun e => far i r m1 hne h1 h2 (Option.some.inj e)))).keep kp
  · rcases cut_cases h1 with ⟨e1, f1⟩ | ⟨e1, f1, _⟩ | ⟨n1, l1, k1⟩ <;> rcases cut_cases h2 with ⟨e2, f2⟩ | ⟨e2, f2, _⟩ | ⟨n2, l2, k2⟩
    · exact absurd (e1.trans e2.symm) hd
    · rw [e2, hmid] at h4; cases h4
    · rw [e1, upd_same] at h3; cases h3
      rw [hmu i2 n2 l2] at h4
      exact fun x => far i2 r2 m2 n2 k2 h4 x.symm
    · rw [e1, hmid] at h3; cases h3
    · rw [e1, hmid] at h3; cases h3
    · rw [e1, hmid] at h3; cases h3
    · rw [e2, upd_same] at h4; cases h4
      rw [hmu i1 n1 l1] at h3
      exact far i1 r1 m1 n1 k1 h3
    · rw [e2, hmid] at h4; cases h4
    · rw [hmu i1 n1 l1] at h3
      rw [hmu i2 n2 l2] at h4
      exact h.sep i1 i2 r1 r2 m1 m2 k1 k2 h3 h4 hd hown
  · exact g5 b hb (fun e => hn id row m hr hm ho (Option.some.inj e).symm)
  · have hil := (List.getElem?_eq_some_iff.1 h').1
    by_cases e : i = id
    · subst e
      rw [hr] at h'; cases h'
      exact ⟨_, hat, ho.symm, rfl, by simp, fun e => by simp at e, fun hf => by rw [ho] at hf; cases hf⟩
    · exact ⟨r, by rw [hold i e hil]; exact h', rfl, rfl, Nat.le_refl _, fun _ => hmu i e hil, fun _ => rfl⟩
  · rcases cut_cases h1 with ⟨rfl, rfl⟩ | ⟨rfl, rfl, _⟩ | ⟨hne, hil, h1⟩
    · rw [upd_same] at h2; cases h2
      exact .inr ⟨id, row, m, hr, hm, ho, rfl⟩
    · rw [hmid] at h2; cases h2
    · rw [hmu i hne hil] at h2
      exact .inr ⟨i, r, m1, h1, h2, rfl, rfl⟩
  · exact ⟨⟨m.blk, 0, none⟩, m.cap, rfl, hx, ⟨true, row.k, xs⟩, hlast, Nat.le_refl _, fun _ => ⟨m, upd_same _ _ _, by omega, fun _ => by simp [hb0], fun _ _ _ => ⟨rfl, rfl⟩⟩⟩
end
end
end Go.Proofs.YtockphlpokoohaaGreat
