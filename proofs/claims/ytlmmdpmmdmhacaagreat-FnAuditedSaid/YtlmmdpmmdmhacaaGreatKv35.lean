/- What is wrong with a browser. slices.Insert of one element at a slice of structs: the library's text walked, on the model itself. -/
import Derived.Test.YtlmmdpmmdmhacaaGreatKv33
import Derived.Test.YtlmmdpmmdmhacaaGreatKv34
import Derived.Test.YtlmmdpmmdmhacaaGreatKv27
import Derived.Test.YtlmmdpmmdmhacaaGreatKv23
import Derived.Lib.Overlaps
import Derived.Lib.AppendZerosOnto
import Derived.Shelf.RegionOpenPlain
import Derived.Laws.Externs
import Derived.Lib.Walk
import Derived.WalkKit
namespace Go.Proofs.YtlmmdpmmdmhacaaGreat
open Go Go.ChangeShapes Go.WideShapes Go.ChangeAt Go.RowKit
set_option linter.unusedVariables false
set_option linter.unusedSimpArgs false
set_option maxRecDepth 100000
theorem packsGo_at (b : GBrowser) : ∀ (l : List GPackage) (i : Nat), packsGo b l i = true → ∀ (j : Nat) (h : j < l.length), packIx b l[j] (i + j) = true
  | [], _, _, j, h => absurd h (by simp)
  | p :: r, i, hg, j, h => by
    rw [packsGo] at hg
    split at hg
    · rename_i hp
      match j, h with
      | 0, _ => exact hp
      | j + 1, h =>
        have := packsGo_at b r (i + 1) hg j (by simpa using h)
        rw [show i + (j + 1) = i + 1 + j from by omega]; exact this
    · cases hg
theorem packs_step {b : GBrowser} (h : isBrowser b = true) {i : Nat} (hi : i + 1 < b.Packs.length) : (b.Packs[i]).Ext < (b.Packs[i + 1]).Ext := by
  unfold isBrowser at h
  simp only [Bool.and_eq_true] at h
  have h1 := packsGo_at b b.Packs 0 h.1.1.1.1.1.2 (i + 1) hi
  rw [Nat.zero_add, packIx_pos (by omega) (by omega)] at h1
  simp only [Bool.and_eq_true, decide_eq_true_eq] at h1
  have h2 := h1.2
  have e : (((i + 1 : Nat) : Int) - 1).toNat = i := by omega
  simp only [e] at h2
  exact h2
theorem packs_lt {b : GBrowser} (h : isBrowser b = true) : ∀ (d i : Nat) (hi : i + d + 1 < b.Packs.length), (b.Packs[i]'(by omega)).Ext < (b.Packs[i + d + 1]).Ext
  | 0, i, hi => packs_step h hi
  | d + 1, i, hi => by
    have h1 := packs_lt h d i (by omega)
    have h2 := packs_step h (i := i + d + 1) (by omega)
    exact Int.lt_trans h1 h2
theorem packGo_self (ext : Int) : ∀ (l : List GPackage) (k i : Nat) (hi : i < l.length), (∀ (j : Nat) (hj : j < i), (l[j]'(by omega)).Ext ≠ ext) → (l[i]).Ext = ext → packGo ext l k = k + i
  | p :: r, k, 0, _, _, he => by rw [packGo, if_pos (show p.Ext = ext from he)]; rfl
  | p :: r, k, i + 1, hi, hj, he => by
    rw [packGo, if_neg (show ¬ p.Ext = ext from hj 0 (by omega)), packGo_self ext r (k + 1) i (by simpa using hi) (fun j h => hj (j + 1) (by omega)) he]
    omega
theorem pack_self {b : GBrowser} (h : isBrowser b = true) {i : Nat} (hi : i < b.Packs.length) : packOf b (b.Packs[i]).Ext = i := by
  unfold packOf
  rw [packGo_self _ b.Packs 0 i hi (fun j hj e => ?_) rfl]
  · omega
  · have := packs_lt h (i - j - 1) j (by omega)
    simp only [show j + (i - j - 1) + 1 = i from by omega] at this
    omega
theorem package_self {b : GBrowser} (h : isBrowser b = true) {i : Nat} (hi : i < b.Packs.length) : packageOf b (b.Packs[i]).Ext = b.Packs[i] := by
  have h1 := pack_self h hi
  rw [packageOf_in (by omega) (by omega)]
  simp only [h1, Int.toNat_natCast]
def decl1 (b : GBrowser) (values : List Int) (flows : List GFlow) (ext : Int) : Bool := (sentFrom b ext values).all fun s => mayFlow flows ext s.Label s.To
def declS (b : GBrowser) (values : List Int) : Bool := b.Packs.all fun p => decl1 b values p.Flows p.Ext
def declI (b : GBrowser) (values : List Int) : Bool := b.Packs.all fun p => decl1 b values (packageOf b p.Ext).Flows p.Ext
theorem decl_eq {b : GBrowser} (h : isBrowser b = true) (values : List Int) : declI b values = declS b values := by
  unfold declI declS
  rw [Bool.eq_iff_iff, List.all_eq_true, List.all_eq_true]
  have key : ∀ p ∈ b.Packs, packageOf b p.Ext = p := fun p hp => by
    obtain ⟨i, hi, rfl⟩ := List.getElem_of_mem hp
    exact package_self h hi
  exact ⟨fun hh p hp => by have := hh p hp; rwa [key p hp] at this, fun hh p hp => by rw [key p hp]; exact hh p hp⟩
set_option maxHeartbeats 2000000 in
theorem ev_iIsDeclared (b : GBrowser) (values : List Int) (cs : List C) (c : C) (S : Store) (h : Rd S b.d cs) (h' : Rd S [.sl 1 (values.map dInt)] [c]) : EvA Tryz.prog 15 [.agg cs, .s c] S (fun r S' => r = .v (.s (.bool (declI b values))) ∧ S' = S) := by
  refine EvA.drop rfl ?_
  have hB := h
  obtain ⟨b1, b2, b3, b4, b5, b6, rfl, t1, t2, t3, t4, t5, t6⟩ := GBrowser.inv h
  refine evA_intro tok Tryz.func15 (by kernel_rfl) rfl ?_
  repeat' ((conv => whnf) <;> first
   | refine rE fun hml => ?_)
  (conv => whnf)
  refine loop_intro {p : Nat × Store // p.1 ≤ b.Packs.length ∧ Ext S p.2 ∧ (b.Packs.drop p.1).all (fun p : GPackage => decl1 b values (packageOf b p.Ext).Flows p.Ext) = declI b values} [4, 6, 8, 12, 13, 14, 15, 16, 17, 18, 19, 20, 21, 22, 23, 24, 25, 26, 27, 28, 29, 30, 31, 32, 33, 34, 35, 36, 37, 38, 39, 40] (fun zb => [(12, .v (.s (.int .i64 zb.1.1)))]) (fun zb => zb.1.2) (fun zb => b.Packs.length - zb.1.1) ⟨(0, S), Nat.zero_le _, Ext.refl _, rfl⟩ ?_ rfl ?_
  · (conv => whnf); repeat' (first | exact trivial | exact rfl | apply And.intro)
  rintro ⟨⟨i, Si⟩, hi, hE, hinv⟩; dsimp only
  replace hi : i ≤ b.Packs.length := hi
  replace hE : Ext S Si := hE
  replace hinv : (b.Packs.drop i).all (fun p : GPackage => decl1 b values (packageOf b p.Ext).Flows p.Ext) = declI b values := hinv
  by_cases hlt : i < b.Packs.length
  · have hlt' : ((i : Nat) : Int).toNat < b.Packs.length := hlt
    have hinv : ((sentFrom b (b.Packs[((i : Nat) : Int).toNat]'hlt').Ext values).all (fun s => mayFlow (packageOf b (b.Packs[((i : Nat) : Int).toNat]'hlt').Ext).Flows (b.Packs[((i : Nat) : Int).toNat]'hlt').Ext s.Label s.To) && (b.Packs.drop (i + 1)).all (fun p : GPackage => decl1 b values (packageOf b p.Ext).Flows p.Ext)) = declI b values := (allZ_drop hlt).symm.trans hinv
    obtain ⟨pcs, hpr, hpld⟩ := rd_loadx t2 (i := ((i : Nat) : Int)) ⟨by omega, hlt'⟩
    obtain ⟨_, _, _, _, rfl, q1, q2, q3, q4⟩ := GPackage.inv hpr
    repeat' ((conv => whnf) <;> first
     | refine hpld _ (by first | assumption | exact Ext.refl _) _ ?_ | (show CondP _ _ _; refine cS ?_) | refine rI rdA rf ix ?_)
    all_goals try (exfalso; omega)
    (conv => whnf)
    refine callP_intro (ev_iSentFrom b (b.Packs[((i : Nat) : Int).toNat]'hlt').Ext values _ _ _ (hB.ext hE) (h'.ext hE)) ?_; rintro _ S2 ⟨e2, cx, rfl, fx⟩
    have E2 := hE.trans e2
    generalize sentFrom b (b.Packs[((i : Nat) : Int).toNat]'hlt').Ext values = x at *
    have rx := fx.rd
    have hb2 := hB.ext E2
    have r2 := q2.ext E2
    repeat' ((conv => whnf) <;> first
     | refine rE fun hml => ?_)
    (conv => whnf)
    refine loop_intro {k : Nat // k ≤ x.length ∧ (x.drop k).all (fun s : GSent => mayFlow (packageOf b (b.Packs[((i : Nat) : Int).toNat]'hlt').Ext).Flows (b.Packs[((i : Nat) : Int).toNat]'hlt').Ext s.Label s.To) = x.all (fun s : GSent => mayFlow (packageOf b (b.Packs[((i : Nat) : Int).toNat]'hlt').Ext).Flows (b.Packs[((i : Nat) : Int).toNat]'hlt').Ext s.Label s.To)} [4, 8, 22, 23, 24, 25, 26, 27, 28, 29, 30, 31, 32, 33, 34, 35, 36, 37, 38, 39] (fun zb => [(22, .v (.s (.int .i64 zb.1)))]) (fun _ => S2) (fun zb => x.length - zb.1) ⟨0, Nat.zero_le _, rfl⟩ ?_ rfl ?_
    · (conv => whnf); repeat' (first | exact trivial | exact rfl | apply And.intro)
    rintro ⟨k, hk, hknv⟩; dsimp only
    by_cases hkl : k < x.length
    · have hkl' : ((k : Nat) : Int).toNat < x.length := hkl
      have hknv : (mayFlow (packageOf b (b.Packs[((i : Nat) : Int).toNat]'hlt').Ext).Flows (b.Packs[((i : Nat) : Int).toNat]'hlt').Ext (x[((k : Nat) : Int).toNat]'hkl').Label (x[((k : Nat) : Int).toNat]'hkl').To && (x.drop (k + 1)).all (fun s : GSent => mayFlow (packageOf b (b.Packs[((i : Nat) : Int).toNat]'hlt').Ext).Flows (b.Packs[((i : Nat) : Int).toNat]'hlt').Ext s.Label s.To)) = x.all (fun s : GSent => mayFlow (packageOf b (b.Packs[((i : Nat) : Int).toNat]'hlt').Ext).Flows (b.Packs[((i : Nat) : Int).toNat]'hlt').Ext s.Label s.To) := (allZ_drop hkl).symm.trans hknv
      cases hm : mayFlow (packageOf b (b.Packs[((i : Nat) : Int).toNat]'hlt').Ext).Flows (b.Packs[((i : Nat) : Int).toNat]'hlt').Ext (x[((k : Nat) : Int).toNat]'hkl').Label (x[((k : Nat) : Int).toNat]'hkl').To with
      | true =>
        rw [hm, Bool.true_and] at hknv
        repeat' ((conv => whnf) <;> first
         | (refine callP_eq (ev_iMayFlow (packageOf b (b.Packs[((i : Nat) : Int).toNat]'hlt').Ext).Flows (b.Packs[((i : Nat) : Int).toNat]'hlt').Ext (x[((k : Nat) : Int).toNat]'hkl').Label (x[((k : Nat) : Int).toNat]'hkl').To _ _ hf4) ?_) | (refine callP_intro (ev_packageOf b (b.Packs[((i : Nat) : Int).toNat]'hlt').Ext _ _ hb2) ?_; rintro _ _ ⟨rfl, _, w4, _, _, rfl, _, hf4, _, _⟩) | rw [wrapI_i64 (by omega)] | (show CondP _ _ _; refine cS ?_) | refine rI rdA rf ix ?_ | refine rd_loadf rdA tv ix ?_ | refine draw_intro 26 [.fl 0, .fl 1, .fl 2, .fl 5, .fl 6, .fl 7, .fl 8, .fl 9, .fl 10, .st 3 [5, 6, 7, 8, 9, 10], .fl 4, .st 11 [], .fl 12] (by rfl) (by kernel_rfl) ?_ | refine And.intro ?_ ?_)
        all_goals first
          | (exfalso; omega)
          | (refine ⟨⟨k + 1, by omega, hknv⟩, ?_, rfl, by dsimp only; omega⟩; (conv => whnf); repeat' (first | exact trivial | exact rfl | apply And.intro))
          | (exfalso; simp_all; done)
      | false =>
        rw [hm, Bool.false_and] at hknv
        rw [← hknv, Bool.false_and] at hinv
        rw [← hinv]
        repeat' ((conv => whnf) <;> first
         | (refine callP_eq (ev_iMayFlow (packageOf b (b.Packs[((i : Nat) : Int).toNat]'hlt').Ext).Flows (b.Packs[((i : Nat) : Int).toNat]'hlt').Ext (x[((k : Nat) : Int).toNat]'hkl').Label (x[((k : Nat) : Int).toNat]'hkl').To _ _ hf4) ?_) | (refine callP_intro (ev_packageOf b (b.Packs[((i : Nat) : Int).toNat]'hlt').Ext _ _ hb2) ?_; rintro _ _ ⟨rfl, _, w4, _, _, rfl, _, hf4, _, _⟩) | (show CondP _ _ _; refine cS ?_) | refine rI rdA rf ix ?_ | refine rd_loadf rdA tv ix ?_ | refine draw_intro 26 [.fl 0, .fl 1, .fl 2, .fl 5, .fl 6, .fl 7, .fl 8, .fl 9, .fl 10, .st 3 [5, 6, 7, 8, 9, 10], .fl 4, .st 11 [], .fl 12] (by rfl) (by kernel_rfl) ?_ | refine And.intro ?_ ?_)
        all_goals first
          | rfl
          | exact E2
          | (exfalso; omega)
          | (exfalso; simp_all; done)
    · rw [drop_end (by omega), List.all_nil] at hknv
      rw [← hknv, Bool.true_and] at hinv
      repeat' ((conv => whnf) <;> first
       | rw [wrapI_i64 (by omega)] | (show CondP _ _ _; refine cS ?_))
      all_goals first
        | (exfalso; omega)
        | (refine ⟨⟨(i + 1, S2), by dsimp only; omega, E2, hinv⟩, ?_, rfl, by dsimp only; omega⟩; (conv => whnf); repeat' (first | exact trivial | exact rfl | (show _ = _; congr 3; dsimp only; omega) | apply And.intro))
  · rw [drop_end (by omega), List.all_nil] at hinv
    rw [← hinv]
    repeat' ((conv => whnf) <;> first
     | (show CondP _ _ _; refine cS ?_) | refine And.intro ?_ ?_)
    all_goals first
      | rfl
      | exact hE
      | (exfalso; omega)
def faultOf (b : GBrowser) : ByteArray :=
  if isBrowser b = true then
    if isGranted b = true then
      if reviewed b = true then
        if isRuled b = true then
          if declS b [] = true then ⟨#[]⟩ else ⟨#[102, 108, 111, 119]⟩
        else ⟨#[114, 117, 108, 101]⟩
      else ⟨#[114, 101, 118, 105, 101, 119]⟩
    else ⟨#[103, 114, 97, 110, 116]⟩
  else ⟨#[98, 114, 111, 119, 115, 101, 114]⟩
theorem ev_iFaultOf (b : GBrowser) (cs : List C) (S : Store) (h : Rd S b.d cs) (hz : szL b.d ≤ 2097152) : EvA Tryz.prog 10 [.agg cs] S (fun r S' => r = .v (.s (.str (faultOf b))) ∧ S' = S) := by
  have hB := h
  obtain ⟨_, _, _, _, _, _, rfl, _, _, _, _, _, _⟩ := GBrowser.inv h
  unfold faultOf
  cases a1 : isBrowser b <;> cases a2 : isGranted b <;> cases a3 : reviewed b <;> cases a4 : isRuled b <;> cases a5 : declS b []
  all_goals
    try have a6 := (decl_eq a1 []).trans a5
    refine evA_intro tok Tryz.func10 (by kernel_rfl) rfl ?_
    repeat' ((conv => whnf) <;> first
     | (refine callP_eq (ev_iIsDeclared b [] _ _ _ hB (fr_empty (lo := 0) (by first | exact .inl rfl | exact .inr rfl)).rd) ?_) | (refine callP_eq (ev_iIsRuled b _ _ hB) ?_) | (refine callP_eq (ev_iIsReviewed b _ _ hB hz) ?_) | (refine callP_eq (ev_iIsGranted b _ _ hB) ?_) | (refine callP_eq (ev_iIsBrowser b _ _ hB om) ?_) | (show CondP _ _ _; refine cS ?_) | refine And.intro ?_ ?_)
    all_goals first
      | rfl
      | (exfalso; simp_all; done)
end Go.Proofs.YtlmmdpmmdmhacaaGreat
namespace Go.Proofs.YtlmmdpmmdmhacaaGreat
set_option linter.unusedVariables false
set_option linter.unusedSimpArgs false
set_option maxRecDepth 100000
section
open Go Go.RowKit
structure InsRaw (P : Program) (F k by' te : Nat) : Prop where
  shift : ∀ (b n c i vb vc : Nat) (cur vcur : Array Value) (e e' : Nat) (w : World), i < n → n + 1 ≤ c → c ≤ 9223372036854775807 → vb ≠ b →
    w.heap[b]? = some (.cells cur e (0, 0)) → cur.size = c * k → w.heap[vb]? = some (.cells vcur e' (0, 0)) → k ≤ vcur.size →
    (∀ v ∈ (cur.toList.drop (i * k)).take ((n - i) * k), v.oneCell' = true) → (∀ v ∈ vcur.toList.take k, v.oneCell' = true) →
    Calls P F #[.slice (some ⟨b, 0, none⟩) n c, .int .i64 i, .slice (some ⟨vb, 0, none⟩) 1 vc] w fun r w' =>
      r = .returned (.slice (some ⟨b, 0, none⟩) (n + 1) c) ∧ w' = w.drew.setRow b (cur.toList.take (i * k) ++ vcur.toList.take k ++ (cur.toList.drop (i * k)).take ((n - i) * k) ++ cur.toList.drop (i * k + k + (n - i) * k)).toArray
  grow : ∀ (b n c i vb vc : Nat) (cur vcur : Array Value) (e e' : Nat) (w : World), i < n → n ≤ c → c < n + 1 → (n + 1) * by' ≤ 140737488355328 → vb ≠ b →
    w.heap[b]? = some (.cells cur e (0, 0)) → cur.size = c * k → w.heap[vb]? = some (.cells vcur e' (0, 0)) → k ≤ vcur.size →
    (∀ v ∈ (cur.toList.drop (i * k)).take ((n - i) * k), v.oneCell' = true) → (∀ v ∈ vcur.toList.take k, v.oneCell' = true) →
    Calls P F #[.slice (some ⟨b, 0, none⟩) n c, .int .i64 i, .slice (some ⟨vb, 0, none⟩) 1 vc] w fun r w' =>
      r = .returned (.slice (some ⟨w.heap.size, 0, none⟩) (n + 1) (grownCap w (n + 1) c te)) ∧ n + 1 ≤ grownCap w (n + 1) c te ∧
      ∃ Z : List Value, Z.length = (grownCap w (n + 1) c te - (n + 1)) * k ∧ w'.heap = (w.alloc (.cells (cur.toList.take (i * k) ++ vcur.toList.take k ++ (cur.toList.drop (i * k)).take ((n - i) * k) ++ Z).toArray te)).heap ∧ w'.os = w.os ∧ w'.tape = w.tape ∧ w'.output = w.output
section
variable {μ : Mp} {S : Store} {w : World} {k : Nat}
theorem FlatR.take {xs : List (List C)} {us : List Value} (h : FlatR μ S k xs us) (i : Nat) : FlatR μ S k (xs.take i) (us.take (i * k)) := by
  refine ⟨by rw [List.length_take, List.length_take, h.1, Nat.mul_comm, Nat.mul_comm xs.length, Nat.mul_comm _ k, Nat.mul_min_mul_left], fun j cs hj => ?_⟩
  rw [List.getElem?_take] at hj
  split at hj
  · rename_i hlt
    obtain ⟨a, b⟩ := h.2 j cs hj
    refine ⟨a, fun m c hm => ?_⟩
    obtain ⟨u, hu, hc⟩ := b m c hm
    have hmk : m < k := by rw [← a]; exact (List.getElem?_eq_some_iff.1 hm).1
    have : (j + 1) * k ≤ i * k := Nat.mul_le_mul_right _ hlt
    rw [Nat.add_mul, Nat.one_mul] at this
    exact ⟨u, by rw [List.getElem?_take, if_pos (by omega)]; exact hu, hc⟩
  · cases hj
theorem FlatR.drop {xs : List (List C)} {us : List Value} (h : FlatR μ S k xs us) (i : Nat) : FlatR μ S k (xs.drop i) (us.drop (i * k)) := by
  refine ⟨by rw [List.length_drop, List.length_drop, h.1, Nat.sub_mul], fun j cs hj => ?_⟩
  rw [List.getElem?_drop] at hj
  obtain ⟨a, b⟩ := h.2 (i + j) cs hj
  refine ⟨a, fun m c hm => ?_⟩
  obtain ⟨u, hu, hc⟩ := b m c hm
  exact ⟨u, by rw [List.getElem?_drop, show i * k + (j * k + m) = (i + j) * k + m by rw [Nat.add_mul]; omega]; exact hu, hc⟩
theorem three_args {c v : C} {i : Int} {us : Array Value} (h : VsR μ S [.s c, .s (.int .i64 i), .s v] us) : ∃ u x, us = #[u, .int .i64 i, x] ∧ CR μ S c u ∧ CR μ S v x := by
  obtain ⟨hl, hv⟩ := h
  obtain ⟨u, h1, h2⟩ := hv 0 _ rfl
  obtain ⟨y, h3, h4⟩ := hv 1 _ rfl
  obtain ⟨x, h5, h6⟩ := hv 2 _ rfl
  have h4 : y = .int .i64 i := h4
  subst h4
  refine ⟨u, x, ?_, h2, h6⟩
  apply Array.ext
  · simpa using hl
  · intro j hj hj2
    have : j = 0 ∨ j = 1 ∨ j = 2 := by simp at hj2; omega
    rcases this with rfl | rfl | rfl
    · have := (Array.getElem?_eq_some_iff.1 h1).2
      simpa using this
    · have := (Array.getElem?_eq_some_iff.1 h3).2
      simpa using this
    · have := (Array.getElem?_eq_some_iff.1 h5).2
      simpa using this
theorem keeps_ins {xs : List (List C)} {y : List C} {id i : Nat} {m : Loc} (hrow : S[id]? = some ⟨true, k, xs⟩) (hi : i < xs.length) :
    Keeps μ S (upd μ id (some m)) (S.set id ⟨true, k, xs.take i ++ y :: xs.drop i⟩) := by
  have hlt := (List.getElem?_eq_some_iff.1 hrow).1
  intro id' r h'
  by_cases e : id' = id
  · subst e
    rw [hrow] at h'; cases h'
    have hl : (xs.take i ++ y :: xs.drop i).length = xs.length + 1 := by simp; omega
    exact ⟨⟨true, k, xs.take i ++ y :: xs.drop i⟩, by simp [hlt], rfl, rfl, by rw [hl]; exact Nat.le_succ _, fun e => by rw [hl] at e; simp at e⟩
  · exact ⟨r, by rw [List.getElem?_set_ne (Ne.symm e)]; exact h', rfl, rfl, Nat.le_refl _, fun _ => upd_ne _ _ e⟩
end
theorem InsRaw.ev {P : Program} {F k by' te : Nat} (hR : InsRaw P F k by' te) (hk : 0 < k) (hby : 0 < by') (fok : FOK P F) {S : Store} {xs : List (List C)} {y : List C} {id vid i : Nat}
    (hrow : S[id]? = some ⟨true, k, xs⟩) (hv : S[vid]? = some ⟨true, k, [y]⟩) (hne : vid ≠ id) (hi : i < xs.length) (hbig : (xs.length + 1) * by' ≤ 140737488355328) :
    EvA P F [.s (.sl id 0 xs.length xs.length), .s (.int .i64 i), .s (.sl vid 0 1 1)] S (fun r S' => r = .v (.s (.sl id 0 (xs.length + 1) (xs.length + 1))) ∧ S' = S.set id ⟨true, k, xs.take i ++ y :: xs.drop i⟩) := by
  refine ⟨fok, fun μ w us rs hA hvs => ?_⟩
  obtain ⟨u, x, rfl, hu, hx⟩ := three_args hvs
  obtain ⟨m, cur, e, m1, rfl, hnc, hcm, hb0, hh, hsz, hf⟩ := whole_at rs hrow rfl rfl hu
  obtain ⟨m', vcur, e', v1, rfl, vnc, vcm, vb0, vh, vsz, vf⟩ := whole_at rs hv rfl rfl hx
  have hblk : m'.blk ≠ m.blk := rs.sep vid id _ _ m' m hv hrow v1 m1 hne rfl
  simp only at hsz hf vsz vf
  have hnc : xs.length ≤ m.cap := hnc
  have vnc : 1 ≤ m'.cap := vnc
  have hvs5 : k ≤ vcur.size := by rw [vsz]; exact Nat.le_mul_of_pos_left _ (by omega)
  have hmulc : xs.length * k ≤ m.cap * k := Nat.mul_le_mul_right _ hnc
  have hik : i * k ≤ xs.length * k := Nat.mul_le_mul_right _ (Nat.le_of_lt hi)
  have ht : cur.toList.take (i * k) = (cur.toList.take (xs.length * k)).take (i * k) := by rw [List.take_take]; congr 1; omega
  have hd : (cur.toList.drop (i * k)).take ((xs.length - i) * k) = (cur.toList.take (xs.length * k)).drop (i * k) := by
    rw [List.drop_take, Nat.sub_mul]
  have vf1 : FlatR μ S k [y] (vcur.toList.take k) := by simpa using vf
  have flat : FlatR μ S k (xs.take i ++ y :: xs.drop i) (cur.toList.take (i * k) ++ vcur.toList.take k ++ (cur.toList.drop (i * k)).take ((xs.length - i) * k)) := by
    rw [ht, hd, List.append_assoc]
    exact (hf.take i).append (vf1.append (hf.drop i))
  have hlen : (xs.take i ++ y :: xs.drop i).length = xs.length + 1 := by simp; omega
  have h1 : ∀ v ∈ (cur.toList.drop (i * k)).take ((xs.length - i) * k), v.oneCell' = true := by rw [hd]; exact (hf.drop i).ones
  have hlt := (List.getElem?_eq_some_iff.1 hrow).1
  by_cases hroom : xs.length + 1 ≤ m.cap
  · refine (hR.shift m.blk xs.length m.cap i m'.blk m'.cap cur vcur e e' w hi hroom (by simp only [maxLen] at hcm; omega) hblk hh hsz vh hvs5 h1 vf1.ones).mono ?_
    rintro r w' ⟨rfl, rfl⟩
    have hheap := setRow_heap w.drew m.blk cur (cur.toList.take (i * k) ++ vcur.toList.take k ++ (cur.toList.drop (i * k)).take ((xs.length - i) * k) ++ cur.toList.drop (i * k + k + (xs.length - i) * k)).toArray e (0, 0) hh
    have kp := keeps_ins (μ := μ) (y := y) (m := m) hrow hi
    have hmulr : (xs.length + 1) * k ≤ m.cap * k := Nat.mul_le_mul_right _ hroom
    rw [Nat.add_mul, Nat.one_mul] at hmulr
    have hsub : (xs.length - i) * k = xs.length * k - i * k := Nat.sub_mul ..
    have hok' : RowOK (upd μ id (some m)) (S.set id ⟨true, k, xs.take i ++ y :: xs.drop i⟩) (w.drew.setRow m.blk (cur.toList.take (i * k) ++ vcur.toList.take k ++ (cur.toList.drop (i * k)).take ((xs.length - i) * k) ++ cur.toList.drop (i * k + k + (xs.length - i) * k)).toArray) ⟨true, k, xs.take i ++ y :: xs.drop i⟩ m :=
      RowOK.of_flat rfl (flat.keep kp) hb0 hheap (fun j u hj => by
        rw [List.getElem?_toArray, List.getElem?_append_left (List.getElem?_eq_some_iff.1 hj).1]; exact hj)
        (by simp only [List.size_toArray, List.length_append, List.length_take, List.length_drop, Array.length_toList]; omega) (by rw [hlen]; exact hroom) hcm
    obtain ⟨_, rs', ev⟩ := rs.regrow (row' := ⟨true, k, xs.take i ++ y :: xs.drop i⟩) (w' := w.drew.setRow m.blk (cur.toList.take (i * k) ++ vcur.toList.take k ++ (cur.toList.drop (i * k)).take ((xs.length - i) * k) ++ cur.toList.drop (i * k + k + (xs.length - i) * k)).toArray) hrow m1 rfl rfl rfl (by show xs.length < (xs.take i ++ y :: xs.drop i).length; rw [hlen]; exact Nat.lt_succ_self _) (by simp [World.setRow]) ⟨rfl, rfl, rfl⟩ (fun b _ hb => setRow_other w.drew _ _ _ hb) (.inl rfl) hok'
    exact ⟨_, _, _, _, ⟨rfl, rfl⟩, rfl, rs', ⟨⟨m.blk, 0, none⟩, m.cap, rfl, hroom, ⟨true, k, xs.take i ++ y :: xs.drop i⟩, by simp [hlt], by rw [hlen]; exact Nat.le_refl _, fun _ => ⟨m, upd_same _ _ _, by omega, fun _ => by simp [hb0], fun _ _ _ => ⟨rfl, rfl⟩⟩⟩, ev⟩
  · refine (hR.grow m.blk xs.length m.cap i m'.blk m'.cap cur vcur e e' w hi hnc (by omega) hbig hblk hh hsz vh hvs5 h1 vf1.ones).mono ?_
    rintro r w' ⟨rfl, hge, Z, hZ, hheap', ho, htp, hou⟩
    have hle : xs.length + 1 ≤ (xs.length + 1) * by' := Nat.le_mul_of_pos_right _ hby
    have hcm' := grownCap_le_maxLen w (xs.length + 1) m.cap te (by simp only [maxLen]; omega)
    have hheap : w'.heap[w.heap.size]? = some (.cells (cur.toList.take (i * k) ++ vcur.toList.take k ++ (cur.toList.drop (i * k)).take ((xs.length - i) * k) ++ Z).toArray te (0, 0)) := by rw [hheap']; exact Go.heap_alloc_new w _
    have kp := keeps_ins (μ := μ) (y := y) (m := ⟨w.heap.size, 0, grownCap w (xs.length + 1) m.cap te⟩) hrow hi
    have hsub : (xs.length - i) * k = xs.length * k - i * k := Nat.sub_mul ..
    have hGk : (xs.length + 1) * k ≤ grownCap w (xs.length + 1) m.cap te * k := Nat.mul_le_mul_right _ hge
    rw [Nat.sub_mul] at hZ
    rw [Nat.add_mul, Nat.one_mul] at hGk hZ
    have hok' := RowOK.of_flat (w := w') (row := ⟨true, k, xs.take i ++ y :: xs.drop i⟩) (m := ⟨w.heap.size, 0, grownCap w (xs.length + 1) m.cap te⟩) rfl (flat.keep kp) rfl hheap (fun j u hj => by
        rw [List.getElem?_toArray, List.getElem?_append_left (List.getElem?_eq_some_iff.1 hj).1]; exact hj)
        (by simp only [List.size_toArray, List.length_append, List.length_take, List.length_drop, Array.length_toList]; omega) (by rw [hlen]; exact hge) hcm'
    obtain ⟨_, rs', ev⟩ := rs.regrow (row' := ⟨true, k, xs.take i ++ y :: xs.drop i⟩) (w' := w') hrow m1 rfl rfl rfl (by show xs.length < (xs.take i ++ y :: xs.drop i).length; rw [hlen]; exact Nat.lt_succ_self _) (by rw [hheap']; simp) ⟨ho, htp, hou⟩ (fun b hb _ => by rw [hheap']; exact Go.heap_alloc_old w _ hb) (.inr (Nat.le_refl _)) hok'
    exact ⟨_, _, _, _, ⟨rfl, rfl⟩, rfl, rs', ⟨⟨w.heap.size, 0, none⟩, _, rfl, hge, ⟨true, k, xs.take i ++ y :: xs.drop i⟩, by simp [hlt], by rw [hlen]; exact Nat.le_refl _, fun _ => ⟨_, upd_same _ _ _, by omega, fun _ => by simp, fun _ _ _ => ⟨rfl, rfl⟩⟩⟩, ev⟩
theorem InsRaw.fr {P : Program} {F k by' te : Nat} (hR : InsRaw P F k by' te) (hk : 0 < k) (hby : 0 < by') (fok : FOK P F) {S0 S1 S2 : Store} {xs : List (List D)} {ds : List D} {y : List C} {c : C} {i : Nat}
    (hE : Ext S0 S2) (h : Fr S0.length S1 [.sl k xs] [c]) (e1 : Ext S1 S2) (hy : Fr S1.length S2 ds y) (h01 : S0.length ≤ S1.length) (hd : ds.length = k) (hi : i < xs.length) (hbig : (xs.length + 1) * by' ≤ 140737488355328) :
    EvA P F [.s c, .s (.int .i64 i), .s (.sl S2.length 0 1 1)] (S2 ++ [⟨true, k, [y]⟩]) (fun r S' => Ext S0 S' ∧ ∃ c', r = .v (.s c') ∧ Fr S0.length S' [.sl k (xs.take i ++ ds :: xs.drop i)] [c']) := by
  obtain ⟨ids, h, hn, hlo⟩ := h.one
  have hid1 : ∀ id ∈ ids, id < S1.length := h.lt
  have h : Rep true S2 (.sl k xs) c ids := h.frame fun id hi => e1.at (hid1 id hi)
  obtain ⟨jy, hy, hyn, hyl⟩ := hy
  have hyt := hy.lt
  have h12 := e1.len
  unfold Rep at h
  obtain ⟨hl, h⟩ := h
  rcases h with ⟨h1, _, _⟩ | ⟨id, o, t, row, js0, h1, h2, h3, h4, h5, h6, h7, h8⟩
  · subst h1; cases hi
  obtain ⟨ho, ht, hown⟩ := h7 rfl
  subst ho
  have hrl : row.xs.length = xs.length := by omega
  have hrow : row = ⟨true, k, row.xs⟩ := by cases row; simp at hown h4; simp [hown, h4]
  have hid : S0.length ≤ id := hlo id (by rw [h2]; simp)
  have hid1' : id < S1.length := hid1 id (by rw [h2]; simp)
  rw [h2, List.nodup_cons] at hn
  have hrow2 : (S2 ++ ([⟨true, k, [y]⟩] : Store))[id]? = some ⟨true, k, row.xs⟩ := by rw [List.getElem?_append_left (by omega), h3, ← hrow]
  refine EvA.mono (R := fun r S' => r = .v (.s (.sl id 0 (row.xs.length + 1) (row.xs.length + 1))) ∧ S' = (S2 ++ ([⟨true, k, [y]⟩] : Store)).set id ⟨true, k, row.xs.take i ++ y :: row.xs.drop i⟩) ?_ ?_
  · rw [h1, ← ht, ← hrl]
    exact hR.ev hk hby fok hrow2 (by simp) (by omega) (by omega) (by rw [hrl]; exact hbig)
  · rintro r S' ⟨rfl, rfl⟩
    rw [List.drop_zero, List.take_of_length_le (by omega)] at h8
    have hlt2 : id < (S2 ++ ([⟨true, k, [y]⟩] : Store)).length := by simp; omega
    have hxl : (xs.take i ++ ds :: xs.drop i).length = xs.length + 1 := by simp; omega
    have hrl2 : (row.xs.take i ++ y :: row.xs.drop i).length = xs.length + 1 := by simp; omega
    have e8 : Rep2 true S2 (xs.take i ++ xs.drop i) row.xs js0 := by rw [List.take_append_drop]; exact h8
    obtain ⟨r1, r2, j1, j2, g1, g2, g3, g4⟩ := e8.split
    have hr1 : r1.length = i := by rw [g3.len, List.length_take]; omega
    have t1 : row.xs.take i = r1 := by rw [g1]; exact List.take_left' hr1
    have t2 : row.xs.drop i = r2 := by rw [g1]; exact List.drop_left' hr1
    rw [hrl, t1, t2]
    have hkeep : ∀ x, x ≠ id → x < S2.length → ((S2 ++ ([⟨true, k, [y]⟩] : Store)).set id ⟨true, k, r1 ++ y :: r2⟩)[x]? = S2[x]? := fun x hx hl2 => by
      rw [List.getElem?_set_ne (Ne.symm hx), List.getElem?_append_left hl2]
    have far : ∀ x ∈ js0, x ≠ id := fun x hx e => hn.1 (e ▸ hx)
    have farl : ∀ x ∈ js0, x < S2.length := fun x hx => by have := hid1 x (by rw [h2]; simp [hx]); omega
    refine ⟨(hE.trans (Ext.push S2 _)).set hid _, _, rfl, fr_one (ids := id :: (j1 ++ (jy ++ j2))) ?_ ?_ ?_⟩
    · unfold Rep
      refine ⟨by rw [hxl]; simp only [maxLen]; have : xs.length + 1 ≤ (xs.length + 1) * by' := Nat.le_mul_of_pos_right _ hby; omega, .inr ⟨id, 0, xs.length + 1, ⟨true, k, r1 ++ y :: r2⟩, j1 ++ (jy ++ j2), by rw [hxl], rfl, by rw [List.getElem?_set_self hlt2], rfl, by rw [← t1, ← t2]; exact hrl2, by omega, fun _ => ⟨rfl, hxl, rfl⟩, ?_⟩⟩
      have e : List.take (xs.take i ++ ds :: xs.drop i).length (List.drop 0 (r1 ++ y :: r2)) = r1 ++ y :: r2 := by
        rw [List.drop_zero, List.take_of_length_le (by rw [hxl, ← t1, ← t2, hrl2]; exact Nat.le_refl _)]
      rw [e]
      refine (g3.frame fun x hx => ?_).append ?_
      · exact hkeep x (far x (by rw [g2]; simp [hx])) (farl x (by rw [g2]; simp [hx]))
      · rw [rep2_cons]
        refine ⟨y, r2, jy, j2, rfl, rfl, hy.frame fun x hx => hkeep x (by have := hyl x hx; omega) (hyt x hx), g4.frame fun x hx => ?_⟩
        exact hkeep x (far x (by rw [g2]; simp [hx])) (farl x (by rw [g2]; simp [hx]))
    · have hn2 := hn.2
      rw [g2, List.nodup_append] at hn2
      have fy : ∀ x ∈ js0, ∀ z ∈ jy, x ≠ z := fun x hx z hz => by have := hid1 x (by rw [h2]; simp [hx]); have := hyl z hz; omega
      have iy : ∀ z ∈ jy, z ≠ id := fun z hz => by have := hyl z hz; omega
      rw [List.nodup_cons, List.nodup_append, List.nodup_append]
      refine ⟨fun hx => ?_, hn2.1, ⟨hyn, hn2.2.1, fun a ha b hb => Ne.symm (fy b (by rw [g2]; simp [hb]) a ha)⟩, fun a ha b hb => ?_⟩
      · simp only [List.mem_append] at hx
        rcases hx with hx | hx | hx
        · exact far _ (by rw [g2]; simp [hx]) rfl
        · exact iy _ hx rfl
        · exact far _ (by rw [g2]; simp [hx]) rfl
      · rcases List.mem_append.1 hb with hb | hb
        · exact fy a (by rw [g2]; simp [ha]) b hb
        · exact hn2.2.2 a ha b hb
    · intro x hx
      simp only [List.mem_cons, List.mem_append] at hx
      rcases hx with rfl | hx | hx | hx
      · exact hid
      · exact hlo x (by rw [h2, g2]; simp [hx])
      · exact Nat.le_trans h01 (hyl x hx)
      · exact hlo x (by rw [h2, g2]; simp [hx])
end
section
open Go Go.RowKit
section
variable {S0 S1 S2 : Store}
theorem InsRaw.ids {P : Program} {F k by' te : Nat} (hR : InsRaw P F k by' te) (hk : 0 < k) (hby : 0 < by') (fok : FOK P F) {xs : List (List D)} {ds : List D} {y : List C} {c : C} {i : Nat} {ids jy : List Nat}
    (h : Rep true S2 (.sl k xs) c ids) (hn : ids.Nodup) (hy : RepL true S2 ds y jy) (hyn : jy.Nodup) (hdis : ∀ a ∈ ids, ∀ b ∈ jy, a ≠ b) (hi : i < xs.length) (hbig : (xs.length + 1) * by' ≤ 140737488355328) :
    EvA P F [.s c, .s (.int .i64 i), .s (.sl S2.length 0 1 1)] (S2 ++ [⟨true, k, [y]⟩]) (fun r S' => ∃ c' ids', r = .v (.s c') ∧ Rep true S' (.sl k (xs.take i ++ ds :: xs.drop i)) c' ids' ∧ ids'.Nodup ∧ (∀ x ∈ ids', x ∈ ids ∨ x ∈ jy) ∧ S2.length ≤ S'.length ∧ ∀ x, x < S2.length → x ∉ ids → S'[x]? = S2[x]?) := by
  have hid1 : ∀ id ∈ ids, id < S2.length := h.lt
  have hyt := hy.lt
  unfold Rep at h
  obtain ⟨hl, h⟩ := h
  rcases h with ⟨h1, _, _⟩ | ⟨id, o, t, row, js0, h1, h2, h3, h4, h5, h6, h7, h8⟩
  · subst h1; cases hi
  obtain ⟨ho, ht, hown⟩ := h7 rfl
  subst ho
  have hrl : row.xs.length = xs.length := by omega
  have hrow : row = ⟨true, k, row.xs⟩ := by cases row; simp at hown h4; simp [hown, h4]
  have hid1' : id < S2.length := hid1 id (by rw [h2]; simp)
  rw [h2, List.nodup_cons] at hn
  have hrow2 : (S2 ++ ([⟨true, k, [y]⟩] : Store))[id]? = some ⟨true, k, row.xs⟩ := by rw [List.getElem?_append_left (by omega), h3, ← hrow]
  refine EvA.mono (R := fun r S' => r = .v (.s (.sl id 0 (row.xs.length + 1) (row.xs.length + 1))) ∧ S' = (S2 ++ ([⟨true, k, [y]⟩] : Store)).set id ⟨true, k, row.xs.take i ++ y :: row.xs.drop i⟩) ?_ ?_
  · rw [h1, ← ht, ← hrl]
    exact hR.ev hk hby fok hrow2 (by simp) (by omega) (by omega) (by rw [hrl]; exact hbig)
  · rintro r S' ⟨rfl, rfl⟩
    rw [List.drop_zero, List.take_of_length_le (by omega)] at h8
    have hlt2 : id < (S2 ++ ([⟨true, k, [y]⟩] : Store)).length := by simp; omega
    have hxl : (xs.take i ++ ds :: xs.drop i).length = xs.length + 1 := by simp; omega
    have hrl2 : (row.xs.take i ++ y :: row.xs.drop i).length = xs.length + 1 := by simp; omega
    have e8 : Rep2 true S2 (xs.take i ++ xs.drop i) row.xs js0 := by rw [List.take_append_drop]; exact h8
    obtain ⟨r1, r2, j1, j2, g1, g2, g3, g4⟩ := e8.split
    have hr1 : r1.length = i := by rw [g3.len, List.length_take]; omega
    have t1 : row.xs.take i = r1 := by rw [g1]; exact List.take_left' hr1
    have t2 : row.xs.drop i = r2 := by rw [g1]; exact List.drop_left' hr1
    rw [hrl, t1, t2]
    have hkeep : ∀ x, x ≠ id → x < S2.length → ((S2 ++ ([⟨true, k, [y]⟩] : Store)).set id ⟨true, k, r1 ++ y :: r2⟩)[x]? = S2[x]? := fun x hx hl2 => by
      rw [List.getElem?_set_ne (Ne.symm hx), List.getElem?_append_left hl2]
    have far : ∀ x ∈ js0, x ≠ id := fun x hx e => hn.1 (e ▸ hx)
    have farl : ∀ x ∈ js0, x < S2.length := fun x hx => hid1 x (by rw [h2]; simp [hx])
    have iy : ∀ z ∈ jy, z ≠ id := fun z hz e => hdis id (by rw [h2]; simp) z hz e.symm
    have fy : ∀ x ∈ js0, ∀ z ∈ jy, x ≠ z := fun x hx z hz => hdis x (by rw [h2]; simp [hx]) z hz
    refine ⟨_, id :: (j1 ++ (jy ++ j2)), rfl, ?_, ?_, fun x hx => ?_, by simp, fun x hx hxi => hkeep x (fun e => hxi (by rw [h2, e]; simp)) hx⟩
    · unfold Rep
      refine ⟨by rw [hxl]; simp only [maxLen]; have : xs.length + 1 ≤ (xs.length + 1) * by' := Nat.le_mul_of_pos_right _ hby; omega, .inr ⟨id, 0, xs.length + 1, ⟨true, k, r1 ++ y :: r2⟩, j1 ++ (jy ++ j2), by rw [hxl], rfl, by rw [List.getElem?_set_self hlt2], rfl, by rw [← t1, ← t2]; exact hrl2, by omega, fun _ => ⟨rfl, hxl, rfl⟩, ?_⟩⟩
      have e : List.take (xs.take i ++ ds :: xs.drop i).length (List.drop 0 (r1 ++ y :: r2)) = r1 ++ y :: r2 := by
        rw [List.drop_zero, List.take_of_length_le (by rw [hxl, ← t1, ← t2, hrl2]; exact Nat.le_refl _)]
      rw [e]
      refine (g3.frame fun x hx => ?_).append ?_
      · exact hkeep x (far x (by rw [g2]; simp [hx])) (farl x (by rw [g2]; simp [hx]))
      · rw [rep2_cons]
        refine ⟨y, r2, jy, j2, rfl, rfl, hy.frame fun x hx => hkeep x (iy x hx) (hyt x hx), g4.frame fun x hx => ?_⟩
        exact hkeep x (far x (by rw [g2]; simp [hx])) (farl x (by rw [g2]; simp [hx]))
    · have hn2 := hn.2
      rw [g2, List.nodup_append] at hn2
      rw [List.nodup_cons, List.nodup_append, List.nodup_append]
      refine ⟨fun hx => ?_, hn2.1, ⟨hyn, hn2.2.1, fun a ha b hb => Ne.symm (fy b (by rw [g2]; simp [hb]) a ha)⟩, fun a ha b hb => ?_⟩
      · simp only [List.mem_append] at hx
        rcases hx with hx | hx | hx
        · exact far _ (by rw [g2]; simp [hx]) rfl
        · exact iy _ hx rfl
        · exact far _ (by rw [g2]; simp [hx]) rfl
      · rcases List.mem_append.1 hb with hb | hb
        · exact fy a (by rw [g2]; simp [ha]) b hb
        · exact hn2.2.2 a ha b hb
    · simp only [List.mem_cons, List.mem_append] at hx
      rcases hx with rfl | hx | hx | hx
      · exact .inl (by rw [h2]; simp)
      · exact .inl (by rw [h2, g2]; simp [hx])
      · exact .inr hx
      · exact .inl (by rw [h2, g2]; simp [hx])
end
end
end Go.Proofs.YtlmmdpmmdmhacaaGreat
