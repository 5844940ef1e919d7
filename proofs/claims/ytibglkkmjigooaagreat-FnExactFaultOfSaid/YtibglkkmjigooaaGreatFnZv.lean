/- What is wrong with a browser. -/
import Derived.Test.YtibglkkmjigooaaGreatFnZr
import Derived.Test.YtibglkkmjigooaaGreatFnZ
import Derived.Test.YtibglkkmjigooaaGreatFnZb
import Derived.Test.YtibglkkmjigooaaGreatFnJ
namespace Go.Proofs.YtibglkkmjigooaaGreat
open Go Go.ChangeShapes Go.WideShapes Go.ChangeAt Go.RowKit
set_option linter.unusedVariables false
set_option maxRecDepth 100000

/-! ### packages in order -/
theorem packsGo_at (b : GBrowser) : ∀ (l : List GPackage) (i : Nat), packsGo b l i = true → ∀ (j : Nat) (h : j < l.length), packIx b l[j] (i + j) = true
  | [], _, _, j, h => absurd h (by simp)
  | p :: r, i, hg, j, h => by
    rw [packsGo] at hg
    split at hg
    · rename_i hp
      match j, h with
      | 0, _ => exact hp
      | j + 1, h =>
        have := packsGo_at b r (i + 1) hg j (by simpa using h)
        rw [show i + (j + 1) = i + 1 + j from by omega]; exact this
    · cases hg
theorem packs_step {b : GBrowser} (h : isBrowser b = true) {i : Nat} (hi : i + 1 < b.Packs.length) : (b.Packs[i]).Ext < (b.Packs[i + 1]).Ext := by
  unfold isBrowser at h
  simp only [Bool.and_eq_true] at h
  have h1 := packsGo_at b b.Packs 0 h.1.1.1.1.1.2 (i + 1) hi
  rw [Nat.zero_add, packIx_pos (by omega) (by omega)] at h1
  simp only [Bool.and_eq_true, decide_eq_true_eq] at h1
  have h2 := h1.2
  have e : (((i + 1 : Nat) : Int) - 1).toNat = i := by omega
  simp only [e] at h2
  exact h2
theorem packs_lt {b : GBrowser} (h : isBrowser b = true) : ∀ (d i : Nat) (hi : i + d + 1 < b.Packs.length), (b.Packs[i]'(by omega)).Ext < (b.Packs[i + d + 1]).Ext
  | 0, i, hi => packs_step h hi
  | d + 1, i, hi => by
    have h1 := packs_lt h d i (by omega)
    have h2 := packs_step h (i := i + d + 1) (by omega)
    exact Int.lt_trans h1 h2
theorem packGo_self (ext : Int) : ∀ (l : List GPackage) (k i : Nat) (hi : i < l.length), (∀ (j : Nat) (hj : j < i), (l[j]'(by omega)).Ext ≠ ext) → (l[i]).Ext = ext → packGo ext l k = k + i
  | p :: r, k, 0, _, _, he => by rw [packGo, if_pos (show p.Ext = ext from he)]; rfl
  | p :: r, k, i + 1, hi, hj, he => by
    rw [packGo, if_neg (show ¬ p.Ext = ext from hj 0 (by omega)), packGo_self ext r (k + 1) i (by simpa using hi) (fun j h => hj (j + 1) (by omega)) he]
    omega
theorem pack_self {b : GBrowser} (h : isBrowser b = true) {i : Nat} (hi : i < b.Packs.length) : packOf b (b.Packs[i]).Ext = i := by
  unfold packOf
  rw [packGo_self _ b.Packs 0 i hi (fun j hj e => ?_) rfl]
  · omega
  · have := packs_lt h (i - j - 1) j (by omega)
    simp only [show j + (i - j - 1) + 1 = i from by omega] at this
    omega
theorem package_self {b : GBrowser} (h : isBrowser b = true) {i : Nat} (hi : i < b.Packs.length) : packageOf b (b.Packs[i]).Ext = b.Packs[i] := by
  have h1 := pack_self h hi
  rw [packageOf_in (by omega) (by omega)]
  simp only [h1, Int.toNat_natCast]

/-! ### what is declared -/
def decl1 (b : GBrowser) (values : List Int) (flows : List GFlow) (ext : Int) : Bool := (sentFrom b ext values).all fun s => mayFlow flows ext s.Label s.To
def declS (b : GBrowser) (values : List Int) : Bool := b.Packs.all fun p => decl1 b values p.Flows p.Ext
def declI (b : GBrowser) (values : List Int) : Bool := b.Packs.all fun p => decl1 b values (packageOf b p.Ext).Flows p.Ext
theorem decl_eq {b : GBrowser} (h : isBrowser b = true) (values : List Int) : declI b values = declS b values := by
  unfold declI declS
  rw [Bool.eq_iff_iff, List.all_eq_true, List.all_eq_true]
  have key : ∀ p ∈ b.Packs, packageOf b p.Ext = p := fun p hp => by
    obtain ⟨i, hi, rfl⟩ := List.getElem_of_mem hp
    exact package_self h hi
  exact ⟨fun hh p hp => by have := hh p hp; rwa [key p hp] at this, fun hh p hp => by rw [key p hp]; exact hh p hp⟩
set_option maxHeartbeats 2000000 in
theorem ev_sIsDeclared (b : GBrowser) (values : List Int) (cs : List C) (c : C) (S : Store) (h : Rd S b.d cs) (h' : Rd S [.sl 1 (values.map dInt)] [c]) : EvA Tryz.prog 75 [.agg cs, .s c] S (fun r S' => r = .v (.s (.bool (declS b values))) ∧ S' = S) := by
  refine EvA.drop rfl ?_
  have hB := h
  obtain ⟨b1, b2, b3, b4, b5, b6, rfl, t1, t2, t3, t4, t5, t6⟩ := GBrowser.inv h
  refine evA_intro tok Tryz.func75 (by kernel_rfl) rfl ?_
  repeat' ((conv => whnf) <;> first
   | rw [wrapI_i64 (by omega)] | (show CondP _ _ _; refine cS ?_) | refine cD (fun _ => ?_) fun _ => ?_ | refine cE (fun _ => ?_) fun _ => ?_ | refine cT ?_ | refine cF ?_ | refine cN (fun _ => ?_) fun _ => ?_ | refine cI (fun _ => ?_) fun _ => ?_ | refine callP_eq (ev_sMayFlow _ _ _ _ _ _ rdA) ?_ | refine rE fun hml => ?_ | refine rI rdA rf ix ?_ | refine rd_loadf rdA tv ix ?_ | (refine rd_loadm (f := GPackage.d) rdA ix ?_; intro _ hcs; obtain ⟨_, _, _, _, rfl, _, _, _, _⟩ := GPackage.inv hcs) | refine nP ?_ | refine draw_intro 15 [.fl 0, .fl 1, .fl 2, .fl 3, .fl 4, .fl 5, .fl 6, .fl 7, .st 8 [], .st 9 []] (by rfl) (by kernel_rfl) ?_ | refine draw_intro 30 [.fl 0, .fl 1, .fl 2, .fl 3, .fl 4, .fl 5, .fl 6, .fl 7, .fl 8, .fl 9, .fl 10, .fl 11, .fl 12, .fl 13, .fl 14, .fl 15, .fl 16, .fl 17, .fl 18, .fl 19, .fl 20, .fl 21, .st 22 [], .fl 23] (by rfl) (by kernel_rfl) ?_ | refine And.intro ?_ ?_)
  (conv => whnf)
  refine loop_intro {p : Nat × Store // p.1 ≤ b.Packs.length ∧ Ext S p.2 ∧ (b.Packs.drop p.1).all (fun p : GPackage => decl1 b values p.Flows p.Ext) = declS b values} [4, 5, 6, 7, 8, 9, 10, 11, 12, 13, 14, 15, 16, 17, 18, 19, 20, 21, 22, 23, 24, 25, 26, 27, 28, 29, 30, 31, 32, 33, 34, 35, 36, 37, 38, 39, 40, 41, 42, 43, 44, 45, 46, 47, 48, 49, 50, 51, 52, 53] (fun zb => [(5, .v (.s (.int .i64 zb.1.1)))]) (fun zb => zb.1.2) (fun zb => b.Packs.length - zb.1.1) ⟨(0, S), Nat.zero_le _, Ext.refl _, rfl⟩ ?_ rfl ?_
  · (conv => whnf); repeat' (first | exact trivial | exact rfl | apply And.intro)
  rintro ⟨⟨i, Si⟩, hi, hE, hinv⟩; dsimp only
  replace hi : i ≤ b.Packs.length := hi
  replace hE : Ext S Si := hE
  replace hinv : (b.Packs.drop i).all (fun p : GPackage => decl1 b values p.Flows p.Ext) = declS b values := hinv
  by_cases hlt : i < b.Packs.length
  · have hlt' : ((i : Nat) : Int).toNat < b.Packs.length := hlt
    have hinv : ((sentFrom b (b.Packs[((i : Nat) : Int).toNat]'hlt').Ext values).all (fun s => mayFlow (b.Packs[((i : Nat) : Int).toNat]'hlt').Flows (b.Packs[((i : Nat) : Int).toNat]'hlt').Ext s.Label s.To) && (b.Packs.drop (i + 1)).all (fun p : GPackage => decl1 b values p.Flows p.Ext)) = declS b values := (allZ_drop hlt).symm.trans hinv
    obtain ⟨pcs, hpr, hpld⟩ := rd_loadx t2 (i := ((i : Nat) : Int)) ⟨by omega, hlt'⟩
    obtain ⟨_, _, _, _, rfl, q1, q2, q3, q4⟩ := GPackage.inv hpr
    repeat' ((conv => whnf) <;> first
     | refine hpld _ (by first | assumption | exact Ext.refl _) _ ?_ | rw [wrapI_i64 (by omega)] | (show CondP _ _ _; refine cS ?_) | refine cD (fun _ => ?_) fun _ => ?_ | refine cE (fun _ => ?_) fun _ => ?_ | refine cT ?_ | refine cF ?_ | refine cN (fun _ => ?_) fun _ => ?_ | refine cI (fun _ => ?_) fun _ => ?_ | refine callP_eq (ev_sMayFlow _ _ _ _ _ _ rdA) ?_ | refine rE fun hml => ?_ | refine rI rdA rf ix ?_ | refine rd_loadf rdA tv ix ?_ | (refine rd_loadm (f := GPackage.d) rdA ix ?_; intro _ hcs; obtain ⟨_, _, _, _, rfl, _, _, _, _⟩ := GPackage.inv hcs) | refine nP ?_ | refine draw_intro 15 [.fl 0, .fl 1, .fl 2, .fl 3, .fl 4, .fl 5, .fl 6, .fl 7, .st 8 [], .st 9 []] (by rfl) (by kernel_rfl) ?_ | refine draw_intro 30 [.fl 0, .fl 1, .fl 2, .fl 3, .fl 4, .fl 5, .fl 6, .fl 7, .fl 8, .fl 9, .fl 10, .fl 11, .fl 12, .fl 13, .fl 14, .fl 15, .fl 16, .fl 17, .fl 18, .fl 19, .fl 20, .fl 21, .st 22 [], .fl 23] (by rfl) (by kernel_rfl) ?_ | refine And.intro ?_ ?_)
    all_goals try (exfalso; omega)
    (conv => whnf)
    refine callP_intro (ev_sSentFrom b (b.Packs[((i : Nat) : Int).toNat]'hlt').Ext values _ _ _ (hB.ext hE) (h'.ext hE)) ?_; rintro _ S2 ⟨e2, cx, rfl, fx⟩
    have E2 := hE.trans e2
    generalize sentFrom b (b.Packs[((i : Nat) : Int).toNat]'hlt').Ext values = x at *
    have rx := fx.rd
    have hb2 := hB.ext E2
    have r2 := q2.ext E2
    repeat' ((conv => whnf) <;> first
     | rw [wrapI_i64 (by omega)] | (show CondP _ _ _; refine cS ?_) | refine cD (fun _ => ?_) fun _ => ?_ | refine cE (fun _ => ?_) fun _ => ?_ | refine cT ?_ | refine cF ?_ | refine cN (fun _ => ?_) fun _ => ?_ | refine cI (fun _ => ?_) fun _ => ?_ | refine callP_eq (ev_sMayFlow _ _ _ _ _ _ rdA) ?_ | refine rE fun hml => ?_ | refine rI rdA rf ix ?_ | refine rd_loadf rdA tv ix ?_ | (refine rd_loadm (f := GPackage.d) rdA ix ?_; intro _ hcs; obtain ⟨_, _, _, _, rfl, _, _, _, _⟩ := GPackage.inv hcs) | refine nP ?_ | refine draw_intro 15 [.fl 0, .fl 1, .fl 2, .fl 3, .fl 4, .fl 5, .fl 6, .fl 7, .st 8 [], .st 9 []] (by rfl) (by kernel_rfl) ?_ | refine draw_intro 30 [.fl 0, .fl 1, .fl 2, .fl 3, .fl 4, .fl 5, .fl 6, .fl 7, .fl 8, .fl 9, .fl 10, .fl 11, .fl 12, .fl 13, .fl 14, .fl 15, .fl 16, .fl 17, .fl 18, .fl 19, .fl 20, .fl 21, .st 22 [], .fl 23] (by rfl) (by kernel_rfl) ?_ | refine And.intro ?_ ?_)
    (conv => whnf)
    refine loop_intro {k : Nat // k ≤ x.length ∧ (x.drop k).all (fun s : GSent => mayFlow (b.Packs[((i : Nat) : Int).toNat]'hlt').Flows (b.Packs[((i : Nat) : Int).toNat]'hlt').Ext s.Label s.To) = x.all (fun s : GSent => mayFlow (b.Packs[((i : Nat) : Int).toNat]'hlt').Flows (b.Packs[((i : Nat) : Int).toNat]'hlt').Ext s.Label s.To)} [4, 7, 24, 25, 26, 27, 28, 29, 30, 31, 32, 33, 34, 35, 36, 37, 38, 39, 40, 41, 42, 43, 44, 45, 46, 47, 48, 49, 50, 51, 52, 53] (fun zb => [(7, .v (.s (.int .i64 zb.1)))]) (fun _ => S2) (fun zb => x.length - zb.1) ⟨0, Nat.zero_le _, rfl⟩ ?_ rfl ?_
    · (conv => whnf); repeat' (first | exact trivial | exact rfl | apply And.intro)
    rintro ⟨k, hk, hknv⟩; dsimp only
    by_cases hkl : k < x.length
    · have hkl' : ((k : Nat) : Int).toNat < x.length := hkl
      have hknv : (mayFlow (b.Packs[((i : Nat) : Int).toNat]'hlt').Flows (b.Packs[((i : Nat) : Int).toNat]'hlt').Ext (x[((k : Nat) : Int).toNat]'hkl').Label (x[((k : Nat) : Int).toNat]'hkl').To && (x.drop (k + 1)).all (fun s : GSent => mayFlow (b.Packs[((i : Nat) : Int).toNat]'hlt').Flows (b.Packs[((i : Nat) : Int).toNat]'hlt').Ext s.Label s.To)) = x.all (fun s : GSent => mayFlow (b.Packs[((i : Nat) : Int).toNat]'hlt').Flows (b.Packs[((i : Nat) : Int).toNat]'hlt').Ext s.Label s.To) := (allZ_drop hkl).symm.trans hknv
      cases hm : mayFlow (b.Packs[((i : Nat) : Int).toNat]'hlt').Flows (b.Packs[((i : Nat) : Int).toNat]'hlt').Ext (x[((k : Nat) : Int).toNat]'hkl').Label (x[((k : Nat) : Int).toNat]'hkl').To with
      | true =>
        rw [hm, Bool.true_and] at hknv
        repeat' ((conv => whnf) <;> first
         | (refine callP_eq (ev_sMayFlow (b.Packs[((i : Nat) : Int).toNat]'hlt').Flows (b.Packs[((i : Nat) : Int).toNat]'hlt').Ext (x[((k : Nat) : Int).toNat]'hkl').Label (x[((k : Nat) : Int).toNat]'hkl').To _ _ r2) ?_) | refine hpld _ E2 _ ?_ | rw [wrapI_i64 (by omega)] | (show CondP _ _ _; refine cS ?_) | refine cD (fun _ => ?_) fun _ => ?_ | refine cE (fun _ => ?_) fun _ => ?_ | refine cT ?_ | refine cF ?_ | refine cN (fun _ => ?_) fun _ => ?_ | refine cI (fun _ => ?_) fun _ => ?_ | (refine callP_intro (ev_sSentFrom _ _ _ _ _ _ rdcA rdA) ?_; rintro _ Sn ⟨hEn, cn, rfl, hFn⟩) | refine callP_eq (ev_sMayFlow _ _ _ _ _ _ rdA) ?_ | refine rE fun hml => ?_ | refine rI rdA rf ix ?_ | refine rd_loadf rdA tv ix ?_ | (refine rd_loadm (f := GPackage.d) rdA ix ?_; intro _ hcs; obtain ⟨_, _, _, _, rfl, _, _, _, _⟩ := GPackage.inv hcs) | refine nP ?_ | refine draw_intro 15 [.fl 0, .fl 1, .fl 2, .fl 3, .fl 4, .fl 5, .fl 6, .fl 7, .st 8 [], .st 9 []] (by rfl) (by kernel_rfl) ?_ | refine draw_intro 30 [.fl 0, .fl 1, .fl 2, .fl 3, .fl 4, .fl 5, .fl 6, .fl 7, .fl 8, .fl 9, .fl 10, .fl 11, .fl 12, .fl 13, .fl 14, .fl 15, .fl 16, .fl 17, .fl 18, .fl 19, .fl 20, .fl 21, .st 22 [], .fl 23] (by rfl) (by kernel_rfl) ?_ | refine And.intro ?_ ?_)
        all_goals first
          | (exfalso; omega)
          | (refine ⟨⟨k + 1, by omega, hknv⟩, ?_, rfl, by dsimp only; omega⟩; (conv => whnf); repeat' (first | exact trivial | exact rfl | apply And.intro))
          | (exfalso; simp_all; done)
      | false =>
        rw [hm, Bool.false_and] at hknv
        rw [← hknv, Bool.false_and] at hinv
        rw [← hinv]
        repeat' ((conv => whnf) <;> first
         | (refine callP_eq (ev_sMayFlow (b.Packs[((i : Nat) : Int).toNat]'hlt').Flows (b.Packs[((i : Nat) : Int).toNat]'hlt').Ext (x[((k : Nat) : Int).toNat]'hkl').Label (x[((k : Nat) : Int).toNat]'hkl').To _ _ r2) ?_) | refine hpld _ E2 _ ?_ | rw [wrapI_i64 (by omega)] | (show CondP _ _ _; refine cS ?_) | refine cD (fun _ => ?_) fun _ => ?_ | refine cE (fun _ => ?_) fun _ => ?_ | refine cT ?_ | refine cF ?_ | refine cN (fun _ => ?_) fun _ => ?_ | refine cI (fun _ => ?_) fun _ => ?_ | (refine callP_intro (ev_sSentFrom _ _ _ _ _ _ rdcA rdA) ?_; rintro _ Sn ⟨hEn, cn, rfl, hFn⟩) | refine callP_eq (ev_sMayFlow _ _ _ _ _ _ rdA) ?_ | refine rE fun hml => ?_ | refine rI rdA rf ix ?_ | refine rd_loadf rdA tv ix ?_ | (refine rd_loadm (f := GPackage.d) rdA ix ?_; intro _ hcs; obtain ⟨_, _, _, _, rfl, _, _, _, _⟩ := GPackage.inv hcs) | refine nP ?_ | refine draw_intro 15 [.fl 0, .fl 1, .fl 2, .fl 3, .fl 4, .fl 5, .fl 6, .fl 7, .st 8 [], .st 9 []] (by rfl) (by kernel_rfl) ?_ | refine draw_intro 30 [.fl 0, .fl 1, .fl 2, .fl 3, .fl 4, .fl 5, .fl 6, .fl 7, .fl 8, .fl 9, .fl 10, .fl 11, .fl 12, .fl 13, .fl 14, .fl 15, .fl 16, .fl 17, .fl 18, .fl 19, .fl 20, .fl 21, .st 22 [], .fl 23] (by rfl) (by kernel_rfl) ?_ | refine And.intro ?_ ?_)
        all_goals first
          | rfl
          | exact E2
          | (exfalso; omega)
          | (exfalso; simp_all; done)
    · rw [drop_end (by omega), List.all_nil] at hknv
      rw [← hknv, Bool.true_and] at hinv
      repeat' ((conv => whnf) <;> first
       | rw [wrapI_i64 (by omega)] | (show CondP _ _ _; refine cS ?_) | refine cD (fun _ => ?_) fun _ => ?_ | refine cE (fun _ => ?_) fun _ => ?_ | refine cT ?_ | refine cF ?_ | refine cN (fun _ => ?_) fun _ => ?_ | refine cI (fun _ => ?_) fun _ => ?_ | (refine callP_intro (ev_sSentFrom _ _ _ _ _ _ rdcA rdA) ?_; rintro _ Sn ⟨hEn, cn, rfl, hFn⟩) | refine callP_eq (ev_sMayFlow _ _ _ _ _ _ rdA) ?_ | refine rE fun hml => ?_ | refine rI rdA rf ix ?_ | refine rd_loadf rdA tv ix ?_ | (refine rd_loadm (f := GPackage.d) rdA ix ?_; intro _ hcs; obtain ⟨_, _, _, _, rfl, _, _, _, _⟩ := GPackage.inv hcs) | refine nP ?_ | refine draw_intro 15 [.fl 0, .fl 1, .fl 2, .fl 3, .fl 4, .fl 5, .fl 6, .fl 7, .st 8 [], .st 9 []] (by rfl) (by kernel_rfl) ?_ | refine draw_intro 30 [.fl 0, .fl 1, .fl 2, .fl 3, .fl 4, .fl 5, .fl 6, .fl 7, .fl 8, .fl 9, .fl 10, .fl 11, .fl 12, .fl 13, .fl 14, .fl 15, .fl 16, .fl 17, .fl 18, .fl 19, .fl 20, .fl 21, .st 22 [], .fl 23] (by rfl) (by kernel_rfl) ?_ | refine And.intro ?_ ?_)
      all_goals first
        | (exfalso; omega)
        | (refine ⟨⟨(i + 1, S2), by dsimp only; omega, E2, hinv⟩, ?_, rfl, by dsimp only; omega⟩; (conv => whnf); repeat' (first | exact trivial | exact rfl | (show _ = _; congr 3; dsimp only; omega) | apply And.intro))
  · rw [drop_end (by omega), List.all_nil] at hinv
    rw [← hinv]
    repeat' ((conv => whnf) <;> first
     | rw [wrapI_i64 (by omega)] | (show CondP _ _ _; refine cS ?_) | refine cD (fun _ => ?_) fun _ => ?_ | refine cE (fun _ => ?_) fun _ => ?_ | refine cT ?_ | refine cF ?_ | refine cN (fun _ => ?_) fun _ => ?_ | refine cI (fun _ => ?_) fun _ => ?_ | (refine callP_intro (ev_sSentFrom _ _ _ _ _ _ rdcA rdA) ?_; rintro _ Sn ⟨hEn, cn, rfl, hFn⟩) | refine callP_eq (ev_sMayFlow _ _ _ _ _ _ rdA) ?_ | refine rE fun hml => ?_ | refine rI rdA rf ix ?_ | refine rd_loadf rdA tv ix ?_ | (refine rd_loadm (f := GPackage.d) rdA ix ?_; intro _ hcs; obtain ⟨_, _, _, _, rfl, _, _, _, _⟩ := GPackage.inv hcs) | refine nP ?_ | refine draw_intro 15 [.fl 0, .fl 1, .fl 2, .fl 3, .fl 4, .fl 5, .fl 6, .fl 7, .st 8 [], .st 9 []] (by rfl) (by kernel_rfl) ?_ | refine draw_intro 30 [.fl 0, .fl 1, .fl 2, .fl 3, .fl 4, .fl 5, .fl 6, .fl 7, .fl 8, .fl 9, .fl 10, .fl 11, .fl 12, .fl 13, .fl 14, .fl 15, .fl 16, .fl 17, .fl 18, .fl 19, .fl 20, .fl 21, .st 22 [], .fl 23] (by rfl) (by kernel_rfl) ?_ | refine And.intro ?_ ?_)
    all_goals first
      | rfl
      | exact hE
      | (exfalso; omega)
set_option maxHeartbeats 2000000 in
theorem ev_iIsDeclared (b : GBrowser) (values : List Int) (cs : List C) (c : C) (S : Store) (h : Rd S b.d cs) (h' : Rd S [.sl 1 (values.map dInt)] [c]) : EvA Tryz.prog 79 [.agg cs, .s c] S (fun r S' => r = .v (.s (.bool (declI b values))) ∧ S' = S) := by
  refine EvA.drop rfl ?_
  have hB := h
  obtain ⟨b1, b2, b3, b4, b5, b6, rfl, t1, t2, t3, t4, t5, t6⟩ := GBrowser.inv h
  refine evA_intro tok Tryz.func79 (by kernel_rfl) rfl ?_
  repeat' ((conv => whnf) <;> first
   | rw [wrapI_i64 (by omega)] | (show CondP _ _ _; refine cS ?_) | refine cD (fun _ => ?_) fun _ => ?_ | refine cE (fun _ => ?_) fun _ => ?_ | refine cT ?_ | refine cF ?_ | refine cN (fun _ => ?_) fun _ => ?_ | refine cI (fun _ => ?_) fun _ => ?_ | refine callP_eq (ev_iMayFlow _ _ _ _ _ _ rdA) ?_ | refine rE fun hml => ?_ | refine rI rdA rf ix ?_ | refine rd_loadf rdA tv ix ?_ | (refine rd_loadm (f := GPackage.d) rdA ix ?_; intro _ hcs; obtain ⟨_, _, _, _, rfl, _, _, _, _⟩ := GPackage.inv hcs) | refine nP ?_ | refine draw_intro 26 [.fl 0, .fl 1, .fl 2, .fl 5, .fl 6, .fl 7, .fl 8, .fl 9, .fl 10, .st 3 [5, 6, 7, 8, 9, 10], .fl 4, .st 11 [], .fl 12] (by rfl) (by kernel_rfl) ?_ | refine And.intro ?_ ?_)
  (conv => whnf)
  refine loop_intro {p : Nat × Store // p.1 ≤ b.Packs.length ∧ Ext S p.2 ∧ (b.Packs.drop p.1).all (fun p : GPackage => decl1 b values (packageOf b p.Ext).Flows p.Ext) = declI b values} [4, 6, 8, 12, 13, 14, 15, 16, 17, 18, 19, 20, 21, 22, 23, 24, 25, 26, 27, 28, 29, 30, 31, 32, 33, 34, 35, 36, 37, 38, 39, 40] (fun zb => [(12, .v (.s (.int .i64 zb.1.1)))]) (fun zb => zb.1.2) (fun zb => b.Packs.length - zb.1.1) ⟨(0, S), Nat.zero_le _, Ext.refl _, rfl⟩ ?_ rfl ?_
  · (conv => whnf); repeat' (first | exact trivial | exact rfl | apply And.intro)
  rintro ⟨⟨i, Si⟩, hi, hE, hinv⟩; dsimp only
  replace hi : i ≤ b.Packs.length := hi
  replace hE : Ext S Si := hE
  replace hinv : (b.Packs.drop i).all (fun p : GPackage => decl1 b values (packageOf b p.Ext).Flows p.Ext) = declI b values := hinv
  by_cases hlt : i < b.Packs.length
  · have hlt' : ((i : Nat) : Int).toNat < b.Packs.length := hlt
    have hinv : ((sentFrom b (b.Packs[((i : Nat) : Int).toNat]'hlt').Ext values).all (fun s => mayFlow (packageOf b (b.Packs[((i : Nat) : Int).toNat]'hlt').Ext).Flows (b.Packs[((i : Nat) : Int).toNat]'hlt').Ext s.Label s.To) && (b.Packs.drop (i + 1)).all (fun p : GPackage => decl1 b values (packageOf b p.Ext).Flows p.Ext)) = declI b values := (allZ_drop hlt).symm.trans hinv
    obtain ⟨pcs, hpr, hpld⟩ := rd_loadx t2 (i := ((i : Nat) : Int)) ⟨by omega, hlt'⟩
    obtain ⟨_, _, _, _, rfl, q1, q2, q3, q4⟩ := GPackage.inv hpr
    repeat' ((conv => whnf) <;> first
     | refine hpld _ (by first | assumption | exact Ext.refl _) _ ?_ | rw [wrapI_i64 (by omega)] | (show CondP _ _ _; refine cS ?_) | refine cD (fun _ => ?_) fun _ => ?_ | refine cE (fun _ => ?_) fun _ => ?_ | refine cT ?_ | refine cF ?_ | refine cN (fun _ => ?_) fun _ => ?_ | refine cI (fun _ => ?_) fun _ => ?_ | refine callP_eq (ev_iMayFlow _ _ _ _ _ _ rdA) ?_ | refine rE fun hml => ?_ | refine rI rdA rf ix ?_ | refine rd_loadf rdA tv ix ?_ | (refine rd_loadm (f := GPackage.d) rdA ix ?_; intro _ hcs; obtain ⟨_, _, _, _, rfl, _, _, _, _⟩ := GPackage.inv hcs) | refine nP ?_ | refine draw_intro 26 [.fl 0, .fl 1, .fl 2, .fl 5, .fl 6, .fl 7, .fl 8, .fl 9, .fl 10, .st 3 [5, 6, 7, 8, 9, 10], .fl 4, .st 11 [], .fl 12] (by rfl) (by kernel_rfl) ?_ | refine And.intro ?_ ?_)
    all_goals try (exfalso; omega)
    (conv => whnf)
    refine callP_intro (ev_iSentFrom b (b.Packs[((i : Nat) : Int).toNat]'hlt').Ext values _ _ _ (hB.ext hE) (h'.ext hE)) ?_; rintro _ S2 ⟨e2, cx, rfl, fx⟩
    have E2 := hE.trans e2
    generalize sentFrom b (b.Packs[((i : Nat) : Int).toNat]'hlt').Ext values = x at *
    have rx := fx.rd
    have hb2 := hB.ext E2
    have r2 := q2.ext E2
    repeat' ((conv => whnf) <;> first
     | rw [wrapI_i64 (by omega)] | (show CondP _ _ _; refine cS ?_) | refine cD (fun _ => ?_) fun _ => ?_ | refine cE (fun _ => ?_) fun _ => ?_ | refine cT ?_ | refine cF ?_ | refine cN (fun _ => ?_) fun _ => ?_ | refine cI (fun _ => ?_) fun _ => ?_ | refine callP_eq (ev_iMayFlow _ _ _ _ _ _ rdA) ?_ | refine rE fun hml => ?_ | refine rI rdA rf ix ?_ | refine rd_loadf rdA tv ix ?_ | (refine rd_loadm (f := GPackage.d) rdA ix ?_; intro _ hcs; obtain ⟨_, _, _, _, rfl, _, _, _, _⟩ := GPackage.inv hcs) | refine nP ?_ | refine draw_intro 26 [.fl 0, .fl 1, .fl 2, .fl 5, .fl 6, .fl 7, .fl 8, .fl 9, .fl 10, .st 3 [5, 6, 7, 8, 9, 10], .fl 4, .st 11 [], .fl 12] (by rfl) (by kernel_rfl) ?_ | refine And.intro ?_ ?_)
    (conv => whnf)
    refine loop_intro {k : Nat // k ≤ x.length ∧ (x.drop k).all (fun s : GSent => mayFlow (packageOf b (b.Packs[((i : Nat) : Int).toNat]'hlt').Ext).Flows (b.Packs[((i : Nat) : Int).toNat]'hlt').Ext s.Label s.To) = x.all (fun s : GSent => mayFlow (packageOf b (b.Packs[((i : Nat) : Int).toNat]'hlt').Ext).Flows (b.Packs[((i : Nat) : Int).toNat]'hlt').Ext s.Label s.To)} [4, 8, 22, 23, 24, 25, 26, 27, 28, 29, 30, 31, 32, 33, 34, 35, 36, 37, 38, 39] (fun zb => [(22, .v (.s (.int .i64 zb.1)))]) (fun _ => S2) (fun zb => x.length - zb.1) ⟨0, Nat.zero_le _, rfl⟩ ?_ rfl ?_
    · (conv => whnf); repeat' (first | exact trivial | exact rfl | apply And.intro)
    rintro ⟨k, hk, hknv⟩; dsimp only
    by_cases hkl : k < x.length
    · have hkl' : ((k : Nat) : Int).toNat < x.length := hkl
      have hknv : (mayFlow (packageOf b (b.Packs[((i : Nat) : Int).toNat]'hlt').Ext).Flows (b.Packs[((i : Nat) : Int).toNat]'hlt').Ext (x[((k : Nat) : Int).toNat]'hkl').Label (x[((k : Nat) : Int).toNat]'hkl').To && (x.drop (k + 1)).all (fun s : GSent => mayFlow (packageOf b (b.Packs[((i : Nat) : Int).toNat]'hlt').Ext).Flows (b.Packs[((i : Nat) : Int).toNat]'hlt').Ext s.Label s.To)) = x.all (fun s : GSent => mayFlow (packageOf b (b.Packs[((i : Nat) : Int).toNat]'hlt').Ext).Flows (b.Packs[((i : Nat) : Int).toNat]'hlt').Ext s.Label s.To) := (allZ_drop hkl).symm.trans hknv
      cases hm : mayFlow (packageOf b (b.Packs[((i : Nat) : Int).toNat]'hlt').Ext).Flows (b.Packs[((i : Nat) : Int).toNat]'hlt').Ext (x[((k : Nat) : Int).toNat]'hkl').Label (x[((k : Nat) : Int).toNat]'hkl').To with
      | true =>
        rw [hm, Bool.true_and] at hknv
        repeat' ((conv => whnf) <;> first
         | (refine callP_eq (ev_iMayFlow (packageOf b (b.Packs[((i : Nat) : Int).toNat]'hlt').Ext).Flows (b.Packs[((i : Nat) : Int).toNat]'hlt').Ext (x[((k : Nat) : Int).toNat]'hkl').Label (x[((k : Nat) : Int).toNat]'hkl').To _ _ hf4) ?_) | (refine callP_intro (ev_packageOf b (b.Packs[((i : Nat) : Int).toNat]'hlt').Ext _ _ hb2) ?_; rintro _ _ ⟨rfl, _, w4, _, _, rfl, _, hf4, _, _⟩) | rw [wrapI_i64 (by omega)] | (show CondP _ _ _; refine cS ?_) | refine cD (fun _ => ?_) fun _ => ?_ | refine cE (fun _ => ?_) fun _ => ?_ | refine cT ?_ | refine cF ?_ | refine cN (fun _ => ?_) fun _ => ?_ | refine cI (fun _ => ?_) fun _ => ?_ | (refine callP_intro (ev_packageOf _ _ _ _ rdcA) ?_; rintro _ _ ⟨rfl, _, _, _, _, rfl, _, _, _, _⟩) | (refine callP_intro (ev_iSentFrom _ _ _ _ _ _ rdcA rdA) ?_; rintro _ Sn ⟨hEn, cn, rfl, hFn⟩) | refine callP_eq (ev_iMayFlow _ _ _ _ _ _ rdA) ?_ | refine rE fun hml => ?_ | refine rI rdA rf ix ?_ | refine rd_loadf rdA tv ix ?_ | (refine rd_loadm (f := GPackage.d) rdA ix ?_; intro _ hcs; obtain ⟨_, _, _, _, rfl, _, _, _, _⟩ := GPackage.inv hcs) | refine nP ?_ | refine draw_intro 26 [.fl 0, .fl 1, .fl 2, .fl 5, .fl 6, .fl 7, .fl 8, .fl 9, .fl 10, .st 3 [5, 6, 7, 8, 9, 10], .fl 4, .st 11 [], .fl 12] (by rfl) (by kernel_rfl) ?_ | refine And.intro ?_ ?_)
        all_goals first
          | (exfalso; omega)
          | (refine ⟨⟨k + 1, by omega, hknv⟩, ?_, rfl, by dsimp only; omega⟩; (conv => whnf); repeat' (first | exact trivial | exact rfl | apply And.intro))
          | (exfalso; simp_all; done)
      | false =>
        rw [hm, Bool.false_and] at hknv
        rw [← hknv, Bool.false_and] at hinv
        rw [← hinv]
        repeat' ((conv => whnf) <;> first
         | (refine callP_eq (ev_iMayFlow (packageOf b (b.Packs[((i : Nat) : Int).toNat]'hlt').Ext).Flows (b.Packs[((i : Nat) : Int).toNat]'hlt').Ext (x[((k : Nat) : Int).toNat]'hkl').Label (x[((k : Nat) : Int).toNat]'hkl').To _ _ hf4) ?_) | (refine callP_intro (ev_packageOf b (b.Packs[((i : Nat) : Int).toNat]'hlt').Ext _ _ hb2) ?_; rintro _ _ ⟨rfl, _, w4, _, _, rfl, _, hf4, _, _⟩) | rw [wrapI_i64 (by omega)] | (show CondP _ _ _; refine cS ?_) | refine cD (fun _ => ?_) fun _ => ?_ | refine cE (fun _ => ?_) fun _ => ?_ | refine cT ?_ | refine cF ?_ | refine cN (fun _ => ?_) fun _ => ?_ | refine cI (fun _ => ?_) fun _ => ?_ | (refine callP_intro (ev_packageOf _ _ _ _ rdcA) ?_; rintro _ _ ⟨rfl, _, _, _, _, rfl, _, _, _, _⟩) | (refine callP_intro (ev_iSentFrom _ _ _ _ _ _ rdcA rdA) ?_; rintro _ Sn ⟨hEn, cn, rfl, hFn⟩) | refine callP_eq (ev_iMayFlow _ _ _ _ _ _ rdA) ?_ | refine rE fun hml => ?_ | refine rI rdA rf ix ?_ | refine rd_loadf rdA tv ix ?_ | (refine rd_loadm (f := GPackage.d) rdA ix ?_; intro _ hcs; obtain ⟨_, _, _, _, rfl, _, _, _, _⟩ := GPackage.inv hcs) | refine nP ?_ | refine draw_intro 26 [.fl 0, .fl 1, .fl 2, .fl 5, .fl 6, .fl 7, .fl 8, .fl 9, .fl 10, .st 3 [5, 6, 7, 8, 9, 10], .fl 4, .st 11 [], .fl 12] (by rfl) (by kernel_rfl) ?_ | refine And.intro ?_ ?_)
        all_goals first
          | rfl
          | exact E2
          | (exfalso; omega)
          | (exfalso; simp_all; done)
    · rw [drop_end (by omega), List.all_nil] at hknv
      rw [← hknv, Bool.true_and] at hinv
      repeat' ((conv => whnf) <;> first
       | rw [wrapI_i64 (by omega)] | (show CondP _ _ _; refine cS ?_) | refine cD (fun _ => ?_) fun _ => ?_ | refine cE (fun _ => ?_) fun _ => ?_ | refine cT ?_ | refine cF ?_ | refine cN (fun _ => ?_) fun _ => ?_ | refine cI (fun _ => ?_) fun _ => ?_ | (refine callP_intro (ev_packageOf _ _ _ _ rdcA) ?_; rintro _ _ ⟨rfl, _, _, _, _, rfl, _, _, _, _⟩) | (refine callP_intro (ev_iSentFrom _ _ _ _ _ _ rdcA rdA) ?_; rintro _ Sn ⟨hEn, cn, rfl, hFn⟩) | refine callP_eq (ev_iMayFlow _ _ _ _ _ _ rdA) ?_ | refine rE fun hml => ?_ | refine rI rdA rf ix ?_ | refine rd_loadf rdA tv ix ?_ | (refine rd_loadm (f := GPackage.d) rdA ix ?_; intro _ hcs; obtain ⟨_, _, _, _, rfl, _, _, _, _⟩ := GPackage.inv hcs) | refine nP ?_ | refine draw_intro 26 [.fl 0, .fl 1, .fl 2, .fl 5, .fl 6, .fl 7, .fl 8, .fl 9, .fl 10, .st 3 [5, 6, 7, 8, 9, 10], .fl 4, .st 11 [], .fl 12] (by rfl) (by kernel_rfl) ?_ | refine And.intro ?_ ?_)
      all_goals first
        | (exfalso; omega)
        | (refine ⟨⟨(i + 1, S2), by dsimp only; omega, E2, hinv⟩, ?_, rfl, by dsimp only; omega⟩; (conv => whnf); repeat' (first | exact trivial | exact rfl | (show _ = _; congr 3; dsimp only; omega) | apply And.intro))
  · rw [drop_end (by omega), List.all_nil] at hinv
    rw [← hinv]
    repeat' ((conv => whnf) <;> first
     | rw [wrapI_i64 (by omega)] | (show CondP _ _ _; refine cS ?_) | refine cD (fun _ => ?_) fun _ => ?_ | refine cE (fun _ => ?_) fun _ => ?_ | refine cT ?_ | refine cF ?_ | refine cN (fun _ => ?_) fun _ => ?_ | refine cI (fun _ => ?_) fun _ => ?_ | (refine callP_intro (ev_packageOf _ _ _ _ rdcA) ?_; rintro _ _ ⟨rfl, _, _, _, _, rfl, _, _, _, _⟩) | (refine callP_intro (ev_iSentFrom _ _ _ _ _ _ rdcA rdA) ?_; rintro _ Sn ⟨hEn, cn, rfl, hFn⟩) | refine callP_eq (ev_iMayFlow _ _ _ _ _ _ rdA) ?_ | refine rE fun hml => ?_ | refine rI rdA rf ix ?_ | refine rd_loadf rdA tv ix ?_ | (refine rd_loadm (f := GPackage.d) rdA ix ?_; intro _ hcs; obtain ⟨_, _, _, _, rfl, _, _, _, _⟩ := GPackage.inv hcs) | refine nP ?_ | refine draw_intro 26 [.fl 0, .fl 1, .fl 2, .fl 5, .fl 6, .fl 7, .fl 8, .fl 9, .fl 10, .st 3 [5, 6, 7, 8, 9, 10], .fl 4, .st 11 [], .fl 12] (by rfl) (by kernel_rfl) ?_ | refine And.intro ?_ ?_)
    all_goals first
      | rfl
      | exact hE
      | (exfalso; omega)

/-! ### the fault -/
def faultOf (b : GBrowser) : ByteArray :=
  if isBrowser b = true then
    if isGranted b = true then
      if reviewed b = true then
        if isRuled b = true then
          if declS b [] = true then ⟨#[]⟩ else ⟨#[102, 108, 111, 119]⟩
        else ⟨#[114, 117, 108, 101]⟩
      else ⟨#[114, 101, 118, 105, 101, 119]⟩
    else ⟨#[103, 114, 97, 110, 116]⟩
  else ⟨#[98, 114, 111, 119, 115, 101, 114]⟩
theorem ev_sFaultOf (b : GBrowser) (cs : List C) (S : Store) (h : Rd S b.d cs) (hz : szL b.d ≤ 2097152) : EvA Tryz.prog 17 [.agg cs] S (fun r S' => r = .v (.s (.str (faultOf b))) ∧ S' = S) := by
  have hB := h
  obtain ⟨_, _, _, _, _, _, rfl, _, _, _, _, _, _⟩ := GBrowser.inv h
  unfold faultOf
  cases a1 : isBrowser b <;> cases a2 : isGranted b <;> cases a3 : reviewed b <;> cases a4 : isRuled b <;> cases a5 : declS b []
  all_goals
    try have a6 := (decl_eq a1 []).trans a5
    refine evA_intro tok Tryz.func17 (by kernel_rfl) rfl ?_
    repeat' ((conv => whnf) <;> first
     | (refine callP_eq (ev_sIsDeclared b [] _ _ _ hB (fr_empty (lo := 0) (by first | exact .inl rfl | exact .inr rfl)).rd) ?_) | (refine callP_eq (ev_sIsRuled b _ _ hB) ?_) | (refine callP_eq (ev_sIsReviewed b _ _ hB hz) ?_) | (refine callP_eq (ev_sIsGranted b _ _ hB) ?_) | (refine callP_eq (ev_sIsBrowser b _ _ hB om) ?_) | (show CondP _ _ _; refine cS ?_) | refine cD (fun _ => ?_) fun _ => ?_ | refine cE (fun _ => ?_) fun _ => ?_ | refine cT ?_ | refine cF ?_ | refine cN (fun _ => ?_) fun _ => ?_ | refine cI (fun _ => ?_) fun _ => ?_ | refine callP_eq (ev_sIsReviewed _ _ _ rdcB (by (first | omega | exact sz_at hz om | (simp only [szL]; omega)))) ?_ | refine callP_eq (ev_sIsBrowser _ _ _ rdcB (by first | assumption | omega)) ?_ | (refine callP_eq (ev_sIsGranted _ _ _ rdcB) ?_) | (refine callP_eq (ev_sIsRuled _ _ _ rdcB) ?_) | refine callP_eq (ev_sIsDeclared _ _ _ _ _ rdcB aN) ?_ | refine nP ?_ | refine And.intro ?_ ?_)
    all_goals first
      | rfl
      | (exfalso; simp_all; done)
theorem ev_iFaultOf (b : GBrowser) (cs : List C) (S : Store) (h : Rd S b.d cs) (hz : szL b.d ≤ 2097152) : EvA Tryz.prog 18 [.agg cs] S (fun r S' => r = .v (.s (.str (faultOf b))) ∧ S' = S) := by
  have hB := h
  obtain ⟨_, _, _, _, _, _, rfl, _, _, _, _, _, _⟩ := GBrowser.inv h
  unfold faultOf
  cases a1 : isBrowser b <;> cases a2 : isGranted b <;> cases a3 : reviewed b <;> cases a4 : isRuled b <;> cases a5 : declS b []
  all_goals
    try have a6 := (decl_eq a1 []).trans a5
    refine evA_intro tok Tryz.func18 (by kernel_rfl) rfl ?_
    repeat' ((conv => whnf) <;> first
     | (refine callP_eq (ev_iIsDeclared b [] _ _ _ hB (fr_empty (lo := 0) (by first | exact .inl rfl | exact .inr rfl)).rd) ?_) | (refine callP_eq (ev_iIsRuled b _ _ hB) ?_) | (refine callP_eq (ev_iIsReviewed b _ _ hB hz) ?_) | (refine callP_eq (ev_iIsGranted b _ _ hB) ?_) | (refine callP_eq (ev_iIsBrowser b _ _ hB om) ?_) | (show CondP _ _ _; refine cS ?_) | refine cD (fun _ => ?_) fun _ => ?_ | refine cE (fun _ => ?_) fun _ => ?_ | refine cT ?_ | refine cF ?_ | refine cN (fun _ => ?_) fun _ => ?_ | refine cI (fun _ => ?_) fun _ => ?_ | refine callP_eq (ev_iIsReviewed _ _ _ rdcB (by (first | omega | exact sz_at hz om | (simp only [szL]; omega)))) ?_ | refine callP_eq (ev_iIsBrowser _ _ _ rdcB (by first | assumption | omega)) ?_ | (refine callP_eq (ev_iIsGranted _ _ _ rdcB) ?_) | (refine callP_eq (ev_iIsRuled _ _ _ rdcB) ?_) | refine callP_eq (ev_iIsDeclared _ _ _ _ _ rdcB aN) ?_ | refine nP ?_ | refine And.intro ?_ ?_)
    all_goals first
      | rfl
      | (exfalso; simp_all; done)
end Go.Proofs.YtibglkkmjigooaaGreat
