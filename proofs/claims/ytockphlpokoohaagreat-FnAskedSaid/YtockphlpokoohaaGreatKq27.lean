/- A text of the proof. Tabs. -/
import Derived.Test.YtockphlpokoohaaGreatKq22
import Derived.Test.YtockphlpokoohaaGreatKq26
namespace Go.Proofs.YtockphlpokoohaaGreat
open Go Go.RowKit
set_option linter.unusedVariables false
set_option linter.unusedSimpArgs false
set_option maxRecDepth 100000
theorem rowP_set {S : Store} {id : Nat} {r : Row} {cs : List C} {K : List C → Prop} (hlt : id < S.length) (ho : r.own = true) (hx : r.xs = [cs]) (hK : K cs) : RowP (S.set id r) id K :=
  rowP_intro (List.getElem?_set_self hlt) ho hx hK
theorem rd_setC {S : Store} {id : Nat} {r : Row} {ds : List D} {cs : List C} {ids : List Nat} (h : RepL false S ds cs ids) (hn : ∀ j ∈ ids, j < id) : Rd (S.set id r) ds cs :=
  ⟨ids, h.frame fun j hj => by rw [List.getElem?_set_ne (by have := hn j hj; omega)]⟩
theorem row_k {S : Store} {id k : Nat} {xs : List (List C)} (h : S[id]? = some ⟨true, k, xs⟩) : ((S[id]?).map Row.k).getD 0 = k := by rw [h]; rfl
theorem row_kset {S : Store} {id k : Nat} {xs : List (List C)} (h : id < S.length) : (((S.set id ⟨true, k, xs⟩)[id]?).map Row.k).getD 0 = k := by rw [List.getElem?_set_self h]; rfl
theorem tmod_in {x n : Int} (h0 : 0 ≤ x) (hn : 0 < n) : 0 ≤ x.tmod n ∧ x.tmod n < n := ⟨Int.tmod_nonneg _ h0, Int.tmod_lt_of_pos _ hn⟩
theorem tmod_le {x n : Int} (h0 : 0 ≤ x) (hn : 0 < n) : x.tmod n ≤ x := by
  rw [Int.tmod_eq_emod_of_nonneg h0]
  have h1 := Int.emod_add_mul_ediv x n
  have h2 : 0 ≤ n * (x / n) := Int.mul_nonneg (Int.le_of_lt hn) (Int.ediv_nonneg h0 (Int.le_of_lt hn))
  omega
theorem ev_l1Byte {id : Nat} {S : Store} (h : Cur id S) : EvA Tryz.prog 184 [.s (.pt id)] S (fun r S' => Drw id S S' ∧ ∃ x : Int, (0 ≤ x ∧ x ≤ 255) ∧ r = .v (.s (.int .i64 x))) := by
  have hlt := h.lt
  obtain ⟨c, i, hh, l, ids, h1, h2, h3, h4, h5, h6⟩ := h.out
  have hR : ∀ r, Rd (S.set id r) [.sl 1 (l.map dByte)] [c] := fun r => rd_setC h2 h3
  have hk := row_k h1
  refine evA_intro tok Tryz.func184 (by kernel_rfl) rfl ?_
  repeat' ((conv => whnf) <;> first
   | (refine needP_intro (by decide) ?_) | (refine rd_loadf (hR _) tv ix ?_) | (refine rI (hR _) rf ix ?_) | (refine rd_lenm (hR _) ?_; intro hml; rw [maxLen_eq] at hml) | (refine rowP_set (by first | exact hlt | (simp only [List.length_set]; exact hlt)) rfl rfl ?_) | (refine rowP_intro h1 rfl rfl ?_) | rw [wrapI_i64 (by omega)] | refine cD (fun _ => ?_) fun _ => ?_ | refine cE (fun _ => ?_) fun _ => ?_ | refine cT ?_ | refine cF ?_ | refine cN (fun _ => ?_) fun _ => ?_ | refine cI (fun _ => ?_) fun _ => ?_ | refine rE fun hml => ?_ | refine rI aN rf ix ?_ | refine rd_loadf aN tv ix ?_ | refine nP ?_ | refine draw_intro 13 [.fl 0, .fl 1, .fl 2, .fl 3, .fl 4, .fl 5, .fl 6, .fl 7, .fl 8, .fl 9, .fl 10, .fl 11, .st 12 []] (by rfl) (by kernel_rfl) ?_ | refine draw_intro 25 [.fl 0, .fl 1, .fl 2, .fl 3, .fl 4, .fl 5, .fl 6, .fl 7, .fl 8, .fl 9] (by rfl) (by kernel_rfl) ?_ | refine draw_intro 35 [.fl 0, .fl 1, .fl 2, .fl 3, .fl 4, .fl 5, .fl 6, .fl 7, .fl 8, .fl 9, .fl 10, .fl 11, .fl 12, .fl 13, .st 14 []] (by rfl) (by kernel_rfl) ?_ | (fail) | (refine needP_intro (by exact Nat.le_of_ble_eq_true rfl) ?_) | refine And.intro ?_ ?_)
  all_goals first
    | exact ⟨_, bits255 _, rfl⟩
    | (refine Cur.set (i' := i) (h' := wrapI .i64 (wrapI .i64 (hh * 6364136223846793005) + 1442695040888963407)) h1 h2 h3 (by omega) h6 ?_; rw [hk]; rfl)
    | skip
  all_goals (rw [List.set_set]; refine Cur.set (i' := i + 1) (h' := wrapI .i64 (wrapI .i64 (hh * 6364136223846793005) + 1442695040888963407)) h1 h2 h3 (by omega) h6 ?_; rw [row_kset hlt, hk]; rfl)
theorem ev_l1Below {id : Nat} {S : Store} (n : Int) (h : Cur id S) : EvA Tryz.prog 97 [.s (.pt id), .s (.int .i64 n)] S (fun r S' => Drw id S S' ∧ ∃ x : Int, (0 ≤ x ∧ x ≤ 16777215 ∧ (0 < n → x < n) ∧ (n ≤ 0 → x = 0)) ∧ r = .v (.s (.int .i64 x))) := by
  have hlt := h.lt
  have hD := Drw.refl h
  have hF : Fr S.length S [] [] := fr_nil
  refine evA_intro tok Tryz.func97 (by kernel_rfl) rfl ?_
  repeat' ((conv => whnf) <;> first
   | rw [wrapI_i64 (by omega)] | refine cD (fun _ => ?_) fun _ => ?_ | refine cE (fun _ => ?_) fun _ => ?_ | refine cT ?_ | refine cF ?_ | refine cN (fun _ => ?_) fun _ => ?_ | refine cI (fun _ => ?_) fun _ => ?_ | (refine callP_intro (ev_l1Byte hD.cur) ?_; rintro _ Sn ⟨hDn, xn, hxn, rfl⟩; replace hF := hF.drw hlt hDn; replace hD := hD.trans hDn; clear hDn) | refine nP ?_ | refine And.intro ?_ ?_)
  all_goals first
    | exact hD
    | exact ⟨0, ⟨by omega, by omega, by omega, by omega⟩, rfl⟩
    | (exact ⟨_, ⟨(tmod_in (by omega) (by omega)).1, Int.le_trans (tmod_le (by omega) (by omega)) (by omega), fun _ => (tmod_in (by omega) (by omega)).2, fun _ => by omega⟩, rfl⟩)
theorem ev_l1IntN {id : Nat} {S : Store} {l : List Int} {c : C} (h : Cur id S) (hr : RdN id S [.sl 1 (l.map dInt)] [c]) (h0 : 0 < l.length) : EvA Tryz.prog 101 [.s (.pt id), .s c] S (fun r S' => Drw id S S' ∧ ∃ x : Int, x ∈ l ∧ r = .v (.s (.int .i64 x))) := by
  have hlt := h.lt
  have hD := Drw.refl h
  have hF : Fr S.length S [] [] := fr_nil
  have hrd := hr.rd
  refine evA_intro tok Tryz.func101 (by kernel_rfl) rfl ?_
  repeat' ((conv => whnf) <;> first
   | refine rE fun hml => ?_ | refine rI rdA rf ix ?_ | refine rd_loadf rdA tv ix ?_ | refine nP ?_ | refine And.intro ?_ ?_)
  (conv => whnf)
  refine callP_intro (ev_l1Below _ hD.cur) ?_; rintro _ Sn ⟨hDn, xn, hxn, rfl⟩
  have hrn := (hr.drw hDn).rd
  repeat' ((conv => whnf) <;> first
   | (refine callP_intro (ev_l1Below _ hD.cur) ?_; rintro _ Sn ⟨hDn, xn, hxn, rfl⟩; replace hF := hF.drw hlt hDn; replace hD := hD.trans hDn; clear hDn) | refine rE fun hml => ?_ | refine rI rdA rf ix ?_ | refine rd_loadf rdA tv ix ?_ | refine nP ?_ | refine And.intro ?_ ?_)
  all_goals first
    | exact hDn
    | exact ⟨_, List.getElem_mem _, rfl⟩
def allInt (rows : List (List C)) : Bool := rows.all fun r => match r with
  | [.int .i64 _] => true
  | _ => false
theorem allInt_rows : ∀ {rows : List (List C)}, allInt rows = true → ∃ l, IntRows rows l
  | [], _ => ⟨[], .nil⟩
  | r :: rows, h => by
    unfold allInt at h
    rw [List.all_cons, Bool.and_eq_true] at h
    obtain ⟨l, hl⟩ := allInt_rows (rows := rows) h.2
    have h1 := h.1
    split at h1
    · exact ⟨_ :: l, .cons hl⟩
    · cases h1
theorem ev_l1Int {id : Nat} {S : Store} {rows : List (List C)} (h : Cur id S) (hr : allInt rows = true) (h0 : Nat.blt 0 rows.length = true) (hm : Nat.ble rows.length 1000 = true) : EvA Tryz.prog 101 [.s (.pt id), .s (.sl S.length 0 rows.length rows.length)] (S ++ [⟨true, 1, rows⟩]) (fun r S' => Drw id S S' ∧ ∃ x : Int, r = .v (.s (.int .i64 x))) := by
  have h0 : 0 < rows.length := Nat.le_of_ble_eq_true h0
  have hm : rows.length ≤ 1000 := Nat.le_of_ble_eq_true hm
  obtain ⟨l, hr⟩ := allInt_rows hr
  have hrow := hr.eq
  have hl : rows.length = l.length := by rw [hrow, List.length_map]
  have hc := h.ext (Ext.push S ⟨true, 1, rows⟩)
  refine (ev_l1IntN hc (l := l) ?_ (by omega)).mono ?_
  · refine ⟨[S.length], ?_, ?_⟩
    · rw [repL_cons]
      refine ⟨_, [], [S.length], [], rfl, rfl, ?_, by rw [repL_nil]; exact ⟨rfl, rfl⟩⟩
      rw [hl]
      unfold Rep
      refine ⟨by rw [List.length_map, ← hl, maxLen_eq]; omega, .inr ⟨S.length, 0, l.length, ⟨true, 1, rows⟩, [], by rw [List.length_map], rfl, by simp, rfl, hl, by rw [List.length_map]; omega, (fun hf => by cases hf), ?_⟩⟩
      rw [List.length_map, List.drop_zero, List.take_of_length_le (by show rows.length ≤ _; omega)]
      show Rep2 false _ (l.map dInt) rows []
      rw [hrow]
      exact rep2_flat (f := dInt) (by intro _; exact trivial) l
    · intro hm; have := h.lt; simp at hm; omega
  · rintro r S' ⟨h1, x, _, h2⟩
    exact ⟨(Drw.of_ext h (Ext.push S _)).trans h1, x, h2⟩
theorem ev_l1New {S : Store} {c : C} (l : List Int) (h : Rd S [.sl 1 (l.map dByte)] [c]) (hz : l.length ≤ 1048576) : EvA Tryz.prog 96 [.s c] S (fun r S' => Ext S S' ∧ Cur S.length S' ∧ r = .v (.s (.pt S.length))) := by
  refine evA_intro tok Tryz.func96 (by kernel_rfl) rfl ?_
  repeat' ((conv => whnf) <;> first
   | rw [wrapI_i64 (by omega)] | refine cD (fun _ => ?_) fun _ => ?_ | refine cE (fun _ => ?_) fun _ => ?_ | refine cT ?_ | refine cF ?_ | refine cN (fun _ => ?_) fun _ => ?_ | refine cI (fun _ => ?_) fun _ => ?_ | refine rE fun hml => ?_ | refine rI aN rf ix ?_ | refine rd_loadf aN tv ix ?_ | refine nP ?_ | refine And.intro ?_ ?_)
  refine loop_intro {q : Nat × Int // q.1 ≤ l.length} [3, 4, 8, 9, 10, 11, 12, 13, 14, 15, 16, 17, 18, 19, 20, 21, 22, 23, 24, 25, 26, 27] (fun zb => [(4, .v (.s (.int .i64 zb.1.1))), (3, .v (.s (.int .i64 zb.1.2)))]) (fun _ => S) (fun zb => l.length - zb.1.1) ⟨(0, 193017 + (l.length : Int)), Nat.zero_le _⟩ ?_ rfl ?_
  · (conv => whnf); repeat' (first | exact trivial | exact rfl | apply And.intro)
  rintro ⟨⟨i, st⟩, hi⟩; dsimp only
  replace hi : i ≤ l.length := hi
  repeat' ((conv => whnf) <;> first
   | rw [wrapI_i64 (by omega)] | refine cD (fun _ => ?_) fun _ => ?_ | refine cE (fun _ => ?_) fun _ => ?_ | refine cT ?_ | refine cF ?_ | refine cN (fun _ => ?_) fun _ => ?_ | refine cI (fun _ => ?_) fun _ => ?_ | refine rE fun hml => ?_ | refine rI aN rf ix ?_ | refine rd_loadf aN tv ix ?_ | refine nP ?_ | refine And.intro ?_ ?_)
  all_goals first
    | exact Ext.push _ _
    | rfl
    | (refine ⟨⟨(i + 1, bitsI .and .i64 (wrapI .i64 (wrapI .i64 (wrapI .i64 (st * 137) + wrapI .i64 (l[((i : Nat) : Int).toNat]'(by omega))) + 11)) 1073741823), by dsimp only; omega⟩, ?_, rfl, by dsimp only; omega⟩; (conv => whnf); repeat' (first | exact trivial | exact rfl | (rw [wrapI_i64 (by omega)]; exact rfl) | apply And.intro))
    | (obtain ⟨ids, h1⟩ := h
       have hlt := h1.lt
       refine ⟨⟨c, 0, st, l, ids, by rw [List.getElem?_append_right (Nat.le_refl _), Nat.sub_self]; rfl, h1.frame fun j hj => List.getElem?_append_left (hlt j hj), hlt, by omega, by omega, hz⟩⟩)
    | (exfalso; omega)
end Go.Proofs.YtockphlpokoohaaGreat
namespace Go.Proofs.YtockphlpokoohaaGreat
open Go Go.ChangeShapes Go.WideShapes Go.ChangeAt Go.RowKit
set_option linter.unusedVariables false
set_option linter.unusedSimpArgs false
set_option maxRecDepth 100000
def okHid (l : List Int) (n : Int) (i : Nat) : Bool := inR n 0 9 && (if i = 0 then true else decide (l.getD (i - 1) 0 < n))
theorem okHid_zero (l : List Int) (n : Int) : okHid l n 0 = inR n 0 9 := by simp [okHid]
theorem okHid_pos {l : List Int} {n : Int} {i : Nat} (h0 : 0 < i) (hl : i ≤ l.length) : okHid l n i = (inR n 0 9 && decide (l[i - 1]'(by omega) < n)) := by
  unfold okHid
  rw [if_neg (by omega), List.getD_eq_getElem?_getD, List.getElem?_eq_getElem (by omega)]; rfl
def hidGo (l : List Int) : List Int → Nat → Bool
  | [], _ => true
  | n :: r, i => if okHid l n i then hidGo l r (i + 1) else false
def isTab (t : GTab) : Bool := isSite t.Site && isDoc t.Base && decide (t.Edits.length ≤ 40) && inR t.Click (-1) 10000 && t.Edits.all isEdit && hidGo t.Hidden t.Hidden 0
theorem and6 {a b c d e f : Bool} (h : (a = false ∨ b = false ∨ c = false ∨ d = false ∨ e = false ∨ f = false)) : (a && b && c && d && e && f) = false := by
  cases a <;> cases b <;> cases c <;> cases d <;> cases e <;> cases f <;> simp at h ⊢
theorem ev_sIsTab (t : GTab) (cs : List C) (S : Store) (h : Rd S t.d cs) : EvA Tryz.prog 322 [.agg cs] S (fun r S' => r = .v (.s (.bool (isTab t))) ∧ S' = S) := by
  obtain ⟨_, _, _, rfl, _, _, _⟩ := GTab.inv h
  refine evA_intro tok Tryz.func322 (by kernel_rfl) rfl ?_
  skip
  all_goals try first
    | rfl
    | (rw [show isTab t = false from and6 (by first | (simp_all; done) | (right; right; left; simp; omega))]; rfl)
  refine loop_intro {i : Nat // i ≤ t.Edits.length ∧ (t.Edits.drop i).all isEdit = t.Edits.all isEdit} [2, 3, 5, 6, 7, 8, 9, 10, 11, 12, 13, 14, 15, 16, 17, 18] (fun zb => [(3, .v (.s (.int .i64 zb.1)))]) (fun _ => S) (fun zb => t.Edits.length - zb.1) ⟨0, Nat.zero_le _, by simp⟩ ?_ rfl ?_
  · (conv => whnf); repeat' (first | exact trivial | exact rfl | apply And.intro)
  rintro ⟨i, hi, hinv⟩; dsimp only
  repeat' ((conv => whnf) <;> first
   | rw [wrapI_i64 (by omega)] | refine cD (fun _ => ?_) fun _ => ?_ | refine cN (fun _ => ?_) fun _ => ?_ | refine callP_eq (ev_sIsEdit _ _) ?_ | refine rE fun hml => ?_ | refine rI aN rf ix ?_ | refine rd_loadf aN tv ix ?_ | refine And.intro ?_ ?_)
  all_goals try first
    | rfl
    | (rw [drop_at (by omega), List.all_cons] at hinv
       rw [show isTab t = false from and6 (by simp_all)]; rfl)
    | (rw [drop_at (by omega), List.all_cons] at hinv
       (refine ⟨⟨i + 1, by omega, by simp_all⟩, ?_, rfl, by simp; omega⟩; (conv => whnf); repeat' (first | exact trivial | exact rfl | apply And.intro)))
  rw [drop_end (by omega), List.all_nil] at hinv
  refine loop_intro {i : Nat // i ≤ t.Hidden.length ∧ hidGo t.Hidden (t.Hidden.drop i) i = hidGo t.Hidden t.Hidden 0} [2, 4, 19, 20, 21, 22, 23, 24, 25, 26, 27, 28, 29, 30, 31, 32, 33, 34, 35, 36, 37, 38, 39, 40, 41, 42, 43, 44, 45, 46, 47, 48, 49, 50] (fun zb => [(4, .v (.s (.int .i64 zb.1)))]) (fun _ => S) (fun zb => t.Hidden.length - zb.1) ⟨0, Nat.zero_le _, by simp⟩ ?_ rfl ?_
  · (conv => whnf); repeat' (first | exact trivial | exact rfl | apply And.intro)
  rintro ⟨i, hi, hinv⟩; dsimp only
  repeat' ((conv => whnf) <;> first
   | rw [wrapI_i64 (by omega)] | refine cD (fun _ => ?_) fun _ => ?_ | refine cT ?_ | refine cF ?_ | refine condP_ninR (fun _ _ => ?_) (fun _ _ => ?_) | refine cI (fun _ => ?_) fun _ => ?_ | refine callP_eq (ev_l1In _ _ _ _) ?_ | refine callP_eq (ev_sIsSite _ _) ?_ | refine callP_eq (ev_sIsDocument _ _ _ aN) ?_ | refine rE fun hml => ?_ | refine rI aN rf ix ?_ | refine rd_loadf aN tv ix ?_ | refine draw_intro 26 [.fl 0, .fl 1, .fl 2, .fl 3, .fl 4, .st 5 [], .fl 6, .fl 7, .fl 8, .fl 9, .fl 10, .fl 11, .fl 12, .fl 13, .fl 14, .fl 15, .fl 16, .fl 17, .fl 18, .fl 19, .fl 20, .fl 21, .fl 22, .fl 23, .fl 24] (by rfl) (by kernel_rfl) ?_ | refine And.intro ?_ ?_)
  all_goals first
    | rfl
    | (rw [drop_end (by omega), hidGo] at hinv
       have hE : isTab t = (isSite t.Site && isDoc t.Base && decide (t.Edits.length ≤ 40) && inR t.Click (-1) 10000) := by
         unfold isTab; rw [← hinv]; simp_all
       rw [hE]
       first
         | (have h40 : t.Edits.length ≤ 40 := by omega
            clear hE
            simp_all [resAV]; done)
         | (clear hE; simp_all [resAV]; done))
    | (rw [drop_end (by omega), hidGo] at hinv
       rw [show isTab t = false from and6 (by first | (simp_all; done) | (right; right; left; simp; omega))]; rfl)
    | (have e : okHid t.Hidden (t.Hidden[i]'(by omega)) i = false := by
         clear hinv
         first
           | (have h0 : i = 0 := by omega
              subst h0; rw [okHid_zero]; simp_all; done)
           | (have h0 : 0 < i := by omega
              rw [okHid_pos h0 (by omega)]
              first | (simp_all [pred_toNat h0]; done) | (simp_all [pred_toNat h0]; intros; omega))
           | (simp_all [okHid]; done)
       rw [drop_at (by omega), hidGo, e] at hinv
       rw [show isTab t = false from and6 (by simp_all)]; rfl)
    | (have e : okHid t.Hidden (t.Hidden[i]'(by omega)) i = true := by
         clear hinv
         first
           | (have h0 : i = 0 := by omega
              subst h0; rw [okHid_zero]; simp_all; done)
           | (have h0 : 0 < i := by omega
              rw [okHid_pos h0 (by omega)]
              first | (simp_all [pred_toNat h0]; done) | (simp_all [pred_toNat h0]; omega))
       (refine ⟨⟨i + 1, by omega, by rw [drop_at (by omega), hidGo, if_pos e] at hinv; exact hinv⟩, ?_, rfl, by simp; omega⟩; (conv => whnf); repeat' (first | exact trivial | exact rfl | apply And.intro)))
end Go.Proofs.YtockphlpokoohaaGreat
