/- A text of the proof. -/
import Derived.Test.YtockphlpokoohaaGreatKe19
import Derived.Test.YtockphlpokoohaaGreatKe34
namespace Go.Proofs.YtockphlpokoohaaGreat
open Go Go.RowKit
set_option linter.unusedVariables false
set_option linter.unusedSimpArgs false
set_option maxRecDepth 100000
theorem rowP_set {S : Store} {id : Nat} {r : Row} {cs : List C} {K : List C → Prop} (hlt : id < S.length) (ho : r.own = true) (hx : r.xs = [cs]) (hK : K cs) : RowP (S.set id r) id K :=
  rowP_intro (List.getElem?_set_self hlt) ho hx hK
theorem rd_setC {S : Store} {id : Nat} {r : Row} {ds : List D} {cs : List C} {ids : List Nat} (h : RepL false S ds cs ids) (hn : ∀ j ∈ ids, j < id) : Rd (S.set id r) ds cs :=
  ⟨ids, h.frame fun j hj => by rw [List.getElem?_set_ne (by have := hn j hj; omega)]⟩
theorem row_k {S : Store} {id k : Nat} {xs : List (List C)} (h : S[id]? = some ⟨true, k, xs⟩) : ((S[id]?).map Row.k).getD 0 = k := by rw [h]; rfl
theorem row_kset {S : Store} {id k : Nat} {xs : List (List C)} (h : id < S.length) : (((S.set id ⟨true, k, xs⟩)[id]?).map Row.k).getD 0 = k := by rw [List.getElem?_set_self h]; rfl
theorem tmod_in {x n : Int} (h0 : 0 ≤ x) (hn : 0 < n) : 0 ≤ x.tmod n ∧ x.tmod n < n := ⟨Int.tmod_nonneg _ h0, Int.tmod_lt_of_pos _ hn⟩
theorem tmod_le {x n : Int} (h0 : 0 ≤ x) (hn : 0 < n) : x.tmod n ≤ x := by
  rw [Int.tmod_eq_emod_of_nonneg h0]
  have h1 := Int.emod_add_mul_ediv x n
  have h2 : 0 ≤ n * (x / n) := Int.mul_nonneg (Int.le_of_lt hn) (Int.ediv_nonneg h0 (Int.le_of_lt hn))
  omega
theorem ev_l1Byte {id : Nat} {S : Store} (h : Cur id S) : EvA Tryz.prog 184 [.s (.pt id)] S (fun r S' => Drw id S S' ∧ ∃ x : Int, (0 ≤ x ∧ x ≤ 255) ∧ r = .v (.s (.int .i64 x))) := by
  have hlt := h.lt
  obtain ⟨c, i, hh, l, ids, h1, h2, h3, h4, h5, h6⟩ := h.out
  have hR : ∀ r, Rd (S.set id r) [.sl 1 (l.map dByte)] [c] := fun r => rd_setC h2 h3
  have hk := row_k h1
  refine evA_intro tok Tryz.func184 (by kernel_rfl) rfl ?_
  repeat' ((conv => whnf) <;> first
   | (refine needP_intro (by decide) ?_) | (refine rd_loadf (hR _) tv ix ?_) | (refine rI (hR _) rf ix ?_) | (refine rd_lenm (hR _) ?_; intro hml; rw [maxLen_eq] at hml) | (refine rowP_set (by first | exact hlt | (simp only [List.length_set]; exact hlt)) rfl rfl ?_) | (refine rowP_intro h1 rfl rfl ?_) | rw [wrapI_i64 (by omega)] | refine cD (fun _ => ?_) fun _ => ?_ | refine cE (fun _ => ?_) fun _ => ?_ | refine cT ?_ | refine cF ?_ | refine cN (fun _ => ?_) fun _ => ?_ | refine cI (fun _ => ?_) fun _ => ?_ | refine rE fun hml => ?_ | refine rI aN rf ix ?_ | refine rd_loadf aN tv ix ?_ | refine nP ?_ | refine draw_intro 13 [.fl 0, .fl 1, .fl 2, .fl 3, .fl 4, .fl 5, .fl 6, .fl 7, .fl 8, .fl 9, .fl 10, .fl 11, .st 12 []] (by rfl) (by kernel_rfl) ?_ | refine draw_intro 25 [.fl 0, .fl 1, .fl 2, .fl 3, .fl 4, .fl 5, .fl 6, .fl 7, .fl 8, .fl 9] (by rfl) (by kernel_rfl) ?_ | refine draw_intro 35 [.fl 0, .fl 1, .fl 2, .fl 3, .fl 4, .fl 5, .fl 6, .fl 7, .fl 8, .fl 9, .fl 10, .fl 11, .fl 12, .fl 13, .st 14 []] (by rfl) (by kernel_rfl) ?_ | (fail) | (refine needP_intro (by exact Nat.le_of_ble_eq_true rfl) ?_) | refine And.intro ?_ ?_)
  all_goals first
    | exact ⟨_, bits255 _, rfl⟩
    | (refine Cur.set (i' := i) (h' := wrapI .i64 (wrapI .i64 (hh * 6364136223846793005) + 1442695040888963407)) h1 h2 h3 (by omega) h6 ?_; rw [hk]; rfl)
    | skip
  all_goals (rw [List.set_set]; refine Cur.set (i' := i + 1) (h' := wrapI .i64 (wrapI .i64 (hh * 6364136223846793005) + 1442695040888963407)) h1 h2 h3 (by omega) h6 ?_; rw [row_kset hlt, hk]; rfl)
theorem ev_l1Below {id : Nat} {S : Store} (n : Int) (h : Cur id S) : EvA Tryz.prog 97 [.s (.pt id), .s (.int .i64 n)] S (fun r S' => Drw id S S' ∧ ∃ x : Int, (0 ≤ x ∧ x ≤ 16777215 ∧ (0 < n → x < n) ∧ (n ≤ 0 → x = 0)) ∧ r = .v (.s (.int .i64 x))) := by
  have hlt := h.lt
  have hD := Drw.refl h
  have hF : Fr S.length S [] [] := fr_nil
  refine evA_intro tok Tryz.func97 (by kernel_rfl) rfl ?_
  repeat' ((conv => whnf) <;> first
   | rw [wrapI_i64 (by omega)] | refine cD (fun _ => ?_) fun _ => ?_ | refine cE (fun _ => ?_) fun _ => ?_ | refine cT ?_ | refine cF ?_ | refine cN (fun _ => ?_) fun _ => ?_ | refine cI (fun _ => ?_) fun _ => ?_ | (refine callP_intro (ev_l1Byte hD.cur) ?_; rintro _ Sn ⟨hDn, xn, hxn, rfl⟩; replace hF := hF.drw hlt hDn; replace hD := hD.trans hDn; clear hDn) | refine nP ?_ | refine And.intro ?_ ?_)
  all_goals first
    | exact hD
    | exact ⟨0, ⟨by omega, by omega, by omega, by omega⟩, rfl⟩
    | (exact ⟨_, ⟨(tmod_in (by omega) (by omega)).1, Int.le_trans (tmod_le (by omega) (by omega)) (by omega), fun _ => (tmod_in (by omega) (by omega)).2, fun _ => by omega⟩, rfl⟩)
theorem ev_l1New {S : Store} {c : C} (l : List Int) (h : Rd S [.sl 1 (l.map dByte)] [c]) (hz : l.length ≤ 1048576) : EvA Tryz.prog 96 [.s c] S (fun r S' => Ext S S' ∧ Cur S.length S' ∧ r = .v (.s (.pt S.length))) := by
  refine evA_intro tok Tryz.func96 (by kernel_rfl) rfl ?_
  repeat' ((conv => whnf) <;> first
   | rw [wrapI_i64 (by omega)] | refine cD (fun _ => ?_) fun _ => ?_ | refine cE (fun _ => ?_) fun _ => ?_ | refine cT ?_ | refine cF ?_ | refine cN (fun _ => ?_) fun _ => ?_ | refine cI (fun _ => ?_) fun _ => ?_ | refine rE fun hml => ?_ | refine rI aN rf ix ?_ | refine rd_loadf aN tv ix ?_ | refine nP ?_ | refine And.intro ?_ ?_)
  refine loop_intro {q : Nat × Int // q.1 ≤ l.length} [3, 4, 8, 9, 10, 11, 12, 13, 14, 15, 16, 17, 18, 19, 20, 21, 22, 23, 24, 25, 26, 27] (fun zb => [(4, .v (.s (.int .i64 zb.1.1))), (3, .v (.s (.int .i64 zb.1.2)))]) (fun _ => S) (fun zb => l.length - zb.1.1) ⟨(0, 193017 + (l.length : Int)), Nat.zero_le _⟩ ?_ rfl ?_
  · (conv => whnf); repeat' (first | exact trivial | exact rfl | apply And.intro)
  rintro ⟨⟨i, st⟩, hi⟩; dsimp only
  replace hi : i ≤ l.length := hi
  repeat' ((conv => whnf) <;> first
   | rw [wrapI_i64 (by omega)] | refine cD (fun _ => ?_) fun _ => ?_ | refine cE (fun _ => ?_) fun _ => ?_ | refine cT ?_ | refine cF ?_ | refine cN (fun _ => ?_) fun _ => ?_ | refine cI (fun _ => ?_) fun _ => ?_ | refine rE fun hml => ?_ | refine rI aN rf ix ?_ | refine rd_loadf aN tv ix ?_ | refine nP ?_ | refine And.intro ?_ ?_)
  all_goals first
    | exact Ext.push _ _
    | rfl
    | (refine ⟨⟨(i + 1, bitsI .and .i64 (wrapI .i64 (wrapI .i64 (wrapI .i64 (st * 137) + wrapI .i64 (l[((i : Nat) : Int).toNat]'(by omega))) + 11)) 1073741823), by dsimp only; omega⟩, ?_, rfl, by dsimp only; omega⟩; (conv => whnf); repeat' (first | exact trivial | exact rfl | (rw [wrapI_i64 (by omega)]; exact rfl) | apply And.intro))
    | (obtain ⟨ids, h1⟩ := h
       have hlt := h1.lt
       refine ⟨⟨c, 0, st, l, ids, by rw [List.getElem?_append_right (Nat.le_refl _), Nat.sub_self]; rfl, h1.frame fun j hj => List.getElem?_append_left (hlt j hj), hlt, by omega, by omega, hz⟩⟩)
    | (exfalso; omega)
end Go.Proofs.YtockphlpokoohaaGreat
