/- What an extension sees of a document; whether it may edit it. -/
import Derived.Test.YtlmmdpmmdmhacaaGreatKt25
import Derived.Test.YtlmmdpmmdmhacaaGreatKt37
namespace Go.Proofs.YtlmmdpmmdmhacaaGreat
open Go Go.ChangeShapes Go.WideShapes Go.ChangeAt Go.RowKit
set_option linter.unusedVariables false
set_option linter.unusedSimpArgs false
set_option maxRecDepth 100000
def idxI (v : Int) : List Int → Nat → Int
 | [], _ => -1
 | x :: r, i => if v = x then i else idxI v r (i + 1)
theorem zwh (v : Int) : ∀ (l : List Int) (i : Nat), (0 ≤ idxI v l i) ↔ v ∈ l
 | [], i => by simp [idxI]
 | x :: r, i => by
   rw [idxI, List.mem_cons]
   split
   ·rename_i h; subst h; simp
   ·rename_i h; rw [zwh v r (i + 1)]; simp [h]
theorem zzp (l : List Int) (v : Int) (c : C) (S : Store) (h : Rd S [.sl 1 (l.map dInt)] [c]) : EvA Tryz.prog 353 [.s c, .s (.int .i64 v)] S (fun r S' => r = .v (.s (.int .i64 (idxI v l 0))) ∧ S' = S) := by
 refine zac tok Tryz.func353 (by kernel_rfl) rfl ?_
 repeat' ((conv => whnf) <;> first
  | refine rE fun hml => ?_)
 refine zag {i : Nat // i ≤ l.length ∧ idxI v (l.drop i) i = idxI v l 0} [4, 5, 8, 9, 10, 11, 12, 13, 14, 15, 16, 17, 18] (fun zb => [(8, .v (.s (.int .i64 zb.1)))]) (fun _ => S) (fun zb => l.length - zb.1) ⟨0, Nat.zero_le _, rfl⟩ okL rfl ?_
 rintro ⟨i, hi, hinv⟩; dsimp only
 by_cases hlt : i < l.length
 ·have hlt' : ((i : Nat) : Int).toNat < l.length := by simpa using hlt
  rw [zam hlt, idxI] at hinv
  by_cases he : v = l[((i : Nat) : Int).toNat]'hlt'
  ·rw [if_pos (by simpa using he)] at hinv
   rw [← hinv]
   repeat' ((conv => whnf) <;> first
    | (show CondP _ _ _; refine cS ?_) | refine rI aN rf ix ?_ | refine zaf aN tv ix ?_ | refine And.intro ?_ ?_)
   all_goals first
    | rfl
    | (exfalso; omega)
    | (exfalso; rename_i hb; simp_all; done)
  ·rw [if_neg (by simpa using he)] at hinv
   repeat' ((conv => whnf) <;> first
    | rw [zad (by omega)] | (show CondP _ _ _; refine cS ?_) | refine rI aN rf ix ?_ | refine zaf aN tv ix ?_)
   all_goals first
    | (exfalso; omega)
    | (refine ⟨⟨i + 1, by omega, hinv⟩, ?_, rfl, by simp; omega⟩; (conv => whnf); repeat' (first | exact trivial | exact rfl | apply And.intro))
    | (exfalso; rename_i hb; simp_all; done)
 ·rw [zak (by omega), idxI] at hinv
  rw [← hinv]
  repeat' ((conv => whnf) <;> first
   | (show CondP _ _ _; refine cS ?_) | refine And.intro ?_ ?_)
  all_goals first
   | rfl
   | (exfalso; omega)
theorem zgz (l : List Int) (v : Int) (c : C) (S : Store) (h : Rd S [.sl 1 (l.map dInt)] [c]) : EvA Tryz.prog 322 [.s c, .s (.int .i64 v)] S (fun r S' => r = .v (.s (.bool (decide (v ∈ l)))) ∧ S' = S) := by
 have e : decide (v ∈ l) = decide (0 ≤ idxI v l 0) := by rw [Bool.eq_iff_iff]; simp [zwh]
 rw [e]
 refine zac tok Tryz.func322 (by kernel_rfl) rfl ?_
 repeat' ((conv => whnf) <;> first
  | refine zaa (zzp _ _ _ _ aN) ?_ | refine And.intro ?_ ?_)
 all_goals rfl
def zlw (hidden : List Int) (by' : Int) (x : GNode) : Bool := decide (x.By = by') || !decide (x.Tag ∈ hidden)
def zvi (d : List GNode) (hidden : List Int) (by' : Int) : Nat → Nat → Bool
 | 0, _ => false
 | f + 1, k => zlw hidden by' (d.getD k default) && (decide (k = 0) || zvi d hidden by' f (zah d (d.getD k default).Parent).toNat)
def sees (d : List GNode) (hidden : List Int) (by' : Int) (k : Nat) : Bool := zvi d hidden by' (k + 1) k
theorem zpb {d : List GNode} (hd : zck d = true) (hidden : List Int) (by' : Int) : ∀ (f g k : Nat), k < d.length → k < f → k < g → zvi d hidden by' f k = zvi d hidden by' g k
 | 0, _, k, _, h, _ => by omega
 | f + 1, 0, k, _, _, h => by omega
 | f + 1, g + 1, k, hk, h1, h2 => by
   rw [zvi, zvi]
   by_cases h0 : k = 0
   ·rw [decide_eq_true h0, Bool.true_or, Bool.true_or]
   ·have hp := zdv hd hk (by omega)
    rw [zea hk, zpb hd hidden by' f g _ (by omega) (by omega) (by omega)]
theorem z5e {d : List GNode} (hd : zck d = true) (hidden : List Int) (by' : Int) {k : Nat} (hk : k < d.length) : sees d hidden by' k = (zlw hidden by' (d[k]'hk) && (decide (k = 0) || sees d hidden by' (zah d (d[k]'hk).Parent).toNat)) := by
 unfold sees
 rw [zvi, zea hk]
 by_cases h0 : k = 0
 ·rw [decide_eq_true h0, Bool.true_or, Bool.true_or]
 ·have hp := zdv hd hk (by omega)
  rw [zpb hd hidden by' k ((zah d (d[k]'hk).Parent).toNat + 1) _ (by omega) (by omega) (by omega)]
def zen (d : List GNode) (hidden : List Int) (by' : Int) (n : Nat) : List GNode := ((List.range n).filter (sees d hidden by')).map fun k => d.getD k default
def zdg (d : List GNode) (hidden : List Int) (by' : Int) : List GNode := if zck d then zen d hidden by' d.length else []
theorem ziy {d : List GNode} {hidden : List Int} {by' : Int} {n : Nat} (hn : n < d.length) (h : sees d hidden by' n = true) : zen d hidden by' (n + 1) = zen d hidden by' n ++ [d[n]] := by
 unfold zen; rw [List.range_succ, List.filter_append, List.map_append]; simp [h, List.getElem?_eq_getElem hn]
theorem ziq {d : List GNode} {hidden : List Int} {by' : Int} {n : Nat} (h : sees d hidden by' n = false) : zen d hidden by' (n + 1) = zen d hidden by' n := by
 unfold zen; rw [List.range_succ, List.filter_append, List.map_append]; simp [h]
theorem zyg (d : List GNode) (hidden : List Int) (by' : Int) (n : Nat) : (zen d hidden by' n).length ≤ n := by
 unfold zen; rw [List.length_map]
 have := List.length_filter_le (sees d hidden by') (List.range n)
 rw [List.length_range] at this; exact this
theorem z2z {hidden : List Int} {by' : Int} {x : GNode} (h : zlw hidden by' x = true) : x.By = by' ∨ decide (x.Tag ∈ hidden) = false := by
 unfold zlw at h
 by_cases hb : x.By = by'
 ·exact .inl hb
 ·rw [decide_eq_false hb, Bool.false_or] at h; exact .inr (by simpa using h)
theorem z2s {hidden : List Int} {by' : Int} {x : GNode} (h : zlw hidden by' x = false) : ¬ x.By = by' ∧ decide (x.Tag ∈ hidden) = true := by
 unfold zlw at h
 rw [Bool.or_eq_false_iff] at h
 exact ⟨of_decide_eq_false h.1, by simpa using h.2⟩
def za0 (d : List GNode) (hidden : List Int) (by' : Int) (i : Nat) : List Bool := (List.range i).map (sees d hidden by') ++ List.replicate (d.length - i) false
theorem zyc (d : List GNode) (hidden : List Int) (by' : Int) {i : Nat} (hi : i ≤ d.length) : (za0 d hidden by' i).length = d.length := by
 unfold za0; rw [List.length_append, List.length_map, List.length_range, List.length_replicate]; omega
theorem zk1 {d : List GNode} {hidden : List Int} {by' : Int} {i j : Nat} (hj : j < i) (hl : j < (za0 d hidden by' i).length) : (za0 d hidden by' i)[j]'hl = sees d hidden by' j := by
 have e : za0 d hidden by' i = (List.range i).map (sees d hidden by') ++ List.replicate (d.length - i) false := rfl
 rw [List.getElem_of_eq e, List.getElem_append_left (by simpa using hj)]
 simp
theorem zmm {d : List GNode} {hidden : List Int} {by' : Int} {i : Nat} (hi : i < d.length) : (za0 d hidden by' i).set i (sees d hidden by' i) = za0 d hidden by' (i + 1) := by
 unfold za0
 apply List.ext_getElem
 ·rw [List.length_set]; simp; omega
 ·intro j h1 h2
  rw [List.getElem_set]
  simp only [List.length_set, List.length_append, List.length_map, List.length_range, List.length_replicate] at h1
  by_cases hj : i = j
  ·subst hj
   rw [if_pos rfl, List.getElem_append_left (by simp)]; simp
  ·rw [if_neg hj]
   by_cases hlt : j < i
   ·rw [List.getElem_append_left (by simpa using hlt), List.getElem_append_left (by simp; omega)]; simp
   ·rw [List.getElem_append_right (by simp; omega), List.getElem_append_right (by simp; omega)]; simp
theorem zdy {S0 S : Store} {q : Nat} {c : C} {ds : List D} {cs : List C} {l : List Bool} {i : Int} {y : Bool} {K : Store → Prop} (hE : Ext S0 S) (h : Fr S0.length S ds cs) (hd : ds[q]? = some (.sl 1 (l.map zfd))) (hc : cs[q]? = some c) (h0 : 0 ≤ i ∧ i.toNat < l.length)
 (hK : ∀ S', Ext S0 S' → Fr S0.length S' (ds.set q (.sl 1 ((l.set i.toNat y).map zfd))) cs → S'.length = S.length → K S') : StoP S c i 0 [.bool y] K :=
 zj6 (q := q) (A := []) (B := zfd (l[i.toNat]'h0.2)) (B' := zfd y) (Z := []) hE h (Ext.refl _) hE.len hd hc ziu (by rw [List.length_map]; exact h0) (by simp [h0.2]) rfl rfl rfl fun S' h1 h2 h3 => hK S' h1 (by rw [List.map_set]; exact h2) h3
theorem Fr.fst {S : Store} {lo : Nat} {d1 d2 : D} {c1 c2 : C} (h : Fr lo S [d1, d2] [c1, c2]) : Fr lo S [d1] [c1] := Fr.left (ds := [d1]) (ds' := [d2]) (cs := [c1]) (cs' := [c2]) h rfl
set_option maxHeartbeats 4000000 in
theorem zg0 (d : List GNode) (hidden : List Int) (by' : Int) (c c2 : C) (S : Store) (h : Rd S [.sl 5 (d.map GNode.d)] [c]) (h2 : Rd S [.sl 1 (hidden.map dInt)] [c2]) (hz : d.length ≤ 4194304) :
 EvA Tryz.prog 262 [.s c, .s c2, .s (.int .i64 by')] S (fun r S' => Ext S S' ∧ ∃ c', r = .v (.s c') ∧ Fr S.length S' [.sl 5 ((zdg d hidden by').map GNode.d)] [c']) := by
 cases hd : zck d with
 | false =>
   rw [show zdg d hidden by' = [] from by unfold zdg; rw [hd]; rfl]
   refine zac tok Tryz.func262 (by kernel_rfl) rfl ?_
   repeat' ((conv => whnf) <;> first
    | (show CondP _ _ _; refine cS ?_) | refine zaa (za3 _ _ _ rdA) ?_ | refine And.intro ?_ ?_)
   all_goals first
    | exact Ext.push _ _
    | exact ⟨_, rfl, zba⟩
    | (exfalso; omega)
 | true =>
   rw [show zdg d hidden by' = zen d hidden by' d.length from by unfold zdg; rw [hd]; rfl]
   have hdl := (z1e hd).1
   have E0 : Ext S (S ++ [(⟨true, 5, []⟩ : Row)] ++ [(⟨true, 1, List.replicate d.length [.bool false]⟩ : Row)]) := (Ext.push _ _).trans (Ext.push _ _)
   have f0 : Fr S.length (S ++ [(⟨true, 5, []⟩ : Row)] ++ [(⟨true, 1, List.replicate d.length [.bool false]⟩ : Row)]) [.sl 5 ((zen d hidden by' 0).map GNode.d), .sl 1 ((za0 d hidden by' 0).map zfd)] [.sl S.length 0 0 0, .sl (S ++ [(⟨true, 5, []⟩ : Row)]).length 0 d.length d.length] := by
    refine Fr.join (ds := [.sl 5 []]) (cs := [_]) (zba (S := S) (k := 5)) (Ext.push _ _) ?_ (Ext.push S _).len
    have g := zv4 (S := S ++ [(⟨true, 5, []⟩ : Row)]) (f := zfd) (k := 1) (List.replicate d.length false) (fun _ => trivial) (by rw [List.length_replicate]; omega)
    rw [List.map_replicate, List.length_replicate] at g
    exact g
   refine zac tok Tryz.func262 (by kernel_rfl) rfl ?_
   repeat' ((conv => whnf) <;> first
    | (show CondP _ _ _; refine cS ?_) | refine zaa (za3 _ _ _ rdA) ?_ | refine rE fun hml => ?_ | refine zdn (by dsimp only [T139, T3, T4]; first | omega | (constructor <;> omega) | fail) ?_)
   refine zag {p : Nat × Store × C × C // p.1 ≤ d.length ∧ Ext S p.2.1 ∧ Fr S.length p.2.1 [.sl 5 ((zen d hidden by' p.1).map GNode.d), .sl 1 ((za0 d hidden by' p.1).map zfd)] [p.2.2.1, p.2.2.2]} [7, 9, 10, 21, 22, 23, 24, 25, 26, 27, 28, 29, 30, 31, 32, 33, 34, 35, 36, 37, 38, 39, 40, 41, 42, 43, 44, 45, 46, 47, 48, 49, 50, 51, 52, 53, 54, 55, 56, 57, 58, 59, 60, 61, 62, 63] (fun zb => [(21, .v (.s (.int .i64 zb.1.1))), (7, .v (.s zb.1.2.2.1)), (8, .v (.s zb.1.2.2.2))]) (fun zb => zb.1.2.1) (fun zb => d.length - zb.1.1) ⟨(0, _, _, _), Nat.zero_le _, E0, f0⟩ okL rfl ?_
   rintro ⟨⟨i, Si, ci, cv⟩, hi, hE, hF⟩; dsimp only
   replace hi : i ≤ d.length := hi
   replace hE : Ext S Si := hE
   replace hF : Fr S.length Si [.sl 5 ((zen d hidden by' i).map GNode.d), .sl 1 ((za0 d hidden by' i).map zfd)] [ci, cv] := hF
   have hfl := zyg d hidden by' i
   have hbl := zyc d hidden by' hi
   have h' := h.ext hE
   have h2' := h2.ext hE
   have hv' : Rd Si [.sl 1 ((za0 d hidden by' i).map zfd)] [cv] := hF.rdAt (o := 1) rfl rfl
   by_cases hlt : i < d.length
   ·have hlt' : ((i : Nat) : Int).toNat < d.length := hlt
    have hse : sees d hidden by' i = (zlw hidden by' (d[((i : Nat) : Int).toNat]'hlt') && (decide (i = 0) || sees d hidden by' (zah d (d[((i : Nat) : Int).toNat]'hlt').Parent).toNat)) := z5e hd hidden by' hlt
    have hx : 0 ≤ ((i : Nat) : Int) ∧ ((i : Nat) : Int).toNat < (za0 d hidden by' i).length := ⟨by omega, by omega⟩
    have hl1 : ∀ v, ((za0 d hidden by' i).set ((i : Nat) : Int).toNat v).length = d.length := fun v => by rw [List.length_set, hbl]
    have hl2 : ∀ v u, (((za0 d hidden by' i).set ((i : Nat) : Int).toNat v).set ((i : Nat) : Int).toNat u).length = d.length := fun v u => by rw [List.length_set, List.length_set, hbl]
    have hg1 : ∀ v, ((za0 d hidden by' i).set ((i : Nat) : Int).toNat v)[((i : Nat) : Int).toNat]'(by rw [hl1]; exact hlt) = v := fun v => List.getElem_set_self _
    have hg2 : ∀ v u, (((za0 d hidden by' i).set ((i : Nat) : Int).toNat v).set ((i : Nat) : Int).toNat u)[((i : Nat) : Int).toNat]'(by rw [hl2]; exact hlt) = u := fun v u => List.getElem_set_self _
    have hn1 : ∀ v, v = sees d hidden by' i → (za0 d hidden by' i).set ((i : Nat) : Int).toNat v = za0 d hidden by' (i + 1) := fun v hv => by rw [hv]; exact zmm hlt
    have hn2 : ∀ v u, u = sees d hidden by' i → ((za0 d hidden by' i).set ((i : Nat) : Int).toNat v).set ((i : Nat) : Int).toNat u = za0 d hidden by' (i + 1) := fun v u hu => by rw [List.set_set, hu]; exact zmm hlt
    cases ho : zlw hidden by' (d[((i : Nat) : Int).toNat]'hlt') with
    | false =>
      obtain ⟨o1, o2⟩ := z2s ho
      by_cases h0 : i = 0
      ·have hz0 : ¬ (0 < ((i : Nat) : Int)) := by omega
       have hsv : sees d hidden by' i = false := by rw [hse, ho, decide_eq_true h0]; rfl
       have hcur := hg1 false
       repeat' ((conv => whnf) <;> first
        | rw [o2] | rw [zad (by omega)] | (show CondP _ _ _; refine cS ?_) | refine cF ?_ | refine zaa (zgz _ _ _ _ rdA) ?_ | refine rI rdA rf ix ?_ | refine zaf rdA tv ix ?_ | (refine zdy (q := 1) (l := za0 d hidden by' i) (y := false) aN aN (by rfl) (by rfl) hx ?_; intro SN hEN hFN hlN; have rN : Rd SN [.sl 1 (((za0 d hidden by' i).set ((i : Nat) : Int).toNat false).map zfd)] [cv] := hFN.rdAt (o := 1) rfl rfl; have e1 := hl1 false; have hN' := h.ext hEN; clear hF h' hv' h2'))
       all_goals first
        | (refine ⟨⟨(i + 1, SN, ci, cv), by dsimp only; omega, hEN, by dsimp only; rw [ziq hsv, ← hn1 false hsv.symm]; exact hFN⟩, ?_, rfl, by dsimp only; omega⟩; (conv => whnf); repeat' (first | exact trivial | exact rfl | apply And.intro))
        | (exfalso; omega)
        | (exfalso; simp_all; done)
      ·have hp := zdv hd hlt' (by omega)
       have hpi : 0 ≤ zah d (d[((i : Nat) : Int).toNat]'hlt').Parent ∧ (zah d (d[((i : Nat) : Int).toNat]'hlt').Parent).toNat < ((za0 d hidden by' i).set ((i : Nat) : Int).toNat false).length := ⟨hp.1, by rw [hl1]; omega⟩
       have hgp : ((za0 d hidden by' i).set ((i : Nat) : Int).toNat false)[(zah d (d[((i : Nat) : Int).toNat]'hlt').Parent).toNat]'hpi.2 = sees d hidden by' (zah d (d[((i : Nat) : Int).toNat]'hlt').Parent).toNat := by
        rw [List.getElem_set_ne (by omega)]; exact zk1 (by omega) _
       cases hsp : sees d hidden by' (zah d (d[((i : Nat) : Int).toNat]'hlt').Parent).toNat with
       | true =>
         rw [hsp] at hgp
         have hsv : sees d hidden by' i = false := by rw [hse, ho, hsp, decide_eq_false h0]; rfl
         have hcur := hg1 false
         repeat' ((conv => whnf) <;> first
          | rw [o2] | rw [zad (by omega)] | (show CondP _ _ _; refine cS ?_) | refine zaa (zax _ _ _ _ rdA) ?_ | refine zaa (zgz _ _ _ _ rdA) ?_ | refine rI rdA rf ix ?_ | refine zaf rdA tv ix ?_ | (refine zdy (q := 1) (l := za0 d hidden by' i) (y := false) aN aN (by rfl) (by rfl) hx ?_; intro SN hEN hFN hlN; have rN : Rd SN [.sl 1 (((za0 d hidden by' i).set ((i : Nat) : Int).toNat false).map zfd)] [cv] := hFN.rdAt (o := 1) rfl rfl; have e1 := hl1 false; have hN' := h.ext hEN; clear hF h' hv' h2'))
         all_goals first
          | (refine ⟨⟨(i + 1, SN, ci, cv), by dsimp only; omega, hEN, by dsimp only; rw [ziq hsv, ← hn1 false hsv.symm]; exact hFN⟩, ?_, rfl, by dsimp only; omega⟩; (conv => whnf); repeat' (first | exact trivial | exact rfl | apply And.intro))
          | (exfalso; omega)
          | (exfalso; simp_all; done)
       | false =>
         rw [hsp] at hgp
         have hsv : sees d hidden by' i = false := by rw [hse, ho, hsp, decide_eq_false h0]; rfl
         have hcur := hg2 false false
         repeat' ((conv => whnf) <;> first
          | rw [o2] | rw [zad (by omega)] | (show CondP _ _ _; refine cS ?_) | refine zaa (zax _ _ _ _ rdA) ?_ | refine zaa (zgz _ _ _ _ rdA) ?_ | refine rI rdA rf ix ?_ | refine zaf rdA tv ix ?_ | (refine zdy (q := 1) (l := (za0 d hidden by' i).set ((i : Nat) : Int).toNat false) (y := false) (by assumption) (by assumption) (by rfl) (by rfl) ⟨by omega, by rw [hl1]; exact hlt⟩ ?_; intro SM hEM hFM hlM; have rM : Rd SM [.sl 1 ((((za0 d hidden by' i).set ((i : Nat) : Int).toNat false).set ((i : Nat) : Int).toNat false).map zfd)] [cv] := hFM.rdAt (o := 1) rfl rfl; have e2 := hl2 false false) | (refine zdy (q := 1) (l := za0 d hidden by' i) (y := false) aN aN (by rfl) (by rfl) hx ?_; intro SN hEN hFN hlN; have rN : Rd SN [.sl 1 (((za0 d hidden by' i).set ((i : Nat) : Int).toNat false).map zfd)] [cv] := hFN.rdAt (o := 1) rfl rfl; have e1 := hl1 false; have hN' := h.ext hEN; clear hF h' hv' h2'))
         all_goals first
          | (refine ⟨⟨(i + 1, SM, ci, cv), by dsimp only; omega, hEM, by dsimp only; rw [ziq hsv, ← hn2 false false hsv.symm]; exact hFM⟩, ?_, rfl, by dsimp only; omega⟩; (conv => whnf); repeat' (first | exact trivial | exact rfl | apply And.intro))
          | (exfalso; omega)
          | (exfalso; simp_all; done)
    | true =>
      rcases z2z ho with o1 | o2
      ·skip
       by_cases h0 : i = 0
       ·have hz0 : ¬ (0 < ((i : Nat) : Int)) := by omega
        have hsv : sees d hidden by' i = true := by rw [hse, ho, decide_eq_true h0]; rfl
        have hcur := hg1 true
        repeat' ((conv => whnf) <;> first
         | rw [zad (by omega)] | (show CondP _ _ _; refine cS ?_) | refine cF ?_ | refine rI rdA rf ix ?_ | refine zaf rdA tv ix ?_ | (refine zdy (q := 1) (l := za0 d hidden by' i) (y := true) aN aN (by rfl) (by rfl) hx ?_; intro SN hEN hFN hlN; have rN : Rd SN [.sl 1 (((za0 d hidden by' i).set ((i : Nat) : Int).toNat true).map zfd)] [cv] := hFN.rdAt (o := 1) rfl rfl; have e1 := hl1 true; have hN' := h.ext hEN; clear hF h' hv' h2') | (refine zcq (f := GNode.d) (o := 0) (l := zen d hidden by' i) (m := [d[((i : Nat) : Int).toNat]'hlt']) tv aN aN (by rfl) (by rfl) (by rfl) rf (by dsimp only [T139]; simp only [List.length_cons, List.length_nil]; omega) (by simp only [List.length_cons, List.length_nil]; omega) ?_; intro cA SA hEA hFA hlA))
        all_goals first
         | (refine ⟨⟨(i + 1, SA, cA, cv), by dsimp only; omega, hEA, by dsimp only; rw [ziy hlt hsv, ← hn1 true hsv.symm]; exact hFA⟩, ?_, rfl, by dsimp only; omega⟩; (conv => whnf); repeat' (first | exact trivial | exact rfl | apply And.intro))
         | (exfalso; omega)
         | (exfalso; simp_all; done)
       ·have hp := zdv hd hlt' (by omega)
        have hpi : 0 ≤ zah d (d[((i : Nat) : Int).toNat]'hlt').Parent ∧ (zah d (d[((i : Nat) : Int).toNat]'hlt').Parent).toNat < ((za0 d hidden by' i).set ((i : Nat) : Int).toNat true).length := ⟨hp.1, by rw [hl1]; omega⟩
        have hgp : ((za0 d hidden by' i).set ((i : Nat) : Int).toNat true)[(zah d (d[((i : Nat) : Int).toNat]'hlt').Parent).toNat]'hpi.2 = sees d hidden by' (zah d (d[((i : Nat) : Int).toNat]'hlt').Parent).toNat := by
         rw [List.getElem_set_ne (by omega)]; exact zk1 (by omega) _
        cases hsp : sees d hidden by' (zah d (d[((i : Nat) : Int).toNat]'hlt').Parent).toNat with
        | true =>
          rw [hsp] at hgp
          have hsv : sees d hidden by' i = true := by rw [hse, ho, hsp, decide_eq_false h0]; rfl
          have hcur := hg1 true
          repeat' ((conv => whnf) <;> first
           | rw [zad (by omega)] | (show CondP _ _ _; refine cS ?_) | refine zaa (zax _ _ _ _ rdA) ?_ | refine rI rdA rf ix ?_ | refine zaf rdA tv ix ?_ | (refine zdy (q := 1) (l := za0 d hidden by' i) (y := true) aN aN (by rfl) (by rfl) hx ?_; intro SN hEN hFN hlN; have rN : Rd SN [.sl 1 (((za0 d hidden by' i).set ((i : Nat) : Int).toNat true).map zfd)] [cv] := hFN.rdAt (o := 1) rfl rfl; have e1 := hl1 true; have hN' := h.ext hEN; clear hF h' hv' h2') | (refine zcq (f := GNode.d) (o := 0) (l := zen d hidden by' i) (m := [d[((i : Nat) : Int).toNat]'hlt']) tv aN aN (by rfl) (by rfl) (by rfl) rf (by dsimp only [T139]; simp only [List.length_cons, List.length_nil]; omega) (by simp only [List.length_cons, List.length_nil]; omega) ?_; intro cA SA hEA hFA hlA))
          all_goals first
           | (refine ⟨⟨(i + 1, SA, cA, cv), by dsimp only; omega, hEA, by dsimp only; rw [ziy hlt hsv, ← hn1 true hsv.symm]; exact hFA⟩, ?_, rfl, by dsimp only; omega⟩; (conv => whnf); repeat' (first | exact trivial | exact rfl | apply And.intro))
           | (exfalso; omega)
           | (exfalso; simp_all; done)
        | false =>
          rw [hsp] at hgp
          have hsv : sees d hidden by' i = false := by rw [hse, ho, hsp, decide_eq_false h0]; rfl
          have hcur := hg2 true false
          repeat' ((conv => whnf) <;> first
           | rw [zad (by omega)] | (show CondP _ _ _; refine cS ?_) | refine zaa (zax _ _ _ _ rdA) ?_ | refine rI rdA rf ix ?_ | refine zaf rdA tv ix ?_ | (refine zdy (q := 1) (l := (za0 d hidden by' i).set ((i : Nat) : Int).toNat true) (y := false) (by assumption) (by assumption) (by rfl) (by rfl) ⟨by omega, by rw [hl1]; exact hlt⟩ ?_; intro SM hEM hFM hlM; have rM : Rd SM [.sl 1 ((((za0 d hidden by' i).set ((i : Nat) : Int).toNat true).set ((i : Nat) : Int).toNat false).map zfd)] [cv] := hFM.rdAt (o := 1) rfl rfl; have e2 := hl2 true false) | (refine zdy (q := 1) (l := za0 d hidden by' i) (y := true) aN aN (by rfl) (by rfl) hx ?_; intro SN hEN hFN hlN; have rN : Rd SN [.sl 1 (((za0 d hidden by' i).set ((i : Nat) : Int).toNat true).map zfd)] [cv] := hFN.rdAt (o := 1) rfl rfl; have e1 := hl1 true; have hN' := h.ext hEN; clear hF h' hv' h2'))
          all_goals first
           | (refine ⟨⟨(i + 1, SM, ci, cv), by dsimp only; omega, hEM, by dsimp only; rw [ziq hsv, ← hn2 true false hsv.symm]; exact hFM⟩, ?_, rfl, by dsimp only; omega⟩; (conv => whnf); repeat' (first | exact trivial | exact rfl | apply And.intro))
           | (exfalso; omega)
           | (exfalso; simp_all; done)
      ·by_cases o1 : (d[((i : Nat) : Int).toNat]'hlt').By = by'
       ·skip
        by_cases h0 : i = 0
        ·have hz0 : ¬ (0 < ((i : Nat) : Int)) := by omega
         have hsv : sees d hidden by' i = true := by rw [hse, ho, decide_eq_true h0]; rfl
         have hcur := hg1 true
         repeat' ((conv => whnf) <;> first
          | rw [zad (by omega)] | (show CondP _ _ _; refine cS ?_) | refine cF ?_ | refine rI rdA rf ix ?_ | refine zaf rdA tv ix ?_ | (refine zdy (q := 1) (l := za0 d hidden by' i) (y := true) aN aN (by rfl) (by rfl) hx ?_; intro SN hEN hFN hlN; have rN : Rd SN [.sl 1 (((za0 d hidden by' i).set ((i : Nat) : Int).toNat true).map zfd)] [cv] := hFN.rdAt (o := 1) rfl rfl; have e1 := hl1 true; have hN' := h.ext hEN; clear hF h' hv' h2') | (refine zcq (f := GNode.d) (o := 0) (l := zen d hidden by' i) (m := [d[((i : Nat) : Int).toNat]'hlt']) tv aN aN (by rfl) (by rfl) (by rfl) rf (by dsimp only [T139]; simp only [List.length_cons, List.length_nil]; omega) (by simp only [List.length_cons, List.length_nil]; omega) ?_; intro cA SA hEA hFA hlA))
         all_goals first
          | (refine ⟨⟨(i + 1, SA, cA, cv), by dsimp only; omega, hEA, by dsimp only; rw [ziy hlt hsv, ← hn1 true hsv.symm]; exact hFA⟩, ?_, rfl, by dsimp only; omega⟩; (conv => whnf); repeat' (first | exact trivial | exact rfl | apply And.intro))
          | (exfalso; omega)
          | (exfalso; simp_all; done)
        ·have hp := zdv hd hlt' (by omega)
         have hpi : 0 ≤ zah d (d[((i : Nat) : Int).toNat]'hlt').Parent ∧ (zah d (d[((i : Nat) : Int).toNat]'hlt').Parent).toNat < ((za0 d hidden by' i).set ((i : Nat) : Int).toNat true).length := ⟨hp.1, by rw [hl1]; omega⟩
         have hgp : ((za0 d hidden by' i).set ((i : Nat) : Int).toNat true)[(zah d (d[((i : Nat) : Int).toNat]'hlt').Parent).toNat]'hpi.2 = sees d hidden by' (zah d (d[((i : Nat) : Int).toNat]'hlt').Parent).toNat := by
          rw [List.getElem_set_ne (by omega)]; exact zk1 (by omega) _
         cases hsp : sees d hidden by' (zah d (d[((i : Nat) : Int).toNat]'hlt').Parent).toNat with
         | true =>
           rw [hsp] at hgp
           have hsv : sees d hidden by' i = true := by rw [hse, ho, hsp, decide_eq_false h0]; rfl
           have hcur := hg1 true
           repeat' ((conv => whnf) <;> first
            | rw [zad (by omega)] | (show CondP _ _ _; refine cS ?_) | refine zaa (zax _ _ _ _ rdA) ?_ | refine rI rdA rf ix ?_ | refine zaf rdA tv ix ?_ | (refine zdy (q := 1) (l := za0 d hidden by' i) (y := true) aN aN (by rfl) (by rfl) hx ?_; intro SN hEN hFN hlN; have rN : Rd SN [.sl 1 (((za0 d hidden by' i).set ((i : Nat) : Int).toNat true).map zfd)] [cv] := hFN.rdAt (o := 1) rfl rfl; have e1 := hl1 true; have hN' := h.ext hEN; clear hF h' hv' h2') | (refine zcq (f := GNode.d) (o := 0) (l := zen d hidden by' i) (m := [d[((i : Nat) : Int).toNat]'hlt']) tv aN aN (by rfl) (by rfl) (by rfl) rf (by dsimp only [T139]; simp only [List.length_cons, List.length_nil]; omega) (by simp only [List.length_cons, List.length_nil]; omega) ?_; intro cA SA hEA hFA hlA))
           all_goals first
            | (refine ⟨⟨(i + 1, SA, cA, cv), by dsimp only; omega, hEA, by dsimp only; rw [ziy hlt hsv, ← hn1 true hsv.symm]; exact hFA⟩, ?_, rfl, by dsimp only; omega⟩; (conv => whnf); repeat' (first | exact trivial | exact rfl | apply And.intro))
            | (exfalso; omega)
            | (exfalso; simp_all; done)
         | false =>
           rw [hsp] at hgp
           have hsv : sees d hidden by' i = false := by rw [hse, ho, hsp, decide_eq_false h0]; rfl
           have hcur := hg2 true false
           repeat' ((conv => whnf) <;> first
            | rw [zad (by omega)] | (show CondP _ _ _; refine cS ?_) | refine zaa (zax _ _ _ _ rdA) ?_ | refine rI rdA rf ix ?_ | refine zaf rdA tv ix ?_ | (refine zdy (q := 1) (l := (za0 d hidden by' i).set ((i : Nat) : Int).toNat true) (y := false) (by assumption) (by assumption) (by rfl) (by rfl) ⟨by omega, by rw [hl1]; exact hlt⟩ ?_; intro SM hEM hFM hlM; have rM : Rd SM [.sl 1 ((((za0 d hidden by' i).set ((i : Nat) : Int).toNat true).set ((i : Nat) : Int).toNat false).map zfd)] [cv] := hFM.rdAt (o := 1) rfl rfl; have e2 := hl2 true false) | (refine zdy (q := 1) (l := za0 d hidden by' i) (y := true) aN aN (by rfl) (by rfl) hx ?_; intro SN hEN hFN hlN; have rN : Rd SN [.sl 1 (((za0 d hidden by' i).set ((i : Nat) : Int).toNat true).map zfd)] [cv] := hFN.rdAt (o := 1) rfl rfl; have e1 := hl1 true; have hN' := h.ext hEN; clear hF h' hv' h2'))
           all_goals first
            | (refine ⟨⟨(i + 1, SM, ci, cv), by dsimp only; omega, hEM, by dsimp only; rw [ziq hsv, ← hn2 true false hsv.symm]; exact hFM⟩, ?_, rfl, by dsimp only; omega⟩; (conv => whnf); repeat' (first | exact trivial | exact rfl | apply And.intro))
            | (exfalso; omega)
            | (exfalso; simp_all; done)
       ·skip
        by_cases h0 : i = 0
        ·have hz0 : ¬ (0 < ((i : Nat) : Int)) := by omega
         have hsv : sees d hidden by' i = true := by rw [hse, ho, decide_eq_true h0]; rfl
         have hcur := hg1 true
         repeat' ((conv => whnf) <;> first
          | rw [o2] | rw [zad (by omega)] | (show CondP _ _ _; refine cS ?_) | refine cF ?_ | refine zaa (zgz _ _ _ _ rdA) ?_ | refine rI rdA rf ix ?_ | refine zaf rdA tv ix ?_ | (refine zdy (q := 1) (l := za0 d hidden by' i) (y := true) aN aN (by rfl) (by rfl) hx ?_; intro SN hEN hFN hlN; have rN : Rd SN [.sl 1 (((za0 d hidden by' i).set ((i : Nat) : Int).toNat true).map zfd)] [cv] := hFN.rdAt (o := 1) rfl rfl; have e1 := hl1 true; have hN' := h.ext hEN; clear hF h' hv' h2') | (refine zcq (f := GNode.d) (o := 0) (l := zen d hidden by' i) (m := [d[((i : Nat) : Int).toNat]'hlt']) tv aN aN (by rfl) (by rfl) (by rfl) rf (by dsimp only [T139]; simp only [List.length_cons, List.length_nil]; omega) (by simp only [List.length_cons, List.length_nil]; omega) ?_; intro cA SA hEA hFA hlA))
         all_goals first
          | (refine ⟨⟨(i + 1, SA, cA, cv), by dsimp only; omega, hEA, by dsimp only; rw [ziy hlt hsv, ← hn1 true hsv.symm]; exact hFA⟩, ?_, rfl, by dsimp only; omega⟩; (conv => whnf); repeat' (first | exact trivial | exact rfl | apply And.intro))
          | (exfalso; omega)
          | (exfalso; simp_all; done)
        ·have hp := zdv hd hlt' (by omega)
         have hpi : 0 ≤ zah d (d[((i : Nat) : Int).toNat]'hlt').Parent ∧ (zah d (d[((i : Nat) : Int).toNat]'hlt').Parent).toNat < ((za0 d hidden by' i).set ((i : Nat) : Int).toNat true).length := ⟨hp.1, by rw [hl1]; omega⟩
         have hgp : ((za0 d hidden by' i).set ((i : Nat) : Int).toNat true)[(zah d (d[((i : Nat) : Int).toNat]'hlt').Parent).toNat]'hpi.2 = sees d hidden by' (zah d (d[((i : Nat) : Int).toNat]'hlt').Parent).toNat := by
          rw [List.getElem_set_ne (by omega)]; exact zk1 (by omega) _
         cases hsp : sees d hidden by' (zah d (d[((i : Nat) : Int).toNat]'hlt').Parent).toNat with
         | true =>
           rw [hsp] at hgp
           have hsv : sees d hidden by' i = true := by rw [hse, ho, hsp, decide_eq_false h0]; rfl
           have hcur := hg1 true
           repeat' ((conv => whnf) <;> first
            | rw [o2] | rw [zad (by omega)] | (show CondP _ _ _; refine cS ?_) | refine zaa (zax _ _ _ _ rdA) ?_ | refine zaa (zgz _ _ _ _ rdA) ?_ | refine rI rdA rf ix ?_ | refine zaf rdA tv ix ?_ | (refine zdy (q := 1) (l := za0 d hidden by' i) (y := true) aN aN (by rfl) (by rfl) hx ?_; intro SN hEN hFN hlN; have rN : Rd SN [.sl 1 (((za0 d hidden by' i).set ((i : Nat) : Int).toNat true).map zfd)] [cv] := hFN.rdAt (o := 1) rfl rfl; have e1 := hl1 true; have hN' := h.ext hEN; clear hF h' hv' h2') | (refine zcq (f := GNode.d) (o := 0) (l := zen d hidden by' i) (m := [d[((i : Nat) : Int).toNat]'hlt']) tv aN aN (by rfl) (by rfl) (by rfl) rf (by dsimp only [T139]; simp only [List.length_cons, List.length_nil]; omega) (by simp only [List.length_cons, List.length_nil]; omega) ?_; intro cA SA hEA hFA hlA))
           all_goals first
            | (refine ⟨⟨(i + 1, SA, cA, cv), by dsimp only; omega, hEA, by dsimp only; rw [ziy hlt hsv, ← hn1 true hsv.symm]; exact hFA⟩, ?_, rfl, by dsimp only; omega⟩; (conv => whnf); repeat' (first | exact trivial | exact rfl | apply And.intro))
            | (exfalso; omega)
            | (exfalso; simp_all; done)
         | false =>
           rw [hsp] at hgp
           have hsv : sees d hidden by' i = false := by rw [hse, ho, hsp, decide_eq_false h0]; rfl
           have hcur := hg2 true false
           repeat' ((conv => whnf) <;> first
            | rw [o2] | rw [zad (by omega)] | (show CondP _ _ _; refine cS ?_) | refine zaa (zax _ _ _ _ rdA) ?_ | refine zaa (zgz _ _ _ _ rdA) ?_ | refine rI rdA rf ix ?_ | refine zaf rdA tv ix ?_ | (refine zdy (q := 1) (l := (za0 d hidden by' i).set ((i : Nat) : Int).toNat true) (y := false) (by assumption) (by assumption) (by rfl) (by rfl) ⟨by omega, by rw [hl1]; exact hlt⟩ ?_; intro SM hEM hFM hlM; have rM : Rd SM [.sl 1 ((((za0 d hidden by' i).set ((i : Nat) : Int).toNat true).set ((i : Nat) : Int).toNat false).map zfd)] [cv] := hFM.rdAt (o := 1) rfl rfl; have e2 := hl2 true false) | (refine zdy (q := 1) (l := za0 d hidden by' i) (y := true) aN aN (by rfl) (by rfl) hx ?_; intro SN hEN hFN hlN; have rN : Rd SN [.sl 1 (((za0 d hidden by' i).set ((i : Nat) : Int).toNat true).map zfd)] [cv] := hFN.rdAt (o := 1) rfl rfl; have e1 := hl1 true; have hN' := h.ext hEN; clear hF h' hv' h2'))
           all_goals first
            | (refine ⟨⟨(i + 1, SM, ci, cv), by dsimp only; omega, hEM, by dsimp only; rw [ziq hsv, ← hn2 true false hsv.symm]; exact hFM⟩, ?_, rfl, by dsimp only; omega⟩; (conv => whnf); repeat' (first | exact trivial | exact rfl | apply And.intro))
            | (exfalso; omega)
            | (exfalso; simp_all; done)
   ·have he : i = d.length := by omega
    subst he
    repeat' ((conv => whnf) <;> first
     | (show CondP _ _ _; refine cS ?_) | refine And.intro ?_ ?_)
    all_goals first
     | exact hE
     | exact ⟨_, rfl, hF.fst⟩
     | (exfalso; omega)
theorem zjl (d : List GNode) (id top : Int) (c : C) (S : Store) (h : Rd S [.sl 5 (d.map GNode.d)] [c]) : EvA Tryz.prog 263 [.s c, .s (.int .i64 id), .s (.int .i64 top)] S (fun r S' => r = .v (.s (.bool (zd9 d id top))) ∧ S' = S) := by
 by_cases hd : zck d = true ∧ 0 ≤ zah d id ∧ 0 ≤ zah d top
 ·obtain ⟨hd, hi, ht⟩ := hd
  rw [show zd9 d id top = zjg d id top from by unfold zd9; simp [hd, hi, ht]]
  refine zac tok Tryz.func263 (by kernel_rfl) rfl ?_
  repeat' ((conv => whnf) <;> first
   | (show CondP _ _ _; refine cS ?_) | refine zaa (za3 _ _ _ aN) ?_ | refine zaa (zax _ _ _ _ aN) ?_ | refine zaa (zqh _ _ _ _ _ aN aN) ?_ | refine And.intro ?_ ?_)
  all_goals first | rfl | (exfalso; omega)
 ·rw [show zd9 d id top = false from by
   unfold zd9
   cases h1 : zck d <;> simp only [h1, Bool.false_and, Bool.true_and] at hd ⊢
   by_cases h2 : 0 ≤ zah d id <;> by_cases h3 : 0 ≤ zah d top <;> simp_all <;> intros <;> omega]
  cases h1 : zck d
  ·refine zac tok Tryz.func263 (by kernel_rfl) rfl ?_
   repeat' ((conv => whnf) <;> first
    | (show CondP _ _ _; refine cS ?_) | refine cF ?_ | refine zaa (za3 _ _ _ aN) ?_ | refine And.intro ?_ ?_)
   all_goals first | rfl | (exfalso; omega)
  ·have hh : ¬ (0 ≤ zah d id) ∨ (0 ≤ zah d id ∧ ¬ 0 ≤ zah d top) := by
    by_cases h2 : 0 ≤ zah d id
    ·exact .inr ⟨h2, fun h3 => hd ⟨h1, h2, h3⟩⟩
    ·exact .inl h2
   rcases hh with h2 | ⟨h2, h3⟩
   all_goals
    refine zac tok Tryz.func263 (by kernel_rfl) rfl ?_
    repeat' ((conv => whnf) <;> first
     | (show CondP _ _ _; refine cS ?_) | refine cF ?_ | refine zaa (za3 _ _ _ aN) ?_ | refine zaa (zax _ _ _ _ aN) ?_ | refine And.intro ?_ ?_)
    all_goals first | rfl | (exfalso; omega)
def zg9 (d : List GNode) (hidden : List Int) (e : GEdit) : Bool :=
 zc4 e && !(decide (0 ≤ zah d e.Node) && decide (zah (zdg d hidden e.By) e.Node < 0)) &&
 (if e.Kind = 1 ∨ e.Kind = 4 then decide (0 ≤ zah (zdg d hidden e.By) e.Parent) else if e.Kind = 2 then d.all (fun x => !(zd9 d x.Id e.Node && decide (zah (zdg d hidden e.By) x.Id < 0))) else true)
theorem z2v {α : Type} {P : α → Bool} {l : List α} {i : Nat} (h : i < l.length) : (l.drop i).all P = (P l[i] && (l.drop (i + 1)).all P) := by rw [zam h, List.all_cons]
set_option maxHeartbeats 2000000 in
theorem znm (d : List GNode) (hidden : List Int) (e : GEdit) (c c2 : C) (S : Store) (h : Rd S [.sl 5 (d.map GNode.d)] [c]) (h2 : Rd S [.sl 1 (hidden.map dInt)] [c2]) (hz : d.length ≤ 4194304) :
 EvA Tryz.prog 204 [.s c, .s c2, .agg e.c] S (fun r S' => r = .v (.s (.bool (zg9 d hidden e))) ∧ S' = S) := by
 refine EvA.drop rfl ?_
 cases he : zc4 e with
 | false =>
   rw [show zg9 d hidden e = false from by unfold zg9; rw [he]; rfl]
   refine zac tok Tryz.func204 (by kernel_rfl) rfl ?_
   repeat' ((conv => whnf) <;> first
    | (show CondP _ _ _; refine cS ?_) | refine zaa (zb1 _ _) ?_ | refine And.intro ?_ ?_)
   all_goals first | rfl | assumption | exact Ext.refl _ | (exfalso; omega)
 | true =>
   have hk := z6s he
   by_cases hv : 0 ≤ zah d e.Node ∧ zah (zdg d hidden e.By) e.Node < 0
   ·obtain ⟨v1, v2⟩ := hv
    rw [show zg9 d hidden e = false from by unfold zg9; rw [decide_eq_true v1, decide_eq_true v2, he]; rfl]
    refine zac tok Tryz.func204 (by kernel_rfl) rfl ?_
    repeat' ((conv => whnf) <;> first
     | (show CondP _ _ _; refine cS ?_) | refine zaa (zb1 _ _) ?_ | refine zaa (zax _ _ _ _ rdA) ?_ | (refine zab (zg0 _ _ _ _ _ _ rdA rdA om) ?_; rintro _ Sn ⟨hEn, cn, rfl, hFn⟩) | refine And.intro ?_ ?_)
    all_goals first | rfl | assumption | exact Ext.refl _ | (exfalso; omega)
   ·have hv2 : (zah d e.Node < 0) ∨ (0 ≤ zah d e.Node ∧ 0 ≤ zah (zdg d hidden e.By) e.Node) := by omega
    have hme : zg9 d hidden e = (if e.Kind = 1 ∨ e.Kind = 4 then decide (0 ≤ zah (zdg d hidden e.By) e.Parent) else if e.Kind = 2 then d.all (fun x => !(zd9 d x.Id e.Node && decide (zah (zdg d hidden e.By) x.Id < 0))) else true) := by
     unfold zg9
     rw [he, Bool.true_and]
     have : (!(decide (0 ≤ zah d e.Node) && decide (zah (zdg d hidden e.By) e.Node < 0))) = true := by
      rw [Bool.not_eq_true', Bool.and_eq_false_iff, decide_eq_false_iff_not, decide_eq_false_iff_not]; omega
     rw [this, Bool.true_and]
    rw [hme]
    have hall : (d.drop 0).all (fun x => !(zd9 d x.Id e.Node && decide (zah (zdg d hidden e.By) x.Id < 0))) = d.all (fun x => !(zd9 d x.Id e.Node && decide (zah (zdg d hidden e.By) x.Id < 0))) := rfl
    clear hme hv
    rcases hv2 with v1 | ⟨v1, v2⟩
    all_goals
     by_cases k1 : e.Kind = 1 ∨ e.Kind = 4
     ·rw [if_pos k1]
      rcases k1 with k1 | k1
      all_goals
       by_cases q : 0 ≤ zah (zdg d hidden e.By) e.Parent
       ·rw [decide_eq_true q]
        refine zac tok Tryz.func204 (by kernel_rfl) rfl ?_
        repeat' ((conv => whnf) <;> first
         | (show CondP _ _ _; refine cS ?_) | refine cF ?_ | refine zaa (zb1 _ _) ?_ | refine zaa (zax _ _ _ _ rdA) ?_ | (refine zab (zg0 _ _ _ _ _ _ rdA rdA om) ?_; rintro _ Sn ⟨hEn, cn, rfl, hFn⟩) | refine And.intro ?_ ?_)
        skip
        all_goals first
         | rfl
         | assumption
         | (show _ = _; rw [decide_eq_true q]; rfl)
         | (exfalso; omega)
       ·rw [decide_eq_false q]
        refine zac tok Tryz.func204 (by kernel_rfl) rfl ?_
        repeat' ((conv => whnf) <;> first
         | (show CondP _ _ _; refine cS ?_) | refine cF ?_ | refine zaa (zb1 _ _) ?_ | refine zaa (zax _ _ _ _ rdA) ?_ | (refine zab (zg0 _ _ _ _ _ _ rdA rdA om) ?_; rintro _ Sn ⟨hEn, cn, rfl, hFn⟩) | refine And.intro ?_ ?_)
        all_goals first
         | rfl
         | assumption
         | (show _ = _; rw [decide_eq_false q]; rfl)
         | (exfalso; omega)
     ·rw [if_neg k1]
      have k1a : ¬ e.Kind = 1 := fun hh => k1 (.inl hh)
      have k1b : ¬ e.Kind = 4 := fun hh => k1 (.inr hh)
      by_cases k2 : e.Kind = 2
      ·rw [if_pos k2]
       refine zac tok Tryz.func204 (by kernel_rfl) rfl ?_
       repeat' ((conv => whnf) <;> first
        | (show CondP _ _ _; refine cS ?_) | refine cF ?_ | refine zaa (zb1 _ _) ?_ | refine zaa (zax _ _ _ _ rdA) ?_ | (refine zab (zg0 _ _ _ _ _ _ rdA rdA om) ?_; rintro _ Sn ⟨hEn, cn, rfl, hFn⟩) | refine rE fun hml => ?_)
       refine zag {i : Nat // i ≤ d.length ∧ (d.drop i).all (fun x => !(zd9 d x.Id e.Node && decide (zah (zdg d hidden e.By) x.Id < 0))) = d.all (fun x => !(zd9 d x.Id e.Node && decide (zah (zdg d hidden e.By) x.Id < 0)))} [6, 9, 44, 45, 46, 47, 48, 49, 50, 51, 52, 53, 54, 55, 56, 57, 58, 59, 60, 61] (fun zb => [(44, .v (.s (.int .i64 zb.1)))]) (fun _ => Sn) (fun zb => d.length - zb.1) ⟨0, Nat.zero_le _, hall⟩ okL rfl ?_
       rintro ⟨i, hi, hinv⟩; dsimp only
       by_cases hlt : i < d.length
       ·have hlt' : ((i : Nat) : Int).toNat < d.length := hlt
        have hinv : (!(zd9 d (d[((i : Nat) : Int).toNat]'hlt').Id e.Node && decide (zah (zdg d hidden e.By) (d[((i : Nat) : Int).toNat]'hlt').Id < 0)) && (d.drop (i + 1)).all (fun x => !(zd9 d x.Id e.Node && decide (zah (zdg d hidden e.By) x.Id < 0)))) = d.all (fun x => !(zd9 d x.Id e.Node && decide (zah (zdg d hidden e.By) x.Id < 0))) := (z2v hlt).symm.trans hinv
        cases hu : zd9 d (d[((i : Nat) : Int).toNat]'hlt').Id e.Node with
        | false =>
          rw [hu, Bool.false_and, Bool.not_false, Bool.true_and] at hinv
          repeat' ((conv => whnf) <;> first
           | rw [hu] | rw [zad (by omega)] | (show CondP _ _ _; refine cS ?_) | refine cF ?_ | refine zaa (zjl _ _ _ _ _ rdA) ?_ | refine rI rdA rf ix ?_ | refine zaf rdA tv ix ?_)
          all_goals first
           | (refine ⟨⟨i + 1, by omega, hinv⟩, ?_, rfl, by simp; omega⟩; (conv => whnf); repeat' (first | exact trivial | exact rfl | apply And.intro))
           | (exfalso; omega)
        | true =>
          rw [hu, Bool.true_and] at hinv
          by_cases q : zah (zdg d hidden e.By) (d[((i : Nat) : Int).toNat]'hlt').Id < 0
          ·rw [decide_eq_true q, Bool.not_true, Bool.false_and] at hinv
           rw [← hinv]
           have q' : ¬ 0 ≤ zah (zdg d hidden e.By) (d[((i : Nat) : Int).toNat]'hlt').Id := by omega
           repeat' ((conv => whnf) <;> first
            | rw [hu] | (show CondP _ _ _; refine cS ?_) | refine cT ?_ | refine zaa (zax _ _ _ _ rdA) ?_ | refine zaa (zjl _ _ _ _ _ rdA) ?_ | refine rI rdA rf ix ?_ | refine zaf rdA tv ix ?_ | refine And.intro ?_ ?_)
           all_goals first
            | rfl
            | assumption
            | (exfalso; omega)
          ·rw [decide_eq_false q, Bool.not_false, Bool.true_and] at hinv
           have q' : 0 ≤ zah (zdg d hidden e.By) (d[((i : Nat) : Int).toNat]'hlt').Id := by omega
           repeat' ((conv => whnf) <;> first
            | rw [hu] | rw [zad (by omega)] | (show CondP _ _ _; refine cS ?_) | refine cT ?_ | refine zaa (zax _ _ _ _ rdA) ?_ | refine zaa (zjl _ _ _ _ _ rdA) ?_ | refine rI rdA rf ix ?_ | refine zaf rdA tv ix ?_)
           all_goals first
            | (refine ⟨⟨i + 1, by omega, hinv⟩, ?_, rfl, by simp; omega⟩; (conv => whnf); repeat' (first | exact trivial | exact rfl | apply And.intro))
            | (exfalso; omega)
       ·rw [zak (by omega), List.all_nil] at hinv
        rw [← hinv]
        repeat' ((conv => whnf) <;> first
         | (show CondP _ _ _; refine cS ?_) | refine And.intro ?_ ?_)
        all_goals first
         | rfl
         | assumption
         | (exfalso; omega)
      ·rw [if_neg k2]
       refine zac tok Tryz.func204 (by kernel_rfl) rfl ?_
       repeat' ((conv => whnf) <;> first
        | (show CondP _ _ _; refine cS ?_) | refine cF ?_ | refine zaa (zb1 _ _) ?_ | refine zaa (zax _ _ _ _ rdA) ?_ | (refine zab (zg0 _ _ _ _ _ _ rdA rdA om) ?_; rintro _ Sn ⟨hEn, cn, rfl, hFn⟩) | refine And.intro ?_ ?_)
       skip
       all_goals first
        | rfl
        | assumption
        | (exfalso; omega)
end Go.Proofs.YtlmmdpmmdmhacaaGreat
