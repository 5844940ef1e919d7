/- What an edit does to a document; edits one after the other; a tab's document. -/
import Derived.Test.YtlmmdpmmdmhacaaGreatKt36
namespace Go.Proofs.YtlmmdpmmdmhacaaGreat
open Go Go.ChangeShapes Go.WideShapes Go.ChangeAt Go.RowKit
set_option linter.unusedVariables false
set_option linter.unusedSimpArgs false
set_option maxRecDepth 100000
def znx (n : Int) : List GNode → Nat
 | [] => 0
 | x :: r => if x.Id < n then 1 + znx n r else 0
theorem zqx (n : Int) : ∀ l : List GNode, znx n l ≤ l.length
 | [] => Nat.le_refl _
 | x :: r => by
   rw [znx]
   split
   ·have := zqx n r; rw [List.length_cons]; omega
   ·exact Nat.zero_le _
def zwm (e : GEdit) : GNode := ⟨e.Node, e.Parent, e.Tag, e.Text, e.By⟩
def zte (d : List GNode) (e : GEdit) : Bool := decide (zah d e.Node < 0) && decide (0 ≤ zah d e.Parent) && decide (e.Parent ≤ e.Node) && decide (d.length < 16)
def zne (d : List GNode) (e : GEdit) : List GNode × Bool := if zte d e then (d.take (znx e.Node d) ++ zwm e :: d.drop (znx e.Node d), true) else (d, false)
def zk2 (d : List GNode) (id : Int) : List GNode × Bool := if 0 ≤ zah d id then (d.filter (fun x => !zjg d x.Id id), true) else (d, false)
def ziz (d : List GNode) (e : GEdit) : List GNode × Bool := if 0 ≤ zah d e.Node then (d.set (zah d e.Node).toNat { d.getD (zah d e.Node).toNat default with Text := e.Text, By := e.By }, true) else (d, false)
def zul (d : List GNode) (e : GEdit) : Bool := decide (0 ≤ zah d e.Node) && decide (0 ≤ zah d e.Parent) && decide (e.Parent < e.Node)
def zhl (d : List GNode) (e : GEdit) : List GNode × Bool := if zul d e then (d.set (zah d e.Node).toNat { d.getD (zah d e.Node).toNat default with Parent := e.Parent, By := e.By }, true) else (d, false)
def zby (d : List GNode) (e : GEdit) : List GNode × Bool :=
 if zck d && zc4 e then (if e.Kind = 1 then zne d e else if e.Kind = 2 then zk2 d e.Node else if e.Kind = 3 then ziz d e else zhl d e) else (d, false)
theorem zrp (d : List GNode) (e : GEdit) : (zby d e).1.length ≤ max d.length 16 := by
 unfold zby zne zk2 ziz zhl
 have h1 := zqx e.Node d
 have h2 := List.length_filter_le (fun x => !zjg d x.Id e.Node) d
 split
 ·split
  ·split
   ·rename_i h
    simp only [zte, Bool.and_eq_true, decide_eq_true_eq] at h
    simp only [List.length_append, List.length_cons, List.length_take, List.length_drop]; omega
   ·exact Nat.le_max_left ..
  ·split
   ·split
    ·exact Nat.le_trans h2 (Nat.le_max_left ..)
    ·exact Nat.le_max_left ..
   ·split
    ·split
     ·rw [List.length_set]; exact Nat.le_max_left ..
     ·exact Nat.le_max_left ..
    ·split
     ·rw [List.length_set]; exact Nat.le_max_left ..
     ·exact Nat.le_max_left ..
 ·exact Nat.le_max_left ..
def zdh (d : List GNode) (l : List GEdit) : List GNode := l.foldl (fun d e => (zby d e).1) d
theorem zgl : ∀ (l : List GEdit) (d : List GNode), (zdh d l).length ≤ max d.length 16
 | [], d => Nat.le_max_left ..
 | e :: r, d => by
   have h1 := zgl r (zby d e).1
   have h2 := zrp d e
   show (zdh (zby d e).1 r).length ≤ _
   omega
theorem zr2 (d : List GNode) (l : List GEdit) (e : GEdit) : zdh d (l ++ [e]) = (zby (zdh d l) e).1 := by
 unfold zdh; rw [List.foldl_append]; rfl
theorem zpi (l : List GNode) (x : GNode) (i : Nat) (hi : i ≤ l.length) (hz : l.length ≤ 4194304) {S0 S1 : Store} (c : C) (hE : Ext S0 S1) (h : Fr S0.length S1 [.sl 5 (l.map GNode.d)] [c]) :
 EvA Tryz.prog 266 [.s c, .s (.int .i64 i), .s (.sl S1.length 0 1 1)] (S1 ++ [⟨true, 5, [x.c]⟩]) (fun r S' => Ext S0 S' ∧ ∃ c', r = .v (.s c') ∧ Fr S0.length S' [.sl 5 ((l.take i ++ x :: l.drop i).map GNode.d)] [c']) := by
 by_cases hlt : i < l.length
 ·refine (zu8.fr (S0 := S0) (S1 := S1) (S2 := S1) (xs := l.map GNode.d) (ds := x.d) (y := x.c) (i := i) (by decide) (by decide) zup hE h (Ext.refl _) (zv6 (by exact trivial)) hE.len rfl (by rw [List.length_map]; exact hlt) (by rw [List.length_map]; omega)).mono ?_
  rintro r S' ⟨h1, c', h2, h3⟩
  refine ⟨h1, c', h2, ?_⟩
  rw [List.map_append, List.map_cons, List.map_take, List.map_drop]; exact h3
 ·have he : i = l.length := by omega
  subst he
  have hv : Rd (S1 ++ [⟨true, 5, [x.c]⟩]) [.sl 5 ([x].map GNode.d)] [.sl S1.length 0 1 1] := (zv4 (f := GNode.d) [x] (fun _ => trivial) (by simp)).rd
  have hE' : Ext S0 (S1 ++ [⟨true, 5, [x.c]⟩]) := hE.trans (Ext.push _ _)
  have h' := h.ext (Ext.push S1 ⟨true, 5, [x.c]⟩)
  have hr' := h'.rd
  refine zac tok Tryz.func266 (by kernel_rfl) rfl ?_
  repeat' ((conv => whnf) <;> first
   | (show CondP _ _ _; refine cS ?_) | refine cD (fun _ => ?_) fun _ => ?_ | refine rE fun hml => ?_ | (refine zm2 hr' rf om ?_; intro cH hH) | (refine zaq (f := GNode.d) hv tv (fun _ => ?_)) | (refine zas (f := GNode.d) (m := [x]) tv hE' h' (by rfl) rf (by dsimp only [T139]; simp only [List.length_cons, List.length_nil]; omega) (by rw [zan]; simp only [List.length_cons, List.length_nil]; omega) ?_; intro cB SB hEB hFB hlB) | refine And.intro ?_ ?_)
  all_goals first
   | rfl
   | assumption
   | (refine ⟨_, rfl, ?_⟩; rw [List.take_length, List.drop_length]; exact hFB)
   | (exfalso; rename_i hh; simp at hh; done)
   | (exfalso; omega)
theorem z6s {e : GEdit} (h : zc4 e = true) : 1 ≤ e.Kind ∧ e.Kind ≤ 4 := by
 simp only [zc4, inR, Bool.and_eq_true, decide_eq_true_eq] at h; omega
set_option maxHeartbeats 2000000 in
theorem zg6 (d : List GNode) (e : GEdit) (c : C) (S : Store) (h : Rd S [.sl 5 (d.map GNode.d)] [c]) (hz : d.length ≤ 4194304) : EvA Tryz.prog 206 [.s c, .agg e.c] S (fun r S' => Ext S S' ∧ ∃ c', r = .tup [.s c', .s (.bool (zby d e).2)] ∧ Fr S.length S' [.sl 5 ((zby d e).1.map GNode.d)] [c']) := by
 by_cases hv : zck d = true ∧ zc4 e = true
 ·obtain ⟨hd, he⟩ := hv
  have hk := z6s he
  have hdl := (z1e hd).1
  rw [show zby d e = (if e.Kind = 1 then zne d e else if e.Kind = 2 then zk2 d e.Node else if e.Kind = 3 then ziz d e else zhl d e) from by unfold zby; rw [hd, he]; rfl]
  by_cases k1 : e.Kind = 1
  ·rw [if_pos k1]
   by_cases hm : zte d e = true
   ·rw [show zne d e = (d.take (znx e.Node d) ++ zwm e :: d.drop (znx e.Node d), true) from if_pos hm]
    simp only [zte, Bool.and_eq_true, decide_eq_true_eq] at hm
    obtain ⟨⟨⟨m1, m2⟩, m3⟩, m4⟩ := hm
    have hp := zqx e.Node d
    refine zac tok Tryz.func206 (by kernel_rfl) rfl ?_
    repeat' ((conv => whnf) <;> first
     | (show CondP _ _ _; refine cS ?_) | refine zaa (za3 _ _ _ rdA) ?_ | refine zaa (zb1 _ _) ?_ | (refine zab (zbq _ _ _ rdA om) ?_; rintro _ Sn ⟨hEn, cn, rfl, hFn⟩) | refine zaa (zax _ _ _ _ rdA) ?_ | refine rE fun hml => ?_)
    refine zag {i : Nat // i ≤ d.length ∧ i + znx e.Node (d.drop i) = znx e.Node d} [8, 53, 54, 55, 56, 57, 58, 59, 60, 61, 62, 63, 64, 65, 66, 67, 68] (fun zb => [(8, .v (.s (.int .i64 zb.1)))]) (fun _ => Sn) (fun zb => d.length - zb.1) ⟨0, Nat.zero_le _, by simp⟩ okL rfl ?_
    rintro ⟨i, hi, hinv⟩; dsimp only
    by_cases hlt : i < d.length
    ·rw [zam hlt, znx] at hinv
     have hlt' : ((i : Nat) : Int).toNat < d.length := by simpa using hlt
     by_cases hc : (d[((i : Nat) : Int).toNat]'hlt').Id < e.Node
     ·rw [if_pos (by simpa using hc)] at hinv
      repeat' ((conv => whnf) <;> first
       | rw [zad (by omega)] | (show CondP _ _ _; refine cS ?_) | refine rE fun hml => ?_ | refine rI rdA rf ix ?_ | refine zaf rdA tv ix ?_ | refine zae 53 (iN 14 0 []) (by rfl) (by kernel_rfl) ?_)
      all_goals first
       | (refine ⟨⟨i + 1, by omega, by omega⟩, ?_, rfl, by simp; omega⟩; (conv => whnf); repeat' (first | exact trivial | exact rfl | apply And.intro))
     ·rw [if_neg (by simpa using hc), Nat.add_zero] at hinv
      rw [← hinv]
      repeat' ((conv => whnf) <;> first
       | (refine zab (zpi d (zwm e) i om om cn hEn hFn) ?_; rintro _ SI ⟨hEI, cI, rfl, hFI⟩) | (show CondP _ _ _; refine cS ?_) | refine rE fun hml => ?_ | refine rI rdA rf ix ?_ | refine zaf rdA tv ix ?_ | refine zae 53 (iN 14 0 []) (by rfl) (by kernel_rfl) ?_ | refine And.intro ?_ ?_)
      all_goals first
       | assumption
       | exact ⟨_, rfl, hFI⟩
       | (exfalso; omega)
    ·have he2 : i = d.length := by omega
     subst he2
     rw [zak (Nat.le_refl _), znx, Nat.add_zero] at hinv
     rw [← hinv]
     repeat' ((conv => whnf) <;> first
      | (refine zab (zpi d (zwm e) d.length om om cn hEn hFn) ?_; rintro _ SI ⟨hEI, cI, rfl, hFI⟩) | (show CondP _ _ _; refine cS ?_) | refine cF ?_ | refine rE fun hml => ?_ | refine zae 53 (iN 14 0 []) (by rfl) (by kernel_rfl) ?_ | refine And.intro ?_ ?_)
     all_goals first
      | assumption
      | exact ⟨_, rfl, hFI⟩
      | (exfalso; omega)
   ·rw [show zne d e = (d, false) from if_neg hm]
    refine zac tok Tryz.func206 (by kernel_rfl) rfl ?_
    repeat' ((conv => whnf) <;> first
     | (show CondP _ _ _; refine cS ?_) | refine cD (fun _ => ?_) fun _ => ?_ | refine cT ?_ | refine zaa (za3 _ _ _ rdA) ?_ | refine zaa (zb1 _ _) ?_ | (refine zab (zbq _ _ _ rdA om) ?_; rintro _ Sn ⟨hEn, cn, rfl, hFn⟩) | refine zaa (zax _ _ _ _ rdA) ?_ | refine rE fun hml => ?_ | refine And.intro ?_ ?_)
    all_goals first
     | assumption
     | exact ⟨_, rfl, by assumption⟩
     | (exfalso; apply hm; simp only [zte, Bool.and_eq_true, decide_eq_true_eq]; omega)
  ·rw [if_neg k1]
   by_cases k2 : e.Kind = 2
   ·rw [if_pos k2]
    by_cases hn : 0 ≤ zah d e.Node
    ·rw [show zk2 d e.Node = (d.filter (fun x => !zjg d x.Id e.Node), true) from if_pos hn]
     refine zac tok Tryz.func206 (by kernel_rfl) rfl ?_
     repeat' ((conv => whnf) <;> first
      | (show CondP _ _ _; refine cS ?_) | refine zaa (za3 _ _ _ rdA) ?_ | refine zaa (zb1 _ _) ?_ | (refine zab (zbq _ _ _ rdA om) ?_; rintro _ Sn ⟨hEn, cn, rfl, hFn⟩) | refine zaa (zax _ _ _ _ rdA) ?_ | refine rE fun hml => ?_)
     refine zag {p : Nat × Store × C // p.1 ≤ d.length ∧ Ext Sn p.2.1 ∧ Fr Sn.length p.2.1 [.sl 5 (((d.take p.1).filter (fun x => !zjg d x.Id e.Node)).map GNode.d)] [p.2.2]} [9, 11, 92, 93, 94, 95, 96, 97, 98, 99, 100, 101, 102, 103, 104, 105, 106, 107] (fun zb => [(92, .v (.s (.int .i64 zb.1.1))), (9, .v (.s zb.1.2.2))]) (fun zb => zb.1.2.1) (fun zb => d.length - zb.1.1) ⟨(0, _, _), Nat.zero_le _, Ext.push _ _, zba⟩ okL rfl ?_
     rintro ⟨⟨i, Si, ci⟩, hi, hE, hF⟩; dsimp only
     replace hi : i ≤ d.length := hi
     replace hE : Ext Sn Si := hE
     replace hF : Fr Sn.length Si [.sl 5 (((d.take i).filter (fun x => !zjg d x.Id e.Node)).map GNode.d)] [ci] := hF
     have hfl := zb9 (fun x => !zjg d x.Id e.Node) d i
     have hdi := h.ext (hEn.trans hE)
     by_cases hlt : i < d.length
     ·have hlt' : ((i : Nat) : Int).toNat < d.length := by simpa using hlt
      cases ha : zjg d (d[((i : Nat) : Int).toNat]'hlt').Id e.Node with
      | true =>
        repeat' ((conv => whnf) <;> first
         | rw [zad (by omega)] | (show CondP _ _ _; refine cS ?_) | refine zaa (zqh _ _ _ _ _ rdA aN) ?_ | refine rI rdA rf ix ?_ | refine zaf rdA tv ix ?_ | rw [ha])
        all_goals first
         | (exfalso; omega)
         | (refine ⟨⟨(i + 1, _, _), by dsimp only; omega, by assumption, by rw [zc0 hlt (by simpa using ha)]; assumption⟩, ?_, rfl, by dsimp only; omega⟩; (conv => whnf); repeat' (first | exact trivial | exact rfl | apply And.intro))
      | false =>
        repeat' ((conv => whnf) <;> first
         | rw [zad (by omega)] | (show CondP _ _ _; refine cS ?_) | refine zaa (zqh _ _ _ _ _ rdA aN) ?_ | refine rI rdA rf ix ?_ | refine zaf rdA tv ix ?_ | rw [ha] | (refine zdc (f := GNode.d) aN aN tv (by rfl) rf (by dsimp only [T139]; omega) om ?_; intro cN SN hEN hFN))
        all_goals first
         | (exfalso; omega)
         | (refine ⟨⟨(i + 1, _, _), by dsimp only; omega, by assumption, by rw [zcz hlt (by simpa using ha)]; assumption⟩, ?_, rfl, by dsimp only; omega⟩; (conv => whnf); repeat' (first | exact trivial | exact rfl | apply And.intro))
     ·repeat' ((conv => whnf) <;> first
       | (show CondP _ _ _; refine cS ?_) | refine And.intro ?_ ?_)
      all_goals first
       | exact hEn.trans hE
       | (rw [List.take_of_length_le (by omega)] at hF; exact ⟨_, rfl, hF.mono hEn.len⟩)
       | (exfalso; omega)
    ·rw [show zk2 d e.Node = (d, false) from if_neg hn]
     refine zac tok Tryz.func206 (by kernel_rfl) rfl ?_
     repeat' ((conv => whnf) <;> first
      | (show CondP _ _ _; refine cS ?_) | refine zaa (za3 _ _ _ rdA) ?_ | refine zaa (zb1 _ _) ?_ | (refine zab (zbq _ _ _ rdA om) ?_; rintro _ Sn ⟨hEn, cn, rfl, hFn⟩) | refine zaa (zax _ _ _ _ rdA) ?_ | refine And.intro ?_ ?_)
     all_goals first
      | assumption
      | exact ⟨_, rfl, by assumption⟩
      | (exfalso; omega)
   ·rw [if_neg k2]
    by_cases k3 : e.Kind = 3
    ·rw [if_pos k3]
     by_cases hn : 0 ≤ zah d e.Node
     ·obtain ⟨hj, _⟩ := zh1 hn
      rw [show ziz d e = (d.set (zah d e.Node).toNat { (d[(zah d e.Node).toNat]'hj) with Text := e.Text, By := e.By }, true) from by unfold ziz; rw [if_pos hn, zea hj]]
      refine zac tok Tryz.func206 (by kernel_rfl) rfl ?_
      repeat' ((conv => whnf) <;> first
       | (show CondP _ _ _; refine cS ?_) | refine zaa (za3 _ _ _ rdA) ?_ | refine zaa (zb1 _ _) ?_ | (refine zab (zbq _ _ _ rdA om) ?_; rintro _ Sn ⟨hEn, cn, rfl, hFn⟩) | refine zaa (zax _ _ _ _ rdA) ?_ | refine rI rdA rf ix ?_ | refine zae 114 [.fl 0, .fl 1, .fl 2, .fl 3, .fl 4, .fl 5, .fl 6, .fl 7, .fl 8, .fl 9, .st 10 [2, 3, 6, 7], .fl 11, .fl 12, .st 13 []] (by rfl) (by kernel_rfl) ?_ | refine zae 144 [.fl 0, .fl 1, .fl 2, .fl 3, .fl 4, .fl 5, .fl 6, .fl 7, .fl 8, .fl 9, .st 10 [2, 3, 6, 7], .fl 11, .fl 12, .st 13 []] (by rfl) (by kernel_rfl) ?_ | (refine zin (l := d) (i := zah d e.Node) (d[(zah d e.Node).toNat]'hj) ({ (d[(zah d e.Node).toNat]'hj) with Text := e.Text } : GNode) [.x (.int .i64 (d[(zah d e.Node).toNat]'hj).Id), .x (.int .i64 (d[(zah d e.Node).toNat]'hj).Parent), .x (.int .i64 (d[(zah d e.Node).toNat]'hj).Tag)] [.x (.int .i64 (d[(zah d e.Node).toNat]'hj).By)] (.int .i64 (d[(zah d e.Node).toNat]'hj).Text) aN aN om (List.getElem?_eq_getElem hj) rfl rfl rfl ?_; intro SN hEN hFN; have hrN := hFN.rd; have hls : (d.set (zah d e.Node).toNat ({ (d[(zah d e.Node).toNat]'hj) with Text := e.Text } : GNode)).length = d.length := List.length_set) | (refine zin (l := d.set (zah d e.Node).toNat ({ (d[(zah d e.Node).toNat]'hj) with Text := e.Text } : GNode)) (i := zah d e.Node) ({ (d[(zah d e.Node).toNat]'hj) with Text := e.Text } : GNode) ({ (d[(zah d e.Node).toNat]'hj) with Text := e.Text, By := e.By } : GNode) [.x (.int .i64 (d[(zah d e.Node).toNat]'hj).Id), .x (.int .i64 (d[(zah d e.Node).toNat]'hj).Parent), .x (.int .i64 (d[(zah d e.Node).toNat]'hj).Tag), .x (.int .i64 e.Text)] [] (.int .i64 (d[(zah d e.Node).toNat]'hj).By) aN aN om (List.getElem?_set_self hj) rfl rfl rfl ?_; intro SM hEM hFM) | refine And.intro ?_ ?_)
      all_goals first
       | assumption
       | (rw [List.set_set] at hFM; exact ⟨_, rfl, hFM⟩)
       | (exfalso; omega)
     ·rw [show ziz d e = (d, false) from if_neg hn]
      refine zac tok Tryz.func206 (by kernel_rfl) rfl ?_
      repeat' ((conv => whnf) <;> first
       | (show CondP _ _ _; refine cS ?_) | refine zaa (za3 _ _ _ rdA) ?_ | refine zaa (zb1 _ _) ?_ | (refine zab (zbq _ _ _ rdA om) ?_; rintro _ Sn ⟨hEn, cn, rfl, hFn⟩) | refine zaa (zax _ _ _ _ rdA) ?_ | refine And.intro ?_ ?_)
      all_goals first
       | assumption
       | exact ⟨_, rfl, by assumption⟩
       | (exfalso; omega)
    ·rw [if_neg k3]
     by_cases hm : 0 ≤ zah d e.Node ∧ 0 ≤ zah d e.Parent ∧ e.Parent < e.Node
     ·obtain ⟨hn, m2, m3⟩ := hm
      obtain ⟨hj, _⟩ := zh1 hn
      rw [show zhl d e = (d.set (zah d e.Node).toNat { (d[(zah d e.Node).toNat]'hj) with Parent := e.Parent, By := e.By }, true) from by unfold zhl zul; rw [decide_eq_true hn, decide_eq_true m2, decide_eq_true m3, zea hj]; rfl]
      refine zac tok Tryz.func206 (by kernel_rfl) rfl ?_
      repeat' ((conv => whnf) <;> first
       | (show CondP _ _ _; refine cS ?_) | refine zaa (za3 _ _ _ rdA) ?_ | refine zaa (zb1 _ _) ?_ | (refine zab (zbq _ _ _ rdA om) ?_; rintro _ Sn ⟨hEn, cn, rfl, hFn⟩) | refine zaa (zax _ _ _ _ rdA) ?_ | refine rI rdA rf ix ?_ | refine zae 114 [.fl 0, .fl 1, .fl 2, .fl 3, .fl 4, .fl 5, .fl 6, .fl 7, .fl 8, .fl 9, .st 10 [2, 3, 6, 7], .fl 11, .fl 12, .st 13 []] (by rfl) (by kernel_rfl) ?_ | refine zae 144 [.fl 0, .fl 1, .fl 2, .fl 3, .fl 4, .fl 5, .fl 6, .fl 7, .fl 8, .fl 9, .st 10 [2, 3, 6, 7], .fl 11, .fl 12, .st 13 []] (by rfl) (by kernel_rfl) ?_ | (refine zin (l := d) (i := zah d e.Node) (d[(zah d e.Node).toNat]'hj) ({ (d[(zah d e.Node).toNat]'hj) with Parent := e.Parent } : GNode) [.x (.int .i64 (d[(zah d e.Node).toNat]'hj).Id)] [.x (.int .i64 (d[(zah d e.Node).toNat]'hj).Tag), .x (.int .i64 (d[(zah d e.Node).toNat]'hj).Text), .x (.int .i64 (d[(zah d e.Node).toNat]'hj).By)] (.int .i64 (d[(zah d e.Node).toNat]'hj).Parent) aN aN om (List.getElem?_eq_getElem hj) rfl rfl rfl ?_; intro SN hEN hFN; have hrN := hFN.rd; have hls : (d.set (zah d e.Node).toNat ({ (d[(zah d e.Node).toNat]'hj) with Parent := e.Parent } : GNode)).length = d.length := List.length_set) | (refine zin (l := d.set (zah d e.Node).toNat ({ (d[(zah d e.Node).toNat]'hj) with Parent := e.Parent } : GNode)) (i := zah d e.Node) ({ (d[(zah d e.Node).toNat]'hj) with Parent := e.Parent } : GNode) ({ (d[(zah d e.Node).toNat]'hj) with Parent := e.Parent, By := e.By } : GNode) [.x (.int .i64 (d[(zah d e.Node).toNat]'hj).Id), .x (.int .i64 e.Parent), .x (.int .i64 (d[(zah d e.Node).toNat]'hj).Tag), .x (.int .i64 (d[(zah d e.Node).toNat]'hj).Text)] [] (.int .i64 (d[(zah d e.Node).toNat]'hj).By) aN aN om (List.getElem?_set_self hj) rfl rfl rfl ?_; intro SM hEM hFM) | refine And.intro ?_ ?_)
      all_goals first
       | assumption
       | (rw [List.set_set] at hFM; exact ⟨_, rfl, hFM⟩)
       | (exfalso; omega)
     ·rw [show zhl d e = (d, false) from by
       unfold zhl
       rw [if_neg]
       unfold zul; simp only [Bool.and_eq_true, decide_eq_true_eq]; omega]
      refine zac tok Tryz.func206 (by kernel_rfl) rfl ?_
      repeat' ((conv => whnf) <;> first
       | (show CondP _ _ _; refine cS ?_) | refine cD (fun _ => ?_) fun _ => ?_ | refine cT ?_ | refine zaa (za3 _ _ _ rdA) ?_ | refine zaa (zb1 _ _) ?_ | (refine zab (zbq _ _ _ rdA om) ?_; rintro _ Sn ⟨hEn, cn, rfl, hFn⟩) | refine zaa (zax _ _ _ _ rdA) ?_ | refine And.intro ?_ ?_)
      all_goals first
       | assumption
       | exact ⟨_, rfl, by assumption⟩
       | (exfalso; omega)
 ·rw [show zby d e = (d, false) from by
   unfold zby
   rw [if_neg]
   simpa only [Bool.and_eq_true] using hv]
  cases hd : zck d <;> cases he : zc4 e
  case true.true => exact absurd ⟨hd, he⟩ hv
  all_goals
   refine zac tok Tryz.func206 (by kernel_rfl) rfl ?_
   repeat' ((conv => whnf) <;> first
    | (show CondP _ _ _; refine cS ?_) | refine cT ?_ | refine zaa (za3 _ _ _ rdA) ?_ | refine zaa (zb1 _ _) ?_ | (refine zab (zbq _ _ _ rdA om) ?_; rintro _ Sn ⟨hEn, cn, rfl, hFn⟩) | refine And.intro ?_ ?_)
  all_goals first
   | assumption
   | exact ⟨_, rfl, by assumption⟩
   | (exfalso; simp_all; done)
theorem zim (d : List GNode) (l : List GEdit) (c c2 : C) (S : Store) (h : Rd S [.sl 5 (d.map GNode.d)] [c]) (h2 : Rd S [.sl 6 (l.map GEdit.d)] [c2]) (hz : d.length ≤ 4194304) (hz2 : l.length ≤ 4194304) : EvA Tryz.prog 124 [.s c, .s c2] S (fun r S' => Ext S S' ∧ ∃ c', r = .v (.s c') ∧ Fr S.length S' [.sl 5 ((zdh d l).map GNode.d)] [c']) := by
 refine zac tok Tryz.func124 (by kernel_rfl) rfl ?_
 repeat' ((conv => whnf) <;> first
  | (refine zab (zbq _ _ _ rdA om) ?_; rintro _ Sn ⟨hEn, cn, rfl, hFn⟩) | refine rE fun hml => ?_)
 refine zag {p : Nat × Store × C // p.1 ≤ l.length ∧ Ext S p.2.1 ∧ Fr S.length p.2.1 [.sl 5 ((zdh d (l.take p.1)).map GNode.d)] [p.2.2]} [5, 7, 12, 13, 14, 15, 16, 17, 18, 19, 20, 21, 22] (fun zb => [(12, .v (.s (.int .i64 zb.1.1))), (5, .v (.s zb.1.2.2))]) (fun zb => zb.1.2.1) (fun zb => l.length - zb.1.1) ⟨(0, _, _), Nat.zero_le _, hEn, hFn⟩ okL rfl ?_
 rintro ⟨⟨i, Si, ci⟩, hi, hE, hF⟩; dsimp only
 replace hi : i ≤ l.length := hi
 replace hE : Ext S Si := hE
 replace hF : Fr S.length Si [.sl 5 ((zdh d (l.take i)).map GNode.d)] [ci] := hF
 have hlen := zgl (l.take i) d
 have h2i := h2.ext hE
 have hFr := hF.rd
 by_cases hlt : i < l.length
 ·have hlt' : ((i : Nat) : Int).toNat < l.length := by simpa using hlt
  repeat' ((conv => whnf) <;> first
   | (refine zab (zg6 (zdh d (l.take i)) (l[((i : Nat) : Int).toNat]'hlt') _ _ hFr om) ?_; rintro _ SA ⟨hEA, cA, rfl, hFA⟩) | rw [zad (by omega)] | (show CondP _ _ _; refine cS ?_) | refine rI rdA rf ix ?_ | refine zaf rdA tv ix ?_)
  all_goals first
   | (exfalso; omega)
   | (refine ⟨⟨(i + 1, _, _), by dsimp only; omega, hE.trans hEA, by rw [List.take_succ_eq_append_getElem hlt, zr2]; exact hFA.mono hE.len⟩, ?_, rfl, by dsimp only; omega⟩; (conv => whnf); repeat' (first | exact trivial | exact rfl | apply And.intro))
 ·repeat' ((conv => whnf) <;> first
   | (show CondP _ _ _; refine cS ?_) | refine And.intro ?_ ?_)
  all_goals first
   | exact hE
   | (rw [List.take_of_length_le (by omega)] at hF; exact ⟨_, rfl, hF⟩)
   | (exfalso; omega)
theorem zdr (t : GTab) (cs : List C) (S : Store) (h : Rd S t.d cs) (hz : szL t.d ≤ 4194304) : EvA Tryz.prog 52 [.agg cs] S (fun r S' => Ext S S' ∧ ∃ c', r = .v (.s c') ∧ Fr S.length S' [.sl 5 ((zdh t.Base t.Edits).map GNode.d)] [c']) := by
 have hzs := hz
 simp only [GTab.d, szL, List.length_map] at hzs
 obtain ⟨_, _, _, rfl, _, _, _⟩ := GTab.inv h
 refine zac tok Tryz.func52 (by kernel_rfl) rfl ?_
 repeat' ((conv => whnf) <;> first
  | (refine zab (zim _ _ _ _ _ rdA rdA om om) ?_; rintro _ Sn ⟨hEn, cn, rfl, hFn⟩) | refine And.intro ?_ ?_)
 all_goals first
  | assumption
  | exact ⟨_, rfl, by assumption⟩
end Go.Proofs.YtlmmdpmmdmhacaaGreat
