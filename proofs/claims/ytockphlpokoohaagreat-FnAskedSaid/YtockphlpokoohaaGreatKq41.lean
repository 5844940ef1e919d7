/- The review of packages. -/
import Derived.Test.YtockphlpokoohaaGreatKq40
import Derived.Test.YtockphlpokoohaaGreatKq34
import Derived.Test.YtockphlpokoohaaGreatKq38
import Derived.Test.YtockphlpokoohaaGreatKq29
import Derived.Test.YtockphlpokoohaaGreatKq24
import Derived.Test.YtockphlpokoohaaGreatShelf
namespace Go.Proofs.YtockphlpokoohaaGreat
open Go Go.ChangeShapes Go.WideShapes Go.ChangeAt Go.RowKit
set_option linter.unusedVariables false
set_option linter.unusedSimpArgs false
set_option maxRecDepth 100000
def addF (ext to : Int) (out : List GFlow) (o : Int) : List GFlow := if o = to ∨ (⟨ext, o, to⟩ : GFlow) ∈ out then out else out ++ [⟨ext, o, to⟩]
def addFs (ext : Int) (out : List GFlow) (s : GSent) : List GFlow := (ownersIn s.Label).foldl (addF ext s.To) out
def needs (l : List GOp) (ext : Int) : List GFlow := if areOps l then (mach [] l).1.foldl (addFs ext) [] else []
theorem addF_len (ext to : Int) (out : List GFlow) (o : Int) : (addF ext to out o).length ≤ out.length + 1 := by
  unfold addF; split
  · omega
  · simp
theorem foldF_len (ext to : Int) : ∀ (x : List Int) (out : List GFlow), (x.foldl (addF ext to) out).length ≤ out.length + x.length
  | [], out => Nat.le_refl _
  | o :: x, out => by
    have h1 := foldF_len ext to x (addF ext to out o)
    have h2 := addF_len ext to out o
    rw [List.foldl_cons, List.length_cons]; omega
theorem foldFs_len (ext : Int) : ∀ (x : List GSent) (out : List GFlow), (x.foldl (addFs ext) out).length ≤ out.length + 9 * x.length
  | [], out => Nat.le_refl _
  | s :: x, out => by
    have h1 := foldFs_len ext x (addFs ext out s)
    have h2 := foldF_len ext s.To (ownersIn s.Label) out
    have h3 := ownersIn_len s.Label
    rw [List.foldl_cons, List.length_cons]
    have h4 : (addFs ext out s).length ≤ out.length + (ownersIn s.Label).length := h2
    omega
theorem foldl_take {α β : Type} (f : β → α → β) (a : β) {l : List α} {i : Nat} (h : i < l.length) : (l.take (i + 1)).foldl f a = f ((l.take i).foldl f a) l[i] := by
  rw [List.take_succ_eq_append_getElem h, List.foldl_append]; rfl
theorem addFs_none {ext : Int} {out : List GFlow} {x : GOp} {v b : List Int} (h : ¬ x.Kind = 5) : (opS x v b).foldl (addFs ext) out = out := by unfold opS; rw [if_neg h]; rfl
theorem addFs_one {ext : Int} {out : List GFlow} {x : GOp} {v b : List Int} (h : x.Kind = 5) : (opS x v b).foldl (addFs ext) out = (ownersIn (sentOf x v b).Label).foldl (addF ext (sentOf x v b).To) out := by unfold opS; rw [if_pos h]; rfl
set_option maxHeartbeats 4000000 in
theorem ev_sNeeds (l : List GOp) (ext : Int) (c : C) (S : Store) (h : Rd S [.sl 4 (l.map GOp.d)] [c]) : EvA Tryz.prog 244 [.s c, .s (.int .i64 ext)] S (fun r S' => Ext S S' ∧ ∃ d, r = .v (.s d) ∧ Fr S.length S' [.sl 3 ((needs l ext).map GFlow.d)] [d]) := by
  refine evA_intro tok Tryz.func244 (by kernel_rfl) rfl ?_
  skip
  (conv => whnf)
  refine callP_intro (ev_l21Zeros _) ?_; rintro _ S1 ⟨e1, cv, rfl, f1⟩
  skip
  (conv => whnf)
  refine callP_intro (ev_l21Zeros _) ?_; rintro _ S2 ⟨e2, cb, rfl, f2⟩
  have f0 : Fr S.length S2 [.sl 3 [], .sl 1 (zeros6.map dInt), .sl 1 (zeros6.map dInt)] [.sl S.length 0 0 0, cv, cb] := ((fr_lit0 (S := S) (k := 3)).join e1 f1 (Ext.push S _).len).join e2 f2 ((Ext.push S _).trans e1).len
  have E2 : Ext S S2 := ((Ext.push _ _).trans e1).trans e2
  clear f1 f2
  rcases ho : areOps l with _ | _
  · rw [show needs l ext = [] from by unfold needs; rw [ho]; rfl]
    skip
    (conv => whnf)
    refine loop_intro Unit [5, 8, 9, 10, 11, 12, 13, 17, 18, 19, 20, 21, 22, 23, 24, 25, 26, 27, 28, 29, 30, 31, 32, 33, 34, 35, 36, 37, 38, 39, 40, 41, 42, 43, 44, 45, 46, 47, 48, 49, 50, 51, 52, 53, 54, 55, 56, 57, 58, 59, 60, 61, 62, 63, 64, 65, 66, 67, 68, 69, 70, 71, 72, 73, 74] (fun _ => [(8, .v (.s (.int .i64 0))), (5, .v (.s (.sl S.length 0 0 0)))]) (fun _ => S2) (fun _ => 0) () ?_ rfl ?_
    · (conv => whnf); repeat' (first | exact trivial | exact rfl | apply And.intro)
    intro _; dsimp only
    repeat' ((conv => whnf) <;> first
     | (show CondP _ _ _; refine cS ?_) | refine cD (fun _ => ?_) fun _ => ?_ | refine cF ?_ | refine callP_eq (ev_sAreOps _ _ _ rdA) ?_ | refine rE fun hml => ?_ | refine And.intro ?_ ?_)
    all_goals first
      | exact E2
      | exact ⟨_, rfl, Fr.left (ds := [_]) (cs := [_]) f0 rfl⟩
      | (exfalso; omega)
      | (exfalso; simp_all; done)
  · rw [show needs l ext = (mach [] l).1.foldl (addFs ext) [] from by unfold needs; rw [ho]; rfl]
    obtain ⟨hall, hl16⟩ := ops_all ho
    skip
    (conv => whnf)
    refine loop_intro {p : Nat × Store × C // p.1 ≤ l.length ∧ Ext S p.2.1 ∧ Fr S.length p.2.1 [.sl 3 (((mach [] (l.take p.1)).1.foldl (addFs ext) []).map GFlow.d), .sl 1 ((mach [] (l.take p.1)).2.1.map dInt), .sl 1 ((mach [] (l.take p.1)).2.2.map dInt)] [p.2.2, cv, cb]} [5, 8, 9, 10, 11, 12, 13, 17, 18, 19, 20, 21, 22, 23, 24, 25, 26, 27, 28, 29, 30, 31, 32, 33, 34, 35, 36, 37, 38, 39, 40, 41, 42, 43, 44, 45, 46, 47, 48, 49, 50, 51, 52, 53, 54, 55, 56, 57, 58, 59, 60, 61, 62, 63, 64, 65, 66, 67, 68, 69, 70, 71, 72, 73, 74] (fun zb => [(8, .v (.s (.int .i64 zb.1.1))), (5, .v (.s zb.1.2.2))]) (fun zb => zb.1.2.1) (fun zb => l.length - zb.1.1) ⟨(0, _, _), Nat.zero_le _, E2, f0⟩ ?_ rfl ?_
    · (conv => whnf); repeat' (first | exact trivial | exact rfl | apply And.intro)
    rintro ⟨⟨i, Si, ci⟩, hi, hE, hF⟩; dsimp only
    replace hi : i ≤ l.length := hi
    replace hE : Ext S Si := hE
    replace hF : Fr S.length Si [.sl 3 (((mach [] (l.take i)).1.foldl (addFs ext) []).map GFlow.d), .sl 1 ((mach [] (l.take i)).2.1.map dInt), .sl 1 ((mach [] (l.take i)).2.2.map dInt)] [ci, cv, cb] := hF
    obtain ⟨g, gl⟩ := mach_good (values := []) hall i hi
    clear E2 f0 e1 e2
    by_cases hlt : i < l.length
    · have hmt := mach_take (values := []) hlt
      rcases hM : mach [] (l.take i) with ⟨se, v, b⟩
      rw [hM] at hF g gl hmt
      dsimp only at hF g gl
      have hol := foldFs_len ext se []
      rw [List.length_nil] at hol
      have hX : isOp (l[((i : Nat) : Int).toNat]'hlt) = true := hall _ (List.getElem_mem _)
      have hmt2 : mach [] (l.take (i + 1)) = (se ++ opS (l[((i : Nat) : Int).toNat]'hlt) v b, opV [] (l[((i : Nat) : Int).toNat]'hlt) v, opL (l[((i : Nat) : Int).toNat]'hlt) b) := hmt
      repeat' ((conv => whnf) <;> first
       | (show CondP _ _ _; refine cS ?_) | refine callP_eq (ev_sAreOps _ _ _ rdA) ?_ | refine rE fun hml => ?_ | refine rI rdA rf ix ?_ | refine rd_loadf rdA tv ix ?_)
      all_goals try (exfalso; omega)
      (conv => whnf)
      refine callP_intro (ev_l21Step (l[((i : Nat) : Int).toNat]'hlt) [] v b _ _ (.sl Si.length 0 0 0) _ _ _ _ (hE.trans (Ext.push _ _)) (hF.ext (Ext.push _ _)) fr_lit0.rd hX g) ?_; rintro _ S5 ⟨e5, f5, rfl⟩
      skip
      (conv => whnf)
      refine callP_intro (ev_sOwnersIn (sentOf (l[((i : Nat) : Int).toNat]'hlt) v b).Label _) ?_; rintro _ S6 ⟨e6, cy, rfl, f6⟩
      have f7 := f5.join e6 f6 e5.len
      have E7 := e5.trans e6
      clear f6 f5
      by_cases hk : (l[((i : Nat) : Int).toNat]'hlt).Kind = 5
      · have hd : decide ((l[((i : Nat) : Int).toNat]'hlt).Kind = 5) = true := decide_eq_true hk
        rw [hd]
        have hst : (se ++ opS (l[((i : Nat) : Int).toNat]'hlt) v b).foldl (addFs ext) [] = (ownersIn (sentOf (l[((i : Nat) : Int).toNat]'hlt) v b).Label).foldl (addF ext (sentOf (l[((i : Nat) : Int).toNat]'hlt) v b).To) (se.foldl (addFs ext) []) := by rw [List.foldl_append, addFs_one hk]
        have hyl := ownersIn_len (sentOf (l[((i : Nat) : Int).toNat]'hlt) v b).Label
        generalize sentOf (l[((i : Nat) : Int).toNat]'hlt) v b = sn at *
        generalize se.foldl (addFs ext) [] = o0 at *
        generalize ownersIn sn.Label = y at *
        generalize opV [] (l[((i : Nat) : Int).toNat]'hlt) v = v' at *
        generalize opL (l[((i : Nat) : Int).toNat]'hlt) b = b' at *
        have r3 := f7.rdAt (o := 3) (d := .sl 1 (y.map dInt)) rfl rfl
        skip
        (conv => whnf)
        refine loop_intro {p : Nat × Store × C // p.1 ≤ y.length ∧ Ext S p.2.1 ∧ Fr S.length p.2.1 [.sl 3 (((y.take p.1).foldl (addF ext sn.To) o0).map GFlow.d), .sl 1 (v'.map dInt), .sl 1 (b'.map dInt), .sl 1 (y.map dInt)] [p.2.2, cv, cb, cy]} [5, 12, 13, 41, 42, 43, 44, 45, 46, 47, 48, 49, 50, 51, 52, 53, 54, 55, 56, 57, 58, 59, 60, 61, 62, 63, 64, 65, 66, 67, 68, 69, 70, 71, 72, 73, 74] (fun zb => [(12, .v (.s (.int .i64 zb.1.1))), (5, .v (.s zb.1.2.2))]) (fun zb => zb.1.2.1) (fun zb => y.length - zb.1.1) ⟨(0, _, _), Nat.zero_le _, E7, f7⟩ ?_ rfl ?_
        · (conv => whnf); repeat' (first | exact trivial | exact rfl | apply And.intro)
        rintro ⟨⟨j, Sj, cj⟩, hj, hEj, hFj⟩; dsimp only
        replace hj : j ≤ y.length := hj
        replace hEj : Ext S Sj := hEj
        replace hFj : Fr S.length Sj [.sl 3 (((y.take j).foldl (addF ext sn.To) o0).map GFlow.d), .sl 1 (v'.map dInt), .sl 1 (b'.map dInt), .sl 1 (y.map dInt)] [cj, cv, cb, cy] := hFj
        have r4 := hFj.rdAt (o := 3) (d := .sl 1 (y.map dInt)) rfl rfl
        have r5 := hFj.rdAt (o := 0) rfl rfl
        have hpl := foldF_len ext sn.To (y.take j) o0
        rw [List.length_take] at hpl
        clear r3 f7 E7 e5 e6
        by_cases hjl : j < y.length
        · have hjs := foldl_take (addF ext sn.To) o0 hjl
          generalize (y.take j).foldl (addF ext sn.To) o0 = o1 at *
          by_cases h1 : (y[((j : Nat) : Int).toNat]'hjl) = sn.To
          · have hp : (y.take (j + 1)).foldl (addF ext sn.To) o0 = o1 := hjs.trans (if_pos (.inl h1))
            repeat' ((conv => whnf) <;> first
             | rw [wrapI_i64 (by omega)] | (show CondP _ _ _; refine cS ?_) | refine cT ?_ | refine cF ?_ | refine rE fun hml => ?_ | refine rI rdA rf ix ?_ | refine rd_loadf rdA tv ix ?_ | refine draw_intro 50 [.fl 0, .fl 1, .fl 2, .fl 3, .fl 4, .fl 5, .fl 6, .fl 7, .fl 8, .st 9 []] (by rfl) (by kernel_rfl) ?_ | refine draw_intro 58 [.fl 0, .fl 1, .fl 2, .fl 3, .fl 4, .fl 5, .fl 6, .fl 7, .fl 8, .fl 9, .st 10 [], .fl 11, .fl 12] (by rfl) (by kernel_rfl) ?_)
            all_goals first
              | (exfalso; omega)
              | (refine ⟨⟨(j + 1, _, _), by dsimp only; omega, hEj, by rw [hp]; exact hFj⟩, ?_, rfl, by dsimp only; omega⟩; (conv => whnf); repeat' (first | exact trivial | exact rfl | (show _ = _; congr 3; dsimp only; omega) | apply And.intro))
          · by_cases h2 : (⟨ext, y[((j : Nat) : Int).toNat]'hjl, sn.To⟩ : GFlow) ∈ o1
            · have hp : (y.take (j + 1)).foldl (addF ext sn.To) o0 = o1 := hjs.trans (if_pos (.inr h2))
              have h2d : decide ((⟨ext, y[((j : Nat) : Int).toNat]'hjl, sn.To⟩ : GFlow) ∈ o1) = true := decide_eq_true h2
              repeat' ((conv => whnf) <;> first
               | (refine callP_eq (ev_l20Has o1 ⟨ext, y[((j : Nat) : Int).toNat]'hjl, sn.To⟩ _ _ r5) ?_) | rw [wrapI_i64 (by omega)] | (show CondP _ _ _; refine cS ?_) | refine cT ?_ | refine rE fun hml => ?_ | refine rI rdA rf ix ?_ | refine rd_loadf rdA tv ix ?_ | refine draw_intro 50 [.fl 0, .fl 1, .fl 2, .fl 3, .fl 4, .fl 5, .fl 6, .fl 7, .fl 8, .st 9 []] (by rfl) (by kernel_rfl) ?_ | refine draw_intro 58 [.fl 0, .fl 1, .fl 2, .fl 3, .fl 4, .fl 5, .fl 6, .fl 7, .fl 8, .fl 9, .st 10 [], .fl 11, .fl 12] (by rfl) (by kernel_rfl) ?_)
              all_goals first
                | (exfalso; omega)
                | (refine ⟨⟨(j + 1, _, _), by dsimp only; omega, hEj, by rw [hp]; exact hFj⟩, ?_, rfl, by dsimp only; omega⟩; (conv => whnf); repeat' (first | exact trivial | exact rfl | (show _ = _; congr 3; dsimp only; omega) | apply And.intro))
            · have hp : (y.take (j + 1)).foldl (addF ext sn.To) o0 = o1 ++ [⟨ext, y[((j : Nat) : Int).toNat]'hjl, sn.To⟩] := hjs.trans (if_neg (fun hh => hh.elim h1 h2))
              have h2d : decide ((⟨ext, y[((j : Nat) : Int).toNat]'hjl, sn.To⟩ : GFlow) ∈ o1) = false := decide_eq_false h2
              repeat' ((conv => whnf) <;> first
               | (refine callP_eq (ev_l20Has o1 ⟨ext, y[((j : Nat) : Int).toNat]'hjl, sn.To⟩ _ _ r5) ?_) | rw [wrapI_i64 (by omega)] | (show CondP _ _ _; refine cS ?_) | refine cT ?_ | refine rE fun hml => ?_ | refine rI rdA rf ix ?_ | refine rd_loadf rdA tv ix ?_ | refine draw_intro 50 [.fl 0, .fl 1, .fl 2, .fl 3, .fl 4, .fl 5, .fl 6, .fl 7, .fl 8, .st 9 []] (by rfl) (by kernel_rfl) ?_ | refine draw_intro 58 [.fl 0, .fl 1, .fl 2, .fl 3, .fl 4, .fl 5, .fl 6, .fl 7, .fl 8, .fl 9, .st 10 [], .fl 11, .fl 12] (by rfl) (by kernel_rfl) ?_ | (refine fr_appAtF (f := GFlow.d) (o := 0) (l := o1) (m := [⟨ext, y[((j : Nat) : Int).toNat]'hjl, sn.To⟩]) (fun _ => trivial) hEj hFj rfl rfl (by rfl) rf (by dsimp only [T188]; simp only [List.length_cons, List.length_nil]; omega) (by simp only [List.length_cons, List.length_nil]; omega) ?_; intro cN SN hEN hFN hlN))
              all_goals first
                | (exfalso; omega)
                | (refine ⟨⟨(j + 1, _, _), by dsimp only; omega, by assumption, by rw [hp]; exact hFN⟩, ?_, rfl, by dsimp only; omega⟩; (conv => whnf); repeat' (first | exact trivial | exact rfl | (show _ = _; congr 3; dsimp only; omega) | apply And.intro))
        · rw [List.take_of_length_le (by omega), ← hst] at hFj
          repeat' ((conv => whnf) <;> first
           | rw [wrapI_i64 (by omega)] | (show CondP _ _ _; refine cS ?_) | refine cF ?_ | refine rE fun hml => ?_)
          all_goals first
            | (exfalso; omega)
            | (refine ⟨⟨(i + 1, _, _), by dsimp only; omega, hEj, by rw [hmt2]; exact Fr.left (ds := [_, _, _]) (cs := [_, _, _]) hFj rfl⟩, ?_, rfl, by dsimp only; omega⟩; (conv => whnf); repeat' (first | exact trivial | exact rfl | (show _ = _; congr 3; dsimp only; omega) | apply And.intro))
      · have hd : decide ((l[((i : Nat) : Int).toNat]'hlt).Kind = 5) = false := decide_eq_false hk
        rw [hd]
        have hst : (se ++ opS (l[((i : Nat) : Int).toNat]'hlt) v b).foldl (addFs ext) [] = se.foldl (addFs ext) [] := by rw [List.foldl_append, addFs_none hk]
        have r3 := f7.rdAt (o := 3) rfl rfl
        skip
        (conv => whnf)
        refine loop_intro Unit [5, 12, 13, 41, 42, 43, 44, 45, 46, 47, 48, 49, 50, 51, 52, 53, 54, 55, 56, 57, 58, 59, 60, 61, 62, 63, 64, 65, 66, 67, 68, 69, 70, 71, 72, 73, 74] (fun _ => [(12, .v (.s (.int .i64 0))), (5, .v (.s ci))]) (fun _ => S6) (fun _ => 0) () ?_ rfl ?_
        · (conv => whnf); repeat' (first | exact trivial | exact rfl | apply And.intro)
        intro _; dsimp only
        repeat' ((conv => whnf) <;> first
         | rw [wrapI_i64 (by omega)] | refine cD (fun _ => ?_) fun _ => ?_ | refine cF ?_ | refine rE fun hml => ?_)
        all_goals first
          | (exfalso; omega)
          | (refine ⟨⟨(i + 1, _, _), by dsimp only; omega, E7, by rw [hmt2]; dsimp only; rw [hst]; exact Fr.left (ds := [_, _, _]) (cs := [_, _, _]) f7 rfl⟩, ?_, rfl, by dsimp only; omega⟩; (conv => whnf); repeat' (first | exact trivial | exact rfl | (show _ = _; congr 3; dsimp only; omega) | apply And.intro))
    · rw [List.take_of_length_le (by omega)] at hF
      repeat' ((conv => whnf) <;> first
       | (show CondP _ _ _; refine cS ?_) | refine cF ?_ | refine rE fun hml => ?_ | refine And.intro ?_ ?_)
      all_goals first
        | exact hE
        | (exfalso; omega)
        | exact ⟨_, rfl, Fr.left (ds := [_]) (cs := [_]) hF rfl⟩
end Go.Proofs.YtockphlpokoohaaGreat
