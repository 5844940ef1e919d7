/- Programs run. -/
import Derived.Test.YtlmmdpmmdmhacaaGreatKm29
import Derived.Test.YtlmmdpmmdmhacaaGreatKm26
namespace Go.Proofs.YtlmmdpmmdmhacaaGreat
set_option linter.unusedVariables false
set_option linter.unusedSimpArgs false
set_option maxRecDepth 100000
section
open Go Go.ChangeShapes Go.WideShapes Go.ChangeAt Go.RowKit
def getI (l : List Int) (i : Int) : Int := l.getD i.toNat 0
theorem getI_at {l : List Int} {i : Int} (h : i.toNat < l.length) : getI l i = l[i.toNat] := by unfold getI; rw [List.getD_eq_getElem?_getD, List.getElem?_eq_getElem h]; rfl
def opV (values : List Int) (o : GOp) (v : List Int) : List Int :=
  if o.Kind = 1 then v.set o.A.toNat (valueOf values o.B)
  else if o.Kind = 2 then v.set o.A.toNat o.B
  else if o.Kind = 3 then v.set o.A.toNat (Int.tmod (getI v o.B + getI v o.C) 1000)
  else if o.Kind = 4 then (if Int.tmod (getI v o.B) 2 = 0 then v.set o.A.toNat (getI v o.C) else v)
  else v
def opL (o : GOp) (b : List Int) : List Int :=
  if o.Kind = 1 then b.set o.A.toNat ((2 ^ o.B.toNat : Nat) : Int)
  else if o.Kind = 2 then b.set o.A.toNat 0
  else if o.Kind = 3 then b.set o.A.toNat (lorI (getI b o.B) (getI b o.C))
  else if o.Kind = 4 then b.set o.A.toNat (lorI (lorI (getI b o.A) (getI b o.B)) (getI b o.C))
  else b
def sentOf (o : GOp) (v b : List Int) : GSent := if o.Kind = 5 then ⟨o.B, getI v o.A, getI b o.A⟩ else ⟨0, 0, 0⟩
def opS (o : GOp) (v b : List Int) : List GSent := if o.Kind = 5 then [sentOf o v b] else []
abbrev Mach := List GSent × List Int × List Int
def machStep (values : List Int) (m : Mach) (o : GOp) : Mach := (m.1 ++ opS o m.2.1 m.2.2, opV values o m.2.1, opL o m.2.2)
abbrev zeros6 : List Int := [0, 0, 0, 0, 0, 0]
def mach (values : List Int) (l : List GOp) : Mach := l.foldl (machStep values) ([], zeros6, zeros6)
structure GoodM (v b : List Int) : Prop where
  vl : v.length = 6
  bl : b.length = 6
  vb : ∀ x ∈ v, 0 ≤ x ∧ x ≤ 999
  bb : ∀ x ∈ b, isLabel x = true
theorem GoodM.zero : GoodM zeros6 zeros6 := ⟨rfl, rfl, by simp, by simp; decide⟩
theorem op_cases {x : GOp} (h : isOp x = true) : (0 ≤ x.A ∧ x.A ≤ 5) ∧ ((x.Kind = 1 ∧ 1 ≤ x.B ∧ x.B ≤ 9) ∨ (x.Kind = 5 ∧ 1 ≤ x.B ∧ x.B ≤ 9) ∨ (x.Kind = 2 ∧ 0 ≤ x.B ∧ x.B ≤ 999) ∨ (x.Kind = 3 ∧ (0 ≤ x.B ∧ x.B ≤ 5) ∧ 0 ≤ x.C ∧ x.C ≤ 5) ∨ (x.Kind = 4 ∧ (0 ≤ x.B ∧ x.B ≤ 5) ∧ 0 ≤ x.C ∧ x.C ≤ 5)) := by
  simp only [isOp, inR, Bool.and_eq_true, Bool.or_eq_true, decide_eq_true_eq] at h
  omega
theorem valueOf_in' (l : List Int) (o : Int) : 0 ≤ valueOf l o ∧ valueOf l o ≤ 999 := by
  unfold valueOf
  split
  · split
    · rename_i h; exact inR_t h
    · omega
  · omega
theorem pow_label {o : Int} (h : 1 ≤ o ∧ o ≤ 9) : isLabel ((2 ^ o.toNat : Nat) : Int) = true := by
  have : ∀ n : Fin 9, isLabel ((2 ^ (n.val + 1) : Nat) : Int) = true := by decide
  have e := this ⟨o.toNat - 1, by omega⟩
  rw [show o.toNat - 1 + 1 = o.toNat from by omega] at e
  exact e
theorem label_one {o : Int} (h : 1 ≤ o ∧ o ≤ 9) : sumBits (fun x => decide (x ∈ [o])) 9 = ((2 ^ o.toNat : Nat) : Int) := by
  have : ∀ n : Fin 9, sumBits (fun x => decide (x ∈ [(n.val : Int) + 1])) 9 = ((2 ^ ((n.val : Int) + 1).toNat : Nat) : Int) := by decide
  have e := this ⟨o.toNat - 1, by omega⟩
  rw [show (((⟨o.toNat - 1, by omega⟩ : Fin 9).val : Nat) : Int) + 1 = o from by show ((o.toNat - 1 : Nat) : Int) + 1 = o; omega] at e
  exact e
theorem lor_assoc (a b c : Int) : lorI (lorI a b) c = lorI a (lorI b c) := by
  unfold lorI; rw [Int.toNat_natCast, Int.toNat_natCast, Nat.or_assoc]
theorem mem_set {α : Type} {P : α → Prop} {y : α} (hy : P y) : ∀ {l : List α} {i : Nat}, (∀ x ∈ l, P x) → ∀ x ∈ l.set i y, P x
  | l, i, h, x, hx => by
    rcases List.mem_or_eq_of_mem_set hx with h1 | h1
    · exact h x h1
    · exact h1 ▸ hy
theorem GoodM.getV {v b : List Int} (g : GoodM v b) {i : Int} (h : 0 ≤ i ∧ i ≤ 5) : 0 ≤ getI v i ∧ getI v i ≤ 999 := by
  have := g.vl
  rw [getI_at (by omega)]; exact g.vb _ (List.getElem_mem _)
theorem GoodM.getB {v b : List Int} (g : GoodM v b) {i : Int} (h : 0 ≤ i ∧ i ≤ 5) : isLabel (getI b i) = true := by
  have := g.bl
  rw [getI_at (by omega)]; exact g.bb _ (List.getElem_mem _)
theorem GoodM.step {v b : List Int} (g : GoodM v b) (values : List Int) {o : GOp} (h : isOp o = true) : GoodM (opV values o v) (opL o b) := by
  obtain ⟨hA, hc⟩ := op_cases h
  rcases hc with ⟨hk, hB⟩ | ⟨hk, hB⟩ | ⟨hk, hB⟩ | ⟨hk, hB, hC⟩ | ⟨hk, hB, hC⟩
  · rw [show opV values o v = v.set o.A.toNat (valueOf values o.B) from by unfold opV; rw [if_pos hk], show opL o b = b.set o.A.toNat ((2 ^ o.B.toNat : Nat) : Int) from by unfold opL; rw [if_pos hk]]
    exact ⟨by simp [g.vl], by simp [g.bl], mem_set (P := fun x : Int => 0 ≤ x ∧ x ≤ 999) (valueOf_in' _ _) g.vb, mem_set (P := fun x : Int => isLabel x = true) (pow_label hB) g.bb⟩
  · rw [show opV values o v = v from by unfold opV; simp [hk], show opL o b = b from by unfold opL; simp [hk]]
    exact g
  · rw [show opV values o v = v.set o.A.toNat o.B from by unfold opV; simp [hk], show opL o b = b.set o.A.toNat 0 from by unfold opL; simp [hk]]
    exact ⟨by simp [g.vl], by simp [g.bl], mem_set (P := fun x : Int => 0 ≤ x ∧ x ≤ 999) hB g.vb, mem_set (P := fun x : Int => isLabel x = true) (by decide) g.bb⟩
  · rw [show opV values o v = v.set o.A.toNat (Int.tmod (getI v o.B + getI v o.C) 1000) from by unfold opV; simp [hk], show opL o b = b.set o.A.toNat (lorI (getI b o.B) (getI b o.C)) from by unfold opL; simp [hk]]
    have h1 := g.getV hB
    have h2 := g.getV hC
    exact ⟨by simp [g.vl], by simp [g.bl], mem_set (P := fun x : Int => 0 ≤ x ∧ x ≤ 999) (by rw [Int.tmod_eq_emod_of_nonneg (by omega)]; omega) g.vb, mem_set (P := fun x : Int => isLabel x = true) (lor_label (g.getB hB) (g.getB hC)) g.bb⟩
  · rw [show opV values o v = (if Int.tmod (getI v o.B) 2 = 0 then v.set o.A.toNat (getI v o.C) else v) from by unfold opV; simp [hk], show opL o b = b.set o.A.toNat (lorI (lorI (getI b o.A) (getI b o.B)) (getI b o.C)) from by unfold opL; simp [hk]]
    refine ⟨?_, by simp [g.bl], ?_, mem_set (P := fun x : Int => isLabel x = true) (lor_label (lor_label (g.getB hA) (g.getB hB)) (g.getB hC)) g.bb⟩
    · split <;> simp [g.vl]
    · split
      · exact mem_set (P := fun x : Int => 0 ≤ x ∧ x ≤ 999) (g.getV hC) g.vb
      · exact g.vb
theorem mach_take {values : List Int} {l : List GOp} {i : Nat} (h : i < l.length) : mach values (l.take (i + 1)) = machStep values (mach values (l.take i)) l[i] := by
  unfold mach; rw [List.take_succ_eq_append_getElem h, List.foldl_append]; rfl
theorem mach_good {values : List Int} : ∀ {l : List GOp}, (∀ x ∈ l, isOp x = true) → ∀ i : Nat, i ≤ l.length → GoodM (mach values (l.take i)).2.1 (mach values (l.take i)).2.2 ∧ (mach values (l.take i)).1.length ≤ i
  | l, h, 0, _ => ⟨by rw [List.take_zero]; exact GoodM.zero, Nat.le_refl _⟩
  | l, h, i + 1, hi => by
    obtain ⟨g1, g2⟩ := mach_good (values := values) h i (by omega)
    rw [mach_take (by omega)]
    refine ⟨g1.step values (h _ (List.getElem_mem _)), ?_⟩
    simp only [machStep, List.length_append]
    have : (opS l[i] (mach values (l.take i)).2.1 (mach values (l.take i)).2.2).length ≤ 1 := by unfold opS; split <;> simp
    omega
theorem fr_stoI {S0 S : Store} {q : Nat} {c : C} {ds : List D} {cs : List C} {l : List Int} {i y : Int} {K : Store → Prop} (hE : Ext S0 S) (h : Fr S0.length S ds cs) (hd : ds[q]? = some (.sl 1 (l.map dInt))) (hc : cs[q]? = some c) (h0 : 0 ≤ i ∧ i.toNat < l.length)
    (hK : ∀ S', Ext S0 S' → Fr S0.length S' (ds.set q (.sl 1 ((l.set i.toNat y).map dInt))) cs → S'.length = S.length → K S') : StoP S c i 0 [.int .i64 y] K :=
  fr_stoAt (q := q) (A := []) (B := dInt (l[i.toNat]'h0.2)) (B' := dInt y) (Z := []) hE h (Ext.refl _) hE.len hd hc fr_plain (by rw [List.length_map]; exact h0) (by simp [h0.2]) rfl rfl rfl fun S' h1 h2 h3 => hK S' h1 (by rw [List.map_set]; exact h2) h3
end
section
open Go Go.ChangeShapes Go.WideShapes Go.ChangeAt Go.RowKit
theorem ops_all {l : List GOp} (h : areOps l = true) : (∀ x ∈ l, isOp x = true) ∧ l.length ≤ 16 := by
  unfold areOps at h
  simp only [Bool.and_eq_true, decide_eq_true_eq, List.all_eq_true] at h
  exact ⟨h.2, h.1⟩
theorem mach_len {l : List GOp} (values : List Int) (h : areOps l = true) : (mach values l).1.length ≤ 16 := by
  obtain ⟨h1, h2⟩ := ops_all h
  have := (mach_good (values := values) h1 l.length (Nat.le_refl _)).2
  rw [List.take_length] at this; omega
theorem fr_stoJ {S0 S1 S : Store} {q : Nat} {c : C} {ds : List D} {cs : List C} {l : List Int} {i y : Int} {K : Store → Prop} (h : Fr S0.length S1 ds cs) (hE : Ext S0 S1) (e1 : Ext S1 S) (hd : ds[q]? = some (.sl 1 (l.map dInt))) (hc : cs[q]? = some c) (h0 : 0 ≤ i ∧ i.toNat < l.length)
    (hK : ∀ S', Ext S0 S' → Fr S0.length S' (ds.set q (.sl 1 ((l.set i.toNat y).map dInt))) cs → S'.length = S.length → K S') : StoP S c i 0 [.int .i64 y] K :=
  fr_stoI (hE.trans e1) (h.ext e1) hd hc h0 hK
theorem ev_l21Zeros (S : Store) : EvA Tryz.prog 239 [] S (fun r S' => Ext S S' ∧ ∃ c', r = .v (.s c') ∧ Fr S.length S' [.sl 1 (zeros6.map dInt)] [c']) := by
  refine evA_intro tok Tryz.func239 (by kernel_rfl) rfl ?_
  skip
  refine loop_intro {p : Nat × Store × C // p.1 ≤ 6 ∧ Ext S p.2.1 ∧ Fr S.length p.2.1 [.sl 1 ((List.replicate p.1 0).map dInt)] [p.2.2]} [1, 2, 4, 5, 6, 7, 8, 9, 10] (fun zb => [(2, .v (.s (.int .i64 (zb.1.1)))), (1, .v (.s zb.1.2.2))]) (fun zb => zb.1.2.1) (fun zb => 6 - zb.1.1) ⟨(0, _, _), Nat.zero_le _, Ext.push _ _, fr_lit0⟩ ?_ rfl ?_
  · (conv => whnf); repeat' (first | exact trivial | exact rfl | apply And.intro)
  rintro ⟨⟨i, Si, ci⟩, hi, hE, hF⟩; dsimp only
  replace hi : i ≤ 6 := hi
  replace hE : Ext S Si := hE
  replace hF : Fr S.length Si [.sl 1 ((List.replicate i 0).map dInt)] [ci] := hF
  have hfl : (List.replicate i (0 : Int)).length = i := List.length_replicate
  by_cases hlt : i < 6
  · repeat' ((conv => whnf) <;> first
     | rw [wrapI_i64 (by omega)] | (show CondP _ _ _; refine cS ?_) | (refine fr_app1 (f := dInt) (x := 0) aN aN tv (by rfl) rf (by dsimp only [T3]; omega) om ?_; intro cN SN hEN hFN))
    all_goals first
      | (exfalso; omega)
      | (refine ⟨⟨(i + 1, _, _), by dsimp only; omega, by assumption, by rw [List.replicate_succ']; assumption⟩, ?_, rfl, by dsimp only; omega⟩; (conv => whnf); repeat' (first | exact trivial | exact rfl | (show _ = _; congr 3; dsimp only; omega) | apply And.intro))
  · have he : i = 6 := by omega
    subst he
    repeat' ((conv => whnf) <;> first
     | (show CondP _ _ _; refine cS ?_) | refine And.intro ?_ ?_)
    all_goals first
      | exact hE
      | (exfalso; omega)
      | exact ⟨_, rfl, hF⟩
set_option maxHeartbeats 4000000 in
theorem ev_l21Step (x : GOp) (values v b : List Int) (d0 : D) (c0 c1 cv cb : C) (S0 S : Store) (hE : Ext S0 S) (hF : Fr S0.length S [d0, .sl 1 (v.map dInt), .sl 1 (b.map dInt)] [c0, cv, cb]) (h : Rd S [.sl 1 (values.map dInt)] [c1]) (hx : isOp x = true) (g : GoodM v b) : EvA Tryz.prog 241 [.agg x.c, .s c1, .s cv, .s cb] S (fun r S' => Ext S0 S' ∧ Fr S0.length S' [d0, .sl 1 ((opV values x v).map dInt), .sl 1 ((opL x b).map dInt)] [c0, cv, cb] ∧ r = .tup [.agg (sentOf x v b).c, .s (.bool (decide (x.Kind = 5)))]) := by
  have hvl := g.vl
  have hbl := g.bl
  have r1 := hF.rdAt (o := 1) rfl rfl
  have r2 := hF.rdAt (o := 2) rfl rfl
  obtain ⟨hA, hc⟩ := op_cases hx
  rcases hc with ⟨hk, hB⟩ | ⟨hk, hB⟩ | ⟨hk, hB⟩ | ⟨hk, hB, hC⟩ | ⟨hk, hB, hC⟩
  · skip
    have hV : opV values x v = v.set x.A.toNat (valueOf values x.B) := by unfold opV; rw [if_pos hk]
    have hL : opL x b = b.set x.A.toNat ((2 ^ x.B.toNat : Nat) : Int) := by unfold opL; rw [if_pos hk]
    have hSF : sentOf x v b = ⟨0, 0, 0⟩ := by unfold sentOf; rw [if_neg (by omega)]
    have hdk : decide (x.Kind = 5) = false := decide_eq_false (by omega)
    rw [hSF, hdk, hV, hL]
    refine evA_intro tok Tryz.func241 (by kernel_rfl) rfl ?_
    repeat' ((conv => whnf) <;> first
     | (show CondP _ _ _; refine cS ?_) | refine callP_eq (ev_l21Value _ _ _ _ om rdA) ?_ | refine rI rdA rf ix ?_ | refine draw_intro 14 [.fl 0, .fl 1, .fl 2, .fl 3, .fl 4, .fl 5, .st 6 [0, 1, 2], .fl 7, .st 8 []] (by rfl) (by kernel_rfl) ?_ | refine draw_intro 22 [.fl 0, .fl 1, .fl 2, .fl 3, .fl 4, .fl 5, .st 6 [0, 1, 2], .fl 7, .st 8 []] (by rfl) (by kernel_rfl) ?_ | (refine callP_eq (ev_sLabelOf [x.B] _ _ (fr_litF (f := dInt) [x.B] (fun _ => trivial) (by simp)).rd) ?_) | rw [label_one hB] | (refine fr_stoJ (q := 1) aN aN (by first | exact Ext.refl _ | exact Ext.push _ _) (by rfl) (by rfl) ix ?_; intro SN hEN hFN hlN; have r1N := hFN.rdAt (o := 1) rfl rfl; have r2N := hFN.rdAt (o := 2) rfl rfl) | (refine fr_stoJ (q := 2) aN aN (by first | exact Ext.refl _ | exact Ext.push _ _) (by rfl) (by rfl) ix ?_; intro SN hEN hFN hlN; have r1N := hFN.rdAt (o := 1) rfl rfl; have r2N := hFN.rdAt (o := 2) rfl rfl) | refine And.intro ?_ ?_)
    all_goals first
      | (exfalso; omega)
      | assumption
      | rfl
  · skip
    have hV : opV values x v = v := by unfold opV; rw [if_neg (by omega), if_neg (by omega), if_neg (by omega), if_neg (by omega)]
    have hL : opL x b = b := by unfold opL; rw [if_neg (by omega), if_neg (by omega), if_neg (by omega), if_neg (by omega)]
    have hSF : sentOf x v b = ⟨x.B, v[x.A.toNat]'(by omega), b[x.A.toNat]'(by omega)⟩ := by unfold sentOf; rw [if_pos hk, getI_at (by omega), getI_at (by omega)]
    have hdk : decide (x.Kind = 5) = true := decide_eq_true hk
    rw [hSF, hdk, hV, hL]
    refine evA_intro tok Tryz.func241 (by kernel_rfl) rfl ?_
    repeat' ((conv => whnf) <;> first
     | (show CondP _ _ _; refine cS ?_) | refine rI rdA rf ix ?_ | refine rd_loadf rdA tv ix ?_ | refine draw_intro 116 [.fl 0, .fl 1, .fl 2, .fl 3, .fl 4, .fl 5, .fl 6, .fl 7, .fl 8, .fl 9, .fl 10, .fl 11, .fl 12, .st 13 [], .st 14 []] (by rfl) (by kernel_rfl) ?_ | refine And.intro ?_ ?_)
    all_goals first
      | (exfalso; omega)
      | assumption
      | rfl
  · skip
    have hV : opV values x v = v.set x.A.toNat x.B := by unfold opV; rw [if_neg (by omega), if_pos hk]
    have hL : opL x b = b.set x.A.toNat 0 := by unfold opL; rw [if_neg (by omega), if_pos hk]
    have hSF : sentOf x v b = ⟨0, 0, 0⟩ := by unfold sentOf; rw [if_neg (by omega)]
    have hdk : decide (x.Kind = 5) = false := decide_eq_false (by omega)
    rw [hSF, hdk, hV, hL]
    refine evA_intro tok Tryz.func241 (by kernel_rfl) rfl ?_
    repeat' ((conv => whnf) <;> first
     | (show CondP _ _ _; refine cS ?_) | refine rI rdA rf ix ?_ | (refine fr_stoJ (q := 1) aN aN (by first | exact Ext.refl _ | exact Ext.push _ _) (by rfl) (by rfl) ix ?_; intro SN hEN hFN hlN; have r1N := hFN.rdAt (o := 1) rfl rfl; have r2N := hFN.rdAt (o := 2) rfl rfl) | (refine fr_stoJ (q := 2) aN aN (by first | exact Ext.refl _ | exact Ext.push _ _) (by rfl) (by rfl) ix ?_; intro SN hEN hFN hlN; have r1N := hFN.rdAt (o := 1) rfl rfl; have r2N := hFN.rdAt (o := 2) rfl rfl) | refine And.intro ?_ ?_)
    all_goals first
      | (exfalso; omega)
      | assumption
      | rfl
  · skip
    have hV : opV values x v = v.set x.A.toNat (Int.tmod (getI v x.B + getI v x.C) 1000) := by unfold opV; rw [if_neg (by omega), if_neg (by omega), if_pos hk]
    have hL : opL x b = b.set x.A.toNat (lorI (getI b x.B) (getI b x.C)) := by unfold opL; rw [if_neg (by omega), if_neg (by omega), if_pos hk]
    have v1 := g.getV hB
    have v2 := g.getV hC
    have b1 := isLabel_t (g.getB hB)
    have b2 := isLabel_t (g.getB hC)
    have B1 := g.getB hB
    have B2 := g.getB hC
    rw [getI_at (by omega)] at v1 v2 b1 b2 B1 B2
    rw [getI_at (by omega), getI_at (by omega)] at hV hL
    have hSF : sentOf x v b = ⟨0, 0, 0⟩ := by unfold sentOf; rw [if_neg (by omega)]
    have hdk : decide (x.Kind = 5) = false := decide_eq_false (by omega)
    rw [hSF, hdk, hV, hL]
    refine evA_intro tok Tryz.func241 (by kernel_rfl) rfl ?_
    repeat' ((conv => whnf) <;> first
     | rw [wrapI_i64 (by omega)] | (show CondP _ _ _; refine cS ?_) | refine callP_eq (ev_sJoin _ _ _ aN aN) ?_ | refine rI rdA rf ix ?_ | refine rd_loadf rdA tv ix ?_ | refine nP ?_ | refine draw_intro 44 [.fl 0, .fl 1, .fl 2, .fl 3, .fl 4, .fl 5, .fl 6, .fl 7, .fl 8, .fl 9, .fl 10, .fl 11, .fl 12, .fl 13, .fl 14, .fl 15, .st 16 []] (by rfl) (by kernel_rfl) ?_ | refine draw_intro 60 [.fl 0, .fl 1, .fl 2, .fl 3, .fl 4, .fl 5, .fl 6, .fl 7, .fl 8, .fl 9, .fl 10, .fl 11, .fl 12, .st 13 [0, 1, 2], .fl 14, .st 15 []] (by rfl) (by kernel_rfl) ?_ | (refine fr_stoJ (q := 1) aN aN (by first | exact Ext.refl _ | exact Ext.push _ _) (by rfl) (by rfl) ix ?_; intro SN hEN hFN hlN; have r1N := hFN.rdAt (o := 1) rfl rfl; have r2N := hFN.rdAt (o := 2) rfl rfl) | (refine fr_stoJ (q := 2) aN aN (by first | exact Ext.refl _ | exact Ext.push _ _) (by rfl) (by rfl) ix ?_; intro SN hEN hFN hlN; have r1N := hFN.rdAt (o := 1) rfl rfl; have r2N := hFN.rdAt (o := 2) rfl rfl) | refine And.intro ?_ ?_)
    all_goals first
      | (exfalso; omega)
      | assumption
      | rfl
  · skip
    have hV : opV values x v = (if Int.tmod (getI v x.B) 2 = 0 then v.set x.A.toNat (getI v x.C) else v) := by unfold opV; rw [if_neg (by omega), if_neg (by omega), if_neg (by omega), if_pos hk]
    have hL : opL x b = b.set x.A.toNat (lorI (lorI (getI b x.A) (getI b x.B)) (getI b x.C)) := by unfold opL; rw [if_neg (by omega), if_neg (by omega), if_neg (by omega), if_pos hk]
    have b0 := isLabel_t (g.getB hA)
    have b1 := isLabel_t (g.getB hB)
    have b2 := isLabel_t (g.getB hC)
    have B0 := g.getB hA
    have B1 := g.getB hB
    have B2 := g.getB hC
    have b3 := isLabel_t (lor_label B0 B1)
    have B3 := lor_label B1 B2
    rw [lor_assoc] at hL
    rw [getI_at (by omega)] at b0 b1 b2 B0 B1 B2
    rw [getI_at (by omega), getI_at (by omega)] at b3 B3 hV
    rw [getI_at (by omega), getI_at (by omega), getI_at (by omega)] at hL
    have hSF : sentOf x v b = ⟨0, 0, 0⟩ := by unfold sentOf; rw [if_neg (by omega)]
    have hdk : decide (x.Kind = 5) = false := decide_eq_false (by omega)
    by_cases h2 : Int.tmod (v[x.B.toNat]'(by omega)) 2 = 0
    · rw [if_pos h2] at hV
      rw [hSF, hdk, hV, hL]
      refine evA_intro tok Tryz.func241 (by kernel_rfl) rfl ?_
      repeat' ((conv => whnf) <;> first
       | (show CondP _ _ _; refine cS ?_) | refine callP_eq (ev_sJoin _ _ _ aN aN) ?_ | refine rI rdA rf ix ?_ | refine rd_loadf rdA tv ix ?_ | refine nP ?_ | refine draw_intro 77 [.fl 0, .fl 1, .fl 2, .fl 3, .fl 4, .fl 5, .fl 6, .fl 7, .fl 8, .fl 9, .fl 10, .fl 11, .fl 12, .fl 13, .fl 14, .fl 15, .fl 16, .fl 17, .st 18 [0, 1, 2, 3, 4, 5, 6, 7], .st 19 [0, 1, 2], .fl 20, .st 21 []] (by rfl) (by kernel_rfl) ?_ | refine draw_intro 105 [.fl 0, .fl 1, .fl 2, .fl 3, .fl 4, .fl 5, .fl 6, .fl 7, .fl 8, .st 9 []] (by rfl) (by kernel_rfl) ?_ | (refine fr_stoJ (q := 1) aN aN (by first | exact Ext.refl _ | exact Ext.push _ _) (by rfl) (by rfl) ix ?_; intro SN hEN hFN hlN; have r1N := hFN.rdAt (o := 1) rfl rfl; have r2N := hFN.rdAt (o := 2) rfl rfl) | (refine fr_stoJ (q := 2) aN aN (by first | exact Ext.refl _ | exact Ext.push _ _) (by rfl) (by rfl) ix ?_; intro SN hEN hFN hlN; have r1N := hFN.rdAt (o := 1) rfl rfl; have r2N := hFN.rdAt (o := 2) rfl rfl) | refine And.intro ?_ ?_)
      all_goals first
        | (exfalso; omega)
        | assumption
        | rfl
    · rw [if_neg h2] at hV
      rw [hSF, hdk, hV, hL]
      refine evA_intro tok Tryz.func241 (by kernel_rfl) rfl ?_
      repeat' ((conv => whnf) <;> first
       | (show CondP _ _ _; refine cS ?_) | refine callP_eq (ev_sJoin _ _ _ aN aN) ?_ | refine rI rdA rf ix ?_ | refine rd_loadf rdA tv ix ?_ | refine nP ?_ | refine draw_intro 77 [.fl 0, .fl 1, .fl 2, .fl 3, .fl 4, .fl 5, .fl 6, .fl 7, .fl 8, .fl 9, .fl 10, .fl 11, .fl 12, .fl 13, .fl 14, .fl 15, .fl 16, .fl 17, .st 18 [0, 1, 2, 3, 4, 5, 6, 7], .st 19 [0, 1, 2], .fl 20, .st 21 []] (by rfl) (by kernel_rfl) ?_ | (refine fr_stoJ (q := 1) aN aN (by first | exact Ext.refl _ | exact Ext.push _ _) (by rfl) (by rfl) ix ?_; intro SN hEN hFN hlN; have r1N := hFN.rdAt (o := 1) rfl rfl; have r2N := hFN.rdAt (o := 2) rfl rfl) | (refine fr_stoJ (q := 2) aN aN (by first | exact Ext.refl _ | exact Ext.push _ _) (by rfl) (by rfl) ix ?_; intro SN hEN hFN hlN; have r1N := hFN.rdAt (o := 1) rfl rfl; have r2N := hFN.rdAt (o := 2) rfl rfl) | refine And.intro ?_ ?_)
      all_goals first
        | (exfalso; omega)
        | assumption
        | rfl
end
end Go.Proofs.YtlmmdpmmdmhacaaGreat
