/- What programs send; what leaves. -/
import Derived.Test.YtimbmhglengjcaaGreatFnY
namespace Go.Proofs.YtimbmhglengjcaaGreat
open Go Go.ChangeShapes Go.WideShapes Go.ChangeAt Go.RowKit
set_option linter.unusedVariables false
set_option maxRecDepth 100000

def sentOk (flows : List GFlow) (ext : Int) (s : GSent) : Bool := mayFlow flows ext s.Label s.To
def runOps (l : List GOp) (values : List Int) (flows : List GFlow) (ext : Int) : List GSent := if areOps l then (mach values l).1.filter (sentOk flows ext) else []
theorem ops_all {l : List GOp} (h : areOps l = true) : (∀ x ∈ l, isOp x = true) ∧ l.length ≤ 16 := by
  unfold areOps at h
  simp only [Bool.and_eq_true, decide_eq_true_eq, List.all_eq_true] at h
  exact ⟨h.2, h.1⟩
theorem mach_len {l : List GOp} (values : List Int) (h : areOps l = true) : (mach values l).1.length ≤ 16 := by
  obtain ⟨h1, h2⟩ := ops_all h
  have := (mach_good (values := values) h1 l.length (Nat.le_refl _)).2
  rw [List.take_length] at this; omega
theorem runOps_len (l : List GOp) (values : List Int) (flows : List GFlow) (ext : Int) : (runOps l values flows ext).length ≤ 16 := by
  unfold runOps
  split
  · rename_i h
    exact Nat.le_trans (List.length_filter_le _ _) (mach_len values h)
  · exact Nat.zero_le _
theorem fr_stoJ {S0 S1 S : Store} {q : Nat} {c : C} {ds : List D} {cs : List C} {l : List Int} {i y : Int} {K : Store → Prop} (h : Fr S0.length S1 ds cs) (hE : Ext S0 S1) (e1 : Ext S1 S) (hd : ds[q]? = some (.sl 1 (l.map dInt))) (hc : cs[q]? = some c) (h0 : 0 ≤ i ∧ i.toNat < l.length)
    (hK : ∀ S', Ext S0 S' → Fr S0.length S' (ds.set q (.sl 1 ((l.set i.toNat y).map dInt))) cs → S'.length = S.length → K S') : StoP S c i 0 [.int .i64 y] K :=
  fr_stoI (hE.trans e1) (h.ext e1) hd hc h0 hK
theorem ev_iRunOps (l : List GOp) (values : List Int) (flows : List GFlow) (ext : Int) (c c' c2 : C) (S : Store) (h : Rd S [.sl 4 (l.map GOp.d)] [c]) (h' : Rd S [.sl 1 (values.map dInt)] [c']) (h2 : Rd S [.sl 3 (flows.map GFlow.d)] [c2]) : EvA Tryz.prog 68 [.s c, .s c', .s c2, .s (.int .i64 ext)] S (fun r S' => Ext S S' ∧ ∃ d, r = .v (.s d) ∧ Fr S.length S' [.sl 3 ((runOps l values flows ext).map GSent.d)] [d]) := by
  rcases ho : areOps l with _ | _
  · rw [show runOps l values flows ext = [] from by unfold runOps; rw [ho]; rfl]
    refine evA_intro tok Tryz.func68 (by kernel_rfl) rfl ?_
    repeat' ((conv => whnf) <;> first
     | rw [wrapI_i64 (by omega)]
     | (refine condP_true ?_ ?_; · assumption)
     | (refine condP_false ?_ ?_; · assumption)
     | (refine condP_nt ?_ ?_; · assumption)
     | (refine condP_nf ?_ ?_; · assumption)
     | (refine condP_decT ?_ ?_; · omega)
     | (refine condP_decF ?_ ?_; · omega)
     | (refine condP_ndT ?_ ?_; · omega)
     | (refine condP_ndF ?_ ?_; · omega)
     | refine condP_dec (fun _ => ?_) (fun _ => ?_)
     | refine condP_ndec (fun _ => ?_) (fun _ => ?_)
     | refine condP_true rfl ?_
     | refine condP_false rfl ?_
     | refine condP_not (fun _ => ?_) (fun _ => ?_)
     | refine condP_intro (fun _ => ?_) (fun _ => ?_)
     | refine callP_eq (ev_iAreOps _ _ _ rdA) ?_
     | (refine callP_intro (ev_executed _ _ _ _ _ rdA rdA (by assumption)) ?_; rintro _ Sn ⟨hEn, cn, cn2, rfl, hFn⟩)
     | refine callP_eq (ev_iMayFlow _ _ _ _ _ _ rdA) ?_
     | (refine rd_lenm rdA ?_; intro hml; rw [maxLen_eq] at hml)
     | refine rd_idxm rdA (by intro _; rfl) (by constructor <;> omega) ?_
     | refine rd_loadf rdA (by intro _; exact trivial) (by constructor <;> omega) ?_
     | refine needP_intro (by first | omega | (constructor <;> omega)) ?_
     | refine And.intro ?_ ?_)
    all_goals first
      | exact Ext.push _ _
      | exact ⟨_, rfl, fr_lit0⟩
      | (exfalso; simp_all; done)
  · rw [show runOps l values flows ext = (mach values l).1.filter (sentOk flows ext) from by unfold runOps; rw [ho]; rfl]
    have hml := mach_len values ho
    refine evA_intro tok Tryz.func68 (by kernel_rfl) rfl ?_
    repeat' ((conv => whnf) <;> first
     | rw [wrapI_i64 (by omega)]
     | (refine condP_true ?_ ?_; · assumption)
     | (refine condP_false ?_ ?_; · assumption)
     | (refine condP_nt ?_ ?_; · assumption)
     | (refine condP_nf ?_ ?_; · assumption)
     | (refine condP_decT ?_ ?_; · omega)
     | (refine condP_decF ?_ ?_; · omega)
     | (refine condP_ndT ?_ ?_; · omega)
     | (refine condP_ndF ?_ ?_; · omega)
     | refine condP_dec (fun _ => ?_) (fun _ => ?_)
     | refine condP_ndec (fun _ => ?_) (fun _ => ?_)
     | refine condP_true rfl ?_
     | refine condP_false rfl ?_
     | refine condP_not (fun _ => ?_) (fun _ => ?_)
     | refine condP_intro (fun _ => ?_) (fun _ => ?_)
     | refine callP_eq (ev_iAreOps _ _ _ rdA) ?_
     | refine callP_eq (ev_iMayFlow _ _ _ _ _ _ rdA) ?_
     | (refine rd_lenm rdA ?_; intro hml; rw [maxLen_eq] at hml)
     | refine rd_idxm rdA (by intro _; rfl) (by constructor <;> omega) ?_
     | refine rd_loadf rdA (by intro _; exact trivial) (by constructor <;> omega) ?_
     | refine needP_intro (by first | omega | (constructor <;> omega)) ?_
     | refine And.intro ?_ ?_)
    (conv => whnf)
    refine callP_intro (ev_executed l values _ _ _ (h.ext (Ext.push _ _)) (h'.ext (Ext.push _ _)) ho) ?_; rintro _ S1 ⟨e1, c3, c4, rfl, f1⟩
    have f0 := (fr_lit0 (S := S) (k := 3)).join e1 f1 (Ext.push S _).len
    have E1 : Ext S S1 := (Ext.push _ _).trans e1
    generalize (mach values l).1 = x at *
    generalize (mach values l).2.2 = lb at *
    have r1 := f0.rdAt (o := 1) (d := .sl 3 (x.map GSent.d)) rfl rfl
    repeat' ((conv => whnf) <;> first
     | rw [wrapI_i64 (by omega)]
     | (refine condP_true ?_ ?_; · assumption)
     | (refine condP_false ?_ ?_; · assumption)
     | (refine condP_nt ?_ ?_; · assumption)
     | (refine condP_nf ?_ ?_; · assumption)
     | (refine condP_decT ?_ ?_; · omega)
     | (refine condP_decF ?_ ?_; · omega)
     | (refine condP_ndT ?_ ?_; · omega)
     | (refine condP_ndF ?_ ?_; · omega)
     | refine condP_dec (fun _ => ?_) (fun _ => ?_)
     | refine condP_ndec (fun _ => ?_) (fun _ => ?_)
     | refine condP_true rfl ?_
     | refine condP_false rfl ?_
     | refine condP_not (fun _ => ?_) (fun _ => ?_)
     | refine condP_intro (fun _ => ?_) (fun _ => ?_)
     | refine callP_eq (ev_iAreOps _ _ _ rdA) ?_
     | refine callP_eq (ev_iMayFlow _ _ _ _ _ _ rdA) ?_
     | (refine rd_lenm rdA ?_; intro hml; rw [maxLen_eq] at hml)
     | refine rd_idxm rdA (by intro _; rfl) (by constructor <;> omega) ?_
     | refine rd_loadf rdA (by intro _; exact trivial) (by constructor <;> omega) ?_
     | refine needP_intro (by first | omega | (constructor <;> omega)) ?_
     | refine And.intro ?_ ?_)
    (conv => whnf)
    refine loop_intro {p : Nat × Store × C // p.1 ≤ x.length ∧ Ext S p.2.1 ∧ Fr S.length p.2.1 [.sl 3 (((x.take p.1).filter (sentOk flows ext)).map GSent.d), .sl 3 (x.map GSent.d), .sl 1 (lb.map dInt)] [p.2.2, c3, c4]} [9, 13, 27, 28, 29, 30, 31, 32, 33, 34, 35, 36, 37, 38, 39, 40, 41, 42] (fun zb => [(27, .v (.s (.int .i64 zb.1.1))), (9, .v (.s zb.1.2.2))]) (fun zb => zb.1.2.1) (fun zb => x.length - zb.1.1) ⟨(0, _, _), Nat.zero_le _, E1, f0⟩ ?_ rfl ?_
    · (conv => whnf); repeat' (first | exact trivial | exact rfl | apply And.intro)
    rintro ⟨⟨i, Si, ci⟩, hi, hE, hF⟩; dsimp only
    replace hi : i ≤ x.length := hi
    replace hE : Ext S Si := hE
    replace hF : Fr S.length Si [.sl 3 (((x.take i).filter (sentOk flows ext)).map GSent.d), .sl 3 (x.map GSent.d), .sl 1 (lb.map dInt)] [ci, c3, c4] := hF
    have r2 := hF.rdAt (o := 1) (d := .sl 3 (x.map GSent.d)) rfl rfl
    have hfl := filter_len (sentOk flows ext) x i
    by_cases hlt : i < x.length
    · rcases hP : sentOk flows ext (x[((i : Nat) : Int).toNat]'hlt) with _ | _
      · have hp := filter_f hlt hP
        unfold sentOk at hP
        repeat' ((conv => whnf) <;> first
         | rw [wrapI_i64 (by omega)]
         | (refine condP_true ?_ ?_; · assumption)
         | (refine condP_false ?_ ?_; · assumption)
         | (refine condP_nt ?_ ?_; · assumption)
         | (refine condP_nf ?_ ?_; · assumption)
         | (refine condP_decT ?_ ?_; · omega)
         | (refine condP_decF ?_ ?_; · omega)
         | (refine condP_ndT ?_ ?_; · omega)
         | (refine condP_ndF ?_ ?_; · omega)
         | refine condP_dec (fun _ => ?_) (fun _ => ?_)
         | refine condP_ndec (fun _ => ?_) (fun _ => ?_)
         | refine condP_true rfl ?_
         | refine condP_false rfl ?_
         | refine condP_not (fun _ => ?_) (fun _ => ?_)
         | refine condP_intro (fun _ => ?_) (fun _ => ?_)
         | refine callP_eq (ev_iAreOps _ _ _ rdA) ?_
         | (refine callP_intro (ev_executed _ _ _ _ _ rdA rdA (by assumption)) ?_; rintro _ Sn ⟨hEn, cn, cn2, rfl, hFn⟩)
         | refine callP_eq (ev_iMayFlow _ _ _ _ _ _ rdA) ?_
         | (refine rd_lenm rdA ?_; intro hml; rw [maxLen_eq] at hml)
         | refine rd_idxm rdA (by intro _; rfl) (by constructor <;> omega) ?_
         | refine rd_loadf rdA (by intro _; exact trivial) (by constructor <;> omega) ?_
         | refine needP_intro (by first | omega | (constructor <;> omega)) ?_
         | refine And.intro ?_ ?_)
        all_goals first
          | (exfalso; omega)
          | (refine ⟨⟨(i + 1, _, _), by dsimp only; omega, hE, by rw [hp]; exact hF⟩, ?_, rfl, by dsimp only; omega⟩; (conv => whnf); repeat' (first | exact trivial | exact rfl | (show _ = _; congr 3; dsimp only; omega) | apply And.intro))
      · have hp := filter_t hlt hP
        unfold sentOk at hP
        repeat' ((conv => whnf) <;> first
         | rw [wrapI_i64 (by omega)]
         | (refine condP_true ?_ ?_; · assumption)
         | (refine condP_false ?_ ?_; · assumption)
         | (refine condP_nt ?_ ?_; · assumption)
         | (refine condP_nf ?_ ?_; · assumption)
         | (refine condP_decT ?_ ?_; · omega)
         | (refine condP_decF ?_ ?_; · omega)
         | (refine condP_ndT ?_ ?_; · omega)
         | (refine condP_ndF ?_ ?_; · omega)
         | refine condP_dec (fun _ => ?_) (fun _ => ?_)
         | refine condP_ndec (fun _ => ?_) (fun _ => ?_)
         | refine condP_true rfl ?_
         | refine condP_false rfl ?_
         | refine condP_not (fun _ => ?_) (fun _ => ?_)
         | refine condP_intro (fun _ => ?_) (fun _ => ?_)
         | refine callP_eq (ev_iAreOps _ _ _ rdA) ?_
         | (refine callP_intro (ev_executed _ _ _ _ _ rdA rdA (by assumption)) ?_; rintro _ Sn ⟨hEn, cn, cn2, rfl, hFn⟩)
         | refine callP_eq (ev_iMayFlow _ _ _ _ _ _ rdA) ?_
         | (refine rd_lenm rdA ?_; intro hml; rw [maxLen_eq] at hml)
         | refine rd_idxm rdA (by intro _; rfl) (by constructor <;> omega) ?_
         | refine rd_loadf rdA (by intro _; exact trivial) (by constructor <;> omega) ?_
         | refine needP_intro (by first | omega | (constructor <;> omega)) ?_
         | (refine fr_appAtF (f := GSent.d) (o := 0) (l := (x.take i).filter (sentOk flows ext)) (m := [x[i]'hlt]) (fun _ => trivial) hE hF rfl rfl (by rfl) (by intro _; rfl) (by dsimp only [T110]; simp only [List.length_cons, List.length_nil]; omega) (by simp only [List.length_cons, List.length_nil]; omega) ?_; intro cN SN hEN hFN hlN)
         | refine And.intro ?_ ?_)
        all_goals first
          | (exfalso; omega)
          | (refine ⟨⟨(i + 1, _, _), by dsimp only; omega, by assumption, by rw [hp]; exact hFN⟩, ?_, rfl, by dsimp only; omega⟩; (conv => whnf); repeat' (first | exact trivial | exact rfl | (show _ = _; congr 3; dsimp only; omega) | apply And.intro))
    · rw [List.take_of_length_le (by omega)] at hF
      repeat' ((conv => whnf) <;> first
       | rw [wrapI_i64 (by omega)]
       | (refine condP_true ?_ ?_; · assumption)
       | (refine condP_false ?_ ?_; · assumption)
       | (refine condP_nt ?_ ?_; · assumption)
       | (refine condP_nf ?_ ?_; · assumption)
       | (refine condP_decT ?_ ?_; · omega)
       | (refine condP_decF ?_ ?_; · omega)
       | (refine condP_ndT ?_ ?_; · omega)
       | (refine condP_ndF ?_ ?_; · omega)
       | refine condP_dec (fun _ => ?_) (fun _ => ?_)
       | refine condP_ndec (fun _ => ?_) (fun _ => ?_)
       | refine condP_true rfl ?_
       | refine condP_false rfl ?_
       | refine condP_not (fun _ => ?_) (fun _ => ?_)
       | refine condP_intro (fun _ => ?_) (fun _ => ?_)
       | refine callP_eq (ev_iAreOps _ _ _ rdA) ?_
       | (refine callP_intro (ev_executed _ _ _ _ _ rdA rdA (by assumption)) ?_; rintro _ Sn ⟨hEn, cn, cn2, rfl, hFn⟩)
       | refine callP_eq (ev_iMayFlow _ _ _ _ _ _ rdA) ?_
       | (refine rd_lenm rdA ?_; intro hml; rw [maxLen_eq] at hml)
       | refine rd_idxm rdA (by intro _; rfl) (by constructor <;> omega) ?_
       | refine rd_loadf rdA (by intro _; exact trivial) (by constructor <;> omega) ?_
       | refine needP_intro (by first | omega | (constructor <;> omega)) ?_
       | refine And.intro ?_ ?_)
      all_goals first
        | exact hE
        | (exfalso; omega)
        | exact ⟨_, rfl, Fr.left (ds := [_]) (cs := [_]) hF rfl⟩
theorem ev_l21Zeros (S : Store) : EvA Tryz.prog 120 [] S (fun r S' => Ext S S' ∧ ∃ c', r = .v (.s c') ∧ Fr S.length S' [.sl 1 (zeros6.map dInt)] [c']) := by
  refine evA_intro tok Tryz.func120 (by kernel_rfl) rfl ?_
  repeat' ((conv => whnf) <;> first
   | rw [wrapI_i64 (by omega)]
   | (refine condP_true ?_ ?_; · assumption)
   | (refine condP_false ?_ ?_; · assumption)
   | (refine condP_nt ?_ ?_; · assumption)
   | (refine condP_nf ?_ ?_; · assumption)
   | (refine condP_decT ?_ ?_; · omega)
   | (refine condP_decF ?_ ?_; · omega)
   | (refine condP_ndT ?_ ?_; · omega)
   | (refine condP_ndF ?_ ?_; · omega)
   | refine condP_dec (fun _ => ?_) (fun _ => ?_)
   | refine condP_ndec (fun _ => ?_) (fun _ => ?_)
   | refine condP_true rfl ?_
   | refine condP_false rfl ?_
   | refine condP_not (fun _ => ?_) (fun _ => ?_)
   | refine condP_intro (fun _ => ?_) (fun _ => ?_)
   | refine needP_intro (by first | omega | (constructor <;> omega)) ?_
   | refine And.intro ?_ ?_)
  refine loop_intro {p : Nat × Store × C // p.1 ≤ 6 ∧ Ext S p.2.1 ∧ Fr S.length p.2.1 [.sl 1 ((List.replicate p.1 0).map dInt)] [p.2.2]} [1, 2, 4, 5, 6, 7, 8, 9, 10] (fun zb => [(2, .v (.s (.int .i64 (zb.1.1)))), (1, .v (.s zb.1.2.2))]) (fun zb => zb.1.2.1) (fun zb => 6 - zb.1.1) ⟨(0, _, _), Nat.zero_le _, Ext.push _ _, fr_lit0⟩ ?_ rfl ?_
  · (conv => whnf); repeat' (first | exact trivial | exact rfl | apply And.intro)
  rintro ⟨⟨i, Si, ci⟩, hi, hE, hF⟩; dsimp only
  replace hi : i ≤ 6 := hi
  replace hE : Ext S Si := hE
  replace hF : Fr S.length Si [.sl 1 ((List.replicate i 0).map dInt)] [ci] := hF
  have hfl : (List.replicate i (0 : Int)).length = i := List.length_replicate
  by_cases hlt : i < 6
  · repeat' ((conv => whnf) <;> first
     | rw [wrapI_i64 (by omega)]
     | (refine condP_true ?_ ?_; · assumption)
     | (refine condP_false ?_ ?_; · assumption)
     | (refine condP_nt ?_ ?_; · assumption)
     | (refine condP_nf ?_ ?_; · assumption)
     | (refine condP_decT ?_ ?_; · omega)
     | (refine condP_decF ?_ ?_; · omega)
     | (refine condP_ndT ?_ ?_; · omega)
     | (refine condP_ndF ?_ ?_; · omega)
     | refine condP_dec (fun _ => ?_) (fun _ => ?_)
     | refine condP_ndec (fun _ => ?_) (fun _ => ?_)
     | refine condP_true rfl ?_
     | refine condP_false rfl ?_
     | refine condP_not (fun _ => ?_) (fun _ => ?_)
     | refine condP_intro (fun _ => ?_) (fun _ => ?_)
     | refine needP_intro (by first | omega | (constructor <;> omega)) ?_
     | (refine fr_app1 (f := dInt) (x := 0) (by assumption) (by assumption) (by intro _; exact trivial) (by rfl) (by intro _; rfl) (by dsimp only [T3]; omega) (by omega) ?_; intro cN SN hEN hFN)
     | refine And.intro ?_ ?_)
    all_goals first
      | (exfalso; omega)
      | (refine ⟨⟨(i + 1, _, _), by dsimp only; omega, by assumption, by rw [List.replicate_succ']; assumption⟩, ?_, rfl, by dsimp only; omega⟩; (conv => whnf); repeat' (first | exact trivial | exact rfl | (show _ = _; congr 3; dsimp only; omega) | apply And.intro))
  · have he : i = 6 := by omega
    subst he
    repeat' ((conv => whnf) <;> first
     | rw [wrapI_i64 (by omega)]
     | (refine condP_true ?_ ?_; · assumption)
     | (refine condP_false ?_ ?_; · assumption)
     | (refine condP_nt ?_ ?_; · assumption)
     | (refine condP_nf ?_ ?_; · assumption)
     | (refine condP_decT ?_ ?_; · omega)
     | (refine condP_decF ?_ ?_; · omega)
     | (refine condP_ndT ?_ ?_; · omega)
     | (refine condP_ndF ?_ ?_; · omega)
     | refine condP_dec (fun _ => ?_) (fun _ => ?_)
     | refine condP_ndec (fun _ => ?_) (fun _ => ?_)
     | refine condP_true rfl ?_
     | refine condP_false rfl ?_
     | refine condP_not (fun _ => ?_) (fun _ => ?_)
     | refine condP_intro (fun _ => ?_) (fun _ => ?_)
     | refine needP_intro (by first | omega | (constructor <;> omega)) ?_
     | refine And.intro ?_ ?_)
    all_goals first
      | exact hE
      | (exfalso; omega)
      | exact ⟨_, rfl, hF⟩
set_option maxHeartbeats 4000000 in
theorem ev_l21Step (x : GOp) (values v b : List Int) (d0 : D) (c0 c1 cv cb : C) (S0 S : Store) (hE : Ext S0 S) (hF : Fr S0.length S [d0, .sl 1 (v.map dInt), .sl 1 (b.map dInt)] [c0, cv, cb]) (h : Rd S [.sl 1 (values.map dInt)] [c1]) (hx : isOp x = true) (g : GoodM v b) : EvA Tryz.prog 122 [.agg x.c, .s c1, .s cv, .s cb] S (fun r S' => Ext S0 S' ∧ Fr S0.length S' [d0, .sl 1 ((opV values x v).map dInt), .sl 1 ((opL x b).map dInt)] [c0, cv, cb] ∧ r = .tup [.agg (sentOf x v b).c, .s (.bool (decide (x.Kind = 5)))]) := by
  have hvl := g.vl
  have hbl := g.bl
  have r1 := hF.rdAt (o := 1) rfl rfl
  have r2 := hF.rdAt (o := 2) rfl rfl
  obtain ⟨hA, hc⟩ := op_cases hx
  rcases hc with ⟨hk, hB⟩ | ⟨hk, hB⟩ | ⟨hk, hB⟩ | ⟨hk, hB, hC⟩ | ⟨hk, hB, hC⟩
  · skip
    have hV : opV values x v = v.set x.A.toNat (valueOf values x.B) := by unfold opV; rw [if_pos hk]
    have hL : opL x b = b.set x.A.toNat ((2 ^ x.B.toNat : Nat) : Int) := by unfold opL; rw [if_pos hk]
    have hSF : sentOf x v b = ⟨0, 0, 0⟩ := by unfold sentOf; rw [if_neg (by omega)]
    have hdk : decide (x.Kind = 5) = false := decide_eq_false (by omega)
    rw [hSF, hdk, hV, hL]
    refine evA_intro tok Tryz.func122 (by kernel_rfl) rfl ?_
    repeat' ((conv => whnf) <;> first
     | rw [wrapI_i64 (by omega)]
     | (refine condP_true ?_ ?_; · assumption)
     | (refine condP_false ?_ ?_; · assumption)
     | (refine condP_nt ?_ ?_; · assumption)
     | (refine condP_nf ?_ ?_; · assumption)
     | (refine condP_decT ?_ ?_; · omega)
     | (refine condP_decF ?_ ?_; · omega)
     | (refine condP_ndT ?_ ?_; · omega)
     | (refine condP_ndF ?_ ?_; · omega)
     | refine condP_dec (fun _ => ?_) (fun _ => ?_)
     | refine condP_ndec (fun _ => ?_) (fun _ => ?_)
     | refine condP_true rfl ?_
     | refine condP_false rfl ?_
     | refine condP_not (fun _ => ?_) (fun _ => ?_)
     | refine condP_intro (fun _ => ?_) (fun _ => ?_)
     | refine callP_eq (ev_l21Value _ _ _ _ (by omega) rdA) ?_
     | refine callP_eq (ev_sLabelOf _ _ _ rdA) ?_
     | refine callP_eq (ev_sJoin _ _ _ (by assumption) (by assumption)) ?_
     | refine rd_idxm rdA (by intro _; rfl) (by constructor <;> omega) ?_
     | refine rd_loadf rdA (by intro _; exact trivial) (by constructor <;> omega) ?_
     | refine needP_intro (by first | omega | (constructor <;> omega)) ?_
     | refine draw_intro 14 [.fl 0, .fl 1, .fl 2, .fl 3, .fl 4, .fl 5, .st 6 [0, 1, 2], .fl 7, .st 8 []] (by rfl) (by kernel_rfl) ?_
     | refine draw_intro 22 [.fl 0, .fl 1, .fl 2, .fl 3, .fl 4, .fl 5, .st 6 [0, 1, 2], .fl 7, .st 8 []] (by rfl) (by kernel_rfl) ?_
     | refine draw_intro 44 [.fl 0, .fl 1, .fl 2, .fl 3, .fl 4, .fl 5, .fl 6, .fl 7, .fl 8, .fl 9, .fl 10, .fl 11, .fl 12, .fl 13, .fl 14, .fl 15, .st 16 []] (by rfl) (by kernel_rfl) ?_
     | refine draw_intro 60 [.fl 0, .fl 1, .fl 2, .fl 3, .fl 4, .fl 5, .fl 6, .fl 7, .fl 8, .fl 9, .fl 10, .fl 11, .fl 12, .st 13 [0, 1, 2], .fl 14, .st 15 []] (by rfl) (by kernel_rfl) ?_
     | refine draw_intro 77 [.fl 0, .fl 1, .fl 2, .fl 3, .fl 4, .fl 5, .fl 6, .fl 7, .fl 8, .fl 9, .fl 10, .fl 11, .fl 12, .fl 13, .fl 14, .fl 15, .fl 16, .fl 17, .st 18 [0, 1, 2, 3, 4, 5, 6, 7], .st 19 [0, 1, 2], .fl 20, .st 21 []] (by rfl) (by kernel_rfl) ?_
     | refine draw_intro 105 [.fl 0, .fl 1, .fl 2, .fl 3, .fl 4, .fl 5, .fl 6, .fl 7, .fl 8, .st 9 []] (by rfl) (by kernel_rfl) ?_
     | refine draw_intro 116 [.fl 0, .fl 1, .fl 2, .fl 3, .fl 4, .fl 5, .fl 6, .fl 7, .fl 8, .fl 9, .fl 10, .fl 11, .fl 12, .st 13 [], .st 14 []] (by rfl) (by kernel_rfl) ?_
     | (refine callP_eq (ev_sLabelOf [x.B] _ _ (fr_litF (f := dInt) [x.B] (fun _ => trivial) (by simp)).rd) ?_)
     | rw [label_one hB]
     | (refine fr_stoJ (q := 1) (by assumption) (by assumption) (by first | exact Ext.refl _ | exact Ext.push _ _) (by rfl) (by rfl) (by constructor <;> omega) ?_; intro SN hEN hFN hlN; have r1N := hFN.rdAt (o := 1) rfl rfl; have r2N := hFN.rdAt (o := 2) rfl rfl)
     | (refine fr_stoJ (q := 2) (by assumption) (by assumption) (by first | exact Ext.refl _ | exact Ext.push _ _) (by rfl) (by rfl) (by constructor <;> omega) ?_; intro SN hEN hFN hlN; have r1N := hFN.rdAt (o := 1) rfl rfl; have r2N := hFN.rdAt (o := 2) rfl rfl)
     | refine And.intro ?_ ?_)
    all_goals first
      | (exfalso; omega)
      | assumption
      | rfl
  · skip
    have hV : opV values x v = v := by unfold opV; rw [if_neg (by omega), if_neg (by omega), if_neg (by omega), if_neg (by omega)]
    have hL : opL x b = b := by unfold opL; rw [if_neg (by omega), if_neg (by omega), if_neg (by omega), if_neg (by omega)]
    have hSF : sentOf x v b = ⟨x.B, v[x.A.toNat]'(by omega), b[x.A.toNat]'(by omega)⟩ := by unfold sentOf; rw [if_pos hk, getI_at (by omega), getI_at (by omega)]
    have hdk : decide (x.Kind = 5) = true := decide_eq_true hk
    rw [hSF, hdk, hV, hL]
    refine evA_intro tok Tryz.func122 (by kernel_rfl) rfl ?_
    repeat' ((conv => whnf) <;> first
     | rw [wrapI_i64 (by omega)]
     | (refine condP_true ?_ ?_; · assumption)
     | (refine condP_false ?_ ?_; · assumption)
     | (refine condP_nt ?_ ?_; · assumption)
     | (refine condP_nf ?_ ?_; · assumption)
     | (refine condP_decT ?_ ?_; · omega)
     | (refine condP_decF ?_ ?_; · omega)
     | (refine condP_ndT ?_ ?_; · omega)
     | (refine condP_ndF ?_ ?_; · omega)
     | refine condP_dec (fun _ => ?_) (fun _ => ?_)
     | refine condP_ndec (fun _ => ?_) (fun _ => ?_)
     | refine condP_true rfl ?_
     | refine condP_false rfl ?_
     | refine condP_not (fun _ => ?_) (fun _ => ?_)
     | refine condP_intro (fun _ => ?_) (fun _ => ?_)
     | refine callP_eq (ev_l21Value _ _ _ _ (by omega) rdA) ?_
     | refine callP_eq (ev_sLabelOf _ _ _ rdA) ?_
     | refine callP_eq (ev_sJoin _ _ _ (by assumption) (by assumption)) ?_
     | refine rd_idxm rdA (by intro _; rfl) (by constructor <;> omega) ?_
     | refine rd_loadf rdA (by intro _; exact trivial) (by constructor <;> omega) ?_
     | refine needP_intro (by first | omega | (constructor <;> omega)) ?_
     | refine draw_intro 14 [.fl 0, .fl 1, .fl 2, .fl 3, .fl 4, .fl 5, .st 6 [0, 1, 2], .fl 7, .st 8 []] (by rfl) (by kernel_rfl) ?_
     | refine draw_intro 22 [.fl 0, .fl 1, .fl 2, .fl 3, .fl 4, .fl 5, .st 6 [0, 1, 2], .fl 7, .st 8 []] (by rfl) (by kernel_rfl) ?_
     | refine draw_intro 44 [.fl 0, .fl 1, .fl 2, .fl 3, .fl 4, .fl 5, .fl 6, .fl 7, .fl 8, .fl 9, .fl 10, .fl 11, .fl 12, .fl 13, .fl 14, .fl 15, .st 16 []] (by rfl) (by kernel_rfl) ?_
     | refine draw_intro 60 [.fl 0, .fl 1, .fl 2, .fl 3, .fl 4, .fl 5, .fl 6, .fl 7, .fl 8, .fl 9, .fl 10, .fl 11, .fl 12, .st 13 [0, 1, 2], .fl 14, .st 15 []] (by rfl) (by kernel_rfl) ?_
     | refine draw_intro 77 [.fl 0, .fl 1, .fl 2, .fl 3, .fl 4, .fl 5, .fl 6, .fl 7, .fl 8, .fl 9, .fl 10, .fl 11, .fl 12, .fl 13, .fl 14, .fl 15, .fl 16, .fl 17, .st 18 [0, 1, 2, 3, 4, 5, 6, 7], .st 19 [0, 1, 2], .fl 20, .st 21 []] (by rfl) (by kernel_rfl) ?_
     | refine draw_intro 105 [.fl 0, .fl 1, .fl 2, .fl 3, .fl 4, .fl 5, .fl 6, .fl 7, .fl 8, .st 9 []] (by rfl) (by kernel_rfl) ?_
     | refine draw_intro 116 [.fl 0, .fl 1, .fl 2, .fl 3, .fl 4, .fl 5, .fl 6, .fl 7, .fl 8, .fl 9, .fl 10, .fl 11, .fl 12, .st 13 [], .st 14 []] (by rfl) (by kernel_rfl) ?_
     | (refine fr_stoJ (q := 1) (by assumption) (by assumption) (by first | exact Ext.refl _ | exact Ext.push _ _) (by rfl) (by rfl) (by constructor <;> omega) ?_; intro SN hEN hFN hlN; have r1N := hFN.rdAt (o := 1) rfl rfl; have r2N := hFN.rdAt (o := 2) rfl rfl)
     | (refine fr_stoJ (q := 2) (by assumption) (by assumption) (by first | exact Ext.refl _ | exact Ext.push _ _) (by rfl) (by rfl) (by constructor <;> omega) ?_; intro SN hEN hFN hlN; have r1N := hFN.rdAt (o := 1) rfl rfl; have r2N := hFN.rdAt (o := 2) rfl rfl)
     | refine And.intro ?_ ?_)
    all_goals first
      | (exfalso; omega)
      | assumption
      | rfl
  · skip
    have hV : opV values x v = v.set x.A.toNat x.B := by unfold opV; rw [if_neg (by omega), if_pos hk]
    have hL : opL x b = b.set x.A.toNat 0 := by unfold opL; rw [if_neg (by omega), if_pos hk]
    have hSF : sentOf x v b = ⟨0, 0, 0⟩ := by unfold sentOf; rw [if_neg (by omega)]
    have hdk : decide (x.Kind = 5) = false := decide_eq_false (by omega)
    rw [hSF, hdk, hV, hL]
    refine evA_intro tok Tryz.func122 (by kernel_rfl) rfl ?_
    repeat' ((conv => whnf) <;> first
     | rw [wrapI_i64 (by omega)]
     | (refine condP_true ?_ ?_; · assumption)
     | (refine condP_false ?_ ?_; · assumption)
     | (refine condP_nt ?_ ?_; · assumption)
     | (refine condP_nf ?_ ?_; · assumption)
     | (refine condP_decT ?_ ?_; · omega)
     | (refine condP_decF ?_ ?_; · omega)
     | (refine condP_ndT ?_ ?_; · omega)
     | (refine condP_ndF ?_ ?_; · omega)
     | refine condP_dec (fun _ => ?_) (fun _ => ?_)
     | refine condP_ndec (fun _ => ?_) (fun _ => ?_)
     | refine condP_true rfl ?_
     | refine condP_false rfl ?_
     | refine condP_not (fun _ => ?_) (fun _ => ?_)
     | refine condP_intro (fun _ => ?_) (fun _ => ?_)
     | refine callP_eq (ev_l21Value _ _ _ _ (by omega) rdA) ?_
     | refine callP_eq (ev_sLabelOf _ _ _ rdA) ?_
     | refine callP_eq (ev_sJoin _ _ _ (by assumption) (by assumption)) ?_
     | refine rd_idxm rdA (by intro _; rfl) (by constructor <;> omega) ?_
     | refine rd_loadf rdA (by intro _; exact trivial) (by constructor <;> omega) ?_
     | refine needP_intro (by first | omega | (constructor <;> omega)) ?_
     | refine draw_intro 14 [.fl 0, .fl 1, .fl 2, .fl 3, .fl 4, .fl 5, .st 6 [0, 1, 2], .fl 7, .st 8 []] (by rfl) (by kernel_rfl) ?_
     | refine draw_intro 22 [.fl 0, .fl 1, .fl 2, .fl 3, .fl 4, .fl 5, .st 6 [0, 1, 2], .fl 7, .st 8 []] (by rfl) (by kernel_rfl) ?_
     | refine draw_intro 44 [.fl 0, .fl 1, .fl 2, .fl 3, .fl 4, .fl 5, .fl 6, .fl 7, .fl 8, .fl 9, .fl 10, .fl 11, .fl 12, .fl 13, .fl 14, .fl 15, .st 16 []] (by rfl) (by kernel_rfl) ?_
     | refine draw_intro 60 [.fl 0, .fl 1, .fl 2, .fl 3, .fl 4, .fl 5, .fl 6, .fl 7, .fl 8, .fl 9, .fl 10, .fl 11, .fl 12, .st 13 [0, 1, 2], .fl 14, .st 15 []] (by rfl) (by kernel_rfl) ?_
     | refine draw_intro 77 [.fl 0, .fl 1, .fl 2, .fl 3, .fl 4, .fl 5, .fl 6, .fl 7, .fl 8, .fl 9, .fl 10, .fl 11, .fl 12, .fl 13, .fl 14, .fl 15, .fl 16, .fl 17, .st 18 [0, 1, 2, 3, 4, 5, 6, 7], .st 19 [0, 1, 2], .fl 20, .st 21 []] (by rfl) (by kernel_rfl) ?_
     | refine draw_intro 105 [.fl 0, .fl 1, .fl 2, .fl 3, .fl 4, .fl 5, .fl 6, .fl 7, .fl 8, .st 9 []] (by rfl) (by kernel_rfl) ?_
     | refine draw_intro 116 [.fl 0, .fl 1, .fl 2, .fl 3, .fl 4, .fl 5, .fl 6, .fl 7, .fl 8, .fl 9, .fl 10, .fl 11, .fl 12, .st 13 [], .st 14 []] (by rfl) (by kernel_rfl) ?_
     | (refine fr_stoJ (q := 1) (by assumption) (by assumption) (by first | exact Ext.refl _ | exact Ext.push _ _) (by rfl) (by rfl) (by constructor <;> omega) ?_; intro SN hEN hFN hlN; have r1N := hFN.rdAt (o := 1) rfl rfl; have r2N := hFN.rdAt (o := 2) rfl rfl)
     | (refine fr_stoJ (q := 2) (by assumption) (by assumption) (by first | exact Ext.refl _ | exact Ext.push _ _) (by rfl) (by rfl) (by constructor <;> omega) ?_; intro SN hEN hFN hlN; have r1N := hFN.rdAt (o := 1) rfl rfl; have r2N := hFN.rdAt (o := 2) rfl rfl)
     | refine And.intro ?_ ?_)
    all_goals first
      | (exfalso; omega)
      | assumption
      | rfl
  · skip
    have hV : opV values x v = v.set x.A.toNat (Int.tmod (getI v x.B + getI v x.C) 1000) := by unfold opV; rw [if_neg (by omega), if_neg (by omega), if_pos hk]
    have hL : opL x b = b.set x.A.toNat (lorI (getI b x.B) (getI b x.C)) := by unfold opL; rw [if_neg (by omega), if_neg (by omega), if_pos hk]
    have v1 := g.getV hB
    have v2 := g.getV hC
    have b1 := isLabel_t (g.getB hB)
    have b2 := isLabel_t (g.getB hC)
    have B1 := g.getB hB
    have B2 := g.getB hC
    rw [getI_at (by omega)] at v1 v2 b1 b2 B1 B2
    rw [getI_at (by omega), getI_at (by omega)] at hV hL
    have hSF : sentOf x v b = ⟨0, 0, 0⟩ := by unfold sentOf; rw [if_neg (by omega)]
    have hdk : decide (x.Kind = 5) = false := decide_eq_false (by omega)
    rw [hSF, hdk, hV, hL]
    refine evA_intro tok Tryz.func122 (by kernel_rfl) rfl ?_
    repeat' ((conv => whnf) <;> first
     | rw [wrapI_i64 (by omega)]
     | (refine condP_true ?_ ?_; · assumption)
     | (refine condP_false ?_ ?_; · assumption)
     | (refine condP_nt ?_ ?_; · assumption)
     | (refine condP_nf ?_ ?_; · assumption)
     | (refine condP_decT ?_ ?_; · omega)
     | (refine condP_decF ?_ ?_; · omega)
     | (refine condP_ndT ?_ ?_; · omega)
     | (refine condP_ndF ?_ ?_; · omega)
     | refine condP_dec (fun _ => ?_) (fun _ => ?_)
     | refine condP_ndec (fun _ => ?_) (fun _ => ?_)
     | refine condP_true rfl ?_
     | refine condP_false rfl ?_
     | refine condP_not (fun _ => ?_) (fun _ => ?_)
     | refine condP_intro (fun _ => ?_) (fun _ => ?_)
     | refine callP_eq (ev_l21Value _ _ _ _ (by omega) rdA) ?_
     | refine callP_eq (ev_sLabelOf _ _ _ rdA) ?_
     | refine callP_eq (ev_sJoin _ _ _ (by assumption) (by assumption)) ?_
     | refine rd_idxm rdA (by intro _; rfl) (by constructor <;> omega) ?_
     | refine rd_loadf rdA (by intro _; exact trivial) (by constructor <;> omega) ?_
     | refine needP_intro (by first | omega | (constructor <;> omega)) ?_
     | refine draw_intro 14 [.fl 0, .fl 1, .fl 2, .fl 3, .fl 4, .fl 5, .st 6 [0, 1, 2], .fl 7, .st 8 []] (by rfl) (by kernel_rfl) ?_
     | refine draw_intro 22 [.fl 0, .fl 1, .fl 2, .fl 3, .fl 4, .fl 5, .st 6 [0, 1, 2], .fl 7, .st 8 []] (by rfl) (by kernel_rfl) ?_
     | refine draw_intro 44 [.fl 0, .fl 1, .fl 2, .fl 3, .fl 4, .fl 5, .fl 6, .fl 7, .fl 8, .fl 9, .fl 10, .fl 11, .fl 12, .fl 13, .fl 14, .fl 15, .st 16 []] (by rfl) (by kernel_rfl) ?_
     | refine draw_intro 60 [.fl 0, .fl 1, .fl 2, .fl 3, .fl 4, .fl 5, .fl 6, .fl 7, .fl 8, .fl 9, .fl 10, .fl 11, .fl 12, .st 13 [0, 1, 2], .fl 14, .st 15 []] (by rfl) (by kernel_rfl) ?_
     | refine draw_intro 77 [.fl 0, .fl 1, .fl 2, .fl 3, .fl 4, .fl 5, .fl 6, .fl 7, .fl 8, .fl 9, .fl 10, .fl 11, .fl 12, .fl 13, .fl 14, .fl 15, .fl 16, .fl 17, .st 18 [0, 1, 2, 3, 4, 5, 6, 7], .st 19 [0, 1, 2], .fl 20, .st 21 []] (by rfl) (by kernel_rfl) ?_
     | refine draw_intro 105 [.fl 0, .fl 1, .fl 2, .fl 3, .fl 4, .fl 5, .fl 6, .fl 7, .fl 8, .st 9 []] (by rfl) (by kernel_rfl) ?_
     | refine draw_intro 116 [.fl 0, .fl 1, .fl 2, .fl 3, .fl 4, .fl 5, .fl 6, .fl 7, .fl 8, .fl 9, .fl 10, .fl 11, .fl 12, .st 13 [], .st 14 []] (by rfl) (by kernel_rfl) ?_
     | (refine fr_stoJ (q := 1) (by assumption) (by assumption) (by first | exact Ext.refl _ | exact Ext.push _ _) (by rfl) (by rfl) (by constructor <;> omega) ?_; intro SN hEN hFN hlN; have r1N := hFN.rdAt (o := 1) rfl rfl; have r2N := hFN.rdAt (o := 2) rfl rfl)
     | (refine fr_stoJ (q := 2) (by assumption) (by assumption) (by first | exact Ext.refl _ | exact Ext.push _ _) (by rfl) (by rfl) (by constructor <;> omega) ?_; intro SN hEN hFN hlN; have r1N := hFN.rdAt (o := 1) rfl rfl; have r2N := hFN.rdAt (o := 2) rfl rfl)
     | refine And.intro ?_ ?_)
    all_goals first
      | (exfalso; omega)
      | assumption
      | rfl
  · skip
    have hV : opV values x v = (if Int.tmod (getI v x.B) 2 = 0 then v.set x.A.toNat (getI v x.C) else v) := by unfold opV; rw [if_neg (by omega), if_neg (by omega), if_neg (by omega), if_pos hk]
    have hL : opL x b = b.set x.A.toNat (lorI (lorI (getI b x.A) (getI b x.B)) (getI b x.C)) := by unfold opL; rw [if_neg (by omega), if_neg (by omega), if_neg (by omega), if_pos hk]
    have b0 := isLabel_t (g.getB hA)
    have b1 := isLabel_t (g.getB hB)
    have b2 := isLabel_t (g.getB hC)
    have B0 := g.getB hA
    have B1 := g.getB hB
    have B2 := g.getB hC
    have b3 := isLabel_t (lor_label B0 B1)
    have B3 := lor_label B1 B2
    rw [lor_assoc] at hL
    rw [getI_at (by omega)] at b0 b1 b2 B0 B1 B2
    rw [getI_at (by omega), getI_at (by omega)] at b3 B3 hV
    rw [getI_at (by omega), getI_at (by omega), getI_at (by omega)] at hL
    have hSF : sentOf x v b = ⟨0, 0, 0⟩ := by unfold sentOf; rw [if_neg (by omega)]
    have hdk : decide (x.Kind = 5) = false := decide_eq_false (by omega)
    by_cases h2 : Int.tmod (v[x.B.toNat]'(by omega)) 2 = 0
    · rw [if_pos h2] at hV
      rw [hSF, hdk, hV, hL]
      refine evA_intro tok Tryz.func122 (by kernel_rfl) rfl ?_
      repeat' ((conv => whnf) <;> first
       | rw [wrapI_i64 (by omega)]
       | (refine condP_true ?_ ?_; · assumption)
       | (refine condP_false ?_ ?_; · assumption)
       | (refine condP_nt ?_ ?_; · assumption)
       | (refine condP_nf ?_ ?_; · assumption)
       | (refine condP_decT ?_ ?_; · omega)
       | (refine condP_decF ?_ ?_; · omega)
       | (refine condP_ndT ?_ ?_; · omega)
       | (refine condP_ndF ?_ ?_; · omega)
       | refine condP_dec (fun _ => ?_) (fun _ => ?_)
       | refine condP_ndec (fun _ => ?_) (fun _ => ?_)
       | refine condP_true rfl ?_
       | refine condP_false rfl ?_
       | refine condP_not (fun _ => ?_) (fun _ => ?_)
       | refine condP_intro (fun _ => ?_) (fun _ => ?_)
       | refine callP_eq (ev_l21Value _ _ _ _ (by omega) rdA) ?_
       | refine callP_eq (ev_sLabelOf _ _ _ rdA) ?_
       | refine callP_eq (ev_sJoin _ _ _ (by assumption) (by assumption)) ?_
       | refine rd_idxm rdA (by intro _; rfl) (by constructor <;> omega) ?_
       | refine rd_loadf rdA (by intro _; exact trivial) (by constructor <;> omega) ?_
       | refine needP_intro (by first | omega | (constructor <;> omega)) ?_
       | refine draw_intro 14 [.fl 0, .fl 1, .fl 2, .fl 3, .fl 4, .fl 5, .st 6 [0, 1, 2], .fl 7, .st 8 []] (by rfl) (by kernel_rfl) ?_
       | refine draw_intro 22 [.fl 0, .fl 1, .fl 2, .fl 3, .fl 4, .fl 5, .st 6 [0, 1, 2], .fl 7, .st 8 []] (by rfl) (by kernel_rfl) ?_
       | refine draw_intro 44 [.fl 0, .fl 1, .fl 2, .fl 3, .fl 4, .fl 5, .fl 6, .fl 7, .fl 8, .fl 9, .fl 10, .fl 11, .fl 12, .fl 13, .fl 14, .fl 15, .st 16 []] (by rfl) (by kernel_rfl) ?_
       | refine draw_intro 60 [.fl 0, .fl 1, .fl 2, .fl 3, .fl 4, .fl 5, .fl 6, .fl 7, .fl 8, .fl 9, .fl 10, .fl 11, .fl 12, .st 13 [0, 1, 2], .fl 14, .st 15 []] (by rfl) (by kernel_rfl) ?_
       | refine draw_intro 77 [.fl 0, .fl 1, .fl 2, .fl 3, .fl 4, .fl 5, .fl 6, .fl 7, .fl 8, .fl 9, .fl 10, .fl 11, .fl 12, .fl 13, .fl 14, .fl 15, .fl 16, .fl 17, .st 18 [0, 1, 2, 3, 4, 5, 6, 7], .st 19 [0, 1, 2], .fl 20, .st 21 []] (by rfl) (by kernel_rfl) ?_
       | refine draw_intro 105 [.fl 0, .fl 1, .fl 2, .fl 3, .fl 4, .fl 5, .fl 6, .fl 7, .fl 8, .st 9 []] (by rfl) (by kernel_rfl) ?_
       | refine draw_intro 116 [.fl 0, .fl 1, .fl 2, .fl 3, .fl 4, .fl 5, .fl 6, .fl 7, .fl 8, .fl 9, .fl 10, .fl 11, .fl 12, .st 13 [], .st 14 []] (by rfl) (by kernel_rfl) ?_
       | (refine fr_stoJ (q := 1) (by assumption) (by assumption) (by first | exact Ext.refl _ | exact Ext.push _ _) (by rfl) (by rfl) (by constructor <;> omega) ?_; intro SN hEN hFN hlN; have r1N := hFN.rdAt (o := 1) rfl rfl; have r2N := hFN.rdAt (o := 2) rfl rfl)
       | (refine fr_stoJ (q := 2) (by assumption) (by assumption) (by first | exact Ext.refl _ | exact Ext.push _ _) (by rfl) (by rfl) (by constructor <;> omega) ?_; intro SN hEN hFN hlN; have r1N := hFN.rdAt (o := 1) rfl rfl; have r2N := hFN.rdAt (o := 2) rfl rfl)
       | refine And.intro ?_ ?_)
      all_goals first
        | (exfalso; omega)
        | assumption
        | rfl
    · rw [if_neg h2] at hV
      rw [hSF, hdk, hV, hL]
      refine evA_intro tok Tryz.func122 (by kernel_rfl) rfl ?_
      repeat' ((conv => whnf) <;> first
       | rw [wrapI_i64 (by omega)]
       | (refine condP_true ?_ ?_; · assumption)
       | (refine condP_false ?_ ?_; · assumption)
       | (refine condP_nt ?_ ?_; · assumption)
       | (refine condP_nf ?_ ?_; · assumption)
       | (refine condP_decT ?_ ?_; · omega)
       | (refine condP_decF ?_ ?_; · omega)
       | (refine condP_ndT ?_ ?_; · omega)
       | (refine condP_ndF ?_ ?_; · omega)
       | refine condP_dec (fun _ => ?_) (fun _ => ?_)
       | refine condP_ndec (fun _ => ?_) (fun _ => ?_)
       | refine condP_true rfl ?_
       | refine condP_false rfl ?_
       | refine condP_not (fun _ => ?_) (fun _ => ?_)
       | refine condP_intro (fun _ => ?_) (fun _ => ?_)
       | refine callP_eq (ev_l21Value _ _ _ _ (by omega) rdA) ?_
       | refine callP_eq (ev_sLabelOf _ _ _ rdA) ?_
       | refine callP_eq (ev_sJoin _ _ _ (by assumption) (by assumption)) ?_
       | refine rd_idxm rdA (by intro _; rfl) (by constructor <;> omega) ?_
       | refine rd_loadf rdA (by intro _; exact trivial) (by constructor <;> omega) ?_
       | refine needP_intro (by first | omega | (constructor <;> omega)) ?_
       | refine draw_intro 14 [.fl 0, .fl 1, .fl 2, .fl 3, .fl 4, .fl 5, .st 6 [0, 1, 2], .fl 7, .st 8 []] (by rfl) (by kernel_rfl) ?_
       | refine draw_intro 22 [.fl 0, .fl 1, .fl 2, .fl 3, .fl 4, .fl 5, .st 6 [0, 1, 2], .fl 7, .st 8 []] (by rfl) (by kernel_rfl) ?_
       | refine draw_intro 44 [.fl 0, .fl 1, .fl 2, .fl 3, .fl 4, .fl 5, .fl 6, .fl 7, .fl 8, .fl 9, .fl 10, .fl 11, .fl 12, .fl 13, .fl 14, .fl 15, .st 16 []] (by rfl) (by kernel_rfl) ?_
       | refine draw_intro 60 [.fl 0, .fl 1, .fl 2, .fl 3, .fl 4, .fl 5, .fl 6, .fl 7, .fl 8, .fl 9, .fl 10, .fl 11, .fl 12, .st 13 [0, 1, 2], .fl 14, .st 15 []] (by rfl) (by kernel_rfl) ?_
       | refine draw_intro 77 [.fl 0, .fl 1, .fl 2, .fl 3, .fl 4, .fl 5, .fl 6, .fl 7, .fl 8, .fl 9, .fl 10, .fl 11, .fl 12, .fl 13, .fl 14, .fl 15, .fl 16, .fl 17, .st 18 [0, 1, 2, 3, 4, 5, 6, 7], .st 19 [0, 1, 2], .fl 20, .st 21 []] (by rfl) (by kernel_rfl) ?_
       | refine draw_intro 105 [.fl 0, .fl 1, .fl 2, .fl 3, .fl 4, .fl 5, .fl 6, .fl 7, .fl 8, .st 9 []] (by rfl) (by kernel_rfl) ?_
       | refine draw_intro 116 [.fl 0, .fl 1, .fl 2, .fl 3, .fl 4, .fl 5, .fl 6, .fl 7, .fl 8, .fl 9, .fl 10, .fl 11, .fl 12, .st 13 [], .st 14 []] (by rfl) (by kernel_rfl) ?_
       | (refine fr_stoJ (q := 1) (by assumption) (by assumption) (by first | exact Ext.refl _ | exact Ext.push _ _) (by rfl) (by rfl) (by constructor <;> omega) ?_; intro SN hEN hFN hlN; have r1N := hFN.rdAt (o := 1) rfl rfl; have r2N := hFN.rdAt (o := 2) rfl rfl)
       | (refine fr_stoJ (q := 2) (by assumption) (by assumption) (by first | exact Ext.refl _ | exact Ext.push _ _) (by rfl) (by rfl) (by constructor <;> omega) ?_; intro SN hEN hFN hlN; have r1N := hFN.rdAt (o := 1) rfl rfl; have r2N := hFN.rdAt (o := 2) rfl rfl)
       | refine And.intro ?_ ?_)
      all_goals first
        | (exfalso; omega)
        | assumption
        | rfl
theorem ev_sRunOps (l : List GOp) (values : List Int) (flows : List GFlow) (ext : Int) (c c' c2 : C) (S : Store) (h : Rd S [.sl 4 (l.map GOp.d)] [c]) (h' : Rd S [.sl 1 (values.map dInt)] [c']) (h2 : Rd S [.sl 3 (flows.map GFlow.d)] [c2]) : EvA Tryz.prog 65 [.s c, .s c', .s c2, .s (.int .i64 ext)] S (fun r S' => Ext S S' ∧ ∃ d, r = .v (.s d) ∧ Fr S.length S' [.sl 3 ((runOps l values flows ext).map GSent.d)] [d]) := by
  refine evA_intro tok Tryz.func65 (by kernel_rfl) rfl ?_
  repeat' ((conv => whnf) <;> first
   | rw [wrapI_i64 (by omega)]
   | (refine condP_true ?_ ?_; · assumption)
   | (refine condP_false ?_ ?_; · assumption)
   | (refine condP_nt ?_ ?_; · assumption)
   | (refine condP_nf ?_ ?_; · assumption)
   | (refine condP_decT ?_ ?_; · omega)
   | (refine condP_decF ?_ ?_; · omega)
   | (refine condP_ndT ?_ ?_; · omega)
   | (refine condP_ndF ?_ ?_; · omega)
   | refine condP_dec (fun _ => ?_) (fun _ => ?_)
   | refine condP_ndec (fun _ => ?_) (fun _ => ?_)
   | refine condP_true rfl ?_
   | refine condP_false rfl ?_
   | refine condP_not (fun _ => ?_) (fun _ => ?_)
   | refine condP_intro (fun _ => ?_) (fun _ => ?_)
   | refine callP_eq (ev_sAreOps _ _ _ rdA) ?_
   | refine callP_eq (ev_sMayFlow _ _ _ _ _ _ rdA) ?_
   | (refine rd_lenm rdA ?_; intro hml; rw [maxLen_eq] at hml)
   | refine rd_idxm rdA (by intro _; rfl) (by constructor <;> omega) ?_
   | refine rd_loadf rdA (by intro _; exact trivial) (by constructor <;> omega) ?_
   | refine needP_intro (by first | omega | (constructor <;> omega)) ?_
   | refine And.intro ?_ ?_)
  (conv => whnf)
  refine callP_intro (ev_l21Zeros _) ?_; rintro _ S1 ⟨e1, cv, rfl, f1⟩
  repeat' ((conv => whnf) <;> first
   | rw [wrapI_i64 (by omega)]
   | (refine condP_true ?_ ?_; · assumption)
   | (refine condP_false ?_ ?_; · assumption)
   | (refine condP_nt ?_ ?_; · assumption)
   | (refine condP_nf ?_ ?_; · assumption)
   | (refine condP_decT ?_ ?_; · omega)
   | (refine condP_decF ?_ ?_; · omega)
   | (refine condP_ndT ?_ ?_; · omega)
   | (refine condP_ndF ?_ ?_; · omega)
   | refine condP_dec (fun _ => ?_) (fun _ => ?_)
   | refine condP_ndec (fun _ => ?_) (fun _ => ?_)
   | refine condP_true rfl ?_
   | refine condP_false rfl ?_
   | refine condP_not (fun _ => ?_) (fun _ => ?_)
   | refine condP_intro (fun _ => ?_) (fun _ => ?_)
   | refine callP_eq (ev_sAreOps _ _ _ rdA) ?_
   | refine callP_eq (ev_sMayFlow _ _ _ _ _ _ rdA) ?_
   | (refine rd_lenm rdA ?_; intro hml; rw [maxLen_eq] at hml)
   | refine rd_idxm rdA (by intro _; rfl) (by constructor <;> omega) ?_
   | refine rd_loadf rdA (by intro _; exact trivial) (by constructor <;> omega) ?_
   | refine needP_intro (by first | omega | (constructor <;> omega)) ?_
   | refine And.intro ?_ ?_)
  (conv => whnf)
  refine callP_intro (ev_l21Zeros _) ?_; rintro _ S2 ⟨e2, cb, rfl, f2⟩
  have f0 : Fr S.length S2 [.sl 3 [], .sl 1 (zeros6.map dInt), .sl 1 (zeros6.map dInt)] [.sl S.length 0 0 0, cv, cb] := ((fr_lit0 (S := S) (k := 3)).join e1 f1 (Ext.push S _).len).join e2 f2 ((Ext.push S _).trans e1).len
  have E2 : Ext S S2 := ((Ext.push _ _).trans e1).trans e2
  clear f1 f2
  rcases ho : areOps l with _ | _
  · rw [show runOps l values flows ext = [] from by unfold runOps; rw [ho]; rfl]
    repeat' ((conv => whnf) <;> first
     | rw [wrapI_i64 (by omega)]
     | (refine condP_true ?_ ?_; · assumption)
     | (refine condP_false ?_ ?_; · assumption)
     | (refine condP_nt ?_ ?_; · assumption)
     | (refine condP_nf ?_ ?_; · assumption)
     | (refine condP_decT ?_ ?_; · omega)
     | (refine condP_decF ?_ ?_; · omega)
     | (refine condP_ndT ?_ ?_; · omega)
     | (refine condP_ndF ?_ ?_; · omega)
     | refine condP_dec (fun _ => ?_) (fun _ => ?_)
     | refine condP_ndec (fun _ => ?_) (fun _ => ?_)
     | refine condP_true rfl ?_
     | refine condP_false rfl ?_
     | refine condP_not (fun _ => ?_) (fun _ => ?_)
     | refine condP_intro (fun _ => ?_) (fun _ => ?_)
     | refine callP_eq (ev_sAreOps _ _ _ rdA) ?_
     | refine callP_eq (ev_sMayFlow _ _ _ _ _ _ rdA) ?_
     | (refine rd_lenm rdA ?_; intro hml; rw [maxLen_eq] at hml)
     | refine rd_idxm rdA (by intro _; rfl) (by constructor <;> omega) ?_
     | refine rd_loadf rdA (by intro _; exact trivial) (by constructor <;> omega) ?_
     | refine needP_intro (by first | omega | (constructor <;> omega)) ?_
     | refine And.intro ?_ ?_)
    (conv => whnf)
    refine loop_intro Unit [9, 12, 13, 14, 18, 19, 20, 21, 22, 23, 24, 25, 26, 27, 28, 29, 30, 31, 32, 33, 34, 35, 36, 37, 38, 39, 40, 41, 42, 43, 44, 45, 46, 47, 48, 49, 50, 51, 52] (fun _ => [(12, .v (.s (.int .i64 0))), (9, .v (.s (.sl S.length 0 0 0)))]) (fun _ => S2) (fun _ => 0) () ?_ rfl ?_
    · (conv => whnf); repeat' (first | exact trivial | exact rfl | apply And.intro)
    intro _; dsimp only
    repeat' ((conv => whnf) <;> first
     | rw [wrapI_i64 (by omega)]
     | (refine condP_true ?_ ?_; · assumption)
     | (refine condP_false ?_ ?_; · assumption)
     | (refine condP_nt ?_ ?_; · assumption)
     | (refine condP_nf ?_ ?_; · assumption)
     | (refine condP_decT ?_ ?_; · omega)
     | (refine condP_decF ?_ ?_; · omega)
     | (refine condP_ndT ?_ ?_; · omega)
     | (refine condP_ndF ?_ ?_; · omega)
     | refine condP_dec (fun _ => ?_) (fun _ => ?_)
     | refine condP_ndec (fun _ => ?_) (fun _ => ?_)
     | refine condP_true rfl ?_
     | refine condP_false rfl ?_
     | refine condP_not (fun _ => ?_) (fun _ => ?_)
     | refine condP_intro (fun _ => ?_) (fun _ => ?_)
     | (refine callP_intro (ev_l21Zeros _) ?_; rintro _ Sn ⟨hEn, cn, rfl, hFn⟩)
     | refine callP_eq (ev_sAreOps _ _ _ rdA) ?_
     | (refine callP_intro (ev_l21Step _ _ _ _ _ _ _ _ _ _ _ (by assumption) (by assumption) rdA (by assumption) (by assumption)) ?_; rintro _ Sn ⟨hEn, hFn, rfl⟩)
     | refine callP_eq (ev_sMayFlow _ _ _ _ _ _ rdA) ?_
     | (refine rd_lenm rdA ?_; intro hml; rw [maxLen_eq] at hml)
     | refine rd_idxm rdA (by intro _; rfl) (by constructor <;> omega) ?_
     | refine rd_loadf rdA (by intro _; exact trivial) (by constructor <;> omega) ?_
     | refine needP_intro (by first | omega | (constructor <;> omega)) ?_
     | refine And.intro ?_ ?_)
    all_goals first
      | exact E2
      | exact ⟨_, rfl, Fr.left (ds := [_]) (cs := [_]) f0 rfl⟩
      | (exfalso; omega)
      | (exfalso; simp_all; done)
  · rw [show runOps l values flows ext = (mach values l).1.filter (sentOk flows ext) from by unfold runOps; rw [ho]; rfl]
    obtain ⟨hall, hl16⟩ := ops_all ho
    repeat' ((conv => whnf) <;> first
     | rw [wrapI_i64 (by omega)]
     | (refine condP_true ?_ ?_; · assumption)
     | (refine condP_false ?_ ?_; · assumption)
     | (refine condP_nt ?_ ?_; · assumption)
     | (refine condP_nf ?_ ?_; · assumption)
     | (refine condP_decT ?_ ?_; · omega)
     | (refine condP_decF ?_ ?_; · omega)
     | (refine condP_ndT ?_ ?_; · omega)
     | (refine condP_ndF ?_ ?_; · omega)
     | refine condP_dec (fun _ => ?_) (fun _ => ?_)
     | refine condP_ndec (fun _ => ?_) (fun _ => ?_)
     | refine condP_true rfl ?_
     | refine condP_false rfl ?_
     | refine condP_not (fun _ => ?_) (fun _ => ?_)
     | refine condP_intro (fun _ => ?_) (fun _ => ?_)
     | refine callP_eq (ev_sAreOps _ _ _ rdA) ?_
     | refine callP_eq (ev_sMayFlow _ _ _ _ _ _ rdA) ?_
     | (refine rd_lenm rdA ?_; intro hml; rw [maxLen_eq] at hml)
     | refine rd_idxm rdA (by intro _; rfl) (by constructor <;> omega) ?_
     | refine rd_loadf rdA (by intro _; exact trivial) (by constructor <;> omega) ?_
     | refine needP_intro (by first | omega | (constructor <;> omega)) ?_
     | refine And.intro ?_ ?_)
    (conv => whnf)
    refine loop_intro {p : Nat × Store × C // p.1 ≤ l.length ∧ Ext S p.2.1 ∧ Fr S.length p.2.1 [.sl 3 (((mach values (l.take p.1)).1.filter (sentOk flows ext)).map GSent.d), .sl 1 ((mach values (l.take p.1)).2.1.map dInt), .sl 1 ((mach values (l.take p.1)).2.2.map dInt)] [p.2.2, cv, cb]} [9, 12, 13, 14, 18, 19, 20, 21, 22, 23, 24, 25, 26, 27, 28, 29, 30, 31, 32, 33, 34, 35, 36, 37, 38, 39, 40, 41, 42, 43, 44, 45, 46, 47, 48, 49, 50, 51, 52] (fun zb => [(12, .v (.s (.int .i64 zb.1.1))), (9, .v (.s zb.1.2.2))]) (fun zb => zb.1.2.1) (fun zb => l.length - zb.1.1) ⟨(0, _, _), Nat.zero_le _, E2, f0⟩ ?_ rfl ?_
    · (conv => whnf); repeat' (first | exact trivial | exact rfl | apply And.intro)
    rintro ⟨⟨i, Si, ci⟩, hi, hE, hF⟩; dsimp only
    replace hi : i ≤ l.length := hi
    replace hE : Ext S Si := hE
    replace hF : Fr S.length Si [.sl 3 (((mach values (l.take i)).1.filter (sentOk flows ext)).map GSent.d), .sl 1 ((mach values (l.take i)).2.1.map dInt), .sl 1 ((mach values (l.take i)).2.2.map dInt)] [ci, cv, cb] := hF
    obtain ⟨g, gl⟩ := mach_good (values := values) hall i hi
    clear E2 f0 e1 e2
    by_cases hlt : i < l.length
    · have hmt := mach_take (values := values) hlt
      rcases hM : mach values (l.take i) with ⟨se, v, b⟩
      rw [hM] at hF g gl hmt
      dsimp only at hF g gl
      have hX : isOp (l[((i : Nat) : Int).toNat]'hlt) = true := hall _ (List.getElem_mem _)
      have hmt2 : mach values (l.take (i + 1)) = (se ++ opS (l[((i : Nat) : Int).toNat]'hlt) v b, opV values (l[((i : Nat) : Int).toNat]'hlt) v, opL (l[((i : Nat) : Int).toNat]'hlt) b) := hmt
      have hfl : (se.filter (sentOk flows ext)).length ≤ se.length := List.length_filter_le _ _
      repeat' ((conv => whnf) <;> first
       | rw [wrapI_i64 (by omega)]
       | (refine condP_true ?_ ?_; · assumption)
       | (refine condP_false ?_ ?_; · assumption)
       | (refine condP_nt ?_ ?_; · assumption)
       | (refine condP_nf ?_ ?_; · assumption)
       | (refine condP_decT ?_ ?_; · omega)
       | (refine condP_decF ?_ ?_; · omega)
       | (refine condP_ndT ?_ ?_; · omega)
       | (refine condP_ndF ?_ ?_; · omega)
       | refine condP_dec (fun _ => ?_) (fun _ => ?_)
       | refine condP_ndec (fun _ => ?_) (fun _ => ?_)
       | refine condP_true rfl ?_
       | refine condP_false rfl ?_
       | refine condP_not (fun _ => ?_) (fun _ => ?_)
       | refine condP_intro (fun _ => ?_) (fun _ => ?_)
       | refine callP_eq (ev_sAreOps _ _ _ rdA) ?_
       | refine callP_eq (ev_sMayFlow _ _ _ _ _ _ rdA) ?_
       | (refine rd_lenm rdA ?_; intro hml; rw [maxLen_eq] at hml)
       | refine rd_idxm rdA (by intro _; rfl) (by constructor <;> omega) ?_
       | refine rd_loadf rdA (by intro _; exact trivial) (by constructor <;> omega) ?_
       | refine needP_intro (by first | omega | (constructor <;> omega)) ?_
       | refine And.intro ?_ ?_)
      all_goals try (exfalso; omega)
      (conv => whnf)
      refine callP_intro (ev_l21Step (l[((i : Nat) : Int).toNat]'hlt) values v b _ _ _ _ _ _ _ hE hF (h'.ext hE) hX g) ?_; rintro _ S5 ⟨e5, f5, rfl⟩
      by_cases hk : (l[((i : Nat) : Int).toNat]'hlt).Kind = 5
      · have hd : decide ((l[((i : Nat) : Int).toNat]'hlt).Kind = 5) = true := decide_eq_true hk
        rw [hd]
        have hS : opS (l[((i : Nat) : Int).toNat]'hlt) v b = [sentOf (l[((i : Nat) : Int).toNat]'hlt) v b] := by unfold opS; rw [if_pos hk]
        rw [hS] at hmt2
        generalize hsn : sentOf (l[((i : Nat) : Int).toNat]'hlt) v b = sn at *
        rcases hP : sentOk flows ext sn with _ | _
        · have hp : (se ++ [sn]).filter (sentOk flows ext) = se.filter (sentOk flows ext) := by rw [List.filter_append]; simp [hP]
          unfold sentOk at hP
          repeat' ((conv => whnf) <;> first
           | rw [wrapI_i64 (by omega)]
           | (refine condP_true ?_ ?_; · assumption)
           | (refine condP_false ?_ ?_; · assumption)
           | (refine condP_nt ?_ ?_; · assumption)
           | (refine condP_nf ?_ ?_; · assumption)
           | (refine condP_decT ?_ ?_; · omega)
           | (refine condP_decF ?_ ?_; · omega)
           | (refine condP_ndT ?_ ?_; · omega)
           | (refine condP_ndF ?_ ?_; · omega)
           | refine condP_dec (fun _ => ?_) (fun _ => ?_)
           | refine condP_ndec (fun _ => ?_) (fun _ => ?_)
           | refine condP_true rfl ?_
           | refine condP_false rfl ?_
           | refine condP_not (fun _ => ?_) (fun _ => ?_)
           | refine condP_intro (fun _ => ?_) (fun _ => ?_)
           | (refine callP_intro (ev_l21Zeros _) ?_; rintro _ Sn ⟨hEn, cn, rfl, hFn⟩)
           | refine callP_eq (ev_sAreOps _ _ _ rdA) ?_
           | (refine callP_intro (ev_l21Step _ _ _ _ _ _ _ _ _ _ _ (by assumption) (by assumption) rdA (by assumption) (by assumption)) ?_; rintro _ Sn ⟨hEn, hFn, rfl⟩)
           | refine callP_eq (ev_sMayFlow _ _ _ _ _ _ rdA) ?_
           | (refine rd_lenm rdA ?_; intro hml; rw [maxLen_eq] at hml)
           | refine rd_idxm rdA (by intro _; rfl) (by constructor <;> omega) ?_
           | refine rd_loadf rdA (by intro _; exact trivial) (by constructor <;> omega) ?_
           | refine needP_intro (by first | omega | (constructor <;> omega)) ?_
           | refine And.intro ?_ ?_)
          all_goals first
            | (exfalso; omega)
            | (refine ⟨⟨(i + 1, _, _), by dsimp only; omega, e5, by rw [hmt2]; dsimp only; rw [hp]; exact f5⟩, ?_, rfl, by dsimp only; omega⟩; (conv => whnf); repeat' (first | exact trivial | exact rfl | (show _ = _; congr 3; dsimp only; omega) | apply And.intro))
        · have hp : (se ++ [sn]).filter (sentOk flows ext) = se.filter (sentOk flows ext) ++ [sn] := by rw [List.filter_append]; simp [hP]
          unfold sentOk at hP
          repeat' ((conv => whnf) <;> first
           | rw [wrapI_i64 (by omega)]
           | (refine condP_true ?_ ?_; · assumption)
           | (refine condP_false ?_ ?_; · assumption)
           | (refine condP_nt ?_ ?_; · assumption)
           | (refine condP_nf ?_ ?_; · assumption)
           | (refine condP_decT ?_ ?_; · omega)
           | (refine condP_decF ?_ ?_; · omega)
           | (refine condP_ndT ?_ ?_; · omega)
           | (refine condP_ndF ?_ ?_; · omega)
           | refine condP_dec (fun _ => ?_) (fun _ => ?_)
           | refine condP_ndec (fun _ => ?_) (fun _ => ?_)
           | refine condP_true rfl ?_
           | refine condP_false rfl ?_
           | refine condP_not (fun _ => ?_) (fun _ => ?_)
           | refine condP_intro (fun _ => ?_) (fun _ => ?_)
           | (refine callP_intro (ev_l21Zeros _) ?_; rintro _ Sn ⟨hEn, cn, rfl, hFn⟩)
           | refine callP_eq (ev_sAreOps _ _ _ rdA) ?_
           | (refine callP_intro (ev_l21Step _ _ _ _ _ _ _ _ _ _ _ (by assumption) (by assumption) rdA (by assumption) (by assumption)) ?_; rintro _ Sn ⟨hEn, hFn, rfl⟩)
           | refine callP_eq (ev_sMayFlow _ _ _ _ _ _ rdA) ?_
           | (refine rd_lenm rdA ?_; intro hml; rw [maxLen_eq] at hml)
           | refine rd_idxm rdA (by intro _; rfl) (by constructor <;> omega) ?_
           | refine rd_loadf rdA (by intro _; exact trivial) (by constructor <;> omega) ?_
           | refine needP_intro (by first | omega | (constructor <;> omega)) ?_
           | (refine fr_appAtF (f := GSent.d) (o := 0) (l := se.filter (sentOk flows ext)) (m := [sn]) (fun _ => trivial) e5 f5 rfl rfl (by rfl) (by intro _; rfl) (by dsimp only [T110]; simp only [List.length_cons, List.length_nil]; omega) (by simp only [List.length_cons, List.length_nil]; omega) ?_; intro cN SN hEN hFN hlN)
           | refine And.intro ?_ ?_)
          all_goals first
            | (exfalso; omega)
            | (refine ⟨⟨(i + 1, _, _), by dsimp only; omega, by assumption, by rw [hmt2]; dsimp only; rw [hp]; exact hFN⟩, ?_, rfl, by dsimp only; omega⟩; (conv => whnf); repeat' (first | exact trivial | exact rfl | (show _ = _; congr 3; dsimp only; omega) | apply And.intro))
      · have hd : decide ((l[((i : Nat) : Int).toNat]'hlt).Kind = 5) = false := decide_eq_false hk
        rw [hd]
        have hS : opS (l[((i : Nat) : Int).toNat]'hlt) v b = [] := by unfold opS; rw [if_neg hk]
        rw [hS, List.append_nil] at hmt2
        repeat' ((conv => whnf) <;> first
         | rw [wrapI_i64 (by omega)]
         | (refine condP_true ?_ ?_; · assumption)
         | (refine condP_false ?_ ?_; · assumption)
         | (refine condP_nt ?_ ?_; · assumption)
         | (refine condP_nf ?_ ?_; · assumption)
         | (refine condP_decT ?_ ?_; · omega)
         | (refine condP_decF ?_ ?_; · omega)
         | (refine condP_ndT ?_ ?_; · omega)
         | (refine condP_ndF ?_ ?_; · omega)
         | refine condP_dec (fun _ => ?_) (fun _ => ?_)
         | refine condP_ndec (fun _ => ?_) (fun _ => ?_)
         | refine condP_true rfl ?_
         | refine condP_false rfl ?_
         | refine condP_not (fun _ => ?_) (fun _ => ?_)
         | refine condP_intro (fun _ => ?_) (fun _ => ?_)
         | (refine callP_intro (ev_l21Zeros _) ?_; rintro _ Sn ⟨hEn, cn, rfl, hFn⟩)
         | refine callP_eq (ev_sAreOps _ _ _ rdA) ?_
         | (refine callP_intro (ev_l21Step _ _ _ _ _ _ _ _ _ _ _ (by assumption) (by assumption) rdA (by assumption) (by assumption)) ?_; rintro _ Sn ⟨hEn, hFn, rfl⟩)
         | refine callP_eq (ev_sMayFlow _ _ _ _ _ _ rdA) ?_
         | (refine rd_lenm rdA ?_; intro hml; rw [maxLen_eq] at hml)
         | refine rd_idxm rdA (by intro _; rfl) (by constructor <;> omega) ?_
         | refine rd_loadf rdA (by intro _; exact trivial) (by constructor <;> omega) ?_
         | refine needP_intro (by first | omega | (constructor <;> omega)) ?_
         | refine And.intro ?_ ?_)
        all_goals first
          | (exfalso; omega)
          | (refine ⟨⟨(i + 1, _, _), by dsimp only; omega, e5, by rw [hmt2]; exact f5⟩, ?_, rfl, by dsimp only; omega⟩; (conv => whnf); repeat' (first | exact trivial | exact rfl | (show _ = _; congr 3; dsimp only; omega) | apply And.intro))
    · rw [List.take_of_length_le (by omega)] at hF
      repeat' ((conv => whnf) <;> first
       | rw [wrapI_i64 (by omega)]
       | (refine condP_true ?_ ?_; · assumption)
       | (refine condP_false ?_ ?_; · assumption)
       | (refine condP_nt ?_ ?_; · assumption)
       | (refine condP_nf ?_ ?_; · assumption)
       | (refine condP_decT ?_ ?_; · omega)
       | (refine condP_decF ?_ ?_; · omega)
       | (refine condP_ndT ?_ ?_; · omega)
       | (refine condP_ndF ?_ ?_; · omega)
       | refine condP_dec (fun _ => ?_) (fun _ => ?_)
       | refine condP_ndec (fun _ => ?_) (fun _ => ?_)
       | refine condP_true rfl ?_
       | refine condP_false rfl ?_
       | refine condP_not (fun _ => ?_) (fun _ => ?_)
       | refine condP_intro (fun _ => ?_) (fun _ => ?_)
       | (refine callP_intro (ev_l21Zeros _) ?_; rintro _ Sn ⟨hEn, cn, rfl, hFn⟩)
       | refine callP_eq (ev_sAreOps _ _ _ rdA) ?_
       | (refine callP_intro (ev_l21Step _ _ _ _ _ _ _ _ _ _ _ (by assumption) (by assumption) rdA (by assumption) (by assumption)) ?_; rintro _ Sn ⟨hEn, hFn, rfl⟩)
       | refine callP_eq (ev_sMayFlow _ _ _ _ _ _ rdA) ?_
       | (refine rd_lenm rdA ?_; intro hml; rw [maxLen_eq] at hml)
       | refine rd_idxm rdA (by intro _; rfl) (by constructor <;> omega) ?_
       | refine rd_loadf rdA (by intro _; exact trivial) (by constructor <;> omega) ?_
       | refine needP_intro (by first | omega | (constructor <;> omega)) ?_
       | refine And.intro ?_ ?_)
      all_goals first
        | exact hE
        | (exfalso; omega)
        | exact ⟨_, rfl, Fr.left (ds := [_]) (cs := [_]) hF rfl⟩
def sentFrom (b : GBrowser) (ext : Int) (values : List Int) : List GSent := if 0 ≤ packOf b ext then (runOps (packageOf b ext).Ops (valuesFor b ext values) (packageOf b ext).Flows ext).filter (fun s => mayNow b ext s.To 3) else []
theorem sentFrom_len (b : GBrowser) (ext : Int) (values : List Int) : (sentFrom b ext values).length ≤ 16 := by
  unfold sentFrom
  split
  · exact Nat.le_trans (List.length_filter_le _ _) (runOps_len _ _ _ _)
  · exact Nat.zero_le _
theorem ev_sSentFrom (b : GBrowser) (ext : Int) (values : List Int) (cs : List C) (c : C) (S : Store) (h : Rd S b.d cs) (h' : Rd S [.sl 1 (values.map dInt)] [c]) : EvA Tryz.prog 13 [.agg cs, .s (.int .i64 ext), .s c] S (fun r S' => Ext S S' ∧ ∃ d, r = .v (.s d) ∧ Fr S.length S' [.sl 3 ((sentFrom b ext values).map GSent.d)] [d]) := by
  obtain ⟨_, _, _, _, _, _, rfl, _, _, _, _, _, _⟩ := GBrowser.inv h
  by_cases hp0 : 0 ≤ packOf b ext
  · have hpl : (packOf b ext).toNat < b.Packs.length := by have := packOf_lt b ext; omega
    have hp1 : 0 ≤ packOf b ext ∧ (packOf b ext).toNat < b.Packs.length := ⟨hp0, hpl⟩
    rw [show sentFrom b ext values = (runOps (b.Packs[(packOf b ext).toNat]'hpl).Ops (valuesFor b ext values) (b.Packs[(packOf b ext).toNat]'hpl).Flows ext).filter (fun s => mayNow b ext s.To 3) from by unfold sentFrom; rw [if_pos hp0, packageOf_in hp0 hpl]]
    have hrl := runOps_len (b.Packs[(packOf b ext).toNat]'hpl).Ops (valuesFor b ext values) (b.Packs[(packOf b ext).toNat]'hpl).Flows ext
    have hpk : Rd S [.sl 8 (b.Packs.map GPackage.d)] _ := (by assumption)
    obtain ⟨pcs, hpr, hpld⟩ := rd_loadx hpk hp1
    obtain ⟨_, _, _, _, rfl, _, _, _, _⟩ := GPackage.inv hpr
    refine evA_intro tok Tryz.func13 (by kernel_rfl) rfl ?_
    repeat' ((conv => whnf) <;> first
     | refine hpld _ (by first | assumption | exact Ext.push _ _) _ ?_
     | rw [wrapI_i64 (by omega)]
     | (refine condP_true ?_ ?_; · assumption)
     | (refine condP_false ?_ ?_; · assumption)
     | (refine condP_nt ?_ ?_; · assumption)
     | (refine condP_nf ?_ ?_; · assumption)
     | (refine condP_decT ?_ ?_; · omega)
     | (refine condP_decF ?_ ?_; · omega)
     | (refine condP_ndT ?_ ?_; · omega)
     | (refine condP_ndF ?_ ?_; · omega)
     | refine condP_dec (fun _ => ?_) (fun _ => ?_)
     | refine condP_ndec (fun _ => ?_) (fun _ => ?_)
     | refine condP_true rfl ?_
     | refine condP_false rfl ?_
     | refine condP_not (fun _ => ?_) (fun _ => ?_)
     | refine condP_intro (fun _ => ?_) (fun _ => ?_)
     | (refine callP_eq (ev_sPackOf _ _ _ _ rdcA) ?_)
     | (refine callP_eq (ev_l34May _ _ _ _ _ _ rdcA) ?_)
     | (refine rd_lenm rdA ?_; intro hml; rw [maxLen_eq] at hml)
     | refine rd_idxm rdA (by intro _; rfl) (by constructor <;> omega) ?_
     | refine rd_loadf rdA (by intro _; exact trivial) (by constructor <;> omega) ?_
     | (refine rd_loadm (f := GPackage.d) rdA (by constructor <;> omega) ?_; intro _ hcs; obtain ⟨_, _, _, _, rfl, _, _, _, _⟩ := GPackage.inv hcs)
     | refine needP_intro (by first | omega | (constructor <;> omega)) ?_
     | refine draw_intro 18 [.fl 0, .fl 1, .fl 2, .fl 3, .fl 4, .fl 5, .fl 6, .fl 7, .fl 8, .fl 10, .fl 11, .fl 12, .fl 13, .fl 14, .fl 15, .fl 16, .st 9 [0, 1, 2, 3, 4, 5, 10, 11, 12, 13, 14, 15, 16], .st 17 [], .st 18 []] (by rfl) (by kernel_rfl) ?_
     | refine draw_intro 42 [.fl 0, .fl 1, .fl 2, .fl 3, .fl 4, .fl 5, .fl 6, .st 7 []] (by rfl) (by kernel_rfl) ?_
     | refine And.intro ?_ ?_)
    (conv => whnf)
    refine callP_intro (ev_sValuesFor b ext values _ _ _ (h.ext (Ext.push _ _)) (h'.ext (Ext.push _ _))) ?_; rintro _ S1 ⟨e1, cv, rfl, fv⟩
    have E1 : Ext S S1 := (Ext.push _ _).trans e1
    repeat' ((conv => whnf) <;> first
     | refine hpld _ (by first | assumption | exact Ext.push _ _) _ ?_
     | rw [wrapI_i64 (by omega)]
     | (refine condP_true ?_ ?_; · assumption)
     | (refine condP_false ?_ ?_; · assumption)
     | (refine condP_nt ?_ ?_; · assumption)
     | (refine condP_nf ?_ ?_; · assumption)
     | (refine condP_decT ?_ ?_; · omega)
     | (refine condP_decF ?_ ?_; · omega)
     | (refine condP_ndT ?_ ?_; · omega)
     | (refine condP_ndF ?_ ?_; · omega)
     | refine condP_dec (fun _ => ?_) (fun _ => ?_)
     | refine condP_ndec (fun _ => ?_) (fun _ => ?_)
     | refine condP_true rfl ?_
     | refine condP_false rfl ?_
     | refine condP_not (fun _ => ?_) (fun _ => ?_)
     | refine condP_intro (fun _ => ?_) (fun _ => ?_)
     | (refine callP_eq (ev_sPackOf _ _ _ _ rdcA) ?_)
     | (refine callP_eq (ev_l34May _ _ _ _ _ _ rdcA) ?_)
     | (refine rd_lenm rdA ?_; intro hml; rw [maxLen_eq] at hml)
     | refine rd_idxm rdA (by intro _; rfl) (by constructor <;> omega) ?_
     | refine rd_loadf rdA (by intro _; exact trivial) (by constructor <;> omega) ?_
     | (refine rd_loadm (f := GPackage.d) rdA (by constructor <;> omega) ?_; intro _ hcs; obtain ⟨_, _, _, _, rfl, _, _, _, _⟩ := GPackage.inv hcs)
     | refine needP_intro (by first | omega | (constructor <;> omega)) ?_
     | refine draw_intro 18 [.fl 0, .fl 1, .fl 2, .fl 3, .fl 4, .fl 5, .fl 6, .fl 7, .fl 8, .fl 10, .fl 11, .fl 12, .fl 13, .fl 14, .fl 15, .fl 16, .st 9 [0, 1, 2, 3, 4, 5, 10, 11, 12, 13, 14, 15, 16], .st 17 [], .st 18 []] (by rfl) (by kernel_rfl) ?_
     | refine draw_intro 42 [.fl 0, .fl 1, .fl 2, .fl 3, .fl 4, .fl 5, .fl 6, .st 7 []] (by rfl) (by kernel_rfl) ?_
     | refine And.intro ?_ ?_)
    (conv => whnf)
    refine callP_intro (ev_sRunOps (b.Packs[(packOf b ext).toNat]'hpl).Ops (valuesFor b ext values) (b.Packs[(packOf b ext).toNat]'hpl).Flows ext _ _ _ _ rdA fv.rd rdA) ?_; rintro _ S2 ⟨e2, cx, rfl, fx⟩
    have f0 := (fr_lit0 (S := S) (k := 3)).join (e1.trans e2) (fx.mono e1.len) (Ext.push S _).len
    have E2 : Ext S S2 := E1.trans e2
    generalize runOps (b.Packs[(packOf b ext).toNat]'hpl).Ops (valuesFor b ext values) (b.Packs[(packOf b ext).toNat]'hpl).Flows ext = x at *
    have r1 := f0.rdAt (o := 1) (d := .sl 3 (x.map GSent.d)) rfl rfl
    clear fx fv
    repeat' ((conv => whnf) <;> first
     | rw [wrapI_i64 (by omega)]
     | (refine condP_true ?_ ?_; · assumption)
     | (refine condP_false ?_ ?_; · assumption)
     | (refine condP_nt ?_ ?_; · assumption)
     | (refine condP_nf ?_ ?_; · assumption)
     | (refine condP_decT ?_ ?_; · omega)
     | (refine condP_decF ?_ ?_; · omega)
     | (refine condP_ndT ?_ ?_; · omega)
     | (refine condP_ndF ?_ ?_; · omega)
     | refine condP_dec (fun _ => ?_) (fun _ => ?_)
     | refine condP_ndec (fun _ => ?_) (fun _ => ?_)
     | refine condP_true rfl ?_
     | refine condP_false rfl ?_
     | refine condP_not (fun _ => ?_) (fun _ => ?_)
     | refine condP_intro (fun _ => ?_) (fun _ => ?_)
     | (refine callP_eq (ev_sPackOf _ _ _ _ rdcA) ?_)
     | (refine callP_eq (ev_l34May _ _ _ _ _ _ rdcA) ?_)
     | (refine rd_lenm rdA ?_; intro hml; rw [maxLen_eq] at hml)
     | refine rd_idxm rdA (by intro _; rfl) (by constructor <;> omega) ?_
     | refine rd_loadf rdA (by intro _; exact trivial) (by constructor <;> omega) ?_
     | (refine rd_loadm (f := GPackage.d) rdA (by constructor <;> omega) ?_; intro _ hcs; obtain ⟨_, _, _, _, rfl, _, _, _, _⟩ := GPackage.inv hcs)
     | refine needP_intro (by first | omega | (constructor <;> omega)) ?_
     | refine draw_intro 18 [.fl 0, .fl 1, .fl 2, .fl 3, .fl 4, .fl 5, .fl 6, .fl 7, .fl 8, .fl 10, .fl 11, .fl 12, .fl 13, .fl 14, .fl 15, .fl 16, .st 9 [0, 1, 2, 3, 4, 5, 10, 11, 12, 13, 14, 15, 16], .st 17 [], .st 18 []] (by rfl) (by kernel_rfl) ?_
     | refine draw_intro 42 [.fl 0, .fl 1, .fl 2, .fl 3, .fl 4, .fl 5, .fl 6, .st 7 []] (by rfl) (by kernel_rfl) ?_
     | refine And.intro ?_ ?_)
    (conv => whnf)
    refine loop_intro {p : Nat × Store × C // p.1 ≤ x.length ∧ Ext S p.2.1 ∧ Fr S.length p.2.1 [.sl 3 (((x.take p.1).filter (fun s => mayNow b ext s.To 3)).map GSent.d), .sl 3 (x.map GSent.d)] [p.2.2, cx]} [7, 10, 36, 37, 38, 39, 40, 41, 42, 43, 44, 45, 46, 47, 48, 49, 50, 51, 52, 53, 54, 55, 56] (fun zb => [(10, .v (.s (.int .i64 zb.1.1))), (7, .v (.s zb.1.2.2))]) (fun zb => zb.1.2.1) (fun zb => x.length - zb.1.1) ⟨(0, _, _), Nat.zero_le _, E2, f0⟩ ?_ rfl ?_
    · (conv => whnf); repeat' (first | exact trivial | exact rfl | apply And.intro)
    rintro ⟨⟨i, Si, ci⟩, hi, hE, hF⟩; dsimp only
    replace hi : i ≤ x.length := hi
    replace hE : Ext S Si := hE
    replace hF : Fr S.length Si [.sl 3 (((x.take i).filter (fun s => mayNow b ext s.To 3)).map GSent.d), .sl 3 (x.map GSent.d)] [ci, cx] := hF
    have r2 := hF.rdAt (o := 1) (d := .sl 3 (x.map GSent.d)) rfl rfl
    have hfl := filter_len (fun s => mayNow b ext s.To 3) x i
    have hbr := h.ext hE
    by_cases hlt : i < x.length
    · rcases hP : mayNow b ext (x[((i : Nat) : Int).toNat]'hlt).To 3 with _ | _
      · have hp := filter_f (P := fun s : GSent => mayNow b ext s.To 3) hlt hP
        repeat' ((conv => whnf) <;> first
         | rw [wrapI_i64 (by omega)]
         | (refine condP_true ?_ ?_; · assumption)
         | (refine condP_false ?_ ?_; · assumption)
         | (refine condP_nt ?_ ?_; · assumption)
         | (refine condP_nf ?_ ?_; · assumption)
         | (refine condP_decT ?_ ?_; · omega)
         | (refine condP_decF ?_ ?_; · omega)
         | (refine condP_ndT ?_ ?_; · omega)
         | (refine condP_ndF ?_ ?_; · omega)
         | refine condP_dec (fun _ => ?_) (fun _ => ?_)
         | refine condP_ndec (fun _ => ?_) (fun _ => ?_)
         | refine condP_true rfl ?_
         | refine condP_false rfl ?_
         | refine condP_not (fun _ => ?_) (fun _ => ?_)
         | refine condP_intro (fun _ => ?_) (fun _ => ?_)
         | (refine callP_eq (ev_sPackOf _ _ _ _ rdcA) ?_)
         | (refine callP_intro (ev_sRunOps _ _ _ _ _ _ _ _ rdA rdA rdA) ?_; rintro _ Sn ⟨hEn, cn, rfl, hFn⟩)
         | (refine callP_intro (ev_sValuesFor _ _ _ _ _ _ rdcA rdA) ?_; rintro _ Sn ⟨hEn, cn, rfl, hFn⟩)
         | (refine callP_eq (ev_l34May _ _ _ _ _ _ rdcA) ?_)
         | (refine rd_lenm rdA ?_; intro hml; rw [maxLen_eq] at hml)
         | refine rd_idxm rdA (by intro _; rfl) (by constructor <;> omega) ?_
         | refine rd_loadf rdA (by intro _; exact trivial) (by constructor <;> omega) ?_
         | (refine rd_loadm (f := GPackage.d) rdA (by constructor <;> omega) ?_; intro _ hcs; obtain ⟨_, _, _, _, rfl, _, _, _, _⟩ := GPackage.inv hcs)
         | refine needP_intro (by first | omega | (constructor <;> omega)) ?_
         | refine draw_intro 18 [.fl 0, .fl 1, .fl 2, .fl 3, .fl 4, .fl 5, .fl 6, .fl 7, .fl 8, .fl 10, .fl 11, .fl 12, .fl 13, .fl 14, .fl 15, .fl 16, .st 9 [0, 1, 2, 3, 4, 5, 10, 11, 12, 13, 14, 15, 16], .st 17 [], .st 18 []] (by rfl) (by kernel_rfl) ?_
         | refine draw_intro 42 [.fl 0, .fl 1, .fl 2, .fl 3, .fl 4, .fl 5, .fl 6, .st 7 []] (by rfl) (by kernel_rfl) ?_
         | refine And.intro ?_ ?_)
        all_goals first
          | (exfalso; omega)
          | (refine ⟨⟨(i + 1, _, _), by dsimp only; omega, hE, by rw [hp]; exact hF⟩, ?_, rfl, by dsimp only; omega⟩; (conv => whnf); repeat' (first | exact trivial | exact rfl | (show _ = _; congr 3; dsimp only; omega) | apply And.intro))
      · have hp := filter_t (P := fun s : GSent => mayNow b ext s.To 3) hlt hP
        repeat' ((conv => whnf) <;> first
         | rw [wrapI_i64 (by omega)]
         | (refine condP_true ?_ ?_; · assumption)
         | (refine condP_false ?_ ?_; · assumption)
         | (refine condP_nt ?_ ?_; · assumption)
         | (refine condP_nf ?_ ?_; · assumption)
         | (refine condP_decT ?_ ?_; · omega)
         | (refine condP_decF ?_ ?_; · omega)
         | (refine condP_ndT ?_ ?_; · omega)
         | (refine condP_ndF ?_ ?_; · omega)
         | refine condP_dec (fun _ => ?_) (fun _ => ?_)
         | refine condP_ndec (fun _ => ?_) (fun _ => ?_)
         | refine condP_true rfl ?_
         | refine condP_false rfl ?_
         | refine condP_not (fun _ => ?_) (fun _ => ?_)
         | refine condP_intro (fun _ => ?_) (fun _ => ?_)
         | (refine callP_eq (ev_sPackOf _ _ _ _ rdcA) ?_)
         | (refine callP_intro (ev_sRunOps _ _ _ _ _ _ _ _ rdA rdA rdA) ?_; rintro _ Sn ⟨hEn, cn, rfl, hFn⟩)
         | (refine callP_intro (ev_sValuesFor _ _ _ _ _ _ rdcA rdA) ?_; rintro _ Sn ⟨hEn, cn, rfl, hFn⟩)
         | (refine callP_eq (ev_l34May _ _ _ _ _ _ rdcA) ?_)
         | (refine rd_lenm rdA ?_; intro hml; rw [maxLen_eq] at hml)
         | refine rd_idxm rdA (by intro _; rfl) (by constructor <;> omega) ?_
         | refine rd_loadf rdA (by intro _; exact trivial) (by constructor <;> omega) ?_
         | (refine rd_loadm (f := GPackage.d) rdA (by constructor <;> omega) ?_; intro _ hcs; obtain ⟨_, _, _, _, rfl, _, _, _, _⟩ := GPackage.inv hcs)
         | refine needP_intro (by first | omega | (constructor <;> omega)) ?_
         | refine draw_intro 18 [.fl 0, .fl 1, .fl 2, .fl 3, .fl 4, .fl 5, .fl 6, .fl 7, .fl 8, .fl 10, .fl 11, .fl 12, .fl 13, .fl 14, .fl 15, .fl 16, .st 9 [0, 1, 2, 3, 4, 5, 10, 11, 12, 13, 14, 15, 16], .st 17 [], .st 18 []] (by rfl) (by kernel_rfl) ?_
         | refine draw_intro 42 [.fl 0, .fl 1, .fl 2, .fl 3, .fl 4, .fl 5, .fl 6, .st 7 []] (by rfl) (by kernel_rfl) ?_
         | (refine fr_appAtF (f := GSent.d) (o := 0) (l := (x.take i).filter (fun s => mayNow b ext s.To 3)) (m := [x[i]'hlt]) (fun _ => trivial) hE hF rfl rfl (by rfl) (by intro _; rfl) (by dsimp only [T110]; simp only [List.length_cons, List.length_nil]; omega) (by simp only [List.length_cons, List.length_nil]; omega) ?_; intro cN SN hEN hFN hlN)
         | refine And.intro ?_ ?_)
        all_goals first
          | (exfalso; omega)
          | (refine ⟨⟨(i + 1, _, _), by dsimp only; omega, by assumption, by rw [hp]; exact hFN⟩, ?_, rfl, by dsimp only; omega⟩; (conv => whnf); repeat' (first | exact trivial | exact rfl | (show _ = _; congr 3; dsimp only; omega) | apply And.intro))
    · rw [List.take_of_length_le (by omega)] at hF
      repeat' ((conv => whnf) <;> first
       | rw [wrapI_i64 (by omega)]
       | (refine condP_true ?_ ?_; · assumption)
       | (refine condP_false ?_ ?_; · assumption)
       | (refine condP_nt ?_ ?_; · assumption)
       | (refine condP_nf ?_ ?_; · assumption)
       | (refine condP_decT ?_ ?_; · omega)
       | (refine condP_decF ?_ ?_; · omega)
       | (refine condP_ndT ?_ ?_; · omega)
       | (refine condP_ndF ?_ ?_; · omega)
       | refine condP_dec (fun _ => ?_) (fun _ => ?_)
       | refine condP_ndec (fun _ => ?_) (fun _ => ?_)
       | refine condP_true rfl ?_
       | refine condP_false rfl ?_
       | refine condP_not (fun _ => ?_) (fun _ => ?_)
       | refine condP_intro (fun _ => ?_) (fun _ => ?_)
       | (refine callP_eq (ev_sPackOf _ _ _ _ rdcA) ?_)
       | (refine callP_intro (ev_sRunOps _ _ _ _ _ _ _ _ rdA rdA rdA) ?_; rintro _ Sn ⟨hEn, cn, rfl, hFn⟩)
       | (refine callP_intro (ev_sValuesFor _ _ _ _ _ _ rdcA rdA) ?_; rintro _ Sn ⟨hEn, cn, rfl, hFn⟩)
       | (refine callP_eq (ev_l34May _ _ _ _ _ _ rdcA) ?_)
       | (refine rd_lenm rdA ?_; intro hml; rw [maxLen_eq] at hml)
       | refine rd_idxm rdA (by intro _; rfl) (by constructor <;> omega) ?_
       | refine rd_loadf rdA (by intro _; exact trivial) (by constructor <;> omega) ?_
       | (refine rd_loadm (f := GPackage.d) rdA (by constructor <;> omega) ?_; intro _ hcs; obtain ⟨_, _, _, _, rfl, _, _, _, _⟩ := GPackage.inv hcs)
       | refine needP_intro (by first | omega | (constructor <;> omega)) ?_
       | refine draw_intro 18 [.fl 0, .fl 1, .fl 2, .fl 3, .fl 4, .fl 5, .fl 6, .fl 7, .fl 8, .fl 10, .fl 11, .fl 12, .fl 13, .fl 14, .fl 15, .fl 16, .st 9 [0, 1, 2, 3, 4, 5, 10, 11, 12, 13, 14, 15, 16], .st 17 [], .st 18 []] (by rfl) (by kernel_rfl) ?_
       | refine draw_intro 42 [.fl 0, .fl 1, .fl 2, .fl 3, .fl 4, .fl 5, .fl 6, .st 7 []] (by rfl) (by kernel_rfl) ?_
       | refine And.intro ?_ ?_)
      all_goals first
        | exact hE
        | (exfalso; omega)
        | exact ⟨_, rfl, Fr.left (ds := [_]) (cs := [_]) hF rfl⟩
  · rw [show sentFrom b ext values = [] from by unfold sentFrom; rw [if_neg hp0]]
    refine evA_intro tok Tryz.func13 (by kernel_rfl) rfl ?_
    repeat' ((conv => whnf) <;> first
     | rw [wrapI_i64 (by omega)]
     | (refine condP_true ?_ ?_; · assumption)
     | (refine condP_false ?_ ?_; · assumption)
     | (refine condP_nt ?_ ?_; · assumption)
     | (refine condP_nf ?_ ?_; · assumption)
     | (refine condP_decT ?_ ?_; · omega)
     | (refine condP_decF ?_ ?_; · omega)
     | (refine condP_ndT ?_ ?_; · omega)
     | (refine condP_ndF ?_ ?_; · omega)
     | refine condP_dec (fun _ => ?_) (fun _ => ?_)
     | refine condP_ndec (fun _ => ?_) (fun _ => ?_)
     | refine condP_true rfl ?_
     | refine condP_false rfl ?_
     | refine condP_not (fun _ => ?_) (fun _ => ?_)
     | refine condP_intro (fun _ => ?_) (fun _ => ?_)
     | (refine callP_eq (ev_sPackOf _ _ _ _ rdcA) ?_)
     | (refine callP_intro (ev_sRunOps _ _ _ _ _ _ _ _ rdA rdA rdA) ?_; rintro _ Sn ⟨hEn, cn, rfl, hFn⟩)
     | (refine callP_intro (ev_sValuesFor _ _ _ _ _ _ rdcA rdA) ?_; rintro _ Sn ⟨hEn, cn, rfl, hFn⟩)
     | (refine callP_eq (ev_l34May _ _ _ _ _ _ rdcA) ?_)
     | (refine rd_lenm rdA ?_; intro hml; rw [maxLen_eq] at hml)
     | refine rd_idxm rdA (by intro _; rfl) (by constructor <;> omega) ?_
     | refine rd_loadf rdA (by intro _; exact trivial) (by constructor <;> omega) ?_
     | (refine rd_loadm (f := GPackage.d) rdA (by constructor <;> omega) ?_; intro _ hcs; obtain ⟨_, _, _, _, rfl, _, _, _, _⟩ := GPackage.inv hcs)
     | refine needP_intro (by first | omega | (constructor <;> omega)) ?_
     | refine draw_intro 18 [.fl 0, .fl 1, .fl 2, .fl 3, .fl 4, .fl 5, .fl 6, .fl 7, .fl 8, .fl 10, .fl 11, .fl 12, .fl 13, .fl 14, .fl 15, .fl 16, .st 9 [0, 1, 2, 3, 4, 5, 10, 11, 12, 13, 14, 15, 16], .st 17 [], .st 18 []] (by rfl) (by kernel_rfl) ?_
     | refine draw_intro 42 [.fl 0, .fl 1, .fl 2, .fl 3, .fl 4, .fl 5, .fl 6, .st 7 []] (by rfl) (by kernel_rfl) ?_
     | refine And.intro ?_ ?_)
    all_goals first
      | exact Ext.push _ _
      | exact ⟨_, rfl, fr_lit0⟩
      | (exfalso; omega)
theorem ev_iSentFrom (b : GBrowser) (ext : Int) (values : List Int) (cs : List C) (c : C) (S : Store) (h : Rd S b.d cs) (h' : Rd S [.sl 1 (values.map dInt)] [c]) : EvA Tryz.prog 15 [.agg cs, .s (.int .i64 ext), .s c] S (fun r S' => Ext S S' ∧ ∃ d, r = .v (.s d) ∧ Fr S.length S' [.sl 3 ((sentFrom b ext values).map GSent.d)] [d]) := by
  obtain ⟨_, _, _, _, _, _, rfl, _, _, _, _, _, _⟩ := GBrowser.inv h
  by_cases hp0 : 0 ≤ packOf b ext
  · have hpl : (packOf b ext).toNat < b.Packs.length := by have := packOf_lt b ext; omega
    have hp1 : 0 ≤ packOf b ext ∧ (packOf b ext).toNat < b.Packs.length := ⟨hp0, hpl⟩
    rw [show sentFrom b ext values = (runOps (b.Packs[(packOf b ext).toNat]'hpl).Ops (valuesFor b ext values) (b.Packs[(packOf b ext).toNat]'hpl).Flows ext).filter (fun s => mayNow b ext s.To 3) from by unfold sentFrom; rw [if_pos hp0, packageOf_in hp0 hpl]]
    have hrl := runOps_len (b.Packs[(packOf b ext).toNat]'hpl).Ops (valuesFor b ext values) (b.Packs[(packOf b ext).toNat]'hpl).Flows ext
    have hpk : Rd S [.sl 8 (b.Packs.map GPackage.d)] _ := (by assumption)
    obtain ⟨pcs, hpr, hpld⟩ := rd_loadx hpk hp1
    obtain ⟨_, _, _, _, rfl, _, _, _, _⟩ := GPackage.inv hpr
    refine evA_intro tok Tryz.func15 (by kernel_rfl) rfl ?_
    repeat' ((conv => whnf) <;> first
     | refine hpld _ (by first | assumption | exact Ext.push _ _) _ ?_
     | rw [wrapI_i64 (by omega)]
     | (refine condP_true ?_ ?_; · assumption)
     | (refine condP_false ?_ ?_; · assumption)
     | (refine condP_nt ?_ ?_; · assumption)
     | (refine condP_nf ?_ ?_; · assumption)
     | (refine condP_decT ?_ ?_; · omega)
     | (refine condP_decF ?_ ?_; · omega)
     | (refine condP_ndT ?_ ?_; · omega)
     | (refine condP_ndF ?_ ?_; · omega)
     | refine condP_dec (fun _ => ?_) (fun _ => ?_)
     | refine condP_ndec (fun _ => ?_) (fun _ => ?_)
     | refine condP_true rfl ?_
     | refine condP_false rfl ?_
     | refine condP_not (fun _ => ?_) (fun _ => ?_)
     | refine condP_intro (fun _ => ?_) (fun _ => ?_)
     | (refine callP_eq (ev_iPackOf _ _ _ _ rdcA) ?_)
     | (refine callP_eq (ev_mayNow _ _ _ _ _ _ rdcA) ?_)
     | (refine rd_lenm rdA ?_; intro hml; rw [maxLen_eq] at hml)
     | refine rd_idxm rdA (by intro _; rfl) (by constructor <;> omega) ?_
     | refine rd_loadf rdA (by intro _; exact trivial) (by constructor <;> omega) ?_
     | (refine rd_loadm (f := GPackage.d) rdA (by constructor <;> omega) ?_; intro _ hcs; obtain ⟨_, _, _, _, rfl, _, _, _, _⟩ := GPackage.inv hcs)
     | refine needP_intro (by first | omega | (constructor <;> omega)) ?_
     | refine draw_intro 18 [.fl 0, .fl 1, .fl 2, .fl 3, .fl 4, .fl 5, .fl 6, .fl 7, .fl 8, .fl 10, .fl 11, .fl 12, .fl 13, .fl 14, .fl 15, .fl 16, .fl 19, .st 9 [0, 1, 2, 3, 4, 5, 10, 11, 12, 13, 14, 15, 16, 19], .st 17 [19], .fl 18] (by rfl) (by kernel_rfl) ?_
     | refine And.intro ?_ ?_)
    (conv => whnf)
    refine callP_intro (ev_iValuesFor b ext values _ _ _ (h.ext (Ext.push _ _)) (h'.ext (Ext.push _ _))) ?_; rintro _ S1 ⟨e1, cv, rfl, fv⟩
    have E1 : Ext S S1 := (Ext.push _ _).trans e1
    repeat' ((conv => whnf) <;> first
     | refine hpld _ (by first | assumption | exact Ext.push _ _) _ ?_
     | rw [wrapI_i64 (by omega)]
     | (refine condP_true ?_ ?_; · assumption)
     | (refine condP_false ?_ ?_; · assumption)
     | (refine condP_nt ?_ ?_; · assumption)
     | (refine condP_nf ?_ ?_; · assumption)
     | (refine condP_decT ?_ ?_; · omega)
     | (refine condP_decF ?_ ?_; · omega)
     | (refine condP_ndT ?_ ?_; · omega)
     | (refine condP_ndF ?_ ?_; · omega)
     | refine condP_dec (fun _ => ?_) (fun _ => ?_)
     | refine condP_ndec (fun _ => ?_) (fun _ => ?_)
     | refine condP_true rfl ?_
     | refine condP_false rfl ?_
     | refine condP_not (fun _ => ?_) (fun _ => ?_)
     | refine condP_intro (fun _ => ?_) (fun _ => ?_)
     | (refine callP_eq (ev_iPackOf _ _ _ _ rdcA) ?_)
     | (refine callP_eq (ev_mayNow _ _ _ _ _ _ rdcA) ?_)
     | (refine rd_lenm rdA ?_; intro hml; rw [maxLen_eq] at hml)
     | refine rd_idxm rdA (by intro _; rfl) (by constructor <;> omega) ?_
     | refine rd_loadf rdA (by intro _; exact trivial) (by constructor <;> omega) ?_
     | (refine rd_loadm (f := GPackage.d) rdA (by constructor <;> omega) ?_; intro _ hcs; obtain ⟨_, _, _, _, rfl, _, _, _, _⟩ := GPackage.inv hcs)
     | refine needP_intro (by first | omega | (constructor <;> omega)) ?_
     | refine draw_intro 18 [.fl 0, .fl 1, .fl 2, .fl 3, .fl 4, .fl 5, .fl 6, .fl 7, .fl 8, .fl 10, .fl 11, .fl 12, .fl 13, .fl 14, .fl 15, .fl 16, .fl 19, .st 9 [0, 1, 2, 3, 4, 5, 10, 11, 12, 13, 14, 15, 16, 19], .st 17 [19], .fl 18] (by rfl) (by kernel_rfl) ?_
     | refine And.intro ?_ ?_)
    (conv => whnf)
    refine callP_intro (ev_iRunOps (b.Packs[(packOf b ext).toNat]'hpl).Ops (valuesFor b ext values) (b.Packs[(packOf b ext).toNat]'hpl).Flows ext _ _ _ _ rdA fv.rd rdA) ?_; rintro _ S2 ⟨e2, cx, rfl, fx⟩
    have f0 := (fr_lit0 (S := S) (k := 3)).join (e1.trans e2) (fx.mono e1.len) (Ext.push S _).len
    have E2 : Ext S S2 := E1.trans e2
    generalize runOps (b.Packs[(packOf b ext).toNat]'hpl).Ops (valuesFor b ext values) (b.Packs[(packOf b ext).toNat]'hpl).Flows ext = x at *
    have r1 := f0.rdAt (o := 1) (d := .sl 3 (x.map GSent.d)) rfl rfl
    clear fx fv
    repeat' ((conv => whnf) <;> first
     | rw [wrapI_i64 (by omega)]
     | (refine condP_true ?_ ?_; · assumption)
     | (refine condP_false ?_ ?_; · assumption)
     | (refine condP_nt ?_ ?_; · assumption)
     | (refine condP_nf ?_ ?_; · assumption)
     | (refine condP_decT ?_ ?_; · omega)
     | (refine condP_decF ?_ ?_; · omega)
     | (refine condP_ndT ?_ ?_; · omega)
     | (refine condP_ndF ?_ ?_; · omega)
     | refine condP_dec (fun _ => ?_) (fun _ => ?_)
     | refine condP_ndec (fun _ => ?_) (fun _ => ?_)
     | refine condP_true rfl ?_
     | refine condP_false rfl ?_
     | refine condP_not (fun _ => ?_) (fun _ => ?_)
     | refine condP_intro (fun _ => ?_) (fun _ => ?_)
     | (refine callP_eq (ev_iPackOf _ _ _ _ rdcA) ?_)
     | (refine callP_eq (ev_mayNow _ _ _ _ _ _ rdcA) ?_)
     | (refine rd_lenm rdA ?_; intro hml; rw [maxLen_eq] at hml)
     | refine rd_idxm rdA (by intro _; rfl) (by constructor <;> omega) ?_
     | refine rd_loadf rdA (by intro _; exact trivial) (by constructor <;> omega) ?_
     | (refine rd_loadm (f := GPackage.d) rdA (by constructor <;> omega) ?_; intro _ hcs; obtain ⟨_, _, _, _, rfl, _, _, _, _⟩ := GPackage.inv hcs)
     | refine needP_intro (by first | omega | (constructor <;> omega)) ?_
     | refine draw_intro 18 [.fl 0, .fl 1, .fl 2, .fl 3, .fl 4, .fl 5, .fl 6, .fl 7, .fl 8, .fl 10, .fl 11, .fl 12, .fl 13, .fl 14, .fl 15, .fl 16, .fl 19, .st 9 [0, 1, 2, 3, 4, 5, 10, 11, 12, 13, 14, 15, 16, 19], .st 17 [19], .fl 18] (by rfl) (by kernel_rfl) ?_
     | refine And.intro ?_ ?_)
    (conv => whnf)
    refine loop_intro {p : Nat × Store × C // p.1 ≤ x.length ∧ Ext S p.2.1 ∧ Fr S.length p.2.1 [.sl 3 (((x.take p.1).filter (fun s => mayNow b ext s.To 3)).map GSent.d), .sl 3 (x.map GSent.d)] [p.2.2, cx]} [7, 10, 37, 38, 39, 40, 41, 42, 43, 44, 45, 46, 47, 48, 49, 50] (fun zb => [(37, .v (.s (.int .i64 zb.1.1))), (7, .v (.s zb.1.2.2))]) (fun zb => zb.1.2.1) (fun zb => x.length - zb.1.1) ⟨(0, _, _), Nat.zero_le _, E2, f0⟩ ?_ rfl ?_
    · (conv => whnf); repeat' (first | exact trivial | exact rfl | apply And.intro)
    rintro ⟨⟨i, Si, ci⟩, hi, hE, hF⟩; dsimp only
    replace hi : i ≤ x.length := hi
    replace hE : Ext S Si := hE
    replace hF : Fr S.length Si [.sl 3 (((x.take i).filter (fun s => mayNow b ext s.To 3)).map GSent.d), .sl 3 (x.map GSent.d)] [ci, cx] := hF
    have r2 := hF.rdAt (o := 1) (d := .sl 3 (x.map GSent.d)) rfl rfl
    have hfl := filter_len (fun s => mayNow b ext s.To 3) x i
    have hbr := h.ext hE
    by_cases hlt : i < x.length
    · rcases hP : mayNow b ext (x[((i : Nat) : Int).toNat]'hlt).To 3 with _ | _
      · have hp := filter_f (P := fun s : GSent => mayNow b ext s.To 3) hlt hP
        repeat' ((conv => whnf) <;> first
         | rw [wrapI_i64 (by omega)]
         | (refine condP_true ?_ ?_; · assumption)
         | (refine condP_false ?_ ?_; · assumption)
         | (refine condP_nt ?_ ?_; · assumption)
         | (refine condP_nf ?_ ?_; · assumption)
         | (refine condP_decT ?_ ?_; · omega)
         | (refine condP_decF ?_ ?_; · omega)
         | (refine condP_ndT ?_ ?_; · omega)
         | (refine condP_ndF ?_ ?_; · omega)
         | refine condP_dec (fun _ => ?_) (fun _ => ?_)
         | refine condP_ndec (fun _ => ?_) (fun _ => ?_)
         | refine condP_true rfl ?_
         | refine condP_false rfl ?_
         | refine condP_not (fun _ => ?_) (fun _ => ?_)
         | refine condP_intro (fun _ => ?_) (fun _ => ?_)
         | (refine callP_eq (ev_iPackOf _ _ _ _ rdcA) ?_)
         | (refine callP_intro (ev_iRunOps _ _ _ _ _ _ _ _ rdA rdA rdA) ?_; rintro _ Sn ⟨hEn, cn, rfl, hFn⟩)
         | (refine callP_intro (ev_iValuesFor _ _ _ _ _ _ rdcA rdA) ?_; rintro _ Sn ⟨hEn, cn, rfl, hFn⟩)
         | (refine callP_eq (ev_mayNow _ _ _ _ _ _ rdcA) ?_)
         | (refine rd_lenm rdA ?_; intro hml; rw [maxLen_eq] at hml)
         | refine rd_idxm rdA (by intro _; rfl) (by constructor <;> omega) ?_
         | refine rd_loadf rdA (by intro _; exact trivial) (by constructor <;> omega) ?_
         | (refine rd_loadm (f := GPackage.d) rdA (by constructor <;> omega) ?_; intro _ hcs; obtain ⟨_, _, _, _, rfl, _, _, _, _⟩ := GPackage.inv hcs)
         | refine needP_intro (by first | omega | (constructor <;> omega)) ?_
         | refine draw_intro 18 [.fl 0, .fl 1, .fl 2, .fl 3, .fl 4, .fl 5, .fl 6, .fl 7, .fl 8, .fl 10, .fl 11, .fl 12, .fl 13, .fl 14, .fl 15, .fl 16, .fl 19, .st 9 [0, 1, 2, 3, 4, 5, 10, 11, 12, 13, 14, 15, 16, 19], .st 17 [19], .fl 18] (by rfl) (by kernel_rfl) ?_
         | refine And.intro ?_ ?_)
        all_goals first
          | (exfalso; omega)
          | (refine ⟨⟨(i + 1, _, _), by dsimp only; omega, hE, by rw [hp]; exact hF⟩, ?_, rfl, by dsimp only; omega⟩; (conv => whnf); repeat' (first | exact trivial | exact rfl | (show _ = _; congr 3; dsimp only; omega) | apply And.intro))
      · have hp := filter_t (P := fun s : GSent => mayNow b ext s.To 3) hlt hP
        repeat' ((conv => whnf) <;> first
         | rw [wrapI_i64 (by omega)]
         | (refine condP_true ?_ ?_; · assumption)
         | (refine condP_false ?_ ?_; · assumption)
         | (refine condP_nt ?_ ?_; · assumption)
         | (refine condP_nf ?_ ?_; · assumption)
         | (refine condP_decT ?_ ?_; · omega)
         | (refine condP_decF ?_ ?_; · omega)
         | (refine condP_ndT ?_ ?_; · omega)
         | (refine condP_ndF ?_ ?_; · omega)
         | refine condP_dec (fun _ => ?_) (fun _ => ?_)
         | refine condP_ndec (fun _ => ?_) (fun _ => ?_)
         | refine condP_true rfl ?_
         | refine condP_false rfl ?_
         | refine condP_not (fun _ => ?_) (fun _ => ?_)
         | refine condP_intro (fun _ => ?_) (fun _ => ?_)
         | (refine callP_eq (ev_iPackOf _ _ _ _ rdcA) ?_)
         | (refine callP_intro (ev_iRunOps _ _ _ _ _ _ _ _ rdA rdA rdA) ?_; rintro _ Sn ⟨hEn, cn, rfl, hFn⟩)
         | (refine callP_intro (ev_iValuesFor _ _ _ _ _ _ rdcA rdA) ?_; rintro _ Sn ⟨hEn, cn, rfl, hFn⟩)
         | (refine callP_eq (ev_mayNow _ _ _ _ _ _ rdcA) ?_)
         | (refine rd_lenm rdA ?_; intro hml; rw [maxLen_eq] at hml)
         | refine rd_idxm rdA (by intro _; rfl) (by constructor <;> omega) ?_
         | refine rd_loadf rdA (by intro _; exact trivial) (by constructor <;> omega) ?_
         | (refine rd_loadm (f := GPackage.d) rdA (by constructor <;> omega) ?_; intro _ hcs; obtain ⟨_, _, _, _, rfl, _, _, _, _⟩ := GPackage.inv hcs)
         | refine needP_intro (by first | omega | (constructor <;> omega)) ?_
         | refine draw_intro 18 [.fl 0, .fl 1, .fl 2, .fl 3, .fl 4, .fl 5, .fl 6, .fl 7, .fl 8, .fl 10, .fl 11, .fl 12, .fl 13, .fl 14, .fl 15, .fl 16, .fl 19, .st 9 [0, 1, 2, 3, 4, 5, 10, 11, 12, 13, 14, 15, 16, 19], .st 17 [19], .fl 18] (by rfl) (by kernel_rfl) ?_
         | (refine fr_appAtF (f := GSent.d) (o := 0) (l := (x.take i).filter (fun s => mayNow b ext s.To 3)) (m := [x[i]'hlt]) (fun _ => trivial) hE hF rfl rfl (by rfl) (by intro _; rfl) (by dsimp only [T110]; simp only [List.length_cons, List.length_nil]; omega) (by simp only [List.length_cons, List.length_nil]; omega) ?_; intro cN SN hEN hFN hlN)
         | refine And.intro ?_ ?_)
        all_goals first
          | (exfalso; omega)
          | (refine ⟨⟨(i + 1, _, _), by dsimp only; omega, by assumption, by rw [hp]; exact hFN⟩, ?_, rfl, by dsimp only; omega⟩; (conv => whnf); repeat' (first | exact trivial | exact rfl | (show _ = _; congr 3; dsimp only; omega) | apply And.intro))
    · rw [List.take_of_length_le (by omega)] at hF
      repeat' ((conv => whnf) <;> first
       | rw [wrapI_i64 (by omega)]
       | (refine condP_true ?_ ?_; · assumption)
       | (refine condP_false ?_ ?_; · assumption)
       | (refine condP_nt ?_ ?_; · assumption)
       | (refine condP_nf ?_ ?_; · assumption)
       | (refine condP_decT ?_ ?_; · omega)
       | (refine condP_decF ?_ ?_; · omega)
       | (refine condP_ndT ?_ ?_; · omega)
       | (refine condP_ndF ?_ ?_; · omega)
       | refine condP_dec (fun _ => ?_) (fun _ => ?_)
       | refine condP_ndec (fun _ => ?_) (fun _ => ?_)
       | refine condP_true rfl ?_
       | refine condP_false rfl ?_
       | refine condP_not (fun _ => ?_) (fun _ => ?_)
       | refine condP_intro (fun _ => ?_) (fun _ => ?_)
       | (refine callP_eq (ev_iPackOf _ _ _ _ rdcA) ?_)
       | (refine callP_intro (ev_iRunOps _ _ _ _ _ _ _ _ rdA rdA rdA) ?_; rintro _ Sn ⟨hEn, cn, rfl, hFn⟩)
       | (refine callP_intro (ev_iValuesFor _ _ _ _ _ _ rdcA rdA) ?_; rintro _ Sn ⟨hEn, cn, rfl, hFn⟩)
       | (refine callP_eq (ev_mayNow _ _ _ _ _ _ rdcA) ?_)
       | (refine rd_lenm rdA ?_; intro hml; rw [maxLen_eq] at hml)
       | refine rd_idxm rdA (by intro _; rfl) (by constructor <;> omega) ?_
       | refine rd_loadf rdA (by intro _; exact trivial) (by constructor <;> omega) ?_
       | (refine rd_loadm (f := GPackage.d) rdA (by constructor <;> omega) ?_; intro _ hcs; obtain ⟨_, _, _, _, rfl, _, _, _, _⟩ := GPackage.inv hcs)
       | refine needP_intro (by first | omega | (constructor <;> omega)) ?_
       | refine draw_intro 18 [.fl 0, .fl 1, .fl 2, .fl 3, .fl 4, .fl 5, .fl 6, .fl 7, .fl 8, .fl 10, .fl 11, .fl 12, .fl 13, .fl 14, .fl 15, .fl 16, .fl 19, .st 9 [0, 1, 2, 3, 4, 5, 10, 11, 12, 13, 14, 15, 16, 19], .st 17 [19], .fl 18] (by rfl) (by kernel_rfl) ?_
       | refine And.intro ?_ ?_)
      all_goals first
        | exact hE
        | (exfalso; omega)
        | exact ⟨_, rfl, Fr.left (ds := [_]) (cs := [_]) hF rfl⟩
  · rw [show sentFrom b ext values = [] from by unfold sentFrom; rw [if_neg hp0]]
    refine evA_intro tok Tryz.func15 (by kernel_rfl) rfl ?_
    repeat' ((conv => whnf) <;> first
     | rw [wrapI_i64 (by omega)]
     | (refine condP_true ?_ ?_; · assumption)
     | (refine condP_false ?_ ?_; · assumption)
     | (refine condP_nt ?_ ?_; · assumption)
     | (refine condP_nf ?_ ?_; · assumption)
     | (refine condP_decT ?_ ?_; · omega)
     | (refine condP_decF ?_ ?_; · omega)
     | (refine condP_ndT ?_ ?_; · omega)
     | (refine condP_ndF ?_ ?_; · omega)
     | refine condP_dec (fun _ => ?_) (fun _ => ?_)
     | refine condP_ndec (fun _ => ?_) (fun _ => ?_)
     | refine condP_true rfl ?_
     | refine condP_false rfl ?_
     | refine condP_not (fun _ => ?_) (fun _ => ?_)
     | refine condP_intro (fun _ => ?_) (fun _ => ?_)
     | (refine callP_eq (ev_iPackOf _ _ _ _ rdcA) ?_)
     | (refine callP_intro (ev_iRunOps _ _ _ _ _ _ _ _ rdA rdA rdA) ?_; rintro _ Sn ⟨hEn, cn, rfl, hFn⟩)
     | (refine callP_intro (ev_iValuesFor _ _ _ _ _ _ rdcA rdA) ?_; rintro _ Sn ⟨hEn, cn, rfl, hFn⟩)
     | (refine callP_eq (ev_mayNow _ _ _ _ _ _ rdcA) ?_)
     | (refine rd_lenm rdA ?_; intro hml; rw [maxLen_eq] at hml)
     | refine rd_idxm rdA (by intro _; rfl) (by constructor <;> omega) ?_
     | refine rd_loadf rdA (by intro _; exact trivial) (by constructor <;> omega) ?_
     | (refine rd_loadm (f := GPackage.d) rdA (by constructor <;> omega) ?_; intro _ hcs; obtain ⟨_, _, _, _, rfl, _, _, _, _⟩ := GPackage.inv hcs)
     | refine needP_intro (by first | omega | (constructor <;> omega)) ?_
     | refine draw_intro 18 [.fl 0, .fl 1, .fl 2, .fl 3, .fl 4, .fl 5, .fl 6, .fl 7, .fl 8, .fl 10, .fl 11, .fl 12, .fl 13, .fl 14, .fl 15, .fl 16, .fl 19, .st 9 [0, 1, 2, 3, 4, 5, 10, 11, 12, 13, 14, 15, 16, 19], .st 17 [19], .fl 18] (by rfl) (by kernel_rfl) ?_
     | refine And.intro ?_ ?_)
    all_goals first
      | exact Ext.push _ _
      | exact ⟨_, rfl, fr_lit0⟩
      | (exfalso; omega)
def leaving (b : GBrowser) (values : List Int) : List GSent := b.Packs.flatMap fun p : GPackage => sentFrom b p.Ext values
theorem leaving_take {b : GBrowser} {values : List Int} {i : Nat} (h : i < b.Packs.length) : (b.Packs.take (i + 1)).flatMap (fun p : GPackage => sentFrom b p.Ext values) = (b.Packs.take i).flatMap (fun p : GPackage => sentFrom b p.Ext values) ++ sentFrom b (b.Packs[i]).Ext values := by
  rw [List.take_succ_eq_append_getElem h, List.flatMap_append]; simp
theorem leaving_len (b : GBrowser) (values : List Int) : ∀ l : List GPackage, (l.flatMap fun p : GPackage => sentFrom b p.Ext values).length ≤ 16 * l.length
  | [] => Nat.zero_le _
  | p :: l => by
    rw [List.flatMap_cons, List.length_append, List.length_cons]
    have h1 := sentFrom_len b p.Ext values
    have h2 := leaving_len b values l
    omega
set_option maxHeartbeats 1000000 in
theorem ev_sLeaving (b : GBrowser) (values : List Int) (cs : List C) (c : C) (S : Store) (h : Rd S b.d cs) (h' : Rd S [.sl 1 (values.map dInt)] [c]) (hz : szL b.d ≤ 2097152) : EvA Tryz.prog 22 [.agg cs, .s c] S (fun r S' => Ext S S' ∧ ∃ d, r = .v (.s d) ∧ Fr S.length S' [.sl 3 ((leaving b values).map GSent.d)] [d]) := by
  have hzs := hz
  simp only [GBrowser.d, szL, List.length_map] at hzs
  obtain ⟨_, _, _, _, _, _, rfl, _, _, _, _, _, _⟩ := GBrowser.inv h
  refine evA_intro tok Tryz.func22 (by kernel_rfl) rfl ?_
  repeat' ((conv => whnf) <;> first
   | rw [wrapI_i64 (by omega)]
   | refine condP_dec (fun _ => ?_) (fun _ => ?_)
   | refine condP_ndec (fun _ => ?_) (fun _ => ?_)
   | refine condP_true rfl ?_
   | refine condP_false rfl ?_
   | refine condP_not (fun _ => ?_) (fun _ => ?_)
   | refine condP_intro (fun _ => ?_) (fun _ => ?_)
   | (refine rd_lenm rdA ?_; intro hml; rw [maxLen_eq] at hml)
   | refine rd_idxm rdA (by intro _; rfl) (by constructor <;> omega) ?_
   | (refine rd_loadm (f := GPackage.d) rdA (by constructor <;> omega) ?_; intro _ hcs; obtain ⟨_, _, _, _, rfl, _, _, _, _⟩ := GPackage.inv hcs)
   | refine needP_intro (by first | omega | (constructor <;> omega)) ?_
   | refine draw_intro 15 [.fl 0, .fl 1, .fl 2, .fl 3, .fl 4, .fl 5, .fl 6, .fl 7, .fl 8, .st 9 [0], .st 10 [], .st 11 []] (by rfl) (by kernel_rfl) ?_
   | refine And.intro ?_ ?_)
  refine loop_intro {p : Nat × Store × C // p.1 ≤ b.Packs.length ∧ Ext S p.2.1 ∧ Fr S.length p.2.1 [.sl 3 (((b.Packs.take p.1).flatMap (fun p : GPackage => sentFrom b p.Ext values)).map GSent.d)] [p.2.2]} [5, 6, 8, 9, 10, 11, 12, 13, 14, 15, 16, 17, 18, 19, 20, 21, 22, 23, 24, 25] (fun zb => [(6, .v (.s (.int .i64 (zb.1.1)))), (5, .v (.s zb.1.2.2))]) (fun zb => zb.1.2.1) (fun zb => b.Packs.length - zb.1.1) ⟨(0, _, _), Nat.zero_le _, Ext.push _ _, fr_lit0⟩ ?_ rfl ?_
  · (conv => whnf); repeat' (first | exact trivial | exact rfl | apply And.intro)
  rintro ⟨⟨i, Si, ci⟩, hi, hE, hF⟩; dsimp only
  replace hi : i ≤ b.Packs.length := hi
  replace hE : Ext S Si := hE
  replace hF : Fr S.length Si [.sl 3 (((b.Packs.take i).flatMap (fun p : GPackage => sentFrom b p.Ext values)).map GSent.d)] [ci] := hF
  have hfl := leaving_len b values (b.Packs.take i)
  rw [List.length_take] at hfl
  have hbr := h.ext hE
  have hvr := h'.ext hE
  by_cases hlt : i < b.Packs.length
  · have hst := leaving_take (values := values) hlt
    have hsl := sentFrom_len b (b.Packs[i]'hlt).Ext values
    repeat' ((conv => whnf) <;> first
     | rw [wrapI_i64 (by omega)]
     | (refine condP_true ?_ ?_; · assumption)
     | (refine condP_false ?_ ?_; · assumption)
     | (refine condP_nt ?_ ?_; · assumption)
     | (refine condP_nf ?_ ?_; · assumption)
     | (refine condP_decT ?_ ?_; · omega)
     | (refine condP_decF ?_ ?_; · omega)
     | (refine condP_ndT ?_ ?_; · omega)
     | (refine condP_ndF ?_ ?_; · omega)
     | refine condP_dec (fun _ => ?_) (fun _ => ?_)
     | refine condP_ndec (fun _ => ?_) (fun _ => ?_)
     | refine condP_true rfl ?_
     | refine condP_false rfl ?_
     | refine condP_not (fun _ => ?_) (fun _ => ?_)
     | refine condP_intro (fun _ => ?_) (fun _ => ?_)
     | (refine rd_lenm rdA ?_; intro hml; rw [maxLen_eq] at hml)
     | refine rd_idxm rdA (by intro _; rfl) (by constructor <;> omega) ?_
     | (refine rd_loadm (f := GPackage.d) rdA (by constructor <;> omega) ?_; intro _ hcs; obtain ⟨_, _, _, _, rfl, _, _, _, _⟩ := GPackage.inv hcs)
     | refine needP_intro (by first | omega | (constructor <;> omega)) ?_
     | refine draw_intro 15 [.fl 0, .fl 1, .fl 2, .fl 3, .fl 4, .fl 5, .fl 6, .fl 7, .fl 8, .st 9 [0], .st 10 [], .st 11 []] (by rfl) (by kernel_rfl) ?_
     | refine And.intro ?_ ?_)
    all_goals try (exfalso; omega)
    (conv => whnf)
    refine callP_intro (ev_sSentFrom b (b.Packs[((i : Nat) : Int).toNat]'hlt).Ext values _ _ _ hbr hvr) ?_; rintro _ S2 ⟨e2, cx, rfl, fx⟩
    repeat' ((conv => whnf) <;> first
     | rw [wrapI_i64 (by omega)]
     | (refine condP_true ?_ ?_; · assumption)
     | (refine condP_false ?_ ?_; · assumption)
     | (refine condP_nt ?_ ?_; · assumption)
     | (refine condP_nf ?_ ?_; · assumption)
     | (refine condP_decT ?_ ?_; · omega)
     | (refine condP_decF ?_ ?_; · omega)
     | (refine condP_ndT ?_ ?_; · omega)
     | (refine condP_ndF ?_ ?_; · omega)
     | refine condP_dec (fun _ => ?_) (fun _ => ?_)
     | refine condP_ndec (fun _ => ?_) (fun _ => ?_)
     | refine condP_true rfl ?_
     | refine condP_false rfl ?_
     | refine condP_not (fun _ => ?_) (fun _ => ?_)
     | refine condP_intro (fun _ => ?_) (fun _ => ?_)
     | (refine rd_lenm rdA ?_; intro hml; rw [maxLen_eq] at hml)
     | refine rd_idxm rdA (by intro _; rfl) (by constructor <;> omega) ?_
     | (refine rd_loadm (f := GPackage.d) rdA (by constructor <;> omega) ?_; intro _ hcs; obtain ⟨_, _, _, _, rfl, _, _, _, _⟩ := GPackage.inv hcs)
     | refine needP_intro (by first | omega | (constructor <;> omega)) ?_
     | refine draw_intro 15 [.fl 0, .fl 1, .fl 2, .fl 3, .fl 4, .fl 5, .fl 6, .fl 7, .fl 8, .st 9 [0], .st 10 [], .st 11 []] (by rfl) (by kernel_rfl) ?_
     | (refine rd_elemsf (f := GSent.d) (l := sentFrom b (b.Packs[((i : Nat) : Int).toNat]'hlt).Ext values) fx.rd (by intro _; exact trivial) (fun _ => ?_))
     | refine And.intro ?_ ?_)
    (conv => whnf)
    refine fr_app_flat (f := GSent.d) (S0 := S) (l := (b.Packs.take i).flatMap (fun p : GPackage => sentFrom b p.Ext values)) (m := sentFrom b (b.Packs[i]'hlt).Ext values) (fun _ => trivial) (hE.trans e2) (hF.ext e2) rfl (by intro _; rfl) (by dsimp only [T110]; omega) (by rw [maxLen_eq]; omega) ?_; intro cN SN hEN hFN hlN
    repeat' ((conv => whnf) <;> first
     | rw [wrapI_i64 (by omega)]
     | (refine condP_true ?_ ?_; · assumption)
     | (refine condP_false ?_ ?_; · assumption)
     | (refine condP_nt ?_ ?_; · assumption)
     | (refine condP_nf ?_ ?_; · assumption)
     | (refine condP_decT ?_ ?_; · omega)
     | (refine condP_decF ?_ ?_; · omega)
     | (refine condP_ndT ?_ ?_; · omega)
     | (refine condP_ndF ?_ ?_; · omega)
     | refine condP_dec (fun _ => ?_) (fun _ => ?_)
     | refine condP_ndec (fun _ => ?_) (fun _ => ?_)
     | refine condP_true rfl ?_
     | refine condP_false rfl ?_
     | refine condP_not (fun _ => ?_) (fun _ => ?_)
     | refine condP_intro (fun _ => ?_) (fun _ => ?_)
     | (refine callP_intro (ev_sSentFrom _ _ _ _ _ _ rdcA rdA) ?_; rintro _ Sn ⟨hEn, cn, rfl, hFn⟩)
     | (refine rd_lenm rdA ?_; intro hml; rw [maxLen_eq] at hml)
     | refine rd_idxm rdA (by intro _; rfl) (by constructor <;> omega) ?_
     | (refine rd_loadm (f := GPackage.d) rdA (by constructor <;> omega) ?_; intro _ hcs; obtain ⟨_, _, _, _, rfl, _, _, _, _⟩ := GPackage.inv hcs)
     | refine needP_intro (by first | omega | (constructor <;> omega)) ?_
     | refine draw_intro 15 [.fl 0, .fl 1, .fl 2, .fl 3, .fl 4, .fl 5, .fl 6, .fl 7, .fl 8, .st 9 [0], .st 10 [], .st 11 []] (by rfl) (by kernel_rfl) ?_
     | refine And.intro ?_ ?_)
    all_goals first
      | (exfalso; omega)
      | (refine ⟨⟨(i + 1, _, _), by dsimp only; omega, by assumption, by rw [hst]; assumption⟩, ?_, rfl, by dsimp only; omega⟩; (conv => whnf); repeat' (first | exact trivial | exact rfl | (show _ = _; congr 3; dsimp only; omega) | apply And.intro))
  · rw [List.take_of_length_le (by omega)] at hF
    repeat' ((conv => whnf) <;> first
     | rw [wrapI_i64 (by omega)]
     | (refine condP_true ?_ ?_; · assumption)
     | (refine condP_false ?_ ?_; · assumption)
     | (refine condP_nt ?_ ?_; · assumption)
     | (refine condP_nf ?_ ?_; · assumption)
     | (refine condP_decT ?_ ?_; · omega)
     | (refine condP_decF ?_ ?_; · omega)
     | (refine condP_ndT ?_ ?_; · omega)
     | (refine condP_ndF ?_ ?_; · omega)
     | refine condP_dec (fun _ => ?_) (fun _ => ?_)
     | refine condP_ndec (fun _ => ?_) (fun _ => ?_)
     | refine condP_true rfl ?_
     | refine condP_false rfl ?_
     | refine condP_not (fun _ => ?_) (fun _ => ?_)
     | refine condP_intro (fun _ => ?_) (fun _ => ?_)
     | (refine callP_intro (ev_sSentFrom _ _ _ _ _ _ rdcA rdA) ?_; rintro _ Sn ⟨hEn, cn, rfl, hFn⟩)
     | (refine rd_lenm rdA ?_; intro hml; rw [maxLen_eq] at hml)
     | refine rd_idxm rdA (by intro _; rfl) (by constructor <;> omega) ?_
     | (refine rd_loadm (f := GPackage.d) rdA (by constructor <;> omega) ?_; intro _ hcs; obtain ⟨_, _, _, _, rfl, _, _, _, _⟩ := GPackage.inv hcs)
     | refine needP_intro (by first | omega | (constructor <;> omega)) ?_
     | refine draw_intro 15 [.fl 0, .fl 1, .fl 2, .fl 3, .fl 4, .fl 5, .fl 6, .fl 7, .fl 8, .st 9 [0], .st 10 [], .st 11 []] (by rfl) (by kernel_rfl) ?_
     | refine And.intro ?_ ?_)
    all_goals first
      | exact hE
      | (exfalso; omega)
      | exact ⟨_, rfl, hF⟩
set_option maxHeartbeats 1000000 in
theorem ev_iLeaving (b : GBrowser) (values : List Int) (cs : List C) (c : C) (S : Store) (h : Rd S b.d cs) (h' : Rd S [.sl 1 (values.map dInt)] [c]) (hz : szL b.d ≤ 2097152) : EvA Tryz.prog 23 [.agg cs, .s c] S (fun r S' => Ext S S' ∧ ∃ d, r = .v (.s d) ∧ Fr S.length S' [.sl 3 ((leaving b values).map GSent.d)] [d]) := by
  have hzs := hz
  simp only [GBrowser.d, szL, List.length_map] at hzs
  obtain ⟨_, _, _, _, _, _, rfl, _, _, _, _, _, _⟩ := GBrowser.inv h
  refine evA_intro tok Tryz.func23 (by kernel_rfl) rfl ?_
  repeat' ((conv => whnf) <;> first
   | rw [wrapI_i64 (by omega)]
   | refine condP_dec (fun _ => ?_) (fun _ => ?_)
   | refine condP_ndec (fun _ => ?_) (fun _ => ?_)
   | refine condP_true rfl ?_
   | refine condP_false rfl ?_
   | refine condP_not (fun _ => ?_) (fun _ => ?_)
   | refine condP_intro (fun _ => ?_) (fun _ => ?_)
   | (refine rd_lenm rdA ?_; intro hml; rw [maxLen_eq] at hml)
   | refine rd_idxm rdA (by intro _; rfl) (by constructor <;> omega) ?_
   | (refine rd_loadm (f := GPackage.d) rdA (by constructor <;> omega) ?_; intro _ hcs; obtain ⟨_, _, _, _, rfl, _, _, _, _⟩ := GPackage.inv hcs)
   | refine needP_intro (by first | omega | (constructor <;> omega)) ?_
   | refine And.intro ?_ ?_)
  refine loop_intro {p : Nat × Store × C // p.1 ≤ b.Packs.length ∧ Ext S p.2.1 ∧ Fr S.length p.2.1 [.sl 3 (((b.Packs.take p.1).flatMap (fun p : GPackage => sentFrom b p.Ext values)).map GSent.d)] [p.2.2]} [5, 7, 12, 13, 14, 15, 16, 17, 18, 19, 20, 21, 22, 23] (fun zb => [(12, .v (.s (.int .i64 (zb.1.1)))), (5, .v (.s zb.1.2.2))]) (fun zb => zb.1.2.1) (fun zb => b.Packs.length - zb.1.1) ⟨(0, _, _), Nat.zero_le _, Ext.push _ _, fr_lit0⟩ ?_ rfl ?_
  · (conv => whnf); repeat' (first | exact trivial | exact rfl | apply And.intro)
  rintro ⟨⟨i, Si, ci⟩, hi, hE, hF⟩; dsimp only
  replace hi : i ≤ b.Packs.length := hi
  replace hE : Ext S Si := hE
  replace hF : Fr S.length Si [.sl 3 (((b.Packs.take i).flatMap (fun p : GPackage => sentFrom b p.Ext values)).map GSent.d)] [ci] := hF
  have hfl := leaving_len b values (b.Packs.take i)
  rw [List.length_take] at hfl
  have hbr := h.ext hE
  have hvr := h'.ext hE
  by_cases hlt : i < b.Packs.length
  · have hst := leaving_take (values := values) hlt
    have hsl := sentFrom_len b (b.Packs[i]'hlt).Ext values
    repeat' ((conv => whnf) <;> first
     | rw [wrapI_i64 (by omega)]
     | (refine condP_true ?_ ?_; · assumption)
     | (refine condP_false ?_ ?_; · assumption)
     | (refine condP_nt ?_ ?_; · assumption)
     | (refine condP_nf ?_ ?_; · assumption)
     | (refine condP_decT ?_ ?_; · omega)
     | (refine condP_decF ?_ ?_; · omega)
     | (refine condP_ndT ?_ ?_; · omega)
     | (refine condP_ndF ?_ ?_; · omega)
     | refine condP_dec (fun _ => ?_) (fun _ => ?_)
     | refine condP_ndec (fun _ => ?_) (fun _ => ?_)
     | refine condP_true rfl ?_
     | refine condP_false rfl ?_
     | refine condP_not (fun _ => ?_) (fun _ => ?_)
     | refine condP_intro (fun _ => ?_) (fun _ => ?_)
     | (refine rd_lenm rdA ?_; intro hml; rw [maxLen_eq] at hml)
     | refine rd_idxm rdA (by intro _; rfl) (by constructor <;> omega) ?_
     | (refine rd_loadm (f := GPackage.d) rdA (by constructor <;> omega) ?_; intro _ hcs; obtain ⟨_, _, _, _, rfl, _, _, _, _⟩ := GPackage.inv hcs)
     | refine needP_intro (by first | omega | (constructor <;> omega)) ?_
     | refine And.intro ?_ ?_)
    all_goals try (exfalso; omega)
    (conv => whnf)
    refine callP_intro (ev_iSentFrom b (b.Packs[((i : Nat) : Int).toNat]'hlt).Ext values _ _ _ hbr hvr) ?_; rintro _ S2 ⟨e2, cx, rfl, fx⟩
    repeat' ((conv => whnf) <;> first
     | rw [wrapI_i64 (by omega)]
     | (refine condP_true ?_ ?_; · assumption)
     | (refine condP_false ?_ ?_; · assumption)
     | (refine condP_nt ?_ ?_; · assumption)
     | (refine condP_nf ?_ ?_; · assumption)
     | (refine condP_decT ?_ ?_; · omega)
     | (refine condP_decF ?_ ?_; · omega)
     | (refine condP_ndT ?_ ?_; · omega)
     | (refine condP_ndF ?_ ?_; · omega)
     | refine condP_dec (fun _ => ?_) (fun _ => ?_)
     | refine condP_ndec (fun _ => ?_) (fun _ => ?_)
     | refine condP_true rfl ?_
     | refine condP_false rfl ?_
     | refine condP_not (fun _ => ?_) (fun _ => ?_)
     | refine condP_intro (fun _ => ?_) (fun _ => ?_)
     | (refine rd_lenm rdA ?_; intro hml; rw [maxLen_eq] at hml)
     | refine rd_idxm rdA (by intro _; rfl) (by constructor <;> omega) ?_
     | (refine rd_loadm (f := GPackage.d) rdA (by constructor <;> omega) ?_; intro _ hcs; obtain ⟨_, _, _, _, rfl, _, _, _, _⟩ := GPackage.inv hcs)
     | refine needP_intro (by first | omega | (constructor <;> omega)) ?_
     | (refine rd_elemsf (f := GSent.d) (l := sentFrom b (b.Packs[((i : Nat) : Int).toNat]'hlt).Ext values) fx.rd (by intro _; exact trivial) (fun _ => ?_))
     | refine And.intro ?_ ?_)
    (conv => whnf)
    refine fr_app_flat (f := GSent.d) (S0 := S) (l := (b.Packs.take i).flatMap (fun p : GPackage => sentFrom b p.Ext values)) (m := sentFrom b (b.Packs[i]'hlt).Ext values) (fun _ => trivial) (hE.trans e2) (hF.ext e2) rfl (by intro _; rfl) (by dsimp only [T110]; omega) (by rw [maxLen_eq]; omega) ?_; intro cN SN hEN hFN hlN
    repeat' ((conv => whnf) <;> first
     | rw [wrapI_i64 (by omega)]
     | (refine condP_true ?_ ?_; · assumption)
     | (refine condP_false ?_ ?_; · assumption)
     | (refine condP_nt ?_ ?_; · assumption)
     | (refine condP_nf ?_ ?_; · assumption)
     | (refine condP_decT ?_ ?_; · omega)
     | (refine condP_decF ?_ ?_; · omega)
     | (refine condP_ndT ?_ ?_; · omega)
     | (refine condP_ndF ?_ ?_; · omega)
     | refine condP_dec (fun _ => ?_) (fun _ => ?_)
     | refine condP_ndec (fun _ => ?_) (fun _ => ?_)
     | refine condP_true rfl ?_
     | refine condP_false rfl ?_
     | refine condP_not (fun _ => ?_) (fun _ => ?_)
     | refine condP_intro (fun _ => ?_) (fun _ => ?_)
     | (refine callP_intro (ev_iSentFrom _ _ _ _ _ _ rdcA rdA) ?_; rintro _ Sn ⟨hEn, cn, rfl, hFn⟩)
     | (refine rd_lenm rdA ?_; intro hml; rw [maxLen_eq] at hml)
     | refine rd_idxm rdA (by intro _; rfl) (by constructor <;> omega) ?_
     | (refine rd_loadm (f := GPackage.d) rdA (by constructor <;> omega) ?_; intro _ hcs; obtain ⟨_, _, _, _, rfl, _, _, _, _⟩ := GPackage.inv hcs)
     | refine needP_intro (by first | omega | (constructor <;> omega)) ?_
     | refine And.intro ?_ ?_)
    all_goals first
      | (exfalso; omega)
      | (refine ⟨⟨(i + 1, _, _), by dsimp only; omega, by assumption, by rw [hst]; assumption⟩, ?_, rfl, by dsimp only; omega⟩; (conv => whnf); repeat' (first | exact trivial | exact rfl | (show _ = _; congr 3; dsimp only; omega) | apply And.intro))
  · rw [List.take_of_length_le (by omega)] at hF
    repeat' ((conv => whnf) <;> first
     | rw [wrapI_i64 (by omega)]
     | (refine condP_true ?_ ?_; · assumption)
     | (refine condP_false ?_ ?_; · assumption)
     | (refine condP_nt ?_ ?_; · assumption)
     | (refine condP_nf ?_ ?_; · assumption)
     | (refine condP_decT ?_ ?_; · omega)
     | (refine condP_decF ?_ ?_; · omega)
     | (refine condP_ndT ?_ ?_; · omega)
     | (refine condP_ndF ?_ ?_; · omega)
     | refine condP_dec (fun _ => ?_) (fun _ => ?_)
     | refine condP_ndec (fun _ => ?_) (fun _ => ?_)
     | refine condP_true rfl ?_
     | refine condP_false rfl ?_
     | refine condP_not (fun _ => ?_) (fun _ => ?_)
     | refine condP_intro (fun _ => ?_) (fun _ => ?_)
     | (refine callP_intro (ev_iSentFrom _ _ _ _ _ _ rdcA rdA) ?_; rintro _ Sn ⟨hEn, cn, rfl, hFn⟩)
     | (refine rd_lenm rdA ?_; intro hml; rw [maxLen_eq] at hml)
     | refine rd_idxm rdA (by intro _; rfl) (by constructor <;> omega) ?_
     | (refine rd_loadm (f := GPackage.d) rdA (by constructor <;> omega) ?_; intro _ hcs; obtain ⟨_, _, _, _, rfl, _, _, _, _⟩ := GPackage.inv hcs)
     | refine needP_intro (by first | omega | (constructor <;> omega)) ?_
     | refine And.intro ?_ ?_)
    all_goals first
      | exact hE
      | (exfalso; omega)
      | exact ⟨_, rfl, hF⟩
end Go.Proofs.YtimbmhglengjcaaGreat
