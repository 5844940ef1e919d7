/- Updates of packages; the step of an update. -/
import Derived.Test.YtibglkkmjigooaaGreatFnY
import Derived.Test.YtibglkkmjigooaaGreatFnO
import Derived.Test.YtibglkkmjigooaaGreatFnR
import Derived.Test.YtibglkkmjigooaaGreatFnN
import Derived.Test.YtibglkkmjigooaaGreatFnCt
import Derived.Test.YtibglkkmjigooaaGreatAeQ
import Derived.Test.YtibglkkmjigooaaGreatFnX
import Derived.Test.YtibglkkmjigooaaGreatAeU
import Derived.Test.YtibglkkmjigooaaGreatShelf
namespace Go.Proofs.YtibglkkmjigooaaGreat
open Go Go.ChangeShapes Go.WideShapes Go.ChangeAt Go.RowKit
set_option linter.unusedVariables false
set_option linter.unusedSimpArgs false
set_option maxRecDepth 100000
def gBut (ext : Int) (g : GGrant) : Bool := !decide (g.Ext = ext)
def rBut (ext : Int) (g : GRule) : Bool := !decide (g.Ext = ext)
theorem ev_l35Others (l : List GGrant) (ext : Int) (c : C) (S : Store) (h : Rd S [.sl 7 (l.map GGrant.d)] [c]) (hz : l.length ≤ 4194304) : EvA Tryz.prog 35 [.s c, .s (.int .i64 ext)] S (fun r S' => Ext S S' ∧ ∃ c', r = .v (.s c') ∧ Fr S.length S' [.sl 7 ((l.filter (gBut ext)).map GGrant.d)] [c']) := by
  refine evA_intro tok Tryz.func35 (by kernel_rfl) rfl ?_
  skip
  refine loop_intro {p : Nat × Store × C // p.1 ≤ l.length ∧ Ext S p.2.1 ∧ Fr S.length p.2.1 [.sl 7 (((l.take p.1).filter (gBut ext)).map GGrant.d)] [p.2.2]} [5, 6, 8, 9, 10, 11, 12, 13, 14, 15, 16, 17, 18, 19, 20, 21, 22, 23, 24, 25, 26, 27] (fun zb => [(6, .v (.s (.int .i64 zb.1.1))), (5, .v (.s zb.1.2.2))]) (fun zb => zb.1.2.1) (fun zb => l.length - zb.1.1) ⟨(0, _, _), Nat.zero_le _, Ext.push _ _, fr_lit0⟩ ?_ rfl ?_
  · (conv => whnf); repeat' (first | exact trivial | exact rfl | apply And.intro)
  rintro ⟨⟨i, Si, ci⟩, hi, hE, hF⟩; dsimp only
  replace hi : i ≤ l.length := hi
  replace hE : Ext S Si := hE
  replace hF : Fr S.length Si [.sl 7 (((l.take i).filter (gBut ext)).map GGrant.d)] [ci] := hF
  have hfl := filter_len (gBut ext) l i
  repeat' ((conv => whnf) <;> first
   | rw [wrapI_i64 (by omega)] | refine cD (fun _ => ?_) fun _ => ?_ | refine cE (fun _ => ?_) fun _ => ?_ | refine rE fun hml => ?_ | refine rI rdA rf ix ?_ | refine rd_loadf rdA tv ix ?_ | (refine fr_app1 (f := GGrant.d) aN aN tv (by rfl) rf (by dsimp only [T124]; omega) om ?_; intro cN SN hEN hspec.l35Others) | refine And.intro ?_ ?_)
  all_goals first
    | exact hE
    | (rw [List.take_of_length_le (by omega)] at hF; exact ⟨_, rfl, hF⟩)
    | (refine ⟨⟨(i + 1, _, _), by dsimp only; omega, by assumption, by first | (rw [filter_t (by omega) (by simp_all [gBut])]; assumption) | (rw [filter_f (by omega) (by simp_all [gBut])]; assumption)⟩, ?_, rfl, by dsimp only; omega⟩; (conv => whnf); repeat' (first | exact trivial | exact rfl | apply And.intro))
theorem ev_grantsBut (l : List GGrant) (ext : Int) (c : C) (S : Store) (h : Rd S [.sl 7 (l.map GGrant.d)] [c]) (hz : l.length ≤ 4194304) : EvA Tryz.prog 48 [.s c, .s (.int .i64 ext)] S (fun r S' => Ext S S' ∧ ∃ c', r = .v (.s c') ∧ Fr S.length S' [.sl 7 ((l.filter (gBut ext)).map GGrant.d)] [c']) := by
  refine evA_intro tok Tryz.func48 (by kernel_rfl) rfl ?_
  repeat' ((conv => whnf) <;> first
   | refine rE fun hml => ?_)
  refine loop_intro {p : Nat × Store × C // p.1 ≤ l.length ∧ Ext S p.2.1 ∧ Fr S.length p.2.1 [.sl 7 (((l.take p.1).filter (gBut ext)).map GGrant.d)] [p.2.2]} [5, 7, 11, 12, 13, 14, 15, 16, 17, 18, 19, 20, 21, 22, 23] (fun zb => [(11, .v (.s (.int .i64 zb.1.1))), (5, .v (.s zb.1.2.2))]) (fun zb => zb.1.2.1) (fun zb => l.length - zb.1.1) ⟨(0, _, _), Nat.zero_le _, Ext.push _ _, fr_lit0⟩ ?_ rfl ?_
  · (conv => whnf); repeat' (first | exact trivial | exact rfl | apply And.intro)
  rintro ⟨⟨i, Si, ci⟩, hi, hE, hF⟩; dsimp only
  replace hi : i ≤ l.length := hi
  replace hE : Ext S Si := hE
  replace hF : Fr S.length Si [.sl 7 (((l.take i).filter (gBut ext)).map GGrant.d)] [ci] := hF
  have hfl := filter_len (gBut ext) l i
  repeat' ((conv => whnf) <;> first
   | rw [wrapI_i64 (by omega)] | refine cD (fun _ => ?_) fun _ => ?_ | refine cE (fun _ => ?_) fun _ => ?_ | refine rI rdA rf ix ?_ | refine rd_loadf rdA tv ix ?_ | (refine fr_app1 (f := GGrant.d) aN aN tv (by rfl) rf (by dsimp only [T124]; omega) om ?_; intro cN SN hEN himpl.grantsBut) | refine And.intro ?_ ?_)
  all_goals first
    | exact hE
    | (rw [List.take_of_length_le (by omega)] at hF; exact ⟨_, rfl, hF⟩)
    | (refine ⟨⟨(i + 1, _, _), by dsimp only; omega, by assumption, by first | (rw [filter_t (by omega) (by simp_all [gBut])]; assumption) | (rw [filter_f (by omega) (by simp_all [gBut])]; assumption)⟩, ?_, rfl, by dsimp only; omega⟩; (conv => whnf); repeat' (first | exact trivial | exact rfl | apply And.intro))
theorem ev_sDropRules (l : List GRule) (ext : Int) (c : C) (S : Store) (h : Rd S [.sl 8 (l.map GRule.d)] [c]) (hz : l.length ≤ 4194304) : EvA Tryz.prog 36 [.s c, .s (.int .i64 ext)] S (fun r S' => Ext S S' ∧ ∃ c', r = .v (.s c') ∧ Fr S.length S' [.sl 8 ((l.filter (rBut ext)).map GRule.d)] [c']) := by
  refine evA_intro tok Tryz.func36 (by kernel_rfl) rfl ?_
  skip
  refine loop_intro {p : Nat × Store × C // p.1 ≤ l.length ∧ Ext S p.2.1 ∧ Fr S.length p.2.1 [.sl 8 (((l.take p.1).filter (rBut ext)).map GRule.d)] [p.2.2]} [5, 6, 8, 9, 10, 11, 12, 13, 14, 15, 16, 17, 18, 19, 20, 21, 22, 23, 24, 25, 26, 27] (fun zb => [(6, .v (.s (.int .i64 zb.1.1))), (5, .v (.s zb.1.2.2))]) (fun zb => zb.1.2.1) (fun zb => l.length - zb.1.1) ⟨(0, _, _), Nat.zero_le _, Ext.push _ _, fr_lit0⟩ ?_ rfl ?_
  · (conv => whnf); repeat' (first | exact trivial | exact rfl | apply And.intro)
  rintro ⟨⟨i, Si, ci⟩, hi, hE, hF⟩; dsimp only
  replace hi : i ≤ l.length := hi
  replace hE : Ext S Si := hE
  replace hF : Fr S.length Si [.sl 8 (((l.take i).filter (rBut ext)).map GRule.d)] [ci] := hF
  have hfl := filter_len (rBut ext) l i
  repeat' ((conv => whnf) <;> first
   | rw [wrapI_i64 (by omega)] | refine cD (fun _ => ?_) fun _ => ?_ | refine cE (fun _ => ?_) fun _ => ?_ | refine rE fun hml => ?_ | refine rI rdA rf ix ?_ | refine rd_loadf rdA tv ix ?_ | (refine fr_app1 (f := GRule.d) aN aN tv (by rfl) rf (by dsimp only [T126]; omega) om ?_; intro cN SN hEN hspec.DropRules) | refine And.intro ?_ ?_)
  all_goals first
    | exact hE
    | (rw [List.take_of_length_le (by omega)] at hF; exact ⟨_, rfl, hF⟩)
    | (refine ⟨⟨(i + 1, _, _), by dsimp only; omega, by assumption, by first | (rw [filter_t (by omega) (by simp_all [rBut])]; assumption) | (rw [filter_f (by omega) (by simp_all [rBut])]; assumption)⟩, ?_, rfl, by dsimp only; omega⟩; (conv => whnf); repeat' (first | exact trivial | exact rfl | apply And.intro))
theorem ev_iDropRules (l : List GRule) (ext : Int) (c : C) (S : Store) (h : Rd S [.sl 8 (l.map GRule.d)] [c]) (hz : l.length ≤ 4194304) : EvA Tryz.prog 49 [.s c, .s (.int .i64 ext)] S (fun r S' => Ext S S' ∧ ∃ c', r = .v (.s c') ∧ Fr S.length S' [.sl 8 ((l.filter (rBut ext)).map GRule.d)] [c']) := by
  refine evA_intro tok Tryz.func49 (by kernel_rfl) rfl ?_
  repeat' ((conv => whnf) <;> first
   | refine rE fun hml => ?_)
  refine loop_intro {p : Nat × Store × C // p.1 ≤ l.length ∧ Ext S p.2.1 ∧ Fr S.length p.2.1 [.sl 8 (((l.take p.1).filter (rBut ext)).map GRule.d)] [p.2.2]} [5, 7, 11, 12, 13, 14, 15, 16, 17, 18, 19, 20, 21, 22, 23] (fun zb => [(11, .v (.s (.int .i64 zb.1.1))), (5, .v (.s zb.1.2.2))]) (fun zb => zb.1.2.1) (fun zb => l.length - zb.1.1) ⟨(0, _, _), Nat.zero_le _, Ext.push _ _, fr_lit0⟩ ?_ rfl ?_
  · (conv => whnf); repeat' (first | exact trivial | exact rfl | apply And.intro)
  rintro ⟨⟨i, Si, ci⟩, hi, hE, hF⟩; dsimp only
  replace hi : i ≤ l.length := hi
  replace hE : Ext S Si := hE
  replace hF : Fr S.length Si [.sl 8 (((l.take i).filter (rBut ext)).map GRule.d)] [ci] := hF
  have hfl := filter_len (rBut ext) l i
  repeat' ((conv => whnf) <;> first
   | rw [wrapI_i64 (by omega)] | refine cD (fun _ => ?_) fun _ => ?_ | refine cE (fun _ => ?_) fun _ => ?_ | refine rI rdA rf ix ?_ | refine rd_loadf rdA tv ix ?_ | (refine fr_app1 (f := GRule.d) aN aN tv (by rfl) rf (by dsimp only [T126]; omega) om ?_; intro cN SN hEN himpl.DropRules) | refine And.intro ?_ ?_)
  all_goals first
    | exact hE
    | (rw [List.take_of_length_le (by omega)] at hF; exact ⟨_, rfl, hF⟩)
    | (refine ⟨⟨(i + 1, _, _), by dsimp only; omega, by assumption, by first | (rw [filter_t (by omega) (by simp_all [rBut])]; assumption) | (rw [filter_f (by omega) (by simp_all [rBut])]; assumption)⟩, ?_, rfl, by dsimp only; omega⟩; (conv => whnf); repeat' (first | exact trivial | exact rfl | apply And.intro))
end Go.Proofs.YtibglkkmjigooaaGreat
