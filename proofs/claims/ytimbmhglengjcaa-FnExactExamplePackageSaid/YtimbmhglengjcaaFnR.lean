/- Copies of packages and browsers. -/
import Derived.Test.YtimbmhglengjcaaFnN
import Derived.Test.YtimbmhglengjcaaAeQ
namespace Go.Proofs.Ytimbmhglengjcaa
open Go Go.ChangeShapes Go.WideShapes Go.ChangeAt Go.RowKit
set_option linter.unusedVariables false
set_option maxRecDepth 100000

theorem ev_clonePackage (x : GPackage) (cs : List C) (S : Store) (h : Rd S x.d cs) (hz : szL x.d ≤ 4194304) : EvA Try.prog 35 [.agg cs] S (fun r S' => Ext S S' ∧ ∃ c3 c4 c5 c6, r = .v (.agg [(.int .i64 x.Ext), (.int .i64 x.Author), (.int .i64 x.Version), c3, c4, c5, c6, (.int .i64 x.Seal)]) ∧ Fr S.length S' x.d [(.int .i64 x.Ext), (.int .i64 x.Author), (.int .i64 x.Version), c3, c4, c5, c6, (.int .i64 x.Seal)]) := by
  simp only [GPackage.d, szL, List.length_map] at hz
  obtain ⟨_, _, _, _, rfl, _, _, _, _⟩ := GPackage.inv h
  refine evA_intro tok Try.func35 (by kernel_rfl) rfl ?_
  repeat' ((conv => whnf) <;> first
   | refine needP_intro (by first | omega | (constructor <;> omega)) ?_
   | refine draw_intro 3 [.fl 0, .fl 1, .fl 3, .fl 4, .fl 6, .fl 7, .fl 9, .fl 10, .st 2 [3, 4, 6, 7, 9, 10], .fl 12, .st 5 [6, 7, 9, 10, 12], .st 8 [9, 10, 12], .st 11 [12], .st 13 [], .fl 14, .st 15 [], .fl 16, .st 17 [], .fl 18, .st 19 []] (by rfl) (by kernel_rfl) ?_
   | refine And.intro ?_ ?_)
  (conv => whnf)
  refine callP_intro (ev_CloneGrant _ _ _ rdA (by omega)) ?_; rintro _ S0 ⟨e0, d0, rfl, f0⟩
  have E0 : Ext S S0 := e0
  repeat' ((conv => whnf) <;> first
   | refine needP_intro (by first | omega | (constructor <;> omega)) ?_
   | refine draw_intro 3 [.fl 0, .fl 1, .fl 3, .fl 4, .fl 6, .fl 7, .fl 9, .fl 10, .st 2 [3, 4, 6, 7, 9, 10], .fl 12, .st 5 [6, 7, 9, 10, 12], .st 8 [9, 10, 12], .st 11 [12], .st 13 [], .fl 14, .st 15 [], .fl 16, .st 17 [], .fl 18, .st 19 []] (by rfl) (by kernel_rfl) ?_
   | refine And.intro ?_ ?_)
  (conv => whnf)
  refine callP_intro (ev_CloneFlow _ _ _ rdA (by omega)) ?_; rintro _ S1 ⟨e1, d1, rfl, f1⟩
  have E1 : Ext S S1 := E0.trans e1
  repeat' ((conv => whnf) <;> first
   | refine needP_intro (by first | omega | (constructor <;> omega)) ?_
   | refine draw_intro 3 [.fl 0, .fl 1, .fl 3, .fl 4, .fl 6, .fl 7, .fl 9, .fl 10, .st 2 [3, 4, 6, 7, 9, 10], .fl 12, .st 5 [6, 7, 9, 10, 12], .st 8 [9, 10, 12], .st 11 [12], .st 13 [], .fl 14, .st 15 [], .fl 16, .st 17 [], .fl 18, .st 19 []] (by rfl) (by kernel_rfl) ?_
   | refine And.intro ?_ ?_)
  (conv => whnf)
  refine callP_intro (ev_CloneRule _ _ _ rdA (by omega)) ?_; rintro _ S2 ⟨e2, d2, rfl, f2⟩
  have E2 : Ext S S2 := E1.trans e2
  repeat' ((conv => whnf) <;> first
   | refine needP_intro (by first | omega | (constructor <;> omega)) ?_
   | refine draw_intro 3 [.fl 0, .fl 1, .fl 3, .fl 4, .fl 6, .fl 7, .fl 9, .fl 10, .st 2 [3, 4, 6, 7, 9, 10], .fl 12, .st 5 [6, 7, 9, 10, 12], .st 8 [9, 10, 12], .st 11 [12], .st 13 [], .fl 14, .st 15 [], .fl 16, .st 17 [], .fl 18, .st 19 []] (by rfl) (by kernel_rfl) ?_
   | refine And.intro ?_ ?_)
  (conv => whnf)
  refine callP_intro (ev_CloneOp _ _ _ rdA (by omega)) ?_; rintro _ S3 ⟨e3, d3, rfl, f3⟩
  have E3 : Ext S S3 := E2.trans e3
  repeat' ((conv => whnf) <;> first
   | refine needP_intro (by first | omega | (constructor <;> omega)) ?_
   | refine draw_intro 3 [.fl 0, .fl 1, .fl 3, .fl 4, .fl 6, .fl 7, .fl 9, .fl 10, .st 2 [3, 4, 6, 7, 9, 10], .fl 12, .st 5 [6, 7, 9, 10, 12], .st 8 [9, 10, 12], .st 11 [12], .st 13 [], .fl 14, .st 15 [], .fl 16, .st 17 [], .fl 18, .st 19 []] (by rfl) (by kernel_rfl) ?_
   | refine And.intro ?_ ?_)
  · exact E3
  · exact ⟨_, _, _, _, rfl, fr_x (fr_x (fr_x (fr_sl (fr_seg f0 (Ext.trans e1 (Ext.trans e2 (e3)))) (fr_sl (fr_seg f1 (Ext.trans e2 (e3))) (fr_sl (fr_seg f2 (e3)) (fr_sl (fr_seg f3 (Ext.refl _)) (fr_x (fr_nil)) (e3).len) (e2).len) (e1).len) (e0).len)))⟩
theorem ev_l26Copy (x : GPackage) (cs : List C) (S : Store) (h : Rd S x.d cs) (hz : szL x.d ≤ 4194304) : EvA Try.prog 30 [.agg cs] S (fun r S' => Ext S S' ∧ ∃ c3 c4 c5 c6, r = .v (.agg [(.int .i64 x.Ext), (.int .i64 x.Author), (.int .i64 x.Version), c3, c4, c5, c6, (.int .i64 x.Seal)]) ∧ Fr S.length S' x.d [(.int .i64 x.Ext), (.int .i64 x.Author), (.int .i64 x.Version), c3, c4, c5, c6, (.int .i64 x.Seal)]) := by
  simp only [GPackage.d, szL, List.length_map] at hz
  obtain ⟨_, _, _, _, rfl, _, _, _, _⟩ := GPackage.inv h
  refine evA_intro tok Try.func30 (by kernel_rfl) rfl ?_
  repeat' ((conv => whnf) <;> first
   | refine needP_intro (by first | omega | (constructor <;> omega)) ?_
   | (refine rd_elemsf (f := GGrant.d) (l := x.Grants) rdA (by intro _; exact trivial) (fun _ => ?_))
   | refine And.intro ?_ ?_)
  (conv => whnf)
  refine fr_clone (f := GGrant.d) (by intro _; exact trivial) (by intro _; rfl) (by dsimp only [T47, T49, T51, T54]; omega) (by omega) ?_; intro d0 S0 e0 f0
  have E0 : Ext S S0 := e0
  repeat' ((conv => whnf) <;> first
   | refine needP_intro (by first | omega | (constructor <;> omega)) ?_
   | (refine rd_elemsf (f := GFlow.d) (l := x.Flows) rdA (by intro _; exact trivial) (fun _ => ?_))
   | refine And.intro ?_ ?_)
  (conv => whnf)
  refine fr_clone (f := GFlow.d) (by intro _; exact trivial) (by intro _; rfl) (by dsimp only [T47, T49, T51, T54]; omega) (by omega) ?_; intro d1 S1 e1 f1
  have E1 : Ext S S1 := E0.trans e1
  repeat' ((conv => whnf) <;> first
   | refine needP_intro (by first | omega | (constructor <;> omega)) ?_
   | (refine rd_elemsf (f := GRule.d) (l := x.Rules) rdA (by intro _; exact trivial) (fun _ => ?_))
   | refine And.intro ?_ ?_)
  (conv => whnf)
  refine fr_clone (f := GRule.d) (by intro _; exact trivial) (by intro _; rfl) (by dsimp only [T47, T49, T51, T54]; omega) (by omega) ?_; intro d2 S2 e2 f2
  have E2 : Ext S S2 := E1.trans e2
  repeat' ((conv => whnf) <;> first
   | refine needP_intro (by first | omega | (constructor <;> omega)) ?_
   | (refine rd_elemsf (f := GOp.d) (l := x.Ops) rdA (by intro _; exact trivial) (fun _ => ?_))
   | refine And.intro ?_ ?_)
  (conv => whnf)
  refine fr_clone (f := GOp.d) (by intro _; exact trivial) (by intro _; rfl) (by dsimp only [T47, T49, T51, T54]; omega) (by omega) ?_; intro d3 S3 e3 f3
  have E3 : Ext S S3 := E2.trans e3
  repeat' ((conv => whnf) <;> first
   | refine needP_intro (by first | omega | (constructor <;> omega)) ?_
   | refine And.intro ?_ ?_)
  · exact E3
  · exact ⟨_, _, _, _, rfl, fr_x (fr_x (fr_x (fr_sl (fr_seg f0 (Ext.trans e1 (Ext.trans e2 (e3)))) (fr_sl (fr_seg f1 (Ext.trans e2 (e3))) (fr_sl (fr_seg f2 (e3)) (fr_sl (fr_seg f3 (Ext.refl _)) (fr_x (fr_nil)) (e3).len) (e2).len) (e1).len) (e0).len)))⟩
end Go.Proofs.Ytimbmhglengjcaa
