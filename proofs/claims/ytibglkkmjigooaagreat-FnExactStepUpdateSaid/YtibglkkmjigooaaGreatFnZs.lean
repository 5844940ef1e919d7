/- Updates of packages; the step of an update. -/
import Derived.Test.YtibglkkmjigooaaGreatFnZr
import Derived.Test.YtibglkkmjigooaaGreatFnZb
namespace Go.Proofs.YtibglkkmjigooaaGreat
open Go Go.ChangeShapes Go.WideShapes Go.ChangeAt Go.RowKit
set_option linter.unusedVariables false
set_option maxRecDepth 100000

theorem Fr.swap {S : Store} {lo : Nat} {ds ds' : List D} {cs cs' : List C} (h : Fr lo S (ds ++ ds') (cs ++ cs')) (hl : cs.length = ds.length) : Fr lo S (ds' ++ ds) (cs' ++ cs) := by
  obtain ⟨ids, hg, hn, hlo⟩ := h
  obtain ⟨p1, p2, ia, jy, s1, s2, h, hy⟩ := hg.split
  obtain ⟨s3, s4⟩ := List.append_inj s1 (by rw [hl, h.len])
  subst s3; subst s4; subst s2
  exact ⟨jy ++ ia, hy.append h, (List.perm_append_comm.nodup_iff).1 hn, fun id hi => hlo id (List.mem_append.2 (List.mem_append.1 hi).symm)⟩
def gBut (ext : Int) (g : GGrant) : Bool := !decide (g.Ext = ext)
def rBut (ext : Int) (g : GRule) : Bool := !decide (g.Ext = ext)
theorem ev_l35Others (l : List GGrant) (ext : Int) (c : C) (S : Store) (h : Rd S [.sl 7 (l.map GGrant.d)] [c]) (hz : l.length ≤ 4194304) : EvA Tryz.prog 35 [.s c, .s (.int .i64 ext)] S (fun r S' => Ext S S' ∧ ∃ c', r = .v (.s c') ∧ Fr S.length S' [.sl 7 ((l.filter (gBut ext)).map GGrant.d)] [c']) := by
  refine evA_intro tok Tryz.func35 (by kernel_rfl) rfl ?_
  skip
  refine loop_intro {p : Nat × Store × C // p.1 ≤ l.length ∧ Ext S p.2.1 ∧ Fr S.length p.2.1 [.sl 7 (((l.take p.1).filter (gBut ext)).map GGrant.d)] [p.2.2]} [5, 6, 8, 9, 10, 11, 12, 13, 14, 15, 16, 17, 18, 19, 20, 21, 22, 23, 24, 25, 26, 27] (fun zb => [(6, .v (.s (.int .i64 zb.1.1))), (5, .v (.s zb.1.2.2))]) (fun zb => zb.1.2.1) (fun zb => l.length - zb.1.1) ⟨(0, _, _), Nat.zero_le _, Ext.push _ _, fr_lit0⟩ ?_ rfl ?_
  · (conv => whnf); repeat' (first | exact trivial | exact rfl | apply And.intro)
  rintro ⟨⟨i, Si, ci⟩, hi, hE, hF⟩; dsimp only
  replace hi : i ≤ l.length := hi
  replace hE : Ext S Si := hE
  replace hF : Fr S.length Si [.sl 7 (((l.take i).filter (gBut ext)).map GGrant.d)] [ci] := hF
  have hfl := filter_len (gBut ext) l i
  repeat' ((conv => whnf) <;> first
   | rw [wrapI_i64 (by omega)] | refine cD (fun _ => ?_) fun _ => ?_ | refine cE (fun _ => ?_) fun _ => ?_ | refine rE fun hml => ?_ | refine rI rdA rf ix ?_ | refine rd_loadf rdA tv ix ?_ | (refine fr_app1 (f := GGrant.d) aN aN tv (by rfl) rf (by dsimp only [T124]; omega) om ?_; intro cN SN hEN hspec.l35Others) | refine And.intro ?_ ?_)
  all_goals first
    | exact hE
    | (rw [List.take_of_length_le (by omega)] at hF; exact ⟨_, rfl, hF⟩)
    | (refine ⟨⟨(i + 1, _, _), by dsimp only; omega, by assumption, by first | (rw [filter_t (by omega) (by simp_all [gBut])]; assumption) | (rw [filter_f (by omega) (by simp_all [gBut])]; assumption)⟩, ?_, rfl, by dsimp only; omega⟩; (conv => whnf); repeat' (first | exact trivial | exact rfl | apply And.intro))
theorem ev_grantsBut (l : List GGrant) (ext : Int) (c : C) (S : Store) (h : Rd S [.sl 7 (l.map GGrant.d)] [c]) (hz : l.length ≤ 4194304) : EvA Tryz.prog 48 [.s c, .s (.int .i64 ext)] S (fun r S' => Ext S S' ∧ ∃ c', r = .v (.s c') ∧ Fr S.length S' [.sl 7 ((l.filter (gBut ext)).map GGrant.d)] [c']) := by
  refine evA_intro tok Tryz.func48 (by kernel_rfl) rfl ?_
  repeat' ((conv => whnf) <;> first
   | refine rE fun hml => ?_)
  refine loop_intro {p : Nat × Store × C // p.1 ≤ l.length ∧ Ext S p.2.1 ∧ Fr S.length p.2.1 [.sl 7 (((l.take p.1).filter (gBut ext)).map GGrant.d)] [p.2.2]} [5, 7, 11, 12, 13, 14, 15, 16, 17, 18, 19, 20, 21, 22, 23] (fun zb => [(11, .v (.s (.int .i64 zb.1.1))), (5, .v (.s zb.1.2.2))]) (fun zb => zb.1.2.1) (fun zb => l.length - zb.1.1) ⟨(0, _, _), Nat.zero_le _, Ext.push _ _, fr_lit0⟩ ?_ rfl ?_
  · (conv => whnf); repeat' (first | exact trivial | exact rfl | apply And.intro)
  rintro ⟨⟨i, Si, ci⟩, hi, hE, hF⟩; dsimp only
  replace hi : i ≤ l.length := hi
  replace hE : Ext S Si := hE
  replace hF : Fr S.length Si [.sl 7 (((l.take i).filter (gBut ext)).map GGrant.d)] [ci] := hF
  have hfl := filter_len (gBut ext) l i
  repeat' ((conv => whnf) <;> first
   | rw [wrapI_i64 (by omega)] | refine cD (fun _ => ?_) fun _ => ?_ | refine cE (fun _ => ?_) fun _ => ?_ | refine rI rdA rf ix ?_ | refine rd_loadf rdA tv ix ?_ | (refine fr_app1 (f := GGrant.d) aN aN tv (by rfl) rf (by dsimp only [T124]; omega) om ?_; intro cN SN hEN himpl.grantsBut) | refine And.intro ?_ ?_)
  all_goals first
    | exact hE
    | (rw [List.take_of_length_le (by omega)] at hF; exact ⟨_, rfl, hF⟩)
    | (refine ⟨⟨(i + 1, _, _), by dsimp only; omega, by assumption, by first | (rw [filter_t (by omega) (by simp_all [gBut])]; assumption) | (rw [filter_f (by omega) (by simp_all [gBut])]; assumption)⟩, ?_, rfl, by dsimp only; omega⟩; (conv => whnf); repeat' (first | exact trivial | exact rfl | apply And.intro))
theorem ev_sDropRules (l : List GRule) (ext : Int) (c : C) (S : Store) (h : Rd S [.sl 8 (l.map GRule.d)] [c]) (hz : l.length ≤ 4194304) : EvA Tryz.prog 36 [.s c, .s (.int .i64 ext)] S (fun r S' => Ext S S' ∧ ∃ c', r = .v (.s c') ∧ Fr S.length S' [.sl 8 ((l.filter (rBut ext)).map GRule.d)] [c']) := by
  refine evA_intro tok Tryz.func36 (by kernel_rfl) rfl ?_
  skip
  refine loop_intro {p : Nat × Store × C // p.1 ≤ l.length ∧ Ext S p.2.1 ∧ Fr S.length p.2.1 [.sl 8 (((l.take p.1).filter (rBut ext)).map GRule.d)] [p.2.2]} [5, 6, 8, 9, 10, 11, 12, 13, 14, 15, 16, 17, 18, 19, 20, 21, 22, 23, 24, 25, 26, 27] (fun zb => [(6, .v (.s (.int .i64 zb.1.1))), (5, .v (.s zb.1.2.2))]) (fun zb => zb.1.2.1) (fun zb => l.length - zb.1.1) ⟨(0, _, _), Nat.zero_le _, Ext.push _ _, fr_lit0⟩ ?_ rfl ?_
  · (conv => whnf); repeat' (first | exact trivial | exact rfl | apply And.intro)
  rintro ⟨⟨i, Si, ci⟩, hi, hE, hF⟩; dsimp only
  replace hi : i ≤ l.length := hi
  replace hE : Ext S Si := hE
  replace hF : Fr S.length Si [.sl 8 (((l.take i).filter (rBut ext)).map GRule.d)] [ci] := hF
  have hfl := filter_len (rBut ext) l i
  repeat' ((conv => whnf) <;> first
   | rw [wrapI_i64 (by omega)] | refine cD (fun _ => ?_) fun _ => ?_ | refine cE (fun _ => ?_) fun _ => ?_ | refine rE fun hml => ?_ | refine rI rdA rf ix ?_ | refine rd_loadf rdA tv ix ?_ | (refine fr_app1 (f := GRule.d) aN aN tv (by rfl) rf (by dsimp only [T126]; omega) om ?_; intro cN SN hEN hspec.DropRules) | refine And.intro ?_ ?_)
  all_goals first
    | exact hE
    | (rw [List.take_of_length_le (by omega)] at hF; exact ⟨_, rfl, hF⟩)
    | (refine ⟨⟨(i + 1, _, _), by dsimp only; omega, by assumption, by first | (rw [filter_t (by omega) (by simp_all [rBut])]; assumption) | (rw [filter_f (by omega) (by simp_all [rBut])]; assumption)⟩, ?_, rfl, by dsimp only; omega⟩; (conv => whnf); repeat' (first | exact trivial | exact rfl | apply And.intro))
theorem ev_iDropRules (l : List GRule) (ext : Int) (c : C) (S : Store) (h : Rd S [.sl 8 (l.map GRule.d)] [c]) (hz : l.length ≤ 4194304) : EvA Tryz.prog 49 [.s c, .s (.int .i64 ext)] S (fun r S' => Ext S S' ∧ ∃ c', r = .v (.s c') ∧ Fr S.length S' [.sl 8 ((l.filter (rBut ext)).map GRule.d)] [c']) := by
  refine evA_intro tok Tryz.func49 (by kernel_rfl) rfl ?_
  repeat' ((conv => whnf) <;> first
   | refine rE fun hml => ?_)
  refine loop_intro {p : Nat × Store × C // p.1 ≤ l.length ∧ Ext S p.2.1 ∧ Fr S.length p.2.1 [.sl 8 (((l.take p.1).filter (rBut ext)).map GRule.d)] [p.2.2]} [5, 7, 11, 12, 13, 14, 15, 16, 17, 18, 19, 20, 21, 22, 23] (fun zb => [(11, .v (.s (.int .i64 zb.1.1))), (5, .v (.s zb.1.2.2))]) (fun zb => zb.1.2.1) (fun zb => l.length - zb.1.1) ⟨(0, _, _), Nat.zero_le _, Ext.push _ _, fr_lit0⟩ ?_ rfl ?_
  · (conv => whnf); repeat' (first | exact trivial | exact rfl | apply And.intro)
  rintro ⟨⟨i, Si, ci⟩, hi, hE, hF⟩; dsimp only
  replace hi : i ≤ l.length := hi
  replace hE : Ext S Si := hE
  replace hF : Fr S.length Si [.sl 8 (((l.take i).filter (rBut ext)).map GRule.d)] [ci] := hF
  have hfl := filter_len (rBut ext) l i
  repeat' ((conv => whnf) <;> first
   | rw [wrapI_i64 (by omega)] | refine cD (fun _ => ?_) fun _ => ?_ | refine cE (fun _ => ?_) fun _ => ?_ | refine rI rdA rf ix ?_ | refine rd_loadf rdA tv ix ?_ | (refine fr_app1 (f := GRule.d) aN aN tv (by rfl) rf (by dsimp only [T126]; omega) om ?_; intro cN SN hEN himpl.DropRules) | refine And.intro ?_ ?_)
  all_goals first
    | exact hE
    | (rw [List.take_of_length_le (by omega)] at hF; exact ⟨_, rfl, hF⟩)
    | (refine ⟨⟨(i + 1, _, _), by dsimp only; omega, by assumption, by first | (rw [filter_t (by omega) (by simp_all [rBut])]; assumption) | (rw [filter_f (by omega) (by simp_all [rBut])]; assumption)⟩, ?_, rfl, by dsimp only; omega⟩; (conv => whnf); repeat' (first | exact trivial | exact rfl | apply And.intro))

/-! ### updates -/
def wider (old p : GPackage) : Bool := !withinGrants p.Grants old.Grants || !flowsIn p.Flows old.Flows
theorem ev_sIsWider (old p : GPackage) (cs cs' : List C) (S : Store) (h : Rd S old.d cs) (h' : Rd S p.d cs') : EvA Tryz.prog 229 [.agg cs, .agg cs'] S (fun r S' => r = .v (.s (.bool (wider old p))) ∧ S' = S) := by
  obtain ⟨_, _, _, _, rfl, q1, q2, _, _⟩ := GPackage.inv h
  obtain ⟨_, _, _, _, rfl, p1, p2, _, _⟩ := GPackage.inv h'
  unfold wider
  cases a1 : withinGrants p.Grants old.Grants <;> cases a2 : flowsIn p.Flows old.Flows
  all_goals
    refine evA_intro tok Tryz.func229 (by kernel_rfl) rfl ?_
    repeat' ((conv => whnf) <;> first
     | (refine callP_eq (ev_sFlowsIn p.Flows old.Flows _ _ _ p2 q2) ?_) | (refine callP_eq (ev_sIsWithin p.Grants old.Grants _ _ _ p1 q1) ?_) | (show CondP _ _ _; refine cS ?_) | refine And.intro ?_ ?_)
    all_goals first
      | rfl
      | (rw [a2]; rfl)
      | (exfalso; simp_all; done)
theorem ev_iIsWider (old p : GPackage) (cs cs' : List C) (S : Store) (h : Rd S old.d cs) (h' : Rd S p.d cs') : EvA Tryz.prog 230 [.agg cs, .agg cs'] S (fun r S' => r = .v (.s (.bool (wider old p))) ∧ S' = S) := by
  obtain ⟨_, _, _, _, rfl, q1, q2, _, _⟩ := GPackage.inv h
  obtain ⟨_, _, _, _, rfl, p1, p2, _, _⟩ := GPackage.inv h'
  unfold wider
  cases a1 : withinGrants p.Grants old.Grants <;> cases a2 : flowsIn p.Flows old.Flows
  all_goals
    refine evA_intro tok Tryz.func230 (by kernel_rfl) rfl ?_
    repeat' ((conv => whnf) <;> first
     | (refine callP_eq (ev_iFlowsIn p.Flows old.Flows _ _ _ p2 q2) ?_) | (refine callP_eq (ev_iIsWithin p.Grants old.Grants _ _ _ p1 q1) ?_) | (show CondP _ _ _; refine cS ?_) | refine And.intro ?_ ?_)
    all_goals first
      | rfl
      | (rw [a2]; rfl)
      | (exfalso; simp_all; done)
def updCode (key : Int) (old p : GPackage) (consent : Bool) : Int :=
  if isPackage old = true then
    if review key p = 0 then
      if old.Ext = p.Ext then
        if old.Author = p.Author then
          if p.Version ≤ old.Version then 2
          else if wider old p = true then (if consent = true then 0 else 3) else 0
        else 1
      else 1
    else 1
  else 1
theorem updCode_cases (key : Int) (old p : GPackage) (consent : Bool) :
    (isPackage old = false ∧ updCode key old p consent = 1) ∨
    (isPackage old = true ∧ ¬ review key p = 0 ∧ updCode key old p consent = 1) ∨
    (isPackage old = true ∧ review key p = 0 ∧ ¬ old.Ext = p.Ext ∧ updCode key old p consent = 1) ∨
    (isPackage old = true ∧ review key p = 0 ∧ old.Ext = p.Ext ∧ ¬ old.Author = p.Author ∧ updCode key old p consent = 1) ∨
    (isPackage old = true ∧ review key p = 0 ∧ old.Ext = p.Ext ∧ old.Author = p.Author ∧ p.Version ≤ old.Version ∧ updCode key old p consent = 2) ∨
    (isPackage old = true ∧ review key p = 0 ∧ old.Ext = p.Ext ∧ old.Author = p.Author ∧ ¬ p.Version ≤ old.Version ∧ wider old p = false ∧ updCode key old p consent = 0) ∨
    (isPackage old = true ∧ review key p = 0 ∧ old.Ext = p.Ext ∧ old.Author = p.Author ∧ ¬ p.Version ≤ old.Version ∧ wider old p = true ∧ consent = true ∧ updCode key old p consent = 0) ∨
    (isPackage old = true ∧ review key p = 0 ∧ old.Ext = p.Ext ∧ old.Author = p.Author ∧ ¬ p.Version ≤ old.Version ∧ wider old p = true ∧ consent = false ∧ updCode key old p consent = 3) := by
  unfold updCode
  by_cases h1 : isPackage old = true
  · by_cases h2 : review key p = 0
    · by_cases h3 : old.Ext = p.Ext
      · by_cases h4 : old.Author = p.Author
        · by_cases h5 : p.Version ≤ old.Version
          · simp [h1, h2, h3, h4, h5]
          · cases h6 : wider old p <;> cases h7 : consent <;> simp [h1, h2, h3, h4, h5]
        · simp [h1, h2, h3, h4]
      · simp [h1, h2, h3]
    · simp [h1, h2]
  · simp [h1]
set_option maxHeartbeats 2000000 in
theorem ev_sUpdCode (key : Int) (old p : GPackage) (consent : Bool) (cs cs' : List C) (S : Store) (h : Rd S old.d cs) (h' : Rd S p.d cs') (hz : szL p.d ≤ 4194304) : EvA Tryz.prog 165 [.s (.int .i64 key), .agg cs, .agg cs', .s (.bool consent)] S (fun r S' => r = .v (.s (.int .i64 (updCode key old p consent))) ∧ S' = S) := by
  have hR := h
  have hR' := h'
  obtain ⟨_, _, _, _, rfl, _, _, _, _⟩ := GPackage.inv h
  obtain ⟨_, _, _, _, rfl, _, _, _, _⟩ := GPackage.inv h'
  rcases updCode_cases key old p consent with ⟨a1, a0⟩ | ⟨a1, a2, a0⟩ | ⟨a1, a2, a3, a0⟩ | ⟨a1, a2, a3, a4, a0⟩ | ⟨a1, a2, a3, a4, a5, a0⟩ | ⟨a1, a2, a3, a4, a5, a6, a0⟩ | ⟨a1, a2, a3, a4, a5, a6, a7, a0⟩ | ⟨a1, a2, a3, a4, a5, a6, a7, a0⟩
  all_goals
    rw [a0]
    refine evA_intro tok Tryz.func165 (by kernel_rfl) rfl ?_
    repeat' ((conv => whnf) <;> first
     | (refine callP_eq (ev_sIsWider old p _ _ _ hR hR') ?_) | (refine callP_eq (ev_sReview key p _ _ hR' hz) ?_) | (refine callP_eq (ev_sIsPackage old _ _ hR) ?_) | (show CondP _ _ _; refine cS ?_) | refine cT ?_ | refine cF ?_ | refine And.intro ?_ ?_)
    all_goals first
      | rfl
      | (exfalso; simp_all; done)
      | (exfalso; omega)
set_option maxHeartbeats 2000000 in
theorem ev_iUpdCode (key : Int) (old p : GPackage) (consent : Bool) (cs cs' : List C) (S : Store) (h : Rd S old.d cs) (h' : Rd S p.d cs') (hz : szL p.d ≤ 4194304) : EvA Tryz.prog 166 [.s (.int .i64 key), .agg cs, .agg cs', .s (.bool consent)] S (fun r S' => r = .v (.s (.int .i64 (updCode key old p consent))) ∧ S' = S) := by
  have hR := h
  have hR' := h'
  obtain ⟨_, _, _, _, rfl, _, _, _, _⟩ := GPackage.inv h
  obtain ⟨_, _, _, _, rfl, _, _, _, _⟩ := GPackage.inv h'
  rcases updCode_cases key old p consent with ⟨a1, a0⟩ | ⟨a1, a2, a0⟩ | ⟨a1, a2, a3, a0⟩ | ⟨a1, a2, a3, a4, a0⟩ | ⟨a1, a2, a3, a4, a5, a0⟩ | ⟨a1, a2, a3, a4, a5, a6, a0⟩ | ⟨a1, a2, a3, a4, a5, a6, a7, a0⟩ | ⟨a1, a2, a3, a4, a5, a6, a7, a0⟩
  all_goals
    rw [a0]
    refine evA_intro tok Tryz.func166 (by kernel_rfl) rfl ?_
    repeat' ((conv => whnf) <;> first
     | (refine callP_eq (ev_iIsWider old p _ _ _ hR hR') ?_) | (refine callP_eq (ev_iReview key p _ _ hR') ?_) | (refine callP_eq (ev_iIsPackage old _ _ hR) ?_) | (show CondP _ _ _; refine cS ?_) | refine cT ?_ | refine cF ?_ | refine And.intro ?_ ?_)
    all_goals first
      | rfl
      | (exfalso; simp_all; done)
      | (exfalso; omega)
def updated (key : Int) (old p : GPackage) (consent : Bool) : GPackage × Bool := if updCode key old p consent = 0 then (p, true) else (old, false)
theorem ev_sUpdPack (key : Int) (old p : GPackage) (consent : Bool) (cs cs' : List C) (S : Store) (h : Rd S old.d cs) (h' : Rd S p.d cs') (hz : szL p.d ≤ 4194304) (hz' : szL old.d ≤ 4194304) : EvA Tryz.prog 91 [.s (.int .i64 key), .agg cs, .agg cs', .s (.bool consent)] S (fun r S' => Ext S S' ∧ ∃ c3 c4 c5 c6, r = .tup [.agg [(.int .i64 (updated key old p consent).1.Ext), (.int .i64 (updated key old p consent).1.Author), (.int .i64 (updated key old p consent).1.Version), c3, c4, c5, c6, (.int .i64 (updated key old p consent).1.Seal)], .s (.bool (updated key old p consent).2)] ∧ Fr S.length S' (updated key old p consent).1.d [(.int .i64 (updated key old p consent).1.Ext), (.int .i64 (updated key old p consent).1.Author), (.int .i64 (updated key old p consent).1.Version), c3, c4, c5, c6, (.int .i64 (updated key old p consent).1.Seal)]) := by
  have hR := h
  have hR' := h'
  obtain ⟨_, _, _, _, rfl, _, _, _, _⟩ := GPackage.inv h
  obtain ⟨_, _, _, _, rfl, _, _, _, _⟩ := GPackage.inv h'
  by_cases h0 : updCode key old p consent = 0
  · rw [show updated key old p consent = (p, true) from if_pos h0]
    refine evA_intro tok Tryz.func91 (by kernel_rfl) rfl ?_
    repeat' ((conv => whnf) <;> first
     | (refine callP_eq (ev_sUpdCode key old p consent _ _ _ hR hR' hz) ?_) | (show CondP _ _ _; refine cS ?_))
    all_goals try (exfalso; omega)
    (conv => whnf)
    refine callP_intro (ev_l26Copy p _ _ hR' hz) ?_; rintro _ S1 ⟨e1, c3, c4, c5, c6, rfl, f1⟩
    repeat' ((conv => whnf) <;> first
     | refine And.intro ?_ ?_)
    all_goals first
      | exact e1
      | exact ⟨_, _, _, _, rfl, f1⟩
  · rw [show updated key old p consent = (old, false) from if_neg h0]
    refine evA_intro tok Tryz.func91 (by kernel_rfl) rfl ?_
    repeat' ((conv => whnf) <;> first
     | (refine callP_eq (ev_sUpdCode key old p consent _ _ _ hR hR' hz) ?_) | (show CondP _ _ _; refine cS ?_))
    all_goals try (exfalso; omega)
    (conv => whnf)
    refine callP_intro (ev_l26Copy old _ _ hR hz') ?_; rintro _ S1 ⟨e1, c3, c4, c5, c6, rfl, f1⟩
    repeat' ((conv => whnf) <;> first
     | refine And.intro ?_ ?_)
    all_goals first
      | exact e1
      | exact ⟨_, _, _, _, rfl, f1⟩
theorem ev_iUpdPack (key : Int) (old p : GPackage) (consent : Bool) (cs cs' : List C) (S : Store) (h : Rd S old.d cs) (h' : Rd S p.d cs') (hz : szL p.d ≤ 4194304) (hz' : szL old.d ≤ 4194304) : EvA Tryz.prog 92 [.s (.int .i64 key), .agg cs, .agg cs', .s (.bool consent)] S (fun r S' => Ext S S' ∧ ∃ c3 c4 c5 c6, r = .tup [.agg [(.int .i64 (updated key old p consent).1.Ext), (.int .i64 (updated key old p consent).1.Author), (.int .i64 (updated key old p consent).1.Version), c3, c4, c5, c6, (.int .i64 (updated key old p consent).1.Seal)], .s (.bool (updated key old p consent).2)] ∧ Fr S.length S' (updated key old p consent).1.d [(.int .i64 (updated key old p consent).1.Ext), (.int .i64 (updated key old p consent).1.Author), (.int .i64 (updated key old p consent).1.Version), c3, c4, c5, c6, (.int .i64 (updated key old p consent).1.Seal)]) := by
  have hR := h
  have hR' := h'
  obtain ⟨_, _, _, _, rfl, _, _, _, _⟩ := GPackage.inv h
  obtain ⟨_, _, _, _, rfl, _, _, _, _⟩ := GPackage.inv h'
  by_cases h0 : updCode key old p consent = 0
  · rw [show updated key old p consent = (p, true) from if_pos h0]
    refine evA_intro tok Tryz.func92 (by kernel_rfl) rfl ?_
    repeat' ((conv => whnf) <;> first
     | (refine callP_eq (ev_iUpdCode key old p consent _ _ _ hR hR' hz) ?_) | (show CondP _ _ _; refine cS ?_))
    all_goals try (exfalso; omega)
    (conv => whnf)
    refine callP_intro (ev_clonePackage p _ _ hR' hz) ?_; rintro _ S1 ⟨e1, c3, c4, c5, c6, rfl, f1⟩
    repeat' ((conv => whnf) <;> first
     | refine And.intro ?_ ?_)
    all_goals first
      | exact e1
      | exact ⟨_, _, _, _, rfl, f1⟩
  · rw [show updated key old p consent = (old, false) from if_neg h0]
    refine evA_intro tok Tryz.func92 (by kernel_rfl) rfl ?_
    repeat' ((conv => whnf) <;> first
     | (refine callP_eq (ev_iUpdCode key old p consent _ _ _ hR hR' hz) ?_) | (show CondP _ _ _; refine cS ?_))
    all_goals try (exfalso; omega)
    (conv => whnf)
    refine callP_intro (ev_clonePackage old _ _ hR hz') ?_; rintro _ S1 ⟨e1, c3, c4, c5, c6, rfl, f1⟩
    repeat' ((conv => whnf) <;> first
     | refine And.intro ?_ ?_)
    all_goals first
      | exact e1
      | exact ⟨_, _, _, _, rfl, f1⟩
end Go.Proofs.YtibglkkmjigooaaGreat
