/- The values that an extension reads. A text of the proof. Labels, flows, what programs send. Programs run. A text of the proof. A text of the proof. -/
import Derived.Test.YtockphlpokoohaaGreatKb31
import Derived.Test.YtockphlpokoohaaGreatKb39
import Derived.Test.YtockphlpokoohaaGreatKb27
import Derived.Test.YtockphlpokoohaaGreatKb34
import Derived.Test.YtockphlpokoohaaGreatKb32
import Derived.Test.YtockphlpokoohaaGreatKb26
import Derived.Test.YtockphlpokoohaaGreatKb35
import Derived.Test.YtockphlpokoohaaGreatKb33
import Derived.Test.YtockphlpokoohaaGreatKb38
import Derived.Test.YtockphlpokoohaaGreatShelf
import Derived.Test.YtockphlpokoohaaGreatKb47
namespace Go.Proofs.YtockphlpokoohaaGreat
open Go Go.ChangeShapes Go.WideShapes Go.ChangeAt Go.RowKit
set_option linter.unusedVariables false
set_option linter.unusedSimpArgs false
set_option maxRecDepth 100000
def valueOf (l : List Int) (o : Int) : Int := if 1 ≤ o ∧ o ≤ l.length then (if inR (l.getD (o.toNat - 1) 0) 0 999 then l.getD (o.toNat - 1) 0 else 0) else 0
end Go.Proofs.YtockphlpokoohaaGreat
namespace Go.Proofs.YtockphlpokoohaaGreat
open Go Go.ChangeShapes Go.WideShapes Go.ChangeAt Go.RowKit
set_option linter.unusedVariables false
set_option linter.unusedSimpArgs false
set_option maxRecDepth 100000
theorem ev_contains (l : List Int) (v : Int) (c : C) (S : Store) (h : Rd S [.sl 1 (l.map dInt)] [c]) : EvA Tryz.prog 19 [.s c, .s (.int .i64 v)] S (fun r S' => r = .v (.s (.bool (decide (v ∈ l)))) ∧ S' = S) := by
  refine evA_intro tok Tryz.func19 (by kernel_rfl) rfl ?_
  repeat' ((conv => whnf) <;> first
   | rw [wrapI_i64 (by omega)] | refine cD (fun _ => ?_) fun _ => ?_ | refine cE (fun _ => ?_) fun _ => ?_ | refine cT ?_ | refine cF ?_ | refine cN (fun _ => ?_) fun _ => ?_ | refine cI (fun _ => ?_) fun _ => ?_ | refine rE fun hml => ?_ | refine rI aN rf ix ?_ | refine rd_loadf aN tv ix ?_ | refine nP ?_ | refine And.intro ?_ ?_)
  refine loop_intro {i : Nat // i ≤ l.length ∧ decide (v ∈ l.drop i) = decide (v ∈ l)} [4, 5, 6, 7, 8, 9, 10, 11, 12, 13, 14, 15, 16, 17] (fun zb => [(5, .v (.s (.int .i64 zb.1)))]) (fun _ => S) (fun zb => l.length - zb.1) ⟨0, Nat.zero_le _, rfl⟩ ?_ rfl ?_
  · (conv => whnf); repeat' (first | exact trivial | exact rfl | apply And.intro)
  rintro ⟨i, hi, hinv⟩; dsimp only
  by_cases hlt : i < l.length
  · have hlt' : ((i : Nat) : Int).toNat < l.length := by simpa using hlt
    rw [drop_at hlt] at hinv
    by_cases he : l[((i : Nat) : Int).toNat]'hlt' = v
    · have he' : decide (v ∈ l) = true := by simp only [Int.toNat_natCast] at he; rw [← hinv]; simp [he]
      rw [he']
      repeat' ((conv => whnf) <;> first
       | rw [wrapI_i64 (by omega)] | (show CondP _ _ _; refine cS ?_) | refine cD (fun _ => ?_) fun _ => ?_ | refine cE (fun _ => ?_) fun _ => ?_ | refine cT ?_ | refine cF ?_ | refine cN (fun _ => ?_) fun _ => ?_ | refine cI (fun _ => ?_) fun _ => ?_ | refine rE fun hml => ?_ | refine rI aN rf ix ?_ | refine rd_loadf aN tv ix ?_ | refine nP ?_ | refine And.intro ?_ ?_)
      all_goals first
        | rfl
        | (exfalso; omega)
    · have he' : decide (v ∈ l.drop (i + 1)) = decide (v ∈ l) := by simp only [Int.toNat_natCast] at he; rw [← hinv]; simp only [List.mem_cons, Ne.symm he, false_or]
      repeat' ((conv => whnf) <;> first
       | rw [wrapI_i64 (by omega)] | (show CondP _ _ _; refine cS ?_) | refine cD (fun _ => ?_) fun _ => ?_ | refine cE (fun _ => ?_) fun _ => ?_ | refine cT ?_ | refine cF ?_ | refine cN (fun _ => ?_) fun _ => ?_ | refine cI (fun _ => ?_) fun _ => ?_ | refine rE fun hml => ?_ | refine rI aN rf ix ?_ | refine rd_loadf aN tv ix ?_ | refine nP ?_ | refine And.intro ?_ ?_)
      all_goals first
        | (exfalso; omega)
        | (refine ⟨⟨i + 1, by omega, he'⟩, ?_, rfl, by simp; omega⟩; (conv => whnf); repeat' (first | exact trivial | exact rfl | apply And.intro))
  · have he' : decide (v ∈ l) = false := by rw [← hinv, List.drop_of_length_le (by omega)]; simp
    rw [he']
    repeat' ((conv => whnf) <;> first
     | rw [wrapI_i64 (by omega)] | (show CondP _ _ _; refine cS ?_) | refine cD (fun _ => ?_) fun _ => ?_ | refine cE (fun _ => ?_) fun _ => ?_ | refine cT ?_ | refine cF ?_ | refine cN (fun _ => ?_) fun _ => ?_ | refine cI (fun _ => ?_) fun _ => ?_ | refine rE fun hml => ?_ | refine rI aN rf ix ?_ | refine rd_loadf aN tv ix ?_ | refine nP ?_ | refine And.intro ?_ ?_)
    all_goals first
      | rfl
      | (exfalso; omega)
end Go.Proofs.YtockphlpokoohaaGreat
namespace Go.Proofs.YtockphlpokoohaaGreat
open Go Go.ChangeShapes Go.WideShapes Go.ChangeAt Go.RowKit
set_option linter.unusedVariables false
set_option linter.unusedSimpArgs false
set_option maxRecDepth 100000
def lorI (x y : Int) : Int := ((x.toNat ||| y.toNat : Nat) : Int)
def isLabel (x : Int) : Bool := inR x 0 1022 && decide (x % 2 = 0)
theorem isLabel_t {x : Int} (h : isLabel x = true) : 0 ≤ x ∧ x ≤ 1022 ∧ x % 2 = 0 := by simp [isLabel, inR] at h; omega
theorem label_t {x : Int} (h : 0 ≤ x ∧ x ≤ 1022 ∧ x % 2 = 0) : isLabel x = true := by simp [isLabel, inR]; omega
theorem lor_label {x y : Int} (hx : isLabel x = true) (hy : isLabel y = true) : isLabel (lorI x y) = true := by
  have h1 := isLabel_t hx; have h2 := isLabel_t hy
  have hl : x.toNat ||| y.toNat < 2 ^ 10 := Nat.or_lt_two_pow (by omega) (by omega)
  have hm : (x.toNat ||| y.toNat) % 2 = 0 := by
    have e : (x.toNat ||| y.toNat).testBit 0 = (x.toNat.testBit 0 || y.toNat.testBit 0) := Nat.testBit_or ..
    rw [Nat.testBit_zero, Nat.testBit_zero, Nat.testBit_zero] at e
    have hx0 : x.toNat % 2 = 0 := by omega
    have hy0 : y.toNat % 2 = 0 := by omega
    rw [hx0, hy0] at e
    have e2 := of_decide_eq_false (e.trans (by decide))
    omega
  refine label_t ?_
  unfold lorI
  omega
end Go.Proofs.YtockphlpokoohaaGreat
namespace Go.Proofs.YtockphlpokoohaaGreat
set_option linter.unusedVariables false
set_option linter.unusedSimpArgs false
set_option maxRecDepth 100000
section
open Go Go.ChangeShapes Go.WideShapes Go.ChangeAt Go.RowKit
def getI (l : List Int) (i : Int) : Int := l.getD i.toNat 0
theorem getI_at {l : List Int} {i : Int} (h : i.toNat < l.length) : getI l i = l[i.toNat] := by unfold getI; rw [List.getD_eq_getElem?_getD, List.getElem?_eq_getElem h]; rfl
def opV (values : List Int) (o : GOp) (v : List Int) : List Int :=
  if o.Kind = 1 then v.set o.A.toNat (valueOf values o.B)
  else if o.Kind = 2 then v.set o.A.toNat o.B
  else if o.Kind = 3 then v.set o.A.toNat (Int.tmod (getI v o.B + getI v o.C) 1000)
  else if o.Kind = 4 then (if Int.tmod (getI v o.B) 2 = 0 then v.set o.A.toNat (getI v o.C) else v)
  else v
def opL (o : GOp) (b : List Int) : List Int :=
  if o.Kind = 1 then b.set o.A.toNat ((2 ^ o.B.toNat : Nat) : Int)
  else if o.Kind = 2 then b.set o.A.toNat 0
  else if o.Kind = 3 then b.set o.A.toNat (lorI (getI b o.B) (getI b o.C))
  else if o.Kind = 4 then b.set o.A.toNat (lorI (lorI (getI b o.A) (getI b o.B)) (getI b o.C))
  else b
abbrev zeros6 : List Int := [0, 0, 0, 0, 0, 0]
structure GoodM (v b : List Int) : Prop where
  vl : v.length = 6
  bl : b.length = 6
  vb : ∀ x ∈ v, 0 ≤ x ∧ x ≤ 999
  bb : ∀ x ∈ b, isLabel x = true
theorem GoodM.zero : GoodM zeros6 zeros6 := ⟨rfl, rfl, by simp, by simp; decide⟩
theorem op_cases {x : GOp} (h : isOp x = true) : (0 ≤ x.A ∧ x.A ≤ 5) ∧ ((x.Kind = 1 ∧ 1 ≤ x.B ∧ x.B ≤ 9) ∨ (x.Kind = 5 ∧ 1 ≤ x.B ∧ x.B ≤ 9) ∨ (x.Kind = 2 ∧ 0 ≤ x.B ∧ x.B ≤ 999) ∨ (x.Kind = 3 ∧ (0 ≤ x.B ∧ x.B ≤ 5) ∧ 0 ≤ x.C ∧ x.C ≤ 5) ∨ (x.Kind = 4 ∧ (0 ≤ x.B ∧ x.B ≤ 5) ∧ 0 ≤ x.C ∧ x.C ≤ 5)) := by
  simp only [isOp, inR, Bool.and_eq_true, Bool.or_eq_true, decide_eq_true_eq] at h
  omega
theorem valueOf_in' (l : List Int) (o : Int) : 0 ≤ valueOf l o ∧ valueOf l o ≤ 999 := by
  unfold valueOf
  split
  · split
    · rename_i h; exact inR_t h
    · omega
  · omega
theorem pow_label {o : Int} (h : 1 ≤ o ∧ o ≤ 9) : isLabel ((2 ^ o.toNat : Nat) : Int) = true := by
  have : ∀ n : Fin 9, isLabel ((2 ^ (n.val + 1) : Nat) : Int) = true := by decide
  have e := this ⟨o.toNat - 1, by omega⟩
  rw [show o.toNat - 1 + 1 = o.toNat from by omega] at e
  exact e
theorem mem_set {α : Type} {P : α → Prop} {y : α} (hy : P y) : ∀ {l : List α} {i : Nat}, (∀ x ∈ l, P x) → ∀ x ∈ l.set i y, P x
  | l, i, h, x, hx => by
    rcases List.mem_or_eq_of_mem_set hx with h1 | h1
    · exact h x h1
    · exact h1 ▸ hy
theorem GoodM.getV {v b : List Int} (g : GoodM v b) {i : Int} (h : 0 ≤ i ∧ i ≤ 5) : 0 ≤ getI v i ∧ getI v i ≤ 999 := by
  have := g.vl
  rw [getI_at (by omega)]; exact g.vb _ (List.getElem_mem _)
theorem GoodM.getB {v b : List Int} (g : GoodM v b) {i : Int} (h : 0 ≤ i ∧ i ≤ 5) : isLabel (getI b i) = true := by
  have := g.bl
  rw [getI_at (by omega)]; exact g.bb _ (List.getElem_mem _)
theorem GoodM.step {v b : List Int} (g : GoodM v b) (values : List Int) {o : GOp} (h : isOp o = true) : GoodM (opV values o v) (opL o b) := by
  obtain ⟨hA, hc⟩ := op_cases h
  rcases hc with ⟨hk, hB⟩ | ⟨hk, hB⟩ | ⟨hk, hB⟩ | ⟨hk, hB, hC⟩ | ⟨hk, hB, hC⟩
  · rw [show opV values o v = v.set o.A.toNat (valueOf values o.B) from by unfold opV; rw [if_pos hk], show opL o b = b.set o.A.toNat ((2 ^ o.B.toNat : Nat) : Int) from by unfold opL; rw [if_pos hk]]
    exact ⟨by simp [g.vl], by simp [g.bl], mem_set (P := fun x : Int => 0 ≤ x ∧ x ≤ 999) (valueOf_in' _ _) g.vb, mem_set (P := fun x : Int => isLabel x = true) (pow_label hB) g.bb⟩
  · rw [show opV values o v = v from by unfold opV; simp [hk], show opL o b = b from by unfold opL; simp [hk]]
    exact g
  · rw [show opV values o v = v.set o.A.toNat o.B from by unfold opV; simp [hk], show opL o b = b.set o.A.toNat 0 from by unfold opL; simp [hk]]
    exact ⟨by simp [g.vl], by simp [g.bl], mem_set (P := fun x : Int => 0 ≤ x ∧ x ≤ 999) hB g.vb, mem_set (P := fun x : Int => isLabel x = true) (by decide) g.bb⟩
  · rw [show opV values o v = v.set o.A.toNat (Int.tmod (getI v o.B + getI v o.C) 1000) from by unfold opV; simp [hk], show opL o b = b.set o.A.toNat (lorI (getI b o.B) (getI b o.C)) from by unfold opL; simp [hk]]
    have h1 := g.getV hB
    have h2 := g.getV hC
    exact ⟨by simp [g.vl], by simp [g.bl], mem_set (P := fun x : Int => 0 ≤ x ∧ x ≤ 999) (by rw [Int.tmod_eq_emod_of_nonneg (by omega)]; omega) g.vb, mem_set (P := fun x : Int => isLabel x = true) (lor_label (g.getB hB) (g.getB hC)) g.bb⟩
  · rw [show opV values o v = (if Int.tmod (getI v o.B) 2 = 0 then v.set o.A.toNat (getI v o.C) else v) from by unfold opV; simp [hk], show opL o b = b.set o.A.toNat (lorI (lorI (getI b o.A) (getI b o.B)) (getI b o.C)) from by unfold opL; simp [hk]]
    refine ⟨?_, by simp [g.bl], ?_, mem_set (P := fun x : Int => isLabel x = true) (lor_label (lor_label (g.getB hA) (g.getB hB)) (g.getB hC)) g.bb⟩
    · split <;> simp [g.vl]
    · split
      · exact mem_set (P := fun x : Int => 0 ≤ x ∧ x ≤ 999) (g.getV hC) g.vb
      · exact g.vb
end
end Go.Proofs.YtockphlpokoohaaGreat
namespace Go.Proofs.YtockphlpokoohaaGreat
open Go Go.ChangeShapes Go.WideShapes Go.ChangeAt Go.RowKit
set_option linter.unusedVariables false
set_option linter.unusedSimpArgs false
set_option maxRecDepth 100000
theorem packGo_mem (ext : Int) : ∀ (l : List GPackage) (i : Nat), (0 ≤ packGo ext l i) ↔ ext ∈ l.map GPackage.Ext
  | [], i => by simp [packGo]
  | p :: r, i => by
    rw [packGo, List.map_cons, List.mem_cons]
    split
    · rename_i h; exact ⟨fun _ => .inl h.symm, fun _ => by omega⟩
    · rename_i h
      rw [packGo_mem ext r (i + 1)]
      exact ⟨.inr, fun hh => hh.resolve_left (fun e => h e.symm)⟩
abbrev exts (b : GBrowser) : List Int := b.Packs.map GPackage.Ext
theorem packOf_mem {b : GBrowser} {ext : Int} : 0 ≤ packOf b ext ↔ ext ∈ exts b := packGo_mem ext b.Packs 0
theorem packGo_at (ext : Int) : ∀ (l : List GPackage) (i : Nat), 0 ≤ packGo ext l i → ∃ j, ∃ h : j < l.length, packGo ext l i = ((i + j : Nat) : Int) ∧ (l[j]'h).Ext = ext
  | [], i, h => by simp [packGo] at h
  | p :: r, i, h => by
    rw [packGo] at h ⊢
    split
    · rename_i he; exact ⟨0, by simp, rfl, he⟩
    · rename_i hn
      rw [if_neg hn] at h
      obtain ⟨j, hj, h1, h2⟩ := packGo_at ext r (i + 1) h
      exact ⟨j + 1, by simpa using hj, by rw [h1]; congr 1; omega, h2⟩
theorem packOf_at {b : GBrowser} {ext : Int} (h : 0 ≤ packOf b ext) : ∃ hi : (packOf b ext).toNat < b.Packs.length, (b.Packs[(packOf b ext).toNat]'hi).Ext = ext := by
  obtain ⟨j, hj, h1, h2⟩ := packGo_at ext b.Packs 0 h
  have e : (packOf b ext).toNat = j := by show (packGo ext b.Packs 0).toNat = j; rw [h1]; omega
  refine ⟨by omega, ?_⟩
  simp only [e]; exact h2
structure TabOk (t : GTab) : Prop where
  site : isSite t.Site = true
  doc : isDoc t.Base = true
  len : t.Edits.length ≤ 40
  click : -1 ≤ t.Click ∧ t.Click ≤ 10000
  eds : ∀ e ∈ t.Edits, isEdit e = true
  hid : hidGo t.Hidden t.Hidden 0 = true
structure BrOk (b : GBrowser) : Prop where
  key : isKey b.Key = true
  tl : 1 ≤ b.Tabs.length ∧ b.Tabs.length ≤ 3
  pl : b.Packs.length ≤ 5
  gl : b.Grants.length ≤ 16
  ll : b.Limits.length ≤ 8
  fair : isFair b.Rules = true
  store : isStore b.Store = true
  now : 0 ≤ b.Now ∧ b.Now ≤ 10000
  sld : ∀ p ∈ b.Packs, isSealed b.Key p = true
  asc : b.Packs.Pairwise fun p q => p.Ext < q.Ext
  tabs : ∀ t ∈ b.Tabs, TabOk t
  eds : ∀ t ∈ b.Tabs, ∀ e ∈ t.Edits, e.By = 0 ∨ e.By ∈ exts b
  grants : ∀ g ∈ b.Grants, isGrant g = true
  gex : ∀ g ∈ b.Grants, g.Ext ∈ exts b
  lims : ∀ x ∈ b.Limits, isLimit x = true
  rex : ∀ r ∈ b.Rules, r.Ext ∈ exts b
  sex : ∀ x ∈ b.Store, x.Ext ∈ exts b
end Go.Proofs.YtockphlpokoohaaGreat
namespace Go.Proofs.YtockphlpokoohaaGreat
open Go Go.ChangeShapes Go.WideShapes Go.ChangeAt Go.RowKit
set_option linter.unusedVariables false
set_option linter.unusedSimpArgs false
set_option maxRecDepth 100000
theorem ev_big (l : List Int) (c : C) (S : Store) (h : Rd S [.sl 1 (l.map dByte)] [c]) : EvA Tryz.prog 12 [.s c] S (fun r S' => r = .v (.s (.bool (decide (1048576 < (l.length : Int))))) ∧ S' = S) := by
  refine evA_intro tok Tryz.func12 (by kernel_rfl) rfl ?_
  repeat' ((conv => whnf) <;> first
   | refine rE fun hml => ?_ | refine nP ?_ | refine And.intro ?_ ?_)
  all_goals rfl
end Go.Proofs.YtockphlpokoohaaGreat
