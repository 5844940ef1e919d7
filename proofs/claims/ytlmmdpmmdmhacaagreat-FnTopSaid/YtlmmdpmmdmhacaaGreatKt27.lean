/- Programs run. -/
import Derived.Test.YtlmmdpmmdmhacaaGreatKt25
import Derived.Test.YtlmmdpmmdmhacaaGreatKt26
import Derived.Test.YtlmmdpmmdmhacaaGreatKt22
namespace Go.Proofs.YtlmmdpmmdmhacaaGreat
set_option linter.unusedVariables false
set_option linter.unusedSimpArgs false
set_option maxRecDepth 100000
section
open Go Go.ChangeShapes Go.WideShapes Go.ChangeAt Go.RowKit
def getI (l : List Int) (i : Int) : Int := l.getD i.toNat 0
theorem zcm {l : List Int} {i : Int} (h : i.toNat < l.length) : getI l i = l[i.toNat] := by unfold getI; rw [List.getD_eq_getElem?_getD, List.getElem?_eq_getElem h]; rfl
def opV (values : List Int) (o : GOp) (v : List Int) : List Int :=
 if o.Kind = 1 then v.set o.A.toNat (zbm values o.B)
 else if o.Kind = 2 then v.set o.A.toNat o.B
 else if o.Kind = 3 then v.set o.A.toNat (Int.tmod (getI v o.B + getI v o.C) 1000)
 else if o.Kind = 4 then (if Int.tmod (getI v o.B) 2 = 0 then v.set o.A.toNat (getI v o.C) else v)
 else v
def opL (o : GOp) (b : List Int) : List Int :=
 if o.Kind = 1 then b.set o.A.toNat ((2 ^ o.B.toNat : Nat) : Int)
 else if o.Kind = 2 then b.set o.A.toNat 0
 else if o.Kind = 3 then b.set o.A.toNat (lorI (getI b o.B) (getI b o.C))
 else if o.Kind = 4 then b.set o.A.toNat (lorI (lorI (getI b o.A) (getI b o.B)) (getI b o.C))
 else b
def zdk (o : GOp) (v b : List Int) : GSent := if o.Kind = 5 then ⟨o.B, getI v o.A, getI b o.A⟩ else ⟨0, 0, 0⟩
def opS (o : GOp) (v b : List Int) : List GSent := if o.Kind = 5 then [zdk o v b] else []
abbrev Mach := List GSent × List Int × List Int
def zrw (values : List Int) (m : Mach) (o : GOp) : Mach := (m.1 ++ opS o m.2.1 m.2.2, opV values o m.2.1, opL o m.2.2)
abbrev zdx : List Int := [0, 0, 0, 0, 0, 0]
def mach (values : List Int) (l : List GOp) : Mach := l.foldl (zrw values) ([], zdx, zdx)
structure GoodM (v b : List Int) : Prop where
 vl : v.length = 6
 bl : b.length = 6
 vb : ∀ x ∈ v, 0 ≤ x ∧ x ≤ 999
 bb : ∀ x ∈ b, zbg x = true
theorem GoodM.zero : GoodM zdx zdx := ⟨rfl, rfl, by simp, by simp; decide⟩
theorem zq5 {x : GOp} (h : isOp x = true) : (0 ≤ x.A ∧ x.A ≤ 5) ∧ ((x.Kind = 1 ∧ 1 ≤ x.B ∧ x.B ≤ 9) ∨ (x.Kind = 5 ∧ 1 ≤ x.B ∧ x.B ≤ 9) ∨ (x.Kind = 2 ∧ 0 ≤ x.B ∧ x.B ≤ 999) ∨ (x.Kind = 3 ∧ (0 ≤ x.B ∧ x.B ≤ 5) ∧ 0 ≤ x.C ∧ x.C ≤ 5) ∨ (x.Kind = 4 ∧ (0 ≤ x.B ∧ x.B ≤ 5) ∧ 0 ≤ x.C ∧ x.C ≤ 5)) := by
 simp only [isOp, inR, Bool.and_eq_true, Bool.or_eq_true, decide_eq_true_eq] at h
 omega
theorem zvx (l : List Int) (o : Int) : 0 ≤ zbm l o ∧ zbm l o ≤ 999 := by
 unfold zbm
 split
 ·split
  ·rename_i h; exact zky h
  ·omega
 ·omega
theorem zz3 {o : Int} (h : 1 ≤ o ∧ o ≤ 9) : zbg ((2 ^ o.toNat : Nat) : Int) = true := by
 have : ∀ n : Fin 9, zbg ((2 ^ (n.val + 1) : Nat) : Int) = true := by decide
 have e := this ⟨o.toNat - 1, by omega⟩
 rw [show o.toNat - 1 + 1 = o.toNat from by omega] at e
 exact e
theorem zzw {o : Int} (h : 1 ≤ o ∧ o ≤ 9) : zde (fun x => decide (x ∈ [o])) 9 = ((2 ^ o.toNat : Nat) : Int) := by
 have : ∀ n : Fin 9, zde (fun x => decide (x ∈ [(n.val : Int) + 1])) 9 = ((2 ^ ((n.val : Int) + 1).toNat : Nat) : Int) := by decide
 have e := this ⟨o.toNat - 1, by omega⟩
 rw [show (((⟨o.toNat - 1, by omega⟩ : Fin 9).val : Nat) : Int) + 1 = o from by show ((o.toNat - 1 : Nat) : Int) + 1 = o; omega] at e
 exact e
theorem z0h (a b c : Int) : lorI (lorI a b) c = lorI a (lorI b c) := by
 unfold lorI; rw [Int.toNat_natCast, Int.toNat_natCast, Nat.or_assoc]
theorem zij {α : Type} {P : α → Prop} {y : α} (hy : P y) : ∀ {l : List α} {i : Nat}, (∀ x ∈ l, P x) → ∀ x ∈ l.set i y, P x
 | l, i, h, x, hx => by
   rcases List.mem_or_eq_of_mem_set hx with h1 | h1
   ·exact h x h1
   ·exact h1 ▸ hy
theorem GoodM.getV {v b : List Int} (g : GoodM v b) {i : Int} (h : 0 ≤ i ∧ i ≤ 5) : 0 ≤ getI v i ∧ getI v i ≤ 999 := by
 have := g.vl
 rw [zcm (by omega)]; exact g.vb _ (List.getElem_mem _)
theorem GoodM.getB {v b : List Int} (g : GoodM v b) {i : Int} (h : 0 ≤ i ∧ i ≤ 5) : zbg (getI b i) = true := by
 have := g.bl
 rw [zcm (by omega)]; exact g.bb _ (List.getElem_mem _)
theorem GoodM.step {v b : List Int} (g : GoodM v b) (values : List Int) {o : GOp} (h : isOp o = true) : GoodM (opV values o v) (opL o b) := by
 obtain ⟨hA, hc⟩ := zq5 h
 rcases hc with ⟨hk, hB⟩ | ⟨hk, hB⟩ | ⟨hk, hB⟩ | ⟨hk, hB, hC⟩ | ⟨hk, hB, hC⟩
 ·rw [show opV values o v = v.set o.A.toNat (zbm values o.B) from by unfold opV; rw [if_pos hk], show opL o b = b.set o.A.toNat ((2 ^ o.B.toNat : Nat) : Int) from by unfold opL; rw [if_pos hk]]
  exact ⟨by simp [g.vl], by simp [g.bl], zij (P := fun x : Int => 0 ≤ x ∧ x ≤ 999) (zvx _ _) g.vb, zij (P := fun x : Int => zbg x = true) (zz3 hB) g.bb⟩
 ·rw [show opV values o v = v from by unfold opV; simp [hk], show opL o b = b from by unfold opL; simp [hk]]
  exact g
 ·rw [show opV values o v = v.set o.A.toNat o.B from by unfold opV; simp [hk], show opL o b = b.set o.A.toNat 0 from by unfold opL; simp [hk]]
  exact ⟨by simp [g.vl], by simp [g.bl], zij (P := fun x : Int => 0 ≤ x ∧ x ≤ 999) hB g.vb, zij (P := fun x : Int => zbg x = true) (by decide) g.bb⟩
 ·rw [show opV values o v = v.set o.A.toNat (Int.tmod (getI v o.B + getI v o.C) 1000) from by unfold opV; simp [hk], show opL o b = b.set o.A.toNat (lorI (getI b o.B) (getI b o.C)) from by unfold opL; simp [hk]]
  have h1 := g.getV hB
  have h2 := g.getV hC
  exact ⟨by simp [g.vl], by simp [g.bl], zij (P := fun x : Int => 0 ≤ x ∧ x ≤ 999) (by rw [Int.tmod_eq_emod_of_nonneg (by omega)]; omega) g.vb, zij (P := fun x : Int => zbg x = true) (zfc (g.getB hB) (g.getB hC)) g.bb⟩
 ·rw [show opV values o v = (if Int.tmod (getI v o.B) 2 = 0 then v.set o.A.toNat (getI v o.C) else v) from by unfold opV; simp [hk], show opL o b = b.set o.A.toNat (lorI (lorI (getI b o.A) (getI b o.B)) (getI b o.C)) from by unfold opL; simp [hk]]
  refine ⟨?_, by simp [g.bl], ?_, zij (P := fun x : Int => zbg x = true) (zfc (zfc (g.getB hA) (g.getB hB)) (g.getB hC)) g.bb⟩
  ·split <;> simp [g.vl]
  ·split
   ·exact zij (P := fun x : Int => 0 ≤ x ∧ x ≤ 999) (g.getV hC) g.vb
   ·exact g.vb
theorem zny {values : List Int} {l : List GOp} {i : Nat} (h : i < l.length) : mach values (l.take (i + 1)) = zrw values (mach values (l.take i)) l[i] := by
 unfold mach; rw [List.take_succ_eq_append_getElem h, List.foldl_append]; rfl
theorem zkd {values : List Int} : ∀ {l : List GOp}, (∀ x ∈ l, isOp x = true) → ∀ i : Nat, i ≤ l.length → GoodM (mach values (l.take i)).2.1 (mach values (l.take i)).2.2 ∧ (mach values (l.take i)).1.length ≤ i
 | l, h, 0, _ => ⟨by rw [List.take_zero]; exact GoodM.zero, Nat.le_refl _⟩
 | l, h, i + 1, hi => by
   obtain ⟨g1, g2⟩ := zkd (values := values) h i (by omega)
   rw [zny (by omega)]
   refine ⟨g1.step values (h _ (List.getElem_mem _)), ?_⟩
   simp only [zrw, List.length_append]
   have : (opS l[i] (mach values (l.take i)).2.1 (mach values (l.take i)).2.2).length ≤ 1 := by unfold opS; split <;> simp
   omega
theorem zf4 {S0 S : Store} {q : Nat} {c : C} {ds : List D} {cs : List C} {l : List Int} {i y : Int} {K : Store → Prop} (hE : Ext S0 S) (h : Fr S0.length S ds cs) (hd : ds[q]? = some (.sl 1 (l.map dInt))) (hc : cs[q]? = some c) (h0 : 0 ≤ i ∧ i.toNat < l.length)
 (hK : ∀ S', Ext S0 S' → Fr S0.length S' (ds.set q (.sl 1 ((l.set i.toNat y).map dInt))) cs → S'.length = S.length → K S') : StoP S c i 0 [.int .i64 y] K :=
 zj6 (q := q) (A := []) (B := dInt (l[i.toNat]'h0.2)) (B' := dInt y) (Z := []) hE h (Ext.refl _) hE.len hd hc ziu (by rw [List.length_map]; exact h0) (by simp [h0.2]) rfl rfl rfl fun S' h1 h2 h3 => hK S' h1 (by rw [List.map_set]; exact h2) h3
theorem Fr.del2 {S : Store} {lo : Nat} {d1 d2 d3 : D} {c1 c2 c3 : C} (h : Fr lo S [d1, d2, d3] [c1, c2, c3]) : Fr lo S [d1, d3] [c1, c3] := by
 obtain ⟨ids, h, hn, hlo⟩ := h
 rw [zaw] at h
 obtain ⟨x1, cs1, i, j, e1, e2, h1, h⟩ := h
 rw [zaw] at h
 obtain ⟨x2, cs2, i2, j2, e3, e4, h2, h⟩ := h
 simp only [List.cons.injEq] at e1
 obtain ⟨rfl, rfl⟩ := e1
 simp only [List.cons.injEq] at e3
 obtain ⟨rfl, rfl⟩ := e3
 subst e2; subst e4
 refine ⟨i ++ j2, by rw [zaw]; exact ⟨_, _, i, j2, rfl, rfl, h1, h⟩, ?_, fun id hi => hlo id (by simp only [List.mem_append] at hi ⊢; rcases hi with h | h; exact .inl h; exact .inr (.inr h))⟩
 simp only [List.nodup_append, List.mem_append] at hn ⊢
 exact ⟨hn.1, hn.2.1.2.1, fun a ha b hb => hn.2.2 a ha b (.inr hb)⟩
theorem frZ {S : Store} : Fr S.length (S ++ [⟨true, 1, zdx.map fun x => zdz (dInt x)⟩]) [.sl 1 (zdx.map dInt)] [.sl S.length 0 6 6] := zjq (f := dInt) zdx (fun _ => trivial) (by decide)
set_option maxHeartbeats 4000000 in
theorem zni (l : List GOp) (values : List Int) (c c' : C) (S : Store) (h : Rd S [.sl 4 (l.map GOp.d)] [c]) (h' : Rd S [.sl 1 (values.map dInt)] [c']) (hops : zcv l = true) : EvA Tryz.prog 208 [.s c, .s c'] S (fun r S' => Ext S S' ∧ ∃ c1 c2, r = .tup [.s c1, .s c2] ∧ Fr S.length S' [.sl 3 ((mach values l).1.map GSent.d), .sl 1 ((mach values l).2.2.map dInt)] [c1, c2]) := by
 have hall : (∀ x ∈ l, isOp x = true) ∧ l.length ≤ 16 := by
  unfold zcv at hops
  simp only [Bool.and_eq_true, decide_eq_true_eq, List.all_eq_true] at hops
  exact ⟨hops.2, hops.1⟩
 have E0 : Ext S (S ++ [(⟨true, 3, []⟩ : Row)] ++ [(⟨true, 1, zdx.map fun x => zdz (dInt x)⟩ : Row)] ++ [(⟨true, 1, zdx.map fun x => zdz (dInt x)⟩ : Row)]) := ((Ext.push _ _).trans (Ext.push _ _)).trans (Ext.push _ _)
 have f0 : Fr S.length (S ++ [(⟨true, 3, []⟩ : Row)] ++ [(⟨true, 1, zdx.map fun x => zdz (dInt x)⟩ : Row)] ++ [(⟨true, 1, zdx.map fun x => zdz (dInt x)⟩ : Row)]) [.sl 3 ((mach values (l.take 0)).1.map GSent.d), .sl 1 ((mach values (l.take 0)).2.1.map dInt), .sl 1 ((mach values (l.take 0)).2.2.map dInt)] [.sl S.length 0 0 0, .sl (S ++ [(⟨true, 3, []⟩ : Row)]).length 0 6 6, .sl (S ++ [(⟨true, 3, []⟩ : Row)] ++ [(⟨true, 1, zdx.map fun x => zdz (dInt x)⟩ : Row)]).length 0 6 6] :=
  Fr.join (ds := [_, _]) (cs := [_, _]) (Fr.join (ds := [.sl 3 []]) (cs := [_]) (zba (S := S) (k := 3)) (Ext.push _ _) frZ (Ext.push S _).len) (Ext.push _ _) frZ ((Ext.push S _).trans (Ext.push _ _)).len
 refine zac tok Tryz.func208 (by kernel_rfl) rfl ?_
 repeat' ((conv => whnf) <;> first
  | refine rE fun hml => ?_ | refine zdn (by dsimp only [T225, T3]; first | omega | (constructor <;> omega) | fail) ?_ | refine zae 12 [.fl 0, .fl 1, .fl 2, .st 3 [1, 2], .st 4 [2], .st 5 []] (by rfl) (by kernel_rfl) ?_ | refine And.intro ?_ ?_)
 (conv => whnf)
 refine zag {p : Nat × Store × C × C × C // p.1 ≤ l.length ∧ Ext S p.2.1 ∧ Fr S.length p.2.1 [.sl 3 ((mach values (l.take p.1)).1.map GSent.d), .sl 1 ((mach values (l.take p.1)).2.1.map dInt), .sl 1 ((mach values (l.take p.1)).2.2.map dInt)] [p.2.2.1, p.2.2.2.1, p.2.2.2.2]} [6, 10, 11, 17, 18, 19, 20, 21, 22, 23, 24, 25, 26, 27, 28, 29, 30, 31, 32, 33, 34, 35, 36, 37, 38, 39, 40, 41, 42, 43, 44, 45, 46, 47, 48, 49, 50, 51, 52, 53, 54, 55, 56, 57, 58, 59, 60, 61, 62, 63, 64, 65, 66, 67, 68, 69, 70, 71, 72, 73, 74, 75, 76, 77, 78, 79, 80, 81, 82, 83, 84, 85, 86, 87, 88, 89, 90, 91, 92, 93, 94, 95, 96, 97, 98, 99, 100, 101, 102, 103, 104, 105, 106, 107, 108, 109, 110, 111, 112, 113, 114, 115, 116, 117, 118, 119, 120, 121, 122, 123, 124, 125, 126, 127, 128, 129, 130, 131, 132, 133, 134, 135, 136, 137, 138, 139, 140, 141, 142, 143] (fun zb => [(17, .v (.s (.int .i64 zb.1.1))), (6, .v (.s zb.1.2.2.1)), (7, .v (.s zb.1.2.2.2.1)), (8, .v (.s zb.1.2.2.2.2))]) (fun zb => zb.1.2.1) (fun zb => l.length - zb.1.1) ⟨(0, _, _, _, _), Nat.zero_le _, E0, f0⟩ okL rfl ?_
 rintro ⟨⟨i, Si, ci, cv, cb⟩, hi, hE, hF⟩; dsimp only
 replace hi : i ≤ l.length := hi
 replace hE : Ext S Si := hE
 replace hF : Fr S.length Si [.sl 3 ((mach values (l.take i)).1.map GSent.d), .sl 1 ((mach values (l.take i)).2.1.map dInt), .sl 1 ((mach values (l.take i)).2.2.map dInt)] [ci, cv, cb] := hF
 obtain ⟨g, gl⟩ := zkd (values := values) hall.1 i hi
 clear E0 f0
 by_cases hlt : i < l.length
 ·have hmt := zny (values := values) hlt
  rcases hM : mach values (l.take i) with ⟨se, v, b⟩
  rw [hM] at hF g gl hmt
  dsimp only at hF g gl
  have hvl := g.vl
  have hbl := g.bl
  have r1 := hF.rdAt (o := 1) rfl rfl
  have r2 := hF.rdAt (o := 2) rfl rfl
  obtain ⟨hA, hc⟩ := zq5 (hall.1 (l[((i : Nat) : Int).toNat]'hlt) (List.getElem_mem _))
  have hmt2 : mach values (l.take (i + 1)) = (se ++ opS (l[((i : Nat) : Int).toNat]'hlt) v b, opV values (l[((i : Nat) : Int).toNat]'hlt) v, opL (l[((i : Nat) : Int).toNat]'hlt) b) := hmt
  rcases hc with ⟨hk, hB⟩ | ⟨hk, hB⟩ | ⟨hk, hB⟩ | ⟨hk, hB, hC⟩ | ⟨hk, hB, hC⟩
  ·skip
   have hV : opV values (l[((i : Nat) : Int).toNat]'hlt) v = v.set (l[((i : Nat) : Int).toNat]'hlt).A.toNat (zbm values (l[((i : Nat) : Int).toNat]'hlt).B) := by unfold opV; rw [if_pos hk]
   have hL : opL (l[((i : Nat) : Int).toNat]'hlt) b = b.set (l[((i : Nat) : Int).toNat]'hlt).A.toNat ((2 ^ (l[((i : Nat) : Int).toNat]'hlt).B.toNat : Nat) : Int) := by unfold opL; rw [if_pos hk]
   rw [show opS (l[((i : Nat) : Int).toNat]'hlt) v b = [] from by unfold opS; rw [if_neg (by omega)], hV, hL, List.append_nil] at hmt2
   repeat' ((conv => whnf) <;> first
    | rw [zad (by omega)] | (show CondP _ _ _; refine cS ?_) | refine zaa (zjr _ _ _ _ rdA) ?_ | refine rI rdA rf ix ?_ | refine zaf rdA tv ix ?_ | refine nP ?_ | refine zae 25 [.fl 0, .fl 1, .fl 2, .fl 3, .fl 4, .fl 5, .fl 6, .fl 7, .fl 8, .fl 10, .fl 11, .fl 12, .st 9 [0, 1, 2, 3, 4, 5, 10, 11, 12], .fl 13, .st 14 [3, 4, 5, 10, 11, 12], .fl 15, .st 16 []] (by rfl) (by kernel_rfl) ?_ | rw [z66 (by omega)] | (refine zf4 (q := 1) aN aN (by rfl) (by rfl) ix ?_; intro SN hEN hFN hlN; have r1N := hFN.rdAt (o := 1) rfl rfl; have r2N := hFN.rdAt (o := 2) rfl rfl) | (refine zf4 (q := 2) aN aN (by rfl) (by rfl) ix ?_; intro SN hEN hFN hlN; have r1N := hFN.rdAt (o := 1) rfl rfl; have r2N := hFN.rdAt (o := 2) rfl rfl) | refine And.intro ?_ ?_)
   all_goals first
    | (exfalso; omega)
    | (refine ⟨⟨(i + 1, _, _, _, _), by dsimp only; omega, by assumption, by rw [hmt2]; assumption⟩, ?_, rfl, by dsimp only; omega⟩; (conv => whnf); repeat' (first | exact trivial | exact rfl | (show _ = _; congr 3; dsimp only; omega) | apply And.intro))
  ·skip
   have hV : opV values (l[((i : Nat) : Int).toNat]'hlt) v = v := by unfold opV; rw [if_neg (by omega), if_neg (by omega), if_neg (by omega), if_neg (by omega)]
   have hL : opL (l[((i : Nat) : Int).toNat]'hlt) b = b := by unfold opL; rw [if_neg (by omega), if_neg (by omega), if_neg (by omega), if_neg (by omega)]
   have hS : opS (l[((i : Nat) : Int).toNat]'hlt) v b = [⟨(l[((i : Nat) : Int).toNat]'hlt).B, v[(l[((i : Nat) : Int).toNat]'hlt).A.toNat]'(by omega), b[(l[((i : Nat) : Int).toNat]'hlt).A.toNat]'(by omega)⟩] := by unfold opS zdk; rw [if_pos hk, if_pos hk, zcm (by omega), zcm (by omega)]
   rw [hS, hV, hL] at hmt2
   repeat' ((conv => whnf) <;> first
    | rw [zad (by omega)] | (show CondP _ _ _; refine cS ?_) | refine rI rdA rf ix ?_ | refine zaf rdA tv ix ?_ | refine zae 127 (iN 17 0 [15, 16]) (by rfl) (by kernel_rfl) ?_ | (refine zcq (f := GSent.d) (o := 0) (l := se) (m := [⟨(l[((i : Nat) : Int).toNat]'hlt).B, v[(l[((i : Nat) : Int).toNat]'hlt).A.toNat]'om, b[(l[((i : Nat) : Int).toNat]'hlt).A.toNat]'om⟩]) (fun _ => trivial) hE hF rfl rfl (by rfl) rf (by dsimp only [T130]; simp; omega) (by simp; omega) ?_; intro cN SN hEN hFN hlN))
   all_goals first
    | (exfalso; omega)
    | (refine ⟨⟨(i + 1, _, _, _, _), by dsimp only; omega, by assumption, by rw [hmt2]; assumption⟩, ?_, rfl, by dsimp only; omega⟩; (conv => whnf); repeat' (first | exact trivial | exact rfl | (show _ = _; congr 3; dsimp only; omega) | apply And.intro))
  ·skip
   have hV : opV values (l[((i : Nat) : Int).toNat]'hlt) v = v.set (l[((i : Nat) : Int).toNat]'hlt).A.toNat (l[((i : Nat) : Int).toNat]'hlt).B := by unfold opV; rw [if_neg (by omega), if_pos hk]
   have hL : opL (l[((i : Nat) : Int).toNat]'hlt) b = b.set (l[((i : Nat) : Int).toNat]'hlt).A.toNat 0 := by unfold opL; rw [if_neg (by omega), if_pos hk]
   rw [show opS (l[((i : Nat) : Int).toNat]'hlt) v b = [] from by unfold opS; rw [if_neg (by omega)], hV, hL, List.append_nil] at hmt2
   repeat' ((conv => whnf) <;> first
    | rw [zad (by omega)] | (show CondP _ _ _; refine cS ?_) | refine rI rdA rf ix ?_ | refine zaf rdA tv ix ?_ | refine zae 42 [.fl 0, .fl 1, .fl 2, .fl 3, .fl 4, .fl 5, .fl 6, .fl 7, .fl 8, .st 9 [3, 4, 5], .fl 10, .st 11 []] (by rfl) (by kernel_rfl) ?_ | (refine zf4 (q := 1) aN aN (by rfl) (by rfl) ix ?_; intro SN hEN hFN hlN; have r1N := hFN.rdAt (o := 1) rfl rfl; have r2N := hFN.rdAt (o := 2) rfl rfl) | (refine zf4 (q := 2) aN aN (by rfl) (by rfl) ix ?_; intro SN hEN hFN hlN; have r1N := hFN.rdAt (o := 1) rfl rfl; have r2N := hFN.rdAt (o := 2) rfl rfl) | refine And.intro ?_ ?_)
   all_goals first
    | (exfalso; omega)
    | (refine ⟨⟨(i + 1, _, _, _, _), by dsimp only; omega, by assumption, by rw [hmt2]; assumption⟩, ?_, rfl, by dsimp only; omega⟩; (conv => whnf); repeat' (first | exact trivial | exact rfl | (show _ = _; congr 3; dsimp only; omega) | apply And.intro))
  ·skip
   have hV : opV values (l[((i : Nat) : Int).toNat]'hlt) v = v.set (l[((i : Nat) : Int).toNat]'hlt).A.toNat (Int.tmod (getI v (l[((i : Nat) : Int).toNat]'hlt).B + getI v (l[((i : Nat) : Int).toNat]'hlt).C) 1000) := by unfold opV; rw [if_neg (by omega), if_neg (by omega), if_pos hk]
   have hL : opL (l[((i : Nat) : Int).toNat]'hlt) b = b.set (l[((i : Nat) : Int).toNat]'hlt).A.toNat (lorI (getI b (l[((i : Nat) : Int).toNat]'hlt).B) (getI b (l[((i : Nat) : Int).toNat]'hlt).C)) := by unfold opL; rw [if_neg (by omega), if_neg (by omega), if_pos hk]
   have v1 := g.getV hB
   have v2 := g.getV hC
   have b1 := zcc (g.getB hB)
   have b2 := zcc (g.getB hC)
   have B1 := g.getB hB
   have B2 := g.getB hC
   rw [zcm (by omega)] at v1 v2 b1 b2 B1 B2
   rw [zcm (by omega), zcm (by omega)] at hV hL
   rw [show opS (l[((i : Nat) : Int).toNat]'hlt) v b = [] from by unfold opS; rw [if_neg (by omega)], hV, hL, List.append_nil] at hmt2
   repeat' ((conv => whnf) <;> first
    | rw [zad (by omega)] | (show CondP _ _ _; refine cS ?_) | refine rI rdA rf ix ?_ | refine zaf rdA tv ix ?_ | refine nP ?_ | refine zae 54 [.fl 0, .fl 1, .fl 2, .fl 3, .fl 4, .fl 5, .fl 6, .fl 7, .fl 8, .fl 9, .fl 10, .fl 11, .fl 12, .fl 13, .fl 14, .fl 15, .fl 16, .fl 17, .fl 18, .fl 19, .fl 20, .fl 21, .fl 22, .fl 23, .fl 24, .fl 25, .fl 26, .fl 27, .fl 28, .fl 29, .st 30 [3, 4, 5, 28], .fl 31, .st 32 []] (by rfl) (by kernel_rfl) ?_ | rw [z3f (by omega) (by omega)] | (refine zf4 (q := 1) aN aN (by rfl) (by rfl) ix ?_; intro SN hEN hFN hlN; have r1N := hFN.rdAt (o := 1) rfl rfl; have r2N := hFN.rdAt (o := 2) rfl rfl) | (refine zf4 (q := 2) aN aN (by rfl) (by rfl) ix ?_; intro SN hEN hFN hlN; have r1N := hFN.rdAt (o := 1) rfl rfl; have r2N := hFN.rdAt (o := 2) rfl rfl) | refine And.intro ?_ ?_)
   all_goals first
    | (exfalso; omega)
    | (refine ⟨⟨(i + 1, _, _, _, _), by dsimp only; omega, by assumption, by rw [hmt2]; assumption⟩, ?_, rfl, by dsimp only; omega⟩; (conv => whnf); repeat' (first | exact trivial | exact rfl | (show _ = _; congr 3; dsimp only; omega) | apply And.intro))
  ·skip
   have hV : opV values (l[((i : Nat) : Int).toNat]'hlt) v = (if Int.tmod (getI v (l[((i : Nat) : Int).toNat]'hlt).B) 2 = 0 then v.set (l[((i : Nat) : Int).toNat]'hlt).A.toNat (getI v (l[((i : Nat) : Int).toNat]'hlt).C) else v) := by unfold opV; rw [if_neg (by omega), if_neg (by omega), if_neg (by omega), if_pos hk]
   have hL : opL (l[((i : Nat) : Int).toNat]'hlt) b = b.set (l[((i : Nat) : Int).toNat]'hlt).A.toNat (lorI (lorI (getI b (l[((i : Nat) : Int).toNat]'hlt).A) (getI b (l[((i : Nat) : Int).toNat]'hlt).B)) (getI b (l[((i : Nat) : Int).toNat]'hlt).C)) := by unfold opL; rw [if_neg (by omega), if_neg (by omega), if_neg (by omega), if_pos hk]
   have b0 := zcc (g.getB hA)
   have b1 := zcc (g.getB hB)
   have b2 := zcc (g.getB hC)
   have B0 := g.getB hA
   have B1 := g.getB hB
   have B2 := g.getB hC
   have b3 := zcc (zfc B0 B1)
   have B3 := zfc B1 B2
   have hor : bitsI .or .i64 (getI b (l[((i : Nat) : Int).toNat]'hlt).A) (getI b (l[((i : Nat) : Int).toNat]'hlt).B) = lorI (getI b (l[((i : Nat) : Int).toNat]'hlt).A) (getI b (l[((i : Nat) : Int).toNat]'hlt).B) := z3f (by omega) (by omega)
   rw [zcm (by omega)] at b0 b1 b2 B0 B1 B2
   rw [zcm (by omega), zcm (by omega)] at b3 B3 hV hor
   rw [zcm (by omega), zcm (by omega), zcm (by omega)] at hL
   rw [show opS (l[((i : Nat) : Int).toNat]'hlt) v b = [] from by unfold opS; rw [if_neg (by omega)], hL, List.append_nil] at hmt2
   by_cases h2 : Int.tmod (v[(l[((i : Nat) : Int).toNat]'hlt).B.toNat]'(by omega)) 2 = 0
   ·rw [if_pos h2] at hV
    rw [hV] at hmt2
    repeat' ((conv => whnf) <;> first
     | rw [zad (by omega)] | (show CondP _ _ _; refine cS ?_) | refine rI rdA rf ix ?_ | refine zaf rdA tv ix ?_ | refine nP ?_ | refine zae 87 (iN 18 0 [17]) (by rfl) (by kernel_rfl) ?_ | refine zae 111 (iN 10 0 [9]) (by rfl) (by kernel_rfl) ?_ | rw [hor] | rw [z3f (by omega) (by omega)] | (refine zf4 (q := 1) aN aN (by rfl) (by rfl) ix ?_; intro SN hEN hFN hlN; have r1N := hFN.rdAt (o := 1) rfl rfl; have r2N := hFN.rdAt (o := 2) rfl rfl) | (refine zf4 (q := 2) aN aN (by rfl) (by rfl) ix ?_; intro SN hEN hFN hlN; have r1N := hFN.rdAt (o := 1) rfl rfl; have r2N := hFN.rdAt (o := 2) rfl rfl))
    all_goals first
     | (exfalso; omega)
     | (refine ⟨⟨(i + 1, _, _, _, _), by dsimp only; omega, by assumption, by rw [hmt2]; assumption⟩, ?_, rfl, by dsimp only; omega⟩; (conv => whnf); repeat' (first | exact trivial | exact rfl | (show _ = _; congr 3; dsimp only; omega) | apply And.intro))
   ·rw [if_neg h2] at hV
    rw [hV] at hmt2
    repeat' ((conv => whnf) <;> first
     | rw [zad (by omega)] | (show CondP _ _ _; refine cS ?_) | refine rI rdA rf ix ?_ | refine zaf rdA tv ix ?_ | refine nP ?_ | refine zae 87 (iN 18 0 [17]) (by rfl) (by kernel_rfl) ?_ | rw [hor] | rw [z3f (by omega) (by omega)] | (refine zf4 (q := 1) aN aN (by rfl) (by rfl) ix ?_; intro SN hEN hFN hlN; have r1N := hFN.rdAt (o := 1) rfl rfl; have r2N := hFN.rdAt (o := 2) rfl rfl) | (refine zf4 (q := 2) aN aN (by rfl) (by rfl) ix ?_; intro SN hEN hFN hlN; have r1N := hFN.rdAt (o := 1) rfl rfl; have r2N := hFN.rdAt (o := 2) rfl rfl))
    all_goals first
     | (exfalso; omega)
     | (refine ⟨⟨(i + 1, _, _, _, _), by dsimp only; omega, by assumption, by rw [hmt2]; assumption⟩, ?_, rfl, by dsimp only; omega⟩; (conv => whnf); repeat' (first | exact trivial | exact rfl | (show _ = _; congr 3; dsimp only; omega) | apply And.intro))
 ·rw [List.take_of_length_le (by omega)] at hF
  repeat' ((conv => whnf) <;> first
   | (show CondP _ _ _; refine cS ?_) | refine And.intro ?_ ?_)
  all_goals first
   | exact hE
   | (exfalso; omega)
   | exact ⟨_, _, rfl, hF.del2⟩
end
section
open Go Go.ChangeShapes Go.WideShapes Go.ChangeAt Go.RowKit
theorem zum {l : List GOp} (h : zcv l = true) : (∀ x ∈ l, isOp x = true) ∧ l.length ≤ 16 := by
 unfold zcv at h
 simp only [Bool.and_eq_true, decide_eq_true_eq, List.all_eq_true] at h
 exact ⟨h.2, h.1⟩
theorem zmh {l : List GOp} (values : List Int) (h : zcv l = true) : (mach values l).1.length ≤ 16 := by
 obtain ⟨h1, h2⟩ := zum h
 have := (zkd (values := values) h1 l.length (Nat.le_refl _)).2
 rw [List.take_length] at this; omega
theorem zgo {S0 S1 S : Store} {q : Nat} {c : C} {ds : List D} {cs : List C} {l : List Int} {i y : Int} {K : Store → Prop} (h : Fr S0.length S1 ds cs) (hE : Ext S0 S1) (e1 : Ext S1 S) (hd : ds[q]? = some (.sl 1 (l.map dInt))) (hc : cs[q]? = some c) (h0 : 0 ≤ i ∧ i.toNat < l.length)
 (hK : ∀ S', Ext S0 S' → Fr S0.length S' (ds.set q (.sl 1 ((l.set i.toNat y).map dInt))) cs → S'.length = S.length → K S') : StoP S c i 0 [.int .i64 y] K :=
 zf4 (hE.trans e1) (h.ext e1) hd hc h0 hK
theorem zob (S : Store) : EvA Tryz.prog 239 [] S (fun r S' => Ext S S' ∧ ∃ c', r = .v (.s c') ∧ Fr S.length S' [.sl 1 (zdx.map dInt)] [c']) := by
 refine zac tok Tryz.func239 (by kernel_rfl) rfl ?_
 skip
 refine zag {p : Nat × Store × C // p.1 ≤ 6 ∧ Ext S p.2.1 ∧ Fr S.length p.2.1 [.sl 1 ((List.replicate p.1 0).map dInt)] [p.2.2]} [1, 2, 4, 5, 6, 7, 8, 9, 10] (fun zb => [(2, .v (.s (.int .i64 (zb.1.1)))), (1, .v (.s zb.1.2.2))]) (fun zb => zb.1.2.1) (fun zb => 6 - zb.1.1) ⟨(0, _, _), Nat.zero_le _, Ext.push _ _, zba⟩ okL rfl ?_
 rintro ⟨⟨i, Si, ci⟩, hi, hE, hF⟩; dsimp only
 replace hi : i ≤ 6 := hi
 replace hE : Ext S Si := hE
 replace hF : Fr S.length Si [.sl 1 ((List.replicate i 0).map dInt)] [ci] := hF
 have hfl : (List.replicate i (0 : Int)).length = i := List.length_replicate
 by_cases hlt : i < 6
 ·repeat' ((conv => whnf) <;> first
   | rw [zad (by omega)] | (show CondP _ _ _; refine cS ?_) | (refine zdc (f := dInt) (x := 0) aN aN tv (by rfl) rf (by dsimp only [T3]; omega) om ?_; intro cN SN hEN hFN))
  all_goals first
   | (exfalso; omega)
   | (refine ⟨⟨(i + 1, _, _), by dsimp only; omega, by assumption, by rw [List.replicate_succ']; assumption⟩, ?_, rfl, by dsimp only; omega⟩; (conv => whnf); repeat' (first | exact trivial | exact rfl | (show _ = _; congr 3; dsimp only; omega) | apply And.intro))
 ·have he : i = 6 := by omega
  subst he
  repeat' ((conv => whnf) <;> first
   | (show CondP _ _ _; refine cS ?_) | refine And.intro ?_ ?_)
  all_goals first
   | exact hE
   | (exfalso; omega)
   | exact ⟨_, rfl, hF⟩
set_option maxHeartbeats 4000000 in
theorem zx4 (x : GOp) (values v b : List Int) (d0 : D) (c0 c1 cv cb : C) (S0 S : Store) (hE : Ext S0 S) (hF : Fr S0.length S [d0, .sl 1 (v.map dInt), .sl 1 (b.map dInt)] [c0, cv, cb]) (h : Rd S [.sl 1 (values.map dInt)] [c1]) (hx : isOp x = true) (g : GoodM v b) : EvA Tryz.prog 241 [.agg x.c, .s c1, .s cv, .s cb] S (fun r S' => Ext S0 S' ∧ Fr S0.length S' [d0, .sl 1 ((opV values x v).map dInt), .sl 1 ((opL x b).map dInt)] [c0, cv, cb] ∧ r = .tup [.agg (zdk x v b).c, .s (.bool (decide (x.Kind = 5)))]) := by
 have hvl := g.vl
 have hbl := g.bl
 have r1 := hF.rdAt (o := 1) rfl rfl
 have r2 := hF.rdAt (o := 2) rfl rfl
 obtain ⟨hA, hc⟩ := zq5 hx
 rcases hc with ⟨hk, hB⟩ | ⟨hk, hB⟩ | ⟨hk, hB⟩ | ⟨hk, hB, hC⟩ | ⟨hk, hB, hC⟩
 ·skip
  have hV : opV values x v = v.set x.A.toNat (zbm values x.B) := by unfold opV; rw [if_pos hk]
  have hL : opL x b = b.set x.A.toNat ((2 ^ x.B.toNat : Nat) : Int) := by unfold opL; rw [if_pos hk]
  have hSF : zdk x v b = ⟨0, 0, 0⟩ := by unfold zdk; rw [if_neg (by omega)]
  have hdk : decide (x.Kind = 5) = false := decide_eq_false (by omega)
  rw [hSF, hdk, hV, hL]
  refine zac tok Tryz.func241 (by kernel_rfl) rfl ?_
  repeat' ((conv => whnf) <;> first
   | (show CondP _ _ _; refine cS ?_) | refine zaa (zuo _ _ _ _ om rdA) ?_ | refine rI rdA rf ix ?_ | refine zae 14 [.fl 0, .fl 1, .fl 2, .fl 3, .fl 4, .fl 5, .st 6 [0, 1, 2], .fl 7, .st 8 []] (by rfl) (by kernel_rfl) ?_ | refine zae 22 [.fl 0, .fl 1, .fl 2, .fl 3, .fl 4, .fl 5, .st 6 [0, 1, 2], .fl 7, .st 8 []] (by rfl) (by kernel_rfl) ?_ | (refine zaa (znv [x.B] _ _ (zjq (f := dInt) [x.B] (fun _ => trivial) (by simp)).rd) ?_) | rw [zzw hB] | (refine zgo (q := 1) aN aN (by first | exact Ext.refl _ | exact Ext.push _ _) (by rfl) (by rfl) ix ?_; intro SN hEN hFN hlN; have r1N := hFN.rdAt (o := 1) rfl rfl; have r2N := hFN.rdAt (o := 2) rfl rfl) | (refine zgo (q := 2) aN aN (by first | exact Ext.refl _ | exact Ext.push _ _) (by rfl) (by rfl) ix ?_; intro SN hEN hFN hlN; have r1N := hFN.rdAt (o := 1) rfl rfl; have r2N := hFN.rdAt (o := 2) rfl rfl) | refine And.intro ?_ ?_)
  all_goals first
   | (exfalso; omega)
   | assumption
   | rfl
 ·skip
  have hV : opV values x v = v := by unfold opV; rw [if_neg (by omega), if_neg (by omega), if_neg (by omega), if_neg (by omega)]
  have hL : opL x b = b := by unfold opL; rw [if_neg (by omega), if_neg (by omega), if_neg (by omega), if_neg (by omega)]
  have hSF : zdk x v b = ⟨x.B, v[x.A.toNat]'(by omega), b[x.A.toNat]'(by omega)⟩ := by unfold zdk; rw [if_pos hk, zcm (by omega), zcm (by omega)]
  have hdk : decide (x.Kind = 5) = true := decide_eq_true hk
  rw [hSF, hdk, hV, hL]
  refine zac tok Tryz.func241 (by kernel_rfl) rfl ?_
  repeat' ((conv => whnf) <;> first
   | (show CondP _ _ _; refine cS ?_) | refine rI rdA rf ix ?_ | refine zaf rdA tv ix ?_ | refine zae 116 (iN 15 0 [13, 14]) (by rfl) (by kernel_rfl) ?_ | refine And.intro ?_ ?_)
  all_goals first
   | (exfalso; omega)
   | assumption
   | rfl
 ·skip
  have hV : opV values x v = v.set x.A.toNat x.B := by unfold opV; rw [if_neg (by omega), if_pos hk]
  have hL : opL x b = b.set x.A.toNat 0 := by unfold opL; rw [if_neg (by omega), if_pos hk]
  have hSF : zdk x v b = ⟨0, 0, 0⟩ := by unfold zdk; rw [if_neg (by omega)]
  have hdk : decide (x.Kind = 5) = false := decide_eq_false (by omega)
  rw [hSF, hdk, hV, hL]
  refine zac tok Tryz.func241 (by kernel_rfl) rfl ?_
  repeat' ((conv => whnf) <;> first
   | (show CondP _ _ _; refine cS ?_) | refine rI rdA rf ix ?_ | (refine zgo (q := 1) aN aN (by first | exact Ext.refl _ | exact Ext.push _ _) (by rfl) (by rfl) ix ?_; intro SN hEN hFN hlN; have r1N := hFN.rdAt (o := 1) rfl rfl; have r2N := hFN.rdAt (o := 2) rfl rfl) | (refine zgo (q := 2) aN aN (by first | exact Ext.refl _ | exact Ext.push _ _) (by rfl) (by rfl) ix ?_; intro SN hEN hFN hlN; have r1N := hFN.rdAt (o := 1) rfl rfl; have r2N := hFN.rdAt (o := 2) rfl rfl) | refine And.intro ?_ ?_)
  all_goals first
   | (exfalso; omega)
   | assumption
   | rfl
 ·skip
  have hV : opV values x v = v.set x.A.toNat (Int.tmod (getI v x.B + getI v x.C) 1000) := by unfold opV; rw [if_neg (by omega), if_neg (by omega), if_pos hk]
  have hL : opL x b = b.set x.A.toNat (lorI (getI b x.B) (getI b x.C)) := by unfold opL; rw [if_neg (by omega), if_neg (by omega), if_pos hk]
  have v1 := g.getV hB
  have v2 := g.getV hC
  have b1 := zcc (g.getB hB)
  have b2 := zcc (g.getB hC)
  have B1 := g.getB hB
  have B2 := g.getB hC
  rw [zcm (by omega)] at v1 v2 b1 b2 B1 B2
  rw [zcm (by omega), zcm (by omega)] at hV hL
  have hSF : zdk x v b = ⟨0, 0, 0⟩ := by unfold zdk; rw [if_neg (by omega)]
  have hdk : decide (x.Kind = 5) = false := decide_eq_false (by omega)
  rw [hSF, hdk, hV, hL]
  refine zac tok Tryz.func241 (by kernel_rfl) rfl ?_
  repeat' ((conv => whnf) <;> first
   | rw [zad (by omega)] | (show CondP _ _ _; refine cS ?_) | refine zaa (zrx _ _ _ aN aN) ?_ | refine rI rdA rf ix ?_ | refine zaf rdA tv ix ?_ | refine nP ?_ | refine zae 44 (iN 17 0 [16]) (by rfl) (by kernel_rfl) ?_ | refine zae 60 [.fl 0, .fl 1, .fl 2, .fl 3, .fl 4, .fl 5, .fl 6, .fl 7, .fl 8, .fl 9, .fl 10, .fl 11, .fl 12, .st 13 [0, 1, 2], .fl 14, .st 15 []] (by rfl) (by kernel_rfl) ?_ | (refine zgo (q := 1) aN aN (by first | exact Ext.refl _ | exact Ext.push _ _) (by rfl) (by rfl) ix ?_; intro SN hEN hFN hlN; have r1N := hFN.rdAt (o := 1) rfl rfl; have r2N := hFN.rdAt (o := 2) rfl rfl) | (refine zgo (q := 2) aN aN (by first | exact Ext.refl _ | exact Ext.push _ _) (by rfl) (by rfl) ix ?_; intro SN hEN hFN hlN; have r1N := hFN.rdAt (o := 1) rfl rfl; have r2N := hFN.rdAt (o := 2) rfl rfl) | refine And.intro ?_ ?_)
  all_goals first
   | (exfalso; omega)
   | assumption
   | rfl
 ·skip
  have hV : opV values x v = (if Int.tmod (getI v x.B) 2 = 0 then v.set x.A.toNat (getI v x.C) else v) := by unfold opV; rw [if_neg (by omega), if_neg (by omega), if_neg (by omega), if_pos hk]
  have hL : opL x b = b.set x.A.toNat (lorI (lorI (getI b x.A) (getI b x.B)) (getI b x.C)) := by unfold opL; rw [if_neg (by omega), if_neg (by omega), if_neg (by omega), if_pos hk]
  have b0 := zcc (g.getB hA)
  have b1 := zcc (g.getB hB)
  have b2 := zcc (g.getB hC)
  have B0 := g.getB hA
  have B1 := g.getB hB
  have B2 := g.getB hC
  have b3 := zcc (zfc B0 B1)
  have B3 := zfc B1 B2
  rw [z0h] at hL
  rw [zcm (by omega)] at b0 b1 b2 B0 B1 B2
  rw [zcm (by omega), zcm (by omega)] at b3 B3 hV
  rw [zcm (by omega), zcm (by omega), zcm (by omega)] at hL
  have hSF : zdk x v b = ⟨0, 0, 0⟩ := by unfold zdk; rw [if_neg (by omega)]
  have hdk : decide (x.Kind = 5) = false := decide_eq_false (by omega)
  by_cases h2 : Int.tmod (v[x.B.toNat]'(by omega)) 2 = 0
  ·rw [if_pos h2] at hV
   rw [hSF, hdk, hV, hL]
   refine zac tok Tryz.func241 (by kernel_rfl) rfl ?_
   repeat' ((conv => whnf) <;> first
    | (show CondP _ _ _; refine cS ?_) | refine zaa (zrx _ _ _ aN aN) ?_ | refine rI rdA rf ix ?_ | refine zaf rdA tv ix ?_ | refine nP ?_ | refine zae 77 [.fl 0, .fl 1, .fl 2, .fl 3, .fl 4, .fl 5, .fl 6, .fl 7, .fl 8, .fl 9, .fl 10, .fl 11, .fl 12, .fl 13, .fl 14, .fl 15, .fl 16, .fl 17, .st 18 [0, 1, 2, 3, 4, 5, 6, 7], .st 19 [0, 1, 2], .fl 20, .st 21 []] (by rfl) (by kernel_rfl) ?_ | refine zae 105 (iN 10 0 [9]) (by rfl) (by kernel_rfl) ?_ | (refine zgo (q := 1) aN aN (by first | exact Ext.refl _ | exact Ext.push _ _) (by rfl) (by rfl) ix ?_; intro SN hEN hFN hlN; have r1N := hFN.rdAt (o := 1) rfl rfl; have r2N := hFN.rdAt (o := 2) rfl rfl) | (refine zgo (q := 2) aN aN (by first | exact Ext.refl _ | exact Ext.push _ _) (by rfl) (by rfl) ix ?_; intro SN hEN hFN hlN; have r1N := hFN.rdAt (o := 1) rfl rfl; have r2N := hFN.rdAt (o := 2) rfl rfl) | refine And.intro ?_ ?_)
   all_goals first
    | (exfalso; omega)
    | assumption
    | rfl
  ·rw [if_neg h2] at hV
   rw [hSF, hdk, hV, hL]
   refine zac tok Tryz.func241 (by kernel_rfl) rfl ?_
   repeat' ((conv => whnf) <;> first
    | (show CondP _ _ _; refine cS ?_) | refine zaa (zrx _ _ _ aN aN) ?_ | refine rI rdA rf ix ?_ | refine zaf rdA tv ix ?_ | refine nP ?_ | refine zae 77 [.fl 0, .fl 1, .fl 2, .fl 3, .fl 4, .fl 5, .fl 6, .fl 7, .fl 8, .fl 9, .fl 10, .fl 11, .fl 12, .fl 13, .fl 14, .fl 15, .fl 16, .fl 17, .st 18 [0, 1, 2, 3, 4, 5, 6, 7], .st 19 [0, 1, 2], .fl 20, .st 21 []] (by rfl) (by kernel_rfl) ?_ | (refine zgo (q := 1) aN aN (by first | exact Ext.refl _ | exact Ext.push _ _) (by rfl) (by rfl) ix ?_; intro SN hEN hFN hlN; have r1N := hFN.rdAt (o := 1) rfl rfl; have r2N := hFN.rdAt (o := 2) rfl rfl) | (refine zgo (q := 2) aN aN (by first | exact Ext.refl _ | exact Ext.push _ _) (by rfl) (by rfl) ix ?_; intro SN hEN hFN hlN; have r1N := hFN.rdAt (o := 1) rfl rfl; have r2N := hFN.rdAt (o := 2) rfl rfl) | refine And.intro ?_ ?_)
   all_goals first
    | (exfalso; omega)
    | assumption
    | rfl
end
end Go.Proofs.YtlmmdpmmdmhacaaGreat
