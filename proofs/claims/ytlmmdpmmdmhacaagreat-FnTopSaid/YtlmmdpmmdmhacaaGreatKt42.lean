/- A text of the proof. A text of the proof. A text of the proof. -/
import Derived.Test.YtlmmdpmmdmhacaaGreatKt24
import Derived.Test.YtlmmdpmmdmhacaaGreatKt26
import Derived.Test.YtlmmdpmmdmhacaaGreatKt41
import Derived.Test.YtlmmdpmmdmhacaaGreatKt34
import Derived.Test.YtlmmdpmmdmhacaaGreatKt36
import Derived.Test.YtlmmdpmmdmhacaaGreatKt35
import Derived.Test.YtlmmdpmmdmhacaaGreatKt39
import Derived.Test.YtlmmdpmmdmhacaaGreatKt40
import Derived.Test.YtlmmdpmmdmhacaaGreatKt17
import Derived.Test.YtlmmdpmmdmhacaaGreatKt21
namespace Go.Proofs.YtlmmdpmmdmhacaaGreat
open Go Go.ChangeShapes Go.WideShapes Go.ChangeAt Go.RowKit
set_option linter.unusedVariables false
set_option linter.unusedSimpArgs false
set_option maxRecDepth 100000
def zg4 (ext name : Int) : List GStored → Nat → Int
 | [], _ => -1
 | x :: r, i => if x.Ext = ext ∧ x.Name = name then i else zg4 ext name r (i + 1)
theorem zw3 (ext name : Int) : ∀ (l : List GStored) (i : Nat), zg4 ext name l i = -1 ∨ (i ≤ zg4 ext name l i ∧ zg4 ext name l i < (i + l.length : Nat))
 | [], i => .inl rfl
 | x :: r, i => by
   rw [zg4]
   split
   ·right; rw [List.length_cons]; omega
   ·rcases zw3 ext name r (i + 1) with h | h
    ·exact .inl h
    ·right; rw [List.length_cons]; omega
def atSt (x : GStored) : List GStored → Nat → Nat
 | [], i => i
 | y :: r, i => if orGo [cmpI y.Ext x.Ext, cmpI y.Name x.Name] < 0 then atSt x r (i + 1) else i
theorem zz8 (x : GStored) : ∀ (l : List GStored) (i : Nat), i ≤ atSt x l i ∧ atSt x l i ≤ i + l.length
 | [], i => ⟨Nat.le_refl _, Nat.le_refl _⟩
 | y :: r, i => by
   rw [atSt, List.length_cons]
   split
   ·have := zz8 x r (i + 1); omega
   ·omega
def zhq (l : List GStored) (ext name value : Int) : List GStored :=
 if 0 ≤ zg4 ext name l 0 then l.set (zg4 ext name l 0).toNat ⟨ext, name, value, wrapI .i64 ((l.getD (zg4 ext name l 0).toNat default).Ver + 1)⟩
 else l.take (atSt ⟨ext, name, value, 1⟩ l 0) ++ ⟨ext, name, value, 1⟩ :: l.drop (atSt ⟨ext, name, value, 1⟩ l 0)
def zju (l : List GStored) (ext name value : Int) : List GStored × Bool := if zbw (zhq l ext name value) then (zhq l ext name value, true) else (l, false)
theorem zyo (l : List GStored) (ext name value : Int) : (zhq l ext name value).length ≤ l.length + 1 := by
 unfold zhq
 split
 ·rw [List.length_set]; omega
 ·simp only [List.length_append, List.length_cons, List.length_take, List.length_drop]; omega
theorem zo6 (l : List GStored) (ext name : Int) (c : C) (S : Store) (h : Rd S [.sl 4 (l.map GStored.d)] [c]) : EvA Tryz.prog 264 [.s c, .s (.int .i64 ext), .s (.int .i64 name)] S (fun r S' => r = .v (.s (.int .i64 (zg4 ext name l 0))) ∧ S' = S) := by
 refine zac tok Tryz.func264 (by kernel_rfl) rfl ?_
 repeat' ((conv => whnf) <;> first
  | refine rE fun hml => ?_)
 refine zag {i : Nat // i ≤ l.length ∧ zg4 ext name (l.drop i) i = zg4 ext name l 0} [6, 7, 8, 11, 12, 13, 14, 15, 16, 17, 18, 19, 20, 21, 22, 23, 24, 25, 26, 27] (fun zb => [(11, .v (.s (.int .i64 zb.1)))]) (fun _ => S) (fun zb => l.length - zb.1) ⟨0, Nat.zero_le _, rfl⟩ okL rfl ?_
 rintro ⟨i, hi, hinv⟩; dsimp only
 by_cases hlt : i < l.length
 ·have hlt' : ((i : Nat) : Int).toNat < l.length := by simpa using hlt
  rw [zam hlt, zg4] at hinv
  by_cases he : (l[((i : Nat) : Int).toNat]'hlt').Ext = ext
  ·by_cases hn : (l[((i : Nat) : Int).toNat]'hlt').Name = name
   ·rw [if_pos ⟨by simpa using he, by simpa using hn⟩] at hinv
    rw [← hinv]
    repeat' ((conv => whnf) <;> first
     | (show CondP _ _ _; refine cS ?_) | refine rI aN rf ix ?_ | refine zaf aN tv ix ?_ | refine And.intro ?_ ?_)
    all_goals first
     | rfl
     | (exfalso; omega)
   ·rw [if_neg (fun hh => hn (by simpa using hh.2))] at hinv
    repeat' ((conv => whnf) <;> first
     | rw [zad (by omega)] | (show CondP _ _ _; refine cS ?_) | refine rI aN rf ix ?_ | refine zaf aN tv ix ?_)
    all_goals first
     | (exfalso; omega)
     | (refine ⟨⟨i + 1, by omega, hinv⟩, ?_, rfl, by simp; omega⟩; (conv => whnf); repeat' (first | exact trivial | exact rfl | apply And.intro))
  ·rw [if_neg (fun hh => he (by simpa using hh.1))] at hinv
   repeat' ((conv => whnf) <;> first
    | rw [zad (by omega)] | (show CondP _ _ _; refine cS ?_) | refine cF ?_ | refine rI aN rf ix ?_ | refine zaf aN tv ix ?_)
   all_goals first
    | (exfalso; omega)
    | (refine ⟨⟨i + 1, by omega, hinv⟩, ?_, rfl, by simp; omega⟩; (conv => whnf); repeat' (first | exact trivial | exact rfl | apply And.intro))
 ·rw [zak (by omega), zg4] at hinv
  rw [← hinv]
  repeat' ((conv => whnf) <;> first
   | (show CondP _ _ _; refine cS ?_) | refine And.intro ?_ ?_)
  all_goals first
   | rfl
   | (exfalso; omega)
theorem zlm (l : List GStored) (x : GStored) (i : Nat) (hi : i ≤ l.length) (hz : l.length ≤ 2097152) {S0 S1 : Store} (c : C) (hE : Ext S0 S1) (h : Fr S0.length S1 [.sl 4 (l.map GStored.d)] [c]) :
 EvA Tryz.prog 265 [.s c, .s (.int .i64 i), .s (.sl S1.length 0 1 1)] (S1 ++ [⟨true, 4, [x.c]⟩]) (fun r S' => Ext S0 S' ∧ ∃ c', r = .v (.s c') ∧ Fr S0.length S' [.sl 4 ((l.take i ++ x :: l.drop i).map GStored.d)] [c']) := by
 by_cases hlt : i < l.length
 ·refine (zqc.fr (S0 := S0) (S1 := S1) (S2 := S1) (xs := l.map GStored.d) (ds := x.d) (y := x.c) (i := i) (by decide) (by decide) zqt hE h (Ext.refl _) (zv6 (by exact trivial)) hE.len rfl (by rw [List.length_map]; exact hlt) (by rw [List.length_map]; omega)).mono ?_
  rintro r S' ⟨h1, c', h2, h3⟩
  refine ⟨h1, c', h2, ?_⟩
  rw [List.map_append, List.map_cons, List.map_take, List.map_drop]; exact h3
 ·have he : i = l.length := by omega
  subst he
  have hv : Rd (S1 ++ [⟨true, 4, [x.c]⟩]) [.sl 4 ([x].map GStored.d)] [.sl S1.length 0 1 1] := (zv4 (f := GStored.d) [x] (fun _ => trivial) (by simp)).rd
  have hE' : Ext S0 (S1 ++ [⟨true, 4, [x.c]⟩]) := hE.trans (Ext.push _ _)
  have h' := h.ext (Ext.push S1 ⟨true, 4, [x.c]⟩)
  have hr' := h'.rd
  refine zac tok Tryz.func265 (by kernel_rfl) rfl ?_
  repeat' ((conv => whnf) <;> first
   | (show CondP _ _ _; refine cS ?_) | refine cD (fun _ => ?_) fun _ => ?_ | refine rE fun hml => ?_ | (refine zm2 hr' rf om ?_; intro cH hH) | (refine zaq (f := GStored.d) hv tv (fun _ => ?_)) | (refine zas (f := GStored.d) (m := [x]) tv hE' h' (by rfl) rf (by dsimp only [T124]; simp only [List.length_cons, List.length_nil]; omega) (by rw [zan]; simp only [List.length_cons, List.length_nil]; omega) ?_; intro cB SB hEB hFB hlB) | refine And.intro ?_ ?_)
  all_goals first
   | rfl
   | assumption
   | (refine ⟨_, rfl, ?_⟩; rw [List.take_length, List.drop_length]; exact hFB)
   | (exfalso; rename_i hh; simp at hh; done)
   | (exfalso; omega)
set_option maxHeartbeats 2000000 in
theorem zq6 (l : List GStored) (ext name value : Int) (c : C) (S : Store) (h : Rd S [.sl 4 (l.map GStored.d)] [c]) (hz : l.length ≤ 1048576) : EvA Tryz.prog 205 [.s c, .s (.int .i64 ext), .s (.int .i64 name), .s (.int .i64 value)] S (fun r S' => Ext S S' ∧ ∃ c', r = .tup [.s c', .s (.bool (zju l ext name value).2)] ∧ Fr S.length S' [.sl 4 ((zju l ext name value).1.map GStored.d)] [c']) := by
 have hp := zw3 ext name l 0
 have hml := zyo l ext name value
 refine zac tok Tryz.func205 (by kernel_rfl) rfl ?_
 skip
 (conv => whnf)
 refine zab (zdb l _ _ h (by omega)) ?_; rintro _ S1 ⟨e1, c1, rfl, f1⟩
 have h1 := h.ext e1
 have r1 := f1.rd
 by_cases hi0 : 0 ≤ zg4 ext name l 0
 ·have hi : 0 ≤ zg4 ext name l 0 ∧ (zg4 ext name l 0).toNat < l.length := by omega
  have hm : zhq l ext name value = l.set (zg4 ext name l 0).toNat ⟨ext, name, value, wrapI .i64 ((l[(zg4 ext name l 0).toNat]'hi.2).Ver + 1)⟩ := by unfold zhq; rw [if_pos hi0, zea hi.2]
  repeat' ((conv => whnf) <;> first
   | (refine zvg (f := GStored.d) (y := ⟨ext, name, value, wrapI .i64 ((l[(zg4 ext name l 0).toNat]'hi.2).Ver + 1)⟩) f1 e1 hi (fun _ => trivial) (fun _ => rfl) rfl ?_; intro S2 e2 f2; have h2 := h.ext e2) | (refine zaf h1 tv hi ?_) | (refine rI r1 rf hi ?_) | (refine rI h1 rf hi ?_) | (refine zaa (zo6 l ext name _ _ h1) ?_) | (show CondP _ _ _; refine cS ?_) | refine cN (fun _ => ?_) fun _ => ?_ | refine zaa (zg7 _ _ _ rdA) ?_ | (refine zab (zdb l _ _ h2 om) ?_; rintro _ S3 ⟨e3, c3, rfl, f3⟩) | refine And.intro ?_ ?_)
  all_goals
   first
    | assumption
    | exact e2.trans e3
    | exact e2.trans hEn
    | (rename_i hs; rw [show zju l ext name value = (zhq l ext name value, true) from if_pos (by rw [hm]; exact hs), hm]; exact ⟨_, rfl, f2⟩)
    | (rename_i hs; rw [show zju l ext name value = (l, false) from if_neg (by rw [hm, hs]; decide)]; first | exact ⟨_, rfl, f3.mono e2.len⟩ | exact ⟨_, rfl, hFn.mono e2.len⟩)
 ·have hm : zhq l ext name value = l.take (atSt ⟨ext, name, value, 1⟩ l 0) ++ ⟨ext, name, value, 1⟩ :: l.drop (atSt ⟨ext, name, value, 1⟩ l 0) := if_neg hi0
  have hat := zz8 ⟨ext, name, value, 1⟩ l 0
  repeat' ((conv => whnf) <;> first
   | (refine zaa (zo6 l ext name _ _ h1) ?_) | (show CondP _ _ _; refine cS ?_))
  refine zag {i : Nat // i ≤ l.length ∧ atSt ⟨ext, name, value, 1⟩ (l.drop i) i = atSt ⟨ext, name, value, 1⟩ l 0} [13, 37, 38, 39, 40, 41, 42, 43, 44, 45, 46, 47, 48, 49, 50, 51] (fun zb => [(13, .v (.s (.int .i64 zb.1)))]) (fun _ => S1) (fun zb => l.length - zb.1) ⟨0, Nat.zero_le _, rfl⟩ okL rfl ?_
  rintro ⟨i, hi, hinv⟩; dsimp only
  by_cases hlt : i < l.length
  ·have hlt' : ((i : Nat) : Int).toNat < l.length := by simpa using hlt
   rw [zam hlt, atSt] at hinv
   by_cases hc : orGo [cmpI (l[((i : Nat) : Int).toNat]'hlt').Ext ext, cmpI (l[((i : Nat) : Int).toNat]'hlt').Name name] < 0
   ·rw [if_pos (by simpa using hc)] at hinv
    repeat' ((conv => whnf) <;> first
     | (refine zaa (zd5 (l[((i : Nat) : Int).toNat]'hlt') ⟨ext, name, value, 1⟩ _) ?_) | rw [zad (by omega)] | (show CondP _ _ _; refine cS ?_) | refine rE fun hml => ?_ | refine rI rdA rf ix ?_ | refine zaf rdA tv ix ?_ | refine zae 37 (iN 13 0 [10]) (by rfl) (by kernel_rfl) ?_)
    all_goals first
     | (exfalso; omega)
     | (refine ⟨⟨i + 1, by omega, hinv⟩, ?_, rfl, by simp; omega⟩; (conv => whnf); repeat' (first | exact trivial | exact rfl | apply And.intro))
     | (exfalso; rename_i hb; simp_all; done)
   ·rw [if_neg (by simpa using hc)] at hinv
    rw [← hinv] at hm
    repeat' ((conv => whnf) <;> first
     | (refine zaa (zg7 _ _ _ f2.rd) ?_) | (refine zab (zlm l ⟨ext, name, value, 1⟩ i om om c1 e1 f1) ?_; rintro _ S2 ⟨e2, c2, rfl, f2⟩; have h2 := h.ext e2) | (refine zaa (zd5 (l[((i : Nat) : Int).toNat]'hlt') ⟨ext, name, value, 1⟩ _) ?_) | (show CondP _ _ _; refine cS ?_) | refine cN (fun _ => ?_) fun _ => ?_ | (refine zab (zdb _ _ _ rdA om) ?_; rintro _ Sn ⟨hEn, cn, rfl, hFn⟩) | refine rE fun hml => ?_ | refine rI rdA rf ix ?_ | refine zaf rdA tv ix ?_ | refine zae 37 (iN 13 0 [10]) (by rfl) (by kernel_rfl) ?_ | refine And.intro ?_ ?_)
    all_goals first
     | assumption
     | exact e2.trans e3
     | exact e2.trans hEn
     | (rename_i hs; rw [show zju l ext name value = (zhq l ext name value, true) from if_pos (by rw [hm]; exact hs), hm]; exact ⟨_, rfl, f2⟩)
     | (rename_i hs; rw [show zju l ext name value = (l, false) from if_neg (by rw [hm, hs]; decide)]; first | exact ⟨_, rfl, f3.mono e2.len⟩ | exact ⟨_, rfl, hFn.mono e2.len⟩)
     | (exfalso; omega)
  ·have he : i = l.length := by omega
   subst he
   rw [zak (Nat.le_refl _), atSt] at hinv
   rw [← hinv] at hm
   repeat' ((conv => whnf) <;> first
    | (refine zaa (zg7 _ _ _ f2.rd) ?_) | (refine zab (zlm l ⟨ext, name, value, 1⟩ l.length om om c1 e1 f1) ?_; rintro _ S2 ⟨e2, c2, rfl, f2⟩; have h2 := h.ext e2) | (show CondP _ _ _; refine cS ?_) | refine cF ?_ | refine cN (fun _ => ?_) fun _ => ?_ | (refine zab (zdb _ _ _ rdA om) ?_; rintro _ Sn ⟨hEn, cn, rfl, hFn⟩) | refine rE fun hml => ?_ | refine zae 37 (iN 13 0 [10]) (by rfl) (by kernel_rfl) ?_ | refine And.intro ?_ ?_)
   all_goals first
    | assumption
    | exact e2.trans e3
    | exact e2.trans hEn
    | (rename_i hs; rw [show zju l ext name value = (zhq l ext name value, true) from if_pos (by rw [hm]; exact hs), hm]; exact ⟨_, rfl, f2⟩)
    | (rename_i hs; rw [show zju l ext name value = (l, false) from if_neg (by rw [hm, hs]; decide)]; first | exact ⟨_, rfl, f3.mono e2.len⟩ | exact ⟨_, rfl, hFn.mono e2.len⟩)
    | (exfalso; omega)
def zcj (b : GBrowser) (ext tab name value : Int) : GBrowser × Bool := if zgv b ext tab 4 then ({ b with Store := (zju b.Store ext name value).1 }, (zju b.Store ext name value).2) else (b, false)
set_option maxHeartbeats 2000000 in
theorem zsu (b : GBrowser) (ext tab name value : Int) (cs : List C) (S : Store) (h : Rd S b.d cs) (hz : szL b.d ≤ 1048576) : EvA Tryz.prog 120 [.agg cs, .s (.int .i64 ext), .s (.int .i64 tab), .s (.int .i64 name), .s (.int .i64 value)] S (fun r S' => Ext S S' ∧ ∃ c1 c2 c3 c4 c5 c6, r = .tup [.agg [.int .i64 (zcj b ext tab name value).1.Key, c1, c2, c3, c4, c5, c6, .int .i64 (zcj b ext tab name value).1.Now], .s (.bool (zcj b ext tab name value).2)] ∧ Fr S.length S' (zcj b ext tab name value).1.d [.int .i64 (zcj b ext tab name value).1.Key, c1, c2, c3, c4, c5, c6, .int .i64 (zcj b ext tab name value).1.Now]) := by
 have hzs := hz
 simp only [GBrowser.d, szL, List.length_map] at hzs
 have hh := h
 obtain ⟨_, _, _, _, _, _, rfl, r1, r2, r3, r4, r5, r6⟩ := GBrowser.inv h
 cases hm : zgv b ext tab 4 with
 | false =>
   rw [show zcj b ext tab name value = (b, false) from by unfold zcj; rw [hm]; rfl]
   refine zac tok Tryz.func120 (by kernel_rfl) rfl ?_
   repeat' ((conv => whnf) <;> first
    | (refine zab (zao b _ _ aN om) ?_; rintro _ Sc ⟨e0, g1, g2, g3, g4, g5, g6, rfl, f0⟩; have hhc := hh.ext e0) | (show CondP _ _ _; refine cS ?_) | (refine zaa (zgu _ _ _ _ _ _ rdcA) ?_) | refine And.intro ?_ ?_)
   all_goals first
    | exact e0
    | exact ⟨_, _, _, _, _, _, rfl, f0⟩
    | (exfalso; omega)
 | true =>
   rw [show zcj b ext tab name value = ({ b with Store := (zju b.Store ext name value).1 }, (zju b.Store ext name value).2) from by unfold zcj; rw [hm]; rfl]
   refine zac tok Tryz.func120 (by kernel_rfl) rfl ?_
   repeat' ((conv => whnf) <;> first
    | (refine zab (zq6 b.Store ext name value _ _ r6c om) ?_; rintro _ S2 ⟨e2, cN, rfl, f2⟩; have fJ := f0.join e2 f2 e0.len) | (refine zab (zao b _ _ aN om) ?_; rintro _ Sc ⟨e0, g1, g2, g3, g4, g5, g6, rfl, f0⟩; have hhc := hh.ext e0; have r6c := r6.ext e0) | (show CondP _ _ _; refine cS ?_) | (refine zaa (zgu _ _ _ _ _ _ rdcA) ?_) | refine And.intro ?_ ?_)
   all_goals first
    | exact e0.trans e2
    | exact ⟨_, _, _, _, _, _, rfl, fJ.putLast (o := 6) rfl (by show 6 < 8; decide)⟩
    | (exfalso; omega)
theorem zxj {b : GBrowser} {tab : Int} (h : inR tab 0 ((b.Tabs.length : Int) - 1) = true) : ∃ hi : tab.toNat < b.Tabs.length, zg2 b tab = b.Tabs[tab.toNat] := by
 have := zky h
 refine ⟨by omega, ?_⟩
 unfold zg2
 rw [List.getD_eq_getElem?_getD, List.getElem?_eq_getElem (by omega)]; rfl
theorem zls {b : GBrowser} (h : BrOk b) (x : GLimit) : BrOk (zb0 b x).1 := by
 unfold zb0
 split
 ·rename_i hk
  simp only [Bool.and_eq_true, decide_eq_true_eq] at hk
  exact h.limits' (by rw [List.length_append, List.length_singleton]; omega) fun y hy => by
   rcases List.mem_append.1 hy with hy | hy
   ·exact h.lims y hy
   ·rw [List.mem_singleton.1 hy]; exact hk.1
 ·exact h
theorem zy1 {ext : Int} {s : GSite} {tick : Int} {g : GGrant} (h : g ∈ zcd ext s tick) : za4 g = true ∧ zfa g = true ∧ g.Ext = ext := by
 unfold zcd at h
 split at h
 ·rename_i hk
  unfold zoc ze7 inR at hk
  simp only [Bool.and_eq_true, decide_eq_true_eq] at hk
  have hg : ∀ k, (k = 1 ∨ k = 2) → za4 (z2y ext s tick k) = true := fun k hk2 => by
   unfold za4 zbl inR
   simp only [Bool.and_eq_true, decide_eq_true_eq]
   refine ⟨⟨⟨⟨⟨?_, ?_, ?_⟩, ?_⟩, ?_⟩, ?_⟩, ?_⟩ <;> omega
  have hl : ∀ k, (k = 1 ∨ k = 2) → zfa (z2y ext s tick k) = true := fun k hk2 => by
   unfold zfa
   rw [hg k hk2]
   simp only [Bool.true_and, Bool.and_eq_true, Bool.or_eq_true, Bool.not_eq_true', decide_eq_true_eq, decide_eq_false_iff_not]
   refine ⟨⟨⟨⟨by omega, by omega⟩, hk2⟩, ?_⟩, ?_⟩ <;> trivial
  rcases List.mem_cons.1 h with rfl | h
  ·exact ⟨hg 1 (.inl rfl), hl 1 (.inl rfl), rfl⟩
  ·rw [List.mem_singleton] at h; subst h
   exact ⟨hg 2 (.inr rfl), hl 2 (.inr rfl), rfl⟩
 ·cases h
theorem zlq (l : List GGrant) (ext : Int) (s : GSite) (tick : Int) : ((zhp l ext s tick).2 = true → (zhp l ext s tick).1.length ≤ 16) ∧ ∀ g ∈ (zhp l ext s tick).1, g ∈ l ∨ (za4 g = true ∧ zfa g = true ∧ g.Ext = ext) := by
 unfold zhp
 split
 ·exact ⟨fun h => Bool.noConfusion h, fun g hg => .inl hg⟩
 ·rename_i hb
  unfold zm1 at hb
  simp only [Bool.or_eq_true, decide_eq_true_eq, not_or] at hb
  refine ⟨fun _ => by dsimp only; omega, fun g hg => ?_⟩
  rcases List.mem_append.1 hg with hg | hg
  ·exact .inl hg
  ·exact .inr (zy1 (List.mem_filter.1 hg).1)
theorem zuz {b : GBrowser} (h : BrOk b) {tab : Int} (ht : inR tab 0 ((b.Tabs.length : Int) - 1) = true) : BrOk (ze4 b tab) := by
 obtain ⟨hi, he⟩ := zxj ht
 have hm : b.Tabs[tab.toNat] ∈ b.Tabs := List.getElem_mem hi
 unfold ze4
 rw [he]
 have := h.now
 have ht := h.tabs _ hm
 exact h.setTab (t := { b.Tabs[tab.toNat] with Click := b.Now }) ⟨ht.site, ht.doc, ht.len, by dsimp only; omega, ht.eds, ht.hid⟩ fun e he => h.eds _ hm e he
theorem zlv {b : GBrowser} (h : BrOk b) (tab ext : Int) : BrOk (zbz b tab ext).1 := by
 unfold zbz
 split
 ·rename_i ht
  have h1 := zuz h ht
  dsimp only
  split
  ·rename_i hc
   unfold zkv at hc
   simp only [Bool.and_eq_true, decide_eq_true_eq] at hc
   obtain ⟨c1, c2⟩ := zlq b.Grants ext (zg2 b tab).Site b.Now
   refine h1.grants' (c1 hc.2) fun g hg => ?_
   rcases c2 g hg with hh | ⟨g1, _, g2⟩
   ·exact ⟨h.grants g hh, h.gex g hh⟩
   ·exact ⟨g1, by rw [g2]; exact zfv.1 hc.1⟩
  ·exact h1
 ·exact h
theorem ztc {b : GBrowser} (h : BrOk b) (tab : Int) (s : GSite) : BrOk (zew b tab s).1 := by
 unfold zew
 split
 ·rename_i hk
  simp only [Bool.and_eq_true] at hk
  have h2 := hk.2
  unfold zi5 zb7 at h2
  have ho : zi5 b tab s = (zet s exB2 (zg2 b tab).Hidden, true) := by
   unfold zi5 zb7
   split
   ·rfl
   ·rename_i hn; rw [if_neg hn] at h2; cases h2
  have ht : zcr (zet s exB2 (zg2 b tab).Hidden) = true := by
   split at h2
   ·assumption
   ·cases h2
  show BrOk (goTo b tab s)
  unfold goTo
  rw [ho]
  exact (h.filterG (zhs (zg2 b tab).Site)).setTab (zv5.1 ht) fun e he => by cases he
 ·exact h
theorem zwx {b : GBrowser} {tab : Int} (hi : 0 ≤ tab ∧ tab.toNat < b.Tabs.length) : tabX b tab = b.Tabs[tab.toNat] ∧ b.Tabs[tab.toNat] ∈ b.Tabs := by
 unfold tabX
 rw [List.getD_eq_getElem?_getD, List.getElem?_eq_getElem hi.2]
 exact ⟨rfl, List.getElem_mem hi.2⟩
theorem zs3 {d : List GNode} {e : GEdit} (h : (zby d e).2 = true) : zc4 e = true := by
 unfold zby at h
 split at h
 ·rename_i hk; rw [Bool.and_eq_true] at hk; exact hk.2
 ·cases h
theorem znq {b : GBrowser} (h : BrOk b) {tab : Int} {e : GEdit} (hi : 0 ≤ tab ∧ tab.toNat < b.Tabs.length) (hb : e.By = 0 ∨ e.By ∈ exts b) : BrOk (zcf b tab e).1 := by
 unfold zcf
 split
 ·rename_i hk
  unfold zw0 at hk
  simp only [Bool.and_eq_true, decide_eq_true_eq] at hk
  obtain ⟨hx, hm⟩ := zwx hi
  rw [hx] at hk
  have ht := h.tabs _ hm
  show BrOk (zh6 b tab e)
  unfold zh6
  rw [hx]
  refine h.setTab (ht.edits (by rw [List.length_append, List.length_singleton]; omega) fun y hy => ?_) fun y hy => ?_
  ·rcases List.mem_append.1 hy with hy | hy
   ·exact ht.eds y hy
   ·rw [List.mem_singleton.1 hy]; exact zs3 hk.1
  ·rcases List.mem_append.1 hy with hy | hy
   ·exact h.eds _ hm y hy
   ·rw [List.mem_singleton.1 hy]; exact hb
 ·exact h
theorem zmn {b : GBrowser} (h : BrOk b) (tab : Int) (e : GEdit) : BrOk (zcn b tab e).1 := by
 unfold zcn
 split
 ·rename_i ht
  have := zky ht
  exact znq h (by omega) (.inl rfl)
 ·exact h
theorem zpv {b : GBrowser} {ext tab kind : Int} (h : zgv b ext tab kind = true) : ext ∈ exts b := by
 unfold zgv at h
 rw [Bool.and_eq_true, decide_eq_true_eq] at h
 exact zfv.1 h.1
theorem zm3 {b : GBrowser} (h : BrOk b) (ext tab : Int) (e : GEdit) : BrOk (zca b ext tab e).1 := by
 unfold zca
 split
 ·rename_i hk
  rw [Bool.and_eq_true] at hk
  exact znq h (znl hk.1) (.inr (zpv hk.1))
 ·exact h
theorem zx2 {l : List GStored} {ext name value : Int} {y : GStored} (h : y ∈ zhq l ext name value) : y ∈ l ∨ y.Ext = ext := by
 unfold zhq at h
 split at h
 ·rcases List.mem_or_eq_of_mem_set h with h | h
  ·exact .inl h
  ·right; rw [h]
 ·rcases List.mem_append.1 h with h | h
  ·exact .inl (List.mem_of_mem_take h)
  ·rcases List.mem_cons.1 h with h | h
   ·right; rw [h]
   ·exact .inl (List.mem_of_mem_drop h)
theorem z31 {l : List GStored} {ext name value : Int} (h : zbw l = true) : zbw (zju l ext name value).1 = true ∧ ∀ y ∈ (zju l ext name value).1, y ∈ l ∨ y.Ext = ext := by
 unfold zju
 split
 ·rename_i hs; exact ⟨hs, fun y hy => zx2 hy⟩
 ·exact ⟨h, fun y hy => .inl hy⟩
theorem zm4 {b : GBrowser} (h : BrOk b) (ext tab name value : Int) : BrOk (zcj b ext tab name value).1 := by
 unfold zcj
 split
 ·rename_i hm
  obtain ⟨p1, p2⟩ := z31 (ext := ext) (name := name) (value := value) h.store
  exact h.store' p1 fun x hx => (p2 x hx).elim (h.sex x) fun e => by rw [e]; exact zpv hm
 ·exact h
theorem zi8 {b : GBrowser} (h : BrOk b) (p : GPackage) : BrOk (za9 b p).1 := by
 unfold za9
 split
 ·rename_i hk; exact zpq.1 hk.2.2
 ·exact h
theorem zkh {b : GBrowser} (h : BrOk b) (p : GPackage) (c : Bool) : BrOk (zbi b p c).1 := by
 unfold zbi
 split
 ·rename_i hk; exact zpq.1 hk.2.2
 ·exact h
theorem znf {b : GBrowser} (h : BrOk b) (n : Int) : BrOk (zci b n).1 := by
 unfold zci
 split
 ·rename_i hk
  rw [Bool.and_eq_true] at hk
  have h1 := zky hk.1
  have h2 := zky hk.2
  exact (h.now' (n := b.Now + n) (by omega)).filterG _
 ·exact h
theorem zu4 {l : List GRule} (h : zdm l = true) (P : GRule → Bool) : zdm (l.filter P) = true := by
 unfold zdm zgy at h ⊢
 simp only [Bool.and_eq_true, decide_eq_true_eq, List.all_eq_true] at h ⊢
 refine ⟨Nat.le_trans (List.length_filter_le _ _) h.1, fun x hx => ?_⟩
 have hx' := h.2 x (List.mem_filter.1 hx).1
 refine ⟨hx'.1, Nat.le_trans ?_ hx'.2⟩
 exact (List.Sublist.filter _ (List.filter_sublist)).length_le
structure StoreOk (l : List GStored) : Prop where
 len : l.length ≤ 24
 val : ∀ x ∈ l, (1 ≤ x.Ext ∧ x.Ext ≤ 5) ∧ (0 ≤ x.Name ∧ x.Name ≤ 9) ∧ (0 ≤ x.Value ∧ x.Value ≤ 999) ∧ 1 ≤ x.Ver ∧ x.Ver ≤ 999
 asc : l.Pairwise fun x y => zgh x y = true
theorem zt2 {x y z : GStored} (h : zgh x y = true) (g : zgh y z = true) : zgh x z = true := by
 unfold zgh at h g ⊢
 simp only [Bool.or_eq_true, Bool.and_eq_true, decide_eq_true_eq] at h g ⊢
 omega
theorem zzr (m : List GStored) : ∀ (l : List GStored) (i : Nat), stGo m l i = true → ∀ (j : Nat) (h : j < l.length), okSt m l[j] (i + j) = true
 | [], _, _, j, h => absurd h (by simp)
 | p :: r, i, hg, j, h => by
   rw [stGo] at hg
   split at hg
   ·rename_i hp
    match j, h with
    | 0, _ => exact hp
    | j + 1, h =>
      have := zzr m r (i + 1) hg j (by simpa using h)
      rw [show i + (j + 1) = i + 1 + j from by omega]; exact this
   ·cases hg
theorem z0p (m : List GStored) : ∀ (l : List GStored) (i : Nat), (∀ (j : Nat) (h : j < l.length), okSt m l[j] (i + j) = true) → stGo m l i = true
 | [], _, _ => rfl
 | p :: r, i, h => by
   have h0 := h 0 (by simp)
   simp only [List.getElem_cons_zero, Nat.add_zero] at h0
   rw [stGo, if_pos h0]
   exact z0p m r (i + 1) fun j hj => by
    have := h (j + 1) (by simpa using hj)
    rw [show i + 1 + j = i + (j + 1) from by omega]; exact this
theorem zub {l : List GStored} : zbw l = true ↔ StoreOk l := by
 unfold zbw
 rw [Bool.and_eq_true, decide_eq_true_eq]
 constructor
 ·rintro ⟨h0, h⟩
  have h1 := zzr l l 0 h
  have hv : ∀ (i : Nat) (hi : i < l.length), (inR (l[i]).Ext 1 5 && inR (l[i]).Name 0 9 && inR (l[i]).Value 0 999 && inR (l[i]).Ver 1 999) = true := fun i hi => by
   have h2 := h1 i hi
   rw [Nat.zero_add] at h2
   unfold okSt at h2
   rw [Bool.and_eq_true] at h2
   exact h2.1
  have hs : ∀ (i : Nat) (hi : i + 1 < l.length), zgh (l[i]) (l[i + 1]) = true := fun i hi => by
   have h2 := h1 (i + 1) hi
   rw [Nat.zero_add, zmg (by omega) (by omega), Bool.and_eq_true] at h2
   have h3 := h2.2
   have e : (((i + 1 : Nat) : Int) - 1).toNat = i := by omega
   simp only [e] at h3
   exact h3
  have hl : ∀ (d i : Nat) (hi : i + d + 1 < l.length), zgh (l[i]'(by omega)) (l[i + d + 1]) = true := fun d => by
   induction d with
   | zero => exact fun i hi => hs i hi
   | succ d ih => exact fun i hi => zt2 (ih i (by omega)) (hs (i + d + 1) (by omega))
  refine ⟨h0, fun p hp => ?_, List.pairwise_iff_getElem.2 fun i j hi hj hij => ?_⟩
  ·obtain ⟨i, hi, rfl⟩ := List.getElem_of_mem hp
   have := hv i hi
   simp only [inR, Bool.and_eq_true, decide_eq_true_eq] at this
   omega
  ·have := hl (j - i - 1) i (by omega)
   simp only [show i + (j - i - 1) + 1 = j from by omega] at this
   exact this
 ·intro h
  refine ⟨h.len, z0p l l 0 fun j hj => ?_⟩
  rw [Nat.zero_add]
  have hv := h.val _ (List.getElem_mem hj)
  have h4 : (inR (l[j]).Ext 1 5 && inR (l[j]).Name 0 9 && inR (l[j]).Value 0 999 && inR (l[j]).Ver 1 999) = true := by
   simp only [inR, Bool.and_eq_true, decide_eq_true_eq]; omega
  by_cases h0 : j = 0
  ·subst h0; rw [zmz]; exact h4
  ·rw [zmg (by omega) (by omega), h4, Bool.true_and]
   exact List.pairwise_iff_getElem.1 h.asc _ j (by omega) hj (by omega)
theorem zs2 {l : List GStored} (h : zbw l = true) (P : GStored → Bool) : zbw (l.filter P) = true := by
 rw [zub] at h ⊢
 exact ⟨Nat.le_trans (List.length_filter_le _ _) h.len, fun x hx => h.val x (List.mem_filter.1 hx).1, h.asc.sublist List.filter_sublist⟩
theorem zq8 {α : Type} (l : List α) (i : Nat) : (l.take i ++ l.drop (i + 1)).Sublist l := by
 have : l = l.take i ++ l.drop i := (List.take_append_drop i l).symm
 conv => rhs; rw [this]
 exact List.Sublist.append (List.Sublist.refl _) (by rw [← List.drop_drop]; exact List.drop_sublist _ _)
theorem z5j {α : Type} {l : List α} {i : Nat} {x : α} (h : x ∈ l) : x ∈ l.take i ++ l.drop (i + 1) ∨ ∃ hi : i < l.length, x = l[i] := by
 rw [← List.take_append_drop i l, List.mem_append] at h
 rcases h with h | h
 ·exact .inl (List.mem_append_left _ h)
 ·by_cases hi : i < l.length
  ·rw [List.drop_eq_getElem_cons hi] at h
   rcases List.mem_cons.1 h with h | h
   ·exact .inr ⟨hi, h⟩
   ·exact .inl (List.mem_append_right _ h)
  ·rw [List.drop_eq_nil_of_le (by omega)] at h; cases h
abbrev zmb (b : GBrowser) (ext : Int) : List GPackage := b.Packs.take (zai b ext).toNat ++ b.Packs.drop ((zai b ext).toNat + 1)
theorem zie {b : GBrowser} {ext : Int} (h : 0 ≤ zai b ext) {p : GPackage} (hp : p ∈ b.Packs) (hn : p.Ext ≠ ext) : p ∈ zmb b ext := by
 obtain ⟨hi, he⟩ := zod h
 rcases z5j (i := (zai b ext).toNat) hp with h | ⟨_, e⟩
 ·exact h
 ·exact absurd (e ▸ he) hn
theorem zss {b : GBrowser} (hb : BrOk b) {ext : Int} (h : 0 ≤ zai b ext) {p : GPackage} (hp : p ∈ zmb b ext) : p.Ext ≠ ext := by
 obtain ⟨hi, he⟩ := zod h
 have ha := List.pairwise_iff_getElem.1 hb.asc
 rcases List.mem_append.1 hp with hp | hp
 ·obtain ⟨j, hj, rfl⟩ := List.getElem_of_mem hp
  rw [List.getElem_take]
  rw [List.length_take] at hj
  have := ha j (zai b ext).toNat (by omega) hi (by omega)
  omega
 ·obtain ⟨j, hj, rfl⟩ := List.getElem_of_mem hp
  rw [List.getElem_drop]
  rw [List.length_drop] at hj
  have := ha (zai b ext).toNat ((zai b ext).toNat + 1 + j) hi (by omega) (by omega)
  omega
theorem z5m {t : GTab} (h : TabOk t) (ext : Int) : TabOk (zdw t ext) :=
 h.edits (Nat.le_trans (List.length_filter_le _ _) h.len) fun e he => h.eds e (List.mem_filter.1 he).1
theorem zkc {b : GBrowser} (h : BrOk b) (ext : Int) : BrOk (zbs b ext).1 := by
 unfold zbs
 split
 ·rename_i hp
  have hin : ∀ x ∈ exts b, x ≠ ext → x ∈ (zmb b ext).map GPackage.Ext := fun x hx hn => by
   obtain ⟨p, hp1, hp2⟩ := List.mem_map.1 hx
   exact List.mem_map.2 ⟨p, zie hp hp1 (by rw [hp2]; exact hn), hp2⟩
  have hsub : ∀ p ∈ zmb b ext, p ∈ b.Packs := fun p hp => (zq8 _ _).subset hp
  show BrOk (zgb b ext)
  refine ⟨h.key, by have := h.tl; simp only [zgb, List.length_map]; omega, Nat.le_trans (zq8 _ _).length_le h.pl, Nat.le_trans (List.length_filter_le _ _) h.gl, h.ll, zu4 h.fair _, zs2 h.store _, h.now, fun p hp => h.sld p (hsub p hp), h.asc.sublist (zq8 _ _), fun t ht => ?_, fun t ht e he => ?_, fun g hg => h.grants g (List.mem_filter.1 hg).1, fun g hg => ?_, h.lims, fun r hr => ?_, fun x hx => ?_⟩
  ·obtain ⟨t0, h0, rfl⟩ := List.mem_map.1 ht
   exact z5m (h.tabs t0 h0) ext
  ·obtain ⟨t0, h0, rfl⟩ := List.mem_map.1 ht
   have he' := List.mem_filter.1 he
   refine (h.eds t0 h0 e he'.1).imp id fun hx => hin _ hx ?_
   have := he'.2
   unfold zqp at this
   simpa using this
  ·have hg' := List.mem_filter.1 hg
   refine hin _ (h.gex g hg'.1) ?_
   have := hg'.2
   unfold gBut at this
   simpa using this
  ·have hg' := List.mem_filter.1 hr
   refine hin _ (h.rex r hg'.1) ?_
   have := hg'.2
   unfold rBut at this
   simpa using this
  ·have hg' := List.mem_filter.1 hx
   refine hin _ (h.sex x hg'.1) ?_
   have := hg'.2
   unfold zms at this
   simpa using this
 ·exact h
theorem ztw {o s : Int} (h1 : 0 ≤ o ∧ o ≤ 9) (h2 : -1 ≤ s ∧ s ≤ 9) : ∃ x : GPattern, (zbl x = true) ∧ AV.v (.agg [.int .i64 o, .int .i64 s]) = .v (.agg x.c) :=
 ⟨⟨o, s⟩, by simp only [zbl, inR, Bool.and_eq_true, decide_eq_true_eq]; omega, rfl⟩
theorem zly {id : Nat} {S : Store} (h : Cur id S) : EvA Tryz.prog 238 [.s (.pt id)] S (fun r S' => Drw id S S' ∧ ∃ x : GPattern, (zbl x = true) ∧ r = .v (.agg x.c)) := by
 have hlt := h.lt
 have hD := Drw.refl h
 have hF : Fr S.length S [] [] := zc2
 refine zac tok Tryz.func238 (by kernel_rfl) rfl ?_
 repeat' ((conv => whnf) <;> first
  | rw [zad (by omega)] | (refine zab (za7 _ hD.cur) ?_; rintro _ Sn ⟨hDn, xn, hxn, rfl⟩; replace hF := hF.drw hlt hDn; replace hD := hD.trans hDn; clear hDn) | refine And.intro ?_ ?_)
 all_goals first
  | exact hD
  | exact ztw (by omega) (by omega)
theorem zy9 {e k : Int} {p : GPattern} (h1 : 0 ≤ e ∧ e ≤ 5) (hp : zbl p = true) (h2 : 0 ≤ k ∧ k ≤ 4) : ∃ x : GLimit, (zb6 x = true) ∧ AV.v (.agg [.int .i64 e, .int .i64 p.Owner, .int .i64 p.Sub, .int .i64 k]) = .v (.agg x.c) :=
 ⟨⟨e, p, k⟩, by simp only [zb6, inR, Bool.and_eq_true, decide_eq_true_eq]; exact ⟨⟨by omega, hp⟩, by omega⟩, rfl⟩
theorem zyk {id : Nat} {S : Store} (h : Cur id S) : EvA Tryz.prog 192 [.s (.pt id)] S (fun r S' => Drw id S S' ∧ ∃ x : GLimit, (zb6 x = true) ∧ r = .v (.agg x.c)) := by
 have hlt := h.lt
 have hD := Drw.refl h
 have hF : Fr S.length S [] [] := zc2
 refine zac tok Tryz.func192 (by kernel_rfl) rfl ?_
 repeat' ((conv => whnf) <;> first
  | (refine zab (za7 _ hD.cur) ?_; rintro _ Sn ⟨hDn, xn, hxn, rfl⟩; replace hF := hF.drw hlt hDn; replace hD := hD.trans hDn; clear hDn) | (refine zab (zly hD.cur) ?_; rintro _ Sn ⟨hDn, pn, hpn, rfl⟩; replace hF := hF.drw hlt hDn; replace hD := hD.trans hDn; clear hDn) | refine And.intro ?_ ?_)
 all_goals first
  | exact hD
  | exact zy9 (by omega) (by assumption) (by omega)
theorem z4y {e q t a : Int} {p : GPattern} {s : GSite} (h1 : 1 ≤ e ∧ e ≤ 3) (h2 : 1 ≤ q ∧ q ≤ 9) (hp : zbl p = true) (h3 : 0 ≤ t ∧ t ≤ 4) (ha : a = 3) (hs : ze7 s = true) : ∃ x : GRule, (zbt x = true ∧ 1 ≤ x.Ext ∧ x.Ext ≤ 3) ∧ AV.v (.agg [.int .i64 e, .int .i64 q, .int .i64 p.Owner, .int .i64 p.Sub, .int .i64 t, .int .i64 a, .int .i64 s.Owner, .int .i64 s.Sub]) = .v (.agg x.c) :=
 ⟨⟨e, q, p, t, a, s⟩, ⟨by subst ha; simp only [zbt, inR, hp, hs, Bool.and_eq_true, Bool.or_eq_true, decide_eq_true_eq]; refine ⟨⟨⟨⟨?_, ?_⟩, ?_⟩, ?_⟩, .inl ⟨?_, ?_⟩⟩ <;> first | trivial | omega, h1.1, h1.2⟩, rfl⟩
theorem z55 {e q t a : Int} {p : GPattern} (h1 : 1 ≤ e ∧ e ≤ 3) (h2 : 1 ≤ q ∧ q ≤ 9) (hp : zbl p = true) (h3 : 0 ≤ t ∧ t ≤ 4) (ha : a = 1 ∨ a = 2) : ∃ x : GRule, (zbt x = true ∧ 1 ≤ x.Ext ∧ x.Ext ≤ 3) ∧ AV.v (.agg [.int .i64 e, .int .i64 q, .int .i64 p.Owner, .int .i64 p.Sub, .int .i64 t, .int .i64 a, .int .i64 0, .int .i64 0]) = .v (.agg x.c) :=
 ⟨⟨e, q, p, t, a, ⟨0, 0⟩⟩, ⟨by simp only [zbt, inR, hp, Bool.and_eq_true, Bool.or_eq_true, decide_eq_true_eq]; refine ⟨⟨⟨⟨?_, ?_⟩, ?_⟩, ?_⟩, .inr ⟨⟨ha, ?_⟩, ?_⟩⟩ <;> first | trivial | omega, h1.1, h1.2⟩, rfl⟩
set_option maxHeartbeats 2000000 in
theorem zxn {id : Nat} {S : Store} (h : Cur id S) : EvA Tryz.prog 167 [.s (.pt id)] S (fun r S' => Drw id S S' ∧ ∃ x : GRule, (zbt x = true ∧ 1 ≤ x.Ext ∧ x.Ext ≤ 3) ∧ r = .v (.agg x.c)) := by
 have hlt := h.lt
 have hD := Drw.refl h
 have hF : Fr S.length S [] [] := zc2
 refine zac tok Tryz.func167 (by kernel_rfl) rfl ?_
 repeat' ((conv => whnf) <;> first
  | rw [zad (by omega)] | refine cD (fun _ => ?_) fun _ => ?_ | (refine zab (za7 _ hD.cur) ?_; rintro _ Sn ⟨hDn, xn, hxn, rfl⟩; replace hF := hF.drw hlt hDn; replace hD := hD.trans hDn; clear hDn) | (refine zab (zkw hD.cur) ?_; rintro _ Sn ⟨hDn, sn, hsn, rfl⟩; replace hF := hF.drw hlt hDn; replace hD := hD.trans hDn; clear hDn) | (refine zab (zly hD.cur) ?_; rintro _ Sn ⟨hDn, pn, hpn, rfl⟩; replace hF := hF.drw hlt hDn; replace hD := hD.trans hDn; clear hDn) | refine And.intro ?_ ?_)
 all_goals first
  | exact hD
  | exact z4y (by omega) (by omega) (by assumption) (by omega) (by omega) (by first | assumption | exact hsn.1)
  | exact z55 (by omega) (by omega) (by assumption) (by omega) (by omega)
theorem z21 {k a b c : Int} (h : isOp ⟨k, a, b, c⟩ = true) : ∃ x : GOp, (isOp x = true) ∧ AV.v (.agg [.int .i64 k, .int .i64 a, .int .i64 b, .int .i64 c]) = .v (.agg x.c) := ⟨⟨k, a, b, c⟩, h, rfl⟩
set_option maxHeartbeats 2000000 in
theorem z2l {id : Nat} {S : Store} (h : Cur id S) : EvA Tryz.prog 237 [.s (.pt id)] S (fun r S' => Drw id S S' ∧ ∃ x : GOp, (isOp x = true) ∧ r = .v (.agg x.c)) := by
 have hlt := h.lt
 have hD := Drw.refl h
 have hF : Fr S.length S [] [] := zc2
 refine zac tok Tryz.func237 (by kernel_rfl) rfl ?_
 repeat' ((conv => whnf) <;> first
  | rw [zad (by omega)] | refine cD (fun _ => ?_) fun _ => ?_ | (refine zab (za7 _ hD.cur) ?_; rintro _ Sn ⟨hDn, xn, hxn, rfl⟩; replace hF := hF.drw hlt hDn; replace hD := hD.trans hDn; clear hDn) | refine And.intro ?_ ?_)
 all_goals first
  | exact hD
  | exact z21 (by simp only [isOp, inR, Bool.and_eq_true, Bool.or_eq_true, decide_eq_true_eq, and_true]; omega)
set_option maxHeartbeats 2000000 in
theorem zzo {id : Nat} {S : Store} (h : Cur id S) : EvA Tryz.prog 166 [.s (.pt id)] S (fun r S' => Drw id S S' ∧ ∃ l : List GOp, (∀ x ∈ l, isOp x = true) ∧ l.length ≤ 9 ∧ ∃ c', r = .v (.s c') ∧ Fr S.length S' [.sl 4 (l.map GOp.d)] [c']) := by
 have hlt := h.lt
 have hD := Drw.refl h
 have hF : Fr S.length S [] [] := zc2
 refine zac tok Tryz.func166 (by kernel_rfl) rfl ?_
 skip
 (conv => whnf)
 have hD1 := hD.push ⟨true, 4, []⟩
 have hF1 := hF.pushD (k := 4) (f := GOp.d) hD.len [] (fun _ => trivial) (by decide) (rows := []) rfl
 refine zab (za7 _ hD1.cur) ?_; rintro _ Sn ⟨hDn, xn, hxn, rfl⟩
 replace hF1 := hF1.drw hlt hDn
 replace hD1 := hD1.trans hDn
 obtain ⟨n, rfl⟩ := Int.eq_ofNat_of_zero_le hxn.1
 skip
 refine zag {q : Nat × Store × C // q.1 ≤ 9 ∧ Drw id S q.2.1 ∧ ∃ l : List GOp, (∀ x ∈ l, isOp x = true) ∧ l.length + q.1 ≤ 9 ∧ Fr S.length q.2.1 [.sl 4 (l.map GOp.d)] [q.2.2]} [3, 4, 8, 9, 10, 11, 12, 13, 14, 15, 16] (fun zb => [(4, .v (.s (.int .i64 (zb.1.1 : Nat)))), (3, .v (.s zb.1.2.2))]) (fun zb => zb.1.2.1) (fun zb => zb.1.1) ⟨(n, _, _), by have := hxn.2.2.1 (by omega); dsimp only; omega, hD1, [], fun _ h => (by cases h), by have := hxn.2.2.1 (by omega); simp; omega, hF1⟩ okL rfl ?_
 rintro ⟨⟨k, Si, ci⟩, hk, hP⟩; dsimp only
 clear hF hD hD1 hF1 hDn hxn
 replace hk : k ≤ 9 := hk
 obtain ⟨hD, l, hx, hl, hF⟩ : Drw id S Si ∧ ∃ l : List GOp, (∀ x ∈ l, isOp x = true) ∧ l.length + k ≤ 9 ∧ Fr S.length Si [.sl 4 (l.map GOp.d)] [ci] := hP
 repeat' ((conv => whnf) <;> first
  | rw [zad (by omega)] | refine cD (fun _ => ?_) fun _ => ?_ | (refine zab (z2l hD.cur) ?_; rintro _ Sn ⟨hDn, opn, hopn, rfl⟩; replace hF := hF.drw hlt hDn; replace hD := hD.trans hDn; clear hDn) | (refine z0s (f := GOp.d) (o := 0) (l := l) (m := [_]) (fun _ => trivial) hD hF rfl rfl rfl rf (by dsimp only [T225]; simp only [List.length_singleton]; omega) (by simp only [List.length_singleton]; omega) ?_; intro cN SN hDN hFN) | refine And.intro ?_ ?_)
 all_goals first
  | exact hD
  | exact ⟨l, hx, by omega, _, rfl, hF⟩
  | (refine ⟨⟨(k - 1, SN, cN), by dsimp only; omega, hDN, _, fun x hx' => ?_, by rw [List.length_append]; show l.length + 1 + (k - 1) ≤ 9; omega, hFN⟩, ?_, rfl, by dsimp only; omega⟩
     ·rcases List.mem_append.1 hx' with h | h
      ·exact hx x h
      ·rw [List.mem_singleton.1 h]; exact hopn
     ·(conv => whnf); repeat' (first | exact trivial | exact rfl | (show _ = _; congr 3; dsimp only; omega) | apply And.intro))
end Go.Proofs.YtlmmdpmmdmhacaaGreat
