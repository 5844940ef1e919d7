/- A text of the proof. -/
import Derived.Test.YtockphlpokoohaaGreatKa34
import Derived.Test.YtockphlpokoohaaGreatKa39
import Derived.Test.YtockphlpokoohaaGreatKa40
import Derived.Test.YtockphlpokoohaaGreatKa29
import Derived.Test.YtockphlpokoohaaGreatKa41
namespace Go.Proofs.YtockphlpokoohaaGreat
open Go Go.ChangeShapes Go.WideShapes Go.ChangeAt Go.RowKit
set_option linter.unusedVariables false
set_option linter.unusedSimpArgs false
set_option maxRecDepth 100000
def plcSt (ext name : Int) : List GStored → Nat → Int
  | [], _ => -1
  | x :: r, i => if x.Ext = ext ∧ x.Name = name then i else plcSt ext name r (i + 1)
theorem plcSt_in (ext name : Int) : ∀ (l : List GStored) (i : Nat), plcSt ext name l i = -1 ∨ (i ≤ plcSt ext name l i ∧ plcSt ext name l i < (i + l.length : Nat))
  | [], i => .inl rfl
  | x :: r, i => by
    rw [plcSt]
    split
    · right; rw [List.length_cons]; omega
    · rcases plcSt_in ext name r (i + 1) with h | h
      · exact .inl h
      · right; rw [List.length_cons]; omega
def atSt (x : GStored) : List GStored → Nat → Nat
  | [], i => i
  | y :: r, i => if orGo [cmpI y.Ext x.Ext, cmpI y.Name x.Name] < 0 then atSt x r (i + 1) else i
theorem atSt_in (x : GStored) : ∀ (l : List GStored) (i : Nat), i ≤ atSt x l i ∧ atSt x l i ≤ i + l.length
  | [], i => ⟨Nat.le_refl _, Nat.le_refl _⟩
  | y :: r, i => by
    rw [atSt, List.length_cons]
    split
    · have := atSt_in x r (i + 1); omega
    · omega
def putRaw (l : List GStored) (ext name value : Int) : List GStored :=
  if 0 ≤ plcSt ext name l 0 then l.set (plcSt ext name l 0).toNat ⟨ext, name, value, wrapI .i64 ((l.getD (plcSt ext name l 0).toNat default).Ver + 1)⟩
  else l.take (atSt ⟨ext, name, value, 1⟩ l 0) ++ ⟨ext, name, value, 1⟩ :: l.drop (atSt ⟨ext, name, value, 1⟩ l 0)
def putSt (l : List GStored) (ext name value : Int) : List GStored × Bool := if isStore (putRaw l ext name value) then (putRaw l ext name value, true) else (l, false)
def getSt (l : List GStored) (ext name : Int) : Int × Bool := if plcSt ext name l 0 < 0 then (0, false) else ((l.getD (plcSt ext name l 0).toNat default).Value, true)
theorem putRaw_len (l : List GStored) (ext name value : Int) : (putRaw l ext name value).length ≤ l.length + 1 := by
  unfold putRaw
  split
  · rw [List.length_set]; omega
  · simp only [List.length_append, List.length_cons, List.length_take, List.length_drop]; omega
theorem ev_placeOf (l : List GStored) (ext name : Int) (c : C) (S : Store) (h : Rd S [.sl 4 (l.map GStored.d)] [c]) : EvA Tryz.prog 146 [.s c, .s (.int .i64 ext), .s (.int .i64 name)] S (fun r S' => r = .v (.s (.int .i64 (plcSt ext name l 0))) ∧ S' = S) := by
  refine evA_intro tok Tryz.func146 (by kernel_rfl) rfl ?_
  repeat' ((conv => whnf) <;> first
   | rw [wrapI_i64 (by omega)] | refine cD (fun _ => ?_) fun _ => ?_ | refine cE (fun _ => ?_) fun _ => ?_ | refine cT ?_ | refine cF ?_ | refine cN (fun _ => ?_) fun _ => ?_ | refine cI (fun _ => ?_) fun _ => ?_ | refine rE fun hml => ?_ | refine rI aN rf ix ?_ | refine rd_loadf aN tv ix ?_ | refine nP ?_ | refine And.intro ?_ ?_)
  refine loop_intro {i : Nat // i ≤ l.length ∧ plcSt ext name (l.drop i) i = plcSt ext name l 0} [6, 7, 8, 11, 12, 13, 14, 15, 16, 17, 18, 19, 20, 21, 22, 23, 24, 25, 26, 27] (fun zb => [(11, .v (.s (.int .i64 zb.1)))]) (fun _ => S) (fun zb => l.length - zb.1) ⟨0, Nat.zero_le _, rfl⟩ ?_ rfl ?_
  · (conv => whnf); repeat' (first | exact trivial | exact rfl | apply And.intro)
  rintro ⟨i, hi, hinv⟩; dsimp only
  by_cases hlt : i < l.length
  · have hlt' : ((i : Nat) : Int).toNat < l.length := by simpa using hlt
    rw [drop_at hlt, plcSt] at hinv
    by_cases he : (l[((i : Nat) : Int).toNat]'hlt').Ext = ext
    · by_cases hn : (l[((i : Nat) : Int).toNat]'hlt').Name = name
      · rw [if_pos ⟨by simpa using he, by simpa using hn⟩] at hinv
        rw [← hinv]
        repeat' ((conv => whnf) <;> first
         | rw [wrapI_i64 (by omega)] | (show CondP _ _ _; refine cS ?_) | refine cD (fun _ => ?_) fun _ => ?_ | refine cE (fun _ => ?_) fun _ => ?_ | refine cT ?_ | refine cF ?_ | refine cN (fun _ => ?_) fun _ => ?_ | refine cI (fun _ => ?_) fun _ => ?_ | refine rE fun hml => ?_ | refine rI aN rf ix ?_ | refine rd_loadf aN tv ix ?_ | refine nP ?_ | refine And.intro ?_ ?_)
        all_goals first
          | rfl
          | (exfalso; omega)
      · rw [if_neg (fun hh => hn (by simpa using hh.2))] at hinv
        repeat' ((conv => whnf) <;> first
         | rw [wrapI_i64 (by omega)] | (show CondP _ _ _; refine cS ?_) | refine cD (fun _ => ?_) fun _ => ?_ | refine cE (fun _ => ?_) fun _ => ?_ | refine cT ?_ | refine cF ?_ | refine cN (fun _ => ?_) fun _ => ?_ | refine cI (fun _ => ?_) fun _ => ?_ | refine rE fun hml => ?_ | refine rI aN rf ix ?_ | refine rd_loadf aN tv ix ?_ | refine nP ?_ | refine And.intro ?_ ?_)
        all_goals first
          | (exfalso; omega)
          | (refine ⟨⟨i + 1, by omega, hinv⟩, ?_, rfl, by simp; omega⟩; (conv => whnf); repeat' (first | exact trivial | exact rfl | apply And.intro))
    · rw [if_neg (fun hh => he (by simpa using hh.1))] at hinv
      repeat' ((conv => whnf) <;> first
       | rw [wrapI_i64 (by omega)] | (show CondP _ _ _; refine cS ?_) | refine cD (fun _ => ?_) fun _ => ?_ | refine cE (fun _ => ?_) fun _ => ?_ | refine cT ?_ | refine cF ?_ | refine cN (fun _ => ?_) fun _ => ?_ | refine cI (fun _ => ?_) fun _ => ?_ | refine rE fun hml => ?_ | refine rI aN rf ix ?_ | refine rd_loadf aN tv ix ?_ | refine nP ?_ | refine And.intro ?_ ?_)
      all_goals first
        | (exfalso; omega)
        | (refine ⟨⟨i + 1, by omega, hinv⟩, ?_, rfl, by simp; omega⟩; (conv => whnf); repeat' (first | exact trivial | exact rfl | apply And.intro))
  · rw [drop_end (by omega), plcSt] at hinv
    rw [← hinv]
    repeat' ((conv => whnf) <;> first
     | rw [wrapI_i64 (by omega)] | (show CondP _ _ _; refine cS ?_) | refine cD (fun _ => ?_) fun _ => ?_ | refine cE (fun _ => ?_) fun _ => ?_ | refine cT ?_ | refine cF ?_ | refine cN (fun _ => ?_) fun _ => ?_ | refine cI (fun _ => ?_) fun _ => ?_ | refine rE fun hml => ?_ | refine rI aN rf ix ?_ | refine rd_loadf aN tv ix ?_ | refine nP ?_ | refine And.intro ?_ ?_)
    all_goals first
      | rfl
      | (exfalso; omega)
theorem ev_GetStored (l : List GStored) (ext name : Int) (c : C) (S : Store) (h : Rd S [.sl 4 (l.map GStored.d)] [c]) : EvA Tryz.prog 42 [.s c, .s (.int .i64 ext), .s (.int .i64 name)] S (fun r S' => r = .tup [.s (.int .i64 (getSt l ext name).1), .s (.bool (getSt l ext name).2)] ∧ S' = S) := by
  have hp := plcSt_in ext name l 0
  by_cases hn : plcSt ext name l 0 < 0
  · rw [show getSt l ext name = (0, false) from if_pos hn]
    refine evA_intro tok Tryz.func42 (by kernel_rfl) rfl ?_
    repeat' ((conv => whnf) <;> first
     | (show CondP _ _ _; refine cS ?_) | refine cD (fun _ => ?_) fun _ => ?_ | refine cE (fun _ => ?_) fun _ => ?_ | refine cT ?_ | refine cF ?_ | refine cN (fun _ => ?_) fun _ => ?_ | refine cI (fun _ => ?_) fun _ => ?_ | refine callP_eq (ev_placeOf _ _ _ _ _ aN) ?_ | refine rI aN rf ix ?_ | refine rd_loadf aN tv ix ?_ | refine nP ?_ | refine And.intro ?_ ?_)
    all_goals first
      | rfl
      | (exfalso; omega)
  · have hi : 0 ≤ plcSt ext name l 0 ∧ (plcSt ext name l 0).toNat < l.length := by omega
    rw [show getSt l ext name = ((l[(plcSt ext name l 0).toNat]'hi.2).Value, true) from by unfold getSt; rw [if_neg hn, getD_at hi.2]]
    refine evA_intro tok Tryz.func42 (by kernel_rfl) rfl ?_
    repeat' ((conv => whnf) <;> first
     | (refine rd_loadf h tv hi ?_) | (refine rI h rf hi ?_) | (show CondP _ _ _; refine cS ?_) | refine cD (fun _ => ?_) fun _ => ?_ | refine cE (fun _ => ?_) fun _ => ?_ | refine cT ?_ | refine cF ?_ | refine cN (fun _ => ?_) fun _ => ?_ | refine cI (fun _ => ?_) fun _ => ?_ | refine callP_eq (ev_placeOf _ _ _ _ _ aN) ?_ | refine rI aN rf ix ?_ | refine rd_loadf aN tv ix ?_ | refine nP ?_ | refine And.intro ?_ ?_)
    all_goals first
      | rfl
      | (exfalso; omega)
theorem ev_InsStored (l : List GStored) (x : GStored) (i : Nat) (hi : i ≤ l.length) (hz : l.length ≤ 2097152) {S0 S1 : Store} (c : C) (hE : Ext S0 S1) (h : Fr S0.length S1 [.sl 4 (l.map GStored.d)] [c]) :
    EvA Tryz.prog 224 [.s c, .s (.int .i64 i), .s (.sl S1.length 0 1 1)] (S1 ++ [⟨true, 4, [x.c]⟩]) (fun r S' => Ext S0 S' ∧ ∃ c', r = .v (.s c') ∧ Fr S0.length S' [.sl 4 ((l.take i ++ x :: l.drop i).map GStored.d)] [c']) := by
  by_cases hlt : i < l.length
  · refine (insStored_raw.fr (S0 := S0) (S1 := S1) (S2 := S1) (xs := l.map GStored.d) (ds := x.d) (y := x.c) (i := i) (by decide) (by decide) insStored_fok hE h (Ext.refl _) (fr_flat (by exact trivial)) hE.len rfl (by rw [List.length_map]; exact hlt) (by rw [List.length_map]; omega)).mono ?_
    rintro r S' ⟨h1, c', h2, h3⟩
    refine ⟨h1, c', h2, ?_⟩
    rw [List.map_append, List.map_cons, List.map_take, List.map_drop]; exact h3
  · have he : i = l.length := by omega
    subst he
    have hv : Rd (S1 ++ [⟨true, 4, [x.c]⟩]) [.sl 4 ([x].map GStored.d)] [.sl S1.length 0 1 1] := (fr_litG (f := GStored.d) [x] (fun _ => trivial) (by simp)).rd
    have hE' : Ext S0 (S1 ++ [⟨true, 4, [x.c]⟩]) := hE.trans (Ext.push _ _)
    have h' := h.ext (Ext.push S1 ⟨true, 4, [x.c]⟩)
    have hr' := h'.rd
    refine evA_intro tok Tryz.func224 (by kernel_rfl) rfl ?_
    repeat' ((conv => whnf) <;> first
     | rw [wrapI_i64 (by omega)] | (show CondP _ _ _; refine cS ?_) | refine cD (fun _ => ?_) fun _ => ?_ | refine cE (fun _ => ?_) fun _ => ?_ | refine cT ?_ | refine cF ?_ | refine cN (fun _ => ?_) fun _ => ?_ | refine cI (fun _ => ?_) fun _ => ?_ | refine rE fun hml => ?_ | (refine rd_slif rdA rf om ?_; intro cSl hSl) | refine nP ?_ | refine draw_intro 46 [.fl 0, .fl 1, .fl 2, .fl 3, .fl 4, .fl 5, .fl 6, .fl 7, .st 8 []] (by rfl) (by kernel_rfl) ?_ | refine draw_intro 69 [.fl 0, .fl 1, .fl 2, .fl 3, .fl 4, .fl 5, .fl 6, .fl 7, .st 8 []] (by rfl) (by kernel_rfl) ?_ | (refine rd_slhf hr' rf om ?_; intro cH hH) | (refine rd_elemsf (f := GStored.d) hv tv (fun _ => ?_)) | (refine fr_app_flat (f := GStored.d) (m := [x]) tv hE' h' (by rfl) rf (by dsimp only [T174]; simp only [List.length_cons, List.length_nil]; omega) (by rw [maxLen_eq]; simp only [List.length_cons, List.length_nil]; omega) ?_; intro cB SB hEB hFB hlB) | refine And.intro ?_ ?_)
    all_goals first
      | rfl
      | assumption
      | (refine ⟨_, rfl, ?_⟩; rw [List.take_length, List.drop_length]; exact hFB)
      | (exfalso; rename_i hh; simp at hh; done)
      | (exfalso; omega)
set_option maxHeartbeats 2000000 in
theorem ev_iPutStored (l : List GStored) (ext name value : Int) (c : C) (S : Store) (h : Rd S [.sl 4 (l.map GStored.d)] [c]) (hz : l.length ≤ 1048576) : EvA Tryz.prog 145 [.s c, .s (.int .i64 ext), .s (.int .i64 name), .s (.int .i64 value)] S (fun r S' => Ext S S' ∧ ∃ c', r = .tup [.s c', .s (.bool (putSt l ext name value).2)] ∧ Fr S.length S' [.sl 4 ((putSt l ext name value).1.map GStored.d)] [c']) := by
  have hp := plcSt_in ext name l 0
  have hml := putRaw_len l ext name value
  refine evA_intro tok Tryz.func145 (by kernel_rfl) rfl ?_
  repeat' ((conv => whnf) <;> first
   | rw [wrapI_i64 (by omega)] | (show CondP _ _ _; refine cS ?_) | refine cD (fun _ => ?_) fun _ => ?_ | refine cE (fun _ => ?_) fun _ => ?_ | refine cT ?_ | refine cF ?_ | refine cN (fun _ => ?_) fun _ => ?_ | refine cI (fun _ => ?_) fun _ => ?_ | refine callP_eq (ev_iIsStore _ _ _ rdA) ?_ | refine callP_eq (ev_placeOf _ _ _ _ _ rdA) ?_ | refine callP_eq (ev_compareStored _ _ _) ?_ | refine rE fun hml => ?_ | refine rI rdA rf ix ?_ | refine rd_loadf rdA tv ix ?_ | refine nP ?_ | refine draw_intro 37 [.fl 0, .fl 1, .fl 2, .fl 3, .fl 4, .fl 5, .fl 6, .fl 7, .fl 8, .fl 9, .st 10 [], .fl 11, .fl 12] (by rfl) (by kernel_rfl) ?_ | refine And.intro ?_ ?_)
  (conv => whnf)
  refine callP_intro (ev_CloneStored l _ _ h (by omega)) ?_; rintro _ S1 ⟨e1, c1, rfl, f1⟩
  have h1 := h.ext e1
  have r1 := f1.rd
  by_cases hi0 : 0 ≤ plcSt ext name l 0
  · have hi : 0 ≤ plcSt ext name l 0 ∧ (plcSt ext name l 0).toNat < l.length := by omega
    have hm : putRaw l ext name value = l.set (plcSt ext name l 0).toNat ⟨ext, name, value, wrapI .i64 ((l[(plcSt ext name l 0).toNat]'hi.2).Ver + 1)⟩ := by unfold putRaw; rw [if_pos hi0, getD_at hi.2]
    repeat' ((conv => whnf) <;> first
     | (refine st_flat (f := GStored.d) (y := ⟨ext, name, value, wrapI .i64 ((l[(plcSt ext name l 0).toNat]'hi.2).Ver + 1)⟩) f1 e1 hi (fun _ => trivial) (fun _ => rfl) rfl ?_; intro S2 e2 f2; have h2 := h.ext e2) | (refine rd_loadf h1 tv hi ?_) | (refine rI r1 rf hi ?_) | (refine rI h1 rf hi ?_) | (refine callP_eq (ev_placeOf l ext name _ _ h1) ?_) | rw [wrapI_i64 (by omega)] | (show CondP _ _ _; refine cS ?_) | refine cD (fun _ => ?_) fun _ => ?_ | refine cE (fun _ => ?_) fun _ => ?_ | refine cT ?_ | refine cF ?_ | refine cN (fun _ => ?_) fun _ => ?_ | refine cI (fun _ => ?_) fun _ => ?_ | refine callP_eq (ev_iIsStore _ _ _ rdA) ?_ | refine callP_eq (ev_placeOf _ _ _ _ _ rdA) ?_ | refine callP_eq (ev_compareStored _ _ _) ?_ | refine rE fun hml => ?_ | refine rI rdA rf ix ?_ | refine rd_loadf rdA tv ix ?_ | refine nP ?_ | refine draw_intro 37 [.fl 0, .fl 1, .fl 2, .fl 3, .fl 4, .fl 5, .fl 6, .fl 7, .fl 8, .fl 9, .st 10 [], .fl 11, .fl 12] (by rfl) (by kernel_rfl) ?_ | (refine callP_intro (ev_CloneStored l _ _ h2 om) ?_; rintro _ S3 ⟨e3, c3, rfl, f3⟩) | refine And.intro ?_ ?_)
    all_goals
      first
        | assumption
        | exact e2.trans e3
        | exact e2.trans hEn
        | (rename_i hs; rw [show putSt l ext name value = (putRaw l ext name value, true) from if_pos (by rw [hm]; exact hs), hm]; exact ⟨_, rfl, f2⟩)
        | (rename_i hs; rw [show putSt l ext name value = (l, false) from if_neg (by rw [hm, hs]; decide)]; first | exact ⟨_, rfl, f3.mono e2.len⟩ | exact ⟨_, rfl, hFn.mono e2.len⟩)
  · have hm : putRaw l ext name value = l.take (atSt ⟨ext, name, value, 1⟩ l 0) ++ ⟨ext, name, value, 1⟩ :: l.drop (atSt ⟨ext, name, value, 1⟩ l 0) := if_neg hi0
    have hat := atSt_in ⟨ext, name, value, 1⟩ l 0
    repeat' ((conv => whnf) <;> first
     | (refine callP_eq (ev_placeOf l ext name _ _ h1) ?_) | rw [wrapI_i64 (by omega)] | (show CondP _ _ _; refine cS ?_) | refine cD (fun _ => ?_) fun _ => ?_ | refine cE (fun _ => ?_) fun _ => ?_ | refine cT ?_ | refine cF ?_ | refine cN (fun _ => ?_) fun _ => ?_ | refine cI (fun _ => ?_) fun _ => ?_ | refine callP_eq (ev_iIsStore _ _ _ rdA) ?_ | refine callP_eq (ev_placeOf _ _ _ _ _ rdA) ?_ | refine callP_eq (ev_compareStored _ _ _) ?_ | refine rE fun hml => ?_ | refine rI rdA rf ix ?_ | refine rd_loadf rdA tv ix ?_ | refine nP ?_ | refine draw_intro 37 [.fl 0, .fl 1, .fl 2, .fl 3, .fl 4, .fl 5, .fl 6, .fl 7, .fl 8, .fl 9, .st 10 [], .fl 11, .fl 12] (by rfl) (by kernel_rfl) ?_ | refine And.intro ?_ ?_)
    refine loop_intro {i : Nat // i ≤ l.length ∧ atSt ⟨ext, name, value, 1⟩ (l.drop i) i = atSt ⟨ext, name, value, 1⟩ l 0} [13, 37, 38, 39, 40, 41, 42, 43, 44, 45, 46, 47, 48, 49, 50, 51] (fun zb => [(13, .v (.s (.int .i64 zb.1)))]) (fun _ => S1) (fun zb => l.length - zb.1) ⟨0, Nat.zero_le _, rfl⟩ ?_ rfl ?_
    · (conv => whnf); repeat' (first | exact trivial | exact rfl | apply And.intro)
    rintro ⟨i, hi, hinv⟩; dsimp only
    by_cases hlt : i < l.length
    · have hlt' : ((i : Nat) : Int).toNat < l.length := by simpa using hlt
      rw [drop_at hlt, atSt] at hinv
      by_cases hc : orGo [cmpI (l[((i : Nat) : Int).toNat]'hlt').Ext ext, cmpI (l[((i : Nat) : Int).toNat]'hlt').Name name] < 0
      · rw [if_pos (by simpa using hc)] at hinv
        repeat' ((conv => whnf) <;> first
         | (refine callP_eq (ev_compareStored (l[((i : Nat) : Int).toNat]'hlt') ⟨ext, name, value, 1⟩ _) ?_) | rw [wrapI_i64 (by omega)] | (show CondP _ _ _; refine cS ?_) | refine cD (fun _ => ?_) fun _ => ?_ | refine cE (fun _ => ?_) fun _ => ?_ | refine cT ?_ | refine cF ?_ | refine cN (fun _ => ?_) fun _ => ?_ | refine cI (fun _ => ?_) fun _ => ?_ | refine callP_eq (ev_iIsStore _ _ _ rdA) ?_ | refine callP_eq (ev_placeOf _ _ _ _ _ rdA) ?_ | (refine callP_intro (ev_CloneStored _ _ _ rdA om) ?_; rintro _ Sn ⟨hEn, cn, rfl, hFn⟩) | refine callP_eq (ev_compareStored _ _ _) ?_ | refine rE fun hml => ?_ | refine rI rdA rf ix ?_ | refine rd_loadf rdA tv ix ?_ | refine nP ?_ | refine draw_intro 37 [.fl 0, .fl 1, .fl 2, .fl 3, .fl 4, .fl 5, .fl 6, .fl 7, .fl 8, .fl 9, .st 10 [], .fl 11, .fl 12] (by rfl) (by kernel_rfl) ?_ | refine And.intro ?_ ?_)
        all_goals first
          | (exfalso; omega)
          | (refine ⟨⟨i + 1, by omega, hinv⟩, ?_, rfl, by simp; omega⟩; (conv => whnf); repeat' (first | exact trivial | exact rfl | apply And.intro))
          | (exfalso; rename_i hb; simp_all; done)
      · rw [if_neg (by simpa using hc)] at hinv
        rw [← hinv] at hm
        repeat' ((conv => whnf) <;> first
         | (refine callP_eq (ev_iIsStore _ _ _ f2.rd) ?_) | (refine callP_intro (ev_InsStored l ⟨ext, name, value, 1⟩ i om om c1 e1 f1) ?_; rintro _ S2 ⟨e2, c2, rfl, f2⟩; have h2 := h.ext e2) | (refine callP_eq (ev_compareStored (l[((i : Nat) : Int).toNat]'hlt') ⟨ext, name, value, 1⟩ _) ?_) | rw [wrapI_i64 (by omega)] | (show CondP _ _ _; refine cS ?_) | refine cD (fun _ => ?_) fun _ => ?_ | refine cE (fun _ => ?_) fun _ => ?_ | refine cT ?_ | refine cF ?_ | refine cN (fun _ => ?_) fun _ => ?_ | refine cI (fun _ => ?_) fun _ => ?_ | refine callP_eq (ev_iIsStore _ _ _ rdA) ?_ | refine callP_eq (ev_placeOf _ _ _ _ _ rdA) ?_ | (refine callP_intro (ev_CloneStored _ _ _ rdA om) ?_; rintro _ Sn ⟨hEn, cn, rfl, hFn⟩) | refine callP_eq (ev_compareStored _ _ _) ?_ | refine rE fun hml => ?_ | refine rI rdA rf ix ?_ | refine rd_loadf rdA tv ix ?_ | refine nP ?_ | refine draw_intro 37 [.fl 0, .fl 1, .fl 2, .fl 3, .fl 4, .fl 5, .fl 6, .fl 7, .fl 8, .fl 9, .st 10 [], .fl 11, .fl 12] (by rfl) (by kernel_rfl) ?_ | (refine callP_intro (ev_CloneStored l _ _ h2 om) ?_; rintro _ S3 ⟨e3, c3, rfl, f3⟩) | refine And.intro ?_ ?_)
        all_goals first
          | assumption
          | exact e2.trans e3
          | exact e2.trans hEn
          | (rename_i hs; rw [show putSt l ext name value = (putRaw l ext name value, true) from if_pos (by rw [hm]; exact hs), hm]; exact ⟨_, rfl, f2⟩)
          | (rename_i hs; rw [show putSt l ext name value = (l, false) from if_neg (by rw [hm, hs]; decide)]; first | exact ⟨_, rfl, f3.mono e2.len⟩ | exact ⟨_, rfl, hFn.mono e2.len⟩)
          | (exfalso; omega)
    · have he : i = l.length := by omega
      subst he
      rw [drop_end (Nat.le_refl _), atSt] at hinv
      rw [← hinv] at hm
      repeat' ((conv => whnf) <;> first
       | (refine callP_eq (ev_iIsStore _ _ _ f2.rd) ?_) | (refine callP_intro (ev_InsStored l ⟨ext, name, value, 1⟩ l.length om om c1 e1 f1) ?_; rintro _ S2 ⟨e2, c2, rfl, f2⟩; have h2 := h.ext e2) | rw [wrapI_i64 (by omega)] | (show CondP _ _ _; refine cS ?_) | refine cD (fun _ => ?_) fun _ => ?_ | refine cE (fun _ => ?_) fun _ => ?_ | refine cT ?_ | refine cF ?_ | refine cN (fun _ => ?_) fun _ => ?_ | refine cI (fun _ => ?_) fun _ => ?_ | refine callP_eq (ev_iIsStore _ _ _ rdA) ?_ | refine callP_eq (ev_placeOf _ _ _ _ _ rdA) ?_ | (refine callP_intro (ev_CloneStored _ _ _ rdA om) ?_; rintro _ Sn ⟨hEn, cn, rfl, hFn⟩) | refine callP_eq (ev_compareStored _ _ _) ?_ | refine rE fun hml => ?_ | refine rI rdA rf ix ?_ | refine rd_loadf rdA tv ix ?_ | refine nP ?_ | refine draw_intro 37 [.fl 0, .fl 1, .fl 2, .fl 3, .fl 4, .fl 5, .fl 6, .fl 7, .fl 8, .fl 9, .st 10 [], .fl 11, .fl 12] (by rfl) (by kernel_rfl) ?_ | (refine callP_intro (ev_CloneStored l _ _ h2 om) ?_; rintro _ S3 ⟨e3, c3, rfl, f3⟩) | refine And.intro ?_ ?_)
      all_goals first
        | assumption
        | exact e2.trans e3
        | exact e2.trans hEn
        | (rename_i hs; rw [show putSt l ext name value = (putRaw l ext name value, true) from if_pos (by rw [hm]; exact hs), hm]; exact ⟨_, rfl, f2⟩)
        | (rename_i hs; rw [show putSt l ext name value = (l, false) from if_neg (by rw [hm, hs]; decide)]; first | exact ⟨_, rfl, f3.mono e2.len⟩ | exact ⟨_, rfl, hFn.mono e2.len⟩)
        | (exfalso; omega)
def storeFor (b : GBrowser) (ext tab name value : Int) : GBrowser × Bool := if mayAct b ext tab 4 then ({ b with Store := (putSt b.Store ext name value).1 }, (putSt b.Store ext name value).2) else (b, false)
set_option maxHeartbeats 2000000 in
theorem ev_iStoreFor (b : GBrowser) (ext tab name value : Int) (cs : List C) (S : Store) (h : Rd S b.d cs) (hz : szL b.d ≤ 1048576) : EvA Tryz.prog 41 [.agg cs, .s (.int .i64 ext), .s (.int .i64 tab), .s (.int .i64 name), .s (.int .i64 value)] S (fun r S' => Ext S S' ∧ ∃ c1 c2 c3 c4 c5 c6, r = .tup [.agg [.int .i64 (storeFor b ext tab name value).1.Key, c1, c2, c3, c4, c5, c6, .int .i64 (storeFor b ext tab name value).1.Now], .s (.bool (storeFor b ext tab name value).2)] ∧ Fr S.length S' (storeFor b ext tab name value).1.d [.int .i64 (storeFor b ext tab name value).1.Key, c1, c2, c3, c4, c5, c6, .int .i64 (storeFor b ext tab name value).1.Now]) := by
  have hzs := hz
  simp only [GBrowser.d, szL, List.length_map] at hzs
  have hh := h
  obtain ⟨_, _, _, _, _, _, rfl, r1, r2, r3, r4, r5, r6⟩ := GBrowser.inv h
  cases hm : mayAct b ext tab 4 with
  | false =>
    rw [show storeFor b ext tab name value = (b, false) from by unfold storeFor; rw [hm]; rfl]
    refine evA_intro tok Tryz.func41 (by kernel_rfl) rfl ?_
    repeat' ((conv => whnf) <;> first
     | (refine callP_intro (ev_cloneBrowser b _ _ aN om) ?_; rintro _ Sc ⟨e0, g1, g2, g3, g4, g5, g6, rfl, f0⟩; have hhc := hh.ext e0) | (show CondP _ _ _; refine cS ?_) | refine cD (fun _ => ?_) fun _ => ?_ | refine cE (fun _ => ?_) fun _ => ?_ | refine cT ?_ | refine cF ?_ | refine cN (fun _ => ?_) fun _ => ?_ | refine cI (fun _ => ?_) fun _ => ?_ | (refine callP_eq (ev_iMayAct _ _ _ _ _ _ rdcA) ?_) | (refine callP_intro (ev_cloneBrowser _ _ _ rdcA (by (first | omega | exact sz_at hz om | (simp only [szL]; omega)))) ?_; rintro _ Sn ⟨hEn, _, _, _, _, _, _, rfl, hFn⟩) | (refine callP_intro (ev_iPutStored _ _ _ _ _ _ rdA om) ?_; rintro _ Sn ⟨hEn, cn, rfl, hFn⟩) | refine nP ?_ | refine And.intro ?_ ?_)
    all_goals first
      | exact e0
      | exact ⟨_, _, _, _, _, _, rfl, f0⟩
      | (exfalso; omega)
  | true =>
    rw [show storeFor b ext tab name value = ({ b with Store := (putSt b.Store ext name value).1 }, (putSt b.Store ext name value).2) from by unfold storeFor; rw [hm]; rfl]
    refine evA_intro tok Tryz.func41 (by kernel_rfl) rfl ?_
    repeat' ((conv => whnf) <;> first
     | (refine callP_intro (ev_iPutStored b.Store ext name value _ _ r6c om) ?_; rintro _ S2 ⟨e2, cN, rfl, f2⟩; have fJ := f0.join e2 f2 e0.len) | (refine callP_intro (ev_cloneBrowser b _ _ aN om) ?_; rintro _ Sc ⟨e0, g1, g2, g3, g4, g5, g6, rfl, f0⟩; have hhc := hh.ext e0; have r6c := r6.ext e0) | (show CondP _ _ _; refine cS ?_) | refine cD (fun _ => ?_) fun _ => ?_ | refine cE (fun _ => ?_) fun _ => ?_ | refine cT ?_ | refine cF ?_ | refine cN (fun _ => ?_) fun _ => ?_ | refine cI (fun _ => ?_) fun _ => ?_ | (refine callP_eq (ev_iMayAct _ _ _ _ _ _ rdcA) ?_) | (refine callP_intro (ev_cloneBrowser _ _ _ rdcA (by (first | omega | exact sz_at hz om | (simp only [szL]; omega)))) ?_; rintro _ Sn ⟨hEn, _, _, _, _, _, _, rfl, hFn⟩) | (refine callP_intro (ev_iPutStored _ _ _ _ _ _ rdA om) ?_; rintro _ Sn ⟨hEn, cn, rfl, hFn⟩) | refine nP ?_ | refine And.intro ?_ ?_)
    all_goals first
      | exact e0.trans e2
      | exact ⟨_, _, _, _, _, _, rfl, fJ.putLast (o := 6) rfl (by show 6 < 8; decide)⟩
      | (exfalso; omega)
theorem ev_contains (l : List Int) (v : Int) (c : C) (S : Store) (h : Rd S [.sl 1 (l.map dInt)] [c]) : EvA Tryz.prog 19 [.s c, .s (.int .i64 v)] S (fun r S' => r = .v (.s (.bool (decide (v ∈ l)))) ∧ S' = S) := by
  refine evA_intro tok Tryz.func19 (by kernel_rfl) rfl ?_
  repeat' ((conv => whnf) <;> first
   | rw [wrapI_i64 (by omega)] | refine cD (fun _ => ?_) fun _ => ?_ | refine cE (fun _ => ?_) fun _ => ?_ | refine cT ?_ | refine cF ?_ | refine cN (fun _ => ?_) fun _ => ?_ | refine cI (fun _ => ?_) fun _ => ?_ | refine rE fun hml => ?_ | refine rI aN rf ix ?_ | refine rd_loadf aN tv ix ?_ | refine nP ?_ | refine And.intro ?_ ?_)
  refine loop_intro {i : Nat // i ≤ l.length ∧ decide (v ∈ l.drop i) = decide (v ∈ l)} [4, 5, 6, 7, 8, 9, 10, 11, 12, 13, 14, 15, 16, 17] (fun zb => [(5, .v (.s (.int .i64 zb.1)))]) (fun _ => S) (fun zb => l.length - zb.1) ⟨0, Nat.zero_le _, rfl⟩ ?_ rfl ?_
  · (conv => whnf); repeat' (first | exact trivial | exact rfl | apply And.intro)
  rintro ⟨i, hi, hinv⟩; dsimp only
  by_cases hlt : i < l.length
  · have hlt' : ((i : Nat) : Int).toNat < l.length := by simpa using hlt
    rw [drop_at hlt] at hinv
    by_cases he : l[((i : Nat) : Int).toNat]'hlt' = v
    · have he' : decide (v ∈ l) = true := by simp only [Int.toNat_natCast] at he; rw [← hinv]; simp [he]
      rw [he']
      repeat' ((conv => whnf) <;> first
       | rw [wrapI_i64 (by omega)] | (show CondP _ _ _; refine cS ?_) | refine cD (fun _ => ?_) fun _ => ?_ | refine cE (fun _ => ?_) fun _ => ?_ | refine cT ?_ | refine cF ?_ | refine cN (fun _ => ?_) fun _ => ?_ | refine cI (fun _ => ?_) fun _ => ?_ | refine rE fun hml => ?_ | refine rI aN rf ix ?_ | refine rd_loadf aN tv ix ?_ | refine nP ?_ | refine And.intro ?_ ?_)
      all_goals first
        | rfl
        | (exfalso; omega)
    · have he' : decide (v ∈ l.drop (i + 1)) = decide (v ∈ l) := by simp only [Int.toNat_natCast] at he; rw [← hinv]; simp only [List.mem_cons, Ne.symm he, false_or]
      repeat' ((conv => whnf) <;> first
       | rw [wrapI_i64 (by omega)] | (show CondP _ _ _; refine cS ?_) | refine cD (fun _ => ?_) fun _ => ?_ | refine cE (fun _ => ?_) fun _ => ?_ | refine cT ?_ | refine cF ?_ | refine cN (fun _ => ?_) fun _ => ?_ | refine cI (fun _ => ?_) fun _ => ?_ | refine rE fun hml => ?_ | refine rI aN rf ix ?_ | refine rd_loadf aN tv ix ?_ | refine nP ?_ | refine And.intro ?_ ?_)
      all_goals first
        | (exfalso; omega)
        | (refine ⟨⟨i + 1, by omega, he'⟩, ?_, rfl, by simp; omega⟩; (conv => whnf); repeat' (first | exact trivial | exact rfl | apply And.intro))
  · have he' : decide (v ∈ l) = false := by rw [← hinv, List.drop_of_length_le (by omega)]; simp
    rw [he']
    repeat' ((conv => whnf) <;> first
     | rw [wrapI_i64 (by omega)] | (show CondP _ _ _; refine cS ?_) | refine cD (fun _ => ?_) fun _ => ?_ | refine cE (fun _ => ?_) fun _ => ?_ | refine cT ?_ | refine cF ?_ | refine cN (fun _ => ?_) fun _ => ?_ | refine cI (fun _ => ?_) fun _ => ?_ | refine rE fun hml => ?_ | refine rI aN rf ix ?_ | refine rd_loadf aN tv ix ?_ | refine nP ?_ | refine And.intro ?_ ?_)
    all_goals first
      | rfl
      | (exfalso; omega)
end Go.Proofs.YtockphlpokoohaaGreat
