/- Copies; a tab without a hand's edits. Tabs that are opened; copies of browsers. The reference's insertion into a list of numbers in order. -/
import Derived.Test.YtockphlpokoohaaGreatKq28
import Derived.Test.YtockphlpokoohaaGreatKq22
import Derived.Test.YtockphlpokoohaaGreatKq27
import Derived.Test.YtockphlpokoohaaGreatKq23
import Derived.Test.YtockphlpokoohaaGreatKq24
namespace Go.Proofs.YtockphlpokoohaaGreat
open Go Go.ChangeShapes Go.WideShapes Go.ChangeAt Go.RowKit
set_option linter.unusedVariables false
set_option linter.unusedSimpArgs false
set_option maxRecDepth 100000
theorem Rep2.flat {q : Bool} {S : Store} {α : Type} {f : α → List D} (hf : ∀ x, Flat (f x)) : ∀ {l : List α} {rows : List (List C)} {ids : List Nat}, Rep2 q S (l.map f) rows ids → rows = l.map fun x => flatC (f x)
  | [], rows, ids, h => by rw [List.map_nil, rep2_nil] at h; exact h.1
  | x :: l, rows, ids, h => by
    rw [List.map_cons, rep2_cons] at h
    obtain ⟨cs, rows', i, j, h1, h2, h3, h4⟩ := h
    rw [h1, (h3.flat (hf x)).1, Rep2.flat hf h4]; rfl
theorem rd_elemsf {S : Store} {α : Type} {f : α → List D} {k : Nat} {l : List α} {c : C} {K : List (List C) → Prop} (h : Rd S [.sl k (l.map f)] [c]) (hf : ∀ x, Flat (f x)) (hK : l.length ≤ 9223372036854775807 → K (l.map fun x => flatC (f x))) : ElemsP S c K := by
  obtain ⟨ids, h⟩ := h.one
  obtain ⟨rows, js, h1, h2, h3, h4⟩ := h.elems
  unfold ElemsP
  refine ⟨rows, h1, ?_⟩
  rw [h2.flat hf]
  exact hK (by rw [List.length_map, maxLen_eq] at h4; exact h4)
theorem fr_clone {S : Store} {α : Type} {f : α → List D} {k by' : Nat} {l : List α} {K : C → Store → Prop} (hf : ∀ x, Flat (f x)) (hk : ∀ x, (f x).length = k) (hb : l.length * by' ≤ 140737488355328) (hm : l.length ≤ 9223372036854775807)
    (hK : ∀ c' S', Ext S S' → Fr S.length S' [.sl k (l.map f)] [c'] → K c' S') : AppP k by' (S ++ [⟨true, k, []⟩]) (.sl S.length 0 0 0) (l.map fun x => flatC (f x)) K :=
  fr_app_flat (S0 := S) (l := []) (m := l) hf (Ext.push _ _) fr_lit0 rfl hk (by simpa using hb) (by rw [maxLen_eq]; simpa using hm) fun c' S' h1 h2 _ => hK c' S' h1 h2
theorem In.set {S : Store} {lo hi a b : Nat} {e : List D} {cs : List C} {off : Nat} {d d' : D} {c' : C} (h : In lo hi S e cs) (ho : e[off]? = some d) (h2 : In a b S [d'] [c']) (h1 : lo ≤ hi) (hab : hi ≤ a) (hb : hi ≤ b) : In lo b S (e.set off d') (cs.set off c') := by
  obtain ⟨ids, h, hn, hl⟩ := h
  obtain ⟨j, g, gn, gl⟩ := h2.one
  obtain ⟨c0, x, m, y, k1, k2, k3, k4⟩ := h.setAt off _ ho
  subst k2
  refine ⟨x ++ j ++ y, k4 (fun _ _ => rfl) g, ?_, fun id hi' => ?_⟩
  · simp only [List.nodup_append, List.mem_append] at hn ⊢
    obtain ⟨⟨b1, b2, b3⟩, b4, b5⟩ := hn
    have far : ∀ i, (i ∈ x ∨ i ∈ y) → ∀ i', i' ∈ j → i ≠ i' := fun i hi i' hj e => by
      have h1 := hl i (by rcases hi with hi | hi <;> simp [hi])
      have h2 := gl i' hj
      omega
    refine ⟨⟨b1, gn, fun i hi i' hj => far i (.inl hi) i' hj⟩, b4, fun i hi i' hj => ?_⟩
    rcases hi with hi | hi
    · exact b5 i (.inl hi) i' hj
    · exact fun e => far i' (.inr hj) i hi e.symm
  · rcases List.mem_append.1 hi' with hi' | hi'
    · rcases List.mem_append.1 hi' with hi' | hi'
      · have := hl id (by simp [hi']); omega
      · have := gl id hi'; omega
    · have := hl id (by simp [hi']); omega
theorem In.fr {S : Store} {lo hi : Nat} {ds : List D} {cs : List C} (h : In lo hi S ds cs) : Fr lo S ds cs := by
  obtain ⟨ids, h, h1, h2⟩ := h
  exact ⟨ids, h, h1, fun id hi => (h2 id hi).1⟩
theorem ev_l5Copy (l : List GNode) (c : C) (S : Store) (h : Rd S [.sl 5 (l.map GNode.d)] [c]) (hz : l.length ≤ 4194304) : EvA Tryz.prog 275 [.s c] S (fun r S' => Ext S S' ∧ ∃ c', r = .v (.s c') ∧ Fr S.length S' [.sl 5 (l.map GNode.d)] [c']) := by
  · refine evA_intro tok Tryz.func275 (by kernel_rfl) rfl ?_
    repeat' ((conv => whnf) <;> first
     | (refine rd_elemsf (f := GNode.d) rdA tv (fun _ => ?_)) | (refine fr_clone (f := GNode.d) tv rf (by dsimp only [T88]; omega) om ?_; intro cX SX hEX hFX) | refine And.intro ?_ ?_)
    all_goals first
      | rfl
      | exact Ext.refl _
      | assumption
      | exact ⟨_, rfl, by assumption⟩
      | (rw [hx]; exact ⟨_, rfl, fr_empty (.inl rfl)⟩)
theorem ev_l31Copy (x : GTab) (cs : List C) (S : Store) (h : Rd S x.d cs) (hz : szL x.d ≤ 4194304) : EvA Tryz.prog 204 [.agg cs] S (fun r S' => Ext S S' ∧ ∃ c2 c3 c4, r = .v (.agg [(.int .i64 x.Site.Owner), (.int .i64 x.Site.Sub), c2, c3, c4, (.int .i64 x.Click)]) ∧ Fr S.length S' x.d [(.int .i64 x.Site.Owner), (.int .i64 x.Site.Sub), c2, c3, c4, (.int .i64 x.Click)]) := by
  simp only [GTab.d, szL, List.length_map] at hz
  obtain ⟨_, _, _, rfl, _, _, _⟩ := GTab.inv h
  refine evA_intro tok Tryz.func204 (by kernel_rfl) rfl ?_
  repeat' ((conv => whnf) <;> first
   | refine draw_intro 3 [.fl 0, .fl 1, .fl 2, .fl 3, .fl 5, .fl 6, .fl 7, .fl 9, .fl 10, .fl 11, .fl 13, .fl 14, .st 4 [0, 1, 5, 6, 7, 9, 10, 11, 13, 14], .st 8 [0, 1, 9, 10, 11, 13, 14], .st 12 [0, 1, 13, 14], .fl 15, .st 16 []] (by rfl) (by kernel_rfl) ?_)
  (conv => whnf)
  refine callP_intro (ev_l5Copy _ _ _ rdA (by omega)) ?_; rintro _ S0 ⟨e0, d0, rfl, f0⟩
  have E0 : Ext S S0 := e0
  repeat' ((conv => whnf) <;> first
   | (refine rd_elemsf (f := GEdit.d) (l := x.Edits) rdA tv (fun _ => ?_)) | refine And.intro ?_ ?_)
  (conv => whnf)
  refine fr_clone (f := GEdit.d) (by intro _; exact trivial) (by intro _; rfl) (by dsimp only [T3, T76]; omega) (by omega) ?_; intro d1 S1 e1 f1
  have E1 : Ext S S1 := E0.trans e1
  repeat' ((conv => whnf) <;> first
   | (refine rd_elemsf (f := dInt) (l := x.Hidden) rdA tv (fun _ => ?_)) | refine And.intro ?_ ?_)
  (conv => whnf)
  refine fr_clone (f := dInt) (by intro _; exact trivial) (by intro _; rfl) (by dsimp only [T3, T76]; omega) (by omega) ?_; intro d2 S2 e2 f2
  have E2 : Ext S S2 := E1.trans e2
  repeat' ((conv => whnf) <;> first
   | refine And.intro ?_ ?_)
  · exact E2
  · exact ⟨_, _, _, rfl, fr_x (fr_x (fr_sl (fr_seg f0 (Ext.trans e1 (e2))) (fr_sl (fr_seg f1 (e2)) (fr_sl (fr_seg f2 (Ext.refl _)) (fr_x (fr_nil)) (e2).len) (e1).len) (e0).len))⟩
end Go.Proofs.YtockphlpokoohaaGreat
namespace Go.Proofs.YtockphlpokoohaaGreat
open Go Go.ChangeShapes Go.WideShapes Go.ChangeAt Go.RowKit
set_option linter.unusedVariables false
set_option linter.unusedSimpArgs false
set_option maxRecDepth 100000
def newTab (s : GSite) (base : List GNode) (hidden : List Int) : GTab := ⟨s, base, [], hidden, -1⟩
def openTab (s : GSite) (base : List GNode) (hidden : List Int) : GTab × Bool := if isTab (newTab s base hidden) then (newTab s base hidden, true) else (default, false)
theorem fr_slnil {S : Store} {lo k : Nat} {ds : List D} {cs : List C} (h : Fr lo S ds cs) : Fr lo S (.sl k [] :: ds) (.nil :: cs) :=
  fr_sl (mid := lo) ⟨[], by unfold Rep; exact ⟨Nat.zero_le _, .inl ⟨rfl, .inl rfl, rfl⟩⟩, List.nodup_nil, fun _ h => by cases h⟩ h (Nat.le_refl _)
theorem rd_empty0 {S : Store} {k : Nat} : Rd S [.sl k []] [.nil] := rd_one (q := false) (ids := []) (by unfold Rep; exact ⟨Nat.zero_le _, .inl ⟨rfl, .inl rfl, rfl⟩⟩)
theorem fr_tab0 {S : Store} {lo : Nat} : Fr lo S (default : GTab).d [.int .i64 0, .int .i64 0, .nil, .nil, .nil, .int .i64 0] := fr_x (fr_x (fr_slnil (fr_slnil (fr_slnil (fr_x fr_nil)))))
theorem szTab_new (s : GSite) (base : List GNode) (hidden : List Int) : szL (newTab s base hidden).d = base.length + hidden.length := by
  simp only [newTab, GTab.d, szL, List.length_map]
  rw [szLL_flat (f := GNode.d) (by intro x; simp only [szL, GNode.d]), szLL_flat (f := dInt) (by intro x; simp only [szL, dInt]), List.map_nil, szL.szLL]
  simp
theorem ev_sOpenTab (s : GSite) (base : List GNode) (hidden : List Int) (c c' : C) (S : Store) (h : Rd S [.sl 5 (base.map GNode.d)] [c]) (h' : Rd S [.sl 1 (hidden.map dInt)] [c']) (hz : base.length + hidden.length ≤ 4194304) : EvA Tryz.prog 265 [.agg s.c, .s c, .s c'] S (fun r S' => Ext S S' ∧ ∃ c2 c3 c4, r = .tup [.agg [.int .i64 (openTab s base hidden).1.Site.Owner, .int .i64 (openTab s base hidden).1.Site.Sub, c2, c3, c4, .int .i64 (openTab s base hidden).1.Click], .s (.bool (openTab s base hidden).2)] ∧ Fr S.length S' (openTab s base hidden).1.d [.int .i64 (openTab s base hidden).1.Site.Owner, .int .i64 (openTab s base hidden).1.Site.Sub, c2, c3, c4, .int .i64 (openTab s base hidden).1.Click]) := by
  have hsz := szTab_new s base hidden
  by_cases hT : isTab (newTab s base hidden) = true
  · have ho : openTab s base hidden = (newTab s base hidden, true) := if_pos hT
    rw [ho]
    refine evA_intro tok Tryz.func265 (by kernel_rfl) rfl ?_
    repeat' ((conv => whnf) <;> first
     | refine cD (fun _ => ?_) fun _ => ?_ | refine cE (fun _ => ?_) fun _ => ?_ | refine cT ?_ | refine cF ?_ | refine cN (fun _ => ?_) fun _ => ?_ | refine cI (fun _ => ?_) fun _ => ?_ | refine callP_eq (ev_sIsTab _ _ _ rdcA) ?_ | refine nP ?_ | refine And.intro ?_ ?_)
    have hnil : Rd S [.sl 6 (([] : List GEdit).map GEdit.d)] [.nil] := rd_empty0
    have hT1 : Rd S (newTab s base hidden).d _ := GTab.rd h hnil h'
    (conv => whnf)
    refine callP_intro (ev_l31Copy (newTab s base hidden) _ _ hT1 (by omega)) ?_; rintro _ S0 ⟨e0, d0, d1, d2, rfl, f0⟩
    repeat' ((conv => whnf) <;> first
     | refine cD (fun _ => ?_) fun _ => ?_ | refine cE (fun _ => ?_) fun _ => ?_ | refine cT ?_ | refine cF ?_ | refine cN (fun _ => ?_) fun _ => ?_ | refine cI (fun _ => ?_) fun _ => ?_ | refine callP_eq (ev_sIsTab _ _ _ rdcA) ?_ | refine nP ?_ | (refine callP_eq (ev_sIsTab (newTab s base hidden) _ _ f0.rd) ?_) | refine And.intro ?_ ?_)
    all_goals first
      | rfl
      | exact e0
      | (exfalso; simp_all; done)
      | exact ⟨_, _, _, rfl, f0⟩
  · have ho : openTab s base hidden = (default, false) := if_neg hT
    rw [ho]
    refine evA_intro tok Tryz.func265 (by kernel_rfl) rfl ?_
    repeat' ((conv => whnf) <;> first
     | refine cD (fun _ => ?_) fun _ => ?_ | refine cE (fun _ => ?_) fun _ => ?_ | refine cT ?_ | refine cF ?_ | refine cN (fun _ => ?_) fun _ => ?_ | refine cI (fun _ => ?_) fun _ => ?_ | refine callP_eq (ev_sIsTab _ _ _ rdcA) ?_ | refine nP ?_ | refine And.intro ?_ ?_)
    have hnil : Rd S [.sl 6 (([] : List GEdit).map GEdit.d)] [.nil] := rd_empty0
    have hT1 : Rd S (newTab s base hidden).d _ := GTab.rd h hnil h'
    (conv => whnf)
    refine callP_intro (ev_l31Copy (newTab s base hidden) _ _ hT1 (by omega)) ?_; rintro _ S0 ⟨e0, d0, d1, d2, rfl, f0⟩
    repeat' ((conv => whnf) <;> first
     | refine cD (fun _ => ?_) fun _ => ?_ | refine cE (fun _ => ?_) fun _ => ?_ | refine cT ?_ | refine cF ?_ | refine cN (fun _ => ?_) fun _ => ?_ | refine cI (fun _ => ?_) fun _ => ?_ | refine callP_eq (ev_sIsTab _ _ _ rdcA) ?_ | refine nP ?_ | (refine callP_eq (ev_sIsTab (newTab s base hidden) _ _ f0.rd) ?_) | refine And.intro ?_ ?_)
    all_goals first
      | rfl
      | exact e0
      | (exfalso; simp_all; done)
      | exact ⟨_, _, _, rfl, fr_tab0⟩
theorem fr_litF {S : Store} {α : Type} {f : α → List D} {k : Nat} (l : List α) (hf : ∀ x, Flat (f x)) (h : l.length ≤ 9223372036854775807) : Fr S.length (S ++ [⟨true, k, l.map fun x => flatC (f x)⟩]) [.sl k (l.map f)] [.sl S.length 0 l.length l.length] :=
  fr_push (xs := l.map f) (js := []) (rep2_flat hf l) List.nodup_nil (fun _ h => by cases h) (Nat.le_refl _) (by rw [maxLen_eq]; simpa using h) (by simp)
end Go.Proofs.YtockphlpokoohaaGreat
namespace Go.Proofs.YtockphlpokoohaaGreat
open Go Go.ChangeShapes Go.WideShapes Go.ChangeAt Go.RowKit
set_option linter.unusedVariables false
set_option linter.unusedSimpArgs false
set_option maxRecDepth 100000
def posI (n : Int) : List Int → Nat
  | [] => 0
  | x :: r => if x < n then 1 + posI n r else 0
theorem posI_le (n : Int) : ∀ l : List Int, posI n l ≤ l.length
  | [] => Nat.le_refl _
  | x :: r => by
    rw [posI]
    split
    · have := posI_le n r; rw [List.length_cons]; omega
    · exact Nat.zero_le _
def putI (l : List Int) (n : Int) : List Int := if l[posI n l]? = some n then l else l.take (posI n l) ++ n :: l.drop (posI n l)
theorem putI_len (l : List Int) (n : Int) : (putI l n).length ≤ l.length + 1 := by
  unfold putI
  have := posI_le n l
  split
  · omega
  · simp only [List.length_append, List.length_cons, List.length_take, List.length_drop]; omega
theorem putI_cons (x n : Int) (r : List Int) : putI (x :: r) n = if x < n then x :: putI r n else if x = n then x :: r else n :: x :: r := by
  unfold putI
  rw [posI]
  split
  · rw [Nat.add_comm 1, List.getElem?_cons_succ, List.take_succ_cons, List.drop_succ_cons]
    split <;> rfl
  · rw [List.getElem?_cons_zero]
    by_cases h : x = n
    · rw [if_pos (by rw [h]), if_pos h]
    · rw [if_neg (by simpa using h), if_neg h]; rfl
theorem mem_putI (y n : Int) : ∀ l : List Int, y ∈ putI l n ↔ y = n ∨ y ∈ l
  | [] => by simp [putI, posI]
  | x :: r => by
    rw [putI_cons]
    split
    · rw [List.mem_cons, mem_putI y n r, List.mem_cons]
      constructor <;> (intro h; rcases h with h | h | h <;> simp [h])
    · split
      · rename_i h; subst h; simp
      · simp [List.mem_cons]
theorem putI_asc (n : Int) : ∀ {l : List Int}, l.Pairwise (· < ·) → (putI l n).Pairwise (· < ·)
  | [], _ => by simp [putI, posI]
  | x :: r, h => by
    rw [List.pairwise_cons] at h
    rw [putI_cons]
    split
    · rename_i hx
      rw [List.pairwise_cons]
      refine ⟨fun y hy => ?_, putI_asc n h.2⟩
      rcases (mem_putI y n r).1 hy with rfl | hy
      · exact hx
      · exact h.1 y hy
    · split
      · exact List.pairwise_cons.2 h
      · rename_i h1 h2
        rw [List.pairwise_cons]
        refine ⟨fun y hy => ?_, List.pairwise_cons.2 h⟩
        rcases List.mem_cons.1 hy with rfl | hy
        · omega
        · have := h.1 y hy; omega
set_option maxHeartbeats 2000000 in
theorem ev_l6Put (l : List Int) (n : Int) (c : C) (S : Store) (h : Rd S [.sl 1 (l.map dInt)] [c]) (hz : l.length ≤ 4194304) : EvA Tryz.prog 323 [.s c, .s (.int .i64 n)] S (fun r S' => Ext S S' ∧ ∃ c', r = .v (.s c') ∧ Fr S.length S' [.sl 1 ((putI l n).map dInt)] [c']) := by
  have hp := posI_le n l
  refine evA_intro tok Tryz.func323 (by kernel_rfl) rfl ?_
  skip
  refine loop_intro {i : Nat // i ≤ l.length ∧ i + posI n (l.drop i) = posI n l} [5, 6, 7, 8, 9, 10, 11, 12, 13, 14, 15, 16, 17, 18, 19] (fun zb => [(5, .v (.s (.int .i64 zb.1)))]) (fun _ => S) (fun zb => l.length - zb.1) ⟨0, Nat.zero_le _, by simp⟩ ?_ rfl ?_
  · (conv => whnf); repeat' (first | exact trivial | exact rfl | apply And.intro)
  rintro ⟨i, hi, hinv⟩; dsimp only
  by_cases hlt : i < l.length
  · have hlt' : ((i : Nat) : Int).toNat < l.length := hlt
    rw [drop_at hlt, posI] at hinv
    by_cases hc : l[((i : Nat) : Int).toNat]'hlt' < n
    · rw [if_pos (by simpa using hc)] at hinv
      repeat' ((conv => whnf) <;> first
       | rw [wrapI_i64 (by omega)] | (show CondP _ _ _; refine cS ?_) | refine rE fun hml => ?_ | refine rI rdA rf ix ?_ | refine rd_loadf rdA tv ix ?_)
      all_goals first
        | (refine ⟨⟨i + 1, by omega, by omega⟩, ?_, rfl, by simp; omega⟩; (conv => whnf); repeat' (first | exact trivial | exact rfl | apply And.intro))
        | (exfalso; omega)
    · rw [if_neg (by simpa using hc), Nat.add_zero] at hinv
      by_cases he : l[((i : Nat) : Int).toNat]'hlt' = n
      · rw [show putI l n = l from by
          unfold putI
          rw [← hinv, if_pos]
          rw [List.getElem?_eq_getElem hlt]; exact congrArg some he]
        repeat' ((conv => whnf) <;> first
         | (show CondP _ _ _; refine cS ?_) | refine rE fun hml => ?_ | refine rI rdA rf ix ?_ | refine rd_loadf rdA tv ix ?_ | (refine rd_elemsf (f := dInt) rdA tv (fun _ => ?_)) | (refine fr_clone (f := dInt) tv rf (by dsimp only [T3]; omega) om ?_; intro cX SX hEX hFX) | refine And.intro ?_ ?_)
        all_goals first
          | assumption
          | exact ⟨_, rfl, by assumption⟩
          | (exfalso; omega)
      · rw [show putI l n = l.take i ++ n :: l.drop i from by
          unfold putI
          rw [← hinv, if_neg]
          rw [List.getElem?_eq_getElem hlt]; intro hh; exact he (Option.some.inj hh)]
        obtain ⟨cH, hcH, hH⟩ := rd_slhx (n := 1) (lo := (i : Int)) h (by intro _; rfl) (by omega)
        rw [Int.toNat_natCast] at hH
        repeat' ((conv => whnf) <;> first
         | (refine rd_slhe hcH rdA rf om ?_) | (show CondP _ _ _; refine cS ?_) | refine rE fun hml => ?_ | refine rI rdA rf ix ?_ | refine rd_loadf rdA tv ix ?_ | (refine rd_slif rdA rf om ?_; intro cSl hSl) | refine draw_intro 35 [.fl 0, .fl 1, .fl 2, .fl 3, .fl 5, .fl 6, .fl 8, .fl 9, .fl 10, .st 4 [5, 6, 8, 9, 10], .st 7 [8, 9, 10], .st 11 [], .st 12 []] (by rfl) (by kernel_rfl) ?_ | (refine rd_elemsf (f := dInt) rdA tv (fun _ => ?_)) | (refine fr_clone (f := dInt) (l := l.take i) tv rf (by dsimp only [T3]; rw [List.length_take]; omega) (by rw [List.length_take]; omega) ?_; intro cX SX hEX hFX) | (refine fr_app_flat (f := dInt) (m := [n]) tv (by assumption) (by assumption) (by rfl) rf (by dsimp only [T3]; simp only [List.length_take, List.length_drop, List.length_cons, List.length_nil]; omega) (by rw [maxLen_eq]; simp only [List.length_take, List.length_drop, List.length_cons, List.length_nil]; omega) ?_; intro cA SA hEA hFA hlA) | (refine fr_app_flat (f := dInt) (m := l.drop i) tv (by assumption) (by assumption) (by rfl) rf (by dsimp only [T3]; simp only [List.length_append, List.length_take, List.length_drop, List.length_cons, List.length_nil]; omega) (by rw [maxLen_eq]; simp only [List.length_append, List.length_take, List.length_drop, List.length_cons, List.length_nil]; omega) ?_; intro cB SB hEB hFB hlB) | refine And.intro ?_ ?_)
        all_goals first
          | assumption
          | (rw [List.append_assoc] at hFB; exact ⟨_, rfl, hFB⟩)
          | (exfalso; omega)
  · have he : i = l.length := by omega
    subst he
    rw [drop_end (Nat.le_refl _), posI, Nat.add_zero] at hinv
    rw [show putI l n = l.take l.length ++ n :: l.drop l.length from by
      unfold putI
      rw [← hinv, if_neg]
      rw [List.getElem?_eq_none (Nat.le_refl _)]; intro hh; cases hh]
    obtain ⟨cH, hcH, hH⟩ := rd_slhx (n := 1) (lo := (l.length : Int)) h (by intro _; rfl) (by omega)
    rw [Int.toNat_natCast] at hH
    repeat' ((conv => whnf) <;> first
     | (refine rd_slhe hcH rdA rf om ?_) | (show CondP _ _ _; refine cS ?_) | refine cF ?_ | refine rE fun hml => ?_ | (refine rd_slif rdA rf om ?_; intro cSl hSl) | refine draw_intro 35 [.fl 0, .fl 1, .fl 2, .fl 3, .fl 5, .fl 6, .fl 8, .fl 9, .fl 10, .st 4 [5, 6, 8, 9, 10], .st 7 [8, 9, 10], .st 11 [], .st 12 []] (by rfl) (by kernel_rfl) ?_ | (refine rd_elemsf (f := dInt) rdA tv (fun _ => ?_)) | (refine fr_clone (f := dInt) (l := l.take l.length) tv rf (by dsimp only [T3]; rw [List.length_take]; omega) (by rw [List.length_take]; omega) ?_; intro cX SX hEX hFX) | (refine fr_app_flat (f := dInt) (m := [n]) tv (by assumption) (by assumption) (by rfl) rf (by dsimp only [T3]; simp only [List.length_take, List.length_drop, List.length_cons, List.length_nil]; omega) (by rw [maxLen_eq]; simp only [List.length_take, List.length_drop, List.length_cons, List.length_nil]; omega) ?_; intro cA SA hEA hFA hlA) | (refine fr_app_flat (f := dInt) (m := l.drop l.length) tv (by assumption) (by assumption) (by rfl) rf (by dsimp only [T3]; simp only [List.length_append, List.length_take, List.length_drop, List.length_cons, List.length_nil]; omega) (by rw [maxLen_eq]; simp only [List.length_append, List.length_take, List.length_drop, List.length_cons, List.length_nil]; omega) ?_; intro cB SB hEB hFB hlB) | refine And.intro ?_ ?_)
    all_goals first
      | assumption
      | (rw [List.append_assoc] at hFB; exact ⟨_, rfl, hFB⟩)
      | (exfalso; omega)
end Go.Proofs.YtockphlpokoohaaGreat
