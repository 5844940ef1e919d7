/- The program's structs as Lean structures; small lemmas of the walk. Small predicates. -/
import Derived.Test.YtlmmdpmmdmhacaaGreatKt14
import Derived.Test.YtlmmdpmmdmhacaaGreatKt15
namespace Go.Proofs.YtlmmdpmmdmhacaaGreat
open Go Go.ChangeShapes Go.WideShapes Go.ChangeAt Go.RowKit
set_option linter.unusedVariables false
set_option linter.unusedSimpArgs false
theorem zad {n : Int} (h : -9223372036854775808 ≤ n ∧ n ≤ 9223372036854775807) : wrapI .i64 n = n := by
 unfold wrapI; exact IntWalk.i64_in n (by omega)
theorem z19 {p : Prop} {inst : Decidable p} {A B : Prop} (h1 : p → A) (h2 : ¬p → B) : CondP (@decide p inst) A B := zfy (fun h => h1 (of_decide_eq_true h)) (fun h => h2 (of_decide_eq_false h))
theorem zxv {p : Prop} {inst : Decidable p} {A B : Prop} (h1 : ¬p → A) (h2 : p → B) : CondP (!(@decide p inst)) A B := zfy (fun h => h1 (by simpa using h)) (fun h => h2 (by simpa using h))
theorem zsa {b : Bool} {A B : Prop} (h1 : b = false → A) (h2 : b = true → B) : CondP (!b) A B := zfy (fun h => h1 (by simpa using h)) (fun h => h2 (by simpa using h))
def inR (x lo hi : Int) : Bool := decide (lo ≤ x) && decide (x ≤ hi)
theorem zky {x lo hi : Int} (h : inR x lo hi = true) : lo ≤ x ∧ x ≤ hi := by simpa [inR] using h
theorem z6z {x lo hi : Int} (h : inR x lo hi = false) : ¬ (lo ≤ x ∧ x ≤ hi) := fun g => by simp [inR, g] at h
theorem zbu {x lo hi : Int} {A B : Prop} (h1 : inR x lo hi = true → lo ≤ x ∧ x ≤ hi → A) (h2 : inR x lo hi = false → ¬ (lo ≤ x ∧ x ≤ hi) → B) : CondP (inR x lo hi) A B := zfy (fun h => h1 h (zky h)) (fun h => h2 h (z6z h))
theorem zar {x lo hi : Int} {A B : Prop} (h1 : inR x lo hi = false → ¬ (lo ≤ x ∧ x ≤ hi) → A) (h2 : inR x lo hi = true → lo ≤ x ∧ x ≤ hi → B) : CondP (!inR x lo hi) A B := zsa (fun h => h1 h (z6z h)) (fun h => h2 h (zky h))
theorem zan : maxLen = 9223372036854775807 := by decide
abbrev CC := C
abbrev zbx := Store
abbrev dInt (n : Int) : List D := [.x (.int .i64 n)]
abbrev zot (n : Int) : List D := [.x (.int .u8 n)]
abbrev zfd (b : Bool) : List D := [.x (.bool b)]
section
variable {S : Store}
theorem zaf {α : Type} {f : α → List D} {k : Nat} {l : List α} {c : C} {i : Int} {K : List C → Prop} (h : Rd S [.sl k (l.map f)] [c]) (hf : ∀ x, Flat (f x)) (h0 : 0 ≤ i ∧ i.toNat < l.length) (hK : K (zdz (f (l[i.toNat]'h0.2)))) : LoadP S c i K :=
 zaz h h0 fun cs hc => by rw [hc.flat (hf _)]; exact hK
theorem zk8 {α : Type} {f : α → List D} {k n : Nat} {l : List α} {c : C} {lo hi : Int} {K : C → Prop} (h : Rd S [.sl k (l.map f)] [c]) (hk : ∀ x, (f x).length = n) (h0 : 0 ≤ lo ∧ lo ≤ hi ∧ hi ≤ l.length)
 (hK : ∀ c', Rd S [.sl k (((l.drop lo.toNat).take (hi.toNat - lo.toNat)).map f)] [c'] → K c') : SliP S c n lo hi K :=
 z6k h (fun x hx => by obtain ⟨y, _, rfl⟩ := List.mem_map.1 hx; exact hk y) (by simpa using h0) fun c' h => hK c' (by rw [List.map_take, List.map_drop]; exact h)
theorem zam {α : Type} {l : List α} {i : Nat} (h : i < l.length) : l.drop i = l[i] :: l.drop (i + 1) := List.drop_eq_getElem_cons h
theorem zak {α : Type} {l : List α} {i : Nat} (h : l.length ≤ i) : l.drop i = [] := List.drop_eq_nil_of_le h
theorem zv6 {S : Store} {lo : Nat} {ds : List D} (h : Flat ds) : Fr lo S ds (zdz ds) := ⟨[], zbr h, List.nodup_nil, fun _ hi => by cases hi⟩
theorem zfi {S S1 : Store} {lo : Nat} {d : D} {c : C} (h : Fr lo S1 [d] [c]) (e : Ext S1 S) : ∃ ids, Rep true S d c ids ∧ ids.Nodup ∧ ∀ id ∈ ids, lo ≤ id ∧ id < S1.length := by
 obtain ⟨ids, h, h1, h2⟩ := h.one
 exact ⟨ids, h.frame fun id hi => e.at (h.lt id hi), h1, fun id hi => ⟨h2 id hi, h.lt id hi⟩⟩
theorem z4n {q : Bool} {S : Store} {c : C} {ds : List D} {cs : List C} (h : RepL q S ds cs []) : RepL q S (.x c :: ds) (c :: cs) [] := by
 rw [zaw]; exact ⟨c, cs, [], [], rfl, rfl, by rw [zse]; exact ⟨rfl, rfl⟩, h⟩
theorem z3l {q : Bool} {S : Store} {k : Nat} {ds : List D} {cs : List C} (h : RepL q S ds cs []) : RepL q S (.sl k [] :: ds) (.nil :: cs) [] := by
 rw [zaw]; exact ⟨.nil, cs, [], [], rfl, rfl, by unfold Rep; exact ⟨Nat.zero_le _, .inl ⟨rfl, .inl rfl, rfl⟩⟩, h⟩
theorem zz9 {q : Bool} {S : Store} : RepL q S [] [] [] := by rw [zce]; exact ⟨rfl, rfl⟩
theorem zwa {q : Bool} {S : Store} {z : List D} {zc : List C} (h : RepL q S z zc []) : ∀ n, Rep2 q S (List.replicate n z) (List.replicate n zc) []
 | 0 => by rw [List.replicate_zero, List.replicate_zero, zc6]; exact ⟨rfl, rfl⟩
 | n + 1 => by rw [List.replicate_succ, List.replicate_succ, zbn]; exact ⟨zc, _, [], [], rfl, rfl, h, zwa h n⟩
theorem zv0 {S : Store} {k : Nat} {z : List D} {zc : List C} {n : Nat} (h : RepL true S z zc []) (hm : n ≤ maxLen) : Fr S.length (S ++ [⟨true, k, List.replicate n zc⟩]) [.sl k (List.replicate n z)] [.sl S.length 0 n n] :=
 zih (zwa h n) List.nodup_nil (fun _ hi => by cases hi) (Nat.le_refl _) (by simpa using hm) (by simp)
theorem zdc {α : Type} {f : α → List D} {S0 S : Store} {k by' : Nat} {c : C} {l : List α} {x : α} {cs : List C} {K : C → Store → Prop} (h : Fr S0.length S [.sl k (l.map f)] [c]) (hE : Ext S0 S) (hf : ∀ x, Flat (f x)) (hcs : cs = zdz (f x))
 (hk : ∀ x, (f x).length = k) (hb : (l.length + 1) * by' ≤ 140737488355328) (hm : l.length + 1 ≤ 9223372036854775807) (hK : ∀ c' S', Ext S0 S' → Fr S0.length S' [.sl k ((l ++ [x]).map f)] [c'] → K c' S') : AppP k by' S c [cs] K :=
 zas (m := [x]) hf hE h (by rw [hcs]; rfl) hk hb (by rw [zan]; exact hm) fun c' S' h1 h2 _ => hK c' S' h1 h2
theorem zba {S : Store} {k : Nat} : Fr S.length (S ++ [⟨true, k, []⟩]) [.sl k []] [.sl S.length 0 0 0] :=
 zih (xs := []) (js := []) (by rw [zc6]; exact ⟨rfl, rfl⟩) List.nodup_nil (fun _ h => by cases h) (Nat.le_refl _) (Nat.zero_le _) rfl
theorem zcz {α : Type} {P : α → Bool} {l : List α} {i : Nat} (h : i < l.length) (hp : P l[i] = true) : (l.take (i + 1)).filter P = (l.take i).filter P ++ [l[i]] := by
 rw [List.take_succ_eq_append_getElem h, List.filter_append]; simp [hp]
theorem zc0 {α : Type} {P : α → Bool} {l : List α} {i : Nat} (h : i < l.length) (hp : P l[i] = false) : (l.take (i + 1)).filter P = (l.take i).filter P := by
 rw [List.take_succ_eq_append_getElem h, List.filter_append]; simp [hp]
theorem zb9 {α : Type} (P : α → Bool) (l : List α) (i : Nat) : ((l.take i).filter P).length ≤ l.length := Nat.le_trans (List.length_filter_le _ _) (by simp; omega)
def szL : List D → Nat
 | [] => 0
 | .x _ :: r => szL r
 | .sl _ xs :: r => xs.length + szLL xs + szL r
where szLL : List (List D) → Nat
 | [] => 0
 | x :: xs => szL x + szLL xs
end
theorem zdf {α : Type} {f : α → List D} : ∀ {l : List α} {x : α}, x ∈ l → szL (f x) ≤ szL.szLL (l.map f)
 | y :: l, x, h => by
   rw [List.map_cons, szL.szLL]
   rcases List.mem_cons.1 h with rfl | h
   ·omega
   ·have := zdf (f := f) h; omega
theorem z2w {a b : List (List D)} : szL.szLL (a ++ b) = szL.szLL a + szL.szLL b := by
 induction a with
 | nil => rw [List.nil_append, show szL.szLL [] = 0 by rw [szL.szLL]]; omega
 | cons x a ih => rw [List.cons_append, szL.szLL, ih, szL.szLL]; omega
theorem z4x {α : Type} {f : α → List D} (l : List α) (i : Nat) : szL.szLL ((l.take i).map f) ≤ szL.szLL (l.map f) := by
 have e : l.map f = (l.take i).map f ++ (l.drop i).map f := by rw [← List.map_append, List.take_append_drop]
 rw [e, z2w]; omega
theorem zbk {α : Type} {f : α → List D} (hf : ∀ x, szL (f x) = 0) : ∀ l : List α, szL.szLL (l.map f) = 0
 | [] => by rw [List.map_nil, szL.szLL]
 | x :: l => by rw [List.map_cons, szL.szLL, hf x, zbk hf l]
structure GNode where
 Id : Int
 Parent : Int
 Tag : Int
 Text : Int
 By : Int
 deriving DecidableEq, Inhabited
def GNode.d (x : GNode) : List D := [.x (.int .i64 x.Id), .x (.int .i64 x.Parent), .x (.int .i64 x.Tag), .x (.int .i64 x.Text), .x (.int .i64 x.By)]
theorem GNode.eqb (x y : GNode) : (decide (x.Id = y.Id) && (decide (x.Parent = y.Parent) && (decide (x.Tag = y.Tag) && (decide (x.Text = y.Text) && (decide (x.By = y.By) && true))))) = decide (x = y) := by
 obtain ⟨aId, aParent, aTag, aText, aBy⟩ := x
 obtain ⟨bId, bParent, bTag, bText, bBy⟩ := y
 rw [Bool.eq_iff_iff]; simp [GNode.mk.injEq, and_assoc]
def GNode.c (x : GNode) : List CC := [(.int .i64 x.Id), (.int .i64 x.Parent), (.int .i64 x.Tag), (.int .i64 x.Text), (.int .i64 x.By)]
theorem GNode.flat (x : GNode) : Flat x.d := trivial
theorem GNode.inv {S : zbx} {x : GNode} {cs : List CC} (h : Rd S x.d cs) : cs = x.c := h.flat x.flat
theorem GNode.rd {S : zbx} (x : GNode) : Rd S x.d x.c := ⟨[], zbr (q := false) x.flat⟩
structure GEdit where
 Kind : Int
 Node : Int
 Parent : Int
 Tag : Int
 Text : Int
 By : Int
 deriving DecidableEq, Inhabited
def GEdit.d (x : GEdit) : List D := [.x (.int .i64 x.Kind), .x (.int .i64 x.Node), .x (.int .i64 x.Parent), .x (.int .i64 x.Tag), .x (.int .i64 x.Text), .x (.int .i64 x.By)]
def GEdit.c (x : GEdit) : List CC := [(.int .i64 x.Kind), (.int .i64 x.Node), (.int .i64 x.Parent), (.int .i64 x.Tag), (.int .i64 x.Text), (.int .i64 x.By)]
theorem GEdit.flat (x : GEdit) : Flat x.d := trivial
theorem GEdit.inv {S : zbx} {x : GEdit} {cs : List CC} (h : Rd S x.d cs) : cs = x.c := h.flat x.flat
theorem GEdit.rd {S : zbx} (x : GEdit) : Rd S x.d x.c := ⟨[], zbr (q := false) x.flat⟩
structure GSite where
 Owner : Int
 Sub : Int
 deriving DecidableEq, Inhabited
def GSite.d (x : GSite) : List D := [.x (.int .i64 x.Owner), .x (.int .i64 x.Sub)]
def GSite.c (x : GSite) : List CC := [(.int .i64 x.Owner), (.int .i64 x.Sub)]
theorem GSite.flat (x : GSite) : Flat x.d := trivial
theorem GSite.inv {S : zbx} {x : GSite} {cs : List CC} (h : Rd S x.d cs) : cs = x.c := h.flat x.flat
theorem GSite.rd {S : zbx} (x : GSite) : Rd S x.d x.c := ⟨[], zbr (q := false) x.flat⟩
structure GPattern where
 Owner : Int
 Sub : Int
 deriving DecidableEq, Inhabited
def GPattern.d (x : GPattern) : List D := [.x (.int .i64 x.Owner), .x (.int .i64 x.Sub)]
def GPattern.c (x : GPattern) : List CC := [(.int .i64 x.Owner), (.int .i64 x.Sub)]
theorem GPattern.flat (x : GPattern) : Flat x.d := trivial
theorem GPattern.inv {S : zbx} {x : GPattern} {cs : List CC} (h : Rd S x.d cs) : cs = x.c := h.flat x.flat
theorem GPattern.rd {S : zbx} (x : GPattern) : Rd S x.d x.c := ⟨[], zbr (q := false) x.flat⟩
structure GGrant where
 Ext : Int
 Pattern : GPattern
 Kind : Int
 From : Int
 Until : Int
 Click : Bool
 deriving DecidableEq, Inhabited
def GGrant.d (x : GGrant) : List D := [.x (.int .i64 x.Ext), .x (.int .i64 x.Pattern.Owner), .x (.int .i64 x.Pattern.Sub), .x (.int .i64 x.Kind), .x (.int .i64 x.From), .x (.int .i64 x.Until), .x (.bool x.Click)]
theorem GGrant.eqb (x y : GGrant) : (decide (x.Ext = y.Ext) && (decide (x.Pattern.Owner = y.Pattern.Owner) && (decide (x.Pattern.Sub = y.Pattern.Sub) && (decide (x.Kind = y.Kind) && (decide (x.From = y.From) && (decide (x.Until = y.Until) && ((x.Click == y.Click) && true))))))) = decide (x = y) := by
 obtain ⟨aExt, ⟨aPatternOwner, aPatternSub⟩, aKind, aFrom, aUntil, aClick⟩ := x
 obtain ⟨bExt, ⟨bPatternOwner, bPatternSub⟩, bKind, bFrom, bUntil, bClick⟩ := y
 rw [Bool.eq_iff_iff]; simp [GPattern.mk.injEq, GGrant.mk.injEq, and_assoc]
def GGrant.c (x : GGrant) : List CC := [(.int .i64 x.Ext), (.int .i64 x.Pattern.Owner), (.int .i64 x.Pattern.Sub), (.int .i64 x.Kind), (.int .i64 x.From), (.int .i64 x.Until), (.bool x.Click)]
theorem GGrant.flat (x : GGrant) : Flat x.d := trivial
theorem GGrant.inv {S : zbx} {x : GGrant} {cs : List CC} (h : Rd S x.d cs) : cs = x.c := h.flat x.flat
theorem GGrant.rd {S : zbx} (x : GGrant) : Rd S x.d x.c := ⟨[], zbr (q := false) x.flat⟩
structure GLimit where
 Ext : Int
 Pattern : GPattern
 Kind : Int
 deriving DecidableEq, Inhabited
def GLimit.d (x : GLimit) : List D := [.x (.int .i64 x.Ext), .x (.int .i64 x.Pattern.Owner), .x (.int .i64 x.Pattern.Sub), .x (.int .i64 x.Kind)]
def GLimit.c (x : GLimit) : List CC := [(.int .i64 x.Ext), (.int .i64 x.Pattern.Owner), (.int .i64 x.Pattern.Sub), (.int .i64 x.Kind)]
theorem GLimit.flat (x : GLimit) : Flat x.d := trivial
theorem GLimit.inv {S : zbx} {x : GLimit} {cs : List CC} (h : Rd S x.d cs) : cs = x.c := h.flat x.flat
theorem GLimit.rd {S : zbx} (x : GLimit) : Rd S x.d x.c := ⟨[], zbr (q := false) x.flat⟩
structure GRule where
 Ext : Int
 Prio : Int
 Pattern : GPattern
 Sort' : Int
 Action : Int
 To : GSite
 deriving DecidableEq, Inhabited
def GRule.d (x : GRule) : List D := [.x (.int .i64 x.Ext), .x (.int .i64 x.Prio), .x (.int .i64 x.Pattern.Owner), .x (.int .i64 x.Pattern.Sub), .x (.int .i64 x.Sort'), .x (.int .i64 x.Action), .x (.int .i64 x.To.Owner), .x (.int .i64 x.To.Sub)]
theorem GRule.eqb (x y : GRule) : (decide (x.Ext = y.Ext) && (decide (x.Prio = y.Prio) && (decide (x.Pattern.Owner = y.Pattern.Owner) && (decide (x.Pattern.Sub = y.Pattern.Sub) && (decide (x.Sort' = y.Sort') && (decide (x.Action = y.Action) && (decide (x.To.Owner = y.To.Owner) && (decide (x.To.Sub = y.To.Sub) && true)))))))) = decide (x = y) := by
 obtain ⟨aExt, aPrio, ⟨aPatternOwner, aPatternSub⟩, aSort, aAction, ⟨aToOwner, aToSub⟩⟩ := x
 obtain ⟨bExt, bPrio, ⟨bPatternOwner, bPatternSub⟩, bSort, bAction, ⟨bToOwner, bToSub⟩⟩ := y
 rw [Bool.eq_iff_iff]; simp [GPattern.mk.injEq, GSite.mk.injEq, GRule.mk.injEq, and_assoc]
def GRule.c (x : GRule) : List CC := [(.int .i64 x.Ext), (.int .i64 x.Prio), (.int .i64 x.Pattern.Owner), (.int .i64 x.Pattern.Sub), (.int .i64 x.Sort'), (.int .i64 x.Action), (.int .i64 x.To.Owner), (.int .i64 x.To.Sub)]
theorem GRule.flat (x : GRule) : Flat x.d := trivial
theorem GRule.inv {S : zbx} {x : GRule} {cs : List CC} (h : Rd S x.d cs) : cs = x.c := h.flat x.flat
theorem GRule.rd {S : zbx} (x : GRule) : Rd S x.d x.c := ⟨[], zbr (q := false) x.flat⟩
structure GRequest where
 Site : GSite
 Sort' : Int
 deriving DecidableEq, Inhabited
def GRequest.d (x : GRequest) : List D := [.x (.int .i64 x.Site.Owner), .x (.int .i64 x.Site.Sub), .x (.int .i64 x.Sort')]
def GRequest.c (x : GRequest) : List CC := [(.int .i64 x.Site.Owner), (.int .i64 x.Site.Sub), (.int .i64 x.Sort')]
theorem GRequest.flat (x : GRequest) : Flat x.d := trivial
theorem GRequest.inv {S : zbx} {x : GRequest} {cs : List CC} (h : Rd S x.d cs) : cs = x.c := h.flat x.flat
theorem GRequest.rd {S : zbx} (x : GRequest) : Rd S x.d x.c := ⟨[], zbr (q := false) x.flat⟩
structure GTable where
 Any : List GRule
 By : List (List GRule)
 deriving DecidableEq, Inhabited
def GTable.d (x : GTable) : List D := [.sl 8 (x.Any.map GRule.d), .sl 1 (x.By.map (fun l => [D.sl 8 (l.map GRule.d)]))]
structure GOutcome where
 Code : Int
 Site : GSite
 Path : List GSite
 deriving DecidableEq, Inhabited
def GOutcome.d (x : GOutcome) : List D := [.x (.int .i64 x.Code), .x (.int .i64 x.Site.Owner), .x (.int .i64 x.Site.Sub), .sl 2 (x.Path.map GSite.d)]
structure GFlow where
 Ext : Int
 From : Int
 To : Int
 deriving DecidableEq, Inhabited
def GFlow.d (x : GFlow) : List D := [.x (.int .i64 x.Ext), .x (.int .i64 x.From), .x (.int .i64 x.To)]
theorem GFlow.eqb (x y : GFlow) : (decide (x.Ext = y.Ext) && (decide (x.From = y.From) && (decide (x.To = y.To) && true))) = decide (x = y) := by
 obtain ⟨aExt, aFrom, aTo⟩ := x
 obtain ⟨bExt, bFrom, bTo⟩ := y
 rw [Bool.eq_iff_iff]; simp [GFlow.mk.injEq, and_assoc]
def GFlow.c (x : GFlow) : List CC := [(.int .i64 x.Ext), (.int .i64 x.From), (.int .i64 x.To)]
theorem GFlow.flat (x : GFlow) : Flat x.d := trivial
theorem GFlow.inv {S : zbx} {x : GFlow} {cs : List CC} (h : Rd S x.d cs) : cs = x.c := h.flat x.flat
theorem GFlow.rd {S : zbx} (x : GFlow) : Rd S x.d x.c := ⟨[], zbr (q := false) x.flat⟩
structure GOp where
 Kind : Int
 A : Int
 B : Int
 C : Int
 deriving DecidableEq, Inhabited
def GOp.d (x : GOp) : List D := [.x (.int .i64 x.Kind), .x (.int .i64 x.A), .x (.int .i64 x.B), .x (.int .i64 x.C)]
def GOp.c (x : GOp) : List CC := [(.int .i64 x.Kind), (.int .i64 x.A), (.int .i64 x.B), (.int .i64 x.C)]
theorem GOp.flat (x : GOp) : Flat x.d := trivial
theorem GOp.inv {S : zbx} {x : GOp} {cs : List CC} (h : Rd S x.d cs) : cs = x.c := h.flat x.flat
theorem GOp.rd {S : zbx} (x : GOp) : Rd S x.d x.c := ⟨[], zbr (q := false) x.flat⟩
structure GSent where
 To : Int
 Value : Int
 Label : Int
 deriving DecidableEq, Inhabited
def GSent.d (x : GSent) : List D := [.x (.int .i64 x.To), .x (.int .i64 x.Value), .x (.int .i64 x.Label)]
theorem GSent.eqb (x y : GSent) : (decide (x.To = y.To) && (decide (x.Value = y.Value) && (decide (x.Label = y.Label) && true))) = decide (x = y) := by
 obtain ⟨aTo, aValue, aLabel⟩ := x
 obtain ⟨bTo, bValue, bLabel⟩ := y
 rw [Bool.eq_iff_iff]; simp [GSent.mk.injEq, and_assoc]
def GSent.c (x : GSent) : List CC := [(.int .i64 x.To), (.int .i64 x.Value), (.int .i64 x.Label)]
theorem GSent.flat (x : GSent) : Flat x.d := trivial
theorem GSent.inv {S : zbx} {x : GSent} {cs : List CC} (h : Rd S x.d cs) : cs = x.c := h.flat x.flat
theorem GSent.rd {S : zbx} (x : GSent) : Rd S x.d x.c := ⟨[], zbr (q := false) x.flat⟩
structure GLetter where
 From : Int
 To : Int
 Body : Int
 Seal : Int
 deriving DecidableEq, Inhabited
def GLetter.d (x : GLetter) : List D := [.x (.int .i64 x.From), .x (.int .i64 x.To), .x (.int .i64 x.Body), .x (.int .i64 x.Seal)]
def GLetter.c (x : GLetter) : List CC := [(.int .i64 x.From), (.int .i64 x.To), (.int .i64 x.Body), (.int .i64 x.Seal)]
theorem GLetter.flat (x : GLetter) : Flat x.d := trivial
theorem GLetter.inv {S : zbx} {x : GLetter} {cs : List CC} (h : Rd S x.d cs) : cs = x.c := h.flat x.flat
theorem GLetter.rd {S : zbx} (x : GLetter) : Rd S x.d x.c := ⟨[], zbr (q := false) x.flat⟩
structure GStored where
 Ext : Int
 Name : Int
 Value : Int
 Ver : Int
 deriving DecidableEq, Inhabited
def GStored.d (x : GStored) : List D := [.x (.int .i64 x.Ext), .x (.int .i64 x.Name), .x (.int .i64 x.Value), .x (.int .i64 x.Ver)]
def GStored.c (x : GStored) : List CC := [(.int .i64 x.Ext), (.int .i64 x.Name), (.int .i64 x.Value), (.int .i64 x.Ver)]
theorem GStored.flat (x : GStored) : Flat x.d := trivial
theorem GStored.inv {S : zbx} {x : GStored} {cs : List CC} (h : Rd S x.d cs) : cs = x.c := h.flat x.flat
theorem GStored.rd {S : zbx} (x : GStored) : Rd S x.d x.c := ⟨[], zbr (q := false) x.flat⟩
structure GWindow where
 Private : Bool
 Base : List GStored
 Own : List GStored
 deriving DecidableEq, Inhabited
def GWindow.d (x : GWindow) : List D := [.x (.bool x.Private), .sl 4 (x.Base.map GStored.d), .sl 4 (x.Own.map GStored.d)]
structure GPackage where
 Ext : Int
 Author : Int
 Version : Int
 Grants : List GGrant
 Flows : List GFlow
 Rules : List GRule
 Ops : List GOp
 Seal : Int
 deriving DecidableEq, Inhabited
def GPackage.d (x : GPackage) : List D := [.x (.int .i64 x.Ext), .x (.int .i64 x.Author), .x (.int .i64 x.Version), .sl 7 (x.Grants.map GGrant.d), .sl 3 (x.Flows.map GFlow.d), .sl 8 (x.Rules.map GRule.d), .sl 4 (x.Ops.map GOp.d), .x (.int .i64 x.Seal)]
theorem GPackage.inv {S : zbx} {x : GPackage} {cs : List CC} (h : Rd S x.d cs) : ∃ c3 c4 c5 c6, cs = [(.int .i64 x.Ext), (.int .i64 x.Author), (.int .i64 x.Version), c3, c4, c5, c6, (.int .i64 x.Seal)] ∧ Rd S [.sl 7 (x.Grants.map GGrant.d)] [c3] ∧ Rd S [.sl 3 (x.Flows.map GFlow.d)] [c4] ∧ Rd S [.sl 8 (x.Rules.map GRule.d)] [c5] ∧ Rd S [.sl 4 (x.Ops.map GOp.d)] [c6] := by
 obtain ⟨r0, e0, g0⟩ := Rd.cons_x h
 obtain ⟨r1, e1, g1⟩ := Rd.cons_x g0
 obtain ⟨r2, e2, g2⟩ := Rd.cons_x g1
 obtain ⟨c3, r3, e3, h3, g3⟩ := Rd.cons g2
 obtain ⟨c4, r4, e4, h4, g4⟩ := Rd.cons g3
 obtain ⟨c5, r5, e5, h5, g5⟩ := Rd.cons g4
 obtain ⟨c6, r6, e6, h6, g6⟩ := Rd.cons g5
 obtain ⟨r7, e7, g7⟩ := Rd.cons_x g6
 exact ⟨_, _, _, _, by rw [e0, e1, e2, e3, e4, e5, e6, e7, g7.nil], h3, h4, h5, h6⟩
theorem GPackage.rd {S : zbx} {x : GPackage} {c3 c4 c5 c6 : CC} (h3 : Rd S [.sl 7 (x.Grants.map GGrant.d)] [c3]) (h4 : Rd S [.sl 3 (x.Flows.map GFlow.d)] [c4]) (h5 : Rd S [.sl 8 (x.Rules.map GRule.d)] [c5]) (h6 : Rd S [.sl 4 (x.Ops.map GOp.d)] [c6]) : Rd S x.d [(.int .i64 x.Ext), (.int .i64 x.Author), (.int .i64 x.Version), c3, c4, c5, c6, (.int .i64 x.Seal)] :=
 rd_x (rd_x (rd_x (zlg h3 (zlg h4 (zlg h5 (zlg h6 (rd_x (zwf))))))))
structure GDeed where
 Ext : Int
 From : Int
 To : Int
 SealFrom : Int
 SealTo : Int
 deriving DecidableEq, Inhabited
def GDeed.d (x : GDeed) : List D := [.x (.int .i64 x.Ext), .x (.int .i64 x.From), .x (.int .i64 x.To), .x (.int .i64 x.SealFrom), .x (.int .i64 x.SealTo)]
def GDeed.c (x : GDeed) : List CC := [(.int .i64 x.Ext), (.int .i64 x.From), (.int .i64 x.To), (.int .i64 x.SealFrom), (.int .i64 x.SealTo)]
theorem GDeed.flat (x : GDeed) : Flat x.d := trivial
theorem GDeed.inv {S : zbx} {x : GDeed} {cs : List CC} (h : Rd S x.d cs) : cs = x.c := h.flat x.flat
theorem GDeed.rd {S : zbx} (x : GDeed) : Rd S x.d x.c := ⟨[], zbr (q := false) x.flat⟩
structure GSnapshot where
 Package : GPackage
 Entries : List GStored
 deriving DecidableEq, Inhabited
def GSnapshot.d (x : GSnapshot) : List D := [.x (.int .i64 x.Package.Ext), .x (.int .i64 x.Package.Author), .x (.int .i64 x.Package.Version), .sl 7 (x.Package.Grants.map GGrant.d), .sl 3 (x.Package.Flows.map GFlow.d), .sl 8 (x.Package.Rules.map GRule.d), .sl 4 (x.Package.Ops.map GOp.d), .x (.int .i64 x.Package.Seal), .sl 4 (x.Entries.map GStored.d)]
structure GTab where
 Site : GSite
 Base : List GNode
 Edits : List GEdit
 Hidden : List Int
 Click : Int
 deriving DecidableEq, Inhabited
def GTab.d (x : GTab) : List D := [.x (.int .i64 x.Site.Owner), .x (.int .i64 x.Site.Sub), .sl 5 (x.Base.map GNode.d), .sl 6 (x.Edits.map GEdit.d), .sl 1 (x.Hidden.map dInt), .x (.int .i64 x.Click)]
theorem GTab.inv {S : zbx} {x : GTab} {cs : List CC} (h : Rd S x.d cs) : ∃ c2 c3 c4, cs = [(.int .i64 x.Site.Owner), (.int .i64 x.Site.Sub), c2, c3, c4, (.int .i64 x.Click)] ∧ Rd S [.sl 5 (x.Base.map GNode.d)] [c2] ∧ Rd S [.sl 6 (x.Edits.map GEdit.d)] [c3] ∧ Rd S [.sl 1 (x.Hidden.map dInt)] [c4] := by
 obtain ⟨r0, e0, g0⟩ := Rd.cons_x h
 obtain ⟨r1, e1, g1⟩ := Rd.cons_x g0
 obtain ⟨c2, r2, e2, h2, g2⟩ := Rd.cons g1
 obtain ⟨c3, r3, e3, h3, g3⟩ := Rd.cons g2
 obtain ⟨c4, r4, e4, h4, g4⟩ := Rd.cons g3
 obtain ⟨r5, e5, g5⟩ := Rd.cons_x g4
 exact ⟨_, _, _, by rw [e0, e1, e2, e3, e4, e5, g5.nil], h2, h3, h4⟩
theorem GTab.rd {S : zbx} {x : GTab} {c2 c3 c4 : CC} (h2 : Rd S [.sl 5 (x.Base.map GNode.d)] [c2]) (h3 : Rd S [.sl 6 (x.Edits.map GEdit.d)] [c3]) (h4 : Rd S [.sl 1 (x.Hidden.map dInt)] [c4]) : Rd S x.d [(.int .i64 x.Site.Owner), (.int .i64 x.Site.Sub), c2, c3, c4, (.int .i64 x.Click)] :=
 rd_x (rd_x (zlg h2 (zlg h3 (zlg h4 (rd_x (zwf))))))
structure GBrowser where
 Key : Int
 Tabs : List GTab
 Packs : List GPackage
 Grants : List GGrant
 Limits : List GLimit
 Rules : List GRule
 Store : List GStored
 Now : Int
 deriving DecidableEq, Inhabited
def GBrowser.d (x : GBrowser) : List D := [.x (.int .i64 x.Key), .sl 6 (x.Tabs.map GTab.d), .sl 8 (x.Packs.map GPackage.d), .sl 7 (x.Grants.map GGrant.d), .sl 4 (x.Limits.map GLimit.d), .sl 8 (x.Rules.map GRule.d), .sl 4 (x.Store.map GStored.d), .x (.int .i64 x.Now)]
theorem GBrowser.inv {S : zbx} {x : GBrowser} {cs : List CC} (h : Rd S x.d cs) : ∃ c1 c2 c3 c4 c5 c6, cs = [(.int .i64 x.Key), c1, c2, c3, c4, c5, c6, (.int .i64 x.Now)] ∧ Rd S [.sl 6 (x.Tabs.map GTab.d)] [c1] ∧ Rd S [.sl 8 (x.Packs.map GPackage.d)] [c2] ∧ Rd S [.sl 7 (x.Grants.map GGrant.d)] [c3] ∧ Rd S [.sl 4 (x.Limits.map GLimit.d)] [c4] ∧ Rd S [.sl 8 (x.Rules.map GRule.d)] [c5] ∧ Rd S [.sl 4 (x.Store.map GStored.d)] [c6] := by
 obtain ⟨r0, e0, g0⟩ := Rd.cons_x h
 obtain ⟨c1, r1, e1, h1, g1⟩ := Rd.cons g0
 obtain ⟨c2, r2, e2, h2, g2⟩ := Rd.cons g1
 obtain ⟨c3, r3, e3, h3, g3⟩ := Rd.cons g2
 obtain ⟨c4, r4, e4, h4, g4⟩ := Rd.cons g3
 obtain ⟨c5, r5, e5, h5, g5⟩ := Rd.cons g4
 obtain ⟨c6, r6, e6, h6, g6⟩ := Rd.cons g5
 obtain ⟨r7, e7, g7⟩ := Rd.cons_x g6
 exact ⟨_, _, _, _, _, _, by rw [e0, e1, e2, e3, e4, e5, e6, e7, g7.nil], h1, h2, h3, h4, h5, h6⟩
theorem GBrowser.rd {S : zbx} {x : GBrowser} {c1 c2 c3 c4 c5 c6 : CC} (h1 : Rd S [.sl 6 (x.Tabs.map GTab.d)] [c1]) (h2 : Rd S [.sl 8 (x.Packs.map GPackage.d)] [c2]) (h3 : Rd S [.sl 7 (x.Grants.map GGrant.d)] [c3]) (h4 : Rd S [.sl 4 (x.Limits.map GLimit.d)] [c4]) (h5 : Rd S [.sl 8 (x.Rules.map GRule.d)] [c5]) (h6 : Rd S [.sl 4 (x.Store.map GStored.d)] [c6]) : Rd S x.d [(.int .i64 x.Key), c1, c2, c3, c4, c5, c6, (.int .i64 x.Now)] :=
 rd_x (zlg h1 (zlg h2 (zlg h3 (zlg h4 (zlg h5 (zlg h6 (rd_x (zwf))))))))
structure GEvent where
 Kind : Int
 Ext : Int
 Tab : Int
 N : Int
 Value : Int
 Consent : Bool
 Site : GSite
 Limit : GLimit
 Edit : GEdit
 Package : GPackage
 deriving DecidableEq, Inhabited
def GEvent.d (x : GEvent) : List D := [.x (.int .i64 x.Kind), .x (.int .i64 x.Ext), .x (.int .i64 x.Tab), .x (.int .i64 x.N), .x (.int .i64 x.Value), .x (.bool x.Consent), .x (.int .i64 x.Site.Owner), .x (.int .i64 x.Site.Sub), .x (.int .i64 x.Limit.Ext), .x (.int .i64 x.Limit.Pattern.Owner), .x (.int .i64 x.Limit.Pattern.Sub), .x (.int .i64 x.Limit.Kind), .x (.int .i64 x.Edit.Kind), .x (.int .i64 x.Edit.Node), .x (.int .i64 x.Edit.Parent), .x (.int .i64 x.Edit.Tag), .x (.int .i64 x.Edit.Text), .x (.int .i64 x.Edit.By), .x (.int .i64 x.Package.Ext), .x (.int .i64 x.Package.Author), .x (.int .i64 x.Package.Version), .sl 7 (x.Package.Grants.map GGrant.d), .sl 3 (x.Package.Flows.map GFlow.d), .sl 8 (x.Package.Rules.map GRule.d), .sl 4 (x.Package.Ops.map GOp.d), .x (.int .i64 x.Package.Seal)]
theorem GEvent.inv {S : zbx} {x : GEvent} {cs : List CC} (h : Rd S x.d cs) : ∃ c21 c22 c23 c24, cs = [(.int .i64 x.Kind), (.int .i64 x.Ext), (.int .i64 x.Tab), (.int .i64 x.N), (.int .i64 x.Value), (.bool x.Consent), (.int .i64 x.Site.Owner), (.int .i64 x.Site.Sub), (.int .i64 x.Limit.Ext), (.int .i64 x.Limit.Pattern.Owner), (.int .i64 x.Limit.Pattern.Sub), (.int .i64 x.Limit.Kind), (.int .i64 x.Edit.Kind), (.int .i64 x.Edit.Node), (.int .i64 x.Edit.Parent), (.int .i64 x.Edit.Tag), (.int .i64 x.Edit.Text), (.int .i64 x.Edit.By), (.int .i64 x.Package.Ext), (.int .i64 x.Package.Author), (.int .i64 x.Package.Version), c21, c22, c23, c24, (.int .i64 x.Package.Seal)] ∧ Rd S [.sl 7 (x.Package.Grants.map GGrant.d)] [c21] ∧ Rd S [.sl 3 (x.Package.Flows.map GFlow.d)] [c22] ∧ Rd S [.sl 8 (x.Package.Rules.map GRule.d)] [c23] ∧ Rd S [.sl 4 (x.Package.Ops.map GOp.d)] [c24] := by
 obtain ⟨r0, e0, g0⟩ := Rd.cons_x h
 obtain ⟨r1, e1, g1⟩ := Rd.cons_x g0
 obtain ⟨r2, e2, g2⟩ := Rd.cons_x g1
 obtain ⟨r3, e3, g3⟩ := Rd.cons_x g2
 obtain ⟨r4, e4, g4⟩ := Rd.cons_x g3
 obtain ⟨r5, e5, g5⟩ := Rd.cons_x g4
 obtain ⟨r6, e6, g6⟩ := Rd.cons_x g5
 obtain ⟨r7, e7, g7⟩ := Rd.cons_x g6
 obtain ⟨r8, e8, g8⟩ := Rd.cons_x g7
 obtain ⟨r9, e9, g9⟩ := Rd.cons_x g8
 obtain ⟨r10, e10, g10⟩ := Rd.cons_x g9
 obtain ⟨r11, e11, g11⟩ := Rd.cons_x g10
 obtain ⟨r12, e12, g12⟩ := Rd.cons_x g11
 obtain ⟨r13, e13, g13⟩ := Rd.cons_x g12
 obtain ⟨r14, e14, g14⟩ := Rd.cons_x g13
 obtain ⟨r15, e15, g15⟩ := Rd.cons_x g14
 obtain ⟨r16, e16, g16⟩ := Rd.cons_x g15
 obtain ⟨r17, e17, g17⟩ := Rd.cons_x g16
 obtain ⟨r18, e18, g18⟩ := Rd.cons_x g17
 obtain ⟨r19, e19, g19⟩ := Rd.cons_x g18
 obtain ⟨r20, e20, g20⟩ := Rd.cons_x g19
 obtain ⟨c21, r21, e21, h21, g21⟩ := Rd.cons g20
 obtain ⟨c22, r22, e22, h22, g22⟩ := Rd.cons g21
 obtain ⟨c23, r23, e23, h23, g23⟩ := Rd.cons g22
 obtain ⟨c24, r24, e24, h24, g24⟩ := Rd.cons g23
 obtain ⟨r25, e25, g25⟩ := Rd.cons_x g24
 exact ⟨_, _, _, _, by rw [e0, e1, e2, e3, e4, e5, e6, e7, e8, e9, e10, e11, e12, e13, e14, e15, e16, e17, e18, e19, e20, e21, e22, e23, e24, e25, g25.nil], h21, h22, h23, h24⟩
theorem rdA {S : zbx} {ds : List D} {cs : List CC} (h : Rd S ds cs := by first | assumption | exact Fr.rd (by assumption) | exact Rd.ext (by first | assumption | exact Fr.rd (by assumption)) (by (first | assumption | exact Ext.push _ _ | exact Ext.trans (by assumption) (by first | assumption | exact Ext.push _ _) | exact Ext.trans (by assumption) (Ext.trans (by assumption) (by assumption)) | exact Ext.trans (by assumption) (Ext.trans (by assumption) (Ext.trans (by assumption) (by assumption)))))) : Rd S ds cs := h
theorem rdcA {S : zbx} {ds : List D} {cs : List CC} (h : Rd S ds cs := by first | assumption | exact Fr.rd (by assumption) | exact Rd.ext (by first | assumption | exact Fr.rd (by assumption)) (by (first | assumption | exact Ext.push _ _ | exact Ext.trans (by assumption) (by first | assumption | exact Ext.push _ _) | exact Ext.trans (by assumption) (Ext.trans (by assumption) (by assumption)) | exact Ext.trans (by assumption) (Ext.trans (by assumption) (Ext.trans (by assumption) (by assumption))))) | exact GPackage.rd rdA rdA rdA rdA | exact GTab.rd rdA rdA rdA | exact GOutcome.rd rdA) : Rd S ds cs := h
theorem rdcB {S : zbx} {ds : List D} {cs : List CC} (h : Rd S ds cs := by first | assumption | exact GPackage.rd (by assumption) (by assumption) (by assumption) (by assumption) | exact GTab.rd (by assumption) (by assumption) (by assumption) | exact GOutcome.rd (by assumption)) : Rd S ds cs := h
theorem zd6 {S : zbx} {α : Type} {f : α → List D} {k : Nat} {l : List α} {c : CC} {i : Int} (h : Rd S [.sl k (l.map f)] [c]) (h0 : 0 ≤ i ∧ i.toNat < l.length) : ∃ cs, Rd S (f (l[i.toNat]'h0.2)) cs ∧ ∀ S', Ext S S' → ∀ K : List CC → Prop, K cs → LoadP S' c i K := by
 obtain ⟨ids, h⟩ := h.one
 obtain ⟨rows, js, h1, h2, h3, h4⟩ := h.elems
 obtain ⟨cs, j, k1, k2, k3⟩ := h2.at i.toNat _ (List.getElem?_eq_getElem (by simpa using h0.2))
 refine ⟨cs, by have h := Rd.of k2; simpa using h, fun S' e K hK => ?_⟩
 obtain ⟨J, rfl⟩ := e
 exact zey (zsc h1) k1 h0.1 hK
theorem ix {p : Prop} (h : p := by constructor <;> omega) : p := h
theorem rf {p : Prop} (h : p := by intro _; rfl) : p := h
theorem tv {p : Prop} (h : p := by intro _; exact trivial) : p := h
theorem om {p : Prop} (h : p := by omega) : p := h
theorem aN {p : Prop} (h : p := by assumption) : p := h
theorem nP {p A : Prop} (k : A) (h : p := by first | omega | (constructor <;> omega) | fail) : NeedP p A := zdn h k
theorem cNb {b : Bool} (h : b = false) : (!b) = true := by rw [h]; rfl
theorem cNc {b : Bool} (h : b = true) : (!b) = false := by rw [h]; rfl
theorem cS {b : Bool} {A B G : Prop} (k : G) (h : (b = true ∧ G = A) ∨ (b = false ∧ G = B) := by first | exact Or.inl ⟨by assumption, rfl⟩ | exact Or.inr ⟨by assumption, rfl⟩ | exact Or.inl ⟨cNb (by assumption), rfl⟩ | exact Or.inr ⟨cNc (by assumption), rfl⟩ | exact Or.inl ⟨decide_eq_true (by omega), rfl⟩ | exact Or.inr ⟨decide_eq_false (by omega), rfl⟩ | exact Or.inl ⟨cNb (decide_eq_false (by omega)), rfl⟩ | exact Or.inr ⟨cNc (decide_eq_true (by omega)), rfl⟩) : CondP b A B :=
 h.elim (fun h => zpr h.1 (h.2 ▸ k)) (fun h => zjj h.1 (h.2 ▸ k))
theorem cD {p : Prop} {inst : Decidable p} {A B : Prop} (h1 : p → A) (h2 : ¬p → B) : CondP (@decide p inst) A B := z19 h1 h2
theorem cE {p : Prop} {inst : Decidable p} {A B : Prop} (h1 : ¬p → A) (h2 : p → B) : CondP (!(@decide p inst)) A B := zxv h1 h2
theorem cN {b : Bool} {A B : Prop} (h1 : b = false → A) (h2 : b = true → B) : CondP (!b) A B := zsa h1 h2
theorem cI {b : Bool} {A B : Prop} (h1 : b = true → A) (h2 : b = false → B) : CondP b A B := zfy h1 h2
theorem cT {b : Bool} {A B : Prop} (k : A) (h : b = true := by exact rfl) : CondP b A B := zpr h k
theorem cF {b : Bool} {A B : Prop} (k : B) (h : b = false := by exact rfl) : CondP b A B := zjj h k
section
variable {S : zbx}
theorem rE {α : Type} {f : α → List D} {k : Nat} {l : List α} {c : CC} {K : Nat → Prop} (hK : l.length ≤ 9223372036854775807 → K l.length) (h : Rd S [.sl k (l.map f)] [c] := by exact rdA) : LenP S c K := zdp h (by rw [zan]; exact hK)
theorem rI {α : Type} {f : α → List D} {k : Nat} {l : List α} {c : CC} {n : Nat} {i : Int} {K : Prop} (h : Rd S [.sl k (l.map f)] [c]) (hk : ∀ x, (f x).length = n) (h0 : 0 ≤ i ∧ i.toNat < l.length) (hK : K) : IdxP S c n i K := z4u h hk h0 hK
end
end Go.Proofs.YtlmmdpmmdmhacaaGreat
namespace Go.Proofs.YtlmmdpmmdmhacaaGreat
open Go Go.ChangeShapes Go.WideShapes Go.ChangeAt Go.RowKit
set_option linter.unusedVariables false
set_option linter.unusedSimpArgs false
set_option maxRecDepth 100000
theorem zcp (x lo hi : Int) (S : Store) : EvA Tryz.prog 229 [.s (.int .i64 x), .s (.int .i64 lo), .s (.int .i64 hi)] S (fun r S' => r = .v (.s (.bool (inR x lo hi))) ∧ S' = S) := by
 refine zac tok Tryz.func229 (by kernel_rfl) rfl ?_
 repeat' ((conv => whnf) <;> first
  | refine cD (fun _ => ?_) fun _ => ?_ | refine cE (fun _ => ?_) fun _ => ?_ | refine cT ?_ | refine cF ?_ | refine cN (fun _ => ?_) fun _ => ?_ | refine cI (fun _ => ?_) fun _ => ?_ | refine nP ?_ | refine And.intro ?_ ?_)
 all_goals first | rfl | (simp_all [zay, inR]; done) | (simp_all [zay, inR]; omega)
theorem zat (x lo hi : Int) (S : Store) : EvA Tryz.prog 63 [.s (.int .i64 x), .s (.int .i64 lo), .s (.int .i64 hi)] S (fun r S' => r = .v (.s (.bool (inR x lo hi))) ∧ S' = S) := by
 refine zac tok Tryz.func63 (by kernel_rfl) rfl ?_
 repeat' ((conv => whnf) <;> first
  | refine cD (fun _ => ?_) fun _ => ?_ | refine cE (fun _ => ?_) fun _ => ?_ | refine cT ?_ | refine cF ?_ | refine cN (fun _ => ?_) fun _ => ?_ | refine cI (fun _ => ?_) fun _ => ?_ | refine nP ?_ | refine And.intro ?_ ?_)
 all_goals first | rfl | (simp_all [zay, inR]; done) | (simp_all [zay, inR]; omega)
def ze7 (s : GSite) : Bool := inR s.Owner 1 9 && inR s.Sub 0 9
theorem zpx (s : GSite) (S : Store) : EvA Tryz.prog 336 [.agg s.c] S (fun r S' => r = .v (.s (.bool (ze7 s))) ∧ S' = S) := by
 refine zac tok Tryz.func336 (by kernel_rfl) rfl ?_
 repeat' ((conv => whnf) <;> first
  | refine cD (fun _ => ?_) fun _ => ?_ | refine cE (fun _ => ?_) fun _ => ?_ | refine cT ?_ | refine cF ?_ | refine zbu (fun _ _ => ?_) (fun _ _ => ?_) | refine zar (fun _ _ => ?_) (fun _ _ => ?_) | refine cN (fun _ => ?_) fun _ => ?_ | refine cI (fun _ => ?_) fun _ => ?_ | refine zaa (zcp _ _ _ _) ?_ | refine nP ?_ | refine And.intro ?_ ?_)
 all_goals first | rfl | (simp_all [zay, ze7]; done)
theorem zeg (s : GSite) (S : Store) : EvA Tryz.prog 103 [.agg s.c] S (fun r S' => r = .v (.s (.bool (ze7 s))) ∧ S' = S) := by
 refine zac tok Tryz.func103 (by kernel_rfl) rfl ?_
 repeat' ((conv => whnf) <;> first
  | refine cD (fun _ => ?_) fun _ => ?_ | refine cE (fun _ => ?_) fun _ => ?_ | refine cT ?_ | refine cF ?_ | refine zbu (fun _ _ => ?_) (fun _ _ => ?_) | refine zar (fun _ _ => ?_) (fun _ _ => ?_) | refine cN (fun _ => ?_) fun _ => ?_ | refine cI (fun _ => ?_) fun _ => ?_ | refine zaa (zat _ _ _ _) ?_ | refine nP ?_ | refine And.intro ?_ ?_)
 all_goals first | rfl | (simp_all [zay, ze7]; done)
def zc4 (e : GEdit) : Bool := inR e.Kind 1 4 && inR e.Node 1 99 && inR e.Parent 0 99 && inR e.Tag 0 9 && inR e.Text 0 999 && inR e.By 0 5
theorem zy3 (e : GEdit) (S : Store) : EvA Tryz.prog 298 [.agg e.c] S (fun r S' => r = .v (.s (.bool (zc4 e))) ∧ S' = S) := by
 refine zac tok Tryz.func298 (by kernel_rfl) rfl ?_
 repeat' ((conv => whnf) <;> first
  | refine cD (fun _ => ?_) fun _ => ?_ | refine cE (fun _ => ?_) fun _ => ?_ | refine cT ?_ | refine cF ?_ | refine zbu (fun _ _ => ?_) (fun _ _ => ?_) | refine zar (fun _ _ => ?_) (fun _ _ => ?_) | refine cN (fun _ => ?_) fun _ => ?_ | refine cI (fun _ => ?_) fun _ => ?_ | refine zaa (zcp _ _ _ _) ?_ | refine nP ?_ | refine And.intro ?_ ?_)
 all_goals first | rfl | (simp_all [zay, zc4]; done)
theorem zb1 (e : GEdit) (S : Store) : EvA Tryz.prog 139 [.agg e.c] S (fun r S' => r = .v (.s (.bool (zc4 e))) ∧ S' = S) := by
 refine zac tok Tryz.func139 (by kernel_rfl) rfl ?_
 repeat' ((conv => whnf) <;> first
  | refine cD (fun _ => ?_) fun _ => ?_ | refine cE (fun _ => ?_) fun _ => ?_ | refine cT ?_ | refine cF ?_ | refine zbu (fun _ _ => ?_) (fun _ _ => ?_) | refine zar (fun _ _ => ?_) (fun _ _ => ?_) | refine cN (fun _ => ?_) fun _ => ?_ | refine cI (fun _ => ?_) fun _ => ?_ | refine zaa (zat _ _ _ _) ?_ | refine nP ?_ | refine And.intro ?_ ?_)
 all_goals first | rfl | (simp_all [zay, zc4]; done)
end Go.Proofs.YtlmmdpmmdmhacaaGreat
