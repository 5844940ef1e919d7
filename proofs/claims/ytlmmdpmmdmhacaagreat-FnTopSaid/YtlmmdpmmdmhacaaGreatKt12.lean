/- Regions whose order is open, 2: an operation that puts one value and does nothing else. Regions whose order is open, 3: a schedule, and that every order does as it does. -/
import Derived.Test.YtlmmdpmmdmhacaaGreatKt11
namespace Go.Proofs.YtlmmdpmmdmhacaaGreat
open Go
set_option linter.unusedVariables false
set_option linter.unusedSimpArgs false
def z3y : Op → Bool
 | .move _ | .pick _ _ _ | .load _ _ | .nilCheck _ | .fieldAddr _ _ _ | .field _ _ _ | .indexAddr _ _ _ | .index _ _ _ | .binOp _ _ _ _ _ | .unOp _ _ _ | .convert _ _ _ | .extract _ _ | .build _ _ | .buildSlice _ _ _ | .slice _ _ _ _ _ => true
 | .call { callee := .builtin .len, .. } | .call { callee := .builtin .min, .. } | .call { callee := .builtin .max, .. } => true
 | .makeSlice _ l c => (ciOf l).isSome && (ciOf c).isSome
 | _ => false
section
variable {T : TT} {EV : Nat → List V → Store → (AV → Store → Prop) → Prop} {S : Store}
def Yl0 (T : TT) (EV : Nat → List V → Store → (AV → Store → Prop) → Prop) (o : Op) (d : Nat) (e : Env) (S : Store) (v : AV) : Prop :=
 ∀ (D : List Nat) (e1 : Env), Ag D e1 e → (∀ t ∈ opTs o, t ∉ D) → ∀ K : Env → Store → Prop, K (e1.set d v) S → dOp T EV o (some d) e1 S K
theorem zut {e : Env} {x : Operand} {K : AV → Env → Store → Prop} (hx : ∀ t, x = .tmp t → ∀ k xs, getE e t ≠ .lst k xs) (g : K (opd e x) e S) : prom e S x K := by
 unfold prom
 split
 ·rename_i t
  split
  ·rename_i k xs h; exact absurd h (hx t rfl k xs)
  ·exact g
 ·exact g
theorem z2b {e : Env} {t : Nat} {k : Nat} {xs : List (List C)} (h : getE e t = .lst k xs) : opd e (.tmp t) = .top := by simp [opd, h]
def vsOf (e : Env) : List Operand → Option (List V)
 | [] => some []
 | x :: r => match opd e x, vsOf e r with
   | .v v, some vs => some (v :: vs)
   | _, _ => none
theorem z3m {e : Env} {x : Operand} {v : V} {K : V → Env → Store → Prop} (hx : opd e x = .v v) (g : K v e S) : zl4 e S x K := by
 unfold zl4
 refine zut (fun t ht k xs h => ?_) ?_
 ·subst ht; rw [z2b h] at hx; cases hx
 ·rw [hx]; exact g
theorem zkf : ∀ {xs : List Operand} {e : Env} {vs : List V} {K : List V → Env → Store → Prop}, vsOf e xs = some vs → K vs e S → zgx e S xs K
 | [], e, vs, K, h, g => by cases h; exact g
 | x :: r, e, vs, K, h, g => by
   unfold vsOf at h
   split at h
   ·rename_i v vs' h1 h2
    cases h
    exact z3m h1 (zkf h2 g)
   ·cases h
theorem zvr {D : List Nat} {e e' : Env} (h : Ag D e e') : ∀ {xs : List Operand}, (∀ t, .tmp t ∈ xs → t ∉ D) → vsOf e xs = vsOf e' xs
 | [], _ => rfl
 | x :: r, hx => by
   unfold vsOf
   rw [h.opd (x := x) (fun t ht => hx t (by simp [ht])), zvr h (xs := r) (fun t ht => hx t (List.mem_cons_of_mem _ ht))]
theorem zyx {op : BinOp} {k : IntKind} {a b : Int} {K : V → Prop} (g : zpa op k a b K) : ∃ v, K v ∧ ∀ K' : V → Prop, K' v → zpa op k a b K' := by
 cases op <;> simp only [zpa, NeedP] at g ⊢ <;> first
  | exact ⟨_, g.2, fun K' h => ⟨g.1, h⟩⟩
  | exact ⟨_, g, fun K' h => h⟩
  | exact g.elim
theorem zxi {op : BinOp} {x y : V} {K : V → Prop} (g : aBin op x y K) : ∃ v, K v ∧ ∀ K' : V → Prop, K' v → aBin op x y K' := by
 unfold aBin at g
 split at g
 ·split at g
  ·unfold NeedP at g; exact ⟨_, g.2, fun K' h => by simp only [aBin]; unfold NeedP; exact ⟨g.1, h⟩⟩
  ·unfold NeedP at g; exact ⟨_, g.2, fun K' h => by simp only [aBin]; unfold NeedP; exact ⟨g.1, h⟩⟩
  ·rename_i k a k' b op h1 h2
   cases hb : zqe k k' with
   | true =>
     rw [hb] at g
     obtain ⟨v, h3, h4⟩ := zyx g
     refine ⟨v, h3, fun K' h => ?_⟩
     have := h4 K' h
     cases op <;> first | exact absurd rfl h1 | exact absurd rfl h2 | (simp only [aBin, hb]; exact this)
   | false => rw [hb] at g; exact g.elim
 ·split at g <;> first | exact g.elim | exact ⟨_, g, fun K' h => h⟩
 ·split at g
  ·unfold NeedP at g; exact ⟨_, g.2, fun K' h => by simp only [aBin]; unfold NeedP; exact ⟨g.1, h⟩⟩
  all_goals first | exact g.elim | exact ⟨_, g, fun K' h => h⟩
 ·exact g.elim
theorem zkp {ti : TI} {cs : List C} {K : V → Prop} (g : getV ti cs K) : ∃ v, K v ∧ ∀ K' : V → Prop, K' v → getV ti cs K' := by
 unfold getV at g ⊢
 cases ha : ti.kd.agg with
 | true =>
   simp only [ha, cond_true, zdj] at g ⊢
   cases hb : Nat.beq (cs.take ti.sz).length ti.sz with
   | true => simp only [hb, cond_true] at g ⊢; exact ⟨_, g, fun K' h => h⟩
   | false => rw [hb] at g; exact g.elim
 | false =>
   simp only [ha, cond_false] at g ⊢
   split at g
   ·exact ⟨_, g, fun K' h => h⟩
   ·exact g.elim
theorem z1a {ti : TI} {e : Env} {loc : AV} {K : V → Prop} (g : zli ti e S K loc) : ∃ v, K v ∧ ∀ (D : List Nat) (e1 : Env), Ag D e1 e → ∀ K' : V → Prop, K' v → zli ti e1 S K' loc := by
 unfold zli at g
 split at g
 ·split at g
  ·rename_i d o cs hcs
   obtain ⟨v, h1, h2⟩ := zkp g
   exact ⟨v, h1, fun D e1 ha K' h => by simp only [zli, ha.box hcs]; exact h2 K' h⟩
  ·exact g.elim
 ·unfold LoadP at g
  obtain ⟨l, hl, cs, h1, h2, g⟩ := g
  obtain ⟨v, h3, h4⟩ := zkp g
  exact ⟨v, h3, fun D e1 ha K' h => by simp only [zli]; unfold LoadP; exact ⟨l, hl, cs, h1, h2, h4 K' h⟩⟩
 ·unfold RowP at g
  obtain ⟨row, cs, h0, h1, h2, g⟩ := g
  obtain ⟨v, h3, h4⟩ := zkp g
  exact ⟨v, h3, fun D e1 ha K' h => by simp only [zli]; unfold RowP; exact ⟨row, cs, h0, h1, h2, h4 K' h⟩⟩
 ·unfold RowP at g
  obtain ⟨row, cs, h0, h1, h2, g⟩ := g
  obtain ⟨v, h3, h4⟩ := zkp g
  exact ⟨v, h3, fun D e1 ha K' h => by simp only [zli]; unfold RowP; exact ⟨row, cs, h0, h1, h2, h4 K' h⟩⟩
 ·exact g.elim
def zwr (T : TT) (S : Store) (t : Nat) (lo hi mx : Option Operand) (xv : AV) (lv hv : Option AV) (K : AV → Prop) : Prop :=
 match T t, xv with
  | some { kd := .slice e, .. }, .v (.s c) => match mx with
    | some (.const (.int _ 0)) => match lo, hi with
      | none, some (.const (.int _ 0)) => match T e with
        | some _ => Cut0P S c fun c => K (.v (.s c))
        | none => False
      | _, _ => False
    | some _ => False
    | none => match (match lv with | some x => x | none => .v (.s (.int .i64 0))) with
      | .v (.s (.int _ l)) => match hv with
        | some y => match y with
          | .v (.s (.int _ h)) => match T e with
            | some te => SliP S c te.sz l h fun c => K (.v (.s c))
            | none => False
          | _ => False
        | none => match T e with
          | some te => SlhP S c te.sz l fun c => K (.v (.s c))
          | none => False
      | _ => False
  | some { kd := .scalar 20, .. }, .v (.s (.str s)) => match mx with
    | some _ => False
    | none => match (match lv with | some x => x | none => .v (.s (.int .i64 0))), (match hv with | some x => x | none => .v (.s (.int .i64 s.size))) with
      | .v (.s (.int _ l)), .v (.s (.int _ h)) => NeedP (0 ≤ l ∧ l ≤ h ∧ h ≤ s.size) (K (.v (.s (.str (cutS s l h)))))
      | _, _ => False
  | _, _ => False
theorem zxy {t : Nat} {lo hi mx : Option Operand} {xv : AV} {lv hv : Option AV} {K : AV → Prop} (g : zwr T S t lo hi mx xv lv hv K) : ∃ v, (∀ cs, v ≠ .box cs) ∧ K v ∧ ∀ K' : AV → Prop, K' v → zwr T S t lo hi mx xv lv hv K' := by
 unfold zwr at g ⊢
 split at g
 ·split at g
  ·split at g
   ·split at g
    ·unfold Cut0P at g ⊢
     obtain ⟨xs, h1, g⟩ := g
     exact ⟨_, (by intro cs h; cases h), g, fun K' h => ⟨xs, h1, h⟩⟩
    ·exact g.elim
   ·exact g.elim
  ·exact g.elim
  ·split at g
   ·split at g
    ·split at g
     ·split at g
      ·unfold SliP at g ⊢
       obtain ⟨xs, h1, h2, h3, h4, h5, g⟩ := g
       exact ⟨_, (by intro cs h; cases h), g, fun K' h => ⟨xs, h1, h2, h3, h4, h5, h⟩⟩
      ·exact g.elim
     ·exact g.elim
    ·split at g
     ·unfold SlhP at g ⊢
      obtain ⟨xs, h1, h2, h3, h4, g⟩ := g
      exact ⟨_, (by intro cs h; cases h), g, fun K' h => ⟨xs, h1, h2, h3, h4, h⟩⟩
     ·exact g.elim
   ·exact g.elim
 ·split at g
  ·exact g.elim
  ·split at g
   ·unfold NeedP at g ⊢
    exact ⟨_, (by intro cs h; cases h), g.2, fun K' h => ⟨g.1, h⟩⟩
   ·exact g.elim
 ·exact g.elim
def zmt (e : Env) : Operand → Bool
 | .tmp t => match getE e t with
   | .lst _ _ => false
   | _ => true
 | _ => true
def zrq {α : Type} : Option α → Bool
 | some _ => true
 | none => false
def flC : Op → Env → Bool
 | .move x, e => zmt e x
 | .indexAddr _ x _, e => zmt e x
 | .build _ parts, e => zrq (vsOf e (parts.toList.map (·.2)))
 | .buildSlice _ _ parts, e => zrq (vsOf e (parts.toList.map (·.2)))
 | _, _ => true
theorem zjd {e : Env} {x : Operand} (h : zmt e x = true) : ∀ t, x = .tmp t → ∀ k xs, getE e t ≠ .lst k xs := by
 intro t ht k xs hx
 subst ht
 simp [zmt, hx] at h
theorem zv1 {e : Env} {x : Operand} {K : AV → Env → Store → Prop} (h : zmt e x = true) (g : prom e S x K) : K (opd e x) e S := by
 unfold prom at g
 split at g
 ·split at g
  ·rename_i hx; exact absurd hx (zjd h _ rfl _ _)
  ·exact g
 ·exact g
theorem zns : ∀ {xs : List Operand} {e : Env} {vs : List V} {K : List V → Env → Store → Prop}, vsOf e xs = some vs → zgx e S xs K → K vs e S
 | [], e, vs, K, h, g => by cases h; exact g
 | x :: r, e, vs, K, h, g => by
   unfold vsOf at h
   split at h
   ·rename_i v vs' h1 h2
    cases h
    unfold zgx zl4 at g
    have hn : zmt e x = true := by
     unfold zmt
     split
     ·split
      ·rename_i hx; rw [z2b hx] at h1; cases h1
      ·rfl
     ·rfl
    have g := zv1 hn g
    rw [h1] at g
    exact zns (K := fun vs e s => K (v :: vs) e s) h2 g
   ·cases h
theorem znu {e : Env} {x : Operand} {cs : List C} : opd e x ≠ .box cs := by
 intro h
 cases x with
 | tmp t =>
   simp only [opd] at h
   cases hx : getE e t <;> rw [hx] at h <;> cases h
 | const v =>
   simp only [opd] at h
   unfold z1u at h
   split at h <;> cases h
 | func f => cases h
 | global g => cases h
theorem zzg {b : Bool} {x y : AV} {cs : List C} (hx : ∀ cs, x ≠ .box cs) (hy : ∀ cs, y ≠ .box cs) : zxc b x y ≠ .box cs := by
 intro h
 unfold zxc at h
 split at h
 ·cases h
 ·cases b
  ·exact hy cs h
  ·exact hx cs h
theorem zys {o : Op} (ho : z3y o = true) {d : Nat} {e : Env} {G : Env → Store → Prop} (hc : flC o e = true) (g : dOp T EV o (some d) e S G) : ∃ v, Yl0 T EV o d e S v ∧ (∀ cs, v ≠ .box cs) ∧ G (e.set d v) S := by
 have fin : ∀ x : AV, (putK e (some d) x fun e' => G e' S) → (∀ cs, x ≠ .box cs) → (∀ (D : List Nat) (e1 : Env), Ag D e1 e → (∀ t ∈ opTs o, t ∉ D) → ∀ K' : Env → Store → Prop, (putK e1 (some d) x fun e' => K' e' S) → dOp T EV o (some d) e1 S K') → ∃ v, Yl0 T EV o d e S v ∧ (∀ cs, v ≠ .box cs) ∧ G (e.set d v) S := by
  intro x h1 h0 h2
  rw [zdd] at h1
  exact ⟨x, fun D e1 ha hD K' hk => h2 D e1 ha hD K' (by rw [zdd]; exact hk), h0, h1⟩
 have op1 : ∀ {D : List Nat} {e1 : Env}, Ag D e1 e → (∀ t ∈ opTs o, t ∉ D) → ∀ x, x ∈ o.operands → opd e1 x = opd e x := fun ha hD x hx => ha.opd fun t ht => hD t (zfl (ht ▸ hx))
 cases o <;> first | cases ho | skip
 case move x =>
  simp only [dOp] at g
  have g1 := zv1 hc g
  have g2 := zjd hc
  refine fin _ g1 (fun cs => znu) fun D e1 ha hD K' hk => ?_
  simp only [dOp]
  refine zut (fun t ht k xs h => ?_) (by rw [op1 ha hD x (by simp [Op.operands])]; exact hk)
  rw [ha.out t (hD t (zfl (by simp [Op.operands, ht])))] at h
  exact g2 t ht k xs h
 case pick c a b =>
  simp only [dOp] at g
  split at g
  ·rename_i b0 hc
   refine fin _ g (fun cs => zzg (fun cs => znu) (fun cs => znu)) fun D e1 ha hD K' hk => ?_
   simp only [dOp, op1 ha hD c (by simp [Op.operands]), op1 ha hD a (by simp [Op.operands]), op1 ha hD b (by simp [Op.operands]), hc]
   exact hk
  ·exact g.elim
 case build t parts =>
  simp only [dOp] at g
  have hc' : zrq (vsOf e (parts.toList.map (·.2))) = true := hc
  cases h1 : vsOf e (parts.toList.map (·.2)) with
  | none => rw [h1] at hc'; cases hc'
  | some vs =>
  have g := zns h1 g
  have h2 : ∀ {D : List Nat} {e1 : Env}, Ag D e1 e → (∀ t ∈ opTs (.build t parts), t ∉ D) → vsOf e1 (parts.toList.map (·.2)) = some vs := fun ha hD => by
   rw [zvr ha (fun t ht => hD t (zfl (by simpa [Op.operands] using ht))), h1]
  split at g
  ·rename_i hT
   split at g
   ·rename_i cs hf
    refine fin _ g (by intro cs h; cases h) fun D e1 ha hD K' hk => ?_
    simp only [dOp]
    refine zkf (h2 ha hD) ?_
    simp only [hT, hf]
    exact hk
   ·exact g.elim
  ·rename_i hT
   split at g
   ·rename_i hT'
    split at g
    ·rename_i hf
     refine fin _ g (by intro cs h; cases h) fun D e1 ha hD K' hk => ?_
     simp only [dOp]
     refine zkf (h2 ha hD) ?_
     simp only [hT, hT', hf]
     exact hk
    ·exact g.elim
   ·exact g.elim
  ·exact g.elim
 case buildSlice t len parts =>
  simp only [dOp] at g
  have hc' : zrq (vsOf e (parts.toList.map (·.2))) = true := hc
  cases h1 : vsOf e (parts.toList.map (·.2)) with
  | none => rw [h1] at hc'; cases hc'
  | some vs =>
  have g := zns h1 g
  have h2 : ∀ {D : List Nat} {e1 : Env}, Ag D e1 e → (∀ t' ∈ opTs (.buildSlice t len parts), t' ∉ D) → vsOf e1 (parts.toList.map (·.2)) = some vs := fun ha hD => by
   rw [zvr ha (fun t' ht => hD t' (zfl (by simpa [Op.operands] using ht))), h1]
  split at g
  ·rename_i hT
   split at g
   ·rename_i te hT'
    cases hb : Nat.ble (len * te.sz) 16777216 with
    | false => rw [hb] at g; exact g.elim
    | true =>
      rw [hb] at g
      simp only [cond_true] at g
      split at g
      ·rename_i xs hf
       simp only [zb3] at g
       refine ⟨_, fun D e1 ha hD K' hk => ?_, (by intro cs h; cases h), g⟩
       simp only [dOp]
       refine zkf (h2 ha hD) ?_
       simp only [hT, hT', hf, hb, zb3, cond_true]
       exact hk
      ·exact g.elim
   ·exact g.elim
  ·exact g.elim
 case makeSlice t l c =>
  have ho' : ((ciOf l).isSome && (ciOf c).isSome) = true := ho
  cases hl : ciOf l with
  | none => rw [hl] at ho'; cases ho'
  | some n =>
    cases hc2 : ciOf c with
    | none => rw [hl, hc2] at ho'; cases ho'
    | some n' =>
      simp only [dOp, hl, hc2] at g
      split at g
      ·rename_i hT
       split at g
       ·rename_i te hT'
        unfold NeedP at g
        have g2 := g.2
        simp only [zb3] at g2
        refine ⟨_, fun D e1 ha hD K' hk => ?_, (by intro cs h; cases h), g2⟩
        simp only [dOp, hl, hc2, hT, hT', zb3]
        unfold NeedP
        exact ⟨g.1, hk⟩
       ·exact g.elim
      ·exact g.elim
 case load t x =>
  simp only [dOp] at g
  split at g
  ·rename_i ti hT
   obtain ⟨v, h1, h2⟩ := z1a g
   refine fin _ h1 (by intro cs h; cases h) fun D e1 ha hD K' hk => ?_
   simp only [dOp, hT, op1 ha hD x (by simp [Op.operands])]
   exact h2 D e1 ha _ hk
  ·exact g.elim
 case nilCheck x =>
  simp only [dOp] at g
  split at g <;> first | exact g.elim | skip
  all_goals
   rename_i hx
   refine fin _ g (by intro cs h; cases h) fun D e1 ha hD K' hk => ?_
   simp only [dOp, op1 ha hD x (by simp [Op.operands]), hx]
   exact hk
 case fieldAddr t x i =>
  simp only [dOp] at g
  split at g
  ·rename_i o' ho'
   split at g <;> first | exact g.elim | skip
   all_goals
    rename_i hx
    refine fin _ g (by intro cs h; cases h) fun D e1 ha hD K' hk => ?_
    simp only [dOp, ho', op1 ha hD x (by simp [Op.operands]), hx]
    exact hk
  ·exact g.elim
 case field t x i =>
  simp only [dOp] at g
  split at g
  ·rename_i hT
   split at g
   ·rename_i ho he
    split at g
    ·rename_i hte
     split at g
     ·rename_i hx
      obtain ⟨v, h1, h2⟩ := zkp g
      refine fin _ h1 (by intro cs h; cases h) fun D e1 ha hD K' hk => ?_
      simp only [dOp, hT, ho, he, hte, op1 ha hD x (by simp [Op.operands]), hx]
      exact h2 _ hk
     ·exact g.elim
    ·exact g.elim
   ·exact g.elim
  ·exact g.elim
 case indexAddr t x i =>
  simp only [dOp] at g
  have g := zv1 (x := x) hc g
  have g2 := zjd (x := x) hc
  have pr : ∀ {D : List Nat} {e1 : Env}, Ag D e1 e → (∀ t' ∈ opTs (.indexAddr t x i), t' ∉ D) → ∀ {L : AV → Env → Store → Prop}, L (opd e x) e1 S → prom e1 S x L := fun {D e1} ha hD {L} hL => zut (fun t' ht k xs h => by
   rw [ha.out t' (hD t' (zfl (by simp [Op.operands, ht])))] at h
   exact g2 t' ht k xs h) (by rw [op1 ha hD x (by simp [Op.operands])]; exact hL)
  split at g
  ·rename_i hx hi
   split at g
   ·rename_i hT
    split at g
    ·rename_i te hT'
     unfold IdxP at g
     obtain ⟨l, cs, k1, k2, k3, k4, g⟩ := g
     refine fin _ g (by intro cs h; cases h) fun D e1 ha hD K' hk => ?_
     simp only [dOp]
     refine pr ha hD ?_
     simp only [hx, op1 ha hD i (by simp [Op.operands]), hi, hT, hT']
     unfold IdxP
     exact ⟨l, cs, k1, k2, k3, k4, hk⟩
    ·exact g.elim
   ·exact g.elim
  ·rename_i hx hi
   split at g
   ·rename_i hT
    split at g
    ·rename_i te hT'
     unfold NeedP at g
     refine fin _ g.2 (by intro cs h; cases h) fun D e1 ha hD K' hk => ?_
     simp only [dOp]
     refine pr ha hD ?_
     simp only [hx, op1 ha hD i (by simp [Op.operands]), hi, hT, hT']
     unfold NeedP
     exact ⟨g.1, hk⟩
    ·exact g.elim
   ·exact g.elim
  ·exact g.elim
 case index t x i =>
  simp only [dOp] at g
  split at g
  ·rename_i hx hi
   split at g
   ·rename_i hT
    split at g
    ·rename_i hT'
     unfold NeedP at g
     refine fin _ g.2 (by intro cs h; cases h) fun D e1 ha hD K' hk => ?_
     simp only [dOp, op1 ha hD x (by simp [Op.operands]), hx, op1 ha hD i (by simp [Op.operands]), hi, hT, hT']
     unfold NeedP
     exact ⟨g.1, hk⟩
    ·exact g.elim
   ·exact g.elim
  ·rename_i hx hi
   split at g
   ·rename_i hT
    unfold NeedP at g
    refine fin _ g.2 (by intro cs h; cases h) fun D e1 ha hD K' hk => ?_
    simp only [dOp, op1 ha hD x (by simp [Op.operands]), hx, op1 ha hD i (by simp [Op.operands]), hi, hT]
    unfold NeedP
    exact ⟨g.1, hk⟩
   ·exact g.elim
  ·exact g.elim
 case extract x i =>
  simp only [dOp] at g
  split at g
  ·rename_i hx
   split at g
   ·rename_i v hv
    refine fin _ g (by intro cs h; cases h) fun D e1 ha hD K' hk => ?_
    simp only [dOp, op1 ha hD x (by simp [Op.operands]), hx, hv]
    exact hk
   ·exact g.elim
  ·exact g.elim
 case unOp b t x =>
  simp only [dOp] at g
  split at g <;> first | exact g.elim | skip
  all_goals
   rename_i hx
   refine fin _ g (by intro cs h; cases h) fun D e1 ha hD K' hk => ?_
   simp only [dOp, op1 ha hD x (by simp [Op.operands]), hx]
   exact hk
 case binOp b t x y _ =>
  simp only [dOp] at g
  split at g
  ·rename_i hx hy
   split at g
   ·rename_i hT
    split at g
    ·rename_i hq
     split at g <;> first | exact g.elim | skip
     all_goals
      refine fin _ g (by intro cs h; cases h) fun D e1 ha hD K' hk => ?_
      simp only [dOp, op1 ha hD x (by simp [Op.operands]), op1 ha hD y (by simp [Op.operands]), hx, hy, hT, hq]
      exact hk
    ·exact g.elim
   ·exact g.elim
  ·rename_i hx hy
   split at g
   ·rename_i hT hn
    split at g <;> first | exact g.elim | skip
    all_goals
     refine fin _ g (by intro cs h; cases h) fun D e1 ha hD K' hk => ?_
     simp only [dOp, op1 ha hD x (by simp [Op.operands]), op1 ha hD y (by simp [Op.operands]), hx, hy, hT, hn]
     exact hk
   ·exact g.elim
  ·rename_i hx hy
   split at g
   ·rename_i hT
    obtain ⟨v, h1, h2⟩ := zxi g
    refine fin _ h1 (by intro cs h; cases h) fun D e1 ha hD K' hk => ?_
    simp only [dOp, op1 ha hD x (by simp [Op.operands]), op1 ha hD y (by simp [Op.operands]), hx, hy, hT]
    exact h2 _ hk
   ·exact g.elim
  ·rename_i n1 n2 n3 hx hy
   obtain ⟨v, h1, h2⟩ := zxi g
   refine fin _ h1 (by intro cs h; cases h) fun D e1 ha hD K' hk => ?_
   simp only [dOp, op1 ha hD x (by simp [Op.operands]), op1 ha hD y (by simp [Op.operands]), hx, hy]
   exact h2 _ hk
  ·exact g.elim
 case convert s t x =>
  have srcs : ∀ {D : List Nat} {e1 : Env}, Ag D e1 e → (∀ t' ∈ opTs (.convert s t x), t' ∉ D) → ∀ {L : List (List C) → Prop}, zhy e S x L → zhy e1 S x L := fun {D e1} ha hD {L} g => zw5 ha (fun t' ht => hD t' (zfl (by simp [Op.operands, ht]))) g
  simp only [dOp] at g
  split at g
  ·rename_i hs ht
   split at g
   ·rename_i hx hk0
    refine fin _ g (by intro cs h; cases h) fun D e1 ha hD K' hk => ?_
    simp only [dOp, op1 ha hD x (by simp [Op.operands]), hs, ht, hx, hk0]
    exact hk
   ·exact g.elim
  ·rename_i hs ht
   split at g
   ·rename_i hT
    have : ∃ xs, (∀ y ∈ xs, ∃ n, y = [C.int .u8 n]) ∧ (putK e (some d) (.v (.s (.str (strOf xs)))) fun e' => G e' S) ∧ ∀ L : List (List C) → Prop, L xs → zhy e S x L := by
     unfold zhy at g
     split at g
     ·rename_i t'
      split at g
      ·rename_i h0; unfold NeedP at g; exact ⟨_, g.1, g.2, fun L h => by simp only [zhy, h0]; exact h⟩
      ·rename_i h0; unfold ElemsP NeedP at g; obtain ⟨l, h1, h2, h3⟩ := g; exact ⟨l, h2, h3, fun L h => by simp only [zhy, h0]; unfold ElemsP; exact ⟨l, h1, h⟩⟩
      ·exact g.elim
     ·unfold NeedP at g; exact ⟨_, g.1, g.2, fun L h => by simp only [zhy]; exact h⟩
     ·exact g.elim
    obtain ⟨xs, h1, h2, h3⟩ := this
    refine fin _ h2 (by intro cs h; cases h) fun D e1 ha hD K' hk => ?_
    simp only [dOp, hs, ht, hT]
    refine srcs ha hD (h3 _ ?_)
    unfold NeedP
    exact ⟨h1, hk⟩
   ·exact g.elim
  ·exact g.elim
 case slice t x lo hi mx =>
  have key : ∀ (e : Env) (K : Env → Store → Prop), dOp T EV (.slice t x lo hi mx) (some d) e S K = zwr T S t lo hi mx (opd e x) (lo.map (opd e)) (hi.map (opd e)) (fun v => putK e (some d) v fun e => K e S) := fun e K => by
   cases lo <;> cases hi <;> rfl
  rw [key] at g
  obtain ⟨v, h0, h1, h2⟩ := zxy g
  refine fin _ h1 h0 fun D e1 ha hD K' hk => ?_
  rw [key, op1 ha hD x (by simp [Op.operands])]
  have hl : lo.map (opd e1) = lo.map (opd e) := by
   cases lo with
   | none => rfl
   | some y => simp [op1 ha hD y (by simp [Op.operands])]
  have hh : hi.map (opd e1) = hi.map (opd e) := by
   cases hi with
   | none => rfl
   | some y => simp [op1 ha hD y (by simp [Op.operands])]
  rw [hl, hh]
  exact h2 _ hk
 case call c =>
  obtain ⟨callee, args, ats⟩ := c
  cases callee with
  | invoke r m => cases ho
  | value f => cases ho
  | builtin b =>
    have op2 : ∀ {D : List Nat} {e1 : Env}, Ag D e1 e → (∀ t ∈ opTs (.call ⟨.builtin b, args, ats⟩), t ∉ D) → ∀ x, x ∈ args.toList → (opd e1 x = opd e x ∧ ∀ t, x = .tmp t → getE e1 t = getE e t) := fun ha hD x hx =>
     ⟨op1 ha hD x (by simp [Op.operands, Call.operands]; simpa using hx), fun t ht => ha.out t (hD t (zfl (by subst ht; simp [Op.operands, Call.operands]; simpa using hx)))⟩
    have hdop : ∀ (e : Env) (K : Env → Store → Prop), dOp T EV (.call ⟨.builtin b, args, ats⟩) (some d) e S K = zep T b args.toList ats.toList (some d) e S K := fun e K => rfl
    rw [hdop] at g
    generalize args.toList = as at *
    generalize ats.toList = ts at *
    cases b <;> first | cases ho | skip
    case builtin.len.refl =>
     unfold zep at g
     split at g
     ·split at g
      ·rename_i t ty _
       split at g
       ·rename_i hT
        split at g
        ·rename_i hx
         refine fin _ g (by intro cs h; cases h) fun D e1 ha hD K' hk => ?_
         rw [hdop]
         simp only [zep, hT, (op2 ha hD (.tmp t) (by simp)).2 t rfl, hx]
         exact hk
        ·rename_i hx
         unfold LenP at g
         obtain ⟨l, h1, g⟩ := g
         refine fin _ g (by intro cs h; cases h) fun D e1 ha hD K' hk => ?_
         rw [hdop]
         simp only [zep, hT, (op2 ha hD (.tmp t) (by simp)).2 t rfl, hx]
         unfold LenP
         exact ⟨l, h1, hk⟩
        ·exact g.elim
       ·rename_i hT
        split at g
        ·rename_i hx
         refine fin _ g (by intro cs h; cases h) fun D e1 ha hD K' hk => ?_
         rw [hdop]
         simp only [zep, hT, (op2 ha hD (.tmp t) (by simp)).2 t rfl, hx]
         exact hk
        ·exact g.elim
       ·exact g.elim
      ·exact g.elim
     all_goals first | exact g.elim | (exfalso; simp_all; done)
    all_goals
     unfold zep at g
     split at g <;> first | exact g.elim | (exfalso; simp_all; done) | skip
     rename_i x y _
     split at g
     ·rename_i h1 h2
      refine fin _ g (by intro cs h; cases h) fun D e1 ha hD K' hk => ?_
      rw [hdop]
      simp only [zep, (op2 ha hD x (by simp)).1, (op2 ha hD y (by simp)).1, h1, h2]
      exact hk
     ·exact g.elim
def isFl : Op → Bool
 | .alloc _ => true
 | o => z3y o
theorem z1x {o : Op} (h : z3y o = true) (dst : Option Nat) (e : Env) (K : Env → Store → Prop) : dOpD T EV o dst e S K = dOp T EV o dst e S K := by
 cases o <;> first | rfl | cases h
def Yl (T : TT) (EV : Nat → List V → Store → (AV → Store → Prop) → Prop) (o : Op) (d : Nat) (e : Env) (S : Store) (v : AV) : Prop :=
 ∀ (D : List Nat) (e1 : Env), Ag D e1 e → (∀ t ∈ opTs o, t ∉ D) → ∀ K : Env → Store → Prop, K (e1.set d v) S → dOpD T EV o (some d) e1 S K
theorem zug {o : Op} (ho : isFl o = true) {d : Nat} {e : Env} {G : Env → Store → Prop} (hc : flC o e = true) (g : dOpD T EV o (some d) e S G) : ∃ v, Yl T EV o d e S v ∧ (∀ cs, v ≠ .box cs) ∧ G (e.set d v) S := by
 by_cases h0 : z3y o = true
 ·rw [z1x h0] at g
  obtain ⟨v, k1, k2, k3⟩ := zys h0 hc g
  exact ⟨v, fun D e1 ha hD K hk => by rw [z1x h0]; exact k1 D e1 ha hD K hk, k2, k3⟩
 ·cases o <;> first | (exact absurd ho h0) | skip
  case alloc t =>
   simp only [dOpD] at g
   cases ht : T t with
   | none => rw [ht] at g; exact g.elim
   | some ti =>
     rw [ht] at g
     simp only [zdj, zb3] at g
     refine ⟨_, fun D e1 ha hD K hk => ?_, (by intro cs h; cases h), g⟩
     simp only [dOpD, ht, zdj, zb3]
     exact hk
end
inductive It where
 | fl (i : Nat)
 | st (i : Nat) (pend : List Nat)
def It.i : It → Nat
 | .fl i => i
 | .st i _ => i
def z1h (all : List Oper) (o : Oper) : List Nat :=
 match o.guard with
 | some (j, _) => match (all[j]?).bind (·.dst) with
   | some t => [t]
   | none => []
 | none => []
def zj3 (all : List Oper) (o : Oper) : List Nat := opTs o.op ++ z1h all o
def zeh (o : Oper) : List Nat := (o.after.toList.filter (fun e => Region.binds .any e)).map (·.on)
def bitB (m k : Nat) : Bool := Nat.testBit m k
def zi6 : List Oper → List Nat → List Nat
 | [], t => t
 | o :: r, t => zi6 r (t ++ [(zeh o).foldl (fun m d => m ||| (2 ^ d ||| t.getD d 0)) 0])
def isGd (all : List Oper) (i : Nat) : Bool := all.any fun o => match o.guard with
 | some (j, _) => Nat.beq j i
 | none => false
def zzu : AV → Bool
 | .box _ => false
 | _ => true
def zqq (all : List Oper) (i : Nat) : Option Nat := (all[i]?).bind (·.dst)
def zgs (all : List Oper) (tab : List Nat) : List It → Bool
 | [] => true
 | .fl i :: r => (match all[i]? with
    | some o => isFl o.op && (match o.dst with
      | some d => !(zj3 all o).contains d
         && ((List.range all.length).all fun k => (match all[k]? with | some ok => !(zj3 all ok).contains d || bitB (tab.getD k 0) i | none => true) && (Nat.beq k i || !(zqq all k == some d)))
      | none => false)
    | none => false) && ((r.map It.i).all fun k => !bitB (tab.getD i 0) k && !Nat.beq k i) && zgs all tab r
 | .st j pend :: r => (match all[j]? with
    | some o => isSt o.op
    | none => false) && ((r.map It.i).all fun k => bitB (tab.getD k 0) j && !Nat.beq k j)
    && ((List.range all.length).all fun i => Nat.beq i j || (r.map It.i).contains i || pend.contains i || bitB (tab.getD j 0) i) && zgs all tab r
def zvf (all : List Oper) (items : List It) : Bool :=
 zgs all (zi6 all []) items && ((List.range all.length).all fun i => (items.map It.i).contains i && ((all[i]?).map fun o => (zeh o).all (fun k => Nat.blt k i)).getD false)
  && Nat.beq items.length all.length
section
variable (T : TT) (EV : Nat → List V → Store → (AV → Store → Prop) → Prop)
def zwd (g : Bool) (d : Nat) (env : Env) (K : Env → Prop) : Prop :=
 bif g then match getE env d with
  | .v (.s (.bool b)) => CondP b (ze0 (env.set d (.v (.s (.bool true)))) K) (ze0 (env.set d (.v (.s (.bool false)))) K)
  | _ => K env
 else K env
def flW (all : List Oper) (o : Oper) (e : Env) : Bool := match zhx all o e with
 | some false => true
 | _ => flC o.op e
theorem z4c {all : List Oper} {o : Oper} {e : Env} (h : flW all o e = true) (hw : zhx all o e = some true) : flC o.op e = true := by
 unfold flW at h; rw [hw] at h; exact h
def zvj (all : List Oper) (env : Env) (S : Store) : List Nat → Prop → Prop
 | [], A => A
 | i :: r, A => match all[i]? with
   | some o => match o.dst with
     | some d => bif Nat.blt d env.length && flW all o env then zfg T EV all o (fun env' _ => getE env' d = getE env d) env S ∧ zvj all env S r A else False
     | none => False
   | none => False
def zfb (all : List Oper) (K : Env → Store → Prop) : List It → Env → Store → Prop
 | [], env, S => K env S
 | .fl i :: r, env, S => match all[i]? with
   | some o => match o.dst with
     | some d => bif Nat.blt d env.length && zzu (getE env d) && flW all o env then zfg T EV all o (fun env' _ => zwd (isGd all i) d env' fun env => zfb all K r env S) env S else False
     | none => False
   | none => False
 | .st j pend :: r, env, S => match all[j]? with
   | some o => zfg T EV all o (fun env' S' => zvj T EV all env' S' pend (zfb all K r env' S')) env S
   | none => False
end
end Go.Proofs.YtlmmdpmmdmhacaaGreat
