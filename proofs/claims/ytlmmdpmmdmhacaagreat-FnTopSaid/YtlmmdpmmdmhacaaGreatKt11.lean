/- Regions whose order is open, 1: what one operation looks at, and what it does where only that agrees. -/
import Derived.Test.YtlmmdpmmdmhacaaGreatKt10
namespace Go.Proofs.YtlmmdpmmdmhacaaGreat
open Go
set_option linter.unusedVariables false
set_option linter.unusedSimpArgs false
theorem zc5 {env : Env} {d t : Nat} {v : AV} : getE (env.set d v) t = if t = d ∧ d < env.length then v else getE env t := by
 unfold getE
 by_cases h : t = d
 ·subst h
  by_cases hl : t < env.length
  ·rw [if_pos ⟨rfl, hl⟩]; simp [hl]
  ·rw [if_neg (fun x => hl x.2)]
   rw [List.set_eq_of_length_le (by omega)]
 ·rw [if_neg (fun x => h x.1)]
  simp [Ne.symm h]
theorem zro {env : Env} {f : AV → AV} (hf : f .top = .top) {t : Nat} : getE (env.map f) t = f (getE env t) := by
 unfold getE
 rw [List.getD_eq_getElem?_getD, List.getD_eq_getElem?_getD, List.getElem?_map]
 cases env[t]? <;> simp [hf]
structure Ag (D : List Nat) (e e' : Env) : Prop where
 len : e.length = e'.length
 out : ∀ t, t ∉ D → getE e t = getE e' t
 nob : ∀ t, t ∈ D → ∀ cs, getE e' t ≠ .box cs
section
variable {T : TT} {EV : Nat → List V → Store → (AV → Store → Prop) → Prop} {D : List Nat} {e e' : Env} {S : Store}
theorem Ag.set (h : Ag D e e') (d : Nat) {v : AV} (hv : d ∈ D → ∀ cs, v ≠ .box cs) : Ag D (e.set d v) (e'.set d v) where
 len := by simp [h.len]
 out := fun t ht => by rw [zc5, zc5, h.len, h.out t ht]
 nob := fun t ht cs => by
  rw [zc5]
  split
  ·rename_i hh; exact hv (hh.1 ▸ ht) cs
  ·exact h.nob t ht cs
theorem Ag.map (h : Ag D e e') (f : AV → AV) (hf : f .top = .top) (hb : ∀ x cs, f x = .box cs → x = .box cs) : Ag D (e.map f) (e'.map f) where
 len := by simp [h.len]
 out := fun t ht => by rw [zro hf, zro hf, h.out t ht]
 nob := fun t ht cs hx => by
  rw [zro hf] at hx
  exact h.nob t ht cs (hb _ _ hx)
theorem zsn (d : Nat) (x : AV) (cs : List C) (h : zlc d x = .box cs) : x = .box cs := by
 unfold zlc at h
 split at h
 ·rename_i d' o
  cases hb : Nat.beq d' d <;> rw [hb] at h <;> cases h
 ·exact h
theorem zz5 (t id : Nat) (x : AV) (cs : List C) (h : zjs t id x = .box cs) : x = .box cs := by
 unfold zjs at h
 split at h
 ·rename_i d' o
  cases hb : Nat.beq d' t <;> rw [hb] at h <;> cases h
 ·exact h
theorem Ag.opd (h : Ag D e e') {x : Operand} (hx : ∀ t, x = .tmp t → t ∉ D) : opd e x = opd e' x := by
 cases x with
 | tmp t => simp only [Go.Proofs.YtlmmdpmmdmhacaaGreat.opd, h.out t (hx t rfl)]
 | _ => rfl
theorem Ag.box (h : Ag D e e') {d : Nat} {cs : List C} (hd : getE e' d = .box cs) : getE e d = .box cs := by
 rw [h.out d fun hD => h.nob d hD cs hd, hd]
abbrev Sim (D : List Nat) {α : Type} (K' K : α → Env → Store → Prop) : Prop := ∀ x e e' S, Ag D e e' → K' x e' S → K x e S
theorem zvu {K' K : AV → Env → Store → Prop} (hK : Sim D K' K) (h : Ag D e e') {x : Operand} (hx : ∀ t, x = .tmp t → t ∉ D) (g : prom e' S x K') : prom e S x K := by
 unfold prom at g ⊢
 cases x with
 | tmp t =>
   simp only at g ⊢
   rw [h.out t (hx t rfl)]
   split at g
   ·rename_i k xs hk
    simp only [zdd, putE] at g ⊢
    exact hK _ _ _ _ (h.set t (fun hD => absurd hD (hx t rfl))) g
   ·rw [h.opd hx]; exact hK _ _ _ _ h g
 | _ => exact hK _ _ _ _ h (by simpa [h.opd hx] using g)
theorem zmc {K' K : V → Env → Store → Prop} (hK : Sim D K' K) (h : Ag D e e') {x : Operand} (hx : ∀ t, x = .tmp t → t ∉ D) (g : zl4 e' S x K') : zl4 e S x K := by
 unfold zl4 at g ⊢
 refine zvu (fun v e e' S h g => ?_) h hx g
 split at g
 ·exact hK _ _ _ _ h g
 ·rename_i d
  split at g
  ·rename_i cs hcs
   simp only [h.box hcs]
   unfold zru at g ⊢
   simp only [zww, zb3] at g ⊢
   exact hK _ _ _ _ ((h.map _ rfl (zz5 d S.length)).set d (fun _ cs => by simp)) g
  ·exact g.elim
 ·exact g.elim
theorem zn1 : ∀ {xs : List Operand} {K' K : List V → Env → Store → Prop} {e e' : Env} {S : Store}, Sim D K' K → Ag D e e' → (∀ t, .tmp t ∈ xs → t ∉ D) → zgx e' S xs K' → zgx e S xs K
 | [], _, _, _, _, _, hK, h, _, g => hK _ _ _ _ h g
 | x :: r, K', K, _, _, _, hK, h, hx, g =>
   zmc (K' := fun v e S => zgx e S r fun vs e S => K' (v :: vs) e S) (K := fun v e S => zgx e S r fun vs e S => K (v :: vs) e S)
    (fun v e e' S h g => zn1 (fun vs e e' S h g => hK _ _ _ _ h g) h (fun t ht => hx t (List.mem_cons_of_mem _ ht)) g) h (fun t ht => hx t (by simp [ht])) g
theorem zw5 {K : List (List C) → Prop} (h : Ag D e e') {x : Operand} (hx : ∀ t, x = .tmp t → t ∉ D) (g : zhy e' S x K) : zhy e S x K := by
 unfold zhy at g ⊢
 split at g
 ·rename_i t
  simp only [h.out t (hx t rfl)]; exact g
 ·exact g
 ·exact g.elim
theorem z0f {K' K : Env → Store → Prop} (hK : ∀ e e' S, Ag D e e' → K' e' S → K e S) (h : Ag D e e') {ys : List C} {loc : AV} (g : zko e' S ys K' loc) : zko e S ys K loc := by
 unfold zko at g ⊢
 split at g
 ·rename_i d o
  split at g
  ·rename_i cs hcs
   simp only [h.box hcs]
   cases hb : Nat.ble (o + ys.length) cs.length with
   | true =>
     simp only [hb, cond_true, zdd, putE] at g ⊢
     exact hK _ _ _ (h.set d (fun hD => absurd hcs (h.nob d hD cs))) g
   | false => simp [hb] at g
  ·exact g.elim
 ·unfold StoP at g ⊢
  obtain ⟨id, o', n, t, row, cs, h1, h2, h3, h4, h5, h6, h7, h8, h9, g⟩ := g
  exact ⟨id, o', n, t, row, cs, h1, h2, h3, h4, h5, h6, h7, h8, h9, hK _ _ _ h g⟩
 ·unfold RowP NeedP at g ⊢
  obtain ⟨row, cs, h1, h2, h3, h4, g⟩ := g
  exact ⟨row, cs, h1, h2, h3, h4, hK _ _ _ h g⟩
 ·unfold RowP NeedP at g ⊢
  obtain ⟨row, cs, h1, h2, h3, h4, g⟩ := g
  exact ⟨row, cs, h1, h2, h3, h4, hK _ _ _ h g⟩
 ·exact g.elim
end
def opTs (o : Op) : List Nat := o.operands.toList.filterMap fun | .tmp t => some t | _ => none
theorem zfl {o : Op} {t : Nat} (h : .tmp t ∈ o.operands) : t ∈ opTs o := List.mem_filterMap.2 ⟨.tmp t, by simpa using h, rfl⟩
def isSt : Op → Bool
 | .call { callee := .value _, .. } => true
 | .call { callee := .builtin .append, .. } => true
 | .store _ _ _ | .assign _ | .move _ | .build _ _ | .box _ _ | .makeSlice _ _ _ => true
 | _ => false
section
variable {T : TT} {EV : Nat → List V → Store → (AV → Store → Prop) → Prop} {D : List Nat} {S : Store}
theorem zy2 {f : Nat} {vs : List V} {K K' : AV → Store → Prop} (h : ∀ r S, K r S → K' r S) (g : CallP EV f vs S K) : CallP EV f vs S K' := by
 unfold CallP at g ⊢
 obtain ⟨R, h1, h2⟩ := g
 exact ⟨R, h1, fun r S' hr => h _ _ (h2 r S' hr)⟩
theorem zzz {k by' : Nat} {c : C} {ys : List (List C)} {K K' : C → Store → Prop} (h : ∀ r S, K r S → K' r S) (g : AppP k by' S c ys K) : AppP k by' S c ys K' := by
 unfold AppP at g ⊢
 refine ⟨g.1, ?_⟩
 rcases g.2 with ⟨h1, h2, h3, h4⟩ | ⟨h1, h2, h3, h4⟩ | ⟨id, xs, h1, h2, h3, h4⟩
 ·exact .inl ⟨h1, h2, fun e => h _ _ (h3 e), fun e => h _ _ (h4 e)⟩
 ·exact .inr (.inl ⟨h1, h2, fun e => h _ _ (h3 e), fun e => h _ _ (h4 e)⟩)
 ·exact .inr (.inr ⟨id, xs, h1, h2, h3, h _ _ h4⟩)
theorem zza {e : Env} {x : Operand} {K K' : List (List C) → Prop} (h : ∀ l, K l → K' l) (g : zhy e S x K) : zhy e S x K' := by
 unfold zhy at g ⊢
 split at g
 ·split at g
  ·exact h _ g
  ·unfold ElemsP at g ⊢
   obtain ⟨l, h1, h2⟩ := g
   exact ⟨l, h1, h _ h2⟩
  ·exact g.elim
 ·exact h _ g
 ·exact g.elim
theorem zws {o : Op} (ho : isSt o = true) {dst : Option Nat} {K' K : Env → Store → Prop} (hK : ∀ e e' S, Ag D e e' → K' e' S → K e S) {e e' : Env} (h : Ag D e e') (hD : ∀ t ∈ opTs o, t ∉ D) (hd : ∀ d, dst = some d → d ∉ D)
 (g : dOp T EV o dst e' S K') : dOp T EV o dst e S K := by
 have hop : ∀ x, x ∈ o.operands → ∀ t, x = .tmp t → t ∉ D := fun x hx t ht => hD t (zfl (ht ▸ hx))
 have put : ∀ (v : AV) (e e' : Env) (S : Store), Ag D e e' → (putK e' dst v fun e' => K' e' S) → putK e dst v fun e => K e S := by
  intro v e e' S h g
  rw [zdd] at g ⊢
  cases dst with
  | none => exact hK _ _ _ h g
  | some d => exact hK _ _ _ (h.set d (fun hx => absurd hx (hd d rfl))) g
 cases o <;> first | cases ho | skip
 case move x =>
  simp only [dOp] at g ⊢
  exact zvu (K' := fun v e S => putK e dst v fun e => K' e S) (fun v e e' S h g => put _ _ _ _ h g) h (fun t ht => hop x (by simp [Op.operands]) t ht) g
 case assign x =>
  simp only [dOp] at g ⊢
  exact zvu (K' := fun v e S => putK e dst v fun e => K' e S) (fun v e e' S h g => put _ _ _ _ h g) h (fun t ht => hop x (by simp [Op.operands]) t ht) g
 case box t x =>
  simp only [dOp] at g ⊢
  split at g
  ·rename_i d
   refine zmc (fun v e e' S h g => ?_) h (fun t ht => hop x (by simp [Op.operands]) t ht) g
   simp only [zdj, zh2, zb3] at g ⊢
   exact hK _ _ _ ((h.map _ rfl (zsn d)).set d (fun hx => absurd hx (hd d rfl))) g
  ·exact g.elim
 case build t parts =>
  simp only [dOp] at g ⊢
  refine zn1 (fun vs e e' S h g => ?_) h (fun t ht => hop (.tmp t) (by simpa [Op.operands] using ht) t rfl) g
  split at g
  ·split at g
   ·exact put _ _ _ _ h g
   ·exact g.elim
  ·split at g
   ·split at g
    ·exact put _ _ _ _ h g
    ·exact g.elim
   ·exact g.elim
  ·exact g.elim
 case store t x y =>
  simp only [dOp] at g ⊢
  split at g
  ·exact g.elim
  ·refine zmc (fun v e1 e1' S h1 g => ?_) h (fun t ht => hop y (by simp [Op.operands]) t ht) g
   rw [h1.opd (x := x) (fun t ht => hop x (by simp [Op.operands]) t ht)]
   split at g
   ·rename_i ti _
    cases hb : Nat.beq v.cells.length ti.sz with
    | true => rw [hb] at g; exact z0f hK h1 g
    | false => rw [hb] at g; exact g.elim
   ·exact g.elim
 case makeSlice t l c =>
  cases hl : ciOf l with
  | none =>
    simp only [dOp, hl] at g ⊢
    rw [h.opd (x := l) (fun t ht => hop l (by simp [Op.operands]) t ht), h.opd (x := c) (fun t ht => hop c (by simp [Op.operands]) t ht)]
    split at g
    ·split at g
     ·split at g
      ·unfold NeedP at g ⊢
       exact ⟨g.1, put _ _ _ _ h g.2⟩
      ·exact g.elim
     ·exact g.elim
    ·exact g.elim
  | some n =>
    cases hc : ciOf c with
    | none =>
      simp only [dOp, hl, hc] at g ⊢
      rw [h.opd (x := l) (fun t ht => hop l (by simp [Op.operands]) t ht), h.opd (x := c) (fun t ht => hop c (by simp [Op.operands]) t ht)]
      split at g
      ·split at g
       ·split at g
        ·unfold NeedP at g ⊢
         exact ⟨g.1, put _ _ _ _ h g.2⟩
        ·exact g.elim
       ·exact g.elim
      ·exact g.elim
    | some n' =>
      cases dst with
      | none =>
        simp only [dOp, hl, hc] at g ⊢
        rw [h.opd (x := l) (fun t ht => hop l (by simp [Op.operands]) t ht), h.opd (x := c) (fun t ht => hop c (by simp [Op.operands]) t ht)]
        split at g
        ·split at g
         ·split at g
          ·unfold NeedP at g ⊢
           exact ⟨g.1, put _ _ _ _ h g.2⟩
          ·exact g.elim
         ·exact g.elim
        ·exact g.elim
      | some d =>
        simp only [dOp, hl, hc] at g ⊢
        split at g
        ·split at g
         ·unfold NeedP at g ⊢
          refine ⟨g.1, ?_⟩
          have g2 := g.2
          simp only [zb3] at g2 ⊢
          exact hK _ _ _ (h.set d (fun hx => absurd hx (hd d rfl))) g2
         ·exact g.elim
        ·exact g.elim
 case call c =>
  obtain ⟨callee, args, ats⟩ := c
  cases callee with
  | invoke r m => cases ho
  | value f =>
    simp only [dOp] at g ⊢
    rw [h.opd (x := f) (fun t ht => hop f (by simp [Op.operands, Call.operands]) t ht)]
    split at g
    ·refine zn1 (fun vs e e' S h g => ?_) h (fun t ht => hop (.tmp t) (by simp [Op.operands, Call.operands]; exact .inr (by simpa using ht)) t rfl) g
     exact zy2 (fun r S g => put _ _ _ _ h g) g
    ·exact g.elim
  | builtin b =>
    cases b <;> first | cases ho | skip
    simp only [dOp] at g ⊢
    unfold zep at g ⊢
    have ho2 : ∀ x, x ∈ args.toList → ∀ t, x = .tmp t → t ∉ D := fun x hx t ht => hop x (by simp [Op.operands, Call.operands]; simpa using hx) t ht
    generalize args.toList = as at *
    generalize ats.toList = ts at *
    split at g
    ·simp at *
    ·rename_i s x _
     split at g
     ·rename_i t t'
      cases hb : Nat.beq t' t with
      | false => rw [hb] at g; exact g.elim
      | true =>
        rw [hb] at g
        simp only [cond_true] at g ⊢
        split at g
        ·split at g
         ·refine zmc (fun v e1 e1' S h1 g => ?_) h (fun t ht => ho2 s (by simp) t ht) g
          split at g
          ·refine zw5 h1 (fun t ht => ho2 x (by simp) t ht) ?_
           exact zza (fun l g => zzz (fun c S g => put _ _ _ _ h1 g) g) g
          ·exact g.elim
         ·exact g.elim
        ·exact g.elim
     ·exact g.elim
    all_goals first | exact g.elim | simp at *
theorem z4t {o : Op} (ho : isSt o = true) {dst : Option Nat} {K' K : Env → Store → Prop} (hK : ∀ e e' S, Ag D e e' → K' e' S → K e S) {e e' : Env} (h : Ag D e e') (hD : ∀ t ∈ opTs o, t ∉ D) (hd : ∀ d, dst = some d → d ∉ D)
 (g : dOpD T EV o dst e' S K') : dOpD T EV o dst e S K := by
 cases o <;> first | (cases ho; done) | (exact zws (T := T) (EV := EV) ho hK h hD hd g) | skip
 case store t x y =>
  cases x with
  | tmp d =>
    have hdD : d ∉ D := hD d (zfl (by simp [Op.operands]))
    simp only [dOpD] at g ⊢
    rw [h.out d hdD]
    cases hx : getE e' d with
    | nb cs =>
      rw [hx] at g
      simp only [zh2, zb3] at g ⊢
      exact zws (T := T) (EV := EV) rfl hK ((h.map _ rfl (zsn d)).set d (fun hx => absurd hx hdD)) hD hd g
    | _ => rw [hx] at g; exact zws (T := T) (EV := EV) rfl hK h hD hd g
  | _ => exact zws (T := T) (EV := EV) rfl hK h hD hd g
end
end Go.Proofs.YtlmmdpmmdmhacaaGreat
