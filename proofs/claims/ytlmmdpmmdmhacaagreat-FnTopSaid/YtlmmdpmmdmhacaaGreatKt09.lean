/- A piece of code, and a whole function: what is computed of it holds of the model's. -/
import Derived.Test.YtlmmdpmmdmhacaaGreatKt08
import Derived.LoopN
namespace Go.Proofs.YtlmmdpmmdmhacaaGreat
open Go
set_option linter.unusedVariables false
set_option linter.unusedSimpArgs false
def exOf : Ex → Exit
 | .normal => .normal
 | .exit id => .exit id
 | .ret => .ret
theorem Keeps.trans {μ μ1 μ2 : Mp} {S S1 S2 : Store} (k1 : Keeps μ S μ1 S1) (k2 : Keeps μ1 S1 μ2 S2) : Keeps μ S μ2 S2 := fun id row h0 => by
 obtain ⟨r1, a1, a2, a3, a4, a5⟩ := k1 id row h0
 obtain ⟨r2, b1, b2, b3, b4, b5⟩ := k2 id r1 a1
 exact ⟨r2, b1, b2.trans a2, b3.trans a3, Nat.le_trans a4 b4, fun e => (b5 (by omega)).trans (a5 (by omega))⟩
theorem zyj {x y : AV} (h : AVle x y) : y = .top ∨ x = y := by
 cases y <;> first | exact .inl rfl | exact .inr h
theorem zui : ∀ {e e' : Env}, zj9 e e' → e.length = e'.length
 | [], [], _ => rfl
 | x :: xs, y :: ys, h => by simp [zui h.2]
 | [], _ :: _, h => h.elim
 | _ :: _, [], h => h.elim
theorem zqd : ∀ {e e' : Env}, zj9 e e' → ∀ (d : Nat) y, e'[d]? = some y → y = .top ∨ e[d]? = some y
 | [], [], _, d, y, hy => by simp at hy
 | x :: xs, z :: ys, h, d, y, hy => by
   cases d with
   | zero =>
     simp at hy; subst hy
     rcases zyj h.1 with e | e
     ·exact .inl e
     ·exact .inr (by simp [e])
   | succ d => simp at hy; simpa using zqd h.2 d y hy
 | [], _ :: _, h, _, _, _ => h.elim
 | _ :: _, [], h, _, _, _ => h.elim
section
variable {P : Program} {T : TT} {μ0 : Mp} {S0 : Store} {w0 : World} {μ : Mp} {β : Nat → Nat} {env env' : Env} {S : Store} {w : World} {a : Act} {ts : Array Value}
theorem St.weaken (h : St μ0 S0 w0 μ β env S ts w) (hl : zj9 env env') : St μ0 S0 w0 μ β env' S ts w := by
 have old : ∀ (d : Nat) y, env'[d]? = some y → y.priv = true → env[d]? = some y := by
  intro d y hy hp
  rcases zqd hl d y hy with rfl | e
  ·cases hp
  ·exact e
 refine ⟨h.rs, h.evo, by rw [h.size, zui hl], fun d y hy => ?_, fun d d' x x' h1 h2 p1 p2 hne => h.bsep d d' x x' (old d x h1 p1) (old d' x' h2 p2) p1 p2 hne, fun d x id row m h1 p1 => h.brow d x id row m (old d x h1 p1) p1, fun d x h1 p1 => h.bnew d x (old d x h1 p1) p1, h.amb⟩
 rcases zqd hl d y hy with rfl | e
 ·trivial
 ·have := h.slot d y e
  cases y <;> first | exact this | exact ⟨this.1, fun xs hxs => this.2 xs (old _ _ hxs rfl)⟩
theorem St.same (h : St μ0 S0 w0 μ β env S a.tmps w) {t : Nat} {x : AV} (hx : OpdR μ S β env x (a.tmps.getD t undef)) : St μ0 S0 w0 μ β (env.set t x) S a.tmps w := by
 have := h.put hx (some t) (a := a) rfl
 have e : (a.put (some t) (a.tmps.getD t undef)).tmps = a.tmps := by
  simp only [Act.put]
  apply Array.ext
  ·simp
  ·intro i h1 h2
   rw [Array.getElem_setIfInBounds]
   split
   ·rename_i e; subst e; simp [Array.getD, h2]
   ·rfl
 rw [e] at this
 exact this
theorem St.at_tmp (h : St μ0 S0 w0 μ β env S a.tmps w) {t : Nat} {x : AV} (ht : env[t]? = some x) : a.tmps[t]? = some (a.tmps.getD t undef) := by
 have : t < a.tmps.size := by rw [h.size]; exact (List.getElem?_eq_some_iff.1 ht).1
 simp [Array.getD, this]
def z5o (μ0 : Mp) (S0 : Store) (w0 : World) (Q0 : Ex → Env → Store → Prop) (Q : Exit → Act → World → Prop) : Prop :=
 ∀ e env' S' μ' β' a' w', Q0 e env' S' → a'.defers = [] → St μ0 S0 w0 μ' β' env' S' a'.tmps w' → Q (exOf e) a' w'
theorem zv8 {EV : Nat → List V → Store → (AV → Store → Prop) → Prop} (hT : TOK P T) (hEV : ∀ f args S R, EV f args S R → EvA P f args S R) {ops : Array Oper} {K : Env → Store → Prop} {next : Act → World → Prop} {Q : Exit → Act → World → Prop} {o : Oper}
 (ih : Next μ0 S0 w0 K next) (hd : a.defers = []) (hst : St μ0 S0 w0 μ β env S a.tmps w) (h : zx5 T EV ops.toList o K env S) :
 if Region.wanted o (yielded ops a.tmps) then o.wp P a w next Q ∨ (o.asks P a w ∧ LetsOut Q) else next (a.put o.dst undef) w := by
 have run : dOp T EV o.op o.dst env S K → o.wp P a w next Q := fun h => zid hT hEV ih hd hst h
 have skip : (putK env o.dst .und fun env => K env S) → next (a.put o.dst undef) w := fun h => by
  rw [zdd] at h
  exact ih _ _ _ _ _ _ h (by rw [zcs]; exact hd) (hst.put (x := .und) rfl o.dst rfl)
 unfold zx5 at h
 split at h
 ·rename_i hg
  rw [if_pos (by simp [Region.wanted, hg])]
  exact .inl (run h)
 ·rename_i j want hg
  split at h
  ·rename_i t hj
   have hj' : (ops[j]?).bind (·.dst) = some t := by rw [← Array.getElem?_toList]; exact hj
   have wnt : ∀ b, a.tmps[t]? = some (.bool b) → Region.wanted o (yielded ops a.tmps) = (b == want) := by
    intro b hb
    simp only [Region.wanted, hg, yielded, hj', Option.bind_some, hb]
    cases b <;> cases want <;> rfl
   have und : a.tmps[t]? = some undef → Region.wanted o (yielded ops a.tmps) = false := by
    intro hb
    simp only [Region.wanted, hg, yielded, hj', Option.bind_some, hb]
    cases want <;> rfl
   split at h
   ·rename_i hx
    have ht := za5 hx (by simp)
    have hs : a.tmps.getD t undef = .bool true := hst.slot t _ ht
    have hb := hst.at_tmp ht
    rw [hs] at hb
    rw [wnt _ hb]
    cases want
    ·exact skip h
    ·exact .inl (run h)
   ·rename_i hx
    have ht := za5 hx (by simp)
    have hs : a.tmps.getD t undef = .bool false := hst.slot t _ ht
    have hb := hst.at_tmp ht
    rw [hs] at hb
    rw [wnt _ hb]
    cases want
    ·exact .inl (run h)
    ·exact skip h
   ·rename_i hx
    have ht := za5 hx (by simp)
    have hs : a.tmps.getD t undef = undef := hst.slot t _ ht
    have hb := hst.at_tmp ht
    rw [hs] at hb
    rw [und hb]
    exact skip h
   ·rename_i b hx
    have ht := za5 hx (by simp)
    have hs : a.tmps.getD t undef = .bool b := hst.slot t _ ht
    have hb := hst.at_tmp ht
    rw [hs] at hb
    rw [wnt _ hb]
    unfold CondP at h
    cases b
    ·have h := h.2 rfl
     simp only [zdd, putE] at h
     have hst' := hst.same (t := t) (x := .ff) (by rw [hs]; rfl)
     cases want
     ·exact .inl (zid hT hEV ih hd hst' h)
     ·simp only [cond_true] at h
      exact ih _ _ _ _ _ _ h (by rw [zcs]; exact hd) (hst'.put (x := .und) rfl o.dst rfl)
    ·have h := h.1 rfl
     simp only [zdd, putE] at h
     have hst' := hst.same (t := t) (x := .tt) (by rw [hs]; rfl)
     cases want
     ·simp only [cond_false] at h
      exact ih _ _ _ _ _ _ h (by rw [zcs]; exact hd) (hst'.put (x := .und) rfl o.dst rfl)
     ·exact .inl (zid hT hEV ih hd hst' h)
   ·exact h.elim
  ·exact h.elim
theorem zp6 {EV : Nat → List V → Store → (AV → Store → Prop) → Prop} (hT : TOK P T) (hEV : ∀ f args S R, EV f args S R → EvA P f args S R) {ops : Array Oper} {K : Env → Store → Prop} {Q : Exit → Act → World → Prop}
 (hn : Next μ0 S0 w0 K (Q .normal)) : ∀ l : List Oper, Next μ0 S0 w0 (dOps T EV ops.toList l K) (wpList P ops Q l)
 | [] => fun env S μ β a w h hd hst => hn env S μ β a w h hd hst
 | o :: r => fun env S μ β a w h hd hst => by
   unfold wpList
   exact zv8 hT hEV (zp6 hT hEV (ops := ops) (Q := Q) hn r) hd hst h
theorem zx7 {EV : Nat → List V → Store → (AV → Store → Prop) → Prop} (hT : TOK P T) (hEV : ∀ f args S R, EV f args S R → EvA P f args S R) {o : Oper} {K : Env → Store → Prop} {next : Act → World → Prop} {Q : Exit → Act → World → Prop}
 (hn : Next μ0 S0 w0 K next) (hd : a.defers = []) (hst : St μ0 S0 w0 μ β env S a.tmps w) (h : dOpD T EV o.op o.dst env S K) : o.wp P a w next Q := by
 have go : dOp T EV o.op o.dst env S K → o.wp P a w next Q := zid hT hEV hn hd hst
 obtain ⟨dst, op, type, pos, after, guard⟩ := o
 cases op <;> first | exact go h | skip
 case alloc t =>
  simp only [dOpD] at h
  cases dst with
  | none => exact h.elim
  | some d =>
    cases ht : T t with
    | none => rw [ht] at h; exact h.elim
    | some ti =>
      rw [ht] at h
      simp only [zdj, zb3] at h
      obtain ⟨i, z, h1, h2, h3, h4, h5, h6, h7⟩ := (hT t ti ht).info
      refine znn (u := .pointer (some ⟨w.heap.size, 0, none⟩)) (w' := w.alloc (.cells z.cells t)) ?_ (hn _ _ _ _ _ _ h (by rw [zcs]; exact hd) (hst.freshL (d := d) (x := .nb ti.zero) rfl (by intro ys h; cases h) (fun β' env' w' e1 e2 => ⟨by rw [e1], z.cells, t, by rw [e1]; exact e2, by rw [h5, h6], fun j c hj => ?_⟩) rfl))
      ·simp [execOp, Instr.alloc, zeroValue, typeInfo, h1, h4, newVar, newRow]
      ·obtain ⟨u, g1, g2⟩ := h7 j c hj
       exact ⟨u, g1, zis g2 μ S⟩
 case store t x y =>
  simp only [dOpD] at h
  split at h
  ·rename_i d
   split at h
   ·rename_i cs hcs
    simp only [zh2, zb3] at h
    exact zid hT hEV (o := ⟨dst, .store t (.tmp d) y, type, pos, after, guard⟩) hn hd (hst.bear (za5 hcs (by simp))) h
   ·exact go h
  ·exact go h
theorem zth {EV : Nat → List V → Store → (AV → Store → Prop) → Prop} (hT : TOK P T) (hEV : ∀ f args S R, EV f args S R → EvA P f args S R) {ops : Array Oper} {K : Env → Store → Prop} {next : Act → World → Prop} {Q : Exit → Act → World → Prop} {o : Oper}
 (ih : Next μ0 S0 w0 K next) (hd : a.defers = []) (hst : St μ0 S0 w0 μ β env S a.tmps w) (h : zfg T EV ops.toList o K env S) :
 if Region.wanted o (yielded ops a.tmps) then o.wp P a w next Q ∨ (o.asks P a w ∧ LetsOut Q) else next (a.put o.dst undef) w := by
 have key : ∀ b, zhx ops.toList o env = some b → Region.wanted o (yielded ops a.tmps) = b := by
  intro b hb
  unfold zhx at hb
  split at hb
  ·rename_i hg; cases hb; simp [Region.wanted, hg]
  ·rename_i j want hg
   split at hb
   ·rename_i t hj
    have hj' : (ops[j]?).bind (·.dst) = some t := by rw [← Array.getElem?_toList]; exact hj
    have wnt : ∀ b, a.tmps[t]? = some (.bool b) → Region.wanted o (yielded ops a.tmps) = (b == want) := by
     intro b hb
     simp only [Region.wanted, hg, yielded, hj', Option.bind_some, hb]
     cases b <;> cases want <;> rfl
    have und : a.tmps[t]? = some undef → Region.wanted o (yielded ops a.tmps) = false := by
     intro hb
     simp only [Region.wanted, hg, yielded, hj', Option.bind_some, hb]
     cases want <;> rfl
    split at hb
    ·rename_i hx
     have ht := za5 hx (by simp)
     have hs : a.tmps.getD t undef = .bool true := hst.slot t _ ht
     have hb2 := hst.at_tmp ht
     rw [hs] at hb2
     rw [wnt _ hb2]; have he := Option.some.inj hb; subst he; cases want <;> rfl
    ·rename_i hx
     have ht := za5 hx (by simp)
     have hs : a.tmps.getD t undef = .bool false := hst.slot t _ ht
     have hb2 := hst.at_tmp ht
     rw [hs] at hb2
     rw [wnt _ hb2]; have he := Option.some.inj hb; subst he; cases want <;> rfl
    ·rename_i hx
     have ht := za5 hx (by simp)
     have hs : a.tmps.getD t undef = undef := hst.slot t _ ht
     have hb2 := hst.at_tmp ht
     rw [hs] at hb2
     rw [und hb2]; have he := Option.some.inj hb; subst he; rfl
    ·rename_i b0 hx
     have ht := za5 hx (by simp)
     have hs : a.tmps.getD t undef = .bool b0 := hst.slot t _ ht
     have hb2 := hst.at_tmp ht
     rw [hs] at hb2
     rw [wnt _ hb2]; have he := Option.some.inj hb; subst he; cases want <;> cases b0 <;> rfl
    ·cases hb
   ·cases hb
 unfold zfg at h
 split at h
 ·rename_i hw
  rw [key _ hw]
  exact .inl (zx7 hT hEV ih hd hst h)
 ·rename_i hw
  rw [key _ hw]
  rw [zdd] at h
  exact ih _ _ _ _ _ _ h (by rw [zcs]; exact hd) (hst.put (x := .und) rfl o.dst rfl)
 ·exact h.elim
theorem zo8 {EV : Nat → List V → Store → (AV → Store → Prop) → Prop} (hT : TOK P T) (hEV : ∀ f args S R, EV f args S R → EvA P f args S R) {ops : Array Oper} {K : Env → Store → Prop} {Q : Exit → Act → World → Prop}
 (hn : Next μ0 S0 w0 K (Q .normal)) : ∀ (fuel : Nat) (listed : Array Bool), Next μ0 S0 w0 (dAny T EV ops K fuel listed) (wpAny P .any ops Q fuel listed)
 | 0, listed => fun env S μ β a w h hd hst => ⟨h.1, hn env S μ β a w h.2 hd hst⟩
 | fuel + 1, listed => fun env S μ β a w h hd hst => by
   refine ⟨fun h0 => hn env S μ β a w (h.1 h0) hd hst, fun i hi => ?_⟩
   have hi' := h.2 i hi
   have ih := zo8 hT hEV (ops := ops) (Q := Q) hn fuel (listed.setIfInBounds i true)
   unfold wpOp
   split at hi'
   ·rename_i ho; rw [ho]; exact ih _ _ _ _ _ _ hi' hd hst
   ·rename_i o ho; rw [ho]; exact zth hT hEV ih hd hst hi'
theorem zd4 {EV : Nat → List V → Store → (AV → Store → Prop) → Prop} (hmix : P.follows .mixedOrders = true) (hT : TOK P T) (hEV : ∀ f args S R, EV f args S R → EvA P f args S R) :
 ∀ (c : Code) (Q0 : Ex → Env → Store → Prop) (Q : Exit → Act → World → Prop), z5o μ0 S0 w0 Q0 Q → Next μ0 S0 w0 (den T EV c Q0) (fun a w => c.wp P Q a w)
 | .skip, Q0, Q, hn => fun env S μ β a w h hd hst => wp_skip (hn .normal _ _ _ _ _ _ h hd hst)
 | .exit id, Q0, Q, hn => fun env S μ β a w h hd hst => wp_exit (hn (.exit id) _ _ _ _ _ _ h hd hst)
 | .ret, Q0, Q, hn => fun env S μ β a w h hd hst => wp_ret (hn .ret _ _ _ _ _ _ h hd hst)
 | .seq x y, Q0, Q, hn => fun env S μ β a w h hd hst => by
   have ihy := zd4 hmix hT hEV y Q0 Q hn
   refine wp_seq (zd4 hmix hT hEV x _ _ ?_ env S μ β a w h hd hst)
   intro e env' S' μ' β' a' w' h' hd' hst'
   cases e with
   | normal => exact ihy _ _ _ _ _ _ h' hd' hst'
   | exit id => exact hn (.exit id) _ _ _ _ _ _ h' hd' hst'
   | ret => exact hn .ret _ _ _ _ _ _ h' hd' hst'
 | .cond c x y, Q0, Q, hn => fun env S μ β a w h hd hst => by
   simp only [den] at h
   split at h
   ·rename_i b hc
    have hx := hst.opd rfl c
    rw [hc] at hx
    have hx : a.eval c = .bool b := hx
    unfold CondP at h
    refine wp_cond hx ?_
    cases b
    ·exact zd4 hmix hT hEV y Q0 Q hn env S μ β a w (h.2 rfl) hd hst
    ·exact zd4 hmix hT hEV x Q0 Q hn env S μ β a w (h.1 rfl) hd hst
   ·exact h.elim
 | .block id x, Q0, Q, hn => fun env S μ β a w h hd hst => by
   refine wp_block (zd4 hmix hT hEV x _ _ ?_ env S μ β a w h hd hst)
   intro e env' S' μ' β' a' w' h' hd' hst'
   cases e with
   | normal => exact hn .normal _ _ _ _ _ _ h' hd' hst'
   | exit j =>
     simp only [exOf, Exit.inBlock]
     simp only [zwj] at h'
     cases hb : Nat.beq j id with
     | true =>
       rw [hb] at h'
       rw [if_pos (Nat.eq_of_beq_eq_true hb)]
       exact hn .normal _ _ _ _ _ _ h' hd' hst'
     | false =>
       rw [hb] at h'
       rw [if_neg (Nat.ne_of_beq_eq_false hb)]
       exact hn (.exit j) _ _ _ _ _ _ h' hd' hst'
   | ret => exact hn .ret _ _ _ _ _ _ h' hd' hst'
 | .loop x, Q0, Q, hn => fun env S μ β a w h hd hst => by
   simp only [den] at h
   unfold LoopP at h
   obtain ⟨B, E, SS, r, ⟨b0, h0, hS⟩, hstep⟩ := h
   subst hS
   have key : ∀ n b μ β a w, r b < n → a.defers = [] → St μ0 S0 w0 μ β (E b) (SS b) a.tmps w → Code.rounds P x Q n a w := by
    intro n
    induction n with
    | zero => intro b _ _ _ _ h; omega
    | succ n ih =>
      intro b μ β a w hr hd hst
      rw [rounds_succ]
      refine zd4 hmix hT hEV x _ _ ?_ _ _ _ _ _ _ (hstep b) hd hst
      intro e env' S' μ' β' a' w' h' hd' hst'
      cases e with
      | normal =>
        obtain ⟨b', g1, rfl, g2⟩ := h'
        exact ih b' _ _ _ _ (by omega) hd' (hst'.weaken g1)
      | exit id => exact hn (.exit id) _ _ _ _ _ _ h' hd' hst'
      | ret => exact hn .ret _ _ _ _ _ _ h' hd' hst'
   exact wp_loop_rounds (r b0 + 1) (key _ b0 _ _ _ _ (Nat.lt_succ_self _) hd (hst.weaken h0))
 | .region id ops draw, Q0, Q, hn => fun env S μ β a w h hd hst => by
   simp only [den] at h
   cases draw with
   | true =>
     simp only [cond_true] at h
     unfold DrawP at h
     have hst' : St μ0 S0 w0 μ β env S a.tmps { w with drawn := w.drawn + 1 } := hst.step (hst.rs.world (Nat.le_refl _) (fun _ _ _ _ _ => rfl)) (z3d μ S w)
     exact wp_region_any hmix (zo8 hT hEV (fun env S μ β a w h hd hst => hn .normal _ _ _ _ _ _ h hd hst) _ _ _ _ _ _ _ _ h hd hst')
   | false =>
     simp only [cond_false] at h
     exact wp_region_list (zp6 hT hEV (fun env S μ β a w h hd hst => hn .normal _ _ _ _ _ _ h hd hst) ops.toList env S μ β a w h hd hst)
 | .label _, Q0, Q, hn => fun env S μ β a w h hd hst => by simp [den] at h
 | .goto _, Q0, Q, hn => fun env S μ β a w h hd hst => by simp [den] at h
 | .refuse _, Q0, Q, hn => fun env S μ β a w h hd hst => by simp [den] at h
 | .scope _, Q0, Q, hn => fun env S μ β a w h hd hst => by simp [den] at h
 | .rangeFunc _ _ _ _, Q0, Q, hn => fun env S μ β a w h hd hst => by simp [den] at h
def resF (ts : Array Value) : ResultVar → Sem Value
 | .tmp t => pure (ts.getD t undef)
 | .cell a t => do loadVar t (← asAddr (ts.getD a undef))
theorem zi1 (hT : TOK P T) : ∀ (rs : List ResultVar) (env : Env) (S : Store) (μ : Mp) (K : List V → Store → Prop), St μ0 S0 w0 μ β env S a.tmps w → resK T env S rs K →
 ∃ vs us env' S' μ', K vs S' ∧ St μ0 S0 w0 μ' β env' S' a.tmps w ∧ Keeps μ S μ' S' ∧ (rs.mapM (resF a.tmps)).run P w = .ok us w ∧ VsR μ' S' vs us.toArray
 | [], env, S, μ, K, hst, h => ⟨[], [], env, S, μ, h, hst, (Evo.refl μ S w).keeps, rfl, rfl, fun j v hj => by simp at hj⟩
 | .tmp t :: r, env, S, μ, K, hst, h => by
   simp only [resK] at h
   obtain ⟨v, env1, S1, μ1, h1, h2, h3, h4⟩ := zf3 hst h
   obtain ⟨vs, us, env2, S2, μ2, k1, k2, k3, k4, k5⟩ := zi1 hT r env1 S1 μ1 _ h2 h1
   refine ⟨v :: vs, a.tmps.getD t undef :: us, env2, S2, μ2, k1, k2, h4.trans k3, ?_, ?_⟩
   ·rw [List.mapM_cons, Sem.run_bind]
    show (Sem.run P (pure (a.tmps.getD t undef)) w).andThen _ = _
    simp only [Sem.run_pure, Result.andThen]
    rw [Sem.run_bind, k4]
    rfl
   ·refine ⟨by have := k5.1; simp at this; simp [this], fun j x hj => ?_⟩
    cases j with
    | zero => simp at hj; subst hj; exact ⟨a.tmps.getD t undef, rfl, VR.keep k3 h3⟩
    | succ j => simp at hj; simpa using k5.2 j x hj
 | .cell t ty :: r, env, S, μ, K, hst, h => by
   simp only [resK] at h
   split at h
   ·rename_i cs ti hx ht
    obtain ⟨e1, arr, e, e2, e3⟩ := hst.slot t _ (za5 hx (by simp))
    obtain ⟨v, val, g1, g2, g3⟩ := zkq (μ := μ) (S := S) (w := w) (b := β t) (o := 0) (hT ty ti ht) h (fun j c hj => by
     obtain ⟨u, u1, u2⟩ := e3.2 j c hj
     exact ⟨u, by rw [cell_of_row w _ _ arr e (0, 0) e2, Nat.zero_add]; exact u1, u2⟩)
    obtain ⟨vs, us, env2, S2, μ2, k1, k2, k3, k4, k5⟩ := zi1 hT r env S μ _ hst g1
    refine ⟨v :: vs, val :: us, env2, S2, μ2, k1, k2, k3, ?_, ?_⟩
    ·rw [List.mapM_cons, Sem.run_bind]
     have : (resF a.tmps (.cell t ty)).run P w = .ok val w := by simp [resF, e1, asAddr, g2]
     rw [this]
     simp only [Result.andThen]
     rw [Sem.run_bind, k4]
     rfl
    ·refine ⟨by have := k5.1; simp at this; simp [this], fun j x hj => ?_⟩
     cases j with
     | zero => simp at hj; subst hj; exact ⟨_, by simp, VR.keep k3 g3⟩
     | succ j => simp at hj; simpa using k5.2 j x hj
   ·exact h.elim
theorem zxu {T : TT} (hT : P.follows .mixedOrders = true ∧ TOK P T) {f : Nat} {fn : Func} {c : Code} {args : List V} {S : Store} {R : AV → Store → Prop} (hf : P.funcs[f]? = some fn) (hname : (fn.name == "runtime.NumGoroutine") = false) (hb : fn.body = some c)
 (h : dFn T (EvA P) fn args S R) : EvA P f args S R := by
 obtain ⟨hmix, hT⟩ := hT
 refine ⟨⟨fn, hf, hname, by rw [hb]; rfl⟩, fun μ w us rs hA hv => calls_of_wp hf hb ?_⟩
 unfold dFn at h
 rw [hb] at h
 have hst : St μ S w μ (fun _ => 0) (args.map AV.v ++ List.replicate (fn.ntmps - args.length) .und) S (us ++ Array.replicate (fn.ntmps - us.size) undef) w := by
  have np : ∀ (d : Nat) x, (args.map AV.v ++ List.replicate (fn.ntmps - args.length) .und)[d]? = some x → x.priv = true → False := by
   intro d x hx hp
   rcases List.mem_append.1 (List.mem_of_getElem? hx) with h | h
   ·obtain ⟨v, _, rfl⟩ := List.mem_map.1 h; cases hp
   ·rw [List.eq_of_mem_replicate h] at hp; cases hp
  refine ⟨rs, Evo.refl μ S w, by simp [hv.1], fun d x hx => ?_, fun d d' x x' h1 _ p1 => (np d x h1 p1).elim, fun d x id row m h1 p1 => (np d x h1 p1).elim, fun d x h1 p1 => (np d x h1 p1).elim, hA⟩
  by_cases hd : d < args.length
  ·rw [List.getElem?_append_left (by simpa using hd), List.getElem?_map] at hx
   cases ha : args[d]? with
   | none => rw [ha] at hx; cases hx
   | some v =>
     rw [ha] at hx
     simp at hx; subst hx
     obtain ⟨u, u1, u2⟩ := hv.2 d v ha
     have hus : d < us.size := by rw [hv.1]; exact hd
     have : (us ++ Array.replicate (fn.ntmps - us.size) undef).getD d undef = u := by
      rw [Array.getD_eq_getD_getElem?, Array.getElem?_append_left hus, u1]; rfl
     rw [this]
     exact u2
  ·rw [List.getElem?_append_right (by simpa using hd)] at hx
   have := List.eq_of_mem_replicate (List.mem_of_getElem? hx)
   subst this
   have : (us ++ Array.replicate (fn.ntmps - us.size) undef).getD d undef = undef := by
    rw [Array.getD_eq_getD_getElem?, Array.getElem?_append_right (by rw [hv.1]; omega)]
    cases hg : (Array.replicate (fn.ntmps - us.size) undef)[d - us.size]? with
    | none => rfl
    | some x =>
      have := Array.getElem?_eq_some_iff.1 hg
      obtain ⟨h1, h2⟩ := this
      simp at h2
      rw [← h2]; rfl
   rw [this]
   rfl
 refine zd4 hmix hT (fun _ _ _ _ h => h) c _ _ ?_ _ _ _ _ _ _ h rfl hst
 have fin : ∀ env' S1 μ' β' a' w', dRet T fn R env' S1 → a'.defers = [] → St μ S w μ' β' env' S1 a'.tmps w' → bodyPost P fn (fun e w' => ∃ res S' u μ', R res S' ∧ e = .returned u ∧ RS μ' S' w' ∧ AVR μ' S' res u ∧ Evo μ S w μ' S' w') .ret a' w' := by
  intro env' S1 μ' β' a' w' hr hd hst'
  obtain ⟨vs, us', env2, S2, μ2, k1, k3, k4, k5, k6⟩ := zi1 hT _ _ _ _ _ hst' hr
  refine ⟨hd, if h : us'.toArray.size = 1 then us'.toArray[0] else .tuple us'.toArray, ?_, zay vs, S2, _, μ2, k1, rfl, k3.rs, ?_, k3.evo⟩
  ·have e : (fn.results.mapM (resF a'.tmps)).run P w' = .ok us'.toArray w' := by
    rw [Array.mapM_eq_mapM_toList, Sem.run_map, k5]
    rfl
   show (fn.results.mapM (resF a'.tmps) >>= fun vs => pure (if h : vs.size = 1 then vs[0] else .tuple vs)).run P w' = _
   rw [Sem.run_bind, e]
   rfl
  ·cases vs with
   | nil =>
     have : us' = [] := by have := k6.1; simpa using this
     subst this
     exact ⟨_, rfl, k6⟩
   | cons v vs =>
     cases vs with
     | nil =>
       obtain ⟨u, rfl⟩ : ∃ u, us' = [u] := by
        have := k6.1
        simp at this
        exact List.length_eq_one_iff.1 this
       obtain ⟨u', u1, u2⟩ := k6.2 0 v rfl
       simp at u1; subst u1
       exact u2
     | cons v' vs =>
       have hl : us'.toArray.size ≠ 1 := by rw [k6.1]; simp
       rw [dif_neg hl]
       exact ⟨_, rfl, k6⟩
 intro e env' S1 μ' β' a' w' h' hd' hst'
 cases e with
 | normal => exact fin _ _ _ _ _ _ h' hd' hst'
 | ret => exact fin _ _ _ _ _ _ h' hd' hst'
 | exit id => exact h'.elim
end
abbrev PT := (Ex → Env → Store → Prop) → Env → Store → Prop
section
variable (T : TT) (EV : Nat → List V → Store → (AV → Store → Prop) → Prop)
noncomputable def dOpsR (all : List Oper) (l : List Oper) (K : Env → Store → Prop) : Env → Store → Prop :=
 List.rec (motive := fun _ => Env → Store → Prop) K (fun o _ ih => zx5 T EV all o ih) l
def z5p (_ : Nat) (ops : Array Oper) (draw : Bool) : PT := fun Q env S => bif draw then DrawP T EV ops (Q .normal) env S else dOpsR T EV ops.toList ops.toList (Q .normal) env S
def z7q : PT := fun Q env S => Q .normal env S
def mSeq (_ _ : Code) (a b : PT) : PT := fun Q env S => a (seqK b Q) env S
def z7n (c : Operand) (_ _ : Code) (t e : PT) : PT := fun Q env S => match opd env c with
 | .v (.s (.bool b)) => CondP b (t Q env S) (e Q env S)
 | _ => False
def z6t (id : Nat) (_ : Code) (b : PT) : PT := fun Q env S => b (zwj id Q) env S
def z7p (_ : Code) (b : PT) : PT := fun Q env S => LoopP b Q env S
def mNo : PT := fun _ _ _ => False
def z7k (id : Nat) : PT := fun Q env S => Q (.exit id) env S
def mRet : PT := fun Q env S => Q .ret env S
noncomputable def denR (c : Code) : PT :=
 Code.rec (motive := fun _ => PT) z7q (z5p T EV) mSeq z7n z6t z7p (fun _ _ _ _ _ _ => mNo) z7k (fun _ _ => mNo) (fun _ => mNo) (fun _ => mNo) mRet (fun _ => mNo) c
theorem z23 (all l : List Oper) (K : Env → Store → Prop) : dOpsR T EV all l K = dOps T EV all l K := by
 induction l with
 | nil => funext env S; rfl
 | cons o r ih =>
   funext env S
   show zx5 T EV all o (dOpsR T EV all r K) env S = zx5 T EV all o (dOps T EV all r K) env S
   rw [ih]
theorem zuy (c : Code) : denR T EV c = den T EV c := by
 induction c with
 | region id ops draw =>
   funext Q env S
   show (bif draw then DrawP T EV ops (Q .normal) env S else dOpsR T EV ops.toList ops.toList (Q .normal) env S) = _
   rw [z23]; rfl
 | seq a b iha ihb => funext Q env S; show denR T EV a (seqK (denR T EV b) Q) env S = _; rw [iha, ihb]; rfl
 | cond c t e iht ihe =>
   funext Q env S
   show (match opd env c with | .v (.s (.bool b)) => CondP b (denR T EV t Q env S) (denR T EV e Q env S) | _ => False) = _
   rw [iht, ihe]; rfl
 | block id b ih => funext Q env S; show denR T EV b (zwj id Q) env S = _; rw [ih]; rfl
 | loop b ih => funext Q env S; show LoopP (denR T EV b) Q env S = _; rw [ih]; rfl
 | _ => rfl
def retK (fn : Func) (R : AV → Store → Prop) : Ex → Env → Store → Prop
 | .exit _ => fun _ _ => False
 | _ => dRet T fn R
def dFnR (fn : Func) (args : List V) (S : Store) (R : AV → Store → Prop) : Prop :=
 match fn.body with
 | some c => denR T EV c (retK T fn R) (args.map AV.v ++ List.replicate (fn.ntmps - args.length) .und) S
 | none => False
theorem z43 (fn : Func) (args : List V) (S : Store) (R : AV → Store → Prop) (h : dFnR T EV fn args S R) : dFn T EV fn args S R := by
 unfold dFnR at h
 unfold dFn
 split at h
 ·rename_i c hc
  rw [hc]
  rw [zuy] at h
  have e : retK T fn R = (fun e env S => match e with
   | .exit _ => False
   | _ => dRet T fn R env S) := by funext e env S; cases e <;> rfl
  rw [e] at h
  exact h
 ·exact h.elim
end
theorem zac {P : Program} {T : TT} (hT : P.follows .mixedOrders = true ∧ TOK P T) {f : Nat} {fn : Func} {c : Code} {args : List V} {S : Store} {R : AV → Store → Prop} (hf : P.funcs[f]? = some fn) (hname : (fn.name == "runtime.NumGoroutine") = false) (hb : fn.body = some c)
 (h : dFnR T (EvA P) fn args S R) : EvA P f args S R := zxu hT hf hname hb (z43 T (EvA P) fn args S R h)
end Go.Proofs.YtlmmdpmmdmhacaaGreat
