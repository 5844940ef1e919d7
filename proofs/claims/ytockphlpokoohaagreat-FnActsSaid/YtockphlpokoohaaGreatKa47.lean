/- A function's body cut in two: what holds between is said once, for all ways there. A text of the proof. A text of the proof. -/
import Derived.Test.YtockphlpokoohaaGreatKa11
import Derived.Test.YtockphlpokoohaaGreatKa43
import Derived.Test.YtockphlpokoohaaGreatKa46
import Derived.Test.YtockphlpokoohaaGreatKa32
import Derived.Test.YtockphlpokoohaaGreatKa39
import Derived.Test.YtockphlpokoohaaGreatKa29
namespace Go.Proofs.YtockphlpokoohaaGreat
open Go
set_option linter.unusedVariables false
set_option linter.unusedSimpArgs false
set_option maxRecDepth 100000
def cutAt : Nat → Code → Option (Code × Code)
  | 0, .seq x y => some (x, y)
  | n + 1, .seq x y => match cutAt n y with
    | some (p, r) => some (.seq x p, r)
    | none => none
  | _, _ => none
def SmP (P : Program) (c : Code) (Q0 : Ex → Env → Store → Prop) (env : Env) (S : Store) : Prop :=
  ∀ (μ0 : Mp) (S0 : Store) (w0 : World) (Q : Exit → Act → World → Prop), NextE μ0 S0 w0 Q0 Q → ∀ (μ : Mp) (β : Nat → Nat) (a : Act) (w : World), a.defers = [] → St μ0 S0 w0 μ β env S a.tmps w → c.wp P Q a w
def liveP (env : Env) : List (Nat × AV) → Prop
  | [] => True
  | (d, x) :: r => env[d]? = some x ∧ liveP env r
def cutK (n : Nat) {B : Type} (L : B → List (Nat × AV)) (SS : B → Store) (Q : Ex → Env → Store → Prop) : Ex → Env → Store → Prop
  | .normal => fun env' S' => ∃ b, env'.length = n ∧ liveP env' (L b) ∧ S' = SS b
  | .exit j => Q (.exit j)
  | .ret => Q .ret
def liveE (n : Nat) (L : List (Nat × AV)) : Env := setL (List.replicate n .top) L
theorem envLe_top : ∀ env : Env, EnvLe env (List.replicate env.length .top)
  | [] => trivial
  | x :: e => ⟨trivial, envLe_top e⟩
theorem envLe_set : ∀ {env e : Env} {d : Nat} {x : AV}, EnvLe env e → env[d]? = some x → EnvLe env (e.set d x)
  | [], [], d, x, _, h => by simp at h
  | y :: env, z :: e, 0, x, hl, h => by
    simp only [List.getElem?_cons_zero, Option.some.injEq] at h
    subst h
    exact ⟨by cases y <;> trivial, hl.2⟩
  | y :: env, z :: e, d + 1, x, hl, h => ⟨hl.1, envLe_set hl.2 (by simpa using h)⟩
theorem envLe_setL : ∀ {L : List (Nat × AV)} {env e : Env}, EnvLe env e → liveP env L → EnvLe env (setL e L)
  | [], env, e, h, _ => h
  | (d, x) :: r, env, e, h, g => envLe_setL (L := r) (envLe_set h g.1) g.2
theorem liveP_le {env : Env} {n : Nat} {L : List (Nat × AV)} (hn : env.length = n) (h : liveP env L) : EnvLe env (liveE n L) := by
  subst hn
  exact envLe_setL (envLe_top env) h
section
variable {P : Program} {T : TT} {EV : Nat → List V → Store → (AV → Store → Prop) → Prop}
theorem cut_sound (hmix : P.follows .mixedOrders = true) (hT : TOK P T) (hEV : ∀ f args S R, EV f args S R → EvA P f args S R) {μ0 : Mp} {S0 : Store} {w0 : World} {K Q0 : Ex → Env → Store → Prop} {Q : Exit → Act → World → Prop} (hn : NextE μ0 S0 w0 Q0 Q) (hx : ∀ j, K (.exit j) = Q0 (.exit j)) (hr : K .ret = Q0 .ret) :
    ∀ (n : Nat) (c p r : Code), cutAt n c = some (p, r) → (∀ env S μ β a w, K .normal env S → a.defers = [] → St μ0 S0 w0 μ β env S a.tmps w → r.wp P Q a w) →
      ∀ env S μ β a w, den T EV p K env S → a.defers = [] → St μ0 S0 w0 μ β env S a.tmps w → c.wp P Q a w
  | 0, .seq x y, p, r, hc, hk, env, S, μ, β, a, w, h, hd, hst => by
    simp only [cutAt, Option.some.injEq, Prod.mk.injEq] at hc
    obtain ⟨rfl, rfl⟩ := hc
    refine wp_seq (den_sound hmix hT hEV x _ _ ?_ env S μ β a w h hd hst)
    intro e env' S' μ' β' a' w' h' hd' hst'
    cases e with
    | normal => exact hk _ _ _ _ _ _ h' hd' hst'
    | exit id => exact hn (.exit id) _ _ _ _ _ _ (by rw [← hx]; exact h') hd' hst'
    | ret => exact hn .ret _ _ _ _ _ _ (by rw [← hr]; exact h') hd' hst'
  | n + 1, .seq x y, p, r, hc, hk, env, S, μ, β, a, w, h, hd, hst => by
    simp only [cutAt] at hc
    split at hc
    · rename_i p' r' hc'
      simp only [Option.some.injEq, Prod.mk.injEq] at hc
      obtain ⟨rfl, rfl⟩ := hc
      have ih := cut_sound hmix hT hEV hn hx hr n y p' r' hc' hk
      refine wp_seq (den_sound hmix hT hEV x _ _ ?_ env S μ β a w h hd hst)
      intro e env' S' μ' β' a' w' h' hd' hst'
      cases e with
      | normal => exact ih _ _ _ _ _ _ h' hd' hst'
      | exit id => exact hn (.exit id) _ _ _ _ _ _ (by rw [← hx]; exact h') hd' hst'
      | ret => exact hn .ret _ _ _ _ _ _ (by rw [← hr]; exact h') hd' hst'
    · cases hc
theorem sm_den (hT : P.follows .mixedOrders = true ∧ TOK P T) {c : Code} {Q0 : Ex → Env → Store → Prop} {env : Env} {S : Store} (h : denR T (EvA P) c Q0 env S) : SmP P c Q0 env S := by
  intro μ0 S0 w0 Q hn μ β a w hd hst
  rw [denR_eq] at h
  exact den_sound hT.1 hT.2 (fun _ _ _ _ h => h) c Q0 Q hn env S μ β a w h hd hst
theorem sm_cut (hT : P.follows .mixedOrders = true ∧ TOK P T) (n m : Nat) {c p r : Code} {Q0 : Ex → Env → Store → Prop} {env : Env} {S : Store} {B : Type} (L : B → List (Nat × AV)) (SS : B → Store) (hc : cutAt n c = some (p, r))
    (h1 : denR T (EvA P) p (cutK m L SS Q0) env S) (h2 : ∀ b, SmP P r Q0 (liveE m (L b)) (SS b)) : SmP P c Q0 env S := by
  intro μ0 S0 w0 Q hn μ β a w hd hst
  rw [denR_eq] at h1
  refine cut_sound hT.1 hT.2 (fun _ _ _ _ h => h) hn (K := cutK m L SS Q0) (fun _ => rfl) rfl n c p r hc ?_ env S μ β a w h1 hd hst
  intro env' S' μ' β' a' w' h' hd' hst'
  obtain ⟨b, hl, hv, rfl⟩ := h'
  exact h2 b μ0 S0 w0 Q hn μ' β' a' w' hd' (hst'.weaken (liveP_le hl hv))
end
theorem evA_introS {P : Program} {T : TT} (hT : P.follows .mixedOrders = true ∧ TOK P T) {f : Nat} {fn : Func} {c : Code} {args : List V} {S : Store} {R : AV → Store → Prop} (hf : P.funcs[f]? = some fn) (hname : (fn.name == "runtime.NumGoroutine") = false) (hb : fn.body = some c)
    (h : SmP P c (retK T fn R) (args.map AV.v ++ List.replicate (fn.ntmps - args.length) .und) S) : EvA P f args S R := by
  obtain ⟨hmix, hT⟩ := hT
  refine ⟨⟨fn, hf, hname, by rw [hb]; rfl⟩, fun μ w us rs hA hv => calls_of_wp hf hb ?_⟩
  have hst : St μ S w μ (fun _ => 0) (args.map AV.v ++ List.replicate (fn.ntmps - args.length) .und) S (us ++ Array.replicate (fn.ntmps - us.size) undef) w := by
    have np : ∀ (d : Nat) x, (args.map AV.v ++ List.replicate (fn.ntmps - args.length) .und)[d]? = some x → x.priv = true → False := by
      intro d x hx hp
      rcases List.mem_append.1 (List.mem_of_getElem? hx) with h | h
      · obtain ⟨v, _, rfl⟩ := List.mem_map.1 h; cases hp
      · rw [List.eq_of_mem_replicate h] at hp; cases hp
    refine ⟨rs, Evo.refl μ S w, by simp [hv.1], fun d x hx => ?_, fun d d' x x' h1 _ p1 => (np d x h1 p1).elim, fun d x id row m h1 p1 => (np d x h1 p1).elim, fun d x h1 p1 => (np d x h1 p1).elim, hA⟩
    by_cases hd : d < args.length
    · rw [List.getElem?_append_left (by simpa using hd), List.getElem?_map] at hx
      cases ha : args[d]? with
      | none => rw [ha] at hx; cases hx
      | some v =>
        rw [ha] at hx
        simp at hx; subst hx
        obtain ⟨u, u1, u2⟩ := hv.2 d v ha
        have hus : d < us.size := by rw [hv.1]; exact hd
        have : (us ++ Array.replicate (fn.ntmps - us.size) undef).getD d undef = u := by
          rw [Array.getD_eq_getD_getElem?, Array.getElem?_append_left hus, u1]; rfl
        rw [this]
        exact u2
    · rw [List.getElem?_append_right (by simpa using hd)] at hx
      have := List.eq_of_mem_replicate (List.mem_of_getElem? hx)
      subst this
      have : (us ++ Array.replicate (fn.ntmps - us.size) undef).getD d undef = undef := by
        rw [Array.getD_eq_getD_getElem?, Array.getElem?_append_right (by rw [hv.1]; omega)]
        cases hg : (Array.replicate (fn.ntmps - us.size) undef)[d - us.size]? with
        | none => rfl
        | some x =>
          have := Array.getElem?_eq_some_iff.1 hg
          obtain ⟨h1, h2⟩ := this
          simp at h2
          rw [← h2]; rfl
      rw [this]
      rfl
  have fin : ∀ env' S1 μ' β' a' w', dRet T fn R env' S1 → a'.defers = [] → St μ S w μ' β' env' S1 a'.tmps w' → bodyPost P fn (fun e w' => ∃ res S' u μ', R res S' ∧ e = .returned u ∧ RS μ' S' w' ∧ AVR μ' S' res u ∧ Evo μ S w μ' S' w') .ret a' w' := by
    intro env' S1 μ' β' a' w' hr hd hst'
    obtain ⟨vs, us', env2, S2, μ2, k1, k3, k4, k5, k6⟩ := resK_sound hT _ _ _ _ _ hst' hr
    refine ⟨hd, if h : us'.toArray.size = 1 then us'.toArray[0] else .tuple us'.toArray, ?_, resAV vs, S2, _, μ2, k1, rfl, k3.rs, ?_, k3.evo⟩
    · have e : (fn.results.mapM (resF a'.tmps)).run P w' = .ok us'.toArray w' := by
        rw [Array.mapM_eq_mapM_toList, Sem.run_map, k5]
        rfl
      show (fn.results.mapM (resF a'.tmps) >>= fun vs => pure (if h : vs.size = 1 then vs[0] else .tuple vs)).run P w' = _
      rw [Sem.run_bind, e]
      rfl
    · cases vs with
      | nil =>
        have : us' = [] := by have := k6.1; simpa using this
        subst this
        exact ⟨_, rfl, k6⟩
      | cons v vs =>
        cases vs with
        | nil =>
          obtain ⟨u, rfl⟩ : ∃ u, us' = [u] := by
            have := k6.1
            simp at this
            exact List.length_eq_one_iff.1 this
          obtain ⟨u', u1, u2⟩ := k6.2 0 v rfl
          simp at u1; subst u1
          exact u2
        | cons v' vs =>
          have hl : us'.toArray.size ≠ 1 := by rw [k6.1]; simp
          rw [dif_neg hl]
          exact ⟨_, rfl, k6⟩
  refine h μ S w _ ?_ μ (fun _ => 0) _ w rfl hst
  intro e env' S1 μ' β' a' w' h' hd' hst'
  cases e with
  | normal => exact fin _ _ _ _ _ _ h' hd' hst'
  | ret => exact fin _ _ _ _ _ _ h' hd' hst'
  | exit id => exact h'.elim
end Go.Proofs.YtockphlpokoohaaGreat
namespace Go.Proofs.YtockphlpokoohaaGreat
open Go Go.ChangeShapes Go.WideShapes Go.ChangeAt Go.RowKit
set_option linter.unusedVariables false
set_option linter.unusedSimpArgs false
set_option maxRecDepth 100000
structure StC (x0 : List Int) (c0 : C) where
  S : Store
  hc : Rd S [.sl 1 (x0.map dByte)] [c0]
theorem ev_big (l : List Int) (c : C) (S : Store) (h : Rd S [.sl 1 (l.map dByte)] [c]) : EvA Tryz.prog 12 [.s c] S (fun r S' => r = .v (.s (.bool (decide (1048576 < (l.length : Int))))) ∧ S' = S) := by
  refine evA_intro tok Tryz.func12 (by kernel_rfl) rfl ?_
  repeat' ((conv => whnf) <;> first
   | refine rE fun hml => ?_ | refine nP ?_ | refine And.intro ?_ ?_)
  all_goals rfl
end Go.Proofs.YtockphlpokoohaaGreat
namespace Go.Proofs.YtockphlpokoohaaGreat
open Go Go.ChangeShapes Go.WideShapes Go.ChangeAt Go.RowKit
set_option linter.unusedVariables false
set_option linter.unusedSimpArgs false
set_option maxRecDepth 100000
theorem GOutcome.ext_iff' (x y : GOutcome) : x = y ↔ x.Code = y.Code ∧ (x.Site.Owner = y.Site.Owner ∧ x.Site.Sub = y.Site.Sub) ∧ x.Path = y.Path := by
  obtain ⟨a, ⟨b, c⟩, d⟩ := x; obtain ⟨a', ⟨b', c'⟩, d'⟩ := y
  simp only [GOutcome.mk.injEq, GSite.mk.injEq]
theorem GOutcome.dec (x y : GOutcome) : decide (x = y) = decide (x.Code = y.Code ∧ (x.Site.Owner = y.Site.Owner ∧ x.Site.Sub = y.Site.Sub) ∧ x.Path = y.Path) := decide_eq_decide.2 (GOutcome.ext_iff' x y)
end Go.Proofs.YtockphlpokoohaaGreat
