/- A function's body cut in two: what holds between is said once, for all ways there. A text of the proof. A text of the proof. From the statement's arguments to typed values; what a law is made of. -/
import Derived.Test.YtlmmdpmmdmhacaaGreatKt09
import Derived.Test.YtlmmdpmmdmhacaaGreatKt37
import Derived.Test.YtlmmdpmmdmhacaaGreatKt34
import Derived.Test.YtlmmdpmmdmhacaaGreatKt44
import Derived.Test.YtlmmdpmmdmhacaaGreatKt46
import Derived.Test.YtlmmdpmmdmhacaaGreatKt31
import Derived.Test.YtlmmdpmmdmhacaaGreatKt16
import Derived.Test.YtlmmdpmmdmhacaaGreatRows
namespace Go.Proofs.YtlmmdpmmdmhacaaGreat
open Go
set_option linter.unusedVariables false
set_option linter.unusedSimpArgs false
set_option maxRecDepth 100000
def z0m : Nat → Code → Option (Code × Code)
 | 0, .seq x y => some (x, y)
 | n + 1, .seq x y => match z0m n y with
   | some (p, r) => some (.seq x p, r)
   | none => none
 | _, _ => none
def SmP (P : Program) (c : Code) (Q0 : Ex → Env → Store → Prop) (env : Env) (S : Store) : Prop :=
 ∀ (μ0 : Mp) (S0 : Store) (w0 : World) (Q : Exit → Act → World → Prop), z5o μ0 S0 w0 Q0 Q → ∀ (μ : Mp) (β : Nat → Nat) (a : Act) (w : World), a.defers = [] → St μ0 S0 w0 μ β env S a.tmps w → c.wp P Q a w
def z2d (env : Env) : List (Nat × AV) → Prop
 | [] => True
 | (d, x) :: r => env[d]? = some x ∧ z2d env r
def cutK (n : Nat) {B : Type} (L : B → List (Nat × AV)) (SS : B → Store) (Q : Ex → Env → Store → Prop) : Ex → Env → Store → Prop
 | .normal => fun env' S' => ∃ b, env'.length = n ∧ z2d env' (L b) ∧ S' = SS b
 | .exit j => Q (.exit j)
 | .ret => Q .ret
def z6x (n : Nat) (L : List (Nat × AV)) : Env := setL (List.replicate n .top) L
theorem zr5 : ∀ env : Env, zj9 env (List.replicate env.length .top)
 | [] => trivial
 | x :: e => ⟨trivial, zr5 e⟩
theorem ztq : ∀ {env e : Env} {d : Nat} {x : AV}, zj9 env e → env[d]? = some x → zj9 env (e.set d x)
 | [], [], d, x, _, h => by simp at h
 | y :: env, z :: e, 0, x, hl, h => by
   simp only [List.getElem?_cons_zero, Option.some.injEq] at h
   subst h
   exact ⟨by cases y <;> trivial, hl.2⟩
 | y :: env, z :: e, d + 1, x, hl, h => ⟨hl.1, ztq hl.2 (by simpa using h)⟩
theorem zpn : ∀ {L : List (Nat × AV)} {env e : Env}, zj9 env e → z2d env L → zj9 env (setL e L)
 | [], env, e, h, _ => h
 | (d, x) :: r, env, e, h, g => zpn (L := r) (ztq h g.1) g.2
theorem z3b {env : Env} {n : Nat} {L : List (Nat × AV)} (hn : env.length = n) (h : z2d env L) : zj9 env (z6x n L) := by
 subst hn
 exact zpn (zr5 env) h
section
variable {P : Program} {T : TT} {EV : Nat → List V → Store → (AV → Store → Prop) → Prop}
theorem zuh (hmix : P.follows .mixedOrders = true) (hT : TOK P T) (hEV : ∀ f args S R, EV f args S R → EvA P f args S R) {μ0 : Mp} {S0 : Store} {w0 : World} {K Q0 : Ex → Env → Store → Prop} {Q : Exit → Act → World → Prop} (hn : z5o μ0 S0 w0 Q0 Q) (hx : ∀ j, K (.exit j) = Q0 (.exit j)) (hr : K .ret = Q0 .ret) :
 ∀ (n : Nat) (c p r : Code), z0m n c = some (p, r) → (∀ env S μ β a w, K .normal env S → a.defers = [] → St μ0 S0 w0 μ β env S a.tmps w → r.wp P Q a w) →
  ∀ env S μ β a w, den T EV p K env S → a.defers = [] → St μ0 S0 w0 μ β env S a.tmps w → c.wp P Q a w
 | 0, .seq x y, p, r, hc, hk, env, S, μ, β, a, w, h, hd, hst => by
   simp only [z0m, Option.some.injEq, Prod.mk.injEq] at hc
   obtain ⟨rfl, rfl⟩ := hc
   refine wp_seq (zd4 hmix hT hEV x _ _ ?_ env S μ β a w h hd hst)
   intro e env' S' μ' β' a' w' h' hd' hst'
   cases e with
   | normal => exact hk _ _ _ _ _ _ h' hd' hst'
   | exit id => exact hn (.exit id) _ _ _ _ _ _ (by rw [← hx]; exact h') hd' hst'
   | ret => exact hn .ret _ _ _ _ _ _ (by rw [← hr]; exact h') hd' hst'
 | n + 1, .seq x y, p, r, hc, hk, env, S, μ, β, a, w, h, hd, hst => by
   simp only [z0m] at hc
   split at hc
   ·rename_i p' r' hc'
    simp only [Option.some.injEq, Prod.mk.injEq] at hc
    obtain ⟨rfl, rfl⟩ := hc
    have ih := zuh hmix hT hEV hn hx hr n y p' r' hc' hk
    refine wp_seq (zd4 hmix hT hEV x _ _ ?_ env S μ β a w h hd hst)
    intro e env' S' μ' β' a' w' h' hd' hst'
    cases e with
    | normal => exact ih _ _ _ _ _ _ h' hd' hst'
    | exit id => exact hn (.exit id) _ _ _ _ _ _ (by rw [← hx]; exact h') hd' hst'
    | ret => exact hn .ret _ _ _ _ _ _ (by rw [← hr]; exact h') hd' hst'
   ·cases hc
theorem z4b (hT : P.follows .mixedOrders = true ∧ TOK P T) {c : Code} {Q0 : Ex → Env → Store → Prop} {env : Env} {S : Store} (h : denR T (EvA P) c Q0 env S) : SmP P c Q0 env S := by
 intro μ0 S0 w0 Q hn μ β a w hd hst
 rw [zuy] at h
 exact zd4 hT.1 hT.2 (fun _ _ _ _ h => h) c Q0 Q hn env S μ β a w h hd hst
theorem z4l (hT : P.follows .mixedOrders = true ∧ TOK P T) (n m : Nat) {c p r : Code} {Q0 : Ex → Env → Store → Prop} {env : Env} {S : Store} {B : Type} (L : B → List (Nat × AV)) (SS : B → Store) (hc : z0m n c = some (p, r))
 (h1 : denR T (EvA P) p (cutK m L SS Q0) env S) (h2 : ∀ b, SmP P r Q0 (z6x m (L b)) (SS b)) : SmP P c Q0 env S := by
 intro μ0 S0 w0 Q hn μ β a w hd hst
 rw [zuy] at h1
 refine zuh hT.1 hT.2 (fun _ _ _ _ h => h) hn (K := cutK m L SS Q0) (fun _ => rfl) rfl n c p r hc ?_ env S μ β a w h1 hd hst
 intro env' S' μ' β' a' w' h' hd' hst'
 obtain ⟨b, hl, hv, rfl⟩ := h'
 exact h2 b μ0 S0 w0 Q hn μ' β' a' w' hd' (hst'.weaken (z3b hl hv))
end
theorem zzi {P : Program} {T : TT} (hT : P.follows .mixedOrders = true ∧ TOK P T) {f : Nat} {fn : Func} {c : Code} {args : List V} {S : Store} {R : AV → Store → Prop} (hf : P.funcs[f]? = some fn) (hname : (fn.name == "runtime.NumGoroutine") = false) (hb : fn.body = some c)
 (h : SmP P c (retK T fn R) (args.map AV.v ++ List.replicate (fn.ntmps - args.length) .und) S) : EvA P f args S R := by
 obtain ⟨hmix, hT⟩ := hT
 refine ⟨⟨fn, hf, hname, by rw [hb]; rfl⟩, fun μ w us rs hA hv => calls_of_wp hf hb ?_⟩
 have hst : St μ S w μ (fun _ => 0) (args.map AV.v ++ List.replicate (fn.ntmps - args.length) .und) S (us ++ Array.replicate (fn.ntmps - us.size) undef) w := by
  have np : ∀ (d : Nat) x, (args.map AV.v ++ List.replicate (fn.ntmps - args.length) .und)[d]? = some x → x.priv = true → False := by
   intro d x hx hp
   rcases List.mem_append.1 (List.mem_of_getElem? hx) with h | h
   ·obtain ⟨v, _, rfl⟩ := List.mem_map.1 h; cases hp
   ·rw [List.eq_of_mem_replicate h] at hp; cases hp
  refine ⟨rs, Evo.refl μ S w, by simp [hv.1], fun d x hx => ?_, fun d d' x x' h1 _ p1 => (np d x h1 p1).elim, fun d x id row m h1 p1 => (np d x h1 p1).elim, fun d x h1 p1 => (np d x h1 p1).elim, hA⟩
  by_cases hd : d < args.length
  ·rw [List.getElem?_append_left (by simpa using hd), List.getElem?_map] at hx
   cases ha : args[d]? with
   | none => rw [ha] at hx; cases hx
   | some v =>
     rw [ha] at hx
     simp at hx; subst hx
     obtain ⟨u, u1, u2⟩ := hv.2 d v ha
     have hus : d < us.size := by rw [hv.1]; exact hd
     have : (us ++ Array.replicate (fn.ntmps - us.size) undef).getD d undef = u := by
      rw [Array.getD_eq_getD_getElem?, Array.getElem?_append_left hus, u1]; rfl
     rw [this]
     exact u2
  ·rw [List.getElem?_append_right (by simpa using hd)] at hx
   have := List.eq_of_mem_replicate (List.mem_of_getElem? hx)
   subst this
   have : (us ++ Array.replicate (fn.ntmps - us.size) undef).getD d undef = undef := by
    rw [Array.getD_eq_getD_getElem?, Array.getElem?_append_right (by rw [hv.1]; omega)]
    cases hg : (Array.replicate (fn.ntmps - us.size) undef)[d - us.size]? with
    | none => rfl
    | some x =>
      have := Array.getElem?_eq_some_iff.1 hg
      obtain ⟨h1, h2⟩ := this
      simp at h2
      rw [← h2]; rfl
   rw [this]
   rfl
 have fin : ∀ env' S1 μ' β' a' w', dRet T fn R env' S1 → a'.defers = [] → St μ S w μ' β' env' S1 a'.tmps w' → bodyPost P fn (fun e w' => ∃ res S' u μ', R res S' ∧ e = .returned u ∧ RS μ' S' w' ∧ AVR μ' S' res u ∧ Evo μ S w μ' S' w') .ret a' w' := by
  intro env' S1 μ' β' a' w' hr hd hst'
  obtain ⟨vs, us', env2, S2, μ2, k1, k3, k4, k5, k6⟩ := zi1 hT _ _ _ _ _ hst' hr
  refine ⟨hd, if h : us'.toArray.size = 1 then us'.toArray[0] else .tuple us'.toArray, ?_, zay vs, S2, _, μ2, k1, rfl, k3.rs, ?_, k3.evo⟩
  ·have e : (fn.results.mapM (resF a'.tmps)).run P w' = .ok us'.toArray w' := by
    rw [Array.mapM_eq_mapM_toList, Sem.run_map, k5]
    rfl
   show (fn.results.mapM (resF a'.tmps) >>= fun vs => pure (if h : vs.size = 1 then vs[0] else .tuple vs)).run P w' = _
   rw [Sem.run_bind, e]
   rfl
  ·cases vs with
   | nil =>
     have : us' = [] := by have := k6.1; simpa using this
     subst this
     exact ⟨_, rfl, k6⟩
   | cons v vs =>
     cases vs with
     | nil =>
       obtain ⟨u, rfl⟩ : ∃ u, us' = [u] := by
        have := k6.1
        simp at this
        exact List.length_eq_one_iff.1 this
       obtain ⟨u', u1, u2⟩ := k6.2 0 v rfl
       simp at u1; subst u1
       exact u2
     | cons v' vs =>
       have hl : us'.toArray.size ≠ 1 := by rw [k6.1]; simp
       rw [dif_neg hl]
       exact ⟨_, rfl, k6⟩
 refine h μ S w _ ?_ μ (fun _ => 0) _ w rfl hst
 intro e env' S1 μ' β' a' w' h' hd' hst'
 cases e with
 | normal => exact fin _ _ _ _ _ _ h' hd' hst'
 | ret => exact fin _ _ _ _ _ _ h' hd' hst'
 | exit id => exact h'.elim
end Go.Proofs.YtlmmdpmmdmhacaaGreat
namespace Go.Proofs.YtlmmdpmmdmhacaaGreat
open Go Go.ChangeShapes Go.WideShapes Go.ChangeAt Go.RowKit
set_option linter.unusedVariables false
set_option linter.unusedSimpArgs false
set_option maxRecDepth 100000
structure StC (x0 : List Int) (c0 : C) where
 S : Store
 hc : Rd S [.sl 1 (x0.map zot)] [c0]
theorem z4e (l : List Int) (c : C) (S : Store) (h : Rd S [.sl 1 (l.map zot)] [c]) : EvA Tryz.prog 8 [.s c] S (fun r S' => r = .v (.s (.bool (decide (1048576 < (l.length : Int))))) ∧ S' = S) := by
 refine zac tok Tryz.func8 (by kernel_rfl) rfl ?_
 repeat' ((conv => whnf) <;> first
  | refine rE fun hml => ?_ | refine nP ?_ | refine And.intro ?_ ?_)
 all_goals rfl
theorem z1n (l m : List GNode) (c c' : C) (S : Store) (h : Rd S [.sl 5 (l.map GNode.d)] [c]) (h' : Rd S [.sl 5 (m.map GNode.d)] [c']) : EvA Tryz.prog 51 [.s c, .s c'] S (fun r S' => r = .v (.s (.bool (decide (l = m)))) ∧ S' = S) := by
 refine zac tok Tryz.func51 (by kernel_rfl) rfl ?_
 repeat' ((conv => whnf) <;> first
  | refine zaa (z0z _ _ _ _ _ aN aN) ?_ | refine nP ?_ | refine And.intro ?_ ?_)
 all_goals rfl
theorem zu0 (d : List GNode) (l : List GEdit) (by' : Int) (c c' : C) (S : Store) (h : Rd S [.sl 5 (d.map GNode.d)] [c]) (h' : Rd S [.sl 6 (l.map GEdit.d)] [c']) (hz : d.length ≤ 4194304) (hz' : l.length ≤ 4194304) : EvA Tryz.prog 53 [.s c, .s c', .s (.int .i64 by')] S (fun r S' => Ext S S' ∧ ∃ c', r = .v (.s c') ∧ Fr S.length S' [.sl 5 ((zdh d (l.filter (zqp by'))).map GNode.d)] [c']) := by
 have hl := List.length_filter_le (zqp by') l
 refine zac tok Tryz.func53 (by kernel_rfl) rfl ?_
 repeat' ((conv => whnf) <;> first
  | refine nP ?_ | refine And.intro ?_ ?_)
 (conv => whnf)
 refine zab (zhd l by' _ _ h' hz') ?_; rintro _ S1 ⟨e1, c1, rfl, f1⟩
 repeat' ((conv => whnf) <;> first
  | refine nP ?_ | refine And.intro ?_ ?_)
 (conv => whnf)
 refine zab (zim d (l.filter (zqp by')) _ _ _ (h.ext e1) f1.rd hz (by omega)) ?_; rintro _ S2 ⟨e2, c2, rfl, f2⟩
 repeat' ((conv => whnf) <;> first
  | (refine zab (zhd _ _ _ _ rdA om) ?_; rintro _ Sn ⟨hEn, cn, rfl, hFn⟩) | (refine zab (zim _ _ _ _ _ rdA rdA om om) ?_; rintro _ Sn ⟨hEn, cn, rfl, hFn⟩) | refine nP ?_ | refine And.intro ?_ ?_)
 all_goals first
  | exact e1.trans e2
  | exact ⟨_, rfl, f2.mono e1.len⟩
structure StP where
 S : Store
 b : GBrowser
 c1 : C
 c2 : C
 c3 : C
 c4 : C
 c5 : C
 c6 : C
 ok : Good b
 rd : Rd S b.d [.int .i64 b.Key, c1, c2, c3, c4, c5, c6, .int .i64 b.Now]
abbrev zop : List Int := [5, 6, 7, 8, 9]
abbrev row5 : Row := ⟨true, 1, zop.map fun n => [.int .i64 n]⟩
set_option maxHeartbeats 16000000 in
theorem z47 (x0 : List Int) (c0 : C) (S : Store) (h0 : Rd S [.sl 1 (x0.map zot)] [c0]) : EvA Tryz.prog 7 [.s c0] S (fun r _ => r = .v (.s (.bool true))) := by
 refine zzi tok Tryz.func7 (by kernel_rfl) rfl ?_
 have hz1 : ¬ 1048576 < (x0.length : Int) → x0.length ≤ 1048576 := fun h => by omega
 by_cases hbig : 1048576 < (x0.length : Int)
 ·refine z4b tok ?_
  repeat' ((conv => whnf) <;> first
   | (show CondP _ _ _; refine cS ?_) | refine zaa (z4e _ _ _ rdA) ?_)
  all_goals first
   | rfl
   | (exfalso; omega)
 have hz := hz1 hbig
 refine z4l tok 4 188 (fun q : StP => [(5, .box [.int .i64 q.b.Key, q.c1, q.c2, q.c3, q.c4, q.c5, q.c6, .int .i64 q.b.Now])]) (fun q => q.S) rfl ?_ ?_
 ·repeat' ((conv => whnf) <;> first
   | (show CondP _ _ _; refine cS ?_) | refine zaa (z4e _ _ _ rdA) ?_)
  (conv => whnf)
  refine zab (zl2 x0 h0 hz) ?_; rintro _ S1 ⟨e1, b, l, hb, hp, hg, hru, hl1, hl2, hle, c1, c2, c3, c4, c5, c6, cl, rfl, rb, rl⟩
  have hgd := z3v hb hp hg hru
  clear e1 hp hg hru
  skip
  refine zag {q : Nat × Store × C × C × C × C × C × C // q.1 ≤ l.length ∧ Ext S1 q.2.1 ∧ Rd q.2.1 (zk7 b (l.take q.1)).d [.int .i64 (zk7 b (l.take q.1)).Key, q.2.2.1, q.2.2.2.1, q.2.2.2.2.1, q.2.2.2.2.2.1, q.2.2.2.2.2.2.1, q.2.2.2.2.2.2.2, .int .i64 (zk7 b (l.take q.1)).Now]} [2, 5, 6, 7, 8, 30, 31, 32, 33, 34, 35, 36, 37, 38, 39, 40, 41, 42, 43, 44, 45, 46, 47, 48] (fun zb => [(6, .v (.s (.int .i64 (zb.1.1 : Nat)))), (5, .box [.int .i64 (zk7 b (l.take zb.1.1)).Key, zb.1.2.2.1, zb.1.2.2.2.1, zb.1.2.2.2.2.1, zb.1.2.2.2.2.2.1, zb.1.2.2.2.2.2.2.1, zb.1.2.2.2.2.2.2.2, .int .i64 (zk7 b (l.take zb.1.1)).Now])]) (fun zb => zb.1.2.1) (fun zb => l.length - zb.1.1) ⟨(0, S1, _, _, _, _, _, _), Nat.zero_le _, Ext.refl _, rb⟩ okL rfl ?_
  rintro ⟨⟨i, Si, d1, d2, d3, d4, d5, d6⟩, hi, hE, hR⟩; dsimp only
  dsimp only at hi hE hR
  have hl := rl.ext hE
  have hx := z3i hb (l.take i)
  by_cases hlt : i < l.length
  ·have hi' : 0 ≤ ((i : Nat) : Int) ∧ ((i : Nat) : Int).toNat < l.length := ⟨by omega, by simpa using hlt⟩
   obtain ⟨pcs, hpr, hpld⟩ := zd6 hl (i := ((i : Nat) : Int)) hi'
   have hpr0 := hpr
   obtain ⟨_, _, _, _, rfl, _⟩ := zwk hpr
   repeat' ((conv => whnf) <;> first
    | (refine zdp hl ?_; intro hml) | (refine hpld _ (Ext.refl _) _ ?_) | (show CondP _ _ _; refine cS ?_) | refine rI rdA rf ix ?_ | refine zae 37 [.fl 0, .fl 1, .fl 2, .fl 3, .fl 4, .fl 9, .st 5 [9], .fl 6, .fl 7, .fl 8, .st 10 [8], .st 11 []] (by rfl) (by kernel_rfl) ?_)
   all_goals try (exfalso; omega)
   (conv => whnf)
   refine zab (zoo hx _ (hle _ (List.getElem_mem hi'.2)) _ _ _ hR hpr0) ?_; rintro _ S2 ⟨e2, g1, g2, g3, g4, g5, g6, rfl, f2⟩
   have hT : (za1 (zk7 b (l.take i)) (l[((i : Nat) : Int).toNat]'hi'.2)).1 = zk7 b (l.take (i + 1)) := (zyl hlt).symm
   rw [hT] at f2 ⊢
   have r2 := f2.rd
   have hgg := zp1 hgd (l.take (i + 1))
   have hsz := hgg.ok.sz
   have kf := zmw _ _ _ r2 (by omega)
   rw [zpc hgg] at kf
   repeat' ((conv => whnf) <;> first
    | (refine zaa kf ?_) | rw [zad (by omega)] | refine cN (fun _ => ?_) fun _ => ?_ | refine And.intro ?_ ?_)
   all_goals first
    | (exfalso; omega)
    | (exfalso; rename_i x; rw [zw2] at x; first | exact x rfl | (simp at x; done))
    | (refine ⟨⟨(i + 1, S2, _, _, _, _, _, _), by dsimp only; omega, hE.trans e2, r2⟩, ?_, rfl, by dsimp only; omega⟩; (conv => whnf); repeat' (first | exact trivial | exact rfl | apply And.intro))
  rw [List.take_of_length_le (by omega)] at hR ⊢
  repeat' ((conv => whnf) <;> first
   | (refine zdp hl ?_; intro hml) | (show CondP _ _ _; refine cS ?_))
  all_goals try (exfalso; omega)
  (conv => whnf)
  exact ⟨⟨Si, zk7 b l, _, _, _, _, _, _, zp1 hgd l, hR⟩, rfl, ⟨rfl, trivial⟩, rfl⟩
 clear h0 hz hz1 hbig
 rintro ⟨S0, b, c1, c2, c3, c4, c5, c6, gd, rb⟩
 dsimp only at gd rb ⊢
 have hsz := gd.ok.sz
 have hbl := gd.ok.pl
 have hbt := gd.ok.tl
 refine z4l tok 2 188 (fun q : StP => [(5, .box [.int .i64 q.b.Key, q.c1, q.c2, q.c3, q.c4, q.c5, q.c6, .int .i64 q.b.Now])]) (fun q => q.S) rfl ?_ ?_
 ·skip
  (conv => whnf)
  have rv0 : Rd (S0 ++ [row5]) [.sl 1 (zop.map dInt)] [.sl S0.length 0 5 5] := zvh (S := S0) zop (by decide)
  have rb0 : Rd (S0 ++ [row5]) b.d [.int .i64 b.Key, c1, c2, c3, c4, c5, c6, .int .i64 b.Now] := rb.ext (Ext.push S0 row5)
  have kd := zi7 b zop _ _ _ rb0 rv0
  rw [(zzn (zpq.2 gd.ok) zop).trans (z01 gd.ok zop)] at kd
  refine zaa kd ?_
  clear kd rb
  obtain ⟨_, _, _, _, _, _, hk0, t1, t2, t3, t4, t5, t6⟩ := GBrowser.inv rb0
  simp only [List.cons.injEq, true_and, and_true] at hk0
  obtain ⟨rfl, rfl, rfl, rfl, rfl, rfl⟩ := hk0
  clear t5 t6
  repeat' ((conv => whnf) <;> first
   | refine cF ?_)
  refine zag {q : Nat × Store // q.1 ≤ b.Packs.length ∧ Ext (S0 ++ [row5]) q.2} [2, 10, 11, 12, 13, 14, 15, 54, 55, 56, 57, 58, 59, 60, 61, 62, 63, 64, 65, 66, 67, 68, 69, 70, 71, 72, 73, 74, 75, 76, 77, 78, 79, 80, 81, 82, 83, 84, 85, 86, 87, 88, 89, 90, 91, 92, 93, 94, 95, 96, 97, 98, 99, 100, 101, 102, 103, 104, 105, 106, 107, 108, 109, 110, 111, 112, 113, 114, 115, 116, 117, 118, 119, 120, 121, 122, 123, 124, 125, 126, 127, 128, 129, 130, 131, 132, 133, 134, 135, 136, 137, 138, 139, 140, 141, 142, 143] (fun zb => [(10, .v (.s (.int .i64 (zb.1.1 : Nat))))]) (fun zb => zb.1.2) (fun zb => b.Packs.length - zb.1.1) ⟨(0, _), Nat.zero_le _, Ext.refl _⟩ okL rfl ?_
  rintro ⟨⟨i, Si⟩, hi, hE⟩; dsimp only
  replace hi : i ≤ b.Packs.length := hi
  replace hE : Ext (S0 ++ [row5]) Si := hE
  have t2i := t2.ext hE
  by_cases hlt : i < b.Packs.length
  ·have hi' : 0 ≤ ((i : Nat) : Int) ∧ ((i : Nat) : Int).toNat < b.Packs.length := ⟨by omega, by simpa using hlt⟩
   obtain ⟨pcs, hpr, hpld⟩ := zd6 t2 (i := ((i : Nat) : Int)) hi'
   obtain ⟨_, _, _, _, rfl, _, _, _, _⟩ := GPackage.inv hpr
   have hex : (b.Packs[((i : Nat) : Int).toNat]'hi'.2).Ext ∈ exts b := List.mem_map.2 ⟨_, List.getElem_mem hi'.2, rfl⟩
   obtain ⟨ext, hext⟩ : ∃ e, e = (b.Packs[((i : Nat) : Int).toNat]'hi'.2).Ext := ⟨_, rfl⟩
   rw [← hext] at hpld hex
   have hp := zfv.2 hex
   have he15 := z45 gd.ok hex
   clear hpr hext hex
   repeat' ((conv => whnf) <;> first
    | (refine zdp t2i ?_; intro hml) | (refine hpld _ hE _ ?_) | (show CondP _ _ _; refine cS ?_) | refine rI rdA rf ix ?_)
   all_goals try (exfalso; omega)
   (conv => whnf)
   refine zab (zjb b ext _ _ (rb0.ext hE) (by omega)) ?_; rintro _ S2 ⟨e2, d1, d2, d3, d4, d5, d6, rfl, f2⟩
   rw [zu5 hp] at f2 ⊢
   have r2 : Rd S2 (zgb b ext).d [.int .i64 (zgb b ext).Key, d1, d2, d3, d4, d5, d6, .int .i64 (zgb b ext).Now] := f2.rd
   have E2 := hE.trans e2
   clear f2 e2 hpld
   have gy := zya gd hp
   have hysz := gy.ok.sz
   have kt := ztv (zgb b ext) ext _ _ r2 (by omega)
   rw [zvq gy.ok he15.1 (zy0 gd.ok hp)] at kt
   have kf := zmw (zgb b ext) _ _ r2 (by omega)
   rw [zpc gy] at kf
   have htl := z03 b ext
   obtain ⟨_, _, _, _, _, _, hk0, u1, _, _, _, _, _⟩ := GBrowser.inv r2
   simp only [List.cons.injEq, true_and, and_true] at hk0
   obtain ⟨rfl, rfl, rfl, rfl, rfl, rfl⟩ := hk0
   repeat' ((conv => whnf) <;> first
    | (refine zaa kf ?_) | (refine zaa kt ?_) | refine cF ?_ | refine cN (fun _ => ?_) fun _ => ?_)
   all_goals try (exfalso; omega)
   all_goals try (exfalso; rename_i x; rw [zw2] at x; first | exact x rfl | (simp at x; done))
   clear kt kf
   refine zag {q : Nat × Store // q.1 ≤ b.Tabs.length ∧ Ext S2 q.2} [2, 14, 86, 87, 88, 89, 90, 91, 92, 93, 94, 95, 96, 97, 98, 99, 100, 101, 102, 103, 104, 105, 106, 107, 108, 109, 110, 111, 112, 113, 114] (fun zb => [(14, .v (.s (.int .i64 (zb.1.1 : Nat))))]) (fun zb => zb.1.2) (fun zb => b.Tabs.length - zb.1.1) ⟨(0, S2), Nat.zero_le _, Ext.refl _⟩ okL rfl ?_
   rintro ⟨⟨j, Sj⟩, hj, hEj⟩; dsimp only
   replace hj : j ≤ b.Tabs.length := hj
   replace hEj : Ext S2 Sj := hEj
   have u1j := u1.ext hEj
   by_cases hltj : j < b.Tabs.length
   ·have hi1 : 0 ≤ ((j : Nat) : Int) ∧ ((j : Nat) : Int).toNat < b.Tabs.length := ⟨by omega, by simpa using hltj⟩
    have hi2 : 0 ≤ ((j : Nat) : Int) ∧ ((j : Nat) : Int).toNat < (zgb b ext).Tabs.length := ⟨by omega, by rw [htl]; exact hi1.2⟩
    have hxt := z2u (ext := ext) hi1.2 hi2.2
    have h66 := zqb (gd.ok.tabs _ (List.getElem_mem hi1.2))
    have hx66 := zqb (gy.ok.tabs _ (List.getElem_mem hi2.2))
    have hd1 := zq2 (b.Tabs[((j : Nat) : Int).toNat]'hi1.2)
    have hd2 := zq2 ((zgb b ext).Tabs[((j : Nat) : Int).toNat]'hi2.2)
    obtain ⟨pcs, hpr, hpld⟩ := zd6 u1 (i := ((j : Nat) : Int)) hi2
    have hpr0 := hpr
    obtain ⟨_, _, _, rfl, a1, a2, a3⟩ := GTab.inv hpr
    obtain ⟨ycs, hyr, hyld⟩ := zd6 t1 (i := ((j : Nat) : Int)) hi1
    obtain ⟨_, _, _, rfl, y1, y2, y3⟩ := GTab.inv hyr
    have EJ := E2.trans hEj
    have t1' := t1.ext EJ
    repeat' ((conv => whnf) <;> first
     | (refine zdp u1j ?_; intro hml) | (refine hyld _ EJ _ ?_) | (refine hpld _ hEj _ ?_) | (show CondP _ _ _; refine cS ?_) | refine rI rdA rf ix ?_ | refine zae 93 [.fl 0, .fl 1, .fl 2, .fl 3, .fl 4, .fl 6, .fl 7, .fl 8, .fl 9, .fl 10, .fl 11, .fl 12, .fl 13, .fl 14, .fl 15, .fl 16, .fl 17, .fl 18, .st 5 [6, 7, 8, 9, 10, 11, 12, 13, 14, 15, 16, 17, 18], .st 19 [], .st 20 [], .fl 21] (by rfl) (by kernel_rfl) ?_)
    all_goals try (exfalso; omega)
    (conv => whnf)
    refine zab (zdr _ _ _ (hpr0.ext hEj) (by omega)) ?_; rintro _ S5 ⟨e5, k5, rfl, f5⟩
    have E5 := EJ.trans e5
    repeat' ((conv => whnf) <;> first
     | (refine hyld _ E5 _ ?_) | refine rI rdA rf ix ?_ | refine And.intro ?_ ?_)
    (conv => whnf)
    refine zab (zu0 _ _ ext _ _ _ (y1.ext E5) (y2.ext E5) (by omega) (by omega)) ?_; rintro _ S6 ⟨e6, k6, rfl, f6⟩
    have q5 := f5.rd.ext e6
    have heq := z1n _ _ _ _ _ q5 f6.rd
    rw [decide_eq_true (show zdh ((zgb b ext).Tabs[((j : Nat) : Int).toNat]'hi2.2).Base ((zgb b ext).Tabs[((j : Nat) : Int).toNat]'hi2.2).Edits = zdh (b.Tabs[((j : Nat) : Int).toNat]'hi1.2).Base ((b.Tabs[((j : Nat) : Int).toNat]'hi1.2).Edits.filter (zqp ext)) by rw [hxt]; rfl)] at heq
    repeat' ((conv => whnf) <;> first
     | (refine zaa heq ?_) | rw [zad (by omega)] | refine cF ?_)
    all_goals first
     | (exfalso; omega)
     | (refine ⟨⟨(j + 1, S6), by dsimp only; omega, (hEj.trans e5).trans e6⟩, ?_, rfl, by dsimp only; omega⟩; (conv => whnf); repeat' (first | exact trivial | exact rfl | apply And.intro))
     | (exfalso; simp_all; done)
   repeat' ((conv => whnf) <;> first
    | (refine zdp u1j ?_; intro hml) | (show CondP _ _ _; refine cS ?_))
   all_goals try (exfalso; omega)
   have EJ := E2.trans hEj
   clear hltj hj u1j
   refine zag {q : Nat × Store // q.1 ≤ 4 ∧ Ext (S0 ++ [row5]) q.2} [2, 15, 115, 116, 117, 118, 119, 120, 121, 122, 123, 124, 125, 126, 127, 128, 129, 130, 131, 132, 133, 134, 135, 136, 137, 138, 139, 140, 141, 142, 143] (fun zb => [(15, .v (.s (.int .i64 ((zb.1.1 : Int) + 1))))]) (fun zb => zb.1.2) (fun zb => 4 - zb.1.1) ⟨(0, Sj), Nat.zero_le _, EJ⟩ okL rfl ?_
   rintro ⟨⟨o, So⟩, ho, hEo⟩; dsimp only
   replace ho : o ≤ 4 := ho
   replace hEo : Ext (S0 ++ [row5]) So := hEo
   by_cases hlto : o < 4
   ·have km := znb b.Grants b.Limits ext ⟨(o : Int) + 1, 0⟩ 1 b.Now false _ _ _ (t3.ext hEo) (t4.ext hEo)
    cases hm : zgc b ext ((o : Int) + 1) 1
    ·rw [show zxl b.Grants b.Limits ext ⟨(o : Int) + 1, 0⟩ 1 b.Now false = false from hm] at km
     repeat' ((conv => whnf) <;> first
      | (refine zaa km ?_) | (show CondP _ _ _; refine cS ?_) | refine cT ?_ | refine zae 119 [.fl 0, .fl 1, .fl 2, .fl 3, .fl 4, .fl 5, .fl 6, .fl 7, .fl 8, .st 9 [], .fl 10, .fl 11, .fl 12, .fl 13, .fl 14, .fl 16, .fl 17, .fl 18, .fl 19, .st 15 [16, 17, 18, 19], .st 20 [16, 17], .st 21 [], .st 22 [], .fl 23, .fl 24] (by rfl) (by kernel_rfl) ?_)
     all_goals try (exfalso; omega)
     (conv => whnf)
     refine zab (zhz b ext zop _ _ _ (rb0.ext hEo) (rv0.ext hEo)) ?_; rintro _ S3 ⟨e3, k3, rfl, f3⟩
     have E3 := hEo.trans e3
     repeat' ((conv => whnf) <;> first
      | refine And.intro ?_ ?_)
     (conv => whnf)
     refine zab (zoj zop ((o : Int) + 1) 123 _ _ (rv0.ext E3)) ?_; rintro _ S4 ⟨e4, k4, rfl, f4⟩
     have E4 := E3.trans e4
     repeat' ((conv => whnf) <;> first
      | refine And.intro ?_ ?_)
     (conv => whnf)
     refine zab (zhz b ext (zb8 zop ((o : Int) + 1) 123) _ _ _ (rb0.ext E4) f4.rd) ?_; rintro _ S5 ⟨e5, k5, rfl, f5⟩
     have E5 := E4.trans e5
     have heq := zsz _ _ _ _ _ (f3.rd.ext (e4.trans e5)) f5.rd
     rw [z0a zop 123 hm, decide_eq_true rfl] at heq
     repeat' ((conv => whnf) <;> first
      | (refine zaa heq ?_) | rw [zad (by omega)] | refine cF ?_)
     all_goals first
      | (exfalso; omega)
      | (refine ⟨⟨(o + 1, S5), by dsimp only; omega, E5⟩, ?_, rfl, by dsimp only; omega⟩; (conv => whnf); repeat' (first | exact trivial | exact rfl | (show _ = _; congr 3; dsimp only; omega) | apply And.intro))
      | (exfalso; simp_all; done)
    ·rw [show zxl b.Grants b.Limits ext ⟨(o : Int) + 1, 0⟩ 1 b.Now false = true from hm] at km
     repeat' ((conv => whnf) <;> first
      | (refine zaa km ?_) | rw [zad (by omega)] | (show CondP _ _ _; refine cS ?_) | refine cF ?_ | refine zae 119 [.fl 0, .fl 1, .fl 2, .fl 3, .fl 4, .fl 5, .fl 6, .fl 7, .fl 8, .st 9 [], .fl 10, .fl 11, .fl 12, .fl 13, .fl 14, .fl 16, .fl 17, .fl 18, .fl 19, .st 15 [16, 17, 18, 19], .st 20 [16, 17], .st 21 [], .st 22 [], .fl 23, .fl 24] (by rfl) (by kernel_rfl) ?_ | refine And.intro ?_ ?_)
     all_goals first
      | (exfalso; omega)
      | (refine ⟨⟨(o + 1, So), by dsimp only; omega, hEo⟩, ?_, rfl, by dsimp only; omega⟩; (conv => whnf); repeat' (first | exact trivial | exact rfl | (show _ = _; congr 3; dsimp only; omega) | apply And.intro))
      | (exfalso; simp_all; done)
   repeat' ((conv => whnf) <;> first
    | rw [zad (by omega)] | (show CondP _ _ _; refine cS ?_))
   all_goals first
    | (exfalso; omega)
    | (refine ⟨⟨(i + 1, So), by dsimp only; omega, hEo⟩, ?_, rfl, by dsimp only; omega⟩; (conv => whnf); repeat' (first | exact trivial | exact rfl | apply And.intro))
  repeat' ((conv => whnf) <;> first
   | (refine zdp t2i ?_; intro hml) | (show CondP _ _ _; refine cS ?_))
  all_goals try (exfalso; omega)
  (conv => whnf)
  exact ⟨⟨Si, b, _, _, _, _, _, _, gd, rb0.ext hE⟩, rfl, ⟨rfl, trivial⟩, rfl⟩
 rintro ⟨S0, b, c1, c2, c3, c4, c5, c6, gd, rb⟩
 dsimp only at gd rb ⊢
 refine z4b tok ?_
 have hsz := gd.ok.sz
 obtain ⟨_, _, _, _, _, _, hk0, t1, t2, t3, t4, t5, t6⟩ := GBrowser.inv rb
 simp only [List.cons.injEq, true_and, and_true] at hk0
 obtain ⟨rfl, rfl, rfl, rfl, rfl, rfl⟩ := hk0
 have h20 : b.Rules.length ≤ 20 := by
  have h := gd.ok.fair
  unfold zdm at h
  rw [Bool.and_eq_true, decide_eq_true_eq] at h
  exact h.1
 skip
 (conv => whnf)
 refine zab (zvs b.Rules _ _ t5 h20) ?_; rintro _ S1 ⟨e1, cA, cB, rfl, fT⟩
 have rA : Rd S1 [.sl 8 ((zbf 0 (zav b.Rules)).map GRule.d)] [cA] := fT.rdAt (o := 0) rfl rfl
 have rB : Rd S1 [.sl 1 ((byR (zav b.Rules)).map zdq)] [cB] := fT.rdAt (o := 1) rfl rfl
 have h9 := zjn (zav b.Rules)
 replace t5 := t5.ext e1
 clear fT e1 rb t1 t2 t3 t4 t6
 skip
 refine zag {i : Nat // i ≤ 40 ∧ True} [2, 17, 18, 19, 20, 21, 147, 148, 149, 150, 151, 152, 153, 154, 155, 156, 157, 158, 159, 160, 161, 162, 163, 164, 165, 166, 167, 168, 169, 170, 171, 172, 173, 174, 175, 176, 177, 178, 179, 180, 181, 182, 183, 184, 185, 186, 187] (fun zb => [(17, .v (.s (.int .i64 zb.1)))]) (fun _ => S1) (fun zb => 40 - zb.1) ⟨0, Nat.zero_le _, trivial⟩ okL rfl ?_
 rintro ⟨i, hi, hinv⟩; dsimp only
 by_cases hlt : i < 40
 ·have hq1 := Int.tdiv_eq_ediv_of_nonneg (b := 10) (show (0 : Int) ≤ (i : Int) by omega)
  have hq2 := Int.tmod_eq_emod_of_nonneg (b := 10) (show (0 : Int) ≤ (i : Int) by omega)
  have hq3 := Int.tmod_eq_emod_of_nonneg (b := 4) (show (0 : Int) ≤ (i : Int) by omega)
  have hk : (1 + Int.tdiv (i : Int) 10) = (((i / 10 : Nat) : Int) + 1) := by omega
  have hk2 : i / 10 < (byR (zav b.Rules)).length := by omega
  have hbk := zpp (zav b.Rules) hk2
  rw [← hk] at hbk
  have kf := z3x (zbf 0 (zav b.Rules)) (byR (zav b.Rules)) ⟨⟨1 + Int.tdiv (i : Int) 10, Int.tmod (i : Int) 10⟩, 1 + Int.tmod (i : Int) 4⟩ (i / 10) hk hk2 (by omega) cA cB S1 rA rB
  have kd := zxt b.Rules ⟨⟨1 + Int.tdiv (i : Int) 10, Int.tmod (i : Int) 10⟩, 1 + Int.tmod (i : Int) 4⟩ _ S1 t5
  have hfd := zvb b.Rules ⟨⟨1 + Int.tdiv (i : Int) 10, Int.tmod (i : Int) 10⟩, 1 + Int.tmod (i : Int) 4⟩
  rw [hbk] at kf
  dsimp only at hfd
  repeat' ((conv => whnf) <;> first
   | rw [zad (by omega)] | (show CondP _ _ _; refine cS ?_) | refine nP ?_)
  all_goals try (exfalso; omega)
  (conv => whnf)
  refine zab kf ?_; rintro r Sx ⟨hs, hr⟩; replace hs := hs.symm; subst hs
  rcases hfd with ⟨d1, d2⟩ | ⟨x, d1, dj, d2, d3, d4, d5⟩
  ·have hr0 : r = .tup [.agg z7b.c, .s (.bool false)] := by
    rcases hr with ⟨_, h⟩ | ⟨y, h, _⟩
    ·exact h
    ·rw [d1] at h; cases h
   subst hr0
   have hj0 := (decide_eq_false (Int.not_le.2 d2)).symm
   repeat' ((conv => whnf) <;> first
    | (refine zaa kd ?_) | rw [zad (by omega)] | (show CondP _ _ _; refine cS ?_) | refine cF ?_ | refine zae 171 (iN 17 0 [13]) (by rfl) (by kernel_rfl) ?_)
   all_goals first
    | (exfalso; omega)
    | (exfalso; simp_all; done)
    | (refine ⟨⟨i + 1, by omega, trivial⟩, ?_, rfl, by simp; omega⟩; (conv => whnf); repeat' (first | exact trivial | exact rfl | apply And.intro))
  ·have hr0 : r = .tup [.agg x.c, .s (.bool true)] := by
    rcases hr with ⟨h, _⟩ | ⟨y, h, hh⟩
    ·rw [d1] at h; cases h
    ·rw [d1] at h; cases h; exact hh
   subst hr0
   have hj1 := (decide_eq_true dj.1).symm
   have ks := zuk x (b.Rules[(zbj b.Rules ⟨⟨1 + Int.tdiv (i : Int) 10, Int.tmod (i : Int) 10⟩, 1 + Int.tmod (i : Int) 4⟩).toNat]'dj.2) d2 d3 d4 d5 S1
   repeat' ((conv => whnf) <;> first
    | (refine zaa ks ?_) | (refine zaa kd ?_) | rw [zad (by omega)] | (show CondP _ _ _; refine cS ?_) | refine cT ?_ | refine cF ?_ | refine rI rdA rf ix ?_ | refine zaf rdA tv ix ?_ | refine zae 171 (iN 17 0 [13]) (by rfl) (by kernel_rfl) ?_)
   all_goals first
    | (exfalso; omega)
    | (exfalso; simp_all; done)
    | (refine ⟨⟨i + 1, by omega, trivial⟩, ?_, rfl, by simp; omega⟩; (conv => whnf); repeat' (first | exact trivial | exact rfl | apply And.intro))
 repeat' ((conv => whnf) <;> first
  | (show CondP _ _ _; refine cS ?_))
 all_goals first
  | rfl
  | (exfalso; omega)
end Go.Proofs.YtlmmdpmmdmhacaaGreat
namespace Go.Proofs.YtlmmdpmmdmhacaaGreat
open Go Go.ChangeShapes Go.WideShapes Go.ChangeAt Go.RowKit
set_option linter.unusedVariables false
set_option linter.unusedSimpArgs false
section
variable {P : Program} {S : Store}
theorem z7f {m : Nat} {t : TypeId} {k : IntKind} {cs : List C} (ht : P.underlying t = some (.int k)) (h : WT P S m t cs) : ∃ z : Int, Rd S [.x (.int k z)] cs := by
 cases m with
 | zero => exact h.elim
 | succ m =>
   unfold WT at h
   rw [ht] at h
   obtain ⟨z, rfl, _⟩ := h
   exact ⟨z, rd_x zwf⟩
theorem z0t {α : Type} {f : α → List D} : ∀ (rows : List (List C)), (∀ x ∈ rows, ∃ y : α, Rd S (f y) x) → ∃ (l : List α) (js : List Nat), l.length = rows.length ∧ Rep2 false S (l.map f) rows js
 | [], _ => ⟨[], [], rfl, by rw [List.map_nil, zc6]; exact ⟨rfl, rfl⟩⟩
 | x :: rows, h => by
   obtain ⟨y, i, hy⟩ := h x (by simp)
   obtain ⟨l, js, h1, h2⟩ := z0t rows (fun z hz => h z (by simp [hz]))
   exact ⟨y :: l, i ++ js, by simp [h1], by rw [List.map_cons, zbn]; exact ⟨x, rows, i, js, rfl, rfl, hy, h2⟩⟩
theorem z3k {α : Type} {f : α → List D} {m : Nat} {t e : TypeId} {k : Nat} {cs : List C} (ht : P.underlying t = some (.slice e)) (hk : P.cellsOf e = k) (hel : ∀ m cs, WT P S m e cs → ∃ y : α, Rd S (f y) cs) (h : WT P S m t cs) : ∃ l : List α, Rd S [.sl k (l.map f)] cs := by
 cases m with
 | zero => exact h.elim
 | succ m =>
   unfold WT at h
   rw [ht] at h
   obtain ⟨c, rows, rfl, he, hl, hc, hx⟩ := h
   obtain ⟨l, js, h1, h2⟩ := z0t (f := f) rows fun x hx' => hel m x (hx x hx')
   rcases hc with rfl | rfl | ⟨id, rfl, hid⟩
   ·have : rows = [] := by simpa [elems] using he.symm
    subst this
    have : l = [] := List.eq_nil_of_length_eq_zero h1
    subst this
    exact ⟨[], zkz (q := false) (ids := []) (by unfold Rep; exact ⟨Nat.zero_le _, .inl ⟨rfl, .inl rfl, rfl⟩⟩)⟩
   ·have : rows = [] := by simpa [elems] using he.symm
    subst this
    have : l = [] := List.eq_nil_of_length_eq_zero h1
    subst this
    exact ⟨[], zkz (q := false) (ids := []) (by unfold Rep; exact ⟨Nat.zero_le _, .inl ⟨rfl, .inr rfl, rfl⟩⟩)⟩
   ·refine ⟨l, zkz (q := false) (ids := id :: js) ?_⟩
    unfold Rep
    refine ⟨by simpa [h1] using hl, .inr ⟨id, 0, rows.length, _, js, by simp [h1], rfl, hid, hk, rfl, by simp [h1], (by intro h; cases h), ?_⟩⟩
    simp only
    rw [List.drop_zero, List.take_of_length_le (by simp [h1])]
    exact h2
theorem z7o {m : Nat} {t : TypeId} {d : TypeDesc} {v : V} (ht : P.underlying t = some d) (hd : ∀ fs, d ≠ .struct fs) (h : VT P S m t v) : ∃ c, v = .s c ∧ WT P S m t [c] := by
 unfold VT at h
 rw [ht] at h
 split at h
 ·rename_i fs he; cases he; exact absurd rfl (hd fs)
 ·exact h
end
theorem own : ownKnob Tryz.prog.godebug = none := by kernel_rfl
theorem z5q : laidOutB Tryz.prog = true := by kernel_rfl
end Go.Proofs.YtlmmdpmmdmhacaaGreat
