/- Regions whose order is open, 3: a schedule, and that every order does as it does. -/
import Derived.Test.YtockphlpokoohaaGreatKq15
namespace Go.Proofs.YtockphlpokoohaaGreat
open Go
set_option linter.unusedVariables false
set_option linter.unusedSimpArgs false
inductive It where
  | fl (i : Nat)
  | st (i : Nat) (pend : List Nat)
def It.i : It → Nat
  | .fl i => i
  | .st i _ => i
def guardT (all : List Oper) (o : Oper) : List Nat :=
  match o.guard with
  | some (j, _) => match (all[j]?).bind (·.dst) with
    | some t => [t]
    | none => []
  | none => []
def looksT (all : List Oper) (o : Oper) : List Nat := opTs o.op ++ guardT all o
def depsOf (o : Oper) : List Nat := (o.after.toList.filter (fun e => Region.binds .any e)).map (·.on)
def bitB (m k : Nat) : Bool := Nat.testBit m k
def ancGo : List Oper → List Nat → List Nat
  | [], t => t
  | o :: r, t => ancGo r (t ++ [(depsOf o).foldl (fun m d => m ||| (2 ^ d ||| t.getD d 0)) 0])
def isGd (all : List Oper) (i : Nat) : Bool := all.any fun o => match o.guard with
  | some (j, _) => Nat.beq j i
  | none => false
def noBoxB : AV → Bool
  | .box _ => false
  | _ => true
def dstOf (all : List Oper) (i : Nat) : Option Nat := (all[i]?).bind (·.dst)
def okItems (all : List Oper) (tab : List Nat) : List It → Bool
  | [] => true
  | .fl i :: r => (match all[i]? with
      | some o => isFl o.op && (match o.dst with
        | some d => !(looksT all o).contains d
            && ((List.range all.length).all fun k => (match all[k]? with | some ok => !(looksT all ok).contains d || bitB (tab.getD k 0) i | none => true) && (Nat.beq k i || !(dstOf all k == some d)))
        | none => false)
      | none => false) && ((r.map It.i).all fun k => !bitB (tab.getD i 0) k && !Nat.beq k i) && okItems all tab r
  | .st j pend :: r => (match all[j]? with
      | some o => isSt o.op
      | none => false) && ((r.map It.i).all fun k => bitB (tab.getD k 0) j && !Nat.beq k j)
      && ((List.range all.length).all fun i => Nat.beq i j || (r.map It.i).contains i || pend.contains i || bitB (tab.getD j 0) i) && okItems all tab r
def okSched (all : List Oper) (items : List It) : Bool :=
  okItems all (ancGo all []) items && ((List.range all.length).all fun i => (items.map It.i).contains i && ((all[i]?).map fun o => (depsOf o).all (fun k => Nat.blt k i)).getD false)
    && Nat.beq items.length all.length
section
variable (T : TT) (EV : Nat → List V → Store → (AV → Store → Prop) → Prop)
def splitG (g : Bool) (d : Nat) (env : Env) (K : Env → Prop) : Prop :=
  bif g then match getE env d with
    | .v (.s (.bool b)) => CondP b (force (env.set d (.v (.s (.bool true)))) K) (force (env.set d (.v (.s (.bool false)))) K)
    | _ => K env
  else K env
def flW (all : List Oper) (o : Oper) (e : Env) : Bool := match wantA all o e with
  | some false => true
  | _ => flC o.op e
theorem flW_go {all : List Oper} {o : Oper} {e : Env} (h : flW all o e = true) (hw : wantA all o e = some true) : flC o.op e = true := by
  unfold flW at h; rw [hw] at h; exact h
def pendP (all : List Oper) (env : Env) (S : Store) : List Nat → Prop → Prop
  | [], A => A
  | i :: r, A => match all[i]? with
    | some o => match o.dst with
      | some d => bif Nat.blt d env.length && flW all o env then dStepD T EV all o (fun env' _ => getE env' d = getE env d) env S ∧ pendP all env S r A else False
      | none => False
    | none => False
def dSched (all : List Oper) (K : Env → Store → Prop) : List It → Env → Store → Prop
  | [], env, S => K env S
  | .fl i :: r, env, S => match all[i]? with
    | some o => match o.dst with
      | some d => bif Nat.blt d env.length && noBoxB (getE env d) && flW all o env then dStepD T EV all o (fun env' _ => splitG (isGd all i) d env' fun env => dSched all K r env S) env S else False
      | none => False
    | none => False
  | .st j pend :: r, env, S => match all[j]? with
    | some o => dStepD T EV all o (fun env' S' => pendP T EV all env' S' pend (dSched all K r env' S')) env S
    | none => False
end
end Go.Proofs.YtockphlpokoohaaGreat
