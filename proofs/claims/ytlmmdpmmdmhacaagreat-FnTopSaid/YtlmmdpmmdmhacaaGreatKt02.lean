/- What one operation, and a piece of code, does with the abstract values: computed. -/
import Derived.Test.YtlmmdpmmdmhacaaGreatKt01
import Derived.Orders
namespace Go.Proofs.YtlmmdpmmdmhacaaGreat
open Go
set_option linter.unusedVariables false
set_option linter.unusedSimpArgs false
inductive Ex where
 | normal
 | exit (id : Nat)
 | ret
 deriving Inhabited
def getE (env : Env) (t : Nat) : AV := env.getD t .top
def z1u : Value → AV
 | .int k n => .v (.s (.int k n))
 | .bool b => .v (.s (.bool b))
 | .string s => .v (.s (.str s))
 | .slice none 0 0 => .v (.s .nil)
 | _ => .top
def opd (env : Env) : Operand → AV
 | .tmp t => match getE env t with
   | .box _ => .plc t 0
   | .tt => .v (.s (.bool true))
   | .ff => .v (.s (.bool false))
   | .lst _ _ => .top
   | .nb _ => .top
   | x => x
 | .const v => z1u v
 | .func f => .v (.s (.fn f))
 | .global _ => .top
def putE (env : Env) (dst : Option Nat) (x : AV) : Env :=
 match dst with
 | some d => env.set d x
 | none => env
def ze0 : Env → (Env → Prop) → Prop
 | [], k => k []
 | x :: xs, k => ze0 xs (fun ys => k (x :: ys))
def zjy : List C → (List C → Prop) → Prop
 | [], k => k []
 | x :: xs, k => zjy xs (fun ys => k (x :: ys))
def ciOf : Operand → Option Int
 | .const (.int _ n) => some n
 | _ => none
def putK (env : Env) (dst : Option Nat) (x : AV) (K : Env → Prop) : Prop :=
 match dst with
 | none => K env
 | some d => match x with
   | .v (.s c) => ze0 (env.set d (.v (.s c))) K
   | .v (.agg xs) => zjy xs fun xs => ze0 (env.set d (.v (.agg xs))) K
   | .tup vs => ze0 (env.set d (.tup vs)) K
   | .box xs => zjy xs fun xs => ze0 (env.set d (.box xs)) K
   | .plc d' o => ze0 (env.set d (.plc d' o)) K
   | .el c i o => ze0 (env.set d (.el c i o)) K
   | .pe id o => ze0 (env.set d (.pe id o)) K
   | .lst k xs => ze0 (env.set d (.lst k xs)) K
   | .nb xs => ze0 (env.set d (.nb xs)) K
   | .tt => ze0 (env.set d .tt) K
   | .ff => ze0 (env.set d .ff) K
   | .und => ze0 (env.set d .und) K
   | .top => ze0 (env.set d .top) K
def zlc (d : Nat) : AV → AV
 | .plc d' o => bif Nat.beq d' d then .top else .plc d' o
 | x => x
def zmy (d : Nat) : Env → (Env → Prop) → Prop
 | [], k => k []
 | .plc d' o :: r, k => zmy d r fun ys => bif Nat.beq d' d then k (.top :: ys) else k (.plc d' o :: ys)
 | x :: r, k => zmy d r fun ys => k (x :: ys)
def zjs (t id : Nat) : AV → AV
 | .plc d o => bif Nat.beq d t then .pe id o else .plc d o
 | x => x
def z09 (t id : Nat) : Env → (Env → Prop) → Prop
 | [], k => k []
 | .plc d o :: r, k => z09 t id r fun ys => bif Nat.beq d t then k (.pe id o :: ys) else k (.plc d o :: ys)
 | x :: r, k => z09 t id r fun ys => k (x :: ys)
def prom (env : Env) (S : Store) (x : Operand) (K : AV → Env → Store → Prop) : Prop :=
 match x with
 | .tmp t => match getE env t with
   | .lst k xs => putK env (some t) (.v (.s (.sl S.length 0 xs.length xs.length))) fun env => K (.v (.s (.sl S.length 0 xs.length xs.length))) env (S ++ [⟨true, k, xs⟩])
   | _ => K (opd env x) env S
 | _ => K (opd env x) env S
def zxc (b : Bool) : AV → AV → AV
 | .v (.s (.bool x)), .v (.s (.bool y)) => .v (.s (.bool (bif b then x else y)))
 | x, y => bif b then x else y
def z4w : C → Option Bool
 | .nil => some true
 | .zc => some false
 | .sl _ _ _ _ => some false
 | _ => none
def zqe : IntKind → IntKind → Bool
 | .i8, .i8 => true
 | .i16, .i16 => true
 | .i32, .i32 => true
 | .i64, .i64 => true
 | .u8, .u8 => true
 | .u16, .u16 => true
 | .u32, .u32 => true
 | .u64, .u64 => true
 | _, _ => false
def zpa (op : BinOp) (k : IntKind) (a b : Int) (K : V → Prop) : Prop :=
 match op with
 | .add => K (.s (.int k (wrapI k (a + b))))
 | .sub => K (.s (.int k (wrapI k (a - b))))
 | .mul => K (.s (.int k (wrapI k (a * b))))
 | .quo => NeedP (b ≠ 0) (K (.s (.int k (wrapI k (a.tdiv b)))))
 | .rem => NeedP (b ≠ 0) (K (.s (.int k (a.tmod b))))
 | .and => K (.s (.int k (bitsI .and k a b)))
 | .or => K (.s (.int k (bitsI .or k a b)))
 | .xor => K (.s (.int k (bitsI .xor k a b)))
 | .andNot => K (.s (.int k (bitsI .andNot k a b)))
 | .lss => K (.s (.bool (decide (a < b))))
 | .leq => K (.s (.bool (decide (a ≤ b))))
 | .gtr => K (.s (.bool (decide (b < a))))
 | .geq => K (.s (.bool (decide (b ≤ a))))
 | .eql => K (.s (.bool (decide (a = b))))
 | .neq => K (.s (.bool (!decide (a = b))))
 | _ => False
def aBin (op : BinOp) (x y : V) (K : V → Prop) : Prop :=
 match x, y with
 | .s (.int k a), .s (.int k' b) => match op with
   | .shl => NeedP (0 ≤ b) (K (.s (.int k (shlI k a b))))
   | .shr => NeedP (0 ≤ b) (K (.s (.int k (shrI k a b))))
   | op => bif zqe k k' then zpa op k a b K else False
 | .s (.bool a), .s (.bool b) => match op with
   | .eql => K (.s (.bool (a == b)))
   | .neq => K (.s (.bool (!(a == b))))
   | _ => False
 | .s (.str a), .s (.str b) => match op with
   | .add => NeedP (a.size + b.size ≤ 9223372036854775807) (K (.s (.str (catS a b))))
   | .eql => K (.s (.bool (eqS a b)))
   | .neq => K (.s (.bool (!eqS a b)))
   | _ => False
 | _, _ => False
def zuq (place : Nat → Option (Nat × Nat)) : List C → List (Nat × V) → Option (List C)
 | cs, [] => some cs
 | cs, (i, v) :: r => match place i with
   | some (o, z) => bif Nat.beq v.cells.length z && Nat.ble (o + z) cs.length then zuq place (putCells cs o v.cells) r else none
   | none => none
def fieldAt (offs : List Nat) (sz i : Nat) : Option (Nat × Nat) :=
 match offs.drop i with
 | o :: o' :: _ => some (o, o' - o)
 | [o] => some (o, sz - o)
 | [] => none
def zix (z : Nat) : List (List C) → List (Nat × V) → Option (List (List C))
 | rows, [] => some rows
 | rows, (i, v) :: r => bif Nat.beq v.cells.length z && Nat.blt i rows.length then zix z (rows.set i v.cells) r else none
def cutC (c : C) (l h : Int) : C :=
 match c with
 | .sl id o n t => .sl id (o + l.toNat) (h.toNat - l.toNat) t
 | c => c
def cut0 : C → C
 | .nil => .nil
 | _ => .zc
def zlb : List (List C) → List UInt8
 | [] => []
 | ((.int _ n) :: _) :: r => UInt8.ofNat n.toNat :: zlb r
 | _ :: r => zlb r
@[irreducible] def strOf (l : List (List C)) : ByteArray := ⟨(zlb l).toArray⟩
@[irreducible] def LenP (S : Store) (c : C) (K : Nat → Prop) : Prop := ∃ l, elems S c = some l ∧ K l.length
@[irreducible] def IdxP (S : Store) (c : C) (k : Nat) (i : Int) (K : Prop) : Prop := ∃ l cs, elems S c = some l ∧ 0 ≤ i ∧ l[i.toNat]? = some cs ∧ cs.length = k ∧ K
@[irreducible] def SliP (S : Store) (c : C) (k : Nat) (l h : Int) (K : C → Prop) : Prop := ∃ xs, elems S c = some xs ∧ (∀ y ∈ xs, y.length = k) ∧ 0 ≤ l ∧ l ≤ h ∧ h ≤ xs.length ∧ K (cutC c l h)
@[irreducible] def SlhP (S : Store) (c : C) (k : Nat) (l : Int) (K : C → Prop) : Prop := ∃ xs, elems S c = some xs ∧ (∀ y ∈ xs, y.length = k) ∧ 0 ≤ l ∧ l ≤ xs.length ∧ K (cutC c l xs.length)
@[irreducible] def Cut0P (S : Store) (c : C) (K : C → Prop) : Prop := ∃ xs, elems S c = some xs ∧ K (cut0 c)
@[irreducible] def AppP (k by' : Nat) (S : Store) (c : C) (ys : List (List C)) (K : C → Store → Prop) : Prop :=
 (∀ y ∈ ys, y.length = k) ∧
 ((c = .nil ∧ ys.length * by' ≤ 140737488355328 ∧ (ys = [] → K .nil S) ∧ (ys ≠ [] → K (.sl S.length 0 ys.length ys.length) (S ++ [⟨true, k, ys⟩]))) ∨
  (c = .zc ∧ ys.length * by' ≤ 140737488355328 ∧ (ys = [] → K .zc S) ∧ (ys ≠ [] → K (.sl S.length 0 ys.length ys.length) (S ++ [⟨true, k, ys⟩]))) ∨
  (∃ id xs, c = .sl id 0 xs.length xs.length ∧ S[id]? = some ⟨true, k, xs⟩ ∧ (xs.length + ys.length) * by' ≤ 140737488355328 ∧
   K (.sl id 0 (xs.length + ys.length) (xs.length + ys.length)) (S.set id ⟨true, k, xs ++ ys⟩)))
@[irreducible] def StoP (S : Store) (c : C) (i : Int) (off : Nat) (ys : List C) (K : Store → Prop) : Prop :=
 ∃ id o n t row cs, c = .sl id o n t ∧ S[id]? = some row ∧ row.own = true ∧ row.xs.length = t ∧ o + n ≤ t ∧ 0 ≤ i ∧ i < n ∧
  row.xs[o + i.toNat]? = some cs ∧ off + ys.length ≤ row.k ∧ K (S.set id ⟨true, row.k, row.xs.set (o + i.toNat) (putCells cs off ys)⟩)
variable (T : TT) (EV : Nat → List V → Store → (AV → Store → Prop) → Prop)
@[irreducible] def CallP (f : Nat) (args : List V) (S : Store) (K : AV → Store → Prop) : Prop := ∃ R, EV f args S R ∧ ∀ r S', R r S' → K r S'
def getV (ti : TI) (cs : List C) (K : V → Prop) : Prop :=
 bif ti.kd.agg then zjy (cs.take ti.sz) fun cs => bif Nat.beq cs.length ti.sz then K (.agg cs) else False
 else match cs with
  | c :: _ => K (.s c)
  | [] => False
def zli (ti : TI) (env : Env) (S : Store) (K : V → Prop) : AV → Prop
 | .plc d o => match getE env d with
   | .box cs => getV ti (cs.drop o) K
   | _ => False
 | .el c i o => LoadP S c i fun cs => getV ti (cs.drop o) K
 | .pe id o => RowP S id fun cs => getV ti (cs.drop o) K
 | .v (.s (.pt id)) => RowP S id fun cs => getV ti cs K
 | _ => False
def zko (env : Env) (S : Store) (ys : List C) (K : Env → Store → Prop) : AV → Prop
 | .plc d o => match getE env d with
   | .box cs => bif Nat.ble (o + ys.length) cs.length then putK env (some d) (.box (putCells cs o ys)) fun env => K env S else False
   | _ => False
 | .el c i o => StoP S c i o ys fun S => K env S
 | .pe id o => RowP S id fun cs => NeedP (o + ys.length ≤ cs.length) (K env (S.set id ⟨true, ((S[id]?).map Row.k).getD 0, [putCells cs o ys]⟩))
 | .v (.s (.pt id)) => RowP S id fun cs => NeedP (ys.length ≤ cs.length) (K env (S.set id ⟨true, ((S[id]?).map Row.k).getD 0, [putCells cs 0 ys]⟩))
 | _ => False
def zru (env : Env) (S : Store) (t : Nat) (cs : List C) (K : V → Env → Store → Prop) : Prop :=
 z09 t S.length env fun env => ze0 (env.set t (.v (.s (.pt S.length)))) fun env => K (.s (.pt S.length)) env (S ++ [⟨true, cs.length, [cs]⟩])
def zl4 (env : Env) (S : Store) (x : Operand) (K : V → Env → Store → Prop) : Prop :=
 prom env S x fun v env S => match v with
  | .v v => K v env S
  | .plc d 0 => match getE env d with
    | .box cs => zru env S d cs K
    | _ => False
  | _ => False
def zgx : Env → Store → List Operand → (List V → Env → Store → Prop) → Prop
 | env, S, [], K => K [] env S
 | env, S, x :: r, K => zl4 env S x fun v env S => zgx env S r fun vs env S => K (v :: vs) env S
def zhy (env : Env) (S : Store) (x : Operand) (K : List (List C) → Prop) : Prop :=
 match x with
 | .tmp t => match getE env t with
   | .lst _ xs => K xs
   | .v (.s c) => ElemsP S c K
   | _ => False
 | .const (.slice none 0 0) => K []
 | _ => False
def zep (b : Builtin) (args : List Operand) (ats : List Nat) (dst : Option Nat) (env : Env) (S : Store) (K : Env → Store → Prop) : Prop :=
 match b, args with
 | .len, [x] => match x, ats with
   | .tmp t, ty :: _ => match T ty with
     | some { kd := .slice _, .. } => match getE env t with
       | .lst _ xs => putK env dst (.v (.s (.int .i64 xs.length))) fun env => K env S
       | .v (.s c) => LenP S c fun n => putK env dst (.v (.s (.int .i64 n))) fun env => K env S
       | _ => False
     | some { kd := .scalar 20, .. } => match getE env t with
       | .v (.s (.str s)) => putK env dst (.v (.s (.int .i64 s.size))) fun env => K env S
       | _ => False
     | _ => False
   | _, _ => False
 | .append, [s, x] => match ats with
   | [t, t'] => bif Nat.beq t' t then match T t with
     | some { kd := .slice e, .. } => match T e with
       | some te => zl4 env S s fun v env S => match v with
         | .s c => zhy env S x fun ys => AppP te.sz te.by' S c ys fun c S => (putK env dst (.v (.s c)) fun env => K env S)
         | _ => False
       | none => False
     | _ => False else False
   | _ => False
 | .min, [x, y] => match opd env x, opd env y with
   | .v (.s (.int k a)), .v (.s (.int _ b)) => (putK env dst (.v (.s (.int k (minI a b)))) fun env => K env S)
   | _, _ => False
 | .max, [x, y] => match opd env x, opd env y with
   | .v (.s (.int k a)), .v (.s (.int _ b)) => (putK env dst (.v (.s (.int k (maxI a b)))) fun env => K env S)
   | _, _ => False
 | _, _ => False
def zn0 : Nat → Option IntKind
 | 0 => some .i8
 | 1 => some .i16
 | 2 => some .i32
 | 3 => some .i64
 | 4 => some .u8
 | 5 => some .u16
 | 6 => some .u32
 | 7 => some .u64
 | _ => none
def eqC (k : Nat) : C → C → Option Bool
 | .int k1 a, .int k2 b => match zn0 k with
   | some kk => bif zqe kk k1 && zqe kk k2 then some (decide (a = b)) else none
   | none => none
 | .bool a, .bool b => bif Nat.beq k 10 then some (a == b) else none
 | .str a, .str b => bif Nat.beq k 20 then some (eqS a b) else none
 | _, _ => none
def eqCs : List Nat → List C → List C → Option Bool
 | [], [], [] => some true
 | k :: s, a :: x, b :: y => match eqC k a b, eqCs s x y with
   | some p, some q => some (p && q)
   | _, _ => none
 | _, _, _ => none
def z29 (t i : Nat) : Option Nat :=
 match T t with
 | some { kd := .struct offs, .. } => offs[i]?
 | _ => none
def dOp (o : Op) (dst : Option Nat) (env : Env) (S : Store) (K : Env → Store → Prop) : Prop :=
 match o with
 | .move x | .assign x => prom env S x fun v env S => (putK env dst v fun env => K env S)
 | .pick c a b => match opd env c with
   | .v (.s (.bool b0)) => (putK env dst (zxc b0 (opd env a) (opd env b)) fun env => K env S)
   | _ => False
 | .alloc t => match dst, T t with
   | some d, some ti => zjy ti.zero fun cs => zmy d env fun env => ze0 (env.set d (.box cs)) fun env => K env S
   | _, _ => False
 | .box t x => match dst with
   | some d => zl4 env S x fun v env S => zjy v.cells fun cs => zmy d env fun env => ze0 (env.set d (.box cs)) fun env => K env S
   | none => False
 | .build t parts => zgx env S (parts.toList.map (·.2)) fun vs env S => match T t with
   | some { kd := .struct offs, sz, zero, .. } => match zuq (fieldAt offs sz) zero ((parts.toList.map (·.1)).zip vs) with
     | some cs => (putK env dst (.v (.agg cs)) fun env => K env S)
     | none => False
   | some { kd := .array _ e, zero, .. } => match T e with
     | some te => match zuq (fun i => some (i * te.sz, te.sz)) zero ((parts.toList.map (·.1)).zip vs) with
       | some cs => (putK env dst (.v (.agg cs)) fun env => K env S)
       | none => False
     | none => False
   | _ => False
 | .buildSlice t len parts => zgx env S (parts.toList.map (·.2)) fun vs env S => match T t with
   | some { kd := .slice e, .. } => match T e with
     | some te => bif Nat.ble (len * te.sz) 16777216 then match zix te.sz (List.replicate len te.zero) ((parts.toList.map (·.1)).zip vs) with
       | some xs => match dst with
         | some d => ze0 (env.set d (.lst te.sz xs)) fun env => K env S
         | none => False
       | none => False else False
     | none => False
   | _ => False
 | .load t x => match T t with
   | some ti => zli ti env S (fun v => (putK env dst (.v v) fun env => K env S)) (opd env x)
   | none => False
 | .store t x y => match dst with
   | some _ => False
   | none => zl4 env S y fun v env S => match T t with
     | some ti => bif Nat.beq v.cells.length ti.sz then zko env S v.cells K (opd env x) else False
     | none => False
 | .nilCheck x => match opd env x with
   | .plc d o => (putK env dst (.plc d o) fun env => K env S)
   | .el c i o => (putK env dst (.el c i o) fun env => K env S)
   | .pe id o => (putK env dst (.pe id o) fun env => K env S)
   | .v (.s (.pt id)) => (putK env dst (.v (.s (.pt id))) fun env => K env S)
   | _ => False
 | .fieldAddr t x i => match z29 T t i with
   | some o' => match opd env x with
     | .plc d o => (putK env dst (.plc d (o + o')) fun env => K env S)
     | .el c i o => (putK env dst (.el c i (o + o')) fun env => K env S)
     | .pe id o => (putK env dst (.pe id (o + o')) fun env => K env S)
     | .v (.s (.pt id)) => (putK env dst (.pe id o') fun env => K env S)
     | _ => False
   | none => False
 | .field t x i => match T t with
   | some { kd := .struct offs, ft, .. } => match offs[i]?, ft[i]? with
     | some o, some e => match T e with
       | some te => match opd env x with
         | .v (.agg cs) => getV te (cs.drop o) fun v => putK env dst (.v v) fun env => K env S
         | _ => False
       | none => False
     | _, _ => False
   | _ => False
 | .indexAddr t x i => prom env S x fun x' env S => match x', opd env i with
   | .v (.s c), .v (.s (.int _ j)) => match T t with
     | some { kd := .slice e, .. } => match T e with
       | some te => IdxP S c te.sz j (putK env dst (.el c j 0) fun env => K env S)
       | none => False
     | _ => False
   | .plc d o, .v (.s (.int _ j)) => match T t with
     | some { kd := .array n e, .. } => match T e with
       | some te => NeedP (0 ≤ j ∧ j < n) ((putK env dst (.plc d (o + j.toNat * te.sz)) fun env => K env S))
       | none => False
     | _ => False
   | _, _ => False
 | .index t x i => match opd env x, opd env i with
   | .v (.agg cs), .v (.s (.int _ j)) => match T t with
     | some { kd := .array n e, .. } => match T e with
       | some { kd := .scalar _, .. } => NeedP (0 ≤ j ∧ j < n ∧ cs.length = n) (putK env dst (.v (.s (cs.getD j.toNat .junk))) fun env => K env S)
       | _ => False
     | _ => False
   | .v (.s (.str s)), .v (.s (.int _ j)) => match T t with
     | some { kd := .scalar 20, .. } => NeedP (0 ≤ j ∧ j < s.size) ((putK env dst (.v (.s (.int .u8 (byteS s j)))) fun env => K env S))
     | _ => False
   | _, _ => False
 | .slice t x lo hi mx => match T t, opd env x with
   | some { kd := .slice e, .. }, .v (.s c) => match mx with
     | some (.const (.int _ 0)) => match lo, hi with
       | none, some (.const (.int _ 0)) => match T e with
         | some _ => Cut0P S c fun c => putK env dst (.v (.s c)) fun env => K env S
         | none => False
       | _, _ => False
     | some _ => False
     | none => match (match lo with | some x => opd env x | none => .v (.s (.int .i64 0))) with
       | .v (.s (.int _ l)) => match hi with
         | some y => match opd env y with
           | .v (.s (.int _ h)) => match T e with
             | some te => SliP S c te.sz l h fun c => putK env dst (.v (.s c)) fun env => K env S
             | none => False
           | _ => False
         | none => match T e with
           | some te => SlhP S c te.sz l fun c => putK env dst (.v (.s c)) fun env => K env S
           | none => False
       | _ => False
   | some { kd := .scalar 20, .. }, .v (.s (.str s)) => match mx with
     | some _ => False
     | none => match (match lo with | some x => opd env x | none => .v (.s (.int .i64 0))), (match hi with | some x => opd env x | none => .v (.s (.int .i64 s.size))) with
       | .v (.s (.int _ l)), .v (.s (.int _ h)) => NeedP (0 ≤ l ∧ l ≤ h ∧ h ≤ s.size) (putK env dst (.v (.s (.str (cutS s l h)))) fun env => K env S)
       | _, _ => False
   | _, _ => False
 | .makeSlice t l c => match ciOf l, ciOf c, dst with
   | some n, some n', some d => match T t with
     | some { kd := .slice e, .. } => match T e with
       | some te => NeedP (n' = n ∧ 0 ≤ n ∧ n * te.by' ≤ 140737488355328) (ze0 (env.set d (.lst te.sz (List.replicate n.toNat te.zero))) fun env => K env S)
       | none => False
     | _ => False
   | _, _, _ => match T t with
   | some { kd := .slice e, .. } => match T e, opd env l with
     | some te, .v (.s (.int _ n)) => match opd env c with
       | .v (.s (.int _ n')) => NeedP (n' = n ∧ 0 ≤ n ∧ n * te.by' ≤ 140737488355328)
         ((putK env dst (.v (.s (.sl S.length 0 n.toNat n.toNat))) fun env => K env (S ++ [⟨true, te.sz, List.replicate n.toNat te.zero⟩])))
       | _ => False
     | _, _ => False
   | _ => False
 | .binOp b t x y _ => match opd env x, opd env y with
   | .v (.agg p), .v (.agg q) => match T t with
     | some { eq := k :: sh, .. } => match eqCs (k :: sh) p q with
       | some r => match b with
         | .eql => putK env dst (.v (.s (.bool r))) fun env => K env S
         | .neq => putK env dst (.v (.s (.bool (!r)))) fun env => K env S
         | _ => False
       | none => False
     | _ => False
   | .v (.s c), .v (.s .nil) => match T t, z4w c with
     | some { kd := .slice _, .. }, some r => match b with
       | .eql => putK env dst (.v (.s (.bool r))) fun env => K env S
       | .neq => putK env dst (.v (.s (.bool (!r)))) fun env => K env S
       | _ => False
     | _, _ => False
   | .v (.s (.bool p)), .v (.s (.bool q)) => match T t with
     | some { kd := .scalar 10, .. } => aBin b (.s (.bool p)) (.s (.bool q)) fun v => putK env dst (.v v) fun env => K env S
     | _ => False
   | .v x, .v y => aBin b x y fun v => (putK env dst (.v v) fun env => K env S)
   | _, _ => False
 | .unOp b _ x => match b, opd env x with
   | .not, .v (.s (.bool b)) => (putK env dst (.v (.s (.bool (!b)))) fun env => K env S)
   | .neg, .v (.s (.int k n)) => (putK env dst (.v (.s (.int k (wrapI k (0 - n))))) fun env => K env S)
   | _, _ => False
 | .convert s d x => match T s, T d with
   | some { kd := .scalar _, .. }, some { kd := .scalar dk, .. } => match opd env x, zn0 dk with
     | .v (.s (.int _ n)), some k => putK env dst (.v (.s (.int k (wrapI k n)))) fun env => K env S
     | _, _ => False
   | some { kd := .slice e, .. }, some { kd := .scalar 20, .. } => match T e with
     | some { kd := .scalar 4, .. } => zhy env S x fun xs => NeedP (∀ y ∈ xs, ∃ n, y = [.int .u8 n]) (putK env dst (.v (.s (.str (strOf xs)))) fun env => K env S)
     | _ => False
   | _, _ => False
 | .extract x i => match opd env x with
   | .tup vs => match vs[i]? with
     | some v => (putK env dst (.v v) fun env => K env S)
     | none => False
   | _ => False
 | .call { callee := .builtin b, args, argTypes } => zep T b args.toList argTypes.toList dst env S K
 | .call { callee := .value f, args, .. } => match opd env f with
   | .v (.s (.fn f)) => zgx env S args.toList fun vs env S => CallP EV f vs S fun r S => (putK env dst r fun env => K env S)
   | _ => False
 | _ => False
def zx5 (all : List Oper) (o : Oper) (K : Env → Store → Prop) (env : Env) (S : Store) : Prop :=
 match o.guard with
 | none => dOp T EV o.op o.dst env S K
 | some (j, want) => match (all[j]?).bind (·.dst) with
   | some t => match getE env t with
     | .tt => bif want then dOp T EV o.op o.dst env S K else putK env o.dst .und fun env => K env S
     | .ff => bif want then putK env o.dst .und fun env => K env S else dOp T EV o.op o.dst env S K
     | .und => putK env o.dst .und fun env => K env S
     | .v (.s (.bool b)) => CondP b
       (putK env (some t) .tt fun env => bif want then dOp T EV o.op o.dst env S K else putK env o.dst .und fun env => K env S)
       (putK env (some t) .ff fun env => bif want then putK env o.dst .und fun env => K env S else dOp T EV o.op o.dst env S K)
     | _ => False
   | none => False
def dOps (all : List Oper) : List Oper → (Env → Store → Prop) → Env → Store → Prop
 | [], K, env, S => K env S
 | o :: r, K, env, S => zx5 T EV all o (dOps all r K) env S
def zhx (all : List Oper) (o : Oper) (env : Env) : Option Bool :=
 match o.guard with
 | none => some true
 | some (j, want) => match (all[j]?).bind (·.dst) with
   | some t => match getE env t with
     | .tt => some want
     | .ff => some (!want)
     | .und => some false
     | .v (.s (.bool b)) => some (bif want then b else !b)
     | _ => none
   | none => none
def dOpD (o : Op) (dst : Option Nat) (env : Env) (S : Store) (K : Env → Store → Prop) : Prop :=
 match o with
 | .alloc t => match dst, T t with
   | some d, some ti => zjy ti.zero fun cs => ze0 (env.set d (.nb cs)) fun env => K env S
   | _, _ => False
 | .store t x y => match x with
   | .tmp d => match getE env d with
     | .nb cs => zmy d env fun env => ze0 (env.set d (.box cs)) fun env => dOp T EV (.store t x y) dst env S K
     | _ => dOp T EV (.store t x y) dst env S K
   | _ => dOp T EV (.store t x y) dst env S K
 | o => dOp T EV o dst env S K
def zfg (all : List Oper) (o : Oper) (K : Env → Store → Prop) (env : Env) (S : Store) : Prop :=
 match zhx all o env with
 | some true => dOpD T EV o.op o.dst env S K
 | some false => putK env o.dst .und fun env => K env S
 | none => False
def dAny (ops : Array Oper) (K : Env → Store → Prop) : Nat → Array Bool → Env → Store → Prop
 | 0, listed, env, S => Region.ready .any ops listed = [] ∧ K env S
 | fuel + 1, listed, env, S => (Region.ready .any ops listed = [] → K env S) ∧
   ∀ i ∈ Region.ready .any ops listed, match ops[i]? with
    | none => dAny ops K fuel (listed.setIfInBounds i true) env S
    | some o => zfg T EV ops.toList o (dAny ops K fuel (listed.setIfInBounds i true)) env S
def AVle (x : AV) : AV → Prop
 | .top => True
 | y => x = y
def zj9 : Env → Env → Prop
 | [], [] => True
 | x :: xs, y :: ys => AVle x y ∧ zj9 xs ys
 | _, _ => False
def kill (W : List Nat) (env : Env) : Env := W.foldl (fun e d => e.set d .top) env
def setL (env : Env) : List (Nat × AV) → Env
 | [] => env
 | (d, x) :: r => setL (env.set d x) r
def zxk : List Nat → Env → (Env → Prop) → Prop
 | [], e, K => K e
 | d :: W, e, K => ze0 (e.set d .top) fun e => zxk W e K
def setK : Env → List (Nat × AV) → (Env → Prop) → Prop
 | env, [], K => K env
 | env, (d, x) :: r, K => ze0 (env.set d x) fun env => setK env r K
def z61 (N : Env → Store → Prop) (Q : Ex → Env → Store → Prop) : Ex → Env → Store → Prop
 | .normal => N
 | .exit j => Q (.exit j)
 | .ret => Q .ret
@[irreducible] def LoopP (bd : (Ex → Env → Store → Prop) → Env → Store → Prop) (Q : Ex → Env → Store → Prop) (env : Env) (S : Store) : Prop :=
 ∃ (B : Type) (E : B → Env) (SS : B → Store) (r : B → Nat), (∃ b, zj9 env (E b) ∧ S = SS b) ∧
  ∀ b, bd (z61 (fun env' S' => ∃ b', zj9 env' (E b') ∧ S' = SS b' ∧ r b' < r b) Q) (E b) (SS b)
@[irreducible] def DrawP (ops : Array Oper) (K : Env → Store → Prop) (env : Env) (S : Store) : Prop := dAny T EV ops K ops.size (Array.replicate ops.size false) env S
def seqK (d : (Ex → Env → Store → Prop) → Env → Store → Prop) (Q : Ex → Env → Store → Prop) : Ex → Env → Store → Prop
 | .normal => d Q
 | .exit j => Q (.exit j)
 | .ret => Q .ret
def zwj (id : Nat) (Q : Ex → Env → Store → Prop) : Ex → Env → Store → Prop
 | .normal => Q .normal
 | .exit j => bif Nat.beq j id then Q .normal else Q (.exit j)
 | .ret => Q .ret
def den : Code → (Ex → Env → Store → Prop) → Env → Store → Prop
 | .skip, Q, env, S => Q .normal env S
 | .seq a b, Q, env, S => den a (seqK (den b) Q) env S
 | .cond c t e, Q, env, S => match opd env c with
   | .v (.s (.bool b)) => CondP b (den t Q env S) (den e Q env S)
   | _ => False
 | .block id b, Q, env, S => den b (zwj id Q) env S
 | .loop b, Q, env, S => LoopP (den b) Q env S
 | .region _ ops draw, Q, env, S => bif draw then DrawP T EV ops (Q .normal) env S else dOps T EV ops.toList ops.toList (Q .normal) env S
 | .exit id, Q, env, S => Q (.exit id) env S
 | .ret, Q, env, S => Q .ret env S
 | _, _, _, _ => False
def resK : Env → Store → List ResultVar → (List V → Store → Prop) → Prop
 | env, S, [], K => K [] S
 | env, S, .tmp t :: r, K => zl4 env S (.tmp t) fun x env S => resK env S r fun xs S => K (x :: xs) S
 | env, S, .cell t ty :: r, K => match getE env t, T ty with
   | .box cs, some ti => getV ti cs fun x => resK env S r fun xs S => K (x :: xs) S
   | _, _ => False
def zay : List V → AV
 | [x] => .v x
 | xs => .tup xs
def dRet (fn : Func) (R : AV → Store → Prop) (env : Env) (S : Store) : Prop := resK T env S fn.results.toList fun vs S => R (zay vs) S
def dFn (fn : Func) (args : List V) (S : Store) (R : AV → Store → Prop) : Prop :=
 match fn.body with
 | some c => den T EV c (fun e env S => match e with
   | .exit _ => False
   | _ => dRet T fn R env S) (args.map AV.v ++ List.replicate (fn.ntmps - args.length) .und) S
 | none => False
theorem zab {EV : Nat → List V → Store → (AV → Store → Prop) → Prop} {f : Nat} {args : List V} {S : Store} {R K : AV → Store → Prop} (h : EV f args S R) (hK : ∀ r S', R r S' → K r S') : CallP EV f args S K := by
 unfold CallP; exact ⟨R, h, hK⟩
theorem zaa {EV : Nat → List V → Store → (AV → Store → Prop) → Prop} {f : Nat} {args : List V} {S : Store} {res : AV} {S1 : Store} {K : AV → Store → Prop} (h : EV f args S (fun r S' => r = res ∧ S' = S1)) (hK : K res S1) : CallP EV f args S K :=
 zab h fun r S' ⟨h1, h2⟩ => by subst h1; subst h2; exact hK
theorem zb3 (k : Env → Prop) (l : Env) : ze0 l k = k l := by
 induction l generalizing k with
 | nil => rfl
 | cons x xs ih => rw [ze0, ih]
theorem zdj (k : List C → Prop) (l : List C) : zjy l k = k l := by
 induction l generalizing k with
 | nil => rfl
 | cons x xs ih => rw [zjy, ih]
theorem zh2 (d : Nat) (l : Env) (k : Env → Prop) : zmy d l k = k (l.map (zlc d)) := by
 induction l generalizing k with
 | nil => rfl
 | cons x xs ih =>
   cases x <;> simp only [zmy, List.map_cons, zlc, ih]
   cases Nat.beq _ d <;> rfl
theorem zww (t id : Nat) (l : Env) (k : Env → Prop) : z09 t id l k = k (l.map (zjs t id)) := by
 induction l generalizing k with
 | nil => rfl
 | cons x xs ih =>
   cases x <;> simp only [z09, List.map_cons, zjs, ih]
   cases Nat.beq _ t <;> rfl
theorem zdd (env : Env) (dst : Option Nat) (x : AV) (K : Env → Prop) : putK env dst x K = K (putE env dst x) := by
 unfold putK putE
 cases dst with
 | none => rfl
 | some d => cases x with
   | v x => cases x <;> simp only [zb3, zdj]
   | _ => simp only [zb3, zdj]
theorem z3q (W : List Nat) (e : Env) (K : Env → Prop) : zxk W e K = K (kill W e) := by
 induction W generalizing e with
 | nil => rfl
 | cons d W ih => rw [zxk, zb3, ih]; rfl
theorem z52 (e : Env) (u : List (Nat × AV)) (K : Env → Prop) : setK e u K = K (setL e u) := by
 induction u generalizing e with
 | nil => rfl
 | cons p u ih => obtain ⟨d, x⟩ := p; rw [setK, zb3, ih]; rfl
theorem zag {bd : (Ex → Env → Store → Prop) → Env → Store → Prop} {Q : Ex → Env → Store → Prop} {env : Env} {S : Store} (B : Type) (W : List Nat) (U : B → List (Nat × AV)) (SS : B → Store) (r : B → Nat) (b0 : B)
 (h0 : zxk W env fun e => setK e (U b0) (zj9 env)) (hS : S = SS b0)
 (step : ∀ b, zxk W env fun e => setK e (U b) fun env1 => bd (z61 (fun env' S' => ∃ b', (zxk W env fun e => setK e (U b') (zj9 env')) ∧ S' = SS b' ∧ r b' < r b) Q) env1 (SS b)) : LoopP bd Q env S := by
 unfold LoopP
 simp only [z3q, z52] at h0 step
 exact ⟨B, fun b => setL (kill W env) (U b), SS, r, ⟨b0, h0, hS⟩, step⟩
end Go.Proofs.YtlmmdpmmdmhacaaGreat
