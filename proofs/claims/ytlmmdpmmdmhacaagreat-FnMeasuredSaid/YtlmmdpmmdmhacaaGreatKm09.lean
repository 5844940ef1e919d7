/- Slicings, conversions, calls. -/
import Derived.Test.YtlmmdpmmdmhacaaGreatKm08
namespace Go.Proofs.YtlmmdpmmdmhacaaGreat
open Go
set_option linter.unusedVariables false
set_option linter.unusedSimpArgs false
section
variable {P : Program} {T : TT} {μ0 : Mp} {S0 : Store} {w0 : World} {μ : Mp} {β : Nat → Nat} {env : Env} {S : Store} {w : World} {a : Act}
theorem scalar_desc {t d : Nat} {sz by' : Nat} {zero : List C} {eq ft : List Nat} (hT : TOK P T) (ht : T t = some { kd := .scalar d, sz := sz, by' := by', zero := zero, eq := eq, ft := ft }) : ∃ desc, P.underlying t = some desc ∧ scalarD d desc = true :=
  ((hT t _ ht).scalar d rfl).2
theorem desc_string {desc : TypeDesc} (h : scalarD 20 desc = true) : desc = .string := by cases desc <;> simp [scalarD] at h; rfl
theorem desc_u8 {desc : TypeDesc} (h : scalarD 4 desc = true) : desc = .int .u8 := by
  cases desc with
  | int k => cases k <;> simp [scalarD] at h; rfl
  | _ => simp [scalarD] at h
theorem desc_int {desc : TypeDesc} {d : Nat} {k : IntKind} (hk : kindOf d = some k) (h : scalarD d desc = true) : desc = .int k := by
  unfold kindOf at hk
  split at hk <;> first | cases hk | skip
  all_goals
    cases desc with
    | int k' => cases k' <;> simp [scalarD] at h; rfl
    | _ => simp [scalarD] at h
theorem str_slice_run {t : Nat} (ht : P.underlying t = some .string) {s : ByteArray} {lo hi : Option Value} {l h : Int}
    (hl : lo = none ∧ l = 0 ∨ ∃ k, lo = some (.int k l)) (hh : hi = none ∧ h = s.size ∨ ∃ k, hi = some (.int k h)) (h0 : 0 ≤ l) (h1 : l ≤ h) (h2 : h ≤ s.size) :
    (Instr.sliceAt t (.string s) lo hi none).run P w = .ok (.string (s.extract l.toNat h.toNat)) w := by
  have h0h : 0 ≤ h := by omega
  rcases hl with ⟨rfl, rfl⟩ | ⟨k, rfl⟩ <;> rcases hh with ⟨rfl, rfl⟩ | ⟨k', rfl⟩
  · simp [Instr.sliceAt, Instr.slice, run_underlying ht, Instr.sliceBounds]
  · simp [Instr.sliceAt, Instr.slice, run_underlying ht, Instr.sliceBounds, Instr.sliceBound, asIntOf, h2, h0h]
  · simp [Instr.sliceAt, Instr.slice, run_underlying ht, Instr.sliceBounds, Instr.sliceBound, asIntOf, h0, h1]
  · simp [Instr.sliceAt, Instr.slice, run_underlying ht, Instr.sliceBounds, Instr.sliceBound, asIntOf, h2, h0, h0h]
    intro hx; exfalso; omega
theorem lo_rel (hst : St μ0 S0 w0 μ β env S a.tmps w) {lo : Option Operand} {k : IntKind} {l : Int} (h : (match lo with | some x => opd env x | none => .v (.s (.int .i64 0))) = AV.v (.s (.int k l))) :
    lo.map a.eval = none ∧ l = 0 ∨ ∃ k, lo.map a.eval = some (.int k l) := by
  cases lo with
  | none => simp at h; exact .inl ⟨rfl, h.2.symm⟩
  | some x =>
    simp only at h
    have hx := hst.opd rfl x
    rw [h] at hx
    have hx : a.eval x = .int k l := hx
    exact .inr ⟨k, by simp [hx]⟩
theorem hi_rel (hst : St μ0 S0 w0 μ β env S a.tmps w) {lo : Option Operand} {k : IntKind} {l n : Int} (h : (match lo with | some x => opd env x | none => .v (.s (.int .i64 n))) = AV.v (.s (.int k l))) :
    lo.map a.eval = none ∧ l = n ∨ ∃ k, lo.map a.eval = some (.int k l) := by
  cases lo with
  | none => simp at h; exact .inl ⟨rfl, h.2.symm⟩
  | some x =>
    simp only at h
    have hx := hst.opd rfl x
    rw [h] at hx
    have hx : a.eval x = .int k l := hx
    exact .inr ⟨k, by simp [hx]⟩
theorem cut0_run {t e : Nat} {te : TI} (ht : P.underlying t = some (.slice e)) (hte : TyOK P e te) {base : Option Addr} {len cap : Nat} {k k' : IntKind} :
    (Instr.sliceAt t (.slice base len cap) none (some (.int k 0)) (some (.int k' 0))).run P w = .ok (.slice base 0 0) w := by
  simp [Instr.sliceAt, Instr.slice, run_underlying ht, Instr.sliceBounds, Instr.sliceBound, asIntOf, hte.sizeOf]
theorem op_indexS {EV : Nat → List V → Store → (AV → Store → Prop) → Prop} (hT : TOK P T) {K : Env → Store → Prop} {next : Act → World → Prop} {Q : Exit → Act → World → Prop} {dst : Option Tmp} {t : TypeId} {x i : Operand} {s : ByteArray} {k : IntKind} {j : Int} {type pos after guard}
    (hn : Next μ0 S0 w0 K next) (hd : a.defers = []) (hst : St μ0 S0 w0 μ β env S a.tmps w) (e1 : opd env x = .v (.s (.str s))) (e2 : opd env i = .v (.s (.int k j))) (h : dOp T EV (.index t x i) dst env S K) : Oper.wp P { dst := dst, op := .index t x i, type := type, pos := pos, after := after, guard := guard } a w next Q := by
  simp only [dOp] at h
  have hx := hst.opd rfl x
  have hi := hst.opd rfl i
  rw [e1, e2] at h
  rw [e1] at hx; rw [e2] at hi
  have hi : a.eval i = .int k j := hi
  have hx : a.eval x = .string s := hx
  simp only at h
  split at h
  · rename_i _ _ _ _ _ ht
    unfold NeedP at h
    obtain ⟨⟨g1, g2⟩, g3⟩ := h
    obtain ⟨desc, d1, d2⟩ := scalar_desc hT ht
    obtain rfl := desc_string d2
    have hj : j.toNat < s.size := by omega
    have hs : s[j.toNat]? = some s[j.toNat] := by simp [hj]
    refine fin (x := .v (.s (.int .u8 (byteS s j)))) (u := .int .u8 s[j.toNat].toNat) hn hd hst g3 ?_ ?_
    · simp [execOp, hx, hi, Instr.index, asIntOf, run_underlying d1, g1, hs]
    · unfold byteS; rw [hs]; rfl
  · exact h.elim
theorem op_slice {EV : Nat → List V → Store → (AV → Store → Prop) → Prop} (hT : TOK P T) {K : Env → Store → Prop} {next : Act → World → Prop} {Q : Exit → Act → World → Prop} {dst : Option Tmp} {t : TypeId} {x : Operand} {lo hi mx : Option Operand} {type pos after guard}
    (hn : Next μ0 S0 w0 K next) (hd : a.defers = []) (hst : St μ0 S0 w0 μ β env S a.tmps w) (h : dOp T EV (.slice t x lo hi mx) dst env S K) : Oper.wp P { dst := dst, op := .slice t x lo hi mx, type := type, pos := pos, after := after, guard := guard } a w next Q := by
  simp only [dOp] at h
  have hx := hst.opd rfl x
  split at h
  · rename_i e _ _ _ _ _ c ht e1
    rw [e1] at hx
    have hti := ((hT t _ ht).slice e rfl).2
    split at h
    · split at h
      · rename_i k' k
        split at h
        · rename_i te hte
          unfold Cut0P at h
          obtain ⟨xs, g1, g2⟩ := h
          have hu : ∃ base n cap, a.eval x = .slice base n cap ∧ CR μ S (cut0 c) (.slice base 0 0) := by
            cases c with
            | nil => exact ⟨none, 0, 0, hx, rfl⟩
            | zc => obtain ⟨ad, he⟩ := hx; exact ⟨_, _, _, he, ad, rfl⟩
            | sl id o n t => obtain ⟨ad, cap, he, _⟩ := hx; exact ⟨_, _, _, he, ad, rfl⟩
            | _ => simp [elems] at g1
          obtain ⟨base, n, cap, he, hr⟩ := hu
          refine fin (x := .v (.s (cut0 c))) (u := .slice base 0 0) hn hd hst g2 ?_ hr
          have hc : ∀ v, a.eval (.const v) = v := fun _ => rfl
          simp only [execOp, Option.map, hc, he, Sem.run_bind, cut0_run hti (hT e te hte)]
          rfl
        · exact h.elim
      · exact h.elim
    · exact h.elim
    · split at h
      · rename_i k l hl
        have hlo := lo_rel hst hl
        split at h
        · rename_i y
          split at h
          · rename_i k' hh ey
            have hy := hst.opd rfl y
            rw [ey] at hy
            have hy : a.eval y = .int k' hh := hy
            split at h
            · rename_i te hte
              unfold SliP at h
              obtain ⟨xs, g1, g2, g3, g4, g5, g6⟩ := h
              obtain ⟨base, n, cap, r1, r2, r3, r4⟩ := cut_rel hst.rs g1 g2 g3 g4 g5 hx
              exact fin (x := .v (.s (cutC c l hh))) hn hd hst g6 (by simp [execOp, r1, hy, slice_run hti (hT e te hte) hlo (.inr ⟨k', rfl⟩) g3 g4 (by rw [r3]; exact g5) r2]) r4
            · exact h.elim
          · exact h.elim
        · split at h
          · rename_i te hte
            unfold SlhP at h
            obtain ⟨xs, g1, g2, g3, g4, g5⟩ := h
            obtain ⟨base, n, cap, r1, r2, r3, r4⟩ := cut_rel hst.rs g1 g2 g3 g4 (Int.le_refl _) hx
            exact fin (x := .v (.s (cutC c l xs.length))) hn hd hst g5 (by simp [execOp, r1, slice_run hti (hT e te hte) hlo (.inl ⟨rfl, by rw [r3]⟩) g3 g4 (by rw [r3]; exact Int.le_refl _) r2]) r4
          · exact h.elim
      · exact h.elim
  · rename_i _ _ _ _ s ht e1
    rw [e1] at hx
    have hx : a.eval x = .string s := hx
    obtain ⟨desc, d1, d2⟩ := scalar_desc hT ht
    obtain rfl := desc_string d2
    split at h
    · exact h.elim
    · split at h
      · rename_i k l k' hh e2 e3
        unfold NeedP at h
        obtain ⟨⟨g1, g2, g3⟩, g4⟩ := h
        refine fin (x := .v (.s (.str (cutS s l hh)))) (u := .string (s.extract l.toNat hh.toNat)) hn hd hst g4 ?_ (by unfold cutS; rfl)
        simp [execOp, hx, str_slice_run d1 (lo_rel hst e2) (hi_rel hst e3) g1 g2 g3]
      · exact h.elim
  · exact h.elim
theorem op_convert {EV : Nat → List V → Store → (AV → Store → Prop) → Prop} (hT : TOK P T) {K : Env → Store → Prop} {next : Act → World → Prop} {Q : Exit → Act → World → Prop} {dst : Option Tmp} {s d : TypeId} {x : Operand} {type pos after guard}
    (hn : Next μ0 S0 w0 K next) (hd : a.defers = []) (hst : St μ0 S0 w0 μ β env S a.tmps w) (h : dOp T EV (.convert s d x) dst env S K) : Oper.wp P { dst := dst, op := .convert s d x, type := type, pos := pos, after := after, guard := guard } a w next Q := by
  simp only [dOp] at h
  have hx := hst.opd rfl x
  split at h
  · rename_i _ _ _ _ _ _ dk _ _ _ _ _ hs hd'
    split at h
    · rename_i k' n k e1 hk
      rw [e1] at hx
      have hx : a.eval x = .int k' n := hx
      obtain ⟨ds, s1, s2⟩ := scalar_desc hT hs
      obtain ⟨dd, d1, d2⟩ := scalar_desc hT hd'
      obtain rfl := desc_int hk d2
      refine fin (x := .v (.s (.int k (wrapI k n)))) (u := .int k (k.wrap n)) hn hd hst h ?_ (by unfold wrapI; rfl)
      simp [execOp, hx, convert, run_underlying s1, run_underlying d1, Conv.intToInt]
    · exact h.elim
  · rename_i e _ _ _ _ _ _ _ _ _ _ hs hd'
    split at h
    · rename_i _ _ _ _ _ he
      obtain ⟨ys, h1, base, c, hu, h2⟩ := srcOf_sound hst h
      unfold NeedP at h1
      obtain ⟨hall, h3⟩ := h1
      obtain ⟨dd, d1, d2⟩ := scalar_desc hT hd'
      obtain rfl := desc_string d2
      obtain ⟨de, d3, d4⟩ := scalar_desc hT he
      obtain rfl := desc_u8 d4
      have hse := ((hT s _ hs).slice e rfl).2
      refine fin (x := .v (.s (.str (strOf ys)))) (u := .string (strOf ys)) hn hd hst h3 ?_ rfl
      have key : (Conv.bytesToString (.slice base ys.length c)).run P w = .ok (.string (strOf ys)) w := by
        cases base with
        | none =>
          have : ys = [] := Classical.byContradiction fun hne => by obtain ⟨ad, h, _⟩ := h2 hne; cases h
          subst this
          unfold strOf
          simp [Conv.bytesToString, bytesOf]; rfl
        | some ad =>
          obtain ⟨ns, hns⟩ : ∃ ns : List Int, ys = ns.map fun n => [C.int .u8 n] := by
            clear h2 hu h3
            induction ys with
            | nil => exact ⟨[], rfl⟩
            | cons y ys ih =>
              obtain ⟨n, rfl⟩ := hall y (by simp)
              obtain ⟨ns, rfl⟩ := ih (fun y hy => hall y (by simp [hy]))
              exact ⟨n :: ns, rfl⟩
          have hl : (loadCells ad ys.length).run P w = .ok (ns.map (Value.int .u8)).toArray w := by
            have hlen : ys.length = (ns.map (Value.int .u8)).length := by rw [hns]; simp
            rw [hlen]
            refine run_loadCells_list w ad _ fun j v hj => ?_
            have hne : ys ≠ [] := by
              intro e0
              rw [e0] at hlen
              have := (List.getElem?_eq_some_iff.1 hj).1
              simp at hlen this
              omega
            obtain ⟨ad', e1, h4⟩ := h2 hne
            cases e1
            obtain ⟨news, n1, n2, n3⟩ := h4 1 (fun y hy => by obtain ⟨n, rfl⟩ := hall y hy; rfl)
            rw [List.getElem?_map, Option.map_eq_some_iff] at hj
            obtain ⟨n, q1, q2⟩ := hj
            obtain ⟨r1, r2⟩ := n3 j [C.int .u8 n] (by rw [hns, List.getElem?_map, q1]; rfl)
            obtain ⟨u, u1, u2⟩ := r2 0 _ rfl
            have u2 : u = .int .u8 n := u2
            rw [Nat.mul_one, Nat.add_zero] at u1
            rw [← q2, ← u2]
            exact n1 j u u1
          rw [run_bytesToString w ad ys.length c ns hl, foldl_push_bytes]
          congr 2
          unfold strOf
          rw [hns]
          have : ∀ l : List Int, bytesOf (l.map fun n => [C.int .u8 n]) = l.map fun n => UInt8.ofNat n.toNat := by
            intro l
            induction l with
            | nil => rfl
            | cons n l ih => simp [bytesOf, ih]
          rw [this]
          simp
      simp only [execOp, hu, Sem.run_bind, run_convert_bytes_string w s d e base ys.length c hse d3 d1, key]
      rfl
    · exact h.elim
  · exact h.elim
theorem avr_opd {x : AV} {u : Value} (h : AVR μ S x u) : OpdR μ S β env x u := by
  cases x <;> first | exact h.elim | exact h
def Call.consts (args : Array Operand) : Array Bool := args.map fun | .const _ => true | _ => false
theorem run_builtin {dst : Option Tmp} {b : Builtin} {args : Array Operand} {ats : Array TypeId} {type pos after guard} :
    (execOp a.eval { dst := dst, op := .call { callee := .builtin b, args := args, argTypes := ats }, type := type, pos := pos, after := after, guard := guard }).run P w =
      (builtin b ats type (Call.consts args) (args.map a.eval)).run P w := by
  simp only [execOp, resolve, invoke, Sem.run_bind, Sem.run_pure, Result.andThen]
  rfl
theorem run_value {dst : Option Tmp} {f : Operand} {g : FuncId} {args : Array Operand} {ats : Array TypeId} {type pos after guard} (hf : a.eval f = .func (.func g) #[] #[]) :
    (execOp a.eval { dst := dst, op := .call { callee := .value f, args := args, argTypes := ats }, type := type, pos := pos, after := after, guard := guard }).run P w =
      (callFunc g (args.map a.eval)).run P w := by
  simp [execOp, resolve, invoke, hf, Deferred.ofValue]
theorem map_toList2 {args : Array Operand} {x y : Operand} (h : args.toList = [x, y]) : args.map a.eval = #[a.eval x, a.eval y] := by
  have : args = #[x, y] := by rw [← Array.toArray_toList (xs := args), h]
  rw [this]; simp
theorem map_toList1 {args : Array Operand} {x : Operand} (h : args.toList = [x]) : args.map a.eval = #[a.eval x] := by
  have : args = #[x] := by rw [← Array.toArray_toList (xs := args), h]
  rw [this]; simp
theorem op_builtin {EV : Nat → List V → Store → (AV → Store → Prop) → Prop} (hT : TOK P T) {K : Env → Store → Prop} {next : Act → World → Prop} {Q : Exit → Act → World → Prop} {dst : Option Tmp} {b : Builtin} {args : Array Operand} {ats : Array TypeId} {type pos after guard}
    (hn : Next μ0 S0 w0 K next) (hd : a.defers = []) (hst : St μ0 S0 w0 μ β env S a.tmps w) (h : dBuiltin T b args.toList ats.toList dst env S K) : Oper.wp P { dst := dst, op := .call { callee := .builtin b, args := args, argTypes := ats }, type := type, pos := pos, after := after, guard := guard } a w next Q := by
  unfold dBuiltin at h
  split at h
  · rename_i x hargs
    have ha := map_toList1 (a := a) hargs
    split at h
    · rename_i t ty ats' hats
      have h0 : ats[0]? = some ty := by rw [← Array.getElem?_toList, hats]; rfl
      have hrun : ∀ n : Nat, (Builtin.len_ ats type #[a.eval (.tmp t)]).run P w = .ok (goInt n) w → (execOp a.eval { dst := dst, op := .call { callee := .builtin .len, args := args, argTypes := ats }, type := type, pos := pos, after := after, guard := guard }).run P w = .ok (.value (goInt n)) w := by
        intro n hr
        rw [run_builtin, ha]
        simp only [builtin, Sem.run_bind, hr]
        rfl
      split at h
      · rename_i e _ _ _ _ _ ht
        have hti := ((hT ty _ ht).slice e rfl).2
        split at h
        · rename_i k xs hx
          have hs := hst.slot t _ (getE_some hx (by simp))
          obtain ⟨h1, _⟩ := hs
          have h1 : a.eval (.tmp t) = .slice (some ⟨β t, 0, none⟩) xs.length xs.length := h1
          exact fin (x := .v (.s (.int .i64 xs.length))) hn hd hst h (hrun xs.length (by simp [Builtin.len_, h0, run_underlying hti, h1])) rfl
        · rename_i c hx
          have hs := hst.slot t _ (getE_some hx (by simp))
          have hs : CR μ S c (a.eval (.tmp t)) := hs
          unfold LenP at h
          obtain ⟨l, h1, h2⟩ := h
          obtain ⟨base, cx, h3, _⟩ := elems_src hst hs h1
          exact fin (x := .v (.s (.int .i64 l.length))) hn hd hst h2 (hrun l.length (by simp [Builtin.len_, h0, run_underlying hti, h3])) rfl
        · exact h.elim
      · rename_i _ _ _ _ _ ht
        obtain ⟨desc, d1, d2⟩ := scalar_desc hT ht
        obtain rfl := desc_string d2
        split at h
        · rename_i s hx
          have hs := hst.slot t _ (getE_some hx (by simp))
          have hs : a.eval (.tmp t) = .string s := hs
          exact fin (x := .v (.s (.int .i64 s.size))) hn hd hst h (hrun s.size (by simp [Builtin.len_, h0, run_underlying d1, hs])) rfl
        · exact h.elim
      · exact h.elim
    · exact h.elim
  · rename_i s x hargs
    have ha := map_toList2 (a := a) hargs
    split at h
    · rename_i t t' hats
      cases hb : Nat.beq t' t with
      | false => rw [hb] at h; exact h.elim
      | true =>
        rw [hb] at h
        simp only [cond_true] at h
        have ht' := Nat.eq_of_beq_eq_true hb
        subst ht'
        have hats' : ats = #[t', t'] := by rw [← Array.toArray_toList (xs := ats), hats]
        split at h
        · rename_i e _ _ _ _ _ ht
          have hti := ((hT t' _ ht).slice e rfl).2
          split at h
          · rename_i te he
            obtain ⟨v, env', S', μ', h1, h2, h3, h4⟩ := promV_sound hst h
            split at h1
            · rename_i c
              obtain ⟨ys, h5, h6⟩ := srcOf_sound h2 h1
              obtain ⟨c', S2, μ2, w2, u', k1, k2, k3, k4, k5⟩ := append_sound (ty := type) h2.rs hti (hT e te he) h3 h6 h5
              refine fin' (x := .v (.s c')) (u := u') hn hd h2 k1 ?_ k4 k5 k3
              rw [run_builtin, ha, hats']
              simp only [builtin, Sem.run_bind, k2]
              rfl
            · exact h1.elim
          · exact h.elim
        · exact h.elim
    · exact h.elim
  · rename_i x y hargs
    have ha := map_toList2 (a := a) hargs
    split at h
    · rename_i k p k' q e1 e2
      have hx := hst.opd rfl x
      have hy := hst.opd rfl y
      rw [e1] at hx; rw [e2] at hy
      have hx : a.eval x = .int k p := hx
      have hy : a.eval y = .int k' q := hy
      refine fin (x := .v (.s (.int k (minI p q)))) (u := .int k (if q < p then q else p)) hn hd hst h ?_ (by unfold minI; rfl)
      rw [run_builtin, ha, hx, hy]
      simp only [builtin, Sem.run_bind, run_min_int2]
      rfl
    · exact h.elim
  · rename_i x y hargs
    have ha := map_toList2 (a := a) hargs
    split at h
    · rename_i k p k' q e1 e2
      have hx := hst.opd rfl x
      have hy := hst.opd rfl y
      rw [e1] at hx; rw [e2] at hy
      have hx : a.eval x = .int k p := hx
      have hy : a.eval y = .int k' q := hy
      refine fin (x := .v (.s (.int k (maxI p q)))) (u := .int k (if q > p then q else p)) hn hd hst h ?_ (by unfold maxI; rfl)
      rw [run_builtin, ha, hx, hy]
      simp only [builtin, Sem.run_bind, run_max_int2]
      rfl
    · exact h.elim
  · exact h.elim
theorem op_value {EV : Nat → List V → Store → (AV → Store → Prop) → Prop} (hEV : ∀ f args S R, EV f args S R → EvA P f args S R) {K : Env → Store → Prop} {next : Act → World → Prop} {Q : Exit → Act → World → Prop} {dst : Option Tmp} {f : Operand} {g : Nat} {args : Array Operand} {ats : Array TypeId} {type pos after guard}
    (hn : Next μ0 S0 w0 K next) (hd : a.defers = []) (hst : St μ0 S0 w0 μ β env S a.tmps w) (hf : opd env f = .v (.s (.fn g)))
    (h : promVs env S args.toList fun vs env S => CallP EV g vs S fun r S => (putK env dst r fun env => K env S)) : Oper.wp P { dst := dst, op := .call { callee := .value f, args := args, argTypes := ats }, type := type, pos := pos, after := after, guard := guard } a w next Q := by
  have hfe := hst.opd rfl f
  rw [hf] at hfe
  have hfe : a.eval f = .func (.func g) #[] #[] := hfe
  obtain ⟨vs, env', S', μ', h1, h2, h3, h4, h5⟩ := promVs_sound hst h
  unfold CallP at h1
  obtain ⟨R, h6, h7⟩ := h1
  obtain ⟨⟨fn, f1, f2, f3⟩, h8⟩ := hEV _ _ _ _ h6
  have hrel : VsR μ' S' vs (args.map a.eval) := by
    refine ⟨by simp at h3; simp [h3], fun j v hj => ?_⟩
    have hlt : j < args.size := by have := (List.getElem?_eq_some_iff.1 hj).1; simp at h3; omega
    exact ⟨a.eval args[j], by simp [hlt], h4 j v args[j] hj (by simp [hlt])⟩
  have hc := h8 μ' w (args.map a.eval) h2.rs (h2.amb.evo h2.evo) hrel
  unfold Oper.wp
  have hr : (callFunc g (args.map a.eval)).run P w = .ok (.enter g (args.map a.eval)) w := by
    have n1 : fn.name ≠ "runtime.NumGoroutine" := by simpa using f2
    simp [callFunc, f1, n1]
    intro hh; rw [hh] at f3; cases f3
  rw [run_value hfe, hr]
  show Calls P g (args.map a.eval) w _
  refine hc.mono fun e w' he => ?_
  obtain ⟨r, S2, u, μ2, r0, rfl, r1, r2, r3⟩ := he
  have h7 := h7 r S2 r0
  simp only [putK_eq] at h7
  exact hn _ _ _ _ _ _ h7 (by rw [put_defers]; exact hd) ((h2.step r1 r3).put (avr_opd r2) dst rfl)
end
end Go.Proofs.YtlmmdpmmdmhacaaGreat
