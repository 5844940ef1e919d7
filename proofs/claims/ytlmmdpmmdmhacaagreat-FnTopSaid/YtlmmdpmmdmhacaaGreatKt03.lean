/- The state of a frame against the model's; what the types' table must tell; operands. -/
import Derived.Test.YtlmmdpmmdmhacaaGreatKt02
import Derived.Laws.StructEq
namespace Go.Proofs.YtlmmdpmmdmhacaaGreat
open Go
set_option linter.unusedVariables false
set_option linter.unusedSimpArgs false
def z07 : C → Value → Bool
 | .int k n, .int k' n' => decide (k = k') && decide (n = n')
 | .bool b, .bool b' => b == b'
 | .str s, .string s' => s.data.toList.isEmpty && s'.data.toList.isEmpty
 | .nil, .slice none 0 0 => true
 | _, _ => false
theorem zis {c : C} {u : Value} (h : z07 c u = true) (μ : Mp) (S : Store) : CR μ S c u := by
 cases c <;> cases u <;> simp [z07] at h <;> simp [CR]
 case int.int => obtain ⟨rfl, rfl⟩ := h; exact ⟨rfl, rfl⟩
 case bool.bool => exact h.symm
 case str.string s s' =>
  obtain ⟨h1, h2⟩ := h
  cases s; cases s'
  simp_all
 case nil.slice a n c =>
  cases a <;> cases n <;> cases c <;> simp_all
def ze2 : Nat → TypeDesc → Bool
 | 0, .int .i8 => true
 | 1, .int .i16 => true
 | 2, .int .i32 => true
 | 3, .int .i64 => true
 | 4, .int .u8 => true
 | 5, .int .u16 => true
 | 6, .int .u32 => true
 | 7, .int .u64 => true
 | 10, .bool => true
 | 20, .string => true
 | _, _ => false
def EqT (P : Program) (t : Nat) (sh : List Nat) : Prop :=
 P.eqGuardType P.depth t = false ∧ ∀ (μ : Mp) (S : Store) (w : World) (cs ds : List C) (us vs : Array Value) (r : Bool), AggR μ S cs us → AggR μ S ds vs → eqCs sh cs ds = some r →
  (Op.equal t (.agg us) (.agg vs)).run P w = .ok r w
structure TyOK (P : Program) (t : Nat) (ti : TI) : Prop where
 info : ∃ i z, P.info? t = some i ∧ i.size = ti.sz ∧ i.bytes = ti.by' ∧ i.zero = some z ∧ z.cells.size = ti.sz ∧ ti.zero.length = ti.sz ∧
  ∀ (j : Nat) c, ti.zero[j]? = some c → ∃ u, z.cells[j]? = some u ∧ z07 c u = true
 pos : 0 < ti.sz
 bpos : 0 < ti.by'
 scalar : ∀ d, ti.kd = .scalar d → ti.sz = 1 ∧ ∃ desc, P.underlying t = some desc ∧ ze2 d desc = true
 struct : ∀ offs, ti.kd = .struct offs → ∃ fs, P.underlying t = some (.struct fs) ∧ fs.size = offs.length ∧
  ∀ (j : Nat) f, fs[j]? = some f → ∃ i, P.info? f.type = some i ∧ 0 < i.size ∧ offs[j]? = some f.offset ∧ fieldAt offs ti.sz j = some (f.offset, i.size)
 array : ∀ n e, ti.kd = .array n e → P.underlying t = some (.array n e)
 slice : ∀ e, ti.kd = .slice e → ti.sz = 1 ∧ P.underlying t = some (.slice e)
 eq : ti.eq ≠ [] → EqT P t ti.eq
 fld : ∀ offs, ti.kd = .struct offs → ∃ fs, P.underlying t = some (.struct fs) ∧ ∀ (j : Nat) o e, offs[j]? = some o → ti.ft[j]? = some e → ∃ f, fs[j]? = some f ∧ f.type = e ∧ f.offset = o
def TOK (P : Program) (T : TT) : Prop := ∀ t ti, T t = some ti → TyOK P t ti
def zkx (zs : List C) (us : List Value) : Bool :=
 match zs, us with
 | [], [] => true
 | c :: zs, u :: us => z07 c u && zkx zs us
 | _, _ => false
theorem zxm {zs : List C} {us : List Value} (h : zkx zs us = true) : zs.length = us.length := by
 induction zs generalizing us with
 | nil => cases us <;> simp [zkx] at h ⊢
 | cons c zs ih => cases us with
   | nil => simp [zkx] at h
   | cons u us => simp [zkx] at h; simp [ih h.2]
theorem z1k {zs : List C} {us : List Value} (h : zkx zs us = true) : ∀ (j : Nat) c, zs[j]? = some c → ∃ u, us[j]? = some u ∧ z07 c u = true := by
 induction zs generalizing us with
 | nil => intro j c hj; simp at hj
 | cons c zs ih => cases us with
   | nil => simp [zkx] at h
   | cons u us =>
     simp [zkx] at h
     intro j x hj
     cases j with
     | zero => simp at hj; subst hj; exact ⟨u, by simp, h.1⟩
     | succ j => simp at hj; simpa using ih h.2 j x hj
def zrv (P : Program) (offs : List Nat) (sz : Nat) (fs : List Field) (j : Nat) : Bool :=
 match fs with
 | [] => true
 | f :: r => (match P.info? f.type with
   | some i => Nat.blt 0 i.size && decide (offs[j]? = some f.offset) && decide (fieldAt offs sz j = some (f.offset, i.size))
   | none => false) && zrv P offs sz r (j + 1)
theorem zyf {P : Program} {offs : List Nat} {sz : Nat} {fs : List Field} {j : Nat} (h : zrv P offs sz fs j = true) :
 ∀ (k : Nat) f, fs[k]? = some f → ∃ i, P.info? f.type = some i ∧ 0 < i.size ∧ offs[j + k]? = some f.offset ∧ fieldAt offs sz (j + k) = some (f.offset, i.size) := by
 induction fs generalizing j with
 | nil => intro k f hk; simp at hk
 | cons x r ih =>
   rw [zrv, Bool.and_eq_true] at h
   intro k f hk
   cases k with
   | zero =>
     simp at hk; subst hk
     have h1 := h.1
     split at h1
     ·rename_i i hi
      simp at h1
      exact ⟨i, hi, by omega, h1.1.2, h1.2⟩
     ·cases h1
   | succ k =>
     simp at hk
     have := ih h.2 k f hk
     rw [show j + (k + 1) = j + 1 + k by omega]
     exact this
def zkl (P : Program) (g : Nat → Option (List Nat)) : Nat → List Field → Option (List Nat)
 | _, [] => some []
 | o, f :: fs => match g f.type, P.info? f.type with
   | some s, some i => bif !(f.name == "_") && Nat.beq f.offset o && Nat.beq i.size s.length then
      match zkl P g (o + s.length) fs with
      | some r => some (s ++ r)
      | none => none
     else none
   | _, _ => none
def zsd : IntKind → Nat
 | .i8 => 0
 | .i16 => 1
 | .i32 => 2
 | .i64 => 3
 | .u8 => 4
 | .u16 => 5
 | .u32 => 6
 | .u64 => 7
def zhm (P : Program) : Nat → Nat → Option (List Nat)
 | 0, _ => none
 | d + 1, t => match P.underlying t with
   | some .bool => some [10]
   | some (.int k) => some [zsd k]
   | some .string => some [20]
   | some (.struct fs) => bif P.stoodInHeld t then none else zkl P (zhm P d) 0 fs.toList
   | _ => none
def LR (μ : Mp) (S : Store) (cs : List C) (us : List Value) : Prop := us.length = cs.length ∧ ∀ (j : Nat) c, cs[j]? = some c → ∃ u, us[j]? = some u ∧ CR μ S c u
section
variable {P : Program} {μ : Mp} {S : Store} {w : World}
theorem LR.take {cs : List C} {us : List Value} (h : LR μ S cs us) (n : Nat) : LR μ S (cs.take n) (us.take n) := by
 refine ⟨by simp [h.1], fun j c hj => ?_⟩
 rw [List.getElem?_take] at hj ⊢
 split at hj
 ·rename_i hl; rw [if_pos hl]; exact h.2 j c hj
 ·cases hj
theorem LR.drop {cs : List C} {us : List Value} (h : LR μ S cs us) (n : Nat) : LR μ S (cs.drop n) (us.drop n) := by
 refine ⟨by simp [h.1], fun j c hj => ?_⟩
 rw [List.getElem?_drop] at hj ⊢
 exact h.2 _ c hj
theorem zmi : ∀ {s : List Nat} {cs ds : List C} {r : Bool}, eqCs s cs ds = some r → cs.length = s.length ∧ ds.length = s.length
 | [], [], [], _, _ => ⟨rfl, rfl⟩
 | k :: s, a :: x, b :: y, r, h => by
   rw [eqCs] at h
   split at h
   ·rename_i p q _ hq
    have := zmi hq
    simp [this.1, this.2]
   ·cases h
 | [], _ :: _, _, _, h => by simp [eqCs] at h
 | [], [], _ :: _, _, h => by simp [eqCs] at h
 | _ :: _, [], _, _, h => by simp [eqCs] at h
 | _ :: _, _ :: _, [], _, h => by simp [eqCs] at h
theorem zmj : ∀ {s s' : List Nat} {cs ds : List C} {r : Bool}, eqCs (s ++ s') cs ds = some r →
 ∃ p q, eqCs s (cs.take s.length) (ds.take s.length) = some p ∧ eqCs s' (cs.drop s.length) (ds.drop s.length) = some q ∧ r = (p && q)
 | [], s', cs, ds, r, h => ⟨true, r, by simp [eqCs], by simpa using h, by simp⟩
 | k :: s, s', [], ds, r, h => by simp [eqCs] at h
 | k :: s, s', a :: x, [], r, h => by simp [eqCs] at h
 | k :: s, s', a :: x, b :: y, r, h => by
   rw [List.cons_append, eqCs] at h
   split at h
   ·rename_i p q hp hq
    obtain ⟨p', q', h1, h2, rfl⟩ := zmj hq
    simp at h; subst h
    refine ⟨p && p', q', ?_, by simpa using h2, by rw [Bool.and_assoc]⟩
    simp only [List.length_cons, List.take_succ_cons]
    rw [eqCs, hp, h1]
   ·cases h
theorem zqm {k k' : IntKind} (h : zqe k k' = true) : k = k' := by
 cases k <;> cases k' <;> first | rfl | (simp [zqe] at h)
def EqGo (P : Program) (w : World) (k t : Nat) (us vs : List Value) (r : Bool) : Prop :=
 match P.underlying t with
 | some (.struct _) => (Op.equalIn k t (.agg us.toArray) (.agg vs.toArray)).run P w = .ok r w
 | _ => ∃ x y, us = [x] ∧ vs = [y] ∧ (Op.equalIn k t x y).run P w = .ok r w
theorem zuf {t : Nat} {fs : Array Field} (h : P.underlying t = some (.struct fs)) : (isAgg t).run P w = .ok true w := by
 unfold isAgg; simp [run_underlying h]
theorem zw4 {d : Nat} {xs ys : Array Value} {f : Field} {fs : List Field} {x y : Value} {p q : Bool} (hn : (f.name == "_") = false) (ha : (part f.type xs f.offset).run P w = .ok x w) (hb : (part f.type ys f.offset).run P w = .ok y w)
 (he : (Op.equalIn d f.type x y).run P w = .ok p w) (hr : (Op.eqFields d xs ys fs).run P w = .ok q w) : (Op.eqFields d xs ys (f :: fs)).run P w = .ok (p && q) w := by
 have hn' : f.name ≠ "_" := by simpa using hn
 rw [Op.eqFields]
 simp only [if_pos hn', Sem.run_bind, ha, hb, he, Result.andThen_ok]
 cases p
 ·simp
 ·simpa using hr
theorem zxd {t : Nat} {i : TypeInfo} (hi : P.info? t = some i) {xs : Array Value} {o : Nat} {us : List Value} (hus : (xs.toList.drop o).take i.size = us) :
 ((∃ fs, P.underlying t = some (.struct fs)) → (part t xs o).run P w = .ok (.agg us.toArray) w) ∧
 (∀ x, us = [x] → i.size = 1 → (isAgg t).run P w = .ok false w → (part t xs o).run P w = .ok x w) := by
 refine ⟨fun ⟨fs, hfs⟩ => ?_, fun x hx h1 hg => ?_⟩
 ·unfold part
  rw [Sem.run_bind, zuf hfs]
  simp only [Result.andThen_ok, if_true]
  have : (sizeOf t).run P w = .ok i.size w := by simp [sizeOf, typeInfo, hi]
  rw [Sem.run_bind, this]
  simp only [Result.andThen_ok, Sem.run_pure]
  congr 2
  rw [← hus]
  apply Array.ext'
  simp [Array.toList_extract, List.extract_eq_take_drop]
 ·unfold part
  rw [Sem.run_bind, hg]
  simp only [Result.andThen_ok, Bool.false_eq_true, if_false]
  have h2 : xs[o]? = some x := by
   have := congrArg (·[0]?) (hus.trans hx)
   simp only [h1] at this
   rw [List.getElem?_take] at this
   simpa using this
  rw [h2]
  rfl
theorem zkt : ∀ (d t : Nat) (sh : List Nat), zhm P d t = some sh → ∀ k, d ≤ k → ∀ (cs ds : List C) (us vs : List Value) (r : Bool), LR μ S cs us → LR μ S ds vs → eqCs sh cs ds = some r → EqGo P w k t us vs r
 | 0, t, sh, h => by simp [zhm] at h
 | d + 1, t, sh, h => by
   intro k hk cs ds us vs r hu hv he
   obtain ⟨k, rfl⟩ : ∃ k', k = k' + 1 := ⟨k - 1, by omega⟩
   rw [zhm] at h
   have one : ∀ c, sh = [c] → ∃ a b x y, cs = [a] ∧ ds = [b] ∧ us = [x] ∧ vs = [y] ∧ CR μ S a x ∧ CR μ S b y ∧ eqC c a b = some r := by
    intro c hc
    subst hc
    obtain ⟨l1, l2⟩ := zmi he
    obtain ⟨a, rfl⟩ := List.length_eq_one_iff.1 l1
    obtain ⟨b, rfl⟩ := List.length_eq_one_iff.1 l2
    obtain ⟨x, rfl⟩ := List.length_eq_one_iff.1 hu.1
    obtain ⟨y, rfl⟩ := List.length_eq_one_iff.1 hv.1
    obtain ⟨x', x1, x2⟩ := hu.2 0 a rfl
    obtain ⟨y', y1, y2⟩ := hv.2 0 b rfl
    simp at x1 y1; subst x1; subst y1
    refine ⟨a, b, x, y, rfl, rfl, rfl, rfl, x2, y2, ?_⟩
    rw [eqCs] at he
    split at he
    ·rename_i p q hp hq
     simp [eqCs] at hq; subst hq
     simp at he; subst he
     exact hp
    ·cases he
   split at h
   ·rename_i ht
    obtain ⟨a, b, x, y, rfl, rfl, rfl, rfl, hx, hy, hc⟩ := one 10 (Option.some.inj h).symm
    unfold EqGo
    rw [ht]
    refine ⟨x, y, rfl, rfl, ?_⟩
    unfold eqC at hc
    split at hc
    ·simp [zn0] at hc
    ·have hx : x = .bool _ := hx
     have hy : y = .bool _ := hy
     subst hx; subst hy
     simp [Nat.beq] at hc
     rw [run_equalIn_bool' w k t _ _ ht, hc]
    ·simp [Nat.beq] at hc
    ·cases hc
   ·rename_i kd ht
    obtain ⟨a, b, x, y, rfl, rfl, rfl, rfl, hx, hy, hc⟩ := one (zsd kd) (Option.some.inj h).symm
    unfold EqGo
    rw [ht]
    refine ⟨x, y, rfl, rfl, ?_⟩
    unfold eqC at hc
    split at hc
    ·rename_i k1 a k2 b
     have hkd : zn0 (zsd kd) = some kd := by cases kd <;> rfl
     rw [hkd] at hc
     simp only at hc
     cases hs : (zqe kd k1 && zqe kd k2) with
     | false => rw [hs] at hc; cases hc
     | true =>
       rw [hs] at hc
       rw [Bool.and_eq_true] at hs
       obtain rfl := zqm hs.1
       obtain rfl := zqm hs.2
       have hx : x = .int kd a := hx
       have hy : y = .int kd b := hy
       subst hx; subst hy
       simp at hc
       rw [run_equalIn_int w k t kd kd _ _ ht, ← hc]
       congr 1
    ·cases kd <;> simp [zsd, Nat.beq] at hc
    ·cases kd <;> simp [zsd, Nat.beq] at hc
    ·cases hc
   ·rename_i ht
    obtain ⟨a, b, x, y, rfl, rfl, rfl, rfl, hx, hy, hc⟩ := one 20 (Option.some.inj h).symm
    unfold EqGo
    rw [ht]
    refine ⟨x, y, rfl, rfl, ?_⟩
    unfold eqC at hc
    split at hc
    ·simp [zn0] at hc
    ·simp [Nat.beq] at hc
    ·have hx : x = .string _ := hx
     have hy : y = .string _ := hy
     subst hx; subst hy
     simp [Nat.beq] at hc
     rw [run_equalIn_string w k t _ _ ht, ← hc]
     unfold eqS
     rfl
    ·cases hc
   ·rename_i fs ht
    cases hst : P.stoodInHeld t with
    | true => rw [hst] at h; cases h
    | false =>
      rw [hst] at h
      simp only [cond_false] at h
      unfold EqGo
      rw [ht]
      have hf : P.fieldsOf t = fs := by simp [Program.fieldsOf, ht]
      rw [run_equalIn_struct (P := P) w k t _ _ (by rw [hf]; exact ht) hst, hf]
      have key : ∀ (l : List Field) (o : Nat) (s : List Nat) (cs ds : List C) (r : Bool), zkl P (zhm P d) o l = some s → LR μ S cs (us.drop o) → LR μ S ds (vs.drop o) → eqCs s cs ds = some r →
       (Op.eqFields k us.toArray vs.toArray l).run P w = .ok r w := by
       intro l
       induction l with
       | nil =>
         intro o s cs ds r h1 h2 h3 h4
         simp [zkl] at h1; subst h1
         obtain ⟨l1, l2⟩ := zmi h4
         have : cs = [] := List.eq_nil_of_length_eq_zero l1
         have : ds = [] := List.eq_nil_of_length_eq_zero l2
         subst_vars
         simp [eqCs] at h4; subst h4
         simp [Op.eqFields]
       | cons f l ih =>
         intro o s cs ds r h1 h2 h3 h4
         rw [zkl] at h1
         split at h1
         ·rename_i s1 i hs1 hi
          cases hb : (!(f.name == "_") && Nat.beq f.offset o && Nat.beq i.size s1.length) with
          | false => rw [hb] at h1; cases h1
          | true =>
            rw [hb] at h1
            simp only [cond_true] at h1
            simp only [Bool.and_eq_true, Bool.not_eq_true'] at hb
            obtain ⟨⟨hn, ho⟩, hz⟩ := hb
            have ho := Nat.eq_of_beq_eq_true ho
            have hz := Nat.eq_of_beq_eq_true hz
            split at h1
            ·rename_i s2 hs2
             simp at h1; subst h1
             obtain ⟨p, q, e1, e2, rfl⟩ := zmj h4
             have g1 := zkt d f.type s1 hs1 k (by omega) _ _ _ _ p (h2.take s1.length) (h3.take s1.length) e1
             have g2 := ih (o + s1.length) s2 _ _ q hs2 (by have := h2.drop s1.length; rw [List.drop_drop] at this; exact this) (by have := h3.drop s1.length; rw [List.drop_drop] at this; exact this) e2
             obtain ⟨a1, a2⟩ := zxd (P := P) (w := w) hi (xs := us.toArray) (o := o) (us := (us.drop o).take s1.length) (by rw [hz])
             obtain ⟨b1, b2⟩ := zxd (P := P) (w := w) hi (xs := vs.toArray) (o := o) (us := (vs.drop o).take s1.length) (by rw [hz])
             subst ho
             unfold EqGo at g1
             split at g1
             ·rename_i fs' hfs'
              exact zw4 hn (a1 ⟨fs', hfs'⟩) (b1 ⟨fs', hfs'⟩) g1 g2
             ·rename_i hns
              obtain ⟨x, y, hx, hy, hxy⟩ := g1
              have hs1l : s1.length = 1 := by
               have := (h2.take s1.length).1
               rw [hx] at this
               rw [← (zmi e1).1, ← this]; rfl
              have hag : (isAgg f.type).run P w = .ok false w := by
               cases d with
               | zero => simp [zhm] at hs1
               | succ d =>
                 rw [zhm] at hs1
                 split at hs1
                 ·rename_i h; unfold isAgg; simp [run_underlying h]
                 ·rename_i h; unfold isAgg; simp [run_underlying h]
                 ·rename_i h; unfold isAgg; simp [run_underlying h]
                 ·rename_i h; exact absurd h (hns _)
                 ·cases hs1
              exact zw4 hn (a2 x hx (by rw [hz, hs1l]) hag) (b2 y hy (by rw [hz, hs1l]) hag) hxy g2
            ·cases h1
         ·cases h1
      exact key fs.toList 0 sh cs ds r h (by simpa using hu) (by simpa using hv) he
   ·cases h
theorem z56 {t : Nat} {sh : List Nat} (h : zhm P 8 t = some sh) (hg : P.eqGuardType P.depth t = false) (hst : ∃ fs, P.underlying t = some (.struct fs)) : EqT P t sh := by
 refine ⟨hg, fun μ S w cs ds us vs r h1 h2 h3 => ?_⟩
 obtain ⟨fs, hfs⟩ := hst
 have := zkt (μ := μ) (S := S) (w := w) 8 t sh h Op.maxDepth (by decide) cs ds us.toList vs.toList r ⟨by simpa using h1.1, fun j c hj => by simpa using h1.2 j c hj⟩ ⟨by simpa using h2.1, fun j c hj => by simpa using h2.2 j c hj⟩ h3
 unfold EqGo at this
 rw [hfs] at this
 exact this
end
def ftB : List Field → List Nat → List Nat → Bool
 | f :: fs, o :: os, e :: es => Nat.beq f.type e && Nat.beq f.offset o && ftB fs os es
 | _, _, [] => true
 | _, [], _ => true
 | _, _, _ => false
theorem z4j : ∀ {fs : List Field} {os es : List Nat}, ftB fs os es = true → ∀ (j : Nat) o e, os[j]? = some o → es[j]? = some e → ∃ f, fs[j]? = some f ∧ f.type = e ∧ f.offset = o
 | f :: fs, o :: os, e :: es, h, j, o', e', ho, he => by
   simp only [ftB, Bool.and_eq_true] at h
   cases j with
   | zero =>
     simp at ho he; subst ho; subst he
     exact ⟨f, rfl, Nat.eq_of_beq_eq_true h.1.1, Nat.eq_of_beq_eq_true h.1.2⟩
   | succ j =>
     obtain ⟨g, h1, h2⟩ := z4j h.2 j o' e' (by simpa using ho) (by simpa using he)
     exact ⟨g, by simpa using h1, h2⟩
 | _, [], _, _, j, o', e', ho, _ => by simp at ho
 | _, _ :: _, [], _, j, o', e', _, he => by simp at he
 | [], _ :: _, _ :: _, h, _, _, _, _, _ => by simp [ftB] at h
def tyB0 (P : Program) (t : Nat) (ti : TI) : Bool :=
 (match P.info? t with
 | some i => Nat.beq i.size ti.sz && Nat.beq i.bytes ti.by' && Nat.beq ti.zero.length ti.sz && (match i.zero with
   | some z => zkx ti.zero z.cells.toList
   | none => false)
 | none => false) && (Nat.blt 0 ti.sz && Nat.blt 0 ti.by') &&
 (match ti.kd with
 | .scalar d => Nat.beq ti.sz 1 && (match P.underlying t with
   | some desc => ze2 d desc
   | none => false)
 | .struct offs => (match P.underlying t with
   | some (.struct fs) => Nat.beq fs.size offs.length && zrv P offs ti.sz fs.toList 0
   | _ => false)
 | .array n e => (match P.underlying t with
   | some (.array n' e') => Nat.beq n n' && Nat.beq e e'
   | _ => false)
 | .slice e => Nat.beq ti.sz 1 && (match P.underlying t with
   | some (.slice e') => Nat.beq e e'
   | _ => false)) && (ti.eq.isEmpty || (decide (zhm P 8 t = some ti.eq) && !P.eqGuardType P.depth t && (match P.underlying t with
   | some (.struct _) => true
   | _ => false)))
theorem z5v {P : Program} {t : Nat} {ti : TI} (h : tyB0 P t ti = true) (hfl : ∀ offs, ti.kd = .struct offs → ∃ fs, P.underlying t = some (.struct fs) ∧ ∀ (j : Nat) o e, offs[j]? = some o → ti.ft[j]? = some e → ∃ f, fs[j]? = some f ∧ f.type = e ∧ f.offset = o) : TyOK P t ti := by
 unfold tyB0 at h
 rw [Bool.and_eq_true, Bool.and_eq_true, Bool.and_eq_true] at h
 obtain ⟨⟨⟨h1, h2⟩, h3⟩, h4⟩ := h
 simp only [Bool.and_eq_true, Nat.blt_eq] at h2
 refine ⟨?_, h2.1, h2.2, ?_, ?_, ?_, ?_, fun he => ?_, hfl⟩
 rotate_right
 ·have he' : ti.eq.isEmpty = false := by cases hq : ti.eq with
   | nil => exact absurd hq he
   | cons => rfl
  rw [he'] at h4
  simp only [Bool.false_or, Bool.and_eq_true, Bool.not_eq_true', decide_eq_true_eq] at h4
  obtain ⟨⟨e1, e2⟩, e3⟩ := h4
  refine z56 e1 e2 ?_
  split at e3
  ·rename_i fs hfs; exact ⟨fs, hfs⟩
  ·cases e3
 ·split at h1
  ·rename_i i hi
   simp only [Bool.and_eq_true, Nat.beq_eq] at h1
   obtain ⟨⟨⟨a, b⟩, c⟩, d⟩ := h1
   split at d
   ·rename_i z hz
    have hl := zxm d
    refine ⟨i, z, hi, a, b, hz, by rw [← c, hl]; simp, c, fun j c hj => ?_⟩
    obtain ⟨u, hu, hc⟩ := z1k d j c hj
    exact ⟨u, by simpa using hu, hc⟩
   ·cases d
  ·cases h1
 ·intro d hd
  rw [hd] at h3
  simp only [Bool.and_eq_true, Nat.beq_eq] at h3
  refine ⟨h3.1, ?_⟩
  have := h3.2
  split at this
  ·rename_i desc hde; exact ⟨desc, hde, this⟩
  ·cases this
 ·intro offs hd
  rw [hd] at h3
  simp only at h3
  split at h3
  ·rename_i fs hfs
   simp only [Bool.and_eq_true, Nat.beq_eq] at h3
   refine ⟨fs, hfs, h3.1, fun j f hj => ?_⟩
   have := zyf h3.2 j f (by simpa using hj)
   simpa using this
  ·cases h3
 ·intro n e hd
  rw [hd] at h3
  simp only at h3
  split at h3
  ·rename_i n' e' hx
   simp only [Bool.and_eq_true, Nat.beq_eq] at h3
   rw [hx, h3.1, h3.2]
  ·cases h3
 ·intro e hd
  rw [hd] at h3
  simp only [Bool.and_eq_true, Nat.beq_eq] at h3
  refine ⟨h3.1, ?_⟩
  have := h3.2
  split at this
  ·rename_i e' hx; rw [hx]; simp at this; rw [this]
  ·cases this
def tyB (P : Program) (t : Nat) (ti : TI) : Bool :=
 (match ti.kd with
 | .struct offs => (match P.underlying t with
   | some (.struct fs) => ftB fs.toList offs ti.ft
   | _ => false)
 | _ => true) && tyB0 P t ti
theorem z6f {P : Program} {t : Nat} {ti : TI} (h : tyB P t ti = true) : TyOK P t ti := by
 unfold tyB at h
 rw [Bool.and_eq_true] at h
 refine z5v h.2 fun offs hd => ?_
 have h1 := h.1
 rw [hd] at h1
 simp only at h1
 split at h1
 ·rename_i fs hfs
  refine ⟨fs, hfs, fun j o e ho he => ?_⟩
  obtain ⟨f, k1, k2⟩ := z4j h1 j o e ho he
  exact ⟨f, by simpa using k1, k2⟩
 ·cases h1
def tysB (P : Program) (T : TT) : Nat → Bool
 | 0 => true
 | n + 1 => (match T n with
   | some ti => tyB P n ti
   | none => true) && tysB P T n
theorem z68 {P : Program} {T : TT} {n : Nat} (h : tysB P T n = true) (hn : ∀ t, n ≤ t → T t = none) : TOK P T := by
 have key : ∀ m, tysB P T m = true → ∀ t, t < m → ∀ ti, T t = some ti → TyOK P t ti := by
  intro m
  induction m with
  | zero => intro _ t ht; omega
  | succ m ih =>
    intro h t ht ti hti
    rw [tysB, Bool.and_eq_true] at h
    by_cases e : t = m
    ·subst e
     have h1 := h.1
     rw [hti] at h1
     exact z6f h1
    ·exact ih h.2 t (by omega) ti hti
 intro t ti hti
 by_cases ht : t < n
 ·exact key n h t ht ti hti
 ·rw [hn t (by omega)] at hti; cases hti
def AV.priv : AV → Bool
 | .box _ | .lst _ _ | .nb _ => true
 | _ => false
def PlcR (β : Nat → Nat) (env : Env) (d o : Nat) (u : Value) : Prop :=
 (∃ b o', u = .pointer (some ⟨b, o', none⟩)) ∧ ∀ xs, env[d]? = some (AV.box xs) → u = .pointer (some ⟨β d, o, none⟩)
def SlotR (μ : Mp) (S : Store) (β : Nat → Nat) (env : Env) (w : World) (d : Nat) : AV → Value → Prop
 | .box xs, u => u = .pointer (some ⟨β d, 0, none⟩) ∧ ∃ arr e, w.heap[β d]? = some (.cells arr e (0, 0)) ∧ AggR μ S xs arr
 | .nb xs, u => u = .pointer (some ⟨β d, 0, none⟩) ∧ ∃ arr e, w.heap[β d]? = some (.cells arr e (0, 0)) ∧ AggR μ S xs arr
 | .lst k xs, u => u = .slice (some ⟨β d, 0, none⟩) xs.length xs.length ∧ xs.length ≤ maxLen ∧ ∃ arr e, w.heap[β d]? = some (.cells arr e (0, 0)) ∧ arr.size = xs.length * k ∧
    ∀ (i : Nat) cs, xs[i]? = some cs → cs.length = k ∧ ∀ (j : Nat) c, cs[j]? = some c → ∃ u, arr[i * k + j]? = some u ∧ CR μ S c u
 | .plc d' o, u => PlcR β env d' o u
 | x, u => AVR μ S x u
structure St (μ0 : Mp) (S0 : Store) (w0 : World) (μ : Mp) (β : Nat → Nat) (env : Env) (S : Store) (ts : Array Value) (w : World) : Prop where
 rs : RS μ S w
 evo : Evo μ0 S0 w0 μ S w
 size : ts.size = env.length
 slot : ∀ (d : Nat) x, env[d]? = some x → SlotR μ S β env w d x (ts.getD d undef)
 bsep : ∀ (d d' : Nat) x x', env[d]? = some x → env[d']? = some x' → x.priv = true → x'.priv = true → d ≠ d' → β d ≠ β d'
 brow : ∀ (d : Nat) x (id : Nat) row m, env[d]? = some x → x.priv = true → S[id]? = some row → μ id = some m → m.blk ≠ β d
 bnew : ∀ (d : Nat) x, env[d]? = some x → x.priv = true → w0.heap.size ≤ β d ∧ β d < w.heap.size
 amb : Amb μ0 S0 w0
section
variable {μ0 : Mp} {S0 : Store} {w0 : World} {μ : Mp} {β : Nat → Nat} {env : Env} {S : Store} {ts : Array Value} {w : World}
theorem za5 {env : Env} {t : Nat} {x : AV} (h : getE env t = x) (hx : x ≠ .top) : env[t]? = some x := by
 unfold getE at h
 rw [List.getD_eq_getElem?_getD] at h
 cases he : env[t]? with
 | none => rw [he] at h; simp at h; exact absurd h.symm hx
 | some y => rw [he] at h; simp at h; rw [h]
def OpdR (μ : Mp) (S : Store) (β : Nat → Nat) (env : Env) : AV → Value → Prop
 | .plc d o, u => PlcR β env d o u
 | .box _, _ => False
 | .lst _ _, _ => False
 | .nb _, _ => False
 | x, u => AVR μ S x u
theorem z1l (v : Value) : OpdR μ S β env (z1u v) v := by
 cases v with
 | slice a n c => cases a <;> cases n <;> cases c <;> simp [z1u, OpdR, AVR, VR, CR]
 | _ => simp [z1u, OpdR, AVR, VR, CR]
theorem St.opd (h : St μ0 S0 w0 μ β env S ts w) {a : Act} (ha : a.tmps = ts) (x : Operand) : OpdR μ S β env (opd env x) (a.eval x) := by
 subst ha
 cases x with
 | tmp t =>
   simp only [opd, Act.eval]
   cases hx : getE env t with
   | box xs =>
     have := h.slot t _ (za5 hx (by simp))
     exact ⟨⟨_, _, this.1⟩, fun ys hy => this.1⟩
   | lst k xs => trivial
   | nb xs => trivial
   | top => trivial
   | plc d o => exact h.slot t _ (za5 hx (by simp))
   | tt => have := h.slot t _ (za5 hx (by simp)); exact this
   | ff => have := h.slot t _ (za5 hx (by simp)); exact this
   | und => exact h.slot t _ (za5 hx (by simp))
   | v x => exact h.slot t _ (za5 hx (by simp))
   | tup x => exact h.slot t _ (za5 hx (by simp))
   | el c i o => exact h.slot t _ (za5 hx (by simp))
   | pe i o => exact h.slot t _ (za5 hx (by simp))
 | const v => exact z1l v
 | func f => rfl
 | global g => trivial
theorem zg5 {ts : Array Value} {d : Nat} {u : Value} (h : d < ts.size) : (ts.setIfInBounds d u).getD d undef = u := by
 simp [Array.getD, h]
theorem getD_set_ne {ts : Array Value} {d d' : Nat} {u : Value} (h : d ≠ d') : (ts.setIfInBounds d u).getD d' undef = ts.getD d' undef := by
 simp only [Array.getD_eq_getD_getElem?, Array.getElem?_setIfInBounds, if_neg h]
theorem St.put (h : St μ0 S0 w0 μ β env S ts w) {x : AV} {u : Value} (hx : OpdR μ S β env x u) (dst : Option Nat) {a : Act} (ha : a.tmps = ts) :
 St μ0 S0 w0 μ β (putE env dst x) S (a.put dst u).tmps w := by
 subst ha
 cases dst with
 | none => exact h
 | some d =>
   have np : x.priv = false := by cases x <;> first | rfl | exact hx.elim
   have old : ∀ (d' : Nat) y, (env.set d x)[d']? = some y → y.priv = true → env[d']? = some y ∧ d' ≠ d := by
    intro d' y hy hp
    rw [List.getElem?_set] at hy
    split at hy
    ·split at hy
     ·simp at hy; subst hy; rw [np] at hp; cases hp
     ·cases hy
    ·rename_i hne; exact ⟨hy, fun e => hne e.symm⟩
   refine ⟨h.rs, h.evo, by simp [Act.put, putE, h.size], ?_, ?_, ?_, ?_, h.amb⟩
   ·intro d' y hy
    simp only [putE] at hy
    have hkeep : ∀ (d1 o : Nat) (u1 : Value), PlcR β env d1 o u1 → PlcR β (env.set d x) d1 o u1 := by
     intro d1 o u1 hp
     exact ⟨hp.1, fun xs hxs => hp.2 xs (old d1 _ hxs rfl).1⟩
    have hop : ∀ y u, OpdR μ S β env y u → SlotR μ S β (env.set d x) w d' y u := by
     intro y u hyu
     cases y <;> first | exact hyu.elim | exact hyu | exact hkeep _ _ _ hyu
    simp only [Act.put]
    rw [List.getElem?_set] at hy
    by_cases hd : d = d'
    ·rw [if_pos hd] at hy
     split at hy
     ·rename_i hlt
      simp at hy; subst hy; subst hd
      rw [zg5 (by rw [h.size]; exact hlt)]
      exact hop _ _ hx
     ·cases hy
    ·rw [if_neg hd] at hy
     rw [getD_set_ne hd]
     have := h.slot d' y hy
     cases y <;> first | exact this | exact hkeep _ _ _ this
   ·intro d1 d2 y1 y2 h1 h2 p1 p2 hne
    exact h.bsep d1 d2 y1 y2 (old d1 y1 h1 p1).1 (old d2 y2 h2 p2).1 p1 p2 hne
   ·intro d1 y id row m h1 p1
    exact h.brow d1 y id row m (old d1 y h1 p1).1 p1
   ·intro d1 y h1 p1
    exact h.bnew d1 y (old d1 y h1 p1).1 p1
end
end Go.Proofs.YtlmmdpmmdmhacaaGreat
