/- The seat's types as the evaluator asks for them, and its functions' numbers. Written by gen.py. -/
import Derived.Test.YtnflbebemjojfaaAeF
import Derived.Test.YtnflbebemjojfaaProg
namespace Go.Proofs.Ytnflbebemjojfaa
open Go
def T2 : TI := { kd := .scalar 3, sz := 1, by' := 8, zero := [.int .i64 0], eq := [], ft := [] }
def T3 : TI := { kd := .scalar 3, sz := 1, by' := 8, zero := [.int .i64 0], eq := [], ft := [] }
def T4 : TI := { kd := .scalar 10, sz := 1, by' := 1, zero := [.bool false], eq := [], ft := [] }
def T5 : TI := { kd := .scalar 4, sz := 1, by' := 1, zero := [.int .u8 0], eq := [], ft := [] }
def T6 : TI := { kd := .scalar 4, sz := 1, by' := 1, zero := [.int .u8 0], eq := [], ft := [] }
def T7 : TI := { kd := .struct [0, 1, 2, 3], sz := 4, by' := 24, zero := [.int .i64 0, .int .i64 0, .bool false, .int .u8 0], eq := [], ft := [2, 3, 4, 6] }
def T8 : TI := { kd := .struct [0, 1, 2, 3], sz := 4, by' := 24, zero := [.int .i64 0, .int .i64 0, .bool false, .int .u8 0], eq := [], ft := [2, 3, 4, 6] }
def T9 : TI := { kd := .scalar 20, sz := 1, by' := 16, zero := [.str ⟨#[]⟩], eq := [], ft := [] }
def T10 : TI := { kd := .scalar 20, sz := 1, by' := 16, zero := [.str ⟨#[]⟩], eq := [], ft := [] }
def T11 : TI := { kd := .scalar 20, sz := 1, by' := 16, zero := [.str ⟨#[]⟩], eq := [], ft := [] }
def T12 : TI := { kd := .scalar 7, sz := 1, by' := 8, zero := [.int .u64 0], eq := [], ft := [] }
def T13 : TI := { kd := .struct [0, 1], sz := 2, by' := 24, zero := [.str ⟨#[]⟩, .int .u64 0], eq := [], ft := [9, 12] }
def T14 : TI := { kd := .struct [0, 1], sz := 2, by' := 24, zero := [.str ⟨#[]⟩, .int .u64 0], eq := [], ft := [9, 12] }
def T21 : TI := { kd := .scalar 2, sz := 1, by' := 4, zero := [.int .i32 0], eq := [], ft := [] }
def T22 : TI := { kd := .struct [0, 1], sz := 2, by' := 16, zero := [.int .i64 0, .int .i64 0], eq := [3, 3], ft := [3, 3] }
def T23 : TI := { kd := .struct [0, 1], sz := 2, by' := 16, zero := [.int .i64 0, .int .i64 0], eq := [3, 3], ft := [3, 3] }
def T24 : TI := { kd := .slice 49, sz := 1, by' := 24, zero := [.nil], eq := [], ft := [] }
def T25 : TI := { kd := .slice 3, sz := 1, by' := 24, zero := [.nil], eq := [], ft := [] }
def T27 : TI := { kd := .struct [0, 1], sz := 2, by' := 16, zero := [.int .i64 0, .int .i64 0], eq := [3, 3], ft := [3, 3] }
def T28 : TI := { kd := .slice 47, sz := 1, by' := 24, zero := [.nil], eq := [], ft := [] }
def T29 : TI := { kd := .slice 57, sz := 1, by' := 24, zero := [.nil], eq := [], ft := [] }
def T30 : TI := { kd := .struct [0, 2, 3, 4, 5], sz := 6, by' := 96, zero := [.int .i64 0, .int .i64 0, .nil, .nil, .nil, .int .i64 0], eq := [], ft := [27, 28, 29, 25, 3] }
def T31 : TI := { kd := .struct [0, 2, 3, 4, 5], sz := 6, by' := 96, zero := [.int .i64 0, .int .i64 0, .nil, .nil, .nil, .int .i64 0], eq := [], ft := [27, 28, 29, 25, 3] }
def T46 : TI := { kd := .struct [0, 1, 2, 3, 4], sz := 5, by' := 40, zero := [.int .i64 0, .int .i64 0, .int .i64 0, .int .i64 0, .int .i64 0], eq := [3, 3, 3, 3, 3], ft := [3, 3, 3, 3, 3] }
def T47 : TI := { kd := .struct [0, 1, 2, 3, 4], sz := 5, by' := 40, zero := [.int .i64 0, .int .i64 0, .int .i64 0, .int .i64 0, .int .i64 0], eq := [3, 3, 3, 3, 3], ft := [3, 3, 3, 3, 3] }
def T49 : TI := { kd := .struct [0, 1, 2, 3, 4], sz := 5, by' := 40, zero := [.int .i64 0, .int .i64 0, .int .i64 0, .int .i64 0, .int .i64 0], eq := [3, 3, 3, 3, 3], ft := [3, 3, 3, 3, 3] }
def T56 : TI := { kd := .struct [0, 1, 2, 3, 4, 5], sz := 6, by' := 48, zero := [.int .i64 0, .int .i64 0, .int .i64 0, .int .i64 0, .int .i64 0, .int .i64 0], eq := [3, 3, 3, 3, 3, 3], ft := [3, 3, 3, 3, 3, 3] }
def T57 : TI := { kd := .struct [0, 1, 2, 3, 4, 5], sz := 6, by' := 48, zero := [.int .i64 0, .int .i64 0, .int .i64 0, .int .i64 0, .int .i64 0, .int .i64 0], eq := [3, 3, 3, 3, 3, 3], ft := [3, 3, 3, 3, 3, 3] }
def T69 : TI := { kd := .scalar 6, sz := 1, by' := 4, zero := [.int .u32 0], eq := [], ft := [] }
def T70 : TI := { kd := .scalar 4, sz := 1, by' := 1, zero := [.int .u8 0], eq := [], ft := [] }
def T71 : TI := { kd := .scalar 4, sz := 1, by' := 1, zero := [.int .u8 0], eq := [], ft := [] }
def T74 : TI := { kd := .scalar 2, sz := 1, by' := 4, zero := [.int .i32 0], eq := [], ft := [] }
def T75 : TI := { kd := .scalar 2, sz := 1, by' := 4, zero := [.int .i32 0], eq := [], ft := [] }
def T (t : Nat) : Option TI := bif Nat.blt t 79 then (bif Nat.blt t 39 then (bif Nat.blt t 19 then (bif Nat.blt t 9 then (bif Nat.blt t 4 then (bif Nat.blt t 2 then none else (bif Nat.blt t 3 then (some T2) else (some T3))) else (bif Nat.blt t 6 then (bif Nat.blt t 5 then (some T4) else (some T5)) else (bif Nat.blt t 7 then (some T6) else (bif Nat.blt t 8 then (some T7) else (some T8))))) else (bif Nat.blt t 14 then (bif Nat.blt t 11 then (bif Nat.blt t 10 then (some T9) else (some T10)) else (bif Nat.blt t 12 then (some T11) else (bif Nat.blt t 13 then (some T12) else (some T13)))) else (bif Nat.blt t 16 then (bif Nat.blt t 15 then (some T14) else none) else none))) else (bif Nat.blt t 29 then (bif Nat.blt t 24 then (bif Nat.blt t 21 then none else (bif Nat.blt t 22 then (some T21) else (bif Nat.blt t 23 then (some T22) else (some T23)))) else (bif Nat.blt t 26 then (bif Nat.blt t 25 then (some T24) else (some T25)) else (bif Nat.blt t 27 then none else (bif Nat.blt t 28 then (some T27) else (some T28))))) else (bif Nat.blt t 34 then (bif Nat.blt t 31 then (bif Nat.blt t 30 then (some T29) else (some T30)) else (bif Nat.blt t 32 then (some T31) else none)) else none))) else (bif Nat.blt t 59 then (bif Nat.blt t 49 then (bif Nat.blt t 44 then none else (bif Nat.blt t 46 then none else (bif Nat.blt t 47 then (some T46) else (bif Nat.blt t 48 then (some T47) else none)))) else (bif Nat.blt t 54 then (bif Nat.blt t 51 then (bif Nat.blt t 50 then (some T49) else none) else none) else (bif Nat.blt t 56 then none else (bif Nat.blt t 57 then (some T56) else (bif Nat.blt t 58 then (some T57) else none))))) else (bif Nat.blt t 69 then none else (bif Nat.blt t 74 then (bif Nat.blt t 71 then (bif Nat.blt t 70 then (some T69) else (some T70)) else (bif Nat.blt t 72 then (some T71) else none)) else (bif Nat.blt t 76 then (bif Nat.blt t 75 then (some T74) else (some T75)) else none))))) else none
theorem tok : Try.prog.follows .mixedOrders = true ∧ TOK Try.prog T := ⟨by kernel_rfl, tok_of (n := 79) (by kernel_rfl) (fun t ht => by
  have h : Nat.blt t 79 = false := by rw [← Bool.not_eq_true, Nat.blt_eq]; omega
  unfold T; rw [h]; rfl)⟩
end Go.Proofs.Ytnflbebemjojfaa
