/- The seat's types as the evaluator asks for them, and its functions' numbers. Written by gen.py. -/
import Derived.Test.YtfkfoidojmjacaaAeF
import Derived.Test.YtfkfoidojmjacaaProg
namespace Go.Proofs.Ytfkfoidojmjacaa
open Go
def T2 : TI := { kd := .scalar 3, sz := 1, by' := 8, zero := [.int .i64 0], eq := [], ft := [] }
def T3 : TI := { kd := .scalar 3, sz := 1, by' := 8, zero := [.int .i64 0], eq := [], ft := [] }
def T4 : TI := { kd := .scalar 10, sz := 1, by' := 1, zero := [.bool false], eq := [], ft := [] }
def T5 : TI := { kd := .scalar 4, sz := 1, by' := 1, zero := [.int .u8 0], eq := [], ft := [] }
def T6 : TI := { kd := .scalar 4, sz := 1, by' := 1, zero := [.int .u8 0], eq := [], ft := [] }
def T7 : TI := { kd := .struct [0, 1, 2, 3], sz := 4, by' := 24, zero := [.int .i64 0, .int .i64 0, .bool false, .int .u8 0], eq := [], ft := [2, 3, 4, 6] }
def T8 : TI := { kd := .struct [0, 1, 2, 3], sz := 4, by' := 24, zero := [.int .i64 0, .int .i64 0, .bool false, .int .u8 0], eq := [], ft := [2, 3, 4, 6] }
def T9 : TI := { kd := .scalar 20, sz := 1, by' := 16, zero := [.str ⟨#[]⟩], eq := [], ft := [] }
def T10 : TI := { kd := .scalar 20, sz := 1, by' := 16, zero := [.str ⟨#[]⟩], eq := [], ft := [] }
def T11 : TI := { kd := .scalar 20, sz := 1, by' := 16, zero := [.str ⟨#[]⟩], eq := [], ft := [] }
def T12 : TI := { kd := .scalar 7, sz := 1, by' := 8, zero := [.int .u64 0], eq := [], ft := [] }
def T13 : TI := { kd := .struct [0, 1], sz := 2, by' := 24, zero := [.str ⟨#[]⟩, .int .u64 0], eq := [], ft := [9, 12] }
def T14 : TI := { kd := .struct [0, 1], sz := 2, by' := 24, zero := [.str ⟨#[]⟩, .int .u64 0], eq := [], ft := [9, 12] }
def T21 : TI := { kd := .scalar 2, sz := 1, by' := 4, zero := [.int .i32 0], eq := [], ft := [] }
def T22 : TI := { kd := .slice 5, sz := 1, by' := 24, zero := [.nil], eq := [], ft := [] }
def T24 : TI := { kd := .struct [0, 1], sz := 2, by' := 16, zero := [.int .i64 0, .int .i64 0], eq := [3, 3], ft := [3, 3] }
def T25 : TI := { kd := .struct [0, 1], sz := 2, by' := 16, zero := [.int .i64 0, .int .i64 0], eq := [3, 3], ft := [3, 3] }
def T26 : TI := { kd := .slice 59, sz := 1, by' := 24, zero := [.nil], eq := [], ft := [] }
def T27 : TI := { kd := .slice 56, sz := 1, by' := 24, zero := [.nil], eq := [], ft := [] }
def T28 : TI := { kd := .slice 3, sz := 1, by' := 24, zero := [.nil], eq := [], ft := [] }
def T29 : TI := { kd := .struct [0, 2, 3, 4, 5], sz := 6, by' := 96, zero := [.int .i64 0, .int .i64 0, .nil, .nil, .nil, .int .i64 0], eq := [], ft := [25, 26, 27, 28, 3] }
def T30 : TI := { kd := .struct [0, 2, 3, 4, 5], sz := 6, by' := 96, zero := [.int .i64 0, .int .i64 0, .nil, .nil, .nil, .int .i64 0], eq := [], ft := [25, 26, 27, 28, 3] }
def T55 : TI := { kd := .struct [0, 1, 2, 3, 4, 5], sz := 6, by' := 48, zero := [.int .i64 0, .int .i64 0, .int .i64 0, .int .i64 0, .int .i64 0, .int .i64 0], eq := [3, 3, 3, 3, 3, 3], ft := [3, 3, 3, 3, 3, 3] }
def T56 : TI := { kd := .struct [0, 1, 2, 3, 4, 5], sz := 6, by' := 48, zero := [.int .i64 0, .int .i64 0, .int .i64 0, .int .i64 0, .int .i64 0, .int .i64 0], eq := [3, 3, 3, 3, 3, 3], ft := [3, 3, 3, 3, 3, 3] }
def T58 : TI := { kd := .struct [0, 1, 2, 3, 4], sz := 5, by' := 40, zero := [.int .i64 0, .int .i64 0, .int .i64 0, .int .i64 0, .int .i64 0], eq := [3, 3, 3, 3, 3], ft := [3, 3, 3, 3, 3] }
def T59 : TI := { kd := .struct [0, 1, 2, 3, 4], sz := 5, by' := 40, zero := [.int .i64 0, .int .i64 0, .int .i64 0, .int .i64 0, .int .i64 0], eq := [3, 3, 3, 3, 3], ft := [3, 3, 3, 3, 3] }
def T67 : TI := { kd := .struct [0, 1, 2], sz := 3, by' := 40, zero := [.nil, .int .i64 0, .int .i64 0], eq := [], ft := [22, 3, 3] }
def T68 : TI := { kd := .struct [0, 1, 2], sz := 3, by' := 40, zero := [.nil, .int .i64 0, .int .i64 0], eq := [], ft := [22, 3, 3] }
def T79 : TI := { kd := .scalar 7, sz := 1, by' := 8, zero := [.int .u64 0], eq := [], ft := [] }
def T92 : TI := { kd := .scalar 6, sz := 1, by' := 4, zero := [.int .u32 0], eq := [], ft := [] }
def T93 : TI := { kd := .scalar 4, sz := 1, by' := 1, zero := [.int .u8 0], eq := [], ft := [] }
def T94 : TI := { kd := .scalar 4, sz := 1, by' := 1, zero := [.int .u8 0], eq := [], ft := [] }
def T97 : TI := { kd := .scalar 2, sz := 1, by' := 4, zero := [.int .i32 0], eq := [], ft := [] }
def T98 : TI := { kd := .scalar 2, sz := 1, by' := 4, zero := [.int .i32 0], eq := [], ft := [] }
def T (t : Nat) : Option TI := bif Nat.blt t 102 then (bif Nat.blt t 51 then (bif Nat.blt t 25 then (bif Nat.blt t 12 then (bif Nat.blt t 6 then (bif Nat.blt t 3 then (bif Nat.blt t 1 then none else (bif Nat.blt t 2 then none else (some T2))) else (bif Nat.blt t 4 then (some T3) else (bif Nat.blt t 5 then (some T4) else (some T5)))) else (bif Nat.blt t 9 then (bif Nat.blt t 7 then (some T6) else (bif Nat.blt t 8 then (some T7) else (some T8))) else (bif Nat.blt t 10 then (some T9) else (bif Nat.blt t 11 then (some T10) else (some T11))))) else (bif Nat.blt t 18 then (bif Nat.blt t 15 then (bif Nat.blt t 13 then (some T12) else (bif Nat.blt t 14 then (some T13) else (some T14))) else none) else (bif Nat.blt t 21 then none else (bif Nat.blt t 23 then (bif Nat.blt t 22 then (some T21) else (some T22)) else (bif Nat.blt t 24 then none else (some T24)))))) else (bif Nat.blt t 38 then (bif Nat.blt t 31 then (bif Nat.blt t 28 then (bif Nat.blt t 26 then (some T25) else (bif Nat.blt t 27 then (some T26) else (some T27))) else (bif Nat.blt t 29 then (some T28) else (bif Nat.blt t 30 then (some T29) else (some T30)))) else none) else none)) else (bif Nat.blt t 76 then (bif Nat.blt t 63 then (bif Nat.blt t 57 then (bif Nat.blt t 54 then none else (bif Nat.blt t 55 then none else (bif Nat.blt t 56 then (some T55) else (some T56)))) else (bif Nat.blt t 60 then (bif Nat.blt t 58 then none else (bif Nat.blt t 59 then (some T58) else (some T59))) else none)) else (bif Nat.blt t 69 then (bif Nat.blt t 66 then none else (bif Nat.blt t 67 then none else (bif Nat.blt t 68 then (some T67) else (some T68)))) else none)) else (bif Nat.blt t 89 then (bif Nat.blt t 82 then (bif Nat.blt t 79 then none else (bif Nat.blt t 80 then (some T79) else none)) else none) else (bif Nat.blt t 95 then (bif Nat.blt t 92 then none else (bif Nat.blt t 93 then (some T92) else (bif Nat.blt t 94 then (some T93) else (some T94)))) else (bif Nat.blt t 98 then (bif Nat.blt t 96 then none else (bif Nat.blt t 97 then none else (some T97))) else (bif Nat.blt t 100 then (bif Nat.blt t 99 then (some T98) else none) else none)))))) else none
theorem tok : Try.prog.follows .mixedOrders = true ∧ TOK Try.prog T := ⟨by kernel_rfl, tok_of (n := 102) (by kernel_rfl) (fun t ht => by
  have h : Nat.blt t 102 = false := by rw [← Bool.not_eq_true, Nat.blt_eq]; omega
  unfold T; rw [h]; rfl)⟩
end Go.Proofs.Ytfkfoidojmjacaa
