/- The seat's types as the evaluator asks for them, and its functions' numbers. Written by gen.py. -/
import Derived.Test.YtjknkcgngchboaaAeF
import Derived.Test.YtjknkcgngchboaaProg
namespace Go.Proofs.Ytjknkcgngchboaa
open Go
def T2 : TI := { kd := .scalar 3, sz := 1, by' := 8, zero := [.int .i64 0], eq := [], ft := [] }
def T3 : TI := { kd := .scalar 3, sz := 1, by' := 8, zero := [.int .i64 0], eq := [], ft := [] }
def T4 : TI := { kd := .scalar 10, sz := 1, by' := 1, zero := [.bool false], eq := [], ft := [] }
def T5 : TI := { kd := .scalar 4, sz := 1, by' := 1, zero := [.int .u8 0], eq := [], ft := [] }
def T6 : TI := { kd := .scalar 4, sz := 1, by' := 1, zero := [.int .u8 0], eq := [], ft := [] }
def T7 : TI := { kd := .struct [0, 1, 2, 3], sz := 4, by' := 24, zero := [.int .i64 0, .int .i64 0, .bool false, .int .u8 0], eq := [], ft := [2, 3, 4, 6] }
def T8 : TI := { kd := .struct [0, 1, 2, 3], sz := 4, by' := 24, zero := [.int .i64 0, .int .i64 0, .bool false, .int .u8 0], eq := [], ft := [2, 3, 4, 6] }
def T9 : TI := { kd := .scalar 20, sz := 1, by' := 16, zero := [.str ⟨#[]⟩], eq := [], ft := [] }
def T10 : TI := { kd := .scalar 20, sz := 1, by' := 16, zero := [.str ⟨#[]⟩], eq := [], ft := [] }
def T11 : TI := { kd := .scalar 20, sz := 1, by' := 16, zero := [.str ⟨#[]⟩], eq := [], ft := [] }
def T12 : TI := { kd := .scalar 7, sz := 1, by' := 8, zero := [.int .u64 0], eq := [], ft := [] }
def T13 : TI := { kd := .struct [0, 1], sz := 2, by' := 24, zero := [.str ⟨#[]⟩, .int .u64 0], eq := [], ft := [9, 12] }
def T14 : TI := { kd := .struct [0, 1], sz := 2, by' := 24, zero := [.str ⟨#[]⟩, .int .u64 0], eq := [], ft := [9, 12] }
def T21 : TI := { kd := .scalar 2, sz := 1, by' := 4, zero := [.int .i32 0], eq := [], ft := [] }
def T22 : TI := { kd := .struct [0, 1], sz := 2, by' := 16, zero := [.int .i64 0, .int .i64 0], eq := [3, 3], ft := [3, 3] }
def T23 : TI := { kd := .struct [0, 1], sz := 2, by' := 16, zero := [.int .i64 0, .int .i64 0], eq := [3, 3], ft := [3, 3] }
def T24 : TI := { kd := .slice 63, sz := 1, by' := 24, zero := [.nil], eq := [], ft := [] }
def T25 : TI := { kd := .slice 65, sz := 1, by' := 24, zero := [.nil], eq := [], ft := [] }
def T26 : TI := { kd := .slice 3, sz := 1, by' := 24, zero := [.nil], eq := [], ft := [] }
def T27 : TI := { kd := .struct [0, 2, 3, 4, 5], sz := 6, by' := 96, zero := [.int .i64 0, .int .i64 0, .nil, .nil, .nil, .int .i64 0], eq := [], ft := [23, 24, 25, 26, 3] }
def T28 : TI := { kd := .struct [0, 2, 3, 4, 5], sz := 6, by' := 96, zero := [.int .i64 0, .int .i64 0, .nil, .nil, .nil, .int .i64 0], eq := [], ft := [23, 24, 25, 26, 3] }
def T30 : TI := { kd := .slice 52, sz := 1, by' := 24, zero := [.nil], eq := [], ft := [] }
def T32 : TI := { kd := .struct [0, 1], sz := 2, by' := 16, zero := [.int .i64 0, .int .i64 0], eq := [3, 3], ft := [3, 3] }
def T33 : TI := { kd := .slice 61, sz := 1, by' := 24, zero := [.nil], eq := [], ft := [] }
def T34 : TI := { kd := .struct [0, 2, 3, 4, 5], sz := 6, by' := 96, zero := [.int .i64 0, .int .i64 0, .nil, .nil, .nil, .int .i64 0], eq := [], ft := [32, 30, 33, 26, 3] }
def T35 : TI := { kd := .struct [0, 2, 3, 4, 5], sz := 6, by' := 96, zero := [.int .i64 0, .int .i64 0, .nil, .nil, .nil, .int .i64 0], eq := [], ft := [32, 30, 33, 26, 3] }
def T51 : TI := { kd := .struct [0, 1, 2, 3, 4], sz := 5, by' := 40, zero := [.int .i64 0, .int .i64 0, .int .i64 0, .int .i64 0, .int .i64 0], eq := [3, 3, 3, 3, 3], ft := [3, 3, 3, 3, 3] }
def T52 : TI := { kd := .struct [0, 1, 2, 3, 4], sz := 5, by' := 40, zero := [.int .i64 0, .int .i64 0, .int .i64 0, .int .i64 0, .int .i64 0], eq := [3, 3, 3, 3, 3], ft := [3, 3, 3, 3, 3] }
def T60 : TI := { kd := .struct [0, 1, 2, 3, 4, 5], sz := 6, by' := 48, zero := [.int .i64 0, .int .i64 0, .int .i64 0, .int .i64 0, .int .i64 0, .int .i64 0], eq := [3, 3, 3, 3, 3, 3], ft := [3, 3, 3, 3, 3, 3] }
def T61 : TI := { kd := .struct [0, 1, 2, 3, 4, 5], sz := 6, by' := 48, zero := [.int .i64 0, .int .i64 0, .int .i64 0, .int .i64 0, .int .i64 0, .int .i64 0], eq := [3, 3, 3, 3, 3, 3], ft := [3, 3, 3, 3, 3, 3] }
def T63 : TI := { kd := .struct [0, 1, 2, 3, 4], sz := 5, by' := 40, zero := [.int .i64 0, .int .i64 0, .int .i64 0, .int .i64 0, .int .i64 0], eq := [3, 3, 3, 3, 3], ft := [3, 3, 3, 3, 3] }
def T65 : TI := { kd := .struct [0, 1, 2, 3, 4, 5], sz := 6, by' := 48, zero := [.int .i64 0, .int .i64 0, .int .i64 0, .int .i64 0, .int .i64 0, .int .i64 0], eq := [3, 3, 3, 3, 3, 3], ft := [3, 3, 3, 3, 3, 3] }
def T82 : TI := { kd := .scalar 6, sz := 1, by' := 4, zero := [.int .u32 0], eq := [], ft := [] }
def T83 : TI := { kd := .scalar 4, sz := 1, by' := 1, zero := [.int .u8 0], eq := [], ft := [] }
def T84 : TI := { kd := .scalar 4, sz := 1, by' := 1, zero := [.int .u8 0], eq := [], ft := [] }
def T87 : TI := { kd := .scalar 2, sz := 1, by' := 4, zero := [.int .i32 0], eq := [], ft := [] }
def T88 : TI := { kd := .scalar 2, sz := 1, by' := 4, zero := [.int .i32 0], eq := [], ft := [] }
def T (t : Nat) : Option TI := bif Nat.blt t 92 then (bif Nat.blt t 46 then (bif Nat.blt t 23 then (bif Nat.blt t 11 then (bif Nat.blt t 5 then (bif Nat.blt t 2 then none else (bif Nat.blt t 3 then (some T2) else (bif Nat.blt t 4 then (some T3) else (some T4)))) else (bif Nat.blt t 8 then (bif Nat.blt t 6 then (some T5) else (bif Nat.blt t 7 then (some T6) else (some T7))) else (bif Nat.blt t 9 then (some T8) else (bif Nat.blt t 10 then (some T9) else (some T10))))) else (bif Nat.blt t 17 then (bif Nat.blt t 14 then (bif Nat.blt t 12 then (some T11) else (bif Nat.blt t 13 then (some T12) else (some T13))) else (bif Nat.blt t 15 then (some T14) else none)) else (bif Nat.blt t 20 then none else (bif Nat.blt t 21 then none else (bif Nat.blt t 22 then (some T21) else (some T22)))))) else (bif Nat.blt t 34 then (bif Nat.blt t 28 then (bif Nat.blt t 25 then (bif Nat.blt t 24 then (some T23) else (some T24)) else (bif Nat.blt t 26 then (some T25) else (bif Nat.blt t 27 then (some T26) else (some T27)))) else (bif Nat.blt t 31 then (bif Nat.blt t 29 then (some T28) else (bif Nat.blt t 30 then none else (some T30))) else (bif Nat.blt t 32 then none else (bif Nat.blt t 33 then (some T32) else (some T33))))) else (bif Nat.blt t 40 then (bif Nat.blt t 37 then (bif Nat.blt t 35 then (some T34) else (bif Nat.blt t 36 then (some T35) else none)) else none) else none))) else (bif Nat.blt t 69 then (bif Nat.blt t 57 then (bif Nat.blt t 51 then none else (bif Nat.blt t 54 then (bif Nat.blt t 52 then (some T51) else (bif Nat.blt t 53 then (some T52) else none)) else none)) else (bif Nat.blt t 63 then (bif Nat.blt t 60 then none else (bif Nat.blt t 61 then (some T60) else (bif Nat.blt t 62 then (some T61) else none))) else (bif Nat.blt t 66 then (bif Nat.blt t 64 then (some T63) else (bif Nat.blt t 65 then none else (some T65))) else none))) else (bif Nat.blt t 80 then none else (bif Nat.blt t 86 then (bif Nat.blt t 83 then (bif Nat.blt t 81 then none else (bif Nat.blt t 82 then none else (some T82))) else (bif Nat.blt t 84 then (some T83) else (bif Nat.blt t 85 then (some T84) else none))) else (bif Nat.blt t 89 then (bif Nat.blt t 87 then none else (bif Nat.blt t 88 then (some T87) else (some T88))) else none))))) else none
theorem tok : Try.prog.follows .mixedOrders = true ∧ TOK Try.prog T := ⟨by kernel_rfl, tok_of (n := 92) (by kernel_rfl) (fun t ht => by
  have h : Nat.blt t 92 = false := by rw [← Bool.not_eq_true, Nat.blt_eq]; omega
  unfold T; rw [h]; rfl)⟩
end Go.Proofs.Ytjknkcgngchboaa
