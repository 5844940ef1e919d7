/- The seat's types as the evaluator asks for them, and its functions' numbers. Written by gen.py. -/
import Derived.Test.YtkobbiflijaklaaGreatAeF
import Derived.Test.YtkobbiflijaklaaGreatProg
namespace Go.Proofs.YtkobbiflijaklaaGreat
open Go
def T2 : TI := { kd := .scalar 3, sz := 1, by' := 8, zero := [.int .i64 0], eq := [], ft := [] }
def T3 : TI := { kd := .scalar 3, sz := 1, by' := 8, zero := [.int .i64 0], eq := [], ft := [] }
def T4 : TI := { kd := .scalar 10, sz := 1, by' := 1, zero := [.bool false], eq := [], ft := [] }
def T5 : TI := { kd := .scalar 4, sz := 1, by' := 1, zero := [.int .u8 0], eq := [], ft := [] }
def T6 : TI := { kd := .scalar 4, sz := 1, by' := 1, zero := [.int .u8 0], eq := [], ft := [] }
def T7 : TI := { kd := .struct [0, 1, 2, 3], sz := 4, by' := 24, zero := [.int .i64 0, .int .i64 0, .bool false, .int .u8 0], eq := [], ft := [2, 3, 4, 6] }
def T8 : TI := { kd := .struct [0, 1, 2, 3], sz := 4, by' := 24, zero := [.int .i64 0, .int .i64 0, .bool false, .int .u8 0], eq := [], ft := [2, 3, 4, 6] }
def T9 : TI := { kd := .scalar 20, sz := 1, by' := 16, zero := [.str ⟨#[]⟩], eq := [], ft := [] }
def T10 : TI := { kd := .scalar 20, sz := 1, by' := 16, zero := [.str ⟨#[]⟩], eq := [], ft := [] }
def T11 : TI := { kd := .scalar 20, sz := 1, by' := 16, zero := [.str ⟨#[]⟩], eq := [], ft := [] }
def T12 : TI := { kd := .scalar 7, sz := 1, by' := 8, zero := [.int .u64 0], eq := [], ft := [] }
def T13 : TI := { kd := .struct [0, 1], sz := 2, by' := 24, zero := [.str ⟨#[]⟩, .int .u64 0], eq := [], ft := [9, 12] }
def T14 : TI := { kd := .struct [0, 1], sz := 2, by' := 24, zero := [.str ⟨#[]⟩, .int .u64 0], eq := [], ft := [9, 12] }
def T21 : TI := { kd := .scalar 2, sz := 1, by' := 4, zero := [.int .i32 0], eq := [], ft := [] }
def T22 : TI := { kd := .slice 106, sz := 1, by' := 24, zero := [.nil], eq := [], ft := [] }
def T23 : TI := { kd := .slice 111, sz := 1, by' := 24, zero := [.nil], eq := [], ft := [] }
def T24 : TI := { kd := .slice 129, sz := 1, by' := 24, zero := [.nil], eq := [], ft := [] }
def T25 : TI := { kd := .slice 134, sz := 1, by' := 24, zero := [.nil], eq := [], ft := [] }
def T26 : TI := { kd := .slice 139, sz := 1, by' := 24, zero := [.nil], eq := [], ft := [] }
def T27 : TI := { kd := .slice 143, sz := 1, by' := 24, zero := [.nil], eq := [], ft := [] }
def T28 : TI := { kd := .struct [0, 1, 2, 3, 4, 5, 6, 7], sz := 8, by' := 160, zero := [.int .i64 0, .nil, .nil, .nil, .nil, .nil, .nil, .int .i64 0], eq := [], ft := [3, 22, 23, 24, 25, 26, 27, 3] }
def T29 : TI := { kd := .struct [0, 1, 2, 3, 4, 5, 6, 7], sz := 8, by' := 160, zero := [.int .i64 0, .nil, .nil, .nil, .nil, .nil, .nil, .int .i64 0], eq := [], ft := [3, 22, 23, 24, 25, 26, 27, 3] }
def T31 : TI := { kd := .slice 83, sz := 1, by' := 24, zero := [.nil], eq := [], ft := [] }
def T33 : TI := { kd := .slice 74, sz := 1, by' := 24, zero := [.nil], eq := [], ft := [] }
def T34 : TI := { kd := .slice 121, sz := 1, by' := 24, zero := [.nil], eq := [], ft := [] }
def T35 : TI := { kd := .slice 125, sz := 1, by' := 24, zero := [.nil], eq := [], ft := [] }
def T36 : TI := { kd := .slice 131, sz := 1, by' := 24, zero := [.nil], eq := [], ft := [] }
def T37 : TI := { kd := .slice 136, sz := 1, by' := 24, zero := [.nil], eq := [], ft := [] }
def T38 : TI := { kd := .slice 141, sz := 1, by' := 24, zero := [.nil], eq := [], ft := [] }
def T39 : TI := { kd := .struct [0, 1, 2, 3, 4, 5, 6, 7], sz := 8, by' := 160, zero := [.int .i64 0, .nil, .nil, .nil, .nil, .nil, .nil, .int .i64 0], eq := [], ft := [3, 33, 34, 35, 36, 37, 38, 3] }
def T40 : TI := { kd := .struct [0, 1, 2, 3, 4, 5, 6, 7], sz := 8, by' := 160, zero := [.int .i64 0, .nil, .nil, .nil, .nil, .nil, .nil, .int .i64 0], eq := [], ft := [3, 33, 34, 35, 36, 37, 38, 3] }
def T47 : TI := { kd := .struct [0, 1, 2, 3, 4, 5], sz := 6, by' := 48, zero := [.int .i64 0, .int .i64 0, .int .i64 0, .int .i64 0, .int .i64 0, .int .i64 0], eq := [3, 3, 3, 3, 3, 3], ft := [3, 3, 3, 3, 3, 3] }
def T48 : TI := { kd := .struct [0, 1, 2, 3, 4, 5], sz := 6, by' := 48, zero := [.int .i64 0, .int .i64 0, .int .i64 0, .int .i64 0, .int .i64 0, .int .i64 0], eq := [3, 3, 3, 3, 3, 3], ft := [3, 3, 3, 3, 3, 3] }
def T51 : TI := { kd := .struct [0, 1, 2, 3, 4, 5], sz := 6, by' := 48, zero := [.int .i64 0, .int .i64 0, .int .i64 0, .int .i64 0, .int .i64 0, .int .i64 0], eq := [3, 3, 3, 3, 3, 3], ft := [3, 3, 3, 3, 3, 3] }
def T56 : TI := { kd := .slice 3, sz := 1, by' := 24, zero := [.nil], eq := [], ft := [] }
def T70 : TI := { kd := .struct [0, 1], sz := 2, by' := 16, zero := [.int .i64 0, .int .i64 0], eq := [3, 3], ft := [3, 3] }
def T71 : TI := { kd := .struct [0, 1], sz := 2, by' := 16, zero := [.int .i64 0, .int .i64 0], eq := [3, 3], ft := [3, 3] }
def T72 : TI := { kd := .slice 51, sz := 1, by' := 24, zero := [.nil], eq := [], ft := [] }
def T73 : TI := { kd := .struct [0, 2, 3, 4, 5], sz := 6, by' := 96, zero := [.int .i64 0, .int .i64 0, .nil, .nil, .nil, .int .i64 0], eq := [], ft := [71, 31, 72, 56, 3] }
def T74 : TI := { kd := .struct [0, 2, 3, 4, 5], sz := 6, by' := 96, zero := [.int .i64 0, .int .i64 0, .nil, .nil, .nil, .int .i64 0], eq := [], ft := [71, 31, 72, 56, 3] }
def T82 : TI := { kd := .struct [0, 1, 2, 3, 4], sz := 5, by' := 40, zero := [.int .i64 0, .int .i64 0, .int .i64 0, .int .i64 0, .int .i64 0], eq := [3, 3, 3, 3, 3], ft := [3, 3, 3, 3, 3] }
def T83 : TI := { kd := .struct [0, 1, 2, 3, 4], sz := 5, by' := 40, zero := [.int .i64 0, .int .i64 0, .int .i64 0, .int .i64 0, .int .i64 0], eq := [3, 3, 3, 3, 3], ft := [3, 3, 3, 3, 3] }
def T102 : TI := { kd := .struct [0, 1], sz := 2, by' := 16, zero := [.int .i64 0, .int .i64 0], eq := [3, 3], ft := [3, 3] }
def T103 : TI := { kd := .slice 200, sz := 1, by' := 24, zero := [.nil], eq := [], ft := [] }
def T104 : TI := { kd := .slice 48, sz := 1, by' := 24, zero := [.nil], eq := [], ft := [] }
def T105 : TI := { kd := .struct [0, 2, 3, 4, 5], sz := 6, by' := 96, zero := [.int .i64 0, .int .i64 0, .nil, .nil, .nil, .int .i64 0], eq := [], ft := [102, 103, 104, 56, 3] }
def T106 : TI := { kd := .struct [0, 2, 3, 4, 5], sz := 6, by' := 96, zero := [.int .i64 0, .int .i64 0, .nil, .nil, .nil, .int .i64 0], eq := [], ft := [102, 103, 104, 56, 3] }
def T108 : TI := { kd := .slice 202, sz := 1, by' := 24, zero := [.nil], eq := [], ft := [] }
def T109 : TI := { kd := .slice 204, sz := 1, by' := 24, zero := [.nil], eq := [], ft := [] }
def T110 : TI := { kd := .struct [0, 1, 2, 3, 4, 5, 6, 7], sz := 8, by' := 128, zero := [.int .i64 0, .int .i64 0, .int .i64 0, .nil, .nil, .nil, .nil, .int .i64 0], eq := [], ft := [3, 3, 3, 24, 108, 26, 109, 3] }
def T111 : TI := { kd := .struct [0, 1, 2, 3, 4, 5, 6, 7], sz := 8, by' := 128, zero := [.int .i64 0, .int .i64 0, .int .i64 0, .nil, .nil, .nil, .nil, .int .i64 0], eq := [], ft := [3, 3, 3, 24, 108, 26, 109, 3] }
def T118 : TI := { kd := .slice 185, sz := 1, by' := 24, zero := [.nil], eq := [], ft := [] }
def T119 : TI := { kd := .slice 187, sz := 1, by' := 24, zero := [.nil], eq := [], ft := [] }
def T120 : TI := { kd := .struct [0, 1, 2, 3, 4, 5, 6, 7], sz := 8, by' := 128, zero := [.int .i64 0, .int .i64 0, .int .i64 0, .nil, .nil, .nil, .nil, .int .i64 0], eq := [], ft := [3, 3, 3, 35, 118, 37, 119, 3] }
def T121 : TI := { kd := .struct [0, 1, 2, 3, 4, 5, 6, 7], sz := 8, by' := 128, zero := [.int .i64 0, .int .i64 0, .int .i64 0, .nil, .nil, .nil, .nil, .int .i64 0], eq := [], ft := [3, 3, 3, 35, 118, 37, 119, 3] }
def T123 : TI := { kd := .struct [0, 1], sz := 2, by' := 16, zero := [.int .i64 0, .int .i64 0], eq := [3, 3], ft := [3, 3] }
def T124 : TI := { kd := .struct [0, 1, 3, 4, 5, 6], sz := 7, by' := 56, zero := [.int .i64 0, .int .i64 0, .int .i64 0, .int .i64 0, .int .i64 0, .int .i64 0, .bool false], eq := [3, 3, 3, 3, 3, 3, 10], ft := [3, 123, 3, 3, 3, 4] }
def T125 : TI := { kd := .struct [0, 1, 3, 4, 5, 6], sz := 7, by' := 56, zero := [.int .i64 0, .int .i64 0, .int .i64 0, .int .i64 0, .int .i64 0, .int .i64 0, .bool false], eq := [3, 3, 3, 3, 3, 3, 10], ft := [3, 123, 3, 3, 3, 4] }
def T127 : TI := { kd := .struct [0, 1], sz := 2, by' := 16, zero := [.int .i64 0, .int .i64 0], eq := [3, 3], ft := [3, 3] }
def T128 : TI := { kd := .struct [0, 1, 3, 4, 5, 6], sz := 7, by' := 56, zero := [.int .i64 0, .int .i64 0, .int .i64 0, .int .i64 0, .int .i64 0, .int .i64 0, .bool false], eq := [3, 3, 3, 3, 3, 3, 10], ft := [3, 127, 3, 3, 3, 4] }
def T129 : TI := { kd := .struct [0, 1, 3, 4, 5, 6], sz := 7, by' := 56, zero := [.int .i64 0, .int .i64 0, .int .i64 0, .int .i64 0, .int .i64 0, .int .i64 0, .bool false], eq := [3, 3, 3, 3, 3, 3, 10], ft := [3, 127, 3, 3, 3, 4] }
def T130 : TI := { kd := .struct [0, 1, 3], sz := 4, by' := 32, zero := [.int .i64 0, .int .i64 0, .int .i64 0, .int .i64 0], eq := [3, 3, 3, 3], ft := [3, 123, 3] }
def T131 : TI := { kd := .struct [0, 1, 3], sz := 4, by' := 32, zero := [.int .i64 0, .int .i64 0, .int .i64 0, .int .i64 0], eq := [3, 3, 3, 3], ft := [3, 123, 3] }
def T133 : TI := { kd := .struct [0, 1, 3], sz := 4, by' := 32, zero := [.int .i64 0, .int .i64 0, .int .i64 0, .int .i64 0], eq := [3, 3, 3, 3], ft := [3, 127, 3] }
def T134 : TI := { kd := .struct [0, 1, 3], sz := 4, by' := 32, zero := [.int .i64 0, .int .i64 0, .int .i64 0, .int .i64 0], eq := [3, 3, 3, 3], ft := [3, 127, 3] }
def T135 : TI := { kd := .struct [0, 1, 2, 4, 5, 6], sz := 8, by' := 64, zero := [.int .i64 0, .int .i64 0, .int .i64 0, .int .i64 0, .int .i64 0, .int .i64 0, .int .i64 0, .int .i64 0], eq := [3, 3, 3, 3, 3, 3, 3, 3], ft := [3, 3, 123, 3, 3, 71] }
def T136 : TI := { kd := .struct [0, 1, 2, 4, 5, 6], sz := 8, by' := 64, zero := [.int .i64 0, .int .i64 0, .int .i64 0, .int .i64 0, .int .i64 0, .int .i64 0, .int .i64 0, .int .i64 0], eq := [3, 3, 3, 3, 3, 3, 3, 3], ft := [3, 3, 123, 3, 3, 71] }
def T138 : TI := { kd := .struct [0, 1, 2, 4, 5, 6], sz := 8, by' := 64, zero := [.int .i64 0, .int .i64 0, .int .i64 0, .int .i64 0, .int .i64 0, .int .i64 0, .int .i64 0, .int .i64 0], eq := [3, 3, 3, 3, 3, 3, 3, 3], ft := [3, 3, 127, 3, 3, 102] }
def T139 : TI := { kd := .struct [0, 1, 2, 4, 5, 6], sz := 8, by' := 64, zero := [.int .i64 0, .int .i64 0, .int .i64 0, .int .i64 0, .int .i64 0, .int .i64 0, .int .i64 0, .int .i64 0], eq := [3, 3, 3, 3, 3, 3, 3, 3], ft := [3, 3, 127, 3, 3, 102] }
def T140 : TI := { kd := .struct [0, 1, 2, 3], sz := 4, by' := 32, zero := [.int .i64 0, .int .i64 0, .int .i64 0, .int .i64 0], eq := [3, 3, 3, 3], ft := [3, 3, 3, 3] }
def T141 : TI := { kd := .struct [0, 1, 2, 3], sz := 4, by' := 32, zero := [.int .i64 0, .int .i64 0, .int .i64 0, .int .i64 0], eq := [3, 3, 3, 3], ft := [3, 3, 3, 3] }
def T143 : TI := { kd := .struct [0, 1, 2, 3], sz := 4, by' := 32, zero := [.int .i64 0, .int .i64 0, .int .i64 0, .int .i64 0], eq := [3, 3, 3, 3], ft := [3, 3, 3, 3] }
def T144 : TI := { kd := .slice 4, sz := 1, by' := 24, zero := [.nil], eq := [], ft := [] }
def T184 : TI := { kd := .struct [0, 1, 2], sz := 3, by' := 24, zero := [.int .i64 0, .int .i64 0, .int .i64 0], eq := [3, 3, 3], ft := [3, 3, 3] }
def T185 : TI := { kd := .struct [0, 1, 2], sz := 3, by' := 24, zero := [.int .i64 0, .int .i64 0, .int .i64 0], eq := [3, 3, 3], ft := [3, 3, 3] }
def T186 : TI := { kd := .struct [0, 1, 2, 3], sz := 4, by' := 32, zero := [.int .i64 0, .int .i64 0, .int .i64 0, .int .i64 0], eq := [3, 3, 3, 3], ft := [3, 3, 3, 3] }
def T187 : TI := { kd := .struct [0, 1, 2, 3], sz := 4, by' := 32, zero := [.int .i64 0, .int .i64 0, .int .i64 0, .int .i64 0], eq := [3, 3, 3, 3], ft := [3, 3, 3, 3] }
def T195 : TI := { kd := .scalar 7, sz := 1, by' := 8, zero := [.int .u64 0], eq := [], ft := [] }
def T200 : TI := { kd := .struct [0, 1, 2, 3, 4], sz := 5, by' := 40, zero := [.int .i64 0, .int .i64 0, .int .i64 0, .int .i64 0, .int .i64 0], eq := [3, 3, 3, 3, 3], ft := [3, 3, 3, 3, 3] }
def T202 : TI := { kd := .struct [0, 1, 2], sz := 3, by' := 24, zero := [.int .i64 0, .int .i64 0, .int .i64 0], eq := [3, 3, 3], ft := [3, 3, 3] }
def T204 : TI := { kd := .struct [0, 1, 2, 3], sz := 4, by' := 32, zero := [.int .i64 0, .int .i64 0, .int .i64 0, .int .i64 0], eq := [3, 3, 3, 3], ft := [3, 3, 3, 3] }
def T210 : TI := { kd := .scalar 3, sz := 1, by' := 8, zero := [.int .i64 0], eq := [], ft := [] }
def T219 : TI := { kd := .scalar 6, sz := 1, by' := 4, zero := [.int .u32 0], eq := [], ft := [] }
def T221 : TI := { kd := .scalar 7, sz := 1, by' := 8, zero := [.int .u64 0], eq := [], ft := [] }
def T225 : TI := { kd := .scalar 7, sz := 1, by' := 8, zero := [.int .u64 0], eq := [], ft := [] }
def T243 : TI := { kd := .scalar 4, sz := 1, by' := 1, zero := [.int .u8 0], eq := [], ft := [] }
def T244 : TI := { kd := .scalar 4, sz := 1, by' := 1, zero := [.int .u8 0], eq := [], ft := [] }
def T247 : TI := { kd := .scalar 2, sz := 1, by' := 4, zero := [.int .i32 0], eq := [], ft := [] }
def T248 : TI := { kd := .scalar 2, sz := 1, by' := 4, zero := [.int .i32 0], eq := [], ft := [] }
def T (t : Nat) : Option TI := bif Nat.blt t 252 then (bif Nat.blt t 126 then (bif Nat.blt t 63 then (bif Nat.blt t 31 then (bif Nat.blt t 15 then (bif Nat.blt t 7 then (bif Nat.blt t 3 then (bif Nat.blt t 1 then none else (bif Nat.blt t 2 then none else (some T2))) else (bif Nat.blt t 5 then (bif Nat.blt t 4 then (some T3) else (some T4)) else (bif Nat.blt t 6 then (some T5) else (some T6)))) else (bif Nat.blt t 11 then (bif Nat.blt t 9 then (bif Nat.blt t 8 then (some T7) else (some T8)) else (bif Nat.blt t 10 then (some T9) else (some T10))) else (bif Nat.blt t 13 then (bif Nat.blt t 12 then (some T11) else (some T12)) else (bif Nat.blt t 14 then (some T13) else (some T14))))) else (bif Nat.blt t 23 then (bif Nat.blt t 19 then none else (bif Nat.blt t 21 then none else (bif Nat.blt t 22 then (some T21) else (some T22)))) else (bif Nat.blt t 27 then (bif Nat.blt t 25 then (bif Nat.blt t 24 then (some T23) else (some T24)) else (bif Nat.blt t 26 then (some T25) else (some T26))) else (bif Nat.blt t 29 then (bif Nat.blt t 28 then (some T27) else (some T28)) else (bif Nat.blt t 30 then (some T29) else none))))) else (bif Nat.blt t 47 then (bif Nat.blt t 39 then (bif Nat.blt t 35 then (bif Nat.blt t 33 then (bif Nat.blt t 32 then (some T31) else none) else (bif Nat.blt t 34 then (some T33) else (some T34))) else (bif Nat.blt t 37 then (bif Nat.blt t 36 then (some T35) else (some T36)) else (bif Nat.blt t 38 then (some T37) else (some T38)))) else (bif Nat.blt t 43 then (bif Nat.blt t 41 then (bif Nat.blt t 40 then (some T39) else (some T40)) else none) else none)) else (bif Nat.blt t 55 then (bif Nat.blt t 51 then (bif Nat.blt t 49 then (bif Nat.blt t 48 then (some T47) else (some T48)) else none) else (bif Nat.blt t 53 then (bif Nat.blt t 52 then (some T51) else none) else none)) else (bif Nat.blt t 59 then (bif Nat.blt t 57 then (bif Nat.blt t 56 then none else (some T56)) else none) else none)))) else (bif Nat.blt t 94 then (bif Nat.blt t 78 then (bif Nat.blt t 70 then none else (bif Nat.blt t 74 then (bif Nat.blt t 72 then (bif Nat.blt t 71 then (some T70) else (some T71)) else (bif Nat.blt t 73 then (some T72) else (some T73))) else (bif Nat.blt t 76 then (bif Nat.blt t 75 then (some T74) else none) else none))) else (bif Nat.blt t 86 then (bif Nat.blt t 82 then none else (bif Nat.blt t 84 then (bif Nat.blt t 83 then (some T82) else (some T83)) else none)) else none)) else (bif Nat.blt t 110 then (bif Nat.blt t 102 then none else (bif Nat.blt t 106 then (bif Nat.blt t 104 then (bif Nat.blt t 103 then (some T102) else (some T103)) else (bif Nat.blt t 105 then (some T104) else (some T105))) else (bif Nat.blt t 108 then (bif Nat.blt t 107 then (some T106) else none) else (bif Nat.blt t 109 then (some T108) else (some T109))))) else (bif Nat.blt t 118 then (bif Nat.blt t 114 then (bif Nat.blt t 112 then (bif Nat.blt t 111 then (some T110) else (some T111)) else none) else none) else (bif Nat.blt t 122 then (bif Nat.blt t 120 then (bif Nat.blt t 119 then (some T118) else (some T119)) else (bif Nat.blt t 121 then (some T120) else (some T121))) else (bif Nat.blt t 124 then (bif Nat.blt t 123 then none else (some T123)) else (bif Nat.blt t 125 then (some T124) else (some T125)))))))) else (bif Nat.blt t 189 then (bif Nat.blt t 157 then (bif Nat.blt t 141 then (bif Nat.blt t 133 then (bif Nat.blt t 129 then (bif Nat.blt t 127 then none else (bif Nat.blt t 128 then (some T127) else (some T128))) else (bif Nat.blt t 131 then (bif Nat.blt t 130 then (some T129) else (some T130)) else (bif Nat.blt t 132 then (some T131) else none))) else (bif Nat.blt t 137 then (bif Nat.blt t 135 then (bif Nat.blt t 134 then (some T133) else (some T134)) else (bif Nat.blt t 136 then (some T135) else (some T136))) else (bif Nat.blt t 139 then (bif Nat.blt t 138 then none else (some T138)) else (bif Nat.blt t 140 then (some T139) else (some T140))))) else (bif Nat.blt t 149 then (bif Nat.blt t 145 then (bif Nat.blt t 143 then (bif Nat.blt t 142 then (some T141) else none) else (bif Nat.blt t 144 then (some T143) else (some T144))) else none) else none)) else (bif Nat.blt t 173 then none else (bif Nat.blt t 181 then none else (bif Nat.blt t 185 then (bif Nat.blt t 183 then none else (bif Nat.blt t 184 then none else (some T184))) else (bif Nat.blt t 187 then (bif Nat.blt t 186 then (some T185) else (some T186)) else (bif Nat.blt t 188 then (some T187) else none)))))) else (bif Nat.blt t 220 then (bif Nat.blt t 204 then (bif Nat.blt t 196 then (bif Nat.blt t 192 then none else (bif Nat.blt t 194 then none else (bif Nat.blt t 195 then none else (some T195)))) else (bif Nat.blt t 200 then none else (bif Nat.blt t 202 then (bif Nat.blt t 201 then (some T200) else none) else (bif Nat.blt t 203 then (some T202) else none)))) else (bif Nat.blt t 212 then (bif Nat.blt t 208 then (bif Nat.blt t 206 then (bif Nat.blt t 205 then (some T204) else none) else none) else (bif Nat.blt t 210 then none else (bif Nat.blt t 211 then (some T210) else none))) else (bif Nat.blt t 216 then none else (bif Nat.blt t 218 then none else (bif Nat.blt t 219 then none else (some T219)))))) else (bif Nat.blt t 236 then (bif Nat.blt t 228 then (bif Nat.blt t 224 then (bif Nat.blt t 222 then (bif Nat.blt t 221 then none else (some T221)) else none) else (bif Nat.blt t 226 then (bif Nat.blt t 225 then none else (some T225)) else none)) else none) else (bif Nat.blt t 244 then (bif Nat.blt t 240 then none else (bif Nat.blt t 242 then none else (bif Nat.blt t 243 then none else (some T243)))) else (bif Nat.blt t 248 then (bif Nat.blt t 246 then (bif Nat.blt t 245 then (some T244) else none) else (bif Nat.blt t 247 then none else (some T247))) else (bif Nat.blt t 250 then (bif Nat.blt t 249 then (some T248) else none) else none))))))) else none
theorem tok : Tryz.prog.follows .mixedOrders = true ∧ TOK Tryz.prog T := ⟨by kernel_rfl, tok_of (n := 252) (by kernel_rfl) (fun t ht => by
  have h : Nat.blt t 252 = false := by rw [← Bool.not_eq_true, Nat.blt_eq]; omega
  unfold T; rw [h]; rfl)⟩
end Go.Proofs.YtkobbiflijaklaaGreat
