/- The seat's types as the evaluator asks for them, and its functions' numbers. Written by gen.py. -/
import Derived.Test.YtibglkkmjigooaaGreatAeF
import Derived.Test.YtibglkkmjigooaaGreatProg
namespace Go.Proofs.YtibglkkmjigooaaGreat
open Go
def T2 : TI := { kd := .scalar 3, sz := 1, by' := 8, zero := [.int .i64 0], eq := [], ft := [] }
def T3 : TI := { kd := .scalar 3, sz := 1, by' := 8, zero := [.int .i64 0], eq := [], ft := [] }
def T4 : TI := { kd := .scalar 10, sz := 1, by' := 1, zero := [.bool false], eq := [], ft := [] }
def T5 : TI := { kd := .scalar 4, sz := 1, by' := 1, zero := [.int .u8 0], eq := [], ft := [] }
def T6 : TI := { kd := .scalar 4, sz := 1, by' := 1, zero := [.int .u8 0], eq := [], ft := [] }
def T7 : TI := { kd := .struct [0, 1, 2, 3], sz := 4, by' := 24, zero := [.int .i64 0, .int .i64 0, .bool false, .int .u8 0], eq := [], ft := [2, 3, 4, 6] }
def T8 : TI := { kd := .struct [0, 1, 2, 3], sz := 4, by' := 24, zero := [.int .i64 0, .int .i64 0, .bool false, .int .u8 0], eq := [], ft := [2, 3, 4, 6] }
def T9 : TI := { kd := .scalar 20, sz := 1, by' := 16, zero := [.str ⟨#[]⟩], eq := [], ft := [] }
def T10 : TI := { kd := .scalar 20, sz := 1, by' := 16, zero := [.str ⟨#[]⟩], eq := [], ft := [] }
def T11 : TI := { kd := .scalar 20, sz := 1, by' := 16, zero := [.str ⟨#[]⟩], eq := [], ft := [] }
def T12 : TI := { kd := .scalar 7, sz := 1, by' := 8, zero := [.int .u64 0], eq := [], ft := [] }
def T13 : TI := { kd := .struct [0, 1], sz := 2, by' := 24, zero := [.str ⟨#[]⟩, .int .u64 0], eq := [], ft := [9, 12] }
def T14 : TI := { kd := .struct [0, 1], sz := 2, by' := 24, zero := [.str ⟨#[]⟩, .int .u64 0], eq := [], ft := [9, 12] }
def T21 : TI := { kd := .scalar 2, sz := 1, by' := 4, zero := [.int .i32 0], eq := [], ft := [] }
def T22 : TI := { kd := .slice 120, sz := 1, by' := 24, zero := [.nil], eq := [], ft := [] }
def T23 : TI := { kd := .slice 51, sz := 1, by' := 24, zero := [.nil], eq := [], ft := [] }
def T24 : TI := { kd := .slice 134, sz := 1, by' := 24, zero := [.nil], eq := [], ft := [] }
def T25 : TI := { kd := .slice 139, sz := 1, by' := 24, zero := [.nil], eq := [], ft := [] }
def T26 : TI := { kd := .slice 142, sz := 1, by' := 24, zero := [.nil], eq := [], ft := [] }
def T27 : TI := { kd := .slice 144, sz := 1, by' := 24, zero := [.nil], eq := [], ft := [] }
def T28 : TI := { kd := .struct [0, 1, 2, 3, 4, 5, 6, 7], sz := 8, by' := 160, zero := [.int .i64 0, .nil, .nil, .nil, .nil, .nil, .nil, .int .i64 0], eq := [], ft := [3, 22, 23, 24, 25, 26, 27, 3] }
def T29 : TI := { kd := .struct [0, 1, 2, 3, 4, 5, 6, 7], sz := 8, by' := 160, zero := [.int .i64 0, .nil, .nil, .nil, .nil, .nil, .nil, .int .i64 0], eq := [], ft := [3, 22, 23, 24, 25, 26, 27, 3] }
def T31 : TI := { kd := .slice 80, sz := 1, by' := 24, zero := [.nil], eq := [], ft := [] }
def T32 : TI := { kd := .slice 57, sz := 1, by' := 24, zero := [.nil], eq := [], ft := [] }
def T33 : TI := { kd := .slice 124, sz := 1, by' := 24, zero := [.nil], eq := [], ft := [] }
def T34 : TI := { kd := .slice 136, sz := 1, by' := 24, zero := [.nil], eq := [], ft := [] }
def T35 : TI := { kd := .slice 126, sz := 1, by' := 24, zero := [.nil], eq := [], ft := [] }
def T36 : TI := { kd := .slice 128, sz := 1, by' := 24, zero := [.nil], eq := [], ft := [] }
def T37 : TI := { kd := .struct [0, 1, 2, 3, 4, 5, 6, 7], sz := 8, by' := 160, zero := [.int .i64 0, .nil, .nil, .nil, .nil, .nil, .nil, .int .i64 0], eq := [], ft := [3, 31, 32, 33, 34, 35, 36, 3] }
def T38 : TI := { kd := .struct [0, 1, 2, 3, 4, 5, 6, 7], sz := 8, by' := 160, zero := [.int .i64 0, .nil, .nil, .nil, .nil, .nil, .nil, .int .i64 0], eq := [], ft := [3, 31, 32, 33, 34, 35, 36, 3] }
def T48 : TI := { kd := .slice 182, sz := 1, by' := 24, zero := [.nil], eq := [], ft := [] }
def T49 : TI := { kd := .slice 186, sz := 1, by' := 24, zero := [.nil], eq := [], ft := [] }
def T50 : TI := { kd := .struct [0, 1, 2, 3, 4, 5, 6, 7], sz := 8, by' := 128, zero := [.int .i64 0, .int .i64 0, .int .i64 0, .nil, .nil, .nil, .nil, .int .i64 0], eq := [], ft := [3, 3, 3, 24, 48, 26, 49, 3] }
def T51 : TI := { kd := .struct [0, 1, 2, 3, 4, 5, 6, 7], sz := 8, by' := 128, zero := [.int .i64 0, .int .i64 0, .int .i64 0, .nil, .nil, .nil, .nil, .int .i64 0], eq := [], ft := [3, 3, 3, 24, 48, 26, 49, 3] }
def T54 : TI := { kd := .slice 180, sz := 1, by' := 24, zero := [.nil], eq := [], ft := [] }
def T55 : TI := { kd := .slice 184, sz := 1, by' := 24, zero := [.nil], eq := [], ft := [] }
def T56 : TI := { kd := .struct [0, 1, 2, 3, 4, 5, 6, 7], sz := 8, by' := 128, zero := [.int .i64 0, .int .i64 0, .int .i64 0, .nil, .nil, .nil, .nil, .int .i64 0], eq := [], ft := [3, 3, 3, 33, 54, 35, 55, 3] }
def T57 : TI := { kd := .struct [0, 1, 2, 3, 4, 5, 6, 7], sz := 8, by' := 128, zero := [.int .i64 0, .int .i64 0, .int .i64 0, .nil, .nil, .nil, .nil, .int .i64 0], eq := [], ft := [3, 3, 3, 33, 54, 35, 55, 3] }
def T74 : TI := { kd := .struct [0, 1], sz := 2, by' := 16, zero := [.int .i64 0, .int .i64 0], eq := [3, 3], ft := [3, 3] }
def T75 : TI := { kd := .struct [0, 1], sz := 2, by' := 16, zero := [.int .i64 0, .int .i64 0], eq := [3, 3], ft := [3, 3] }
def T76 : TI := { kd := .slice 202, sz := 1, by' := 24, zero := [.nil], eq := [], ft := [] }
def T77 : TI := { kd := .slice 175, sz := 1, by' := 24, zero := [.nil], eq := [], ft := [] }
def T78 : TI := { kd := .slice 3, sz := 1, by' := 24, zero := [.nil], eq := [], ft := [] }
def T79 : TI := { kd := .struct [0, 2, 3, 4, 5], sz := 6, by' := 96, zero := [.int .i64 0, .int .i64 0, .nil, .nil, .nil, .int .i64 0], eq := [], ft := [75, 76, 77, 78, 3] }
def T80 : TI := { kd := .struct [0, 2, 3, 4, 5], sz := 6, by' := 96, zero := [.int .i64 0, .int .i64 0, .nil, .nil, .nil, .int .i64 0], eq := [], ft := [75, 76, 77, 78, 3] }
def T116 : TI := { kd := .struct [0, 1], sz := 2, by' := 16, zero := [.int .i64 0, .int .i64 0], eq := [3, 3], ft := [3, 3] }
def T117 : TI := { kd := .slice 229, sz := 1, by' := 24, zero := [.nil], eq := [], ft := [] }
def T118 : TI := { kd := .slice 231, sz := 1, by' := 24, zero := [.nil], eq := [], ft := [] }
def T119 : TI := { kd := .struct [0, 2, 3, 4, 5], sz := 6, by' := 96, zero := [.int .i64 0, .int .i64 0, .nil, .nil, .nil, .int .i64 0], eq := [], ft := [116, 117, 118, 78, 3] }
def T120 : TI := { kd := .struct [0, 2, 3, 4, 5], sz := 6, by' := 96, zero := [.int .i64 0, .int .i64 0, .nil, .nil, .nil, .int .i64 0], eq := [], ft := [116, 117, 118, 78, 3] }
def T122 : TI := { kd := .struct [0, 1], sz := 2, by' := 16, zero := [.int .i64 0, .int .i64 0], eq := [3, 3], ft := [3, 3] }
def T123 : TI := { kd := .struct [0, 1, 3, 4, 5, 6], sz := 7, by' := 56, zero := [.int .i64 0, .int .i64 0, .int .i64 0, .int .i64 0, .int .i64 0, .int .i64 0, .bool false], eq := [3, 3, 3, 3, 3, 3, 10], ft := [3, 122, 3, 3, 3, 4] }
def T124 : TI := { kd := .struct [0, 1, 3, 4, 5, 6], sz := 7, by' := 56, zero := [.int .i64 0, .int .i64 0, .int .i64 0, .int .i64 0, .int .i64 0, .int .i64 0, .bool false], eq := [3, 3, 3, 3, 3, 3, 10], ft := [3, 122, 3, 3, 3, 4] }
def T125 : TI := { kd := .struct [0, 1, 2, 4, 5, 6], sz := 8, by' := 64, zero := [.int .i64 0, .int .i64 0, .int .i64 0, .int .i64 0, .int .i64 0, .int .i64 0, .int .i64 0, .int .i64 0], eq := [3, 3, 3, 3, 3, 3, 3, 3], ft := [3, 3, 122, 3, 3, 75] }
def T126 : TI := { kd := .struct [0, 1, 2, 4, 5, 6], sz := 8, by' := 64, zero := [.int .i64 0, .int .i64 0, .int .i64 0, .int .i64 0, .int .i64 0, .int .i64 0, .int .i64 0, .int .i64 0], eq := [3, 3, 3, 3, 3, 3, 3, 3], ft := [3, 3, 122, 3, 3, 75] }
def T127 : TI := { kd := .struct [0, 1, 2, 3], sz := 4, by' := 32, zero := [.int .i64 0, .int .i64 0, .int .i64 0, .int .i64 0], eq := [3, 3, 3, 3], ft := [3, 3, 3, 3] }
def T128 : TI := { kd := .struct [0, 1, 2, 3], sz := 4, by' := 32, zero := [.int .i64 0, .int .i64 0, .int .i64 0, .int .i64 0], eq := [3, 3, 3, 3], ft := [3, 3, 3, 3] }
def T132 : TI := { kd := .struct [0, 1], sz := 2, by' := 16, zero := [.int .i64 0, .int .i64 0], eq := [3, 3], ft := [3, 3] }
def T133 : TI := { kd := .struct [0, 1, 3, 4, 5, 6], sz := 7, by' := 56, zero := [.int .i64 0, .int .i64 0, .int .i64 0, .int .i64 0, .int .i64 0, .int .i64 0, .bool false], eq := [3, 3, 3, 3, 3, 3, 10], ft := [3, 132, 3, 3, 3, 4] }
def T134 : TI := { kd := .struct [0, 1, 3, 4, 5, 6], sz := 7, by' := 56, zero := [.int .i64 0, .int .i64 0, .int .i64 0, .int .i64 0, .int .i64 0, .int .i64 0, .bool false], eq := [3, 3, 3, 3, 3, 3, 10], ft := [3, 132, 3, 3, 3, 4] }
def T135 : TI := { kd := .struct [0, 1, 3], sz := 4, by' := 32, zero := [.int .i64 0, .int .i64 0, .int .i64 0, .int .i64 0], eq := [3, 3, 3, 3], ft := [3, 122, 3] }
def T136 : TI := { kd := .struct [0, 1, 3], sz := 4, by' := 32, zero := [.int .i64 0, .int .i64 0, .int .i64 0, .int .i64 0], eq := [3, 3, 3, 3], ft := [3, 122, 3] }
def T138 : TI := { kd := .struct [0, 1, 3], sz := 4, by' := 32, zero := [.int .i64 0, .int .i64 0, .int .i64 0, .int .i64 0], eq := [3, 3, 3, 3], ft := [3, 132, 3] }
def T139 : TI := { kd := .struct [0, 1, 3], sz := 4, by' := 32, zero := [.int .i64 0, .int .i64 0, .int .i64 0, .int .i64 0], eq := [3, 3, 3, 3], ft := [3, 132, 3] }
def T141 : TI := { kd := .struct [0, 1, 2, 4, 5, 6], sz := 8, by' := 64, zero := [.int .i64 0, .int .i64 0, .int .i64 0, .int .i64 0, .int .i64 0, .int .i64 0, .int .i64 0, .int .i64 0], eq := [3, 3, 3, 3, 3, 3, 3, 3], ft := [3, 3, 132, 3, 3, 116] }
def T142 : TI := { kd := .struct [0, 1, 2, 4, 5, 6], sz := 8, by' := 64, zero := [.int .i64 0, .int .i64 0, .int .i64 0, .int .i64 0, .int .i64 0, .int .i64 0, .int .i64 0, .int .i64 0], eq := [3, 3, 3, 3, 3, 3, 3, 3], ft := [3, 3, 132, 3, 3, 116] }
def T144 : TI := { kd := .struct [0, 1, 2, 3], sz := 4, by' := 32, zero := [.int .i64 0, .int .i64 0, .int .i64 0, .int .i64 0], eq := [3, 3, 3, 3], ft := [3, 3, 3, 3] }
def T168 : TI := { kd := .slice 172, sz := 1, by' := 24, zero := [.nil], eq := [], ft := [] }
def T171 : TI := { kd := .struct [0, 1, 2], sz := 3, by' := 24, zero := [.int .i64 0, .int .i64 0, .int .i64 0], eq := [3, 3, 3], ft := [3, 3, 3] }
def T172 : TI := { kd := .struct [0, 1, 2], sz := 3, by' := 24, zero := [.int .i64 0, .int .i64 0, .int .i64 0], eq := [3, 3, 3], ft := [3, 3, 3] }
def T174 : TI := { kd := .struct [0, 1, 2, 3, 4, 5], sz := 6, by' := 48, zero := [.int .i64 0, .int .i64 0, .int .i64 0, .int .i64 0, .int .i64 0, .int .i64 0], eq := [3, 3, 3, 3, 3, 3], ft := [3, 3, 3, 3, 3, 3] }
def T175 : TI := { kd := .struct [0, 1, 2, 3, 4, 5], sz := 6, by' := 48, zero := [.int .i64 0, .int .i64 0, .int .i64 0, .int .i64 0, .int .i64 0, .int .i64 0], eq := [3, 3, 3, 3, 3, 3], ft := [3, 3, 3, 3, 3, 3] }
def T179 : TI := { kd := .struct [0, 1, 2], sz := 3, by' := 24, zero := [.int .i64 0, .int .i64 0, .int .i64 0], eq := [3, 3, 3], ft := [3, 3, 3] }
def T180 : TI := { kd := .struct [0, 1, 2], sz := 3, by' := 24, zero := [.int .i64 0, .int .i64 0, .int .i64 0], eq := [3, 3, 3], ft := [3, 3, 3] }
def T182 : TI := { kd := .struct [0, 1, 2], sz := 3, by' := 24, zero := [.int .i64 0, .int .i64 0, .int .i64 0], eq := [3, 3, 3], ft := [3, 3, 3] }
def T183 : TI := { kd := .struct [0, 1, 2, 3], sz := 4, by' := 32, zero := [.int .i64 0, .int .i64 0, .int .i64 0, .int .i64 0], eq := [3, 3, 3, 3], ft := [3, 3, 3, 3] }
def T184 : TI := { kd := .struct [0, 1, 2, 3], sz := 4, by' := 32, zero := [.int .i64 0, .int .i64 0, .int .i64 0, .int .i64 0], eq := [3, 3, 3, 3], ft := [3, 3, 3, 3] }
def T186 : TI := { kd := .struct [0, 1, 2, 3], sz := 4, by' := 32, zero := [.int .i64 0, .int .i64 0, .int .i64 0, .int .i64 0], eq := [3, 3, 3, 3], ft := [3, 3, 3, 3] }
def T201 : TI := { kd := .struct [0, 1, 2, 3, 4], sz := 5, by' := 40, zero := [.int .i64 0, .int .i64 0, .int .i64 0, .int .i64 0, .int .i64 0], eq := [3, 3, 3, 3, 3], ft := [3, 3, 3, 3, 3] }
def T202 : TI := { kd := .struct [0, 1, 2, 3, 4], sz := 5, by' := 40, zero := [.int .i64 0, .int .i64 0, .int .i64 0, .int .i64 0, .int .i64 0], eq := [3, 3, 3, 3, 3], ft := [3, 3, 3, 3, 3] }
def T229 : TI := { kd := .struct [0, 1, 2, 3, 4], sz := 5, by' := 40, zero := [.int .i64 0, .int .i64 0, .int .i64 0, .int .i64 0, .int .i64 0], eq := [3, 3, 3, 3, 3], ft := [3, 3, 3, 3, 3] }
def T231 : TI := { kd := .struct [0, 1, 2, 3, 4, 5], sz := 6, by' := 48, zero := [.int .i64 0, .int .i64 0, .int .i64 0, .int .i64 0, .int .i64 0, .int .i64 0], eq := [3, 3, 3, 3, 3, 3], ft := [3, 3, 3, 3, 3, 3] }
def T257 : TI := { kd := .scalar 7, sz := 1, by' := 8, zero := [.int .u64 0], eq := [], ft := [] }
def T261 : TI := { kd := .scalar 3, sz := 1, by' := 8, zero := [.int .i64 0], eq := [], ft := [] }
def T270 : TI := { kd := .scalar 6, sz := 1, by' := 4, zero := [.int .u32 0], eq := [], ft := [] }
def T272 : TI := { kd := .scalar 7, sz := 1, by' := 8, zero := [.int .u64 0], eq := [], ft := [] }
def T273 : TI := { kd := .scalar 7, sz := 1, by' := 8, zero := [.int .u64 0], eq := [], ft := [] }
def T289 : TI := { kd := .scalar 4, sz := 1, by' := 1, zero := [.int .u8 0], eq := [], ft := [] }
def T290 : TI := { kd := .scalar 4, sz := 1, by' := 1, zero := [.int .u8 0], eq := [], ft := [] }
def T293 : TI := { kd := .scalar 2, sz := 1, by' := 4, zero := [.int .i32 0], eq := [], ft := [] }
def T294 : TI := { kd := .scalar 2, sz := 1, by' := 4, zero := [.int .i32 0], eq := [], ft := [] }
def T (t : Nat) : Option TI := bif Nat.blt t 298 then (bif Nat.blt t 149 then (bif Nat.blt t 74 then (bif Nat.blt t 37 then (bif Nat.blt t 18 then (bif Nat.blt t 9 then (bif Nat.blt t 4 then (bif Nat.blt t 2 then none else (bif Nat.blt t 3 then (some T2) else (some T3))) else (bif Nat.blt t 6 then (bif Nat.blt t 5 then (some T4) else (some T5)) else (bif Nat.blt t 7 then (some T6) else (bif Nat.blt t 8 then (some T7) else (some T8))))) else (bif Nat.blt t 13 then (bif Nat.blt t 11 then (bif Nat.blt t 10 then (some T9) else (some T10)) else (bif Nat.blt t 12 then (some T11) else (some T12))) else (bif Nat.blt t 15 then (bif Nat.blt t 14 then (some T13) else (some T14)) else none))) else (bif Nat.blt t 27 then (bif Nat.blt t 22 then (bif Nat.blt t 20 then none else (bif Nat.blt t 21 then none else (some T21))) else (bif Nat.blt t 24 then (bif Nat.blt t 23 then (some T22) else (some T23)) else (bif Nat.blt t 25 then (some T24) else (bif Nat.blt t 26 then (some T25) else (some T26))))) else (bif Nat.blt t 32 then (bif Nat.blt t 29 then (bif Nat.blt t 28 then (some T27) else (some T28)) else (bif Nat.blt t 30 then (some T29) else (bif Nat.blt t 31 then none else (some T31)))) else (bif Nat.blt t 34 then (bif Nat.blt t 33 then (some T32) else (some T33)) else (bif Nat.blt t 35 then (some T34) else (bif Nat.blt t 36 then (some T35) else (some T36))))))) else (bif Nat.blt t 55 then (bif Nat.blt t 46 then (bif Nat.blt t 41 then (bif Nat.blt t 39 then (bif Nat.blt t 38 then (some T37) else (some T38)) else none) else none) else (bif Nat.blt t 50 then (bif Nat.blt t 48 then none else (bif Nat.blt t 49 then (some T48) else (some T49))) else (bif Nat.blt t 52 then (bif Nat.blt t 51 then (some T50) else (some T51)) else (bif Nat.blt t 53 then none else (bif Nat.blt t 54 then none else (some T54)))))) else (bif Nat.blt t 64 then (bif Nat.blt t 59 then (bif Nat.blt t 57 then (bif Nat.blt t 56 then (some T55) else (some T56)) else (bif Nat.blt t 58 then (some T57) else none)) else none) else none))) else (bif Nat.blt t 111 then (bif Nat.blt t 92 then (bif Nat.blt t 83 then (bif Nat.blt t 78 then (bif Nat.blt t 76 then (bif Nat.blt t 75 then (some T74) else (some T75)) else (bif Nat.blt t 77 then (some T76) else (some T77))) else (bif Nat.blt t 80 then (bif Nat.blt t 79 then (some T78) else (some T79)) else (bif Nat.blt t 81 then (some T80) else none))) else none) else none) else (bif Nat.blt t 130 then (bif Nat.blt t 120 then (bif Nat.blt t 115 then none else (bif Nat.blt t 117 then (bif Nat.blt t 116 then none else (some T116)) else (bif Nat.blt t 118 then (some T117) else (bif Nat.blt t 119 then (some T118) else (some T119))))) else (bif Nat.blt t 125 then (bif Nat.blt t 122 then (bif Nat.blt t 121 then (some T120) else none) else (bif Nat.blt t 123 then (some T122) else (bif Nat.blt t 124 then (some T123) else (some T124)))) else (bif Nat.blt t 127 then (bif Nat.blt t 126 then (some T125) else (some T126)) else (bif Nat.blt t 128 then (some T127) else (bif Nat.blt t 129 then (some T128) else none))))) else (bif Nat.blt t 139 then (bif Nat.blt t 134 then (bif Nat.blt t 132 then none else (bif Nat.blt t 133 then (some T132) else (some T133))) else (bif Nat.blt t 136 then (bif Nat.blt t 135 then (some T134) else (some T135)) else (bif Nat.blt t 137 then (some T136) else (bif Nat.blt t 138 then none else (some T138))))) else (bif Nat.blt t 144 then (bif Nat.blt t 141 then (bif Nat.blt t 140 then (some T139) else none) else (bif Nat.blt t 142 then (some T141) else (bif Nat.blt t 143 then (some T142) else none))) else (bif Nat.blt t 146 then (bif Nat.blt t 145 then (some T144) else none) else none)))))) else (bif Nat.blt t 223 then (bif Nat.blt t 186 then (bif Nat.blt t 167 then none else (bif Nat.blt t 176 then (bif Nat.blt t 171 then (bif Nat.blt t 169 then (bif Nat.blt t 168 then none else (some T168)) else none) else (bif Nat.blt t 173 then (bif Nat.blt t 172 then (some T171) else (some T172)) else (bif Nat.blt t 174 then none else (bif Nat.blt t 175 then (some T174) else (some T175))))) else (bif Nat.blt t 181 then (bif Nat.blt t 178 then none else (bif Nat.blt t 179 then none else (bif Nat.blt t 180 then (some T179) else (some T180)))) else (bif Nat.blt t 183 then (bif Nat.blt t 182 then none else (some T182)) else (bif Nat.blt t 184 then (some T183) else (bif Nat.blt t 185 then (some T184) else none)))))) else (bif Nat.blt t 204 then (bif Nat.blt t 195 then (bif Nat.blt t 190 then (bif Nat.blt t 188 then (bif Nat.blt t 187 then (some T186) else none) else none) else none) else (bif Nat.blt t 199 then none else (bif Nat.blt t 201 then none else (bif Nat.blt t 202 then (some T201) else (bif Nat.blt t 203 then (some T202) else none))))) else none)) else (bif Nat.blt t 260 then (bif Nat.blt t 241 then (bif Nat.blt t 232 then (bif Nat.blt t 227 then none else (bif Nat.blt t 229 then none else (bif Nat.blt t 230 then (some T229) else (bif Nat.blt t 231 then none else (some T231))))) else none) else (bif Nat.blt t 250 then none else (bif Nat.blt t 255 then none else (bif Nat.blt t 257 then none else (bif Nat.blt t 258 then (some T257) else none))))) else (bif Nat.blt t 279 then (bif Nat.blt t 269 then (bif Nat.blt t 264 then (bif Nat.blt t 262 then (bif Nat.blt t 261 then none else (some T261)) else none) else none) else (bif Nat.blt t 274 then (bif Nat.blt t 271 then (bif Nat.blt t 270 then none else (some T270)) else (bif Nat.blt t 272 then none else (bif Nat.blt t 273 then (some T272) else (some T273)))) else none)) else (bif Nat.blt t 288 then none else (bif Nat.blt t 293 then (bif Nat.blt t 290 then (bif Nat.blt t 289 then none else (some T289)) else (bif Nat.blt t 291 then (some T290) else none)) else (bif Nat.blt t 295 then (bif Nat.blt t 294 then (some T293) else (some T294)) else none))))))) else none
theorem tok : Tryz.prog.follows .mixedOrders = true ∧ TOK Tryz.prog T := ⟨by kernel_rfl, tok_of (n := 298) (by kernel_rfl) (fun t ht => by
  have h : Nat.blt t 298 = false := by rw [← Bool.not_eq_true, Nat.blt_eq]; omega
  unfold T; rw [h]; rfl)⟩
end Go.Proofs.YtibglkkmjigooaaGreat
