/- The seat's types as the evaluator asks for them, and its functions' numbers. Written by gen.py. -/
import Derived.Test.YtpnbkjinfphlkaaGreatAeF
import Derived.Test.YtpnbkjinfphlkaaGreatProg
namespace Go.Proofs.YtpnbkjinfphlkaaGreat
open Go
def T2 : TI := { kd := .scalar 3, sz := 1, by' := 8, zero := [.int .i64 0], eq := [], ft := [] }
def T3 : TI := { kd := .scalar 3, sz := 1, by' := 8, zero := [.int .i64 0], eq := [], ft := [] }
def T4 : TI := { kd := .scalar 10, sz := 1, by' := 1, zero := [.bool false], eq := [], ft := [] }
def T5 : TI := { kd := .scalar 4, sz := 1, by' := 1, zero := [.int .u8 0], eq := [], ft := [] }
def T6 : TI := { kd := .scalar 4, sz := 1, by' := 1, zero := [.int .u8 0], eq := [], ft := [] }
def T7 : TI := { kd := .struct [0, 1, 2, 3], sz := 4, by' := 24, zero := [.int .i64 0, .int .i64 0, .bool false, .int .u8 0], eq := [], ft := [2, 3, 4, 6] }
def T8 : TI := { kd := .struct [0, 1, 2, 3], sz := 4, by' := 24, zero := [.int .i64 0, .int .i64 0, .bool false, .int .u8 0], eq := [], ft := [2, 3, 4, 6] }
def T9 : TI := { kd := .scalar 20, sz := 1, by' := 16, zero := [.str ⟨#[]⟩], eq := [], ft := [] }
def T10 : TI := { kd := .scalar 20, sz := 1, by' := 16, zero := [.str ⟨#[]⟩], eq := [], ft := [] }
def T11 : TI := { kd := .scalar 20, sz := 1, by' := 16, zero := [.str ⟨#[]⟩], eq := [], ft := [] }
def T12 : TI := { kd := .scalar 7, sz := 1, by' := 8, zero := [.int .u64 0], eq := [], ft := [] }
def T13 : TI := { kd := .struct [0, 1], sz := 2, by' := 24, zero := [.str ⟨#[]⟩, .int .u64 0], eq := [], ft := [9, 12] }
def T14 : TI := { kd := .struct [0, 1], sz := 2, by' := 24, zero := [.str ⟨#[]⟩, .int .u64 0], eq := [], ft := [9, 12] }
def T21 : TI := { kd := .scalar 2, sz := 1, by' := 4, zero := [.int .i32 0], eq := [], ft := [] }
def T22 : TI := { kd := .slice 98, sz := 1, by' := 24, zero := [.nil], eq := [], ft := [] }
def T23 : TI := { kd := .slice 103, sz := 1, by' := 24, zero := [.nil], eq := [], ft := [] }
def T24 : TI := { kd := .slice 122, sz := 1, by' := 24, zero := [.nil], eq := [], ft := [] }
def T25 : TI := { kd := .slice 127, sz := 1, by' := 24, zero := [.nil], eq := [], ft := [] }
def T26 : TI := { kd := .slice 132, sz := 1, by' := 24, zero := [.nil], eq := [], ft := [] }
def T27 : TI := { kd := .slice 136, sz := 1, by' := 24, zero := [.nil], eq := [], ft := [] }
def T28 : TI := { kd := .struct [0, 1, 2, 3, 4, 5, 6, 7], sz := 8, by' := 160, zero := [.int .i64 0, .nil, .nil, .nil, .nil, .nil, .nil, .int .i64 0], eq := [], ft := [3, 22, 23, 24, 25, 26, 27, 3] }
def T29 : TI := { kd := .struct [0, 1, 2, 3, 4, 5, 6, 7], sz := 8, by' := 160, zero := [.int .i64 0, .nil, .nil, .nil, .nil, .nil, .nil, .int .i64 0], eq := [], ft := [3, 22, 23, 24, 25, 26, 27, 3] }
def T30 : TI := { kd := .slice 3, sz := 1, by' := 24, zero := [.nil], eq := [], ft := [] }
def T33 : TI := { kd := .slice 109, sz := 1, by' := 24, zero := [.nil], eq := [], ft := [] }
def T34 : TI := { kd := .slice 114, sz := 1, by' := 24, zero := [.nil], eq := [], ft := [] }
def T35 : TI := { kd := .slice 118, sz := 1, by' := 24, zero := [.nil], eq := [], ft := [] }
def T36 : TI := { kd := .slice 124, sz := 1, by' := 24, zero := [.nil], eq := [], ft := [] }
def T37 : TI := { kd := .slice 129, sz := 1, by' := 24, zero := [.nil], eq := [], ft := [] }
def T38 : TI := { kd := .slice 134, sz := 1, by' := 24, zero := [.nil], eq := [], ft := [] }
def T39 : TI := { kd := .struct [0, 1, 2, 3, 4, 5, 6, 7], sz := 8, by' := 160, zero := [.int .i64 0, .nil, .nil, .nil, .nil, .nil, .nil, .int .i64 0], eq := [], ft := [3, 33, 34, 35, 36, 37, 38, 3] }
def T40 : TI := { kd := .struct [0, 1, 2, 3, 4, 5, 6, 7], sz := 8, by' := 160, zero := [.int .i64 0, .nil, .nil, .nil, .nil, .nil, .nil, .int .i64 0], eq := [], ft := [3, 33, 34, 35, 36, 37, 38, 3] }
def T48 : TI := { kd := .struct [0, 1], sz := 2, by' := 16, zero := [.int .i64 0, .int .i64 0], eq := [3, 3], ft := [3, 3] }
def T49 : TI := { kd := .struct [0, 1], sz := 2, by' := 16, zero := [.int .i64 0, .int .i64 0], eq := [3, 3], ft := [3, 3] }
def T50 : TI := { kd := .struct [0, 2], sz := 3, by' := 24, zero := [.int .i64 0, .int .i64 0, .int .i64 0], eq := [3, 3, 3], ft := [49, 3] }
def T51 : TI := { kd := .struct [0, 2], sz := 3, by' := 24, zero := [.int .i64 0, .int .i64 0, .int .i64 0], eq := [3, 3, 3], ft := [49, 3] }
def T52 : TI := { kd := .struct [0, 1], sz := 2, by' := 16, zero := [.int .i64 0, .int .i64 0], eq := [3, 3], ft := [3, 3] }
def T53 : TI := { kd := .slice 52, sz := 1, by' := 24, zero := [.nil], eq := [], ft := [] }
def T54 : TI := { kd := .struct [0, 1, 3], sz := 4, by' := 48, zero := [.int .i64 0, .int .i64 0, .int .i64 0, .nil], eq := [], ft := [3, 52, 53] }
def T55 : TI := { kd := .struct [0, 1, 3], sz := 4, by' := 48, zero := [.int .i64 0, .int .i64 0, .int .i64 0, .nil], eq := [], ft := [3, 52, 53] }
def T57 : TI := { kd := .struct [0, 2], sz := 3, by' := 24, zero := [.int .i64 0, .int .i64 0, .int .i64 0], eq := [3, 3, 3], ft := [52, 3] }
def T58 : TI := { kd := .struct [0, 2], sz := 3, by' := 24, zero := [.int .i64 0, .int .i64 0, .int .i64 0], eq := [3, 3, 3], ft := [52, 3] }
def T95 : TI := { kd := .slice 181, sz := 1, by' := 24, zero := [.nil], eq := [], ft := [] }
def T96 : TI := { kd := .slice 183, sz := 1, by' := 24, zero := [.nil], eq := [], ft := [] }
def T97 : TI := { kd := .struct [0, 2, 3, 4, 5], sz := 6, by' := 96, zero := [.int .i64 0, .int .i64 0, .nil, .nil, .nil, .int .i64 0], eq := [], ft := [49, 95, 96, 30, 3] }
def T98 : TI := { kd := .struct [0, 2, 3, 4, 5], sz := 6, by' := 96, zero := [.int .i64 0, .int .i64 0, .nil, .nil, .nil, .int .i64 0], eq := [], ft := [49, 95, 96, 30, 3] }
def T100 : TI := { kd := .slice 185, sz := 1, by' := 24, zero := [.nil], eq := [], ft := [] }
def T101 : TI := { kd := .slice 187, sz := 1, by' := 24, zero := [.nil], eq := [], ft := [] }
def T102 : TI := { kd := .struct [0, 1, 2, 3, 4, 5, 6, 7], sz := 8, by' := 128, zero := [.int .i64 0, .int .i64 0, .int .i64 0, .nil, .nil, .nil, .nil, .int .i64 0], eq := [], ft := [3, 3, 3, 24, 100, 26, 101, 3] }
def T103 : TI := { kd := .struct [0, 1, 2, 3, 4, 5, 6, 7], sz := 8, by' := 128, zero := [.int .i64 0, .int .i64 0, .int .i64 0, .nil, .nil, .nil, .nil, .int .i64 0], eq := [], ft := [3, 3, 3, 24, 100, 26, 101, 3] }
def T106 : TI := { kd := .slice 167, sz := 1, by' := 24, zero := [.nil], eq := [], ft := [] }
def T107 : TI := { kd := .slice 169, sz := 1, by' := 24, zero := [.nil], eq := [], ft := [] }
def T108 : TI := { kd := .struct [0, 2, 3, 4, 5], sz := 6, by' := 96, zero := [.int .i64 0, .int .i64 0, .nil, .nil, .nil, .int .i64 0], eq := [], ft := [52, 106, 107, 30, 3] }
def T109 : TI := { kd := .struct [0, 2, 3, 4, 5], sz := 6, by' := 96, zero := [.int .i64 0, .int .i64 0, .nil, .nil, .nil, .int .i64 0], eq := [], ft := [52, 106, 107, 30, 3] }
def T111 : TI := { kd := .slice 171, sz := 1, by' := 24, zero := [.nil], eq := [], ft := [] }
def T112 : TI := { kd := .slice 173, sz := 1, by' := 24, zero := [.nil], eq := [], ft := [] }
def T113 : TI := { kd := .struct [0, 1, 2, 3, 4, 5, 6, 7], sz := 8, by' := 128, zero := [.int .i64 0, .int .i64 0, .int .i64 0, .nil, .nil, .nil, .nil, .int .i64 0], eq := [], ft := [3, 3, 3, 35, 111, 37, 112, 3] }
def T114 : TI := { kd := .struct [0, 1, 2, 3, 4, 5, 6, 7], sz := 8, by' := 128, zero := [.int .i64 0, .int .i64 0, .int .i64 0, .nil, .nil, .nil, .nil, .int .i64 0], eq := [], ft := [3, 3, 3, 35, 111, 37, 112, 3] }
def T116 : TI := { kd := .struct [0, 1], sz := 2, by' := 16, zero := [.int .i64 0, .int .i64 0], eq := [3, 3], ft := [3, 3] }
def T117 : TI := { kd := .struct [0, 1, 3, 4, 5, 6], sz := 7, by' := 56, zero := [.int .i64 0, .int .i64 0, .int .i64 0, .int .i64 0, .int .i64 0, .int .i64 0, .bool false], eq := [3, 3, 3, 3, 3, 3, 10], ft := [3, 116, 3, 3, 3, 4] }
def T118 : TI := { kd := .struct [0, 1, 3, 4, 5, 6], sz := 7, by' := 56, zero := [.int .i64 0, .int .i64 0, .int .i64 0, .int .i64 0, .int .i64 0, .int .i64 0, .bool false], eq := [3, 3, 3, 3, 3, 3, 10], ft := [3, 116, 3, 3, 3, 4] }
def T120 : TI := { kd := .struct [0, 1], sz := 2, by' := 16, zero := [.int .i64 0, .int .i64 0], eq := [3, 3], ft := [3, 3] }
def T121 : TI := { kd := .struct [0, 1, 3, 4, 5, 6], sz := 7, by' := 56, zero := [.int .i64 0, .int .i64 0, .int .i64 0, .int .i64 0, .int .i64 0, .int .i64 0, .bool false], eq := [3, 3, 3, 3, 3, 3, 10], ft := [3, 120, 3, 3, 3, 4] }
def T122 : TI := { kd := .struct [0, 1, 3, 4, 5, 6], sz := 7, by' := 56, zero := [.int .i64 0, .int .i64 0, .int .i64 0, .int .i64 0, .int .i64 0, .int .i64 0, .bool false], eq := [3, 3, 3, 3, 3, 3, 10], ft := [3, 120, 3, 3, 3, 4] }
def T123 : TI := { kd := .struct [0, 1, 3], sz := 4, by' := 32, zero := [.int .i64 0, .int .i64 0, .int .i64 0, .int .i64 0], eq := [3, 3, 3, 3], ft := [3, 116, 3] }
def T124 : TI := { kd := .struct [0, 1, 3], sz := 4, by' := 32, zero := [.int .i64 0, .int .i64 0, .int .i64 0, .int .i64 0], eq := [3, 3, 3, 3], ft := [3, 116, 3] }
def T126 : TI := { kd := .struct [0, 1, 3], sz := 4, by' := 32, zero := [.int .i64 0, .int .i64 0, .int .i64 0, .int .i64 0], eq := [3, 3, 3, 3], ft := [3, 120, 3] }
def T127 : TI := { kd := .struct [0, 1, 3], sz := 4, by' := 32, zero := [.int .i64 0, .int .i64 0, .int .i64 0, .int .i64 0], eq := [3, 3, 3, 3], ft := [3, 120, 3] }
def T128 : TI := { kd := .struct [0, 1, 2, 4, 5, 6], sz := 8, by' := 64, zero := [.int .i64 0, .int .i64 0, .int .i64 0, .int .i64 0, .int .i64 0, .int .i64 0, .int .i64 0, .int .i64 0], eq := [3, 3, 3, 3, 3, 3, 3, 3], ft := [3, 3, 116, 3, 3, 52] }
def T129 : TI := { kd := .struct [0, 1, 2, 4, 5, 6], sz := 8, by' := 64, zero := [.int .i64 0, .int .i64 0, .int .i64 0, .int .i64 0, .int .i64 0, .int .i64 0, .int .i64 0, .int .i64 0], eq := [3, 3, 3, 3, 3, 3, 3, 3], ft := [3, 3, 116, 3, 3, 52] }
def T131 : TI := { kd := .struct [0, 1, 2, 4, 5, 6], sz := 8, by' := 64, zero := [.int .i64 0, .int .i64 0, .int .i64 0, .int .i64 0, .int .i64 0, .int .i64 0, .int .i64 0, .int .i64 0], eq := [3, 3, 3, 3, 3, 3, 3, 3], ft := [3, 3, 120, 3, 3, 49] }
def T132 : TI := { kd := .struct [0, 1, 2, 4, 5, 6], sz := 8, by' := 64, zero := [.int .i64 0, .int .i64 0, .int .i64 0, .int .i64 0, .int .i64 0, .int .i64 0, .int .i64 0, .int .i64 0], eq := [3, 3, 3, 3, 3, 3, 3, 3], ft := [3, 3, 120, 3, 3, 49] }
def T133 : TI := { kd := .struct [0, 1, 2, 3], sz := 4, by' := 32, zero := [.int .i64 0, .int .i64 0, .int .i64 0, .int .i64 0], eq := [3, 3, 3, 3], ft := [3, 3, 3, 3] }
def T134 : TI := { kd := .struct [0, 1, 2, 3], sz := 4, by' := 32, zero := [.int .i64 0, .int .i64 0, .int .i64 0, .int .i64 0], eq := [3, 3, 3, 3], ft := [3, 3, 3, 3] }
def T136 : TI := { kd := .struct [0, 1, 2, 3], sz := 4, by' := 32, zero := [.int .i64 0, .int .i64 0, .int .i64 0, .int .i64 0], eq := [3, 3, 3, 3], ft := [3, 3, 3, 3] }
def T166 : TI := { kd := .struct [0, 1, 2, 3, 4], sz := 5, by' := 40, zero := [.int .i64 0, .int .i64 0, .int .i64 0, .int .i64 0, .int .i64 0], eq := [3, 3, 3, 3, 3], ft := [3, 3, 3, 3, 3] }
def T167 : TI := { kd := .struct [0, 1, 2, 3, 4], sz := 5, by' := 40, zero := [.int .i64 0, .int .i64 0, .int .i64 0, .int .i64 0, .int .i64 0], eq := [3, 3, 3, 3, 3], ft := [3, 3, 3, 3, 3] }
def T168 : TI := { kd := .struct [0, 1, 2, 3, 4, 5], sz := 6, by' := 48, zero := [.int .i64 0, .int .i64 0, .int .i64 0, .int .i64 0, .int .i64 0, .int .i64 0], eq := [3, 3, 3, 3, 3, 3], ft := [3, 3, 3, 3, 3, 3] }
def T169 : TI := { kd := .struct [0, 1, 2, 3, 4, 5], sz := 6, by' := 48, zero := [.int .i64 0, .int .i64 0, .int .i64 0, .int .i64 0, .int .i64 0, .int .i64 0], eq := [3, 3, 3, 3, 3, 3], ft := [3, 3, 3, 3, 3, 3] }
def T170 : TI := { kd := .struct [0, 1, 2], sz := 3, by' := 24, zero := [.int .i64 0, .int .i64 0, .int .i64 0], eq := [3, 3, 3], ft := [3, 3, 3] }
def T171 : TI := { kd := .struct [0, 1, 2], sz := 3, by' := 24, zero := [.int .i64 0, .int .i64 0, .int .i64 0], eq := [3, 3, 3], ft := [3, 3, 3] }
def T172 : TI := { kd := .struct [0, 1, 2, 3], sz := 4, by' := 32, zero := [.int .i64 0, .int .i64 0, .int .i64 0, .int .i64 0], eq := [3, 3, 3, 3], ft := [3, 3, 3, 3] }
def T173 : TI := { kd := .struct [0, 1, 2, 3], sz := 4, by' := 32, zero := [.int .i64 0, .int .i64 0, .int .i64 0, .int .i64 0], eq := [3, 3, 3, 3], ft := [3, 3, 3, 3] }
def T181 : TI := { kd := .struct [0, 1, 2, 3, 4], sz := 5, by' := 40, zero := [.int .i64 0, .int .i64 0, .int .i64 0, .int .i64 0, .int .i64 0], eq := [3, 3, 3, 3, 3], ft := [3, 3, 3, 3, 3] }
def T183 : TI := { kd := .struct [0, 1, 2, 3, 4, 5], sz := 6, by' := 48, zero := [.int .i64 0, .int .i64 0, .int .i64 0, .int .i64 0, .int .i64 0, .int .i64 0], eq := [3, 3, 3, 3, 3, 3], ft := [3, 3, 3, 3, 3, 3] }
def T185 : TI := { kd := .struct [0, 1, 2], sz := 3, by' := 24, zero := [.int .i64 0, .int .i64 0, .int .i64 0], eq := [3, 3, 3], ft := [3, 3, 3] }
def T187 : TI := { kd := .struct [0, 1, 2, 3], sz := 4, by' := 32, zero := [.int .i64 0, .int .i64 0, .int .i64 0, .int .i64 0], eq := [3, 3, 3, 3], ft := [3, 3, 3, 3] }
def T206 : TI := { kd := .scalar 6, sz := 1, by' := 4, zero := [.int .u32 0], eq := [], ft := [] }
def T207 : TI := { kd := .scalar 4, sz := 1, by' := 1, zero := [.int .u8 0], eq := [], ft := [] }
def T208 : TI := { kd := .scalar 4, sz := 1, by' := 1, zero := [.int .u8 0], eq := [], ft := [] }
def T211 : TI := { kd := .scalar 2, sz := 1, by' := 4, zero := [.int .i32 0], eq := [], ft := [] }
def T212 : TI := { kd := .scalar 2, sz := 1, by' := 4, zero := [.int .i32 0], eq := [], ft := [] }
def T (t : Nat) : Option TI := bif Nat.blt t 216 then (bif Nat.blt t 108 then (bif Nat.blt t 54 then (bif Nat.blt t 27 then (bif Nat.blt t 13 then (bif Nat.blt t 6 then (bif Nat.blt t 3 then (bif Nat.blt t 1 then none else (bif Nat.blt t 2 then none else (some T2))) else (bif Nat.blt t 4 then (some T3) else (bif Nat.blt t 5 then (some T4) else (some T5)))) else (bif Nat.blt t 9 then (bif Nat.blt t 7 then (some T6) else (bif Nat.blt t 8 then (some T7) else (some T8))) else (bif Nat.blt t 11 then (bif Nat.blt t 10 then (some T9) else (some T10)) else (bif Nat.blt t 12 then (some T11) else (some T12))))) else (bif Nat.blt t 20 then (bif Nat.blt t 16 then (bif Nat.blt t 14 then (some T13) else (bif Nat.blt t 15 then (some T14) else none)) else none) else (bif Nat.blt t 23 then (bif Nat.blt t 21 then none else (bif Nat.blt t 22 then (some T21) else (some T22))) else (bif Nat.blt t 25 then (bif Nat.blt t 24 then (some T23) else (some T24)) else (bif Nat.blt t 26 then (some T25) else (some T26)))))) else (bif Nat.blt t 40 then (bif Nat.blt t 33 then (bif Nat.blt t 30 then (bif Nat.blt t 28 then (some T27) else (bif Nat.blt t 29 then (some T28) else (some T29))) else (bif Nat.blt t 31 then (some T30) else none)) else (bif Nat.blt t 36 then (bif Nat.blt t 34 then (some T33) else (bif Nat.blt t 35 then (some T34) else (some T35))) else (bif Nat.blt t 38 then (bif Nat.blt t 37 then (some T36) else (some T37)) else (bif Nat.blt t 39 then (some T38) else (some T39))))) else (bif Nat.blt t 47 then (bif Nat.blt t 43 then (bif Nat.blt t 41 then (some T40) else none) else none) else (bif Nat.blt t 50 then (bif Nat.blt t 48 then none else (bif Nat.blt t 49 then (some T48) else (some T49))) else (bif Nat.blt t 52 then (bif Nat.blt t 51 then (some T50) else (some T51)) else (bif Nat.blt t 53 then (some T52) else (some T53))))))) else (bif Nat.blt t 81 then (bif Nat.blt t 67 then (bif Nat.blt t 60 then (bif Nat.blt t 57 then (bif Nat.blt t 55 then (some T54) else (bif Nat.blt t 56 then (some T55) else none)) else (bif Nat.blt t 58 then (some T57) else (bif Nat.blt t 59 then (some T58) else none))) else none) else none) else (bif Nat.blt t 94 then none else (bif Nat.blt t 101 then (bif Nat.blt t 97 then (bif Nat.blt t 95 then none else (bif Nat.blt t 96 then (some T95) else (some T96))) else (bif Nat.blt t 99 then (bif Nat.blt t 98 then (some T97) else (some T98)) else (bif Nat.blt t 100 then none else (some T100)))) else (bif Nat.blt t 104 then (bif Nat.blt t 102 then (some T101) else (bif Nat.blt t 103 then (some T102) else (some T103))) else (bif Nat.blt t 106 then none else (bif Nat.blt t 107 then (some T106) else (some T107)))))))) else (bif Nat.blt t 162 then (bif Nat.blt t 135 then (bif Nat.blt t 121 then (bif Nat.blt t 114 then (bif Nat.blt t 111 then (bif Nat.blt t 109 then (some T108) else (bif Nat.blt t 110 then (some T109) else none)) else (bif Nat.blt t 112 then (some T111) else (bif Nat.blt t 113 then (some T112) else (some T113)))) else (bif Nat.blt t 117 then (bif Nat.blt t 115 then (some T114) else (bif Nat.blt t 116 then none else (some T116))) else (bif Nat.blt t 119 then (bif Nat.blt t 118 then (some T117) else (some T118)) else (bif Nat.blt t 120 then none else (some T120))))) else (bif Nat.blt t 128 then (bif Nat.blt t 124 then (bif Nat.blt t 122 then (some T121) else (bif Nat.blt t 123 then (some T122) else (some T123))) else (bif Nat.blt t 126 then (bif Nat.blt t 125 then (some T124) else none) else (bif Nat.blt t 127 then (some T126) else (some T127)))) else (bif Nat.blt t 131 then (bif Nat.blt t 129 then (some T128) else (bif Nat.blt t 130 then (some T129) else none)) else (bif Nat.blt t 133 then (bif Nat.blt t 132 then (some T131) else (some T132)) else (bif Nat.blt t 134 then (some T133) else (some T134)))))) else (bif Nat.blt t 148 then (bif Nat.blt t 141 then (bif Nat.blt t 138 then (bif Nat.blt t 136 then none else (bif Nat.blt t 137 then (some T136) else none)) else none) else none) else none)) else (bif Nat.blt t 189 then (bif Nat.blt t 175 then (bif Nat.blt t 168 then (bif Nat.blt t 165 then none else (bif Nat.blt t 166 then none else (bif Nat.blt t 167 then (some T166) else (some T167)))) else (bif Nat.blt t 171 then (bif Nat.blt t 169 then (some T168) else (bif Nat.blt t 170 then (some T169) else (some T170))) else (bif Nat.blt t 173 then (bif Nat.blt t 172 then (some T171) else (some T172)) else (bif Nat.blt t 174 then (some T173) else none)))) else (bif Nat.blt t 182 then (bif Nat.blt t 178 then none else (bif Nat.blt t 180 then none else (bif Nat.blt t 181 then none else (some T181)))) else (bif Nat.blt t 185 then (bif Nat.blt t 183 then none else (bif Nat.blt t 184 then (some T183) else none)) else (bif Nat.blt t 187 then (bif Nat.blt t 186 then (some T185) else none) else (bif Nat.blt t 188 then (some T187) else none))))) else (bif Nat.blt t 202 then none else (bif Nat.blt t 209 then (bif Nat.blt t 205 then none else (bif Nat.blt t 207 then (bif Nat.blt t 206 then none else (some T206)) else (bif Nat.blt t 208 then (some T207) else (some T208)))) else (bif Nat.blt t 212 then (bif Nat.blt t 210 then none else (bif Nat.blt t 211 then none else (some T211))) else (bif Nat.blt t 214 then (bif Nat.blt t 213 then (some T212) else none) else none))))))) else none
theorem tok : Tryz.prog.follows .mixedOrders = true ∧ TOK Tryz.prog T := ⟨by kernel_rfl, tok_of (n := 216) (by kernel_rfl) (fun t ht => by
  have h : Nat.blt t 216 = false := by rw [← Bool.not_eq_true, Nat.blt_eq]; omega
  unfold T; rw [h]; rfl)⟩
end Go.Proofs.YtpnbkjinfphlkaaGreat
