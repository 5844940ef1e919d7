/- The seat's types as the evaluator asks for them, and its functions' numbers. Written by gen.py. -/
import Derived.Test.YtlodldendggbhaaGreatAeF
import Derived.Test.YtlodldendggbhaaGreatProg
namespace Go.Proofs.YtlodldendggbhaaGreat
open Go
def T2 : TI := { kd := .scalar 3, sz := 1, by' := 8, zero := [.int .i64 0], eq := [], ft := [] }
def T3 : TI := { kd := .scalar 3, sz := 1, by' := 8, zero := [.int .i64 0], eq := [], ft := [] }
def T4 : TI := { kd := .scalar 10, sz := 1, by' := 1, zero := [.bool false], eq := [], ft := [] }
def T5 : TI := { kd := .scalar 4, sz := 1, by' := 1, zero := [.int .u8 0], eq := [], ft := [] }
def T6 : TI := { kd := .scalar 4, sz := 1, by' := 1, zero := [.int .u8 0], eq := [], ft := [] }
def T7 : TI := { kd := .struct [0, 1, 2, 3], sz := 4, by' := 24, zero := [.int .i64 0, .int .i64 0, .bool false, .int .u8 0], eq := [], ft := [2, 3, 4, 6] }
def T8 : TI := { kd := .struct [0, 1, 2, 3], sz := 4, by' := 24, zero := [.int .i64 0, .int .i64 0, .bool false, .int .u8 0], eq := [], ft := [2, 3, 4, 6] }
def T9 : TI := { kd := .scalar 20, sz := 1, by' := 16, zero := [.str ⟨#[]⟩], eq := [], ft := [] }
def T10 : TI := { kd := .scalar 20, sz := 1, by' := 16, zero := [.str ⟨#[]⟩], eq := [], ft := [] }
def T11 : TI := { kd := .scalar 20, sz := 1, by' := 16, zero := [.str ⟨#[]⟩], eq := [], ft := [] }
def T12 : TI := { kd := .scalar 7, sz := 1, by' := 8, zero := [.int .u64 0], eq := [], ft := [] }
def T13 : TI := { kd := .struct [0, 1], sz := 2, by' := 24, zero := [.str ⟨#[]⟩, .int .u64 0], eq := [], ft := [9, 12] }
def T14 : TI := { kd := .struct [0, 1], sz := 2, by' := 24, zero := [.str ⟨#[]⟩, .int .u64 0], eq := [], ft := [9, 12] }
def T21 : TI := { kd := .scalar 2, sz := 1, by' := 4, zero := [.int .i32 0], eq := [], ft := [] }
def T22 : TI := { kd := .slice 92, sz := 1, by' := 24, zero := [.nil], eq := [], ft := [] }
def T23 : TI := { kd := .slice 97, sz := 1, by' := 24, zero := [.nil], eq := [], ft := [] }
def T24 : TI := { kd := .slice 120, sz := 1, by' := 24, zero := [.nil], eq := [], ft := [] }
def T25 : TI := { kd := .slice 125, sz := 1, by' := 24, zero := [.nil], eq := [], ft := [] }
def T26 : TI := { kd := .slice 128, sz := 1, by' := 24, zero := [.nil], eq := [], ft := [] }
def T27 : TI := { kd := .slice 132, sz := 1, by' := 24, zero := [.nil], eq := [], ft := [] }
def T28 : TI := { kd := .struct [0, 1, 2, 3, 4, 5, 6, 7], sz := 8, by' := 160, zero := [.int .i64 0, .nil, .nil, .nil, .nil, .nil, .nil, .int .i64 0], eq := [], ft := [3, 22, 23, 24, 25, 26, 27, 3] }
def T29 : TI := { kd := .struct [0, 1, 2, 3, 4, 5, 6, 7], sz := 8, by' := 160, zero := [.int .i64 0, .nil, .nil, .nil, .nil, .nil, .nil, .int .i64 0], eq := [], ft := [3, 22, 23, 24, 25, 26, 27, 3] }
def T30 : TI := { kd := .struct [0, 1], sz := 2, by' := 16, zero := [.int .i64 0, .int .i64 0], eq := [3, 3], ft := [3, 3] }
def T31 : TI := { kd := .struct [0, 1], sz := 2, by' := 16, zero := [.int .i64 0, .int .i64 0], eq := [3, 3], ft := [3, 3] }
def T32 : TI := { kd := .struct [0, 2], sz := 3, by' := 24, zero := [.int .i64 0, .int .i64 0, .int .i64 0], eq := [3, 3, 3], ft := [31, 3] }
def T33 : TI := { kd := .struct [0, 2], sz := 3, by' := 24, zero := [.int .i64 0, .int .i64 0, .int .i64 0], eq := [3, 3, 3], ft := [31, 3] }
def T35 : TI := { kd := .struct [0, 1], sz := 2, by' := 16, zero := [.int .i64 0, .int .i64 0], eq := [3, 3], ft := [3, 3] }
def T36 : TI := { kd := .slice 35, sz := 1, by' := 24, zero := [.nil], eq := [], ft := [] }
def T37 : TI := { kd := .struct [0, 1, 3], sz := 4, by' := 48, zero := [.int .i64 0, .int .i64 0, .int .i64 0, .nil], eq := [], ft := [3, 35, 36] }
def T38 : TI := { kd := .struct [0, 1, 3], sz := 4, by' := 48, zero := [.int .i64 0, .int .i64 0, .int .i64 0, .nil], eq := [], ft := [3, 35, 36] }
def T40 : TI := { kd := .slice 108, sz := 1, by' := 24, zero := [.nil], eq := [], ft := [] }
def T41 : TI := { kd := .slice 113, sz := 1, by' := 24, zero := [.nil], eq := [], ft := [] }
def T42 : TI := { kd := .slice 116, sz := 1, by' := 24, zero := [.nil], eq := [], ft := [] }
def T43 : TI := { kd := .slice 122, sz := 1, by' := 24, zero := [.nil], eq := [], ft := [] }
def T44 : TI := { kd := .slice 102, sz := 1, by' := 24, zero := [.nil], eq := [], ft := [] }
def T45 : TI := { kd := .slice 130, sz := 1, by' := 24, zero := [.nil], eq := [], ft := [] }
def T46 : TI := { kd := .struct [0, 1, 2, 3, 4, 5, 6, 7], sz := 8, by' := 160, zero := [.int .i64 0, .nil, .nil, .nil, .nil, .nil, .nil, .int .i64 0], eq := [], ft := [3, 40, 41, 42, 43, 44, 45, 3] }
def T47 : TI := { kd := .struct [0, 1, 2, 3, 4, 5, 6, 7], sz := 8, by' := 160, zero := [.int .i64 0, .nil, .nil, .nil, .nil, .nil, .nil, .int .i64 0], eq := [], ft := [3, 40, 41, 42, 43, 44, 45, 3] }
def T49 : TI := { kd := .struct [0, 2], sz := 3, by' := 24, zero := [.int .i64 0, .int .i64 0, .int .i64 0], eq := [3, 3, 3], ft := [35, 3] }
def T50 : TI := { kd := .struct [0, 2], sz := 3, by' := 24, zero := [.int .i64 0, .int .i64 0, .int .i64 0], eq := [3, 3, 3], ft := [35, 3] }
def T88 : TI := { kd := .slice 177, sz := 1, by' := 24, zero := [.nil], eq := [], ft := [] }
def T89 : TI := { kd := .slice 179, sz := 1, by' := 24, zero := [.nil], eq := [], ft := [] }
def T90 : TI := { kd := .slice 3, sz := 1, by' := 24, zero := [.nil], eq := [], ft := [] }
def T91 : TI := { kd := .struct [0, 2, 3, 4, 5], sz := 6, by' := 96, zero := [.int .i64 0, .int .i64 0, .nil, .nil, .nil, .int .i64 0], eq := [], ft := [31, 88, 89, 90, 3] }
def T92 : TI := { kd := .struct [0, 2, 3, 4, 5], sz := 6, by' := 96, zero := [.int .i64 0, .int .i64 0, .nil, .nil, .nil, .int .i64 0], eq := [], ft := [31, 88, 89, 90, 3] }
def T94 : TI := { kd := .slice 181, sz := 1, by' := 24, zero := [.nil], eq := [], ft := [] }
def T95 : TI := { kd := .slice 183, sz := 1, by' := 24, zero := [.nil], eq := [], ft := [] }
def T96 : TI := { kd := .struct [0, 1, 2, 3, 4, 5, 6, 7], sz := 8, by' := 128, zero := [.int .i64 0, .int .i64 0, .int .i64 0, .nil, .nil, .nil, .nil, .int .i64 0], eq := [], ft := [3, 3, 3, 24, 94, 26, 95, 3] }
def T97 : TI := { kd := .struct [0, 1, 2, 3, 4, 5, 6, 7], sz := 8, by' := 128, zero := [.int .i64 0, .int .i64 0, .int .i64 0, .nil, .nil, .nil, .nil, .int .i64 0], eq := [], ft := [3, 3, 3, 24, 94, 26, 95, 3] }
def T100 : TI := { kd := .struct [0, 1], sz := 2, by' := 16, zero := [.int .i64 0, .int .i64 0], eq := [3, 3], ft := [3, 3] }
def T101 : TI := { kd := .struct [0, 1, 2, 4, 5, 6], sz := 8, by' := 64, zero := [.int .i64 0, .int .i64 0, .int .i64 0, .int .i64 0, .int .i64 0, .int .i64 0, .int .i64 0, .int .i64 0], eq := [3, 3, 3, 3, 3, 3, 3, 3], ft := [3, 3, 100, 3, 3, 35] }
def T102 : TI := { kd := .struct [0, 1, 2, 4, 5, 6], sz := 8, by' := 64, zero := [.int .i64 0, .int .i64 0, .int .i64 0, .int .i64 0, .int .i64 0, .int .i64 0, .int .i64 0, .int .i64 0], eq := [3, 3, 3, 3, 3, 3, 3, 3], ft := [3, 3, 100, 3, 3, 35] }
def T105 : TI := { kd := .slice 167, sz := 1, by' := 24, zero := [.nil], eq := [], ft := [] }
def T106 : TI := { kd := .slice 169, sz := 1, by' := 24, zero := [.nil], eq := [], ft := [] }
def T107 : TI := { kd := .struct [0, 2, 3, 4, 5], sz := 6, by' := 96, zero := [.int .i64 0, .int .i64 0, .nil, .nil, .nil, .int .i64 0], eq := [], ft := [35, 105, 106, 90, 3] }
def T108 : TI := { kd := .struct [0, 2, 3, 4, 5], sz := 6, by' := 96, zero := [.int .i64 0, .int .i64 0, .nil, .nil, .nil, .int .i64 0], eq := [], ft := [35, 105, 106, 90, 3] }
def T110 : TI := { kd := .slice 171, sz := 1, by' := 24, zero := [.nil], eq := [], ft := [] }
def T111 : TI := { kd := .slice 173, sz := 1, by' := 24, zero := [.nil], eq := [], ft := [] }
def T112 : TI := { kd := .struct [0, 1, 2, 3, 4, 5, 6, 7], sz := 8, by' := 128, zero := [.int .i64 0, .int .i64 0, .int .i64 0, .nil, .nil, .nil, .nil, .int .i64 0], eq := [], ft := [3, 3, 3, 42, 110, 44, 111, 3] }
def T113 : TI := { kd := .struct [0, 1, 2, 3, 4, 5, 6, 7], sz := 8, by' := 128, zero := [.int .i64 0, .int .i64 0, .int .i64 0, .nil, .nil, .nil, .nil, .int .i64 0], eq := [], ft := [3, 3, 3, 42, 110, 44, 111, 3] }
def T115 : TI := { kd := .struct [0, 1, 3, 4, 5, 6], sz := 7, by' := 56, zero := [.int .i64 0, .int .i64 0, .int .i64 0, .int .i64 0, .int .i64 0, .int .i64 0, .bool false], eq := [3, 3, 3, 3, 3, 3, 10], ft := [3, 100, 3, 3, 3, 4] }
def T116 : TI := { kd := .struct [0, 1, 3, 4, 5, 6], sz := 7, by' := 56, zero := [.int .i64 0, .int .i64 0, .int .i64 0, .int .i64 0, .int .i64 0, .int .i64 0, .bool false], eq := [3, 3, 3, 3, 3, 3, 10], ft := [3, 100, 3, 3, 3, 4] }
def T118 : TI := { kd := .struct [0, 1], sz := 2, by' := 16, zero := [.int .i64 0, .int .i64 0], eq := [3, 3], ft := [3, 3] }
def T119 : TI := { kd := .struct [0, 1, 3, 4, 5, 6], sz := 7, by' := 56, zero := [.int .i64 0, .int .i64 0, .int .i64 0, .int .i64 0, .int .i64 0, .int .i64 0, .bool false], eq := [3, 3, 3, 3, 3, 3, 10], ft := [3, 118, 3, 3, 3, 4] }
def T120 : TI := { kd := .struct [0, 1, 3, 4, 5, 6], sz := 7, by' := 56, zero := [.int .i64 0, .int .i64 0, .int .i64 0, .int .i64 0, .int .i64 0, .int .i64 0, .bool false], eq := [3, 3, 3, 3, 3, 3, 10], ft := [3, 118, 3, 3, 3, 4] }
def T121 : TI := { kd := .struct [0, 1, 3], sz := 4, by' := 32, zero := [.int .i64 0, .int .i64 0, .int .i64 0, .int .i64 0], eq := [3, 3, 3, 3], ft := [3, 100, 3] }
def T122 : TI := { kd := .struct [0, 1, 3], sz := 4, by' := 32, zero := [.int .i64 0, .int .i64 0, .int .i64 0, .int .i64 0], eq := [3, 3, 3, 3], ft := [3, 100, 3] }
def T124 : TI := { kd := .struct [0, 1, 3], sz := 4, by' := 32, zero := [.int .i64 0, .int .i64 0, .int .i64 0, .int .i64 0], eq := [3, 3, 3, 3], ft := [3, 118, 3] }
def T125 : TI := { kd := .struct [0, 1, 3], sz := 4, by' := 32, zero := [.int .i64 0, .int .i64 0, .int .i64 0, .int .i64 0], eq := [3, 3, 3, 3], ft := [3, 118, 3] }
def T127 : TI := { kd := .struct [0, 1, 2, 4, 5, 6], sz := 8, by' := 64, zero := [.int .i64 0, .int .i64 0, .int .i64 0, .int .i64 0, .int .i64 0, .int .i64 0, .int .i64 0, .int .i64 0], eq := [3, 3, 3, 3, 3, 3, 3, 3], ft := [3, 3, 118, 3, 3, 31] }
def T128 : TI := { kd := .struct [0, 1, 2, 4, 5, 6], sz := 8, by' := 64, zero := [.int .i64 0, .int .i64 0, .int .i64 0, .int .i64 0, .int .i64 0, .int .i64 0, .int .i64 0, .int .i64 0], eq := [3, 3, 3, 3, 3, 3, 3, 3], ft := [3, 3, 118, 3, 3, 31] }
def T129 : TI := { kd := .struct [0, 1, 2, 3], sz := 4, by' := 32, zero := [.int .i64 0, .int .i64 0, .int .i64 0, .int .i64 0], eq := [3, 3, 3, 3], ft := [3, 3, 3, 3] }
def T130 : TI := { kd := .struct [0, 1, 2, 3], sz := 4, by' := 32, zero := [.int .i64 0, .int .i64 0, .int .i64 0, .int .i64 0], eq := [3, 3, 3, 3], ft := [3, 3, 3, 3] }
def T132 : TI := { kd := .struct [0, 1, 2, 3], sz := 4, by' := 32, zero := [.int .i64 0, .int .i64 0, .int .i64 0, .int .i64 0], eq := [3, 3, 3, 3], ft := [3, 3, 3, 3] }
def T166 : TI := { kd := .struct [0, 1, 2, 3, 4], sz := 5, by' := 40, zero := [.int .i64 0, .int .i64 0, .int .i64 0, .int .i64 0, .int .i64 0], eq := [3, 3, 3, 3, 3], ft := [3, 3, 3, 3, 3] }
def T167 : TI := { kd := .struct [0, 1, 2, 3, 4], sz := 5, by' := 40, zero := [.int .i64 0, .int .i64 0, .int .i64 0, .int .i64 0, .int .i64 0], eq := [3, 3, 3, 3, 3], ft := [3, 3, 3, 3, 3] }
def T168 : TI := { kd := .struct [0, 1, 2, 3, 4, 5], sz := 6, by' := 48, zero := [.int .i64 0, .int .i64 0, .int .i64 0, .int .i64 0, .int .i64 0, .int .i64 0], eq := [3, 3, 3, 3, 3, 3], ft := [3, 3, 3, 3, 3, 3] }
def T169 : TI := { kd := .struct [0, 1, 2, 3, 4, 5], sz := 6, by' := 48, zero := [.int .i64 0, .int .i64 0, .int .i64 0, .int .i64 0, .int .i64 0, .int .i64 0], eq := [3, 3, 3, 3, 3, 3], ft := [3, 3, 3, 3, 3, 3] }
def T170 : TI := { kd := .struct [0, 1, 2], sz := 3, by' := 24, zero := [.int .i64 0, .int .i64 0, .int .i64 0], eq := [3, 3, 3], ft := [3, 3, 3] }
def T171 : TI := { kd := .struct [0, 1, 2], sz := 3, by' := 24, zero := [.int .i64 0, .int .i64 0, .int .i64 0], eq := [3, 3, 3], ft := [3, 3, 3] }
def T172 : TI := { kd := .struct [0, 1, 2, 3], sz := 4, by' := 32, zero := [.int .i64 0, .int .i64 0, .int .i64 0, .int .i64 0], eq := [3, 3, 3, 3], ft := [3, 3, 3, 3] }
def T173 : TI := { kd := .struct [0, 1, 2, 3], sz := 4, by' := 32, zero := [.int .i64 0, .int .i64 0, .int .i64 0, .int .i64 0], eq := [3, 3, 3, 3], ft := [3, 3, 3, 3] }
def T177 : TI := { kd := .struct [0, 1, 2, 3, 4], sz := 5, by' := 40, zero := [.int .i64 0, .int .i64 0, .int .i64 0, .int .i64 0, .int .i64 0], eq := [3, 3, 3, 3, 3], ft := [3, 3, 3, 3, 3] }
def T179 : TI := { kd := .struct [0, 1, 2, 3, 4, 5], sz := 6, by' := 48, zero := [.int .i64 0, .int .i64 0, .int .i64 0, .int .i64 0, .int .i64 0, .int .i64 0], eq := [3, 3, 3, 3, 3, 3], ft := [3, 3, 3, 3, 3, 3] }
def T181 : TI := { kd := .struct [0, 1, 2], sz := 3, by' := 24, zero := [.int .i64 0, .int .i64 0, .int .i64 0], eq := [3, 3, 3], ft := [3, 3, 3] }
def T183 : TI := { kd := .struct [0, 1, 2, 3], sz := 4, by' := 32, zero := [.int .i64 0, .int .i64 0, .int .i64 0, .int .i64 0], eq := [3, 3, 3, 3], ft := [3, 3, 3, 3] }
def T199 : TI := { kd := .scalar 6, sz := 1, by' := 4, zero := [.int .u32 0], eq := [], ft := [] }
def T200 : TI := { kd := .scalar 4, sz := 1, by' := 1, zero := [.int .u8 0], eq := [], ft := [] }
def T201 : TI := { kd := .scalar 4, sz := 1, by' := 1, zero := [.int .u8 0], eq := [], ft := [] }
def T204 : TI := { kd := .scalar 2, sz := 1, by' := 4, zero := [.int .i32 0], eq := [], ft := [] }
def T205 : TI := { kd := .scalar 2, sz := 1, by' := 4, zero := [.int .i32 0], eq := [], ft := [] }
def T (t : Nat) : Option TI := bif Nat.blt t 209 then (bif Nat.blt t 104 then (bif Nat.blt t 52 then (bif Nat.blt t 26 then (bif Nat.blt t 13 then (bif Nat.blt t 6 then (bif Nat.blt t 3 then (bif Nat.blt t 1 then none else (bif Nat.blt t 2 then none else (some T2))) else (bif Nat.blt t 4 then (some T3) else (bif Nat.blt t 5 then (some T4) else (some T5)))) else (bif Nat.blt t 9 then (bif Nat.blt t 7 then (some T6) else (bif Nat.blt t 8 then (some T7) else (some T8))) else (bif Nat.blt t 11 then (bif Nat.blt t 10 then (some T9) else (some T10)) else (bif Nat.blt t 12 then (some T11) else (some T12))))) else (bif Nat.blt t 19 then (bif Nat.blt t 16 then (bif Nat.blt t 14 then (some T13) else (bif Nat.blt t 15 then (some T14) else none)) else none) else (bif Nat.blt t 22 then (bif Nat.blt t 20 then none else (bif Nat.blt t 21 then none else (some T21))) else (bif Nat.blt t 24 then (bif Nat.blt t 23 then (some T22) else (some T23)) else (bif Nat.blt t 25 then (some T24) else (some T25)))))) else (bif Nat.blt t 39 then (bif Nat.blt t 32 then (bif Nat.blt t 29 then (bif Nat.blt t 27 then (some T26) else (bif Nat.blt t 28 then (some T27) else (some T28))) else (bif Nat.blt t 30 then (some T29) else (bif Nat.blt t 31 then (some T30) else (some T31)))) else (bif Nat.blt t 35 then (bif Nat.blt t 33 then (some T32) else (bif Nat.blt t 34 then (some T33) else none)) else (bif Nat.blt t 37 then (bif Nat.blt t 36 then (some T35) else (some T36)) else (bif Nat.blt t 38 then (some T37) else (some T38))))) else (bif Nat.blt t 45 then (bif Nat.blt t 42 then (bif Nat.blt t 40 then none else (bif Nat.blt t 41 then (some T40) else (some T41))) else (bif Nat.blt t 43 then (some T42) else (bif Nat.blt t 44 then (some T43) else (some T44)))) else (bif Nat.blt t 48 then (bif Nat.blt t 46 then (some T45) else (bif Nat.blt t 47 then (some T46) else (some T47))) else (bif Nat.blt t 50 then (bif Nat.blt t 49 then none else (some T49)) else (bif Nat.blt t 51 then (some T50) else none)))))) else (bif Nat.blt t 78 then none else (bif Nat.blt t 91 then (bif Nat.blt t 84 then none else (bif Nat.blt t 87 then none else (bif Nat.blt t 89 then (bif Nat.blt t 88 then none else (some T88)) else (bif Nat.blt t 90 then (some T89) else (some T90))))) else (bif Nat.blt t 97 then (bif Nat.blt t 94 then (bif Nat.blt t 92 then (some T91) else (bif Nat.blt t 93 then (some T92) else none)) else (bif Nat.blt t 95 then (some T94) else (bif Nat.blt t 96 then (some T95) else (some T96)))) else (bif Nat.blt t 100 then (bif Nat.blt t 98 then (some T97) else none) else (bif Nat.blt t 102 then (bif Nat.blt t 101 then (some T100) else (some T101)) else (bif Nat.blt t 103 then (some T102) else none))))))) else (bif Nat.blt t 156 then (bif Nat.blt t 130 then (bif Nat.blt t 117 then (bif Nat.blt t 110 then (bif Nat.blt t 107 then (bif Nat.blt t 105 then none else (bif Nat.blt t 106 then (some T105) else (some T106))) else (bif Nat.blt t 108 then (some T107) else (bif Nat.blt t 109 then (some T108) else none))) else (bif Nat.blt t 113 then (bif Nat.blt t 111 then (some T110) else (bif Nat.blt t 112 then (some T111) else (some T112))) else (bif Nat.blt t 115 then (bif Nat.blt t 114 then (some T113) else none) else (bif Nat.blt t 116 then (some T115) else (some T116))))) else (bif Nat.blt t 123 then (bif Nat.blt t 120 then (bif Nat.blt t 118 then none else (bif Nat.blt t 119 then (some T118) else (some T119))) else (bif Nat.blt t 121 then (some T120) else (bif Nat.blt t 122 then (some T121) else (some T122)))) else (bif Nat.blt t 126 then (bif Nat.blt t 124 then none else (bif Nat.blt t 125 then (some T124) else (some T125))) else (bif Nat.blt t 128 then (bif Nat.blt t 127 then none else (some T127)) else (bif Nat.blt t 129 then (some T128) else (some T129)))))) else (bif Nat.blt t 143 then (bif Nat.blt t 136 then (bif Nat.blt t 133 then (bif Nat.blt t 131 then (some T130) else (bif Nat.blt t 132 then none else (some T132))) else none) else none) else none)) else (bif Nat.blt t 182 then (bif Nat.blt t 169 then (bif Nat.blt t 162 then none else (bif Nat.blt t 165 then none else (bif Nat.blt t 167 then (bif Nat.blt t 166 then none else (some T166)) else (bif Nat.blt t 168 then (some T167) else (some T168))))) else (bif Nat.blt t 175 then (bif Nat.blt t 172 then (bif Nat.blt t 170 then (some T169) else (bif Nat.blt t 171 then (some T170) else (some T171))) else (bif Nat.blt t 173 then (some T172) else (bif Nat.blt t 174 then (some T173) else none))) else (bif Nat.blt t 178 then (bif Nat.blt t 176 then none else (bif Nat.blt t 177 then none else (some T177))) else (bif Nat.blt t 180 then (bif Nat.blt t 179 then none else (some T179)) else (bif Nat.blt t 181 then none else (some T181)))))) else (bif Nat.blt t 195 then (bif Nat.blt t 188 then (bif Nat.blt t 185 then (bif Nat.blt t 183 then none else (bif Nat.blt t 184 then (some T183) else none)) else none) else none) else (bif Nat.blt t 202 then (bif Nat.blt t 198 then none else (bif Nat.blt t 200 then (bif Nat.blt t 199 then none else (some T199)) else (bif Nat.blt t 201 then (some T200) else (some T201)))) else (bif Nat.blt t 205 then (bif Nat.blt t 203 then none else (bif Nat.blt t 204 then none else (some T204))) else (bif Nat.blt t 207 then (bif Nat.blt t 206 then (some T205) else none) else none))))))) else none
theorem tok : Tryz.prog.follows .mixedOrders = true ∧ TOK Tryz.prog T := ⟨by kernel_rfl, tok_of (n := 209) (by kernel_rfl) (fun t ht => by
  have h : Nat.blt t 209 = false := by rw [← Bool.not_eq_true, Nat.blt_eq]; omega
  unfold T; rw [h]; rfl)⟩
end Go.Proofs.YtlodldendggbhaaGreat
