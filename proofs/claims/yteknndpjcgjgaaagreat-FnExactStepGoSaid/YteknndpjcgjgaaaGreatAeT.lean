/- The seat's types as the evaluator asks for them, and its functions' numbers. Written by gen.py. -/
import Derived.Test.YteknndpjcgjgaaaGreatAeF
import Derived.Test.YteknndpjcgjgaaaGreatProg
namespace Go.Proofs.YteknndpjcgjgaaaGreat
open Go
def T2 : TI := { kd := .scalar 3, sz := 1, by' := 8, zero := [.int .i64 0], eq := [], ft := [] }
def T3 : TI := { kd := .scalar 3, sz := 1, by' := 8, zero := [.int .i64 0], eq := [], ft := [] }
def T4 : TI := { kd := .scalar 10, sz := 1, by' := 1, zero := [.bool false], eq := [], ft := [] }
def T5 : TI := { kd := .scalar 4, sz := 1, by' := 1, zero := [.int .u8 0], eq := [], ft := [] }
def T6 : TI := { kd := .scalar 4, sz := 1, by' := 1, zero := [.int .u8 0], eq := [], ft := [] }
def T7 : TI := { kd := .struct [0, 1, 2, 3], sz := 4, by' := 24, zero := [.int .i64 0, .int .i64 0, .bool false, .int .u8 0], eq := [], ft := [2, 3, 4, 6] }
def T8 : TI := { kd := .struct [0, 1, 2, 3], sz := 4, by' := 24, zero := [.int .i64 0, .int .i64 0, .bool false, .int .u8 0], eq := [], ft := [2, 3, 4, 6] }
def T9 : TI := { kd := .scalar 20, sz := 1, by' := 16, zero := [.str ⟨#[]⟩], eq := [], ft := [] }
def T10 : TI := { kd := .scalar 20, sz := 1, by' := 16, zero := [.str ⟨#[]⟩], eq := [], ft := [] }
def T11 : TI := { kd := .scalar 20, sz := 1, by' := 16, zero := [.str ⟨#[]⟩], eq := [], ft := [] }
def T12 : TI := { kd := .scalar 7, sz := 1, by' := 8, zero := [.int .u64 0], eq := [], ft := [] }
def T13 : TI := { kd := .struct [0, 1], sz := 2, by' := 24, zero := [.str ⟨#[]⟩, .int .u64 0], eq := [], ft := [9, 12] }
def T14 : TI := { kd := .struct [0, 1], sz := 2, by' := 24, zero := [.str ⟨#[]⟩, .int .u64 0], eq := [], ft := [9, 12] }
def T21 : TI := { kd := .scalar 2, sz := 1, by' := 4, zero := [.int .i32 0], eq := [], ft := [] }
def T22 : TI := { kd := .slice 105, sz := 1, by' := 24, zero := [.nil], eq := [], ft := [] }
def T23 : TI := { kd := .slice 110, sz := 1, by' := 24, zero := [.nil], eq := [], ft := [] }
def T24 : TI := { kd := .slice 124, sz := 1, by' := 24, zero := [.nil], eq := [], ft := [] }
def T25 : TI := { kd := .slice 33, sz := 1, by' := 24, zero := [.nil], eq := [], ft := [] }
def T26 : TI := { kd := .slice 129, sz := 1, by' := 24, zero := [.nil], eq := [], ft := [] }
def T27 : TI := { kd := .slice 133, sz := 1, by' := 24, zero := [.nil], eq := [], ft := [] }
def T28 : TI := { kd := .struct [0, 1, 2, 3, 4, 5, 6, 7], sz := 8, by' := 160, zero := [.int .i64 0, .nil, .nil, .nil, .nil, .nil, .nil, .int .i64 0], eq := [], ft := [3, 22, 23, 24, 25, 26, 27, 3] }
def T29 : TI := { kd := .struct [0, 1, 2, 3, 4, 5, 6, 7], sz := 8, by' := 160, zero := [.int .i64 0, .nil, .nil, .nil, .nil, .nil, .nil, .int .i64 0], eq := [], ft := [3, 22, 23, 24, 25, 26, 27, 3] }
def T30 : TI := { kd := .struct [0, 1], sz := 2, by' := 16, zero := [.int .i64 0, .int .i64 0], eq := [3, 3], ft := [3, 3] }
def T31 : TI := { kd := .struct [0, 1], sz := 2, by' := 16, zero := [.int .i64 0, .int .i64 0], eq := [3, 3], ft := [3, 3] }
def T32 : TI := { kd := .struct [0, 1, 3], sz := 4, by' := 32, zero := [.int .i64 0, .int .i64 0, .int .i64 0, .int .i64 0], eq := [3, 3, 3, 3], ft := [3, 31, 3] }
def T33 : TI := { kd := .struct [0, 1, 3], sz := 4, by' := 32, zero := [.int .i64 0, .int .i64 0, .int .i64 0, .int .i64 0], eq := [3, 3, 3, 3], ft := [3, 31, 3] }
def T35 : TI := { kd := .slice 92, sz := 1, by' := 24, zero := [.nil], eq := [], ft := [] }
def T36 : TI := { kd := .slice 115, sz := 1, by' := 24, zero := [.nil], eq := [], ft := [] }
def T37 : TI := { kd := .slice 121, sz := 1, by' := 24, zero := [.nil], eq := [], ft := [] }
def T38 : TI := { kd := .slice 48, sz := 1, by' := 24, zero := [.nil], eq := [], ft := [] }
def T39 : TI := { kd := .slice 126, sz := 1, by' := 24, zero := [.nil], eq := [], ft := [] }
def T40 : TI := { kd := .slice 131, sz := 1, by' := 24, zero := [.nil], eq := [], ft := [] }
def T41 : TI := { kd := .struct [0, 1, 2, 3, 4, 5, 6, 7], sz := 8, by' := 160, zero := [.int .i64 0, .nil, .nil, .nil, .nil, .nil, .nil, .int .i64 0], eq := [], ft := [3, 35, 36, 37, 38, 39, 40, 3] }
def T42 : TI := { kd := .struct [0, 1, 2, 3, 4, 5, 6, 7], sz := 8, by' := 160, zero := [.int .i64 0, .nil, .nil, .nil, .nil, .nil, .nil, .int .i64 0], eq := [], ft := [3, 35, 36, 37, 38, 39, 40, 3] }
def T46 : TI := { kd := .struct [0, 1], sz := 2, by' := 16, zero := [.int .i64 0, .int .i64 0], eq := [3, 3], ft := [3, 3] }
def T47 : TI := { kd := .struct [0, 1, 3], sz := 4, by' := 32, zero := [.int .i64 0, .int .i64 0, .int .i64 0, .int .i64 0], eq := [3, 3, 3, 3], ft := [3, 46, 3] }
def T48 : TI := { kd := .struct [0, 1, 3], sz := 4, by' := 32, zero := [.int .i64 0, .int .i64 0, .int .i64 0, .int .i64 0], eq := [3, 3, 3, 3], ft := [3, 46, 3] }
def T55 : TI := { kd := .struct [0, 1], sz := 2, by' := 16, zero := [.int .i64 0, .int .i64 0], eq := [3, 3], ft := [3, 3] }
def T57 : TI := { kd := .struct [0, 1], sz := 2, by' := 16, zero := [.int .i64 0, .int .i64 0], eq := [3, 3], ft := [3, 3] }
def T88 : TI := { kd := .slice 100, sz := 1, by' := 24, zero := [.nil], eq := [], ft := [] }
def T89 : TI := { kd := .slice 166, sz := 1, by' := 24, zero := [.nil], eq := [], ft := [] }
def T90 : TI := { kd := .slice 3, sz := 1, by' := 24, zero := [.nil], eq := [], ft := [] }
def T91 : TI := { kd := .struct [0, 2, 3, 4, 5], sz := 6, by' := 96, zero := [.int .i64 0, .int .i64 0, .nil, .nil, .nil, .int .i64 0], eq := [], ft := [57, 88, 89, 90, 3] }
def T92 : TI := { kd := .struct [0, 2, 3, 4, 5], sz := 6, by' := 96, zero := [.int .i64 0, .int .i64 0, .nil, .nil, .nil, .int .i64 0], eq := [], ft := [57, 88, 89, 90, 3] }
def T99 : TI := { kd := .struct [0, 1, 2, 3, 4], sz := 5, by' := 40, zero := [.int .i64 0, .int .i64 0, .int .i64 0, .int .i64 0, .int .i64 0], eq := [3, 3, 3, 3, 3], ft := [3, 3, 3, 3, 3] }
def T100 : TI := { kd := .struct [0, 1, 2, 3, 4], sz := 5, by' := 40, zero := [.int .i64 0, .int .i64 0, .int .i64 0, .int .i64 0, .int .i64 0], eq := [3, 3, 3, 3, 3], ft := [3, 3, 3, 3, 3] }
def T102 : TI := { kd := .slice 184, sz := 1, by' := 24, zero := [.nil], eq := [], ft := [] }
def T103 : TI := { kd := .slice 186, sz := 1, by' := 24, zero := [.nil], eq := [], ft := [] }
def T104 : TI := { kd := .struct [0, 2, 3, 4, 5], sz := 6, by' := 96, zero := [.int .i64 0, .int .i64 0, .nil, .nil, .nil, .int .i64 0], eq := [], ft := [55, 102, 103, 90, 3] }
def T105 : TI := { kd := .struct [0, 2, 3, 4, 5], sz := 6, by' := 96, zero := [.int .i64 0, .int .i64 0, .nil, .nil, .nil, .int .i64 0], eq := [], ft := [55, 102, 103, 90, 3] }
def T107 : TI := { kd := .slice 188, sz := 1, by' := 24, zero := [.nil], eq := [], ft := [] }
def T108 : TI := { kd := .slice 190, sz := 1, by' := 24, zero := [.nil], eq := [], ft := [] }
def T109 : TI := { kd := .struct [0, 1, 2, 3, 4, 5, 6, 7], sz := 8, by' := 128, zero := [.int .i64 0, .int .i64 0, .int .i64 0, .nil, .nil, .nil, .nil, .int .i64 0], eq := [], ft := [3, 3, 3, 24, 107, 26, 108, 3] }
def T110 : TI := { kd := .struct [0, 1, 2, 3, 4, 5, 6, 7], sz := 8, by' := 128, zero := [.int .i64 0, .int .i64 0, .int .i64 0, .nil, .nil, .nil, .nil, .int .i64 0], eq := [], ft := [3, 3, 3, 24, 107, 26, 108, 3] }
def T112 : TI := { kd := .slice 169, sz := 1, by' := 24, zero := [.nil], eq := [], ft := [] }
def T113 : TI := { kd := .slice 172, sz := 1, by' := 24, zero := [.nil], eq := [], ft := [] }
def T114 : TI := { kd := .struct [0, 1, 2, 3, 4, 5, 6, 7], sz := 8, by' := 128, zero := [.int .i64 0, .int .i64 0, .int .i64 0, .nil, .nil, .nil, .nil, .int .i64 0], eq := [], ft := [3, 3, 3, 37, 112, 39, 113, 3] }
def T115 : TI := { kd := .struct [0, 1, 2, 3, 4, 5, 6, 7], sz := 8, by' := 128, zero := [.int .i64 0, .int .i64 0, .int .i64 0, .nil, .nil, .nil, .nil, .int .i64 0], eq := [], ft := [3, 3, 3, 37, 112, 39, 113, 3] }
def T120 : TI := { kd := .struct [0, 1, 3, 4, 5, 6], sz := 7, by' := 56, zero := [.int .i64 0, .int .i64 0, .int .i64 0, .int .i64 0, .int .i64 0, .int .i64 0, .bool false], eq := [3, 3, 3, 3, 3, 3, 10], ft := [3, 46, 3, 3, 3, 4] }
def T121 : TI := { kd := .struct [0, 1, 3, 4, 5, 6], sz := 7, by' := 56, zero := [.int .i64 0, .int .i64 0, .int .i64 0, .int .i64 0, .int .i64 0, .int .i64 0, .bool false], eq := [3, 3, 3, 3, 3, 3, 10], ft := [3, 46, 3, 3, 3, 4] }
def T123 : TI := { kd := .struct [0, 1, 3, 4, 5, 6], sz := 7, by' := 56, zero := [.int .i64 0, .int .i64 0, .int .i64 0, .int .i64 0, .int .i64 0, .int .i64 0, .bool false], eq := [3, 3, 3, 3, 3, 3, 10], ft := [3, 31, 3, 3, 3, 4] }
def T124 : TI := { kd := .struct [0, 1, 3, 4, 5, 6], sz := 7, by' := 56, zero := [.int .i64 0, .int .i64 0, .int .i64 0, .int .i64 0, .int .i64 0, .int .i64 0, .bool false], eq := [3, 3, 3, 3, 3, 3, 10], ft := [3, 31, 3, 3, 3, 4] }
def T125 : TI := { kd := .struct [0, 1, 2, 4, 5, 6], sz := 8, by' := 64, zero := [.int .i64 0, .int .i64 0, .int .i64 0, .int .i64 0, .int .i64 0, .int .i64 0, .int .i64 0, .int .i64 0], eq := [3, 3, 3, 3, 3, 3, 3, 3], ft := [3, 3, 46, 3, 3, 57] }
def T126 : TI := { kd := .struct [0, 1, 2, 4, 5, 6], sz := 8, by' := 64, zero := [.int .i64 0, .int .i64 0, .int .i64 0, .int .i64 0, .int .i64 0, .int .i64 0, .int .i64 0, .int .i64 0], eq := [3, 3, 3, 3, 3, 3, 3, 3], ft := [3, 3, 46, 3, 3, 57] }
def T128 : TI := { kd := .struct [0, 1, 2, 4, 5, 6], sz := 8, by' := 64, zero := [.int .i64 0, .int .i64 0, .int .i64 0, .int .i64 0, .int .i64 0, .int .i64 0, .int .i64 0, .int .i64 0], eq := [3, 3, 3, 3, 3, 3, 3, 3], ft := [3, 3, 31, 3, 3, 55] }
def T129 : TI := { kd := .struct [0, 1, 2, 4, 5, 6], sz := 8, by' := 64, zero := [.int .i64 0, .int .i64 0, .int .i64 0, .int .i64 0, .int .i64 0, .int .i64 0, .int .i64 0, .int .i64 0], eq := [3, 3, 3, 3, 3, 3, 3, 3], ft := [3, 3, 31, 3, 3, 55] }
def T130 : TI := { kd := .struct [0, 1, 2, 3], sz := 4, by' := 32, zero := [.int .i64 0, .int .i64 0, .int .i64 0, .int .i64 0], eq := [3, 3, 3, 3], ft := [3, 3, 3, 3] }
def T131 : TI := { kd := .struct [0, 1, 2, 3], sz := 4, by' := 32, zero := [.int .i64 0, .int .i64 0, .int .i64 0, .int .i64 0], eq := [3, 3, 3, 3], ft := [3, 3, 3, 3] }
def T133 : TI := { kd := .struct [0, 1, 2, 3], sz := 4, by' := 32, zero := [.int .i64 0, .int .i64 0, .int .i64 0, .int .i64 0], eq := [3, 3, 3, 3], ft := [3, 3, 3, 3] }
def T165 : TI := { kd := .struct [0, 1, 2, 3, 4, 5], sz := 6, by' := 48, zero := [.int .i64 0, .int .i64 0, .int .i64 0, .int .i64 0, .int .i64 0, .int .i64 0], eq := [3, 3, 3, 3, 3, 3], ft := [3, 3, 3, 3, 3, 3] }
def T166 : TI := { kd := .struct [0, 1, 2, 3, 4, 5], sz := 6, by' := 48, zero := [.int .i64 0, .int .i64 0, .int .i64 0, .int .i64 0, .int .i64 0, .int .i64 0], eq := [3, 3, 3, 3, 3, 3], ft := [3, 3, 3, 3, 3, 3] }
def T168 : TI := { kd := .struct [0, 1, 2], sz := 3, by' := 24, zero := [.int .i64 0, .int .i64 0, .int .i64 0], eq := [3, 3, 3], ft := [3, 3, 3] }
def T169 : TI := { kd := .struct [0, 1, 2], sz := 3, by' := 24, zero := [.int .i64 0, .int .i64 0, .int .i64 0], eq := [3, 3, 3], ft := [3, 3, 3] }
def T171 : TI := { kd := .struct [0, 1, 2, 3], sz := 4, by' := 32, zero := [.int .i64 0, .int .i64 0, .int .i64 0, .int .i64 0], eq := [3, 3, 3, 3], ft := [3, 3, 3, 3] }
def T172 : TI := { kd := .struct [0, 1, 2, 3], sz := 4, by' := 32, zero := [.int .i64 0, .int .i64 0, .int .i64 0, .int .i64 0], eq := [3, 3, 3, 3], ft := [3, 3, 3, 3] }
def T184 : TI := { kd := .struct [0, 1, 2, 3, 4], sz := 5, by' := 40, zero := [.int .i64 0, .int .i64 0, .int .i64 0, .int .i64 0, .int .i64 0], eq := [3, 3, 3, 3, 3], ft := [3, 3, 3, 3, 3] }
def T186 : TI := { kd := .struct [0, 1, 2, 3, 4, 5], sz := 6, by' := 48, zero := [.int .i64 0, .int .i64 0, .int .i64 0, .int .i64 0, .int .i64 0, .int .i64 0], eq := [3, 3, 3, 3, 3, 3], ft := [3, 3, 3, 3, 3, 3] }
def T188 : TI := { kd := .struct [0, 1, 2], sz := 3, by' := 24, zero := [.int .i64 0, .int .i64 0, .int .i64 0], eq := [3, 3, 3], ft := [3, 3, 3] }
def T190 : TI := { kd := .struct [0, 1, 2, 3], sz := 4, by' := 32, zero := [.int .i64 0, .int .i64 0, .int .i64 0, .int .i64 0], eq := [3, 3, 3, 3], ft := [3, 3, 3, 3] }
def T202 : TI := { kd := .scalar 6, sz := 1, by' := 4, zero := [.int .u32 0], eq := [], ft := [] }
def T203 : TI := { kd := .scalar 4, sz := 1, by' := 1, zero := [.int .u8 0], eq := [], ft := [] }
def T204 : TI := { kd := .scalar 4, sz := 1, by' := 1, zero := [.int .u8 0], eq := [], ft := [] }
def T207 : TI := { kd := .scalar 2, sz := 1, by' := 4, zero := [.int .i32 0], eq := [], ft := [] }
def T208 : TI := { kd := .scalar 2, sz := 1, by' := 4, zero := [.int .i32 0], eq := [], ft := [] }
def T (t : Nat) : Option TI := bif Nat.blt t 212 then (bif Nat.blt t 106 then (bif Nat.blt t 53 then (bif Nat.blt t 26 then (bif Nat.blt t 13 then (bif Nat.blt t 6 then (bif Nat.blt t 3 then (bif Nat.blt t 1 then none else (bif Nat.blt t 2 then none else (some T2))) else (bif Nat.blt t 4 then (some T3) else (bif Nat.blt t 5 then (some T4) else (some T5)))) else (bif Nat.blt t 9 then (bif Nat.blt t 7 then (some T6) else (bif Nat.blt t 8 then (some T7) else (some T8))) else (bif Nat.blt t 11 then (bif Nat.blt t 10 then (some T9) else (some T10)) else (bif Nat.blt t 12 then (some T11) else (some T12))))) else (bif Nat.blt t 19 then (bif Nat.blt t 16 then (bif Nat.blt t 14 then (some T13) else (bif Nat.blt t 15 then (some T14) else none)) else none) else (bif Nat.blt t 22 then (bif Nat.blt t 20 then none else (bif Nat.blt t 21 then none else (some T21))) else (bif Nat.blt t 24 then (bif Nat.blt t 23 then (some T22) else (some T23)) else (bif Nat.blt t 25 then (some T24) else (some T25)))))) else (bif Nat.blt t 39 then (bif Nat.blt t 32 then (bif Nat.blt t 29 then (bif Nat.blt t 27 then (some T26) else (bif Nat.blt t 28 then (some T27) else (some T28))) else (bif Nat.blt t 30 then (some T29) else (bif Nat.blt t 31 then (some T30) else (some T31)))) else (bif Nat.blt t 35 then (bif Nat.blt t 33 then (some T32) else (bif Nat.blt t 34 then (some T33) else none)) else (bif Nat.blt t 37 then (bif Nat.blt t 36 then (some T35) else (some T36)) else (bif Nat.blt t 38 then (some T37) else (some T38))))) else (bif Nat.blt t 46 then (bif Nat.blt t 42 then (bif Nat.blt t 40 then (some T39) else (bif Nat.blt t 41 then (some T40) else (some T41))) else (bif Nat.blt t 44 then (bif Nat.blt t 43 then (some T42) else none) else none)) else (bif Nat.blt t 49 then (bif Nat.blt t 47 then (some T46) else (bif Nat.blt t 48 then (some T47) else (some T48))) else none)))) else (bif Nat.blt t 79 then (bif Nat.blt t 66 then (bif Nat.blt t 59 then (bif Nat.blt t 56 then (bif Nat.blt t 54 then none else (bif Nat.blt t 55 then none else (some T55))) else (bif Nat.blt t 57 then none else (bif Nat.blt t 58 then (some T57) else none))) else none) else none) else (bif Nat.blt t 92 then (bif Nat.blt t 85 then none else (bif Nat.blt t 88 then none else (bif Nat.blt t 90 then (bif Nat.blt t 89 then (some T88) else (some T89)) else (bif Nat.blt t 91 then (some T90) else (some T91))))) else (bif Nat.blt t 99 then (bif Nat.blt t 95 then (bif Nat.blt t 93 then (some T92) else none) else none) else (bif Nat.blt t 102 then (bif Nat.blt t 100 then (some T99) else (bif Nat.blt t 101 then (some T100) else none)) else (bif Nat.blt t 104 then (bif Nat.blt t 103 then (some T102) else (some T103)) else (bif Nat.blt t 105 then (some T104) else (some T105)))))))) else (bif Nat.blt t 159 then (bif Nat.blt t 132 then (bif Nat.blt t 119 then (bif Nat.blt t 112 then (bif Nat.blt t 109 then (bif Nat.blt t 107 then none else (bif Nat.blt t 108 then (some T107) else (some T108))) else (bif Nat.blt t 110 then (some T109) else (bif Nat.blt t 111 then (some T110) else none))) else (bif Nat.blt t 115 then (bif Nat.blt t 113 then (some T112) else (bif Nat.blt t 114 then (some T113) else (some T114))) else (bif Nat.blt t 117 then (bif Nat.blt t 116 then (some T115) else none) else none))) else (bif Nat.blt t 125 then (bif Nat.blt t 122 then (bif Nat.blt t 120 then none else (bif Nat.blt t 121 then (some T120) else (some T121))) else (bif Nat.blt t 123 then none else (bif Nat.blt t 124 then (some T123) else (some T124)))) else (bif Nat.blt t 128 then (bif Nat.blt t 126 then (some T125) else (bif Nat.blt t 127 then (some T126) else none)) else (bif Nat.blt t 130 then (bif Nat.blt t 129 then (some T128) else (some T129)) else (bif Nat.blt t 131 then (some T130) else (some T131)))))) else (bif Nat.blt t 145 then (bif Nat.blt t 138 then (bif Nat.blt t 135 then (bif Nat.blt t 133 then none else (bif Nat.blt t 134 then (some T133) else none)) else none) else none) else none)) else (bif Nat.blt t 185 then (bif Nat.blt t 172 then (bif Nat.blt t 165 then none else (bif Nat.blt t 168 then (bif Nat.blt t 166 then (some T165) else (bif Nat.blt t 167 then (some T166) else none)) else (bif Nat.blt t 170 then (bif Nat.blt t 169 then (some T168) else (some T169)) else (bif Nat.blt t 171 then none else (some T171))))) else (bif Nat.blt t 178 then (bif Nat.blt t 175 then (bif Nat.blt t 173 then (some T172) else none) else none) else (bif Nat.blt t 181 then none else (bif Nat.blt t 183 then none else (bif Nat.blt t 184 then none else (some T184)))))) else (bif Nat.blt t 198 then (bif Nat.blt t 191 then (bif Nat.blt t 188 then (bif Nat.blt t 186 then none else (bif Nat.blt t 187 then (some T186) else none)) else (bif Nat.blt t 189 then (some T188) else (bif Nat.blt t 190 then none else (some T190)))) else none) else (bif Nat.blt t 205 then (bif Nat.blt t 201 then none else (bif Nat.blt t 203 then (bif Nat.blt t 202 then none else (some T202)) else (bif Nat.blt t 204 then (some T203) else (some T204)))) else (bif Nat.blt t 208 then (bif Nat.blt t 206 then none else (bif Nat.blt t 207 then none else (some T207))) else (bif Nat.blt t 210 then (bif Nat.blt t 209 then (some T208) else none) else none))))))) else none
theorem tok : Tryz.prog.follows .mixedOrders = true ∧ TOK Tryz.prog T := ⟨by kernel_rfl, tok_of (n := 212) (by kernel_rfl) (fun t ht => by
  have h : Nat.blt t 212 = false := by rw [← Bool.not_eq_true, Nat.blt_eq]; omega
  unfold T; rw [h]; rfl)⟩
end Go.Proofs.YteknndpjcgjgaaaGreat
