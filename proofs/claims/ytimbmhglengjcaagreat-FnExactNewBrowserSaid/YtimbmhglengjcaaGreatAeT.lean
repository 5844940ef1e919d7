/- The seat's types as the evaluator asks for them, and its functions' numbers. Written by gen.py. -/
import Derived.Test.YtimbmhglengjcaaGreatAeF
import Derived.Test.YtimbmhglengjcaaGreatProg
namespace Go.Proofs.YtimbmhglengjcaaGreat
open Go
def T2 : TI := { kd := .scalar 3, sz := 1, by' := 8, zero := [.int .i64 0], eq := [], ft := [] }
def T3 : TI := { kd := .scalar 3, sz := 1, by' := 8, zero := [.int .i64 0], eq := [], ft := [] }
def T4 : TI := { kd := .scalar 10, sz := 1, by' := 1, zero := [.bool false], eq := [], ft := [] }
def T5 : TI := { kd := .scalar 4, sz := 1, by' := 1, zero := [.int .u8 0], eq := [], ft := [] }
def T6 : TI := { kd := .scalar 4, sz := 1, by' := 1, zero := [.int .u8 0], eq := [], ft := [] }
def T7 : TI := { kd := .struct [0, 1, 2, 3], sz := 4, by' := 24, zero := [.int .i64 0, .int .i64 0, .bool false, .int .u8 0], eq := [], ft := [2, 3, 4, 6] }
def T8 : TI := { kd := .struct [0, 1, 2, 3], sz := 4, by' := 24, zero := [.int .i64 0, .int .i64 0, .bool false, .int .u8 0], eq := [], ft := [2, 3, 4, 6] }
def T9 : TI := { kd := .scalar 20, sz := 1, by' := 16, zero := [.str ⟨#[]⟩], eq := [], ft := [] }
def T10 : TI := { kd := .scalar 20, sz := 1, by' := 16, zero := [.str ⟨#[]⟩], eq := [], ft := [] }
def T11 : TI := { kd := .scalar 20, sz := 1, by' := 16, zero := [.str ⟨#[]⟩], eq := [], ft := [] }
def T12 : TI := { kd := .scalar 7, sz := 1, by' := 8, zero := [.int .u64 0], eq := [], ft := [] }
def T13 : TI := { kd := .struct [0, 1], sz := 2, by' := 24, zero := [.str ⟨#[]⟩, .int .u64 0], eq := [], ft := [9, 12] }
def T14 : TI := { kd := .struct [0, 1], sz := 2, by' := 24, zero := [.str ⟨#[]⟩, .int .u64 0], eq := [], ft := [9, 12] }
def T21 : TI := { kd := .scalar 2, sz := 1, by' := 4, zero := [.int .i32 0], eq := [], ft := [] }
def T22 : TI := { kd := .slice 122, sz := 1, by' := 24, zero := [.nil], eq := [], ft := [] }
def T23 : TI := { kd := .slice 133, sz := 1, by' := 24, zero := [.nil], eq := [], ft := [] }
def T24 : TI := { kd := .slice 143, sz := 1, by' := 24, zero := [.nil], eq := [], ft := [] }
def T25 : TI := { kd := .slice 146, sz := 1, by' := 24, zero := [.nil], eq := [], ft := [] }
def T26 : TI := { kd := .slice 149, sz := 1, by' := 24, zero := [.nil], eq := [], ft := [] }
def T27 : TI := { kd := .slice 151, sz := 1, by' := 24, zero := [.nil], eq := [], ft := [] }
def T28 : TI := { kd := .struct [0, 1, 2, 3, 4, 5, 6, 7], sz := 8, by' := 160, zero := [.int .i64 0, .nil, .nil, .nil, .nil, .nil, .nil, .int .i64 0], eq := [], ft := [3, 22, 23, 24, 25, 26, 27, 3] }
def T29 : TI := { kd := .struct [0, 1, 2, 3, 4, 5, 6, 7], sz := 8, by' := 160, zero := [.int .i64 0, .nil, .nil, .nil, .nil, .nil, .nil, .int .i64 0], eq := [], ft := [3, 22, 23, 24, 25, 26, 27, 3] }
def T32 : TI := { kd := .slice 91, sz := 1, by' := 24, zero := [.nil], eq := [], ft := [] }
def T33 : TI := { kd := .slice 71, sz := 1, by' := 24, zero := [.nil], eq := [], ft := [] }
def T34 : TI := { kd := .slice 96, sz := 1, by' := 24, zero := [.nil], eq := [], ft := [] }
def T35 : TI := { kd := .slice 99, sz := 1, by' := 24, zero := [.nil], eq := [], ft := [] }
def T36 : TI := { kd := .slice 76, sz := 1, by' := 24, zero := [.nil], eq := [], ft := [] }
def T37 : TI := { kd := .slice 78, sz := 1, by' := 24, zero := [.nil], eq := [], ft := [] }
def T38 : TI := { kd := .struct [0, 1, 2, 3, 4, 5, 6, 7], sz := 8, by' := 160, zero := [.int .i64 0, .nil, .nil, .nil, .nil, .nil, .nil, .int .i64 0], eq := [], ft := [3, 32, 33, 34, 35, 36, 37, 3] }
def T39 : TI := { kd := .struct [0, 1, 2, 3, 4, 5, 6, 7], sz := 8, by' := 160, zero := [.int .i64 0, .nil, .nil, .nil, .nil, .nil, .nil, .int .i64 0], eq := [], ft := [3, 32, 33, 34, 35, 36, 37, 3] }
def T43 : TI := { kd := .slice 3, sz := 1, by' := 24, zero := [.nil], eq := [], ft := [] }
def T44 : TI := { kd := .slice 110, sz := 1, by' := 24, zero := [.nil], eq := [], ft := [] }
def T68 : TI := { kd := .slice 197, sz := 1, by' := 24, zero := [.nil], eq := [], ft := [] }
def T69 : TI := { kd := .slice 166, sz := 1, by' := 24, zero := [.nil], eq := [], ft := [] }
def T70 : TI := { kd := .struct [0, 1, 2, 3, 4, 5, 6, 7], sz := 8, by' := 128, zero := [.int .i64 0, .int .i64 0, .int .i64 0, .nil, .nil, .nil, .nil, .int .i64 0], eq := [], ft := [3, 3, 3, 34, 68, 36, 69, 3] }
def T71 : TI := { kd := .struct [0, 1, 2, 3, 4, 5, 6, 7], sz := 8, by' := 128, zero := [.int .i64 0, .int .i64 0, .int .i64 0, .nil, .nil, .nil, .nil, .int .i64 0], eq := [], ft := [3, 3, 3, 34, 68, 36, 69, 3] }
def T72 : TI := { kd := .struct [0, 1], sz := 2, by' := 16, zero := [.int .i64 0, .int .i64 0], eq := [3, 3], ft := [3, 3] }
def T73 : TI := { kd := .struct [0, 1], sz := 2, by' := 16, zero := [.int .i64 0, .int .i64 0], eq := [3, 3], ft := [3, 3] }
def T74 : TI := { kd := .struct [0, 1], sz := 2, by' := 16, zero := [.int .i64 0, .int .i64 0], eq := [3, 3], ft := [3, 3] }
def T75 : TI := { kd := .struct [0, 1, 2, 4, 5, 6], sz := 8, by' := 64, zero := [.int .i64 0, .int .i64 0, .int .i64 0, .int .i64 0, .int .i64 0, .int .i64 0, .int .i64 0, .int .i64 0], eq := [3, 3, 3, 3, 3, 3, 3, 3], ft := [3, 3, 73, 3, 3, 74] }
def T76 : TI := { kd := .struct [0, 1, 2, 4, 5, 6], sz := 8, by' := 64, zero := [.int .i64 0, .int .i64 0, .int .i64 0, .int .i64 0, .int .i64 0, .int .i64 0, .int .i64 0, .int .i64 0], eq := [3, 3, 3, 3, 3, 3, 3, 3], ft := [3, 3, 73, 3, 3, 74] }
def T77 : TI := { kd := .struct [0, 1, 2, 3], sz := 4, by' := 32, zero := [.int .i64 0, .int .i64 0, .int .i64 0, .int .i64 0], eq := [3, 3, 3, 3], ft := [3, 3, 3, 3] }
def T78 : TI := { kd := .struct [0, 1, 2, 3], sz := 4, by' := 32, zero := [.int .i64 0, .int .i64 0, .int .i64 0, .int .i64 0], eq := [3, 3, 3, 3], ft := [3, 3, 3, 3] }
def T88 : TI := { kd := .slice 188, sz := 1, by' := 24, zero := [.nil], eq := [], ft := [] }
def T89 : TI := { kd := .slice 94, sz := 1, by' := 24, zero := [.nil], eq := [], ft := [] }
def T90 : TI := { kd := .struct [0, 2, 3, 4, 5], sz := 6, by' := 96, zero := [.int .i64 0, .int .i64 0, .nil, .nil, .nil, .int .i64 0], eq := [], ft := [74, 88, 89, 43, 3] }
def T91 : TI := { kd := .struct [0, 2, 3, 4, 5], sz := 6, by' := 96, zero := [.int .i64 0, .int .i64 0, .nil, .nil, .nil, .int .i64 0], eq := [], ft := [74, 88, 89, 43, 3] }
def T93 : TI := { kd := .struct [0, 1, 2, 3, 4, 5], sz := 6, by' := 48, zero := [.int .i64 0, .int .i64 0, .int .i64 0, .int .i64 0, .int .i64 0, .int .i64 0], eq := [3, 3, 3, 3, 3, 3], ft := [3, 3, 3, 3, 3, 3] }
def T94 : TI := { kd := .struct [0, 1, 2, 3, 4, 5], sz := 6, by' := 48, zero := [.int .i64 0, .int .i64 0, .int .i64 0, .int .i64 0, .int .i64 0, .int .i64 0], eq := [3, 3, 3, 3, 3, 3], ft := [3, 3, 3, 3, 3, 3] }
def T95 : TI := { kd := .struct [0, 1, 3, 4, 5, 6], sz := 7, by' := 56, zero := [.int .i64 0, .int .i64 0, .int .i64 0, .int .i64 0, .int .i64 0, .int .i64 0, .bool false], eq := [3, 3, 3, 3, 3, 3, 10], ft := [3, 73, 3, 3, 3, 4] }
def T96 : TI := { kd := .struct [0, 1, 3, 4, 5, 6], sz := 7, by' := 56, zero := [.int .i64 0, .int .i64 0, .int .i64 0, .int .i64 0, .int .i64 0, .int .i64 0, .bool false], eq := [3, 3, 3, 3, 3, 3, 10], ft := [3, 73, 3, 3, 3, 4] }
def T98 : TI := { kd := .struct [0, 1, 3], sz := 4, by' := 32, zero := [.int .i64 0, .int .i64 0, .int .i64 0, .int .i64 0], eq := [3, 3, 3, 3], ft := [3, 73, 3] }
def T99 : TI := { kd := .struct [0, 1, 3], sz := 4, by' := 32, zero := [.int .i64 0, .int .i64 0, .int .i64 0, .int .i64 0], eq := [3, 3, 3, 3], ft := [3, 73, 3] }
def T109 : TI := { kd := .struct [0, 1, 2], sz := 3, by' := 24, zero := [.int .i64 0, .int .i64 0, .int .i64 0], eq := [3, 3, 3], ft := [3, 3, 3] }
def T110 : TI := { kd := .struct [0, 1, 2], sz := 3, by' := 24, zero := [.int .i64 0, .int .i64 0, .int .i64 0], eq := [3, 3, 3], ft := [3, 3, 3] }
def T118 : TI := { kd := .struct [0, 1], sz := 2, by' := 16, zero := [.int .i64 0, .int .i64 0], eq := [3, 3], ft := [3, 3] }
def T119 : TI := { kd := .slice 216, sz := 1, by' := 24, zero := [.nil], eq := [], ft := [] }
def T120 : TI := { kd := .slice 218, sz := 1, by' := 24, zero := [.nil], eq := [], ft := [] }
def T121 : TI := { kd := .struct [0, 2, 3, 4, 5], sz := 6, by' := 96, zero := [.int .i64 0, .int .i64 0, .nil, .nil, .nil, .int .i64 0], eq := [], ft := [118, 119, 120, 43, 3] }
def T122 : TI := { kd := .struct [0, 2, 3, 4, 5], sz := 6, by' := 96, zero := [.int .i64 0, .int .i64 0, .nil, .nil, .nil, .int .i64 0], eq := [], ft := [118, 119, 120, 43, 3] }
def T130 : TI := { kd := .slice 228, sz := 1, by' := 24, zero := [.nil], eq := [], ft := [] }
def T131 : TI := { kd := .slice 230, sz := 1, by' := 24, zero := [.nil], eq := [], ft := [] }
def T132 : TI := { kd := .struct [0, 1, 2, 3, 4, 5, 6, 7], sz := 8, by' := 128, zero := [.int .i64 0, .int .i64 0, .int .i64 0, .nil, .nil, .nil, .nil, .int .i64 0], eq := [], ft := [3, 3, 3, 24, 130, 26, 131, 3] }
def T133 : TI := { kd := .struct [0, 1, 2, 3, 4, 5, 6, 7], sz := 8, by' := 128, zero := [.int .i64 0, .int .i64 0, .int .i64 0, .nil, .nil, .nil, .nil, .int .i64 0], eq := [], ft := [3, 3, 3, 24, 130, 26, 131, 3] }
def T141 : TI := { kd := .struct [0, 1], sz := 2, by' := 16, zero := [.int .i64 0, .int .i64 0], eq := [3, 3], ft := [3, 3] }
def T142 : TI := { kd := .struct [0, 1, 3, 4, 5, 6], sz := 7, by' := 56, zero := [.int .i64 0, .int .i64 0, .int .i64 0, .int .i64 0, .int .i64 0, .int .i64 0, .bool false], eq := [3, 3, 3, 3, 3, 3, 10], ft := [3, 141, 3, 3, 3, 4] }
def T143 : TI := { kd := .struct [0, 1, 3, 4, 5, 6], sz := 7, by' := 56, zero := [.int .i64 0, .int .i64 0, .int .i64 0, .int .i64 0, .int .i64 0, .int .i64 0, .bool false], eq := [3, 3, 3, 3, 3, 3, 10], ft := [3, 141, 3, 3, 3, 4] }
def T145 : TI := { kd := .struct [0, 1, 3], sz := 4, by' := 32, zero := [.int .i64 0, .int .i64 0, .int .i64 0, .int .i64 0], eq := [3, 3, 3, 3], ft := [3, 141, 3] }
def T146 : TI := { kd := .struct [0, 1, 3], sz := 4, by' := 32, zero := [.int .i64 0, .int .i64 0, .int .i64 0, .int .i64 0], eq := [3, 3, 3, 3], ft := [3, 141, 3] }
def T148 : TI := { kd := .struct [0, 1, 2, 4, 5, 6], sz := 8, by' := 64, zero := [.int .i64 0, .int .i64 0, .int .i64 0, .int .i64 0, .int .i64 0, .int .i64 0, .int .i64 0, .int .i64 0], eq := [3, 3, 3, 3, 3, 3, 3, 3], ft := [3, 3, 141, 3, 3, 118] }
def T149 : TI := { kd := .struct [0, 1, 2, 4, 5, 6], sz := 8, by' := 64, zero := [.int .i64 0, .int .i64 0, .int .i64 0, .int .i64 0, .int .i64 0, .int .i64 0, .int .i64 0, .int .i64 0], eq := [3, 3, 3, 3, 3, 3, 3, 3], ft := [3, 3, 141, 3, 3, 118] }
def T151 : TI := { kd := .struct [0, 1, 2, 3], sz := 4, by' := 32, zero := [.int .i64 0, .int .i64 0, .int .i64 0, .int .i64 0], eq := [3, 3, 3, 3], ft := [3, 3, 3, 3] }
def T165 : TI := { kd := .struct [0, 1, 2, 3], sz := 4, by' := 32, zero := [.int .i64 0, .int .i64 0, .int .i64 0, .int .i64 0], eq := [3, 3, 3, 3], ft := [3, 3, 3, 3] }
def T166 : TI := { kd := .struct [0, 1, 2, 3], sz := 4, by' := 32, zero := [.int .i64 0, .int .i64 0, .int .i64 0, .int .i64 0], eq := [3, 3, 3, 3], ft := [3, 3, 3, 3] }
def T187 : TI := { kd := .struct [0, 1, 2, 3, 4], sz := 5, by' := 40, zero := [.int .i64 0, .int .i64 0, .int .i64 0, .int .i64 0, .int .i64 0], eq := [3, 3, 3, 3, 3], ft := [3, 3, 3, 3, 3] }
def T188 : TI := { kd := .struct [0, 1, 2, 3, 4], sz := 5, by' := 40, zero := [.int .i64 0, .int .i64 0, .int .i64 0, .int .i64 0, .int .i64 0], eq := [3, 3, 3, 3, 3], ft := [3, 3, 3, 3, 3] }
def T196 : TI := { kd := .struct [0, 1, 2], sz := 3, by' := 24, zero := [.int .i64 0, .int .i64 0, .int .i64 0], eq := [3, 3, 3], ft := [3, 3, 3] }
def T197 : TI := { kd := .struct [0, 1, 2], sz := 3, by' := 24, zero := [.int .i64 0, .int .i64 0, .int .i64 0], eq := [3, 3, 3], ft := [3, 3, 3] }
def T216 : TI := { kd := .struct [0, 1, 2, 3, 4], sz := 5, by' := 40, zero := [.int .i64 0, .int .i64 0, .int .i64 0, .int .i64 0, .int .i64 0], eq := [3, 3, 3, 3, 3], ft := [3, 3, 3, 3, 3] }
def T218 : TI := { kd := .struct [0, 1, 2, 3, 4, 5], sz := 6, by' := 48, zero := [.int .i64 0, .int .i64 0, .int .i64 0, .int .i64 0, .int .i64 0, .int .i64 0], eq := [3, 3, 3, 3, 3, 3], ft := [3, 3, 3, 3, 3, 3] }
def T228 : TI := { kd := .struct [0, 1, 2], sz := 3, by' := 24, zero := [.int .i64 0, .int .i64 0, .int .i64 0], eq := [3, 3, 3], ft := [3, 3, 3] }
def T230 : TI := { kd := .struct [0, 1, 2, 3], sz := 4, by' := 32, zero := [.int .i64 0, .int .i64 0, .int .i64 0, .int .i64 0], eq := [3, 3, 3, 3], ft := [3, 3, 3, 3] }
def T243 : TI := { kd := .scalar 7, sz := 1, by' := 8, zero := [.int .u64 0], eq := [], ft := [] }
def T245 : TI := { kd := .scalar 3, sz := 1, by' := 8, zero := [.int .i64 0], eq := [], ft := [] }
def T254 : TI := { kd := .scalar 6, sz := 1, by' := 4, zero := [.int .u32 0], eq := [], ft := [] }
def T256 : TI := { kd := .scalar 7, sz := 1, by' := 8, zero := [.int .u64 0], eq := [], ft := [] }
def T257 : TI := { kd := .scalar 7, sz := 1, by' := 8, zero := [.int .u64 0], eq := [], ft := [] }
def T273 : TI := { kd := .scalar 4, sz := 1, by' := 1, zero := [.int .u8 0], eq := [], ft := [] }
def T274 : TI := { kd := .scalar 4, sz := 1, by' := 1, zero := [.int .u8 0], eq := [], ft := [] }
def T277 : TI := { kd := .scalar 2, sz := 1, by' := 4, zero := [.int .i32 0], eq := [], ft := [] }
def T278 : TI := { kd := .scalar 2, sz := 1, by' := 4, zero := [.int .i32 0], eq := [], ft := [] }
def T (t : Nat) : Option TI := bif Nat.blt t 282 then (bif Nat.blt t 141 then (bif Nat.blt t 70 then (bif Nat.blt t 35 then (bif Nat.blt t 17 then (bif Nat.blt t 8 then (bif Nat.blt t 4 then (bif Nat.blt t 2 then none else (bif Nat.blt t 3 then (some T2) else (some T3))) else (bif Nat.blt t 6 then (bif Nat.blt t 5 then (some T4) else (some T5)) else (bif Nat.blt t 7 then (some T6) else (some T7)))) else (bif Nat.blt t 12 then (bif Nat.blt t 10 then (bif Nat.blt t 9 then (some T8) else (some T9)) else (bif Nat.blt t 11 then (some T10) else (some T11))) else (bif Nat.blt t 14 then (bif Nat.blt t 13 then (some T12) else (some T13)) else (bif Nat.blt t 15 then (some T14) else none)))) else (bif Nat.blt t 26 then (bif Nat.blt t 21 then none else (bif Nat.blt t 23 then (bif Nat.blt t 22 then (some T21) else (some T22)) else (bif Nat.blt t 24 then (some T23) else (bif Nat.blt t 25 then (some T24) else (some T25))))) else (bif Nat.blt t 30 then (bif Nat.blt t 28 then (bif Nat.blt t 27 then (some T26) else (some T27)) else (bif Nat.blt t 29 then (some T28) else (some T29))) else (bif Nat.blt t 32 then none else (bif Nat.blt t 33 then (some T32) else (bif Nat.blt t 34 then (some T33) else (some T34))))))) else (bif Nat.blt t 52 then (bif Nat.blt t 43 then (bif Nat.blt t 39 then (bif Nat.blt t 37 then (bif Nat.blt t 36 then (some T35) else (some T36)) else (bif Nat.blt t 38 then (some T37) else (some T38))) else (bif Nat.blt t 41 then (bif Nat.blt t 40 then (some T39) else none) else none)) else (bif Nat.blt t 47 then (bif Nat.blt t 45 then (bif Nat.blt t 44 then (some T43) else (some T44)) else none) else none)) else (bif Nat.blt t 61 then none else (bif Nat.blt t 65 then none else (bif Nat.blt t 67 then none else (bif Nat.blt t 68 then none else (bif Nat.blt t 69 then (some T68) else (some T69)))))))) else (bif Nat.blt t 105 then (bif Nat.blt t 87 then (bif Nat.blt t 78 then (bif Nat.blt t 74 then (bif Nat.blt t 72 then (bif Nat.blt t 71 then (some T70) else (some T71)) else (bif Nat.blt t 73 then (some T72) else (some T73))) else (bif Nat.blt t 76 then (bif Nat.blt t 75 then (some T74) else (some T75)) else (bif Nat.blt t 77 then (some T76) else (some T77)))) else (bif Nat.blt t 82 then (bif Nat.blt t 80 then (bif Nat.blt t 79 then (some T78) else none) else none) else none)) else (bif Nat.blt t 96 then (bif Nat.blt t 91 then (bif Nat.blt t 89 then (bif Nat.blt t 88 then none else (some T88)) else (bif Nat.blt t 90 then (some T89) else (some T90))) else (bif Nat.blt t 93 then (bif Nat.blt t 92 then (some T91) else none) else (bif Nat.blt t 94 then (some T93) else (bif Nat.blt t 95 then (some T94) else (some T95))))) else (bif Nat.blt t 100 then (bif Nat.blt t 98 then (bif Nat.blt t 97 then (some T96) else none) else (bif Nat.blt t 99 then (some T98) else (some T99))) else none))) else (bif Nat.blt t 123 then (bif Nat.blt t 114 then (bif Nat.blt t 109 then none else (bif Nat.blt t 111 then (bif Nat.blt t 110 then (some T109) else (some T110)) else none)) else (bif Nat.blt t 118 then none else (bif Nat.blt t 120 then (bif Nat.blt t 119 then (some T118) else (some T119)) else (bif Nat.blt t 121 then (some T120) else (bif Nat.blt t 122 then (some T121) else (some T122)))))) else (bif Nat.blt t 132 then (bif Nat.blt t 127 then none else (bif Nat.blt t 129 then none else (bif Nat.blt t 130 then none else (bif Nat.blt t 131 then (some T130) else (some T131))))) else (bif Nat.blt t 136 then (bif Nat.blt t 134 then (bif Nat.blt t 133 then (some T132) else (some T133)) else none) else none))))) else (bif Nat.blt t 211 then (bif Nat.blt t 176 then (bif Nat.blt t 158 then (bif Nat.blt t 149 then (bif Nat.blt t 145 then (bif Nat.blt t 143 then (bif Nat.blt t 142 then (some T141) else (some T142)) else (bif Nat.blt t 144 then (some T143) else none)) else (bif Nat.blt t 147 then (bif Nat.blt t 146 then (some T145) else (some T146)) else (bif Nat.blt t 148 then none else (some T148)))) else (bif Nat.blt t 153 then (bif Nat.blt t 151 then (bif Nat.blt t 150 then (some T149) else none) else (bif Nat.blt t 152 then (some T151) else none)) else none)) else (bif Nat.blt t 167 then (bif Nat.blt t 162 then none else (bif Nat.blt t 164 then none else (bif Nat.blt t 165 then none else (bif Nat.blt t 166 then (some T165) else (some T166))))) else none)) else (bif Nat.blt t 193 then (bif Nat.blt t 184 then none else (bif Nat.blt t 188 then (bif Nat.blt t 186 then none else (bif Nat.blt t 187 then none else (some T187))) else (bif Nat.blt t 190 then (bif Nat.blt t 189 then (some T188) else none) else none))) else (bif Nat.blt t 202 then (bif Nat.blt t 197 then (bif Nat.blt t 195 then none else (bif Nat.blt t 196 then none else (some T196))) else (bif Nat.blt t 199 then (bif Nat.blt t 198 then (some T197) else none) else none)) else none))) else (bif Nat.blt t 246 then (bif Nat.blt t 228 then (bif Nat.blt t 219 then (bif Nat.blt t 215 then none else (bif Nat.blt t 217 then (bif Nat.blt t 216 then none else (some T216)) else (bif Nat.blt t 218 then none else (some T218)))) else none) else (bif Nat.blt t 237 then (bif Nat.blt t 232 then (bif Nat.blt t 230 then (bif Nat.blt t 229 then (some T228) else none) else (bif Nat.blt t 231 then (some T230) else none)) else none) else (bif Nat.blt t 241 then none else (bif Nat.blt t 243 then none else (bif Nat.blt t 244 then (some T243) else (bif Nat.blt t 245 then none else (some T245))))))) else (bif Nat.blt t 264 then (bif Nat.blt t 255 then (bif Nat.blt t 250 then none else (bif Nat.blt t 252 then none else (bif Nat.blt t 253 then none else (bif Nat.blt t 254 then none else (some T254))))) else (bif Nat.blt t 259 then (bif Nat.blt t 257 then (bif Nat.blt t 256 then none else (some T256)) else (bif Nat.blt t 258 then (some T257) else none)) else none)) else (bif Nat.blt t 273 then none else (bif Nat.blt t 277 then (bif Nat.blt t 275 then (bif Nat.blt t 274 then (some T273) else (some T274)) else none) else (bif Nat.blt t 279 then (bif Nat.blt t 278 then (some T277) else (some T278)) else none))))))) else none
theorem tok : Tryz.prog.follows .mixedOrders = true ∧ TOK Tryz.prog T := ⟨by kernel_rfl, tok_of (n := 282) (by kernel_rfl) (fun t ht => by
  have h : Nat.blt t 282 = false := by rw [← Bool.not_eq_true, Nat.blt_eq]; omega
  unfold T; rw [h]; rfl)⟩
end Go.Proofs.YtimbmhglengjcaaGreat
