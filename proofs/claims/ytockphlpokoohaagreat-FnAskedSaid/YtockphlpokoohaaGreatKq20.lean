/- The seat's types as the evaluator asks for them, and its functions' numbers. Written by gen.py. -/
import Derived.Test.YtockphlpokoohaaGreatKq14
import Derived.Test.YtockphlpokoohaaGreatProg
namespace Go.Proofs.YtockphlpokoohaaGreat
open Go
def T2 : TI := { kd := .scalar 3, sz := 1, by' := 8, zero := [.int .i64 0], eq := [], ft := [] }
def T3 : TI := { kd := .scalar 3, sz := 1, by' := 8, zero := [.int .i64 0], eq := [], ft := [] }
def T4 : TI := { kd := .scalar 10, sz := 1, by' := 1, zero := [.bool false], eq := [], ft := [] }
def T5 : TI := { kd := .scalar 4, sz := 1, by' := 1, zero := [.int .u8 0], eq := [], ft := [] }
def T6 : TI := { kd := .scalar 4, sz := 1, by' := 1, zero := [.int .u8 0], eq := [], ft := [] }
def T7 : TI := { kd := .struct [0, 1, 2, 3], sz := 4, by' := 24, zero := [.int .i64 0, .int .i64 0, .bool false, .int .u8 0], eq := [], ft := [2, 3, 4, 6] }
def T8 : TI := { kd := .struct [0, 1, 2, 3], sz := 4, by' := 24, zero := [.int .i64 0, .int .i64 0, .bool false, .int .u8 0], eq := [], ft := [2, 3, 4, 6] }
def T9 : TI := { kd := .scalar 20, sz := 1, by' := 16, zero := [.str ⟨#[]⟩], eq := [], ft := [] }
def T10 : TI := { kd := .scalar 20, sz := 1, by' := 16, zero := [.str ⟨#[]⟩], eq := [], ft := [] }
def T11 : TI := { kd := .scalar 20, sz := 1, by' := 16, zero := [.str ⟨#[]⟩], eq := [], ft := [] }
def T12 : TI := { kd := .scalar 7, sz := 1, by' := 8, zero := [.int .u64 0], eq := [], ft := [] }
def T13 : TI := { kd := .struct [0, 1], sz := 2, by' := 24, zero := [.str ⟨#[]⟩, .int .u64 0], eq := [], ft := [9, 12] }
def T14 : TI := { kd := .struct [0, 1], sz := 2, by' := 24, zero := [.str ⟨#[]⟩, .int .u64 0], eq := [], ft := [9, 12] }
def T21 : TI := { kd := .scalar 2, sz := 1, by' := 4, zero := [.int .i32 0], eq := [], ft := [] }
def T22 : TI := { kd := .slice 5, sz := 1, by' := 24, zero := [.nil], eq := [], ft := [] }
def T24 : TI := { kd := .slice 85, sz := 1, by' := 24, zero := [.nil], eq := [], ft := [] }
def T27 : TI := { kd := .slice 46, sz := 1, by' := 24, zero := [.nil], eq := [], ft := [] }
def T28 : TI := { kd := .slice 170, sz := 1, by' := 24, zero := [.nil], eq := [], ft := [] }
def T29 : TI := { kd := .slice 125, sz := 1, by' := 24, zero := [.nil], eq := [], ft := [] }
def T30 : TI := { kd := .slice 151, sz := 1, by' := 24, zero := [.nil], eq := [], ft := [] }
def T31 : TI := { kd := .slice 174, sz := 1, by' := 24, zero := [.nil], eq := [], ft := [] }
def T32 : TI := { kd := .struct [0, 1, 2, 3, 4, 5, 6, 7], sz := 8, by' := 160, zero := [.int .i64 0, .nil, .nil, .nil, .nil, .nil, .nil, .int .i64 0], eq := [], ft := [3, 24, 27, 28, 29, 30, 31, 3] }
def T33 : TI := { kd := .struct [0, 1, 2, 3, 4, 5, 6, 7], sz := 8, by' := 160, zero := [.int .i64 0, .nil, .nil, .nil, .nil, .nil, .nil, .int .i64 0], eq := [], ft := [3, 24, 27, 28, 29, 30, 31, 3] }
def T37 : TI := { kd := .slice 3, sz := 1, by' := 24, zero := [.nil], eq := [], ft := [] }
def T43 : TI := { kd := .slice 188, sz := 1, by' := 24, zero := [.nil], eq := [], ft := [] }
def T44 : TI := { kd := .slice 253, sz := 1, by' := 24, zero := [.nil], eq := [], ft := [] }
def T45 : TI := { kd := .struct [0, 1, 2, 3, 4, 5, 6, 7], sz := 8, by' := 128, zero := [.int .i64 0, .int .i64 0, .int .i64 0, .nil, .nil, .nil, .nil, .int .i64 0], eq := [], ft := [3, 3, 3, 28, 43, 30, 44, 3] }
def T46 : TI := { kd := .struct [0, 1, 2, 3, 4, 5, 6, 7], sz := 8, by' := 128, zero := [.int .i64 0, .int .i64 0, .int .i64 0, .nil, .nil, .nil, .nil, .int .i64 0], eq := [], ft := [3, 3, 3, 28, 43, 30, 44, 3] }
def T52 : TI := { kd := .slice 62, sz := 1, by' := 24, zero := [.nil], eq := [], ft := [] }
def T55 : TI := { kd := .struct [0, 1], sz := 2, by' := 16, zero := [.int .i64 0, .int .i64 0], eq := [3, 3], ft := [3, 3] }
def T56 : TI := { kd := .struct [0, 1], sz := 2, by' := 16, zero := [.int .i64 0, .int .i64 0], eq := [3, 3], ft := [3, 3] }
def T61 : TI := { kd := .struct [0, 1, 2], sz := 3, by' := 24, zero := [.int .i64 0, .int .i64 0, .int .i64 0], eq := [3, 3, 3], ft := [3, 3, 3] }
def T62 : TI := { kd := .struct [0, 1, 2], sz := 3, by' := 24, zero := [.int .i64 0, .int .i64 0, .int .i64 0], eq := [3, 3, 3], ft := [3, 3, 3] }
def T63 : TI := { kd := .struct [0, 2], sz := 3, by' := 24, zero := [.int .i64 0, .int .i64 0, .int .i64 0], eq := [3, 3, 3], ft := [56, 3] }
def T64 : TI := { kd := .struct [0, 2], sz := 3, by' := 24, zero := [.int .i64 0, .int .i64 0, .int .i64 0], eq := [3, 3, 3], ft := [56, 3] }
def T69 : TI := { kd := .slice 56, sz := 1, by' := 24, zero := [.nil], eq := [], ft := [] }
def T70 : TI := { kd := .struct [0, 1, 3], sz := 4, by' := 48, zero := [.int .i64 0, .int .i64 0, .int .i64 0, .nil], eq := [], ft := [3, 56, 69] }
def T71 : TI := { kd := .struct [0, 1, 3], sz := 4, by' := 48, zero := [.int .i64 0, .int .i64 0, .int .i64 0, .nil], eq := [], ft := [3, 56, 69] }
def T75 : TI := { kd := .struct [0, 1, 2, 3, 4, 5], sz := 6, by' := 48, zero := [.int .i64 0, .int .i64 0, .int .i64 0, .int .i64 0, .int .i64 0, .int .i64 0], eq := [3, 3, 3, 3, 3, 3], ft := [3, 3, 3, 3, 3, 3] }
def T76 : TI := { kd := .struct [0, 1, 2, 3, 4, 5], sz := 6, by' := 48, zero := [.int .i64 0, .int .i64 0, .int .i64 0, .int .i64 0, .int .i64 0, .int .i64 0], eq := [3, 3, 3, 3, 3, 3], ft := [3, 3, 3, 3, 3, 3] }
def T81 : TI := { kd := .slice 76, sz := 1, by' := 24, zero := [.nil], eq := [], ft := [] }
def T83 : TI := { kd := .slice 88, sz := 1, by' := 24, zero := [.nil], eq := [], ft := [] }
def T84 : TI := { kd := .struct [0, 2, 3, 4, 5], sz := 6, by' := 96, zero := [.int .i64 0, .int .i64 0, .nil, .nil, .nil, .int .i64 0], eq := [], ft := [56, 83, 81, 37, 3] }
def T85 : TI := { kd := .struct [0, 2, 3, 4, 5], sz := 6, by' := 96, zero := [.int .i64 0, .int .i64 0, .nil, .nil, .nil, .int .i64 0], eq := [], ft := [56, 83, 81, 37, 3] }
def T87 : TI := { kd := .struct [0, 1, 2, 3, 4], sz := 5, by' := 40, zero := [.int .i64 0, .int .i64 0, .int .i64 0, .int .i64 0, .int .i64 0], eq := [3, 3, 3, 3, 3], ft := [3, 3, 3, 3, 3] }
def T88 : TI := { kd := .struct [0, 1, 2, 3, 4], sz := 5, by' := 40, zero := [.int .i64 0, .int .i64 0, .int .i64 0, .int .i64 0, .int .i64 0], eq := [3, 3, 3, 3, 3], ft := [3, 3, 3, 3, 3] }
def T123 : TI := { kd := .struct [0, 1], sz := 2, by' := 16, zero := [.int .i64 0, .int .i64 0], eq := [3, 3], ft := [3, 3] }
def T124 : TI := { kd := .struct [0, 1, 3], sz := 4, by' := 32, zero := [.int .i64 0, .int .i64 0, .int .i64 0, .int .i64 0], eq := [3, 3, 3, 3], ft := [3, 123, 3] }
def T125 : TI := { kd := .struct [0, 1, 3], sz := 4, by' := 32, zero := [.int .i64 0, .int .i64 0, .int .i64 0, .int .i64 0], eq := [3, 3, 3, 3], ft := [3, 123, 3] }
def T133 : TI := { kd := .slice 141, sz := 1, by' := 24, zero := [.nil], eq := [], ft := [] }
def T140 : TI := { kd := .struct [0, 1, 2, 3, 4, 5, 6, 8, 12, 18], sz := 26, by' := 272, zero := [.int .i64 0, .int .i64 0, .int .i64 0, .int .i64 0, .int .i64 0, .bool false, .int .i64 0, .int .i64 0, .int .i64 0, .int .i64 0, .int .i64 0, .int .i64 0, .int .i64 0, .int .i64 0, .int .i64 0, .int .i64 0, .int .i64 0, .int .i64 0, .int .i64 0, .int .i64 0, .int .i64 0, .nil, .nil, .nil, .nil, .int .i64 0], eq := [], ft := [3, 3, 3, 3, 3, 4, 56, 125, 76, 46] }
def T141 : TI := { kd := .struct [0, 1, 2, 3, 4, 5, 6, 8, 12, 18], sz := 26, by' := 272, zero := [.int .i64 0, .int .i64 0, .int .i64 0, .int .i64 0, .int .i64 0, .bool false, .int .i64 0, .int .i64 0, .int .i64 0, .int .i64 0, .int .i64 0, .int .i64 0, .int .i64 0, .int .i64 0, .int .i64 0, .int .i64 0, .int .i64 0, .int .i64 0, .int .i64 0, .int .i64 0, .int .i64 0, .nil, .nil, .nil, .nil, .int .i64 0], eq := [], ft := [3, 3, 3, 3, 3, 4, 56, 125, 76, 46] }
def T146 : TI := { kd := .slice 30, sz := 1, by' := 24, zero := [.nil], eq := [], ft := [] }
def T147 : TI := { kd := .struct [0, 1], sz := 2, by' := 48, zero := [.nil, .nil], eq := [], ft := [30, 146] }
def T148 : TI := { kd := .struct [0, 1], sz := 2, by' := 48, zero := [.nil, .nil], eq := [], ft := [30, 146] }
def T150 : TI := { kd := .struct [0, 1, 2, 4, 5, 6], sz := 8, by' := 64, zero := [.int .i64 0, .int .i64 0, .int .i64 0, .int .i64 0, .int .i64 0, .int .i64 0, .int .i64 0, .int .i64 0], eq := [3, 3, 3, 3, 3, 3, 3, 3], ft := [3, 3, 123, 3, 3, 56] }
def T151 : TI := { kd := .struct [0, 1, 2, 4, 5, 6], sz := 8, by' := 64, zero := [.int .i64 0, .int .i64 0, .int .i64 0, .int .i64 0, .int .i64 0, .int .i64 0, .int .i64 0, .int .i64 0], eq := [3, 3, 3, 3, 3, 3, 3, 3], ft := [3, 3, 123, 3, 3, 56] }
def T169 : TI := { kd := .struct [0, 1, 3, 4, 5, 6], sz := 7, by' := 56, zero := [.int .i64 0, .int .i64 0, .int .i64 0, .int .i64 0, .int .i64 0, .int .i64 0, .bool false], eq := [3, 3, 3, 3, 3, 3, 10], ft := [3, 123, 3, 3, 3, 4] }
def T170 : TI := { kd := .struct [0, 1, 3, 4, 5, 6], sz := 7, by' := 56, zero := [.int .i64 0, .int .i64 0, .int .i64 0, .int .i64 0, .int .i64 0, .int .i64 0, .bool false], eq := [3, 3, 3, 3, 3, 3, 10], ft := [3, 123, 3, 3, 3, 4] }
def T173 : TI := { kd := .struct [0, 1, 2, 3], sz := 4, by' := 32, zero := [.int .i64 0, .int .i64 0, .int .i64 0, .int .i64 0], eq := [3, 3, 3, 3], ft := [3, 3, 3, 3] }
def T174 : TI := { kd := .struct [0, 1, 2, 3], sz := 4, by' := 32, zero := [.int .i64 0, .int .i64 0, .int .i64 0, .int .i64 0], eq := [3, 3, 3, 3], ft := [3, 3, 3, 3] }
def T187 : TI := { kd := .struct [0, 1, 2], sz := 3, by' := 24, zero := [.int .i64 0, .int .i64 0, .int .i64 0], eq := [3, 3, 3], ft := [3, 3, 3] }
def T188 : TI := { kd := .struct [0, 1, 2], sz := 3, by' := 24, zero := [.int .i64 0, .int .i64 0, .int .i64 0], eq := [3, 3, 3], ft := [3, 3, 3] }
def T228 : TI := { kd := .array 10 9, sz := 10, by' := 160, zero := [.str ⟨#[]⟩, .str ⟨#[]⟩, .str ⟨#[]⟩, .str ⟨#[]⟩, .str ⟨#[]⟩, .str ⟨#[]⟩, .str ⟨#[]⟩, .str ⟨#[]⟩, .str ⟨#[]⟩, .str ⟨#[]⟩], eq := [], ft := [] }
def T231 : TI := { kd := .struct [0, 1, 2], sz := 3, by' := 40, zero := [.nil, .int .i64 0, .int .i64 0], eq := [], ft := [22, 3, 3] }
def T232 : TI := { kd := .struct [0, 1, 2], sz := 3, by' := 40, zero := [.nil, .int .i64 0, .int .i64 0], eq := [], ft := [22, 3, 3] }
def T252 : TI := { kd := .struct [0, 1, 2, 3], sz := 4, by' := 32, zero := [.int .i64 0, .int .i64 0, .int .i64 0, .int .i64 0], eq := [3, 3, 3, 3], ft := [3, 3, 3, 3] }
def T253 : TI := { kd := .struct [0, 1, 2, 3], sz := 4, by' := 32, zero := [.int .i64 0, .int .i64 0, .int .i64 0, .int .i64 0], eq := [3, 3, 3, 3], ft := [3, 3, 3, 3] }
def T269 : TI := { kd := .slice 4, sz := 1, by' := 24, zero := [.nil], eq := [], ft := [] }
def T293 : TI := { kd := .scalar 7, sz := 1, by' := 8, zero := [.int .u64 0], eq := [], ft := [] }
def T318 : TI := { kd := .scalar 3, sz := 1, by' := 8, zero := [.int .i64 0], eq := [], ft := [] }
def T326 : TI := { kd := .scalar 6, sz := 1, by' := 4, zero := [.int .u32 0], eq := [], ft := [] }
def T328 : TI := { kd := .scalar 7, sz := 1, by' := 8, zero := [.int .u64 0], eq := [], ft := [] }
def T337 : TI := { kd := .scalar 7, sz := 1, by' := 8, zero := [.int .u64 0], eq := [], ft := [] }
def T354 : TI := { kd := .scalar 4, sz := 1, by' := 1, zero := [.int .u8 0], eq := [], ft := [] }
def T355 : TI := { kd := .scalar 4, sz := 1, by' := 1, zero := [.int .u8 0], eq := [], ft := [] }
def T358 : TI := { kd := .scalar 2, sz := 1, by' := 4, zero := [.int .i32 0], eq := [], ft := [] }
def T359 : TI := { kd := .scalar 2, sz := 1, by' := 4, zero := [.int .i32 0], eq := [], ft := [] }
def T (t : Nat) : Option TI := bif Nat.blt t 363 then (bif Nat.blt t 181 then (bif Nat.blt t 90 then (bif Nat.blt t 45 then (bif Nat.blt t 22 then (bif Nat.blt t 11 then (bif Nat.blt t 5 then (bif Nat.blt t 2 then none else (bif Nat.blt t 3 then (some T2) else (bif Nat.blt t 4 then (some T3) else (some T4)))) else (bif Nat.blt t 8 then (bif Nat.blt t 6 then (some T5) else (bif Nat.blt t 7 then (some T6) else (some T7))) else (bif Nat.blt t 9 then (some T8) else (bif Nat.blt t 10 then (some T9) else (some T10))))) else (bif Nat.blt t 16 then (bif Nat.blt t 13 then (bif Nat.blt t 12 then (some T11) else (some T12)) else (bif Nat.blt t 14 then (some T13) else (bif Nat.blt t 15 then (some T14) else none))) else (bif Nat.blt t 19 then none else (bif Nat.blt t 20 then none else (bif Nat.blt t 21 then none else (some T21)))))) else (bif Nat.blt t 33 then (bif Nat.blt t 27 then (bif Nat.blt t 24 then (bif Nat.blt t 23 then (some T22) else none) else (bif Nat.blt t 25 then (some T24) else none)) else (bif Nat.blt t 30 then (bif Nat.blt t 28 then (some T27) else (bif Nat.blt t 29 then (some T28) else (some T29))) else (bif Nat.blt t 31 then (some T30) else (bif Nat.blt t 32 then (some T31) else (some T32))))) else (bif Nat.blt t 39 then (bif Nat.blt t 36 then (bif Nat.blt t 34 then (some T33) else none) else (bif Nat.blt t 37 then none else (bif Nat.blt t 38 then (some T37) else none))) else (bif Nat.blt t 42 then none else (bif Nat.blt t 43 then none else (bif Nat.blt t 44 then (some T43) else (some T44))))))) else (bif Nat.blt t 67 then (bif Nat.blt t 56 then (bif Nat.blt t 50 then (bif Nat.blt t 47 then (bif Nat.blt t 46 then (some T45) else (some T46)) else none) else (bif Nat.blt t 53 then (bif Nat.blt t 51 then none else (bif Nat.blt t 52 then none else (some T52))) else (bif Nat.blt t 54 then none else (bif Nat.blt t 55 then none else (some T55))))) else (bif Nat.blt t 61 then (bif Nat.blt t 58 then (bif Nat.blt t 57 then (some T56) else none) else none) else (bif Nat.blt t 64 then (bif Nat.blt t 62 then (some T61) else (bif Nat.blt t 63 then (some T62) else (some T63))) else (bif Nat.blt t 65 then (some T64) else none)))) else (bif Nat.blt t 78 then (bif Nat.blt t 72 then (bif Nat.blt t 69 then none else (bif Nat.blt t 70 then (some T69) else (bif Nat.blt t 71 then (some T70) else (some T71)))) else (bif Nat.blt t 75 then none else (bif Nat.blt t 76 then (some T75) else (bif Nat.blt t 77 then (some T76) else none)))) else (bif Nat.blt t 84 then (bif Nat.blt t 81 then none else (bif Nat.blt t 82 then (some T81) else (bif Nat.blt t 83 then none else (some T83)))) else (bif Nat.blt t 87 then (bif Nat.blt t 85 then (some T84) else (bif Nat.blt t 86 then (some T85) else none)) else (bif Nat.blt t 88 then (some T87) else (bif Nat.blt t 89 then (some T88) else none))))))) else (bif Nat.blt t 135 then (bif Nat.blt t 112 then none else (bif Nat.blt t 123 then none else (bif Nat.blt t 129 then (bif Nat.blt t 126 then (bif Nat.blt t 124 then (some T123) else (bif Nat.blt t 125 then (some T124) else (some T125))) else none) else (bif Nat.blt t 132 then none else (bif Nat.blt t 133 then none else (bif Nat.blt t 134 then (some T133) else none)))))) else (bif Nat.blt t 158 then (bif Nat.blt t 146 then (bif Nat.blt t 140 then none else (bif Nat.blt t 143 then (bif Nat.blt t 141 then (some T140) else (bif Nat.blt t 142 then (some T141) else none)) else none)) else (bif Nat.blt t 152 then (bif Nat.blt t 149 then (bif Nat.blt t 147 then (some T146) else (bif Nat.blt t 148 then (some T147) else (some T148))) else (bif Nat.blt t 150 then none else (bif Nat.blt t 151 then (some T150) else (some T151)))) else none)) else (bif Nat.blt t 169 then none else (bif Nat.blt t 175 then (bif Nat.blt t 172 then (bif Nat.blt t 170 then (some T169) else (bif Nat.blt t 171 then (some T170) else none)) else (bif Nat.blt t 173 then none else (bif Nat.blt t 174 then (some T173) else (some T174)))) else none))))) else (bif Nat.blt t 272 then (bif Nat.blt t 226 then (bif Nat.blt t 203 then (bif Nat.blt t 192 then (bif Nat.blt t 186 then none else (bif Nat.blt t 189 then (bif Nat.blt t 187 then none else (bif Nat.blt t 188 then (some T187) else (some T188))) else none)) else none) else none) else (bif Nat.blt t 249 then (bif Nat.blt t 237 then (bif Nat.blt t 231 then (bif Nat.blt t 228 then none else (bif Nat.blt t 229 then (some T228) else none)) else (bif Nat.blt t 234 then (bif Nat.blt t 232 then (some T231) else (bif Nat.blt t 233 then (some T232) else none)) else none)) else none) else (bif Nat.blt t 260 then (bif Nat.blt t 254 then (bif Nat.blt t 251 then none else (bif Nat.blt t 252 then none else (bif Nat.blt t 253 then (some T252) else (some T253)))) else none) else (bif Nat.blt t 266 then none else (bif Nat.blt t 269 then none else (bif Nat.blt t 270 then (some T269) else none)))))) else (bif Nat.blt t 317 then (bif Nat.blt t 294 then (bif Nat.blt t 283 then none else (bif Nat.blt t 288 then none else (bif Nat.blt t 291 then none else (bif Nat.blt t 292 then none else (bif Nat.blt t 293 then none else (some T293)))))) else none) else (bif Nat.blt t 340 then (bif Nat.blt t 328 then (bif Nat.blt t 322 then (bif Nat.blt t 319 then (bif Nat.blt t 318 then none else (some T318)) else none) else (bif Nat.blt t 325 then none else (bif Nat.blt t 326 then none else (bif Nat.blt t 327 then (some T326) else none)))) else (bif Nat.blt t 334 then (bif Nat.blt t 331 then (bif Nat.blt t 329 then (some T328) else none) else none) else (bif Nat.blt t 337 then none else (bif Nat.blt t 338 then (some T337) else none)))) else (bif Nat.blt t 351 then none else (bif Nat.blt t 357 then (bif Nat.blt t 354 then none else (bif Nat.blt t 355 then (some T354) else (bif Nat.blt t 356 then (some T355) else none))) else (bif Nat.blt t 360 then (bif Nat.blt t 358 then none else (bif Nat.blt t 359 then (some T358) else (some T359))) else none))))))) else none
theorem tok : Tryz.prog.follows .mixedOrders = true ∧ TOK Tryz.prog T := ⟨by kernel_rfl, tok_of (n := 363) (by kernel_rfl) (fun t ht => by
  have h : Nat.blt t 363 = false := by rw [← Bool.not_eq_true, Nat.blt_eq]; omega
  unfold T; rw [h]; rfl)⟩
end Go.Proofs.YtockphlpokoohaaGreat
