/- The seat's types as the evaluator asks for them, and its functions' numbers. Written by gen.py. -/
import Derived.Test.YtdlppfdakpeodaaAeF
import Derived.Test.YtdlppfdakpeodaaProg
namespace Go.Proofs.Ytdlppfdakpeodaa
open Go
def T2 : TI := { kd := .scalar 3, sz := 1, by' := 8, zero := [.int .i64 0], eq := [] }
def T3 : TI := { kd := .scalar 3, sz := 1, by' := 8, zero := [.int .i64 0], eq := [] }
def T4 : TI := { kd := .scalar 10, sz := 1, by' := 1, zero := [.bool false], eq := [] }
def T5 : TI := { kd := .scalar 4, sz := 1, by' := 1, zero := [.int .u8 0], eq := [] }
def T6 : TI := { kd := .scalar 4, sz := 1, by' := 1, zero := [.int .u8 0], eq := [] }
def T7 : TI := { kd := .struct [0, 1, 2, 3], sz := 4, by' := 24, zero := [.int .i64 0, .int .i64 0, .bool false, .int .u8 0], eq := [] }
def T8 : TI := { kd := .struct [0, 1, 2, 3], sz := 4, by' := 24, zero := [.int .i64 0, .int .i64 0, .bool false, .int .u8 0], eq := [] }
def T9 : TI := { kd := .scalar 20, sz := 1, by' := 16, zero := [.str ⟨#[]⟩], eq := [] }
def T10 : TI := { kd := .scalar 20, sz := 1, by' := 16, zero := [.str ⟨#[]⟩], eq := [] }
def T11 : TI := { kd := .scalar 20, sz := 1, by' := 16, zero := [.str ⟨#[]⟩], eq := [] }
def T12 : TI := { kd := .scalar 7, sz := 1, by' := 8, zero := [.int .u64 0], eq := [] }
def T13 : TI := { kd := .struct [0, 1], sz := 2, by' := 24, zero := [.str ⟨#[]⟩, .int .u64 0], eq := [] }
def T14 : TI := { kd := .struct [0, 1], sz := 2, by' := 24, zero := [.str ⟨#[]⟩, .int .u64 0], eq := [] }
def T21 : TI := { kd := .scalar 2, sz := 1, by' := 4, zero := [.int .i32 0], eq := [] }
def T22 : TI := { kd := .slice 113, sz := 1, by' := 24, zero := [.nil], eq := [] }
def T23 : TI := { kd := .slice 118, sz := 1, by' := 24, zero := [.nil], eq := [] }
def T24 : TI := { kd := .slice 124, sz := 1, by' := 24, zero := [.nil], eq := [] }
def T25 : TI := { kd := .slice 127, sz := 1, by' := 24, zero := [.nil], eq := [] }
def T26 : TI := { kd := .slice 130, sz := 1, by' := 24, zero := [.nil], eq := [] }
def T27 : TI := { kd := .slice 132, sz := 1, by' := 24, zero := [.nil], eq := [] }
def T28 : TI := { kd := .struct [0, 1, 2, 3, 4, 5, 6, 7], sz := 8, by' := 160, zero := [.int .i64 0, .nil, .nil, .nil, .nil, .nil, .nil, .int .i64 0], eq := [] }
def T29 : TI := { kd := .struct [0, 1, 2, 3, 4, 5, 6, 7], sz := 8, by' := 160, zero := [.int .i64 0, .nil, .nil, .nil, .nil, .nil, .nil, .int .i64 0], eq := [] }
def T32 : TI := { kd := .slice 86, sz := 1, by' := 24, zero := [.nil], eq := [] }
def T33 : TI := { kd := .slice 79, sz := 1, by' := 24, zero := [.nil], eq := [] }
def T34 : TI := { kd := .slice 94, sz := 1, by' := 24, zero := [.nil], eq := [] }
def T35 : TI := { kd := .slice 104, sz := 1, by' := 24, zero := [.nil], eq := [] }
def T36 : TI := { kd := .slice 90, sz := 1, by' := 24, zero := [.nil], eq := [] }
def T37 : TI := { kd := .slice 108, sz := 1, by' := 24, zero := [.nil], eq := [] }
def T38 : TI := { kd := .struct [0, 1, 2, 3, 4, 5, 6, 7], sz := 8, by' := 160, zero := [.int .i64 0, .nil, .nil, .nil, .nil, .nil, .nil, .int .i64 0], eq := [] }
def T39 : TI := { kd := .struct [0, 1, 2, 3, 4, 5, 6, 7], sz := 8, by' := 160, zero := [.int .i64 0, .nil, .nil, .nil, .nil, .nil, .nil, .int .i64 0], eq := [] }
def T50 : TI := { kd := .struct [0, 1], sz := 2, by' := 16, zero := [.int .i64 0, .int .i64 0], eq := [3, 3] }
def T51 : TI := { kd := .struct [0, 1], sz := 2, by' := 16, zero := [.int .i64 0, .int .i64 0], eq := [3, 3] }
def T53 : TI := { kd := .struct [0, 1], sz := 2, by' := 16, zero := [.int .i64 0, .int .i64 0], eq := [3, 3] }
def T76 : TI := { kd := .slice 148, sz := 1, by' := 24, zero := [.nil], eq := [] }
def T77 : TI := { kd := .slice 150, sz := 1, by' := 24, zero := [.nil], eq := [] }
def T78 : TI := { kd := .struct [0, 1, 2, 3, 4, 5, 6, 7], sz := 8, by' := 128, zero := [.int .i64 0, .int .i64 0, .int .i64 0, .nil, .nil, .nil, .nil, .int .i64 0], eq := [] }
def T79 : TI := { kd := .struct [0, 1, 2, 3, 4, 5, 6, 7], sz := 8, by' := 128, zero := [.int .i64 0, .int .i64 0, .int .i64 0, .nil, .nil, .nil, .nil, .int .i64 0], eq := [] }
def T82 : TI := { kd := .slice 152, sz := 1, by' := 24, zero := [.nil], eq := [] }
def T83 : TI := { kd := .slice 138, sz := 1, by' := 24, zero := [.nil], eq := [] }
def T84 : TI := { kd := .slice 3, sz := 1, by' := 24, zero := [.nil], eq := [] }
def T85 : TI := { kd := .struct [0, 2, 3, 4, 5], sz := 6, by' := 96, zero := [.int .i64 0, .int .i64 0, .nil, .nil, .nil, .int .i64 0], eq := [] }
def T86 : TI := { kd := .struct [0, 2, 3, 4, 5], sz := 6, by' := 96, zero := [.int .i64 0, .int .i64 0, .nil, .nil, .nil, .int .i64 0], eq := [] }
def T88 : TI := { kd := .struct [0, 1], sz := 2, by' := 16, zero := [.int .i64 0, .int .i64 0], eq := [3, 3] }
def T89 : TI := { kd := .struct [0, 1, 2, 4, 5, 6], sz := 8, by' := 64, zero := [.int .i64 0, .int .i64 0, .int .i64 0, .int .i64 0, .int .i64 0, .int .i64 0, .int .i64 0, .int .i64 0], eq := [3, 3, 3, 3, 3, 3, 3, 3] }
def T90 : TI := { kd := .struct [0, 1, 2, 4, 5, 6], sz := 8, by' := 64, zero := [.int .i64 0, .int .i64 0, .int .i64 0, .int .i64 0, .int .i64 0, .int .i64 0, .int .i64 0, .int .i64 0], eq := [3, 3, 3, 3, 3, 3, 3, 3] }
def T93 : TI := { kd := .struct [0, 1, 3, 4, 5, 6], sz := 7, by' := 56, zero := [.int .i64 0, .int .i64 0, .int .i64 0, .int .i64 0, .int .i64 0, .int .i64 0, .bool false], eq := [3, 3, 3, 3, 3, 3, 10] }
def T94 : TI := { kd := .struct [0, 1, 3, 4, 5, 6], sz := 7, by' := 56, zero := [.int .i64 0, .int .i64 0, .int .i64 0, .int .i64 0, .int .i64 0, .int .i64 0, .bool false], eq := [3, 3, 3, 3, 3, 3, 10] }
def T103 : TI := { kd := .struct [0, 1, 3], sz := 4, by' := 32, zero := [.int .i64 0, .int .i64 0, .int .i64 0, .int .i64 0], eq := [3, 3, 3, 3] }
def T104 : TI := { kd := .struct [0, 1, 3], sz := 4, by' := 32, zero := [.int .i64 0, .int .i64 0, .int .i64 0, .int .i64 0], eq := [3, 3, 3, 3] }
def T107 : TI := { kd := .struct [0, 1, 2, 3], sz := 4, by' := 32, zero := [.int .i64 0, .int .i64 0, .int .i64 0, .int .i64 0], eq := [3, 3, 3, 3] }
def T108 : TI := { kd := .struct [0, 1, 2, 3], sz := 4, by' := 32, zero := [.int .i64 0, .int .i64 0, .int .i64 0, .int .i64 0], eq := [3, 3, 3, 3] }
def T110 : TI := { kd := .slice 172, sz := 1, by' := 24, zero := [.nil], eq := [] }
def T111 : TI := { kd := .slice 174, sz := 1, by' := 24, zero := [.nil], eq := [] }
def T112 : TI := { kd := .struct [0, 2, 3, 4, 5], sz := 6, by' := 96, zero := [.int .i64 0, .int .i64 0, .nil, .nil, .nil, .int .i64 0], eq := [] }
def T113 : TI := { kd := .struct [0, 2, 3, 4, 5], sz := 6, by' := 96, zero := [.int .i64 0, .int .i64 0, .nil, .nil, .nil, .int .i64 0], eq := [] }
def T115 : TI := { kd := .slice 176, sz := 1, by' := 24, zero := [.nil], eq := [] }
def T116 : TI := { kd := .slice 178, sz := 1, by' := 24, zero := [.nil], eq := [] }
def T117 : TI := { kd := .struct [0, 1, 2, 3, 4, 5, 6, 7], sz := 8, by' := 128, zero := [.int .i64 0, .int .i64 0, .int .i64 0, .nil, .nil, .nil, .nil, .int .i64 0], eq := [] }
def T118 : TI := { kd := .struct [0, 1, 2, 3, 4, 5, 6, 7], sz := 8, by' := 128, zero := [.int .i64 0, .int .i64 0, .int .i64 0, .nil, .nil, .nil, .nil, .int .i64 0], eq := [] }
def T122 : TI := { kd := .struct [0, 1], sz := 2, by' := 16, zero := [.int .i64 0, .int .i64 0], eq := [3, 3] }
def T123 : TI := { kd := .struct [0, 1, 3, 4, 5, 6], sz := 7, by' := 56, zero := [.int .i64 0, .int .i64 0, .int .i64 0, .int .i64 0, .int .i64 0, .int .i64 0, .bool false], eq := [3, 3, 3, 3, 3, 3, 10] }
def T124 : TI := { kd := .struct [0, 1, 3, 4, 5, 6], sz := 7, by' := 56, zero := [.int .i64 0, .int .i64 0, .int .i64 0, .int .i64 0, .int .i64 0, .int .i64 0, .bool false], eq := [3, 3, 3, 3, 3, 3, 10] }
def T126 : TI := { kd := .struct [0, 1, 3], sz := 4, by' := 32, zero := [.int .i64 0, .int .i64 0, .int .i64 0, .int .i64 0], eq := [3, 3, 3, 3] }
def T127 : TI := { kd := .struct [0, 1, 3], sz := 4, by' := 32, zero := [.int .i64 0, .int .i64 0, .int .i64 0, .int .i64 0], eq := [3, 3, 3, 3] }
def T129 : TI := { kd := .struct [0, 1, 2, 4, 5, 6], sz := 8, by' := 64, zero := [.int .i64 0, .int .i64 0, .int .i64 0, .int .i64 0, .int .i64 0, .int .i64 0, .int .i64 0, .int .i64 0], eq := [3, 3, 3, 3, 3, 3, 3, 3] }
def T130 : TI := { kd := .struct [0, 1, 2, 4, 5, 6], sz := 8, by' := 64, zero := [.int .i64 0, .int .i64 0, .int .i64 0, .int .i64 0, .int .i64 0, .int .i64 0, .int .i64 0, .int .i64 0], eq := [3, 3, 3, 3, 3, 3, 3, 3] }
def T132 : TI := { kd := .struct [0, 1, 2, 3], sz := 4, by' := 32, zero := [.int .i64 0, .int .i64 0, .int .i64 0, .int .i64 0], eq := [3, 3, 3, 3] }
def T137 : TI := { kd := .struct [0, 1, 2, 3, 4, 5], sz := 6, by' := 48, zero := [.int .i64 0, .int .i64 0, .int .i64 0, .int .i64 0, .int .i64 0, .int .i64 0], eq := [3, 3, 3, 3, 3, 3] }
def T138 : TI := { kd := .struct [0, 1, 2, 3, 4, 5], sz := 6, by' := 48, zero := [.int .i64 0, .int .i64 0, .int .i64 0, .int .i64 0, .int .i64 0, .int .i64 0], eq := [3, 3, 3, 3, 3, 3] }
def T147 : TI := { kd := .struct [0, 1, 2], sz := 3, by' := 24, zero := [.int .i64 0, .int .i64 0, .int .i64 0], eq := [3, 3, 3] }
def T148 : TI := { kd := .struct [0, 1, 2], sz := 3, by' := 24, zero := [.int .i64 0, .int .i64 0, .int .i64 0], eq := [3, 3, 3] }
def T149 : TI := { kd := .struct [0, 1, 2, 3], sz := 4, by' := 32, zero := [.int .i64 0, .int .i64 0, .int .i64 0, .int .i64 0], eq := [3, 3, 3, 3] }
def T150 : TI := { kd := .struct [0, 1, 2, 3], sz := 4, by' := 32, zero := [.int .i64 0, .int .i64 0, .int .i64 0, .int .i64 0], eq := [3, 3, 3, 3] }
def T151 : TI := { kd := .struct [0, 1, 2, 3, 4], sz := 5, by' := 40, zero := [.int .i64 0, .int .i64 0, .int .i64 0, .int .i64 0, .int .i64 0], eq := [3, 3, 3, 3, 3] }
def T152 : TI := { kd := .struct [0, 1, 2, 3, 4], sz := 5, by' := 40, zero := [.int .i64 0, .int .i64 0, .int .i64 0, .int .i64 0, .int .i64 0], eq := [3, 3, 3, 3, 3] }
def T172 : TI := { kd := .struct [0, 1, 2, 3, 4], sz := 5, by' := 40, zero := [.int .i64 0, .int .i64 0, .int .i64 0, .int .i64 0, .int .i64 0], eq := [3, 3, 3, 3, 3] }
def T174 : TI := { kd := .struct [0, 1, 2, 3, 4, 5], sz := 6, by' := 48, zero := [.int .i64 0, .int .i64 0, .int .i64 0, .int .i64 0, .int .i64 0, .int .i64 0], eq := [3, 3, 3, 3, 3, 3] }
def T176 : TI := { kd := .struct [0, 1, 2], sz := 3, by' := 24, zero := [.int .i64 0, .int .i64 0, .int .i64 0], eq := [3, 3, 3] }
def T178 : TI := { kd := .struct [0, 1, 2, 3], sz := 4, by' := 32, zero := [.int .i64 0, .int .i64 0, .int .i64 0, .int .i64 0], eq := [3, 3, 3, 3] }
def T191 : TI := { kd := .scalar 6, sz := 1, by' := 4, zero := [.int .u32 0], eq := [] }
def T192 : TI := { kd := .scalar 4, sz := 1, by' := 1, zero := [.int .u8 0], eq := [] }
def T193 : TI := { kd := .scalar 4, sz := 1, by' := 1, zero := [.int .u8 0], eq := [] }
def T196 : TI := { kd := .scalar 2, sz := 1, by' := 4, zero := [.int .i32 0], eq := [] }
def T197 : TI := { kd := .scalar 2, sz := 1, by' := 4, zero := [.int .i32 0], eq := [] }
def T (t : Nat) : Option TI := bif Nat.blt t 201 then (bif Nat.blt t 100 then (bif Nat.blt t 50 then (bif Nat.blt t 25 then (bif Nat.blt t 12 then (bif Nat.blt t 6 then (bif Nat.blt t 3 then (bif Nat.blt t 1 then none else (bif Nat.blt t 2 then none else (some T2))) else (bif Nat.blt t 4 then (some T3) else (bif Nat.blt t 5 then (some T4) else (some T5)))) else (bif Nat.blt t 9 then (bif Nat.blt t 7 then (some T6) else (bif Nat.blt t 8 then (some T7) else (some T8))) else (bif Nat.blt t 10 then (some T9) else (bif Nat.blt t 11 then (some T10) else (some T11))))) else (bif Nat.blt t 18 then (bif Nat.blt t 15 then (bif Nat.blt t 13 then (some T12) else (bif Nat.blt t 14 then (some T13) else (some T14))) else none) else (bif Nat.blt t 21 then none else (bif Nat.blt t 23 then (bif Nat.blt t 22 then (some T21) else (some T22)) else (bif Nat.blt t 24 then (some T23) else (some T24)))))) else (bif Nat.blt t 37 then (bif Nat.blt t 31 then (bif Nat.blt t 28 then (bif Nat.blt t 26 then (some T25) else (bif Nat.blt t 27 then (some T26) else (some T27))) else (bif Nat.blt t 29 then (some T28) else (bif Nat.blt t 30 then (some T29) else none))) else (bif Nat.blt t 34 then (bif Nat.blt t 32 then none else (bif Nat.blt t 33 then (some T32) else (some T33))) else (bif Nat.blt t 35 then (some T34) else (bif Nat.blt t 36 then (some T35) else (some T36))))) else (bif Nat.blt t 43 then (bif Nat.blt t 40 then (bif Nat.blt t 38 then (some T37) else (bif Nat.blt t 39 then (some T38) else (some T39))) else none) else none))) else (bif Nat.blt t 75 then (bif Nat.blt t 62 then (bif Nat.blt t 56 then (bif Nat.blt t 53 then (bif Nat.blt t 51 then (some T50) else (bif Nat.blt t 52 then (some T51) else none)) else (bif Nat.blt t 54 then (some T53) else none)) else none) else none) else (bif Nat.blt t 87 then (bif Nat.blt t 81 then (bif Nat.blt t 78 then (bif Nat.blt t 76 then none else (bif Nat.blt t 77 then (some T76) else (some T77))) else (bif Nat.blt t 79 then (some T78) else (bif Nat.blt t 80 then (some T79) else none))) else (bif Nat.blt t 84 then (bif Nat.blt t 82 then none else (bif Nat.blt t 83 then (some T82) else (some T83))) else (bif Nat.blt t 85 then (some T84) else (bif Nat.blt t 86 then (some T85) else (some T86))))) else (bif Nat.blt t 93 then (bif Nat.blt t 90 then (bif Nat.blt t 88 then none else (bif Nat.blt t 89 then (some T88) else (some T89))) else (bif Nat.blt t 91 then (some T90) else none)) else (bif Nat.blt t 96 then (bif Nat.blt t 94 then (some T93) else (bif Nat.blt t 95 then (some T94) else none)) else none))))) else (bif Nat.blt t 150 then (bif Nat.blt t 125 then (bif Nat.blt t 112 then (bif Nat.blt t 106 then (bif Nat.blt t 103 then none else (bif Nat.blt t 104 then (some T103) else (bif Nat.blt t 105 then (some T104) else none))) else (bif Nat.blt t 109 then (bif Nat.blt t 107 then none else (bif Nat.blt t 108 then (some T107) else (some T108))) else (bif Nat.blt t 110 then none else (bif Nat.blt t 111 then (some T110) else (some T111))))) else (bif Nat.blt t 118 then (bif Nat.blt t 115 then (bif Nat.blt t 113 then (some T112) else (bif Nat.blt t 114 then (some T113) else none)) else (bif Nat.blt t 116 then (some T115) else (bif Nat.blt t 117 then (some T116) else (some T117)))) else (bif Nat.blt t 121 then (bif Nat.blt t 119 then (some T118) else none) else (bif Nat.blt t 123 then (bif Nat.blt t 122 then none else (some T122)) else (bif Nat.blt t 124 then (some T123) else (some T124)))))) else (bif Nat.blt t 137 then (bif Nat.blt t 131 then (bif Nat.blt t 128 then (bif Nat.blt t 126 then none else (bif Nat.blt t 127 then (some T126) else (some T127))) else (bif Nat.blt t 129 then none else (bif Nat.blt t 130 then (some T129) else (some T130)))) else (bif Nat.blt t 134 then (bif Nat.blt t 132 then none else (bif Nat.blt t 133 then (some T132) else none)) else none)) else (bif Nat.blt t 143 then (bif Nat.blt t 140 then (bif Nat.blt t 138 then (some T137) else (bif Nat.blt t 139 then (some T138) else none)) else none) else (bif Nat.blt t 146 then none else (bif Nat.blt t 148 then (bif Nat.blt t 147 then none else (some T147)) else (bif Nat.blt t 149 then (some T148) else (some T149))))))) else (bif Nat.blt t 175 then (bif Nat.blt t 162 then (bif Nat.blt t 156 then (bif Nat.blt t 153 then (bif Nat.blt t 151 then (some T150) else (bif Nat.blt t 152 then (some T151) else (some T152))) else none) else none) else (bif Nat.blt t 168 then none else (bif Nat.blt t 171 then none else (bif Nat.blt t 173 then (bif Nat.blt t 172 then none else (some T172)) else (bif Nat.blt t 174 then none else (some T174)))))) else (bif Nat.blt t 188 then (bif Nat.blt t 181 then (bif Nat.blt t 178 then (bif Nat.blt t 176 then none else (bif Nat.blt t 177 then (some T176) else none)) else (bif Nat.blt t 179 then (some T178) else none)) else none) else (bif Nat.blt t 194 then (bif Nat.blt t 191 then none else (bif Nat.blt t 192 then (some T191) else (bif Nat.blt t 193 then (some T192) else (some T193)))) else (bif Nat.blt t 197 then (bif Nat.blt t 195 then none else (bif Nat.blt t 196 then none else (some T196))) else (bif Nat.blt t 199 then (bif Nat.blt t 198 then (some T197) else none) else none))))))) else none
theorem tok : Try.prog.follows .mixedOrders = true ∧ TOK Try.prog T := ⟨by kernel_rfl, tok_of (n := 201) (by kernel_rfl) (fun t ht => by
  have h : Nat.blt t 201 = false := by rw [← Bool.not_eq_true, Nat.blt_eq]; omega
  unfold T; rw [h]; rfl)⟩
end Go.Proofs.Ytdlppfdakpeodaa
