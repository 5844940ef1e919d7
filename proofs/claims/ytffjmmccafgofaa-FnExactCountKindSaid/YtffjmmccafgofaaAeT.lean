/- The seat's types as the evaluator asks for them, and its functions' numbers. Written by gen.py. -/
import Derived.Test.YtffjmmccafgofaaAeF
import Derived.Test.YtffjmmccafgofaaProg
namespace Go.Proofs.Ytffjmmccafgofaa
open Go
def T2 : TI := { kd := .scalar 3, sz := 1, by' := 8, zero := [.int .i64 0], eq := [] }
def T3 : TI := { kd := .scalar 3, sz := 1, by' := 8, zero := [.int .i64 0], eq := [] }
def T4 : TI := { kd := .scalar 10, sz := 1, by' := 1, zero := [.bool false], eq := [] }
def T5 : TI := { kd := .scalar 4, sz := 1, by' := 1, zero := [.int .u8 0], eq := [] }
def T6 : TI := { kd := .scalar 4, sz := 1, by' := 1, zero := [.int .u8 0], eq := [] }
def T7 : TI := { kd := .struct [0, 1, 2, 3], sz := 4, by' := 24, zero := [.int .i64 0, .int .i64 0, .bool false, .int .u8 0], eq := [] }
def T8 : TI := { kd := .struct [0, 1, 2, 3], sz := 4, by' := 24, zero := [.int .i64 0, .int .i64 0, .bool false, .int .u8 0], eq := [] }
def T9 : TI := { kd := .scalar 20, sz := 1, by' := 16, zero := [.str ⟨#[]⟩], eq := [] }
def T10 : TI := { kd := .scalar 20, sz := 1, by' := 16, zero := [.str ⟨#[]⟩], eq := [] }
def T11 : TI := { kd := .scalar 20, sz := 1, by' := 16, zero := [.str ⟨#[]⟩], eq := [] }
def T12 : TI := { kd := .scalar 7, sz := 1, by' := 8, zero := [.int .u64 0], eq := [] }
def T13 : TI := { kd := .struct [0, 1], sz := 2, by' := 24, zero := [.str ⟨#[]⟩, .int .u64 0], eq := [] }
def T14 : TI := { kd := .struct [0, 1], sz := 2, by' := 24, zero := [.str ⟨#[]⟩, .int .u64 0], eq := [] }
def T21 : TI := { kd := .scalar 2, sz := 1, by' := 4, zero := [.int .i32 0], eq := [] }
def T24 : TI := { kd := .struct [0, 1], sz := 2, by' := 16, zero := [.int .i64 0, .int .i64 0], eq := [3, 3] }
def T25 : TI := { kd := .struct [0, 1], sz := 2, by' := 16, zero := [.int .i64 0, .int .i64 0], eq := [3, 3] }
def T26 : TI := { kd := .slice 96, sz := 1, by' := 24, zero := [.nil], eq := [] }
def T27 : TI := { kd := .slice 103, sz := 1, by' := 24, zero := [.nil], eq := [] }
def T28 : TI := { kd := .slice 3, sz := 1, by' := 24, zero := [.nil], eq := [] }
def T29 : TI := { kd := .struct [0, 2, 3, 4, 5], sz := 6, by' := 96, zero := [.int .i64 0, .int .i64 0, .nil, .nil, .nil, .int .i64 0], eq := [] }
def T30 : TI := { kd := .struct [0, 2, 3, 4, 5], sz := 6, by' := 96, zero := [.int .i64 0, .int .i64 0, .nil, .nil, .nil, .int .i64 0], eq := [] }
def T33 : TI := { kd := .struct [0, 1], sz := 2, by' := 16, zero := [.int .i64 0, .int .i64 0], eq := [3, 3] }
def T34 : TI := { kd := .slice 91, sz := 1, by' := 24, zero := [.nil], eq := [] }
def T35 : TI := { kd := .slice 85, sz := 1, by' := 24, zero := [.nil], eq := [] }
def T36 : TI := { kd := .struct [0, 2, 3, 4, 5], sz := 6, by' := 96, zero := [.int .i64 0, .int .i64 0, .nil, .nil, .nil, .int .i64 0], eq := [] }
def T37 : TI := { kd := .struct [0, 2, 3, 4, 5], sz := 6, by' := 96, zero := [.int .i64 0, .int .i64 0, .nil, .nil, .nil, .int .i64 0], eq := [] }
def T41 : TI := { kd := .slice 37, sz := 1, by' := 24, zero := [.nil], eq := [] }
def T60 : TI := { kd := .slice 111, sz := 1, by' := 24, zero := [.nil], eq := [] }
def T63 : TI := { kd := .slice 122, sz := 1, by' := 24, zero := [.nil], eq := [] }
def T67 : TI := { kd := .slice 5, sz := 1, by' := 24, zero := [.nil], eq := [] }
def T80 : TI := { kd := .slice 9, sz := 1, by' := 24, zero := [.nil], eq := [] }
def T81 : TI := { kd := .array 10 9, sz := 10, by' := 160, zero := [.str ⟨#[]⟩, .str ⟨#[]⟩, .str ⟨#[]⟩, .str ⟨#[]⟩, .str ⟨#[]⟩, .str ⟨#[]⟩, .str ⟨#[]⟩, .str ⟨#[]⟩, .str ⟨#[]⟩, .str ⟨#[]⟩], eq := [] }
def T84 : TI := { kd := .struct [0, 1, 2, 3, 4, 5], sz := 6, by' := 48, zero := [.int .i64 0, .int .i64 0, .int .i64 0, .int .i64 0, .int .i64 0, .int .i64 0], eq := [3, 3, 3, 3, 3, 3] }
def T85 : TI := { kd := .struct [0, 1, 2, 3, 4, 5], sz := 6, by' := 48, zero := [.int .i64 0, .int .i64 0, .int .i64 0, .int .i64 0, .int .i64 0, .int .i64 0], eq := [3, 3, 3, 3, 3, 3] }
def T90 : TI := { kd := .struct [0, 1, 2, 3, 4], sz := 5, by' := 40, zero := [.int .i64 0, .int .i64 0, .int .i64 0, .int .i64 0, .int .i64 0], eq := [3, 3, 3, 3, 3] }
def T91 : TI := { kd := .struct [0, 1, 2, 3, 4], sz := 5, by' := 40, zero := [.int .i64 0, .int .i64 0, .int .i64 0, .int .i64 0, .int .i64 0], eq := [3, 3, 3, 3, 3] }
def T96 : TI := { kd := .struct [0, 1, 2, 3, 4], sz := 5, by' := 40, zero := [.int .i64 0, .int .i64 0, .int .i64 0, .int .i64 0, .int .i64 0], eq := [3, 3, 3, 3, 3] }
def T100 : TI := { kd := .struct [0, 1], sz := 2, by' := 16, zero := [.int .i64 0, .int .i64 0], eq := [3, 3] }
def T101 : TI := { kd := .struct [0, 1, 3], sz := 4, by' := 32, zero := [.int .i64 0, .int .i64 0, .int .i64 0, .int .i64 0], eq := [3, 3, 3, 3] }
def T102 : TI := { kd := .struct [0, 1, 3], sz := 4, by' := 32, zero := [.int .i64 0, .int .i64 0, .int .i64 0, .int .i64 0], eq := [3, 3, 3, 3] }
def T103 : TI := { kd := .struct [0, 1, 2, 3, 4, 5], sz := 6, by' := 48, zero := [.int .i64 0, .int .i64 0, .int .i64 0, .int .i64 0, .int .i64 0, .int .i64 0], eq := [3, 3, 3, 3, 3, 3] }
def T104 : TI := { kd := .slice 171, sz := 1, by' := 24, zero := [.nil], eq := [] }
def T105 : TI := { kd := .slice 175, sz := 1, by' := 24, zero := [.nil], eq := [] }
def T106 : TI := { kd := .slice 180, sz := 1, by' := 24, zero := [.nil], eq := [] }
def T107 : TI := { kd := .slice 184, sz := 1, by' := 24, zero := [.nil], eq := [] }
def T108 : TI := { kd := .struct [0, 1, 2, 3, 4, 5, 6, 7], sz := 8, by' := 128, zero := [.int .i64 0, .int .i64 0, .int .i64 0, .nil, .nil, .nil, .nil, .int .i64 0], eq := [] }
def T109 : TI := { kd := .struct [0, 1, 2, 3, 4, 5, 6, 7], sz := 8, by' := 128, zero := [.int .i64 0, .int .i64 0, .int .i64 0, .nil, .nil, .nil, .nil, .int .i64 0], eq := [] }
def T110 : TI := { kd := .struct [0, 1, 2, 3, 4, 5, 6, 8, 12, 18], sz := 26, by' := 272, zero := [.int .i64 0, .int .i64 0, .int .i64 0, .int .i64 0, .int .i64 0, .bool false, .int .i64 0, .int .i64 0, .int .i64 0, .int .i64 0, .int .i64 0, .int .i64 0, .int .i64 0, .int .i64 0, .int .i64 0, .int .i64 0, .int .i64 0, .int .i64 0, .int .i64 0, .int .i64 0, .int .i64 0, .nil, .nil, .nil, .nil, .int .i64 0], eq := [] }
def T111 : TI := { kd := .struct [0, 1, 2, 3, 4, 5, 6, 8, 12, 18], sz := 26, by' := 272, zero := [.int .i64 0, .int .i64 0, .int .i64 0, .int .i64 0, .int .i64 0, .bool false, .int .i64 0, .int .i64 0, .int .i64 0, .int .i64 0, .int .i64 0, .int .i64 0, .int .i64 0, .int .i64 0, .int .i64 0, .int .i64 0, .int .i64 0, .int .i64 0, .int .i64 0, .int .i64 0, .int .i64 0, .nil, .nil, .nil, .nil, .int .i64 0], eq := [] }
def T112 : TI := { kd := .struct [0, 1], sz := 2, by' := 16, zero := [.int .i64 0, .int .i64 0], eq := [3, 3] }
def T113 : TI := { kd := .struct [0, 1, 3], sz := 4, by' := 32, zero := [.int .i64 0, .int .i64 0, .int .i64 0, .int .i64 0], eq := [3, 3, 3, 3] }
def T114 : TI := { kd := .struct [0, 1, 3], sz := 4, by' := 32, zero := [.int .i64 0, .int .i64 0, .int .i64 0, .int .i64 0], eq := [3, 3, 3, 3] }
def T115 : TI := { kd := .slice 168, sz := 1, by' := 24, zero := [.nil], eq := [] }
def T116 : TI := { kd := .slice 173, sz := 1, by' := 24, zero := [.nil], eq := [] }
def T117 : TI := { kd := .slice 177, sz := 1, by' := 24, zero := [.nil], eq := [] }
def T118 : TI := { kd := .slice 182, sz := 1, by' := 24, zero := [.nil], eq := [] }
def T119 : TI := { kd := .struct [0, 1, 2, 3, 4, 5, 6, 7], sz := 8, by' := 128, zero := [.int .i64 0, .int .i64 0, .int .i64 0, .nil, .nil, .nil, .nil, .int .i64 0], eq := [] }
def T120 : TI := { kd := .struct [0, 1, 2, 3, 4, 5, 6, 7], sz := 8, by' := 128, zero := [.int .i64 0, .int .i64 0, .int .i64 0, .nil, .nil, .nil, .nil, .int .i64 0], eq := [] }
def T121 : TI := { kd := .struct [0, 1, 2, 3, 4, 5, 6, 8, 12, 18], sz := 26, by' := 272, zero := [.int .i64 0, .int .i64 0, .int .i64 0, .int .i64 0, .int .i64 0, .bool false, .int .i64 0, .int .i64 0, .int .i64 0, .int .i64 0, .int .i64 0, .int .i64 0, .int .i64 0, .int .i64 0, .int .i64 0, .int .i64 0, .int .i64 0, .int .i64 0, .int .i64 0, .int .i64 0, .int .i64 0, .nil, .nil, .nil, .nil, .int .i64 0], eq := [] }
def T122 : TI := { kd := .struct [0, 1, 2, 3, 4, 5, 6, 8, 12, 18], sz := 26, by' := 272, zero := [.int .i64 0, .int .i64 0, .int .i64 0, .int .i64 0, .int .i64 0, .bool false, .int .i64 0, .int .i64 0, .int .i64 0, .int .i64 0, .int .i64 0, .int .i64 0, .int .i64 0, .int .i64 0, .int .i64 0, .int .i64 0, .int .i64 0, .int .i64 0, .int .i64 0, .int .i64 0, .int .i64 0, .nil, .nil, .nil, .nil, .int .i64 0], eq := [] }
def T140 : TI := { kd := .struct [0, 1, 2], sz := 3, by' := 40, zero := [.nil, .int .i64 0, .int .i64 0], eq := [] }
def T141 : TI := { kd := .struct [0, 1, 2], sz := 3, by' := 40, zero := [.nil, .int .i64 0, .int .i64 0], eq := [] }
def T164 : TI := { kd := .scalar 7, sz := 1, by' := 8, zero := [.int .u64 0], eq := [] }
def T167 : TI := { kd := .struct [0, 1, 3, 4, 5, 6], sz := 7, by' := 56, zero := [.int .i64 0, .int .i64 0, .int .i64 0, .int .i64 0, .int .i64 0, .int .i64 0, .bool false], eq := [3, 3, 3, 3, 3, 3, 10] }
def T168 : TI := { kd := .struct [0, 1, 3, 4, 5, 6], sz := 7, by' := 56, zero := [.int .i64 0, .int .i64 0, .int .i64 0, .int .i64 0, .int .i64 0, .int .i64 0, .bool false], eq := [3, 3, 3, 3, 3, 3, 10] }
def T170 : TI := { kd := .struct [0, 1, 3, 4, 5, 6], sz := 7, by' := 56, zero := [.int .i64 0, .int .i64 0, .int .i64 0, .int .i64 0, .int .i64 0, .int .i64 0, .bool false], eq := [3, 3, 3, 3, 3, 3, 10] }
def T171 : TI := { kd := .struct [0, 1, 3, 4, 5, 6], sz := 7, by' := 56, zero := [.int .i64 0, .int .i64 0, .int .i64 0, .int .i64 0, .int .i64 0, .int .i64 0, .bool false], eq := [3, 3, 3, 3, 3, 3, 10] }
def T172 : TI := { kd := .struct [0, 1, 2], sz := 3, by' := 24, zero := [.int .i64 0, .int .i64 0, .int .i64 0], eq := [3, 3, 3] }
def T173 : TI := { kd := .struct [0, 1, 2], sz := 3, by' := 24, zero := [.int .i64 0, .int .i64 0, .int .i64 0], eq := [3, 3, 3] }
def T175 : TI := { kd := .struct [0, 1, 2], sz := 3, by' := 24, zero := [.int .i64 0, .int .i64 0, .int .i64 0], eq := [3, 3, 3] }
def T176 : TI := { kd := .struct [0, 1, 2, 4, 5, 6], sz := 8, by' := 64, zero := [.int .i64 0, .int .i64 0, .int .i64 0, .int .i64 0, .int .i64 0, .int .i64 0, .int .i64 0, .int .i64 0], eq := [3, 3, 3, 3, 3, 3, 3, 3] }
def T177 : TI := { kd := .struct [0, 1, 2, 4, 5, 6], sz := 8, by' := 64, zero := [.int .i64 0, .int .i64 0, .int .i64 0, .int .i64 0, .int .i64 0, .int .i64 0, .int .i64 0, .int .i64 0], eq := [3, 3, 3, 3, 3, 3, 3, 3] }
def T179 : TI := { kd := .struct [0, 1, 2, 4, 5, 6], sz := 8, by' := 64, zero := [.int .i64 0, .int .i64 0, .int .i64 0, .int .i64 0, .int .i64 0, .int .i64 0, .int .i64 0, .int .i64 0], eq := [3, 3, 3, 3, 3, 3, 3, 3] }
def T180 : TI := { kd := .struct [0, 1, 2, 4, 5, 6], sz := 8, by' := 64, zero := [.int .i64 0, .int .i64 0, .int .i64 0, .int .i64 0, .int .i64 0, .int .i64 0, .int .i64 0, .int .i64 0], eq := [3, 3, 3, 3, 3, 3, 3, 3] }
def T181 : TI := { kd := .struct [0, 1, 2, 3], sz := 4, by' := 32, zero := [.int .i64 0, .int .i64 0, .int .i64 0, .int .i64 0], eq := [3, 3, 3, 3] }
def T182 : TI := { kd := .struct [0, 1, 2, 3], sz := 4, by' := 32, zero := [.int .i64 0, .int .i64 0, .int .i64 0, .int .i64 0], eq := [3, 3, 3, 3] }
def T184 : TI := { kd := .struct [0, 1, 2, 3], sz := 4, by' := 32, zero := [.int .i64 0, .int .i64 0, .int .i64 0, .int .i64 0], eq := [3, 3, 3, 3] }
def T199 : TI := { kd := .scalar 6, sz := 1, by' := 4, zero := [.int .u32 0], eq := [] }
def T200 : TI := { kd := .scalar 4, sz := 1, by' := 1, zero := [.int .u8 0], eq := [] }
def T201 : TI := { kd := .scalar 4, sz := 1, by' := 1, zero := [.int .u8 0], eq := [] }
def T204 : TI := { kd := .scalar 2, sz := 1, by' := 4, zero := [.int .i32 0], eq := [] }
def T205 : TI := { kd := .scalar 2, sz := 1, by' := 4, zero := [.int .i32 0], eq := [] }
def T (t : Nat) : Option TI := bif Nat.blt t 209 then (bif Nat.blt t 104 then (bif Nat.blt t 52 then (bif Nat.blt t 26 then (bif Nat.blt t 13 then (bif Nat.blt t 6 then (bif Nat.blt t 3 then (bif Nat.blt t 1 then none else (bif Nat.blt t 2 then none else (some T2))) else (bif Nat.blt t 4 then (some T3) else (bif Nat.blt t 5 then (some T4) else (some T5)))) else (bif Nat.blt t 9 then (bif Nat.blt t 7 then (some T6) else (bif Nat.blt t 8 then (some T7) else (some T8))) else (bif Nat.blt t 11 then (bif Nat.blt t 10 then (some T9) else (some T10)) else (bif Nat.blt t 12 then (some T11) else (some T12))))) else (bif Nat.blt t 19 then (bif Nat.blt t 16 then (bif Nat.blt t 14 then (some T13) else (bif Nat.blt t 15 then (some T14) else none)) else none) else (bif Nat.blt t 22 then (bif Nat.blt t 20 then none else (bif Nat.blt t 21 then none else (some T21))) else (bif Nat.blt t 24 then none else (bif Nat.blt t 25 then (some T24) else (some T25)))))) else (bif Nat.blt t 39 then (bif Nat.blt t 32 then (bif Nat.blt t 29 then (bif Nat.blt t 27 then (some T26) else (bif Nat.blt t 28 then (some T27) else (some T28))) else (bif Nat.blt t 30 then (some T29) else (bif Nat.blt t 31 then (some T30) else none))) else (bif Nat.blt t 35 then (bif Nat.blt t 33 then none else (bif Nat.blt t 34 then (some T33) else (some T34))) else (bif Nat.blt t 37 then (bif Nat.blt t 36 then (some T35) else (some T36)) else (bif Nat.blt t 38 then (some T37) else none)))) else (bif Nat.blt t 45 then (bif Nat.blt t 42 then (bif Nat.blt t 40 then none else (bif Nat.blt t 41 then none else (some T41))) else none) else none))) else (bif Nat.blt t 78 then (bif Nat.blt t 65 then (bif Nat.blt t 58 then none else (bif Nat.blt t 61 then (bif Nat.blt t 59 then none else (bif Nat.blt t 60 then none else (some T60))) else (bif Nat.blt t 63 then none else (bif Nat.blt t 64 then (some T63) else none)))) else (bif Nat.blt t 71 then (bif Nat.blt t 68 then (bif Nat.blt t 66 then none else (bif Nat.blt t 67 then none else (some T67))) else none) else none)) else (bif Nat.blt t 91 then (bif Nat.blt t 84 then (bif Nat.blt t 81 then (bif Nat.blt t 79 then none else (bif Nat.blt t 80 then none else (some T80))) else (bif Nat.blt t 82 then (some T81) else none)) else (bif Nat.blt t 87 then (bif Nat.blt t 85 then (some T84) else (bif Nat.blt t 86 then (some T85) else none)) else (bif Nat.blt t 89 then none else (bif Nat.blt t 90 then none else (some T90))))) else (bif Nat.blt t 97 then (bif Nat.blt t 94 then (bif Nat.blt t 92 then (some T91) else none) else (bif Nat.blt t 95 then none else (bif Nat.blt t 96 then none else (some T96)))) else (bif Nat.blt t 100 then none else (bif Nat.blt t 102 then (bif Nat.blt t 101 then (some T100) else (some T101)) else (bif Nat.blt t 103 then (some T102) else (some T103)))))))) else (bif Nat.blt t 156 then (bif Nat.blt t 130 then (bif Nat.blt t 117 then (bif Nat.blt t 110 then (bif Nat.blt t 107 then (bif Nat.blt t 105 then (some T104) else (bif Nat.blt t 106 then (some T105) else (some T106))) else (bif Nat.blt t 108 then (some T107) else (bif Nat.blt t 109 then (some T108) else (some T109)))) else (bif Nat.blt t 113 then (bif Nat.blt t 111 then (some T110) else (bif Nat.blt t 112 then (some T111) else (some T112))) else (bif Nat.blt t 115 then (bif Nat.blt t 114 then (some T113) else (some T114)) else (bif Nat.blt t 116 then (some T115) else (some T116))))) else (bif Nat.blt t 123 then (bif Nat.blt t 120 then (bif Nat.blt t 118 then (some T117) else (bif Nat.blt t 119 then (some T118) else (some T119))) else (bif Nat.blt t 121 then (some T120) else (bif Nat.blt t 122 then (some T121) else (some T122)))) else none)) else (bif Nat.blt t 143 then (bif Nat.blt t 136 then none else (bif Nat.blt t 139 then none else (bif Nat.blt t 141 then (bif Nat.blt t 140 then none else (some T140)) else (bif Nat.blt t 142 then (some T141) else none)))) else none)) else (bif Nat.blt t 182 then (bif Nat.blt t 169 then (bif Nat.blt t 162 then none else (bif Nat.blt t 165 then (bif Nat.blt t 163 then none else (bif Nat.blt t 164 then none else (some T164))) else (bif Nat.blt t 167 then none else (bif Nat.blt t 168 then (some T167) else (some T168))))) else (bif Nat.blt t 175 then (bif Nat.blt t 172 then (bif Nat.blt t 170 then none else (bif Nat.blt t 171 then (some T170) else (some T171))) else (bif Nat.blt t 173 then (some T172) else (bif Nat.blt t 174 then (some T173) else none))) else (bif Nat.blt t 178 then (bif Nat.blt t 176 then (some T175) else (bif Nat.blt t 177 then (some T176) else (some T177))) else (bif Nat.blt t 180 then (bif Nat.blt t 179 then none else (some T179)) else (bif Nat.blt t 181 then (some T180) else (some T181)))))) else (bif Nat.blt t 195 then (bif Nat.blt t 188 then (bif Nat.blt t 185 then (bif Nat.blt t 183 then (some T182) else (bif Nat.blt t 184 then none else (some T184))) else none) else none) else (bif Nat.blt t 202 then (bif Nat.blt t 198 then none else (bif Nat.blt t 200 then (bif Nat.blt t 199 then none else (some T199)) else (bif Nat.blt t 201 then (some T200) else (some T201)))) else (bif Nat.blt t 205 then (bif Nat.blt t 203 then none else (bif Nat.blt t 204 then none else (some T204))) else (bif Nat.blt t 207 then (bif Nat.blt t 206 then (some T205) else none) else none))))))) else none
theorem tok : Try.prog.follows .mixedOrders = true ∧ TOK Try.prog T := ⟨by kernel_rfl, tok_of (n := 209) (by kernel_rfl) (fun t ht => by
  have h : Nat.blt t 209 = false := by rw [← Bool.not_eq_true, Nat.blt_eq]; omega
  unfold T; rw [h]; rfl)⟩
end Go.Proofs.Ytffjmmccafgofaa
