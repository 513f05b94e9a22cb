import Derived.Test.YteacnmjinjaapaaSxA
namespace Go.Proofs.YteacnmjinjaapaaSx
set_option maxRecDepth 100000
def T : TT := (.node (.node (.node (.node (.node (.node (.node (.node (.node .nil 0 ⟨.other, 1, 0, [.dead], none⟩
 .nil) 1 ⟨.other, 1, 8, [.dead], none⟩
 .nil) 2 ⟨.int .i64, 1, 8, [.p (.int .i64) (0 : Int)], some (.int .i64)⟩
 (.node .nil 3 ⟨.int .i64, 1, 8, [.p (.int .i64) (0 : Int)], some (.int .i64)⟩
 .nil)) 4 ⟨.bool, 1, 1, [.cb .ff], some .bool⟩
 (.node (.node (.node .nil 5 ⟨.int .u8, 1, 1, [.p (.int .u8) (0 : Int)], some (.int .u8)⟩
 .nil) 6 ⟨.int .u8, 1, 1, [.p (.int .u8) (0 : Int)], some (.int .u8)⟩
 .nil) 7 ⟨.struct [(0, 2), (1, 3), (2, 4), (3, 6)], 4, 24, [.p (.int .i64) (0 : Int), .p (.int .i64) (0 : Int), .cb .ff, .p (.int .u8) (0 : Int)], some (.pair (.int .i64) (.pair (.int .i64) (.pair .bool (.pair (.int .u8) .unit))))⟩
 (.node .nil 8 ⟨.struct [(0, 2), (1, 3), (2, 4), (3, 6)], 4, 24, [.p (.int .i64) (0 : Int), .p (.int .i64) (0 : Int), .cb .ff, .p (.int .u8) (0 : Int)], some (.pair (.int .i64) (.pair (.int .i64) (.pair .bool (.pair (.int .u8) .unit))))⟩
 .nil))) 9 ⟨.str, 1, 16, [.p .str ByteArray.empty], some .str⟩
 (.node (.node (.node (.node .nil 10 ⟨.str, 1, 16, [.p .str ByteArray.empty], some .str⟩
 .nil) 11 ⟨.str, 1, 16, [.p .str ByteArray.empty], some .str⟩
 .nil) 12 ⟨.int .u64, 1, 8, [.p (.int .u64) (0 : Int)], some (.int .u64)⟩
 (.node .nil 13 ⟨.struct [(0, 9), (1, 12)], 2, 24, [.p .str ByteArray.empty, .p (.int .u64) (0 : Int)], some (.pair .str (.pair (.int .u64) .unit))⟩
 .nil)) 14 ⟨.struct [(0, 9), (1, 12)], 2, 24, [.p .str ByteArray.empty, .p (.int .u64) (0 : Int)], some (.pair .str (.pair (.int .u64) .unit))⟩
 (.node (.node (.node .nil 15 ⟨.ptr 298, 1, 8, [.kv (.pointer none)], none⟩
 .nil) 16 ⟨.ptr 301, 1, 8, [.kv (.pointer none)], none⟩
 .nil) 17 ⟨.ptr 309, 1, 8, [.kv (.pointer none)], none⟩
 (.node .nil 18 ⟨.struct [(0, 17)], 1, 8, [.kv (.pointer none)], none⟩
 .nil)))) 19 ⟨.struct [(0, 17)], 1, 8, [.kv (.pointer none)], none⟩
 (.node (.node (.node (.node (.node .nil 20 ⟨.other, 1, 16, [.dead], none⟩
 .nil) 21 ⟨.int .i32, 1, 4, [.p (.int .i32) (0 : Int)], some (.int .i32)⟩
 .nil) 22 ⟨.slice 23, 1, 24, [.nils], some (.slice (.slice (.int .i64)))⟩
 (.node .nil 23 ⟨.slice 3, 1, 24, [.nils], some (.slice (.int .i64))⟩
 .nil)) 24 ⟨.struct [(0, 3), (1, 3), (2, 22), (3, 23)], 4, 64, [.p (.int .i64) (0 : Int), .p (.int .i64) (0 : Int), .nils, .nils], some (.pair (.int .i64) (.pair (.int .i64) (.pair (.slice (.slice (.int .i64))) (.pair (.slice (.int .i64)) .unit))))⟩
 (.node (.node (.node .nil 25 ⟨.struct [(0, 3), (1, 3), (2, 22), (3, 23)], 4, 64, [.p (.int .i64) (0 : Int), .p (.int .i64) (0 : Int), .nils, .nils], some (.pair (.int .i64) (.pair (.int .i64) (.pair (.slice (.slice (.int .i64))) (.pair (.slice (.int .i64)) .unit))))⟩
 .nil) 26 ⟨.other, 1, 8, [.dead], none⟩
 .nil) 27 ⟨.int .i64, 1, 8, [.p (.int .i64) (0 : Int)], some (.int .i64)⟩
 (.node .nil 28 ⟨.other, 1, 0, [.dead], none⟩
 .nil))) 29 ⟨.other, 1, 8, [.dead], none⟩
 (.node (.node (.node (.node .nil 30 ⟨.other, 1, 0, [.dead], none⟩
 .nil) 31 ⟨.other, 1, 8, [.dead], none⟩
 .nil) 32 ⟨.other, 1, 8, [.dead], none⟩
 (.node .nil 33 ⟨.other, 1, 8, [.dead], none⟩
 .nil)) 34 ⟨.other, 1, 8, [.dead], none⟩
 (.node (.node .nil 35 ⟨.other, 1, 8, [.dead], none⟩
 .nil) 36 ⟨.other, 1, 0, [.dead], none⟩
 (.node .nil 37 ⟨.other, 1, 8, [.dead], none⟩
 .nil))))) 38 ⟨.other, 1, 8, [.dead], none⟩
 (.node (.node (.node (.node (.node (.node .nil 39 ⟨.other, 1, 8, [.dead], none⟩
 .nil) 40 ⟨.slice 149, 1, 24, [.nils], some (.slice (.pair (.int .i64) (.pair (.int .i64) (.pair (.int .i64) .unit))))⟩
 .nil) 41 ⟨.struct [(0, 3), (1, 3), (2, 23), (3, 40), (4, 23)], 5, 88, [.p (.int .i64) (0 : Int), .p (.int .i64) (0 : Int), .nils, .nils, .nils], some (.pair (.int .i64) (.pair (.int .i64) (.pair (.slice (.int .i64)) (.pair (.slice (.pair (.int .i64) (.pair (.int .i64) (.pair (.int .i64) .unit)))) (.pair (.slice (.int .i64)) .unit)))))⟩
 (.node .nil 42 ⟨.struct [(0, 3), (1, 3), (2, 23), (3, 40), (4, 23)], 5, 88, [.p (.int .i64) (0 : Int), .p (.int .i64) (0 : Int), .nils, .nils, .nils], some (.pair (.int .i64) (.pair (.int .i64) (.pair (.slice (.int .i64)) (.pair (.slice (.pair (.int .i64) (.pair (.int .i64) (.pair (.int .i64) .unit)))) (.pair (.slice (.int .i64)) .unit)))))⟩
 .nil)) 43 ⟨.struct [(0, 23), (1, 23)], 2, 48, [.nils, .nils], some (.pair (.slice (.int .i64)) (.pair (.slice (.int .i64)) .unit))⟩
 (.node (.node (.node .nil 44 ⟨.struct [(0, 23), (1, 23)], 2, 48, [.nils, .nils], some (.pair (.slice (.int .i64)) (.pair (.slice (.int .i64)) .unit))⟩
 .nil) 45 ⟨.other, 1, 8, [.dead], none⟩
 .nil) 46 ⟨.other, 1, 0, [.dead], none⟩
 (.node .nil 47 ⟨.other, 1, 8, [.dead], none⟩
 .nil))) 48 ⟨.other, 1, 8, [.dead], none⟩
 (.node (.node (.node (.node .nil 49 ⟨.other, 1, 8, [.dead], none⟩
 .nil) 50 ⟨.other, 1, 8, [.dead], none⟩
 .nil) 51 ⟨.other, 1, 8, [.dead], none⟩
 (.node .nil 52 ⟨.other, 1, 8, [.dead], none⟩
 .nil)) 53 ⟨.other, 1, 8, [.dead], none⟩
 (.node (.node (.node .nil 54 ⟨.slice 157, 1, 24, [.nils], some (.slice (.pair (.int .i64) (.pair (.int .i64) (.pair (.int .i64) (.pair (.int .i64) .unit)))))⟩
 .nil) 55 ⟨.struct [(0, 3), (1, 3), (2, 54), (3, 3), (4, 23)], 5, 72, [.p (.int .i64) (0 : Int), .p (.int .i64) (0 : Int), .nils, .p (.int .i64) (0 : Int), .nils], some (.pair (.int .i64) (.pair (.int .i64) (.pair (.slice (.pair (.int .i64) (.pair (.int .i64) (.pair (.int .i64) (.pair (.int .i64) .unit))))) (.pair (.int .i64) (.pair (.slice (.int .i64)) .unit)))))⟩
 .nil) 56 ⟨.struct [(0, 3), (1, 3), (2, 54), (3, 3), (4, 23)], 5, 72, [.p (.int .i64) (0 : Int), .p (.int .i64) (0 : Int), .nils, .p (.int .i64) (0 : Int), .nils], some (.pair (.int .i64) (.pair (.int .i64) (.pair (.slice (.pair (.int .i64) (.pair (.int .i64) (.pair (.int .i64) (.pair (.int .i64) .unit))))) (.pair (.int .i64) (.pair (.slice (.int .i64)) .unit)))))⟩
 (.node .nil 57 ⟨.slice 162, 1, 24, [.nils], some (.slice (.pair (.int .i64) (.pair (.int .i64) (.pair (.int .i64) .unit))))⟩
 .nil)))) 58 ⟨.struct [(0, 57)], 1, 24, [.nils], some (.pair (.slice (.pair (.int .i64) (.pair (.int .i64) (.pair (.int .i64) .unit)))) .unit)⟩
 (.node (.node (.node (.node (.node .nil 59 ⟨.struct [(0, 57)], 1, 24, [.nils], some (.pair (.slice (.pair (.int .i64) (.pair (.int .i64) (.pair (.int .i64) .unit)))) .unit)⟩
 .nil) 60 ⟨.other, 1, 8, [.dead], none⟩
 .nil) 61 ⟨.other, 1, 8, [.dead], none⟩
 (.node .nil 62 ⟨.other, 1, 0, [.dead], none⟩
 .nil)) 63 ⟨.other, 1, 8, [.dead], none⟩
 (.node (.node (.node .nil 64 ⟨.other, 1, 8, [.dead], none⟩
 .nil) 65 ⟨.other, 1, 8, [.dead], none⟩
 .nil) 66 ⟨.slice 72, 1, 24, [.nils], some (.slice (.slice (.pair (.int .i64) (.pair (.int .i64) .unit))))⟩
 (.node .nil 67 ⟨.struct [(0, 3), (1, 3), (2, 66), (3, 23)], 4, 64, [.p (.int .i64) (0 : Int), .p (.int .i64) (0 : Int), .nils, .nils], some (.pair (.int .i64) (.pair (.int .i64) (.pair (.slice (.slice (.pair (.int .i64) (.pair (.int .i64) .unit)))) (.pair (.slice (.int .i64)) .unit))))⟩
 .nil))) 68 ⟨.struct [(0, 3), (1, 3), (2, 66), (3, 23)], 4, 64, [.p (.int .i64) (0 : Int), .p (.int .i64) (0 : Int), .nils, .nils], some (.pair (.int .i64) (.pair (.int .i64) (.pair (.slice (.slice (.pair (.int .i64) (.pair (.int .i64) .unit)))) (.pair (.slice (.int .i64)) .unit))))⟩
 (.node (.node (.node (.node .nil 69 ⟨.slice 73, 1, 24, [.nils], some (.slice (.slice (.slice (.slice (.int .i64)))))⟩
 .nil) 70 ⟨.struct [(0, 3), (1, 3), (2, 69), (3, 23)], 4, 64, [.p (.int .i64) (0 : Int), .p (.int .i64) (0 : Int), .nils, .nils], some (.pair (.int .i64) (.pair (.int .i64) (.pair (.slice (.slice (.slice (.slice (.int .i64))))) (.pair (.slice (.int .i64)) .unit))))⟩
 .nil) 71 ⟨.struct [(0, 3), (1, 3), (2, 69), (3, 23)], 4, 64, [.p (.int .i64) (0 : Int), .p (.int .i64) (0 : Int), .nils, .nils], some (.pair (.int .i64) (.pair (.int .i64) (.pair (.slice (.slice (.slice (.slice (.int .i64))))) (.pair (.slice (.int .i64)) .unit))))⟩
 (.node .nil 72 ⟨.slice 74, 1, 24, [.nils], some (.slice (.pair (.int .i64) (.pair (.int .i64) .unit)))⟩
 .nil)) 73 ⟨.slice 22, 1, 24, [.nils], some (.slice (.slice (.slice (.int .i64))))⟩
 (.node (.node .nil 74 ⟨.arr 2 3, 2, 16, [.p (.int .i64) (0 : Int), .p (.int .i64) (0 : Int)], some (.pair (.int .i64) (.pair (.int .i64) .unit))⟩
 .nil) 75 ⟨.other, 1, 8, [.dead], none⟩
 (.node .nil 76 ⟨.other, 1, 8, [.dead], none⟩
 .nil)))))) 77 ⟨.struct [(0, 3), (1, 3), (2, 3), (3, 23), (4, 22), (5, 73), (6, 22)], 7, 120, [.p (.int .i64) (0 : Int), .p (.int .i64) (0 : Int), .p (.int .i64) (0 : Int), .nils, .nils, .nils, .nils], some (.pair (.int .i64) (.pair (.int .i64) (.pair (.int .i64) (.pair (.slice (.int .i64)) (.pair (.slice (.slice (.int .i64))) (.pair (.slice (.slice (.slice (.int .i64)))) (.pair (.slice (.slice (.int .i64))) .unit)))))))⟩
 (.node (.node (.node (.node (.node (.node (.node .nil 78 ⟨.struct [(0, 3), (1, 3), (2, 3), (3, 23), (4, 22), (5, 73), (6, 22)], 7, 120, [.p (.int .i64) (0 : Int), .p (.int .i64) (0 : Int), .p (.int .i64) (0 : Int), .nils, .nils, .nils, .nils], some (.pair (.int .i64) (.pair (.int .i64) (.pair (.int .i64) (.pair (.slice (.int .i64)) (.pair (.slice (.slice (.int .i64))) (.pair (.slice (.slice (.slice (.int .i64)))) (.pair (.slice (.slice (.int .i64))) .unit)))))))⟩
 .nil) 79 ⟨.other, 1, 8, [.dead], none⟩
 .nil) 80 ⟨.other, 1, 8, [.dead], none⟩
 (.node .nil 81 ⟨.other, 1, 8, [.dead], none⟩
 .nil)) 82 ⟨.other, 1, 8, [.dead], none⟩
 (.node (.node (.node .nil 83 ⟨.other, 1, 8, [.dead], none⟩
 .nil) 84 ⟨.other, 1, 8, [.dead], none⟩
 .nil) 85 ⟨.other, 1, 8, [.dead], none⟩
 (.node .nil 86 ⟨.other, 1, 8, [.dead], none⟩
 .nil))) 87 ⟨.other, 1, 8, [.dead], none⟩
 (.node (.node (.node (.node .nil 88 ⟨.other, 1, 8, [.dead], none⟩
 .nil) 89 ⟨.other, 1, 0, [.dead], none⟩
 .nil) 90 ⟨.other, 1, 8, [.dead], none⟩
 (.node .nil 91 ⟨.slice 265, 1, 24, [.nils], some (.slice (.pair (.int .i64) (.pair (.int .i64) (.pair (.slice (.int .i64)) .unit))))⟩
 .nil)) 92 ⟨.struct [(0, 27), (1, 3)], 2, 16, [.p (.int .i64) (0 : Int), .p (.int .i64) (0 : Int)], some (.pair (.int .i64) (.pair (.int .i64) .unit))⟩
 (.node (.node (.node .nil 93 ⟨.struct [(0, 27), (1, 3)], 2, 16, [.p (.int .i64) (0 : Int), .p (.int .i64) (0 : Int)], some (.pair (.int .i64) (.pair (.int .i64) .unit))⟩
 .nil) 94 ⟨.other, 1, 0, [.dead], none⟩
 .nil) 95 ⟨.other, 1, 8, [.dead], none⟩
 (.node .nil 96 ⟨.other, 1, 8, [.dead], none⟩
 .nil)))) 97 ⟨.other, 1, 8, [.dead], none⟩
 (.node (.node (.node (.node (.node .nil 98 ⟨.other, 1, 8, [.dead], none⟩
 .nil) 99 ⟨.struct [(0, 3), (1, 22), (2, 22)], 3, 56, [.p (.int .i64) (0 : Int), .nils, .nils], some (.pair (.int .i64) (.pair (.slice (.slice (.int .i64))) (.pair (.slice (.slice (.int .i64))) .unit)))⟩
 .nil) 100 ⟨.struct [(0, 3), (1, 22), (2, 22)], 3, 56, [.p (.int .i64) (0 : Int), .nils, .nils], some (.pair (.int .i64) (.pair (.slice (.slice (.int .i64))) (.pair (.slice (.slice (.int .i64))) .unit)))⟩
 (.node .nil 101 ⟨.struct [(0, 4), (1, 23), (2, 23)], 3, 56, [.cb .ff, .nils, .nils], some (.pair .bool (.pair (.slice (.int .i64)) (.pair (.slice (.int .i64)) .unit)))⟩
 .nil)) 102 ⟨.struct [(0, 4), (1, 23), (2, 23)], 3, 56, [.cb .ff, .nils, .nils], some (.pair .bool (.pair (.slice (.int .i64)) (.pair (.slice (.int .i64)) .unit)))⟩
 (.node (.node (.node .nil 103 ⟨.other, 1, 0, [.dead], none⟩
 .nil) 104 ⟨.other, 1, 8, [.dead], none⟩
 .nil) 105 ⟨.other, 1, 8, [.dead], none⟩
 (.node .nil 106 ⟨.other, 1, 8, [.dead], none⟩
 .nil))) 107 ⟨.other, 1, 8, [.dead], none⟩
 (.node (.node (.node (.node .nil 108 ⟨.other, 1, 8, [.dead], none⟩
 .nil) 109 ⟨.other, 1, 8, [.dead], none⟩
 .nil) 110 ⟨.other, 1, 0, [.dead], none⟩
 (.node .nil 111 ⟨.other, 1, 8, [.dead], none⟩
 .nil)) 112 ⟨.other, 1, 8, [.dead], none⟩
 (.node (.node .nil 113 ⟨.other, 1, 8, [.dead], none⟩
 .nil) 114 ⟨.other, 1, 8, [.dead], none⟩
 (.node .nil 115 ⟨.other, 1, 0, [.dead], none⟩
 .nil))))) 116 ⟨.other, 1, 8, [.dead], none⟩
 (.node (.node (.node (.node (.node (.node .nil 117 ⟨.other, 1, 8, [.dead], none⟩
 .nil) 118 ⟨.slice 221, 1, 24, [.nils], some (.slice (.pair (.int .i64) (.pair (.int .i64) (.pair (.int .i64) .unit))))⟩
 .nil) 119 ⟨.struct [(0, 3), (1, 3), (2, 118)], 3, 40, [.p (.int .i64) (0 : Int), .p (.int .i64) (0 : Int), .nils], some (.pair (.int .i64) (.pair (.int .i64) (.pair (.slice (.pair (.int .i64) (.pair (.int .i64) (.pair (.int .i64) .unit)))) .unit)))⟩
 (.node .nil 120 ⟨.struct [(0, 3), (1, 3), (2, 118)], 3, 40, [.p (.int .i64) (0 : Int), .p (.int .i64) (0 : Int), .nils], some (.pair (.int .i64) (.pair (.int .i64) (.pair (.slice (.pair (.int .i64) (.pair (.int .i64) (.pair (.int .i64) .unit)))) .unit)))⟩
 .nil)) 121 ⟨.slice 225, 1, 24, [.nils], some (.slice (.pair (.int .i64) (.pair (.int .i64) (.pair (.int .i64) (.pair (.int .i64) .unit)))))⟩
 (.node (.node (.node .nil 122 ⟨.other, 1, 0, [.dead], none⟩
 .nil) 123 ⟨.other, 1, 8, [.dead], none⟩
 .nil) 124 ⟨.other, 1, 8, [.dead], none⟩
 (.node .nil 125 ⟨.other, 1, 8, [.dead], none⟩
 .nil))) 126 ⟨.other, 1, 8, [.dead], none⟩
 (.node (.node (.node (.node .nil 127 ⟨.slice 4, 1, 24, [.nils], some (.slice .bool)⟩
 .nil) 128 ⟨.other, 1, 8, [.dead], none⟩
 .nil) 129 ⟨.other, 1, 8, [.dead], none⟩
 (.node .nil 130 ⟨.other, 1, 0, [.dead], none⟩
 .nil)) 131 ⟨.other, 1, 8, [.dead], none⟩
 (.node (.node (.node .nil 132 ⟨.slice 135, 1, 24, [.nils], some (.slice (.pair (.slice (.int .i64)) (.pair (.slice (.int .i64)) .unit)))⟩
 .nil) 133 ⟨.other, 1, 8, [.dead], none⟩
 .nil) 134 ⟨.struct [(0, 23), (1, 23)], 2, 48, [.nils, .nils], some (.pair (.slice (.int .i64)) (.pair (.slice (.int .i64)) .unit))⟩
 (.node .nil 135 ⟨.struct [(0, 23), (1, 23)], 2, 48, [.nils, .nils], some (.pair (.slice (.int .i64)) (.pair (.slice (.int .i64)) .unit))⟩
 .nil)))) 136 ⟨.other, 1, 8, [.dead], none⟩
 (.node (.node (.node (.node (.node .nil 137 ⟨.other, 1, 8, [.dead], none⟩
 .nil) 138 ⟨.other, 1, 8, [.dead], none⟩
 .nil) 139 ⟨.arr 2 3, 2, 16, [.p (.int .i64) (0 : Int), .p (.int .i64) (0 : Int)], some (.pair (.int .i64) (.pair (.int .i64) .unit))⟩
 (.node .nil 140 ⟨.other, 1, 8, [.dead], none⟩
 .nil)) 141 ⟨.other, 1, 8, [.dead], none⟩
 (.node (.node (.node .nil 142 ⟨.other, 1, 8, [.dead], none⟩
 .nil) 143 ⟨.other, 1, 8, [.dead], none⟩
 .nil) 144 ⟨.struct [(0, 23), (1, 23), (2, 22)], 3, 72, [.nils, .nils, .nils], some (.pair (.slice (.int .i64)) (.pair (.slice (.int .i64)) (.pair (.slice (.slice (.int .i64))) .unit)))⟩
 (.node .nil 145 ⟨.struct [(0, 23), (1, 23), (2, 22)], 3, 72, [.nils, .nils, .nils], some (.pair (.slice (.int .i64)) (.pair (.slice (.int .i64)) (.pair (.slice (.slice (.int .i64))) .unit)))⟩
 .nil))) 146 ⟨.other, 1, 8, [.dead], none⟩
 (.node (.node (.node (.node .nil 147 ⟨.other, 1, 8, [.dead], none⟩
 .nil) 148 ⟨.struct [(0, 3), (1, 3), (2, 3)], 3, 24, [.p (.int .i64) (0 : Int), .p (.int .i64) (0 : Int), .p (.int .i64) (0 : Int)], some (.pair (.int .i64) (.pair (.int .i64) (.pair (.int .i64) .unit)))⟩
 .nil) 149 ⟨.struct [(0, 3), (1, 3), (2, 3)], 3, 24, [.p (.int .i64) (0 : Int), .p (.int .i64) (0 : Int), .p (.int .i64) (0 : Int)], some (.pair (.int .i64) (.pair (.int .i64) (.pair (.int .i64) .unit)))⟩
 (.node .nil 150 ⟨.other, 1, 8, [.dead], none⟩
 .nil)) 151 ⟨.other, 1, 8, [.dead], none⟩
 (.node (.node .nil 152 ⟨.other, 1, 8, [.dead], none⟩
 .nil) 153 ⟨.other, 1, 8, [.dead], none⟩
 (.node .nil 154 ⟨.other, 1, 8, [.dead], none⟩
 .nil))))))) 155 ⟨.other, 1, 8, [.dead], none⟩
 (.node (.node (.node (.node (.node (.node (.node (.node .nil 156 ⟨.struct [(0, 3), (1, 3), (2, 3), (3, 3)], 4, 32, [.p (.int .i64) (0 : Int), .p (.int .i64) (0 : Int), .p (.int .i64) (0 : Int), .p (.int .i64) (0 : Int)], some (.pair (.int .i64) (.pair (.int .i64) (.pair (.int .i64) (.pair (.int .i64) .unit))))⟩
 .nil) 157 ⟨.struct [(0, 3), (1, 3), (2, 3), (3, 3)], 4, 32, [.p (.int .i64) (0 : Int), .p (.int .i64) (0 : Int), .p (.int .i64) (0 : Int), .p (.int .i64) (0 : Int)], some (.pair (.int .i64) (.pair (.int .i64) (.pair (.int .i64) (.pair (.int .i64) .unit))))⟩
 .nil) 158 ⟨.other, 1, 8, [.dead], none⟩
 (.node .nil 159 ⟨.other, 1, 8, [.dead], none⟩
 .nil)) 160 ⟨.other, 1, 8, [.dead], none⟩
 (.node (.node (.node .nil 161 ⟨.struct [(0, 3), (1, 3), (2, 3)], 3, 24, [.p (.int .i64) (0 : Int), .p (.int .i64) (0 : Int), .p (.int .i64) (0 : Int)], some (.pair (.int .i64) (.pair (.int .i64) (.pair (.int .i64) .unit)))⟩
 .nil) 162 ⟨.struct [(0, 3), (1, 3), (2, 3)], 3, 24, [.p (.int .i64) (0 : Int), .p (.int .i64) (0 : Int), .p (.int .i64) (0 : Int)], some (.pair (.int .i64) (.pair (.int .i64) (.pair (.int .i64) .unit)))⟩
 .nil) 163 ⟨.other, 1, 8, [.dead], none⟩
 (.node .nil 164 ⟨.slice 127, 1, 24, [.nils], some (.slice (.slice .bool))⟩
 .nil))) 165 ⟨.other, 1, 8, [.dead], none⟩
 (.node (.node (.node (.node .nil 166 ⟨.arr 5 3, 5, 40, [.p (.int .i64) (0 : Int), .p (.int .i64) (0 : Int), .p (.int .i64) (0 : Int), .p (.int .i64) (0 : Int), .p (.int .i64) (0 : Int)], some (.pair (.int .i64) (.pair (.int .i64) (.pair (.int .i64) (.pair (.int .i64) (.pair (.int .i64) .unit)))))⟩
 .nil) 167 ⟨.arr 5 3, 5, 40, [.p (.int .i64) (0 : Int), .p (.int .i64) (0 : Int), .p (.int .i64) (0 : Int), .p (.int .i64) (0 : Int), .p (.int .i64) (0 : Int)], some (.pair (.int .i64) (.pair (.int .i64) (.pair (.int .i64) (.pair (.int .i64) (.pair (.int .i64) .unit)))))⟩
 .nil) 168 ⟨.other, 1, 8, [.dead], none⟩
 (.node .nil 169 ⟨.other, 1, 8, [.dead], none⟩
 .nil)) 170 ⟨.other, 1, 8, [.dead], none⟩
 (.node (.node (.node .nil 171 ⟨.other, 1, 8, [.dead], none⟩
 .nil) 172 ⟨.other, 1, 8, [.dead], none⟩
 .nil) 173 ⟨.other, 1, 8, [.dead], none⟩
 (.node .nil 174 ⟨.other, 1, 8, [.dead], none⟩
 .nil)))) 175 ⟨.other, 1, 8, [.dead], none⟩
 (.node (.node (.node (.node (.node .nil 176 ⟨.other, 1, 8, [.dead], none⟩
 .nil) 177 ⟨.slice 78, 1, 24, [.nils], some (.slice (.pair (.int .i64) (.pair (.int .i64) (.pair (.int .i64) (.pair (.slice (.int .i64)) (.pair (.slice (.slice (.int .i64))) (.pair (.slice (.slice (.slice (.int .i64)))) (.pair (.slice (.slice (.int .i64))) .unit))))))))⟩
 .nil) 178 ⟨.map 181 3 (.pair (.int .i64) (.pair (.int .i64) .unit)), 1, 8, [.kv (.map none)], none⟩
 (.node .nil 179 ⟨.other, 1, 0, [.dead], none⟩
 .nil)) 180 ⟨.other, 1, 8, [.dead], none⟩
 (.node (.node (.node .nil 181 ⟨.arr 2 3, 2, 16, [.p (.int .i64) (0 : Int), .p (.int .i64) (0 : Int)], some (.pair (.int .i64) (.pair (.int .i64) .unit))⟩
 .nil) 182 ⟨.other, 1, 8, [.dead], none⟩
 .nil) 183 ⟨.other, 1, 8, [.dead], none⟩
 (.node .nil 184 ⟨.other, 1, 8, [.dead], none⟩
 .nil))) 185 ⟨.other, 1, 8, [.dead], none⟩
 (.node (.node (.node (.node .nil 186 ⟨.other, 1, 8, [.dead], none⟩
 .nil) 187 ⟨.other, 1, 8, [.dead], none⟩
 .nil) 188 ⟨.other, 1, 8, [.dead], none⟩
 (.node .nil 189 ⟨.slice 190, 1, 24, [.nils], some (.slice (.slice .str))⟩
 .nil)) 190 ⟨.slice 9, 1, 24, [.nils], some (.slice .str)⟩
 (.node (.node .nil 191 ⟨.other, 1, 8, [.dead], none⟩
 .nil) 192 ⟨.other, 1, 8, [.dead], none⟩
 (.node .nil 193 ⟨.other, 1, 8, [.dead], none⟩
 .nil))))) 194 ⟨.ptr 196, 1, 8, [.kv (.pointer none)], none⟩
 (.node (.node (.node (.node (.node (.node .nil 195 ⟨.struct [(0, 9), (1, 3), (2, 3), (3, 91), (4, 93)], 6, 72, [.p .str ByteArray.empty, .p (.int .i64) (0 : Int), .p (.int .i64) (0 : Int), .nils, .p (.int .i64) (0 : Int), .p (.int .i64) (0 : Int)], some (.pair .str (.pair (.int .i64) (.pair (.int .i64) (.pair (.slice (.pair (.int .i64) (.pair (.int .i64) (.pair (.slice (.int .i64)) .unit)))) (.pair (.pair (.int .i64) (.pair (.int .i64) .unit)) .unit)))))⟩
 .nil) 196 ⟨.struct [(0, 9), (1, 3), (2, 3), (3, 91), (4, 93)], 6, 72, [.p .str ByteArray.empty, .p (.int .i64) (0 : Int), .p (.int .i64) (0 : Int), .nils, .p (.int .i64) (0 : Int), .p (.int .i64) (0 : Int)], some (.pair .str (.pair (.int .i64) (.pair (.int .i64) (.pair (.slice (.pair (.int .i64) (.pair (.int .i64) (.pair (.slice (.int .i64)) .unit)))) (.pair (.pair (.int .i64) (.pair (.int .i64) .unit)) .unit)))))⟩
 .nil) 197 ⟨.other, 1, 8, [.dead], none⟩
 (.node .nil 198 ⟨.other, 1, 8, [.dead], none⟩
 .nil)) 199 ⟨.other, 1, 8, [.dead], none⟩
 (.node (.node (.node .nil 200 ⟨.other, 1, 8, [.dead], none⟩
 .nil) 201 ⟨.other, 1, 8, [.dead], none⟩
 .nil) 202 ⟨.ptr 205, 1, 8, [.kv (.pointer none)], none⟩
 (.node .nil 203 ⟨.map 9 3 .str, 1, 8, [.kv (.map none)], none⟩
 .nil))) 204 ⟨.struct [(0, 100), (3, 203), (4, 22), (5, 23), (6, 102)], 9, 168, [.p (.int .i64) (0 : Int), .nils, .nils, .kv (.map none), .nils, .nils, .cb .ff, .nils, .nils], none⟩
 (.node (.node (.node (.node .nil 205 ⟨.struct [(0, 100), (3, 203), (4, 22), (5, 23), (6, 102)], 9, 168, [.p (.int .i64) (0 : Int), .nils, .nils, .kv (.map none), .nils, .nils, .cb .ff, .nils, .nils], none⟩
 .nil) 206 ⟨.other, 1, 8, [.dead], none⟩
 .nil) 207 ⟨.other, 1, 8, [.dead], none⟩
 (.node .nil 208 ⟨.other, 1, 8, [.dead], none⟩
 .nil)) 209 ⟨.struct [(0, 23), (1, 3)], 2, 32, [.nils, .p (.int .i64) (0 : Int)], some (.pair (.slice (.int .i64)) (.pair (.int .i64) .unit))⟩
 (.node (.node (.node .nil 210 ⟨.struct [(0, 23), (1, 3)], 2, 32, [.nils, .p (.int .i64) (0 : Int)], some (.pair (.slice (.int .i64)) (.pair (.int .i64) .unit))⟩
 .nil) 211 ⟨.slice 210, 1, 24, [.nils], some (.slice (.pair (.slice (.int .i64)) (.pair (.int .i64) .unit)))⟩
 .nil) 212 ⟨.other, 1, 8, [.dead], none⟩
 (.node .nil 213 ⟨.other, 1, 8, [.dead], none⟩
 .nil)))) 214 ⟨.other, 1, 8, [.dead], none⟩
 (.node (.node (.node (.node (.node .nil 215 ⟨.other, 1, 8, [.dead], none⟩
 .nil) 216 ⟨.ptr 220, 1, 8, [.kv (.pointer none)], none⟩
 .nil) 217 ⟨.other, 1, 8, [.dead], none⟩
 (.node .nil 218 ⟨.map 74 3 (.pair (.int .i64) (.pair (.int .i64) .unit)), 1, 8, [.kv (.map none)], none⟩
 .nil)) 219 ⟨.struct [(0, 120), (3, 22), (4, 121), (5, 218)], 6, 96, [.p (.int .i64) (0 : Int), .p (.int .i64) (0 : Int), .nils, .nils, .nils, .kv (.map none)], none⟩
 (.node (.node (.node .nil 220 ⟨.struct [(0, 120), (3, 22), (4, 121), (5, 218)], 6, 96, [.p (.int .i64) (0 : Int), .p (.int .i64) (0 : Int), .nils, .nils, .nils, .kv (.map none)], none⟩
 .nil) 221 ⟨.struct [(0, 3), (1, 3), (2, 3)], 3, 24, [.p (.int .i64) (0 : Int), .p (.int .i64) (0 : Int), .p (.int .i64) (0 : Int)], some (.pair (.int .i64) (.pair (.int .i64) (.pair (.int .i64) .unit)))⟩
 .nil) 222 ⟨.other, 1, 8, [.dead], none⟩
 (.node .nil 223 ⟨.other, 1, 8, [.dead], none⟩
 .nil))) 224 ⟨.struct [(0, 3), (1, 3), (2, 3), (3, 3)], 4, 32, [.p (.int .i64) (0 : Int), .p (.int .i64) (0 : Int), .p (.int .i64) (0 : Int), .p (.int .i64) (0 : Int)], some (.pair (.int .i64) (.pair (.int .i64) (.pair (.int .i64) (.pair (.int .i64) .unit))))⟩
 (.node (.node (.node (.node .nil 225 ⟨.struct [(0, 3), (1, 3), (2, 3), (3, 3)], 4, 32, [.p (.int .i64) (0 : Int), .p (.int .i64) (0 : Int), .p (.int .i64) (0 : Int), .p (.int .i64) (0 : Int)], some (.pair (.int .i64) (.pair (.int .i64) (.pair (.int .i64) (.pair (.int .i64) .unit))))⟩
 .nil) 226 ⟨.slice 229, 1, 24, [.nils], some (.slice (.pair (.slice (.int .i64)) (.pair (.slice (.int .i64)) .unit)))⟩
 .nil) 227 ⟨.other, 1, 8, [.dead], none⟩
 (.node .nil 228 ⟨.struct [(0, 23), (1, 23)], 2, 48, [.nils, .nils], some (.pair (.slice (.int .i64)) (.pair (.slice (.int .i64)) .unit))⟩
 .nil)) 229 ⟨.struct [(0, 23), (1, 23)], 2, 48, [.nils, .nils], some (.pair (.slice (.int .i64)) (.pair (.slice (.int .i64)) .unit))⟩
 (.node (.node .nil 230 ⟨.other, 1, 8, [.dead], none⟩
 .nil) 231 ⟨.other, 1, 8, [.dead], none⟩
 (.node .nil 232 ⟨.map 139 23 (.pair (.int .i64) (.pair (.int .i64) .unit)), 1, 8, [.kv (.map none)], none⟩
 .nil)))))) 233 ⟨.slice 139, 1, 24, [.nils], some (.slice (.pair (.int .i64) (.pair (.int .i64) .unit)))⟩
 (.node (.node (.node (.node (.node (.node (.node .nil 234 ⟨.other, 1, 8, [.dead], none⟩
 .nil) 235 ⟨.other, 1, 8, [.dead], none⟩
 .nil) 236 ⟨.other, 1, 8, [.dead], none⟩
 (.node .nil 237 ⟨.other, 1, 8, [.dead], none⟩
 .nil)) 238 ⟨.slice 241, 1, 24, [.nils], some (.slice (.pair (.int .i64) (.pair (.int .i64) (.pair (.int .i64) .unit))))⟩
 (.node (.node (.node .nil 239 ⟨.slice 40, 1, 24, [.nils], some (.slice (.slice (.pair (.int .i64) (.pair (.int .i64) (.pair (.int .i64) .unit)))))⟩
 .nil) 240 ⟨.struct [(0, 3), (1, 3), (2, 3)], 3, 24, [.p (.int .i64) (0 : Int), .p (.int .i64) (0 : Int), .p (.int .i64) (0 : Int)], some (.pair (.int .i64) (.pair (.int .i64) (.pair (.int .i64) .unit)))⟩
 .nil) 241 ⟨.struct [(0, 3), (1, 3), (2, 3)], 3, 24, [.p (.int .i64) (0 : Int), .p (.int .i64) (0 : Int), .p (.int .i64) (0 : Int)], some (.pair (.int .i64) (.pair (.int .i64) (.pair (.int .i64) .unit)))⟩
 (.node .nil 242 ⟨.other, 1, 8, [.dead], none⟩
 .nil))) 243 ⟨.other, 1, 8, [.dead], none⟩
 (.node (.node (.node (.node .nil 244 ⟨.other, 1, 8, [.dead], none⟩
 .nil) 245 ⟨.other, 1, 8, [.dead], none⟩
 .nil) 246 ⟨.other, 1, 8, [.dead], none⟩
 (.node .nil 247 ⟨.other, 1, 8, [.dead], none⟩
 .nil)) 248 ⟨.other, 1, 8, [.dead], none⟩
 (.node (.node (.node .nil 249 ⟨.map 167 3 (.pair (.int .i64) (.pair (.int .i64) (.pair (.int .i64) (.pair (.int .i64) (.pair (.int .i64) .unit))))), 1, 8, [.kv (.map none)], none⟩
 .nil) 250 ⟨.slice 167, 1, 24, [.nils], some (.slice (.pair (.int .i64) (.pair (.int .i64) (.pair (.int .i64) (.pair (.int .i64) (.pair (.int .i64) .unit))))))⟩
 .nil) 251 ⟨.other, 1, 0, [.dead], none⟩
 (.node .nil 252 ⟨.other, 1, 8, [.dead], none⟩
 .nil)))) 253 ⟨.other, 1, 8, [.dead], none⟩
 (.node (.node (.node (.node (.node .nil 254 ⟨.map 3 3 (.int .i64), 1, 8, [.kv (.map none)], none⟩
 .nil) 255 ⟨.other, 1, 8, [.dead], none⟩
 .nil) 256 ⟨.slice 25, 1, 24, [.nils], some (.slice (.pair (.int .i64) (.pair (.int .i64) (.pair (.slice (.slice (.int .i64))) (.pair (.slice (.int .i64)) .unit)))))⟩
 (.node .nil 257 ⟨.map 139 3 (.pair (.int .i64) (.pair (.int .i64) .unit)), 1, 8, [.kv (.map none)], none⟩
 .nil)) 258 ⟨.int .u64, 1, 8, [.p (.int .u64) (0 : Int)], some (.int .u64)⟩
 (.node (.node (.node .nil 259 ⟨.other, 1, 0, [.dead], none⟩
 .nil) 260 ⟨.other, 1, 8, [.dead], none⟩
 .nil) 261 ⟨.other, 1, 8, [.dead], none⟩
 (.node .nil 262 ⟨.other, 1, 8, [.dead], none⟩
 .nil))) 263 ⟨.other, 1, 8, [.dead], none⟩
 (.node (.node (.node (.node .nil 264 ⟨.struct [(0, 3), (1, 3), (2, 23)], 3, 40, [.p (.int .i64) (0 : Int), .p (.int .i64) (0 : Int), .nils], some (.pair (.int .i64) (.pair (.int .i64) (.pair (.slice (.int .i64)) .unit)))⟩
 .nil) 265 ⟨.struct [(0, 3), (1, 3), (2, 23)], 3, 40, [.p (.int .i64) (0 : Int), .p (.int .i64) (0 : Int), .nils], some (.pair (.int .i64) (.pair (.int .i64) (.pair (.slice (.int .i64)) .unit)))⟩
 .nil) 266 ⟨.other, 1, 8, [.dead], none⟩
 (.node .nil 267 ⟨.other, 1, 8, [.dead], none⟩
 .nil)) 268 ⟨.other, 1, 8, [.dead], none⟩
 (.node (.node .nil 269 ⟨.other, 1, 8, [.dead], none⟩
 .nil) 270 ⟨.other, 1, 8, [.dead], none⟩
 (.node .nil 271 ⟨.other, 1, 8, [.dead], none⟩
 .nil))))) 272 ⟨.other, 1, 8, [.dead], none⟩
 (.node (.node (.node (.node (.node (.node .nil 273 ⟨.other, 1, 8, [.dead], none⟩
 .nil) 274 ⟨.other, 1, 8, [.dead], none⟩
 .nil) 275 ⟨.other, 1, 8, [.dead], none⟩
 (.node .nil 276 ⟨.other, 1, 8, [.dead], none⟩
 .nil)) 277 ⟨.other, 1, 8, [.dead], none⟩
 (.node (.node (.node .nil 278 ⟨.map 281 3 (.pair (.int .i64) (.pair .str .unit)), 1, 8, [.kv (.map none)], none⟩
 .nil) 279 ⟨.slice 5, 1, 24, [.nils], some (.slice (.int .u8))⟩
 .nil) 280 ⟨.struct [(0, 3), (1, 9)], 2, 24, [.p (.int .i64) (0 : Int), .p .str ByteArray.empty], some (.pair (.int .i64) (.pair .str .unit))⟩
 (.node .nil 281 ⟨.struct [(0, 3), (1, 9)], 2, 24, [.p (.int .i64) (0 : Int), .p .str ByteArray.empty], some (.pair (.int .i64) (.pair .str .unit))⟩
 .nil))) 282 ⟨.other, 1, 8, [.dead], none⟩
 (.node (.node (.node (.node .nil 283 ⟨.other, 1, 8, [.dead], none⟩
 .nil) 284 ⟨.other, 1, 8, [.dead], none⟩
 .nil) 285 ⟨.other, 1, 8, [.dead], none⟩
 (.node .nil 286 ⟨.other, 1, 8, [.dead], none⟩
 .nil)) 287 ⟨.other, 1, 8, [.dead], none⟩
 (.node (.node (.node .nil 288 ⟨.int .u32, 1, 4, [.p (.int .u32) (0 : Int)], some (.int .u32)⟩
 .nil) 289 ⟨.other, 1, 0, [.dead], none⟩
 .nil) 290 ⟨.other, 1, 8, [.dead], none⟩
 (.node .nil 291 ⟨.int .u64, 1, 8, [.p (.int .u64) (0 : Int)], some (.int .u64)⟩
 .nil)))) 292 ⟨.other, 1, 0, [.dead], none⟩
 (.node (.node (.node (.node (.node .nil 293 ⟨.other, 1, 8, [.dead], none⟩
 .nil) 294 ⟨.other, 1, 8, [.dead], none⟩
 .nil) 295 ⟨.other, 1, 8, [.dead], none⟩
 (.node .nil 296 ⟨.other, 1, 8, [.dead], none⟩
 .nil)) 297 ⟨.struct [(0, 17), (1, 17), (2, 17), (3, 9)], 4, 40, [.kv (.pointer none), .kv (.pointer none), .kv (.pointer none), .p .str ByteArray.empty], none⟩
 (.node (.node (.node .nil 298 ⟨.struct [(0, 17), (1, 17), (2, 17), (3, 9)], 4, 40, [.kv (.pointer none), .kv (.pointer none), .kv (.pointer none), .p .str ByteArray.empty], none⟩
 .nil) 299 ⟨.arr 0 16, 0, 0, [], none⟩
 .nil) 300 ⟨.struct [(0, 299)], 0, 0, [], none⟩
 (.node .nil 301 ⟨.struct [(0, 299)], 0, 0, [], none⟩
 .nil))) 302 ⟨.int .u8, 1, 1, [.p (.int .u8) (0 : Int)], some (.int .u8)⟩
 (.node (.node (.node (.node .nil 303 ⟨.int .u8, 1, 1, [.p (.int .u8) (0 : Int)], some (.int .u8)⟩
 .nil) 304 ⟨.other, 1, 8, [.dead], none⟩
 .nil) 305 ⟨.ptr 5, 1, 8, [.kv (.pointer none)], none⟩
 (.node .nil 306 ⟨.int .i32, 1, 4, [.p (.int .i32) (0 : Int)], some (.int .i32)⟩
 .nil)) 307 ⟨.int .i32, 1, 4, [.p (.int .i32) (0 : Int)], some (.int .i32)⟩
 (.node (.node .nil 308 ⟨.struct [(0, 12), (1, 12), (2, 288), (3, 302), (4, 5), (5, 5), (6, 303), (7, 304), (8, 305), (9, 306), (10, 307)], 11, 48, [.p (.int .u64) (0 : Int), .p (.int .u64) (0 : Int), .p (.int .u32) (0 : Int), .p (.int .u8) (0 : Int), .p (.int .u8) (0 : Int), .p (.int .u8) (0 : Int), .p (.int .u8) (0 : Int), .dead, .kv (.pointer none), .p (.int .i32) (0 : Int), .p (.int .i32) (0 : Int)], none⟩
 .nil) 309 ⟨.struct [(0, 12), (1, 12), (2, 288), (3, 302), (4, 5), (5, 5), (6, 303), (7, 304), (8, 305), (9, 306), (10, 307)], 11, 48, [.p (.int .u64) (0 : Int), .p (.int .u64) (0 : Int), .p (.int .u32) (0 : Int), .p (.int .u8) (0 : Int), .p (.int .u8) (0 : Int), .p (.int .u8) (0 : Int), .p (.int .u8) (0 : Int), .dead, .kv (.pointer none), .p (.int .i32) (0 : Int), .p (.int .i32) (0 : Int)], none⟩
 (.node .nil 310 ⟨.other, 1, 8, [.dead], none⟩
 .nil))))))))
end Go.Proofs.YteacnmjinjaapaaSx
