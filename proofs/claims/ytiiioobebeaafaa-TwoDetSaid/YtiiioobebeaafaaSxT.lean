import Derived.Test.YtiiioobebeaafaaSxA
namespace Go.Proofs.YtiiioobebeaafaaSx
set_option maxRecDepth 100000
def T : TT := (.node (.node (.node (.node (.node (.node (.node (.node .nil 0 ⟨.other, 1, 0, [.dead], none⟩
 .nil) 1 ⟨.other, 1, 8, [.dead], none⟩
 (.node .nil 2 ⟨.int .i64, 1, 8, [.p (.int .i64) (0 : Int)], some (.int .i64)⟩
 .nil)) 3 ⟨.int .i64, 1, 8, [.p (.int .i64) (0 : Int)], some (.int .i64)⟩
 (.node (.node .nil 4 ⟨.bool, 1, 1, [.cb .ff], some .bool⟩
 .nil) 5 ⟨.int .u8, 1, 1, [.p (.int .u8) (0 : Int)], some (.int .u8)⟩
 (.node .nil 6 ⟨.int .u8, 1, 1, [.p (.int .u8) (0 : Int)], some (.int .u8)⟩
 .nil))) 7 ⟨.struct [(0, 2), (1, 3), (2, 4), (3, 6)], 4, 24, [.p (.int .i64) (0 : Int), .p (.int .i64) (0 : Int), .cb .ff, .p (.int .u8) (0 : Int)], some (.pair (.int .i64) (.pair (.int .i64) (.pair .bool (.pair (.int .u8) .unit))))⟩
 (.node (.node (.node .nil 8 ⟨.struct [(0, 2), (1, 3), (2, 4), (3, 6)], 4, 24, [.p (.int .i64) (0 : Int), .p (.int .i64) (0 : Int), .cb .ff, .p (.int .u8) (0 : Int)], some (.pair (.int .i64) (.pair (.int .i64) (.pair .bool (.pair (.int .u8) .unit))))⟩
 .nil) 9 ⟨.str, 1, 16, [.p .str ByteArray.empty], some .str⟩
 (.node .nil 10 ⟨.str, 1, 16, [.p .str ByteArray.empty], some .str⟩
 .nil)) 11 ⟨.str, 1, 16, [.p .str ByteArray.empty], some .str⟩
 (.node (.node .nil 12 ⟨.int .u64, 1, 8, [.p (.int .u64) (0 : Int)], some (.int .u64)⟩
 .nil) 13 ⟨.struct [(0, 9), (1, 12)], 2, 24, [.p .str ByteArray.empty, .p (.int .u64) (0 : Int)], some (.pair .str (.pair (.int .u64) .unit))⟩
 .nil))) 14 ⟨.struct [(0, 9), (1, 12)], 2, 24, [.p .str ByteArray.empty, .p (.int .u64) (0 : Int)], some (.pair .str (.pair (.int .u64) .unit))⟩
 (.node (.node (.node (.node .nil 15 ⟨.ptr 209, 1, 8, [.kv (.pointer none)], none⟩
 .nil) 16 ⟨.ptr 212, 1, 8, [.kv (.pointer none)], none⟩
 (.node .nil 17 ⟨.ptr 222, 1, 8, [.kv (.pointer none)], none⟩
 .nil)) 18 ⟨.struct [(0, 17)], 1, 8, [.kv (.pointer none)], none⟩
 (.node (.node .nil 19 ⟨.struct [(0, 17)], 1, 8, [.kv (.pointer none)], none⟩
 .nil) 20 ⟨.other, 1, 16, [.dead], none⟩
 .nil)) 21 ⟨.int .i32, 1, 4, [.p (.int .i32) (0 : Int)], some (.int .i32)⟩
 (.node (.node (.node .nil 22 ⟨.slice 78, 1, 24, [.nils], some (.slice (.slice (.slice (.slice (.int .i64)))))⟩
 .nil) 23 ⟨.slice 3, 1, 24, [.nils], some (.slice (.int .i64))⟩
 (.node .nil 24 ⟨.struct [(0, 3), (1, 3), (2, 22), (3, 23)], 4, 64, [.p (.int .i64) (0 : Int), .p (.int .i64) (0 : Int), .nils, .nils], some (.pair (.int .i64) (.pair (.int .i64) (.pair (.slice (.slice (.slice (.slice (.int .i64))))) (.pair (.slice (.int .i64)) .unit))))⟩
 .nil)) 25 ⟨.struct [(0, 3), (1, 3), (2, 22), (3, 23)], 4, 64, [.p (.int .i64) (0 : Int), .p (.int .i64) (0 : Int), .nils, .nils], some (.pair (.int .i64) (.pair (.int .i64) (.pair (.slice (.slice (.slice (.slice (.int .i64))))) (.pair (.slice (.int .i64)) .unit))))⟩
 (.node (.node .nil 26 ⟨.int .i64, 1, 8, [.p (.int .i64) (0 : Int)], some (.int .i64)⟩
 .nil) 27 ⟨.other, 1, 0, [.dead], none⟩
 .nil)))) 28 ⟨.other, 1, 8, [.dead], none⟩
 (.node (.node (.node (.node (.node .nil 29 ⟨.other, 1, 8, [.dead], none⟩
 .nil) 30 ⟨.other, 1, 8, [.dead], none⟩
 (.node .nil 31 ⟨.other, 1, 8, [.dead], none⟩
 .nil)) 32 ⟨.struct [(0, 23), (1, 23)], 2, 48, [.nils, .nils], some (.pair (.slice (.int .i64)) (.pair (.slice (.int .i64)) .unit))⟩
 (.node (.node .nil 33 ⟨.struct [(0, 23), (1, 23)], 2, 48, [.nils, .nils], some (.pair (.slice (.int .i64)) (.pair (.slice (.int .i64)) .unit))⟩
 .nil) 34 ⟨.other, 1, 8, [.dead], none⟩
 .nil)) 35 ⟨.other, 1, 0, [.dead], none⟩
 (.node (.node (.node .nil 36 ⟨.other, 1, 8, [.dead], none⟩
 .nil) 37 ⟨.other, 1, 8, [.dead], none⟩
 (.node .nil 38 ⟨.other, 1, 8, [.dead], none⟩
 .nil)) 39 ⟨.other, 1, 8, [.dead], none⟩
 (.node (.node .nil 40 ⟨.other, 1, 8, [.dead], none⟩
 .nil) 41 ⟨.other, 1, 8, [.dead], none⟩
 .nil))) 42 ⟨.other, 1, 8, [.dead], none⟩
 (.node (.node (.node (.node .nil 43 ⟨.other, 1, 8, [.dead], none⟩
 .nil) 44 ⟨.slice 23, 1, 24, [.nils], some (.slice (.slice (.int .i64)))⟩
 (.node .nil 45 ⟨.other, 1, 8, [.dead], none⟩
 .nil)) 46 ⟨.other, 1, 0, [.dead], none⟩
 (.node (.node .nil 47 ⟨.other, 1, 8, [.dead], none⟩
 .nil) 48 ⟨.other, 1, 8, [.dead], none⟩
 .nil)) 49 ⟨.other, 1, 8, [.dead], none⟩
 (.node (.node (.node .nil 50 ⟨.other, 1, 8, [.dead], none⟩
 .nil) 51 ⟨.other, 1, 0, [.dead], none⟩
 (.node .nil 52 ⟨.other, 1, 8, [.dead], none⟩
 .nil)) 53 ⟨.other, 1, 8, [.dead], none⟩
 (.node (.node .nil 54 ⟨.other, 1, 8, [.dead], none⟩
 .nil) 55 ⟨.struct [(0, 3), (1, 3), (2, 44), (3, 23)], 4, 64, [.p (.int .i64) (0 : Int), .p (.int .i64) (0 : Int), .nils, .nils], some (.pair (.int .i64) (.pair (.int .i64) (.pair (.slice (.slice (.int .i64))) (.pair (.slice (.int .i64)) .unit))))⟩
 .nil))))) 56 ⟨.struct [(0, 3), (1, 3), (2, 44), (3, 23)], 4, 64, [.p (.int .i64) (0 : Int), .p (.int .i64) (0 : Int), .nils, .nils], some (.pair (.int .i64) (.pair (.int .i64) (.pair (.slice (.slice (.int .i64))) (.pair (.slice (.int .i64)) .unit))))⟩
 (.node (.node (.node (.node (.node (.node .nil 57 ⟨.struct [(0, 3), (1, 3), (2, 44), (3, 23)], 4, 64, [.p (.int .i64) (0 : Int), .p (.int .i64) (0 : Int), .nils, .nils], some (.pair (.int .i64) (.pair (.int .i64) (.pair (.slice (.slice (.int .i64))) (.pair (.slice (.int .i64)) .unit))))⟩
 .nil) 58 ⟨.struct [(0, 3), (1, 3), (2, 44), (3, 23)], 4, 64, [.p (.int .i64) (0 : Int), .p (.int .i64) (0 : Int), .nils, .nils], some (.pair (.int .i64) (.pair (.int .i64) (.pair (.slice (.slice (.int .i64))) (.pair (.slice (.int .i64)) .unit))))⟩
 (.node .nil 59 ⟨.other, 1, 0, [.dead], none⟩
 .nil)) 60 ⟨.other, 1, 8, [.dead], none⟩
 (.node (.node .nil 61 ⟨.other, 1, 8, [.dead], none⟩
 .nil) 62 ⟨.other, 1, 8, [.dead], none⟩
 .nil)) 63 ⟨.other, 1, 8, [.dead], none⟩
 (.node (.node (.node .nil 64 ⟨.other, 1, 8, [.dead], none⟩
 .nil) 65 ⟨.other, 1, 8, [.dead], none⟩
 (.node .nil 66 ⟨.other, 1, 8, [.dead], none⟩
 .nil)) 67 ⟨.other, 1, 8, [.dead], none⟩
 (.node (.node .nil 68 ⟨.other, 1, 0, [.dead], none⟩
 .nil) 69 ⟨.other, 1, 8, [.dead], none⟩
 .nil))) 70 ⟨.other, 1, 8, [.dead], none⟩
 (.node (.node (.node (.node .nil 71 ⟨.other, 1, 8, [.dead], none⟩
 .nil) 72 ⟨.other, 1, 8, [.dead], none⟩
 (.node .nil 73 ⟨.other, 1, 8, [.dead], none⟩
 .nil)) 74 ⟨.slice 77, 1, 24, [.nils], some (.slice (.slice (.pair (.int .i64) (.pair (.int .i64) .unit))))⟩
 (.node (.node .nil 75 ⟨.struct [(0, 3), (1, 3), (2, 74), (3, 23)], 4, 64, [.p (.int .i64) (0 : Int), .p (.int .i64) (0 : Int), .nils, .nils], some (.pair (.int .i64) (.pair (.int .i64) (.pair (.slice (.slice (.pair (.int .i64) (.pair (.int .i64) .unit)))) (.pair (.slice (.int .i64)) .unit))))⟩
 .nil) 76 ⟨.struct [(0, 3), (1, 3), (2, 74), (3, 23)], 4, 64, [.p (.int .i64) (0 : Int), .p (.int .i64) (0 : Int), .nils, .nils], some (.pair (.int .i64) (.pair (.int .i64) (.pair (.slice (.slice (.pair (.int .i64) (.pair (.int .i64) .unit)))) (.pair (.slice (.int .i64)) .unit))))⟩
 .nil)) 77 ⟨.slice 79, 1, 24, [.nils], some (.slice (.pair (.int .i64) (.pair (.int .i64) .unit)))⟩
 (.node (.node (.node .nil 78 ⟨.slice 44, 1, 24, [.nils], some (.slice (.slice (.slice (.int .i64))))⟩
 .nil) 79 ⟨.arr 2 3, 2, 16, [.p (.int .i64) (0 : Int), .p (.int .i64) (0 : Int)], some (.pair (.int .i64) (.pair (.int .i64) .unit))⟩
 (.node .nil 80 ⟨.other, 1, 8, [.dead], none⟩
 .nil)) 81 ⟨.other, 1, 8, [.dead], none⟩
 (.node (.node .nil 82 ⟨.other, 1, 8, [.dead], none⟩
 .nil) 83 ⟨.other, 1, 8, [.dead], none⟩
 .nil)))) 84 ⟨.other, 1, 8, [.dead], none⟩
 (.node (.node (.node (.node (.node .nil 85 ⟨.other, 1, 8, [.dead], none⟩
 .nil) 86 ⟨.other, 1, 8, [.dead], none⟩
 (.node .nil 87 ⟨.other, 1, 0, [.dead], none⟩
 .nil)) 88 ⟨.other, 1, 8, [.dead], none⟩
 (.node (.node .nil 89 ⟨.other, 1, 0, [.dead], none⟩
 .nil) 90 ⟨.other, 1, 8, [.dead], none⟩
 .nil)) 91 ⟨.other, 1, 8, [.dead], none⟩
 (.node (.node (.node .nil 92 ⟨.other, 1, 8, [.dead], none⟩
 .nil) 93 ⟨.other, 1, 8, [.dead], none⟩
 (.node .nil 94 ⟨.other, 1, 0, [.dead], none⟩
 .nil)) 95 ⟨.other, 1, 8, [.dead], none⟩
 (.node (.node .nil 96 ⟨.other, 1, 0, [.dead], none⟩
 .nil) 97 ⟨.other, 1, 8, [.dead], none⟩
 .nil))) 98 ⟨.slice 172, 1, 24, [.nils], some (.slice (.pair (.int .i64) (.pair (.int .i64) (.pair (.int .i64) .unit))))⟩
 (.node (.node (.node (.node .nil 99 ⟨.struct [(0, 3), (1, 3), (2, 23), (3, 98), (4, 23)], 5, 88, [.p (.int .i64) (0 : Int), .p (.int .i64) (0 : Int), .nils, .nils, .nils], some (.pair (.int .i64) (.pair (.int .i64) (.pair (.slice (.int .i64)) (.pair (.slice (.pair (.int .i64) (.pair (.int .i64) (.pair (.int .i64) .unit)))) (.pair (.slice (.int .i64)) .unit)))))⟩
 .nil) 100 ⟨.struct [(0, 3), (1, 3), (2, 23), (3, 98), (4, 23)], 5, 88, [.p (.int .i64) (0 : Int), .p (.int .i64) (0 : Int), .nils, .nils, .nils], some (.pair (.int .i64) (.pair (.int .i64) (.pair (.slice (.int .i64)) (.pair (.slice (.pair (.int .i64) (.pair (.int .i64) (.pair (.int .i64) .unit)))) (.pair (.slice (.int .i64)) .unit)))))⟩
 (.node .nil 101 ⟨.other, 1, 8, [.dead], none⟩
 .nil)) 102 ⟨.other, 1, 8, [.dead], none⟩
 (.node (.node .nil 103 ⟨.other, 1, 8, [.dead], none⟩
 .nil) 104 ⟨.other, 1, 8, [.dead], none⟩
 .nil)) 105 ⟨.other, 1, 8, [.dead], none⟩
 (.node (.node (.node .nil 106 ⟨.other, 1, 8, [.dead], none⟩
 .nil) 107 ⟨.other, 1, 8, [.dead], none⟩
 (.node .nil 108 ⟨.other, 1, 8, [.dead], none⟩
 .nil)) 109 ⟨.other, 1, 8, [.dead], none⟩
 (.node (.node .nil 110 ⟨.other, 1, 8, [.dead], none⟩
 .nil) 111 ⟨.other, 1, 8, [.dead], none⟩
 .nil)))))) 112 ⟨.other, 1, 8, [.dead], none⟩
 (.node (.node (.node (.node (.node (.node (.node .nil 113 ⟨.other, 1, 8, [.dead], none⟩
 .nil) 114 ⟨.other, 1, 8, [.dead], none⟩
 (.node .nil 115 ⟨.other, 1, 8, [.dead], none⟩
 .nil)) 116 ⟨.other, 1, 8, [.dead], none⟩
 (.node (.node .nil 117 ⟨.other, 1, 8, [.dead], none⟩
 .nil) 118 ⟨.map 9 3 .str, 1, 8, [.kv (.map none)], none⟩
 .nil)) 119 ⟨.slice 121, 1, 24, [.nils], some (.slice (.pair (.slice (.int .i64)) (.pair (.slice (.int .i64)) (.pair (.slice (.int .i64)) .unit))))⟩
 (.node (.node (.node .nil 120 ⟨.struct [(0, 23), (1, 23), (2, 23)], 3, 72, [.nils, .nils, .nils], some (.pair (.slice (.int .i64)) (.pair (.slice (.int .i64)) (.pair (.slice (.int .i64)) .unit)))⟩
 .nil) 121 ⟨.struct [(0, 23), (1, 23), (2, 23)], 3, 72, [.nils, .nils, .nils], some (.pair (.slice (.int .i64)) (.pair (.slice (.int .i64)) (.pair (.slice (.int .i64)) .unit)))⟩
 (.node .nil 122 ⟨.other, 1, 8, [.dead], none⟩
 .nil)) 123 ⟨.other, 1, 8, [.dead], none⟩
 (.node (.node .nil 124 ⟨.other, 1, 8, [.dead], none⟩
 .nil) 125 ⟨.arr 4 3, 4, 32, [.p (.int .i64) (0 : Int), .p (.int .i64) (0 : Int), .p (.int .i64) (0 : Int), .p (.int .i64) (0 : Int)], some (.pair (.int .i64) (.pair (.int .i64) (.pair (.int .i64) (.pair (.int .i64) .unit))))⟩
 .nil))) 126 ⟨.struct [(0, 125), (4, 3)], 5, 40, [.p (.int .i64) (0 : Int), .p (.int .i64) (0 : Int), .p (.int .i64) (0 : Int), .p (.int .i64) (0 : Int), .p (.int .i64) (0 : Int)], some (.pair (.pair (.int .i64) (.pair (.int .i64) (.pair (.int .i64) (.pair (.int .i64) .unit)))) (.pair (.int .i64) .unit))⟩
 (.node (.node (.node (.node .nil 127 ⟨.struct [(0, 125), (4, 3)], 5, 40, [.p (.int .i64) (0 : Int), .p (.int .i64) (0 : Int), .p (.int .i64) (0 : Int), .p (.int .i64) (0 : Int), .p (.int .i64) (0 : Int)], some (.pair (.pair (.int .i64) (.pair (.int .i64) (.pair (.int .i64) (.pair (.int .i64) .unit)))) (.pair (.int .i64) .unit))⟩
 .nil) 128 ⟨.other, 1, 8, [.dead], none⟩
 (.node .nil 129 ⟨.other, 1, 8, [.dead], none⟩
 .nil)) 130 ⟨.other, 1, 8, [.dead], none⟩
 (.node (.node .nil 131 ⟨.other, 1, 8, [.dead], none⟩
 .nil) 132 ⟨.other, 1, 8, [.dead], none⟩
 .nil)) 133 ⟨.other, 1, 8, [.dead], none⟩
 (.node (.node (.node .nil 134 ⟨.arr 2 3, 2, 16, [.p (.int .i64) (0 : Int), .p (.int .i64) (0 : Int)], some (.pair (.int .i64) (.pair (.int .i64) .unit))⟩
 .nil) 135 ⟨.other, 1, 8, [.dead], none⟩
 (.node .nil 136 ⟨.other, 1, 8, [.dead], none⟩
 .nil)) 137 ⟨.other, 1, 8, [.dead], none⟩
 (.node (.node .nil 138 ⟨.struct [(0, 23), (1, 23), (2, 44)], 3, 72, [.nils, .nils, .nils], some (.pair (.slice (.int .i64)) (.pair (.slice (.int .i64)) (.pair (.slice (.slice (.int .i64))) .unit)))⟩
 .nil) 139 ⟨.struct [(0, 23), (1, 23), (2, 44)], 3, 72, [.nils, .nils, .nils], some (.pair (.slice (.int .i64)) (.pair (.slice (.int .i64)) (.pair (.slice (.slice (.int .i64))) .unit)))⟩
 .nil)))) 140 ⟨.other, 1, 8, [.dead], none⟩
 (.node (.node (.node (.node (.node .nil 141 ⟨.arr 5 3, 5, 40, [.p (.int .i64) (0 : Int), .p (.int .i64) (0 : Int), .p (.int .i64) (0 : Int), .p (.int .i64) (0 : Int), .p (.int .i64) (0 : Int)], some (.pair (.int .i64) (.pair (.int .i64) (.pair (.int .i64) (.pair (.int .i64) (.pair (.int .i64) .unit)))))⟩
 .nil) 142 ⟨.arr 5 3, 5, 40, [.p (.int .i64) (0 : Int), .p (.int .i64) (0 : Int), .p (.int .i64) (0 : Int), .p (.int .i64) (0 : Int), .p (.int .i64) (0 : Int)], some (.pair (.int .i64) (.pair (.int .i64) (.pair (.int .i64) (.pair (.int .i64) (.pair (.int .i64) .unit)))))⟩
 (.node .nil 143 ⟨.other, 1, 8, [.dead], none⟩
 .nil)) 144 ⟨.other, 1, 8, [.dead], none⟩
 (.node (.node .nil 145 ⟨.other, 1, 8, [.dead], none⟩
 .nil) 146 ⟨.other, 1, 8, [.dead], none⟩
 .nil)) 147 ⟨.other, 1, 8, [.dead], none⟩
 (.node (.node (.node .nil 148 ⟨.other, 1, 8, [.dead], none⟩
 .nil) 149 ⟨.other, 1, 8, [.dead], none⟩
 (.node .nil 150 ⟨.other, 1, 8, [.dead], none⟩
 .nil)) 151 ⟨.other, 1, 8, [.dead], none⟩
 (.node (.node .nil 152 ⟨.other, 1, 8, [.dead], none⟩
 .nil) 153 ⟨.other, 1, 8, [.dead], none⟩
 .nil))) 154 ⟨.other, 1, 8, [.dead], none⟩
 (.node (.node (.node (.node .nil 155 ⟨.other, 1, 8, [.dead], none⟩
 .nil) 156 ⟨.other, 1, 8, [.dead], none⟩
 (.node .nil 157 ⟨.other, 1, 8, [.dead], none⟩
 .nil)) 158 ⟨.other, 1, 8, [.dead], none⟩
 (.node (.node .nil 159 ⟨.slice 160, 1, 24, [.nils], some (.slice (.slice .bool))⟩
 .nil) 160 ⟨.slice 4, 1, 24, [.nils], some (.slice .bool)⟩
 .nil)) 161 ⟨.other, 1, 8, [.dead], none⟩
 (.node (.node (.node .nil 162 ⟨.slice 165, 1, 24, [.nils], some (.slice (.pair (.slice (.int .i64)) (.pair (.slice (.int .i64)) .unit)))⟩
 .nil) 163 ⟨.other, 1, 8, [.dead], none⟩
 (.node .nil 164 ⟨.struct [(0, 23), (1, 23)], 2, 48, [.nils, .nils], some (.pair (.slice (.int .i64)) (.pair (.slice (.int .i64)) .unit))⟩
 .nil)) 165 ⟨.struct [(0, 23), (1, 23)], 2, 48, [.nils, .nils], some (.pair (.slice (.int .i64)) (.pair (.slice (.int .i64)) .unit))⟩
 (.node (.node .nil 166 ⟨.slice 169, 1, 24, [.nils], some (.slice (.pair (.slice (.int .i64)) (.pair (.slice (.int .i64)) .unit)))⟩
 .nil) 167 ⟨.other, 1, 8, [.dead], none⟩
 .nil))))) 168 ⟨.struct [(0, 23), (1, 23)], 2, 48, [.nils, .nils], some (.pair (.slice (.int .i64)) (.pair (.slice (.int .i64)) .unit))⟩
 (.node (.node (.node (.node (.node (.node .nil 169 ⟨.struct [(0, 23), (1, 23)], 2, 48, [.nils, .nils], some (.pair (.slice (.int .i64)) (.pair (.slice (.int .i64)) .unit))⟩
 .nil) 170 ⟨.other, 1, 8, [.dead], none⟩
 (.node .nil 171 ⟨.struct [(0, 3), (1, 3), (2, 3)], 3, 24, [.p (.int .i64) (0 : Int), .p (.int .i64) (0 : Int), .p (.int .i64) (0 : Int)], some (.pair (.int .i64) (.pair (.int .i64) (.pair (.int .i64) .unit)))⟩
 .nil)) 172 ⟨.struct [(0, 3), (1, 3), (2, 3)], 3, 24, [.p (.int .i64) (0 : Int), .p (.int .i64) (0 : Int), .p (.int .i64) (0 : Int)], some (.pair (.int .i64) (.pair (.int .i64) (.pair (.int .i64) .unit)))⟩
 (.node (.node .nil 173 ⟨.other, 1, 8, [.dead], none⟩
 .nil) 174 ⟨.other, 1, 8, [.dead], none⟩
 .nil)) 175 ⟨.other, 1, 8, [.dead], none⟩
 (.node (.node (.node .nil 176 ⟨.other, 1, 8, [.dead], none⟩
 .nil) 177 ⟨.other, 1, 8, [.dead], none⟩
 (.node .nil 178 ⟨.arr 2 23, 2, 48, [.nils, .nils], some (.pair (.slice (.int .i64)) (.pair (.slice (.int .i64)) .unit))⟩
 .nil)) 179 ⟨.other, 1, 8, [.dead], none⟩
 (.node (.node .nil 180 ⟨.slice 5, 1, 24, [.nils], some (.slice (.int .u8))⟩
 .nil) 181 ⟨.int .u64, 1, 8, [.p (.int .u64) (0 : Int)], some (.int .u64)⟩
 .nil))) 182 ⟨.map 127 3 (.pair (.pair (.int .i64) (.pair (.int .i64) (.pair (.int .i64) (.pair (.int .i64) .unit)))) (.pair (.int .i64) .unit)), 1, 8, [.kv (.map none)], none⟩
 (.node (.node (.node (.node .nil 183 ⟨.slice 127, 1, 24, [.nils], some (.slice (.pair (.pair (.int .i64) (.pair (.int .i64) (.pair (.int .i64) (.pair (.int .i64) .unit)))) (.pair (.int .i64) .unit)))⟩
 .nil) 184 ⟨.other, 1, 0, [.dead], none⟩
 (.node .nil 185 ⟨.map 134 23 (.pair (.int .i64) (.pair (.int .i64) .unit)), 1, 8, [.kv (.map none)], none⟩
 .nil)) 186 ⟨.slice 134, 1, 24, [.nils], some (.slice (.pair (.int .i64) (.pair (.int .i64) .unit)))⟩
 (.node (.node .nil 187 ⟨.other, 1, 8, [.dead], none⟩
 .nil) 188 ⟨.other, 1, 8, [.dead], none⟩
 .nil)) 189 ⟨.other, 1, 8, [.dead], none⟩
 (.node (.node (.node .nil 190 ⟨.other, 1, 8, [.dead], none⟩
 .nil) 191 ⟨.map 142 3 (.pair (.int .i64) (.pair (.int .i64) (.pair (.int .i64) (.pair (.int .i64) (.pair (.int .i64) .unit))))), 1, 8, [.kv (.map none)], none⟩
 (.node .nil 192 ⟨.slice 142, 1, 24, [.nils], some (.slice (.pair (.int .i64) (.pair (.int .i64) (.pair (.int .i64) (.pair (.int .i64) (.pair (.int .i64) .unit))))))⟩
 .nil)) 193 ⟨.map 3 3 (.int .i64), 1, 8, [.kv (.map none)], none⟩
 (.node (.node .nil 194 ⟨.slice 58, 1, 24, [.nils], some (.slice (.pair (.int .i64) (.pair (.int .i64) (.pair (.slice (.slice (.int .i64))) (.pair (.slice (.int .i64)) .unit)))))⟩
 .nil) 195 ⟨.map 134 3 (.pair (.int .i64) (.pair (.int .i64) .unit)), 1, 8, [.kv (.map none)], none⟩
 .nil)))) 196 ⟨.other, 1, 8, [.dead], none⟩
 (.node (.node (.node (.node (.node .nil 197 ⟨.other, 1, 8, [.dead], none⟩
 .nil) 198 ⟨.other, 1, 8, [.dead], none⟩
 (.node .nil 199 ⟨.other, 1, 8, [.dead], none⟩
 .nil)) 200 ⟨.map 202 3 (.pair (.int .i64) (.pair .str .unit)), 1, 8, [.kv (.map none)], none⟩
 (.node (.node .nil 201 ⟨.struct [(0, 3), (1, 9)], 2, 24, [.p (.int .i64) (0 : Int), .p .str ByteArray.empty], some (.pair (.int .i64) (.pair .str .unit))⟩
 .nil) 202 ⟨.struct [(0, 3), (1, 9)], 2, 24, [.p (.int .i64) (0 : Int), .p .str ByteArray.empty], some (.pair (.int .i64) (.pair .str .unit))⟩
 .nil)) 203 ⟨.other, 1, 8, [.dead], none⟩
 (.node (.node (.node .nil 204 ⟨.other, 1, 8, [.dead], none⟩
 .nil) 205 ⟨.other, 1, 8, [.dead], none⟩
 (.node .nil 206 ⟨.other, 1, 8, [.dead], none⟩
 .nil)) 207 ⟨.other, 1, 8, [.dead], none⟩
 (.node (.node .nil 208 ⟨.struct [(0, 17), (1, 17), (2, 17), (3, 9)], 4, 40, [.kv (.pointer none), .kv (.pointer none), .kv (.pointer none), .p .str ByteArray.empty], none⟩
 .nil) 209 ⟨.struct [(0, 17), (1, 17), (2, 17), (3, 9)], 4, 40, [.kv (.pointer none), .kv (.pointer none), .kv (.pointer none), .p .str ByteArray.empty], none⟩
 .nil))) 210 ⟨.arr 0 16, 0, 0, [], none⟩
 (.node (.node (.node (.node .nil 211 ⟨.struct [(0, 210)], 0, 0, [], none⟩
 .nil) 212 ⟨.struct [(0, 210)], 0, 0, [], none⟩
 (.node .nil 213 ⟨.other, 1, 8, [.dead], none⟩
 .nil)) 214 ⟨.int .u32, 1, 4, [.p (.int .u32) (0 : Int)], some (.int .u32)⟩
 (.node (.node .nil 215 ⟨.int .u8, 1, 1, [.p (.int .u8) (0 : Int)], some (.int .u8)⟩
 .nil) 216 ⟨.int .u8, 1, 1, [.p (.int .u8) (0 : Int)], some (.int .u8)⟩
 .nil)) 217 ⟨.other, 1, 8, [.dead], none⟩
 (.node (.node (.node .nil 218 ⟨.ptr 5, 1, 8, [.kv (.pointer none)], none⟩
 .nil) 219 ⟨.int .i32, 1, 4, [.p (.int .i32) (0 : Int)], some (.int .i32)⟩
 (.node .nil 220 ⟨.int .i32, 1, 4, [.p (.int .i32) (0 : Int)], some (.int .i32)⟩
 .nil)) 221 ⟨.struct [(0, 12), (1, 12), (2, 214), (3, 215), (4, 5), (5, 5), (6, 216), (7, 217), (8, 218), (9, 219), (10, 220)], 11, 48, [.p (.int .u64) (0 : Int), .p (.int .u64) (0 : Int), .p (.int .u32) (0 : Int), .p (.int .u8) (0 : Int), .p (.int .u8) (0 : Int), .p (.int .u8) (0 : Int), .p (.int .u8) (0 : Int), .dead, .kv (.pointer none), .p (.int .i32) (0 : Int), .p (.int .i32) (0 : Int)], none⟩
 (.node (.node .nil 222 ⟨.struct [(0, 12), (1, 12), (2, 214), (3, 215), (4, 5), (5, 5), (6, 216), (7, 217), (8, 218), (9, 219), (10, 220)], 11, 48, [.p (.int .u64) (0 : Int), .p (.int .u64) (0 : Int), .p (.int .u32) (0 : Int), .p (.int .u8) (0 : Int), .p (.int .u8) (0 : Int), .p (.int .u8) (0 : Int), .p (.int .u8) (0 : Int), .dead, .kv (.pointer none), .p (.int .i32) (0 : Int), .p (.int .i32) (0 : Int)], none⟩
 .nil) 223 ⟨.other, 1, 8, [.dead], none⟩
 .nil)))))))

end Go.Proofs.YtiiioobebeaafaaSx
