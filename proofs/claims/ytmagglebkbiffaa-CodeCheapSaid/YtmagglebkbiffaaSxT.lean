import Derived.Test.YtmagglebkbiffaaSxA
namespace Go.Proofs.YtmagglebkbiffaaSx
set_option maxRecDepth 100000
def T : TT := (.node (.node (.node (.node (.node (.node (.node (.node .nil 0 ⟨.other, 1, 0, [.dead], none⟩
 .nil) 1 ⟨.other, 1, 8, [.dead], none⟩
 (.node .nil 2 ⟨.int .i64, 1, 8, [.p (.int .i64) (0 : Int)], some (.int .i64)⟩
 .nil)) 3 ⟨.int .i64, 1, 8, [.p (.int .i64) (0 : Int)], some (.int .i64)⟩
 (.node (.node .nil 4 ⟨.bool, 1, 1, [.cb .ff], some .bool⟩
 .nil) 5 ⟨.int .u8, 1, 1, [.p (.int .u8) (0 : Int)], some (.int .u8)⟩
 (.node .nil 6 ⟨.int .u8, 1, 1, [.p (.int .u8) (0 : Int)], some (.int .u8)⟩
 .nil))) 7 ⟨.struct [(0, 2), (1, 3), (2, 4), (3, 6)], 4, 24, [.p (.int .i64) (0 : Int), .p (.int .i64) (0 : Int), .cb .ff, .p (.int .u8) (0 : Int)], some (.pair (.int .i64) (.pair (.int .i64) (.pair .bool (.pair (.int .u8) .unit))))⟩
 (.node (.node (.node .nil 8 ⟨.struct [(0, 2), (1, 3), (2, 4), (3, 6)], 4, 24, [.p (.int .i64) (0 : Int), .p (.int .i64) (0 : Int), .cb .ff, .p (.int .u8) (0 : Int)], some (.pair (.int .i64) (.pair (.int .i64) (.pair .bool (.pair (.int .u8) .unit))))⟩
 .nil) 9 ⟨.str, 1, 16, [.p .str ByteArray.empty], some .str⟩
 (.node .nil 10 ⟨.str, 1, 16, [.p .str ByteArray.empty], some .str⟩
 .nil)) 11 ⟨.str, 1, 16, [.p .str ByteArray.empty], some .str⟩
 (.node (.node .nil 12 ⟨.int .u64, 1, 8, [.p (.int .u64) (0 : Int)], some (.int .u64)⟩
 .nil) 13 ⟨.struct [(0, 9), (1, 12)], 2, 24, [.p .str ByteArray.empty, .p (.int .u64) (0 : Int)], some (.pair .str (.pair (.int .u64) .unit))⟩
 .nil))) 14 ⟨.struct [(0, 9), (1, 12)], 2, 24, [.p .str ByteArray.empty, .p (.int .u64) (0 : Int)], some (.pair .str (.pair (.int .u64) .unit))⟩
 (.node (.node (.node (.node .nil 15 ⟨.ptr 220, 1, 8, [.kv (.pointer none)], none⟩
 .nil) 16 ⟨.ptr 223, 1, 8, [.kv (.pointer none)], none⟩
 (.node .nil 17 ⟨.ptr 232, 1, 8, [.kv (.pointer none)], none⟩
 .nil)) 18 ⟨.struct [(0, 17)], 1, 8, [.kv (.pointer none)], none⟩
 (.node (.node .nil 19 ⟨.struct [(0, 17)], 1, 8, [.kv (.pointer none)], none⟩
 .nil) 20 ⟨.other, 1, 16, [.dead], none⟩
 (.node .nil 21 ⟨.int .i32, 1, 4, [.p (.int .i32) (0 : Int)], some (.int .i32)⟩
 .nil))) 22 ⟨.slice 23, 1, 24, [.nils], some (.slice (.slice (.int .i64)))⟩
 (.node (.node (.node .nil 23 ⟨.slice 3, 1, 24, [.nils], some (.slice (.int .i64))⟩
 .nil) 24 ⟨.struct [(0, 3), (1, 3), (2, 22), (3, 23)], 4, 64, [.p (.int .i64) (0 : Int), .p (.int .i64) (0 : Int), .nils, .nils], some (.pair (.int .i64) (.pair (.int .i64) (.pair (.slice (.slice (.int .i64))) (.pair (.slice (.int .i64)) .unit))))⟩
 (.node .nil 25 ⟨.struct [(0, 3), (1, 3), (2, 22), (3, 23)], 4, 64, [.p (.int .i64) (0 : Int), .p (.int .i64) (0 : Int), .nils, .nils], some (.pair (.int .i64) (.pair (.int .i64) (.pair (.slice (.slice (.int .i64))) (.pair (.slice (.int .i64)) .unit))))⟩
 .nil)) 26 ⟨.int .i64, 1, 8, [.p (.int .i64) (0 : Int)], some (.int .i64)⟩
 (.node (.node .nil 27 ⟨.other, 1, 0, [.dead], none⟩
 .nil) 28 ⟨.other, 1, 8, [.dead], none⟩
 .nil)))) 29 ⟨.other, 1, 8, [.dead], none⟩
 (.node (.node (.node (.node (.node .nil 30 ⟨.other, 1, 8, [.dead], none⟩
 .nil) 31 ⟨.other, 1, 8, [.dead], none⟩
 (.node .nil 32 ⟨.other, 1, 8, [.dead], none⟩
 .nil)) 33 ⟨.other, 1, 8, [.dead], none⟩
 (.node (.node .nil 34 ⟨.other, 1, 0, [.dead], none⟩
 .nil) 35 ⟨.other, 1, 8, [.dead], none⟩
 (.node .nil 36 ⟨.slice 22, 1, 24, [.nils], some (.slice (.slice (.slice (.int .i64))))⟩
 .nil))) 37 ⟨.struct [(0, 3), (1, 3), (2, 3), (3, 23), (4, 22), (5, 36), (6, 22)], 7, 120, [.p (.int .i64) (0 : Int), .p (.int .i64) (0 : Int), .p (.int .i64) (0 : Int), .nils, .nils, .nils, .nils], some (.pair (.int .i64) (.pair (.int .i64) (.pair (.int .i64) (.pair (.slice (.int .i64)) (.pair (.slice (.slice (.int .i64))) (.pair (.slice (.slice (.slice (.int .i64)))) (.pair (.slice (.slice (.int .i64))) .unit)))))))⟩
 (.node (.node (.node .nil 38 ⟨.struct [(0, 3), (1, 3), (2, 3), (3, 23), (4, 22), (5, 36), (6, 22)], 7, 120, [.p (.int .i64) (0 : Int), .p (.int .i64) (0 : Int), .p (.int .i64) (0 : Int), .nils, .nils, .nils, .nils], some (.pair (.int .i64) (.pair (.int .i64) (.pair (.int .i64) (.pair (.slice (.int .i64)) (.pair (.slice (.slice (.int .i64))) (.pair (.slice (.slice (.slice (.int .i64)))) (.pair (.slice (.slice (.int .i64))) .unit)))))))⟩
 .nil) 39 ⟨.other, 1, 0, [.dead], none⟩
 (.node .nil 40 ⟨.other, 1, 8, [.dead], none⟩
 .nil)) 41 ⟨.other, 1, 8, [.dead], none⟩
 (.node (.node .nil 42 ⟨.other, 1, 8, [.dead], none⟩
 .nil) 43 ⟨.other, 1, 8, [.dead], none⟩
 .nil))) 44 ⟨.other, 1, 8, [.dead], none⟩
 (.node (.node (.node (.node .nil 45 ⟨.other, 1, 8, [.dead], none⟩
 .nil) 46 ⟨.slice 133, 1, 24, [.nils], some (.slice (.pair (.int .i64) (.pair (.int .i64) (.pair (.int .i64) .unit))))⟩
 (.node .nil 47 ⟨.struct [(0, 3), (1, 3), (2, 46)], 3, 40, [.p (.int .i64) (0 : Int), .p (.int .i64) (0 : Int), .nils], some (.pair (.int .i64) (.pair (.int .i64) (.pair (.slice (.pair (.int .i64) (.pair (.int .i64) (.pair (.int .i64) .unit)))) .unit)))⟩
 .nil)) 48 ⟨.struct [(0, 3), (1, 3), (2, 46)], 3, 40, [.p (.int .i64) (0 : Int), .p (.int .i64) (0 : Int), .nils], some (.pair (.int .i64) (.pair (.int .i64) (.pair (.slice (.pair (.int .i64) (.pair (.int .i64) (.pair (.int .i64) .unit)))) .unit)))⟩
 (.node (.node .nil 49 ⟨.slice 136, 1, 24, [.nils], some (.slice (.pair (.int .i64) (.pair (.int .i64) (.pair (.int .i64) (.pair (.int .i64) .unit)))))⟩
 .nil) 50 ⟨.other, 1, 0, [.dead], none⟩
 .nil)) 51 ⟨.other, 1, 8, [.dead], none⟩
 (.node (.node (.node .nil 52 ⟨.other, 1, 8, [.dead], none⟩
 .nil) 53 ⟨.other, 1, 8, [.dead], none⟩
 (.node .nil 54 ⟨.other, 1, 8, [.dead], none⟩
 .nil)) 55 ⟨.slice 4, 1, 24, [.nils], some (.slice .bool)⟩
 (.node (.node .nil 56 ⟨.other, 1, 8, [.dead], none⟩
 .nil) 57 ⟨.other, 1, 8, [.dead], none⟩
 .nil))))) 58 ⟨.struct [(0, 3), (1, 23), (2, 36), (3, 23)], 4, 80, [.p (.int .i64) (0 : Int), .nils, .nils, .nils], some (.pair (.int .i64) (.pair (.slice (.int .i64)) (.pair (.slice (.slice (.slice (.int .i64)))) (.pair (.slice (.int .i64)) .unit))))⟩
 (.node (.node (.node (.node (.node (.node .nil 59 ⟨.struct [(0, 3), (1, 23), (2, 36), (3, 23)], 4, 80, [.p (.int .i64) (0 : Int), .nils, .nils, .nils], some (.pair (.int .i64) (.pair (.slice (.int .i64)) (.pair (.slice (.slice (.slice (.int .i64)))) (.pair (.slice (.int .i64)) .unit))))⟩
 .nil) 60 ⟨.other, 1, 0, [.dead], none⟩
 (.node .nil 61 ⟨.other, 1, 8, [.dead], none⟩
 .nil)) 62 ⟨.other, 1, 8, [.dead], none⟩
 (.node (.node .nil 63 ⟨.other, 1, 8, [.dead], none⟩
 .nil) 64 ⟨.other, 1, 8, [.dead], none⟩
 (.node .nil 65 ⟨.other, 1, 8, [.dead], none⟩
 .nil))) 66 ⟨.other, 1, 8, [.dead], none⟩
 (.node (.node (.node .nil 67 ⟨.slice 149, 1, 24, [.nils], some (.slice (.pair (.slice (.int .i64)) (.pair (.slice (.int .i64)) .unit)))⟩
 .nil) 68 ⟨.other, 1, 8, [.dead], none⟩
 (.node .nil 69 ⟨.other, 1, 0, [.dead], none⟩
 .nil)) 70 ⟨.other, 1, 8, [.dead], none⟩
 (.node (.node .nil 71 ⟨.other, 1, 8, [.dead], none⟩
 .nil) 72 ⟨.other, 1, 8, [.dead], none⟩
 .nil))) 73 ⟨.other, 1, 8, [.dead], none⟩
 (.node (.node (.node (.node .nil 74 ⟨.slice 154, 1, 24, [.nils], some (.slice (.pair (.int .i64) (.pair (.slice (.int .i64)) .unit)))⟩
 .nil) 75 ⟨.struct [(0, 3), (1, 3), (2, 74)], 3, 40, [.p (.int .i64) (0 : Int), .p (.int .i64) (0 : Int), .nils], some (.pair (.int .i64) (.pair (.int .i64) (.pair (.slice (.pair (.int .i64) (.pair (.slice (.int .i64)) .unit))) .unit)))⟩
 (.node .nil 76 ⟨.struct [(0, 3), (1, 3), (2, 74)], 3, 40, [.p (.int .i64) (0 : Int), .p (.int .i64) (0 : Int), .nils], some (.pair (.int .i64) (.pair (.int .i64) (.pair (.slice (.pair (.int .i64) (.pair (.slice (.int .i64)) .unit))) .unit)))⟩
 .nil)) 77 ⟨.other, 1, 0, [.dead], none⟩
 (.node (.node .nil 78 ⟨.other, 1, 8, [.dead], none⟩
 .nil) 79 ⟨.other, 1, 0, [.dead], none⟩
 (.node .nil 80 ⟨.other, 1, 8, [.dead], none⟩
 .nil))) 81 ⟨.other, 1, 8, [.dead], none⟩
 (.node (.node (.node .nil 82 ⟨.other, 1, 8, [.dead], none⟩
 .nil) 83 ⟨.other, 1, 8, [.dead], none⟩
 (.node .nil 84 ⟨.other, 1, 0, [.dead], none⟩
 .nil)) 85 ⟨.other, 1, 8, [.dead], none⟩
 (.node (.node .nil 86 ⟨.other, 1, 8, [.dead], none⟩
 .nil) 87 ⟨.other, 1, 8, [.dead], none⟩
 .nil)))) 88 ⟨.other, 1, 8, [.dead], none⟩
 (.node (.node (.node (.node (.node .nil 89 ⟨.other, 1, 8, [.dead], none⟩
 .nil) 90 ⟨.other, 1, 8, [.dead], none⟩
 (.node .nil 91 ⟨.slice 55, 1, 24, [.nils], some (.slice (.slice .bool))⟩
 .nil)) 92 ⟨.other, 1, 0, [.dead], none⟩
 (.node (.node .nil 93 ⟨.other, 1, 8, [.dead], none⟩
 .nil) 94 ⟨.other, 1, 8, [.dead], none⟩
 (.node .nil 95 ⟨.other, 1, 8, [.dead], none⟩
 .nil))) 96 ⟨.other, 1, 8, [.dead], none⟩
 (.node (.node (.node .nil 97 ⟨.other, 1, 0, [.dead], none⟩
 .nil) 98 ⟨.other, 1, 8, [.dead], none⟩
 (.node .nil 99 ⟨.other, 1, 8, [.dead], none⟩
 .nil)) 100 ⟨.other, 1, 8, [.dead], none⟩
 (.node (.node .nil 101 ⟨.other, 1, 8, [.dead], none⟩
 .nil) 102 ⟨.other, 1, 8, [.dead], none⟩
 .nil))) 103 ⟨.other, 1, 0, [.dead], none⟩
 (.node (.node (.node (.node .nil 104 ⟨.other, 1, 8, [.dead], none⟩
 .nil) 105 ⟨.other, 1, 8, [.dead], none⟩
 (.node .nil 106 ⟨.other, 1, 8, [.dead], none⟩
 .nil)) 107 ⟨.other, 1, 8, [.dead], none⟩
 (.node (.node .nil 108 ⟨.other, 1, 0, [.dead], none⟩
 .nil) 109 ⟨.other, 1, 8, [.dead], none⟩
 .nil)) 110 ⟨.other, 1, 8, [.dead], none⟩
 (.node (.node (.node .nil 111 ⟨.other, 1, 8, [.dead], none⟩
 .nil) 112 ⟨.other, 1, 8, [.dead], none⟩
 (.node .nil 113 ⟨.other, 1, 8, [.dead], none⟩
 .nil)) 114 ⟨.other, 1, 8, [.dead], none⟩
 (.node (.node .nil 115 ⟨.other, 1, 8, [.dead], none⟩
 .nil) 116 ⟨.other, 1, 8, [.dead], none⟩
 .nil)))))) 117 ⟨.slice 38, 1, 24, [.nils], some (.slice (.pair (.int .i64) (.pair (.int .i64) (.pair (.int .i64) (.pair (.slice (.int .i64)) (.pair (.slice (.slice (.int .i64))) (.pair (.slice (.slice (.slice (.int .i64)))) (.pair (.slice (.slice (.int .i64))) .unit))))))))⟩
 (.node (.node (.node (.node (.node (.node (.node .nil 118 ⟨.map 122 3 (.pair (.int .i64) (.pair (.int .i64) .unit)), 1, 8, [.kv (.map none)], none⟩
 .nil) 119 ⟨.other, 1, 0, [.dead], none⟩
 (.node .nil 120 ⟨.other, 1, 8, [.dead], none⟩
 .nil)) 121 ⟨.arr 2 3, 2, 16, [.p (.int .i64) (0 : Int), .p (.int .i64) (0 : Int)], some (.pair (.int .i64) (.pair (.int .i64) .unit))⟩
 (.node (.node .nil 122 ⟨.arr 2 3, 2, 16, [.p (.int .i64) (0 : Int), .p (.int .i64) (0 : Int)], some (.pair (.int .i64) (.pair (.int .i64) .unit))⟩
 .nil) 123 ⟨.other, 1, 8, [.dead], none⟩
 (.node .nil 124 ⟨.other, 1, 8, [.dead], none⟩
 .nil))) 125 ⟨.other, 1, 8, [.dead], none⟩
 (.node (.node (.node .nil 126 ⟨.ptr 130, 1, 8, [.kv (.pointer none)], none⟩
 .nil) 127 ⟨.other, 1, 8, [.dead], none⟩
 (.node .nil 128 ⟨.map 121 3 (.pair (.int .i64) (.pair (.int .i64) .unit)), 1, 8, [.kv (.map none)], none⟩
 .nil)) 129 ⟨.struct [(0, 48), (3, 22), (4, 49), (5, 128)], 6, 96, [.p (.int .i64) (0 : Int), .p (.int .i64) (0 : Int), .nils, .nils, .nils, .kv (.map none)], none⟩
 (.node (.node .nil 130 ⟨.struct [(0, 48), (3, 22), (4, 49), (5, 128)], 6, 96, [.p (.int .i64) (0 : Int), .p (.int .i64) (0 : Int), .nils, .nils, .nils, .kv (.map none)], none⟩
 .nil) 131 ⟨.other, 1, 8, [.dead], none⟩
 .nil))) 132 ⟨.struct [(0, 3), (1, 3), (2, 3)], 3, 24, [.p (.int .i64) (0 : Int), .p (.int .i64) (0 : Int), .p (.int .i64) (0 : Int)], some (.pair (.int .i64) (.pair (.int .i64) (.pair (.int .i64) .unit)))⟩
 (.node (.node (.node (.node .nil 133 ⟨.struct [(0, 3), (1, 3), (2, 3)], 3, 24, [.p (.int .i64) (0 : Int), .p (.int .i64) (0 : Int), .p (.int .i64) (0 : Int)], some (.pair (.int .i64) (.pair (.int .i64) (.pair (.int .i64) .unit)))⟩
 .nil) 134 ⟨.other, 1, 8, [.dead], none⟩
 (.node .nil 135 ⟨.struct [(0, 3), (1, 3), (2, 3), (3, 3)], 4, 32, [.p (.int .i64) (0 : Int), .p (.int .i64) (0 : Int), .p (.int .i64) (0 : Int), .p (.int .i64) (0 : Int)], some (.pair (.int .i64) (.pair (.int .i64) (.pair (.int .i64) (.pair (.int .i64) .unit))))⟩
 .nil)) 136 ⟨.struct [(0, 3), (1, 3), (2, 3), (3, 3)], 4, 32, [.p (.int .i64) (0 : Int), .p (.int .i64) (0 : Int), .p (.int .i64) (0 : Int), .p (.int .i64) (0 : Int)], some (.pair (.int .i64) (.pair (.int .i64) (.pair (.int .i64) (.pair (.int .i64) .unit))))⟩
 (.node (.node .nil 137 ⟨.other, 1, 8, [.dead], none⟩
 .nil) 138 ⟨.other, 1, 8, [.dead], none⟩
 (.node .nil 139 ⟨.other, 1, 8, [.dead], none⟩
 .nil))) 140 ⟨.other, 1, 8, [.dead], none⟩
 (.node (.node (.node .nil 141 ⟨.other, 1, 8, [.dead], none⟩
 .nil) 142 ⟨.struct [(0, 4), (1, 23)], 2, 32, [.cb .ff, .nils], some (.pair .bool (.pair (.slice (.int .i64)) .unit))⟩
 (.node .nil 143 ⟨.struct [(0, 4), (1, 23)], 2, 32, [.cb .ff, .nils], some (.pair .bool (.pair (.slice (.int .i64)) .unit))⟩
 .nil)) 144 ⟨.other, 1, 8, [.dead], none⟩
 (.node (.node .nil 145 ⟨.other, 1, 8, [.dead], none⟩
 .nil) 146 ⟨.other, 1, 8, [.dead], none⟩
 .nil)))) 147 ⟨.other, 1, 8, [.dead], none⟩
 (.node (.node (.node (.node (.node .nil 148 ⟨.struct [(0, 23), (1, 23)], 2, 48, [.nils, .nils], some (.pair (.slice (.int .i64)) (.pair (.slice (.int .i64)) .unit))⟩
 .nil) 149 ⟨.struct [(0, 23), (1, 23)], 2, 48, [.nils, .nils], some (.pair (.slice (.int .i64)) (.pair (.slice (.int .i64)) .unit))⟩
 (.node .nil 150 ⟨.other, 1, 8, [.dead], none⟩
 .nil)) 151 ⟨.other, 1, 0, [.dead], none⟩
 (.node (.node .nil 152 ⟨.other, 1, 8, [.dead], none⟩
 .nil) 153 ⟨.struct [(0, 3), (1, 23)], 2, 32, [.p (.int .i64) (0 : Int), .nils], some (.pair (.int .i64) (.pair (.slice (.int .i64)) .unit))⟩
 (.node .nil 154 ⟨.struct [(0, 3), (1, 23)], 2, 32, [.p (.int .i64) (0 : Int), .nils], some (.pair (.int .i64) (.pair (.slice (.int .i64)) .unit))⟩
 .nil))) 155 ⟨.other, 1, 8, [.dead], none⟩
 (.node (.node (.node .nil 156 ⟨.other, 1, 8, [.dead], none⟩
 .nil) 157 ⟨.other, 1, 8, [.dead], none⟩
 (.node .nil 158 ⟨.other, 1, 8, [.dead], none⟩
 .nil)) 159 ⟨.other, 1, 8, [.dead], none⟩
 (.node (.node .nil 160 ⟨.other, 1, 8, [.dead], none⟩
 .nil) 161 ⟨.other, 1, 8, [.dead], none⟩
 .nil))) 162 ⟨.other, 1, 8, [.dead], none⟩
 (.node (.node (.node (.node .nil 163 ⟨.other, 1, 8, [.dead], none⟩
 .nil) 164 ⟨.other, 1, 8, [.dead], none⟩
 (.node .nil 165 ⟨.other, 1, 8, [.dead], none⟩
 .nil)) 166 ⟨.other, 1, 8, [.dead], none⟩
 (.node (.node .nil 167 ⟨.other, 1, 8, [.dead], none⟩
 .nil) 168 ⟨.slice 170, 1, 24, [.nils], some (.slice (.pair (.int .i64) (.pair (.slice (.int .i64)) .unit)))⟩
 .nil)) 169 ⟨.struct [(0, 3), (1, 23)], 2, 32, [.p (.int .i64) (0 : Int), .nils], some (.pair (.int .i64) (.pair (.slice (.int .i64)) .unit))⟩
 (.node (.node (.node .nil 170 ⟨.struct [(0, 3), (1, 23)], 2, 32, [.p (.int .i64) (0 : Int), .nils], some (.pair (.int .i64) (.pair (.slice (.int .i64)) .unit))⟩
 .nil) 171 ⟨.other, 1, 8, [.dead], none⟩
 (.node .nil 172 ⟨.other, 1, 8, [.dead], none⟩
 .nil)) 173 ⟨.other, 1, 8, [.dead], none⟩
 (.node (.node .nil 174 ⟨.other, 1, 8, [.dead], none⟩
 .nil) 175 ⟨.other, 1, 8, [.dead], none⟩
 .nil))))) 176 ⟨.other, 1, 8, [.dead], none⟩
 (.node (.node (.node (.node (.node (.node .nil 177 ⟨.other, 1, 8, [.dead], none⟩
 .nil) 178 ⟨.other, 1, 8, [.dead], none⟩
 (.node .nil 179 ⟨.other, 1, 8, [.dead], none⟩
 .nil)) 180 ⟨.other, 1, 0, [.dead], none⟩
 (.node (.node .nil 181 ⟨.other, 1, 8, [.dead], none⟩
 .nil) 182 ⟨.other, 1, 8, [.dead], none⟩
 (.node .nil 183 ⟨.slice 59, 1, 24, [.nils], some (.slice (.pair (.int .i64) (.pair (.slice (.int .i64)) (.pair (.slice (.slice (.slice (.int .i64)))) (.pair (.slice (.int .i64)) .unit)))))⟩
 .nil))) 184 ⟨.slice 143, 1, 24, [.nils], some (.slice (.pair .bool (.pair (.slice (.int .i64)) .unit)))⟩
 (.node (.node (.node .nil 185 ⟨.other, 1, 8, [.dead], none⟩
 .nil) 186 ⟨.other, 1, 8, [.dead], none⟩
 (.node .nil 187 ⟨.other, 1, 8, [.dead], none⟩
 .nil)) 188 ⟨.other, 1, 8, [.dead], none⟩
 (.node (.node .nil 189 ⟨.other, 1, 8, [.dead], none⟩
 .nil) 190 ⟨.other, 1, 8, [.dead], none⟩
 .nil))) 191 ⟨.other, 1, 8, [.dead], none⟩
 (.node (.node (.node (.node .nil 192 ⟨.other, 1, 8, [.dead], none⟩
 .nil) 193 ⟨.other, 1, 8, [.dead], none⟩
 (.node .nil 194 ⟨.slice 5, 1, 24, [.nils], some (.slice (.int .u8))⟩
 .nil)) 195 ⟨.int .u64, 1, 8, [.p (.int .u64) (0 : Int)], some (.int .u64)⟩
 (.node (.node .nil 196 ⟨.other, 1, 0, [.dead], none⟩
 .nil) 197 ⟨.other, 1, 8, [.dead], none⟩
 .nil)) 198 ⟨.other, 1, 8, [.dead], none⟩
 (.node (.node (.node .nil 199 ⟨.map 3 3 (.int .i64), 1, 8, [.kv (.map none)], none⟩
 .nil) 200 ⟨.other, 1, 8, [.dead], none⟩
 (.node .nil 201 ⟨.other, 1, 8, [.dead], none⟩
 .nil)) 202 ⟨.other, 1, 8, [.dead], none⟩
 (.node (.node .nil 203 ⟨.other, 1, 8, [.dead], none⟩
 .nil) 204 ⟨.other, 1, 8, [.dead], none⟩
 .nil)))) 205 ⟨.other, 1, 8, [.dead], none⟩
 (.node (.node (.node (.node (.node .nil 206 ⟨.other, 1, 8, [.dead], none⟩
 .nil) 207 ⟨.int .u32, 1, 4, [.p (.int .u32) (0 : Int)], some (.int .u32)⟩
 (.node .nil 208 ⟨.other, 1, 0, [.dead], none⟩
 .nil)) 209 ⟨.other, 1, 8, [.dead], none⟩
 (.node (.node .nil 210 ⟨.int .u64, 1, 8, [.p (.int .u64) (0 : Int)], some (.int .u64)⟩
 .nil) 211 ⟨.other, 1, 0, [.dead], none⟩
 (.node .nil 212 ⟨.other, 1, 8, [.dead], none⟩
 .nil))) 213 ⟨.other, 1, 8, [.dead], none⟩
 (.node (.node (.node .nil 214 ⟨.other, 1, 8, [.dead], none⟩
 .nil) 215 ⟨.other, 1, 8, [.dead], none⟩
 (.node .nil 216 ⟨.other, 1, 8, [.dead], none⟩
 .nil)) 217 ⟨.other, 1, 8, [.dead], none⟩
 (.node (.node .nil 218 ⟨.other, 1, 8, [.dead], none⟩
 .nil) 219 ⟨.struct [(0, 17), (1, 17), (2, 17), (3, 9)], 4, 40, [.kv (.pointer none), .kv (.pointer none), .kv (.pointer none), .p .str ByteArray.empty], none⟩
 .nil))) 220 ⟨.struct [(0, 17), (1, 17), (2, 17), (3, 9)], 4, 40, [.kv (.pointer none), .kv (.pointer none), .kv (.pointer none), .p .str ByteArray.empty], none⟩
 (.node (.node (.node (.node .nil 221 ⟨.arr 0 16, 0, 0, [], none⟩
 .nil) 222 ⟨.struct [(0, 221)], 0, 0, [], none⟩
 (.node .nil 223 ⟨.struct [(0, 221)], 0, 0, [], none⟩
 .nil)) 224 ⟨.other, 1, 8, [.dead], none⟩
 (.node (.node .nil 225 ⟨.int .u8, 1, 1, [.p (.int .u8) (0 : Int)], some (.int .u8)⟩
 .nil) 226 ⟨.int .u8, 1, 1, [.p (.int .u8) (0 : Int)], some (.int .u8)⟩
 .nil)) 227 ⟨.other, 1, 8, [.dead], none⟩
 (.node (.node (.node .nil 228 ⟨.ptr 5, 1, 8, [.kv (.pointer none)], none⟩
 .nil) 229 ⟨.int .i32, 1, 4, [.p (.int .i32) (0 : Int)], some (.int .i32)⟩
 (.node .nil 230 ⟨.int .i32, 1, 4, [.p (.int .i32) (0 : Int)], some (.int .i32)⟩
 .nil)) 231 ⟨.struct [(0, 12), (1, 12), (2, 207), (3, 225), (4, 5), (5, 5), (6, 226), (7, 227), (8, 228), (9, 229), (10, 230)], 11, 48, [.p (.int .u64) (0 : Int), .p (.int .u64) (0 : Int), .p (.int .u32) (0 : Int), .p (.int .u8) (0 : Int), .p (.int .u8) (0 : Int), .p (.int .u8) (0 : Int), .p (.int .u8) (0 : Int), .dead, .kv (.pointer none), .p (.int .i32) (0 : Int), .p (.int .i32) (0 : Int)], none⟩
 (.node (.node .nil 232 ⟨.struct [(0, 12), (1, 12), (2, 207), (3, 225), (4, 5), (5, 5), (6, 226), (7, 227), (8, 228), (9, 229), (10, 230)], 11, 48, [.p (.int .u64) (0 : Int), .p (.int .u64) (0 : Int), .p (.int .u32) (0 : Int), .p (.int .u8) (0 : Int), .p (.int .u8) (0 : Int), .p (.int .u8) (0 : Int), .p (.int .u8) (0 : Int), .dead, .kv (.pointer none), .p (.int .i32) (0 : Int), .p (.int .i32) (0 : Int)], none⟩
 .nil) 233 ⟨.other, 1, 8, [.dead], none⟩
 .nil)))))))

end Go.Proofs.YtmagglebkbiffaaSx
