import Derived.Test.YtaaibckhpbmbeaaSxA
namespace Go.Proofs.YtaaibckhpbmbeaaSx
set_option maxRecDepth 100000
def T : TT := (.node (.node (.node (.node (.node (.node (.node (.node .nil 0 ⟨.other, 1, 0, [.dead], none⟩
 .nil) 1 ⟨.other, 1, 8, [.dead], none⟩
 (.node .nil 2 ⟨.int .i64, 1, 8, [.p (.int .i64) (0 : Int)], some (.int .i64)⟩
 .nil)) 3 ⟨.int .i64, 1, 8, [.p (.int .i64) (0 : Int)], some (.int .i64)⟩
 (.node (.node .nil 4 ⟨.bool, 1, 1, [.cb .ff], some .bool⟩
 .nil) 5 ⟨.int .u8, 1, 1, [.p (.int .u8) (0 : Int)], some (.int .u8)⟩
 .nil)) 6 ⟨.int .u8, 1, 1, [.p (.int .u8) (0 : Int)], some (.int .u8)⟩
 (.node (.node (.node .nil 7 ⟨.struct [(0, 2), (1, 3), (2, 4), (3, 6)], 4, 24, [.p (.int .i64) (0 : Int), .p (.int .i64) (0 : Int), .cb .ff, .p (.int .u8) (0 : Int)], some (.pair (.int .i64) (.pair (.int .i64) (.pair .bool (.pair (.int .u8) .unit))))⟩
 .nil) 8 ⟨.struct [(0, 2), (1, 3), (2, 4), (3, 6)], 4, 24, [.p (.int .i64) (0 : Int), .p (.int .i64) (0 : Int), .cb .ff, .p (.int .u8) (0 : Int)], some (.pair (.int .i64) (.pair (.int .i64) (.pair .bool (.pair (.int .u8) .unit))))⟩
 (.node .nil 9 ⟨.str, 1, 16, [.p .str ByteArray.empty], some .str⟩
 .nil)) 10 ⟨.str, 1, 16, [.p .str ByteArray.empty], some .str⟩
 (.node (.node .nil 11 ⟨.str, 1, 16, [.p .str ByteArray.empty], some .str⟩
 .nil) 12 ⟨.int .u64, 1, 8, [.p (.int .u64) (0 : Int)], some (.int .u64)⟩
 .nil))) 13 ⟨.struct [(0, 9), (1, 12)], 2, 24, [.p .str ByteArray.empty, .p (.int .u64) (0 : Int)], some (.pair .str (.pair (.int .u64) .unit))⟩
 (.node (.node (.node (.node .nil 14 ⟨.struct [(0, 9), (1, 12)], 2, 24, [.p .str ByteArray.empty, .p (.int .u64) (0 : Int)], some (.pair .str (.pair (.int .u64) .unit))⟩
 .nil) 15 ⟨.ptr 205, 1, 8, [.kv (.pointer none)], none⟩
 (.node .nil 16 ⟨.ptr 208, 1, 8, [.kv (.pointer none)], none⟩
 .nil)) 17 ⟨.ptr 217, 1, 8, [.kv (.pointer none)], none⟩
 (.node (.node .nil 18 ⟨.struct [(0, 17)], 1, 8, [.kv (.pointer none)], none⟩
 .nil) 19 ⟨.struct [(0, 17)], 1, 8, [.kv (.pointer none)], none⟩
 .nil)) 20 ⟨.other, 1, 16, [.dead], none⟩
 (.node (.node (.node .nil 21 ⟨.int .i32, 1, 4, [.p (.int .i32) (0 : Int)], some (.int .i32)⟩
 .nil) 22 ⟨.slice 23, 1, 24, [.nils], some (.slice (.slice (.int .i64)))⟩
 (.node .nil 23 ⟨.slice 3, 1, 24, [.nils], some (.slice (.int .i64))⟩
 .nil)) 24 ⟨.struct [(0, 3), (1, 3), (2, 22), (3, 23)], 4, 64, [.p (.int .i64) (0 : Int), .p (.int .i64) (0 : Int), .nils, .nils], some (.pair (.int .i64) (.pair (.int .i64) (.pair (.slice (.slice (.int .i64))) (.pair (.slice (.int .i64)) .unit))))⟩
 (.node (.node .nil 25 ⟨.struct [(0, 3), (1, 3), (2, 22), (3, 23)], 4, 64, [.p (.int .i64) (0 : Int), .p (.int .i64) (0 : Int), .nils, .nils], some (.pair (.int .i64) (.pair (.int .i64) (.pair (.slice (.slice (.int .i64))) (.pair (.slice (.int .i64)) .unit))))⟩
 .nil) 26 ⟨.int .i64, 1, 8, [.p (.int .i64) (0 : Int)], some (.int .i64)⟩
 .nil)))) 27 ⟨.other, 1, 0, [.dead], none⟩
 (.node (.node (.node (.node (.node .nil 28 ⟨.other, 1, 8, [.dead], none⟩
 .nil) 29 ⟨.other, 1, 8, [.dead], none⟩
 (.node .nil 30 ⟨.other, 1, 0, [.dead], none⟩
 .nil)) 31 ⟨.other, 1, 8, [.dead], none⟩
 (.node (.node .nil 32 ⟨.other, 1, 8, [.dead], none⟩
 .nil) 33 ⟨.other, 1, 8, [.dead], none⟩
 .nil)) 34 ⟨.slice 109, 1, 24, [.nils], some (.slice (.slice (.slice (.slice (.int .i64)))))⟩
 (.node (.node (.node .nil 35 ⟨.struct [(0, 3), (1, 3), (2, 34), (3, 23)], 4, 64, [.p (.int .i64) (0 : Int), .p (.int .i64) (0 : Int), .nils, .nils], some (.pair (.int .i64) (.pair (.int .i64) (.pair (.slice (.slice (.slice (.slice (.int .i64))))) (.pair (.slice (.int .i64)) .unit))))⟩
 .nil) 36 ⟨.struct [(0, 3), (1, 3), (2, 34), (3, 23)], 4, 64, [.p (.int .i64) (0 : Int), .p (.int .i64) (0 : Int), .nils, .nils], some (.pair (.int .i64) (.pair (.int .i64) (.pair (.slice (.slice (.slice (.slice (.int .i64))))) (.pair (.slice (.int .i64)) .unit))))⟩
 (.node .nil 37 ⟨.other, 1, 0, [.dead], none⟩
 .nil)) 38 ⟨.other, 1, 8, [.dead], none⟩
 (.node (.node .nil 39 ⟨.other, 1, 8, [.dead], none⟩
 .nil) 40 ⟨.other, 1, 8, [.dead], none⟩
 .nil))) 41 ⟨.other, 1, 8, [.dead], none⟩
 (.node (.node (.node (.node .nil 42 ⟨.struct [(0, 23), (1, 23)], 2, 48, [.nils, .nils], some (.pair (.slice (.int .i64)) (.pair (.slice (.int .i64)) .unit))⟩
 .nil) 43 ⟨.struct [(0, 23), (1, 23)], 2, 48, [.nils, .nils], some (.pair (.slice (.int .i64)) (.pair (.slice (.int .i64)) .unit))⟩
 (.node .nil 44 ⟨.other, 1, 0, [.dead], none⟩
 .nil)) 45 ⟨.other, 1, 8, [.dead], none⟩
 (.node (.node .nil 46 ⟨.other, 1, 8, [.dead], none⟩
 .nil) 47 ⟨.other, 1, 8, [.dead], none⟩
 .nil)) 48 ⟨.other, 1, 0, [.dead], none⟩
 (.node (.node (.node .nil 49 ⟨.other, 1, 8, [.dead], none⟩
 .nil) 50 ⟨.other, 1, 8, [.dead], none⟩
 .nil) 51 ⟨.other, 1, 8, [.dead], none⟩
 (.node (.node .nil 52 ⟨.other, 1, 8, [.dead], none⟩
 .nil) 53 ⟨.other, 1, 8, [.dead], none⟩
 .nil))))) 54 ⟨.slice 121, 1, 24, [.nils], some (.slice (.pair (.int .i64) (.pair (.int .i64) (.pair (.int .i64) (.pair (.int .i64) (.pair (.int .i64) (.pair (.int .i64) .unit)))))))⟩
 (.node (.node (.node (.node (.node (.node .nil 55 ⟨.struct [(0, 23), (1, 54), (2, 3)], 3, 56, [.nils, .nils, .p (.int .i64) (0 : Int)], some (.pair (.slice (.int .i64)) (.pair (.slice (.pair (.int .i64) (.pair (.int .i64) (.pair (.int .i64) (.pair (.int .i64) (.pair (.int .i64) (.pair (.int .i64) .unit))))))) (.pair (.int .i64) .unit)))⟩
 .nil) 56 ⟨.struct [(0, 23), (1, 54), (2, 3)], 3, 56, [.nils, .nils, .p (.int .i64) (0 : Int)], some (.pair (.slice (.int .i64)) (.pair (.slice (.pair (.int .i64) (.pair (.int .i64) (.pair (.int .i64) (.pair (.int .i64) (.pair (.int .i64) (.pair (.int .i64) .unit))))))) (.pair (.int .i64) .unit)))⟩
 (.node .nil 57 ⟨.other, 1, 8, [.dead], none⟩
 .nil)) 58 ⟨.slice 130, 1, 24, [.nils], some (.slice (.pair (.int .i64) (.pair (.int .i64) .unit)))⟩
 (.node (.node .nil 59 ⟨.other, 1, 0, [.dead], none⟩
 .nil) 60 ⟨.other, 1, 8, [.dead], none⟩
 .nil)) 61 ⟨.other, 1, 8, [.dead], none⟩
 (.node (.node (.node .nil 62 ⟨.other, 1, 8, [.dead], none⟩
 .nil) 63 ⟨.other, 1, 8, [.dead], none⟩
 (.node .nil 64 ⟨.other, 1, 0, [.dead], none⟩
 .nil)) 65 ⟨.other, 1, 8, [.dead], none⟩
 (.node (.node .nil 66 ⟨.other, 1, 8, [.dead], none⟩
 .nil) 67 ⟨.other, 1, 8, [.dead], none⟩
 .nil))) 68 ⟨.other, 1, 8, [.dead], none⟩
 (.node (.node (.node (.node .nil 69 ⟨.other, 1, 8, [.dead], none⟩
 .nil) 70 ⟨.other, 1, 8, [.dead], none⟩
 (.node .nil 71 ⟨.struct [(0, 26), (1, 3)], 2, 16, [.p (.int .i64) (0 : Int), .p (.int .i64) (0 : Int)], some (.pair (.int .i64) (.pair (.int .i64) .unit))⟩
 .nil)) 72 ⟨.struct [(0, 26), (1, 3)], 2, 16, [.p (.int .i64) (0 : Int), .p (.int .i64) (0 : Int)], some (.pair (.int .i64) (.pair (.int .i64) .unit))⟩
 (.node (.node .nil 73 ⟨.other, 1, 8, [.dead], none⟩
 .nil) 74 ⟨.slice 187, 1, 24, [.nils], some (.slice (.pair (.int .i64) (.pair (.int .i64) (.pair (.slice (.int .i64)) .unit))))⟩
 .nil)) 75 ⟨.other, 1, 0, [.dead], none⟩
 (.node (.node (.node .nil 76 ⟨.other, 1, 8, [.dead], none⟩
 .nil) 77 ⟨.other, 1, 8, [.dead], none⟩
 (.node .nil 78 ⟨.slice 141, 1, 24, [.nils], some (.slice (.slice (.pair (.int .i64) (.pair (.int .i64) .unit))))⟩
 .nil)) 79 ⟨.struct [(0, 3), (1, 3), (2, 78), (3, 23)], 4, 64, [.p (.int .i64) (0 : Int), .p (.int .i64) (0 : Int), .nils, .nils], some (.pair (.int .i64) (.pair (.int .i64) (.pair (.slice (.slice (.pair (.int .i64) (.pair (.int .i64) .unit)))) (.pair (.slice (.int .i64)) .unit))))⟩
 (.node (.node .nil 80 ⟨.struct [(0, 3), (1, 3), (2, 78), (3, 23)], 4, 64, [.p (.int .i64) (0 : Int), .p (.int .i64) (0 : Int), .nils, .nils], some (.pair (.int .i64) (.pair (.int .i64) (.pair (.slice (.slice (.pair (.int .i64) (.pair (.int .i64) .unit)))) (.pair (.slice (.int .i64)) .unit))))⟩
 .nil) 81 ⟨.other, 1, 8, [.dead], none⟩
 .nil)))) 82 ⟨.other, 1, 0, [.dead], none⟩
 (.node (.node (.node (.node (.node .nil 83 ⟨.other, 1, 8, [.dead], none⟩
 .nil) 84 ⟨.other, 1, 0, [.dead], none⟩
 (.node .nil 85 ⟨.other, 1, 8, [.dead], none⟩
 .nil)) 86 ⟨.other, 1, 8, [.dead], none⟩
 (.node (.node .nil 87 ⟨.other, 1, 8, [.dead], none⟩
 .nil) 88 ⟨.other, 1, 8, [.dead], none⟩
 .nil)) 89 ⟨.other, 1, 0, [.dead], none⟩
 (.node (.node (.node .nil 90 ⟨.other, 1, 8, [.dead], none⟩
 .nil) 91 ⟨.other, 1, 8, [.dead], none⟩
 (.node .nil 92 ⟨.other, 1, 8, [.dead], none⟩
 .nil)) 93 ⟨.other, 1, 8, [.dead], none⟩
 (.node (.node .nil 94 ⟨.other, 1, 8, [.dead], none⟩
 .nil) 95 ⟨.other, 1, 8, [.dead], none⟩
 .nil))) 96 ⟨.struct [(0, 3), (1, 3), (2, 22), (3, 23)], 4, 64, [.p (.int .i64) (0 : Int), .p (.int .i64) (0 : Int), .nils, .nils], some (.pair (.int .i64) (.pair (.int .i64) (.pair (.slice (.slice (.int .i64))) (.pair (.slice (.int .i64)) .unit))))⟩
 (.node (.node (.node (.node .nil 97 ⟨.struct [(0, 3), (1, 3), (2, 22), (3, 23)], 4, 64, [.p (.int .i64) (0 : Int), .p (.int .i64) (0 : Int), .nils, .nils], some (.pair (.int .i64) (.pair (.int .i64) (.pair (.slice (.slice (.int .i64))) (.pair (.slice (.int .i64)) .unit))))⟩
 .nil) 98 ⟨.other, 1, 0, [.dead], none⟩
 (.node .nil 99 ⟨.other, 1, 8, [.dead], none⟩
 .nil)) 100 ⟨.other, 1, 8, [.dead], none⟩
 (.node (.node .nil 101 ⟨.other, 1, 8, [.dead], none⟩
 .nil) 102 ⟨.other, 1, 8, [.dead], none⟩
 .nil)) 103 ⟨.map 3 3 (.int .i64), 1, 8, [.kv (.map none)], none⟩
 (.node (.node (.node .nil 104 ⟨.struct [(0, 3), (1, 23)], 2, 32, [.p (.int .i64) (0 : Int), .nils], some (.pair (.int .i64) (.pair (.slice (.int .i64)) .unit))⟩
 .nil) 105 ⟨.struct [(0, 3), (1, 23)], 2, 32, [.p (.int .i64) (0 : Int), .nils], some (.pair (.int .i64) (.pair (.slice (.int .i64)) .unit))⟩
 .nil) 106 ⟨.slice 105, 1, 24, [.nils], some (.slice (.pair (.int .i64) (.pair (.slice (.int .i64)) .unit)))⟩
 (.node (.node .nil 107 ⟨.other, 1, 8, [.dead], none⟩
 .nil) 108 ⟨.slice 4, 1, 24, [.nils], some (.slice .bool)⟩
 .nil)))))) 109 ⟨.slice 22, 1, 24, [.nils], some (.slice (.slice (.slice (.int .i64))))⟩
 (.node (.node (.node (.node (.node (.node (.node .nil 110 ⟨.other, 1, 8, [.dead], none⟩
 .nil) 111 ⟨.other, 1, 8, [.dead], none⟩
 (.node .nil 112 ⟨.other, 1, 8, [.dead], none⟩
 .nil)) 113 ⟨.other, 1, 8, [.dead], none⟩
 (.node (.node .nil 114 ⟨.other, 1, 8, [.dead], none⟩
 .nil) 115 ⟨.other, 1, 8, [.dead], none⟩
 .nil)) 116 ⟨.arr 2 23, 2, 48, [.nils, .nils], some (.pair (.slice (.int .i64)) (.pair (.slice (.int .i64)) .unit))⟩
 (.node (.node (.node .nil 117 ⟨.slice 43, 1, 24, [.nils], some (.slice (.pair (.slice (.int .i64)) (.pair (.slice (.int .i64)) .unit)))⟩
 .nil) 118 ⟨.other, 1, 8, [.dead], none⟩
 (.node .nil 119 ⟨.other, 1, 8, [.dead], none⟩
 .nil)) 120 ⟨.struct [(0, 3), (1, 3), (2, 3), (3, 3), (4, 3), (5, 3)], 6, 48, [.p (.int .i64) (0 : Int), .p (.int .i64) (0 : Int), .p (.int .i64) (0 : Int), .p (.int .i64) (0 : Int), .p (.int .i64) (0 : Int), .p (.int .i64) (0 : Int)], some (.pair (.int .i64) (.pair (.int .i64) (.pair (.int .i64) (.pair (.int .i64) (.pair (.int .i64) (.pair (.int .i64) .unit))))))⟩
 (.node (.node .nil 121 ⟨.struct [(0, 3), (1, 3), (2, 3), (3, 3), (4, 3), (5, 3)], 6, 48, [.p (.int .i64) (0 : Int), .p (.int .i64) (0 : Int), .p (.int .i64) (0 : Int), .p (.int .i64) (0 : Int), .p (.int .i64) (0 : Int), .p (.int .i64) (0 : Int)], some (.pair (.int .i64) (.pair (.int .i64) (.pair (.int .i64) (.pair (.int .i64) (.pair (.int .i64) (.pair (.int .i64) .unit))))))⟩
 .nil) 122 ⟨.other, 1, 8, [.dead], none⟩
 .nil))) 123 ⟨.struct [(0, 3), (1, 58), (2, 4)], 3, 40, [.p (.int .i64) (0 : Int), .nils, .cb .ff], some (.pair (.int .i64) (.pair (.slice (.pair (.int .i64) (.pair (.int .i64) .unit))) (.pair .bool .unit)))⟩
 (.node (.node (.node (.node .nil 124 ⟨.struct [(0, 3), (1, 58), (2, 4)], 3, 40, [.p (.int .i64) (0 : Int), .nils, .cb .ff], some (.pair (.int .i64) (.pair (.slice (.pair (.int .i64) (.pair (.int .i64) .unit))) (.pair .bool .unit)))⟩
 .nil) 125 ⟨.other, 1, 0, [.dead], none⟩
 (.node .nil 126 ⟨.other, 1, 8, [.dead], none⟩
 .nil)) 127 ⟨.other, 1, 8, [.dead], none⟩
 (.node (.node .nil 128 ⟨.other, 1, 8, [.dead], none⟩
 .nil) 129 ⟨.struct [(0, 3), (1, 3)], 2, 16, [.p (.int .i64) (0 : Int), .p (.int .i64) (0 : Int)], some (.pair (.int .i64) (.pair (.int .i64) .unit))⟩
 .nil)) 130 ⟨.struct [(0, 3), (1, 3)], 2, 16, [.p (.int .i64) (0 : Int), .p (.int .i64) (0 : Int)], some (.pair (.int .i64) (.pair (.int .i64) .unit))⟩
 (.node (.node (.node .nil 131 ⟨.other, 1, 8, [.dead], none⟩
 .nil) 132 ⟨.ptr 201, 1, 8, [.kv (.pointer none)], none⟩
 (.node .nil 133 ⟨.other, 1, 0, [.dead], none⟩
 .nil)) 134 ⟨.other, 1, 8, [.dead], none⟩
 (.node (.node .nil 135 ⟨.ptr 137, 1, 8, [.kv (.pointer none)], none⟩
 .nil) 136 ⟨.struct [(0, 9), (1, 3), (2, 3), (3, 74), (4, 72)], 6, 72, [.p .str ByteArray.empty, .p (.int .i64) (0 : Int), .p (.int .i64) (0 : Int), .nils, .p (.int .i64) (0 : Int), .p (.int .i64) (0 : Int)], some (.pair .str (.pair (.int .i64) (.pair (.int .i64) (.pair (.slice (.pair (.int .i64) (.pair (.int .i64) (.pair (.slice (.int .i64)) .unit)))) (.pair (.pair (.int .i64) (.pair (.int .i64) .unit)) .unit)))))⟩
 .nil)))) 137 ⟨.struct [(0, 9), (1, 3), (2, 3), (3, 74), (4, 72)], 6, 72, [.p .str ByteArray.empty, .p (.int .i64) (0 : Int), .p (.int .i64) (0 : Int), .nils, .p (.int .i64) (0 : Int), .p (.int .i64) (0 : Int)], some (.pair .str (.pair (.int .i64) (.pair (.int .i64) (.pair (.slice (.pair (.int .i64) (.pair (.int .i64) (.pair (.slice (.int .i64)) .unit)))) (.pair (.pair (.int .i64) (.pair (.int .i64) .unit)) .unit)))))⟩
 (.node (.node (.node (.node (.node .nil 138 ⟨.other, 1, 8, [.dead], none⟩
 .nil) 139 ⟨.other, 1, 8, [.dead], none⟩
 (.node .nil 140 ⟨.other, 1, 8, [.dead], none⟩
 .nil)) 141 ⟨.slice 144, 1, 24, [.nils], some (.slice (.pair (.int .i64) (.pair (.int .i64) .unit)))⟩
 (.node (.node .nil 142 ⟨.other, 1, 8, [.dead], none⟩
 .nil) 143 ⟨.other, 1, 8, [.dead], none⟩
 .nil)) 144 ⟨.arr 2 3, 2, 16, [.p (.int .i64) (0 : Int), .p (.int .i64) (0 : Int)], some (.pair (.int .i64) (.pair (.int .i64) .unit))⟩
 (.node (.node (.node .nil 145 ⟨.other, 1, 8, [.dead], none⟩
 .nil) 146 ⟨.other, 1, 8, [.dead], none⟩
 (.node .nil 147 ⟨.other, 1, 8, [.dead], none⟩
 .nil)) 148 ⟨.other, 1, 8, [.dead], none⟩
 (.node (.node .nil 149 ⟨.other, 1, 8, [.dead], none⟩
 .nil) 150 ⟨.other, 1, 8, [.dead], none⟩
 .nil))) 151 ⟨.other, 1, 8, [.dead], none⟩
 (.node (.node (.node (.node .nil 152 ⟨.other, 1, 8, [.dead], none⟩
 .nil) 153 ⟨.other, 1, 8, [.dead], none⟩
 (.node .nil 154 ⟨.map 9 3 .str, 1, 8, [.kv (.map none)], none⟩
 .nil)) 155 ⟨.slice 157, 1, 24, [.nils], some (.slice (.pair (.slice (.int .i64)) (.pair (.slice (.int .i64)) (.pair (.slice (.int .i64)) .unit))))⟩
 (.node (.node .nil 156 ⟨.struct [(0, 23), (1, 23), (2, 23)], 3, 72, [.nils, .nils, .nils], some (.pair (.slice (.int .i64)) (.pair (.slice (.int .i64)) (.pair (.slice (.int .i64)) .unit)))⟩
 .nil) 157 ⟨.struct [(0, 23), (1, 23), (2, 23)], 3, 72, [.nils, .nils, .nils], some (.pair (.slice (.int .i64)) (.pair (.slice (.int .i64)) (.pair (.slice (.int .i64)) .unit)))⟩
 .nil)) 158 ⟨.other, 1, 8, [.dead], none⟩
 (.node (.node (.node .nil 159 ⟨.other, 1, 8, [.dead], none⟩
 .nil) 160 ⟨.other, 1, 8, [.dead], none⟩
 .nil) 161 ⟨.arr 4 3, 4, 32, [.p (.int .i64) (0 : Int), .p (.int .i64) (0 : Int), .p (.int .i64) (0 : Int), .p (.int .i64) (0 : Int)], some (.pair (.int .i64) (.pair (.int .i64) (.pair (.int .i64) (.pair (.int .i64) .unit))))⟩
 (.node (.node .nil 162 ⟨.struct [(0, 161), (4, 3)], 5, 40, [.p (.int .i64) (0 : Int), .p (.int .i64) (0 : Int), .p (.int .i64) (0 : Int), .p (.int .i64) (0 : Int), .p (.int .i64) (0 : Int)], some (.pair (.pair (.int .i64) (.pair (.int .i64) (.pair (.int .i64) (.pair (.int .i64) .unit)))) (.pair (.int .i64) .unit))⟩
 .nil) 163 ⟨.struct [(0, 161), (4, 3)], 5, 40, [.p (.int .i64) (0 : Int), .p (.int .i64) (0 : Int), .p (.int .i64) (0 : Int), .p (.int .i64) (0 : Int), .p (.int .i64) (0 : Int)], some (.pair (.pair (.int .i64) (.pair (.int .i64) (.pair (.int .i64) (.pair (.int .i64) .unit)))) (.pair (.int .i64) .unit))⟩
 .nil))))) 164 ⟨.other, 1, 0, [.dead], none⟩
 (.node (.node (.node (.node (.node (.node .nil 165 ⟨.other, 1, 8, [.dead], none⟩
 .nil) 166 ⟨.other, 1, 8, [.dead], none⟩
 (.node .nil 167 ⟨.other, 1, 8, [.dead], none⟩
 .nil)) 168 ⟨.other, 1, 8, [.dead], none⟩
 (.node (.node .nil 169 ⟨.other, 1, 8, [.dead], none⟩
 .nil) 170 ⟨.other, 1, 8, [.dead], none⟩
 .nil)) 171 ⟨.other, 1, 8, [.dead], none⟩
 (.node (.node (.node .nil 172 ⟨.other, 1, 8, [.dead], none⟩
 .nil) 173 ⟨.map 176 124 (.pair (.int .i64) (.pair (.int .i64) .unit)), 1, 8, [.kv (.map none)], none⟩
 (.node .nil 174 ⟨.other, 1, 8, [.dead], none⟩
 .nil)) 175 ⟨.struct [(0, 3), (1, 3)], 2, 16, [.p (.int .i64) (0 : Int), .p (.int .i64) (0 : Int)], some (.pair (.int .i64) (.pair (.int .i64) .unit))⟩
 (.node (.node .nil 176 ⟨.struct [(0, 3), (1, 3)], 2, 16, [.p (.int .i64) (0 : Int), .p (.int .i64) (0 : Int)], some (.pair (.int .i64) (.pair (.int .i64) .unit))⟩
 .nil) 177 ⟨.struct [(0, 72)], 2, 16, [.p (.int .i64) (0 : Int), .p (.int .i64) (0 : Int)], some (.pair (.pair (.int .i64) (.pair (.int .i64) .unit)) .unit)⟩
 .nil))) 178 ⟨.struct [(0, 72)], 2, 16, [.p (.int .i64) (0 : Int), .p (.int .i64) (0 : Int)], some (.pair (.pair (.int .i64) (.pair (.int .i64) .unit)) .unit)⟩
 (.node (.node (.node (.node .nil 179 ⟨.ptr 181, 1, 8, [.kv (.pointer none)], none⟩
 .nil) 180 ⟨.struct [(0, 9), (1, 3), (2, 3)], 3, 32, [.p .str ByteArray.empty, .p (.int .i64) (0 : Int), .p (.int .i64) (0 : Int)], some (.pair .str (.pair (.int .i64) (.pair (.int .i64) .unit)))⟩
 (.node .nil 181 ⟨.struct [(0, 9), (1, 3), (2, 3)], 3, 32, [.p .str ByteArray.empty, .p (.int .i64) (0 : Int), .p (.int .i64) (0 : Int)], some (.pair .str (.pair (.int .i64) (.pair (.int .i64) .unit)))⟩
 .nil)) 182 ⟨.other, 1, 8, [.dead], none⟩
 (.node (.node .nil 183 ⟨.other, 1, 8, [.dead], none⟩
 .nil) 184 ⟨.other, 1, 8, [.dead], none⟩
 .nil)) 185 ⟨.other, 1, 8, [.dead], none⟩
 (.node (.node (.node .nil 186 ⟨.struct [(0, 3), (1, 3), (2, 23)], 3, 40, [.p (.int .i64) (0 : Int), .p (.int .i64) (0 : Int), .nils], some (.pair (.int .i64) (.pair (.int .i64) (.pair (.slice (.int .i64)) .unit)))⟩
 .nil) 187 ⟨.struct [(0, 3), (1, 3), (2, 23)], 3, 40, [.p (.int .i64) (0 : Int), .p (.int .i64) (0 : Int), .nils], some (.pair (.int .i64) (.pair (.int .i64) (.pair (.slice (.int .i64)) .unit)))⟩
 (.node .nil 188 ⟨.other, 1, 8, [.dead], none⟩
 .nil)) 189 ⟨.other, 1, 8, [.dead], none⟩
 (.node (.node .nil 190 ⟨.other, 1, 8, [.dead], none⟩
 .nil) 191 ⟨.other, 1, 8, [.dead], none⟩
 .nil)))) 192 ⟨.other, 1, 8, [.dead], none⟩
 (.node (.node (.node (.node (.node .nil 193 ⟨.slice 5, 1, 24, [.nils], some (.slice (.int .u8))⟩
 .nil) 194 ⟨.int .u64, 1, 8, [.p (.int .u64) (0 : Int)], some (.int .u64)⟩
 (.node .nil 195 ⟨.map 163 3 (.pair (.pair (.int .i64) (.pair (.int .i64) (.pair (.int .i64) (.pair (.int .i64) .unit)))) (.pair (.int .i64) .unit)), 1, 8, [.kv (.map none)], none⟩
 .nil)) 196 ⟨.slice 163, 1, 24, [.nils], some (.slice (.pair (.pair (.int .i64) (.pair (.int .i64) (.pair (.int .i64) (.pair (.int .i64) .unit)))) (.pair (.int .i64) .unit)))⟩
 (.node (.node .nil 197 ⟨.other, 1, 0, [.dead], none⟩
 .nil) 198 ⟨.other, 1, 8, [.dead], none⟩
 .nil)) 199 ⟨.slice 132, 1, 24, [.nils], none⟩
 (.node (.node (.node .nil 200 ⟨.struct [(0, 3), (1, 3), (2, 199)], 3, 40, [.p (.int .i64) (0 : Int), .p (.int .i64) (0 : Int), .nils], none⟩
 .nil) 201 ⟨.struct [(0, 3), (1, 3), (2, 199)], 3, 40, [.p (.int .i64) (0 : Int), .p (.int .i64) (0 : Int), .nils], none⟩
 (.node .nil 202 ⟨.other, 1, 8, [.dead], none⟩
 .nil)) 203 ⟨.other, 1, 8, [.dead], none⟩
 (.node (.node .nil 204 ⟨.struct [(0, 17), (1, 17), (2, 17), (3, 9)], 4, 40, [.kv (.pointer none), .kv (.pointer none), .kv (.pointer none), .p .str ByteArray.empty], none⟩
 .nil) 205 ⟨.struct [(0, 17), (1, 17), (2, 17), (3, 9)], 4, 40, [.kv (.pointer none), .kv (.pointer none), .kv (.pointer none), .p .str ByteArray.empty], none⟩
 .nil))) 206 ⟨.arr 0 16, 0, 0, [], none⟩
 (.node (.node (.node (.node .nil 207 ⟨.struct [(0, 206)], 0, 0, [], none⟩
 .nil) 208 ⟨.struct [(0, 206)], 0, 0, [], none⟩
 (.node .nil 209 ⟨.int .u32, 1, 4, [.p (.int .u32) (0 : Int)], some (.int .u32)⟩
 .nil)) 210 ⟨.int .u8, 1, 1, [.p (.int .u8) (0 : Int)], some (.int .u8)⟩
 (.node (.node .nil 211 ⟨.int .u8, 1, 1, [.p (.int .u8) (0 : Int)], some (.int .u8)⟩
 .nil) 212 ⟨.other, 1, 8, [.dead], none⟩
 .nil)) 213 ⟨.ptr 5, 1, 8, [.kv (.pointer none)], none⟩
 (.node (.node (.node .nil 214 ⟨.int .i32, 1, 4, [.p (.int .i32) (0 : Int)], some (.int .i32)⟩
 .nil) 215 ⟨.int .i32, 1, 4, [.p (.int .i32) (0 : Int)], some (.int .i32)⟩
 .nil) 216 ⟨.struct [(0, 12), (1, 12), (2, 209), (3, 210), (4, 5), (5, 5), (6, 211), (7, 212), (8, 213), (9, 214), (10, 215)], 11, 48, [.p (.int .u64) (0 : Int), .p (.int .u64) (0 : Int), .p (.int .u32) (0 : Int), .p (.int .u8) (0 : Int), .p (.int .u8) (0 : Int), .p (.int .u8) (0 : Int), .p (.int .u8) (0 : Int), .dead, .kv (.pointer none), .p (.int .i32) (0 : Int), .p (.int .i32) (0 : Int)], none⟩
 (.node (.node .nil 217 ⟨.struct [(0, 12), (1, 12), (2, 209), (3, 210), (4, 5), (5, 5), (6, 211), (7, 212), (8, 213), (9, 214), (10, 215)], 11, 48, [.p (.int .u64) (0 : Int), .p (.int .u64) (0 : Int), .p (.int .u32) (0 : Int), .p (.int .u8) (0 : Int), .p (.int .u8) (0 : Int), .p (.int .u8) (0 : Int), .p (.int .u8) (0 : Int), .dead, .kv (.pointer none), .p (.int .i32) (0 : Int), .p (.int .i32) (0 : Int)], none⟩
 .nil) 218 ⟨.other, 1, 8, [.dead], none⟩
 .nil)))))))
