import Derived.Test.YtfkilmmldjajmaaSxA
namespace Go.Proofs.YtfkilmmldjajmaaSx
set_option maxRecDepth 100000
def T : TT := (.node (.node (.node (.node (.node (.node (.node (.node .nil 0 ⟨.other, 1, 0, [.dead], none⟩
 .nil) 1 ⟨.other, 1, 8, [.dead], none⟩
 (.node .nil 2 ⟨.int .i64, 1, 8, [.p (.int .i64) (0 : Int)], some (.int .i64)⟩
 .nil)) 3 ⟨.int .i64, 1, 8, [.p (.int .i64) (0 : Int)], some (.int .i64)⟩
 (.node (.node .nil 4 ⟨.bool, 1, 1, [.cb .ff], some .bool⟩
 .nil) 5 ⟨.int .u8, 1, 1, [.p (.int .u8) (0 : Int)], some (.int .u8)⟩
 (.node .nil 6 ⟨.int .u8, 1, 1, [.p (.int .u8) (0 : Int)], some (.int .u8)⟩
 .nil))) 7 ⟨.struct [(0, 2), (1, 3), (2, 4), (3, 6)], 4, 24, [.p (.int .i64) (0 : Int), .p (.int .i64) (0 : Int), .cb .ff, .p (.int .u8) (0 : Int)], some (.pair (.int .i64) (.pair (.int .i64) (.pair .bool (.pair (.int .u8) .unit))))⟩
 (.node (.node (.node .nil 8 ⟨.struct [(0, 2), (1, 3), (2, 4), (3, 6)], 4, 24, [.p (.int .i64) (0 : Int), .p (.int .i64) (0 : Int), .cb .ff, .p (.int .u8) (0 : Int)], some (.pair (.int .i64) (.pair (.int .i64) (.pair .bool (.pair (.int .u8) .unit))))⟩
 .nil) 9 ⟨.str, 1, 16, [.p .str ByteArray.empty], some .str⟩
 (.node .nil 10 ⟨.str, 1, 16, [.p .str ByteArray.empty], some .str⟩
 .nil)) 11 ⟨.str, 1, 16, [.p .str ByteArray.empty], some .str⟩
 (.node (.node .nil 12 ⟨.int .u64, 1, 8, [.p (.int .u64) (0 : Int)], some (.int .u64)⟩
 .nil) 13 ⟨.struct [(0, 9), (1, 12)], 2, 24, [.p .str ByteArray.empty, .p (.int .u64) (0 : Int)], some (.pair .str (.pair (.int .u64) .unit))⟩
 (.node .nil 14 ⟨.struct [(0, 9), (1, 12)], 2, 24, [.p .str ByteArray.empty, .p (.int .u64) (0 : Int)], some (.pair .str (.pair (.int .u64) .unit))⟩
 .nil)))) 15 ⟨.ptr 231, 1, 8, [.kv (.pointer none)], none⟩
 (.node (.node (.node (.node .nil 16 ⟨.ptr 234, 1, 8, [.kv (.pointer none)], none⟩
 .nil) 17 ⟨.ptr 242, 1, 8, [.kv (.pointer none)], none⟩
 (.node .nil 18 ⟨.struct [(0, 17)], 1, 8, [.kv (.pointer none)], none⟩
 .nil)) 19 ⟨.struct [(0, 17)], 1, 8, [.kv (.pointer none)], none⟩
 (.node (.node .nil 20 ⟨.other, 1, 16, [.dead], none⟩
 .nil) 21 ⟨.int .i32, 1, 4, [.p (.int .i32) (0 : Int)], some (.int .i32)⟩
 (.node .nil 22 ⟨.slice 91, 1, 24, [.nils], some (.slice (.slice (.slice (.slice (.int .i64)))))⟩
 .nil))) 23 ⟨.slice 3, 1, 24, [.nils], some (.slice (.int .i64))⟩
 (.node (.node (.node .nil 24 ⟨.struct [(0, 3), (1, 3), (2, 22), (3, 23)], 4, 64, [.p (.int .i64) (0 : Int), .p (.int .i64) (0 : Int), .nils, .nils], some (.pair (.int .i64) (.pair (.int .i64) (.pair (.slice (.slice (.slice (.slice (.int .i64))))) (.pair (.slice (.int .i64)) .unit))))⟩
 .nil) 25 ⟨.struct [(0, 3), (1, 3), (2, 22), (3, 23)], 4, 64, [.p (.int .i64) (0 : Int), .p (.int .i64) (0 : Int), .nils, .nils], some (.pair (.int .i64) (.pair (.int .i64) (.pair (.slice (.slice (.slice (.slice (.int .i64))))) (.pair (.slice (.int .i64)) .unit))))⟩
 (.node .nil 26 ⟨.int .i64, 1, 8, [.p (.int .i64) (0 : Int)], some (.int .i64)⟩
 .nil)) 27 ⟨.other, 1, 0, [.dead], none⟩
 (.node (.node .nil 28 ⟨.other, 1, 8, [.dead], none⟩
 .nil) 29 ⟨.other, 1, 8, [.dead], none⟩
 .nil)))) 30 ⟨.other, 1, 8, [.dead], none⟩
 (.node (.node (.node (.node (.node .nil 31 ⟨.other, 1, 8, [.dead], none⟩
 .nil) 32 ⟨.struct [(0, 23), (1, 23)], 2, 48, [.nils, .nils], some (.pair (.slice (.int .i64)) (.pair (.slice (.int .i64)) .unit))⟩
 (.node .nil 33 ⟨.struct [(0, 23), (1, 23)], 2, 48, [.nils, .nils], some (.pair (.slice (.int .i64)) (.pair (.slice (.int .i64)) .unit))⟩
 .nil)) 34 ⟨.other, 1, 8, [.dead], none⟩
 (.node (.node .nil 35 ⟨.other, 1, 0, [.dead], none⟩
 .nil) 36 ⟨.other, 1, 8, [.dead], none⟩
 (.node .nil 37 ⟨.other, 1, 8, [.dead], none⟩
 .nil))) 38 ⟨.other, 1, 8, [.dead], none⟩
 (.node (.node (.node .nil 39 ⟨.other, 1, 8, [.dead], none⟩
 .nil) 40 ⟨.other, 1, 8, [.dead], none⟩
 (.node .nil 41 ⟨.other, 1, 8, [.dead], none⟩
 .nil)) 42 ⟨.other, 1, 8, [.dead], none⟩
 (.node (.node .nil 43 ⟨.other, 1, 8, [.dead], none⟩
 .nil) 44 ⟨.other, 1, 0, [.dead], none⟩
 (.node .nil 45 ⟨.other, 1, 8, [.dead], none⟩
 .nil)))) 46 ⟨.slice 23, 1, 24, [.nils], some (.slice (.slice (.int .i64)))⟩
 (.node (.node (.node (.node .nil 47 ⟨.other, 1, 8, [.dead], none⟩
 .nil) 48 ⟨.other, 1, 0, [.dead], none⟩
 (.node .nil 49 ⟨.other, 1, 8, [.dead], none⟩
 .nil)) 50 ⟨.other, 1, 8, [.dead], none⟩
 (.node (.node .nil 51 ⟨.other, 1, 8, [.dead], none⟩
 .nil) 52 ⟨.other, 1, 8, [.dead], none⟩
 (.node .nil 53 ⟨.other, 1, 0, [.dead], none⟩
 .nil))) 54 ⟨.other, 1, 8, [.dead], none⟩
 (.node (.node (.node .nil 55 ⟨.other, 1, 8, [.dead], none⟩
 .nil) 56 ⟨.other, 1, 8, [.dead], none⟩
 (.node .nil 57 ⟨.struct [(0, 3), (1, 3), (2, 46), (3, 23)], 4, 64, [.p (.int .i64) (0 : Int), .p (.int .i64) (0 : Int), .nils, .nils], some (.pair (.int .i64) (.pair (.int .i64) (.pair (.slice (.slice (.int .i64))) (.pair (.slice (.int .i64)) .unit))))⟩
 .nil)) 58 ⟨.struct [(0, 3), (1, 3), (2, 46), (3, 23)], 4, 64, [.p (.int .i64) (0 : Int), .p (.int .i64) (0 : Int), .nils, .nils], some (.pair (.int .i64) (.pair (.int .i64) (.pair (.slice (.slice (.int .i64))) (.pair (.slice (.int .i64)) .unit))))⟩
 (.node (.node .nil 59 ⟨.struct [(0, 3), (1, 3), (2, 46), (3, 23)], 4, 64, [.p (.int .i64) (0 : Int), .p (.int .i64) (0 : Int), .nils, .nils], some (.pair (.int .i64) (.pair (.int .i64) (.pair (.slice (.slice (.int .i64))) (.pair (.slice (.int .i64)) .unit))))⟩
 .nil) 60 ⟨.struct [(0, 3), (1, 3), (2, 46), (3, 23)], 4, 64, [.p (.int .i64) (0 : Int), .p (.int .i64) (0 : Int), .nils, .nils], some (.pair (.int .i64) (.pair (.int .i64) (.pair (.slice (.slice (.int .i64))) (.pair (.slice (.int .i64)) .unit))))⟩
 .nil))))) 61 ⟨.other, 1, 0, [.dead], none⟩
 (.node (.node (.node (.node (.node (.node .nil 62 ⟨.other, 1, 8, [.dead], none⟩
 .nil) 63 ⟨.other, 1, 8, [.dead], none⟩
 (.node .nil 64 ⟨.other, 1, 8, [.dead], none⟩
 .nil)) 65 ⟨.other, 1, 8, [.dead], none⟩
 (.node (.node .nil 66 ⟨.other, 1, 8, [.dead], none⟩
 .nil) 67 ⟨.other, 1, 8, [.dead], none⟩
 (.node .nil 68 ⟨.other, 1, 8, [.dead], none⟩
 .nil))) 69 ⟨.other, 1, 8, [.dead], none⟩
 (.node (.node (.node .nil 70 ⟨.other, 1, 0, [.dead], none⟩
 .nil) 71 ⟨.other, 1, 8, [.dead], none⟩
 (.node .nil 72 ⟨.other, 1, 8, [.dead], none⟩
 .nil)) 73 ⟨.other, 1, 8, [.dead], none⟩
 (.node (.node .nil 74 ⟨.other, 1, 8, [.dead], none⟩
 .nil) 75 ⟨.other, 1, 8, [.dead], none⟩
 (.node .nil 76 ⟨.slice 151, 1, 24, [.nils], some (.slice (.pair (.int .i64) (.pair (.int .i64) (.pair (.int .i64) .unit))))⟩
 .nil)))) 77 ⟨.struct [(0, 3), (1, 3), (2, 23), (3, 76), (4, 23)], 5, 88, [.p (.int .i64) (0 : Int), .p (.int .i64) (0 : Int), .nils, .nils, .nils], some (.pair (.int .i64) (.pair (.int .i64) (.pair (.slice (.int .i64)) (.pair (.slice (.pair (.int .i64) (.pair (.int .i64) (.pair (.int .i64) .unit)))) (.pair (.slice (.int .i64)) .unit)))))⟩
 (.node (.node (.node (.node .nil 78 ⟨.struct [(0, 3), (1, 3), (2, 23), (3, 76), (4, 23)], 5, 88, [.p (.int .i64) (0 : Int), .p (.int .i64) (0 : Int), .nils, .nils, .nils], some (.pair (.int .i64) (.pair (.int .i64) (.pair (.slice (.int .i64)) (.pair (.slice (.pair (.int .i64) (.pair (.int .i64) (.pair (.int .i64) .unit)))) (.pair (.slice (.int .i64)) .unit)))))⟩
 .nil) 79 ⟨.other, 1, 8, [.dead], none⟩
 (.node .nil 80 ⟨.other, 1, 0, [.dead], none⟩
 .nil)) 81 ⟨.other, 1, 8, [.dead], none⟩
 (.node (.node .nil 82 ⟨.other, 1, 8, [.dead], none⟩
 .nil) 83 ⟨.other, 1, 8, [.dead], none⟩
 (.node .nil 84 ⟨.other, 1, 8, [.dead], none⟩
 .nil))) 85 ⟨.other, 1, 8, [.dead], none⟩
 (.node (.node (.node .nil 86 ⟨.other, 1, 8, [.dead], none⟩
 .nil) 87 ⟨.slice 90, 1, 24, [.nils], some (.slice (.slice (.pair (.int .i64) (.pair (.int .i64) .unit))))⟩
 (.node .nil 88 ⟨.struct [(0, 3), (1, 3), (2, 87), (3, 23)], 4, 64, [.p (.int .i64) (0 : Int), .p (.int .i64) (0 : Int), .nils, .nils], some (.pair (.int .i64) (.pair (.int .i64) (.pair (.slice (.slice (.pair (.int .i64) (.pair (.int .i64) .unit)))) (.pair (.slice (.int .i64)) .unit))))⟩
 .nil)) 89 ⟨.struct [(0, 3), (1, 3), (2, 87), (3, 23)], 4, 64, [.p (.int .i64) (0 : Int), .p (.int .i64) (0 : Int), .nils, .nils], some (.pair (.int .i64) (.pair (.int .i64) (.pair (.slice (.slice (.pair (.int .i64) (.pair (.int .i64) .unit)))) (.pair (.slice (.int .i64)) .unit))))⟩
 (.node (.node .nil 90 ⟨.slice 92, 1, 24, [.nils], some (.slice (.pair (.int .i64) (.pair (.int .i64) .unit)))⟩
 .nil) 91 ⟨.slice 46, 1, 24, [.nils], some (.slice (.slice (.slice (.int .i64))))⟩
 .nil)))) 92 ⟨.arr 2 3, 2, 16, [.p (.int .i64) (0 : Int), .p (.int .i64) (0 : Int)], some (.pair (.int .i64) (.pair (.int .i64) .unit))⟩
 (.node (.node (.node (.node (.node .nil 93 ⟨.other, 1, 8, [.dead], none⟩
 .nil) 94 ⟨.other, 1, 8, [.dead], none⟩
 (.node .nil 95 ⟨.other, 1, 0, [.dead], none⟩
 .nil)) 96 ⟨.other, 1, 8, [.dead], none⟩
 (.node (.node .nil 97 ⟨.slice 215, 1, 24, [.nils], some (.slice (.pair (.int .i64) (.pair (.int .i64) (.pair (.slice (.int .i64)) .unit))))⟩
 .nil) 98 ⟨.struct [(0, 26), (1, 3)], 2, 16, [.p (.int .i64) (0 : Int), .p (.int .i64) (0 : Int)], some (.pair (.int .i64) (.pair (.int .i64) .unit))⟩
 (.node .nil 99 ⟨.struct [(0, 26), (1, 3)], 2, 16, [.p (.int .i64) (0 : Int), .p (.int .i64) (0 : Int)], some (.pair (.int .i64) (.pair (.int .i64) .unit))⟩
 .nil))) 100 ⟨.other, 1, 0, [.dead], none⟩
 (.node (.node (.node .nil 101 ⟨.other, 1, 8, [.dead], none⟩
 .nil) 102 ⟨.other, 1, 8, [.dead], none⟩
 (.node .nil 103 ⟨.other, 1, 8, [.dead], none⟩
 .nil)) 104 ⟨.other, 1, 8, [.dead], none⟩
 (.node (.node .nil 105 ⟨.other, 1, 0, [.dead], none⟩
 .nil) 106 ⟨.other, 1, 8, [.dead], none⟩
 .nil))) 107 ⟨.other, 1, 8, [.dead], none⟩
 (.node (.node (.node (.node .nil 108 ⟨.other, 1, 8, [.dead], none⟩
 .nil) 109 ⟨.other, 1, 8, [.dead], none⟩
 (.node .nil 110 ⟨.other, 1, 8, [.dead], none⟩
 .nil)) 111 ⟨.other, 1, 8, [.dead], none⟩
 (.node (.node .nil 112 ⟨.other, 1, 8, [.dead], none⟩
 .nil) 113 ⟨.other, 1, 8, [.dead], none⟩
 (.node .nil 114 ⟨.other, 1, 8, [.dead], none⟩
 .nil))) 115 ⟨.other, 1, 8, [.dead], none⟩
 (.node (.node (.node .nil 116 ⟨.other, 1, 8, [.dead], none⟩
 .nil) 117 ⟨.other, 1, 8, [.dead], none⟩
 (.node .nil 118 ⟨.other, 1, 8, [.dead], none⟩
 .nil)) 119 ⟨.other, 1, 8, [.dead], none⟩
 (.node (.node .nil 120 ⟨.other, 1, 8, [.dead], none⟩
 .nil) 121 ⟨.other, 1, 8, [.dead], none⟩
 .nil)))))) 122 ⟨.other, 1, 8, [.dead], none⟩
 (.node (.node (.node (.node (.node (.node (.node .nil 123 ⟨.other, 1, 8, [.dead], none⟩
 .nil) 124 ⟨.other, 1, 8, [.dead], none⟩
 (.node .nil 125 ⟨.map 9 3 .str, 1, 8, [.kv (.map none)], none⟩
 .nil)) 126 ⟨.slice 128, 1, 24, [.nils], some (.slice (.pair (.slice (.int .i64)) (.pair (.slice (.int .i64)) (.pair (.slice (.int .i64)) .unit))))⟩
 (.node (.node .nil 127 ⟨.struct [(0, 23), (1, 23), (2, 23)], 3, 72, [.nils, .nils, .nils], some (.pair (.slice (.int .i64)) (.pair (.slice (.int .i64)) (.pair (.slice (.int .i64)) .unit)))⟩
 .nil) 128 ⟨.struct [(0, 23), (1, 23), (2, 23)], 3, 72, [.nils, .nils, .nils], some (.pair (.slice (.int .i64)) (.pair (.slice (.int .i64)) (.pair (.slice (.int .i64)) .unit)))⟩
 (.node .nil 129 ⟨.other, 1, 8, [.dead], none⟩
 .nil))) 130 ⟨.other, 1, 8, [.dead], none⟩
 (.node (.node (.node .nil 131 ⟨.other, 1, 8, [.dead], none⟩
 .nil) 132 ⟨.arr 4 3, 4, 32, [.p (.int .i64) (0 : Int), .p (.int .i64) (0 : Int), .p (.int .i64) (0 : Int), .p (.int .i64) (0 : Int)], some (.pair (.int .i64) (.pair (.int .i64) (.pair (.int .i64) (.pair (.int .i64) .unit))))⟩
 (.node .nil 133 ⟨.struct [(0, 132), (4, 3)], 5, 40, [.p (.int .i64) (0 : Int), .p (.int .i64) (0 : Int), .p (.int .i64) (0 : Int), .p (.int .i64) (0 : Int), .p (.int .i64) (0 : Int)], some (.pair (.pair (.int .i64) (.pair (.int .i64) (.pair (.int .i64) (.pair (.int .i64) .unit)))) (.pair (.int .i64) .unit))⟩
 .nil)) 134 ⟨.struct [(0, 132), (4, 3)], 5, 40, [.p (.int .i64) (0 : Int), .p (.int .i64) (0 : Int), .p (.int .i64) (0 : Int), .p (.int .i64) (0 : Int), .p (.int .i64) (0 : Int)], some (.pair (.pair (.int .i64) (.pair (.int .i64) (.pair (.int .i64) (.pair (.int .i64) .unit)))) (.pair (.int .i64) .unit))⟩
 (.node (.node .nil 135 ⟨.other, 1, 8, [.dead], none⟩
 .nil) 136 ⟨.other, 1, 8, [.dead], none⟩
 (.node .nil 137 ⟨.other, 1, 8, [.dead], none⟩
 .nil)))) 138 ⟨.other, 1, 8, [.dead], none⟩
 (.node (.node (.node (.node .nil 139 ⟨.other, 1, 8, [.dead], none⟩
 .nil) 140 ⟨.other, 1, 8, [.dead], none⟩
 (.node .nil 141 ⟨.other, 1, 8, [.dead], none⟩
 .nil)) 142 ⟨.arr 2 3, 2, 16, [.p (.int .i64) (0 : Int), .p (.int .i64) (0 : Int)], some (.pair (.int .i64) (.pair (.int .i64) .unit))⟩
 (.node (.node .nil 143 ⟨.other, 1, 8, [.dead], none⟩
 .nil) 144 ⟨.other, 1, 8, [.dead], none⟩
 (.node .nil 145 ⟨.other, 1, 8, [.dead], none⟩
 .nil))) 146 ⟨.struct [(0, 23), (1, 23), (2, 46)], 3, 72, [.nils, .nils, .nils], some (.pair (.slice (.int .i64)) (.pair (.slice (.int .i64)) (.pair (.slice (.slice (.int .i64))) .unit)))⟩
 (.node (.node (.node .nil 147 ⟨.struct [(0, 23), (1, 23), (2, 46)], 3, 72, [.nils, .nils, .nils], some (.pair (.slice (.int .i64)) (.pair (.slice (.int .i64)) (.pair (.slice (.slice (.int .i64))) .unit)))⟩
 .nil) 148 ⟨.other, 1, 8, [.dead], none⟩
 (.node .nil 149 ⟨.other, 1, 8, [.dead], none⟩
 .nil)) 150 ⟨.struct [(0, 3), (1, 3), (2, 3)], 3, 24, [.p (.int .i64) (0 : Int), .p (.int .i64) (0 : Int), .p (.int .i64) (0 : Int)], some (.pair (.int .i64) (.pair (.int .i64) (.pair (.int .i64) .unit)))⟩
 (.node (.node .nil 151 ⟨.struct [(0, 3), (1, 3), (2, 3)], 3, 24, [.p (.int .i64) (0 : Int), .p (.int .i64) (0 : Int), .p (.int .i64) (0 : Int)], some (.pair (.int .i64) (.pair (.int .i64) (.pair (.int .i64) .unit)))⟩
 .nil) 152 ⟨.other, 1, 8, [.dead], none⟩
 .nil)))) 153 ⟨.other, 1, 8, [.dead], none⟩
 (.node (.node (.node (.node (.node .nil 154 ⟨.slice 4, 1, 24, [.nils], some (.slice .bool)⟩
 .nil) 155 ⟨.other, 1, 8, [.dead], none⟩
 (.node .nil 156 ⟨.other, 1, 8, [.dead], none⟩
 .nil)) 157 ⟨.other, 1, 8, [.dead], none⟩
 (.node (.node .nil 158 ⟨.arr 5 3, 5, 40, [.p (.int .i64) (0 : Int), .p (.int .i64) (0 : Int), .p (.int .i64) (0 : Int), .p (.int .i64) (0 : Int), .p (.int .i64) (0 : Int)], some (.pair (.int .i64) (.pair (.int .i64) (.pair (.int .i64) (.pair (.int .i64) (.pair (.int .i64) .unit)))))⟩
 .nil) 159 ⟨.arr 5 3, 5, 40, [.p (.int .i64) (0 : Int), .p (.int .i64) (0 : Int), .p (.int .i64) (0 : Int), .p (.int .i64) (0 : Int), .p (.int .i64) (0 : Int)], some (.pair (.int .i64) (.pair (.int .i64) (.pair (.int .i64) (.pair (.int .i64) (.pair (.int .i64) .unit)))))⟩
 (.node .nil 160 ⟨.other, 1, 8, [.dead], none⟩
 .nil))) 161 ⟨.other, 1, 8, [.dead], none⟩
 (.node (.node (.node .nil 162 ⟨.other, 1, 8, [.dead], none⟩
 .nil) 163 ⟨.other, 1, 8, [.dead], none⟩
 (.node .nil 164 ⟨.other, 1, 8, [.dead], none⟩
 .nil)) 165 ⟨.other, 1, 8, [.dead], none⟩
 (.node (.node .nil 166 ⟨.other, 1, 8, [.dead], none⟩
 .nil) 167 ⟨.slice 168, 1, 24, [.nils], some (.slice (.slice .str))⟩
 .nil))) 168 ⟨.slice 9, 1, 24, [.nils], some (.slice .str)⟩
 (.node (.node (.node (.node .nil 169 ⟨.other, 1, 8, [.dead], none⟩
 .nil) 170 ⟨.other, 1, 8, [.dead], none⟩
 (.node .nil 171 ⟨.other, 1, 8, [.dead], none⟩
 .nil)) 172 ⟨.ptr 174, 1, 8, [.kv (.pointer none)], none⟩
 (.node (.node .nil 173 ⟨.struct [(0, 9), (1, 3), (2, 3), (3, 97), (4, 99)], 6, 72, [.p .str ByteArray.empty, .p (.int .i64) (0 : Int), .p (.int .i64) (0 : Int), .nils, .p (.int .i64) (0 : Int), .p (.int .i64) (0 : Int)], some (.pair .str (.pair (.int .i64) (.pair (.int .i64) (.pair (.slice (.pair (.int .i64) (.pair (.int .i64) (.pair (.slice (.int .i64)) .unit)))) (.pair (.pair (.int .i64) (.pair (.int .i64) .unit)) .unit)))))⟩
 .nil) 174 ⟨.struct [(0, 9), (1, 3), (2, 3), (3, 97), (4, 99)], 6, 72, [.p .str ByteArray.empty, .p (.int .i64) (0 : Int), .p (.int .i64) (0 : Int), .nils, .p (.int .i64) (0 : Int), .p (.int .i64) (0 : Int)], some (.pair .str (.pair (.int .i64) (.pair (.int .i64) (.pair (.slice (.pair (.int .i64) (.pair (.int .i64) (.pair (.slice (.int .i64)) .unit)))) (.pair (.pair (.int .i64) (.pair (.int .i64) .unit)) .unit)))))⟩
 (.node .nil 175 ⟨.other, 1, 8, [.dead], none⟩
 .nil))) 176 ⟨.other, 1, 8, [.dead], none⟩
 (.node (.node (.node .nil 177 ⟨.other, 1, 8, [.dead], none⟩
 .nil) 178 ⟨.other, 1, 8, [.dead], none⟩
 (.node .nil 179 ⟨.other, 1, 8, [.dead], none⟩
 .nil)) 180 ⟨.other, 1, 8, [.dead], none⟩
 (.node (.node .nil 181 ⟨.ptr 183, 1, 8, [.kv (.pointer none)], none⟩
 .nil) 182 ⟨.struct [(0, 46), (1, 154)], 2, 48, [.nils, .nils], some (.pair (.slice (.slice (.int .i64))) (.pair (.slice .bool) .unit))⟩
 .nil))))) 183 ⟨.struct [(0, 46), (1, 154)], 2, 48, [.nils, .nils], some (.pair (.slice (.slice (.int .i64))) (.pair (.slice .bool) .unit))⟩
 (.node (.node (.node (.node (.node (.node .nil 184 ⟨.other, 1, 8, [.dead], none⟩
 .nil) 185 ⟨.other, 1, 8, [.dead], none⟩
 (.node .nil 186 ⟨.other, 1, 8, [.dead], none⟩
 .nil)) 187 ⟨.other, 1, 8, [.dead], none⟩
 (.node (.node .nil 188 ⟨.arr 2 23, 2, 48, [.nils, .nils], some (.pair (.slice (.int .i64)) (.pair (.slice (.int .i64)) .unit))⟩
 .nil) 189 ⟨.other, 1, 8, [.dead], none⟩
 (.node .nil 190 ⟨.other, 1, 8, [.dead], none⟩
 .nil))) 191 ⟨.slice 5, 1, 24, [.nils], some (.slice (.int .u8))⟩
 (.node (.node (.node .nil 192 ⟨.int .u64, 1, 8, [.p (.int .u64) (0 : Int)], some (.int .u64)⟩
 .nil) 193 ⟨.map 134 3 (.pair (.pair (.int .i64) (.pair (.int .i64) (.pair (.int .i64) (.pair (.int .i64) .unit)))) (.pair (.int .i64) .unit)), 1, 8, [.kv (.map none)], none⟩
 (.node .nil 194 ⟨.slice 134, 1, 24, [.nils], some (.slice (.pair (.pair (.int .i64) (.pair (.int .i64) (.pair (.int .i64) (.pair (.int .i64) .unit)))) (.pair (.int .i64) .unit)))⟩
 .nil)) 195 ⟨.other, 1, 0, [.dead], none⟩
 (.node (.node .nil 196 ⟨.map 142 23 (.pair (.int .i64) (.pair (.int .i64) .unit)), 1, 8, [.kv (.map none)], none⟩
 .nil) 197 ⟨.slice 142, 1, 24, [.nils], some (.slice (.pair (.int .i64) (.pair (.int .i64) .unit)))⟩
 (.node .nil 198 ⟨.slice 201, 1, 24, [.nils], some (.slice (.pair (.int .i64) (.pair (.int .i64) (.pair (.int .i64) .unit))))⟩
 .nil)))) 199 ⟨.slice 76, 1, 24, [.nils], some (.slice (.slice (.pair (.int .i64) (.pair (.int .i64) (.pair (.int .i64) .unit)))))⟩
 (.node (.node (.node (.node .nil 200 ⟨.struct [(0, 3), (1, 3), (2, 3)], 3, 24, [.p (.int .i64) (0 : Int), .p (.int .i64) (0 : Int), .p (.int .i64) (0 : Int)], some (.pair (.int .i64) (.pair (.int .i64) (.pair (.int .i64) .unit)))⟩
 .nil) 201 ⟨.struct [(0, 3), (1, 3), (2, 3)], 3, 24, [.p (.int .i64) (0 : Int), .p (.int .i64) (0 : Int), .p (.int .i64) (0 : Int)], some (.pair (.int .i64) (.pair (.int .i64) (.pair (.int .i64) .unit)))⟩
 (.node .nil 202 ⟨.other, 1, 8, [.dead], none⟩
 .nil)) 203 ⟨.other, 1, 8, [.dead], none⟩
 (.node (.node .nil 204 ⟨.other, 1, 8, [.dead], none⟩
 .nil) 205 ⟨.other, 1, 8, [.dead], none⟩
 (.node .nil 206 ⟨.map 159 3 (.pair (.int .i64) (.pair (.int .i64) (.pair (.int .i64) (.pair (.int .i64) (.pair (.int .i64) .unit))))), 1, 8, [.kv (.map none)], none⟩
 .nil))) 207 ⟨.slice 159, 1, 24, [.nils], some (.slice (.pair (.int .i64) (.pair (.int .i64) (.pair (.int .i64) (.pair (.int .i64) (.pair (.int .i64) .unit))))))⟩
 (.node (.node (.node .nil 208 ⟨.map 3 3 (.int .i64), 1, 8, [.kv (.map none)], none⟩
 .nil) 209 ⟨.other, 1, 0, [.dead], none⟩
 (.node .nil 210 ⟨.other, 1, 8, [.dead], none⟩
 .nil)) 211 ⟨.other, 1, 8, [.dead], none⟩
 (.node (.node .nil 212 ⟨.other, 1, 8, [.dead], none⟩
 .nil) 213 ⟨.other, 1, 8, [.dead], none⟩
 .nil)))) 214 ⟨.struct [(0, 3), (1, 3), (2, 23)], 3, 40, [.p (.int .i64) (0 : Int), .p (.int .i64) (0 : Int), .nils], some (.pair (.int .i64) (.pair (.int .i64) (.pair (.slice (.int .i64)) .unit)))⟩
 (.node (.node (.node (.node (.node .nil 215 ⟨.struct [(0, 3), (1, 3), (2, 23)], 3, 40, [.p (.int .i64) (0 : Int), .p (.int .i64) (0 : Int), .nils], some (.pair (.int .i64) (.pair (.int .i64) (.pair (.slice (.int .i64)) .unit)))⟩
 .nil) 216 ⟨.other, 1, 8, [.dead], none⟩
 (.node .nil 217 ⟨.other, 1, 8, [.dead], none⟩
 .nil)) 218 ⟨.map 220 3 (.pair (.int .i64) (.pair .str .unit)), 1, 8, [.kv (.map none)], none⟩
 (.node (.node .nil 219 ⟨.struct [(0, 3), (1, 9)], 2, 24, [.p (.int .i64) (0 : Int), .p .str ByteArray.empty], some (.pair (.int .i64) (.pair .str .unit))⟩
 .nil) 220 ⟨.struct [(0, 3), (1, 9)], 2, 24, [.p (.int .i64) (0 : Int), .p .str ByteArray.empty], some (.pair (.int .i64) (.pair .str .unit))⟩
 (.node .nil 221 ⟨.other, 1, 8, [.dead], none⟩
 .nil))) 222 ⟨.other, 1, 8, [.dead], none⟩
 (.node (.node (.node .nil 223 ⟨.int .u32, 1, 4, [.p (.int .u32) (0 : Int)], some (.int .u32)⟩
 .nil) 224 ⟨.other, 1, 0, [.dead], none⟩
 (.node .nil 225 ⟨.other, 1, 8, [.dead], none⟩
 .nil)) 226 ⟨.int .u64, 1, 8, [.p (.int .u64) (0 : Int)], some (.int .u64)⟩
 (.node (.node .nil 227 ⟨.other, 1, 0, [.dead], none⟩
 .nil) 228 ⟨.other, 1, 8, [.dead], none⟩
 .nil))) 229 ⟨.other, 1, 8, [.dead], none⟩
 (.node (.node (.node (.node .nil 230 ⟨.struct [(0, 17), (1, 17), (2, 17), (3, 9)], 4, 40, [.kv (.pointer none), .kv (.pointer none), .kv (.pointer none), .p .str ByteArray.empty], none⟩
 .nil) 231 ⟨.struct [(0, 17), (1, 17), (2, 17), (3, 9)], 4, 40, [.kv (.pointer none), .kv (.pointer none), .kv (.pointer none), .p .str ByteArray.empty], none⟩
 (.node .nil 232 ⟨.arr 0 16, 0, 0, [], none⟩
 .nil)) 233 ⟨.struct [(0, 232)], 0, 0, [], none⟩
 (.node (.node .nil 234 ⟨.struct [(0, 232)], 0, 0, [], none⟩
 .nil) 235 ⟨.int .u8, 1, 1, [.p (.int .u8) (0 : Int)], some (.int .u8)⟩
 (.node .nil 236 ⟨.int .u8, 1, 1, [.p (.int .u8) (0 : Int)], some (.int .u8)⟩
 .nil))) 237 ⟨.other, 1, 8, [.dead], none⟩
 (.node (.node (.node .nil 238 ⟨.ptr 5, 1, 8, [.kv (.pointer none)], none⟩
 .nil) 239 ⟨.int .i32, 1, 4, [.p (.int .i32) (0 : Int)], some (.int .i32)⟩
 (.node .nil 240 ⟨.int .i32, 1, 4, [.p (.int .i32) (0 : Int)], some (.int .i32)⟩
 .nil)) 241 ⟨.struct [(0, 12), (1, 12), (2, 223), (3, 235), (4, 5), (5, 5), (6, 236), (7, 237), (8, 238), (9, 239), (10, 240)], 11, 48, [.p (.int .u64) (0 : Int), .p (.int .u64) (0 : Int), .p (.int .u32) (0 : Int), .p (.int .u8) (0 : Int), .p (.int .u8) (0 : Int), .p (.int .u8) (0 : Int), .p (.int .u8) (0 : Int), .dead, .kv (.pointer none), .p (.int .i32) (0 : Int), .p (.int .i32) (0 : Int)], none⟩
 (.node (.node .nil 242 ⟨.struct [(0, 12), (1, 12), (2, 223), (3, 235), (4, 5), (5, 5), (6, 236), (7, 237), (8, 238), (9, 239), (10, 240)], 11, 48, [.p (.int .u64) (0 : Int), .p (.int .u64) (0 : Int), .p (.int .u32) (0 : Int), .p (.int .u8) (0 : Int), .p (.int .u8) (0 : Int), .p (.int .u8) (0 : Int), .p (.int .u8) (0 : Int), .dead, .kv (.pointer none), .p (.int .i32) (0 : Int), .p (.int .i32) (0 : Int)], none⟩
 .nil) 243 ⟨.other, 1, 8, [.dead], none⟩
 .nil)))))))

end Go.Proofs.YtfkilmmldjajmaaSx
