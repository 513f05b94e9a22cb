import Derived.Test.YtklkcdphcmimoaaSxA
namespace Go.Proofs.YtklkcdphcmimoaaSx
set_option maxRecDepth 100000
def T : TT := (.node (.node (.node (.node (.node (.node (.node (.node (.node .nil 0 ⟨.other, 1, 0, [.dead], none⟩
 .nil) 1 ⟨.other, 1, 8, [.dead], none⟩
 .nil) 2 ⟨.int .i64, 1, 8, [.p (.int .i64) (0 : Int)], some (.int .i64)⟩
 (.node .nil 3 ⟨.int .i64, 1, 8, [.p (.int .i64) (0 : Int)], some (.int .i64)⟩
 .nil)) 4 ⟨.bool, 1, 1, [.cb .ff], some .bool⟩
 (.node (.node .nil 5 ⟨.int .u8, 1, 1, [.p (.int .u8) (0 : Int)], some (.int .u8)⟩
 .nil) 6 ⟨.int .u8, 1, 1, [.p (.int .u8) (0 : Int)], some (.int .u8)⟩
 (.node .nil 7 ⟨.struct [(0, 2), (1, 3), (2, 4), (3, 6)], 4, 24, [.p (.int .i64) (0 : Int), .p (.int .i64) (0 : Int), .cb .ff, .p (.int .u8) (0 : Int)], some (.pair (.int .i64) (.pair (.int .i64) (.pair .bool (.pair (.int .u8) .unit))))⟩
 .nil))) 8 ⟨.struct [(0, 2), (1, 3), (2, 4), (3, 6)], 4, 24, [.p (.int .i64) (0 : Int), .p (.int .i64) (0 : Int), .cb .ff, .p (.int .u8) (0 : Int)], some (.pair (.int .i64) (.pair (.int .i64) (.pair .bool (.pair (.int .u8) .unit))))⟩
 (.node (.node (.node .nil 9 ⟨.str, 1, 16, [.p .str ByteArray.empty], some .str⟩
 .nil) 10 ⟨.str, 1, 16, [.p .str ByteArray.empty], some .str⟩
 (.node .nil 11 ⟨.str, 1, 16, [.p .str ByteArray.empty], some .str⟩
 .nil)) 12 ⟨.int .u64, 1, 8, [.p (.int .u64) (0 : Int)], some (.int .u64)⟩
 (.node (.node .nil 13 ⟨.struct [(0, 9), (1, 12)], 2, 24, [.p .str ByteArray.empty, .p (.int .u64) (0 : Int)], some (.pair .str (.pair (.int .u64) .unit))⟩
 .nil) 14 ⟨.struct [(0, 9), (1, 12)], 2, 24, [.p .str ByteArray.empty, .p (.int .u64) (0 : Int)], some (.pair .str (.pair (.int .u64) .unit))⟩
 (.node .nil 15 ⟨.ptr 250, 1, 8, [.kv (.pointer none)], none⟩
 .nil)))) 16 ⟨.ptr 253, 1, 8, [.kv (.pointer none)], none⟩
 (.node (.node (.node (.node (.node .nil 17 ⟨.ptr 262, 1, 8, [.kv (.pointer none)], none⟩
 .nil) 18 ⟨.struct [(0, 17)], 1, 8, [.kv (.pointer none)], none⟩
 .nil) 19 ⟨.struct [(0, 17)], 1, 8, [.kv (.pointer none)], none⟩
 (.node .nil 20 ⟨.other, 1, 16, [.dead], none⟩
 .nil)) 21 ⟨.int .i32, 1, 4, [.p (.int .i32) (0 : Int)], some (.int .i32)⟩
 (.node (.node .nil 22 ⟨.slice 57, 1, 24, [.nils], some (.slice (.pair (.int .i64) (.pair (.slice (.int .i64)) .unit)))⟩
 .nil) 23 ⟨.struct [(0, 3), (1, 3), (2, 22)], 3, 40, [.p (.int .i64) (0 : Int), .p (.int .i64) (0 : Int), .nils], some (.pair (.int .i64) (.pair (.int .i64) (.pair (.slice (.pair (.int .i64) (.pair (.slice (.int .i64)) .unit))) .unit)))⟩
 (.node .nil 24 ⟨.struct [(0, 3), (1, 3), (2, 22)], 3, 40, [.p (.int .i64) (0 : Int), .p (.int .i64) (0 : Int), .nils], some (.pair (.int .i64) (.pair (.int .i64) (.pair (.slice (.pair (.int .i64) (.pair (.slice (.int .i64)) .unit))) .unit)))⟩
 .nil))) 25 ⟨.int .i64, 1, 8, [.p (.int .i64) (0 : Int)], some (.int .i64)⟩
 (.node (.node (.node .nil 26 ⟨.other, 1, 0, [.dead], none⟩
 .nil) 27 ⟨.other, 1, 8, [.dead], none⟩
 (.node .nil 28 ⟨.other, 1, 8, [.dead], none⟩
 .nil)) 29 ⟨.other, 1, 8, [.dead], none⟩
 (.node (.node .nil 30 ⟨.other, 1, 8, [.dead], none⟩
 .nil) 31 ⟨.slice 32, 1, 24, [.nils], some (.slice (.slice (.int .i64)))⟩
 (.node .nil 32 ⟨.slice 3, 1, 24, [.nils], some (.slice (.int .i64))⟩
 .nil))))) 33 ⟨.struct [(0, 3), (1, 31), (2, 32)], 3, 56, [.p (.int .i64) (0 : Int), .nils, .nils], some (.pair (.int .i64) (.pair (.slice (.slice (.int .i64))) (.pair (.slice (.int .i64)) .unit)))⟩
 (.node (.node (.node (.node (.node (.node .nil 34 ⟨.struct [(0, 3), (1, 31), (2, 32)], 3, 56, [.p (.int .i64) (0 : Int), .nils, .nils], some (.pair (.int .i64) (.pair (.slice (.slice (.int .i64))) (.pair (.slice (.int .i64)) .unit)))⟩
 .nil) 35 ⟨.other, 1, 8, [.dead], none⟩
 .nil) 36 ⟨.other, 1, 8, [.dead], none⟩
 (.node .nil 37 ⟨.other, 1, 8, [.dead], none⟩
 .nil)) 38 ⟨.other, 1, 8, [.dead], none⟩
 (.node (.node .nil 39 ⟨.slice 133, 1, 24, [.nils], some (.slice (.pair (.int .i64) (.pair (.int .i64) (.pair (.int .i64) .unit))))⟩
 .nil) 40 ⟨.struct [(0, 3), (1, 3), (2, 39)], 3, 40, [.p (.int .i64) (0 : Int), .p (.int .i64) (0 : Int), .nils], some (.pair (.int .i64) (.pair (.int .i64) (.pair (.slice (.pair (.int .i64) (.pair (.int .i64) (.pair (.int .i64) .unit)))) .unit)))⟩
 (.node .nil 41 ⟨.struct [(0, 3), (1, 3), (2, 39)], 3, 40, [.p (.int .i64) (0 : Int), .p (.int .i64) (0 : Int), .nils], some (.pair (.int .i64) (.pair (.int .i64) (.pair (.slice (.pair (.int .i64) (.pair (.int .i64) (.pair (.int .i64) .unit)))) .unit)))⟩
 .nil))) 42 ⟨.slice 138, 1, 24, [.nils], some (.slice (.pair (.int .i64) (.pair (.int .i64) (.pair (.int .i64) (.pair (.int .i64) .unit)))))⟩
 (.node (.node (.node .nil 43 ⟨.other, 1, 8, [.dead], none⟩
 .nil) 44 ⟨.other, 1, 8, [.dead], none⟩
 (.node .nil 45 ⟨.slice 4, 1, 24, [.nils], some (.slice .bool)⟩
 .nil)) 46 ⟨.other, 1, 0, [.dead], none⟩
 (.node (.node .nil 47 ⟨.other, 1, 8, [.dead], none⟩
 .nil) 48 ⟨.other, 1, 8, [.dead], none⟩
 (.node .nil 49 ⟨.other, 1, 8, [.dead], none⟩
 .nil)))) 50 ⟨.other, 1, 8, [.dead], none⟩
 (.node (.node (.node (.node .nil 51 ⟨.struct [(0, 3), (1, 3), (2, 31), (3, 32)], 4, 64, [.p (.int .i64) (0 : Int), .p (.int .i64) (0 : Int), .nils, .nils], some (.pair (.int .i64) (.pair (.int .i64) (.pair (.slice (.slice (.int .i64))) (.pair (.slice (.int .i64)) .unit))))⟩
 .nil) 52 ⟨.struct [(0, 3), (1, 3), (2, 31), (3, 32)], 4, 64, [.p (.int .i64) (0 : Int), .p (.int .i64) (0 : Int), .nils, .nils], some (.pair (.int .i64) (.pair (.int .i64) (.pair (.slice (.slice (.int .i64))) (.pair (.slice (.int .i64)) .unit))))⟩
 (.node .nil 53 ⟨.other, 1, 0, [.dead], none⟩
 .nil)) 54 ⟨.other, 1, 8, [.dead], none⟩
 (.node (.node .nil 55 ⟨.other, 1, 8, [.dead], none⟩
 .nil) 56 ⟨.struct [(0, 3), (1, 32)], 2, 32, [.p (.int .i64) (0 : Int), .nils], some (.pair (.int .i64) (.pair (.slice (.int .i64)) .unit))⟩
 (.node .nil 57 ⟨.struct [(0, 3), (1, 32)], 2, 32, [.p (.int .i64) (0 : Int), .nils], some (.pair (.int .i64) (.pair (.slice (.int .i64)) .unit))⟩
 .nil))) 58 ⟨.other, 1, 0, [.dead], none⟩
 (.node (.node (.node .nil 59 ⟨.other, 1, 8, [.dead], none⟩
 .nil) 60 ⟨.other, 1, 8, [.dead], none⟩
 (.node .nil 61 ⟨.struct [(0, 3), (1, 31), (2, 31)], 3, 56, [.p (.int .i64) (0 : Int), .nils, .nils], some (.pair (.int .i64) (.pair (.slice (.slice (.int .i64))) (.pair (.slice (.slice (.int .i64))) .unit)))⟩
 .nil)) 62 ⟨.struct [(0, 3), (1, 31), (2, 31)], 3, 56, [.p (.int .i64) (0 : Int), .nils, .nils], some (.pair (.int .i64) (.pair (.slice (.slice (.int .i64))) (.pair (.slice (.slice (.int .i64))) .unit)))⟩
 (.node (.node .nil 63 ⟨.other, 1, 8, [.dead], none⟩
 .nil) 64 ⟨.other, 1, 0, [.dead], none⟩
 (.node .nil 65 ⟨.other, 1, 8, [.dead], none⟩
 .nil)))))) 66 ⟨.other, 1, 8, [.dead], none⟩
 (.node (.node (.node (.node (.node (.node (.node .nil 67 ⟨.other, 1, 8, [.dead], none⟩
 .nil) 68 ⟨.other, 1, 8, [.dead], none⟩
 .nil) 69 ⟨.other, 1, 8, [.dead], none⟩
 (.node .nil 70 ⟨.struct [(0, 25), (1, 3)], 2, 16, [.p (.int .i64) (0 : Int), .p (.int .i64) (0 : Int)], some (.pair (.int .i64) (.pair (.int .i64) .unit))⟩
 .nil)) 71 ⟨.struct [(0, 25), (1, 3)], 2, 16, [.p (.int .i64) (0 : Int), .p (.int .i64) (0 : Int)], some (.pair (.int .i64) (.pair (.int .i64) .unit))⟩
 (.node (.node .nil 72 ⟨.other, 1, 8, [.dead], none⟩
 .nil) 73 ⟨.slice 212, 1, 24, [.nils], some (.slice (.pair (.int .u8) (.pair .bool (.pair (.int .i64) (.pair (.int .i64) (.pair (.int .i64) .unit))))))⟩
 (.node .nil 74 ⟨.other, 1, 0, [.dead], none⟩
 .nil))) 75 ⟨.other, 1, 8, [.dead], none⟩
 (.node (.node (.node .nil 76 ⟨.other, 1, 8, [.dead], none⟩
 .nil) 77 ⟨.other, 1, 0, [.dead], none⟩
 (.node .nil 78 ⟨.other, 1, 8, [.dead], none⟩
 .nil)) 79 ⟨.other, 1, 8, [.dead], none⟩
 (.node (.node .nil 80 ⟨.other, 1, 8, [.dead], none⟩
 .nil) 81 ⟨.other, 1, 8, [.dead], none⟩
 (.node .nil 82 ⟨.other, 1, 8, [.dead], none⟩
 .nil)))) 83 ⟨.other, 1, 0, [.dead], none⟩
 (.node (.node (.node (.node .nil 84 ⟨.other, 1, 8, [.dead], none⟩
 .nil) 85 ⟨.other, 1, 8, [.dead], none⟩
 (.node .nil 86 ⟨.other, 1, 0, [.dead], none⟩
 .nil)) 87 ⟨.other, 1, 8, [.dead], none⟩
 (.node (.node .nil 88 ⟨.other, 1, 8, [.dead], none⟩
 .nil) 89 ⟨.other, 1, 8, [.dead], none⟩
 (.node .nil 90 ⟨.other, 1, 8, [.dead], none⟩
 .nil))) 91 ⟨.other, 1, 8, [.dead], none⟩
 (.node (.node (.node .nil 92 ⟨.slice 31, 1, 24, [.nils], some (.slice (.slice (.slice (.int .i64))))⟩
 .nil) 93 ⟨.struct [(0, 3), (1, 3), (2, 3), (3, 32), (4, 31), (5, 92), (6, 31)], 7, 120, [.p (.int .i64) (0 : Int), .p (.int .i64) (0 : Int), .p (.int .i64) (0 : Int), .nils, .nils, .nils, .nils], some (.pair (.int .i64) (.pair (.int .i64) (.pair (.int .i64) (.pair (.slice (.int .i64)) (.pair (.slice (.slice (.int .i64))) (.pair (.slice (.slice (.slice (.int .i64)))) (.pair (.slice (.slice (.int .i64))) .unit)))))))⟩
 (.node .nil 94 ⟨.struct [(0, 3), (1, 3), (2, 3), (3, 32), (4, 31), (5, 92), (6, 31)], 7, 120, [.p (.int .i64) (0 : Int), .p (.int .i64) (0 : Int), .p (.int .i64) (0 : Int), .nils, .nils, .nils, .nils], some (.pair (.int .i64) (.pair (.int .i64) (.pair (.int .i64) (.pair (.slice (.int .i64)) (.pair (.slice (.slice (.int .i64))) (.pair (.slice (.slice (.slice (.int .i64)))) (.pair (.slice (.slice (.int .i64))) .unit)))))))⟩
 .nil)) 95 ⟨.other, 1, 8, [.dead], none⟩
 (.node (.node .nil 96 ⟨.other, 1, 8, [.dead], none⟩
 .nil) 97 ⟨.other, 1, 8, [.dead], none⟩
 (.node .nil 98 ⟨.other, 1, 8, [.dead], none⟩
 .nil))))) 99 ⟨.slice 172, 1, 24, [.nils], some (.slice (.pair (.int .i64) (.pair (.int .i64) (.pair (.int .i64) (.pair (.int .i64) .unit)))))⟩
 (.node (.node (.node (.node (.node (.node .nil 100 ⟨.struct [(0, 3), (1, 3), (2, 99), (3, 3), (4, 32)], 5, 72, [.p (.int .i64) (0 : Int), .p (.int .i64) (0 : Int), .nils, .p (.int .i64) (0 : Int), .nils], some (.pair (.int .i64) (.pair (.int .i64) (.pair (.slice (.pair (.int .i64) (.pair (.int .i64) (.pair (.int .i64) (.pair (.int .i64) .unit))))) (.pair (.int .i64) (.pair (.slice (.int .i64)) .unit)))))⟩
 .nil) 101 ⟨.struct [(0, 3), (1, 3), (2, 99), (3, 3), (4, 32)], 5, 72, [.p (.int .i64) (0 : Int), .p (.int .i64) (0 : Int), .nils, .p (.int .i64) (0 : Int), .nils], some (.pair (.int .i64) (.pair (.int .i64) (.pair (.slice (.pair (.int .i64) (.pair (.int .i64) (.pair (.int .i64) (.pair (.int .i64) .unit))))) (.pair (.int .i64) (.pair (.slice (.int .i64)) .unit)))))⟩
 .nil) 102 ⟨.other, 1, 8, [.dead], none⟩
 (.node .nil 103 ⟨.slice 175, 1, 24, [.nils], some (.slice (.pair (.int .i64) (.pair (.int .i64) (.pair (.int .i64) .unit))))⟩
 .nil)) 104 ⟨.struct [(0, 103)], 1, 24, [.nils], some (.pair (.slice (.pair (.int .i64) (.pair (.int .i64) (.pair (.int .i64) .unit)))) .unit)⟩
 (.node (.node .nil 105 ⟨.struct [(0, 103)], 1, 24, [.nils], some (.pair (.slice (.pair (.int .i64) (.pair (.int .i64) (.pair (.int .i64) .unit)))) .unit)⟩
 .nil) 106 ⟨.other, 1, 0, [.dead], none⟩
 (.node .nil 107 ⟨.other, 1, 8, [.dead], none⟩
 .nil))) 108 ⟨.other, 1, 8, [.dead], none⟩
 (.node (.node (.node .nil 109 ⟨.other, 1, 8, [.dead], none⟩
 .nil) 110 ⟨.other, 1, 8, [.dead], none⟩
 (.node .nil 111 ⟨.other, 1, 8, [.dead], none⟩
 .nil)) 112 ⟨.other, 1, 8, [.dead], none⟩
 (.node (.node .nil 113 ⟨.other, 1, 8, [.dead], none⟩
 .nil) 114 ⟨.other, 1, 8, [.dead], none⟩
 (.node .nil 115 ⟨.other, 1, 8, [.dead], none⟩
 .nil)))) 116 ⟨.slice 243, 1, 24, [.nils], some (.slice (.pair (.int .u8) (.pair (.int .i64) (.pair (.int .i64) .unit))))⟩
 (.node (.node (.node (.node .nil 117 ⟨.other, 1, 0, [.dead], none⟩
 .nil) 118 ⟨.other, 1, 8, [.dead], none⟩
 (.node .nil 119 ⟨.slice 120, 1, 24, [.nils], none⟩
 .nil)) 120 ⟨.slice 121, 1, 24, [.nils], none⟩
 (.node (.node .nil 121 ⟨.map 9 3 .str, 1, 8, [.kv (.map none)], none⟩
 .nil) 122 ⟨.other, 1, 8, [.dead], none⟩
 (.node .nil 123 ⟨.other, 1, 8, [.dead], none⟩
 .nil))) 124 ⟨.other, 1, 8, [.dead], none⟩
 (.node (.node (.node .nil 125 ⟨.other, 1, 8, [.dead], none⟩
 .nil) 126 ⟨.other, 1, 8, [.dead], none⟩
 (.node .nil 127 ⟨.other, 1, 8, [.dead], none⟩
 .nil)) 128 ⟨.other, 1, 8, [.dead], none⟩
 (.node (.node .nil 129 ⟨.other, 1, 8, [.dead], none⟩
 .nil) 130 ⟨.other, 1, 8, [.dead], none⟩
 (.node .nil 131 ⟨.other, 1, 8, [.dead], none⟩
 .nil))))))) 132 ⟨.struct [(0, 3), (1, 3), (2, 3)], 3, 24, [.p (.int .i64) (0 : Int), .p (.int .i64) (0 : Int), .p (.int .i64) (0 : Int)], some (.pair (.int .i64) (.pair (.int .i64) (.pair (.int .i64) .unit)))⟩
 (.node (.node (.node (.node (.node (.node (.node (.node .nil 133 ⟨.struct [(0, 3), (1, 3), (2, 3)], 3, 24, [.p (.int .i64) (0 : Int), .p (.int .i64) (0 : Int), .p (.int .i64) (0 : Int)], some (.pair (.int .i64) (.pair (.int .i64) (.pair (.int .i64) .unit)))⟩
 .nil) 134 ⟨.other, 1, 8, [.dead], none⟩
 .nil) 135 ⟨.other, 1, 8, [.dead], none⟩
 (.node .nil 136 ⟨.other, 1, 8, [.dead], none⟩
 .nil)) 137 ⟨.struct [(0, 3), (1, 3), (2, 3), (3, 3)], 4, 32, [.p (.int .i64) (0 : Int), .p (.int .i64) (0 : Int), .p (.int .i64) (0 : Int), .p (.int .i64) (0 : Int)], some (.pair (.int .i64) (.pair (.int .i64) (.pair (.int .i64) (.pair (.int .i64) .unit))))⟩
 (.node (.node .nil 138 ⟨.struct [(0, 3), (1, 3), (2, 3), (3, 3)], 4, 32, [.p (.int .i64) (0 : Int), .p (.int .i64) (0 : Int), .p (.int .i64) (0 : Int), .p (.int .i64) (0 : Int)], some (.pair (.int .i64) (.pair (.int .i64) (.pair (.int .i64) (.pair (.int .i64) .unit))))⟩
 .nil) 139 ⟨.other, 1, 8, [.dead], none⟩
 (.node .nil 140 ⟨.slice 45, 1, 24, [.nils], some (.slice (.slice .bool))⟩
 .nil))) 141 ⟨.other, 1, 8, [.dead], none⟩
 (.node (.node (.node .nil 142 ⟨.ptr 194, 1, 8, [.kv (.pointer none)], none⟩
 .nil) 143 ⟨.other, 1, 8, [.dead], none⟩
 (.node .nil 144 ⟨.other, 1, 8, [.dead], none⟩
 .nil)) 145 ⟨.other, 1, 8, [.dead], none⟩
 (.node (.node .nil 146 ⟨.other, 1, 8, [.dead], none⟩
 .nil) 147 ⟨.other, 1, 8, [.dead], none⟩
 (.node .nil 148 ⟨.other, 1, 8, [.dead], none⟩
 .nil)))) 149 ⟨.other, 1, 8, [.dead], none⟩
 (.node (.node (.node (.node (.node .nil 150 ⟨.other, 1, 8, [.dead], none⟩
 .nil) 151 ⟨.other, 1, 8, [.dead], none⟩
 .nil) 152 ⟨.other, 1, 8, [.dead], none⟩
 (.node .nil 153 ⟨.ptr 237, 1, 8, [.kv (.pointer none)], none⟩
 .nil)) 154 ⟨.other, 1, 0, [.dead], none⟩
 (.node (.node .nil 155 ⟨.other, 1, 8, [.dead], none⟩
 .nil) 156 ⟨.ptr 158, 1, 8, [.kv (.pointer none)], none⟩
 (.node .nil 157 ⟨.struct [(0, 9), (1, 3), (2, 3), (3, 3), (4, 73), (5, 71)], 7, 80, [.p .str ByteArray.empty, .p (.int .i64) (0 : Int), .p (.int .i64) (0 : Int), .p (.int .i64) (0 : Int), .nils, .p (.int .i64) (0 : Int), .p (.int .i64) (0 : Int)], some (.pair .str (.pair (.int .i64) (.pair (.int .i64) (.pair (.int .i64) (.pair (.slice (.pair (.int .u8) (.pair .bool (.pair (.int .i64) (.pair (.int .i64) (.pair (.int .i64) .unit)))))) (.pair (.pair (.int .i64) (.pair (.int .i64) .unit)) .unit))))))⟩
 .nil))) 158 ⟨.struct [(0, 9), (1, 3), (2, 3), (3, 3), (4, 73), (5, 71)], 7, 80, [.p .str ByteArray.empty, .p (.int .i64) (0 : Int), .p (.int .i64) (0 : Int), .p (.int .i64) (0 : Int), .nils, .p (.int .i64) (0 : Int), .p (.int .i64) (0 : Int)], some (.pair .str (.pair (.int .i64) (.pair (.int .i64) (.pair (.int .i64) (.pair (.slice (.pair (.int .u8) (.pair .bool (.pair (.int .i64) (.pair (.int .i64) (.pair (.int .i64) .unit)))))) (.pair (.pair (.int .i64) (.pair (.int .i64) .unit)) .unit))))))⟩
 (.node (.node (.node .nil 159 ⟨.other, 1, 8, [.dead], none⟩
 .nil) 160 ⟨.other, 1, 8, [.dead], none⟩
 (.node .nil 161 ⟨.struct [(0, 32), (1, 32), (2, 32), (3, 32)], 4, 96, [.nils, .nils, .nils, .nils], some (.pair (.slice (.int .i64)) (.pair (.slice (.int .i64)) (.pair (.slice (.int .i64)) (.pair (.slice (.int .i64)) .unit))))⟩
 .nil)) 162 ⟨.struct [(0, 32), (1, 32), (2, 32), (3, 32)], 4, 96, [.nils, .nils, .nils, .nils], some (.pair (.slice (.int .i64)) (.pair (.slice (.int .i64)) (.pair (.slice (.int .i64)) (.pair (.slice (.int .i64)) .unit))))⟩
 (.node (.node .nil 163 ⟨.other, 1, 0, [.dead], none⟩
 .nil) 164 ⟨.other, 1, 8, [.dead], none⟩
 (.node .nil 165 ⟨.other, 1, 8, [.dead], none⟩
 .nil))))) 166 ⟨.other, 1, 8, [.dead], none⟩
 (.node (.node (.node (.node (.node (.node .nil 167 ⟨.other, 1, 8, [.dead], none⟩
 .nil) 168 ⟨.other, 1, 8, [.dead], none⟩
 .nil) 169 ⟨.other, 1, 8, [.dead], none⟩
 (.node .nil 170 ⟨.other, 1, 8, [.dead], none⟩
 .nil)) 171 ⟨.struct [(0, 3), (1, 3), (2, 3), (3, 3)], 4, 32, [.p (.int .i64) (0 : Int), .p (.int .i64) (0 : Int), .p (.int .i64) (0 : Int), .p (.int .i64) (0 : Int)], some (.pair (.int .i64) (.pair (.int .i64) (.pair (.int .i64) (.pair (.int .i64) .unit))))⟩
 (.node (.node .nil 172 ⟨.struct [(0, 3), (1, 3), (2, 3), (3, 3)], 4, 32, [.p (.int .i64) (0 : Int), .p (.int .i64) (0 : Int), .p (.int .i64) (0 : Int), .p (.int .i64) (0 : Int)], some (.pair (.int .i64) (.pair (.int .i64) (.pair (.int .i64) (.pair (.int .i64) .unit))))⟩
 .nil) 173 ⟨.other, 1, 8, [.dead], none⟩
 (.node .nil 174 ⟨.struct [(0, 3), (1, 3), (2, 3)], 3, 24, [.p (.int .i64) (0 : Int), .p (.int .i64) (0 : Int), .p (.int .i64) (0 : Int)], some (.pair (.int .i64) (.pair (.int .i64) (.pair (.int .i64) .unit)))⟩
 .nil))) 175 ⟨.struct [(0, 3), (1, 3), (2, 3)], 3, 24, [.p (.int .i64) (0 : Int), .p (.int .i64) (0 : Int), .p (.int .i64) (0 : Int)], some (.pair (.int .i64) (.pair (.int .i64) (.pair (.int .i64) .unit)))⟩
 (.node (.node (.node .nil 176 ⟨.ptr 178, 1, 8, [.kv (.pointer none)], none⟩
 .nil) 177 ⟨.struct [(0, 24), (3, 32), (4, 92)], 5, 88, [.p (.int .i64) (0 : Int), .p (.int .i64) (0 : Int), .nils, .nils, .nils], some (.pair (.pair (.int .i64) (.pair (.int .i64) (.pair (.slice (.pair (.int .i64) (.pair (.slice (.int .i64)) .unit))) .unit))) (.pair (.slice (.int .i64)) (.pair (.slice (.slice (.slice (.int .i64)))) .unit)))⟩
 (.node .nil 178 ⟨.struct [(0, 24), (3, 32), (4, 92)], 5, 88, [.p (.int .i64) (0 : Int), .p (.int .i64) (0 : Int), .nils, .nils, .nils], some (.pair (.pair (.int .i64) (.pair (.int .i64) (.pair (.slice (.pair (.int .i64) (.pair (.slice (.int .i64)) .unit))) .unit))) (.pair (.slice (.int .i64)) (.pair (.slice (.slice (.slice (.int .i64)))) .unit)))⟩
 .nil)) 179 ⟨.other, 1, 8, [.dead], none⟩
 (.node (.node .nil 180 ⟨.slice 241, 1, 24, [.nils], some (.slice (.pair (.int .i64) (.pair (.int .i64) (.pair (.int .i64) .unit))))⟩
 .nil) 181 ⟨.other, 1, 0, [.dead], none⟩
 (.node .nil 182 ⟨.other, 1, 8, [.dead], none⟩
 .nil)))) 183 ⟨.ptr 185, 1, 8, [.kv (.pointer none)], none⟩
 (.node (.node (.node (.node .nil 184 ⟨.struct [(0, 9), (1, 3), (2, 3), (3, 3), (4, 3), (5, 116), (6, 71)], 8, 88, [.p .str ByteArray.empty, .p (.int .i64) (0 : Int), .p (.int .i64) (0 : Int), .p (.int .i64) (0 : Int), .p (.int .i64) (0 : Int), .nils, .p (.int .i64) (0 : Int), .p (.int .i64) (0 : Int)], some (.pair .str (.pair (.int .i64) (.pair (.int .i64) (.pair (.int .i64) (.pair (.int .i64) (.pair (.slice (.pair (.int .u8) (.pair (.int .i64) (.pair (.int .i64) .unit)))) (.pair (.pair (.int .i64) (.pair (.int .i64) .unit)) .unit)))))))⟩
 .nil) 185 ⟨.struct [(0, 9), (1, 3), (2, 3), (3, 3), (4, 3), (5, 116), (6, 71)], 8, 88, [.p .str ByteArray.empty, .p (.int .i64) (0 : Int), .p (.int .i64) (0 : Int), .p (.int .i64) (0 : Int), .p (.int .i64) (0 : Int), .nils, .p (.int .i64) (0 : Int), .p (.int .i64) (0 : Int)], some (.pair .str (.pair (.int .i64) (.pair (.int .i64) (.pair (.int .i64) (.pair (.int .i64) (.pair (.slice (.pair (.int .u8) (.pair (.int .i64) (.pair (.int .i64) .unit)))) (.pair (.pair (.int .i64) (.pair (.int .i64) .unit)) .unit)))))))⟩
 (.node .nil 186 ⟨.slice 5, 1, 24, [.nils], some (.slice (.int .u8))⟩
 .nil)) 187 ⟨.int .u64, 1, 8, [.p (.int .u64) (0 : Int)], some (.int .u64)⟩
 (.node (.node .nil 188 ⟨.other, 1, 8, [.dead], none⟩
 .nil) 189 ⟨.other, 1, 8, [.dead], none⟩
 (.node .nil 190 ⟨.other, 1, 8, [.dead], none⟩
 .nil))) 191 ⟨.map 197 3 (.pair (.int .i64) (.pair (.int .i64) (.pair (.int .i64) .unit))), 1, 8, [.kv (.map none)], none⟩
 (.node (.node (.node .nil 192 ⟨.map 197 199 (.pair (.int .i64) (.pair (.int .i64) (.pair (.int .i64) .unit))), 1, 8, [.kv (.map none)], none⟩
 .nil) 193 ⟨.struct [(0, 24), (3, 32), (4, 191), (5, 192)], 6, 80, [.p (.int .i64) (0 : Int), .p (.int .i64) (0 : Int), .nils, .nils, .kv (.map none), .kv (.map none)], none⟩
 (.node .nil 194 ⟨.struct [(0, 24), (3, 32), (4, 191), (5, 192)], 6, 80, [.p (.int .i64) (0 : Int), .p (.int .i64) (0 : Int), .nils, .nils, .kv (.map none), .kv (.map none)], none⟩
 .nil)) 195 ⟨.other, 1, 0, [.dead], none⟩
 (.node (.node .nil 196 ⟨.other, 1, 8, [.dead], none⟩
 .nil) 197 ⟨.arr 3 3, 3, 24, [.p (.int .i64) (0 : Int), .p (.int .i64) (0 : Int), .p (.int .i64) (0 : Int)], some (.pair (.int .i64) (.pair (.int .i64) (.pair (.int .i64) .unit)))⟩
 (.node .nil 198 ⟨.struct [(0, 3), (1, 32)], 2, 32, [.p (.int .i64) (0 : Int), .nils], some (.pair (.int .i64) (.pair (.slice (.int .i64)) .unit))⟩
 .nil)))))) 199 ⟨.struct [(0, 3), (1, 32)], 2, 32, [.p (.int .i64) (0 : Int), .nils], some (.pair (.int .i64) (.pair (.slice (.int .i64)) .unit))⟩
 (.node (.node (.node (.node (.node (.node (.node .nil 200 ⟨.other, 1, 8, [.dead], none⟩
 .nil) 201 ⟨.other, 1, 8, [.dead], none⟩
 .nil) 202 ⟨.struct [(0, 71)], 2, 16, [.p (.int .i64) (0 : Int), .p (.int .i64) (0 : Int)], some (.pair (.pair (.int .i64) (.pair (.int .i64) .unit)) .unit)⟩
 (.node .nil 203 ⟨.struct [(0, 71)], 2, 16, [.p (.int .i64) (0 : Int), .p (.int .i64) (0 : Int)], some (.pair (.pair (.int .i64) (.pair (.int .i64) .unit)) .unit)⟩
 .nil)) 204 ⟨.ptr 206, 1, 8, [.kv (.pointer none)], none⟩
 (.node (.node .nil 205 ⟨.struct [(0, 9), (1, 3), (2, 3), (3, 3)], 4, 40, [.p .str ByteArray.empty, .p (.int .i64) (0 : Int), .p (.int .i64) (0 : Int), .p (.int .i64) (0 : Int)], some (.pair .str (.pair (.int .i64) (.pair (.int .i64) (.pair (.int .i64) .unit))))⟩
 .nil) 206 ⟨.struct [(0, 9), (1, 3), (2, 3), (3, 3)], 4, 40, [.p .str ByteArray.empty, .p (.int .i64) (0 : Int), .p (.int .i64) (0 : Int), .p (.int .i64) (0 : Int)], some (.pair .str (.pair (.int .i64) (.pair (.int .i64) (.pair (.int .i64) .unit))))⟩
 (.node .nil 207 ⟨.other, 1, 8, [.dead], none⟩
 .nil))) 208 ⟨.other, 1, 8, [.dead], none⟩
 (.node (.node (.node .nil 209 ⟨.other, 1, 8, [.dead], none⟩
 .nil) 210 ⟨.other, 1, 8, [.dead], none⟩
 (.node .nil 211 ⟨.struct [(0, 5), (1, 4), (2, 3), (3, 3), (4, 3)], 5, 32, [.p (.int .u8) (0 : Int), .cb .ff, .p (.int .i64) (0 : Int), .p (.int .i64) (0 : Int), .p (.int .i64) (0 : Int)], some (.pair (.int .u8) (.pair .bool (.pair (.int .i64) (.pair (.int .i64) (.pair (.int .i64) .unit)))))⟩
 .nil)) 212 ⟨.struct [(0, 5), (1, 4), (2, 3), (3, 3), (4, 3)], 5, 32, [.p (.int .u8) (0 : Int), .cb .ff, .p (.int .i64) (0 : Int), .p (.int .i64) (0 : Int), .p (.int .i64) (0 : Int)], some (.pair (.int .u8) (.pair .bool (.pair (.int .i64) (.pair (.int .i64) (.pair (.int .i64) .unit)))))⟩
 (.node (.node .nil 213 ⟨.other, 1, 8, [.dead], none⟩
 .nil) 214 ⟨.other, 1, 8, [.dead], none⟩
 (.node .nil 215 ⟨.slice 162, 1, 24, [.nils], some (.slice (.pair (.slice (.int .i64)) (.pair (.slice (.int .i64)) (.pair (.slice (.int .i64)) (.pair (.slice (.int .i64)) .unit)))))⟩
 .nil)))) 216 ⟨.other, 1, 8, [.dead], none⟩
 (.node (.node (.node (.node .nil 217 ⟨.other, 1, 8, [.dead], none⟩
 .nil) 218 ⟨.other, 1, 8, [.dead], none⟩
 (.node .nil 219 ⟨.other, 1, 0, [.dead], none⟩
 .nil)) 220 ⟨.other, 1, 8, [.dead], none⟩
 (.node (.node .nil 221 ⟨.other, 1, 8, [.dead], none⟩
 .nil) 222 ⟨.other, 1, 8, [.dead], none⟩
 (.node .nil 223 ⟨.other, 1, 0, [.dead], none⟩
 .nil))) 224 ⟨.other, 1, 8, [.dead], none⟩
 (.node (.node (.node .nil 225 ⟨.other, 1, 8, [.dead], none⟩
 .nil) 226 ⟨.ptr 105, 1, 8, [.kv (.pointer none)], none⟩
 (.node .nil 227 ⟨.struct [(0, 71)], 2, 16, [.p (.int .i64) (0 : Int), .p (.int .i64) (0 : Int)], some (.pair (.pair (.int .i64) (.pair (.int .i64) .unit)) .unit)⟩
 .nil)) 228 ⟨.struct [(0, 71)], 2, 16, [.p (.int .i64) (0 : Int), .p (.int .i64) (0 : Int)], some (.pair (.pair (.int .i64) (.pair (.int .i64) .unit)) .unit)⟩
 (.node (.node .nil 229 ⟨.ptr 231, 1, 8, [.kv (.pointer none)], none⟩
 .nil) 230 ⟨.struct [(0, 9), (1, 3), (2, 3), (3, 3), (4, 3), (5, 180)], 6, 72, [.p .str ByteArray.empty, .p (.int .i64) (0 : Int), .p (.int .i64) (0 : Int), .p (.int .i64) (0 : Int), .p (.int .i64) (0 : Int), .nils], some (.pair .str (.pair (.int .i64) (.pair (.int .i64) (.pair (.int .i64) (.pair (.int .i64) (.pair (.slice (.pair (.int .i64) (.pair (.int .i64) (.pair (.int .i64) .unit)))) .unit))))))⟩
 (.node .nil 231 ⟨.struct [(0, 9), (1, 3), (2, 3), (3, 3), (4, 3), (5, 180)], 6, 72, [.p .str ByteArray.empty, .p (.int .i64) (0 : Int), .p (.int .i64) (0 : Int), .p (.int .i64) (0 : Int), .p (.int .i64) (0 : Int), .nils], some (.pair .str (.pair (.int .i64) (.pair (.int .i64) (.pair (.int .i64) (.pair (.int .i64) (.pair (.slice (.pair (.int .i64) (.pair (.int .i64) (.pair (.int .i64) .unit)))) .unit))))))⟩
 .nil))))) 232 ⟨.other, 1, 8, [.dead], none⟩
 (.node (.node (.node (.node (.node (.node .nil 233 ⟨.other, 1, 8, [.dead], none⟩
 .nil) 234 ⟨.other, 1, 8, [.dead], none⟩
 .nil) 235 ⟨.slice 153, 1, 24, [.nils], none⟩
 (.node .nil 236 ⟨.struct [(0, 5), (1, 4), (2, 3), (3, 235)], 4, 40, [.p (.int .u8) (0 : Int), .cb .ff, .p (.int .i64) (0 : Int), .nils], none⟩
 .nil)) 237 ⟨.struct [(0, 5), (1, 4), (2, 3), (3, 235)], 4, 40, [.p (.int .u8) (0 : Int), .cb .ff, .p (.int .i64) (0 : Int), .nils], none⟩
 (.node (.node .nil 238 ⟨.other, 1, 8, [.dead], none⟩
 .nil) 239 ⟨.other, 1, 8, [.dead], none⟩
 (.node .nil 240 ⟨.struct [(0, 3), (1, 3), (2, 3)], 3, 24, [.p (.int .i64) (0 : Int), .p (.int .i64) (0 : Int), .p (.int .i64) (0 : Int)], some (.pair (.int .i64) (.pair (.int .i64) (.pair (.int .i64) .unit)))⟩
 .nil))) 241 ⟨.struct [(0, 3), (1, 3), (2, 3)], 3, 24, [.p (.int .i64) (0 : Int), .p (.int .i64) (0 : Int), .p (.int .i64) (0 : Int)], some (.pair (.int .i64) (.pair (.int .i64) (.pair (.int .i64) .unit)))⟩
 (.node (.node (.node .nil 242 ⟨.struct [(0, 5), (1, 3), (2, 3)], 3, 24, [.p (.int .u8) (0 : Int), .p (.int .i64) (0 : Int), .p (.int .i64) (0 : Int)], some (.pair (.int .u8) (.pair (.int .i64) (.pair (.int .i64) .unit)))⟩
 .nil) 243 ⟨.struct [(0, 5), (1, 3), (2, 3)], 3, 24, [.p (.int .u8) (0 : Int), .p (.int .i64) (0 : Int), .p (.int .i64) (0 : Int)], some (.pair (.int .u8) (.pair (.int .i64) (.pair (.int .i64) .unit)))⟩
 (.node .nil 244 ⟨.other, 1, 8, [.dead], none⟩
 .nil)) 245 ⟨.other, 1, 8, [.dead], none⟩
 (.node (.node .nil 246 ⟨.other, 1, 8, [.dead], none⟩
 .nil) 247 ⟨.other, 1, 8, [.dead], none⟩
 (.node .nil 248 ⟨.other, 1, 8, [.dead], none⟩
 .nil)))) 249 ⟨.struct [(0, 17), (1, 17), (2, 17), (3, 9)], 4, 40, [.kv (.pointer none), .kv (.pointer none), .kv (.pointer none), .p .str ByteArray.empty], none⟩
 (.node (.node (.node (.node .nil 250 ⟨.struct [(0, 17), (1, 17), (2, 17), (3, 9)], 4, 40, [.kv (.pointer none), .kv (.pointer none), .kv (.pointer none), .p .str ByteArray.empty], none⟩
 .nil) 251 ⟨.arr 0 16, 0, 0, [], none⟩
 (.node .nil 252 ⟨.struct [(0, 251)], 0, 0, [], none⟩
 .nil)) 253 ⟨.struct [(0, 251)], 0, 0, [], none⟩
 (.node (.node .nil 254 ⟨.int .u32, 1, 4, [.p (.int .u32) (0 : Int)], some (.int .u32)⟩
 .nil) 255 ⟨.int .u8, 1, 1, [.p (.int .u8) (0 : Int)], some (.int .u8)⟩
 (.node .nil 256 ⟨.int .u8, 1, 1, [.p (.int .u8) (0 : Int)], some (.int .u8)⟩
 .nil))) 257 ⟨.other, 1, 8, [.dead], none⟩
 (.node (.node (.node .nil 258 ⟨.ptr 5, 1, 8, [.kv (.pointer none)], none⟩
 .nil) 259 ⟨.int .i32, 1, 4, [.p (.int .i32) (0 : Int)], some (.int .i32)⟩
 (.node .nil 260 ⟨.int .i32, 1, 4, [.p (.int .i32) (0 : Int)], some (.int .i32)⟩
 .nil)) 261 ⟨.struct [(0, 12), (1, 12), (2, 254), (3, 255), (4, 5), (5, 5), (6, 256), (7, 257), (8, 258), (9, 259), (10, 260)], 11, 48, [.p (.int .u64) (0 : Int), .p (.int .u64) (0 : Int), .p (.int .u32) (0 : Int), .p (.int .u8) (0 : Int), .p (.int .u8) (0 : Int), .p (.int .u8) (0 : Int), .p (.int .u8) (0 : Int), .dead, .kv (.pointer none), .p (.int .i32) (0 : Int), .p (.int .i32) (0 : Int)], none⟩
 (.node (.node .nil 262 ⟨.struct [(0, 12), (1, 12), (2, 254), (3, 255), (4, 5), (5, 5), (6, 256), (7, 257), (8, 258), (9, 259), (10, 260)], 11, 48, [.p (.int .u64) (0 : Int), .p (.int .u64) (0 : Int), .p (.int .u32) (0 : Int), .p (.int .u8) (0 : Int), .p (.int .u8) (0 : Int), .p (.int .u8) (0 : Int), .p (.int .u8) (0 : Int), .dead, .kv (.pointer none), .p (.int .i32) (0 : Int), .p (.int .i32) (0 : Int)], none⟩
 .nil) 263 ⟨.other, 1, 8, [.dead], none⟩
 (.node .nil 264 ⟨.other, 1, 8, [.dead], none⟩
 .nil))))))))
