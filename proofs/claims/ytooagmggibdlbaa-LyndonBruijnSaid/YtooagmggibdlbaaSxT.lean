import Derived.Test.YtooagmggibdlbaaSxA
namespace Go.Proofs.YtooagmggibdlbaaSx
set_option maxRecDepth 100000
def T : TT := (.node (.node (.node (.node (.node (.node .nil 0 ⟨.other, 1, 0, [.dead], none⟩
 .nil) 1 ⟨.other, 1, 8, [.dead], none⟩
 (.node .nil 2 ⟨.int .i64, 1, 8, [.p (.int .i64) (0 : Int)], some (.int .i64)⟩
 .nil)) 3 ⟨.int .i64, 1, 8, [.p (.int .i64) (0 : Int)], some (.int .i64)⟩
 (.node (.node .nil 4 ⟨.bool, 1, 1, [.cb .ff], some .bool⟩
 .nil) 5 ⟨.int .u8, 1, 1, [.p (.int .u8) (0 : Int)], some (.int .u8)⟩
 .nil)) 6 ⟨.int .u8, 1, 1, [.p (.int .u8) (0 : Int)], some (.int .u8)⟩
 (.node (.node (.node .nil 7 ⟨.struct [(0, 2), (1, 3), (2, 4), (3, 6)], 4, 24, [.p (.int .i64) (0 : Int), .p (.int .i64) (0 : Int), .cb .ff, .p (.int .u8) (0 : Int)], some (.pair (.int .i64) (.pair (.int .i64) (.pair .bool (.pair (.int .u8) .unit))))⟩
 .nil) 8 ⟨.struct [(0, 2), (1, 3), (2, 4), (3, 6)], 4, 24, [.p (.int .i64) (0 : Int), .p (.int .i64) (0 : Int), .cb .ff, .p (.int .u8) (0 : Int)], some (.pair (.int .i64) (.pair (.int .i64) (.pair .bool (.pair (.int .u8) .unit))))⟩
 .nil) 9 ⟨.str, 1, 16, [.p .str ByteArray.empty], some .str⟩
 (.node (.node .nil 10 ⟨.str, 1, 16, [.p .str ByteArray.empty], some .str⟩
 .nil) 11 ⟨.str, 1, 16, [.p .str ByteArray.empty], some .str⟩
 .nil))) 12 ⟨.int .u64, 1, 8, [.p (.int .u64) (0 : Int)], some (.int .u64)⟩
 (.node (.node (.node (.node .nil 13 ⟨.struct [(0, 9), (1, 12)], 2, 24, [.p .str ByteArray.empty, .p (.int .u64) (0 : Int)], some (.pair .str (.pair (.int .u64) .unit))⟩
 .nil) 14 ⟨.struct [(0, 9), (1, 12)], 2, 24, [.p .str ByteArray.empty, .p (.int .u64) (0 : Int)], some (.pair .str (.pair (.int .u64) .unit))⟩
 (.node .nil 15 ⟨.ptr 35, 1, 8, [.kv (.pointer none)], none⟩
 .nil)) 16 ⟨.ptr 38, 1, 8, [.kv (.pointer none)], none⟩
 (.node (.node .nil 17 ⟨.ptr 48, 1, 8, [.kv (.pointer none)], none⟩
 .nil) 18 ⟨.struct [(0, 17)], 1, 8, [.kv (.pointer none)], none⟩
 .nil)) 19 ⟨.struct [(0, 17)], 1, 8, [.kv (.pointer none)], none⟩
 (.node (.node (.node .nil 20 ⟨.other, 1, 16, [.dead], none⟩
 .nil) 21 ⟨.int .i32, 1, 4, [.p (.int .i32) (0 : Int)], some (.int .i32)⟩
 .nil) 22 ⟨.slice 3, 1, 24, [.nils], some (.slice (.int .i64))⟩
 (.node (.node .nil 23 ⟨.int .i64, 1, 8, [.p (.int .i64) (0 : Int)], some (.int .i64)⟩
 .nil) 24 ⟨.other, 1, 0, [.dead], none⟩
 .nil)))) 25 ⟨.other, 1, 8, [.dead], none⟩
 (.node (.node (.node (.node (.node .nil 26 ⟨.other, 1, 8, [.dead], none⟩
 .nil) 27 ⟨.other, 1, 8, [.dead], none⟩
 (.node .nil 28 ⟨.other, 1, 8, [.dead], none⟩
 .nil)) 29 ⟨.other, 1, 8, [.dead], none⟩
 (.node (.node .nil 30 ⟨.other, 1, 8, [.dead], none⟩
 .nil) 31 ⟨.other, 1, 8, [.dead], none⟩
 .nil)) 32 ⟨.slice 4, 1, 24, [.nils], some (.slice .bool)⟩
 (.node (.node (.node .nil 33 ⟨.other, 1, 8, [.dead], none⟩
 .nil) 34 ⟨.struct [(0, 17), (1, 17), (2, 17), (3, 9)], 4, 40, [.kv (.pointer none), .kv (.pointer none), .kv (.pointer none), .p .str ByteArray.empty], none⟩
 .nil) 35 ⟨.struct [(0, 17), (1, 17), (2, 17), (3, 9)], 4, 40, [.kv (.pointer none), .kv (.pointer none), .kv (.pointer none), .p .str ByteArray.empty], none⟩
 (.node (.node .nil 36 ⟨.arr 0 16, 0, 0, [], none⟩
 .nil) 37 ⟨.struct [(0, 36)], 0, 0, [], none⟩
 .nil))) 38 ⟨.struct [(0, 36)], 0, 0, [], none⟩
 (.node (.node (.node (.node .nil 39 ⟨.other, 1, 8, [.dead], none⟩
 .nil) 40 ⟨.int .u32, 1, 4, [.p (.int .u32) (0 : Int)], some (.int .u32)⟩
 .nil) 41 ⟨.int .u8, 1, 1, [.p (.int .u8) (0 : Int)], some (.int .u8)⟩
 (.node (.node .nil 42 ⟨.int .u8, 1, 1, [.p (.int .u8) (0 : Int)], some (.int .u8)⟩
 .nil) 43 ⟨.other, 1, 8, [.dead], none⟩
 .nil)) 44 ⟨.ptr 5, 1, 8, [.kv (.pointer none)], none⟩
 (.node (.node (.node .nil 45 ⟨.int .i32, 1, 4, [.p (.int .i32) (0 : Int)], some (.int .i32)⟩
 .nil) 46 ⟨.int .i32, 1, 4, [.p (.int .i32) (0 : Int)], some (.int .i32)⟩
 .nil) 47 ⟨.struct [(0, 12), (1, 12), (2, 40), (3, 41), (4, 5), (5, 5), (6, 42), (7, 43), (8, 44), (9, 45), (10, 46)], 11, 48, [.p (.int .u64) (0 : Int), .p (.int .u64) (0 : Int), .p (.int .u32) (0 : Int), .p (.int .u8) (0 : Int), .p (.int .u8) (0 : Int), .p (.int .u8) (0 : Int), .p (.int .u8) (0 : Int), .dead, .kv (.pointer none), .p (.int .i32) (0 : Int), .p (.int .i32) (0 : Int)], none⟩
 (.node (.node .nil 48 ⟨.struct [(0, 12), (1, 12), (2, 40), (3, 41), (4, 5), (5, 5), (6, 42), (7, 43), (8, 44), (9, 45), (10, 46)], 11, 48, [.p (.int .u64) (0 : Int), .p (.int .u64) (0 : Int), .p (.int .u32) (0 : Int), .p (.int .u8) (0 : Int), .p (.int .u8) (0 : Int), .p (.int .u8) (0 : Int), .p (.int .u8) (0 : Int), .dead, .kv (.pointer none), .p (.int .i32) (0 : Int), .p (.int .i32) (0 : Int)], none⟩
 .nil) 49 ⟨.other, 1, 8, [.dead], none⟩
 .nil)))))

end Go.Proofs.YtooagmggibdlbaaSx
