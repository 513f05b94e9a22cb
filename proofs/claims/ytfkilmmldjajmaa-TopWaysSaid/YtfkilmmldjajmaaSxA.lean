/- The symbolic machine: definitions. A region's operations are done upon told values; memory is told by chunks. -/
import Derived.Calls
import Derived.Orders
import Derived.KernelRfl
namespace Go.Proofs.YtfkilmmldjajmaaSx
open Go
set_option linter.unusedVariables false

/-- Types whose values are told as plain data. -/
inductive Ty where
  | int (k : IntKind) | bool | str | slice (t : Ty) | pair (a b : Ty) | unit
  deriving Inhabited

@[reducible] def Ty.den : Ty → Type
  | .int _ => Int
  | .bool => Bool
  | .str => ByteArray
  | .slice t => List t.den
  | .pair a b => a.den × b.den
  | .unit => Unit

def Ty.zero : (t : Ty) → t.den
  | .int _ => (0 : Int)
  | .bool => false
  | .str => ByteArray.empty
  | .slice _ => []
  | .pair a b => (a.zero, b.zero)
  | .unit => ()

def Ty.width : Ty → Nat
  | .int _ | .bool | .str | .slice _ => 1
  | .pair a b => a.width + b.width
  | .unit => 0

def Ty.agg : Ty → Bool
  | .pair .. | .unit => true
  | _ => false

/-- No address in it. -/
def Ty.flat : Ty → Bool
  | .slice _ => false
  | .pair a b => bif a.flat then b.flat else false
  | _ => true

/-- Numbers and truths. -/
def Ty.plain : Ty → Bool
  | .slice _ | .str => false
  | .pair a b => bif a.plain then b.plain else false
  | _ => true

/-- A test. -/
inductive BC where
  | tt | ff | lt (a b : Int) | le (a b : Int) | eq (a b : Int) | bv (x : Bool) | not (x : BC)

def BC.val : BC → Bool
  | .tt => true
  | .ff => false
  | .lt a b => decide (a < b)
  | .le a b => decide (a ≤ b)
  | .eq a b => decide (a = b)
  | .bv x => x
  | .not x => !x.val

def BC.br {α : Type} : BC → α → α → α
  | .tt, A, _ => A
  | .ff, _, B => B
  | .lt a b, A, B => if a < b then A else B
  | .le a b, A, B => if a ≤ b then A else B
  | .eq a b, A, B => if a = b then A else B
  | .bv x, A, B => if x = true then A else B
  | .not x, A, B => x.br B A

inductive SV where
  | p (t : Ty) (x : t.den)
  | cb (b : BC)
  | nils
  | kv (v : Value)
  | own (c : Nat)
  | ptr (c off : Nat)
  | rp (t : Ty) (x : t.den) (off : Nat)
  | rs (l : List SV) (off : Nat)
  | elo (c i off : Nat)
  | map (c : Nat)
  | agg (l : List SV)
  | tup (l : List SV)
  | fn (f : Nat) (caps : List SV)
  | sub (c lo n : Nat)
  | pf (t : Ty) (x : List t.den)
  | ixp (c off n k : Nat)
  | dead
  deriving Inhabited

inductive Chunk where
  | box (cells : List SV) (ty : Nat)
  | own (t : Ty) (L : List t.den)
  | froz (t : Ty) (L : List t.den)
  | map (k v : Ty) (L : List (k.den × v.den))
  | gone
  deriving Inhabited

def kindEq? : (k l : IntKind) → Option (PLift (k = l))
  | .i8, .i8 => some ⟨rfl⟩ | .i16, .i16 => some ⟨rfl⟩ | .i32, .i32 => some ⟨rfl⟩ | .i64, .i64 => some ⟨rfl⟩
  | .u8, .u8 => some ⟨rfl⟩ | .u16, .u16 => some ⟨rfl⟩ | .u32, .u32 => some ⟨rfl⟩ | .u64, .u64 => some ⟨rfl⟩
  | _, _ => none

def Ty.eq? : (t u : Ty) → Option (PLift (t = u))
  | .int k, .int l => match kindEq? k l with | some h => some ⟨by rw [h.down]⟩ | none => none
  | .bool, .bool => some ⟨rfl⟩
  | .str, .str => some ⟨rfl⟩
  | .slice t, .slice u => match t.eq? u with | some h => some ⟨by rw [h.down]⟩ | none => none
  | .pair a b, .pair c d => match a.eq? c with
    | some h => match b.eq? d with | some h' => some ⟨by rw [h.down, h'.down]⟩ | none => none
    | none => none
  | .unit, .unit => some ⟨rfl⟩
  | _, _ => none

/-- Are two keys the same? -/
def Ty.beq : (u : Ty) → u.den → u.den → Bool
  | .int _, x, y => decide ((x : Int) = y)
  | .bool, x, y => x == y
  | .str, x, y => decide ((x : ByteArray) = y)
  | .slice _, _, _ => false
  | .pair a b, x, y => bif a.beq x.1 y.1 then b.beq x.2 y.2 else false
  | .unit, _, _ => true

def mget (k v : Ty) : List (k.den × v.den) → k.den → v.den
  | [], _ => v.zero
  | a :: L, x => bif k.beq x a.1 then a.2 else mget k v L x
def mhas (k v : Ty) : List (k.den × v.den) → k.den → Bool
  | [], _ => false
  | a :: L, x => bif k.beq x a.1 then true else mhas k v L x
def mput (k v : Ty) : List (k.den × v.den) → k.den → v.den → List (k.den × v.den)
  | [], x, y => [(x, y)]
  | a :: L, x, y => bif k.beq x a.1 then (x, y) :: L else a :: mput k v L x y

/-- An element of an array. -/
def Ty.ix : (t : Ty) → t.den → Nat → (u : Ty) → u.den
  | .pair a _, x, 0, u => (match a.eq? u with | some h => h.down ▸ x.1 | none => u.zero)
  | .pair _ b, x, n + 1, u => b.ix x.2 n u
  | _, _, _, u => u.zero

/-- The same, at a place that is known. -/
def Ty.ixc : (t : Ty) → t.den → Nat → (u : Ty) → u.den
  | .pair a _, x, 0, u => (match a.eq? u with | some h => h.down ▸ x.1 | none => u.zero)
  | .pair _ b, x, n + 1, u => b.ixc x.2 n u
  | _, _, _, u => u.zero

def strAt (s : ByteArray) (i : Int) : Int := match s.data[i.toNat]? with | some b => (b.toNat : Int) | none => 0

/-- A part of a list written over. -/
def cpy {α : Type} (L S : List α) (lo n : Nat) : List α := List.take lo L ++ (List.take n S ++ List.drop (lo + min S.length n) L)

def app {α : Type} : List α → List α → List α
  | [], m => m
  | a :: l, m => a :: app l m

structure St where
  slots : List (Nat × SV)
  chunks : List Chunk

/-- What is asked of a type. -/
inductive TD where
  | int (k : IntKind) | bool | str | slice (e : Nat) | ptr (e : Nat) | struct (fs : List (Nat × Nat)) | arr (n e : Nat) | map (k e : Nat) (u : Ty) | other

structure TI where
  d : TD
  size : Nat
  bytes : Nat
  zero : List SV
  ty : Option Ty

inductive TT where
  | nil
  | node (l : TT) (k : Nat) (v : TI) (r : TT)

def TT.find : TT → Nat → Option TI
  | .nil, _ => none
  | .node l k v r, n => bif Nat.beq n k then some v else bif Nat.blt n k then l.find n else r.find n

def nth {α : Type} : List α → Nat → Option α
  | [], _ => none
  | a :: _, 0 => some a
  | _ :: l, n + 1 => nth l n

def setNth {α : Type} (a : α) : List α → Nat → List α
  | [], _ => []
  | _ :: l, 0 => a :: l
  | x :: l, n + 1 => x :: setNth a l n

def assoc {α : Type} (n : Nat) : List (Nat × α) → Option α
  | [] => none
  | (m, a) :: l => bif Nat.beq m n then some a else assoc n l

def memL (n : Nat) : List Nat → Bool
  | [] => false
  | m :: l => bif Nat.beq m n then true else memL n l

def St.get (st : St) (t : Nat) : SV := match assoc t st.slots with | some v => v | none => .dead
def St.put (st : St) (t : Nat) (v : SV) : St := { st with slots := (t, v) :: st.slots }
def St.putO (n : Nat) (st : St) (t : Option Nat) (v : SV) : St := match t with | some t => bif Nat.blt t n then st.put t v else st | none => st

def SV.ofConst : Value → SV
  | .bool true => .cb .tt
  | .bool false => .cb .ff
  | .int k n => .p (.int k) n
  | .string s => .p .str s
  | .slice none n c => bif Nat.beq (n + c) 0 then .nils else .dead
  | .pointer none => .kv (.pointer none)
  | .map none => .kv (.map none)
  | .nilFunc => .kv .nilFunc
  | _ => .dead

def opnd (st : St) : Operand → SV
  | .tmp t => st.get t
  | .const v => SV.ofConst v
  | .func f => .fn f []
  | .global _ => .dead

def SV.bc : SV → Option BC
  | .cb b => some b
  | .p .bool x => some (.bv x)
  | _ => none

def lenL {α : Type} : List α → Nat
  | [] => 0
  | _ :: l => lenL l + 1

def cast? (t u : Ty) (x : t.den) : Option u.den := match t.eq? u with | some h => some (h.down ▸ x) | none => none

/-- The cells of a value told as data. -/
def Ty.cells : (t : Ty) → t.den → List SV
  | .int k, x => [.p (.int k) x]
  | .bool, x => [.p .bool x]
  | .str, x => [.p .str x]
  | .slice t, x => [.p (.slice t) x]
  | .pair a b, (x, y) => app (a.cells x) (b.cells y)
  | .unit, _ => []

def SV.cells : SV → List SV
  | .p t x => t.cells x
  | .agg l => l
  | v => [v]

def SV.isAgg : SV → Bool
  | .p t _ => t.agg
  | .agg _ => true
  | _ => false

/-- The value of one cell. -/
def SV.one : SV → Bool
  | .p t _ => bif t.agg then false else true
  | .agg _ | .tup _ | .dead => false
  | _ => true

def allL {α : Type} (f : α → Bool) : List α → Bool
  | [] => true
  | a :: l => bif f a then allL f l else false

/-- One cell as data of a type; the chunks that are read so. -/
def SV.atom (cs : List Chunk) (strict : Bool) (u : Ty) : SV → Option (u.den × List Nat)
  | .p t x => match cast? t u x with | some y => some (y, []) | none => none
  | .cb b => match u with | .bool => some (b.val, []) | _ => none
  | .nils => bif strict then none else match u with | .slice _ => some ([], []) | _ => none
  | .own c => bif strict then none else match nth cs c with
    | some (.own t L) => match cast? (.slice t) u L with | some y => some (y, [c]) | none => none
    | some (.froz t L) => match cast? (.slice t) u L with | some y => some (y, []) | none => none
    | _ => none
  | .sub c lo n => bif strict then none else match nth cs c with
    | some (.own t L) => match cast? (.slice t) u (List.take n (List.drop lo L)) with | some y => some (y, [c]) | none => none
    | some (.froz t L) => match cast? (.slice t) u (List.take n (List.drop lo L)) with | some y => some (y, []) | none => none
    | _ => none
  | .pf t L => match cast? (.slice t) u L with | some y => some (y, []) | none => none
  | _ => none

/-- Cells as data of a type; what is left, and the chunks that are read so. -/
def Ty.take (cs : List Chunk) (strict : Bool) : (t : Ty) → List SV → Option (t.den × List SV × List Nat)
  | .pair a b, l => match a.take cs strict l with
    | some (x, l', z) => match b.take cs strict l' with
      | some (y, l'', z') => some ((x, y), l'', app z z')
      | none => none
    | none => none
  | .unit, l => some ((), l, [])
  | .int k, v :: l => match v.atom cs strict (.int k) with | some (x, z) => some (x, l, z) | none => none
  | .bool, v :: l => match v.atom cs strict .bool with | some (x, z) => some (x, l, z) | none => none
  | .str, v :: l => match v.atom cs strict .str with | some (x, z) => some (x, l, z) | none => none
  | .slice t, v :: l => match v.atom cs strict (.slice t) with | some (x, z) => some (x, l, z) | none => none
  | _, [] => none

/-- A value as data. -/
def SV.data (cs : List Chunk) (t : Ty) (v : SV) : Option (t.den × List Nat) :=
  bif t.agg then
    match v with
    | .p u x => match cast? u t x with | some y => some (y, []) | none => none
    | .agg l => match t.take cs false l with
      | some (x, [], z) => some (x, z)
      | _ => none
    | _ => none
  else v.atom cs false t

def freeze (cs : List Chunk) : List Nat → List Chunk
  | [] => cs
  | c :: l => match nth cs c with
    | some (.own t L) => freeze (setNth (.froz t L) cs c) l
    | some (.box _ _) => freeze (setNth .gone cs c) l
    | _ => freeze cs l

/-- The part of a value at a cell. -/
def Ty.proj : (t : Ty) → t.den → Nat → (u : Ty) → Option u.den
  | .pair a b, x, off, u =>
    match (bif Nat.beq off 0 then cast? (.pair a b) u x else none) with
    | some y => some y
    | none => bif Nat.blt off a.width then a.proj x.1 off u else b.proj x.2 (off - a.width) u
  | t, x, off, u => bif Nat.beq off 0 then cast? t u x else none

/-- Another part put in its place. -/
def Ty.upd : (t : Ty) → t.den → Nat → (u : Ty) → u.den → Option t.den
  | .pair a b, x, off, u, y =>
    match (bif Nat.beq off 0 then cast? u (.pair a b) y else none) with
    | some z => some z
    | none => bif Nat.blt off a.width then (match a.upd x.1 off u y with | some z => some (z, x.2) | none => none)
      else (match b.upd x.2 (off - a.width) u y with | some z => some (x.1, z) | none => none)
  | t, _, off, u, y => bif Nat.beq off 0 then cast? u t y else none

def TD.agg : TD → Bool
  | .struct _ | .arr _ _ => true
  | _ => false

def rd {α : Type} (d : α) (l : List α) (i : Int) : α := l.getD i.toNat d

def takeL {α : Type} : Nat → List α → List α
  | 0, _ => []
  | _ + 1, [] => []
  | n + 1, a :: l => a :: takeL n l
def dropL {α : Type} : Nat → List α → List α
  | 0, l => l
  | _ + 1, [] => []
  | n + 1, _ :: l => dropL n l

def putCells (cells new : List SV) (off : Nat) : List SV := app (takeL off cells) (app new (dropL (off + lenL new) cells))

/-- A loaded value: one cell, or a struct; as data where it is plain. -/
def loaded (ti : TI) (cells : List SV) : SV :=
  bif Nat.beq (lenL cells) ti.size then (bif ti.d.agg then
    match ti.ty with
    | some t => match t.take [] true cells with
      | some (x, [], _) => .p t x
      | _ => .agg cells
    | none => .agg cells
  else match cells with
    | [v] => v
    | _ => .dead) else .dead

def arith (op : BinOp) (k : IntKind) (a b : Int) : Option Int := match op with
  | .add => some (k.wrap (a + b))
  | .sub => some (k.wrap (a - b))
  | .mul => some (k.wrap (a * b))
  | .and => some (k.wrap (BitVec.ofInt k.bits a &&& BitVec.ofInt k.bits b).toNat)
  | .or => some (k.wrap (BitVec.ofInt k.bits a ||| BitVec.ofInt k.bits b).toNat)
  | .xor => some (k.wrap (BitVec.ofInt k.bits a ^^^ BitVec.ofInt k.bits b).toNat)
  | .andNot => some (k.wrap (BitVec.ofInt k.bits a &&& ~~~ BitVec.ofInt k.bits b).toNat)
  | _ => none

def cmp (op : BinOp) (a b : Int) : Option BC := match op with
  | .eql => some (.eq a b)
  | .neq => some (.not (.eq a b))
  | .lss => some (.lt a b)
  | .leq => some (.le a b)
  | .gtr => some (.lt b a)
  | .geq => some (.le b a)
  | _ => none

/-- What the machine does not do. -/
def bad {R : Type} (n : Nat) : Option R := none

section
variable {R : Type}

def exInt (op : BinOp) (k k' : IntKind) (a b : Int) (K : SV → Option R) : Option R :=
  match op with
  | .shl => if 0 ≤ b then K (.p (.int k) (k.wrap (a * 2 ^ min b.toNat k.bits))) else none
  | .shr => if 0 ≤ b then K (.p (.int k) (a.fdiv (2 ^ min b.toNat k.bits))) else none
  | .quo => match kindEq? k k' with
    | some _ => if b = 0 then none else K (.p (.int k) (k.wrap (a.tdiv b)))
    | none => bad 1
  | .rem => match kindEq? k k' with
    | some _ => if b = 0 then none else K (.p (.int k) (a.tmod b))
    | none => bad 2
  | op => match kindEq? k k' with
    | some _ => (match cmp op a b with
      | some c => K (.cb c)
      | none => match arith op k a b with
        | some z => K (.p (.int k) z)
        | none => bad 3)
    | none => bad 4

def exStr (op : BinOp) (a b : ByteArray) (K : SV → Option R) : Option R :=
  match op with
  | .eql => K (.p .bool (a.toList == b.toList))
  | .neq => K (.p .bool (!(a.toList == b.toList)))
  | .lss => K (.p .bool (Op.bytesLess a.toList b.toList))
  | .add => if a.size + b.size < 1000000000000 then K (.p .str (a ++ b)) else none
  | _ => bad 5

def exBool (op : BinOp) (a b : Bool) (K : SV → Option R) : Option R :=
  match op with
  | .eql => K (.p .bool (a == b))
  | .neq => K (.p .bool (!(a == b)))
  | _ => bad 6

def exBin (isB : Bool) (op : BinOp) (x y : SV) (K : SV → Option R) : Option R :=
  match x with
  | .p (.int k) a => (match y with | .p (.int k') b => exInt op k k' a b K | _ => bad 7)
  | .p .str a => (match y with | .p .str b => exStr op a b K | _ => bad 8)
  | x => match x.bc, y.bc with
    | some a, some b => bif isB then exBool op a.val b.val K else bad 69
    | _, _ => bad 9

def alive (v : SV) (K : SV → Option R) : Option R := match v with
  | .dead => bad 10
  | v => K v
end

section
variable {R : Type} (T : TT)

def elemSize (t : Nat) : Option Nat := match T.find t with
  | some ti => (match ti.d with
    | .slice e => (match T.find e with | some te => some te.size | none => none)
    | _ => none)
  | none => none

/-- A struct type whose values are compared. -/
def eqTy (t : Nat) : Option Ty := match T.find t with
  | some ti => (match ti.d with
    | .struct _ => (match ti.ty with | some u => bif u.plain then some u else none | none => none)
    | _ => none)
  | none => none

def exEqs (u : Ty) (op : BinOp) (x y : SV) (K : SV → Option R) : Option R := match x, y with
  | .p a xa, .p b yb => (match cast? a u xa with
    | some p => (match cast? b u yb with
      | some q => (match op with
        | .eql => K (.p .bool (u.beq p q))
        | .neq => K (.p .bool (!(u.beq p q)))
        | _ => bad 193)
      | none => bad 194)
    | none => bad 195)
  | _, _ => bad 196

def exIndexAddr (sz : Nat) (cs : List Chunk) (x i : SV) (K : SV → Option R) : Option R :=
  match i with
  | .p (.int _) i => (match x with
    | .p (.slice t) L => bif Nat.beq sz t.width then if 0 ≤ i then if i < (L.length : Int) then K (.rp t (rd t.zero L i) 0) else none else none else bad 70
    | .own c => (match nth cs c with
      | some (.own t L) => bif Nat.beq sz t.width then if 0 ≤ i then if i < (L.length : Int) then K (.elo c i.toNat 0) else none else none else bad 71
      | some (.froz t L) => bif Nat.beq sz t.width then if 0 ≤ i then if i < (L.length : Int) then K (.rp t (rd t.zero L i) 0) else none else none else bad 72
      | _ => bad 73)
    | .sub c lo n => (match nth cs c with
      | some (.own t L) => bif Nat.beq sz t.width then if 0 ≤ i then if i < (n : Int) then K (.elo c (lo + i.toNat) 0) else none else none else bad 106
      | _ => bad 107)
    | _ => bad 74)
  | _ => bad 75

/-- Is it an array of so many? -/
def arrTy (u : Ty) : Nat → Ty → Bool
  | 0, .unit => true
  | n + 1, .pair a b => bif (match a.eq? u with | some _ => true | none => false) then arrTy u n b else false
  | _, _ => false

/-- An address of an array's element. -/
def exArrAddr (t : Nat) (k : Option Nat) (x i : SV) (K : SV → Option R) : Option R := match i with
  | .p (.int _) i => (match T.find t with
    | some ti => (match ti.d with
      | .arr n e => (match T.find e with
        | some te => (match k with
          | some k => bif Nat.blt k n then (bif Nat.blt 0 te.size then (match x with
            | .ptr c o => K (.ptr c (o + k * te.size))
            | .rp u y o => K (.rp u y (o + k * te.size))
            | .rs l o => K (.rs l (o + k * te.size))
            | .elo c j o => K (.elo c j (o + k * te.size))
            | _ => bad 174) else bad 175) else bad 176
          | none => (match x with
            | .ptr c o => bif Nat.beq te.size 1 then if 0 ≤ i then if i < (n : Int) then K (.ixp c o n i.toNat) else none else none else bad 177
            | .rp u y o => (match ti.ty with
              | some v => (match te.ty with
                | some ue => (match u.proj y o v with
                  | some a => bif arrTy ue n v then (bif Nat.blt 0 te.size then if 0 ≤ i then if i < (n : Int) then K (.rp ue (v.ix a i.toNat ue) 0) else none else none else bad 178) else bad 179
                  | none => bad 180)
                | none => bad 181)
              | none => bad 182)
            | _ => bad 183))
        | none => bad 184)
      | _ => bad 185)
    | none => bad 76)
  | _ => bad 75

/-- Cells of one type, as data. -/
def cellsAs (u : Ty) : List SV → Option (List u.den)
  | [] => some []
  | v :: l => match v.atom [] true u with
    | some (x, _) => (match cellsAs u l with | some xs => some (x :: xs) | none => none)
    | none => none

/-- One of them written over. -/
def setAs (u : Ty) (k : Nat) (y : u.den) : Nat → List u.den → List SV
  | _, [] => []
  | j, x :: l => .p u (if k = j then y else x) :: setAs u k y (j + 1) l

/-- An address of a cell: the type's value there. -/
def exLoad (cs : List Chunk) (t : Nat) (a : SV) : SV :=
  match T.find t with
  | none => .dead
  | some ti => match a with
    | .ptr c off => (match nth cs c with
      | some (.box cells _) => loaded ti (takeL ti.size (dropL off cells))
      | _ => .dead)
    | .rp u x off => (match ti.ty with
      | some t => (match u.proj x off t with | some y => .p t y | none => .dead)
      | none => .dead)
    | .rs l off => loaded ti (takeL ti.size (dropL off l))
    | .elo c i off => (match nth cs c with
      | some (.own u L) => (match ti.ty with
        | some t => (match u.proj (L.getD i u.zero) off t with | some y => .p t y | none => .dead)
        | none => .dead)
      | _ => .dead)
    | .ixp c off n k => (match nth cs c with
      | some (.box cells _) => (match ti.ty with
        | some u => bif u.agg then .dead else (bif Nat.ble (off + n) (lenL cells) then (match cellsAs u (takeL n (dropL off cells)) with
          | some xs => .p u (xs.getD k u.zero)
          | none => .dead) else .dead)
        | none => .dead)
      | _ => .dead)
    | _ => .dead

def exLen (str : Bool) (cs : List Chunk) : SV → SV
  | .p t x => (match t, x with
    | .slice _, L => bif str then .dead else .p (.int .i64) (L.length : Int)
    | .str, s => bif str then .p (.int .i64) (s.size : Int) else .dead
    | _, _ => .dead)
  | .nils => bif str then .dead else .p (.int .i64) (0 : Int)
  | .own c => bif str then .dead else (match nth cs c with
    | some (.own _ L) => .p (.int .i64) (L.length : Int)
    | some (.froz _ L) => .p (.int .i64) (L.length : Int)
    | _ => .dead)
  | .sub _ _ n => bif str then .dead else .p (.int .i64) (n : Int)
  | .pf _ L => bif str then .dead else .p (.int .i64) (L.length : Int)
  | _ => .dead

def mapLen (cs : List Chunk) : SV → SV
  | .map c => (match nth cs c with | some (.map _ _ L) => .p (.int .i64) (L.length : Int) | _ => .dead)
  | _ => .dead

/-- Elements of a slice literal; the chunks that are read. -/
def litElems (cs : List Chunk) (u : Ty) : List SV → Option (List u.den × List Nat)
  | [] => some ([], [])
  | v :: l => match v.data cs u with
    | some (x, z) => (match litElems cs u l with | some (xs, z') => some (x :: xs, app z z') | none => none)
    | none => none

/-- Are a literal's parts all there, in order? -/
def inOrder : Nat → List (Nat × Operand) → Bool
  | _, [] => true
  | i, (j, _) :: l => bif Nat.beq i j then inOrder (i + 1) l else false

/-- Told well enough to be taken apart into cells. -/
def SV.solid : SV → Bool
  | .tup _ | .dead => false
  | _ => true

def buildCells (σ : Operand → SV) (fs : List (Nat × Nat)) : List (Nat × Operand) → List SV → Option (List SV)
  | [], cells => some cells
  | (i, o) :: ps, cells => match nth fs i with
    | some (off, ft) => (match T.find ft with
      | some ti => bif (bif (σ o).solid then (bif Nat.beq (lenL (σ o).cells) ti.size then Nat.ble (off + lenL (σ o).cells) (lenL cells) else false) else false) then
          buildCells σ fs ps (putCells cells (σ o).cells off) else none
      | none => none)
    | none => none

/-- Are all types of fields known? -/
def knownAll (fs : List (Nat × Nat)) : Bool := allL (fun x => match T.find x.2 with | some _ => true | none => false) fs

/-- Places of an array's elements. -/
def arrFs (e c : Nat) : Nat → Nat → List (Nat × Nat)
  | 0, _ => []
  | n + 1, o => (o, e) :: arrFs e c n (o + c)

/-- A field's place: (offset, type). -/
def fieldAt (s : Nat) (f : Nat) : Option (Nat × Nat) := match T.find s with
  | some ti => (match ti.d with | .struct fs => nth fs f | _ => none)
  | none => none

/-- The element type of a slice type, as data. -/
def elemTy (t : Nat) : Option (Ty × TI) := match T.find t with
  | some ti => (match ti.d with
    | .slice e => (match T.find e with
      | some te => (match te.ty with | some u => some (u, te) | none => none)
      | none => none)
    | _ => none)
  | none => none

abbrev KT (R : Type) := SV → List Chunk → List Nat → Option R

/-- A type that is no number's. -/
def noInt (t : Nat) : Bool := match T.find t with | some ti => (match ti.d with | .slice _ => true | _ => false) | none => false
def isIntT (t : Nat) : Bool := match T.find t with | some ti => (match ti.d with | .int .i64 => true | _ => false) | none => false
def zeroSize (t : Nat) : Bool := match T.find t with | some ti => Nat.beq ti.size 0 | none => true
def isBoolT (t : Nat) : Bool := match T.find t with | some ti => (match ti.d with | .bool => true | _ => false) | none => false

/-- The string of a row of bytes. -/
def strOf (L : List Int) : ByteArray := L.foldl (fun r n => r.push (UInt8.ofNat n.toNat)) ByteArray.empty

/-- Elements of a slice, wherever they lie. -/
def flatOf (cs : List Chunk) (u : Ty) : SV → Option (List u.den)
  | .p t x => cast? t (.slice u) x
  | .pf t L => cast? (.slice t) (.slice u) L
  | .nils => some []
  | .own c => (match nth cs c with
    | some (.own t L) => cast? (.slice t) (.slice u) L
    | some (.froz t L) => cast? (.slice t) (.slice u) L
    | _ => none)
  | .sub c lo n => (match nth cs c with
    | some (.own t L) => cast? (.slice t) (.slice u) (List.take n (List.drop lo L))
    | some (.froz t L) => cast? (.slice t) (.slice u) (List.take n (List.drop lo L))
    | _ => none)
  | _ => none

def bytesOf (cs : List Chunk) (v : SV) : Option (List Int) := flatOf cs (.int .u8) v

/-- The chunk in which a slice lies. -/
def SV.chunk : SV → Option Nat
  | .own c => some c
  | .sub c _ _ => some c
  | _ => none
def onChunk (c : Nat) (v : SV) : Bool := match v.chunk with | some d => Nat.beq c d | none => false

def isZeroC : Operand → Bool
  | .const (.int _ n) => (match n with | .ofNat 0 => true | _ => false)
  | _ => false
def constNat : Operand → Option Nat
  | .const (.int _ n) => (match n with | .ofNat k => some k | _ => none)
  | _ => none

def zeroPart (lo : Option Operand) (hi mx : Operand) : Bool := bif isZeroC hi then (bif isZeroC mx then (match lo with | none => true | some _ => false) else false) else false

def optL (o : Option Operand) : List Operand := match o with | some x => [x] | none => []

/-- A bound of a part. -/
def bnd (d : Int) : Option SV → Option Int
  | none => some d
  | some v => (match v with | .p (.int _) i => some i | _ => none)

/-- The bounds of a part. -/
def exBnds (n : Int) (lo hi : Option SV) (K : Nat → Nat → Option R) : Option R := match bnd 0 lo with
  | some l => (match bnd n hi with
    | some h => if 0 ≤ l then if l ≤ h then if h ≤ n then K l.toNat h.toNat else none else none else none
    | none => bad 92)
  | none => bad 93

/-- A part of a slice. -/
def exSlice (sz : Nat) (cs : List Chunk) (x : SV) (lo hi : Option SV) (K : SV → Option R) : Option R := match x with
  | .p (.slice t) L => bif Nat.beq sz t.width then exBnds (List.length L : Int) lo hi (fun l h => K (.p (.slice t) (List.take (h - l) (List.drop l L)))) else bad 94
  | .own c => (match nth cs c with
    | some (.own t L) => bif Nat.beq sz t.width then exBnds (List.length L : Int) lo hi (fun l h => K (.sub c l (h - l))) else bad 108
    | some (.froz t L) => bif Nat.beq sz t.width then exBnds (List.length L : Int) lo hi (fun l h => K (.p (.slice t) (List.take (h - l) (List.drop l L)))) else bad 109
    | _ => bad 110)
  | .sub c a n => (match nth cs c with
    | some (.own t L) => bif Nat.beq sz t.width then exBnds (n : Int) lo hi (fun l h => K (.sub c (a + l) (h - l))) else bad 111
    | _ => bad 112)
  | .nils => exBnds 0 lo hi (fun _ _ => K .nils)
  | _ => bad 95

/-- A part with no room behind it. -/
def exSlice3 (sz : Nat) (z : Bool) (x : SV) (lo : Option SV) (hi mx : SV) (K : SV → Option R) : Option R := match x with
  | .p (.slice t) L => bif Nat.beq sz t.width then (bif z then K (.pf t []) else exBnds (List.length L : Int) lo (some hi) (fun l h =>
      (match bnd 0 (some mx) with
      | some m => if m = (h : Int) then K (.pf t (List.take (h - l) (List.drop l L))) else none
      | none => bad 113))) else bad 114
  | .nils => bif z then K .nils else bad 115
  | _ => bad 116

/-- A part of a string. -/
def exStrSlice (t : Nat) (x : SV) (lo hi : Option SV) (mx : Option Operand) (K : SV → Option R) : Option R := match mx with
  | none => (match T.find t with
    | some ti => (match ti.d with
      | .str => (match x with
        | .p .str s => exBnds (ByteArray.size s : Int) lo hi (fun l h => K (.p .str (ByteArray.extract s l h)))
        | _ => bad 134)
      | _ => bad 135)
    | none => bad 136)
  | some _ => bad 137

/-- An element of an array or a string. -/
def exIndex (t : Nat) (k : Option Nat) (x i : SV) (K : SV → Option R) : Option R := match i with
  | .p (.int _) i => (match T.find t with
    | some ti => (match ti.d with
      | .str => (match x with
        | .p .str s => if 0 ≤ i then if i < (ByteArray.size s : Int) then K (.p (.int .u8) (strAt s i)) else none else none
        | _ => bad 117)
      | .arr n e => (match T.find e with
        | some te => (match te.ty with
          | some u => (match x with
            | .p v y => bif arrTy u n v then (match k with
              | some k => bif Nat.blt k n then K (.p u (v.ixc y k u)) else bad 170
              | none => if 0 ≤ i then if i < (n : Int) then K (.p u (v.ix y i.toNat u)) else none else none) else bad 118
            | _ => bad 119)
          | none => bad 120)
        | none => bad 121)
      | _ => bad 122)
    | none => bad 123)
  | _ => bad 124

def exCap (x : SV) (K : SV → Option R) : Option R := match x with
  | .nils => K (.p (.int .i64) (0 : Int))
  | .pf _ L => K (.p (.int .i64) (L.length : Int))
  | _ => bad 141

/-- Look-ups. -/
def exLookup (t : Nat) (cs : List Chunk) (x i : SV) (ok : Bool) (K : SV → Option R) : Option R := match x with
  | .map c => (match nth cs c with
    | some (.map k v L) => (match T.find t with
      | some ti => (match ti.d with
        | .map _ e u => (match T.find e with
          | some te => (match te.ty with
            | some v' => (match i.data [] u with
              | some (y, []) => (match cast? u k y with
                | some y => (match cast? v v' (mget k v L y) with
                  | some z => bif ok then K (.tup [.p v' z, .p .bool (mhas k v L y)]) else K (.p v' z)
                  | none => bad 125)
                | none => bad 126)
              | _ => bad 127)
            | none => bad 128)
          | none => bad 129)
        | _ => bad 130)
      | none => bad 131)
    | _ => bad 132)
  | _ => bad 133

/-- Operations that only read. -/
def exRd (op : Op) (σ : Operand → SV) (cs : List Chunk) (K : SV → Option R) : Option R :=
  match op with
  | .move x | .assign x => K (σ x)
  | .pick c a b => (match (σ c).bc with
    | some bc => bc.br (K (σ a)) (K (σ b))
    | none => bad 1)
  | .build t parts => (match T.find t with
    | some ti => (match ti.d with
      | .struct fs => bif knownAll T fs then (match buildCells T σ fs parts.toList ti.zero with
        | some cells => bif Nat.beq (lenL ti.zero) ti.size then alive (loaded ti cells) K else bad 66
        | none => bad 67) else bad 68
      | .arr n e => (match T.find e with
        | some te => (match buildCells T σ (arrFs e te.size n 0) parts.toList ti.zero with
          | some cells => bif Nat.beq (lenL ti.zero) ti.size then alive (loaded ti cells) K else bad 171
          | none => bad 172)
        | none => bad 173)
      | _ => bad 2)
    | none => bad 3)
  | .load t a => alive (exLoad T cs t (σ a)) K
  | .binOp op t x y _ => (match eqTy T t with | some u => exEqs u op (σ x) (σ y) K | none => exBin (isBoolT T t) op (σ x) (σ y) K)
  | .unOp op _ x => (match op with
    | .not => (match (σ x).bc with
      | some b => K (.cb (.not b))
      | none => bad 4)
    | .neg => (match σ x with
      | .p (.int k) a => K (.p (.int k) (k.wrap (0 - a)))
      | _ => bad 5)
    | _ => bad 6)
  | .convert s d x => (match T.find d, T.find s with
    | some ti, some ts => (match ti.d with
      | .int k => (match σ x with
        | .p (.int _) a => K (.p (.int k) (k.wrap a))
        | _ => bad 7)
      | .str => (match ts.d with
        | .slice e => (match T.find e with
          | some te => (match te.d with
            | .int .u8 => (match bytesOf cs (σ x) with
              | some L => K (.p .str (strOf L))
              | none => bad 96)
            | _ => bad 97)
          | none => bad 98)
        | _ => bad 99)
      | _ => bad 9)
    | _, _ => bad 10)
  | .makeFunc f first caps => (match f with
    | .func f => (match first.toList with
      | [] => K (.fn f (caps.toList.map σ))
      | _ => bad 11)
    | _ => bad 12)
  | .fieldAddr s x f => (match fieldAt T s f with
    | some (off, ft) => bif zeroSize T ft then bad 77 else (match σ x with
      | .ptr c o => K (.ptr c (o + off))
      | .rp u y o => K (.rp u y (o + off))
      | .rs l o => K (.rs l (o + off))
      | .elo c i o => K (.elo c i (o + off))
      | _ => bad 13)
    | none => bad 14)
  | .field s x f => (match fieldAt T s f with
    | some (off, ft) => (match T.find ft with
      | some ti => bif (σ x).isAgg then alive (loaded ti (takeL ti.size (dropL off (σ x).cells))) K else bad 82
      | none => bad 15)
    | none => bad 16)
  | .indexAddr t x i => (match elemSize T t with | some sz => exIndexAddr sz cs (σ x) (σ i) K | none => exArrAddr T t (constNat i) (σ x) (σ i) K)
  | .extract x i => (match σ x with
    | .tup l => (match nth l i with
      | some v => K v
      | none => bad 17)
    | _ => bad 18)
  | .nilCheck x => (match σ x with
    | .ptr c o => K (.ptr c o)
    | .rp u y o => K (.rp u y o)
    | .rs l o => K (.rs l o)
    | _ => bad 19)
  | .call c => (match c.callee with
    | .builtin b => (match b with
      | .len => (match c.args.toList with
        | [x] => (match c.argTypes.toList with
          | [t] => (match T.find t with
            | some ti => (match ti.d with
              | .slice _ => alive (exLen false cs (σ x)) K
              | .str => alive (exLen true cs (σ x)) K
              | .map _ _ _ => alive (mapLen cs (σ x)) K
              | _ => bad 78)
            | none => bad 80)
          | _ => bad 79)
        | _ => bad 20)
      | .min => (match c.args.toList.map σ with
        | [.p (.int k) a, .p (.int _) b] => K (.p (.int k) (if b < a then b else a))
        | _ => bad 21)
      | .max => (match c.args.toList.map σ with
        | [.p (.int k) a, .p (.int _) b] => K (.p (.int k) (if b > a then b else a))
        | _ => bad 22)
      | .cap => (match c.args.toList.map σ with
        | [x] => (match c.argTypes.toList with
          | [t] => bif noInt T t then exCap x K else bad 138
          | _ => bad 139)
        | _ => bad 140)
      | _ => bad 23)
    | _ => bad 24)
  | .slice t x lo hi mx => (match elemSize T t with
    | some sz => (match mx with
      | none => exSlice sz cs (σ x) (lo.map σ) (hi.map σ) K
      | some mx => (match hi with
        | some hi => exSlice3 sz (zeroPart lo hi mx) (σ x) (lo.map σ) (σ hi) (σ mx) K
        | none => bad 169))
    | none => exStrSlice T t (σ x) (lo.map σ) (hi.map σ) mx K)
  | .index t x i => exIndex T t (constNat i) (σ x) (σ i) K
  | .lookup t x i ok => exLookup T t cs (σ x) (σ i) ok K
  | _ => bad 25

variable (env : Nat → List SV → List Chunk → KT R → Option R)

/-- A length within the bound. -/
def Short (n : Nat) : Prop := Nat.blt n 1000000000 = true
instance (n : Nat) : Decidable (Short n) := inferInstanceAs (Decidable (Nat.blt n 1000000000 = true))

/-- Is there room for so many? -/
def fitsIn (n bytes : Nat) : Bool := Nat.ble (n * bytes) 140737488355328

/-- How long may an append's slice be? As long as there is room. -/
def bigOf (bytes : Nat) (_ : SV) : Option Nat := bif Nat.blt 0 bytes then some bytes else none
def guardL (big : Option Nat) (n : Nat) (A : Option R) : Option R := match big with
  | some b => if fitsIn n b = true then A else none
  | none => if Short n then A else none

/-- An append; the elements are told, and lie not in what is turned. -/
def exAppend (big : Option Nat) (u : Ty) (x : SV) (M : List u.den) (cs : List Chunk) (z : List Nat) (mayBe : Nat → Bool) (K : KT R) : Option R :=
  match x with
  | .own c => bif mayBe c then (match nth cs c with
    | some (.own t L) => (match cast? (.slice t) (.slice u) L with
      | some L => guardL big (L ++ M).length (K (.own (lenL cs)) (app (setNth .gone cs c) [.own u (L ++ M)]) (c :: z))
      | none => bad 30)
    | _ => bad 31) else bad 87
  | .sub c lo n => bif mayBe c then (match nth cs c with
    | some (.own t L) => (match cast? (.slice t) (.slice u) (List.take n (List.drop lo L)) with
      | some L => guardL big (L ++ M).length (K (.own (lenL cs + 1)) (app (setNth .gone cs c) [.gone, .own u (L ++ M)]) (c :: z))
      | none => bad 142)
    | _ => bad 143) else bad 144
  | .nils => guardL big M.length (K (.own (lenL cs)) (app cs [.own u M]) z)
  | .pf t L => (match cast? (.slice t) (.slice u) L with
    | some [] => guardL big M.length (K (.own (lenL cs)) (app cs [.own u M]) z)
    | some (a :: L) => bad 145
    | none => bad 146)
  | _ => bad 32

/-- An append to a row with no room behind it. -/
def exAppendF (big : Option Nat) (u : Ty) (x : SV) (M : List u.den) (cs : List Chunk) (z : List Nat) (K : KT R) : Option R :=
  match x with
  | .pf t L => (match cast? (.slice t) (.slice u) L with
    | some L => if 0 < M.length then guardL big (L ++ M).length (K (.own (lenL cs)) (app cs [.own u (L ++ M)]) z) else none
    | none => bad 147)
  | _ => bad 148

/-- So many zeros appended to nothing. -/
def exAppendZ (u : Ty) (te : TI) (x y : SV) (cs : List Chunk) (K : KT R) : Option R := match x with
  | .nils => (match y with
    | .p (.int .i64) n => bif (bif Nat.ble te.bytes 4096 then (bif Nat.blt 0 te.size then Nat.blt 0 te.bytes else false) else false) then
        (if 0 < n then if fitsIn (Int.toNat n) te.bytes = true then K (.own (lenL cs)) (app cs [.own u (List.replicate (Int.toNat n) u.zero)]) [] else none else none) else bad 197
    | _ => bad 198)
  | _ => bad 199

def isPf : SV → Bool
  | .pf _ [] => false
  | .pf _ _ => true
  | _ => false

/-- A part of an own slice is told as an own one; its whole is gone. -/
def settleV (cs : List Chunk) (v : SV) : SV × List Chunk × List Nat := match v with
  | .sub c lo n => (match nth cs c with
    | some (.own t L) => (.own (lenL cs), app (setNth .gone cs c) [.own t (List.take n (List.drop lo L))], [c])
    | _ => (v, cs, []))
  | v => (v, cs, [])

def isSub : SV → Bool
  | .sub _ _ _ => true
  | _ => false

/-- Copying into an own slice. -/
def exCopy (u : Ty) (x : SV) (S : List u.den) (cs : List Chunk) (K : KT R) : Option R :=
  match x with
  | .own c => (match nth cs c with
    | some (.own t L) => (match cast? (.slice t) (.slice u) L with
      | some L => K (.p (.int .i64) ((min S.length L.length : Nat) : Int)) (setNth (.own u (cpy L S 0 L.length)) cs c) [c]
      | none => bad 150)
    | _ => bad 151)
  | .sub c lo n => (match nth cs c with
    | some (.own t L) => (match cast? (.slice t) (.slice u) L with
      | some L => K (.p (.int .i64) ((min S.length n : Nat) : Int)) (setNth (.own u (cpy L S lo n)) cs c) [c]
      | none => bad 152)
    | _ => bad 153)
  | .nils => K (.p (.int .i64) (0 : Int)) cs []
  | _ => bad 154

/-- A map's type: keys and elements. -/
def mapTy (t : Nat) : Option (Ty × Ty) := match T.find t with
  | some ti => (match ti.d with
    | .map _ e u => (match T.find e with
      | some te => (match te.ty with | some v => some (u, v) | none => none)
      | none => none)
    | _ => none)
  | none => none

def exMapPut (t : Nat) (x k y : SV) (cs : List Chunk) (K : KT R) : Option R := match x with
  | .map c => (match mapTy T t with
    | some (u, v) => (match k.data [] u with
      | some (k, []) => (match y.data cs v with
        | some (y, z) => (match nth cs c with
          | some (.map ku vu L) => (match cast? (.slice (.pair ku vu)) (.slice (.pair u v)) L with
            | some L => bif memL c z then bad 155 else K .dead (setNth (.map u v (mput u v L k y)) (freeze cs z) c) (c :: z)
            | none => bad 156)
          | _ => bad 157)
        | none => bad 158)
      | _ => bad 159)
    | none => bad 160)
  | _ => bad 161

/-- Operations that turn memory: the value, the chunks behind it, and which of the old ones turned. -/
def exWr (op : Op) (σ : Operand → SV) (cs : List Chunk) (K : KT R) : Option R :=
  match op with
  | .box e x => (match T.find e with
    | some ti => bif allL SV.one (σ x).cells then K (.ptr (lenL cs) 0) (app cs [.box (σ x).cells e]) [] else bad 40
    | none => bad 41)
  | .alloc e => (match T.find e with
    | some ti => K (.ptr (lenL cs) 0) (app cs [.box ti.zero e]) []
    | none => bad 42)
  | .buildSlice t len parts => (match elemTy T t with
    | some (u, te) => (match litElems cs u (parts.toList.map (fun x => σ x.2)) with
      | some (L, z) => bif (bif inOrder 0 parts.toList then (bif Nat.beq (lenL parts.toList) len then (bif Nat.ble (len * te.size) 16777216 then Nat.blt 0 te.size else false) else false) else false) then
          K (.own (lenL cs)) (app (freeze cs z) [.own u L]) z else bad 83
      | none => bad 43)
    | none => bad 44)
  | .store t a x => (match σ a with
    | .ptr c off => (match nth cs c with
      | some (.box cells ty) => (match T.find t with
        | some ti => bif (bif allL SV.one (σ x).cells then (bif Nat.beq (lenL (σ x).cells) ti.size then Nat.ble (off + lenL (σ x).cells) (lenL cells) else false) else false) then
          (bif isSub (σ x) then (match settleV cs (σ x) with
            | (v, cs, z) => K .dead (setNth (.box (putCells cells v.cells off) ty) cs c) (c :: z))
          else K .dead (setNth (.box (putCells cells (σ x).cells off) ty) cs c) [c]) else bad 45
        | none => bad 84)
      | _ => bad 46)
    | .ixp c off n k => (match nth cs c with
      | some (.box cells ty) => (match T.find t with
        | some ti => (match ti.ty with
          | some u => (match (σ x).atom [] true u with
            | some (y, _) => bif u.agg then bad 186 else (bif Nat.ble (off + n) (lenL cells) then (match cellsAs u (takeL n (dropL off cells)) with
              | some xs => K .dead (setNth (.box (putCells cells (setAs u k y 0 xs) off) ty) cs c) [c]
              | none => bad 187) else bad 188)
            | none => bad 189)
          | none => bad 190)
        | none => bad 191)
      | _ => bad 192)
    | .elo c i off => (match nth cs c with
      | some (.own u L) => (match T.find t with
        | some ti => (match ti.ty with
          | some w => (match (σ x).data cs w with
            | some (y, z) => (match u.upd (L.getD i u.zero) off w y with
              | some e => bif memL c z then bad 47 else K .dead (setNth (.own u (L.set i e)) (freeze cs z) c) (c :: z)
              | none => bad 48)
            | none => bad 49)
          | none => bad 50)
        | none => bad 51)
      | _ => bad 52)
    | _ => bad 53)
  | .makeSlice t l c => (match elemTy T t with
    | some (u, te) => bif Nat.beq te.size 0 then bad 85 else (match σ l with
      | .p (.int .i64) n => (match σ c with
        | .p (.int .i64) m => if 0 ≤ n then if n ≤ m then if m * ((te.bytes : Int) + 1) ≤ 281474976710656 then
            K (.own (lenL cs)) (app cs [.own u (List.replicate n.toNat u.zero)]) [] else none else none else none
        | _ => bad 54)
      | _ => bad 55)
    | none => bad 56)
  | .panic _ => none
  | .makeInterface _ _ => none
  | .makeMap t r => (match mapTy T t with
    | some (u, v) => (match r with
      | none => K (.map (lenL cs)) (app cs [.map u v []]) []
      | some _ => bad 167)
    | none => bad 168)
  | .mapUpdate t x k y => exMapPut T t (σ x) (σ k) (σ y) cs K
  | .insert t x k y => exMapPut T t (σ x) (σ k) (σ y) cs K
  | .call c => (match c.callee with
    | .builtin b => (match b with
      | .append => (match c.args.toList.map σ with
        | [x, y] => (match c.argTypes.toList with
          | [t, t2] => (match elemTy T t with
            | some (u, te) => bif isIntT T t2 then exAppendZ u te x y cs K else bif (bif Nat.ble te.bytes 4096 then (bif Nat.blt 0 te.size then noInt T t2 else false) else false) then
              (bif u.flat then (match flatOf cs u y with
                | some M => (bif isPf x then exAppendF (bigOf te.bytes y) u x M cs [] K else exAppend (bigOf te.bytes y) u x M cs [] (fun c => bif onChunk c y then false else true) K)
                | none => bad 149)
              else (match y.atom cs false (.slice u) with
                | some (M, z) => (bif isPf x then exAppendF (bigOf te.bytes y) u x M (freeze cs z) z K else exAppend (bigOf te.bytes y) u x M (freeze cs z) z (fun c => bif memL c z then false else true) K)
                | none => bad 57)) else bad 86
            | none => bad 58)
          | _ => bad 59)
        | _ => bad 60)
      | .copy => (match c.args.toList.map σ with
        | [x, y] => (match c.argTypes.toList with
          | [t, t2] => (match elemTy T t with
            | some (u, te) => bif (bif u.flat then (bif Nat.blt 0 te.size then noInt T t2 else false) else false) then
              (match flatOf cs u y with
                | some S => exCopy u x S cs K
                | none => bad 162) else bad 163
            | none => bad 164)
          | _ => bad 165)
        | _ => bad 166)
      | _ => bad 61)
    | .value f => (match σ f with
      | .fn f caps => env f (app (c.args.toList.map σ) caps) cs K
      | _ => bad 62)
    | _ => bad 63)
  | _ => bad 64

/-- Does an operation only read? -/
def reader : Op → Bool
  | .move _ | .assign _ | .pick .. | .build .. | .load .. | .binOp .. | .unOp .. | .convert .. | .makeFunc .. | .fieldAddr .. | .field .. | .indexAddr .. | .extract .. | .nilCheck _ | .slice .. | .index .. | .lookup .. => true
  | .call c => (match c.callee with | .builtin .len | .builtin .min | .builtin .max | .builtin .cap => true | _ => false)
  | _ => false

mutual
/-- The chunks that a value names. -/
def SV.names : SV → List Nat
  | .own c => [c]
  | .ptr c _ => [c]
  | .elo c _ _ => [c]
  | .map c => [c]
  | .sub c _ _ => [c]
  | .ixp c _ _ _ => [c]
  | .agg l => SV.namesL l
  | .tup l => SV.namesL l
  | .fn _ l => SV.namesL l
  | .rs l _ => SV.namesL l
  | _ => []
def SV.namesL : List SV → List Nat
  | [] => []
  | v :: l => app v.names (SV.namesL l)
end

structure Log where
  i : Nat
  writes : Bool
  foot : List Nat
  len : Nat

/-- What an operation looks at. -/
def uses : Op → List Operand
  | .move x | .assign x | .box _ x | .load _ x | .nilCheck x | .unOp _ _ x | .convert _ _ x | .fieldAddr _ x _ | .field _ x _ | .extract x _ => [x]
  | .pick c a b => [c, a, b]
  | .build _ ps | .buildSlice _ _ ps => ps.toList.map (·.2)
  | .store _ a v | .binOp _ _ a v _ | .makeSlice _ a v | .indexAddr _ a v => [a, v]
  | .makeFunc _ _ captured => captured.toList
  | .slice _ x lo hi mx => x :: (optL lo ++ (optL hi ++ optL mx))
  | .index _ x i => [x, i]
  | .lookup _ x i _ => [x, i]
  | .mapUpdate _ x k y => [x, k, y]
  | .insert _ x k y => [x, k, y]
  | .makeMap _ r => optL r
  | .call c => (match c.callee with | .value f => f :: c.args.toList | _ => c.args.toList)
  | _ => []

/-- What looks at its operands alone. -/
def noMem : Op → Bool
  | .move _ | .assign _ | .pick .. | .build .. | .binOp .. | .unOp .. | .makeFunc .. | .fieldAddr .. | .field .. | .extract .. | .nilCheck _ => true
  | _ => false

/-- The chunks that a reader looks at. -/
def foot (op : Op) (σ : Operand → SV) : List Nat := bif noMem op then [] else SV.namesL ((uses op).map σ)

/-- Something new is made, whatever memory holds: 1. -/
def mkFlag (σ : Operand → SV) : Op → Nat
  | .alloc _ => 1
  | .makeMap _ _ => 1
  | .buildSlice t _ parts => (match elemTy T t with
    | some (u, _) => (match litElems [] u (parts.toList.map (fun x => σ x.2)) with | some (_, []) => 1 | _ => 0)
    | none => 0)
  | .makeSlice _ _ _ => 1
  | .box _ x => (match σ x with | .p t _ => bif t.flat then 1 else 0 | _ => 0)
  | _ => 0

/-- An operation, and its line of the log. -/
def exLog (n i : Nat) (o : Oper) (st : St) (log : List Log) (K : St → List Log → Option R) : Option R :=
  bif reader o.op then exRd T o.op (opnd st) st.chunks (fun v => K (St.putO n st o.dst v) (⟨i, false, foot o.op (opnd st), lenL st.chunks⟩ :: log))
  else exWr T env o.op (opnd st) st.chunks (fun v cs z => K (St.putO n ⟨st.slots, cs⟩ o.dst v) (⟨i, true, z, mkFlag T (opnd st) o.op⟩ :: log))

/-- The slot that a guard asks. -/
def guardSlot (all : List Oper) (st : St) (j : Nat) : Option (Nat × BC) := match nth all j with
  | some oj => (match oj.dst with
    | some d => (match (st.get d).bc with | some b => some (d, b) | none => none)
    | none => none)
  | none => none

/-- Was the guard left out itself? -/
def undefSlot (all : List Oper) (st : St) (j : Nat) : Bool := match nth all j with
  | some oj => (match oj.dst with
    | some d => (match st.get d with | .tup [] => true | _ => false)
    | none => false)
  | none => false

/-- The operations of a region, in their order. -/
def exOps (n : Nat) (all : List Oper) : Nat → List Oper → St → List Log → (St → List Log → Option R) → Option R
  | _, [], st, log, K => K st log
  | i, o :: l, st, log, K =>
    match o.guard with
    | none => exLog T env n i o st log (fun st log => exOps n all (i + 1) l st log K)
    | some (j, want) =>
      match guardSlot all st j with
      | some (d, b) =>
        match want with
        | true => b.br (exLog T env n i o (st.put d (.cb .tt)) log (fun st log => exOps n all (i + 1) l st log K))
            (exOps n all (i + 1) l (St.putO n (st.put d (.cb .ff)) o.dst (.tup [])) (⟨i, false, [], 0⟩ :: log) K)
        | false => b.br (exOps n all (i + 1) l (St.putO n (st.put d (.cb .tt)) o.dst (.tup [])) (⟨i, false, [], 0⟩ :: log) K)
            (exLog T env n i o (st.put d (.cb .ff)) log (fun st log => exOps n all (i + 1) l st log K))
      | none => bif undefSlot all st j then exOps n all (i + 1) l (St.putO n st o.dst (.tup [])) (⟨i, false, [], 0⟩ :: log) K else bad 203

/-- The slots that an operation looks at. -/
def tmpsOf : List Operand → List Nat
  | [] => []
  | .tmp t :: l => t :: tmpsOf l
  | _ :: l => tmpsOf l

def looks (all : List Oper) (o : Oper) : List Nat := app (tmpsOf (uses o.op)) (match o.guard with
  | some (j, _) => (match nth all j with | some oj => (match oj.dst with | some d => [d] | none => []) | none => [])
  | none => [])

def bindsAny (e : Edge) : Bool := match e.ground with
  | .textOnly _ => false
  | .gcOnly _ => false
  | _ => true

def union (a : List Nat) : List Nat → List Nat
  | [] => a
  | x :: b => bif memL x a then union a b else union (x :: a) b

def aheadOf (acc : List (List Nat)) : List Edge → List Nat
  | [] => []
  | e :: l => bif bindsAny e then union (aheadOf acc l) (e.on :: (match nth acc e.on with | some m => m | none => [])) else aheadOf acc l

/-- What stands ahead of each operation. -/
def aheads : List Oper → List (List Nat) → List (List Nat)
  | [], acc => acc
  | o :: l, acc => aheads l (app acc [aheadOf acc o.after.toList])

def isAhead (as : List (List Nat)) (j i : Nat) : Bool := match nth as i with | some m => memL j m | none => false

def enum {α : Type} : Nat → List α → List (Nat × α)
  | _, [] => []
  | i, a :: l => (i, a) :: enum (i + 1) l

/-- Does what is written stand in an order with all that looks at it? -/
def slotsOk (all : List Oper) (bits : List (List Nat)) : Bool :=
  allL (fun x => match x.2.dst with
    | none => true
    | some d => allL (fun y => bif Nat.beq x.1 y.1 then true else
        bif (match y.2.dst with | some e => Nat.beq d e | none => false) then false else
        bif memL d (looks all y.2) then (bif isAhead bits x.1 y.1 then true else isAhead bits y.1 x.1) else true) (enum 0 all)) (enum 0 all)

/-- Does each edge lead back? -/
def edgesOk (all : List Oper) : Bool := allL (fun x => allL (fun e => bif bindsAny e then Nat.blt e.on x.1 else true) x.2.after.toList) (enum 0 all)

def disjoint (a b : List Nat) : Bool := allL (fun x => bif memL x b then false else true) a

/-- A new variable that is not looked at before what stands ahead of it is done. -/
def exempt (all : List Oper) (as : List (List Nat)) (k i j : Nat) : Bool := bif Nat.blt j i then (match nth all i with
  | some o => bif Nat.beq k 1 then (match o.guard with
      | none => (match o.dst with
        | some d => allL (fun z => bif memL d (looks all z.2) then isAhead as j z.1 else true) (enum 0 all)
        | none => false)
      | some _ => false) else false
  | none => false) else false

/-- A region whose order is open: what turns memory stands in an order; what only reads lies apart from what turns it beside it. -/
def logOk (all : List Oper) (log : List Log) : Bool :=
  let as := aheads all []
  bif slotsOk all as then (bif edgesOk all then
    allL (fun x => bif x.writes then allL (fun y => bif Nat.beq x.i y.i then true else
      bif isAhead as x.i y.i then true else bif isAhead as y.i x.i then true else
      bif y.writes then (bif exempt all as x.len x.i y.i then true else exempt all as y.len y.i x.i) else disjoint x.foot y.foot) log else allL (fun c => Nat.blt c x.len) x.foot) log
  else false) else false

end

/-- Data, with its type. -/
structure Dat where
  t : Ty
  x : t.den

/-- What a slot holds at a cut. -/
inductive KS where
  | p (t : Ty) | own (i : Nat) | ptr (i off : Nat) | map (i : Nat) | rp (t : Ty) (off : Nat) | rs (l : List KS) (off : Nat) | agg (l : List KS) | fn (f : Nat) (l : List KS) | kv (v : Value) | nils | dead

inductive KC where
  | box (l : List KS) (ty : Nat) | own (t : Ty) | map (k v : Ty) | gone

structure Tm where
  slots : List (Nat × KS)
  chunks : List KC

mutual
def KS.fill : KS → List Dat → SV × List Dat
  | .p t, d :: ds => (match cast? d.t t d.x with | some x => (.p t x, ds) | none => (.dead, ds))
  | .own i, ds => (.own i, ds)
  | .ptr i off, ds => (.ptr i off, ds)
  | .map i, ds => (.map i, ds)
  | .rp t off, d :: ds => (match cast? d.t t d.x with | some x => (.rp t x off, ds) | none => (.dead, ds))
  | .rs l off, ds => (match KS.fills l ds with | (vs, ds) => (.rs vs off, ds))
  | .agg l, ds => (match KS.fills l ds with | (vs, ds) => (.agg vs, ds))
  | .fn f l, ds => (match KS.fills l ds with | (vs, ds) => (.fn f vs, ds))
  | .kv v, ds => (.kv v, ds)
  | .nils, ds => (.nils, ds)
  | _, ds => (.dead, ds)
def KS.fills : List KS → List Dat → List SV × List Dat
  | [], ds => ([], ds)
  | k :: l, ds => match k.fill ds with
    | (v, ds) => (match KS.fills l ds with | (vs, ds) => (v :: vs, ds))
end

def Tm.fillSlots : List (Nat × KS) → List Dat → List (Nat × SV) × List Dat
  | [], ds => ([], ds)
  | (n, k) :: l, ds => match k.fill ds with
    | (v, ds) => (match Tm.fillSlots l ds with | (vs, ds) => ((n, v) :: vs, ds))

def Tm.fillChunks : List KC → List Dat → List Chunk
  | [], _ => []
  | .box l ty :: cs, ds => (match KS.fills l ds with | (vs, ds) => .box vs ty :: Tm.fillChunks cs ds)
  | .own t :: cs, d :: ds => (match cast? d.t (.slice t) d.x with | some x => .own t x | none => .gone) :: Tm.fillChunks cs ds
  | .map k v :: cs, d :: ds => (match cast? d.t (.slice (.pair k v)) d.x with | some x => .map k v x | none => .gone) :: Tm.fillChunks cs ds
  | _ :: cs, ds => .gone :: Tm.fillChunks cs ds

def Tm.fill (tm : Tm) (ds : List Dat) : St := match Tm.fillSlots tm.slots ds with
  | (slots, ds) => ⟨slots, Tm.fillChunks tm.chunks ds⟩

/-- Found so far: which chunk of the state stands for which of the template (none: an empty one, new). -/
abbrev Found := List (Nat × Option Nat)

def foundPut (i : Nat) (c : Option Nat) (F : Found) : Option Found := match assoc i F with
  | none => some ((i, c) :: F)
  | some none => none
  | some (some d) => (match c with | some c => bif Nat.beq c d then some F else none | none => none)

mutual
def KS.norm (cs : List Chunk) : KS → SV → Found → Option (List Dat × Found × List Nat)
  | .p t, v, F => (match v.data cs t with | some (x, z) => some ([⟨t, x⟩], F, z) | none => none)
  | .own i, v, F => (match v with
    | .own c => (match foundPut i (some c) F with | some F => some ([], F, []) | none => none)
    | .nils => (match foundPut i none F with | some F => some ([], F, []) | none => none)
    | _ => none)
  | .ptr i off, v, F => (match v with
    | .ptr c o => bif Nat.beq off o then (match foundPut i (some c) F with | some F => some ([], F, []) | none => none) else none
    | _ => none)
  | .map i, v, F => (match v with
    | .map c => (match foundPut i (some c) F with | some F => some ([], F, []) | none => none)
    | _ => none)
  | .rp t off, v, F => (match v with
    | .rp u x o => bif Nat.beq off o then (match cast? u t x with | some x => some ([⟨t, x⟩], F, []) | none => none) else none
    | _ => none)
  | .rs l off, v, F => (match v with
    | .rs vs o => bif Nat.beq off o then KS.norms cs l vs F else none
    | .ptr c o => bif Nat.beq off o then (match nth cs c with
      | some (.box vs _) => (match KS.norms cs l vs F with | some (ds, F, z) => some (ds, F, c :: z) | none => none)
      | _ => none) else none
    | _ => none)
  | .agg l, v, F => (match v.isAgg with | true => KS.norms cs l v.cells F | false => none)
  | .fn f l, v, F => (match v with
    | .fn g vs => bif Nat.beq f g then KS.norms cs l vs F else none
    | _ => none)
  | .nils, v, F => (match v with | .nils => some ([], F, []) | _ => none)
  | .dead, _, F => some ([], F, [])
  | .kv _, _, F => none
def KS.norms (cs : List Chunk) : List KS → List SV → Found → Option (List Dat × Found × List Nat)
  | [], vs, F => (match vs with | [] => some ([], F, []) | _ => none)
  | k :: l, vs, F => (match vs with
    | v :: vs => (match KS.norm cs k v F with
      | some (ds, F, z) => (match KS.norms cs l vs F with | some (es, F, z') => some (app ds es, F, app z z') | none => none)
      | none => none)
    | [] => none)
end

def Tm.normSlots (st : St) : List (Nat × KS) → Found → Option (List Dat × Found × List Nat)
  | [], F => some ([], F, [])
  | (n, k) :: l, F => match k.norm st.chunks (st.get n) F with
    | some (ds, F, z) => (match Tm.normSlots st l F with | some (es, F, z') => some (app ds es, F, app z z') | none => none)
    | none => none

def Tm.normChunks (cs : List Chunk) : List KC → Nat → Found → Option (List Dat × Found × List Nat)
  | [], _, F => some ([], F, [])
  | .gone :: l, i, F => Tm.normChunks cs l (i + 1) F
  | k :: l, i, F => match (match assoc i F with
      | some (some c) => (match k with
        | .box ks ty => (match nth cs c with | some (.box vs ty') => bif Nat.beq ty ty' then KS.norms cs ks vs F else none | _ => none)
        | .own t => (match nth cs c with | some (.own u L) => (match cast? (.slice u) (.slice t) L with | some x => some ([⟨.slice t, x⟩], F, []) | none => none) | _ => none)
        | .map k v => (match nth cs c with | some (.map k' v' L) => (match cast? (.slice (.pair k' v')) (.slice (.pair k v)) L with | some x => some ([⟨.slice (.pair k v), x⟩], F, []) | none => none) | _ => none)
        | _ => none)
      | some none => (match k with | .own t => bif Nat.blt 0 t.width then some ([⟨.slice t, ([] : List t.den)⟩], F, []) else none | _ => none)
      | none => none) with
    | some (ds, F, z) => (match Tm.normChunks cs l (i + 1) F with | some (es, F, z') => some (app ds es, F, app z z') | none => none)
    | none => none

def isOther (c : Nat) (x : Nat × Option Nat) : Bool := match x.2 with | some d => bif Nat.beq c d then false else true | none => true

/-- No chunk found twice, none that is also read as data, all within the template. -/
def foundOk (n : Nat) (z : List Nat) : Found → Bool
  | [] => true
  | (i, some c) :: F => bif Nat.blt i n then (bif memL c z then false else bif allL (isOther c) F then foundOk n z F else false) else false
  | (i, none) :: F => bif Nat.blt i n then foundOk n z F else false

def goneAt (kcs : List KC) (i : Nat) : Bool := match nth kcs i with
  | some .gone => true
  | _ => false
def dropGone (kcs : List KC) : Found → Found
  | [] => []
  | (i, c) :: F => bif goneAt kcs i then dropGone kcs F else (i, c) :: dropGone kcs F
def allBelow (n : Nat) : Found → Bool
  | [] => true
  | (i, _) :: F => bif Nat.blt i n then allBelow n F else false
/-- As foundOk, but what is gone may be found once more. -/
def foundOkG (kcs : List KC) (z : List Nat) (F : Found) : Bool := bif allBelow (lenL kcs) F then foundOk (lenL kcs) z (dropGone kcs F) else false

/-- Parts of own slices where a template wants own ones. -/
def settleS : List (Nat × KS) → St → St
  | [], st => st
  | (n, .own _) :: l, st => (match isSub (st.get n) with
    | true => (match settleV st.chunks (st.get n) with | (v, cs, _) => settleS l ⟨(n, v) :: st.slots, cs⟩)
    | false => settleS l st)
  | _ :: l, st => settleS l st

/-- Which chunks are turned so. -/
def settleZ : List (Nat × KS) → St → List Nat
  | [], st => []
  | (n, .own _) :: l, st => (match isSub (st.get n) with
    | true => (match settleV st.chunks (st.get n) with | (v, cs, z) => app z (settleZ l ⟨(n, v) :: st.slots, cs⟩))
    | false => settleZ l st)
  | _ :: l, st => settleZ l st

def Tm.norm (tm : Tm) (F0 : Found) (st : St) : Option (List Dat) := match Tm.normSlots st tm.slots F0 with
  | some (ds, F, z) => (match Tm.normChunks st.chunks tm.chunks 0 F with
    | some (es, F, z') => bif foundOkG tm.chunks (app z z') F then some (app ds es) else none
    | none => none)
  | none => none

def Tm.normS (tm : Tm) (F0 : Found) (st : St) : Option (List Dat) := tm.norm F0 (settleS tm.slots st)

def pop {R : Type} (t : Ty) (ds : List Dat) (K : t.den → List Dat → Option R) : Option R := match ds with
  | d :: ds => (match cast? d.t t d.x with | some x => K x ds | none => none)
  | [] => none

mutual
def SV.ren (ρ : List Nat) : SV → SV
  | .own c => .own (match nth ρ c with | some d => d | none => c)
  | .ptr c off => .ptr (match nth ρ c with | some d => d | none => c) off
  | .elo c i off => .elo (match nth ρ c with | some d => d | none => c) i off
  | .map c => .map (match nth ρ c with | some d => d | none => c)
  | .sub c lo n => .sub (match nth ρ c with | some d => d | none => c) lo n
  | .ixp c off n k => .ixp (match nth ρ c with | some d => d | none => c) off n k
  | .agg l => .agg (SV.rens ρ l)
  | .tup l => .tup (SV.rens ρ l)
  | .rs l off => .rs (SV.rens ρ l) off
  | .fn f l => .fn f (SV.rens ρ l)
  | v => v
def SV.rens (ρ : List Nat) : List SV → List SV
  | [] => []
  | v :: l => v.ren ρ :: SV.rens ρ l
end

def Chunk.ren (ρ : List Nat) : Chunk → Chunk
  | .box cells ty => .box (SV.rens ρ cells) ty
  | c => c

/-- From found to old numbers: those of the template in order. -/
def foundList (F : Found) : Nat → Nat → Option (List Nat)
  | 0, _ => some []
  | n + 1, i => match assoc i F with
    | some (some c) => (match foundList F n (i + 1) with | some l => some (c :: l) | none => none)
    | _ => none

def idFound : Nat → Nat → Found
  | 0, _ => []
  | n + 1, i => (i, some i) :: idFound n (i + 1)

def upTo : Nat → Nat → List Nat
  | 0, _ => []
  | n + 1, i => i :: upTo n (i + 1)

def place (cs : List Chunk) : List Nat → List Chunk → List Chunk
  | _, [] => cs
  | [], new => app cs new
  | c :: l, k :: ks => place (setNth k cs c) l ks

def slotsOf : Nat → List SV → List (Nat × SV)
  | _, [] => []
  | i, v :: l => (i, v) :: slotsOf (i + 1) l

def resOf : List (Nat × SV) → SV
  | [(_, v)] => v
  | l => .tup (l.map (·.2))

mutual
def KS.flat : KS → Bool
  | .p t => t.flat
  | .rp _ _ => false
  | .rs _ _ => false
  | .agg l => KS.flats l
  | .fn _ l => KS.flats l
  | _ => true
def KS.flats : List KS → Bool
  | [] => true
  | k :: l => bif k.flat then KS.flats l else false
end
def KC.flat : KC → Bool
  | .gone => true
  | .box l _ => KS.flats l
  | .own t => t.flat
  | .map k v => bif k.flat then v.flat else false
def Tm.flat (tm : Tm) : Bool := bif KS.flats (tm.slots.map (·.2)) then allL KC.flat tm.chunks else false

/-- Are a template's slots the results in order? -/
def resShape : Nat → List (Nat × KS) → Bool
  | _, [] => true
  | i, (j, _) :: l => bif Nat.beq i j then resShape (i + 1) l else false

def inB (n c : Nat) : Bool := Nat.blt c n

/-- A call by templates. -/
def callS {R : Type} (ar : Nat) (tmIn tmOut : Tm) (fn : List Dat → (List Dat → Option R) → Option R) (other : Option R) (args : List SV) (st : St) (z0 : List Nat) (cs : List Chunk) (K : KT R) : Option R :=
  match Tm.normSlots st tmIn.slots [] with
  | some (ds, F, z) => (match Tm.normChunks cs tmIn.chunks 0 F with
    | some (es, F, z') => bif foundOk (lenL tmIn.chunks) (app z z') F then (match foundList F (lenL tmIn.chunks) 0 with
      | some l => bif (bif Nat.beq (lenL args) ar then allL (inB (lenL cs)) l else false) then fn (app ds es) fun rs =>
        let st := tmOut.fill rs
        let cs1 := bif tmOut.flat then cs else freeze cs (app z z')
        let ρ := app l (upTo (lenL tmOut.chunks) (lenL cs1))
        K ((resOf st.slots).ren ρ) (place cs1 l (st.chunks.map (Chunk.ren ρ))) (app z0 (bif tmOut.flat then l else app l (app z z'))) else bad 211
      | none => bad 209)
      else bad 210
    | none => other)
  | none => other

def anySub : List SV → Bool
  | [] => false
  | v :: l => bif isSub v then true else anySub l

def callT {R : Type} (ar : Nat) (tmIn tmOut : Tm) (fn : List Dat → (List Dat → Option R) → Option R) (other : Option R) (args : List SV) (cs : List Chunk) (K : KT R) : Option R :=
  bif anySub args then callS ar tmIn tmOut fn other args (settleS tmIn.slots ⟨slotsOf 0 args, cs⟩) (settleZ tmIn.slots ⟨slotsOf 0 args, cs⟩) (settleS tmIn.slots ⟨slotsOf 0 args, cs⟩).chunks K
  else callS ar tmIn tmOut fn other args ⟨slotsOf 0 args, cs⟩ [] cs K

def firstRegion : Code → Nat
  | .region id _ _ => id
  | .seq a b => firstRegion a
  | .cond _ a _ => firstRegion a
  | .block _ a => firstRegion a
  | .loop a => firstRegion a
  | .scope a => firstRegion a
  | _ => 0

/-- The stack at a cut. -/
def stackAt (key : Nat) : Code → List Item → Option (List Item)
  | .region id ops d, k => bif Nat.beq key (2 * id) then some (.code (.region id ops d) :: k) else none
  | .seq a b, k => (match stackAt key a (.code b :: k) with | some s => some s | none => stackAt key b k)
  | .cond _ a b, k => (match stackAt key a k with | some s => some s | none => stackAt key b k)
  | .block id a, k => stackAt key a (.inBlock id :: k)
  | .loop a, k => bif Nat.beq key (2 * firstRegion a + 1) then some (.inLoop a :: k) else stackAt key a (.inLoop a :: k)
  | _, _ => none

/-- How often a cut's number stands in a code. -/
def cnt (key : Nat) : Code → Nat
  | .region id _ _ => bif Nat.beq key (2 * id) then 1 else 0
  | .seq a b => cnt key a + cnt key b
  | .cond _ a b => cnt key a + cnt key b
  | .block _ a => cnt key a
  | .loop a => (bif Nat.beq key (2 * firstRegion a + 1) then 1 else 0) + cnt key a
  | _ => 0

/-- Where the machine stands behind a jump. -/
def start : List Item → List Item
  | .inLoop a :: k => .code a :: .inLoop a :: k
  | s => s

def exitT (id : Nat) : List Item → Option (List Item)
  | [] => none
  | .inBlock j :: k => bif Nat.beq j id then some k else exitT id k
  | _ :: k => exitT id k

section
variable {R : Type} (T : TT) (env : Nat → List SV → List Chunk → KT R → Option R)
variable (n : Nat) (E : Nat → List Item → St → Option R) (fin : St → Option R) (res : List (Nat × Option Nat)) (cuts : List Nat)

/-- What is handed back: slots, and cells that are loaded. -/
def resVals (st : St) : List (Nat × Option Nat) → Option (List SV)
  | [] => some []
  | (t, none) :: l => (match resVals st l with | some vs => some (st.get t :: vs) | none => none)
  | (t, some ty) :: l => (match exLoad T st.chunks ty (st.get t) with
    | .dead => none
    | v => (match resVals st l with | some vs => some (v :: vs) | none => none))

def toFin (st : St) : Option R := match resVals T st res with
  | some vs => fin ⟨slotsOf 0 vs, st.chunks⟩
  | none => bad 220

/-- The machine: a stack of what is to be done. -/
def run : Nat → Bool → List Item → St → Option R
  | 0, _, _, _ => bad 204
  | f + 1, fresh, items, st =>
    match items with
    | [] => toFin T fin res st
    | .inBlock _ :: k => run f false k st
    | .inLoop c :: k => E (2 * firstRegion c + 1) (.inLoop c :: k) st
    | .code c :: k => (match c with
      | .skip => run f fresh k st
      | .label _ => run f fresh k st
      | .region id ops draw =>
        bif (bif fresh then false else memL id cuts) then E (2 * id) (.code c :: k) st
        else exOps T env n ops.toList 0 ops.toList st [] fun st log => bif (bif draw then logOk ops.toList log else true) then run f false k st else bad 206
      | .seq a b => run f fresh (.code a :: .code b :: k) st
      | .cond c a b => (match (opnd st c).bc with
        | some bc => bc.br (run f false (.code a :: k) st) (run f false (.code b :: k) st)
        | none => bad 205)
      | .block id a => run f fresh (.code a :: .inBlock id :: k) st
      | .loop c => E (2 * firstRegion c + 1) (.inLoop c :: k) st
      | .exit id => (match exitT id k with
        | some k' => run f false k' st
        | none => bad 205)
      | .ret => toFin T fin res st
      | _ => bad 207)
    | _ => bad 208
end
end Go.Proofs.YtfkilmmldjajmaaSx
