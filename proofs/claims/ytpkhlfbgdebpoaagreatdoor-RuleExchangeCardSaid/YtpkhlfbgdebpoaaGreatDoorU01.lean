/- The abstract machine: its values, its states, its operations, and what its primitives give. -/
import GoSem.Core.Code
import GoSem.Core.Program
import GoSem.Core.View
import GoSem.Core.Float
namespace A3
open Go
inductive D where
  | A | B | C | E
  deriving DecidableEq, Inhabited
def D.val : D → Nat
  | .A => 0
  | .B => 1
  | .C => 2
  | .E => 3
def D.beq : D → D → Bool
  | .A, .A | .B, .B | .C, .C | .E, .E => true
  | _, _ => false
def D.inc : D → Option D
  | .A => some .B
  | .B => some .C
  | .C => some .E
  | .E => none
def D.of (n : Nat) : D := match n % 4 with
  | 0 => .A
  | 1 => .B
  | 2 => .C
  | _ => .E
inductive Pos where
  | s (a b c d : D) | l (a b c d e f g h : D) | x (n : Nat)
  deriving DecidableEq, Inhabited
def Pos.succ : Pos → Pos
  | .s a b c d => match d.inc with
    | some d => .s a b c d
    | none => match c.inc with
      | some c => .s a b c .A
      | none => match b.inc with
        | some b => .s a b .A .A
        | none => match a.inc with
          | some a => .s a .A .A .A
          | none => .l .A .A .A .A .A .A .A .A
  | .l a b c d e f g h => match h.inc with
    | some h => .l a b c d e f g h
    | none => match g.inc with
      | some g => .l a b c d e f g .A
      | none => match f.inc with
        | some f => .l a b c d e f .A .A
        | none => match e.inc with
          | some e => .l a b c d e .A .A .A
          | none => match d.inc with
            | some d => .l a b c d .A .A .A .A
            | none => match c.inc with
              | some c => .l a b c .A .A .A .A .A
              | none => match b.inc with
                | some b => .l a b .A .A .A .A .A .A
                | none => match a.inc with
                  | some a => .l a .A .A .A .A .A .A .A
                  | none => .x 0
  | .x n => .x (n + 1)
def Pos.toNat : Pos → Nat
  | .s a b c d => 64 * a.val + 16 * b.val + 4 * c.val + d.val + 1
  | .l a b c d e f g h => 16384 * a.val + 4096 * b.val + 1024 * c.val + 256 * d.val + 64 * e.val + 16 * f.val + 4 * g.val + h.val + 257
  | .x n => n + 65793
def Pos.beq : Pos → Pos → Bool
  | .s a b c d, .s a' b' c' d' => d.beq d' && (c.beq c' && (b.beq b' && a.beq a'))
  | .l a b c d e f g h, .l a' b' c' d' e' f' g' h' => h.beq h' && (g.beq g' && (f.beq f' && (e.beq e' && (d.beq d' && (c.beq c' && (b.beq b' && a.beq a'))))))
  | .x n, .x m => Nat.beq n m
  | _, _ => false
def posOf (n : Nat) : Pos := match Nat.blt n 256 with
  | true => .s (D.of (n / 64)) (D.of (n / 16)) (D.of (n / 4)) (D.of n)
  | false => match Nat.blt n 65792 with
    | true => .l (D.of ((n - 256) / 16384)) (D.of ((n - 256) / 4096)) (D.of ((n - 256) / 1024)) (D.of ((n - 256) / 256)) (D.of ((n - 256) / 64)) (D.of ((n - 256) / 16)) (D.of ((n - 256) / 4)) (D.of (n - 256))
    | false => .x (n - 65792)
structure N (α : Type) where
  a : α
  b : α
  c : α
  d : α
def N.all {α : Type} (v : α) : N α := ⟨v, v, v, v⟩
def N.get {α : Type} (n : N α) (k : D) : α := match k with
  | .A => n.a
  | .B => n.b
  | .C => n.c
  | .E => n.d
def N.set {α : Type} (n : N α) (k : D) (v : α) : N α := match n with
  | ⟨a, b, c, d⟩ => match k with
    | .A => ⟨v, b, c, d⟩
    | .B => ⟨a, v, c, d⟩
    | .C => ⟨a, b, v, d⟩
    | .E => ⟨a, b, c, v⟩
abbrev N4 (α : Type) := N (N (N (N α)))
def N4.get {α : Type} (n : N4 α) (a b c d : D) : α := N.get (N.get (N.get (N.get n a) b) c) d
def N4.set {α : Type} (n : N4 α) (a b c d : D) (v : α) : N4 α :=
  N.set n a (N.set (N.get n a) b (N.set (N.get (N.get n a) b) c (N.set (N.get (N.get (N.get n a) b) c) d v)))
def N4.all {α : Type} (v : α) : N4 α := N.all (N.all (N.all (N.all v)))
structure T (α : Type) where
  s : N4 (Option α)
  l : N4 (N4 (Option α))
  x : List (Nat × α)
def T.nil {α : Type} : T α := ⟨N4.all none, N4.all (N4.all none), []⟩
instance {α : Type} : Inhabited (T α) := ⟨T.nil⟩
def assocN {α : Type} (n : Nat) : List (Nat × α) → Option α
  | [] => none
  | p :: l => match Nat.beq p.1 n with | true => some p.2 | false => assocN n l
def T.get {α : Type} (t : T α) (p : Pos) : Option α := match p with
  | .s a b c d => N4.get t.s a b c d
  | .l a b c d e f g h => N4.get (N4.get t.l a b c d) e f g h
  | .x n => assocN n t.x
def T.set {α : Type} (p : Pos) (v : α) (t : T α) : T α := match p with
  | .s a b c d => ⟨N4.set t.s a b c d (some v), t.l, t.x⟩
  | .l a b c d e f g h => ⟨t.s, N4.set t.l a b c d (N4.set (N4.get t.l a b c d) e f g h (some v)), t.x⟩
  | .x n => ⟨t.s, t.l, (n, v) :: t.x⟩
inductive AFn where
  | fn (f : Nat)
  | yield (l : Pos)
  | other
  deriving Inhabited
inductive AV where
  | bool (b : Bool)
  | int (k : IntKind) (n : Int)
  | any (k : IntKind)
  | sym (f i : Nat)
  | byt (c : Nat)
  | flt (k : FloatKind) (n : Nat)
  | ustr
  | str (s : List Nat)
  | ptr (a : Option (Pos × Nat))
  | slice (a : Option (Pos × Nat)) (len cap : Nat) (soft : Option Nat)
  | map (r : Option Pos)
  | func (fn : AFn) (first captured : List AV)
  | nilFunc
  | iface (t : Nat) (v : AV)
  | nilIface
  | agg (cs : List AV)
  | tuple (vs : List AV)
  | dead
  deriving Inhabited
inductive Leaf where
  | bool | int | str | ptr | slice | map | func | iface
  deriving Inhabited, DecidableEq
inductive Cmp where
  | one (l : Leaf)
  | agg (ls : List (Nat × Leaf))
  deriving Inhabited
inductive Opd where
  | tmp (t : Pos)
  | const (v : AV)
  deriving Inhabited
inductive Kd where
  | str | slice | map | arr (n : Nat)
  deriving Inhabited
inductive Bi where
  | len (k : Kd) | cap | append (size : Nat) (zero : List AV) (zeros : Bool) (ty : Option Nat) | copy (size : Nat) | clear (k : Kd) (zero : List AV) | min | max
  | unsafeString (tys : List Nat) | unsafeSliceData
  deriving Inhabited
inductive AOp where
  | mov (x : Opd)
  | pick (c a b : Opd)
  | alloc (ty : Option Nat) (zero : List AV)
  | box (ty : Option Nat) (v : Opd)
  | build (zero : List AV) (parts : List (Nat × Nat × Opd))
  | buildSlice (zero : List AV) (len : Nat) (parts : List (Nat × Nat × Opd))
  | load (n : Option Nat) (addr : Opd)
  | store (n : Nat) (addr val : Opd)
  | nilCheck (x : Opd)
  | bin (op : BinOp) (x y : Opd)
  | eql (neg : Bool) (c : Cmp) (x y : Opd)
  | un (op : UnOp) (x : Opd)
  | convInt (k : IntKind) (x : Opd)
  | toFlt (x : Opd)
  | fltInt (k : IntKind) (x : Opd)
  | convBytes (ty : Option Nat) (x : Opd)
  | toUnsafe (x : Opd)
  | fromUnsafe (tys : List (Nat × Nat × Nat)) (x : Opd)
  | convStr (x : Opd)
  | asStr (x : Opd)
  | makeInterface (t : Nat) (x : Opd)
  | makeFunc (fn : AFn) (first captured : List Opd)
  | makeMap
  | makeSlice (zero : List AV) (len cap : Opd)
  | slice (k : Kd) (size : Nat) (x : Opd) (lo hi mx : Option Opd)
  | fieldAddr (off : Nat) (x : Opd)
  | field (off : Nat) (n : Option Nat) (x : Opd)
  | indexAddr (arr : Option Nat) (size : Nat) (x i : Opd)
  | indexStr (x i : Opd)
  | indexArr (n : Nat) (part : Option Nat) (size : Nat) (x i : Opd)
  | lookup (zero : AV) (l : Cmp) (x k : Opd) (ok : Bool)
  | mapUpdate (l : Cmp) (m k v : Opd)
  | mapEntry (l : Cmp) (zero : AV) (m k : Opd)
  | entryStore (m i v : Opd)
  | typeAssert (concrete : Nat) (zero : AV) (x : Opd) (ok : Bool)
  | extract (x : Opd) (i : Nat)
  | bi (b : Bi) (args : List Opd)
  | call (f : Opd) (args : List Opd)
  | invoke (recv : Opd) (methods : List (Nat × Nat)) (args : List Opd)
  | recover
  | defer (f : Opd) (args : List Opd)
  | panic (x : Opd)
  | bad
  deriving Inhabited
structure Again where
  dst : Pos
  op : AOp
  guard : Option (Pos × Bool)
  deriving Inhabited
structure AOper where
  dst : Option Pos
  op : AOp
  guard : Option (Pos × Bool)
  again : List Again
  kill : List Pos
  deriving Inhabited
inductive ACode where
  | skip
  | region (ops : List AOper)
  | seq (a b : ACode)
  | cond (c : Opd) (thn els : ACode)
  | block (id : Nat) (body : ACode)
  | loop (body : ACode)
  | rangeFunc (f : Opd) (params : List Pos) (assign body : ACode)
  | exit (id : Nat)
  | ret
  | bad
  deriving Inhabited
inductive ARes where
  | tmp (t : Pos)
  | cell (addr : Pos) (n : Option Nat)
  deriving Inhabited
structure AFunc where
  params : List Pos
  results : List ARes
  body : ACode
  deriving Inhabited
inductive LState where | ready | busy | done | exhausted
  deriving DecidableEq, Inhabited
inductive Ex where
  | normal | exit (id : Nat) | ret | panic (v : AV)
  deriving Inhabited
structure ALoop where
  st : LState
  pending : Option Ex
  tmps : T AV
  params : List Pos
  assign : ACode
  body : ACode
  deriving Inhabited
inductive Obj where
  | cells (cs : List AV) (ro : Bool) (grp : Option (Pos × Nat))
  | grp (cur floor : Nat) (ro : Bool)
  | lost
  | map (es : List (AV × AV))
  | loop (l : ALoop)
  deriving Inhabited
structure St where
  heap : T Obj
  next : Pos
  ty : T Nat
  deriving Inhabited
section
variable {α : Type}
def nth : List α → Nat → Option α
  | [], _ => none
  | a :: _, 0 => some a
  | _ :: l, i + 1 => nth l i
def takeN : List α → Nat → List α
  | [], _ => []
  | _ :: _, 0 => []
  | a :: l, n + 1 => a :: takeN l n
def dropN : List α → Nat → List α
  | [], _ => []
  | a :: l, 0 => a :: l
  | _ :: l, n + 1 => dropN l n
def lenN : List α → Nat
  | [] => 0
  | _ :: l => Nat.succ (lenN l)
def app : List α → List α → List α
  | [], m => m
  | a :: l, m => a :: app l m
def atLeast : List α → Nat → Bool
  | _, 0 => true
  | [], _ + 1 => false
  | _ :: l, n + 1 => atLeast l n
def over0 : List α → List α → Option (List α)
  | [], l => some l
  | _ :: _, [] => none
  | v :: vs, _ :: r => match over0 vs r with | none => none | some m => some (v :: m)
def over : List α → Nat → List α → Option (List α)
  | l, 0, vs => over0 vs l
  | [], _ + 1, _ => none
  | a :: l, i + 1, vs => match over l i vs with | none => none | some m => some (a :: m)
def rep (zero : List α) : Nat → List α
  | 0 => []
  | n + 1 => app zero (rep zero n)
end
def eqStr : List Nat → List Nat → Bool
  | [], [] => true
  | a :: x, b :: y => match Nat.beq a b with | true => eqStr x y | false => false
  | _, _ => false
def ltStr : List Nat → List Nat → Bool
  | [], [] => false
  | [], _ :: _ => true
  | _ :: _, [] => false
  | a :: x, b :: y => match Nat.blt a b with
    | true => true
    | false => match Nat.beq a b with | true => ltStr x y | false => false
def fixedB (c : Nat) : Bool := match Nat.blt c 256 with
  | true => true
  | false => !Nat.beq ((c - 256) % 16) 8
def fixedS : List Nat → Bool
  | [] => true
  | c :: l => match fixedB c with | true => fixedS l | false => false
def rival (c d : Nat) : Bool :=
  Nat.blt 255 c && (Nat.blt 255 d && (Nat.beq ((c - 256) % 16) ((d - 256) % 16) && Nat.beq ((c - 256) / 32) ((d - 256) / 32)))
def goesOn (c : Nat) : Nat → List Nat → Bool
  | 0, _ => true
  | n + 1, d :: l => match Nat.beq d (c + 1) with | true => goesOn (c + 1) n l | false => false
  | _ + 1, [] => false
def known (c : Nat) : Bool := match Nat.blt c 256 with
  | true => true
  | false => Nat.ble ((c - 256) % 16) 8
def space : List Nat → Bool
  | 32 :: _ => true
  | _ => false
def eqC : List Nat → List Nat → Option Bool
  | [], [] => some true
  | [], _ :: _ => some false
  | _ :: _, [] => some false
  | c :: x, d :: y => match Nat.beq c d && known c with
    | true => eqC x y
      | false => match Nat.blt c 256 && Nat.blt d 256 with
      | true => some false
      | false => match rival c d with
        | false => none
        | true => match (c - 256) % 16 with
          | 0 => match goesOn c 7 x && goesOn d 7 y with | true => some false | false => none
          | 8 => match space x && space y with | true => some false | false => none
          | _ => none
def ltC : List Nat → List Nat → Option Bool
  | [], [] => some false
  | [], _ :: _ => some true
  | _ :: _, [] => some false
  | c :: x, d :: y => match Nat.beq c d && known c with
    | true => ltC x y
      | false => match Nat.blt c 256 && Nat.blt d 256 with
      | true => some (Nat.blt c d)
      | false => match rival c d with
        | false => none
        | true => match (c - 256) % 16 with
          | 0 => match goesOn c 7 x && goesOn d 7 y with | true => some (Nat.blt c d) | false => none
          | _ => none
def eqK : IntKind → IntKind → Bool
  | .i8, .i8 | .i16, .i16 | .i32, .i32 | .i64, .i64 | .u8, .u8 | .u16, .u16 | .u32, .u32 | .u64, .u64 => true
  | _, _ => false
def natOfBits (k : IntKind) (x : Int) : Nat := (x.emod (2 ^ k.bits)).toNat
def binInt (op : BinOp) (k : IntKind) (a b : Int) : Option AV :=
  match op with
  | .add => some (.int k (k.wrap (a + b)))
  | .sub => some (.int k (k.wrap (a - b)))
  | .mul => some (.int k (k.wrap (a * b)))
  | .quo => if b = 0 then none else some (.int k (k.wrap (a.tdiv b)))
  | .rem => if b = 0 then none else some (.int k (a.tmod b))
  | .and => some (.int k (k.wrap (Nat.land (natOfBits k a) (natOfBits k b))))
  | .or => some (.int k (k.wrap (Nat.lor (natOfBits k a) (natOfBits k b))))
  | .xor => some (.int k (k.wrap (Nat.xor (natOfBits k a) (natOfBits k b))))
  | .andNot => some (.int k (k.wrap (Nat.land (natOfBits k a) (Nat.xor (natOfBits k b) (2 ^ k.bits - 1)))))
  | .eql => some (.bool (decide (a = b)))
  | .neq => some (.bool (!decide (a = b)))
  | .lss => some (.bool (decide (a < b)))
  | .leq => some (.bool (decide (a ≤ b)))
  | .gtr => some (.bool (decide (b < a)))
  | .geq => some (.bool (decide (b ≤ a)))
  | .shl => if b < 0 then none else some (.int k (k.wrap (a * 2 ^ (min b.toNat k.bits))))
  | .shr => if b < 0 then none else some (.int k (a.fdiv (2 ^ (min b.toNat k.bits))))
def isShift : BinOp → Bool
  | .shl | .shr => true
  | _ => false
def boolV (b : Option Bool) : Option AV := match b with | some b => some (.bool b) | none => none
def notV (b : Option Bool) : Option AV := match b with | some b => some (.bool (!b)) | none => none
def leC (a b : List Nat) : Option Bool := match ltC a b with
  | none => none
  | some true => some true
  | some false => eqC a b
def binStr (op : BinOp) (a b : List Nat) : Option AV :=
  match op with
  | .add => match Nat.ble (lenN a + lenN b) 200000000000000000 with
    | true => some (.str (app a b))
    | false => none
  | .eql => boolV (eqC a b)
  | .neq => notV (eqC a b)
  | .lss => boolV (ltC a b)
  | .leq => boolV (leC a b)
  | .gtr => notV (leC a b)
  | .geq => notV (ltC a b)
  | _ => none
def kindV (x : AV) : Option IntKind := match x with
  | .int k _ => some k
  | .any k => some k
  | .sym 0 _ => some .i64
  | .sym _ _ => some .u64
  | .byt _ => some .u8
  | _ => none
def total (op : BinOp) : Bool := match op with
  | .add | .sub | .mul | .and | .or | .xor | .andNot => true
  | _ => false
def binAny (op : BinOp) (x y : AV) : Option AV := match kindV x, kindV y with
  | some k, some k' => match isShift op with
    | true => match y with
      | .int _ (.ofNat _) => some (.any k)
      | _ => none
    | false => match eqK k k' && total op with
      | true => some (.any k)
      | false => none
  | _, _ => none
def symNat (op : BinOp) (k : IntKind) (f i m : Nat) : Option AV := match op with
  | .sub => match eqK k .u64 && (Nat.beq f 1 && Nat.beq m 9223372036854775808) with | true => some (.sym 2 i) | false => none
  | .add => match eqK k .u64 && (Nat.beq f 2 && Nat.beq m 9223372036854775808) with | true => some (.sym 1 i) | false => none
  | .shr => match Nat.beq f 1 && (Nat.beq (m % 8) 0 && Nat.ble m 56) with
    | true => match m / 8 with
      | 0 => some (.sym 1 i)
      | t + 1 => some (.sym (16 + (t + 1)) i)
    | false => none
  | .shl => match Nat.beq m 8 && (Nat.ble 17 f && Nat.ble f 23) with | true => some (.sym (f + 16) i) | false => none
  | _ => none
def symOr (f i g j : Nat) : Option AV := match Nat.beq i j && (Nat.ble 33 f && (Nat.ble f 39 && Nat.beq (f + g) 88)) with
  | true => match Nat.beq f 33 with
    | true => some (.sym 1 i)
    | false => some (.sym (f - 17) i)
  | false => none
def fltV (r : Option Nat) : Option AV := match r with | some r => some (.flt .f64 r) | none => none
def fltBin (op : BinOp) (a b : Nat) : Option AV := match op with
  | .add => fltV (Ieee.double.add a b)
  | .sub => fltV (Ieee.double.sub a b)
  | .mul => fltV (Ieee.double.mul a b)
  | .quo => fltV (Ieee.double.div a b)
  | .eql => some (.bool (Ieee.double.order a b == some .eq))
  | .neq => some (.bool (Ieee.double.order a b != some .eq))
  | .lss => some (.bool (Ieee.double.order a b == some .lt))
  | .leq => some (.bool (Ieee.double.order a b == some .lt || Ieee.double.order a b == some .eq))
  | .gtr => some (.bool (Ieee.double.order a b == some .gt))
  | .geq => some (.bool (Ieee.double.order a b == some .gt || Ieee.double.order a b == some .eq))
  | _ => none
def toFltV (x : AV) : Option AV := match x with
  | .int _ n => some (.flt .f64 (FloatKind.f64.nearest n))
  | _ => none
def fltIntV (k : IntKind) (x : AV) : Option AV := match x with
  | .flt .f64 b => match (FloatKind.f64.decode b).toInt .zero with
    | some n => if k.min ≤ n ∧ n ≤ k.max then some (.int k n) else none
    | none => none
  | _ => none
def binOp (op : BinOp) (x y : AV) : Option AV :=
  match x, y with
  | .int k a, .int k' b => if (eqK k k' || isShift op) then binInt op k a b else none
  | .str a, .str b => binStr op a b
  | .flt .f64 a, .flt .f64 b => fltBin op a b
  | .sym 0 i, .sym 0 j => match Nat.beq (i / 2) (j / 2), op with
    | true, .eql => some (.bool (Nat.beq i j))
    | true, .neq => some (.bool (!Nat.beq i j))
    | true, .lss => some (.bool (Nat.blt i j))
    | true, .leq => some (.bool (Nat.ble i j))
    | true, .gtr => some (.bool (Nat.blt j i))
    | true, .geq => some (.bool (Nat.ble j i))
    | _, _ => binAny op x y
  | .sym f i, .sym g j => match op with
    | .or => match symOr f i g j with
      | some v => some v
      | none => binAny op x y
    | _ => binAny op x y
  | .sym f i, .int k (.ofNat m) => match symNat op k f i m with
    | some v => some v
    | none => binAny op x y
  | .int .u64 (.ofNat 0), .sym 48 i => match op with
    | .or => some (.sym 23 i)
    | _ => binAny op x y
  | _, _ => binAny op x y
def unOp (op : UnOp) (x : AV) : Option AV :=
  match op, x with
  | .neg, .int k n => some (.int k (k.wrap (0 - n)))
  | .not, .bool b => some (.bool (!b))
  | .xor, .int k n => some (.int k (k.wrap (Nat.xor (natOfBits k n) (2 ^ k.bits - 1))))
  | .xor, .any k => some (.any k)
  | _, _ => none
def natOf (v : AV) : Option Nat :=
  match v with
  | .int _ (.ofNat m) => some m
  | _ => none
def St.alloc (s : St) (o : Obj) : St := { s with heap := s.heap.set s.next o, next := s.next.succ }
def St.tag (s : St) (t : Option Nat) : St := match t with
  | none => s
  | some t => { s with ty := s.ty.set s.next t }
def St.has (s : St) (n : Pos) (t : Option Nat) : Option Nat := match t, s.ty.get n with
  | some t, some u => match Nat.beq t u with | true => some t | false => none
  | _, _ => none
def St.put (s : St) (n : Pos) (o : Obj) : St := { s with heap := s.heap.set n o }
def fresh (cs : List AV) : Obj := .cells cs false none
def St.valid (s : St) (g : Option (Pos × Nat)) : Bool :=
  match g with
  | none => true
  | some (g, k) => match s.heap.get g with
    | some (.grp _ floor _) => Nat.ble floor k
    | _ => false
def St.cells (s : St) (n : Pos) : Option (List AV) :=
  match s.heap.get n with
  | some (.cells cs _ g) => match s.valid g with
    | true => some cs
    | false => none
  | _ => none
def AV.cells : AV → List AV
  | .agg cs => cs
  | v => [v]
def AV.flat : AV → Bool
  | .agg _ => false
  | .tuple _ => false
  | .dead => false
  | _ => true
def AV.cells? : AV → Option (List AV)
  | .agg cs => some cs
  | .dead => none
  | .tuple _ => none
  | v => some [v]
def part (cs : List AV) (off : Nat) (n : Option Nat) : Option AV :=
  match n with
  | none => nth cs off
  | some n => match atLeast (dropN cs off) n with
    | true => some (.agg (takeN (dropN cs off) n))
    | false => none
def St.load (s : St) (a : Pos × Nat) (n : Option Nat) : Option AV :=
  match s.cells a.1 with
  | none => none
  | some cs => part cs a.2 n
def St.store (s : St) (a : Pos × Nat) (vs : List AV) : Option St :=
  match s.heap.get a.1 with
  | some (.cells cs false g) => match over cs a.2 vs with
    | none => none
    | some cs => match g with
      | none => some (s.put a.1 (.cells cs false none))
      | some (g, k) => match s.heap.get g with
        | some (.grp cur fl false) => match Nat.beq cur k && Nat.ble fl k with
          | true => some ((s.put a.1 (.cells cs false (some (g, k)))).put g (.grp cur cur false))
          | false => none
        | _ => none
  | _ => none
def eqLeaf (l : Leaf) (x y : AV) : Option Bool :=
  match l, x, y with
  | .bool, .bool a, .bool b => some (a == b)
  | .int, .int j a, .int k b => if eqK j k then some (decide (a = b)) else none
  | .int, .sym 0 i, .sym 0 j => match Nat.beq (i / 2) (j / 2) with | true => some (Nat.beq i j) | false => none
  | .str, .str a, .str b => eqC a b
  | .ptr, .ptr none, .ptr b => some b.isNone
  | .ptr, .ptr (some _), .ptr none => some false
  | .ptr, .ptr (some a), .ptr (some b) => if a.1.beq b.1 then some (Nat.beq a.2 b.2) else none
  | .slice, .slice none _ _ _, .slice b _ _ _ => some b.isNone
  | .slice, .slice (some _) _ _ _, .slice none _ _ _ => some false
  | .map, .map none, .map b => some b.isNone
  | .map, .map (some _), .map none => some false
  | .func, .nilFunc, .nilFunc => some true
  | .func, .nilFunc, .func _ _ _ => some false
  | .func, .func _ _ _, .nilFunc => some false
  | .iface, .nilIface, .nilIface => some true
  | .iface, .nilIface, .iface _ _ => some false
  | .iface, .iface _ _, .nilIface => some false
  | _, _, _ => none
def eqAll (x y : List AV) : List (Nat × Leaf) → Option Bool
  | [] => some true
  | (i, l) :: r => match nth x i, nth y i with
    | some a, some b => match eqLeaf l a b with
      | some true => eqAll x y r
      | some false => some false
      | none => none
    | _, _ => none
def eqBy (c : Cmp) (x y : AV) : Option Bool := match c with
  | .one l => eqLeaf l x y
  | .agg ls => match x, y with
    | .agg a, .agg b => eqAll a b ls
    | _, _ => none
def byteV (c : Nat) : AV := match Nat.blt c 256 with
  | true => .int .u8 (.ofNat c)
  | false => match Nat.blt ((c - 256) % 16) 8 with
    | true => .byt c
    | false => .any .u8
def byteCells : List Nat → List AV
  | [] => []
  | b :: l => byteV b :: byteCells l
def cellBytes : List AV → Option (List Nat)
  | [] => some []
  | .int .u8 (.ofNat b) :: l => match Nat.blt b 256, cellBytes l with | true, some m => some (b :: m) | _, _ => none
  | .byt c :: l => match cellBytes l with | some m => some (c :: m) | none => none
  | .any .u8 :: l => match cellBytes l with | some m => some (265 :: m) | none => none
  | _ => none
def St.first (s : St) (size : Nat) (v : AV) (n : Nat) : Option (List AV) :=
  match v with
  | .slice a _ _ _ => match n with
    | 0 => some []
    | n + 1 => match a with
      | none => none
      | some a => match s.cells a.1 with
        | none => none
        | some cs => match atLeast (dropN cs a.2) ((n + 1) * size) with
          | true => some (takeN (dropN cs a.2) ((n + 1) * size))
          | false => none
  | .str b => match Nat.beq size 1 && fixedS b with
    | true => some (byteCells (takeN b n))
    | false => none
  | _ => none
def lenOf (v : AV) : Option Nat :=
  match v with
  | .slice _ n _ _ => some n
  | .str s => match fixedS s with | true => some (lenN s) | false => none
  | _ => none
def St.allocSoft (s : St) (cs : List AV) : St :=
  (s.alloc (.cells cs false (some (s.next.succ, 0)))).alloc (.grp 0 0 false)
def appendGo (s : St) (size : Nat) (ty : Option Nat) (base : Option (Pos × Nat)) (sLen sCap : Nat) (soft : Option Nat) (n : Nat) (new : List AV) : Option (AV × St) :=
  match n with
  | 0 => match Nat.ble sLen sCap with
    | true => some (.slice base sLen sCap soft, s)
    | false => none
  | n + 1 => match Nat.ble (sLen + (n + 1)) sCap with
    | true => match base with
      | none => none
      | some a => match s.store (a.1, a.2 + sLen * size) new with
        | some s => some (.slice base (sLen + (n + 1)) sCap soft, s)
        | none => none
    | false => match Nat.ble (sLen + (n + 1)) 1000000000, s.first size (.slice base sLen sCap soft) sLen with
      | false, _ => none
      | true, none => none
      | true, some old => match soft, base with
        | none, _ => some (.slice (some (s.next, 0)) (sLen + (n + 1)) (sLen + (n + 1)) (some size), (s.tag ty).allocSoft (app old new))
        | some sz, some a => match s.heap.get a.1 with
          | some (.cells cs false (some (g, k))) => match s.heap.get g with
            | some (.grp cur floor false) => match Nat.beq cur k && (Nat.ble floor k && (Nat.beq (a.2 + sLen * size) (lenN cs) && (!Nat.beq sLen 0 && Nat.beq sz size))) with
              | true => some (.slice (some (s.next, 0)) (sLen + (n + 1)) (sLen + (n + 1)) (some size),
                  ((s.tag (s.has a.1 ty)).put g (.grp (cur + 1) floor false)).alloc (.cells (app old new) false (some (g, cur + 1))))
              | false => none
            | _ => none
          | _ => none
        | some _, none => none
def St.append (s : St) (size : Nat) (zero : List AV) (zeros : Bool) (ty : Option Nat) (l x : AV) : Option (AV × St) :=
  match l with
  | .slice base sLen sCap soft => match zeros with
    | true => match natOf x with
      | some n => match Nat.ble n 100000 with
        | true => appendGo s size ty base sLen sCap soft n (rep zero n)
        | false => none
      | none => none
    | false => match lenOf x with
      | none => none
      | some n => match s.first size x n with
        | none => none
        | some new => appendGo s size ty base sLen sCap soft n new
  | _ => none
def bound (v : Option AV) (d : Nat) (most : Nat) : Option Nat :=
  match v with
  | none => some d
  | some v => match natOf v with
    | none => none
    | some n => match Nat.ble n most with
      | true => some n
      | false => none
def softOk (soft : Option Nat) (size : Nat) : Bool := match soft with
  | none => true
  | some sz => Nat.beq sz size
def sliceRes (a : Option (Pos × Nat)) (size l h m : Nat) (soft : Option Nat) : AV :=
  .slice (match Nat.beq m l with
    | true => a
    | false => match a with | none => none | some a => some (a.1, a.2 + l * size)) (h - l) (m - l) soft
def sliceOf (k : Kd) (size : Nat) (x : AV) (lo hi mx : Option AV) : Option AV :=
  match k, x with
  | .str, .str b => match fixedS b with
    | false => none
    | true => match mx, bound hi (lenN b) (lenN b) with
      | none, some h => match bound lo 0 h with
        | none => none
        | some l => some (.str (takeN (dropN b l) (h - l)))
      | _, _ => none
  | .slice, .slice a len cap soft => match bound mx cap cap with
    | none => none
    | some m => match bound hi len m with
      | none => none
      | some h => match bound lo 0 h with
        | none => none
        | some l => match softOk soft size with
          | true => some (sliceRes a size l h m (match mx with | none => soft | some _ => none))
          | false => none
  | .arr n, .ptr (some a) => match bound mx n n with
    | none => none
    | some m => match bound hi n m with
      | none => none
      | some h => match bound lo 0 h with
        | none => none
        | some l => some (sliceRes (some a) size l h m none)
  | _, _ => none
def keyOk (c : Cmp) (k : AV) : Bool := match c with
  | .one _ => true
  | .agg ls => match k with
    | .agg a => Nat.beq (lenN a) (lenN ls)
    | _ => false
def eqKey (c : Cmp) (x y : AV) : Option Bool := match keyOk c x && keyOk c y with
  | true => eqBy c x y
  | false => none
def mapFind (l : Cmp) (k : AV) : List (AV × AV) → Option (Option AV)
  | [] => some none
  | p :: r => match eqKey l k p.1 with
    | none => none
    | some true => some (some p.2)
    | some false => mapFind l k r
def mapPut (l : Cmp) (k v : AV) : List (AV × AV) → Option (List (AV × AV))
  | [] => some [(k, v)]
  | p :: r => match eqKey l k p.1 with
    | none => none
    | some true => some ((k, v) :: r)
    | some false => match mapPut l k v r with | none => none | some m => some (p :: m)
def fill (cs : List AV) : List (Nat × Nat × AV) → Option (List AV)
  | [] => some cs
  | (i, k, v) :: r => match v.cells? with
    | none => none
    | some vs => match Nat.beq (lenN vs) k with
      | false => none
      | true => match over cs i vs with | none => none | some cs => fill cs r
abbrev Tmps := T AV
def Opd.eval (t : Tmps) (x : Opd) : AV :=
  match x with
  | .tmp i => match t.get i with | some v => v | none => .dead
  | .const v => v
def evals (t : Tmps) : List Opd → List AV
  | [] => []
  | x :: l => x.eval t :: evals t l
def evalParts (t : Tmps) : List (Nat × Nat × Opd) → List (Nat × Nat × AV)
  | [] => []
  | (i, k, x) :: l => (i, k, x.eval t) :: evalParts t l
def evalO (t : Tmps) (x : Option Opd) : Option AV := match x with | none => none | some x => some (x.eval t)
def pureR (v : Option AV) (s : St) : Option (AV × St) := match v with | none => none | some v => some (v, s)
def newCells (s : St) (cs : List AV) : Option (AV × St) := some (.ptr (some (s.next, 0)), s.alloc (fresh cs))
def pickV (c a b : AV) : Option AV := match c with
  | .bool true => some a
  | .bool false => some b
  | _ => none
def buildV (cs : Option (List AV)) : Option AV := match cs with | none => none | some cs => some (.agg cs)
def buildSliceR (cs : Option (List AV)) (len : Nat) (s : St) : Option (AV × St) := match cs with
  | none => none
  | some cs => some (.slice (some (s.next, 0)) len len none, s.alloc (fresh cs))
def loadR (n : Option Nat) (a : AV) (s : St) : Option (AV × St) := match a with
  | .ptr (some a) => pureR (s.load a n) s
  | _ => none
def storeR (n : Nat) (a v : AV) (s : St) : Option (AV × St) := match a, v.cells? with
  | .ptr (some a), some vs => match Nat.beq (lenN vs) n with
    | true => match n with
      | 0 => some (.dead, s)
      | _ + 1 => match s.store a vs with | none => none | some s => some (.dead, s)
    | false => none
  | _, _ => none
def boxR (v : Option (List AV)) (s : St) : Option (AV × St) := match v with
  | none => none
  | some cs => newCells s cs
def nilCheckV (x : AV) : Option AV := match x with
  | .ptr (some a) => some (.ptr (some a))
  | .func .other _ _ => none
  | .func f a b => some (.func f a b)
  | .map r => some (.map r)
  | .slice a l c f => some (.slice a l c f)
  | _ => none
def eqlV (neg : Bool) (b : Option Bool) : Option AV := match b with
  | none => none
  | some b => match neg with | true => some (.bool (!b)) | false => some (.bool b)
def convIntV (k : IntKind) (x : AV) : Option AV := match x with
  | .int _ n => some (.int k (k.wrap n))
  | .sym 0 i => match k with
    | .u64 => some (.sym 2 i)
    | .i64 => some (.sym 0 i)
    | k => some (.any k)
  | .sym f i => match k with
    | .u64 => some (.sym f i)
    | .i64 => match Nat.beq f 2 with
      | true => some (.sym 0 i)
      | false => some (.any .i64)
    | .u8 => match Nat.beq f 1, Nat.ble 17 f && Nat.ble f 23 with
      | true, _ => some (.byt (256 + 16 * i + 7))
      | false, true => some (.byt (256 + 16 * i + (23 - f)))
      | false, false => some (.any .u8)
    | k => some (.any k)
  | .byt c => match k with
    | .u64 => some (.sym (48 + (c - 256) % 16) ((c - 256) / 16))
    | .u8 => some (.byt c)
    | k => some (.any k)
  | x => match kindV x with
    | some _ => some (.any k)
    | none => none
def convBytesR (ty : Option Nat) (x : AV) (s : St) : Option (AV × St) := match x with
  | .str b => match fixedS b with
    | true => some (.slice (some (s.next, 0)) (lenN b) (lenN b) (some 1), (s.tag ty).allocSoft (byteCells b))
    | false => none
  | _ => none
def bytesStr (cs : Option (List AV)) : Option AV := match cs with
  | none => none
  | some cs => match cellBytes cs with | none => none | some b => some (.str b)
def convStrV (x : AV) (s : St) : Option AV := match x with
  | .slice a len c f => bytesStr (s.first 1 (.slice a len c f) len)
  | _ => none
def asStrV (x : AV) : Option AV := match x with
  | .str b => some (.str b)
  | _ => none
def makeSliceR (zero : List AV) (l c : Option Nat) (s : St) : Option (AV × St) := match l, c with
  | some l, some c => match Nat.ble l c && Nat.ble c 100000 with
    | true => some (.slice (some (s.next, 0)) l c none, s.alloc (fresh (rep zero c)))
    | false => none
  | _, _ => none
def fieldAddrV (off : Nat) (x : AV) : Option AV := match x with
  | .ptr (some a) => some (.ptr (some (a.1, a.2 + off)))
  | _ => none
def fieldV (off : Nat) (n : Option Nat) (x : AV) : Option AV := match x with
  | .agg cs => part cs off n
  | _ => none
def elemAddr (a : Option (Pos × Nat)) (len size i : Nat) : Option AV := match Nat.blt i len, a with
  | true, some a => some (.ptr (some (a.1, a.2 + i * size)))
  | _, _ => none
def indexAddrV (arr : Option Nat) (size : Nat) (x : AV) (i : Option Nat) : Option AV := match i, x, arr with
  | some i, .slice a len _ _, none => elemAddr a len size i
  | some i, .ptr a, some n => elemAddr a n size i
  | _, _, _ => none
def indexStrV (x : AV) (i : Option Nat) : Option AV := match i, x with
  | some i, .str b => match fixedS b, nth b i with
    | true, some c => some (byteV c)
    | _, _ => none
  | _, _ => none
def indexArrV (n : Nat) (p : Option Nat) (size : Nat) (x : AV) (i : Option Nat) : Option AV := match i, x with
  | some i, .agg cs => match Nat.blt i n with | true => part cs (i * size) p | false => none
  | _, _ => none
def okV (ok : Bool) (v : AV) (b : Bool) : AV := match ok with | true => .tuple [v, .bool b] | false => v
def foundV (zero : AV) (ok : Bool) (r : Option (Option AV)) : Option AV := match r with
  | none => none
  | some none => some (okV ok zero false)
  | some (some v) => some (okV ok v true)
def mapOf (s : St) (r : Pos) : Option (List (AV × AV)) := match s.heap.get r with
  | some (.map es) => some es
  | _ => none
def lookupV (zero : AV) (l : Cmp) (x k : AV) (ok : Bool) (s : St) : Option AV := match x with
  | .map none => match keyOk l k with
    | true => some (okV ok zero false)
    | false => none
  | .map (some r) => match keyOk l k, mapOf s r with
    | true, some es => foundV zero ok (mapFind l k es)
    | _, _ => none
  | _ => none
def mapUpdateR (l : Cmp) (m k v : AV) (s : St) : Option (AV × St) := match m with
  | .map (some r) => match keyOk l k, mapOf s r with
    | true, some es => match mapPut l k v es with
      | none => none
      | some es => some (.dead, s.put r (.map es))
    | _, _ => none
  | _ => none
def mapIdx (l : Cmp) (k : AV) : List (AV × AV) → Nat → Option (Option (Nat × AV))
  | [], _ => some none
  | p :: r, i => match eqKey l k p.1 with
    | none => none
    | some true => some (some (i, p.2))
    | some false => mapIdx l k r (i + 1)
def mapSet (v : AV) : List (AV × AV) → Nat → Option (List (AV × AV))
  | [], _ => none
  | p :: r, 0 => some ((p.1, v) :: r)
  | p :: r, i + 1 => match mapSet v r i with | none => none | some m => some (p :: m)
def mapEntryR (l : Cmp) (zero : AV) (m k : AV) (s : St) : Option (AV × St) := match m with
  | .map (some r) => match keyOk l k, mapOf s r with
    | true, some es => match mapIdx l k es 0 with
      | none => none
      | some (some (i, v)) => match mapPut l k v es with
        | none => none
        | some es => some (.tuple [v, .int .i64 (.ofNat i)], s.put r (.map es))
      | some none => some (.tuple [zero, .int .i64 (.ofNat (lenN es))], s.put r (.map (app es [(k, zero)])))
    | _, _ => none
  | _ => none
def entryStoreR (m i v : AV) (s : St) : Option (AV × St) := match m, natOf i with
  | .map (some r), some i => match mapOf s r with
    | none => none
    | some es => match mapSet v es i with
      | none => none
      | some es => some (.dead, s.put r (.map es))
  | _, _ => none
def typeAssertV (ty : Nat) (zero : AV) (x : AV) (ok : Bool) : Option AV := match x with
  | .iface u v => match Nat.beq u ty, ok with
    | true, _ => some (okV ok v true)
    | false, true => some (.tuple [zero, .bool false])
    | false, false => none
  | .nilIface => match ok with | true => some (.tuple [zero, .bool false]) | false => none
  | _ => none
def extractV (x : AV) (i : Nat) : Option AV := match x with
  | .tuple vs => nth vs i
  | _ => none
def lenV (k : Kd) (s : St) (x : AV) : Option AV := match k, x with
  | .str, .str b => match fixedS b with | true => some (.int .i64 (.ofNat (lenN b))) | false => none
  | .slice, .slice _ n _ _ => some (.int .i64 (.ofNat n))
  | .map, .map none => some (.int .i64 (.ofNat 0))
  | .map, .map (some r) => match mapOf s r with | none => none | some es => some (.int .i64 (.ofNat (lenN es)))
  | _, _ => none
def capV (x : AV) : Option AV := match x with
  | .slice _ _ c none => some (.int .i64 (.ofNat c))
  | _ => none
def minmax (mx : Bool) (x : AV) : List AV → Option AV
  | [] => some x
  | y :: l => match x, y with
    | .int k a, .int j b => if eqK k j then
        (if a < b then (match mx with | true => minmax mx (.int j b) l | false => minmax mx (.int k a) l)
        else (match mx with | true => minmax mx (.int k a) l | false => minmax mx (.int j b) l)) else none
    | .sym 0 i, .sym 0 j => match Nat.beq (i / 2) (j / 2) with
      | false => none
      | true => match Nat.blt i j with
        | true => (match mx with | true => minmax mx (.sym 0 j) l | false => minmax mx (.sym 0 i) l)
        | false => (match mx with | true => minmax mx (.sym 0 i) l | false => minmax mx (.sym 0 j) l)
    | _, _ => none
def minmaxL (mx : Bool) (l : List AV) : Option AV := match l with
  | [] => none
  | x :: r => minmax mx x r
def copyR (size : Nat) (d x : AV) (s : St) : Option (AV × St) := match d with
  | .slice base dLen _ _ => match lenOf x with
    | none => none
    | some n => match s.first size x (Nat.min n dLen) with
      | none => none
      | some cs => match Nat.min n dLen, base with
        | 0, _ => some (.int .i64 (.ofNat 0), s)
        | _ + 1, none => none
        | m + 1, some a => match s.store a cs with | none => none | some s => some (.int .i64 (.ofNat (m + 1)), s)
  | _ => none
def clearR (k : Kd) (zero : List AV) (x : AV) (s : St) : Option (AV × St) := match k, x with
  | .slice, .slice _ 0 _ _ => some (.tuple [], s)
  | .slice, .slice (some a) (n + 1) _ _ => match s.store a (rep zero (n + 1)) with | none => none | some s => some (.tuple [], s)
  | .map, .map none => some (.tuple [], s)
  | _, _ => none
def sliceDataV (x : AV) : Option AV := match x with
  | .slice none _ _ _ => some (.ptr none)
  | .slice (some a) _ (_ + 1) _ => some (.ptr (some a))
  | _ => none
def freeze (s : St) (n : Pos) : Option St := match s.heap.get n with
  | some (.cells cs _ g) => match g with
    | none => some (s.put n (.cells cs true none))
    | some (g, _) => match s.heap.get g with
      | some (.grp cur floor _) => some (s.put g (.grp cur floor true))
      | _ => none
  | _ => none
def hasTy (tys : List Nat) (t : Option Nat) : Bool := match t with
  | none => false
  | some t => tys.any (Nat.beq t)
def St.owns (s : St) (n : Pos) : Bool := match s.heap.get n with
  | some (.cells _ false _) => true
  | _ => false
def unsafeStringR (tys : List Nat) (p : AV) (n : Option Nat) (s : St) : Option (AV × St) := match n, p with
  | some 0, .ptr _ => some (.str [], s)
  | some (n + 1), .ptr (some a) => match bytesStr (s.first 1 (.slice (some a) (n + 1) (n + 1) none) (n + 1)) with
    | none => none
    | some v => match hasTy tys (s.ty.get a.1) && (s.owns a.1 && Nat.ble (n + 1) 1000000000) with
      | false => none
      | true => match freeze s a.1 with
        | none => none
        | some s => some (v, s)
  | _, _ => none
def toUnsafeV (x : AV) (s : St) : Option AV := match x with
  | .ptr (some a) => match s.cells a.1 with
    | none => none
    | some cs => match Nat.blt a.2 (lenN cs) with | true => some (.ptr (some a)) | false => none
  | .ptr none => some (.ptr none)
  | _ => none
def isAt (t off len : Nat) : List (Nat × Nat × Nat) → Bool
  | [] => false
  | (u, o, n) :: l => match Nat.beq t u && (Nat.beq off o && Nat.beq len n) with | true => true | false => isAt t off len l
def fromUnsafeV (tys : List (Nat × Nat × Nat)) (x : AV) (s : St) : Option AV := match x with
  | .ptr (some a) => match s.heap.get a.1, s.ty.get a.1 with
    | some (.cells cs _ none), some t => match isAt t a.2 (lenN cs) tys with
      | true => some (.ptr (some a))
      | false => none
    | _, _ => none
  | .ptr none => some (.ptr none)
  | _ => none
def biR (b : Bi) (args : List AV) (s : St) : Option (AV × St) :=
  match b, args with
  | .len k, [x] => pureR (lenV k s x) s
  | .cap, [x] => pureR (capV x) s
  | .append size zero zeros ty, [l, x] => s.append size zero zeros ty l x
  | .copy size, [d, x] => copyR size d x s
  | .clear k zero, [x] => clearR k zero x s
  | .min, args => pureR (minmaxL false args) s
  | .max, args => pureR (minmaxL true args) s
  | .unsafeString tys, [p, n] => unsafeStringR tys p (natOf n) s
  | .unsafeSliceData, [x] => pureR (sliceDataV x) s
  | _, _ => none
def step (o : AOp) (t : Tmps) (s : St) : Option (AV × St) :=
  match o with
  | .mov x => some (x.eval t, s)
  | .pick c a b => pureR (pickV (c.eval t) (a.eval t) (b.eval t)) s
  | .alloc ty zero => newCells (s.tag ty) zero
  | .box ty v => boxR (v.eval t).cells? (s.tag ty)
  | .build zero parts => pureR (buildV (fill zero (evalParts t parts))) s
  | .buildSlice zero len parts => buildSliceR (fill zero (evalParts t parts)) len s
  | .load n a => loadR n (a.eval t) s
  | .store n a v => storeR n (a.eval t) (v.eval t) s
  | .nilCheck x => pureR (nilCheckV (x.eval t)) s
  | .bin op x y => pureR (binOp op (x.eval t) (y.eval t)) s
  | .eql neg c x y => pureR (eqlV neg (eqBy c (x.eval t) (y.eval t))) s
  | .un op x => pureR (unOp op (x.eval t)) s
  | .convInt k x => pureR (convIntV k (x.eval t)) s
  | .toFlt x => pureR (toFltV (x.eval t)) s
  | .fltInt k x => pureR (fltIntV k (x.eval t)) s
  | .convBytes ty x => convBytesR ty (x.eval t) s
  | .toUnsafe x => pureR (toUnsafeV (x.eval t) s) s
  | .fromUnsafe ty x => pureR (fromUnsafeV ty (x.eval t) s) s
  | .convStr x => pureR (convStrV (x.eval t) s) s
  | .asStr x => pureR (asStrV (x.eval t)) s
  | .makeInterface ty x => some (.iface ty (x.eval t), s)
  | .makeFunc fn first captured => some (.func fn (evals t first) (evals t captured), s)
  | .makeMap => some (.map (some s.next), s.alloc (.map []))
  | .makeSlice zero l c => makeSliceR zero (natOf (l.eval t)) (natOf (c.eval t)) s
  | .slice k size x lo hi mx => pureR (sliceOf k size (x.eval t) (evalO t lo) (evalO t hi) (evalO t mx)) s
  | .fieldAddr off x => pureR (fieldAddrV off (x.eval t)) s
  | .field off n x => pureR (fieldV off n (x.eval t)) s
  | .indexAddr arr size x i => pureR (indexAddrV arr size (x.eval t) (natOf (i.eval t))) s
  | .indexStr x i => pureR (indexStrV (x.eval t) (natOf (i.eval t))) s
  | .indexArr n p size x i => pureR (indexArrV n p size (x.eval t) (natOf (i.eval t))) s
  | .lookup zero l x k ok => pureR (lookupV zero l (x.eval t) (k.eval t) ok s) s
  | .mapUpdate l m k v => mapUpdateR l (m.eval t) (k.eval t) (v.eval t) s
  | .mapEntry l z m k => mapEntryR l z (m.eval t) (k.eval t) s
  | .entryStore m i v => entryStoreR (m.eval t) (i.eval t) (v.eval t) s
  | .typeAssert ty zero x ok => pureR (typeAssertV ty zero (x.eval t) ok) s
  | .extract x i => pureR (extractV (x.eval t) i) s
  | .bi b args => biR b (evals t args) s
  | _ => none
structure ADefer where
  f : AV
  args : List AV
  deriving Inhabited
structure Ctx where
  pend : Option (Option AV)
  round : Option Pos
  deriving Inhabited
def ctxN : Ctx := { pend := none, round := none }
def ctxR (l : Pos) : Ctx := { pend := none, round := some l }
def roundOk (x : Ctx) (s : St) : Bool := match x.round with
  | none => true
  | some l => match s.heap.get l with
    | some (.loop _) => true
    | _ => false
inductive Out where
  | ret (v : AV)
  | panic (v : AV)
  deriving Inhabited
structure Fr where
  tmps : Tmps
  defers : List ADefer
  recd : Bool
  deriving Inhabited
def setParams : List Pos → List AV → Tmps → Option Tmps
  | [], [], t => some t
  | p :: ps, v :: vs, t => setParams ps vs (t.set p v)
  | _, _, _ => none
def resultOf (s : St) (t : Tmps) (r : ARes) : Option AV :=
  match r with
  | .tmp i => some (match t.get i with | some v => v | none => .dead)
  | .cell a n => match t.get a with
    | some (.ptr (some a)) => s.load a n
    | _ => none
def resultsOf (s : St) (t : Tmps) : List ARes → Option (List AV)
  | [] => some []
  | r :: l => match resultOf s t r with
    | none => none
    | some v => match resultsOf s t l with | none => none | some vs => some (v :: vs)
def oneOf (vs : List AV) : AV := match vs with
  | [v] => v
  | vs => .tuple vs
def eqOA : Option (Pos × Nat) → Option (Pos × Nat) → Bool
  | none, none => true
  | some a, some b => a.1.beq b.1 && Nat.beq a.2 b.2
  | _, _ => false
mutual
def same : AV → AV → Bool
  | .bool x, .bool y => x == y
  | .int j x, .int k y => eqK j k && decide (x = y)
  | .sym f x, .sym g y => Nat.beq f g && Nat.beq x y
  | .byt x, .byt y => Nat.beq x y
  | .ustr, .ustr => true
  | .flt .f64 x, .flt .f64 y => Nat.beq x y
  | .any j, .any k => eqK j k
  | .str x, .str y => eqStr x y
  | .ptr x, .ptr y => eqOA x y
  | .slice x l c f, .slice y m d g => eqOA x y && (Nat.beq l m && (Nat.beq c d && f == g))
  | .map none, .map none => true
  | .map (some x), .map (some y) => x.beq y
  | .func (.fn f) x y, .func (.fn g) z w => Nat.beq f g && (sames x z && sames y w)
  | .nilFunc, .nilFunc => true
  | .nilIface, .nilIface => true
  | .iface t v, .iface u w => Nat.beq t u && same v w
  | .agg x, .agg y => sames x y
  | .tuple x, .tuple y => sames x y
  | _, _ => false
def sames : List AV → List AV → Bool
  | [], [] => true
  | x :: xs, y :: ys => match same x y with | true => sames xs ys | false => false
  | _, _ => false
end
def wanted (t : Tmps) (g : Option (Pos × Bool)) : Option Bool := match g with
  | none => some true
  | some (g, w) => match t.get g with
    | some (.bool b) => some (b == w)
    | some (.tuple []) => some false
    | _ => none
def again (t : Tmps) (s : St) : List Again → Bool
  | [] => true
  | r :: l => match wanted t r.guard with
    | none => false
    | some false => again t s l
    | some true => match step r.op t s, t.get r.dst with
      | some v, some u => match same v.1 u with | true => again t s l | false => false
      | _, _ => false
def putDst (t : Tmps) (d : Option Pos) (v : AV) : Tmps := match d with
  | none => t
  | some d => t.set d v
def killAll (t : Tmps) : List Pos → Tmps
  | [] => t
  | p :: l => killAll (t.set p .dead) l
def findM (t : Nat) : List (Nat × Nat) → Option Nat
  | [] => none
  | (u, f) :: l => match Nat.beq u t with | true => some f | false => findM t l
structure Prog where
  func : Nat → Option AFunc
  prim : Nat → Option (List AV → St → Option (AV × St))
def primR (P : Prog) (g : Nat) (args : List AV) (x : Ctx) (s : St) : Option (AV × St) := match P.prim g with
  | none => none
  | some p => match x.pend with
    | none => p args s
    | some _ => none
inductive Req where
  | code (c : ACode) (x : Ctx) (fr : Fr) (s : St)
  | ops (l : List AOper) (x : Ctx) (fr : Fr) (s : St)
  | apply (f : AV) (args : List AV) (x : Ctx) (s : St)
  | call (g : Nat) (args : List AV) (x : Ctx) (s : St)
  | leave (f : AFunc) (p : Option AV) (ds : List ADefer) (fr : Fr) (s : St)
inductive Res where
  | ex (e : Ex) (fr : Fr) (s : St)
  | out (o : Out) (recd : Bool) (s : St)
def den (P : Prog) : Nat → Req → Option Res
  | 0, _ => none
  | n + 1, r =>
    match r with
    | .code c x fr s =>
      match c with
      | .skip => some (.ex .normal fr s)
      | .region ops => den P n (.ops ops x fr s)
      | .seq a b => match den P n (.code a x fr s) with
        | some (.ex .normal fr s) => den P n (.code b x fr s)
        | r => r
      | .cond c a b => match c.eval fr.tmps with
        | .bool true => den P n (.code a x fr s)
        | .bool false => den P n (.code b x fr s)
        | _ => none
      | .block id b => match den P n (.code b x fr s) with
        | some (.ex (.exit j) fr s) => if j = id then some (.ex .normal fr s) else some (.ex (.exit j) fr s)
        | r => r
      | .loop b => match den P n (.code b x fr s) with
        | some (.ex .normal fr s) => den P n (.code (.loop b) x fr s)
        | r => r
      | .rangeFunc f params assign body =>
        match roundOk x s with
        | false => none
        | true => match den P n (.apply (f.eval fr.tmps) [.func (.yield s.next) [] []] ctxN
            (s.alloc (.loop { st := .ready, pending := none, tmps := fr.tmps, params, assign, body }))) with
        | some (.out (.panic v) _ s') => some (.ex (.panic v) fr s')
        | some (.out (.ret _) _ s') => match s'.heap.get s.next with
          | some (.loop r) => match r.st with
            | .busy => none
            | _ => some (.ex (match r.pending with | none => .normal | some e => e) fr (s'.put s.next (.loop { r with st := .exhausted })))
          | _ => none
        | _ => none
      | .exit id => some (.ex (.exit id) fr s)
      | .ret => some (.ex .ret fr s)
      | .bad => none
    | .ops l x fr s =>
      match l with
      | [] => some (.ex .normal fr s)
      | o :: l => match wanted fr.tmps o.guard with
        | none => none
        | some false => den P n (.ops l x { fr with tmps := putDst fr.tmps o.dst (.tuple []) } s)
        | some true =>
          let next (fr : Fr) (v : AV) (s : St) : Option Res :=
            match again (putDst fr.tmps o.dst v) s o.again with
            | true => den P n (.ops l x { fr with tmps := putDst fr.tmps o.dst v } s)
            | false => none
          match o.op with
          | .call f args => match den P n (.apply (f.eval fr.tmps) (evals fr.tmps args) ctxN s) with
            | some (.out (.ret v) _ s) => next fr v s
            | some (.out (.panic v) _ s) => some (.ex (.panic v) { fr with tmps := killAll fr.tmps o.kill } s)
            | _ => none
          | .invoke r ms args => match r.eval fr.tmps with
            | .iface t v => match findM t ms with
              | some f => match den P n (.apply (.func (.fn f) [] []) (v :: evals fr.tmps args) ctxN s) with
                | some (.out (.ret v) _ s) => next fr v s
                | some (.out (.panic v) _ s) => some (.ex (.panic v) { fr with tmps := killAll fr.tmps o.kill } s)
                | _ => none
              | none => none
            | _ => none
          | .recover => match x.round, x.pend, fr.recd with
            | some _, _, _ => none
            | none, some (some v), false => next { fr with recd := true } v s
            | none, _, _ => next fr .nilIface s
          | .defer f args => match x.round, f.eval fr.tmps with
            | none, .func _ _ _ => next { fr with defers := { f := f.eval fr.tmps, args := evals fr.tmps args } :: fr.defers } .dead s
            | _, _ => none
          | .panic v => match v.eval fr.tmps with
            | .iface t v => some (.ex (.panic (.iface t v)) { fr with tmps := killAll fr.tmps o.kill } s)
            | _ => none
          | op => match step op fr.tmps s with
            | some (v, s) => next fr v s
            | none => none
    | .apply f args x s =>
      match f with
      | .func (.fn g) first captured => den P n (.call g (app first (app args captured)) x s)
      | .func (.yield l) first _ => match x.pend, s.heap.get l with
        | none, some (.loop r0) => match r0.st with
          | .ready => match setParams r0.params (app first args) r0.tmps with
            | none => none
            | some t => match den P n (.code r0.assign (ctxR l) { tmps := t, defers := [], recd := false } s) with
              | some (.ex .normal fr s) => match s.heap.get l with
                | some (.loop r) => match r.st with
                  | .ready => match den P n (.code r0.body (ctxR l) fr (s.put l (.loop { r with st := .busy }))) with
                    | some (.ex e _ s) => match s.heap.get l with
                      | some (.loop r) => match e with
                        | .panic v => some (.out (.panic v) false s)
                        | .normal => some (.out (.ret (.bool true)) false (s.put l (.loop { r with st := .ready, pending := none })))
                        | e => some (.out (.ret (.bool false)) false (s.put l (.loop { r with st := .done, pending := some e })))
                      | _ => none
                    | _ => none
                  | _ => none
                | _ => none
              | _ => none
          | _ => none
        | _, _ => none
      | _ => none
    | .call g args x s =>
      match primR P g args x s with
      | some (v, s) => some (.out (.ret v) false s)
      | none => match P.func g with
        | none => none
        | some f => match setParams f.params args .nil with
          | none => none
          | some t => match den P n (.code f.body x { tmps := t, defers := [], recd := false } s) with
            | some (.ex e fr s) => match e with
              | .panic v => den P n (.leave f (some v) fr.defers fr s)
              | .exit _ => none
              | _ => den P n (.leave f none fr.defers fr s)
            | _ => none
    | .leave f p ds fr s =>
      match ds with
      | [] => match p with
        | some v => some (.out (.panic v) fr.recd s)
        | none => match resultsOf s fr.tmps f.results with
          | none => none
          | some vs => some (.out (.ret (oneOf vs)) fr.recd s)
      | d :: ds => match den P n (.apply d.f d.args { pend := some p, round := none } s) with
        | some (.out (.ret _) recd s) => den P n (.leave f (if recd then none else p) ds fr s)
        | _ => none
end A3
namespace A3
open Go
def sha0 : List Nat := [0x6a09e667,0xbb67ae85,0x3c6ef372,0xa54ff53a,0x510e527f,0x9b05688c,0x1f83d9ab,0x5be0cd19]
def shaK : List Nat := [0x428a2f98,0x71374491,0xb5c0fbcf,0xe9b5dba5,0x3956c25b,0x59f111f1,0x923f82a4,0xab1c5ed5,0xd807aa98,0x12835b01,0x243185be,0x550c7dc3,0x72be5d74,0x80deb1fe,0x9bdc06a7,0xc19bf174,0xe49b69c1,0xefbe4786,0x0fc19dc6,0x240ca1cc,0x2de92c6f,0x4a7484aa,0x5cb0a9dc,0x76f988da,0x983e5152,0xa831c66d,0xb00327c8,0xbf597fc7,0xc6e00bf3,0xd5a79147,0x06ca6351,0x14292967,0x27b70a85,0x2e1b2138,0x4d2c6dfc,0x53380d13,0x650a7354,0x766a0abb,0x81c2c92e,0x92722c85,0xa2bfe8a1,0xa81a664b,0xc24b8b70,0xc76c51a3,0xd192e819,0xd6990624,0xf40e3585,0x106aa070,0x19a4c116,0x1e376c08,0x2748774c,0x34b0bcb5,0x391c0cb3,0x4ed8aa4a,0x5b9cca4f,0x682e6ff3,0x748f82ee,0x78a5636f,0x84c87814,0x8cc70208,0x90befffa,0xa4506ceb,0xbef9a3f7,0xc67178f2]
def u32s : List Nat → List AV
  | [] => []
  | n :: l => .int .u32 (.ofNat n) :: u32s l
def constantsV : AV := .tuple [.agg (u32s sha0), .agg (u32s shaK)]
def constantsPrim (l : List AV) (s : St) : Option (AV × St) := match l with
  | [] => some (constantsV, s)
  | _ => none
def noEscapePrim (l : List AV) (s : St) : Option (AV × St) := match l with
  | [v] => some (v, s)
  | _ => none
def insertPrim (size : Nat) (args : List AV) (s : St) : Option (AV × St) :=
  match args with
  | [.slice (some (p, 0)) len cap (some sz), .int .i64 (.ofNat i), .slice (some b) 1 vc none] =>
    match Nat.blt i len && (Nat.beq sz size && (Nat.ble len cap && Nat.ble len 100000)) with
    | false => none
    | true => match s.heap.get p with
      | some (.cells cs false (some (g, k))) => match s.heap.get b.1 with
        | some (.cells _ false none) => match s.heap.get g, s.first size (.slice (some b) 1 vc none) 1 with
          | some (.grp cur floor false), some vs => match Nat.beq cur k && (Nat.ble floor k && Nat.beq (len * size) (lenN cs)) with
            | true => some (.slice (some (s.next, 0)) (len + 1) (len + 1) (some size),
                (s.put g (.grp (cur + 1) (cur + 1) false)).alloc (.cells (app (takeN cs (i * size)) (app vs (dropN cs (i * size)))) false (some (g, cur + 1))))
            | false => none
          | _, _ => none
        | _ => none
      | _ => none
  | _ => none
def lits : List Nat → Bool
  | [] => true
  | c :: l => match Nat.blt c 256 with | true => lits l | false => false
def writtenPrim (args : List AV) (s : St) : Option (AV × St) := match args with
  | [.slice (some a) 1 c f] => match s.first 3 (.slice (some a) 1 c f) 1 with
    | some [.int .i64 (.ofNat k), .sym 0 i, .str []] => match Nat.blt k 10 with | true => some (.str [48 + k, 32, 256 + 16 * i + 8, 32, 48, 32], s) | false => none
    | _ => none
  | _ => none
def afterPrim (args : List AV) (s : St) : Option (AV × St) := match args with
  | [.str c] => match lits c, fixedS c && Nat.ble (lenN c) 1000000 with | false, true => some (.tuple [.ustr, .dead], s) | _, _ => none
  | _ => none
def anyBytes : Nat → List AV
  | 0 => []
  | n + 1 => .any .u8 :: anyBytes n
def sumPrim (args : List AV) (s : St) : Option (AV × St) := match args with
  | [.str c] => match fixedS c, lenN c with
    | true, 9 => some (.agg (anyBytes 16), s)
    | true, 10 => some (.agg (anyBytes 16), s)
    | true, 30 => some (.agg (anyBytes 16), s)
    | true, 57 => some (.agg (anyBytes 16), s)
    | _, _ => none
  | _ => none
def sanePrim (l : List AV) (s : St) : Option (AV × St) := match l with
  | [] => some (.bool true, s)
  | _ => none
def sqrtPrim (args : List AV) (s : St) : Option (AV × St) := match args with
  | [.flt .f64 x] => match Ieee.double.sqrt x with | some r => some (.flt .f64 r, s) | none => none
  | _ => none
def bitsPrim (args : List AV) (s : St) : Option (AV × St) := match args with
  | [.flt .f64 x] => some (.int .u64 (.ofNat x), s)
  | _ => none
def fromBitsPrim (args : List AV) (s : St) : Option (AV × St) := match args with
  | [.int .u64 (.ofNat x)] => some (.flt .f64 x, s)
  | _ => none
end A3
