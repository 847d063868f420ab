/- How code is compiled for the abstract machine, and how its values are related to the values of the model. -/
import Derived.Test.YtpkhlfbgdebpoaaGreatDoorU01
import GoSem.Core.Region
import GoSem.Core.Layout
import GoSem.Dispatch
import Derived.Calls
import Derived.Laws.World
namespace A3
open Go
def bytesL (s : ByteArray) : List Nat := s.data.toList.map (·.toNat)
def constFlat (v : Value) : Option AV :=
  match v with
  | .bool b => some (.bool b)
  | .int k n => some (.int k n)
  | .string s => some (.str (bytesL s))
  | .float .f64 b => some (.flt .f64 b)
  | .pointer none => some (.ptr none)
  | .slice none 0 0 => some (.slice none 0 0 none)
  | .map none => some (.map none)
  | .nilFunc => some .nilFunc
  | .nilIface => some .nilIface
  | _ => none
def constFlats : List Value → Option (List AV)
  | [] => some []
  | v :: l => match constFlat v, constFlats l with
    | some a, some m => some (a :: m)
    | _, _ => none
def constOf (v : Value) : Option AV :=
  match v with
  | .agg cs => match constFlats cs.toList with | some l => some (.agg l) | none => none
  | .tuple cs => match cs.toList with | [] => some .dead | _ => none
  | v => constFlat v
section
variable (P : Program) (N : Nat)
def cOpd : Operand → Option Opd
  | .tmp t => if t < N then some (.tmp (posOf t)) else none
  | .const v => match constOf v with | some a => some (.const a) | none => none
  | .global _ => none
  | .func f => some (.const (.func (.fn f) [] []))
def cOpds : List Operand → Option (List Opd)
  | [] => some []
  | x :: l => match cOpd N x, cOpds l with
    | some a, some m => some (a :: m)
    | _, _ => none
def cOpdO : Option Operand → Option (Option Opd)
  | none => some none
  | some x => match cOpd N x with | some a => some (some a) | none => none
def zeroC (t : TypeId) : Option AV := match P.info? t with
  | some i => match i.zero with | some v => constOf v | none => none
  | none => none
def zeroCells (t : TypeId) : Option (List AV) := match P.info? t with
  | some i => match i.zero with | some v => constFlats v.cells.toList | none => none
  | none => none
def sizeC (t : TypeId) : Option Nat := match P.info? t with | some i => some i.size | none => none
def aggC (t : TypeId) : Option (Option Nat) := match P.underlying t with
  | some (.struct _) | some (.array _ _) => match sizeC P t with | some n => some (some n) | none => none
  | some _ => some none
  | none => none
def leafC (d : TypeDesc) : Option Leaf := match d with
  | .bool => some .bool
  | .int _ => some .int
  | .string => some .str
  | .slice _ => some .slice
  | .map _ _ => some .map
  | .func _ _ _ => some .func
  | .interface _ => some .iface
  | _ => none
def elemC (t : TypeId) : Option TypeId := match P.underlying t with
  | some (.slice e) => some e
  | _ => none
def cParts (place : Nat → Option (Nat × Nat)) : List (Nat × Operand) → Option (List (Nat × Nat × Opd))
  | [] => some []
  | (i, x) :: l => match place i, cOpd N x, cParts place l with
    | some o, some a, some m => some ((o.1, o.2, a) :: m)
    | _, _, _ => none
end
end A3
namespace A3
open Go
section
variable (P : Program) (N : Nat)
def opd1 (f : Opd → AOp) (x : Operand) : Option AOp := match cOpd N x with | some a => some (f a) | none => none
def opd2 (f : Opd → Opd → AOp) (x y : Operand) : Option AOp := match cOpd N x, cOpd N y with | some a, some b => some (f a b) | _, _ => none
def opd3 (f : Opd → Opd → Opd → AOp) (x y z : Operand) : Option AOp := match cOpd N x, cOpd N y, cOpd N z with | some a, some b, some c => some (f a b c) | _, _, _ => none
def fieldC (fs : Array Field) (i : Nat) : Option (Nat × Nat) := match fs[i]? with
  | some f => match sizeC P f.type with | some k => some (f.offset, k) | none => none
  | none => none
def fieldsC (fs : List Field) : Bool := fs.all fun f => (sizeC P f.type).isSome
def isFlatT (d : TypeDesc) : Bool := match d with
  | .struct _ | .array _ _ => false
  | _ => true
def leaves1 (t : TypeId) : Option Leaf := match P.underlying t with
  | some d => leafC d
  | none => none
def leavesF (r : Nat → TypeId → Option (List (Nat × Leaf))) (off : Nat) : List Field → Option (List (Nat × Leaf))
  | [] => some []
  | f :: l => if f.name = "_" then leavesF r off l else match r (off + f.offset) f.type, leavesF r off l with
    | some a, some b => some (a ++ b)
    | _, _ => none
def leavesA (r : Nat → TypeId → Option (List (Nat × Leaf))) (off k : Nat) (e : TypeId) (len : Nat) : Nat → Option (List (Nat × Leaf))
  | 0 => some []
  | m + 1 => match r (off + (len - (m + 1)) * k) e, leavesA r off k e len m with
    | some a, some b => some (a ++ b)
    | _, _ => none
def leavesC : Nat → Nat → TypeId → Option (List (Nat × Leaf))
  | 0, _, _ => none
  | n + 1, off, t =>
    match P.underlying t with
    | some (.struct fs) => if P.stoodInHeld t then none else match sizeC P t with
      | none => none
      | some m => if fs.toList.all (fun f => match sizeC P f.type with | some k => Nat.ble (f.offset + k) m && Nat.blt f.offset m | none => false) then leavesF (leavesC n) off fs.toList else none
    | some (.array len e) => match sizeC P e, sizeC P t with
      | some k, some m => if Nat.ble (len * k) m && Nat.blt 0 k then leavesA (leavesC n) off k e len len else none
      | _, _ => none
    | some d => match leafC d with | some l => some [(off, l)] | none => none
    | none => none
def emptyIface (d : TypeDesc) : Bool := match d with
  | .interface ms => ms.isEmpty
  | _ => true
def cEql (neg : Bool) (t : TypeId) (x y : Operand) : Option AOp :=
  match P.underlying t with
  | some (.struct _) | some (.array _ _) => if P.eqGuardType P.depth t then none else match leavesC P 50 0 t with
    | some l => opd2 N (.eql neg (.agg l)) x y
    | none => none
  | some d => match leafC d with
    | some .int | some .str => none
    | some .iface => match y with
      | .const .nilIface => opd2 N (.eql neg (.one .iface)) x y
      | _ => none
    | some l => opd2 N (.eql neg (.one l)) x y
    | none => match d with
      | .pointer e => match sizeC P e with
        | some (_ + 1) => opd2 N (.eql neg (.one .ptr)) x y
        | _ => none
      | _ => none
  | none => none
def holdsB : Nat → TypeId → Bool
  | 0, _ => false
  | n + 1, t => match P.info? t with
    | some { desc := .named s _, .. } => s = "strings.Builder" || (match P.underlying t with | some (.struct fs) => fs.any fun f => holdsB n f.type | _ => false)
    | _ => false
def tagC (t : TypeId) : Option Nat := if holdsB P 4 t then some t else none
def tagsAt (u : TypeId) : List (Nat × Nat × Nat) := ((List.range P.types.size).filter (holdsB P 4)).flatMap fun t => match sizeC P t with
  | some (k + 1) => ((List.range (k + 1)).filter fun off => liesAt P P.depth t 1 off u 1).map fun off => (t, off, k + 1)
  | _ => []
def bytesTypes : List Nat := (List.range P.types.size).filter fun e => match P.underlying e, sizeC P e with | some (.int .u8), some 1 => true | _, _ => false
def cBin (op : BinOp) (t : TypeId) (x y : Operand) : Option AOp :=
  match op with
  | .eql => match P.underlying t with
    | some (.int _) | some .string | some (.float .f64) => opd2 N (.bin .eql) x y
    | _ => cEql P N false t x y
  | .neq => match P.underlying t with
    | some (.int _) | some .string | some (.float .f64) => opd2 N (.bin .neq) x y
    | _ => cEql P N true t x y
  | op => opd2 N (.bin op) x y
def cConvert (src dst : TypeId) (x : Operand) : Option AOp :=
  match P.underlying src, P.underlying dst with
  | some (.int _), some (.int k) => opd1 N (.convInt k) x
  | some (.int _), some (.float .f64) => opd1 N .toFlt x
  | some (.float .f64), some (.int k) => opd1 N (.fltInt k) x
  | some .string, some .string => opd1 N .asStr x
  | some .string, some (.slice e) => match P.underlying e, P.info? e with
    | some (.int .u8), some _ => opd1 N (.convBytes (some e)) x
    | _, _ => none
  | some (.slice e), some .string => match P.underlying e with
    | some (.int .u8) => opd1 N .convStr x
    | _ => none
  | some (.pointer t), some .unsafePointer => match sizeC P t with
    | some (_ + 1) => opd1 N .toUnsafe x
    | _ => none
  | some .unsafePointer, some (.pointer u) => match sizeC P u with
    | some (_ + 1) => opd1 N (.fromUnsafe (tagsAt P u)) x
    | _ => none
  | _, _ => none
def cSliceOp (t : TypeId) (x : Operand) (lo hi mx : Option Operand) : Option AOp :=
  match cOpd N x, cOpdO N lo, cOpdO N hi, cOpdO N mx with
  | some x, some lo, some hi, some mx => match mx, hi with
    | some _, none => none
    | _, _ => match P.underlying t with
      | some .string => match mx with | none => some (.slice .str 1 x lo hi none) | some _ => none
      | some (.slice e) => match sizeC P e with | some k => some (.slice .slice k x lo hi mx) | none => none
      | some (.array n e) => match sizeC P e with | some k => some (.slice (.arr n) k x lo hi mx) | none => none
      | _ => none
  | _, _, _, _ => none
def cIndexAddr (t : TypeId) (x i : Operand) : Option AOp :=
  match P.underlying t with
  | some (.slice e) => match sizeC P e with | some k => opd2 N (.indexAddr none k) x i | none => none
  | some (.array n e) => match sizeC P e with | some k => opd2 N (.indexAddr (some n) k) x i | none => none
  | _ => none
def cIndex (t : TypeId) (x i : Operand) : Option AOp :=
  match P.underlying t with
  | some .string => opd2 N .indexStr x i
  | some (.array n e) => match sizeC P e, aggC P e with | some k, some p => opd2 N (.indexArr n p k) x i | _, _ => none
  | _ => none
def keyLeaves : List Field → Nat → Option (List (Nat × Leaf))
  | [], _ => some []
  | f :: fs, i => if f.name = "_" || f.offset ≠ i then none else match P.underlying f.type, keyLeaves fs (i + 1) with
    | some (.int _), some m => some ((i, .int) :: m)
    | some .string, some m => some ((i, .str) :: m)
    | some .bool, some m => some ((i, .bool) :: m)
    | _, _ => none
def cKey (t : TypeId) : Option Cmp := match P.underlying t with
  | some (.int _) => some (.one .int)
  | some .string => some (.one .str)
  | some (.struct fs) => match leavesC P 50 0 t, keyLeaves P fs.toList 0 with
    | some l, some m => if l = m then some (.agg l) else none
    | _, _ => none
  | _ => none
def cLookup (t : TypeId) (x k : Operand) (ok : Bool) : Option AOp :=
  match P.underlying t with
  | some (.map kt e) => match cKey P kt, zeroC P e with
    | some l, some z => match cOpd N x, cOpd N k with
      | some x, some k => some (.lookup z l x k ok)
      | _, _ => none
    | _, _ => none
  | _ => none
def cMapUpdate (t : TypeId) (m k v : Operand) : Option AOp :=
  match P.underlying t with
  | some (.map kt _) => match cKey P kt with
    | some l => opd3 N (.mapUpdate l) m k v
    | none => none
  | _ => none
def cMapEntry (t : TypeId) (m k : Operand) : Option AOp :=
  match P.underlying t with
  | some (.map kt e) => match cKey P kt, zeroC P e with
    | some l, some z => opd2 N (.mapEntry l z) m k
    | _, _ => none
  | _ => none
def methodsC (name : String) : List (Nat × Nat) := (List.range P.types.size).filterMap fun t => match P.info? t with
  | some i => match i.methods.find? (·.name == name) with
    | some m => if m.path.isEmpty then match m.func, P.underlying t with
        | some (_, _), some (.pointer _) => none
        | some (f, false), some _ => some (t, f)
        | _, _ => none
      else none
    | none => none
  | none => none
def cTypeAssert (x : Operand) (a : TypeId) (ok : Bool) : Option AOp :=
  match P.underlying a with
  | some (.interface _) => none
  | some _ => match zeroC P a with
    | some z => opd1 N (fun x => .typeAssert a z x ok) x
    | none => none
  | none => none
def cBuiltin (b : Builtin) (ts : Array TypeId) (args : List Operand) : Option AOp :=
  match cOpds N args with
  | none => none
  | some as => match b, ts[0]? with
    | .len, some t => match P.underlying t with
      | some .string => some (.bi (.len .str) as)
      | some (.slice _) => some (.bi (.len .slice) as)
      | some (.map _ _) => some (.bi (.len .map) as)
      | _ => none
    | .cap, some t => match P.underlying t with
      | some (.slice _) => some (.bi .cap as)
      | _ => none
    | .append, some t => match P.underlying t, ts[1]? with
      | some (.slice e), some u => match P.info? e, zeroCells P e, P.underlying u with
        | some i, some z, some d => if i.bytes ≤ 100000 ∧ z.length = i.size then some (.bi (.append i.size z (match d with | .int _ => true | _ => false) (match P.underlying e with | some (.int .u8) => some e | _ => none)) as) else none
        | _, _, _ => none
      | _, _ => none
    | .copy, some t => match elemC P t with
      | some e => match sizeC P e with | some k => some (.bi (.copy k) as) | none => none
      | none => none
    | .clear, some t => match P.underlying t with
      | some (.slice e) => match zeroCells P e with | some z => some (.bi (.clear .slice z) as) | none => none
      | some (.map _ _) => some (.bi (.clear .map []) as)
      | _ => none
    | .min, _ => some (.bi .min as)
    | .max, _ => some (.bi .max as)
    | .recover, _ => some .recover
    | .panic, _ => match as with | [x] => some (.panic x) | _ => none
    | .unsafeSliceData, _ => some (.bi .unsafeSliceData as)
    | .unsafeString, some t => match P.underlying t with
      | some (.pointer e) => match P.underlying e with
        | some (.int .u8) => some (.bi (.unsafeString (bytesTypes P)) as)
        | _ => none
      | _ => none
    | _, _ => none
def cCall (c : Call) : Option AOp :=
  match c.callee with
  | .value f => match cOpd N f, cOpds N c.args.toList with
    | some f, some as => some (.call f as)
    | _, _ => none
  | .invoke r name => match cOpd N r, cOpds N c.args.toList with
    | some r, some as => some (.invoke r (methodsC P name) as)
    | _, _ => none
  | .builtin b => cBuiltin P N b c.argTypes c.args.toList
def cOp (o : Op) : Option AOp :=
  match o with
  | .move x | .assign x => opd1 N .mov x
  | .pick c a b => opd3 N .pick c a b
  | .alloc e => match zeroCells P e with | some z => some (.alloc (tagC P e) z) | none => none
  | .box e x => opd1 N (.box (tagC P e)) x
  | .build t parts => match zeroCells P t, P.underlying t with
    | some z, some (.struct fs) => if !fieldsC P fs.toList then none else match cParts N (fieldC P fs) parts.toList with | some ps => some (.build z ps) | none => none
    | some z, some (.array _ e) => match sizeC P e with
      | some k => match cParts N (fun i => some (i * k, k)) parts.toList with | some ps => some (.build z ps) | none => none
      | none => none
    | _, _ => none
  | .buildSlice t len parts => match elemC P t with
    | some e => match zeroCells P e, sizeC P e with
      | some z, some k => if len * k ≤ 16777216 ∧ z.length = k then
          match cParts N (fun i => some (i * k, k)) parts.toList with | some ps => some (.buildSlice (rep z len) len ps) | none => none
        else none
      | _, _ => none
    | none => none
  | .load t a => match aggC P t with | some n => opd1 N (.load n) a | none => none
  | .store t a v => match sizeC P t with | some n => opd2 N (.store n) a v | none => none
  | .nilCheck x => opd1 N .nilCheck x
  | .binOp op t x y _ => cBin P N op t x y
  | .unOp op _ x => opd1 N (.un op) x
  | .convert src dst x => cConvert P N src dst x
  | .makeInterface t x => match P.underlying t with
    | some (.interface _) => none
    | some _ => opd1 N (.makeInterface t) x
    | none => none
  | .makeFunc fn a b => match fn with
    | .func f => match cOpds N a.toList, cOpds N b.toList with
      | some a, some b => some (.makeFunc (.fn f) a b)
      | _, _ => none
    | _ => none
  | .makeMap t r => match r, P.underlying t with
    | none, some (.map _ _) => some .makeMap
    | some (.const (.int _ _)), some (.map _ _) => some .makeMap
    | _, _ => none
  | .makeSlice t l c => match elemC P t with
    | some e => match P.info? e, zeroCells P e with
      | some i, some z => if i.bytes ≤ 100000 ∧ z.length = i.size then opd2 N (.makeSlice z) l c else none
      | _, _ => none
    | none => none
  | .slice t x lo hi mx => cSliceOp P N t x lo hi mx
  | .fieldAddr t x f => match P.underlying t with
    | some (.struct fs) => match fs[f]? with
      | some f => match sizeC P f.type with
        | some (_ + 1) => opd1 N (.fieldAddr f.offset) x
        | _ => none
      | none => none
    | _ => none
  | .field t x f => match P.underlying t with
    | some (.struct fs) => match fs[f]? with
      | some f => match aggC P f.type with | some n => opd1 N (.field f.offset n) x | none => none
      | none => none
    | _ => none
  | .indexAddr t x i => cIndexAddr P N t x i
  | .index t x i => cIndex P N t x i
  | .lookup t x k ok => cLookup P N t x k ok
  | .mapUpdate t m k v => cMapUpdate P N t m k v
  | .mapEntry t m k => cMapEntry P N t m k
  | .entryStore _ m i v => opd3 N .entryStore m i v
  | .typeAssert x _ a ok => cTypeAssert P N x a ok
  | .extract x i => opd1 N (fun x => .extract x i) x
  | .call c => cCall P N c
  | .defer c => match c.callee with
    | .value f => match cOpd N f, cOpds N c.args.toList with
      | some f, some as => some (.defer f as)
      | _, _ => none
    | _ => none
  | .panic x => opd1 N .panic x
  | _ => none
end
end A3
namespace A3
open Go
section
variable (P : Program) (N : Nat)
def tmpC (t : Nat) : Option Pos := if t < N then some (posOf t) else none
def tmpCO : Option Nat → Option (Option Pos)
  | none => some none
  | some t => match tmpC N t with | some p => some (some p) | none => none
def guardTmp (ops : Array Oper) (o : Oper) : Option (Option (Nat × Bool)) :=
  match o.guard with
  | none => some none
  | some (j, w) => match ops[j]? with
    | some oj => match oj.dst with | some d => some (some (d, w)) | none => none
    | none => none
def guardC (ops : Array Oper) (o : Oper) : Option (Option (Pos × Bool)) :=
  match guardTmp ops o with
  | none => none
  | some none => some none
  | some (some (d, w)) => match tmpC N d with | some p => some (some (p, w)) | none => none
def operC (ops : Array Oper) (o : Oper) : Option AOper :=
  match cOp P N o.op, tmpCO N o.dst, guardC N ops o with
  | some a, some d, some g => some { dst := d, op := a, guard := g, again := [], kill := [] }
  | _, _, _ => none
def opersC (ops : Array Oper) : List Oper → Option (List AOper)
  | [] => some []
  | o :: l => match operC P N ops o, opersC ops l with
    | some a, some m => some (a :: m)
    | _, _ => none
def AOp.main : AOp → Bool
  | .store .. | .mapEntry .. | .entryStore .. | .mapUpdate .. | .call .. | .invoke .. | .recover | .defer .. | .panic .. | .convBytes .. => true
  | .bi b _ => match b with | .len _ | .cap | .min | .max | .unsafeSliceData => false | _ => true
  | _ => false
def AOp.reads : AOp → Bool
  | .load .. | .lookup .. | .convStr _ | .toUnsafe _ | .fromUnsafe .. => true
  | .bi b _ => match b with | .len _ => true | _ => false
  | _ => false
def AOp.odd : AOp → Bool
  | .recover | .defer .. => true
  | _ => false
def opdsT : List Operand → List Nat
  | [] => []
  | .tmp t :: l => t :: opdsT l
  | _ :: l => opdsT l
def usesT (ops : Array Oper) (o : Oper) : List Nat :=
  opdsT o.op.operands.toList ++ (match guardTmp ops o with | some (some (d, _)) => [d] | _ => [])
def namesT (ops : Array Oper) (o : Oper) : List Nat := o.dst.toList ++ usesT ops o
structure RInfo where
  oper : Oper
  aop : AOper
  before : Nat
  uses : List Nat
  deriving Inhabited
def infos (ops : Array Oper) : List Oper → List AOper → List Nat → List RInfo
  | o :: l, a :: m, b :: r => { oper := o, aop := a, before := b, uses := usesT ops o } :: infos ops l m r
  | _, _, _ => []
def rankOf (mains : List Nat) (b : Nat) : Nat := (mains.filter fun m => b.testBit m).length
def mainsOf (l : List RInfo) : List Nat := (l.zipIdx.filter fun p => p.1.aop.op.main).map (·.2)
def floatsOf (l : List RInfo) (mains : List Nat) (k : Nat) : List Nat :=
  (l.zipIdx.filter fun p => !p.1.aop.op.main && Nat.beq (rankOf mains p.1.before) k).map (·.2)
def planFrom (l : List RInfo) (mains : List Nat) : Nat → List Nat → List Nat
  | k, [] => floatsOf l mains k
  | k, m :: ms => floatsOf l mains k ++ m :: planFrom l mains (k + 1) ms
def planOf (l : List RInfo) : List Nat := planFrom l (mainsOf l) 0 (mainsOf l)
def ahead (l : List RInfo) (i j : Nat) : Bool := match l[j]? with
  | some x => x.before.testBit i
  | none => false
def planOk (l : List RInfo) : List Nat → List Nat → Bool
  | _, [] => true
  | done, j :: r =>
    (match l[j]? with
    | none => false
    | some x =>
      !done.contains j && !x.aop.op.odd && Nat.blt x.before (2 ^ l.length) &&
      ((List.range l.length).all fun i => !x.before.testBit i || done.contains i) &&
      (done.all fun i => match l[i]? with | some y => !y.aop.op.main || x.before.testBit i | none => false) &&
      ((List.range l.length).all fun i => Nat.beq i j || match l[i]? with
        | some y => (match x.oper.dst with
          | some d => !(y.oper.dst == some d) && (!(y.uses.contains d) || x.before.testBit i || y.before.testBit j)
          | none => true)
        | none => false)) && planOk l (j :: done) r
def againOf (l : List RInfo) (done : List Nat) (x : RInfo) : List Nat → Option (List Again)
  | [] => some []
  | i :: r => match againOf l done x r, l[i]? with
    | some m, some y => if y.aop.op.reads && !x.before.testBit i then
        match y.aop.dst, done.all (fun k => match l[k]? with
            | some z => (match z.oper.dst with | some d => !y.uses.contains d || y.before.testBit k | none => true)
            | none => false) with
        | some d, true => some ({ dst := d, op := y.aop.op, guard := y.aop.guard } :: m)
        | _, _ => none
      else some m
    | _, _ => none
def killOf (l : List RInfo) (x : RInfo) : List Nat → List Pos
  | [] => []
  | i :: r => match l[i]? with
    | some y => if x.before.testBit i then killOf l x r else y.aop.dst.toList ++ killOf l x r
    | none => killOf l x r
def planned (l : List RInfo) : List Nat → List Nat → Option (List AOper)
  | _, [] => some []
  | done, j :: r => match l[j]?, planned l (j :: done) r with
    | some x, some m => match x.aop.op.main with
      | false => some (x.aop :: m)
      | true => match againOf l done x done with
        | some re => some ({ x.aop with again := re, kill := killOf l x done } :: m)
        | none => none
    | _, _ => none
def cRegion (ops : Array Oper) (draw : Bool) : Option (List AOper) :=
  match opersC P N ops ops.toList with
  | none => none
  | some as =>
    if !draw then some as else
    let l := infos ops ops.toList as (Region.before ops).toList
    let plan := planOf l
    if Nat.beq l.length ops.size && Nat.beq plan.length ops.size && planOk l [] plan then planned l [] plan else none
def cTmps : List Nat → Option (List Pos)
  | [] => some []
  | t :: l => match tmpC N t, cTmps l with | some p, some m => some (p :: m) | _, _ => none
def cCode : Code → Option ACode
  | .skip => some .skip
  | .label _ => some .skip
  | .region _ ops draw => match cRegion P N ops draw with | some l => some (.region l) | none => some .bad
  | .seq a b => match cCode a, cCode b with | some a, some b => some (.seq a b) | _, _ => none
  | .cond c a b => match cOpd N c, cCode a, cCode b with | some c, some a, some b => some (.cond c a b) | _, _, _ => none
  | .block id b => match cCode b with | some b => some (.block id b) | none => none
  | .loop b => match cCode b with | some b => some (.loop b) | none => none
  | .rangeFunc f ps a b => match cOpd N f, cTmps N ps.toList, cCode a, cCode b with
    | some f, some ps, some a, some b => some (.rangeFunc f ps a b)
    | _, _, _, _ => none
  | .exit id => some (.exit id)
  | .scope b => cCode b
  | .goto _ => some .bad
  | .ret => some .ret
  | .refuse _ => some .bad
def cRes : List ResultVar → Option (List ARes)
  | [] => some []
  | .tmp t :: l => match tmpC N t, cRes l with | some p, some m => some (.tmp p :: m) | _, _ => none
  | .cell a t :: l => match tmpC N a, aggC P t, cRes l with | some p, some n, some m => some (.cell p n :: m) | _, _, _ => none
end
def cFunc (P : Program) (f : Func) : Option AFunc :=
  match f.body with
  | none => none
  | some c =>
    let N := f.ntmps
    let k := f.params.size + f.nfree
    if !(Nat.ble k N && Nat.ble N 1000000) then none else
    match cCode P N c, cRes P N f.results.toList with
    | some b, some r => some { params := (List.range k).map posOf, results := r, body := b }
    | _, _ => none
end A3
namespace A3
open Go
theorem D.val_a : D.val .A = 0 := rfl
theorem D.val_le (k : D) : k.val ≤ 3 := by cases k <;> decide
theorem D.val_inj {j k : D} (h : j.val = k.val) : j = k := by cases j <;> cases k <;> first | rfl | cases h
theorem D.inc_some {j k : D} (h : j.inc = some k) : k.val = j.val + 1 := by cases j <;> cases h <;> rfl
theorem D.inc_none {j : D} (h : j.inc = none) : j.val = 3 := by cases j <;> first | rfl | cases h
theorem D.beq_iff {j k : D} : j.beq k = true ↔ j = k := by cases j <;> cases k <;> simp [D.beq]
theorem Pos.toNat_pos (p : Pos) : 1 ≤ p.toNat := by cases p <;> simp only [Pos.toNat] <;> omega
theorem Pos.toNat_succ (p : Pos) : p.succ.toNat = p.toNat + 1 := by
  cases p with
  | s a b c d =>
    simp only [Pos.succ]
    split
    · rename_i h; have := D.inc_some h; simp only [Pos.toNat]; omega
    · rename_i h1; have := D.inc_none h1; split
      · rename_i h; have := D.inc_some h; simp only [Pos.toNat, D.val_a]; omega
      · rename_i h2; have := D.inc_none h2; split
        · rename_i h; have := D.inc_some h; simp only [Pos.toNat, D.val_a]; omega
        · rename_i h3; have := D.inc_none h3; split
          · rename_i h; have := D.inc_some h; simp only [Pos.toNat, D.val_a]; omega
          · rename_i h4; have := D.inc_none h4; simp only [Pos.toNat, D.val_a]; omega
  | l a b c d e f g h =>
    simp only [Pos.succ]
    split
    · rename_i h; have := D.inc_some h; simp only [Pos.toNat]; omega
    · rename_i h1; have := D.inc_none h1; split
      · rename_i h; have := D.inc_some h; simp only [Pos.toNat, D.val_a]; omega
      · rename_i h2; have := D.inc_none h2; split
        · rename_i h; have := D.inc_some h; simp only [Pos.toNat, D.val_a]; omega
        · rename_i h3; have := D.inc_none h3; split
          · rename_i h; have := D.inc_some h; simp only [Pos.toNat, D.val_a]; omega
          · rename_i h4; have := D.inc_none h4; split
            · rename_i h; have := D.inc_some h; simp only [Pos.toNat, D.val_a]; omega
            · rename_i h5; have := D.inc_none h5; split
              · rename_i h; have := D.inc_some h; simp only [Pos.toNat, D.val_a]; omega
              · rename_i h6; have := D.inc_none h6; split
                · rename_i h; have := D.inc_some h; simp only [Pos.toNat, D.val_a]; omega
                · rename_i h7; have := D.inc_none h7; split
                  · rename_i h; have := D.inc_some h; simp only [Pos.toNat, D.val_a]; omega
                  · rename_i h8; have := D.inc_none h8; simp only [Pos.toNat]; omega
  | x n => show n + 1 + 65793 = n + 65793 + 1; exact Nat.add_right_comm n 1 65793
theorem Pos.toNat_inj {p q : Pos} (h : p.toNat = q.toNat) : p = q := by
  cases p with
  | s a b c d =>
    have := a.val_le; have := b.val_le; have := c.val_le; have := d.val_le
    cases q with
    | s a' b' c' d' =>
      have := a'.val_le; have := b'.val_le; have := c'.val_le; have := d'.val_le
      simp only [Pos.toNat] at h
      rw [D.val_inj (j := a) (k := a') (by omega), D.val_inj (j := b) (k := b') (by omega), D.val_inj (j := c) (k := c') (by omega), D.val_inj (j := d) (k := d') (by omega)]
    | l a' b' c' d' e' f' g' h' => simp only [Pos.toNat] at h; omega
    | x n => simp only [Pos.toNat] at h; omega
  | l a b c d e f g k =>
    have := a.val_le; have := b.val_le; have := c.val_le; have := d.val_le; have := e.val_le; have := f.val_le; have := g.val_le; have := k.val_le
    cases q with
    | s a' b' c' d' =>
      have := a'.val_le; have := b'.val_le; have := c'.val_le; have := d'.val_le
      simp only [Pos.toNat] at h; omega
    | l a' b' c' d' e' f' g' k' =>
      have := a'.val_le; have := b'.val_le; have := c'.val_le; have := d'.val_le; have := e'.val_le; have := f'.val_le; have := g'.val_le; have := k'.val_le
      simp only [Pos.toNat] at h
      rw [D.val_inj (j := a) (k := a') (by omega), D.val_inj (j := b) (k := b') (by omega), D.val_inj (j := c) (k := c') (by omega), D.val_inj (j := d) (k := d') (by omega),
        D.val_inj (j := e) (k := e') (by omega), D.val_inj (j := f) (k := f') (by omega), D.val_inj (j := g) (k := g') (by omega), D.val_inj (j := k) (k := k') (by omega)]
    | x n => simp only [Pos.toNat] at h; omega
  | x n =>
    cases q with
    | s a' b' c' d' => have := a'.val_le; have := b'.val_le; have := c'.val_le; have := d'.val_le; simp only [Pos.toNat] at h; omega
    | l a' b' c' d' e' f' g' k' =>
      have := a'.val_le; have := b'.val_le; have := c'.val_le; have := d'.val_le; have := e'.val_le; have := f'.val_le; have := g'.val_le; have := k'.val_le
      simp only [Pos.toNat] at h; omega
    | x m => simp only [Pos.toNat] at h; rw [show n = m by omega]
theorem Pos.beq_iff {p q : Pos} : p.beq q = true ↔ p = q := by
  cases p <;> cases q <;> simp only [Pos.beq, Bool.and_eq_true, D.beq_iff, Pos.s.injEq, Pos.l.injEq, Pos.x.injEq, reduceCtorEq, Bool.false_eq_true]
  · constructor <;> (rintro ⟨h1, h2, h3, h4⟩; exact ⟨h4, h3, h2, h1⟩)
  · constructor <;> (rintro ⟨h1, h2, h3, h4, h5, h6, h7, h8⟩; exact ⟨h8, h7, h6, h5, h4, h3, h2, h1⟩)
  · constructor
    · exact Nat.eq_of_beq_eq_true
    · intro h; subst h; exact Nat.beq_refl _
theorem D.val_of (n : Nat) : (D.of n).val = n % 4 := by
  have : n % 4 < 4 := Nat.mod_lt _ (by decide)
  rcases (by omega : n % 4 = 0 ∨ n % 4 = 1 ∨ n % 4 = 2 ∨ n % 4 = 3) with h | h | h | h <;> simp only [D.of, h, D.val]
theorem posOf_toNat (n : Nat) : (posOf n).toNat = n + 1 := by
  unfold posOf
  have hb : ∀ a b : Nat, Nat.blt a b = true ↔ a < b := fun a b => ⟨Nat.le_of_ble_eq_true, Nat.ble_eq_true_of_le⟩
  split
  · rename_i h; rw [hb] at h; simp only [Pos.toNat, D.val_of]; omega
  · rename_i h
    have h : ¬ n < 256 := fun h' => by rw [(hb _ _).2 h'] at h; cases h
    split
    · rename_i h2; rw [hb] at h2; simp only [Pos.toNat, D.val_of]; omega
    · rename_i h2
      have h2 : ¬ n < 65792 := fun h' => by rw [(hb _ _).2 h'] at h2; cases h2
      simp only [Pos.toNat]; omega
theorem N.get_set {α : Type} (n : N α) (k j : D) (v : α) : (n.set k v).get j = if k = j then v else n.get j := by cases k <;> cases j <;> rfl
theorem N.get_all {α : Type} (v : α) (k : D) : (N.all v).get k = v := by cases k <;> rfl
theorem N4.get_set {α : Type} (n : N4 α) (a b c d a' b' c' d' : D) (v : α) : N4.get (N4.set n a b c d v) a' b' c' d' = if a = a' ∧ b = b' ∧ c = c' ∧ d = d' then v else N4.get n a' b' c' d' := by
  simp only [N4.get, N4.set, N.get_set]
  by_cases h1 : a = a' <;> by_cases h2 : b = b' <;> by_cases h3 : c = c' <;> by_cases h4 : d = d' <;> simp [h1, h2, h3, h4, N.get_set]
theorem N4.get_all {α : Type} (v : α) (a b c d : D) : N4.get (N4.all v) a b c d = v := by simp only [N4.get, N4.all, N.get_all]
theorem T.get_nil {α : Type} (p : Pos) : (T.nil : T α).get p = none := by
  cases p <;> simp only [T.get, T.nil, N4.get_all, assocN]
theorem T.get_set {α : Type} (p : Pos) (a : α) (t : T α) (q : Pos) : (T.set p a t).get q = if p = q then some a else t.get q := by
  cases p with
  | s a b c d =>
    cases q with
    | s a' b' c' d' => simp only [T.set, T.get, N4.get_set, Pos.s.injEq]
    | l _ _ _ _ _ _ _ _ => simp only [T.set, T.get, reduceCtorEq, if_false]
    | x n => simp only [T.set, T.get, reduceCtorEq, if_false]
  | l a b c d e f g h =>
    cases q with
    | s a' b' c' d' => simp only [T.set, T.get, reduceCtorEq, if_false]
    | l a' b' c' d' e' f' g' h' =>
      simp only [T.set, T.get, N4.get_set, Pos.l.injEq]
      by_cases hh : a = a' ∧ b = b' ∧ c = c' ∧ d = d'
      · obtain ⟨rfl, rfl, rfl, rfl⟩ := hh
        simp only [and_self, if_true, N4.get_set, true_and]
      · rw [if_neg hh, if_neg (fun h => hh ⟨h.1, h.2.1, h.2.2.1, h.2.2.2.1⟩)]
    | x n => simp only [T.set, T.get, reduceCtorEq, if_false]
  | x n =>
    cases q with
    | s a' b' c' d' => simp only [T.set, T.get, reduceCtorEq, if_false]
    | l _ _ _ _ _ _ _ _ => simp only [T.set, T.get, reduceCtorEq, if_false]
    | x m =>
      simp only [T.set, T.get, Pos.x.injEq, assocN]
      by_cases h : n = m
      · subst h; simp only [Nat.beq_refl, if_true]
      · rw [if_neg h]
        have : Nat.beq n m = false := by cases hb : Nat.beq n m with
          | false => rfl
          | true => exact absurd (Nat.eq_of_beq_eq_true hb) h
        rw [this]
theorem T.get_set_same {α : Type} (p : Pos) (a : α) (t : T α) : (T.set p a t).get p = some a := by rw [T.get_set, if_pos rfl]
theorem T.get_set_other {α : Type} (p : Pos) (a : α) (t : T α) (q : Pos) (h : p ≠ q) : (T.set p a t).get q = t.get q := by rw [T.get_set, if_neg h]
section
variable {α : Type}
theorem nth_eq (l : List α) : ∀ i, nth l i = l[i]? := by
  induction l with
  | nil => intro i; cases i <;> rfl
  | cons a l ih => intro i; cases i with
    | zero => rfl
    | succ i => simp [nth, ih]
theorem takeN_eq (l : List α) : ∀ n, takeN l n = l.take n := by
  induction l with
  | nil => intro n; cases n <;> rfl
  | cons a l ih => intro n; cases n with
    | zero => rfl
    | succ n => simp [takeN, ih]
theorem dropN_eq (l : List α) : ∀ n, dropN l n = l.drop n := by
  induction l with
  | nil => intro n; cases n <;> rfl
  | cons a l ih => intro n; cases n with
    | zero => rfl
    | succ n => simp [dropN, ih]
theorem lenN_eq (l : List α) : lenN l = l.length := by
  induction l with
  | nil => rfl
  | cons a l ih => simp [lenN, ih]
theorem app_eq (l m : List α) : app l m = l ++ m := by
  induction l with
  | nil => rfl
  | cons a l ih => simp [app, ih]
theorem atLeast_iff (l : List α) : ∀ n, atLeast l n = true ↔ n ≤ l.length := by
  induction l with
  | nil => intro n; cases n <;> simp [atLeast]
  | cons a l ih => intro n; cases n with
    | zero => simp [atLeast]
    | succ n => simp [atLeast, ih]
theorem over0_eq (vs : List α) : ∀ (l m : List α), over0 vs l = some m → vs.length ≤ l.length ∧ m = vs ++ l.drop vs.length := by
  induction vs with
  | nil => intro l m h; simp [over0] at h; simp [h]
  | cons v vs ih =>
    intro l m h
    cases l with
    | nil => simp [over0] at h
    | cons a r =>
      simp only [over0] at h
      cases h' : over0 vs r with
      | none => simp [h'] at h
      | some m' =>
        simp [h'] at h
        obtain ⟨h1, h2⟩ := ih r m' h'
        subst h
        simp [h1, h2]
theorem over_eq (l : List α) : ∀ (i : Nat) (vs m : List α), over l i vs = some m → i + vs.length ≤ l.length ∧ m = l.take i ++ vs ++ l.drop (i + vs.length) := by
  induction l with
  | nil =>
    intro i vs m h
    cases i with
    | zero => cases vs <;> simp [over, over0] at h; simp [h]
    | succ i => simp [over] at h
  | cons a r ih =>
    intro i vs m h
    cases i with
    | zero =>
      simp only [over] at h
      obtain ⟨h1, h2⟩ := over0_eq vs _ _ h
      simp at h1
      simp [h1, h2]
    | succ i =>
      simp only [over] at h
      cases h' : over r i vs with
      | none => simp [h'] at h
      | some m' =>
        simp [h'] at h
        obtain ⟨h1, h2⟩ := ih i vs m' h'
        subst h
        refine ⟨by simp; omega, ?_⟩
        rw [h2, show i + 1 + vs.length = (i + vs.length) + 1 from by omega, List.drop_succ_cons]
        simp
end
theorem eqStr_iff (x : List Nat) : ∀ y, eqStr x y = true ↔ x = y := by
  induction x with
  | nil => intro y; cases y <;> simp [eqStr]
  | cons a x ih =>
    intro y
    cases y with
    | nil => simp [eqStr]
    | cons b y =>
      simp only [eqStr]
      cases h : Nat.beq a b with
      | true => have := Nat.eq_of_beq_eq_true h; simp [this, ih]
      | false => have := Nat.ne_of_beq_eq_false h; simp [this]
theorem eqK_iff (j k : IntKind) : eqK j k = true ↔ j = k := by cases j <;> cases k <;> simp [eqK]
def bytesNat (s : ByteArray) : List Nat := s.data.toList.map (·.toNat)
class Sig where
  σ : Nat → Int
  lo : ∀ i, -9223372036854775808 ≤ σ i
  hi : ∀ i, σ i < 9223372036854775808
  mono : ∀ i j, i / 2 = j / 2 → i < j → σ i < σ j
def byteAt (x : Int) (j : Nat) : Nat := (x + 9223372036854775808).toNat / 256 ^ (7 - j) % 256
section
def off [Sig] (i : Nat) : Nat := (Sig.σ i + 9223372036854775808).toNat
def formV [Sig] (f i : Nat) : Option (IntKind × Int) :=
  if f = 0 then some (.i64, Sig.σ i) else if f = 1 then some (.u64, (off i : Nat)) else if f = 2 then some (.u64, IntKind.u64.wrap (Sig.σ i))
  else if 17 ≤ f ∧ f ≤ 23 then some (.u64, ((off i / 256 ^ (f - 16) : Nat) : Int)) else if 33 ≤ f ∧ f ≤ 39 then some (.u64, ((off i / 256 ^ (f - 32) * 256 : Nat) : Int))
  else if 48 ≤ f ∧ f ≤ 55 then some (.u64, ((byteAt (Sig.σ i) (f - 48) : Nat) : Int)) else none
end
def decNat (n : Nat) : List Nat := if h : n < 10 then [48 + n] else decNat (n / 10) ++ [48 + n % 10]
  decreasing_by omega
def decimal (x : Int) : List Nat := if x < 0 then 45 :: decNat x.natAbs else decNat x.natAbs
def expB [Sig] [Sig] (c : Nat) : List Nat := if c < 256 then [c] else if (c - 256) % 16 < 8 then [byteAt (Sig.σ ((c - 256) / 16)) ((c - 256) % 16)] else decimal (Sig.σ ((c - 256) / 16))
def expand [Sig] [Sig] : List Nat → List Nat
  | [] => []
  | c :: l => expB c ++ expand l
section
theorem expand_append [Sig] (a b : List Nat) : expand (a ++ b) = expand a ++ expand b := by
  induction a with
  | nil => rfl
  | cons c a ih => simp [expand, ih]
theorem expB_lit [Sig] {c : Nat} (h : c < 256) : expB c = [c] := by simp [expB, h]
theorem expand_lit [Sig] : ∀ {l : List Nat}, (∀ c ∈ l, c < 256) → expand l = l
  | [], _ => rfl
  | c :: l, h => by simp [expand, expB_lit (h c List.mem_cons_self), expand_lit (l := l) fun d hd => h d (List.mem_cons_of_mem _ hd)]
theorem blt_iff {a b : Nat} : Nat.blt a b = true ↔ a < b := by simp
theorem fixedB_iff [Sig] {c : Nat} : fixedB c = true ↔ c < 256 ∨ (c - 256) % 16 ≠ 8 := by
  unfold fixedB
  split
  · rename_i h; simp [blt_iff.1 h]
  · rename_i h
    have : ¬ c < 256 := fun h' => by rw [blt_iff.2 h'] at h; cases h
    simp only [this, false_or]
    cases hq : Nat.beq ((c - 256) % 16) 8 with
    | true => have := Nat.eq_of_beq_eq_true hq; simp [this]
    | false => have := Nat.ne_of_beq_eq_false hq; simp [this]
theorem known_iff [Sig] {c : Nat} : known c = true ↔ c < 256 ∨ (c - 256) % 16 ≤ 8 := by
  unfold known
  split
  · rename_i h; simp [blt_iff.1 h]
  · rename_i h
    have : ¬ c < 256 := fun h' => by rw [blt_iff.2 h'] at h; cases h
    simp only [Nat.ble_eq]
    exact ⟨.inr, fun h => h.resolve_left this⟩
inductive Ref : List Nat → List Nat → Prop where
  | nil : Ref [] []
  | same {c : Nat} {l m : List Nat} (h : known c = true) (t : Ref l m) : Ref (c :: l) (c :: m)
  | byte {c d : Nat} {l m : List Nat} (h : known c = false) (hd : d < 256) (t : Ref l m) : Ref (c :: l) (d :: m)
theorem Ref.length : ∀ {l m : List Nat}, Ref l m → l.length = m.length
  | _, _, .nil => rfl
  | _, _, .same _ t => by simp [t.length]
  | _, _, .byte _ _ t => by simp [t.length]
theorem Ref.append : ∀ {l m l' m' : List Nat}, Ref l m → Ref l' m' → Ref (l ++ l') (m ++ m')
  | _, _, _, _, .nil, h => h
  | _, _, _, _, .same k t, h => .same k (t.append h)
  | _, _, _, _, .byte k d t, h => .byte k d (t.append h)
theorem Ref.take : ∀ {l m : List Nat} (_ : Ref l m) (n : Nat), Ref (l.take n) (m.take n)
  | _, _, .nil, n => by simp; exact .nil
  | _, _, .same _ _, 0 => .nil
  | _, _, .byte _ _ _, 0 => .nil
  | _, _, .same k t, n + 1 => .same k (t.take n)
  | _, _, .byte k d t, n + 1 => .byte k d (t.take n)
theorem Ref.drop : ∀ {l m : List Nat} (_ : Ref l m) (n : Nat), Ref (l.drop n) (m.drop n)
  | _, _, .nil, n => by simp; exact .nil
  | _, _, .same k t, 0 => .same k t
  | _, _, .byte k d t, 0 => .byte k d t
  | _, _, .same _ t, n + 1 => t.drop n
  | _, _, .byte _ _ t, n + 1 => t.drop n
theorem Ref.knows [Sig] : ∀ {l m : List Nat}, Ref l m → ∀ c ∈ m, known c = true
  | _, _, .nil, c, h => by simp at h
  | _, _, .same k t, c, h => by
    rcases List.mem_cons.1 h with h | h
    · rw [h]; exact k
    · exact t.knows c h
  | _, _, .byte k d t, c, h => by
    rcases List.mem_cons.1 h with h | h
    · rw [h]; exact known_iff.2 (.inl d)
    · exact t.knows c h
theorem Ref.refl : ∀ {l : List Nat}, (∀ c ∈ l, known c = true) → Ref l l
  | [], _ => .nil
  | _ :: _, h => .same (h _ List.mem_cons_self) (.refl fun d hd => h d (List.mem_cons_of_mem _ hd))
theorem Ref.lit [Sig] {l : List Nat} (h : ∀ c ∈ l, c < 256) : Ref l l := .refl fun c hc => known_iff.2 (.inl (h c hc))
theorem Ref.get : ∀ {l m : List Nat} (_ : Ref l m) (i c : Nat), l[i]? = some c → ∃ d, m[i]? = some d ∧ ((known c = true ∧ d = c) ∨ (known c = false ∧ d < 256))
  | _, _, .nil, i, c, e => by simp at e
  | _, _, .same k t, 0, c, e => by simp at e; subst e; exact ⟨_, rfl, .inl ⟨k, rfl⟩⟩
  | _, _, .byte k d t, 0, c, e => by simp at e; subst e; exact ⟨_, rfl, .inr ⟨k, d⟩⟩
  | _, _, .same k t, i + 1, c, e => by simp at e; simpa using t.get i c e
  | _, _, .byte k d t, i + 1, c, e => by simp at e; simpa using t.get i c e
theorem fixedS_iff : ∀ {l : List Nat}, fixedS l = true ↔ ∀ c ∈ l, fixedB c = true
  | [] => by simp [fixedS]
  | c :: l => by
    simp only [fixedS]
    split
    · rename_i h; rw [fixedS_iff]; simp [h]
    · rename_i h; simp [h]
def byteN [Sig] (c : Nat) : Nat := if c < 256 then c else byteAt (Sig.σ ((c - 256) / 16)) ((c - 256) % 16)
theorem expB_fixed [Sig] {c : Nat} (h : fixedB c = true) (hk : known c = true) : expB c = [byteN c] := by
  unfold expB byteN
  rcases fixedB_iff.1 h with h | h
  · simp [h]
  · split
    · rfl
    · rename_i hc
      have := (known_iff.1 hk).resolve_left hc
      have : (c - 256) % 16 < 8 := by omega
      simp [this]
theorem expand_known [Sig] : ∀ {l : List Nat}, fixedS l = true → (∀ c ∈ l, known c = true) → expand l = l.map byteN
  | [], _, _ => rfl
  | c :: l, h, hk => by
    have h1 := fixedS_iff.1 h c List.mem_cons_self
    have h2 : fixedS l = true := fixedS_iff.2 fun d hd => fixedS_iff.1 h d (List.mem_cons_of_mem _ hd)
    simp [expand, expB_fixed h1 (hk c List.mem_cons_self), expand_known h2 fun d hd => hk d (List.mem_cons_of_mem _ hd)]
theorem Ref.fixed [Sig] : ∀ {l m : List Nat}, Ref l m → fixedS l = true → fixedS m = true
  | _, _, .nil, h => h
  | c :: l, _, .same k t, h => fixedS_iff.2 fun d hd => by
    rcases List.mem_cons.1 hd with e | e
    · rw [e]; exact fixedS_iff.1 h c List.mem_cons_self
    · exact fixedS_iff.1 (t.fixed (fixedS_iff.2 fun d hd => fixedS_iff.1 h d (List.mem_cons_of_mem _ hd))) d e
  | c :: l, _, .byte k hb t, h => fixedS_iff.2 fun d hd => by
    rcases List.mem_cons.1 hd with e | e
    · rw [e]; exact fixedB_iff.2 (.inl hb)
    · exact fixedS_iff.1 (t.fixed (fixedS_iff.2 fun d hd => fixedS_iff.1 h d (List.mem_cons_of_mem _ hd))) d e
theorem expand_fixed [Sig] {l m : List Nat} (hr : Ref l m) (h : fixedS l = true) : expand m = m.map byteN := expand_known (hr.fixed h) hr.knows
theorem fixedS_take [Sig] {l : List Nat} (h : fixedS l = true) (n : Nat) : fixedS (l.take n) = true := fixedS_iff.2 fun c hc => fixedS_iff.1 h c (List.mem_of_mem_take hc)
theorem fixedS_drop [Sig] {l : List Nat} (h : fixedS l = true) (n : Nat) : fixedS (l.drop n) = true := fixedS_iff.2 fun c hc => fixedS_iff.1 h c (List.mem_of_mem_drop hc)
theorem byteAt_lt (x : Int) (j : Nat) : byteAt x j < 256 := Nat.mod_lt _ (by omega)
end
structure Bs where
  off : Nat
  tot : Nat
  deriving DecidableEq
abbrev Ren := Pos → Option (Nat × Bs)
def Ren.le (ρ ρ' : Ren) : Prop := ∀ n x, ρ n = some x → ρ' n = some x
theorem Ren.le_refl (ρ : Ren) : ρ.le ρ := fun _ _ h => h
theorem Ren.le_trans {a b c : Ren} (h : a.le b) (h' : b.le c) : a.le c := fun n x e => h' n x (h n x e)
section
mutual
inductive VR [Sig] (ρ : Ren) : AV → Value → Prop where
  | bool (b : Bool) : VR ρ (.bool b) (.bool b)
  | int (k : IntKind) (n : Int) : VR ρ (.int k n) (.int k n)
  | any {k : IntKind} {n : Int} (h : k.wrap n = n) : VR ρ (.any k) (.int k n)
  | sym {f i : Nat} {k : IntKind} {n : Int} (h : formV f i = some (k, n)) : VR ρ (.sym f i) (.int k n)
  | byt {c : Nat} (h : 256 ≤ c) (hf : (c - 256) % 16 < 8) : VR ρ (.byt c) (.int .u8 (byteN c : Nat))
  | flt (k : FloatKind) (n : Nat) : VR ρ (.flt k n) (.float k n)
  | ustr (b : ByteArray) : VR ρ .ustr (.string b)
  | str {s s' : List Nat} {b : ByteArray} (hr : Ref s s') (h : bytesNat b = expand s') : VR ρ (.str s) (.string b)
  | ptrN : VR ρ (.ptr none) (.pointer none)
  | ptr {n : Pos} {o b : Nat} {base : Bs} (h : ρ n = some (b, base)) : VR ρ (.ptr (some (n, o))) (.pointer (some ⟨b, base.off + o, none⟩))
  | sliceN (f : Option Nat) : VR ρ (.slice none 0 0 f) (.slice none 0 0)
  | slice {n : Pos} {o l c : Nat} {f : Option Nat} {A : Addr} {c' : Nat} (hl : l ≤ c) (hc : c ≤ c') (hs : f = none → c = c')
      (hA : c ≠ 0 → ∃ b base, ρ n = some (b, base) ∧ A = ⟨b, base.off + o, none⟩ ∧ ∀ sz, f = some sz → base.off + o + c' * sz ≤ base.tot) : VR ρ (.slice (some (n, o)) l c f) (.slice (some A) l c')
  | mapN : VR ρ (.map none) (.map none)
  | map {n : Pos} {b : Nat} (h : ρ n = some (b, ⟨0, 0⟩)) : VR ρ (.map (some n)) (.map (some b))
  | func {f : Nat} {x y : List AV} {x' y' : Array Value} (hx : VRs ρ x x'.toList) (hy : VRs ρ y y'.toList) : VR ρ (.func (.fn f) x y) (.func (.func f) x' y')
  | yield {n : Pos} {b : Nat} (h : ρ n = some (b, ⟨0, 0⟩)) : VR ρ (.func (.yield n) [] []) (.func (.yield b) #[] #[])
  | nilFunc : VR ρ .nilFunc .nilFunc
  | iface {t : Nat} {v : AV} {u : Value} (h : VR ρ v u) : VR ρ (.iface t v) (.iface t u)
  | nilIface : VR ρ .nilIface .nilIface
  | agg {x : List AV} {x' : Array Value} (h : VRs ρ x x'.toList) (hf : x.all AV.flat = true) : VR ρ (.agg x) (.agg x')
  | tuple {x : List AV} {x' : Array Value} (h : VRs ρ x x'.toList) : VR ρ (.tuple x) (.tuple x')
  | dead (u : Value) : VR ρ .dead u
inductive VRs [Sig] (ρ : Ren) : List AV → List Value → Prop where
  | nil : VRs ρ [] []
  | cons {v : AV} {u : Value} {l : List AV} {m : List Value} (h : VR ρ v u) (t : VRs ρ l m) : VRs ρ (v :: l) (u :: m)
end
mutual
theorem VR.mono [Sig] {ρ ρ' : Ren} (hr : ρ.le ρ') {v : AV} {u : Value} : VR ρ v u → VR ρ' v u
  | .bool b => .bool b
  | .int k n => .int k n
  | .any h => .any h
  | .sym h => .sym h
  | .byt h hf => .byt h hf
  | .flt k n => .flt k n
  | .ustr b => .ustr b
  | .str hr h => .str hr h
  | .ptrN => .ptrN
  | .ptr h => .ptr (hr _ _ h)
  | .sliceN f => .sliceN f
  | .slice hl hc hs hA => .slice hl hc hs fun h => let ⟨b, base, h1, h2⟩ := hA h; ⟨b, base, hr _ _ h1, h2⟩
  | .mapN => .mapN
  | .map h => .map (hr _ _ h)
  | .func hx hy => .func (VRs.mono hr hx) (VRs.mono hr hy)
  | .yield h => .yield (hr _ _ h)
  | .nilFunc => .nilFunc
  | .iface h => .iface (VR.mono hr h)
  | .nilIface => .nilIface
  | .agg h hf => .agg (VRs.mono hr h) hf
  | .tuple h => .tuple (VRs.mono hr h)
  | .dead u => .dead u
theorem VRs.mono [Sig] {ρ ρ' : Ren} (hr : ρ.le ρ') {v : List AV} {u : List Value} : VRs ρ v u → VRs ρ' v u
  | .nil => .nil
  | .cons h t => .cons (VR.mono hr h) (VRs.mono hr t)
end
theorem VRs.length [Sig] {ρ : Ren} : ∀ {l : List AV} {m : List Value}, VRs ρ l m → l.length = m.length
  | _, _, .nil => rfl
  | _, _, .cons _ t => by simp [t.length]
theorem VRs.get [Sig] {ρ : Ren} : ∀ {l : List AV} {m : List Value} (_ : VRs ρ l m) (i : Nat) (v : AV), l[i]? = some v → ∃ u, m[i]? = some u ∧ VR ρ v u
  | _, _, .cons h _, 0, v, e => by simp at e; subst e; exact ⟨_, rfl, h⟩
  | _, _, .cons _ t, i + 1, v, e => by simp at e; simpa using t.get i v e
  | _, _, .nil, i, v, e => by simp at e
theorem VRs.of_get [Sig] {ρ : Ren} : ∀ {l : List AV} {m : List Value}, l.length = m.length → (∀ (i : Nat) (v : AV) (u : Value), l[i]? = some v → m[i]? = some u → VR ρ v u) → VRs ρ l m
  | [], [], _, _ => .nil
  | [], _ :: _, h, _ => by simp at h
  | _ :: _, [], h, _ => by simp at h
  | v :: l, u :: m, h, hg => .cons (hg 0 v u rfl rfl) (VRs.of_get (by simpa using h) fun i a b ha hb => hg (i + 1) a b (by simpa using ha) (by simpa using hb))
theorem VRs.append [Sig] {ρ : Ren} : ∀ {l : List AV} {m : List Value} {l' : List AV} {m' : List Value}, VRs ρ l m → VRs ρ l' m' → VRs ρ (l ++ l') (m ++ m')
  | _, _, _, _, .nil, h => h
  | _, _, _, _, .cons h t, h' => .cons h (t.append h')
theorem VRs.take [Sig] {ρ : Ren} : ∀ {l : List AV} {m : List Value} (_ : VRs ρ l m) (n : Nat), VRs ρ (l.take n) (m.take n)
  | _, _, .nil, n => by simp; exact .nil
  | _, _, .cons _ _, 0 => .nil
  | _, _, .cons h t, n + 1 => .cons h (t.take n)
theorem VRs.drop [Sig] {ρ : Ren} : ∀ {l : List AV} {m : List Value} (_ : VRs ρ l m) (n : Nat), VRs ρ (l.drop n) (m.drop n)
  | _, _, .nil, n => by simp; exact .nil
  | _, _, .cons h t, 0 => .cons h t
  | _, _, .cons _ t, n + 1 => t.drop n
theorem VR.cells? [Sig] {ρ : Ren} {v : AV} {u : Value} {cs : List AV} (h : VR ρ v u) (hc : v.cells? = some cs) : VRs ρ cs u.cells.toList ∧ cs.all AV.flat = true := by
  cases h with
  | agg h hf => simp [AV.cells?] at hc; subst hc; exact ⟨h, hf⟩
  | dead u => simp [AV.cells?] at hc
  | tuple h => simp [AV.cells?] at hc
  | byt h hf => simp [AV.cells?] at hc; subst hc; exact ⟨.cons (.byt h hf) .nil, rfl⟩
  | _ => simp [AV.cells?] at hc; subst hc; exact ⟨.cons (by constructor <;> assumption) .nil, rfl⟩
end
end A3
