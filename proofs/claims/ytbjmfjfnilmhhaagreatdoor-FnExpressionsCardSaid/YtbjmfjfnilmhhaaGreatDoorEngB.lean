/- A deterministic reading of Go code over plain data: the steps, the calls, the runs. No conditions. -/
import Derived.Test.YtbjmfjfnilmhhaaGreatDoorEngA
namespace Go.Proofs.YtbjmfjfnilmhhaaGreatDoor.Eng
open Go Go.RowKit

inductive TK where
  | int (k : IntKind) | bool | str | slice (e : TypeId) | ptr (e : TypeId) | struct (fs : List (Nat × Nat × Bool)) | array (n : Nat) (e : TypeId) | oth | ifc
structure TI where
  k : TK
  size : Nat
  bytes : Nat
  zero : List Value
  fl : Bool
def TK.agg : TK → Bool
  | .struct _ | .array .. => true
  | _ => false
abbrev Tab := TypeId → Option TI

structure St where
  ρ : Nat → V
  H : Hp
  tick : Nat

def St.ev (st : St) : Operand → V
  | .tmp t => st.ρ t
  | .const v => .c v
  | .global g => .c (.pointer (some ⟨g, 0, none⟩))
  | .func f => .fn f []

def find (H : Hp) (id vr : Nat) : Option Obj :=
  match H id with
  | some (vr', o) => if vr' = vr then some o else none
  | none => none

def V.cells : V → List V
  | .ag l => l
  | x => [x]

def bin (op : BinOp) (x y : Value) : Option Value :=
  match x, y with
  | .int k a, .int k' b =>
    match op with
    | .shl => if b < 0 then none else some (.int k (k.wrap (a * 2 ^ (min b.toNat k.bits))))
    | .shr => if b < 0 then none else some (.int k (a.fdiv (2 ^ (min b.toNat k.bits))))
    | op => if k = k' then (match op with
      | .add => some (.int k (k.wrap (a + b)))
      | .sub => some (.int k (k.wrap (a - b)))
      | .mul => some (.int k (k.wrap (a * b)))
      | .quo => if b = 0 then none else some (.int k (k.wrap (a.tdiv b)))
      | .rem => if b = 0 then none else some (.int k (a.tmod b))
      | .and => some (.int k (k.wrap (BitVec.ofInt k.bits a &&& BitVec.ofInt k.bits b).toNat))
      | .xor => some (.int k (k.wrap (BitVec.ofInt k.bits a ^^^ BitVec.ofInt k.bits b).toNat))
      | .or => some (.int k (k.wrap (BitVec.ofInt k.bits a ||| BitVec.ofInt k.bits b).toNat))
      | .eql => some (.bool (a == b))
      | .neq => some (.bool (a != b))
      | .lss => some (.bool (decide (a < b)))
      | .leq => some (.bool (decide (a ≤ b)))
      | .gtr => some (.bool (decide (a > b)))
      | .geq => some (.bool (decide (a ≥ b)))
      | _ => none) else none
  | .string a, .string b =>
    match op with
    | .add => if a.size + b.size ≤ 9223372036854775807 then some (.string (a ++ b)) else none
    | .eql => some (.bool (a.toList == b.toList))
    | .neq => some (.bool (!(a.toList == b.toList)))
    | .lss => some (.bool (Op.bytesLess a.toList b.toList))
    | _ => none
  | _, _ => none

/-- The literal nil of an interface type. -/
@[simp] def nilB : Operand → Bool
  | .const .nilIface => true
  | _ => false
theorem nilB_eq {y : Operand} (h : nilB y = true) : y = .const .nilIface := by
  unfold nilB at h
  split at h
  · rfl
  · cases h
/-- An interface value held against nil. -/
def nilCmp (T : Tab) (op : BinOp) (t : TypeId) (x : V) : Option V :=
  match T t with
  | some ⟨.ifc, _, _, _, _⟩ =>
    match op, x with
    | .eql, .c .nilIface => some (.c (.bool true))
    | .neq, .c .nilIface => some (.c (.bool false))
    | .eql, .er => some (.c (.bool false))
    | .neq, .er => some (.c (.bool true))
    | _, _ => none
  | _ => none
/-- Comparisons that ask the type. -/
def binT (k : TK) (op : BinOp) (x y : V) : Option V :=
  match k, x, y with
  | .bool, .c (.bool a), .c (.bool b) =>
    match op with
    | .eql => some (.c (.bool (a == b)))
    | .neq => some (.c (.bool (!(a == b))))
    | _ => none
  | .slice _, .s .., .c (.slice none _ _) =>
    match op with
    | .eql => some (.c (.bool false))
    | .neq => some (.c (.bool true))
    | _ => none
  | .slice _, .sq _ _ _ l, .c (.slice none _ _) =>
    if l = [] then none else match op with
    | .eql => some (.c (.bool false))
    | .neq => some (.c (.bool true))
    | _ => none
  | .slice _, .c (.slice none _ _), .c (.slice none _ _) =>
    match op with
    | .eql => some (.c (.bool true))
    | .neq => some (.c (.bool false))
    | _ => none
  | _, _, _ => none

def numFs : Nat → List (Nat × Nat × Bool) → Bool
  | _, [] => true
  | j, (o, s, a) :: l => o == j && s == 1 && !a && numFs (j + 1) l
/-- A struct of whole numbers, each a cell. -/
def numT (i : TI) : Bool := match i.k with
  | .struct fs => fs.length == i.size && numFs 0 fs && i.zero.all fun v => match v with
    | .int _ _ => true
    | _ => false
  | _ => false
/-- Cells of whole numbers, held against one another. -/
def eqCells : List V → List V → Option Bool
  | [], [] => some true
  | .c (.int k a) :: l, .c (.int k' b) :: m => if k = k' then (match eqCells l m with
    | some r => some (a == b && r)
    | none => none) else none
  | _, _ => none
/-- Comparisons of structs of whole numbers, and of the rest. -/
def binA (i : TI) (op : BinOp) (x y : V) : Option V :=
  match x, y with
  | .ag l, .ag m => if numT i = true ∧ l.length = i.size ∧ m.length = i.size then (match op, eqCells l m with
    | .eql, some r => some (.c (.bool r))
    | .neq, some r => some (.c (.bool (!r)))
    | _, _ => none) else none
  | x, y => binT i.k op x y

def un1 (op : UnOp) (x : Value) : Option Value :=
  match op, x with
  | .neg, .int k n => some (.int k (k.wrap (0 - n)))
  | .not, .bool b => some (.bool (!b))
  | _, _ => none

def setAt (e : List V) (j : Nat) (cs : List V) : List V := e.take j ++ cs ++ e.drop (j + cs.length)

/-- What one operation leaves: the value of its slot (none: it has none), what becomes of the objects. -/
abbrev Out := Option (Option V × List (Nat × Option (Nat × Obj)))
def val (x : V) : Out := some (some x, [])
def ofO (x : Option V) : Out := match x with | some v => val v | none => none

def okObj (o : Obj) : Bool := o.es.all fun e => e.length == o.sz && e.all fun x => x.one && (!o.fl || x.isC)

def made (tick id : Nat) (o : Obj) (x : V) : Out := if okObj o then some (some x, [(id, some (tick, o))]) else none

def loadV (T : Tab) (H : Hp) (t : TypeId) (x : V) : Option V :=
  match T t with
  | none => none
  | some ti =>
    match x with
    | .p id vr sz i j =>
      match find H id vr with
      | none => none
      | some o => match o.es[i]? with
        | none => none
        | some e => if o.sz = sz then (if ti.k.agg then (if j + ti.size ≤ e.length then some (.ag ((e.drop j).take ti.size)) else none) else e[j]?) else none
    | .bx _ l => if ti.k.agg then (if ti.size ≤ l.length then some (.ag (l.take ti.size)) else none) else l[0]?
    | _ => none

def storeV (T : Tab) (H : Hp) (t : TypeId) (x v : V) : Out :=
  match T t, x with
  | some ti, .p id vr sz i j =>
    match find H id vr with
    | none => none
    | some o => match o.es[i]? with
      | none => none
      | some e =>
        if o.sz = sz ∧ v.cells.length = ti.size ∧ j + ti.size ≤ e.length ∧ (v.cells.all fun x => x.one && (!o.fl || x.isC)) = true then
          some (none, [(id, some (vr, { o with es := o.es.set i (setAt e j v.cells) }))])
        else none
  | _, _ => none

def fieldAddrV (T : Tab) (t : TypeId) (x : V) (f : Nat) : Option V :=
  match T t with
  | some ⟨.struct fs, _, _, _, _⟩ =>
    match fs[f]? with
    | some (off, size, _) => if size = 0 then none else
      match x with
      | .p id vr sz i j => some (.p id vr sz i (j + off))
      | .bx b l => some (.bx b (l.drop off))
      | _ => none
    | none => none
  | _ => none

def fieldV (T : Tab) (t : TypeId) (x : V) (f : Nat) : Option V :=
  match T t, x with
  | some ⟨.struct fs, _, _, _, _⟩, .ag l =>
    match fs[f]? with
    | some (off, size, ag) => if ag then (if off + size ≤ l.length then some (.ag ((l.drop off).take size)) else none) else l[off]?
    | none => none
  | _, _ => none

def indexAddrV (T : Tab) (t : TypeId) (x ix : V) : Option V :=
  match T t, ix with
  | some ⟨.slice e, _, _, _, _⟩, .c (.int _ i) =>
    match T e with
    | none => none
    | some te =>
      match x with
      | .s id vr sz off len => if te.size = sz then (if 0 ≤ i ∧ i < (len : Int) then some (.p id vr sz (off + i.toNat) 0) else none) else none
      | .sq b _ sz l => if te.size = sz then (if 0 ≤ i then (match l[i.toNat]? with | some c => some (.bx b c) | none => none) else none) else none
      | _ => none
  | some ⟨.array n e, _, _, _, _⟩, .c (.int _ i) =>
    match T e with
    | none => none
    | some te =>
      match x with
      | .p id vr sz i0 j => if 0 ≤ i ∧ i < (n : Int) then some (.p id vr sz i0 (j + i.toNat * te.size)) else none
      | .bx b l => if 0 ≤ i ∧ i < (n : Int) then some (.bx b (l.drop (i.toNat * te.size))) else none
      | _ => none
  | _, _ => none

def byteAt (s : ByteArray) (i : Int) : Int := (((s.data.toList.getD i.toNat 0 : UInt8).toNat : Nat) : Int)

def indexV (T : Tab) (t : TypeId) (x ix : V) : Option V :=
  match T t, x, ix with
  | some ⟨.str, _, _, _, _⟩, .c (.string s), .c (.int _ i) => if 0 ≤ i ∧ i < (s.size : Int) then some (.c (.int .u8 (byteAt s i))) else none
  | some ⟨.array n e, _, _, _, _⟩, .ag l, .c (.int _ i) =>
    match T e with
    | some te => if te.k.agg = false ∧ te.size = 1 ∧ 0 ≤ i ∧ i < (n : Int) then l[i.toNat]? else none
    | none => none
  | _, _, _ => none

/-- The bounds of a slicing: of what is there, n. -/
def bounds (n : Nat) (lo hi : Option V) : Option (Nat × Nat) :=
  match (match hi with | none => some n | some (.c (.int _ h)) => if 0 ≤ h ∧ h ≤ (n : Int) then some h.toNat else none | _ => none) with
  | none => none
  | some h => match (match lo with | none => some 0 | some (.c (.int _ l)) => if 0 ≤ l ∧ l ≤ (h : Int) then some l.toNat else none | _ => none) with
    | none => none
    | some l => some (l, h)

def sliceV (T : Tab) (t : TypeId) (x : V) (lo hi mx : Option V) : Option V :=
  match mx with
  | some m => (match T t, x, lo, hi, m with
    | some ⟨.slice e, _, _, _, _⟩, x, none, some (.c (.int _ h)), .c (.int _ m) =>
      if h = 0 ∧ m = 0 ∧ (T e).isSome then (match x with
        | .sq .. | .s .. | .e | .c (.slice none 0 0) => some .e
        | _ => none) else none
    | _, _, _, _, _ => none)
  | none =>
  match T t, x with
  | some ⟨.str, _, _, _, _⟩, .c (.string s) => (bounds s.size lo hi).map fun b => .c (.string (s.extract b.1 b.2))
  | some ⟨.slice e, _, _, _, _⟩, .s id vr sz off len =>
    match T e with
    | some te => if te.size = sz then (bounds len lo hi).map fun b => .s id vr sz (off + b.1) (b.2 - b.1) else none
    | none => none
  | some ⟨.slice e, _, _, _, _⟩, .sq b fl sz l =>
    match T e with
    | some te => if te.size = sz then (bounds l.length lo hi).map fun q => .sq b fl sz ((l.take q.2).drop q.1) else none
    | none => none
  | some ⟨.slice e, _, _, _, _⟩, .c (.slice none 0 0) => if (T e).isSome then (bounds 0 lo hi).map fun _ => .c (.slice none 0 0) else none
  | _, _ => none

def convV (T : Tab) (src dst : TypeId) (x : V) : Option V :=
  match T dst, x with
  | some ⟨.int k, _, _, _, _⟩, .c (.int _ n) => if (T src).isSome then some (.c (.int k (k.wrap n))) else none
  | some ⟨.str, _, _, _, _⟩, .c (.string s) => match T src with
    | some ⟨.str, _, _, _, _⟩ => some (.c (.string s))
    | _ => none
  | _, _ => none

def fillF (place : Nat → Option (Nat × Nat)) (acc : List V) (x : Nat × V) : Option (List V) :=
  match place x.1 with
  | some (off, n) => if x.2.cells.length = n ∧ off + n ≤ acc.length ∧ x.2.cells.all V.one = true then some (setAt acc off x.2.cells) else none
  | none => none
def chunk (n : Nat) : Nat → List V → List (List V)
  | 0, _ => []
  | k + 1, l => l.take n :: chunk n k (l.drop n)

def buildV (T : Tab) (t : TypeId) (parts : List (Nat × V)) : Option V :=
  match T t with
  | some ⟨.struct fs, _, _, zero, _⟩ => (parts.foldlM (fillF fun i => (fs[i]?).map fun f => (f.1, f.2.1)) (zero.map V.c)).map .ag
  | some ⟨.array _ e, _, _, zero, _⟩ =>
    match T e with
    | some te => (parts.foldlM (fillF fun i => some (i * te.size, te.size)) (zero.map V.c)).map .ag
    | none => none
  | _ => none

def lenV (T : Tab) (t : TypeId) (x : V) : Option V :=
  match T t, x with
  | some ⟨.slice _, _, _, _, _⟩, .s _ _ _ _ len => some (.c (.int .i64 (len : Int)))
  | some ⟨.slice _, _, _, _, _⟩, .sq _ _ _ l => some (.c (.int .i64 (l.length : Int)))
  | some ⟨.slice _, _, _, _, _⟩, .c (.slice _ n _) => some (.c (.int .i64 (n : Int)))
  | some ⟨.slice _, _, _, _, _⟩, .e => some (.c (.int .i64 0))
  | some ⟨.str, _, _, _, _⟩, .c (.string s) => some (.c (.int .i64 (s.size : Int)))
  | some ⟨.array n _, _, _, _, _⟩, _ => some (.c (.int .i64 (n : Int)))
  | _, _ => none

/-- What an append reads of its second argument: its elements. -/
def newsV (H : Hp) (sz : Nat) (fl : Bool) (x : V) : Option (List (List V)) :=
  match x with
  | .sq _ fl' sz' l => if sz' = sz ∧ (fl' || !fl) = true then some l else none
  | .s id vr sz' off len => match find H id vr with
    | some o => if (o.fl || !fl) = true ∧ sz' = sz ∧ o.sz = sz ∧ off + len ≤ o.es.length then some ((o.es.drop off).take len) else none
    | none => none
  | .c (.slice none 0 0) => some []
  | .e => some []
  | _ => none

def appendV (T : Tab) (H : Hp) (tick id : Nat) (t : TypeId) (x y : V) : Out :=
  match T t with
  | some ⟨.slice e, _, _, _, _⟩ =>
    match T e with
    | none => none
    | some te =>
      if te.size = 0 then none else
      match newsV H te.size te.fl y with
      | none => none
      | some news =>
        if news = [] then (match x with
          | .c (.slice none 0 0) | .e | .s .. | .sq .. => val x
          | _ => none) else
        match x with
        | .c (.slice none 0 0) =>
          if news.length * te.bytes ≤ 140737488355328 ∧ news.length ≤ maxLen then made tick id ⟨e, te.size, te.fl, news⟩ (.s id tick te.size 0 news.length) else none
        | .e =>
          if news.length * te.bytes ≤ 140737488355328 ∧ news.length ≤ maxLen then made tick id ⟨e, te.size, te.fl, news⟩ (.s id tick te.size 0 news.length) else none
        | .s id0 vr sz off len =>
          match find H id0 vr with
          | some o =>
            if off = 0 ∧ sz = te.size ∧ o.sz = sz ∧ o.ty = e ∧ o.fl = te.fl ∧ len ≤ o.es.length ∧ (len + news.length) * te.bytes ≤ 140737488355328 ∧ len + news.length ≤ maxLen then
              (if okObj ⟨e, sz, te.fl, o.es.take len ++ news⟩ then some (some (.s id tick sz 0 (len + news.length)), [(id0, none), (id, some (tick, ⟨e, sz, te.fl, o.es.take len ++ news⟩))]) else none)
            else none
          | none => none
        | _ => none
  | _ => none

/-- A copy over the elements of an object of one's own, of one cell each. -/
def copyV (T : Tab) (H : Hp) (t : TypeId) (x y : V) : Out :=
  match T t with
  | some ⟨.slice e, _, _, _, _⟩ =>
    match T e with
    | none => none
    | some te =>
      match newsV H 1 true y with
      | none => none
      | some news =>
        match x with
        | .s id vr sz off len =>
          if te.size ≠ 1 then none else
          if news.length = 0 ∨ len = 0 then val (.c (.int .i64 0)) else
          match find H id vr with
          | some o =>
            if sz = 1 ∧ o.sz = 1 ∧ off + len ≤ o.es.length then
              some (some (.c (.int .i64 ((min news.length len : Nat) : Int))), [(id, some (vr, { o with es := o.es.take off ++ (news.take len ++ o.es.drop (off + min news.length len)) }))])
            else none
          | none => none
        | _ => none
  | _ => none

/-- The elements of one cell each become zero. -/
def clearV (T : Tab) (H : Hp) (t : TypeId) (x : V) : Out :=
  match T t with
  | some ⟨.slice e, _, _, _, _⟩ =>
    match T e with
    | none => none
    | some te =>
      match x with
      | .s id vr sz off len =>
        if te.size ≠ 1 then none else
        if len = 0 then val (.tp []) else
        match find H id vr with
        | some o =>
          if sz = 1 ∧ o.sz = 1 ∧ off + len ≤ o.es.length then
            some (some (.tp []), [(id, some (vr, { o with es := o.es.take off ++ (List.replicate len (te.zero.map V.c) ++ o.es.drop (off + len)) }))])
          else none
        | none => none
      | _ => none
  | _ => none

/-- The bytes that cells hold. -/
def bytesOf : List V → Option (List UInt8)
  | [] => some []
  | .c (.int .u8 n) :: l => if 0 ≤ n ∧ n ≤ 255 then (match bytesOf l with
    | some r => some (UInt8.ofNat n.toNat :: r)
    | none => none) else none
  | _ => none
/-- A text out of bytes. -/
def strV (T : Tab) (H : Hp) (src dst : TypeId) (x : V) : Option V :=
  match T src with
  | some ⟨.slice e, _, _, _, _⟩ => match T dst, T e with
    | some ⟨.str, _, _, _, _⟩, some ⟨.int .u8, 1, _, _, _⟩ => match newsV H 1 true x with
      | some news => match bytesOf news.flatten with
        | some b => some (.c (.string ⟨b.toArray⟩))
        | none => none
      | none => none
    | _, _ => none
  | _ => none

/-- The bytes of a string, of which a new row is made. -/
def bytesV (T : Tab) (src dst : TypeId) (x : V) : Option (TypeId × ByteArray) :=
  match T src with
  | some ⟨.str, _, _, _, _⟩ => match T dst, x with
    | some ⟨.slice e, _, _, _, _⟩, .c (.string s) => match T e with
      | some ⟨.int .u8, 1, _, _, _⟩ => if s.size ≤ 17592186044416 then some (e, s) else none
      | _ => none
    | _, _ => none
  | _ => none
def byteE (s : ByteArray) : List (List V) := s.data.toList.map fun b => [.c (.int .u8 (b.toNat : Int))]

def max2V (x y : V) : Option V :=
  match x, y with
  | .c (.int k a), .c (.int _ b) => some (.c (.int k (if b > a then b else a)))
  | _, _ => none
def min2V (x y : V) : Option V :=
  match x, y with
  | .c (.int k a), .c (.int _ b) => some (.c (.int k (if b < a then b else a)))
  | _, _ => none
def foldV (f : V → V → Option V) : List V → Option V
  | [] => none
  | x :: l => l.foldlM f x

def mapO {α β : Type} (f : α → Option β) : List α → Option (List β)
  | [] => some []
  | x :: l => match f x with
    | none => none
    | some y => match mapO f l with
      | none => none
      | some l' => some (y :: l')

/-! ### calls -/
mutual
def refs : V → List (Nat × Nat)
  | .p id vr _ _ _ => [(id, vr)]
  | .s id vr _ _ _ => [(id, vr)]
  | .ag l => refsL l
  | .tp l => refsL l
  | .fn _ l => refsL l
  | _ => []
def refsL : List V → List (Nat × Nat)
  | [] => []
  | x :: l => refs x ++ refsL l
end
mutual
def ren (φ : Nat → Nat → Option (Nat × Nat)) : V → Option V
  | .p id vr sz i j => (φ id vr).map fun q => .p q.1 q.2 sz i j
  | .s id vr sz off len => (φ id vr).map fun q => .s q.1 q.2 sz off len
  | .ag l => (renL φ l).map .ag
  | .tp l => (renL φ l).map .tp
  | .fn f l => (renL φ l).map (.fn f)
  | x => some x
def renL (φ : Nat → Nat → Option (Nat × Nat)) : List V → Option (List V)
  | [] => some []
  | x :: l => match ren φ x with
    | none => none
    | some y => match renL φ l with
      | none => none
      | some l' => some (y :: l')
end
mutual
def noTag : V → Bool
  | .sq b _ _ _ => !b
  | .bx b _ => !b
  | .ag l => noTagL l
  | .tp l => noTagL l
  | .fn _ l => noTagL l
  | .un => false
  | _ => true
def noTagL : List V → Bool
  | [] => true
  | x :: l => noTag x && noTagL l
end

/-- A value for a callee that only reads: slices and pointers of one's own become what they hold. -/
def bor (H : Hp) : Nat → V → Option V
  | 0, _ => none
  | n + 1, x => match x with
    | .c v => some (.c v)
    | .e => some .e
    | .er => some .er
    | .sq b fl sz l => some (.sq b fl sz l)
    | .bx b l => some (.bx b l)
    | .s id vr sz off len => match find H id vr with
      | none => none
      | some o => if o.sz = sz ∧ off + len ≤ o.es.length then
          (if o.fl then some (.sq true true sz ((o.es.drop off).take len))
           else match mapO (mapO (bor H n)) ((o.es.drop off).take len) with
             | some l => some (.sq true false sz l)
             | none => none)
        else none
    | .p id vr sz i j => match find H id vr with
      | none => none
      | some o => match o.es[i]? with
        | none => none
        | some e => if o.sz = sz then (match mapO (bor H n) (e.drop j) with | some l => some (.bx true l) | none => none) else none
    | .ag l => match mapO (bor H n) l with | some l => some (.ag l) | none => none
    | .fn f l => match mapO (bor H n) l with | some l => some (.fn f l) | none => none
    | .tp _ | .un => none

def idx (l : List (Nat × Nat)) (id vr : Nat) : Option Nat :=
  match l.findIdx? (fun x => x.1 == id && x.2 == vr) with
  | some i => some i
  | none => none

def nodup : List Nat → Bool
  | [] => true
  | x :: l => !l.contains x && nodup l

/-- What functions come to: called with what they may read and write handed over; called in place, in the caller's own heap. -/
structure CallF where
  fn : FuncId → List V → List Obj → Option (V × Hp)
  inl : FuncId → List V → Hp → Nat → Option (V × Hp × Nat)
instance : CoeFun CallF (fun _ => FuncId → List V → List Obj → Option (V × Hp)) := ⟨CallF.fn⟩

/-- The program's tables for a run. -/
structure Cfg where
  T : Tab
  fn : FuncId → Option Func
  ext : FuncId → Option (List V → Option (V × List Obj))
  wr : FuncId → Bool
  own : FuncId → Bool
  keep : FuncId → Nat → List Nat
  bld : FuncId → Option (Nat × TypeId × TypeId)

def renO (φ : Nat → Nat → Option (Nat × Nat)) (o : Obj) : Option Obj :=
  if o.fl then some o else match mapO (renL φ) o.es with | some es => some { o with es := es } | none => none
def refsO (o : Obj) : List (Nat × Nat) := if o.fl then [] else o.es.flatMap refsL
def noTagO (o : Obj) : Bool := o.fl || o.es.all noTagL

def rootOf (own : Bool) (x : V) : List (Nat × Nat) :=
  if own then refs x else match x with
    | .p id vr _ _ _ => [(id, vr)]
    | _ => []

def passV (wr own : Bool) (H : Hp) (φ : Nat → Nat → Option (Nat × Nat)) (x : V) : Option V :=
  if wr && own then ren φ x else match x with
    | .p id vr sz i j => if wr then ren φ (.p id vr sz i j) else bor H 4 (.p id vr sz i j)
    | x => bor H 4 x

def flatAt (H : Hp) (q : Nat × Nat) : Option Obj :=
  match find H q.1 q.2 with
  | none => none
  | some o => if o.fl then some o else none

def newD (tick : Nat) : Nat → List Obj → List (Nat × Option (Nat × Obj))
  | _, [] => []
  | i, o :: l => (i, some (tick, o)) :: newD tick (i + 1) l

def backR (ψ : Nat → Nat → Option (Nat × Nat)) (q : (Nat × Nat) × Option Obj) : Option (Nat × Option (Nat × Obj)) :=
  match q.2 with
  | none => some (q.1.1, none)
  | some o => match renO ψ o with
    | none => none
    | some o' => some (q.1.1, some (q.1.2, o'))

def refsR : List (Option Obj) → List (Nat × Nat)
  | [] => []
  | some o :: l => refsO o ++ refsR l
  | none :: l => refsR l
def noTagR : List (Option Obj) → Bool
  | [] => true
  | some o :: l => noTagO o && noTagR l
  | none :: l => noTagR l
def isRoot (n : Nat) (q : Nat × Nat) : Bool := decide (q.1 < n) && q.2 == 0
def frs (φl : List (Nat × Nat)) (id vr : Nat) : Option (Nat × Nat) := (idx φl id vr).map fun i => (i, 0)
def psi (roots pulled : List (Nat × Nat)) (site tick id vr : Nat) : Option (Nat × Nat) :=
  if isRoot roots.length (id, vr) then roots[id]? else (idx pulled id vr).map fun i => (16 * site + i, tick)

/-- A call of a function: what it gets by pointer, and what it is handed to write, goes with it and comes back (what hangs on it too, under its own name where the callee leaves it be); all else it only reads. -/
def callV (C : Cfg) (call : CallF) (H : Hp) (tick site : Nat) (f : FuncId) (args : List V) : Out :=
  let roots := if C.wr f then args.flatMap (rootOf (C.own f)) else []
  match mapO (fun q => find H q.1 q.2) roots with
  | none => none
  | some robjs =>
    let subs := robjs.flatMap refsO
    match mapO (flatAt H) subs with
    | none => none
    | some sobjs =>
      if nodup ((roots ++ subs).map (·.1)) then
        match mapO (passV (C.wr f) (C.own f) (fun id => if ((roots ++ subs).map (·.1)).contains id then none else H id) (frs (roots ++ subs))) args, mapO (renO (frs (roots ++ subs))) robjs with
        | some aZ, some fr =>
          match call f aZ (fr ++ sobjs) with
          | none => none
          | some (v, Hc) =>
            let after := (List.range (roots ++ subs).length).map fun i => find Hc i 0
            let pulled := (refs v ++ refsR after).filter (fun q => !isRoot (roots ++ subs).length q)
            if nodup (pulled.map (·.1)) && noTag v && decide (pulled.length ≤ 16) && noTagR after then
              match mapO (flatAt Hc) pulled, ren (psi (roots ++ subs) pulled site tick) v, mapO (backR (psi (roots ++ subs) pulled site tick)) ((roots ++ subs).zip after) with
              | some objs, some v', some rs => some (some v', rs ++ newD tick (16 * site) objs)
              | _, _, _ => none
            else none
        | _, _ => none
      else none

/-- What a text that is built holds: what falls out of the heap when it is written on, its bytes. -/
def bufV (H : Hp) (e : TypeId) (id : Nat) (x : V) : Option (List (Nat × Option (Nat × Obj)) × List (List V)) :=
  match x with
  | .c (.slice none 0 0) => some ([], [])
  | .s id2 vr2 1 0 len => match find H id2 vr2 with
    | some o => if id2 ≠ id ∧ o.ty = e ∧ o.sz = 1 ∧ o.fl = true ∧ o.es.length = len ∧ 0 < len then some ([(id2, none)], o.es) else none
    | none => none
  | _ => none
def selfV (id vr : Nat) (a : V) : Bool :=
  match a with
  | .c (.pointer none) => true
  | .p id' vr' 2 0 0 => id' == id && vr' == vr
  | _ => false
/-- strings.Builder's WriteString and String, at a builder of one's own; slices.Replace of more nodes than one by one, in a slice of one's own. -/
def bldV (H : Hp) (tick site : Nat) (k : Nat × TypeId × TypeId) (args : List V) : Out :=
  match k, args with
  | (1, T, e), [.p id vr 2 0 0, .c (.string s)] => match find H id vr with
    | some ⟨ty, 2, false, [[a, buf]]⟩ => match bufV H e id buf with
      | some (dr, old) =>
        if ty = T ∧ selfV id vr a = true ∧ 0 < s.size ∧ old.length + s.size ≤ 140737488355328 ∧ id ≠ 16 * site + 8 ∧ okObj ⟨e, 1, true, old ++ byteE s⟩ = true then
          some (some (.tp [.c (.int .i64 (s.size : Int)), .c .nilIface]), [(id, some (vr, ⟨T, 2, false, [[.p id vr 2 0 0, buf]]⟩))] ++ dr ++ [(16 * site + 8, some (tick, ⟨e, 1, true, old ++ byteE s⟩)), (id, some (vr, ⟨T, 2, false, [[.p id vr 2 0 0, .s (16 * site + 8) tick 1 0 (old.length + s.size)]]⟩))])
        else none
      | none => none
    | _ => none
  | (2, _, e), [.s id vr 2 0 n, .c (.int .i64 i), .c (.int .i64 j), y] => match find H id vr with
    | some o => match newsV H 2 true y with
      | some [x] =>
        if o.ty = e ∧ o.sz = 2 ∧ o.fl = true ∧ o.es.length = n ∧ 0 ≤ i ∧ i + 1 < j ∧ j ≤ n ∧ okObj ⟨e, 2, true, o.es.take i.toNat ++ x :: o.es.drop j.toNat⟩ = true then
          some (some (.s (16 * site + 8) tick 2 0 (i.toNat + 1 + (n - j.toNat))), [(id, none), (16 * site + 8, some (tick, ⟨e, 2, true, o.es.take i.toNat ++ x :: o.es.drop j.toNat⟩))])
        else none
      | _ => none
    | none => none
  | (0, T, e), [.p id vr 2 0 0] => match find H id vr with
    | some ⟨ty, 2, false, [[_, buf]]⟩ => match bufV H e id buf with
      | some (dr, old) => match bytesOf old.flatten with
        | some b => if ty = T ∧ b ≠ [] then some (some (.c (.string ⟨b.toArray⟩)), (id, none) :: dr) else none
        | none => none
      | none => none
    | _ => none
  | _, _ => none

def callO (C : Cfg) (call : CallF) (ev : Operand → V) (H : Hp) (tick site : Nat) (c : Call) : Out :=
  match c.callee with
  | .value fo =>
    match ev fo with
    | .fn f caps => match C.bld f with
      | some k => bldV H tick site k (c.args.toList.map ev ++ caps)
      | none => callV C call H tick site f (c.args.toList.map ev ++ caps)
    | _ => none
  | .builtin b =>
    match b, c.args.toList.map ev, c.argTypes.toList with
    | .len, [x], [t] => ofO (lenV C.T t x)
    | .append, [x, y], [t, t'] => if t = t' then appendV C.T H tick (16 * site + 8) t x y else none
    | .copy, [x, y], [t, _] => copyV C.T H t x y
    | .clear, [x], [t] => clearV C.T H t x
    | .max, l, _ => ofO (foldV max2V l)
    | .min, l, _ => ofO (foldV min2V l)
    | _, _, _ => none
  | .invoke .. => none

def astep (C : Cfg) (call : CallF) (ev : Operand → V) (H : Hp) (tick site : Nat) (o : Oper) : Out :=
  match o.op with
  | .move x | .assign x => val (ev x)
  | .pick c a b => match ev c with
    | .c (.bool t) => val (if t then ev a else ev b)
    | _ => none
  | .alloc t => match C.T t with
    | some ti => made tick (16 * site) ⟨t, ti.size, ti.fl, [ti.zero.map V.c]⟩ (.p (16 * site) tick ti.size 0 0)
    | none => none
  | .box t x => match C.T t with
    | some ti => made tick (16 * site) ⟨t, ti.size, ti.fl, [(ev x).cells]⟩ (.p (16 * site) tick ti.size 0 0)
    | none => none
  | .build t parts => ofO (buildV C.T t (parts.toList.map fun q => (q.1, ev q.2)))
  | .buildSlice t len parts => match C.T t with
    | some ⟨.slice e, _, _, _, _⟩ => match C.T e with
      | some te =>
        if len * te.size ≤ 16777216 ∧ 0 < te.size then
          match (parts.toList.map fun q => (q.1, ev q.2)).foldlM (fillF fun i => some (i * te.size, te.size)) (List.replicate len (te.zero.map V.c)).flatten with
          | some flat => made tick (16 * site) ⟨e, te.size, te.fl, chunk te.size len flat⟩ (.s (16 * site) tick te.size 0 len)
          | none => none
        else none
      | none => none
    | _ => none
  | .load t x => ofO (loadV C.T H t (ev x))
  | .store t x v => storeV C.T H t (ev x) (ev v)
  | .nilCheck x => match ev x with
    | .p id vr sz i j => val (.p id vr sz i j)
    | .bx b l => val (.bx b l)
    | .fn f l => val (.fn f l)
    | _ => none
  | .binOp op t x y _ => if nilB y = true then ofO (nilCmp C.T op t (ev x)) else match ev x, ev y with
    | .c a, .c b => match bin op a b with
      | some v => val (.c v)
      | none => match C.T t with
        | some ti => ofO (binT ti.k op (.c a) (.c b))
        | none => none
    | x, y => match C.T t with
      | some ti => ofO (binA ti op x y)
      | none => none
  | .unOp op _ x => match ev x with
    | .c a => match un1 op a with
      | some v => val (.c v)
      | none => none
    | _ => none
  | .convert src dst x => match convV C.T src dst (ev x) with
    | some v => val v
    | none => match bytesV C.T src dst (ev x) with
      | some (e, s) => made tick (16 * site) ⟨e, 1, true, byteE s⟩ (.s (16 * site) tick 1 0 s.size)
      | none => ofO (strV C.T H src dst (ev x))
  | .makeFunc (.func f) first caps => if first.isEmpty then val (.fn f (caps.toList.map ev)) else none
  | .makeSlice t l c => match C.T t, ev l, ev c with
    | some ⟨.slice e, _, _, _, _⟩, .c (.int _ n), .c (.int _ m) => match C.T e with
      | some te => if 0 ≤ n ∧ n ≤ m ∧ m ≤ 17592186044416 ∧ te.bytes * m ≤ 140737488355328 ∧ 0 < te.size then made tick (16 * site) ⟨e, te.size, te.fl, List.replicate n.toNat (te.zero.map V.c)⟩ (.s (16 * site) tick te.size 0 n.toNat) else none
      | none => none
    | _, _, _ => none
  | .slice t x lo hi mx => ofO (sliceV C.T t (ev x) (lo.map ev) (hi.map ev) (mx.map ev))
  | .fieldAddr t x f => ofO (fieldAddrV C.T t (ev x) f)
  | .field t x f => ofO (fieldV C.T t (ev x) f)
  | .indexAddr t x i => ofO (indexAddrV C.T t (ev x) (ev i))
  | .index t x i => ofO (indexV C.T t (ev x) (ev i))
  | .extract x i => match ev x with
    | .tp l => ofO l[i]?
    | _ => none
  | .call c => callO C call ev H tick site c
  | _ => none

def wrsO (wr : FuncId → Bool) : Op → Bool
  | .store .. => true
  | .call c => match c.callee with
    | .value (.func f) => wr f
    | .builtin .append => true
    | .builtin .copy => true
    | .builtin .clear => true
    | _ => false
  | _ => false
def rdsO (wr : FuncId → Bool) : Op → Bool
  | .load .. | .store .. => true
  | .convert src _ _ => wr (1000000 + src)
  | .call c => match c.callee with
    | .builtin .append => true
    | .builtin .copy => true
    | .builtin .clear => true
    | .builtin _ => false
    | _ => true
  | _ => false

def applyD (H : Hp) (δ : List (Nat × Option (Nat × Obj))) : Hp := δ.foldl (fun H q => fun id => if id = q.1 then q.2 else H id) H

/-- A region that draws its order: its number, and of some of its operations the objects (made elsewhere) that they may change. -/
abbrev Dr := Option (Nat × List (Nat × Nat))
def pairs : List Nat → List (Nat × Nat)
  | a :: b :: l => (a, b) :: pairs l
  | _ => []
def declW (W : List (Nat × Nat)) (j : Nat) : Bool := W.any fun q => q.1 == j
def mayW (W : List (Nat × Nat)) (j id : Nat) : Bool := !declW W j || W.any fun q => q.1 == j && q.2 == id

/-- Two values that are surely one. -/
def sameV : V → V → Bool
  | .s a b c d e, .s a' b' c' d' e' => a == a' && (b == b' && (c == c' && (d == d' && e == e')))
  | .c (.slice none 0 0), .c (.slice none 0 0) => true
  | _, _ => false
theorem sameV_eq {x y : V} (h : sameV x y = true) : x = y := by
  unfold sameV at h
  split at h
  · simp only [Bool.and_eq_true, beq_iff_eq] at h
    obtain ⟨rfl, rfl, rfl, rfl, rfl⟩ := h
    rfl
  · rfl
  · cases h
/-- A cell of an object's first element that is as it was. -/
def cellSame (c : Nat) (old new : Option (Nat × Obj)) : Bool :=
  match old, new with
  | some (vr, o), some (vr', o') => vr == vr' && (o.sz == o'.sz && (match o.es, o'.es with
    | e :: _, e' :: _ => match e[c]?, e'[c]? with
      | some x, some y => sameV x y
      | _, _ => false
    | _, _ => false))
  | _, _ => false
/-- Said in W of an operation (1000 + it): the cells (100000 + 8 * id + cell) that it leaves as they are. -/
def frzW (W : List (Nat × Nat)) (j id c : Nat) : Bool := decide (c < 8) && W.any fun z => z.1 == 1000 + j && z.2 == 100000 + 8 * id + c
def keepsF (W : List (Nat × Nat)) (j id : Nat) (old new : Option (Nat × Obj)) : Bool :=
  W.all fun z => !(z.1 == 1000 + j && z.2 / 8 == 12500 + id) || cellSame (z.2 % 8) old new
theorem keepsF_cell {W : List (Nat × Nat)} {j id c : Nat} {old new : Option (Nat × Obj)} (hf : frzW W j id c = true) (hk : keepsF W j id old new = true) : cellSame c old new = true := by
  unfold frzW at hf
  simp only [Bool.and_eq_true, decide_eq_true_eq, List.any_eq_true, beq_iff_eq] at hf
  obtain ⟨hc, z, hz, h1, h2⟩ := hf
  have := List.all_eq_true.1 hk z hz
  rw [show (z.1 == 1000 + j) = true by simp [h1], show (z.2 / 8 == 12500 + id) = true by simp [h2]; omega, show z.2 % 8 = c by omega] at this
  simpa using this
/-- Nothing is made or written but where it may be; in a region that draws its order (dr: its number), of what another of its operations made only what must come before. -/
def okD (dr : Dr) (yg : Nat → Bool) (H : Hp) (site : Nat) (wr : Bool) (δ : List (Nat × Option (Nat × Obj))) : Bool :=
  match dr with
  | none => true
  | some (rid, W) => δ.all fun q => if q.1 / 16 = site ∧ q.1 % 16 < 8 then (H q.1).isNone && q.2.isSome else wr && !yg q.1 && mayW W (site - rid * 64 - 1) q.1 && keepsF W (site - rid * 64 - 1) q.1 (H q.1) q.2

def putV (ρ : Nat → V) (d : Option Nat) (v : V) : Nat → V :=
  match d with
  | some d => fun x => if x = d then v else ρ x
  | none => ρ

def wantedV (ops : Array Oper) (st : St) (o : Oper) : Option Bool :=
  match o.guard with
  | none => some true
  | some (j, want) => match (ops[j]?).bind (·.dst) with
    | none => none
    | some d => match st.ρ d with
      | .c (.bool b) => some (b == want)
      | .c _ => some false
      | _ => none

def cloF (acc : List Nat) (o : Oper) : List Nat :=
  acc ++ [o.after.toList.foldl (fun s e => if Region.binds .any e then s ||| 2 ^ e.on ||| acc.getD e.on 0 else s) 0]
/-- Of each operation of a region: which ones come before it, in whatever order. -/
def clo (ops : List Oper) : List Nat := ops.foldl cloF []

/-- An operation that is not ordered with this one may change the object. -/
def hidW (W : List (Nat × Nat)) (ops : List Oper) (j id : Nat) : Bool :=
  W.any fun q => q.2 == id && (q.1 != j) && !((clo ops).getD j 0).testBit q.1 && !((clo ops).getD q.1 0).testBit j
def youngOf (dr : Dr) (ops : List Oper) (j id : Nat) : Bool :=
  match dr with
  | none => false
  | some (rid, W) => (decide (rid * 64 < id / 16) && decide (id / 16 ≤ rid * 64 + 64) && decide (id % 16 < 8) && !((clo ops).getD j 0).testBit (id / 16 - rid * 64 - 1)) || hidW W ops j id

/-- A load of a cell that no operation beside it changes, in whatever order. -/
def freeL (T : Tab) (ev : Operand → V) (dr : Dr) (ops : List Oper) (j : Nat) (o : Op) (id : Nat) : Bool :=
  match dr, o with
  | some (rid, W), .load t x => match ev x, T t with
    | .p id' _ _ 0 c, some ti => id' == id && (!ti.k.agg && (!(decide (rid * 64 < id / 16) && decide (id / 16 ≤ rid * 64 + 64)) && W.all fun z => decide (1000 ≤ z.1) || (z.1 == j || (((clo ops).getD j 0).testBit z.1 || (((clo ops).getD z.1 0).testBit j || frzW W z.1 id c)))))
    | _, _ => false
  | _, _ => false
def seen (dr : Dr) (ops : List Oper) (j : Nat) (fr : Nat → Bool) (H : Hp) : Hp := fun id => if youngOf dr ops j id then (if fr id then H id else none) else H id

def step (C : Cfg) (call : CallF) (ops : Array Oper) (rid : Nat) (dr : Dr) (j : Nat) (st : St) (o : Oper) : Option St :=
  match wantedV ops st o with
  | none => none
  | some false => some { st with ρ := putV st.ρ o.dst (.c undef) }
  | some true =>
    match astep C call st.ev (if rdsO C.wr o.op then seen dr ops.toList j (freeL C.T st.ev dr ops.toList j o.op) st.H else fun _ => none) st.tick (rid * 64 + j + 1) o with
    | none => none
    | some (v, δ) => if okD dr (youngOf dr ops.toList j) st.H (rid * 64 + j + 1) (wrsO C.wr o.op) δ then some { st with ρ := putV st.ρ o.dst (v.getD (.c undef)), H := applyD st.H δ } else none

/-- A call in place: the function, its arguments. -/
def inlOf (C : Cfg) (st : St) (o : Oper) : Option (FuncId × List V) :=
  match o.op with
  | .call c => match c.callee with
    | .value fo => match st.ev fo with
      | .fn f caps => match C.bld f with
        | some (9, _, _) => if o.guard.isNone then some (f, c.args.toList.map st.ev ++ caps) else none
        | _ => none
      | _ => none
    | _ => none
  | _ => none
def stepX (C : Cfg) (call : CallF) (ops : Array Oper) (rid : Nat) (dr : Dr) (j : Nat) (st : St) (o : Oper) : Option St :=
  match dr with
  | some d => step C call ops rid (some d) j st o
  | none => match inlOf C st o with
    | some (f, args) => match call.inl f args st.H (st.tick + 1) with
      | some (v, H', tick') => some { ρ := putV st.ρ o.dst v, H := H', tick := tick' }
      | none => none
    | none => step C call ops rid none j st o

def runOps (C : Cfg) (call : CallF) (ops : Array Oper) (rid : Nat) (dr : Dr) : Nat → List Oper → St → Option St
  | _, [], st => some st
  | j, o :: rest, st => match stepX C call ops rid dr j st o with
    | none => none
    | some st' => runOps C call ops rid dr (j + 1) rest st'

inductive Ex where
  | nrm
  | ex (id : Nat)
  | ret

def loops : Code → Nat
  | .seq a b => loops a + loops b
  | .cond _ a b => loops a + loops b
  | .block _ a => loops a
  | .scope a => loops a
  | .loop a => loops a + 1
  | _ => 0

def keepIds (l : List Nat) (st : St) : List Nat :=
  ((l.flatMap fun t => refs (st.ρ t)) ++ (l.flatMap fun t => refs (st.ρ t)).flatMap fun x => match find st.H x.1 x.2 with
    | some o => refsO o
    | none => []).map (·.1)

def gc (l : List Nat) (st : St) : St :=
  { ρ := fun x => if l.contains x then st.ρ x else .un
    H := fun id => if decide (id < 16) || (keepIds l st).contains id || l.contains 999 then st.H id else none
    tick := st.tick }

def loopRun (body : St → Option (Ex × St)) (keep : List Nat) : Nat → St → Option (Ex × St)
  | 0, _ => none
  | k + 1, st => match body (gc keep st) with
    | some (.nrm, st') => loopRun body keep k st'
    | r => r

/-- The number by which a region names what it makes: its own, or (far) one for each time that it runs, so that what one run has made lives beside what another makes. -/
noncomputable def FRp : {f : Nat → Nat → Nat // ∀ r t, f r t = r + 4194304 * t} := Classical.choice ⟨⟨fun r t => r + 4194304 * t, fun _ _ => rfl⟩⟩
/-- (Of what is chosen nothing unfolds: numbers of this size cost the kernel all its memory.) -/
noncomputable def FR (r t : Nat) : Nat := FRp.1 r t
theorem FR_eq (r t : Nat) : FR r t = r + 4194304 * t := FRp.2 r t
noncomputable def farR (l : List Nat) (id tick : Nat) : Nat := match l with
  | [] => id
  | _ => FR id tick
@[simp] theorem farR_one (id tick : Nat) : farR [1] id tick = FR id tick := rfl
@[simp] theorem farR_nil (id tick : Nat) : farR [] id tick = id := rfl

noncomputable def runCode (C : Cfg) (call : CallF) (k : Nat) (keep : Nat → List Nat) : Code → Nat → St → Option (Ex × St)
  | .skip, _, st => some (.nrm, st)
  | .region id ops draw, _, st => match runOps C call ops (if draw then id else farR (keep (2000 + id)) id st.tick) (if draw then some (id, pairs (keep (1000 + id))) else none) 0 ops.toList st with
    | none => none
    | some st' => some (.nrm, { st' with tick := st'.tick + 1 })
  | .seq a b, n, st => match runCode C call k keep a n st with
    | some (.nrm, st') => runCode C call k keep b (n + loops a) st'
    | r => r
  | .cond c a b, n, st => match st.ev c with
    | .c (.bool t) => if t then runCode C call k keep a n st else runCode C call k keep b (n + loops a) st
    | _ => none
  | .block id a, n, st => match runCode C call k keep a n st with
    | some (.ex id', st') => if id' = id then some (.nrm, st') else some (.ex id', st')
    | r => r
  | .loop a, n, st => loopRun (fun st => runCode C call k keep a (n + 1) st) (keep n) k st
  | .exit id, _, st => some (.ex id, st)
  | .label _, _, st => some (.nrm, st)
  | .ret, _, st => some (.ret, st)
  | _, _, _ => none

def resV (T : Tab) (st : St) : ResultVar → Option V
  | .tmp t => some (st.ρ t)
  | .cell a t => loadV T st.H t (st.ρ a)

def resultsV (T : Tab) (st : St) (rs : List ResultVar) : Option V :=
  match rs with
  | [r] => resV T st r
  | rs => (mapO (resV T st) rs).map .tp

def st0 (args : List V) (frag : List Obj) : St :=
  { ρ := fun x => args.getD x (.c undef)
    H := fun id => (frag[id]?).map fun o => (0, o)
    tick := 1 }

/-- The objects behind a call: what came in, and what is new. -/
def hpOf (after : List (Option Obj)) (objs : List Obj) : Hp := fun id =>
  if id < after.length then (match after[id]? with
    | some (some o) => some (0, o)
    | _ => none) else (objs[id - after.length]?).map fun o => (2, o)
def xi (n : Nat) (pulled : List (Nat × Nat)) (id vr : Nat) : Option (Nat × Nat) :=
  if isRoot n (id, vr) then some (id, 0) else (idx pulled id vr).map fun i => (n + i, 2)
def renQ (φ : Nat → Nat → Option (Nat × Nat)) : Option Obj → Option (Option Obj)
  | none => some none
  | some o => match renO φ o with
    | none => none
    | some o' => some (some o')
def exportV (n : Nat) (v : V) (H : Hp) : Option (V × Hp) :=
  let after := (List.range n).map fun i => find H i 0
  let pulled := (refs v ++ refsR after).filter (fun q => !isRoot n q)
  if nodup (pulled.map (·.1)) then
    match mapO (flatAt H) pulled, ren (xi n pulled) v, mapO (renQ (xi n pulled)) after with
    | some objs, some v', some after' => some (v', hpOf after' objs)
    | _, _, _ => none
  else none

def fin1 (T : Tab) (rs : List ResultVar) (n : Nat) (st : St) : Option (V × Hp) :=
  match resultsV T st rs with
  | some v => exportV n v st.H
  | none => none
def finK (T : Tab) (rs : List ResultVar) (n : Nat) : Option (Ex × St) → Option (V × Hp)
  | some (.nrm, st) => fin1 T rs n st
  | some (.ret, st) => fin1 T rs n st
  | _ => none

/-- What a call in place ends with. -/
def finI (T : Tab) (rs : List ResultVar) : Option (Ex × St) → Option (V × Hp × Nat)
  | some (.nrm, st) => (resultsV T st rs).map fun v => (v, st.H, st.tick)
  | some (.ret, st) => (resultsV T st rs).map fun v => (v, st.H, st.tick)
  | _ => none

noncomputable def callK (C : Cfg) : Nat → CallF
  | 0 => ⟨fun _ _ _ => none, fun _ _ _ _ => none⟩
  | k + 1 => ⟨fun f args frag =>
      match C.ext f with
      | some m => if frag.isEmpty then (m args).map fun r => (r.1, hpOf [] r.2) else none
      | none => match C.fn f with
        | none => none
        | some fn => match fn.body with
          | none => none
          | some code => finK C.T fn.results.toList frag.length (runCode C (callK C k) k (C.keep f) code 0 (st0 args frag)),
    fun f args H tick => match C.fn f with
      | none => none
      | some fn => match fn.body with
        | none => none
        | some code => finI C.T fn.results.toList (runCode C (callK C k) k (C.keep f) code 0 { ρ := fun x => args.getD x (.c undef), H := H, tick := tick })⟩
end Go.Proofs.YtbjmfjfnilmhhaaGreatDoor.Eng
