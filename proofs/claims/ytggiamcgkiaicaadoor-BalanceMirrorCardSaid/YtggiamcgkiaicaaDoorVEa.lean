/-
  THE READING MACHINE, its definitions: values, blocks, states, and the evaluator of the model's code in continuation style. Nothing is proved here.
-/
import Derived.Orders
import Derived.Below
import Derived.WalkKit
import Derived.KernelRfl
namespace Go.VE
set_option linter.unusedVariables false
set_option linter.unusedSimpArgs false

/-- Values, with addresses as (block's own number, offset). -/
inductive AV where
  | bool (b : Bool)
  | int (k : IntKind) (n : Int)
  | str (s : ByteArray)
  | ptr (i off : Nat)
  | pidx (i base st len : Nat) (ix : Int) (ex : Nat)
  | prow (i : Nat) (ks : List (Option IntKind)) (p : Nat → Nat → Int) (ix : Int) (ex : Nat)
  | prowx (i : Nat) (ks : List (Option IntKind)) (p : Nat → Nat → Int) (ix : Int) (base st len : Nat) (jx : Int) (ex : Nat)
  | nilp
  | slice (i off len : Nat)
  | xslice (i len : Nat) (ks : List (Option IntKind)) (p : Nat → Nat → Int)
  | nils
  | fn (f : FuncId) (cap : List AV)
  | nilf
  | agg (cs : List AV)
  | tup (cs : List AV)

inductive Blk where
  | own (cells : List AV) (elem : TypeId)
  | ro (cells : List AV)
  | pre (cells : List AV) (elem : TypeId) (sz : Nat)

inductive TyD where
  | bool | int (k : IntKind) | str | ptr (e : TypeId) | slice (e : TypeId) | array (n : Nat) (e : TypeId) | struct (fs : List (TypeId × Nat)) | other

structure TyI where
  d : TyD
  size : Nat
  zero : List AV
  bytes : Nat := 0

/-! ### Structs of numbers and Bools: a Bool is kept as 0 or 1 -/
def cellX (o : Option IntKind) (n : Int) : AV := match o with
  | some k => .int k n
  | none => .bool (!decide (n = 0))
def cellsX (p : Nat → Int) : List (Option IntKind) → Nat → List AV
  | [], _ => []
  | o :: r, i => cellX o (p i) :: cellsX p r (Nat.succ i)

def nthI : List Int → Nat → Int
  | [], _ => 0
  | x :: _, 0 => x
  | _ :: r, n + 1 => nthI r n

/-- A slice of such structs: how many, and row j's cells. -/
abbrev Sl := Nat × (Nat → Nat → Int)
def nthS : List Sl → Nat → Sl
  | [], _ => (0, fun _ _ => 0)
  | x :: _, 0 => x
  | _ :: r, n + 1 => nthS r n

/-! ### Templates of states: the numbers and the slices in them are holes -/
inductive S1 where
  | i (k : IntKind) | b | xs (id : Nat) (ks : List (Option IntKind)) | ptr (id off : Nat) | slice (id off len : Nat) | nilp | nils | nilf
inductive AT where
  | s (t : S1) | agg (l : List S1) | fn (f : Nat) (l : List S1)
inductive BT where
  | own (l : List S1) (e : TypeId) | ro (l : List S1)
structure ST where
  env : List (Nat × AT)
  mem : List (Nat × BT)
  nx : Nat

/-- A loop's answer: by which of its ways out, and the numbers and slices in its last state. -/
abbrev LR := Int × (Nat → Int) × (Nat → Sl)

inductive AExit where
  | normal | exit (id : Nat) | ret

structure LoopC where
  T0 : ST
  outs : List (AExit × ST)
  run : (Nat → Int) → (Nat → Sl) → Option LR

structure ConR where
  T : Type
  x : Option T
  enc : T → AV

/-- How the answer of an entered call is read as one value. -/
structure CodJ where
  T : Type
  enc : T → AV
  dec : AV → Option T

structure Ctx where
  ty : TypeId → Option TyI
  join : FuncId → Option CodJ
  jc : Bool
  con : FuncId → Option (List AV → Option ConR)
  cm : FuncId → Option (List AV → List (Nat × Blk) → Option ConR) := fun _ => none
  lp : Nat → Option LoopC
  fns : FuncId → Option Func
  G : Nat

structure St where
  env : List (Nat × Option AV)
  mem : List (Nat × Blk)
  nx : Nat

inductive Act1 where
  | skip
  | val (v : AV)
  | new (cells : List AV) (elem : TypeId) (sl : Option (Nat × Nat))
  | st (id : Nat) (blk : Blk)
  | app (i : Nat) (cells : List AV) (elem : TypeId) (sz n : Nat)
  | call (v : AV)

/-! ### Lists -/
def lk : List (Nat × Option AV) → Nat → Option AV
  | [], _ => none
  | (i, v) :: r, t => bif Nat.beq i t then v else lk r t

/-- The same, and whether it is known at all: 'some none' is a register that was skipped. -/
def lk2 : List (Nat × Option AV) → Nat → Option (Option AV)
  | [], _ => none
  | (i, v) :: r, t => bif Nat.beq i t then some v else lk2 r t

def lkM : List (Nat × Blk) → Nat → Option Blk
  | [], _ => none
  | (i, v) :: r, t => bif Nat.beq i t then some v else lkM r t

def assoc {α : Type _} : List (Nat × α) → Nat → Option α
  | [], _ => none
  | (i, v) :: r, t => bif Nat.beq i t then some v else assoc r t

def getL : List AV → Nat → Option AV
  | [], _ => none
  | x :: _, 0 => some x
  | _ :: r, n + 1 => getL r n

/-- 'n' of them from the head. -/
def takeL : List AV → Nat → Option (List AV)
  | _, 0 => some []
  | [], _ + 1 => none
  | x :: r, n + 1 => match takeL r n with
    | some l => some (x :: l)
    | none => none

def dropL : List AV → Nat → List AV
  | l, 0 => l
  | [], _ + 1 => []
  | _ :: r, n + 1 => dropL r n

/-- The first cells written over. -/
def overL : List AV → List AV → Option (List AV)
  | cs, [] => some cs
  | [], _ :: _ => none
  | _ :: cs, v :: vs => match overL cs vs with
    | some l => some (v :: l)
    | none => none

def spliceL : List AV → Nat → List AV → Option (List AV)
  | cs, 0, vs => overL cs vs
  | [], _ + 1, _ => none
  | c :: cs, n + 1, vs => match spliceL cs n vs with
    | some l => some (c :: l)
    | none => none

def scal : AV → Bool
  | .agg _ | .tup _ => false
  | _ => true

def scals : List AV → Bool
  | [] => true
  | x :: r => bif scal x then scals r else false

def mapO {α β : Type} (f : α → Option β) : List α → Option (List β)
  | [] => some []
  | x :: r => match f x with
    | some y => match mapO f r with
      | some l => some (y :: l)
      | none => none
    | none => none

def kcode : IntKind → Nat
  | .i8 => 0 | .i16 => 1 | .i32 => 2 | .i64 => 3 | .u8 => 4 | .u16 => 5 | .u32 => 6 | .u64 => 7

def ofS : Value → Option AV
  | .bool b => some (.bool b)
  | .int k n => some (.int k n)
  | .string s => some (.str s)
  | .pointer none => some .nilp
  | .slice none 0 0 => some .nils
  | .nilFunc => some .nilf
  | _ => none

def ofV : Value → Option AV
  | .agg cs => match mapO ofS cs.toList with
    | some l => some (.agg l)
    | none => none
  | v => ofS v

def opv (G : Nat) (env : List (Nat × Option AV)) : Operand → Option AV
  | .tmp t => lk env t
  | .const v => ofV v
  | .global g => bif Nat.blt g G then some (.ptr g 0) else none
  | .func f => some (.fn f [])

def opvs (G : Nat) (env : List (Nat × Option AV)) : List Operand → Option (List AV) := mapO (opv G env)

def cellsA : AV → List AV
  | .agg cs => cs
  | v => [v]

/-! ### Columns: what a place with an index of unknown value reads -/
def colInt : List AV → Option (IntKind × List Int)
  | [] => none
  | [.int k n] => some (k, [n])
  | .int k n :: r => match colInt r with
    | some (k', l) => bif Nat.beq (kcode k) (kcode k') then some (k, n :: l) else none
    | none => none
  | _ :: _ => none

def colStr : List AV → Option (List ByteArray)
  | [] => some []
  | .str s :: r => match colStr r with
    | some l => some (s :: l)
    | none => none
  | _ :: _ => none

def colBool : List AV → Option (List Bool)
  | [] => some []
  | .bool s :: r => match colBool r with
    | some l => some (s :: l)
    | none => none
  | _ :: _ => none

/-- The cells at base, base + st, base + 2 st .. (len of them). -/
def column (cells : List AV) (st : Nat) : Nat → Option (List AV)
  | 0 => some []
  | len + 1 => match cells with
    | [] => none
    | x :: _ => match column (dropL cells st) st len with
      | some l => some (x :: l)
      | none => none

def pick (col : List AV) (n : Nat) : AV :=
  match colInt col with
  | some (k, l) => .int k (l.getD n 0)
  | none => match colStr col with
    | some l => .str (l.getD n ByteArray.empty)
    | none => match colBool col with
      | some l => .bool (l.getD n false)
      | none => col.getD n .nilp

/-- One value for each of 'sz' neighbouring columns. -/
def picks (cells : List AV) (st len n : Nat) : Nat → Option (List AV)
  | 0 => some []
  | sz + 1 => match column cells st len with
    | some col => match picks (dropL cells 1) st len n sz with
      | some l => some (pick col n :: l)
      | none => none
    | none => none

def isAggD : TyD → Bool
  | .array _ _ | .struct _ => true
  | _ => false

def wrapAgg (d : TyD) (l : List AV) : Option AV :=
  bif isAggD d then some (.agg l) else match l with
    | [x] => some x
    | _ => none

/-- A load. -/
def ldv (C : Ctx) (mem : List (Nat × Blk)) (t : TypeId) (p : AV) : Option AV :=
  match C.ty t with
  | none => none
  | some i => match p with
    | .ptr b off => match lkM mem b with
      | some (.own cs _) => match takeL (dropL cs off) i.size with
        | some l => wrapAgg i.d l
        | none => none
      | some (.pre cs _ _) => match takeL (dropL cs off) i.size with
        | some l => wrapAgg i.d l
        | none => none
      | some (.ro cs) => match takeL (dropL cs off) i.size with
        | some l => wrapAgg i.d l
        | none => none
      | _ => none
    | .pidx b base st len ix ex => match lkM mem b with
      | some (.own cs _) => match picks (dropL cs (Nat.add base ex)) st len ix.toNat i.size with
        | some l => wrapAgg i.d l
        | none => none
      | some (.pre cs _ _) => match picks (dropL cs (Nat.add base ex)) st len ix.toNat i.size with
        | some l => wrapAgg i.d l
        | none => none
      | some (.ro cs) => match picks (dropL cs (Nat.add base ex)) st len ix.toNat i.size with
        | some l => wrapAgg i.d l
        | none => none
      | _ => none
    | .prow _ ks p ix ex => match takeL (dropL (cellsX (p ix.toNat) ks 0) ex) i.size with
      | some l => wrapAgg i.d l
      | none => none
    | .prowx _ ks p ix base st len jx ex => match picks (dropL (cellsX (p ix.toNat) ks 0) (Nat.add base ex)) st len jx.toNat i.size with
      | some l => wrapAgg i.d l
      | none => none
    | _ => none

/-- A store: the block's number, and what it is then. -/
def stv (C : Ctx) (mem : List (Nat × Blk)) (t : TypeId) (p : AV) (v : AV) : Option (Nat × Blk) :=
  match C.ty t with
  | none => none
  | some i => bif Nat.beq (cellsA v).length i.size then bif scals (cellsA v) then
      match p with
      | .ptr b off => match lkM mem b with
        | some (.own cs e) => match spliceL cs off (cellsA v) with
          | some l => some (b, .own l e)
          | none => none
        | _ => none
      | .pidx b base st _ ix ex => match lkM mem b with
        | some (.own cs e) => match spliceL cs (Nat.add base (Nat.add (Nat.mul ix.toNat st) ex)) (cellsA v) with
          | some l => some (b, .own l e)
          | none => none
        | _ => none
      | _ => none
    else none else none

/-- The block that a place lies in. -/
def blkOf : AV → Option Nat
  | .ptr b _ => some b
  | .pidx b _ _ _ _ _ => some b
  | _ => none

/-! ### Operations on values -/
def bitsI (op : BinOp) (k : IntKind) (x y : Int) : Int :=
  match op with
  | .and => k.wrap ((BitVec.ofInt k.bits x &&& BitVec.ofInt k.bits y).toNat : Int)
  | .or => k.wrap ((BitVec.ofInt k.bits x ||| BitVec.ofInt k.bits y).toNat : Int)
  | .xor => k.wrap ((BitVec.ofInt k.bits x ^^^ BitVec.ofInt k.bits y).toNat : Int)
  | _ => 0

def shlI (k : IntKind) (x y : Int) : Int := k.wrap (x * 2 ^ (min y.toNat k.bits))
def shrI (k : IntKind) (x y : Int) : Int := x.fdiv (2 ^ (min y.toNat k.bits))
def strEq (x y : ByteArray) : Bool := x.toList == y.toList

/-- The part of type t at 'off' of a struct's or an array's cells. -/
def partA (C : Ctx) (t : TypeId) (cs : List AV) (off : Nat) : Option AV :=
  match C.ty t with
  | none => none
  | some i => match takeL (dropL cs off) i.size with
    | some l => wrapAgg i.d l
    | none => none

def eqFs (part : TypeId → List AV → Nat → Option AV) (eq : TypeId → AV → AV → Option Bool) : List (TypeId × Nat) → List AV → List AV → Option Bool
  | [], _, _ => some true
  | (t, off) :: r, xs, ys => match part t xs off with
    | none => none
    | some a => match part t ys off with
      | none => none
      | some b => match eq t a b with
        | none => none
        | some v => match r with
          | [] => some v
          | _ :: _ => match eqFs part eq r xs ys with
            | some u => some (v && u)
            | none => none

/-- Elements j, j + 1, .. (n of them). -/
def eqAr (part : Nat → List AV → Option AV) (eq : AV → AV → Option Bool) (xs ys : List AV) : Nat → Nat → Option Bool
  | _, 0 => some true
  | j, n + 1 => match part j xs with
    | none => none
    | some a => match part j ys with
      | none => none
      | some b => match eq a b with
        | none => none
        | some v => match n with
          | 0 => some v
          | _ + 1 => match eqAr part eq xs ys (Nat.succ j) n with
            | some u => some (v && u)
            | none => none

def eqV (C : Ctx) : Nat → TypeId → AV → AV → Option Bool
  | 0, _, _, _ => none
  | d + 1, t, x, y => match C.ty t with
    | none => none
    | some i => match i.d with
      | .int _ => match x with
        | .int k a => match y with
          | .int k' b => bif Nat.beq (kcode k) (kcode k') then some (decide (a = b)) else none
          | _ => none
        | _ => none
      | .bool => match x with
        | .bool a => match y with
          | .bool b => some (a == b)
          | _ => none
        | _ => none
      | .str => match x with
        | .str a => match y with
          | .str b => some (strEq a b)
          | _ => none
        | _ => none
      | .struct fs => match x with
        | .agg xs => match y with
          | .agg ys => eqFs (partA C) (eqV C d) fs xs ys
          | _ => none
        | _ => none
      | .array n e => match C.ty e with
        | none => none
        | some ei => match x with
          | .agg xs => match y with
            | .agg ys => eqAr (fun j cs => partA C e cs (Nat.mul j ei.size)) (eqV C d e) xs ys 0 n
            | _ => none
          | _ => none
      | _ => none

section
variable {R : Type}

def binI (op : BinOp) (k : IntKind) (a b : Int) (K : AV → Option R) : Option R :=
  match op with
  | .add => K (.int k (k.wrap (a + b)))
  | .sub => K (.int k (k.wrap (a - b)))
  | .mul => K (.int k (k.wrap (a * b)))
  | .quo => cond (decide (b = 0)) none (K (.int k (k.wrap (a.tdiv b))))
  | .rem => cond (decide (b = 0)) none (K (.int k (a.tmod b)))
  | .and => K (.int k (bitsI .and k a b))
  | .or => K (.int k (bitsI .or k a b))
  | .xor => K (.int k (bitsI .xor k a b))
  | .eql => K (.bool (decide (a = b)))
  | .neq => K (.bool (!decide (a = b)))
  | .lss => K (.bool (decide (a < b)))
  | .leq => K (.bool (decide (a ≤ b)))
  | .gtr => K (.bool (decide (b < a)))
  | .geq => K (.bool (decide (b ≤ a)))
  | _ => none

def binA (C : Ctx) (op : BinOp) (t : TypeId) (x y : AV) (K : AV → Option R) : Option R :=
  match x with
  | .int k a => match y with
    | .int k' b => match op with
      | .shl => cond (decide (b < 0)) none (K (.int k (shlI k a b)))
      | .shr => cond (decide (b < 0)) none (K (.int k (shrI k a b)))
      | _ => bif Nat.beq (kcode k) (kcode k') then binI op k a b K else none
    | _ => none
  | .bool a => match y with
    | .bool b => match C.ty t with
      | some i => match i.d with
        | .bool => match op with
          | .eql => K (.bool (a == b))
          | .neq => K (.bool (!(a == b)))
          | _ => none
        | _ => none
      | none => none
    | _ => none
  | .str a => match y with
    | .str b => match op with
      | .add => cond (decide (((Nat.add a.size b.size : Nat) : Int) > IntKind.i64.max)) none (K (.str (a ++ b)))
      | .eql => K (.bool (strEq a b))
      | .neq => K (.bool (!strEq a b))
      | _ => none
    | _ => none
  | .agg _ => match op with
    | .eql => match eqV C 9 t x y with
      | some b => K (.bool b)
      | none => none
    | .neq => match eqV C 9 t x y with
      | some b => K (.bool (!b))
      | none => none
    | _ => none
  | _ => none

/-- Elements of a composite, laid over the zero cells. 'place': where element i goes, and how long it is. -/
def fillL (place : Nat → Option (Nat × Nat)) : List AV → List (Nat × AV) → Option (List AV)
  | cells, [] => some cells
  | cells, (i, v) :: r => match place i with
    | some (off, size) => bif Nat.beq (cellsA v).length size then match spliceL cells off (cellsA v) with
        | some l => fillL place l r
        | none => none
      else none
    | none => none

def partsA (G : Nat) (env : List (Nat × Option AV)) : List (Nat × Operand) → Option (List (Nat × AV))
  | [] => some []
  | (i, x) :: r => match opv G env x with
    | some v => match partsA G env r with
      | some l => some ((i, v) :: l)
      | none => none
    | none => none

def nthF : List (TypeId × Nat) → Nat → Option (TypeId × Nat)
  | [], _ => none
  | x :: _, 0 => some x
  | _ :: r, n + 1 => nthF r n

def repL (l : List AV) : Nat → List AV
  | 0 => []
  | n + 1 => l ++ repL l n

def buildA (C : Ctx) (env : List (Nat × Option AV)) (t : TypeId) (parts : List (Nat × Operand)) : Option AV :=
  match C.ty t with
  | none => none
  | some i => match partsA C.G env parts with
    | none => none
    | some ps => bif Nat.beq i.size 0 then none else bif Nat.beq i.zero.length i.size then match i.d with
      | .struct fs => match fillL (fun j => match nthF fs j with
            | some (ft, off) => match C.ty ft with
              | some fi => some (off, fi.size)
              | none => none
            | none => none) i.zero ps with
        | some l => some (.agg l)
        | none => none
      | .array _ e => match C.ty e with
        | some ei => match fillL (fun j => some (Nat.mul j ei.size, ei.size)) i.zero ps with
          | some l => some (.agg l)
          | none => none
        | none => none
      | _ => none
      else none

/-- The element's place behind an index. -/
def ixAddr (C : Ctx) (t : TypeId) (x : AV) (ix : Int) (K : AV → Option R) : Option R :=
  match C.ty t with
  | none => none
  | some i => match i.d with
    | .array n e => match C.ty e with
      | none => none
      | some ei => match x with
        | .ptr b off => cond (decide (0 ≤ ix)) (cond (decide (ix < (n : Int))) (K (.pidx b off ei.size n ix 0)) none) none
        | .pidx b base st len jx ex => cond (decide (0 ≤ ix)) (cond (decide (ix < (n : Int))) (K (.pidx b base st len jx (Nat.add ex (Nat.mul ix.toNat ei.size)))) none) none
        | .prow b ks p jx ex => cond (decide (0 ≤ ix)) (cond (decide (ix < (n : Int))) (K (.prowx b ks p jx ex ei.size n ix 0)) none) none
        | .prowx b ks p kx base st len jx ex => cond (decide (0 ≤ ix)) (cond (decide (ix < (n : Int))) (K (.prowx b ks p kx base st len jx (Nat.add ex (Nat.mul ix.toNat ei.size)))) none) none
        | _ => none
    | .slice e => match C.ty e with
      | none => none
      | some ei => match x with
        | .slice b off len => cond (decide (0 ≤ ix)) (cond (decide (ix < (len : Int))) (K (.pidx b off ei.size len ix 0)) none) none
        | .xslice b len ks p => bif Nat.beq ks.length ei.size then cond (decide (0 ≤ ix)) (cond (decide (ix < (len : Int))) (K (.prow b ks p ix 0)) none) none else none
        | _ => none
    | _ => none

def ixVal (C : Ctx) (t : TypeId) (x : AV) (ix : Int) (K : AV → Option R) : Option R :=
  match C.ty t with
  | none => none
  | some i => match i.d with
    | .array n e => match C.ty e with
      | none => none
      | some ei => match x with
        | .agg cs => cond (decide (0 ≤ ix)) (cond (decide (ix < (n : Int))) (match picks cs ei.size n ix.toNat ei.size with
            | some l => match wrapAgg ei.d l with
              | some v => K v
              | none => none
            | none => none) none) none
        | _ => none
    | _ => none

def fieldA (C : Ctx) (t : TypeId) (x : AV) (f : Nat) : Option AV :=
  match C.ty t with
  | none => none
  | some i => match i.d with
    | .struct fs => match nthF fs f with
      | none => none
      | some (ft, off) => match C.ty ft with
        | none => none
        | some fi => bif Nat.beq fi.size 0 then none else match x with
          | .ptr b o => some (.ptr b (Nat.add o off))
          | .pidx b base st len jx ex => some (.pidx b base st len jx (Nat.add ex off))
          | .prow b ks p jx ex => some (.prow b ks p jx (Nat.add ex off))
          | .prowx b ks p kx base st len jx ex => some (.prowx b ks p kx base st len jx (Nat.add ex off))
          | _ => none
    | _ => none

def fieldV (C : Ctx) (t : TypeId) (x : AV) (f : Nat) : Option AV :=
  match C.ty t with
  | none => none
  | some i => match i.d with
    | .struct fs => match nthF fs f with
      | none => none
      | some (ft, off) => match x with
        | .agg cs => partA C ft cs off
        | _ => none
    | _ => none

def maxI (a b : Int) : Int := if b > a then b else a
def minI (a b : Int) : Int := if b < a then b else a

def foldI (f : Int → Int → Int) (k : IntKind) : Int → List AV → Option AV
  | a, [] => some (.int k a)
  | a, .int k' b :: r => bif Nat.beq (kcode k) (kcode k') then foldI f k (f a b) r else none
  | _, _ :: _ => none

def builtA (C : Ctx) (b : Builtin) (ts : List TypeId) (args : List AV) : Option AV :=
  match b with
  | .len => match ts with
    | t :: _ => match C.ty t with
      | some i => match i.d with
        | .slice _ => match args with
          | .slice _ _ n :: _ => some (.int .i64 (n : Int))
          | .xslice _ n _ _ :: _ => some (.int .i64 (n : Int))
          | .nils :: _ => some (.int .i64 0)
          | _ => none
        | .array n _ => match args with
          | _ :: _ => some (.int .i64 (n : Int))
          | _ => none
        | .str => match args with
          | .str s :: _ => some (.int .i64 (s.size : Int))
          | _ => none
        | _ => none
      | none => none
    | [] => none
  | .max => match args with
    | .int k a :: r => foldI maxI k a r
    | _ => none
  | .min => match args with
    | .int k a :: r => foldI minI k a r
    | _ => none
  | _ => none

/-- No address in it. -/
def plain : AV → Bool
  | .bool _ | .int _ _ | .str _ => true
  | _ => false

def plains : List AV → Bool
  | [] => true
  | x :: r => bif plain x then plains r else false

def plain1 : AV → Bool
  | .agg l => plains l
  | v => plain v

def plainT : List AV → Bool
  | [] => true
  | x :: r => bif plain1 x then plainT r else false

def plainV : AV → Bool
  | .tup l => plainT l
  | v => plain1 v

def blkCells : Blk → List AV
  | .own cs _ => cs
  | .ro cs => cs
  | .pre cs _ _ => cs

/-- 'append(x, y..)' of a slice of the call's own whose whole row is known. -/
def appA (C : Ctx) (mem : List (Nat × Blk)) (ts : List TypeId) (args : List AV) : Option Act1 :=
  match ts with
  | [t, t'] => bif Nat.beq t t' then match C.ty t with
    | some i => match i.d with
      | .slice e => match C.ty e with
        | some ei => match args with
          | [.slice a o n, .slice b off m] => bif Nat.beq o 0 then bif Nat.beq ei.size 0 then none else bif Nat.beq ei.zero.length ei.size then match lkM mem a with
            | some (.pre cs el sz) => bif Nat.beq el e then bif Nat.beq sz ei.size then bif Nat.beq cs.length (Nat.mul n sz) then match lkM mem b with
              | some k => match takeL (dropL (blkCells k) off) (Nat.mul m sz) with
                | some news => bif scals news then bif Nat.ble (Nat.mul (Nat.add n m) (Nat.succ ei.bytes)) 16777216 then some (.app a (cs ++ news) el sz (Nat.add n m)) else none else none
                | none => none
              | none => none
              else none else none else none
            | _ => none
            else none else none
          | _ => none
        | none => none
      | _ => none
    | none => none
    else none
  | _ => none

def isApp : Builtin → Bool
  | .append => true
  | _ => false

/-- Does the operation look at memory as a whole? -/
def isBar (C : Ctx) (s : St) (o : Oper) : Bool :=
  match o.op with
  | .call c => match c.callee with
    | .value f => match opv C.G s.env f with
      | some (.fn id cap) => match C.con id with
        | some F => match opvs C.G s.env c.args.toList with
          | some args => match F (args ++ cap) with
            | some _ => false
            | none => true
          | none => false
        | none => false
      | _ => false
    | .builtin b => isApp b
    | _ => false
  | _ => false

/-- What one operation does, but for calls that are entered. -/
def actOf (C : Ctx) (s : St) (o : Oper) (K : Act1 → Option R) : Option R :=
  match o.op with
  | .move x => match opv C.G s.env x with
    | some v => K (.val v)
    | none => none
  | .assign x => match opv C.G s.env x with
    | some v => K (.val v)
    | none => none
  | .pick c a b => match opv C.G s.env c with
    | some (.bool t) => cond t
        (match opv C.G s.env a with
          | some v => K (.val v)
          | none => none)
        (match opv C.G s.env b with
          | some v => K (.val v)
          | none => none)
    | _ => none
  | .alloc t => match C.ty t with
    | some i => bif Nat.beq i.size 0 then none else bif Nat.beq i.zero.length i.size then K (.new i.zero t none) else none
    | none => none
  | .box t x => match opv C.G s.env x with
    | some v => bif scals (cellsA v) then K (.new (cellsA v) t none) else none
    | none => none
  | .build t ps => match buildA C s.env t ps.toList with
    | some v => K (.val v)
    | none => none
  | .buildSlice t len ps => match C.ty t with
    | some i => match i.d with
      | .slice e => match C.ty e with
        | some ei => bif Nat.beq ei.size 0 then none else bif Nat.beq ei.zero.length ei.size then bif Nat.ble (Nat.mul len ei.size) 16777216 then
            match partsA C.G s.env ps.toList with
            | some l => match fillL (fun j => some (Nat.mul j ei.size, ei.size)) (repL ei.zero len) l with
              | some cells => bif scals cells then K (.new cells e (some (len, ei.size))) else none
              | none => none
            | none => none
          else none else none
        | none => none
      | _ => none
    | none => none
  | .load t x => match opv C.G s.env x with
    | some p => match ldv C s.mem t p with
      | some v => K (.val v)
      | none => none
    | none => none
  | .store t x y => match opv C.G s.env x with
    | some p => match opv C.G s.env y with
      | some v => match stv C s.mem t p v with
        | some (b, blk) => K (.st b blk)
        | none => none
      | none => none
    | none => none
  | .nilCheck x => match opv C.G s.env x with
    | some v => match v with
      | .ptr _ _ => K (.val v)
      | .pidx _ _ _ _ _ _ => K (.val v)
      | .prow _ _ _ _ _ => K (.val v)
      | .prowx _ _ _ _ _ _ _ _ _ => K (.val v)
      | _ => none
    | none => none
  | .binOp op t x y _ => match opv C.G s.env x with
    | some a => match opv C.G s.env y with
      | some b => binA C op t a b fun v => K (.val v)
      | none => none
    | none => none
  | .unOp op _ x => match opv C.G s.env x with
    | some (.int k n) => match op with
      | .neg => K (.val (.int k (k.wrap (0 - n))))
      | _ => none
    | some (.bool b) => match op with
      | .not => K (.val (.bool (!b)))
      | _ => none
    | _ => none
  | .convert src dst x => match C.ty src with
    | some _ => match C.ty dst with
      | some i => match i.d with
        | .int k => match opv C.G s.env x with
          | some (.int _ n) => K (.val (.int k (k.wrap n)))
          | _ => none
        | _ => none
      | none => none
    | none => none
  | .makeFunc (.func f) first cap => bif Nat.beq first.size 0 then match opvs C.G s.env cap.toList with
      | some l => K (.val (.fn f l))
      | none => none
    else none
  | .fieldAddr t x f => match opv C.G s.env x with
    | some p => match fieldA C t p f with
      | some v => K (.val v)
      | none => none
    | none => none
  | .field t x f => match opv C.G s.env x with
    | some p => match fieldV C t p f with
      | some v => K (.val v)
      | none => none
    | none => none
  | .indexAddr t x ix => match opv C.G s.env x with
    | some p => match opv C.G s.env ix with
      | some (.int _ n) => ixAddr C t p n fun v => K (.val v)
      | _ => none
    | none => none
  | .index t x ix => match opv C.G s.env x with
    | some p => match opv C.G s.env ix with
      | some (.int _ n) => ixVal C t p n fun v => K (.val v)
      | _ => none
    | none => none
  | .slice t x low high max => match low with
    | some _ => none
    | none => match max with
      | some _ => none
      | none => match high with
        | none => none
        | some hi => match C.ty t with
          | some i => match i.d with
            | .slice e => match C.ty e with
              | some _ => match opv C.G s.env x with
                | some (.xslice b len ks p) => match opv C.G s.env hi with
                  | some (.int _ n) => cond (decide (0 ≤ n)) (cond (decide (n ≤ (len : Int))) (K (.val (.xslice b n.toNat ks p))) none) none
                  | _ => none
                | _ => none
              | none => none
            | _ => none
          | none => none
  | .extract x i => match opv C.G s.env x with
    | some (.tup l) => match getL l i with
      | some v => K (.val v)
      | none => none
    | _ => none
  | .call c => match c.callee with
    | .value f => match opv C.G s.env f with
      | some (.fn id cap) => match opvs C.G s.env c.args.toList with
        | some args => match C.con id with
          | some F => match F (args ++ cap) with
            | some cr => cr.x.bind fun v => K (.call (cr.enc v))
            | none => match C.cm id with
              | some F2 => match F2 (args ++ cap) s.mem with
                | some cr => cr.x.bind fun v => bif plainV (cr.enc v) then K (.call (cr.enc v)) else none
                | none => none
              | none => none
          | none => none
        | none => none
      | _ => none
    | .builtin b => match opvs C.G s.env c.args.toList with
      | some args => bif isApp b then match appA C s.mem c.argTypes.toList args with
          | some a => K a
          | none => none
        else match builtA C b c.argTypes.toList args with
        | some v => K (.val v)
        | none => none
      | none => none
    | _ => none
  | _ => none

def putE (d : Option Tmp) (v : Option AV) (env : List (Nat × Option AV)) : List (Nat × Option AV) :=
  match d with
  | some t => (t, v) :: env
  | none => env

def apply1 (id : Nat) (d : Option Tmp) (x : Act1) (s : St) : St :=
  match x with
  | .skip => { s with env := putE d none s.env }
  | .val v => { s with env := putE d (some v) s.env }
  | .call v => { s with env := putE d (some v) s.env }
  | .new cells e sl => { s with env := putE d (some (match sl with | none => .ptr id 0 | some n => .slice id 0 n.1)) s.env, mem := (id, match sl with | none => .own cells e | some n => .pre cells e n.2) :: s.mem }
  | .app i cells e sz n => { s with env := putE d (some (.slice id 0 n)) s.env, mem := (id, .pre cells e sz) :: (i, .ro []) :: s.mem }
  | .st b blk => { s with env := putE d none s.env, mem := (b, blk) :: s.mem }

def dstOk (nt : Nat) : Option Tmp → Bool
  | none => true
  | some d => Nat.blt d nt

def nthO : List Oper → Nat → Option Oper
  | [], _ => none
  | x :: _, 0 => some x
  | _ :: r, n + 1 => nthO r n

/-- Is the operation wanted? Where its guard's value is not known, both ways are gone, and the guard's register holds the known value there. -/
def guardA (ops : List Oper) (s : St) (o : Oper) (K : Bool → St → Option R) : Option R :=
  match o.guard with
  | none => K true s
  | some (j, want) => match nthO ops j with
    | some g => match g.dst with
      | some t => match lk2 s.env t with
        | some v => match v with
          | some (.bool b) => cond b (K want { s with env := (t, some (.bool true)) :: s.env }) (K (!want) { s with env := (t, some (.bool false)) :: s.env })
          | none => K false s
          | _ => none
        | none => none
      | none => none
    | none => none

def roB : Blk → Blk
  | .own cs _ => .ro cs
  | .pre cs _ _ => .ro cs
  | b => b

/-- Memory that may only be read. -/
def roMem : List (Nat × Blk) → List (Nat × Blk)
  | [] => []
  | (i, b) :: r => (i, roB b) :: roMem r

/-- A part that is evaluated for one value alone. -/
def joinO {T : Type} (x : Option T) : Option T := x

/-! ### Regions in the order of their text -/
/-- 'inl': how a call that is entered is carried out: function, arguments, memory, next free block; the result, memory and next free block go on. -/
abbrev Inl (R : Type) := FuncId → List AV → List (Nat × Blk) → Nat → (AV → List (Nat × Blk) → Nat → Option R) → Option R

def isEntered (C : Ctx) (s : St) (o : Oper) : Option (FuncId × List AV) :=
  match o.op with
  | .call c => match c.callee with
    | .value f => match opv C.G s.env f with
      | some (.fn id cap) => match C.con id with
        | some _ => none
        | none => match opvs C.G s.env c.args.toList with
          | some args => some (id, args ++ cap)
          | none => none
      | _ => none
    | _ => none
  | _ => none

def evS (C : Ctx) (nt : Nat) (inl : (R : Type) → Inl R) (ops : List Oper) : List Oper → St → (St → Option R) → Option R
  | [], s, K => K s
  | o :: r, s, K => bif dstOk nt o.dst then guardA ops s o fun w s => cond w
      (match isEntered C s o with
        | some (f, args) => match C.join f with
          | none => inl R f args s.mem s.nx fun v mem nx => evS C nt inl ops r { env := putE o.dst (some v) s.env, mem := mem, nx := nx } K
          | some c => Option.bind (joinO (inl c.T f args (roMem s.mem) s.nx fun v _ _ => c.dec v)) fun t => evS C nt inl ops r { s with env := putE o.dst (some (c.enc t)) s.env } K
        | none => actOf C s o fun a => evS C nt inl ops r { apply1 s.nx o.dst a s with nx := Nat.succ s.nx } K)
      (evS C nt inl ops r { s with env := putE o.dst none s.env } K)
    else none

/-! ### Regions that draw their order -/
/-- For each operation: which ones come before it in every order (bit i). -/
def maskOf (masks : List Nat) (o : Oper) : Nat :=
  o.after.toList.foldl (fun m e => bif Region.binds .any e then Nat.lor m (Nat.lor (Nat.shiftLeft 1 e.on) ((masks.getD e.on 0))) else m) 0

def masksOf : List Oper → List Nat → List Nat
  | [], acc => acc
  | o :: r, acc => masksOf r (acc ++ [maskOf acc o])

/-- The registers that the operation looks at. -/
def looksL (ops : List Oper) (o : Oper) : List Tmp :=
  (o.op.operands.toList.filterMap fun | .tmp t => some t | _ => none) ++
  (match o.guard with
   | some (g, _) => match nthO ops g with
     | some x => match x.dst with
       | some t => [t]
       | none => []
     | none => []
   | none => [])

def memN (t : Nat) : List Nat → Bool
  | [] => false
  | x :: r => bif Nat.beq x t then true else memN t r

def clashD (d : Option Tmp) (looks : List Tmp) : Bool :=
  match d with
  | some t => memN t looks
  | none => false

def sameD (d e : Option Tmp) : Bool :=
  match d with
  | some t => match e with
    | some u => Nat.beq t u
    | none => false
  | none => false

/-- Two operations, neither of which waits for the other, do not meet in a register. -/
def apartL (ops : List Oper) (x y : Oper) : Bool :=
  !(clashD x.dst (looksL ops y) || clashD y.dst (looksL ops x) || sameD x.dst y.dst)

/-- Operation number j (mask m) against those ahead of it. -/
def apartAll (ops : List Oper) (y : Oper) (m : Nat) : Nat → List Oper → Bool
  | _, [] => true
  | i, x :: r => bif (bif Nat.testBit m i then true else apartL ops x y) then apartAll ops y m (Nat.succ i) r else false

def regOkFrom (ops : List Oper) : List Oper → List Oper → List Nat → Bool
  | _, [], _ => true
  | seen, y :: r, m :: ms => bif apartAll ops y m 0 seen then bif y.after.toList.all (fun e => bif Region.binds .any e then Nat.blt e.on seen.length else true) then
      bif (match y.op with | .select _ _ => false | _ => true) then regOkFrom ops (seen ++ [y]) r ms else false else false else false
  | _, _ :: _, [] => false

def regOk (ops : List Oper) : Bool := regOkFrom ops [] ops (masksOf ops [])

/-- The blocks that the operation reads or writes. -/
def touchOf (C : Ctx) (s : St) (o : Oper) : Option Nat :=
  match o.op with
  | .load _ x => match opv C.G s.env x with
    | some p => blkOf p
    | none => none
  | .store _ x _ => match opv C.G s.env x with
    | some p => blkOf p
    | none => none
  | _ => none

def isStore (o : Oper) : Bool :=
  match o.op with
  | .store _ _ _ => true
  | _ => false

def hitS (b : Nat) (st : Bool) : Option Nat → Bool
  | some c => bif Nat.beq c b then true else st
  | none => true

def hitL (b : Nat) : Option Nat → Bool
  | some c => Nat.beq c b
  | none => true

/-- Of a store (mask m, block b): all that touched block b waits ahead of it, and every entered call. 'seen': (number, block; none: an entered call; is it a store). -/
def stOk (m b : Nat) : List (Nat × Option Nat × Bool) → Bool
  | [] => true
  | (i, c, st) :: r => bif hitS b st c then
      bif Nat.testBit m i then stOk m b r else false
    else stOk m b r

/-- Of a load (mask m, block b): each store to the block ahead of it in the text waits ahead of it. -/
def ldOk (m b : Nat) : List (Nat × Option Nat × Bool) → Bool
  | [] => true
  | (i, c, st) :: r => bif st then bif (bif hitL b c then Nat.testBit m i else true) then ldOk m b r else false else ldOk m b r

def noSt : List (Nat × Option Nat × Bool) → Bool
  | [] => true
  | (_, _, st) :: r => bif st then false else noSt r

/-- No address of a block from 'nx' on. -/
def low0 (nx : Nat) : AV → Bool
  | .bool _ | .int _ _ | .str _ | .nilp | .nils | .nilf => true
  | .ptr i _ => Nat.blt i nx
  | .pidx i _ _ _ _ _ => Nat.blt i nx
  | .prow i _ _ _ _ => Nat.blt i nx
  | .prowx i _ _ _ _ _ _ _ _ => Nat.blt i nx
  | .slice i _ _ => Nat.blt i nx
  | .xslice i _ _ _ => Nat.blt i nx
  | _ => false

def lows (nx : Nat) : List AV → Bool
  | [] => true
  | x :: r => bif low0 nx x then lows nx r else false

def lowV (nx : Nat) : AV → Bool
  | .fn _ c => lows nx c
  | .agg l => lows nx l
  | v => low0 nx v

def lowVs (nx : Nat) : List AV → Bool
  | [] => true
  | x :: r => bif lowV nx x then lowVs nx r else false

/-- Does everything ahead of operation number i come before it, and it before everything behind it? -/
def fullM (m i : Nat) : Bool := Nat.beq m (Nat.sub (Nat.pow 2 i) 1)
def allBit (i : Nat) : List Nat → Bool
  | [] => true
  | m :: ms => bif Nat.testBit m i then allBit i ms else false

/-- 'm0', 'nx0': memory and next block at the region's head; i: the operation's number; each new block's number is nx0 + i. -/
def evD (C : Ctx) (nt : Nat) (inl : (R : Type) → Inl R) (ops : List Oper) (m0 : List (Nat × Blk)) (nx0 : Nat) : Nat → List Nat → List (Nat × Option Nat × Bool) → List Oper → St → (St → Option R) → Option R
  | _, _, _, [], s, K => K s
  | _, [], _, _ :: _, _, _ => none
  | i, m :: ms, seen, o :: r, s, K => bif dstOk nt o.dst then guardA ops s o fun w s => cond w
      (match isEntered C s o with
        | some (f, args) => bif (bif fullM m i then allBit i ms else false) then match C.join f with
          | none => inl R f args (roMem s.mem) (Nat.add nx0 i) fun v _ _ => bif plainV v then
            evD C nt inl ops m0 nx0 (Nat.succ i) ms ((i, none, true) :: seen) r { s with env := putE o.dst (some v) s.env } K else none
          | some c => Option.bind (joinO (inl c.T f args (roMem s.mem) (Nat.add nx0 i) fun v _ _ => c.dec v)) fun t =>
            evD C nt inl ops m0 nx0 (Nat.succ i) ms ((i, none, true) :: seen) r { s with env := putE o.dst (some (c.enc t)) s.env } K
          else bif noSt seen then bif lowVs nx0 args then match C.join f with
          | none => inl R f args (roMem m0) nx0 fun v _ _ => bif plainV v then
            evD C nt inl ops m0 nx0 (Nat.succ i) ms ((i, none, false) :: seen) r { s with env := putE o.dst (some v) s.env } K else none
          | some c => Option.bind (joinO (inl c.T f args (roMem m0) nx0 fun v _ _ => c.dec v)) fun t =>
            evD C nt inl ops m0 nx0 (Nat.succ i) ms ((i, none, false) :: seen) r { s with env := putE o.dst (some (c.enc t)) s.env } K
          else none else none
        | none => bif isBar C s o then bif (bif fullM m i then allBit i ms else false) then
            actOf C s o fun a => evD C nt inl ops m0 nx0 (Nat.succ i) ms ((i, none, true) :: seen) r (apply1 (Nat.add nx0 i) o.dst a s) K else none
          else match touchOf C s o with
          | none => actOf C s o fun a => evD C nt inl ops m0 nx0 (Nat.succ i) ms seen r (apply1 (Nat.add nx0 i) o.dst a s) K
          | some b => bif (bif Nat.blt b nx0 then true else Nat.testBit m (Nat.sub b nx0)) then bif (bif isStore o then stOk m b seen else ldOk m b seen) then
              actOf C s o fun a => evD C nt inl ops m0 nx0 (Nat.succ i) ms ((i, some b, isStore o) :: seen) r (apply1 (Nat.add nx0 i) o.dst a s) K
            else none else none)
      (evD C nt inl ops m0 nx0 (Nat.succ i) ms seen r { s with env := putE o.dst none s.env } K)
    else none

/-! ### Code -/
def resA (C : Ctx) (s : St) : List ResultVar → Option (List AV)
  | [] => some []
  | .tmp t :: r => match lk s.env t with
    | some v => match resA C s r with
      | some l => some (v :: l)
      | none => none
    | none => none
  | .cell a ty :: r => match lk s.env a with
    | some p => match ldv C s.mem ty p with
      | some v => match resA C s r with
        | some l => some (v :: l)
        | none => none
      | none => none
    | none => none

def tupA : List AV → AV
  | [x] => x
  | l => .tup l

def zipE : Nat → List AV → List (Nat × Option AV)
  | _, [] => []
  | i, v :: r => (i, some v) :: zipE (Nat.succ i) r

/-! ### The state at a loop's head: what is known, once each, and nothing of the blocks that a round made -/
def keysE : List (Nat × Option AV) → List Nat
  | [] => []
  | (t, _) :: r => bif memN t (keysE r) then keysE r else t :: keysE r

def pickE (env : List (Nat × Option AV)) : List Nat → List (Nat × Option AV)
  | [] => []
  | t :: r => match lk2 env t with
    | some v => (t, v) :: pickE env r
    | none => pickE env r

def keysM : List (Nat × Blk) → List Nat
  | [] => []
  | (t, _) :: r => bif memN t (keysM r) then keysM r else t :: keysM r

def pickM (mem : List (Nat × Blk)) : List Nat → List (Nat × Blk)
  | [] => []
  | t :: r => match lkM mem t with
    | some v => (t, v) :: pickM mem r
    | none => pickM mem r

def lowE (nx : Nat) : List (Nat × Option AV) → Bool
  | [] => true
  | (_, some v) :: r => bif lowV nx v then lowE nx r else false
  | (_, none) :: r => lowE nx r

def lowB (nx : Nat) : Blk → Bool
  | .own cs _ => lowVs nx cs
  | .ro cs => lowVs nx cs
  | .pre cs _ _ => lowVs nx cs

def lowM (nx : Nat) : List (Nat × Blk) → Bool
  | [] => true
  | (i, b) :: r => bif Nat.blt i nx then bif lowB nx b then lowM nx r else false else false

/-- The state behind a round, at the loop's head again. -/
def cutS (ks ms : List Nat) (nx0 : Nat) (s : St) : St :=
  bif (bif lowE nx0 (pickE s.env ks) then lowM nx0 (pickM s.mem ms) else false)
  then { env := pickE s.env ks, mem := pickM s.mem ms, nx := nx0 } else { env := pickE s.env ks, mem := s.mem, nx := s.nx }

/-- The state in which a loop begins. -/
def headS (s : St) : St := { env := pickE s.env (keysE s.env), mem := pickM s.mem (keysM s.mem), nx := s.nx }

/-! ### Templates: states made of numbers and slices, and read back -/
def niS : S1 → Nat
  | .i _ | .b => 1
  | _ => 0
def nsS : S1 → Nat
  | .xs _ _ => 1
  | _ => 0
def niL : List S1 → Nat
  | [] => 0
  | t :: r => Nat.add (niS t) (niL r)
def nsL : List S1 → Nat
  | [] => 0
  | t :: r => Nat.add (nsS t) (nsL r)
def niA : AT → Nat
  | .s t => niS t
  | .agg l => niL l
  | .fn _ l => niL l
def nsA : AT → Nat
  | .s t => nsS t
  | .agg l => nsL l
  | .fn _ l => nsL l
def niE : List (Nat × AT) → Nat
  | [] => 0
  | (_, T) :: r => Nat.add (niA T) (niE r)
def nsE : List (Nat × AT) → Nat
  | [] => 0
  | (_, T) :: r => Nat.add (nsA T) (nsE r)
def niB : BT → Nat
  | .own l _ => niL l
  | .ro l => niL l
def nsB : BT → Nat
  | .own l _ => nsL l
  | .ro l => nsL l

section
variable (X : Nat → Int) (Y : Nat → Sl)
def encS1 : S1 → Nat → Nat → AV
  | .i k, i, _ => .int k (X i)
  | .b, i, _ => .bool (!decide (X i = 0))
  | .xs id ks, _, s => .xslice id (Y s).1 ks (Y s).2
  | .ptr id off, _, _ => .ptr id off
  | .slice id off len, _, _ => .slice id off len
  | .nilp, _, _ => .nilp
  | .nils, _, _ => .nils
  | .nilf, _, _ => .nilf
def encL1 : List S1 → Nat → Nat → List AV
  | [], _, _ => []
  | t :: r, i, s => encS1 X Y t i s :: encL1 r (Nat.add i (niS t)) (Nat.add s (nsS t))
def encA : AT → Nat → Nat → AV
  | .s t, i, s => encS1 X Y t i s
  | .agg l, i, s => .agg (encL1 X Y l i s)
  | .fn f l, i, s => .fn f (encL1 X Y l i s)
def encE : List (Nat × AT) → Nat → Nat → List (Nat × Option AV)
  | [], _, _ => []
  | (t, T) :: r, i, s => (t, some (encA X Y T i s)) :: encE r (Nat.add i (niA T)) (Nat.add s (nsA T))
def encB : BT → Nat → Nat → Blk
  | .own l e, i, s => .own (encL1 X Y l i s) e
  | .ro l, i, s => .ro (encL1 X Y l i s)
def encM : List (Nat × BT) → Nat → Nat → List (Nat × Blk)
  | [], _, _ => []
  | (t, T) :: r, i, s => (t, encB X Y T i s) :: encM r (Nat.add i (niB T)) (Nat.add s (nsB T))
def encT (T : ST) : St := { env := encE X Y T.env 0 0, mem := encM X Y T.mem (niE T.env) (nsE T.env), nx := T.nx }
end

abbrev Hs := List Int × List Sl
def ksEq : List (Option IntKind) → List (Option IntKind) → Bool
  | [], [] => true
  | some k :: r, some k' :: l => bif Nat.beq (kcode k) (kcode k') then ksEq r l else false
  | none :: r, none :: l => ksEq r l
  | _, _ => false
def decS1 : S1 → AV → Option Hs
  | .i k, .int k' n => bif Nat.beq (kcode k') (kcode k) then some ([n], []) else none
  | .b, .bool v => some ([cond v 1 0], [])
  | .xs id ks, .xslice i len ks' p => bif Nat.beq i id then bif ksEq ks' ks then some ([], [(len, p)]) else none else none
  | .ptr id off, .ptr i o => bif Nat.beq i id then bif Nat.beq o off then some ([], []) else none else none
  | .slice id off len, .slice i o n => bif Nat.beq i id then bif Nat.beq o off then bif Nat.beq n len then some ([], []) else none else none else none
  | .nilp, .nilp => some ([], [])
  | .nils, .nils => some ([], [])
  | .nilf, .nilf => some ([], [])
  | _, _ => none
def decL1 : List S1 → List AV → Option Hs
  | [], [] => some ([], [])
  | t :: r, a :: l => match decS1 t a with
    | some h => match decL1 r l with
      | some g => some (h.1 ++ g.1, h.2 ++ g.2)
      | none => none
    | none => none
  | _, _ => none
def decA : AT → AV → Option Hs
  | .agg l, .agg cs => decL1 l cs
  | .fn f l, .fn g cs => bif Nat.beq g f then decL1 l cs else none
  | .s t, a => decS1 t a
  | _, _ => none
def decE : List (Nat × AT) → List (Nat × Option AV) → Option Hs
  | [], _ => some ([], [])
  | (t, T) :: r, env => match lk2 env t with
    | some (some v) => match decA T v with
      | some h => match decE r env with
        | some g => some (h.1 ++ g.1, h.2 ++ g.2)
        | none => none
      | none => none
    | _ => none
def decBk : BT → Blk → Option Hs
  | .own l e, .own cs e' => bif Nat.beq e' e then decL1 l cs else none
  | .ro l, .ro cs => decL1 l cs
  | _, _ => none
def decM : List (Nat × BT) → List (Nat × Blk) → Option Hs
  | [], _ => some ([], [])
  | (t, T) :: r, m => match lkM m t with
    | some b => match decBk T b with
      | some h => match decM r m with
        | some g => some (h.1 ++ g.1, h.2 ++ g.2)
        | none => none
      | none => none
    | none => none
def decT (T : ST) (s : St) : Option Hs :=
  bif Nat.ble s.nx T.nx then match decE T.env s.env with
    | some h => match decM T.mem s.mem with
      | some g => some (h.1 ++ g.1, h.2 ++ g.2)
      | none => none
    | none => none
  else none

def exEq : AExit → AExit → Bool
  | .exit i, .exit j => Nat.beq i j
  | .ret, .ret => true
  | _, _ => false

/-- A loop's ways out. -/
def outDec (e : AExit) (s : St) : List (AExit × ST) → Nat → Option LR
  | [], _ => none
  | (e', T) :: r, j => bif exEq e e' then match decT T s with
      | some h => some ((j : Int), nthI h.1, nthS h.2)
      | none => none
    else outDec e s r (Nat.succ j)
def outOf (t : LR) : List (AExit × ST) → Nat → Option (AExit × ST)
  | [], _ => none
  | x :: r, j => match r with
    | [] => some x
    | _ :: _ => bif decide (t.1 = (j : Int)) then some x else outOf t r (Nat.succ j)
def outK {R : Type} (t : LR) (K : AExit → St → Option R) : List (AExit × ST) → Nat → Option R
  | [], _ => none
  | x :: r, j => match r with
    | [] => K x.1 (encT t.2.1 t.2.2 x.2)
    | _ :: _ => cond (decide (t.1 = (j : Int))) (K x.1 (encT t.2.1 t.2.2 x.2)) (outK t K r (Nat.succ j))
/-- What goes on behind a round. -/
def roundK (T0 : ST) (outs : List (AExit × ST)) (rec : (Nat → Int) → (Nat → Sl) → Option LR) (e : AExit) (s : St) : Option LR :=
  match e with
  | .normal => match decT T0 { s with nx := T0.nx } with
    | some h => rec (nthI h.1) (nthS h.2)
    | none => none
  | .exit i => outDec (.exit i) s outs 0
  | .ret => outDec .ret s outs 0
/-- So many rounds at most. -/
def iterL (step : ((Nat → Int) → (Nat → Sl) → Option LR) → (Nat → Int) → (Nat → Sl) → Option LR) : Nat → (Nat → Int) → (Nat → Sl) → Option LR
  | 0, _, _ => none
  | m + 1, X, Y => step (iterL step m) X Y

def keyC : Code → Nat
  | .region id _ _ => id
  | .seq a _ => keyC a
  | .block _ b => keyC b
  | .loop b => keyC b
  | _ => 0
def loopKey (nt : Nat) (b : Code) : Nat := Nat.add (Nat.mul 1000 nt) (keyC b)
def loopsL : Code → List Code
  | .seq a b => loopsL a ++ loopsL b
  | .cond _ a b => loopsL a ++ loopsL b
  | .block _ b => loopsL b
  | .loop b => b :: loopsL b
  | _ => []

def nthC : List Code → Nat → Code
  | [], _ => .skip
  | x :: _, 0 => x
  | _ :: r, n + 1 => nthC r n
def loopsF (fn : Func) : List Code := match fn.body with
  | some b => loopsL b
  | none => []
/-- Loop number j of a function. -/
def loopAt (fn : Func) (j : Nat) : Code := nthC (loopsF fn) j
def keysF (fn : Func) : List Nat := (loopsF fn).map (loopKey fn.ntmps)

/-- No block of a template has a number from nx on. -/
def lowS1 (nx : Nat) : S1 → Bool
  | .xs id _ | .ptr id _ | .slice id _ _ => Nat.blt id nx
  | _ => true
def lowL1 (nx : Nat) : List S1 → Bool
  | [] => true
  | t :: r => bif lowS1 nx t then lowL1 nx r else false
def lowAT (nx : Nat) : AT → Bool
  | .s t => lowS1 nx t
  | .agg l => lowL1 nx l
  | .fn _ l => lowL1 nx l
def lowET (nx : Nat) : List (Nat × AT) → Bool
  | [] => true
  | (_, T) :: r => bif lowAT nx T then lowET nx r else false
def lowBT (nx : Nat) : BT → Bool
  | .own l _ => lowL1 nx l
  | .ro l => lowL1 nx l
def lowMT (nx : Nat) : List (Nat × BT) → Bool
  | [] => true
  | (i, T) :: r => bif Nat.blt i nx then bif lowBT nx T then lowMT nx r else false else false
def lowST (T : ST) : Bool := bif lowET T.nx T.env then lowMT T.nx T.mem else false
def outsNx (nx : Nat) : List (AExit × ST) → Bool
  | [] => true
  | x :: r => bif Nat.ble nx x.2.nx then outsNx nx r else false

/-! ### A condition with parts that are not always evaluated -/
def anyGuard : List Oper → Bool
  | [] => false
  | o :: r => match o.guard with
    | some _ => true
    | none => anyGuard r

def dstsL : List Oper → List Nat
  | [] => []
  | o :: r => match o.dst with
    | some t => t :: dstsL r
    | none => dstsL r

def dropE (ds : List Nat) : List (Nat × Option AV) → List (Nat × Option AV)
  | [] => []
  | (t, v) :: r => bif memN t ds then dropE ds r else (t, v) :: dropE ds r

/-- A region whose Bool the code parts on next. -/
def joinRC (a b : Code) : Option (Array Oper × Tmp × Bool) :=
  match a with
  | .region _ ops draw => match b with
    | .cond x _ _ => match x with
      | .tmp t => bif anyGuard ops.toList then some (ops, t, draw) else none
      | _ => none
    | _ => none
  | _ => none

def boolAt (t : Tmp) (s : St) : Option Bool :=
  match lk s.env t with
  | some v => match v with
    | .bool b => some b
    | _ => none
  | none => none

/-- How the evaluator carries out a call that is entered. -/
def inlOf (C : Ctx) (ev : (R : Type) → Nat → Code → St → (AExit → St → Option R) → Option R) (R : Type) : Inl R := fun f args mem nx k => match C.fns f with
    | some fn => match fn.body with
      | some b => bif Nat.ble args.length fn.ntmps then ev R fn.ntmps b { env := zipE 0 args, mem := mem, nx := nx } fun e s' => match e with
        | .exit _ => none
        | _ => match resA C s' fn.results.toList with
          | some l => k (tupA l) s'.mem s'.nx
          | none => none
        else none
      | none => none
    | none => none

/-- One level of the evaluator, over the evaluator of the level below. -/
def evStep (C : Ctx) (ev : (R : Type) → Nat → Code → St → (AExit → St → Option R) → Option R) (R : Type) (nt : Nat) (c : Code) (s : St) (K : AExit → St → Option R) : Option R :=
  match c with
  | .skip => K .normal s
  | .region _ ops draw => cond draw
      (bif regOk ops.toList then evD C nt (inlOf C ev) ops.toList s.mem s.nx 0 (masksOf ops.toList []) [] ops.toList s fun s' => K .normal { s' with nx := Nat.add s.nx ops.toList.length } else none)
      (evS C nt (inlOf C ev) ops.toList ops.toList s (K .normal))
  | .seq a b => match (bif C.jc then joinRC a b else none) with
    | some (ops, t, draw) => Option.bind (joinO (cond draw
          (bif regOk ops.toList then evD (R := Bool) C nt (inlOf C ev) ops.toList (roMem s.mem) s.nx 0 (masksOf ops.toList []) [] ops.toList { s with mem := roMem s.mem } (boolAt t) else none)
          (evS (R := Bool) C nt (inlOf C ev) ops.toList ops.toList { s with mem := roMem s.mem } (boolAt t)))) fun v =>
        ev R nt b { s with env := (t, some (.bool v)) :: dropE (dstsL ops.toList) s.env } K
    | none => ev R nt a s fun e s' => match e with
      | .normal => ev R nt b s' K
      | .exit i => K (.exit i) s'
      | .ret => K .ret s'
  | .cond x a b => match opv C.G s.env x with
    | some (.bool t) => cond t (ev R nt a s K) (ev R nt b s K)
    | _ => none
  | .block id b => ev R nt b s fun e s' => match e with
    | .exit i => bif Nat.beq i id then K .normal s' else K (.exit i) s'
    | .normal => K .normal s'
    | .ret => K .ret s'
  | .loop b => match C.lp (loopKey nt b) with
    | some L => match decT L.T0 s with
      | some h => Option.bind (L.run (nthI h.1) (nthS h.2)) fun t => outK t K L.outs 0
      | none => none
    | none => ev R nt b (headS s) fun e s' => match e with
      | .normal => ev R nt (.loop b) (cutS (keysE s.env) (keysM s.mem) s.nx s') K
      | .exit i => K (.exit i) s'
      | .ret => K .ret s'
  | .exit id => K (.exit id) s
  | .ret => K .ret s
  | _ => none

noncomputable def evR (C : Ctx) : Nat → (R : Type) → Nat → Code → St → (AExit → St → Option R) → Option R :=
  fun n => Nat.rec (fun _ _ _ _ _ => none) (fun _ ih => evStep C ih) n

noncomputable abbrev ev (C : Ctx) (n : Nat) : Nat → Code → St → (AExit → St → Option R) → Option R := evR C n R

/-- Package-level variables, as memory. -/
def glMem : List (Nat × List AV) → List (Nat × Blk)
  | [] => []
  | (i, cs) :: r => (i, .ro cs) :: glMem r

/-- A whole call: the results go to K. -/
noncomputable def evF (C : Ctx) (n : Nat) (fn : Func) (args : List AV) (mem : List (Nat × Blk)) (nx : Nat) (K : AV → Option R) : Option R :=
  match fn.body with
  | some b => bif Nat.ble args.length fn.ntmps then ev C n fn.ntmps b { env := zipE 0 args, mem := mem, nx := nx } fun e s' => match e with
      | .exit _ => none
      | _ => match resA C s' fn.results.toList with
        | some l => K (tupA l)
        | none => none
    else none
  | none => none
end
end Go.VE
