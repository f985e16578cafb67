/- Part 0 of the lemmas that the claim rests on: an abstract machine over the model, what it is sound for, and the contracts of the functions that the law reaches. -/
import Derived.Calls
import Derived.KernelRfl
import Derived.Laws.Sem
import Derived.Laws.Cells
import Derived.Laws.CopyRow
import Derived.Tactics
import Derived.Laws.MakeOwn
import Derived.Laws.Tables
import Derived.Great.BuildSlice
import Derived.Deep.AppendSrc
import Derived.Laws.IdiomCopy
import Derived.Laws.StructEq
import Derived.MapKept
import Derived.Lib.Strings
set_option linter.unusedSimpArgs false
set_option linter.unusedVariables false
/- An abstract machine over the model of Go: what values are known to be, and what straight code makes of them. -/
namespace Pf
open Go

/-- What is known of a value. 'fi', 'fz': a slice whose cells nobody writes any more; 'sl', 'ptr': into the blocks that are at hand. -/
inductive AV where
  | top
  | bool (b : Bool)
  | pr (p : Prop)
  | anyb (p q : Prop)
  | int (k : IntKind) (n : Int)
  | str (s : List UInt8)
  | nilp
  | ptr (b g r c : Nat)
  | fptr (row : List AV) (c : Nat)
  | nils
  | e0
  | fi (k : IntKind) (l : List Int)
  | fz (n : Nat) (row : Nat → List AV)
  | sl (b g off len : Nat)
  | fn (f : FuncId) (fs cs : List AV)
  | nilf
  | iface (t : TypeId) (v : AV)
  | nili
  | mp (b : Nat)
  | agg (cs : List AV)
  | tup (vs : List AV)

instance : Inhabited AV := ⟨.top⟩

/-- A key of a map: its cells, whole numbers (int) and texts. -/
abbrev MKey := List (Int ⊕ List UInt8)
/-- What a map holds for a key; nought if there is none such. -/
def mget : List (MKey × Int) → MKey → Int
  | [], _ => 0
  | (k, v) :: es, x => if x = k then v else mget es x
/-- The map with one more key, or a key's new value. -/
def mput : List (MKey × Int) → MKey → Int → List (MKey × Int)
  | [], x, v => [(x, v)]
  | (k, u) :: es, x, v => if x = k then (k, v) :: es else (k, u) :: mput es x v
/-- A block at hand: its generation, and its rows; 'mp': a map, of bools (0, 1) or of whole numbers; 'sh': its keys are texts, or structs of whole numbers (false) and texts (true). -/
inductive ABlk where
  | dead
  | lst (g : Nat) (rows : List (List AV))
  | ints (g : Nat) (k : IntKind) (l : List Int)
  | tab (g n : Nat) (row : Nat → List AV)
  | mp (vb : Bool) (sh : Option (List Bool)) (es : List (MKey × Int))

abbrev Env := List (Nat × AV)
abbrev AHeap := List ABlk

/-- A block's rows: generation, how many, and each. -/
def ABlk.view : ABlk → Option (Nat × Nat × (Nat → List AV))
  | .dead | .mp _ _ _ => none
  | .lst g rows => some (g, rows.length, fun i => rows.getD i [])
  | .ints g k l => some (g, l.length, fun i => [.int k (l.getD i 0)])
  | .tab g n row => some (g, n, row)

/-- The same of any block: a map has no rows. -/
def ABlk.vw : ABlk → Option (Nat × Nat × (Nat → List AV))
  | .mp _ _ _ => some (0, 0, fun _ => [])
  | b => b.view
theorem ABlk.vw_of {b : ABlk} {x : Nat × Nat × (Nat → List AV)} (h : b.view = some x) : b.vw = some x := by
  cases b <;> first | exact h | cases h
/-- How many cells its rows have. -/
def ABlk.width : ABlk → Nat
  | .dead | .mp _ _ _ => 0
  | .lst _ rows => (rows.getD 0 []).length
  | .ints _ _ _ => 1
  | .tab _ _ row => (row 0).length

/-! ### Tables of types -/
inductive TK where
  | other | slice (e : TypeId) | array (n : Nat) (e : TypeId) | struct (fs : List (Nat × TypeId)) | pointer (e : TypeId) | string | int (k : IntKind) | bool | func | iface | map (k e : TypeId)

structure TI where
  size : Nat
  bytes : Nat
  zero : List AV
  kind : TK
  /-- A struct of whole numbers and texts, each one cell, none of them nameless: its values are compared cell by cell. -/
  eqb : Bool := false

def TK.agg : TK → Bool
  | .array _ _ | .struct _ => true
  | _ => false

/-! ### Environments -/
def getM : Env → Nat → Option AV
  | [], _ => some .top
  | (e, v) :: T, d => match Nat.beq e d with | true => some v | false => getM T d
def putM (d : Nat) (v : AV) : Env → Option Env
  | [] => some [(d, v)]
  | (e, u) :: T => match Nat.beq e d with
    | true => some ((e, v) :: T)
    | false => match putM d v T with | some T' => some ((e, u) :: T') | none => none
/-- Only what these slots hold. -/
def keepM (T : Env) : List Nat → Option Env
  | [] => some []
  | d :: ds => match getM T d with
    | some v => match keepM T ds with | some T' => some ((d, v) :: T') | none => none
    | none => none

def ofVal : Value → Option AV
  | .int k n => some (.int k n)
  | .bool b => some (.bool b)
  | .pointer none => some .nilp
  | .slice none 0 0 => some .nils
  | .string s => some (.str s.data.toList)
  | .nilFunc => some .nilf
  | .nilIface => some .nili
  | _ => none

/-- What the known variables hold that are read whole. -/
def gval : Nat → Option AV := fun g => match Nat.beq g 1 with | true => some (.fz 6 fun i => [.str ([[100, 101, 102], [118, 97, 114], [115, 113, 114, 116], [97, 98, 115], [109, 105, 110], [109, 97, 120]].getD i [])]) | false => none
def ev (T : Env) : Operand → Option AV
  | .tmp t => getM T t
  | .const v => ofVal v
  | .func f => some (.fn f [] [])
  | .global g => match gval g with | some v => some (.fptr [v] 0) | none => none
def evs (T : Env) : List Operand → Option (List AV)
  | [] => some []
  | x :: xs => match ev T x with
    | some v => match evs T xs with | some vs => some (v :: vs) | none => none
    | none => none

/-! ### Lists, strictly -/
def nthM {α : Type} : List α → Nat → Option α
  | [], _ => none
  | o :: _, 0 => some o
  | _ :: os, i + 1 => nthM os i
def setM {α : Type} (v : α) : List α → Nat → Option (List α)
  | [], _ => none
  | _ :: os, 0 => some (v :: os)
  | o :: os, i + 1 => match setM v os i with | some os' => some (o :: os') | none => none
/-- 'vs' laid from place i on. -/
def layM {α : Type} : List α → List α → Nat → Option (List α)
  | l, [], _ => some l
  | l, v :: vs, i => match setM v l i with | some l' => layM l' vs (i + 1) | none => none
def cutM {α : Type} : List α → Nat → Nat → Option (List α)
  | _, _, 0 => some []
  | l, i, n + 1 => match nthM l i with
    | some v => match cutM l (i + 1) n with | some vs => some (v :: vs) | none => none
    | none => none
def lenM {α : Type} : List α → Nat
  | [] => 0
  | _ :: l => lenM l + 1
def appM {α : Type} : List α → List α → Option (List α)
  | [], m => some m
  | v :: l, m => match appM l m with | some r => some (v :: r) | none => none
def AV.cells : AV → List AV
  | .agg cs => cs
  | v => [v]

/-! ### One of two values, cell by cell -/
def mrg (p : Prop) [Decidable p] : AV → AV → Option AV
  | .int k a, .int k' b => match k, k' with
    | .i64, .i64 => some (.int .i64 (if p then a else b))
    | .u8, .u8 => some (.int .u8 (if p then a else b))
    | .u64, .u64 => some (.int .u64 (if p then a else b))
    | _, _ => none
  | .str a, .str b => some (.str (if p then a else b))
  | .pr a, .pr b => some (.pr (if p then a else b))
  | .bool a, .bool b => some (.pr (if p then a = true else b = true))
  | .pr a, .bool b => some (.pr (if p then a else b = true))
  | .bool a, .pr b => some (.pr (if p then a = true else b))
  | .fi k a, .fi k' b => match k, k' with
    | .i64, .i64 => some (.fi .i64 (if p then a else b))
    | .u8, .u8 => some (.fi .u8 (if p then a else b))
    | _, _ => none
  | .fz n r, .fz n' r' => some (.fz (if p then n else n') fun i => if p then r i else r' i)
  | .fz n r, .nils => some (.fz (if p then n else 0) r)
  | _, _ => none
def mrgL (p : Prop) [Decidable p] : List AV → List AV → List AV
  | a :: asx, b :: bs => (match mrg p a b with | some v => v | none => .top) :: mrgL p asx bs
  | _ :: asx, [] => .top :: mrgL p asx []
  | [], _ => []

/-! ### Numbers -/
def rngM (k : IntKind) (n : Int) : Option Prop :=
  match k with
  | .i8 => some (-128 ≤ n ∧ n ≤ 127)
  | .i16 => some (-32768 ≤ n ∧ n ≤ 32767)
  | .i32 => some (-2147483648 ≤ n ∧ n ≤ 2147483647)
  | .i64 => some (-9223372036854775808 ≤ n ∧ n ≤ 9223372036854775807)
  | .u8 => some (0 ≤ n ∧ n ≤ 255)
  | .u16 => some (0 ≤ n ∧ n ≤ 65535)
  | .u32 => some (0 ≤ n ∧ n ≤ 4294967295)
  | .u64 => some (0 ≤ n ∧ n ≤ 18446744073709551615)
def kid : IntKind → Nat
  | .i8 => 0 | .i16 => 1 | .i32 => 2 | .i64 => 3 | .u8 => 4 | .u16 => 5 | .u32 => 6 | .u64 => 7

def band (k : IntKind) (a b : Int) : Int := k.wrap ((BitVec.ofInt k.bits a &&& BitVec.ofInt k.bits b).toNat : Int)
def bor (k : IntKind) (a b : Int) : Int := k.wrap ((BitVec.ofInt k.bits a ||| BitVec.ofInt k.bits b).toNat : Int)
def bxor (k : IntKind) (a b : Int) : Int := k.wrap ((BitVec.ofInt k.bits a ^^^ BitVec.ofInt k.bits b).toNat : Int)
def bandn (k : IntKind) (a b : Int) : Int := k.wrap ((BitVec.ofInt k.bits a &&& ~~~BitVec.ofInt k.bits b).toNat : Int)

/-- What an operation comes to: a value and the blocks, under a condition perhaps; or it is not known. -/
inductive St where
  | ok (v : AV) (H : AHeap)
  | okc (C : Prop) (v : AV) (H : AHeap)
  | bad

/-- m: 0 all stays in range; 1 it wraps; 2 in range, shifts by numbers that are not written out. -/
def rng0 (k : IntKind) (n : Int) (H : AHeap) : St :=
  match rngM k n with | some C => .okc C (.int k n) H | none => .bad
def arith (m : Nat) (k : IntKind) (n : Int) (H : AHeap) : St :=
  match m with
  | 1 => .ok (.int k (k.wrap n)) H
  | _ => rng0 k n H
def binop (m : Nat) (op : BinOp) (k : IntKind) (a b : Int) (H : AHeap) : St :=
  match op with
  | .add => arith m k (a + b) H
  | .sub => arith m k (a - b) H
  | .mul => arith m k (a * b) H
  | .quo => match m with
    | 1 => .okc (b ≠ 0) (.int k (k.wrap (a.tdiv b))) H
    | _ => match k with
      | .i64 => .okc (0 ≤ a ∧ 0 < b ∧ a ≤ 9223372036854775807) (.int .i64 (a / b)) H
      | .u64 => .okc (0 ≤ a ∧ 0 < b ∧ a ≤ 18446744073709551615) (.int .u64 (a / b)) H
      | _ => .bad
  | .rem => match m with
    | 1 => .okc (b ≠ 0) (.int k (a.tmod b)) H
    | _ => .okc (0 ≤ a ∧ 0 < b) (.int k (a % b)) H
  | .and => .ok (.int k (band k a b)) H
  | .or => .ok (.int k (bor k a b)) H
  | .xor => .ok (.int k (bxor k a b)) H
  | .andNot => .ok (.int k (bandn k a b)) H
  | .eql => .ok (.pr (a = b)) H
  | .neq => .ok (.pr (a ≠ b)) H
  | .lss => .ok (.pr (a < b)) H
  | .leq => .ok (.pr (a ≤ b)) H
  | .gtr => .ok (.pr (b < a)) H
  | .geq => .ok (.pr (b ≤ a)) H
  | _ => .bad
def shiftop (m : Nat) (op : BinOp) (k : IntKind) (a b : Int) (H : AHeap) : St :=
  match m with
  | 2 => match op with
    | .shl => match rngM k (a * 2 ^ b.toNat) with | some C => .okc (0 ≤ b ∧ b < k.bits ∧ C) (.int k (a * 2 ^ b.toNat)) H | none => .bad
    | .shr => .okc (0 ≤ b ∧ b < k.bits) (.int k (a / 2 ^ b.toNat)) H
    | _ => .bad
  | 1 => match b with
    | .ofNat n => match Nat.ble n 7 with
      | true => (match op with | .shl => .ok (.int k (k.wrap (a * 2 ^ n))) H | .shr => .ok (.int k (a / 2 ^ n)) H | _ => .bad)
      | false => match kid k, Nat.ble n 63 with
        | 3, true => (match op with | .shl => .ok (.int .i64 (IntKind.i64.wrap (a * 2 ^ n))) H | .shr => .ok (.int .i64 (a / 2 ^ n)) H | _ => .bad)
        | 7, true => (match op with | .shl => .ok (.int .u64 (IntKind.u64.wrap (a * 2 ^ n))) H | .shr => .ok (.int .u64 (a / 2 ^ n)) H | _ => .bad)
        | _, _ => .bad
    | _ => .bad
  | _ => match b with
    | .ofNat n => match kid k, Nat.ble n 63 with
      | 3, true => (match op with | .shl => rng0 .i64 (a * 2 ^ n) H | .shr => .ok (.int .i64 (a / 2 ^ n)) H | _ => .bad)
      | 7, true => (match op with | .shl => rng0 .u64 (a * 2 ^ n) H | .shr => .ok (.int .u64 (a / 2 ^ n)) H | _ => .bad)
      | _, _ => .bad
    | _ => .bad


/-! ### Blocks -/
def Ctrue (H : AHeap) (v : AV) : St := .ok v H
/-- A new block at the end. -/
def newB (v : Nat → AV) (b : ABlk) (H : AHeap) : St :=
  match appM H [b] with | some H' => .ok (v (lenM H)) H' | none => .bad
def putB (v : AV) (b : Nat) (blk : ABlk) (H : AHeap) : St :=
  match setM blk H b with | some H' => .ok v H' | none => .bad
def putBc (C : Prop) (v : AV) (b : Nat) (blk : ABlk) (H : AHeap) : St :=
  match setM blk H b with | some H' => .okc C v H' | none => .bad

/-- What lies in a row from a place on, as a value of the type. -/
def rowAt (i : TI) (row : List AV) (c : Nat) : Option AV :=
  match i.kind.agg with
  | true => match cutM row c i.size with | some cs => some (.agg cs) | none => none
  | false => match i.size with | 1 => nthM row c | _ => none
def loadOp (i : TI) (v : AV) (H : AHeap) : St :=
  match v with
  | .fptr row c => match rowAt i row c with | some v => .ok v H | none => .bad
  | .ptr b g r c => match nthM H b with
    | some (.lst g' rows) => match Nat.beq g' g with
      | true => match nthM rows r with
        | some row => match rowAt i row c with | some v => .ok v H | none => .bad
        | none => .bad
      | false => .bad
    | some (.ints g' k l) => match c, i.kind, i.size with
      | 0, .int _, 1 => .okc (g' = g ∧ r < l.length) (.int k (l.getD r 0)) H
      | _, _, _ => .bad
    | some (.tab g' n row) => match rowAt i (row r) c with | some v => .okc (g' = g ∧ r < n) v H | none => .bad
    | _ => .bad
  | _ => .bad
def AV.isTop : AV → Bool
  | .top => true
  | _ => false
/-- A value of one cell. -/
def AV.one : AV → Bool
  | .agg _ | .tup _ | .top => false
  | _ => true
def allOne : List AV → Bool
  | [] => true
  | v :: vs => match v.one with | true => allOne vs | false => false
def storeOp (i : TI) (p v : AV) (H : AHeap) : St :=
  match Nat.beq (lenM v.cells) i.size, allOne v.cells, p with
  | true, true, .ptr b g r c => match nthM H b with
    | some (.lst g' rows) => match Nat.beq g' g with
      | true => match nthM rows r with
        | some row => match layM row v.cells c with
          | some row' => match setM row' rows r with | some rows' => putB (.tup []) b (.lst g' rows') H | none => .bad
          | none => .bad
        | none => .bad
      | false => .bad
    | some (.ints g' k l) => match c, v with
      | 0, .int k' n => match Nat.beq (kid k) (kid k') with
        | true => putBc (g' = g ∧ r < l.length) (.tup []) b (.ints g' k (l.set r n)) H
        | false => .bad
      | _, _ => .bad
    | some (.tab g' n row) => match layM (row r) v.cells c with
      | some row' => putBc (g' = g ∧ r < n) (.tup []) b (.tab g' n fun j => mrgL (j = r) row' (row j)) H
      | none => .bad
    | _ => .bad
  | _, _, _ => .bad

def allocOp (cs : List AV) (H : AHeap) : St :=
  match cs with
  | [] => .bad
  | c :: cs => match allOne (c :: cs) with
    | true => newB (fun b => .ptr b 0 0 0) (.lst 0 [c :: cs]) H
    | false => .bad

def withC (C : Prop) : Option Prop → St → St
  | none, .ok v H => .okc C v H
  | some D, .ok v H => .okc (C ∧ D) v H
  | none, .okc E v H => .okc (C ∧ E) v H
  | some D, .okc E v H => .okc (C ∧ D ∧ E) v H
  | _, .bad => .bad
/-- The parts of a struct or an array, laid into its zero value. -/
def layParts (place : Nat → Option (Nat × Nat)) : List AV → List (Nat × AV) → Option (List AV)
  | cs, [] => some cs
  | cs, (i, v) :: ps => match place i with
    | some (off, size) => match Nat.beq (lenM v.cells) size && Nat.blt 0 size, v.isTop with
      | true, false => match layM cs v.cells off with | some cs' => layParts place cs' ps | none => none
      | _, _ => none
    | none => none
def layRows (size : Nat) : List (List AV) → List (Nat × AV) → Option (List (List AV))
  | rows, [] => some rows
  | rows, (i, v) :: ps => match Nat.beq (lenM v.cells) size, allOne v.cells with
    | true, true => match setM v.cells rows i with | some rows' => layRows size rows' ps | none => none
    | _, _ => none
def repM {α : Type} (v : α) : Nat → List α
  | 0 => []
  | n + 1 => v :: repM v n
def intsM (k : IntKind) : List (List AV) → Option (List Int)
  | [] => some []
  | [.int k' n] :: rs => match Nat.beq (kid k) (kid k') with
    | true => match intsM k rs with | some l => some (n :: l) | none => none
    | false => none
  | _ :: _ => none
def evParts (T : Env) : List (Nat × Operand) → Option (List (Nat × AV))
  | [] => some []
  | (i, x) :: xs => match ev T x with
    | some v => match evParts T xs with | some vs => some ((i, v) :: vs) | none => none
    | none => none

variable (TT : TypeId → Option TI)

def placesM : List (Nat × TypeId) → Option (List (Nat × Nat))
  | [] => some []
  | (off, t) :: fs => match TT t with
    | some j => match placesM fs with | some ps => some ((off, j.size) :: ps) | none => none
    | none => none
def buildOp (i : TI) (ps : List (Nat × AV)) (H : AHeap) : St :=
  match i.kind with
  | .struct fs => match placesM TT fs with
    | some places => match layParts (nthM places) i.zero ps with
      | some cs => .ok (.agg cs) H
      | none => .bad
    | none => .bad
  | .array _ e => match TT e with
    | some j => match layParts (fun k => some (k * j.size, j.size)) i.zero ps with | some cs => .ok (.agg cs) H | none => .bad
    | none => .bad
  | _ => .bad
def buildSliceOp (i : TI) (len : Nat) (ps : List (Nat × AV)) (H : AHeap) : St :=
  match i.kind with
  | .slice e => match TT e with
    | some j => match len with
      | 0 => match ps with | [] => .ok .e0 H | _ => .bad
      | _ + 1 => match Nat.blt 0 j.size && Nat.ble j.size 1000 && Nat.ble len 1000 with
        | false => .bad
        | true => match layRows j.size (repM j.zero len) ps with
          | some rows => match j.kind with
            | .int k => match intsM k rows with
              | some l => newB (fun b => .sl b 0 0 len) (.ints 0 k l) H
              | none => .bad
            | _ => newB (fun b => .sl b 0 0 len) (.lst 0 rows) H
          | none => .bad
    | none => .bad
  | _ => .bad
def makeSliceOp (i : TI) (len cap : Int) (H : AHeap) : St :=
  match i.kind with
  | .slice e => match TT e with
    | some j => match j.size with
      | 0 => .bad
      | _ + 1 => match j.zero with
        | [.int k (.ofNat 0)] => withC (0 ≤ len ∧ len ≤ cap ∧ cap * j.bytes ≤ 140737488355328 ∧ cap ≤ 9223372036854775807) none
            (newB (fun b => .sl b 0 0 len.toNat) (.ints 0 k (List.replicate len.toNat 0)) H)
        | _ => withC (0 ≤ len ∧ len ≤ cap ∧ cap * j.bytes ≤ 140737488355328 ∧ cap ≤ 9223372036854775807) none
            (newB (fun b => .sl b 0 0 len.toNat) (.tab 0 len.toNat fun _ => j.zero) H)
    | none => .bad
  | _ => .bad

/-- Do the rows of a slice have this width? -/
def widthOk (v : AV) (sz : Nat) (H : AHeap) : Bool :=
  match v with
  | .fi _ _ => Nat.beq sz 1
  | .fz _ row => Nat.beq (lenM (row 0)) sz
  | .sl b _ _ _ => match nthM H b with
    | some (.ints _ _ _) => Nat.beq sz 1
    | some (.lst _ (r0 :: _)) => Nat.beq (lenM r0) sz
    | some (.tab _ _ row) => Nat.beq (lenM (row 0)) sz
    | _ => false
  | .nils | .e0 => true
  | _ => false
/-- From a to h. -/
def cutV (v : AV) (a h : Option Int) : Option (Prop × AV) :=
  match v, a, h with
  | .fi k l, none, some h => some (0 ≤ h ∧ h ≤ l.length, .fi k (l.take h.toNat))
  | .fi k l, some a, none => some (0 ≤ a ∧ a ≤ l.length, .fi k (l.drop a.toNat))
  | .fi k l, some a, some h => some (0 ≤ a ∧ a ≤ h ∧ h ≤ l.length, .fi k ((l.take h.toNat).drop a.toNat))
  | .fz n row, none, some h => some (0 ≤ h ∧ h ≤ n, .fz h.toNat row)
  | .fz n row, some a, none => some (0 ≤ a ∧ a ≤ n, .fz (n - a.toNat) fun i => row (i + a.toNat))
  | .fz n row, some a, some h => some (0 ≤ a ∧ a ≤ h ∧ h ≤ n, .fz (h.toNat - a.toNat) fun i => row (i + a.toNat))
  | .sl b g off len, none, some h => some (0 ≤ h ∧ h ≤ len, .sl b g off h.toNat)
  | .sl b g off len, some a, none => some (0 ≤ a ∧ a ≤ len, .sl b g (off + a.toNat) (len - a.toNat))
  | .sl b g off len, some a, some h => some (0 ≤ a ∧ a ≤ h ∧ h ≤ len, .sl b g (off + a.toNat) (h.toNat - a.toNat))
  | .str s, none, some h => some (0 ≤ h ∧ h ≤ s.length, .str (s.take h.toNat))
  | .str s, some a, none => some (0 ≤ a ∧ a ≤ s.length, .str (s.drop a.toNat))
  | .str s, some a, some h => some (0 ≤ a ∧ a ≤ h ∧ h ≤ s.length, .str ((s.take h.toNat).drop a.toNat))
  | .nils, none, some h => some (h = 0, .nils)
  | .nils, some a, none => some (a = 0, .nils)
  | _, _, _ => none
/-- Is a slice of the blocks at hand of its block's generation? -/
def genOf (v : AV) (H : AHeap) : Option (Option Prop) :=
  match v with
  | .sl b g _ _ => match nthM H b with
    | some (.ints g' _ _) => some (some (g' = g))
    | some (.lst g' _) => some (some (g' = g))
    | some (.tab g' _ _) => some (some (g' = g))
    | _ => none
  | _ => some none
/-- A piece of a slice or a text. -/
def sliceOp (i : TI) (v : AV) (a h : Option Int) (H : AHeap) : St :=
  match i.kind, v with
  | .string, .str s => match cutV (.str s) a h with | some (C, v') => .okc C v' H | none => .bad
  | .slice e, v => match TT e with
    | some j => match widthOk v j.size H with
      | true => match cutV v a h, genOf v H with | some (C, v'), some c => withC C c (.ok v' H) | _, _ => .bad
      | false => .bad
    | none => .bad
  | _, _ => .bad
/-- 's[:h:x]': what is cut off behind is lost; no room at all, if that is plain. -/
def slice3Op (i : TI) (v : AV) (h x : Int) (H : AHeap) : St :=
  match i.kind with
  | .slice e => match TT e with
    | some _ => match x with
      | .ofNat 0 => (match v with
        | .fi _ _ | .fz _ _ | .e0 | .sl _ _ _ _ | .nils => .okc (h = 0) .e0 H
        | _ => .bad)
      | _ => .bad
    | none => .bad
  | _ => .bad
/-- 's[:len(s):len(s)]'. -/
def clipOp (i : TI) (v : AV) (h x : Int) (H : AHeap) : St :=
  match i.kind with
  | .slice e => match TT e with
    | some _ => match v with
      | .fi k l => .okc (h = l.length ∧ x = l.length) (.fi k l) H
      | .fz n row => .okc (h = n ∧ x = n) (.fz n row) H
      | .sl b g off len => .okc (h = len ∧ x = len) (.sl b g off len) H
      | .nils => .okc (h = 0 ∧ x = 0) .nils H
      | .e0 => .okc (h = 0 ∧ x = 0) .e0 H
      | _ => .bad
    | none => .bad
  | _ => .bad

/-- The sum; nought ahead is dropped. -/
def addN (m n : Nat) : Nat := match m with | 0 => n | k + 1 => k + 1 + n
def indexAddrOp (i : TI) (v : AV) (k : Int) (H : AHeap) : St :=
  match i.kind with
  | .slice e => match TT e with
    | some j => match v with
      | .fi kd l => match j.size with | 1 => .okc (0 ≤ k ∧ k < l.length) (.fptr [.int kd (l.getD k.toNat 0)] 0) H | _ => .bad
      | .fz n row => match Nat.beq (lenM (row k.toNat)) j.size with | true => .okc (0 ≤ k ∧ k < n) (.fptr (row k.toNat) 0) H | false => .bad
      | .sl b g off len => match nthM H b with
        | some (.ints g' _ l) => match j.size with | 1 => .okc (0 ≤ k ∧ k < len ∧ g' = g ∧ off + len ≤ l.length) (.ptr b g (addN off k.toNat) 0) H | _ => .bad
        | some (.tab g' n row) => match Nat.beq (lenM (row (addN off k.toNat))) j.size with
          | true => .okc (0 ≤ k ∧ k < len ∧ g' = g ∧ off + len ≤ n) (.ptr b g (addN off k.toNat) 0) H
          | false => .bad
        | some (.lst g' rows) => match nthM rows (addN off k.toNat) with
          | some row => match Nat.beq (lenM row) j.size, Nat.beq g' g with
            | true, true => .okc (0 ≤ k ∧ k < len) (.ptr b g (addN off k.toNat) 0) H
            | _, _ => .bad
          | none => .bad
        | _ => .bad
      | _ => .bad
    | none => .bad
  | _ => .bad

/-- What is appended: whole numbers, or rows; and what must hold for it. -/
def intsOf (v : AV) (H : AHeap) : Option (IntKind × List Int × Option Prop) :=
  match v with
  | .fi k l => some (k, l, none)
  | .sl b g 0 len => match nthM H b with
    | some (.ints g' k l) => some (k, l, some (g' = g ∧ len = l.length))
    | _ => none
  | _ => none
def rowsOf (v : AV) (H : AHeap) : Option (Nat × (Nat → List AV) × Option Prop) :=
  match v with
  | .fz n row => some (n, row, none)
  | .sl b g 0 len => match nthM H b with
    | some (.lst g' [r0]) => some (1, fun _ => r0, some (g' = g ∧ len = 1))
    | some (.tab g' n row) => some (n, row, some (g' = g ∧ len = n))
    | _ => none
  | _ => none
def appendOp (i : TI) (s x : AV) (H : AHeap) : St :=
  match i.kind with
  | .slice e => match TT e with
    | some j => match j.bytes with
     | 0 => .bad
     | _ + 1 => match j.kind, j.size with
      | .int _, 1 => match intsOf x H with
        | some (k2, l2, c) => match s with
          | .sl b g off len => match nthM H b with
            | some (.ints g' k l) => match Nat.beq (kid k) (kid k2) with
              | true => withC (g' = g ∧ off + len = l.length ∧ (len + l2.length) * j.bytes ≤ 140737488355328) c
                  (putB (.sl b (g' + 1) off (len + l2.length)) b (.ints (g' + 1) k (l ++ l2)) H)
              | false => .bad
            | _ => .bad
          | .nils | .e0 => withC (l2.length * j.bytes ≤ 140737488355328) c (newB (fun b => .sl b 0 0 l2.length) (.ints 0 k2 l2) H)
          | _ => .bad
        | none => match s, x with
          | .sl _ _ _ _, .nils | .sl _ _ _ _, .e0 => .ok s H
          | _, _ => .bad
      | .int _, _ => .bad
      | _, 0 => .bad
      | _, _ + 1 => match rowsOf x H with
        | some (m, row2, c) => match Nat.beq (lenM (row2 0)) j.size with
         | false => .bad
         | true => match s with
          | .sl b g off len => match nthM H b with
            | some (.tab g' n row) => withC (g' = g ∧ off + len ≤ n ∧ (len + m) * j.bytes ≤ 140737488355328 ∧ ∀ i, (row i).length = j.size) c
                (putB (.sl b (g' + 1) off (len + m)) b (.tab (g' + 1) (addN off len + m) fun i => mrgL (i < addN off len) (row i) (row2 (i - addN off len))) H)
            | _ => .bad
          | .nils | .e0 => withC (m * j.bytes ≤ 140737488355328) c (newB (fun b => .sl b 0 0 m) (.tab 0 m row2) H)
          | _ => .bad
        | none => .bad
    | none => .bad
  | _ => .bad
def splice (l : List Int) (o : Nat) (s : List Int) : List Int := l.take o ++ s ++ l.drop (o + s.length)
def copyOp (d s : AV) (H : AHeap) : St :=
  match d with
  | .sl b g off len => match nthM H b with
    | some (.ints g' k l) => match s with
      | .fi k2 l2 => match Nat.beq (kid k) (kid k2) with
        | true => putBc (g' = g ∧ off + len ≤ l.length) (.int .i64 (min len l2.length)) b (.ints g k (splice l off (l2.take len))) H
        | false => .bad
      | _ => .bad
    | _ => .bad
  | _ => .bad
def lenOp (i : TI) (v : AV) (H : AHeap) : St :=
  match i.kind with
  | .slice _ => match v with
    | .fi _ l => .ok (.int .i64 l.length) H
    | .fz n _ => .ok (.int .i64 n) H
    | .sl _ _ _ len => .ok (.int .i64 len) H
    | .nils => .ok (.int .i64 0) H
    | .e0 => .ok (.int .i64 0) H
    | _ => .bad
  | .string => match v with
    | .str s => .ok (.int .i64 s.length) H
    | _ => .bad
  | _ => .bad
def foldMM (f : Int → Int → Int) (k : IntKind) : Int → List AV → Option Int
  | a, [] => some a
  | a, .int k' b :: vs => match Nat.beq (kid k) (kid k') with | true => foldMM f k (f a b) vs | false => none
  | _, _ => none
def builtinStep (b : Builtin) (ts : List TypeId) (vs : List AV) (H : AHeap) : St :=
  match b, vs with
  | .len, [v] => (match ts with | [t] => (match TT t with | some i => lenOp i v H | none => .bad) | _ => .bad)
  | .min, .int k a :: vs => (match foldMM min k a vs with | some n => .ok (.int k n) H | none => .bad)
  | .max, .int k a :: vs => (match foldMM max k a vs with | some n => .ok (.int k n) H | none => .bad)
  | .append, [s, x] => (match ts with
    | [t, t2] => (match TT t, TT t2 with
      | some i, some i2 => (match i2.kind with | .slice _ => appendOp TT i s x H | _ => .bad)
      | _, _ => .bad)
    | _ => .bad)
  | .copy, [d, s] => (match ts with
    | [t, _] => (match TT t with | some i => (match i.kind with | .slice e => (match TT e with | some j => (match j.size with | 1 => copyOp d s H | _ => .bad) | none => .bad) | _ => .bad) | none => .bad)
    | _ => .bad)
  | _, _ => .bad

def binopS (op : BinOp) (a b : List UInt8) (H : AHeap) : St :=
  match op with
  | .add => .okc (a.length + b.length ≤ 9223372036854775807) (.str (a ++ b)) H
  | .eql => .ok (.pr (a = b)) H
  | .neq => .ok (.pr (a ≠ b)) H
  | .lss => .ok (.pr (Op.bytesLess a b = true)) H
  | .leq => .ok (.pr (Op.bytesLess a b = true ∨ a = b)) H
  | .gtr => .ok (.pr ¬(Op.bytesLess a b = true ∨ a = b)) H
  | .geq => .ok (.pr ¬(Op.bytesLess a b = true)) H
  | _ => .bad
def binopB (op : BinOp) (p q : Prop) (H : AHeap) : St :=
  match op with
  | .eql => .ok (.pr (p ↔ q)) H
  | .neq => .ok (.pr (¬(p ↔ q))) H
  | _ => .bad
/-- The cells of a struct, as a key's. -/
def keyCells : List (Nat × TypeId) → List AV → Option MKey
  | [], [] => some []
  | (_, ft) :: fs, v :: cs => match TT ft with
    | some j => match j.kind, v with
      | .int _, .int .i64 n => (match keyCells fs cs with | some ks => some (.inl n :: ks) | none => none)
      | .string, .str s => (match keyCells fs cs with | some ks => some (.inr s :: ks) | none => none)
      | _, _ => none
    | none => none
  | _, _ => none
def cellShape : List (Nat × TypeId) → Option (List Bool)
  | [] => some []
  | (_, ft) :: fs => match TT ft with
    | some j => match j.kind with
      | .int _ => (match cellShape fs with | some bs => some (false :: bs) | none => none)
      | .string => (match cellShape fs with | some bs => some (true :: bs) | none => none)
      | _ => none
    | none => none
/-- A value of this type as a key; what its keys are like. -/
def keyOfV (i : TI) (v : AV) : Option MKey :=
  match i.kind, v with
  | .string, .str s => some [.inr s]
  | .struct fs, .agg cs => match i.eqb with | true => keyCells TT fs cs | false => none
  | _, _ => none
def shapeOf (i : TI) : Option (Option (List Bool)) :=
  match i.kind with
  | .string => some none
  | .struct fs => match i.eqb with | true => (match cellShape TT fs with | some bs => some (some bs) | none => none) | false => none
  | _ => none
def sameBools : List Bool → List Bool → Bool
  | [], [] => true
  | true :: asx, true :: bs => sameBools asx bs
  | false :: asx, false :: bs => sameBools asx bs
  | _, _ => false
def sameShape : Option (List Bool) → Option (List Bool) → Bool
  | none, none => true
  | some a, some b => sameBools a b
  | _, _ => false
def eqvOp (op : BinOp) (i : TI) (x y : AV) (H : AHeap) : St :=
  match keyOfV TT i x, keyOfV TT i y with
  | some a, some b => match op with | .eql => .ok (.pr (a = b)) H | .neq => .ok (.pr (a ≠ b)) H | _ => .bad
  | _, _ => .bad
/-- A new map. -/
def makeMapOp (i : TI) (H : AHeap) : St :=
  match i.kind with
  | .map k e => match TT k, TT e with
    | some j, some l => match shapeOf TT j, l.kind with
      | some sh, .bool => newB (fun b => .mp b) (.mp true sh []) H
      | some sh, .int .i64 => newB (fun b => .mp b) (.mp false sh []) H
      | _, _ => .bad
    | _, _ => .bad
  | _ => .bad
/-- What a map of bools or of whole numbers answers. -/
def lookV (vb c : Bool) (es : List (MKey × Int)) (k : MKey) : AV :=
  match vb, c with
  | true, false => .pr (mget es k ≠ 0)
  | false, false => .int .i64 (mget es k)
  | true, true => .tup [.pr (mget es k ≠ 0), .pr (k ∈ es.map Prod.fst)]
  | false, true => .tup [.int .i64 (mget es k), .pr (k ∈ es.map Prod.fst)]
def lookupOp (i : TI) (m x : AV) (c : Bool) (H : AHeap) : St :=
  match i.kind, m with
  | .map k e, .mp b => match TT k, TT e, nthM H b with
    | some j, some l, some (.mp vb sh es) => match keyOfV TT j x, shapeOf TT j with
      | some key, some sh' => match sameShape sh sh', vb, l.kind with
        | true, true, .bool => .ok (lookV true c es key) H
        | true, false, .int .i64 => .ok (lookV false c es key) H
        | _, _, _ => .bad
      | _, _ => .bad
    | _, _, _ => .bad
  | _, _ => .bad
def updateOp (i : TI) (m x v : AV) (H : AHeap) : St :=
  match i.kind, m with
  | .map k _, .mp b => match TT k, nthM H b with
    | some j, some (.mp vb sh es) => match keyOfV TT j x, shapeOf TT j with
      | some key, some sh' => match sameShape sh sh', vb, v with
        | true, true, .bool true => putB (.tup []) b (.mp true sh (mput es key 1)) H
        | true, true, .bool false => putB (.tup []) b (.mp true sh (mput es key 0)) H
        | true, false, .int .i64 n => putB (.tup []) b (.mp false sh (mput es key n)) H
        | _, _, _ => .bad
      | _, _ => .bad
    | _, _ => .bad
  | _, _ => .bad
def binOpV (m : Nat) (op : BinOp) (t : TypeId) (x y : AV) (H : AHeap) : St :=
  match x, y with
  | .int k a, .int k' b => match op with
    | .shl | .shr => shiftop m op k a b H
    | _ => match Nat.beq (kid k) (kid k') with | true => binop m op k a b H | false => .bad
  | .str a, .str b => binopS op a b H
  | .pr p, .pr q => isBool t (binopB op p q H)
  | .pr p, .bool b => isBool t (binopB op p (b = true) H)
  | .bool b, .pr p => isBool t (binopB op (b = true) p H)
  | .bool a, .bool b => isBool t (binopB op (a = true) (b = true) H)
  | .fi _ l, .nils => isSlice t (nilq op (l = []) H)
  | .fz n _, .nils => isSlice t (nilq op (n = 0) H)
  | .sl _ _ _ len, .nils => isSlice t (nilq op (len = 0) H)
  | .e0, .nils => isSlice t (nilq op True H)
  | .nils, .nils => isSlice t (cst op true false H)
  | .ptr _ _ _ _, .nilp => isPtr t (cst op false true H)
  | .fptr _ _, .nilp => isPtr t (cst op false true H)
  | .nilp, .nilp => isPtr t (cst op true false H)
  | .iface _ _, .nili => isIface t (cst op false true H)
  | .agg cs, .agg ds => match TT t with | some i => eqvOp TT op i (.agg cs) (.agg ds) H | none => .bad
  | _, _ => .bad
where
  isSlice (t : TypeId) (s : St) : St := match TT t with | some i => (match i.kind with | .slice _ => s | _ => .bad) | none => .bad
  isIface (t : TypeId) (s : St) : St := match TT t with | some i => (match i.kind with | .iface => s | _ => .bad) | none => .bad
  isPtr (t : TypeId) (s : St) : St := match TT t with | some i => (match i.kind with | .pointer _ => s | _ => .bad) | none => .bad
  cst (op : BinOp) (b c : Bool) (H : AHeap) : St := match op with | .eql => .ok (.bool b) H | .neq => .ok (.bool c) H | _ => .bad
  nilq (op : BinOp) (p : Prop) (H : AHeap) : St := match op with | .eql => .ok (.anyb p True) H | .neq => .ok (.anyb True p) H | _ => .bad
  isBool (t : TypeId) (s : St) : St := match TT t with | some i => (match i.kind with | .bool => s | _ => .bad) | none => .bad
/-- nil is held against nil, of which one stands in the text. -/
def bothNil : AV → AV → Bool
  | .nili, .nili => true
  | _, _ => false
def niliOp (op : BinOp) (t : TypeId) (y : Operand) (H : AHeap) : St :=
  match y with
  | .const _ => binOpV.isIface TT t (binOpV.cst op true false H)
  | _ => .bad
def unOpV (m : Nat) (op : UnOp) (x : AV) (H : AHeap) : St :=
  match op, x with
  | .not, .pr p => .ok (.pr ¬p) H
  | .not, .anyb p q => .ok (.anyb q p) H
  | .not, .bool true => .ok (.bool false) H
  | .not, .bool false => .ok (.bool true) H
  | .neg, .int k n => (match m with | 1 => .ok (.int k (k.wrap (-n))) H | _ => rng0 k (-n) H)
  | _, _ => .bad
def convOp (m : Nat) (d : TI) (x : AV) (H : AHeap) : St :=
  match d.kind, x with
  | .int k, .int _ n => (match m with | 1 => .ok (.int k (k.wrap n)) H | _ => rng0 k n H)
  | .string, .str s => .ok (.str s) H
  | _, _ => .bad

/-- Bytes as a text. -/
def bytesT (l : List Int) : List UInt8 := l.map fun n => UInt8.ofNat n.toNat
def convB (v : AV) (H : AHeap) : St :=
  match v with
  | .fi .u8 l => .ok (.str (bytesT l)) H
  | .sl b g 0 len => match nthM H b with
    | some (.ints g' .u8 l) => .okc (g' = g ∧ len = l.length) (.str (bytesT l)) H
    | _ => .bad
  | .nils => .ok (.str []) H
  | _ => .bad
def isBytes (j i : TI) : Bool :=
  match j.kind, i.kind with
  | .slice e, .string => match TT e with
    | some k => match k.kind with | .int .u8 => true | _ => false
    | none => false
  | _, _ => false
/-- One operation that calls no Go function. -/
def stepOp (m : Nat) (op : Op) (T : Env) (H : AHeap) : St :=
  match op with
  | .move x | .assign x => match ev T x with | some v => .ok v H | none => .bad
  | .pick c a b => match ev T c with
    | some (.bool true) => (match ev T a with | some v => .ok v H | none => .bad)
    | some (.bool false) => (match ev T b with | some v => .ok v H | none => .bad)
    | _ => .bad
  | .alloc t => match TT t with | some i => allocOp i.zero H | none => .bad
  | .box _ x => match ev T x with
    | some v => match v with
      | .top => .bad
      | _ => allocOp v.cells H
    | none => .bad
  | .build t ps => match TT t, evParts T ps.toList with | some i, some vs => buildOp TT i vs H | _, _ => .bad
  | .buildSlice t n ps => match TT t, evParts T ps.toList with | some i, some vs => buildSliceOp TT i n vs H | _, _ => .bad
  | .load t x => match TT t, ev T x with | some i, some v => loadOp i v H | _, _ => .bad
  | .store t x y => match TT t, ev T x, ev T y with | some i, some p, some v => storeOp i p v H | _, _, _ => .bad
  | .nilCheck x => match ev T x with
    | some (.ptr b g r c) => .ok (.ptr b g r c) H
    | some (.fptr row c) => .ok (.fptr row c) H
    | _ => .bad
  | .binOp op t x y _ => match ev T x, ev T y with | some v, some w => (match bothNil v w with | true => niliOp TT op t y H | false => binOpV TT m op t v w H) | _, _ => .bad
  | .unOp op _ x => match ev T x with | some v => unOpV m op v H | none => .bad
  | .convert s t x => match TT s, TT t, ev T x with | some j, some i, some v => (match isBytes TT j i with | true => convB v H | false => convOp m i v H) | _, _, _ => .bad
  | .makeFunc (.func f) fs cs => match evs T fs.toList, evs T cs.toList with | some a, some b => .ok (.fn f a b) H | _, _ => .bad
  | .makeSlice t l c => match TT t, ev T l, ev T c with | some i, some (.int _ a), some (.int _ b) => makeSliceOp TT i a b H | _, _, _ => .bad
  | .slice t x none (some (.const (.int _ (.ofNat 0)))) (some (.const (.int _ (.ofNat 0)))) => match TT t, ev T x with
    | some i, some v => slice3Op TT i v 0 0 H
    | _, _ => .bad
  | .slice t x none (some h) (some mx) => match TT t, ev T x, ev T h, ev T mx with
    | some i, some v, some (.int _ a), some (.int _ b) => clipOp TT i v a b H
    | _, _, _, _ => .bad
  | .slice t x (some l) none none => match TT t, ev T x, ev T l with | some i, some v, some (.int _ a) => sliceOp TT i v (some a) none H | _, _, _ => .bad
  | .slice t x none (some h) none => match TT t, ev T x, ev T h with | some i, some v, some (.int _ b) => sliceOp TT i v none (some b) H | _, _, _ => .bad
  | .slice t x (some l) (some h) none => match TT t, ev T x, ev T l, ev T h with | some i, some v, some (.int _ a), some (.int _ b) => sliceOp TT i v (some a) (some b) H | _, _, _, _ => .bad
  | .fieldAddr t x f => match TT t, ev T x with
    | some i, some v => match i.kind with
      | .struct fs => match nthM fs f with
        | some (off, ft) => match TT ft with
          | some j => match j.size with
            | 0 => .bad
            | _ + 1 => match v with
              | .ptr b g r c => .ok (.ptr b g r (c + off)) H
              | .fptr row c => .ok (.fptr row (c + off)) H
              | _ => .bad
          | none => .bad
        | none => .bad
      | _ => .bad
    | _, _ => .bad
  | .field t x f => match TT t, ev T x with
    | some i, some (.agg cs) => match i.kind with
      | .struct fs => match nthM fs f with
        | some (off, ft) => match TT ft with
          | some j => match rowAt j cs off with | some v => .ok v H | none => .bad
          | none => .bad
        | none => .bad
      | _ => .bad
    | _, _ => .bad
  | .indexAddr t x i => match TT t, ev T x, ev T i with | some j, some v, some (.int _ n) => indexAddrOp TT j v n H | _, _, _ => .bad
  | .index t x i => match TT t, ev T x, ev T i with
    | some j, some (.str s), some (.int _ n) => match j.kind with
      | .string => .okc (0 ≤ n ∧ n < s.length) (.int .u8 ((s.getD n.toNat 0).toNat : Int)) H
      | _ => .bad
    | _, _, _ => .bad
  | .extract x i => match ev T x with
    | some (.tup vs) => match nthM vs i with | some v => .ok v H | none => .bad
    | _ => .bad
  | .makeMap t none => match TT t with | some i => makeMapOp TT i H | none => .bad
  | .lookup t x y c => match TT t, ev T x, ev T y with | some i, some m, some v => lookupOp TT i m v c H | _, _, _ => .bad
  | .mapUpdate t x y z => match TT t, ev T x, ev T y, ev T z with | some i, some m, some k, some v => updateOp TT i m k v H | _, _, _, _ => .bad
  | .insert t x y z => match TT t, ev T x, ev T y, ev T z with | some i, some m, some k, some v => updateOp TT i m k v H | _, _, _, _ => .bad
  | .call { callee := .builtin b, args := xs, argTypes := ts } => match evs T xs.toList with | some vs => builtinStep TT b ts.toList vs H | none => .bad
  | _ => .bad

/-! ### Straight code, up to what is of interest -/
inductive Out where
  | ret (cs : List Prop) (v : AV) (H : AHeap)
  | split (cs : List Prop) (d : Nat) (p q : Prop) (k : List Item) (T : Env) (H : AHeap)
  | loop (cs : List Prop) (c : Code) (k : List Item) (T : Env) (H : AHeap)
  | back (cs : List Prop) (c : Code) (k : List Item) (T : Env) (H : AHeap)
  | call (cs : List Prop) (f : FuncId) (args : List AV) (dst : Option Nat) (k : List Item) (T : Env) (H : AHeap)
  | draw (cs : List Prop) (k : List Item) (T : Env) (H : AHeap)
  | stop (cs : List Prop) (k : List Item) (T : Env) (H : AHeap)

def upto (n : Nat) : Nat → List Nat
  | 0 => []
  | m + 1 => (n - (m + 1)) :: upto n m

/-- What a function hands back. -/
def resOne (T : Env) (H : AHeap) : ResultVar → Option (Option Prop × AV)
  | .tmp d => match getM T d with | some v => some (none, v) | none => none
  | .cell d t => match TT t, getM T d with
    | some i, some v => match loadOp i v H with
      | .ok v _ => some (none, v)
      | .okc C v _ => some (some C, v)
      | .bad => none
    | _, _ => none
def resAll (T : Env) (H : AHeap) : List ResultVar → Option (List Prop × List AV)
  | [] => some ([], [])
  | r :: rs => match resOne TT T H r with
    | some (none, v) => match resAll T H rs with | some (cs, vs) => some (cs, v :: vs) | none => none
    | some (some C, v) => match resAll T H rs with | some (cs, vs) => some (C :: cs, v :: vs) | none => none
    | none => none
def resV (T : Env) (H : AHeap) (rs : List ResultVar) : Option (List Prop × AV) :=
  match resAll TT T H rs with
  | some (cs, [v]) => some (cs, v)
  | some (cs, vs) => some (cs, .tup vs)
  | none => none

/-- Where an operation's value goes. -/
def dstM (N : Nat) (d : Option Nat) (v : AV) (T : Env) : Option Env :=
  match d with
  | none => some T
  | some d => match Nat.blt d N with | true => putM d v T | false => none

/-- What a guard says. 'some none': go on; 'some (some none)': leave it out; 'some (some (some _))': it hangs on this. -/
def guardM (ops : List Oper) (T : Env) (g : Option (Nat × Bool)) : Option (Option (Option (Nat × Prop × Prop))) :=
  match g with
  | none => some none
  | some (j, want) => match nthM ops j with
    | some oj => match oj.dst with
      | some d => match getM T d with
        | some (.bool true) => (match want with | true => some none | false => some (some none))
        | some (.bool false) => (match want with | false => some none | true => some (some none))
        | some (.tup []) => some (some none)
        | some (.pr p) => some (some (some (d, p, ¬p)))
        | some (.anyb p q) => some (some (some (d, p, q)))
        | _ => none
      | none => none
    | none => none

/-- What an operation is to the walk: a call of a Go function, one that hangs on what is not known, or another. -/
inductive OpKind where
  | call (f : FuncId) (args : List AV)
  | hangs (d : Nat) (p q : Prop)
  | plain
  | bad
def opKind (op : Op) (T : Env) : OpKind :=
  match op with
  | .call { callee := .value f, args := xs, .. } => match ev T f, evs T xs.toList with
    | some (.fn fid fs cap), some vs => match appM fs vs with
      | some a1 => match appM a1 cap with
        | some a2 => .call fid a2
        | none => .bad
      | none => .bad
    | _, _ => .bad
  | .pick (.tmp d) _ _ => match getM T d with
    | some (.pr p) => .hangs d p ¬p
    | some (.anyb p q) => .hangs d p q
    | _ => .plain
  | _ => .plain

/-- From 3 on: the same, but stop where a block is left. -/
def modeM : Nat → Nat
  | 0 => 0 | 1 => 1 | 2 => 2 | 3 => 0 | 4 => 1 | 5 => 2 | 6 => 0 | 7 => 1 | _ => 2
def stopX : Nat → Bool
  | 3 | 4 | 5 => true
  | _ => false
/-- From 6 on: stop where a loop begins. -/
def stopL : Nat → Bool
  | 6 | 7 | 8 => true
  | _ => false
/-- N: how many slots; rs: the results; m: how numbers are reckoned. -/
def exec (N : Nat) (rs : List ResultVar) (m : Nat) : Nat → List Prop → List Item → Env → AHeap → Out
  | 0, cs, k, T, H => .stop cs k T H
  | n + 1, cs, k, T, H =>
    match k with
    | [] => match resV TT T H rs with
      | some (ds, v) => match appM ds cs with | some cs' => .ret cs' v H | none => .stop cs [] T H
      | none => .stop cs [] T H
    | .code c :: k' => match c with
      | .skip => exec N rs m n cs k' T H
      | .seq a b => exec N rs m n cs (.code a :: .code b :: k') T H
      | .ret => match resV TT T H rs with
        | some (ds, v) => match appM ds cs with | some cs' => .ret cs' v H | none => .stop cs (.code .ret :: k') T H
        | none => .stop cs (.code .ret :: k') T H
      | .block id c => exec N rs m n cs (.code c :: .inBlock id :: k') T H
      | .loop c => match stopL m with | true => .stop cs (.code (.loop c) :: k') T H | false => .loop cs c k' T H
      | .exit id => match exitTo id k' with
        | some k'' => match stopX m with | true => .stop cs k'' T H | false => exec N rs m n cs k'' T H
        | none => .stop cs (.code (.exit id) :: k') T H
      | .cond c a b => match ev T c with
        | some (.bool true) => exec N rs m n cs (.code a :: k') T H
        | some (.bool false) => exec N rs m n cs (.code b :: k') T H
        | some (.pr p) => match c with | .tmp d => .split cs d p (¬p) (.code (.cond (.tmp d) a b) :: k') T H | c => .stop cs (.code (.cond c a b) :: k') T H
        | some (.anyb p q) => match c with | .tmp d => .split cs d p q (.code (.cond (.tmp d) a b) :: k') T H | c => .stop cs (.code (.cond c a b) :: k') T H
        | _ => .stop cs (.code (.cond c a b) :: k') T H
      | .region id ops dr => match dr with
        | true => .draw cs (.code (.region id ops true) :: k') T H
        | false => exec N rs m n cs (.inRegion ops (upto (lenM ops.toList) (lenM ops.toList)) :: k') T H
      | c => .stop cs (.code c :: k') T H
    | .inBlock _ :: k' => exec N rs m n cs k' T H
    | .inLoop c :: k' => .back cs c k' T H
    | .inRegion ops is :: k' => match is with
      | [] => exec N rs m n cs k' T H
      | i :: is => match nthM ops.toList i with
        | none => .stop cs (.inRegion ops (i :: is) :: k') T H
        | some o => match guardM ops.toList T o.guard with
          | none => .stop cs (.inRegion ops (i :: is) :: k') T H
          | some (some (some (d, p, q))) => .split cs d p q (.inRegion ops (i :: is) :: k') T H
          | some (some none) => match dstM N o.dst (.tup []) T with
            | some T' => exec N rs m n cs (.inRegion ops is :: k') T' H
            | none => .stop cs (.inRegion ops (i :: is) :: k') T H
          | some none => match opKind o.op T with
            | .bad => .stop cs (.inRegion ops (i :: is) :: k') T H
            | .call f args => .call cs f args o.dst (.inRegion ops is :: k') T H
            | .hangs d p q => .split cs d p q (.inRegion ops (i :: is) :: k') T H
            | .plain => match stepOp TT (modeM m) o.op T H with
              | .bad => .stop cs (.inRegion ops (i :: is) :: k') T H
              | .ok v H' => match dstM N o.dst v T with
                | some T' => exec N rs m n cs (.inRegion ops is :: k') T' H'
                | none => .stop cs (.inRegion ops (i :: is) :: k') T H
              | .okc C v H' => match dstM N o.dst v T with
                | some T' => exec N rs m n (C :: cs) (.inRegion ops is :: k') T' H'
                | none => .stop cs (.inRegion ops (i :: is) :: k') T H
    | x :: k' => .stop cs (x :: k') T H

end Pf
/- How what is known of values and blocks fits the world: the relation, and how it is kept. -/
namespace Pf
open Go

/-- Where a block at hand lies: the model's block, how many rows have been cut off ahead, the cells of a row, the rows that there is room for. -/
structure Loc where
  cb : Nat
  sh : Nat
  sz : Nat
  n : Nat

/-- Block and generation to place ('some none': no memory, no rows). -/
abbrev BMap := Nat → Nat → Option (Option Loc)
/-- Cells that nobody writes any more, and what they hold. -/
abbrev FMem := Nat → Nat → Option Value
def noB : BMap := fun _ _ => none

inductive VR (FM : FMem) : BMap → AV → Value → Prop
  | top {β v} : VR FM β .top v
  | bool {β b} : VR FM β (.bool b) (.bool b)
  | pr {β} {p : Prop} {b : Bool} (h : b = true ↔ p) : VR FM β (.pr p) (.bool b)
  | anyb {β} {p q : Prop} {b : Bool} (h1 : b = true → p) (h2 : b = false → q) : VR FM β (.anyb p q) (.bool b)
  | int {β k n} : VR FM β (.int k n) (.int k n)
  | str {β} {s : List UInt8} {b : ByteArray} (h : b.data.toList = s) : VR FM β (.str s) (.string b)
  | nilp {β} : VR FM β .nilp (.pointer none)
  | ptr {β : BMap} {b g r c : Nat} {L : Loc} (h : β b g = some (some L)) (hs : L.sh ≤ r) : VR FM β (.ptr b g r c) (.pointer (some ⟨L.cb, (r - L.sh) * L.sz + c, none⟩))
  | fptr {β : BMap} {row : List AV} {c cb o : Nat} (cv : Nat → Value) (hm : ∀ j, j < row.length → FM cb (o + j) = some (cv j))
      (hv : ∀ j (h : j < row.length), VR FM noB row[j] (cv j)) : VR FM β (.fptr row c) (.pointer (some ⟨cb, o + c, none⟩))
  | nils {β} : VR FM β .nils (.slice none 0 0)
  | e0 {β a} : VR FM β .e0 (.slice a 0 0)
  | fi0 {β k a cap} : VR FM β (.fi k []) (.slice a 0 cap)
  | fi {β : BMap} {k : IntKind} {l : List Int} {cb o cap : Nat} (hc : l.length ≤ cap) (hm : ∀ i, i < l.length → FM cb (o + i) = some (.int k (l.getD i 0))) :
      VR FM β (.fi k l) (.slice (some ⟨cb, o, none⟩) l.length cap)
  | fz0 {β row a cap} : VR FM β (.fz 0 row) (.slice a 0 cap)
  | fz {β : BMap} {n : Nat} {row : Nat → List AV} {cb o sz cap : Nat} (cv : Nat → Nat → Value) (hz : 0 < sz) (hc : n ≤ cap) (hl : ∀ i, i < n → (row i).length = sz)
      (hm : ∀ i j, i < n → j < sz → FM cb (o + i * sz + j) = some (cv i j)) (ho : ∀ i j, i < n → j < sz → (cv i j).oneCell' = true)
      (hv : ∀ i j, i < n → ∀ h : j < (row i).length, VR FM noB (row i)[j] (cv i j)) : VR FM β (.fz n row) (.slice (some ⟨cb, o, none⟩) n cap)
  | sl {β : BMap} {b g off len cap : Nat} {L : Loc} (h : β b g = some (some L)) (hs : L.sh ≤ off) (hr : off - L.sh + cap ≤ L.n) (hc : len ≤ cap) (hp : 0 < cap) :
      VR FM β (.sl b g off len) (.slice (some ⟨L.cb, (off - L.sh) * L.sz, none⟩) len cap)
  | sl0 {β : BMap} {b g off : Nat} {a : Option Addr} {lo : Option Loc} (h : β b g = some lo) (hs : ∀ L, lo = some L → L.sh ≤ off) : VR FM β (.sl b g off 0) (.slice a 0 0)
  | fn {β : BMap} {f : FuncId} {fs cs : List AV} {xs ys : Array Value} (h1 : fs.length = xs.size) (h2 : cs.length = ys.size)
      (hv1 : ∀ i (h : i < fs.length), VR FM β fs[i] (xs.getD i undef)) (hv2 : ∀ i (h : i < cs.length), VR FM β cs[i] (ys.getD i undef)) :
      VR FM β (.fn f fs cs) (.func (.func f) xs ys)
  | nilf {β} : VR FM β .nilf .nilFunc
  | iface {β t v cv} (h : VR FM β v cv) : VR FM β (.iface t v) (.iface t cv)
  | nili {β} : VR FM β .nili .nilIface
  | mp {β : BMap} {b : Nat} {L : Loc} (h : β b 0 = some (some L)) : VR FM β (.mp b) (.map (some L.cb))
  | agg {β : BMap} {cs : List AV} {xs : Array Value} (h1 : cs.length = xs.size) (hv : ∀ i (h : i < cs.length), VR FM β cs[i] (xs.getD i undef)) : VR FM β (.agg cs) (.agg xs)
  | tup {β : BMap} {cs : List AV} {xs : Array Value} (h1 : cs.length = xs.size) (hv : ∀ i (h : i < cs.length), VR FM β cs[i] (xs.getD i undef)) : VR FM β (.tup cs) (.tuple xs)

/-- Lists of values. -/
def VRs (FM : FMem) (β : BMap) (asx : List AV) (vs : List Value) : Prop :=
  asx.length = vs.length ∧ ∀ i (h : i < asx.length), VR FM β asx[i] (vs.getD i undef)

structure MemOk (FM : FMem) (β : BMap) (w : World) (L : Loc) (n : Nat) (row : Nat → List AV) : Prop where
  sz : 0 < L.sz
  sh : L.sh ≤ n
  fit : n - L.sh ≤ L.n
  cells : ∃ c elem fr, w.heap[L.cb]? = some (.cells c elem fr) ∧ c.size = L.n * L.sz ∧ (∀ o, o < c.size → ¬(fr.1 ≤ o ∧ o < fr.2)) ∧ (∀ (k : Nat) v, c[k]? = some v → v.oneCell' = true) ∧
    ∀ r, L.sh ≤ r → r < n → (row r).length = L.sz ∧ ∀ j (h : j < (row r).length), ∃ cv, c[(r - L.sh) * L.sz + j]? = some cv ∧ VR FM β (row r)[j] cv
  free : ∀ o, FM L.cb o = none

def MemAt (FM : FMem) (β : BMap) (w : World) (n : Nat) (row : Nat → List AV) : Option Loc → Prop
  | none => n = 0
  | some L => MemOk FM β w L n row

/-- What a variable of the program (the one that is known) holds: small whole numbers. -/
def gtab : List Int := [1, 10, 100, 1000, 10000, 100000, 1000000, 10000000, 100000000, 1000000000, 10000000000, 100000000000, 1000000000000, 10000000000000, 100000000000000, 1000000000000000, 10000000000000000, 100000000000000000, 1000000000000000000, 10000000000000000000]
/-- The variables that hold an error. -/
def gerr : List Nat := [4, 5]
/-- Whether how long the known variable is, is told as well. -/
def gtabX : Bool := true
theorem gtabX_pos : gtabX = true → 0 < gtab.length := by decide
/-- The known variable's block is as long as the table. -/
def Tab (w : World) : Prop := gtabX = true → ∃ cs elem fr, w.heap[3]? = some (.cells cs elem fr) ∧ cs.size = gtab.length
theorem Tab.keep {w w' : World} (h : Tab w) (hf : gtabX = true → 3 < w.heap.size → w'.heap[3]? = w.heap[3]?) : Tab w' := fun hx => by
  obtain ⟨cs, e, fr, h1, h2⟩ := h hx
  exact ⟨cs, e, fr, by rw [hf hx (Array.getElem?_eq_some_iff.1 h1).1]; exact h1, h2⟩
structure GK (FM : FMem) (w : World) : Prop where
  tab : ∀ i, i < gtab.length → FM 3 i = some (.int .u64 (gtab.getD i 0))
  whole : ∀ g v, gval g = some v → ∃ cv, FM g 0 = some cv ∧ VR FM noB v cv
  errs : ∀ g, g ∈ gerr → ∃ ev, FM g 0 = some ev ∧ (ev = .nilIface ∨ ∃ te pe, ev = .iface te pe)
  tabw : Tab w
/-- Where the known variable lies no block of a function's own lies. -/
theorem GK.known {FM : FMem} {w : World} (h : GK FM w) (hx : gtabX = true) : FM 3 0 ≠ none := by
  rw [h.tab 0 (gtabX_pos hx)]; simp
/-- A cell of a key, and a key. -/
inductive CR : Bool → Int ⊕ List UInt8 → Value → Prop
  | int {n} : CR false (.inl n) (.int .i64 n)
  | str {s : List UInt8} {b : ByteArray} (h : b.data.toList = s) : CR true (.inr s) (.string b)
def CRs : List Bool → MKey → List Value → Prop
  | [], [], [] => True
  | b :: bs, c :: cs, v :: vs => CR b c v ∧ CRs bs cs vs
  | _, _, _ => False
inductive KR : Option (List Bool) → MKey → Value → Prop
  | one {c : Int ⊕ List UInt8} {v : Value} (h : CR true c v) : KR none [c] v
  | agg {bs : List Bool} {cs : MKey} {xs : Array Value} (h : CRs bs cs xs.toList) : KR (some bs) cs (.agg xs)
def mval (vb : Bool) (n : Int) : Value := if vb then .bool (n ≠ 0) else .int .i64 n
/-- Entries of a map. -/
def EntsR (vb : Bool) (sh : Option (List Bool)) : List (MKey × Int) → List MapEntry → Prop
  | [], [] => True
  | (k, n) :: es, e :: ents => (KR sh k e.key ∧ e.val = mval vb n) ∧ EntsR vb sh es ents
  | _, _ => False
/-- The map lies there. -/
def MpAt (w : World) (cb : Nat) (vb : Bool) (sh : Option (List Bool)) (es : List (MKey × Int)) : Prop :=
  ∃ ents clock, w.heap[cb]? = some (.map ents clock) ∧ EntsR vb sh es ents.toList
structure MapsOk (β : BMap) (H : AHeap) (w : World) : Prop where
  lies : ∀ b vb sh es, H[b]? = some (.mp vb sh es) → ∃ L, β b 0 = some (some L) ∧ MpAt w L.cb vb sh es
  inj : ∀ b b' vb vb' sh sh' es es' L L', H[b]? = some (.mp vb sh es) → β b 0 = some (some L) → H[b']? = some (.mp vb' sh' es') → β b' 0 = some (some L') → L.cb = L'.cb → b = b'
structure RelH (FM : FMem) (β : BMap) (H : AHeap) (w : World) : Prop where
  mem : ∀ b blk g n row, H[b]? = some blk → blk.view = some (g, n, row) → ∃ lo, β b g = some lo ∧ MemAt FM β w n row lo
  inj : ∀ b b' blk blk' g g' n n' row row' L L', H[b]? = some blk → blk.view = some (g, n, row) → β b g = some (some L) →
    H[b']? = some blk' → blk'.view = some (g', n', row') → β b' g' = some (some L') → L.cb = L'.cb → b = b'
  wid : ∀ b blk g n row L, H[b]? = some blk → blk.view = some (g, n, row) → β b g = some (some L) → L.sz = blk.width
  fm : ∀ cb o v, FM cb o = some v → w.cell? ⟨cb, o, none⟩ = some v
  dom : ∀ b g lo, β b g = some lo → b < H.length ∧ ∀ blk g' n row, H[b]? = some blk → blk.view = some (g', n, row) → g ≤ g'
  gk : GK FM w
  mp : MapsOk β H w

/-- The model's blocks that the blocks at hand lie in. -/
def Img (β : BMap) (H : AHeap) (cb : Nat) : Prop :=
  ∃ b blk g n row L, H[b]? = some blk ∧ blk.vw = some (g, n, row) ∧ β b g = some (some L) ∧ L.cb = cb

structure Ext (FM : FMem) (β : BMap) (H : AHeap) (w : World) (FM' : FMem) (β' : BMap) (H' : AHeap) (w' : World) : Prop where
  fm : ∀ cb o v, FM cb o = some v → FM' cb o = some v
  bm : ∀ b g lo, β b g = some lo → β' b g = some lo
  size : w.heap.size ≤ w'.heap.size
  img : ∀ cb, cb < w.heap.size → Img β' H' cb → Img β H cb
  frame : ∀ cb, cb < w.heap.size → ¬ Img β H cb → w'.heap[cb]? = w.heap[cb]?
  fmn : ∀ cb o v, FM' cb o = some v → FM cb o = some v ∨ w.heap.size ≤ cb ∨ Img β H cb
  len : H.length ≤ H'.length
  os : w'.os = w.os
  output : w'.output = w.output
  tape : w'.tape = w.tape

theorem MapsOk.keep {β β' : BMap} {H H' : AHeap} {w w' : World} (h : MapsOk β H w) (hb : ∀ b g lo, β b g = some lo → β' b g = some lo) (hH : ∀ (b : Nat) (vb : Bool) (sh : Option (List Bool)) (es : List (MKey × Int)), H'[b]? = some (.mp vb sh es) → H[b]? = some (.mp vb sh es))
    (hw : ∀ (cb : Nat) (es : Array MapEntry) (cl : Nat), w.heap[cb]? = some (.map es cl) → w'.heap[cb]? = some (.map es cl)) : MapsOk β' H' w' where
  lies b vb sh es e := by
    obtain ⟨L, h1, ents, cl, h2, h3⟩ := h.lies b vb sh es (hH _ _ _ _ e)
    exact ⟨L, hb _ _ _ h1, ents, cl, hw _ _ _ h2, h3⟩
  inj b b' vb vb' sh sh' es es' L L' h1 h2 h3 h4 h5 := by
    obtain ⟨L1, q1, _⟩ := h.lies b vb sh es (hH _ _ _ _ h1)
    obtain ⟨L2, q2, _⟩ := h.lies b' vb' sh' es' (hH _ _ _ _ h3)
    have e1 := hb _ _ _ q1
    have e2 := hb _ _ _ q2
    rw [h2] at e1
    rw [h4] at e2
    cases e1
    cases e2
    exact h.inj b b' vb vb' sh sh' es es' _ _ (hH _ _ _ _ h1) q1 (hH _ _ _ _ h3) q2 h5
theorem MapsOk.nil {β : BMap} {w : World} : MapsOk β [] w := ⟨fun b vb sh es h => by simp at h, fun b b' vb vb' sh sh' es es' L L' h => by simp at h⟩
theorem Ext.refl {FM β H w} : Ext FM β H w FM β H w :=
  ⟨fun _ _ _ h => h, fun _ _ _ h => h, Nat.le_refl _, fun _ _ h => h, fun _ _ _ => rfl, fun _ _ _ h => .inl h, Nat.le_refl _, rfl, rfl, rfl⟩

theorem Ext.trans {FM β H w FM1 β1 H1 w1 FM2 β2 H2 w2} (h : Ext FM β H w FM1 β1 H1 w1) (k : Ext FM1 β1 H1 w1 FM2 β2 H2 w2) : Ext FM β H w FM2 β2 H2 w2 where
  fm cb o v e := k.fm _ _ _ (h.fm _ _ _ e)
  bm b g lo e := k.bm _ _ _ (h.bm _ _ _ e)
  size := Nat.le_trans h.size k.size
  img cb l i := h.img cb l (k.img cb (Nat.lt_of_lt_of_le l h.size) i)
  frame cb l i := by
    rw [k.frame cb (Nat.lt_of_lt_of_le l h.size) (fun j => i (h.img cb l j)), h.frame cb l i]
  fmn cb o v e := by
    rcases k.fmn _ _ _ e with e | e | e
    · exact h.fmn _ _ _ e
    · exact .inr (.inl (Nat.le_trans h.size e))
    · rcases Nat.lt_or_ge cb w.heap.size with l | l
      · exact .inr (.inr (h.img cb l e))
      · exact .inr (.inl l)
  len := Nat.le_trans h.len k.len
  os := k.os.trans h.os
  output := k.output.trans h.output
  tape := k.tape.trans h.tape

/-- The same, as far as a caller sees: of the blocks below 'n0'. -/
structure ExtB (n0 : Nat) (FM : FMem) (β : BMap) (H : AHeap) (w : World) (FM' : FMem) (β' : BMap) (H' : AHeap) (w' : World) : Prop where
  fm : ∀ cb o v, FM cb o = some v → FM' cb o = some v
  bm : ∀ b g lo, b < n0 → β b g = some lo → β' b g = some lo
  size : w.heap.size ≤ w'.heap.size
  img : ∀ cb, cb < w.heap.size → Img β' H' cb → Img β H cb
  frame : ∀ cb, cb < w.heap.size → ¬ Img β H cb → w'.heap[cb]? = w.heap[cb]?
  fmn : ∀ cb o v, FM' cb o = some v → FM cb o = some v ∨ w.heap.size ≤ cb ∨ Img β H cb
  len : n0 ≤ H'.length
  os : w'.os = w.os
  output : w'.output = w.output
  tape : w'.tape = w.tape

theorem Ext.toB {n0 : Nat} {FM β H w FM1 β1 H1 w1} (h : Ext FM β H w FM1 β1 H1 w1) (hn : n0 ≤ H.length) : ExtB n0 FM β H w FM1 β1 H1 w1 :=
  ⟨h.fm, fun b g lo _ e => h.bm b g lo e, h.size, h.img, h.frame, h.fmn, Nat.le_trans hn h.len, h.os, h.output, h.tape⟩
theorem ExtB.trans {n0 : Nat} {FM β H w FM1 β1 H1 w1 FM2 β2 H2 w2} (h : ExtB n0 FM β H w FM1 β1 H1 w1) (k : ExtB n0 FM1 β1 H1 w1 FM2 β2 H2 w2) : ExtB n0 FM β H w FM2 β2 H2 w2 where
  fm cb o v e := k.fm _ _ _ (h.fm _ _ _ e)
  bm b g lo l e := k.bm _ _ _ l (h.bm _ _ _ l e)
  size := Nat.le_trans h.size k.size
  img cb l i := h.img cb l (k.img cb (Nat.lt_of_lt_of_le l h.size) i)
  frame cb l i := by
    rw [k.frame cb (Nat.lt_of_lt_of_le l h.size) (fun j => i (h.img cb l j)), h.frame cb l i]
  fmn cb o v e := by
    rcases k.fmn _ _ _ e with e | e | e
    · exact h.fmn _ _ _ e
    · exact .inr (.inl (Nat.le_trans h.size e))
    · rcases Nat.lt_or_ge cb w.heap.size with l | l
      · exact .inr (.inr (h.img cb l e))
      · exact .inr (.inl l)
  len := k.len
  os := k.os.trans h.os
  output := k.output.trans h.output
  tape := k.tape.trans h.tape

theorem VR.mono {FM FM' : FMem} (hf : ∀ cb o v, FM cb o = some v → FM' cb o = some v) {β : BMap} {a : AV} {v : Value} (h : VR FM β a v) :
    ∀ {β' : BMap}, (∀ b g lo, β b g = some lo → β' b g = some lo) → VR FM' β' a v := by
  induction h with
  | top => intro β' hb; exact .top
  | bool => intro β' hb; exact .bool
  | pr h => intro β' hb; exact .pr h
  | anyb h1 h2 => intro β' hb; exact .anyb h1 h2
  | int => intro β' hb; exact .int
  | str h => intro β' hb; exact .str h
  | nilp => intro β' hb; exact .nilp
  | ptr h hs => intro β' hb; exact .ptr (hb _ _ _ h) hs
  | fptr cv hm hv ih => intro β' hb; exact .fptr cv (fun j hj => hf _ _ _ (hm j hj)) (fun j hj => ih j hj (fun _ _ _ h => h))
  | nils => intro β' hb; exact .nils
  | e0 => intro β' hb; exact .e0
  | fi0 => intro β' hb; exact .fi0
  | fi hc hm => intro β' hb; exact .fi hc (fun i hi => hf _ _ _ (hm i hi))
  | fz0 => intro β' hb; exact .fz0
  | fz cv hz hc hl hm ho hv ih => intro β' hb; exact .fz cv hz hc hl (fun i j hi hj => hf _ _ _ (hm i j hi hj)) ho (fun i j hi hj => ih i j hi hj (fun _ _ _ h => h))
  | sl h hs hr hc hp => intro β' hb; exact .sl (hb _ _ _ h) hs hr hc hp
  | sl0 h hs => intro β' hb; exact .sl0 (hb _ _ _ h) hs
  | fn h1 h2 hv1 hv2 ih1 ih2 => intro β' hb; exact .fn h1 h2 (fun i hi => ih1 i hi hb) (fun i hi => ih2 i hi hb)
  | nilf => intro β' hb; exact .nilf
  | iface h ih => intro β' hb; exact .iface (ih hb)
  | nili => intro β' hb; exact .nili
  | mp h => intro β' hb; exact .mp (hb _ _ _ h)
  | agg h1 hv ih => intro β' hb; exact .agg h1 (fun i hi => ih i hi hb)
  | tup h1 hv ih => intro β' hb; exact .tup h1 (fun i hi => ih i hi hb)

theorem GK.at {FM : FMem} {w w' : World} (h : GK FM w) (t : Tab w') : GK FM w' := ⟨h.tab, h.whole, h.errs, t⟩
theorem GK.mono {FM FM' : FMem} {w : World} (h : GK FM w) (hf : ∀ cb o v, FM cb o = some v → FM' cb o = some v) : GK FM' w :=
  ⟨fun i hi => hf _ _ _ (h.tab i hi), fun g v e => by
    obtain ⟨cv, h1, h2⟩ := h.whole g v e
    exact ⟨cv, hf _ _ _ h1, VR.mono hf h2 fun _ _ _ h => h⟩, fun g hg => by
    obtain ⟨ev, h1, h2⟩ := h.errs g hg
    exact ⟨ev, hf _ _ _ h1, h2⟩, h.tabw⟩
theorem VRs.mono {FM FM' : FMem} {β β' : BMap} (hf : ∀ cb o v, FM cb o = some v → FM' cb o = some v) (hb : ∀ b g lo, β b g = some lo → β' b g = some lo) {asx : List AV} {vs : List Value}
    (h : VRs FM β asx vs) : VRs FM' β' asx vs := ⟨h.1, fun i hi => (h.2 i hi).mono hf hb⟩

/-! ### Environments -/
def RelT (FM : FMem) (β : BMap) (T : Env) (a : Act) : Prop := ∀ d v, getM T d = some v → VR FM β v (a.tmps.getD d undef)

theorem RelT.mono {FM FM' : FMem} {β β' : BMap} (hf : ∀ cb o v, FM cb o = some v → FM' cb o = some v) (hb : ∀ b g lo, β b g = some lo → β' b g = some lo) {T : Env} {a : Act}
    (h : RelT FM β T a) : RelT FM' β' T a := fun d v e => (h d v e).mono hf hb

theorem getM_putM {d : Nat} {v : AV} : ∀ {T T' : Env}, putM d v T = some T' → ∀ e, getM T' e = if d = e then some v else getM T e
  | [], T', h, e => by
    simp only [putM, Option.some.injEq] at h
    subst h
    simp only [getM]
    by_cases hd : d = e
    · subst hd; simp
    · have : Nat.beq d e = false := by
        cases hb : Nat.beq d e with
        | false => rfl
        | true => exact absurd (Nat.eq_of_beq_eq_true hb) hd
      simp [this, hd]
  | (x, u) :: T, T', h, e => by
    simp only [putM] at h
    cases hb : Nat.beq x d with
    | true =>
      simp only [hb, Option.some.injEq] at h
      subst h
      have hx := Nat.eq_of_beq_eq_true hb
      subst hx
      simp only [getM]
      by_cases hd : x = e
      · subst hd; simp
      · have : Nat.beq x e = false := by
          cases hb' : Nat.beq x e with
          | false => rfl
          | true => exact absurd (Nat.eq_of_beq_eq_true hb') hd
        simp [this, hd]
    | false =>
      simp only [hb] at h
      cases hp : putM d v T with
      | none => simp [hp] at h
      | some T1 =>
        simp only [hp, Option.some.injEq] at h
        subst h
        simp only [getM]
        cases hb' : Nat.beq x e with
        | true =>
          have hx := Nat.eq_of_beq_eq_true hb'
          subst hx
          have : d ≠ x := by rintro rfl; simp at hb
          simp [this]
        | false => simp only; exact getM_putM hp e

theorem RelT.put {FM : FMem} {β : BMap} {T T' : Env} {a : Act} {d : Nat} {v : AV} {cv : Value} (h : RelT FM β T a) (hp : putM d v T = some T') (hv : VR FM β v cv)
    (hd : d < a.tmps.size) : RelT FM β T' (a.put (some d) cv) := by
  intro e u hu
  rw [getM_putM hp e] at hu
  simp only [Act.put]
  by_cases hde : d = e
  · subst hde
    simp only [if_true, Option.some.injEq] at hu
    subst hu
    simpa [Array.getD, hd] using hv
  · rw [if_neg hde] at hu
    have := h e u hu
    have e1 : (a.tmps.setIfInBounds d cv).getD e undef = a.tmps.getD e undef := by
      simp [Array.getD_eq_getD_getElem?, hde]
    rw [e1]; exact this

theorem keepM_get {T : Env} : ∀ {ds : List Nat} {T' : Env}, keepM T ds = some T' → ∀ d v, getM T' d = some v → v = .top ∨ getM T d = some v
  | [], T', h, d, v, hv => by
    simp only [keepM, Option.some.injEq] at h; subst h; simp only [getM, Option.some.injEq] at hv; exact .inl hv.symm
  | x :: ds, T', h, d, v, hv => by
    simp only [keepM] at h
    cases hx : getM T x with
    | none => simp [hx] at h
    | some u =>
      cases hk : keepM T ds with
      | none => simp [hx, hk] at h
      | some T1 =>
        simp only [hx, hk, Option.some.injEq] at h
        subst h
        simp only [getM] at hv
        cases hb : Nat.beq x d with
        | true =>
          simp only [hb, Option.some.injEq] at hv
          have := Nat.eq_of_beq_eq_true hb
          subst this; subst hv; exact .inr hx
        | false => simp only [hb] at hv; exact keepM_get hk d v hv

theorem RelT.keep {FM : FMem} {β : BMap} {T T' : Env} {a : Act} {ds : List Nat} (h : RelT FM β T a) (hk : keepM T ds = some T') : RelT FM β T' a := by
  intro d v hv
  rcases keepM_get hk d v hv with rfl | hv
  · exact .top
  · exact h d v hv

theorem ofVal_ok {FM : FMem} {β : BMap} {v : Value} {a : AV} (h : ofVal v = some a) : VR FM β a v := by
  unfold ofVal at h
  split at h <;> simp only [Option.some.injEq, reduceCtorEq] at h <;> subst h
  · exact .int
  · exact .bool
  · exact .nilp
  · exact .nils
  · exact .str rfl
  · exact .nilf
  · exact .nili

theorem ev_ok {FM : FMem} {β : BMap} {T : Env} {a : Act} {w : World} {x : Operand} {v : AV} (hg : GK FM w) (h : RelT FM β T a) (he : ev T x = some v) : VR FM β v (a.eval x) := by
  cases x with
  | tmp t => exact h t v he
  | const c => exact ofVal_ok he
  | global g =>
    simp only [ev] at he
    cases hv : gval g with
    | none => simp [hv] at he
    | some v1 =>
      simp only [hv, Option.some.injEq] at he
      subst he
      obtain ⟨cv, h1, h2⟩ := hg.whole g v1 hv
      exact VR.fptr (row := [v1]) (c := 0) (cb := g) (o := 0) (fun _ => cv) (fun j hj => by
        have : j = 0 := by simpa using hj
        subst this
        exact h1) (fun j hj => by
        have : j = 0 := by simpa using hj
        subst this
        exact h2)
  | func f =>
    simp only [ev, Option.some.injEq] at he
    subst he
    exact .fn rfl rfl (fun i hi => by simp at hi) (fun i hi => by simp at hi)

theorem evs_ok {FM : FMem} {β : BMap} {T : Env} {a : Act} {w : World} (hg : GK FM w) (h : RelT FM β T a) : ∀ {xs : List Operand} {vs : List AV}, evs T xs = some vs → VRs FM β vs (xs.map a.eval)
  | [], vs, he => by simp only [evs, Option.some.injEq] at he; subst he; exact ⟨rfl, fun i hi => by simp at hi⟩
  | x :: xs, vs, he => by
    simp only [evs] at he
    cases hx : ev T x with
    | none => simp [hx] at he
    | some v =>
      cases hy : evs T xs with
      | none => simp [hx, hy] at he
      | some us =>
        simp only [hx, hy, Option.some.injEq] at he
        subst he
        obtain ⟨h1, h2⟩ := evs_ok hg h hy
        refine ⟨by simp [h1], fun i hi => ?_⟩
        cases i with
        | zero => simpa using ev_ok hg h hx
        | succ i => simpa using h2 i (by simpa using hi)

end Pf
/- Blocks at hand: a new one, one that is written, one that grows. -/
namespace Pf
open Go

theorem nthM_eq {α : Type} : ∀ (l : List α) (i : Nat), nthM l i = l[i]?
  | [], i => by simp [nthM]
  | a :: l, 0 => by simp [nthM]
  | a :: l, i + 1 => by simp [nthM, nthM_eq l i]
theorem setM_eq {α : Type} (v : α) : ∀ (l : List α) (i : Nat), setM v l i = if i < l.length then some (l.set i v) else none
  | [], i => by simp [setM]
  | a :: l, 0 => by simp [setM]
  | a :: l, i + 1 => by
    simp only [setM, setM_eq v l i, List.length_cons, Nat.add_lt_add_iff_right, List.set_cons_succ]
    by_cases h : i < l.length <;> simp [h]
theorem lenM_eq {α : Type} : ∀ (l : List α), lenM l = l.length
  | [] => rfl
  | a :: l => by simp [lenM, lenM_eq l]
theorem appM_eq {α : Type} (m : List α) : ∀ (l : List α), appM l m = some (l ++ m)
  | [] => rfl
  | a :: l => by simp [appM, appM_eq m l]
theorem layM_eq {α : Type} : ∀ (vs l : List α) (i : Nat) {l' : List α}, layM l vs i = some l' → (0 < vs.length → i + vs.length ≤ l.length) ∧ l'.length = l.length ∧
    ∀ j, l'[j]? = if i ≤ j ∧ j < i + vs.length then vs[j - i]? else l[j]?
  | [], l, i, l', h => by
    simp only [layM, Option.some.injEq] at h
    subst h
    exact ⟨by simp, rfl, fun j => by rw [if_neg (by simp)]⟩
  | v :: vs, l, i, l', h => by
    simp only [layM, setM_eq] at h
    by_cases hi : i < l.length
    · simp only [hi, if_true] at h
      obtain ⟨h1, h2, h3⟩ := layM_eq vs (l.set i v) (i + 1) h
      simp only [List.length_set] at h1 h2
      refine ⟨fun _ => ?_, h2, fun j => ?_⟩
      · simp only [List.length_cons]
        by_cases h0 : 0 < vs.length
        · have := h1 h0; omega
        · omega
      rw [h3 j]
      by_cases hj : i + 1 ≤ j ∧ j < i + 1 + vs.length
      · rw [if_pos hj, if_pos (by simp; omega)]
        obtain ⟨k, rfl⟩ : ∃ k, j = i + 1 + k := ⟨j - (i + 1), by omega⟩
        rw [show i + 1 + k - (i + 1) = k from by omega, show i + 1 + k - i = k + 1 from by omega]
        simp
      · rw [if_neg hj]
        by_cases hj' : i ≤ j ∧ j < i + (v :: vs).length
        · have : j = i := by simp at hj'; omega
          subst this
          rw [if_pos hj']
          simp [hi]
        · rw [if_neg hj']
          have : i ≠ j := by rintro rfl; exact hj' (by simp)
          simp [List.getElem?_set, this]
    · simp [hi] at h
theorem cutM_eq {α : Type} : ∀ (n : Nat) (l : List α) (i : Nat) {l' : List α}, cutM l i n = some l' → l'.length = n ∧ (∀ j, j < n → i + j < l.length) ∧ ∀ j, j < n → l'[j]? = l[i + j]?
  | 0, l, i, l', h => by simp only [cutM, Option.some.injEq] at h; subst h; exact ⟨rfl, by simp, by simp⟩
  | n + 1, l, i, l', h => by
    simp only [cutM, nthM_eq] at h
    cases hi : l[i]? with
    | none => simp [hi] at h
    | some v =>
      cases hc : cutM l (i + 1) n with
      | none => simp [hi, hc] at h
      | some vs =>
        simp only [hi, hc, Option.some.injEq] at h
        subst h
        obtain ⟨h1, h2, h3⟩ := cutM_eq n l (i + 1) hc
        have hl : i < l.length := (List.getElem?_eq_some_iff.1 hi).1
        refine ⟨by simp [h1], fun j hj => ?_, fun j hj => ?_⟩
        · cases j with
          | zero => simpa using hl
          | succ j => have := h2 j (by omega); omega
        · cases j with
          | zero => simp [hi]
          | succ j => have := h3 j (by omega); simp only [List.getElem?_cons_succ]; rw [this]; congr 1; omega

theorem cell_of_heap {w : World} {cb o : Nat} {c : Array Value} {e : TypeId} {fr : Nat × Nat} (h : w.heap[cb]? = some (.cells c e fr)) : w.cell? ⟨cb, o, none⟩ = c[o]? := by
  simp [World.cell?, h]

theorem addr_add (cb o i : Nat) : (⟨cb, o, none⟩ : Addr).add i = ⟨cb, o + i, none⟩ := by
  unfold Addr.add; split <;> simp_all

theorem run_storeCells_free (P : Program) (g o : Nat) (t : TypeId) (fz : Nat × Nat) : ∀ (vs : List Value) (i : Nat) (cur : Array Value) (w : World), w.heap[g]? = some (.cells cur t fz) →
    (∀ x, x < cur.size → ¬(fz.1 ≤ x ∧ x < fz.2)) → o + i + vs.length ≤ cur.size → (∀ v ∈ vs, v.oneCell' = true) →
    (storeCells ⟨g, o, none⟩ vs i).run P w = .ok () (w.setRow g (cur.toList.take (o + i) ++ vs ++ cur.toList.drop (o + i + vs.length)).toArray)
  | [], i, cur, w, hg, _, _, _ => by
    simp only [storeCells, List.append_nil, List.length_nil, Nat.add_zero, List.take_append_drop, Array.toArray_toList]
    rw [setRow_self w g cur t fz hg]
    rfl
  | v :: rest, i, cur, w, hg, hfz, hl, h1 => by
    have hi : o + i < cur.size := by simp at hl; omega
    have hcell : w.cell? ⟨g, o + i, none⟩ = some cur[o + i] := by simp [World.cell?, hg, hi]
    have hfro : w.frozen? ⟨g, o + i, none⟩ = false := by
      obtain ⟨lo, hi'⟩ := fz
      have := hfz (o + i) hi
      simp only [World.frozen?, hg, Bool.and_eq_false_iff, decide_eq_false_iff_not]
      simp only at this
      omega
    have hst : (store ((⟨g, o, none⟩ : Addr).add i) v).run P w = .ok () (w.setRow g (cur.setIfInBounds (o + i) v)) := by
      rw [addr_add, run_store P w _ v _ (h1 v (by simp)), hcell]
      simp [hfro, setCell_eq_setRow w g (o + i) cur t fz v hg]
    have ih := run_storeCells_free P g o t fz rest (i + 1) (cur.setIfInBounds (o + i) v) (w.setRow g (cur.setIfInBounds (o + i) v)) (setRow_heap w g cur _ t _ hg)
      (fun x hx => hfz x (by simpa using hx)) (by simp at hl ⊢; omega) (fun x hx => h1 x (by simp [hx]))
    simp only [storeCells, Sem.run_bind, hst, Result.andThen_ok, ih, setRow_setRow]
    congr 3
    have e := list_seg_step cur.toList (o + i) v rest (by simp at hl ⊢; omega)
    simpa [Array.toList_setIfInBounds, Nat.add_assoc] using e

/-! ### One block more, or one block otherwise -/
def updB (β : BMap) (b g : Nat) (lo : Option Loc) : BMap := fun b' g' => if b' = b ∧ g' = g then some lo else β b' g'

theorem MemOk.keep {FM : FMem} {β β' : BMap} {w w' : World} {L : Loc} {n : Nat} {row : Nat → List AV} (h : MemOk FM β w L n row) (hw : w'.heap[L.cb]? = w.heap[L.cb]?)
    (hb : ∀ b g lo, β b g = some lo → β' b g = some lo) : MemOk FM β' w' L n row where
  sz := h.sz
  sh := h.sh
  fit := h.fit
  cells := by
    obtain ⟨c, e, fr, h1, h2, h3, ho, h4⟩ := h.cells
    refine ⟨c, e, fr, hw.trans h1, h2, h3, ho, fun r hr hn => ⟨(h4 r hr hn).1, fun j hj => ?_⟩⟩
    obtain ⟨cv, hc, hv⟩ := (h4 r hr hn).2 j hj
    exact ⟨cv, hc, hv.mono (fun _ _ _ h => h) hb⟩
  free := h.free

theorem MemOk.lt {FM : FMem} {β : BMap} {w : World} {L : Loc} {n : Nat} {row : Nat → List AV} (h : MemOk FM β w L n row) : L.cb < w.heap.size := by
  obtain ⟨c, e, fr, h1, _⟩ := h.cells
  exact (Array.getElem?_eq_some_iff.1 h1).1

theorem cell_lt {w : World} {cb o : Nat} {v : Value} (h : w.cell? ⟨cb, o, none⟩ = some v) : cb < w.heap.size := by
  simp only [World.cell?] at h
  split at h
  · rename_i e; exact (Array.getElem?_eq_some_iff.1 e).1
  · cases h

theorem cell_congr {w w' : World} {cb o : Nat} (h : w'.heap[cb]? = w.heap[cb]?) : w'.cell? ⟨cb, o, none⟩ = w.cell? ⟨cb, o, none⟩ := by
  simp [World.cell?, h]

/-- What the world is allowed to do when block b comes to be, or is turned: 'lo0' is where it lay. -/
structure Turn (w w' : World) (lo0 lo1 : Option Loc) : Prop where
  size : w.heap.size ≤ w'.heap.size
  frame : ∀ cb, cb < w.heap.size → (∀ L, lo0 = some L → L.cb ≠ cb) → w'.heap[cb]? = w.heap[cb]?
  place : ∀ L, lo1 = some L → w.heap.size ≤ L.cb ∨ ∃ L0, lo0 = some L0 ∧ L0.cb = L.cb
  os : w'.os = w.os
  output : w'.output = w.output
  tape : w'.tape = w.tape

/-- A block that is there is turned: a new generation, or the same one at the same place. -/
theorem RelH.turn {FM : FMem} {β : BMap} {H : AHeap} {w w' : World} (hh : RelH FM β H w) {b g0 n0 g1 n1 : Nat} {blk0 blk1 : ABlk} {row0 row1 : Nat → List AV} {lo0 lo1 : Option Loc}
    (hb : H[b]? = some blk0) (hv0 : blk0.view = some (g0, n0, row0)) (hl0 : β b g0 = some lo0) (hv1 : blk1.view = some (g1, n1, row1))
    (hg : (g1 = g0 ∧ lo1 = lo0) ∨ g0 < g1) (tn : Turn w w' lo0 lo1)
    (hm : MemAt FM (updB β b g1 lo1) w' n1 row1 lo1) (hwd : ∀ L, lo1 = some L → L.sz = blk1.width) :
    RelH FM (updB β b g1 lo1) (H.set b blk1) w' ∧ Ext FM β H w FM (updB β b g1 lo1) (H.set b blk1) w' := by
  have hlen : b < H.length := (List.getElem?_eq_some_iff.1 hb).1
  have hsub : ∀ b' g' lo, β b' g' = some lo → updB β b g1 lo1 b' g' = some lo := by
    intro b' g' lo h
    unfold updB
    split
    · rename_i e
      obtain ⟨rfl, rfl⟩ := e
      rcases hg with ⟨rfl, rfl⟩ | hg
      · rw [hl0] at h; exact h
      · have := (hh.dom _ _ _ h).2 blk0 g0 n0 row0 hb hv0
        omega
    · exact h
  have hother : ∀ b' g', b' ≠ b → updB β b g1 lo1 b' g' = β b' g' := by
    intro b' g' h; unfold updB; rw [if_neg (fun e => h e.1)]
  have hself : updB β b g1 lo1 b g1 = some lo1 := by unfold updB; simp
  have hnot : ∀ b' blk g n row L, b' ≠ b → H[b']? = some blk → blk.view = some (g, n, row) → β b' g = some (some L) → ∀ L0, lo0 = some L0 → L0.cb ≠ L.cb := by
    intro b' blk g n row L hne h1 h2 h3 L0 e0 e
    subst e0
    exact hne (hh.inj b' b blk blk0 g g0 n n0 row row0 L L0 h1 h2 h3 hb hv0 hl0 e.symm)
  have hmem : ∀ b' blk g n row L, H[b']? = some blk → blk.view = some (g, n, row) → β b' g = some (some L) → MemOk FM β w L n row := by
    intro b' blk g n row L h1 h2 h3
    obtain ⟨lo, e, h⟩ := hh.mem b' blk g n row h1 h2
    rw [h3] at e
    cases e
    exact h
  have hmp : MapsOk (updB β b g1 lo1) (H.set b blk1) w' := hh.mp.keep hsub (fun b' vb sh es h => by
      by_cases hbb : b' = b
      · subst hbb
        rw [List.getElem?_set_self hlen] at h
        cases h
        cases hv1
      · rwa [List.getElem?_set_ne (fun e => hbb e.symm)] at h) fun cb es cl h => by
      rw [tn.frame cb (Array.getElem?_eq_some_iff.1 h).1 fun L e hcb => ?_]
      · exact h
      · subst e
        subst hcb
        obtain ⟨c, ee, fr, c1, _⟩ := (hmem b _ _ _ _ L hb hv0 hl0).cells
        rw [h] at c1; cases c1
  have htb : Tab w' := hh.gk.tabw.keep fun hx hlt => tn.frame _ hlt fun L e hcb => by
    subst e
    have := (hmem b _ _ _ _ L hb hv0 hl0).free 0
    rw [hcb] at this
    exact hh.gk.known hx this
  refine ⟨⟨?_, ?_, ?_, ?_, ?_, hh.gk.at htb, hmp⟩, ⟨fun _ _ _ h => h, hsub, tn.size, ?_, ?_, fun _ _ _ h => .inl h, by simp, tn.os, tn.output, tn.tape⟩⟩
  · intro b' blk g n row h1 h2
    by_cases hbb : b' = b
    · subst hbb
      rw [List.getElem?_set_self hlen] at h1
      cases h1
      rw [hv1] at h2
      cases h2
      exact ⟨lo1, hself, hm⟩
    · rw [List.getElem?_set_ne (fun e => hbb e.symm)] at h1
      obtain ⟨lo, e, h⟩ := hh.mem b' blk g n row h1 h2
      refine ⟨lo, hsub _ _ _ e, ?_⟩
      cases lo with
      | none => exact h
      | some L => exact MemOk.keep h (tn.frame _ h.lt (hnot b' blk g n row L hbb h1 h2 e)) hsub
  · intro b1 b2 blk1' blk2' g1' g2' n1' n2' row1' row2' L1 L2 h1 h2 h3 h4 h5 h6 e
    by_cases hb1 : b1 = b <;> by_cases hb2 : b2 = b
    · rw [hb1, hb2]
    · subst hb1
      rw [List.getElem?_set_self hlen] at h1
      cases h1
      rw [hv1] at h2
      cases h2
      rw [hself] at h3
      cases h3
      rw [List.getElem?_set_ne (fun e => hb2 e.symm)] at h4
      rw [hother _ _ hb2] at h6
      rcases tn.place L1 rfl with hp | ⟨L0, e0, hp⟩
      · have := (hmem b2 _ _ _ _ _ h4 h5 h6).lt
        omega
      · exact absurd (hp.trans e) (hnot b2 _ _ _ _ _ hb2 h4 h5 h6 L0 e0)
    · subst hb2
      rw [List.getElem?_set_self hlen] at h4
      cases h4
      rw [hv1] at h5
      cases h5
      rw [hself] at h6
      cases h6
      rw [List.getElem?_set_ne (fun e => hb1 e.symm)] at h1
      rw [hother _ _ hb1] at h3
      rcases tn.place L2 rfl with hp | ⟨L0, e0, hp⟩
      · have := (hmem b1 _ _ _ _ _ h1 h2 h3).lt
        omega
      · exact absurd (hp.trans e.symm) (hnot b1 _ _ _ _ _ hb1 h1 h2 h3 L0 e0)
    · rw [List.getElem?_set_ne (fun e => hb1 e.symm)] at h1
      rw [hother _ _ hb1] at h3
      rw [List.getElem?_set_ne (fun e => hb2 e.symm)] at h4
      rw [hother _ _ hb2] at h6
      exact hh.inj b1 b2 _ _ _ _ _ _ _ _ L1 L2 h1 h2 h3 h4 h5 h6 e
  · intro b' blk g n row L h1 h2 h3
    by_cases hbb : b' = b
    · subst hbb
      rw [List.getElem?_set_self hlen] at h1
      cases h1
      rw [hv1] at h2
      cases h2
      rw [hself] at h3
      exact hwd L (Option.some.inj h3)
    · rw [List.getElem?_set_ne (fun e => hbb e.symm)] at h1
      rw [hother _ _ hbb] at h3
      exact hh.wid b' blk g n row L h1 h2 h3
  · intro cb o v h
    have hc := hh.fm cb o v h
    rw [cell_congr (tn.frame cb (cell_lt hc) ?_)]
    · exact hc
    · intro L e hcb
      subst e
      subst hcb
      have := (hmem b _ _ _ _ L hb hv0 hl0).free o
      rw [this] at h
      cases h
  · intro b' g lo h
    simp only [List.length_set]
    by_cases hbb : b' = b
    · subst hbb
      refine ⟨hlen, fun blk g' n row h1 h2 => ?_⟩
      rw [List.getElem?_set_self hlen] at h1
      cases h1
      rw [hv1] at h2
      cases h2
      unfold updB at h
      split at h
      · rename_i e; omega
      · have := (hh.dom _ _ _ h).2 blk0 g0 n0 row0 hb hv0
        rcases hg with ⟨rfl, _⟩ | hg <;> omega
    · rw [hother _ _ hbb] at h
      obtain ⟨h1, h2⟩ := hh.dom _ _ _ h
      refine ⟨h1, fun blk g' n row h3 h4 => ?_⟩
      rw [List.getElem?_set_ne (fun e => hbb e.symm)] at h3
      exact h2 blk g' n row h3 h4
  · rintro cb hcb ⟨b', blk, g, n, row, L, h1, h2, h3, rfl⟩
    by_cases hbb : b' = b
    · subst hbb
      rw [List.getElem?_set_self hlen] at h1
      cases h1
      rw [ABlk.vw_of hv1] at h2
      cases h2
      rw [hself] at h3
      cases h3
      rcases tn.place L rfl with hp | ⟨L0, e0, hp⟩
      · omega
      · subst e0
        exact ⟨b', blk0, g0, n0, row0, L0, hb, ABlk.vw_of hv0, hl0, hp⟩
    · rw [List.getElem?_set_ne (fun e => hbb e.symm)] at h1
      rw [hother _ _ hbb] at h3
      exact ⟨b', blk, g, n, row, L, h1, h2, h3, rfl⟩
  · intro cb hcb hi
    refine tn.frame cb hcb fun L e hL => hi ?_
    subst e
    exact ⟨b, blk0, g0, n0, row0, L, hb, ABlk.vw_of hv0, hl0, hL⟩

/-- A block comes to be, at the end. -/
theorem RelH.new {FM : FMem} {β : BMap} {H : AHeap} {w w' : World} (hh : RelH FM β H w) {g1 n1 : Nat} {blk1 : ABlk} {row1 : Nat → List AV} {lo1 : Option Loc}
    (hv1 : blk1.view = some (g1, n1, row1)) (tn : Turn w w' none lo1)
    (hm : MemAt FM (updB β H.length g1 lo1) w' n1 row1 lo1) (hwd : ∀ L, lo1 = some L → L.sz = blk1.width) :
    RelH FM (updB β H.length g1 lo1) (H ++ [blk1]) w' ∧ Ext FM β H w FM (updB β H.length g1 lo1) (H ++ [blk1]) w' := by
  have hsub : ∀ b' g' lo, β b' g' = some lo → updB β H.length g1 lo1 b' g' = some lo := by
    intro b' g' lo h
    unfold updB
    rw [if_neg]
    · exact h
    · rintro ⟨rfl, rfl⟩
      exact absurd (hh.dom _ _ _ h).1 (Nat.lt_irrefl _)
  have hother : ∀ b' g', b' ≠ H.length → updB β H.length g1 lo1 b' g' = β b' g' := by
    intro b' g' h; unfold updB; rw [if_neg (fun e => h e.1)]
  have hself : updB β H.length g1 lo1 H.length g1 = some lo1 := by unfold updB; simp
  have hget : ∀ b' blk, (H ++ [blk1])[b']? = some blk → (b' = H.length ∧ blk = blk1) ∨ (b' ≠ H.length ∧ H[b']? = some blk) := by
    intro b' blk h
    rcases Nat.lt_trichotomy b' H.length with hlt | rfl | hgt
    · rw [List.getElem?_append_left hlt] at h; exact .inr ⟨by omega, h⟩
    · simp at h; exact .inl ⟨rfl, h.symm⟩
    · rw [List.getElem?_eq_none (by simp; omega)] at h; cases h
  have hmem : ∀ b' blk g n row L, H[b']? = some blk → blk.view = some (g, n, row) → β b' g = some (some L) → MemOk FM β w L n row := by
    intro b' blk g n row L h1 h2 h3
    obtain ⟨lo, e, h⟩ := hh.mem b' blk g n row h1 h2
    rw [h3] at e
    cases e
    exact h
  have hfr : ∀ cb, cb < w.heap.size → w'.heap[cb]? = w.heap[cb]? := fun cb h => tn.frame cb h (fun L e => by cases e)
  have hmp : MapsOk (updB β H.length g1 lo1) (H ++ [blk1]) w' := hh.mp.keep hsub (fun b' vb sh es h => by
      rcases hget _ _ h with ⟨_, rfl⟩ | ⟨_, h⟩
      · cases hv1
      · exact h) fun cb es cl h => by rw [hfr cb (Array.getElem?_eq_some_iff.1 h).1]; exact h
  refine ⟨⟨?_, ?_, ?_, ?_, ?_, hh.gk.at (hh.gk.tabw.keep fun _ hlt => hfr _ hlt), hmp⟩, ⟨fun _ _ _ h => h, hsub, tn.size, ?_, fun cb h _ => hfr cb h, fun _ _ _ h => .inl h, by simp, tn.os, tn.output, tn.tape⟩⟩
  · intro b' blk g n row h1 h2
    rcases hget _ _ h1 with ⟨rfl, rfl⟩ | ⟨hne, h1⟩
    · rw [hv1] at h2; cases h2; exact ⟨lo1, hself, hm⟩
    · obtain ⟨lo, e, h⟩ := hh.mem b' blk g n row h1 h2
      refine ⟨lo, hsub _ _ _ e, ?_⟩
      cases lo with
      | none => exact h
      | some L => exact MemOk.keep h (hfr _ h.lt) hsub
  · intro b1 b2 blk1' blk2' g1' g2' n1' n2' row1' row2' L1 L2 h1 h2 h3 h4 h5 h6 e
    rcases hget _ _ h1 with ⟨rfl, rfl⟩ | ⟨hne1, k1⟩ <;> rcases hget _ _ h4 with ⟨rfl, rfl⟩ | ⟨hne2, k4⟩
    · rfl
    · rw [hv1] at h2; cases h2
      rw [hself] at h3; cases h3
      rw [hother _ _ hne2] at h6
      have := (hmem _ _ _ _ _ _ k4 h5 h6).lt
      rcases tn.place L1 rfl with hp | ⟨L0, e0, _⟩
      · omega
      · cases e0
    · rw [hv1] at h5; cases h5
      rw [hself] at h6; cases h6
      rw [hother _ _ hne1] at h3
      have := (hmem _ _ _ _ _ _ k1 h2 h3).lt
      rcases tn.place L2 rfl with hp | ⟨L0, e0, _⟩
      · omega
      · cases e0
    · rw [hother _ _ hne1] at h3
      rw [hother _ _ hne2] at h6
      exact hh.inj b1 b2 _ _ _ _ _ _ _ _ L1 L2 k1 h2 h3 k4 h5 h6 e
  · intro b' blk g n row L h1 h2 h3
    rcases hget _ _ h1 with ⟨rfl, rfl⟩ | ⟨hne, k1⟩
    · rw [hv1] at h2; cases h2
      rw [hself] at h3
      exact hwd L (Option.some.inj h3)
    · rw [hother _ _ hne] at h3
      exact hh.wid b' blk g n row L k1 h2 h3
  · intro cb o v h
    have hc := hh.fm cb o v h
    rw [cell_congr (hfr cb (cell_lt hc))]
    exact hc
  · intro b' g lo h
    simp only [List.length_append, List.length_cons, List.length_nil]
    by_cases hbb : b' = H.length
    · subst hbb
      refine ⟨by omega, fun blk g' n row h1 h2 => ?_⟩
      rcases hget _ _ h1 with ⟨_, rfl⟩ | ⟨hne, _⟩
      · rw [hv1] at h2; cases h2
        unfold updB at h
        split at h
        · rename_i e; omega
        · exact absurd (hh.dom _ _ _ h).1 (Nat.lt_irrefl _)
      · exact absurd rfl hne
    · rw [hother _ _ hbb] at h
      obtain ⟨h1, h2⟩ := hh.dom _ _ _ h
      refine ⟨by omega, fun blk g' n row h3 h4 => ?_⟩
      rcases hget _ _ h3 with ⟨rfl, _⟩ | ⟨_, h3⟩
      · exact absurd rfl hbb
      · exact h2 blk g' n row h3 h4
  · rintro cb hcb ⟨b', blk, g, n, row, L, h1, h2, h3, rfl⟩
    rcases hget _ _ h1 with ⟨rfl, rfl⟩ | ⟨hne, h1⟩
    · rw [ABlk.vw_of hv1] at h2; cases h2
      rw [hself] at h3; cases h3
      rcases tn.place L rfl with hp | ⟨L0, e0, _⟩
      · omega
      · cases e0
    · rw [hother _ _ hne] at h3
      exact ⟨b', blk, g, n, row, L, h1, h2, h3, rfl⟩

end Pf
/- Each operation that calls no Go function does what is said of it. -/
namespace Pf
open Go

/-! ### Tables of types that fit the program -/
def TK.fits : TK → TypeDesc → Bool
  | .slice e, .slice e' => e == e'
  | .array n e, .array n' e' => n == n' && e == e'
  | .struct fs, .struct F => F.toList.map (fun f => (f.offset, f.type)) == fs
  | .pointer e, .pointer e' => e == e'
  | .string, .string => true
  | .int k, .int k' => k == k'
  | .bool, .bool => true
  | .func, .func _ _ _ => true
  | .iface, .interface _ => true
  | .map k e, .map k' e' => k == k' && e == e'
  | _, _ => false
def zeroFits : AV → Value → Bool
  | .int k n, .int k' n' => k == k' && n == n'
  | .bool b, .bool b' => b == b'
  | .str [], .string s => s.data.toList.isEmpty
  | .nilp, .pointer none => true
  | .nils, .slice none 0 0 => true
  | .nilf, .nilFunc => true
  | .nili, .nilIface => true
  | .top, .map none => true
  | _, _ => false
def zerosFit : List AV → List Value → Bool
  | [], [] => true
  | a :: asx, v :: vs => zeroFits a v && zerosFit asx vs
  | _, _ => false
def offsOk : Nat → List Field → Bool
  | _, [] => true
  | k, f :: fs => f.offset == k && f.name != "_" && offsOk (k + 1) fs
/-- A struct whose values are compared cell by cell. -/
def eqPlain (P : Program) (t : TypeId) : Bool :=
  match P.underlying t with
  | some (.struct F) => !P.stoodInHeld t && offsOk 0 F.toList && !P.eqGuardType P.depth t
  | _ => false
/-- Bools and whole numbers begin as false and nought. -/
def kindZero : TK → Value → Bool
  | .bool, .bool b => !b
  | .bool, _ => false
  | .int k, .int k' n => k == k' && n == 0
  | .int _, _ => false
  | _, _ => true
/-- Does this row of the table fit the program's type? -/
def TI.fits (P : Program) (t : TypeId) (i : TI) : Bool :=
  match P.info? t, P.underlying t with
  | some info, some d => info.size == i.size && info.bytes == i.bytes && i.kind.fits d &&
    (match info.zero with | some z => zerosFit i.zero z.cells.toList && z.cells.size == i.size && (!i.eqb || eqPlain P t) && kindZero i.kind z | none => false)
  | _, _ => false
def TTok (P : Program) (TT : TypeId → Option TI) : Prop := ∀ t i, TT t = some i → i.fits P t = true

structure TIok (P : Program) (t : TypeId) (i : TI) (info : TypeInfo) (d : TypeDesc) (z : Value) : Prop where
  inf : P.info? t = some info
  des : P.underlying t = some d
  siz : info.size = i.size
  byt : info.bytes = i.bytes
  kin : i.kind.fits d = true
  zer : info.zero = some z
  zeros : zerosFit i.zero z.cells.toList = true
  zsize : z.cells.size = i.size
  eqp : i.eqb = true → eqPlain P t = true
  kz : kindZero i.kind z = true

theorem TI.fits_iff {P : Program} {t : TypeId} {i : TI} (h : i.fits P t = true) : ∃ info d z, TIok P t i info d z := by
  unfold TI.fits at h
  split at h
  · rename_i info d h1 h2
    simp only [Bool.and_eq_true, beq_iff_eq] at h
    obtain ⟨⟨⟨h3, h4⟩, h5⟩, h6⟩ := h
    cases hz : info.zero with
    | none => simp [hz] at h6
    | some z =>
      simp only [hz, Bool.and_eq_true, beq_iff_eq] at h6
      exact ⟨info, d, z, h1, h2, h3, h4, h5, hz, h6.1.1.1, h6.1.1.2, fun e => by simpa [e] using h6.1.2, h6.2⟩
  · cases h

theorem zeroFits_vr {FM : FMem} {β : BMap} {a : AV} {v : Value} (h : zeroFits a v = true) : VR FM β a v := by
  unfold zeroFits at h
  split at h <;> first | cases h | skip
  · simp only [Bool.and_eq_true, beq_iff_eq] at h; obtain ⟨rfl, rfl⟩ := h; exact .int
  · simp only [beq_iff_eq] at h; subst h; exact .bool
  · exact .str (by simpa using h)
  · exact .nilp
  · exact .nils
  · exact .nilf
  · exact .nili
  · exact .top
theorem zerosFit_vrs {FM : FMem} {β : BMap} : ∀ {asx : List AV} {vs : List Value}, zerosFit asx vs = true → VRs FM β asx vs
  | [], [], _ => ⟨rfl, fun i h => by simp at h⟩
  | [], _ :: _, h => by cases h
  | _ :: _, [], h => by cases h
  | a :: asx, v :: vs, h => by
    simp only [zerosFit, Bool.and_eq_true] at h
    obtain ⟨h1, h2⟩ := zerosFit_vrs (FM := FM) (β := β) h.2
    refine ⟨by simp [h1], fun i hi => ?_⟩
    cases i with
    | zero => simpa using zeroFits_vr h.1
    | succ i => simpa using h2 i (by simpa using hi)

section runs
variable {P : Program} {t : TypeId} {i : TI} {info : TypeInfo} {d : TypeDesc} {z : Value} (w : World)
theorem TIok.run_info (h : TIok P t i info d z) : (typeInfo t).run P w = .ok info w := by
  simp [typeInfo, h.inf]
theorem TIok.run_under (h : TIok P t i info d z) : (underlying t).run P w = .ok d w := by
  simp [underlying, h.des]
theorem TIok.run_size (h : TIok P t i info d z) : (Go.sizeOf t).run P w = .ok i.size w := by
  simp [Go.sizeOf, h.run_info w, h.siz]
theorem TIok.run_zero (h : TIok P t i info d z) : (zeroValue t).run P w = .ok z w := by
  simp [zeroValue, h.run_info w, h.zer]
theorem TIok.run_agg (h : TIok P t i info d z) : (isAgg t).run P w = .ok i.kind.agg w := by
  have hk := h.kin
  simp only [isAgg, Sem.run_bind, h.run_under w, Result.andThen_ok]
  cases hi : i.kind <;> cases d <;> simp_all [TK.fits, TK.agg]
end runs

/-! ### What an operation comes to -/
def St.good (s : St) (Q : AV → AHeap → Prop) : Prop :=
  match s with
  | .ok v H => Q v H
  | .okc C v H => C → Q v H
  | .bad => True
theorem St.good_mono {s : St} {Q Q' : AV → AHeap → Prop} (h : s.good Q) (hq : ∀ v H, Q v H → Q' v H) : s.good Q' := by
  cases s with
  | ok v H => exact hq _ _ h
  | okc C v H => exact fun c => hq _ _ (h c)
  | bad => trivial

/-- A value is had, and the blocks are so. -/
def SimV (r : Result Value) (FM : FMem) (β : BMap) (H : AHeap) (w : World) (v : AV) (H' : AHeap) : Prop :=
  ∃ cv w' FM' β', r = .ok cv w' ∧ VR FM' β' v cv ∧ RelH FM' β' H' w' ∧ Ext FM β H w FM' β' H' w'
theorem SimV.same {r : Result Value} {FM : FMem} {β : BMap} {H : AHeap} {w : World} {v : AV} {cv : Value} (hr : r = .ok cv w) (hv : VR FM β v cv) (hh : RelH FM β H w) :
    SimV r FM β H w v H := ⟨cv, w, FM, β, hr, hv, hh, .refl⟩

theorem toList_getD (xs : Array Value) (i : Nat) : xs.toList.getD i undef = xs.getD i undef := by
  simp [Array.getD_eq_getD_getElem?, List.getD_eq_getElem?_getD]

theorem VR.cells {FM : FMem} {β : BMap} {v : AV} {cv : Value} (h : VR FM β v cv) (ht : ∀ xs, v ≠ .top ∨ cv ≠ .agg xs) : VRs FM β v.cells cv.cells.toList := by
  have one : ∀ {a : AV} {x : Value}, VR FM β a x → VRs FM β [a] [x] := fun h => ⟨rfl, fun i hi => by
    have : i = 0 := by simpa using hi
    subst this; exact h⟩
  cases h with
  | agg h1 hv =>
    rename_i cs xs
    exact ⟨by simpa [AV.cells, Value.cells] using h1, fun i hi => by
      have e : (Value.agg xs).cells.toList.getD i undef = xs.getD i undef := toList_getD xs i
      rw [e]; exact hv i hi⟩
  | top =>
    cases cv with
    | agg xs => exact absurd rfl ((ht xs).resolve_left (by simp))
    | _ => exact one .top
  | bool => exact one .bool
  | pr h => exact one (.pr h)
  | anyb h1 h2 => exact one (.anyb h1 h2)
  | int => exact one .int
  | str h => exact one (.str h)
  | nilp => exact one .nilp
  | ptr h hs => exact one (.ptr h hs)
  | fptr cv hm hv => exact one (.fptr cv hm hv)
  | nils => exact one .nils
  | e0 => exact one .e0
  | fi0 => exact one .fi0
  | fi hc hm => exact one (.fi hc hm)
  | fz0 => exact one .fz0
  | fz cv hz hc hl hm ho hv => exact one (.fz cv hz hc hl hm ho hv)
  | sl h hs hr hc hp => exact one (.sl h hs hr hc hp)
  | sl0 h hs => exact one (.sl0 h hs)
  | fn h1 h2 hv1 hv2 => exact one (.fn h1 h2 hv1 hv2)
  | nilf => exact one .nilf
  | iface h => exact one (.iface h)
  | nili => exact one .nili
  | mp h => exact one (.mp h)
  | tup h1 hv => exact one (.tup h1 hv)

theorem VR.one {FM : FMem} {β : BMap} {v : AV} {cv : Value} (h : VR FM β v cv) (ho : v.one = true) : cv.oneCell' = true := by
  cases h <;> first | rfl | (cases ho; done)

/-- What lies at a place of the model's memory, as the table has the type. -/
theorem loadVar_row {P : Program} {t : TypeId} {i : TI} {info : TypeInfo} {d : TypeDesc} {z : Value} (ht : TIok P t i info d z) {FM : FMem} {β : BMap} {w : World} {cb o c : Nat}
    {row : List AV} (hm : ∀ j (h : j < row.length), ∃ cv, w.cell? ⟨cb, o + j, none⟩ = some cv ∧ VR FM β row[j] cv) {v : AV} (hr : rowAt i row c = some v) :
    ∃ cv, (loadVar t ⟨cb, o + c, none⟩).run P w = .ok cv w ∧ VR FM β v cv := by
  unfold rowAt at hr
  cases hk : i.kind.agg with
  | true =>
    simp only [hk] at hr
    cases hcut : cutM row c i.size with
    | none => simp [hcut] at hr
    | some cs =>
      simp only [hcut, Option.some.injEq] at hr
      subst hr
      obtain ⟨h1, h2, h3⟩ := cutM_eq _ _ _ hcut
      let f : Nat → Value := fun j => if h : c + j < row.length then (hm (c + j) h).choose else undef
      have hf : ∀ j, j < i.size → w.cell? ((⟨cb, o + c, none⟩ : Addr).add j) = some (f j) := by
        intro j hj
        rw [addr_add, Nat.add_assoc]
        simp only [f, dif_pos (h2 j hj)]
        exact (hm (c + j) (h2 j hj)).choose_spec.1
      refine ⟨.agg ((List.range i.size).map f).toArray, by simp [loadVar, ht.run_agg w, hk, ht.run_size w, run_loadCells w _ _ f hf], ?_⟩
      refine .agg (by simp [h1]) fun j hj => ?_
      have hj' : j < i.size := by omega
      have e1 : cs[j] = row[c + j]'(h2 j hj') := by
        have := h3 j hj'
        rw [List.getElem?_eq_getElem hj, List.getElem?_eq_getElem (h2 j hj')] at this
        exact Option.some.inj this
      rw [e1]
      have e2 : (((List.range i.size).map f).toArray).getD j undef = f j := by simp [Array.getD_eq_getD_getElem?, hj']
      rw [e2]
      simp only [f, dif_pos (h2 j hj')]
      exact (hm (c + j) (h2 j hj')).choose_spec.2
  | false =>
    simp only [hk] at hr
    split at hr
    · rename_i h1
      rw [nthM_eq] at hr
      obtain ⟨hl, rfl⟩ := List.getElem?_eq_some_iff.1 hr
      obtain ⟨cv, h2, h3⟩ := hm c hl
      exact ⟨cv, by simp [loadVar, ht.run_agg w, hk, h2], h3⟩
    · cases hr

theorem RelH.at {FM : FMem} {β : BMap} {H : AHeap} {w : World} (hh : RelH FM β H w) {b g n : Nat} {blk : ABlk} {row : Nat → List AV} {L : Loc} (hb : H[b]? = some blk)
    (hv : blk.view = some (g, n, row)) (hl : β b g = some (some L)) : MemOk FM β w L n row := by
  obtain ⟨lo, e, h⟩ := hh.mem b blk g n row hb hv
  rw [hl] at e
  cases e
  exact h

theorem MemOk.row {FM : FMem} {β : BMap} {w : World} {L : Loc} {n : Nat} {row : Nat → List AV} (h : MemOk FM β w L n row) {r : Nat} (hs : L.sh ≤ r) (hr : r < n) :
    ∀ j (hj : j < (row r).length), ∃ cv, w.cell? ⟨L.cb, (r - L.sh) * L.sz + j, none⟩ = some cv ∧ VR FM β (row r)[j] cv := by
  obtain ⟨c, e, fr, h1, h2, h3, _, h4⟩ := h.cells
  intro j hj
  obtain ⟨cv, h5, h6⟩ := (h4 r hs hr).2 j hj
  exact ⟨cv, (cell_of_heap h1).trans h5, h6⟩

theorem loadOp_good {P : Program} {t : TypeId} {i : TI} {info : TypeInfo} {d : TypeDesc} {z : Value} (ht : TIok P t i info d z) {FM : FMem} {β : BMap} {H : AHeap} {w : World}
    (hh : RelH FM β H w) {p : AV} {cp : Value} (hp : VR FM β p cp) : (loadOp i p H).good fun v H' => H' = H ∧ ∃ cv, (Instr.loadAt t cp).run P w = .ok cv w ∧ VR FM β v cv := by
  unfold loadOp
  cases hp with
  | fptr cvs hm hv =>
    rename_i row c cb o
    simp only
    cases hr : rowAt i row c with
    | none => trivial
    | some v =>
      obtain ⟨cv, h1, h2⟩ := loadVar_row (c := c) ht (FM := FM) (β := β) (w := w) (cb := cb) (o := o) (row := row)
        (fun j hj => ⟨cvs j, hh.fm _ _ _ (hm j hj), (hv j hj).mono (fun _ _ _ h => h) (fun _ _ _ h => by cases h)⟩) hr
      exact ⟨rfl, cv, by simpa [Instr.loadAt, Instr.sureAddr] using h1, h2⟩
  | ptr hl hs =>
    rename_i b g r c L
    simp only [nthM_eq]
    cases hb : H[b]? with
    | none => trivial
    | some blk =>
      cases blk with
      | dead => trivial
      | mp => trivial
      | lst g' rows =>
        simp only
        cases hg : Nat.beq g' g with
        | false => trivial
        | true =>
          obtain rfl := Nat.eq_of_beq_eq_true hg
          simp only
          cases hrow : rows[r]? with
          | none => trivial
          | some row =>
            simp only
            cases hr : rowAt i row c with
            | none => trivial
            | some v =>
              have hm := hh.at hb rfl hl
              obtain ⟨hlt, rfl⟩ := List.getElem?_eq_some_iff.1 hrow
              have hm' := hm.row hs hlt
              simp only [List.getD_eq_getElem?_getD, List.getElem?_eq_getElem hlt, Option.getD_some] at hm'
              obtain ⟨cv, h1, h2⟩ := loadVar_row ht hm' hr
              exact ⟨rfl, cv, by simpa [Instr.loadAt, Instr.sureAddr] using h1, h2⟩
      | ints g' k l =>
        simp only
        split
        · rename_i hk hsz
          rintro ⟨rfl, hlt⟩
          have hm := hh.at hb rfl hl
          have hm' := hm.row hs hlt 0 (by simp)
          obtain ⟨cv, h1, h2⟩ := hm'
          refine ⟨rfl, cv, ?_, ?_⟩
          · have : i.kind.agg = false := by rw [hk]; rfl
            simp only [Nat.add_zero] at h1
            simp [Instr.loadAt, Instr.sureAddr, loadVar, ht.run_agg w, this, h1]
          · simpa using h2
        · trivial
      | tab g' n row =>
        simp only
        cases hr : rowAt i (row r) c with
        | none => trivial
        | some v =>
          rintro ⟨rfl, hlt⟩
          have hm := hh.at hb rfl hl
          obtain ⟨cv, h1, h2⟩ := loadVar_row ht (hm.row hs hlt) hr
          exact ⟨rfl, cv, by simpa [Instr.loadAt, Instr.sureAddr] using h1, h2⟩
  | _ => trivial

end Pf
/- Writing a place of a block at hand. -/
namespace Pf
open Go

theorem updB_sub {β : BMap} {b g : Nat} {lo : Option Loc} (h : ∀ lo', β b g = some lo' → lo' = lo) : ∀ b' g' lo', β b' g' = some lo' → updB β b g lo b' g' = some lo' := by
  intro b' g' lo' e
  unfold updB
  split
  · rename_i hh
    obtain ⟨rfl, rfl⟩ := hh
    rw [h lo' e]
  · exact e

theorem MemOk.store {P : Program} {FM : FMem} {β : BMap} {w : World} {L : Loc} {n : Nat} {row row' : Nat → List AV} (hm : MemOk FM β w L n row) {r c : Nat} (hs : L.sh ≤ r) (hr : r < n)
    {cvs : List Value} (h1 : ∀ v ∈ cvs, v.oneCell' = true) (hc : c + cvs.length ≤ L.sz)
    (hrow : ∀ r', L.sh ≤ r' → r' < n → (row' r').length = L.sz ∧ ∀ j (h : j < (row' r').length) cv,
      (if r' = r ∧ c ≤ j ∧ j < c + cvs.length then cvs[j - c]? = some cv else ∃ h' : j < (row r').length, VR FM β (row r')[j] cv) → VR FM β (row' r')[j] cv) :
    ∃ w', (storeCells ⟨L.cb, (r - L.sh) * L.sz + c, none⟩ cvs).run P w = .ok () w' ∧ MemOk FM β w' L n row' ∧ Turn w w' (some L) (some L) := by
  obtain ⟨ca, e, fr, g1, g2, g3, go, g4⟩ := hm.cells
  have hsz := hm.sz
  have hfit := hm.fit
  have hbound : (r - L.sh) * L.sz + c + cvs.length ≤ ca.size := by
    rw [g2]
    have : (r - L.sh + 1) * L.sz ≤ L.n * L.sz := Nat.mul_le_mul_right _ (by omega)
    rw [Nat.add_mul, Nat.one_mul] at this
    omega
  have hrun := run_storeCells_free P L.cb ((r - L.sh) * L.sz + c) e fr cvs 0 ca w g1 g3 (by simpa using hbound) h1
  simp only [Nat.add_zero] at hrun
  let o := (r - L.sh) * L.sz + c
  let nc : Array Value := (ca.toList.take o ++ cvs ++ ca.toList.drop (o + cvs.length)).toArray
  have hncs : nc.size = ca.size := by
    simp only [nc, List.size_toArray, List.length_append, List.length_take, List.length_drop, Array.length_toList]
    simp only [o] at *
    omega
  have hget : ∀ k, k < ca.size → nc[k]? = if o ≤ k ∧ k < o + cvs.length then cvs[k - o]? else ca[k]? := by
    intro k hk
    simp only [nc, List.getElem?_toArray]
    by_cases h : o ≤ k ∧ k < o + cvs.length
    · rw [if_pos h, List.getElem?_append_left (by simp; omega), List.getElem?_append_right (by simp; omega)]
      congr 1
      simp; omega
    · rw [if_neg h]
      by_cases h' : k < o
      · rw [List.getElem?_append_left (by simp; omega), List.getElem?_append_left (by simp; omega), List.getElem?_take]
        simp [h']
      · rw [List.getElem?_append_right (by simp; omega)]
        rw [List.getElem?_drop]
        simp only [List.length_append, List.length_take, Array.length_toList, Array.getElem?_toList]
        congr 1
        omega
  refine ⟨_, hrun, ⟨hm.sz, hm.sh, hm.fit, ⟨nc, e, fr, setRow_heap w L.cb ca nc e fr g1, hncs.trans g2, by rw [hncs]; exact g3, ?_, ?_⟩, hm.free⟩, ?_⟩
  · intro k v hv
    have hk : k < ca.size := by rw [← hncs]; exact (Array.getElem?_eq_some_iff.1 hv).1
    rw [hget k hk] at hv
    split at hv
    · exact h1 v (List.mem_of_getElem? hv)
    · exact go k v hv
  · intro r' hs' hr'
    obtain ⟨k1, k2⟩ := hrow r' hs' hr'
    refine ⟨k1, fun j hj => ?_⟩
    obtain ⟨l1, l2⟩ := g4 r' hs' hr'
    have hjs : j < L.sz := by omega
    obtain ⟨cv0, m1, m2⟩ := l2 j (by omega)
    have hk : (r' - L.sh) * L.sz + j < ca.size := (Array.getElem?_eq_some_iff.1 m1).1
    have hdiv : ∀ x, x < L.sz → (o ≤ (r' - L.sh) * L.sz + x ∧ (r' - L.sh) * L.sz + x < o + cvs.length ↔ r' = r ∧ c ≤ x ∧ x < c + cvs.length) := by
      intro x hx
      simp only [o]
      constructor
      · rintro ⟨a, b⟩
        have : r' - L.sh = r - L.sh := by
          rcases Nat.lt_trichotomy (r' - L.sh) (r - L.sh) with h | h | h
          · have : (r' - L.sh + 1) * L.sz ≤ (r - L.sh) * L.sz := Nat.mul_le_mul_right _ h
            rw [Nat.add_mul, Nat.one_mul] at this; omega
          · exact h
          · have : (r - L.sh + 1) * L.sz ≤ (r' - L.sh) * L.sz := Nat.mul_le_mul_right _ h
            rw [Nat.add_mul, Nat.one_mul] at this; omega
        rw [this] at a b
        exact ⟨by omega, by omega, by omega⟩
      · rintro ⟨rfl, a, b⟩
        omega
    have hg := hget _ hk
    by_cases hin : r' = r ∧ c ≤ j ∧ j < c + cvs.length
    · rw [if_pos ((hdiv j hjs).2 hin)] at hg
      obtain ⟨rfl, ha, hb⟩ := hin
      have hidx : (r' - L.sh) * L.sz + j - o = j - c := by simp only [o]; omega
      rw [hidx] at hg
      have hlt : j - c < cvs.length := by omega
      refine ⟨cvs[j - c], by rw [hg]; simp [hlt], k2 j hj _ ?_⟩
      rw [if_pos ⟨rfl, ha, hb⟩]
      simp [hlt]
    · rw [if_neg (fun h => hin ((hdiv j hjs).1 h))] at hg
      refine ⟨cv0, hg.trans m1, k2 j hj _ ?_⟩
      rw [if_neg hin]
      exact ⟨by omega, m2⟩
  · refine ⟨by simp, fun cb hcb h => setRow_other w L.cb cb _ (fun e => h L rfl e.symm), fun L' e => ?_, rfl, rfl, rfl⟩
    cases e
    exact .inr ⟨L, rfl, rfl⟩

theorem mrg_vr {FM : FMem} {β : BMap} {p : Prop} [Decidable p] {a b v : AV} (h : mrg p a b = some v) {cv : Value} (ha : p → VR FM β a cv) (hb : ¬p → VR FM β b cv) : VR FM β v cv := by
  unfold mrg at h
  by_cases hp : p
  · have ha := ha hp
    simp only [hp, if_true] at h
    split at h
    · split at h <;> simp only [Option.some.injEq, reduceCtorEq] at h <;> (subst h; exact ha)
    · cases h; exact ha
    · cases h; exact ha
    · rename_i x y
      cases h
      cases ha
      exact .pr Iff.rfl
    · cases h; exact ha
    · rename_i x y
      cases h
      cases ha
      exact .pr Iff.rfl
    · split at h <;> simp only [Option.some.injEq, reduceCtorEq] at h <;> (subst h; exact ha)
    · cases h; exact ha
    · cases h; exact ha
    · cases h
  · have hb := hb hp
    simp only [hp, if_false] at h
    split at h
    · split at h <;> simp only [Option.some.injEq, reduceCtorEq] at h <;> (subst h; exact hb)
    · cases h; exact hb
    · cases h; exact hb
    · rename_i x y
      cases h
      cases hb
      exact .pr Iff.rfl
    · rename_i x y
      cases h
      cases hb
      exact .pr Iff.rfl
    · cases h; exact hb
    · split at h <;> simp only [Option.some.injEq, reduceCtorEq] at h <;> (subst h; exact hb)
    · cases h; exact hb
    · cases h; cases hb; exact .fz0
    · cases h

theorem mrgL_len {p : Prop} [Decidable p] : ∀ {asx bs : List AV}, (mrgL p asx bs).length = asx.length
  | [], _ => by simp [mrgL]
  | a :: asx, b :: bs => by simp only [mrgL, List.length_cons, mrgL_len]
  | _ :: asx, [] => by simp only [mrgL, List.length_cons, mrgL_len]

theorem mrgL_vr {FM : FMem} {β : BMap} {p : Prop} [Decidable p] : ∀ {asx bs : List AV} (j : Nat) (hj : j < (mrgL p asx bs).length) {cv : Value},
    (p → ∃ h : j < asx.length, VR FM β asx[j] cv) → (¬p → ∃ h : j < bs.length, VR FM β bs[j] cv) → VR FM β (mrgL p asx bs)[j] cv
  | [], _, j, hj, cv, _, _ => by simp [mrgL] at hj
  | _ :: asx, [], 0, hj, cv, _, _ => by simp only [mrgL, List.getElem_cons_zero]; exact .top
  | _ :: asx, [], j + 1, hj, cv, ha, hb => by
    simp only [mrgL, List.getElem_cons_succ]
    exact mrgL_vr j (by simpa [mrgL] using hj) (fun h => by obtain ⟨x, y⟩ := ha h; exact ⟨by simpa using x, by simpa using y⟩) (fun h => by obtain ⟨x, y⟩ := hb h; simp at x)
  | a :: asx, b :: bs, 0, hj, cv, ha, hb => by
    simp only [mrgL, List.getElem_cons_zero]
    cases hm : mrg p a b with
    | none => exact .top
    | some v => exact mrg_vr hm (fun h => by simpa using (ha h).2) (fun h => by simpa using (hb h).2)
  | a :: asx, b :: bs, j + 1, hj, cv, ha, hb => by
    simp only [mrgL, List.getElem_cons_succ]
    exact mrgL_vr j (by simpa [mrgL] using hj)
      (fun h => by obtain ⟨x, y⟩ := ha h; exact ⟨by simpa using x, by simpa using y⟩) (fun h => by obtain ⟨x, y⟩ := hb h; exact ⟨by simpa using x, by simpa using y⟩)

theorem kid_inj {k k' : IntKind} (h : Nat.beq (kid k) (kid k') = true) : k = k' := by
  have := Nat.eq_of_beq_eq_true h
  cases k <;> cases k' <;> first | rfl | (simp [kid] at this)

theorem allOne_vrs {FM : FMem} {β : BMap} : ∀ {asx : List AV} {vs : List Value}, VRs FM β asx vs → allOne asx = true → ∀ v ∈ vs, v.oneCell' = true
  | [], [], _, _, v, h => by simp at h
  | [], _ :: _, h, _, _, _ => by cases h.1
  | _ :: _, [], h, _, _, _ => by cases h.1
  | a :: asx, x :: xs, h, ho, v, hv => by
    simp only [allOne] at ho
    cases ha : a.one with
    | false => simp [ha] at ho
    | true =>
      simp only [ha] at ho
      have h0 := h.2 0 (by simp)
      simp only [List.getElem_cons_zero, List.getD_cons_zero] at h0
      rcases List.mem_cons.1 hv with rfl | hv
      · exact h0.one ha
      · refine allOne_vrs (FM := FM) (β := β) ⟨by simpa using h.1, fun i hi => ?_⟩ ho v hv
        have := h.2 (i + 1) (by simpa using hi)
        simpa using this

theorem cells_ne_top {v : AV} {cv : Value} (h : allOne v.cells = true) : ∀ xs, v ≠ .top ∨ cv ≠ .agg xs := by
  intro xs
  left
  rintro rfl
  simp [AV.cells, allOne, AV.one] at h

theorem run_storeVar {P : Program} {t : TypeId} {i : TI} {info : TypeInfo} {d : TypeDesc} {z : Value} (ht : TIok P t i info d z) {w w' : World} {a : Addr} {cv : Value}
    (hl : cv.cells.toList.length = i.size) (h : (storeCells a cv.cells.toList).run P w = .ok () w') : (storeVar t a cv).run P w = .ok () w' := by
  have : cv.cells.size = i.size := by simpa using hl
  simp [storeVar, ht.run_size w, this, h]

theorem storeOp_good {P : Program} {t : TypeId} {i : TI} {info : TypeInfo} {d : TypeDesc} {z : Value} (ht : TIok P t i info d z) {FM : FMem} {β : BMap} {H : AHeap} {w : World}
    (hh : RelH FM β H w) {p v : AV} {cp cv : Value} (hp : VR FM β p cp) (hv : VR FM β v cv) :
    (storeOp i p v H).good fun u H' => u = .tup [] ∧ ∃ w' β', (Instr.storeAt t cp cv).run P w = .ok () w' ∧ RelH FM β' H' w' ∧ Ext FM β H w FM β' H' w' := by
  unfold storeOp
  cases hsz : Nat.beq (lenM v.cells) i.size with
  | false => trivial
  | true =>
  have hsz := Nat.eq_of_beq_eq_true hsz
  rw [lenM_eq] at hsz
  cases ho : allOne v.cells with
  | false => trivial
  | true =>
  have hcs := hv.cells (cells_ne_top ho)
  have hone := allOne_vrs hcs ho
  have hcl : cv.cells.toList.length = i.size := by rw [← hcs.1]; exact hsz
  cases hp with
  | ptr hl hs =>
    rename_i b g r c L
    simp only [nthM_eq]
    cases hb : H[b]? with
    | none => trivial
    | some blk =>
      have hblt : b < H.length := (List.getElem?_eq_some_iff.1 hb).1
      cases blk with
      | dead => trivial
      | mp => trivial
      | lst g' rows =>
        simp only
        cases hg : Nat.beq g' g with
        | false => trivial
        | true =>
          obtain rfl := Nat.eq_of_beq_eq_true hg
          simp only
          cases hrow : rows[r]? with
          | none => trivial
          | some row =>
            simp only
            cases hlay : layM row v.cells c with
            | none => trivial
            | some row1 =>
              simp only [setM_eq]
              obtain ⟨hlt, hre⟩ := List.getElem?_eq_some_iff.1 hrow
              rw [if_pos hlt]
              simp only [putB, setM_eq, if_pos hblt]
              have hm := hh.at hb rfl hl
              obtain ⟨y1, y2, y3⟩ := layM_eq _ _ _ hlay
              have hrl : row.length = L.sz := by
                obtain ⟨_, _, _, _, _, _, _, g4⟩ := hm.cells
                have := (g4 r hs hlt).1
                simpa [List.getD_eq_getElem?_getD, hrow] using this
              have hpos : 0 < v.cells.length ∨ v.cells.length = 0 := by omega
              have hcc : c + cv.cells.toList.length ≤ L.sz ∨ v.cells.length = 0 := by
                rcases hpos with h | h
                · left; have := y1 h; rw [← hcs.1]; omega
                · exact .inr h
              have hfin : ∃ w', (storeCells ⟨L.cb, (r - L.sh) * L.sz + c, none⟩ cv.cells.toList).run P w = .ok () w' ∧
                  MemOk FM β w' L (rows.set r row1).length (fun i => (rows.set r row1).getD i []) ∧ Turn w w' (some L) (some L) := by
                rcases hcc with hcc | hcc
                · simp only [List.length_set]
                  refine MemOk.store hm hs hlt hone hcc fun r' hs' hr' => ?_
                  obtain ⟨_, _, _, _, _, _, _, g4⟩ := hm.cells
                  obtain ⟨l1, l2⟩ := g4 r' hs' hr'
                  by_cases hrr : r' = r
                  · subst hrr
                    simp only [List.getD_eq_getElem?_getD, List.getElem?_set_self hlt, Option.getD_some]
                    refine ⟨y2.trans hrl, fun j hj cv' hcv => ?_⟩
                    have e3 := y3 j
                    rw [List.getElem?_eq_getElem hj] at e3
                    rw [hcs.1] at e3
                    by_cases hin : c ≤ j ∧ j < c + cv.cells.toList.length
                    · rw [if_pos hin] at e3
                      rw [if_pos (by first | exact ⟨rfl, hin⟩ | exact ⟨trivial, hin⟩)] at hcv
                      have hlt' : j - c < v.cells.length := by rw [hcs.1]; omega
                      rw [List.getElem?_eq_getElem hlt'] at e3
                      have := hcs.2 (j - c) hlt'
                      rw [List.getD_eq_getElem?_getD, hcv] at this
                      rw [Option.some.inj e3]
                      exact this
                    · rw [if_neg hin] at e3
                      rw [if_neg (fun h => hin h.2)] at hcv
                      obtain ⟨h', hcv⟩ := hcv
                      simp only [List.getD_eq_getElem?_getD, hrow, Option.getD_some] at h' hcv
                      rw [List.getElem?_eq_getElem h'] at e3
                      rw [Option.some.inj e3]
                      exact hcv
                  · have e0 : (rows.set r row1).getD r' [] = rows.getD r' [] := by
                      simp [List.getD_eq_getElem?_getD, List.getElem?_set, Ne.symm hrr]
                    refine ⟨by rw [e0]; exact l1, fun j hj cv' hcv => ?_⟩
                    rw [if_neg (fun h => hrr h.1)] at hcv
                    obtain ⟨h', hcv⟩ := hcv
                    simp only [e0]
                    exact hcv
                · have e1 : cv.cells.toList = [] := List.eq_nil_of_length_eq_zero (by rw [← hcs.1]; exact hcc)
                  have e2 : row1 = row := by
                    have : v.cells = [] := List.eq_nil_of_length_eq_zero hcc
                    rw [this] at hlay
                    simpa [layM] using hlay.symm
                  have e3 : rows.set r row1 = rows := by rw [e2, ← hre]; simp
                  rw [e1, e3]
                  exact ⟨w, rfl, hm, ⟨Nat.le_refl _, fun _ _ _ => rfl, fun L' e => .inr ⟨L, rfl, by cases e; rfl⟩, rfl, rfl, rfl⟩⟩
              obtain ⟨w', k1, k2, k3⟩ := hfin
              have ex := hh.turn (blk1 := .lst g' (rows.set r row1)) (lo1 := some L) hb rfl hl rfl (.inl ⟨rfl, rfl⟩) k3
                (k2.keep rfl (updB_sub (fun lo' e => by rw [hl] at e; cases e; rfl)))
                (fun L' e => by
                  cases e
                  rw [hh.wid b _ g' _ _ L hb rfl hl]
                  simp only [ABlk.width]
                  by_cases hr0 : r = 0
                  · subst hr0
                    simp only [List.getD_eq_getElem?_getD, List.getElem?_set_self hlt, Option.getD_some, hrow, y2]
                  · simp [List.getD_eq_getElem?_getD, List.getElem?_set, hr0])
              refine ⟨by first | rfl | trivial, w', _, ?_, ex.1, ex.2⟩
              simp only [Instr.storeAt, Instr.sureAddr, Sem.run_bind, Sem.run_pure, Result.andThen_ok]
              exact run_storeVar ht hcl k1
      | ints g' k l =>
        simp only
        cases v with
        | int k' n =>
          cases c with
          | succ c => trivial
          | zero =>
          simp only
          split
          · rename_i hkk
            obtain rfl := kid_inj hkk
            simp only [putBc, setM_eq, if_pos hblt]
            rintro ⟨rfl, hlt⟩
            have hm := hh.at hb rfl hl
            cases hv
            have hL : L.sz = 1 := by
              obtain ⟨_, _, _, _, _, _, _, g4⟩ := hm.cells
              exact (g4 r hs hlt).1.symm
            have hst := MemOk.store (P := P) (c := 0) (row' := fun i => [.int k ((l.set r n).getD i 0)]) hm hs hlt (cvs := [.int k n]) (by simp [Value.oneCell']) (by simp [hL])
              (fun r' hs' hr' => ⟨by simp [hL], fun j hj cv' hcv => by
                have hj0 : j = 0 := by simpa using hj
                subst hj0
                by_cases hrr : r' = r
                · subst hrr
                  simp at hcv
                  subst hcv
                  simp [List.getD_eq_getElem?_getD, List.getElem?_set_self hlt]
                  exact .int
                · rw [if_neg (fun h => hrr h.1)] at hcv
                  obtain ⟨_, hcv⟩ := hcv
                  simpa [List.getD_eq_getElem?_getD, List.getElem?_set, Ne.symm hrr] using hcv⟩)
            obtain ⟨w', k1, k2, k3⟩ := hst
            have ex := hh.turn (blk1 := .ints g' k (l.set r n)) (lo1 := some L) hb rfl hl rfl (.inl ⟨rfl, rfl⟩) k3
              ((by simpa using k2 : MemOk FM β w' L (l.set r n).length _).keep rfl (updB_sub (fun lo' e => by rw [hl] at e; cases e; rfl)))
              (fun L' e => by cases e; exact hL)
            refine ⟨by first | rfl | trivial, w', _, ?_, ex.1, ex.2⟩
            simp only [Instr.storeAt, Instr.sureAddr, Sem.run_bind, Sem.run_pure, Result.andThen_ok]
            exact run_storeVar ht hcl k1
          · trivial
        | _ => cases c <;> trivial
      | tab g' n row =>
        simp only
        cases hlay : layM (row r) v.cells c with
        | none => trivial
        | some row1 =>
          simp only [putBc, setM_eq, if_pos hblt]
          rintro ⟨rfl, hlt⟩
          have hm := hh.at hb rfl hl
          obtain ⟨y1, y2, y3⟩ := layM_eq _ _ _ hlay
          obtain ⟨_, _, _, _, _, _, _, g4⟩ := hm.cells
          have hrl : (row r).length = L.sz := (g4 r hs hlt).1
          have hpos : 0 < v.cells.length ∨ v.cells.length = 0 := by omega
          have hcc : c + cv.cells.toList.length ≤ L.sz ∨ v.cells.length = 0 := by
            rcases hpos with h | h
            · left; have := y1 h; rw [← hcs.1]; omega
            · exact .inr h
          have hfin : ∃ w', (storeCells ⟨L.cb, (r - L.sh) * L.sz + c, none⟩ cv.cells.toList).run P w = .ok () w' ∧
              MemOk FM β w' L n (fun j => mrgL (j = r) row1 (row j)) ∧ Turn w w' (some L) (some L) := by
            have hself : ∀ j (hj : j < row1.length) cv', (if c ≤ j ∧ j < c + cv.cells.toList.length then cv.cells.toList[j - c]? = some cv' else ∃ h' : j < (row r).length, VR FM β (row r)[j] cv') →
                VR FM β row1[j] cv' := by
              intro j hj cv' hcv
              have e3 := y3 j
              rw [List.getElem?_eq_getElem hj] at e3
              rw [hcs.1] at e3
              by_cases hin : c ≤ j ∧ j < c + cv.cells.toList.length
              · rw [if_pos hin] at e3 hcv
                have hlt' : j - c < v.cells.length := by rw [hcs.1]; omega
                rw [List.getElem?_eq_getElem hlt'] at e3
                have := hcs.2 (j - c) hlt'
                rw [List.getD_eq_getElem?_getD, hcv] at this
                rw [Option.some.inj e3]
                exact this
              · rw [if_neg hin] at e3 hcv
                obtain ⟨h', hcv⟩ := hcv
                rw [List.getElem?_eq_getElem h'] at e3
                rw [Option.some.inj e3]
                exact hcv
            rcases hcc with hcc | hcc
            · refine MemOk.store hm hs hlt hone hcc fun r' hs' hr' => ?_
              obtain ⟨l1, l2⟩ := g4 r' hs' hr'
              have hll : row1.length = (row r').length := by omega
              refine ⟨by rw [mrgL_len]; omega, fun j hj cv' hcv => mrgL_vr j hj ?_ ?_⟩
              · rintro rfl
                have hj' : j < row1.length := by rw [mrgL_len] at hj; omega
                refine ⟨hj', hself j hj' cv' ?_⟩
                by_cases hin : c ≤ j ∧ j < c + cv.cells.toList.length
                · rw [if_pos hin]; rw [if_pos (by first | exact ⟨rfl, hin⟩ | exact ⟨trivial, hin⟩)] at hcv; exact hcv
                · rw [if_neg hin]; rw [if_neg (fun h => hin h.2)] at hcv; exact hcv
              · intro hne
                rw [if_neg (fun h => hne h.1)] at hcv
                exact hcv
            · have e1 : cv.cells.toList = [] := List.eq_nil_of_length_eq_zero (by rw [← hcs.1]; exact hcc)
              have e2 : row1 = row r := by
                have : v.cells = [] := List.eq_nil_of_length_eq_zero hcc
                rw [this] at hlay
                simpa [layM] using hlay.symm
              rw [e1]
              refine ⟨w, rfl, ⟨hm.sz, hm.sh, hm.fit, ?_, hm.free⟩, ⟨Nat.le_refl _, fun _ _ _ => rfl, fun L' e => .inr ⟨L, rfl, by cases e; rfl⟩, rfl, rfl, rfl⟩⟩
              obtain ⟨ca, ee, fr, m1, m2, m3, mo, m4⟩ := hm.cells
              refine ⟨ca, ee, fr, m1, m2, m3, mo, fun r' hs' hr' => ?_⟩
              obtain ⟨l1, l2⟩ := m4 r' hs' hr'
              have hll : row1.length = (row r').length := by rw [e2]; omega
              refine ⟨by rw [mrgL_len]; omega, fun j hj => ?_⟩
              have hj' : j < (row r').length := by rw [mrgL_len] at hj; omega
              obtain ⟨cv', n1, n2⟩ := l2 j hj'
              refine ⟨cv', n1, mrgL_vr j hj ?_ (fun _ => ⟨hj', n2⟩)⟩
              rintro rfl
              subst e2
              exact ⟨hj', n2⟩
          obtain ⟨w', k1, k2, k3⟩ := hfin
          have ex := hh.turn (blk1 := .tab g' n fun j => mrgL (j = r) row1 (row j)) (lo1 := some L) hb rfl hl rfl (.inl ⟨rfl, rfl⟩) k3
            (k2.keep rfl (updB_sub (fun lo' e => by rw [hl] at e; cases e; rfl)))
            (fun L' e => by
              cases e
              have hw0 : L.sz = (row 0).length := hh.wid b _ g' _ _ L hb rfl hl
              simp only [ABlk.width]
              rw [mrgL_len]
              have := hh.wid b _ g' _ _ L hb rfl hl
              omega)
          refine ⟨by first | rfl | trivial, w', _, ?_, ex.1, ex.2⟩
          simp only [Instr.storeAt, Instr.sureAddr, Sem.run_bind, Sem.run_pure, Result.andThen_ok]
          exact run_storeVar ht hcl k1
  | _ => trivial

end Pf
/- New blocks, and what is built. -/
namespace Pf
open Go

theorem RelH.alloc {FM : FMem} {β : BMap} {H : AHeap} {w w1 : World} (hh : RelH FM β H w) (e1 : w1.heap = w.heap) (e2 : w1.os = w.os) (e3 : w1.output = w.output) (e4 : w1.tape = w.tape)
    {c : Array Value} {elem : TypeId} {blk1 : ABlk} {g1 n1 sz nr : Nat} {row1 : Nat → List AV} (hv1 : blk1.view = some (g1, n1, row1)) (hz : 0 < sz) (hc : c.size = nr * sz) (ho : ∀ (k : Nat) v, c[k]? = some v → v.oneCell' = true) (hn : n1 ≤ nr) (hwd : sz = blk1.width)
    (hrow : ∀ r, r < n1 → (row1 r).length = sz ∧ ∀ j (h : j < (row1 r).length), ∃ cv, c[r * sz + j]? = some cv ∧ VR FM β (row1 r)[j] cv) :
    RelH FM (updB β H.length g1 (some ⟨w.heap.size, 0, sz, nr⟩)) (H ++ [blk1]) (w1.alloc (.cells c elem)) ∧
      Ext FM β H w FM (updB β H.length g1 (some ⟨w.heap.size, 0, sz, nr⟩)) (H ++ [blk1]) (w1.alloc (.cells c elem)) := by
  have hget : ∀ cb, cb < w.heap.size → (w1.alloc (.cells c elem)).heap[cb]? = w.heap[cb]? := by
    intro cb h
    simp only [World.alloc, e1]
    rw [Array.getElem?_push]
    have : cb ≠ w.heap.size := by omega
    simp [this]
  have hsub : ∀ b g lo, β b g = some lo → updB β H.length g1 (some ⟨w.heap.size, 0, sz, nr⟩) b g = some lo :=
    updB_sub (fun lo' e => absurd (hh.dom _ _ _ e).1 (Nat.lt_irrefl _))
  refine hh.new (lo1 := some ⟨w.heap.size, 0, sz, nr⟩) hv1 ⟨by simp [World.alloc, e1], fun cb h _ => hget cb h, fun L e => by cases e; exact .inl (Nat.le_refl _), e2, e3, e4⟩ ?_ (fun L e => by cases e; exact hwd)
  refine ⟨hz, Nat.zero_le _, by simpa using hn, ⟨c, elem, (0, 0), by simp [World.alloc, e1], hc, fun o _ h => by simp at h, ho, fun r _ hr => ?_⟩, fun o => ?_⟩
  · obtain ⟨h1, h2⟩ := hrow r hr
    refine ⟨h1, fun j hj => ?_⟩
    obtain ⟨cv, h3, h4⟩ := h2 j hj
    exact ⟨cv, by simpa using h3, h4.mono (fun _ _ _ h => h) hsub⟩
  · cases he : FM w.heap.size o with
    | none => rfl
    | some v => exact absurd (cell_lt (hh.fm _ _ _ he)) (Nat.lt_irrefl _)

theorem newB_eq (v : Nat → AV) (b : ABlk) (H : AHeap) : newB v b H = .ok (v H.length) (H ++ [b]) := by
  simp [newB, appM_eq, lenM_eq]
theorem putB_eq (v : AV) (b : Nat) (blk : ABlk) (H : AHeap) (h : b < H.length) : putB v b blk H = .ok v (H.set b blk) := by
  simp [putB, setM_eq, h]
theorem updB_self (β : BMap) (b g : Nat) (lo : Option Loc) : updB β b g lo b g = some lo := by simp [updB]

theorem VR.cells_of {FM : FMem} {β : BMap} {v : AV} {cv : Value} (h : VR FM β v cv) (ht : v.isTop = false) : VRs FM β v.cells cv.cells.toList :=
  h.cells fun xs => .inl (by rintro rfl; cases ht)

theorem VRs.get {FM : FMem} {β : BMap} {asx : List AV} {vs : Array Value} (h : VRs FM β asx vs.toList) (j : Nat) (hj : j < asx.length) : ∃ cv, vs[j]? = some cv ∧ VR FM β asx[j] cv := by
  obtain ⟨h1, h2⟩ := h
  have hl : j < vs.size := by rw [h1] at hj; simpa using hj
  refine ⟨vs[j], by simp [hl], ?_⟩
  have := h2 j hj
  simpa [List.getD_eq_getElem?_getD, hl] using this

theorem VRs.of_get {FM : FMem} {β : BMap} {asx : List AV} {vs : Array Value} (h1 : asx.length = vs.size) (h2 : ∀ j (hj : j < asx.length), ∃ cv, vs[j]? = some cv ∧ VR FM β asx[j] cv) : VRs FM β asx vs.toList := by
  refine ⟨by simpa using h1, fun i hi => ?_⟩
  obtain ⟨cv, h3, h4⟩ := h2 i hi
  rw [toList_getD]
  simpa [Array.getD_eq_getD_getElem?, h3] using h4

theorem allocOp_good {P : Program} {FM : FMem} {β : BMap} {H : AHeap} {w : World} (hh : RelH FM β H w) {cs : List AV} {z : Value} (hz : VRs FM β cs z.cells.toList) (t : TypeId) :
    (allocOp cs H).good fun u H' => SimV ((do pure (.pointer (some (← newVar t z))) : Sem Value).run P w) FM β H w u H' := by
  unfold allocOp
  cases cs with
  | nil => trivial
  | cons c cs =>
    simp only
    split
    case h_2 => trivial
    rename_i hall
    simp only [newB_eq, St.good]
    have ex := hh.alloc (w1 := w) rfl rfl rfl rfl (c := z.cells) (elem := t) (blk1 := .lst 0 [c :: cs]) (nr := 1) (sz := (c :: cs).length) rfl (by simp) (by simpa using hz.1.symm) (fun k v hv => allOne_vrs hz hall v (List.mem_of_getElem? (by simpa using hv))) (by simp) rfl
      (fun r hr => by
        have : r = 0 := by simpa using hr
        subst this
        refine ⟨rfl, fun j hj => ?_⟩
        simpa using hz.get j (by simpa using hj))
    refine ⟨.pointer (some ⟨w.heap.size, 0, none⟩), _, FM, _, ?_, ?_, ex.1, ex.2⟩
    · simp [newVar, newRow]
    · have := VR.ptr (FM := FM) (c := 0) (r := 0) (updB_self β H.length 0 (some ⟨w.heap.size, 0, (c :: cs).length, 1⟩)) (Nat.le_refl _)
      simpa using this

/-! ### Structs and arrays put together -/
theorem foldl_zipIdx_get (off : Nat) : ∀ (vs : List Value) (k : Nat) (cs : Array Value), off + k + vs.length ≤ cs.size →
    ((vs.zipIdx k).foldl (fun cs (x : Value × Nat) => cs.setIfInBounds (off + x.2) x.1) cs).size = cs.size ∧
      ∀ j, ((vs.zipIdx k).foldl (fun cs (x : Value × Nat) => cs.setIfInBounds (off + x.2) x.1) cs)[j]? = if off + k ≤ j ∧ j < off + k + vs.length then vs[j - (off + k)]? else cs[j]?
  | [], k, cs, h => ⟨rfl, fun j => by rw [if_neg (by simp)]; rfl⟩
  | v :: vs, k, cs, h => by
    simp only [List.zipIdx_cons, List.foldl_cons]
    simp only [List.length_cons] at h
    obtain ⟨h1, h2⟩ := foldl_zipIdx_get off vs (k + 1) (cs.setIfInBounds (off + k) v) (by simp; omega)
    refine ⟨by simpa using h1, fun j => ?_⟩
    rw [h2 j]
    by_cases hj : off + (k + 1) ≤ j ∧ j < off + (k + 1) + vs.length
    · rw [if_pos hj, if_pos (by simp; omega)]
      obtain ⟨m, rfl⟩ : ∃ m, j = off + (k + 1) + m := ⟨j - (off + (k + 1)), by omega⟩
      rw [show off + (k + 1) + m - (off + (k + 1)) = m from by omega, show off + (k + 1) + m - (off + k) = m + 1 from by omega]
      simp
    · rw [if_neg hj]
      by_cases hj' : off + k ≤ j ∧ j < off + k + (v :: vs).length
      · have : j = off + k := by simp at hj'; omega
        subst this
        rw [if_pos hj']
        have : off + k < cs.size := by omega
        simp [this]
      · rw [if_neg hj']
        have : off + k ≠ j := by rintro rfl; exact hj' (by simp)
        simp [Array.getElem?_setIfInBounds, this]

/-- Parts by their places, in step. -/
def PartsR (FM : FMem) (β : BMap) (ps : List (Nat × AV)) (qs : List (Nat × Value)) : Prop :=
  ps.length = qs.length ∧ ∀ (i : Nat) (p : Nat × AV) (q : Nat × Value), ps[i]? = some p → qs[i]? = some q → p.1 = q.1 ∧ VR FM β p.2 q.2

theorem PartsR.tail {FM : FMem} {β : BMap} {p : Nat × AV} {q : Nat × Value} {ps : List (Nat × AV)} {qs : List (Nat × Value)} (h : PartsR FM β (p :: ps) (q :: qs)) :
    (p.1 = q.1 ∧ VR FM β p.2 q.2) ∧ PartsR FM β ps qs :=
  ⟨h.2 0 p q rfl rfl, by simpa using h.1, fun i p' q' h1 h2 => h.2 (i + 1) p' q' (by simpa using h1) (by simpa using h2)⟩

theorem layParts_ok {FM : FMem} {β : BMap} {place : Nat → Option (Nat × Nat)} : ∀ {ps : List (Nat × AV)} {qs : List (Nat × Value)} {cs cs' : List AV} {ccs : Array Value}, PartsR FM β ps qs → VRs FM β cs ccs.toList →
    layParts place cs ps = some cs' → ∃ ccs', Instr.fill place ccs qs = some ccs' ∧ VRs FM β cs' ccs'.toList
  | [], qs, cs, cs', ccs, hp, hv, h => by
    cases qs with
    | nil =>
      simp only [layParts, Option.some.injEq] at h
      subst h
      exact ⟨ccs, rfl, hv⟩
    | cons q qs => cases hp.1
  | (i, v) :: ps, [], cs, cs', ccs, hp, hv, h => by cases hp.1
  | (i, v) :: ps, (i', cv) :: qs, cs, cs', ccs, hp, hv, h => by
    obtain ⟨⟨e, hvv⟩, hp'⟩ := hp.tail
    simp only at e hvv
    subst e
    simp only [layParts] at h
    cases hpl : place i with
    | none => simp [hpl] at h
    | some os =>
      obtain ⟨off, size⟩ := os
      simp only [hpl] at h
      split at h
      · rename_i hb ht
        simp only [Bool.and_eq_true] at hb
        obtain ⟨hb1, hb2⟩ := hb
        have hs := Nat.eq_of_beq_eq_true hb1
        rw [lenM_eq] at hs
        have hpos1 : 1 ≤ size := by simpa [Nat.blt] using hb2
        have hpos : 0 < size := by omega
        cases hl : layM cs v.cells off with
        | none => simp [hl] at h
        | some cs1 =>
          simp only [hl] at h
          have hc := hvv.cells_of ht
          have hcl : cv.cells.size = size := by have := hc.1; simp at this; omega
          obtain ⟨y1, y2, y3⟩ := layM_eq _ _ _ hl
          have hcsl : cs.length = ccs.size := by simpa using hv.1
          have hbd : off + cv.cells.size ≤ ccs.size := by have := y1 (by omega); omega
          obtain ⟨z1, z2⟩ := foldl_zipIdx_get off cv.cells.toList 0 ccs (by simpa using hbd)
          simp only [Nat.add_zero] at z1 z2
          have hv1 : VRs FM β cs1 ((cv.cells.toList.zipIdx 0).foldl (fun cs (x : Value × Nat) => cs.setIfInBounds (off + x.2) x.1) ccs).toList := by
            refine VRs.of_get (by rw [z1]; omega) fun j hj => ?_
            have e3 := y3 j
            rw [List.getElem?_eq_getElem hj] at e3
            rw [z2 j]
            have hll : v.cells.length = cv.cells.toList.length := hc.1
            by_cases hin : off ≤ j ∧ j < off + v.cells.length
            · rw [if_pos hin] at e3
              rw [if_pos (by omega)]
              have hlt : j - off < v.cells.length := by omega
              rw [List.getElem?_eq_getElem hlt] at e3
              obtain ⟨cv1, k1, k2⟩ := hc.get (j - off) hlt
              refine ⟨cv1, by simpa using k1, ?_⟩
              rw [Option.some.inj e3]
              exact k2
            · rw [if_neg hin] at e3
              rw [if_neg (by omega)]
              have hj0 : j < cs.length := by omega
              obtain ⟨cv1, k1, k2⟩ := hv.get j hj0
              rw [List.getElem?_eq_getElem hj0] at e3
              refine ⟨cv1, k1, ?_⟩
              rw [Option.some.inj e3]
              exact k2
          obtain ⟨ccs', w1, w2⟩ := layParts_ok hp' hv1 h
          refine ⟨ccs', ?_, w2⟩
          unfold Instr.fill
          simp only [hpl]
          rw [if_neg (by simp [hcl]; omega)]
          rw [← w1]
          congr 1
          rw [← Array.foldl_toList]
          simp [Array.toList_zipIdx]
      · cases h

theorem evParts_ok {FM : FMem} {β : BMap} {T : Env} {a : Act} {w : World} (hg : GK FM w) (h : RelT FM β T a) : ∀ {xs : List (Nat × Operand)} {vs : List (Nat × AV)}, evParts T xs = some vs → PartsR FM β vs (xs.map fun (i, x) => (i, a.eval x))
  | [], vs, he => by simp only [evParts, Option.some.injEq] at he; subst he; exact ⟨rfl, fun i p q h1 h2 => by simp at h1⟩
  | (k, x) :: xs, vs, he => by
    simp only [evParts] at he
    cases hx : ev T x with
    | none => simp [hx] at he
    | some v =>
      cases hy : evParts T xs with
      | none => simp [hx, hy] at he
      | some us =>
        simp only [hx, hy, Option.some.injEq] at he
        subst he
        obtain ⟨h1, h2⟩ := evParts_ok hg h hy
        refine ⟨by simpa using h1, fun i p q h3 h4 => ?_⟩
        cases i with
        | zero =>
          simp at h3 h4
          subst h3; subst h4
          exact ⟨rfl, ev_ok hg h hx⟩
        | succ i => exact h2 i p q (by simpa using h3) (by simpa using h4)

variable {P : Program} {TT : TypeId → Option TI}

theorem placesM_ok (hT : TTok P TT) : ∀ {F : List Field} {fs : List (Nat × TypeId)} {ps : List (Nat × Nat)}, F.map (fun f => (f.offset, f.type)) = fs → placesM TT fs = some ps →
    F.mapM (fun f => (P.info? f.type).map fun i => (f.offset, i.size)) = some ps
  | [], fs, ps, e, h => by
    subst e
    simp only [List.map_nil, placesM, Option.some.injEq] at h
    subst h
    rfl
  | f :: F, fs, ps, e, h => by
    subst e
    simp only [List.map_cons, placesM] at h
    cases ht : TT f.type with
    | none => simp [ht] at h
    | some j =>
      simp only [ht] at h
      cases hp : placesM TT (F.map fun f => (f.offset, f.type)) with
      | none => simp [hp] at h
      | some ps1 =>
        simp only [hp, Option.some.injEq] at h
        subst h
        obtain ⟨info, d, z, ok⟩ := TI.fits_iff (hT _ _ ht)
        have ih := placesM_ok hT rfl hp
        simp only [List.mapM_cons, ok.inf, ih, ok.siz, Option.map_some, Option.bind_eq_bind, Option.bind_some, Option.pure_def]

theorem buildOp_good (hT : TTok P TT) {t : TypeId} {i : TI} {info : TypeInfo} {d : TypeDesc} {z : Value} (ht : TIok P t i info d z) {FM : FMem} {β : BMap} {H : AHeap} {w : World} (hh : RelH FM β H w)
    {ps : List (Nat × AV)} {qs : Array (Nat × Value)} (hp : PartsR FM β ps qs.toList) : (buildOp TT i ps H).good fun u H' => SimV ((Instr.build t qs).run P w) FM β H w u H' := by
  have hz := zerosFit_vrs (FM := FM) (β := β) ht.zeros
  have hk := ht.kin
  unfold buildOp
  split
  · rename_i fs hkk
    rw [hkk] at hk
    cases d <;> simp only [TK.fits, Bool.false_eq_true] at hk
    rename_i F
    cases hpl : placesM TT fs with
    | none => trivial
    | some places =>
      simp only
      cases hl : layParts (nthM places) i.zero ps with
      | none => trivial
      | some cs =>
        obtain ⟨ccs', h1, h2⟩ := layParts_ok hp hz hl
        have hpl' := placesM_ok hT (by simpa using hk) hpl
        have hfe : nthM places = fun x => places.toArray[x]? := by funext x; simp [nthM_eq]
        rw [hfe] at h1
        refine SimV.same (run_build w t qs ccs' ?_) ?_ hh
        · unfold Program.built
          simp only [ht.inf, ht.des, ht.zer, hpl', h1]
        · refine .agg (by simpa using h2.1) fun i hi => ?_
          obtain ⟨cv, k1, k2⟩ := h2.get i hi
          simpa [Array.getD_eq_getD_getElem?, k1] using k2
  · rename_i n e hkk
    rw [hkk] at hk
    cases d <;> simp only [TK.fits, Bool.false_eq_true] at hk
    simp only [Bool.and_eq_true, beq_iff_eq] at hk
    obtain ⟨rfl, rfl⟩ := hk
    cases hte : TT e with
    | none => trivial
    | some j =>
      simp only
      obtain ⟨info', d', z', ok⟩ := TI.fits_iff (hT _ _ hte)
      cases hl : layParts (fun k => some (k * j.size, j.size)) i.zero ps with
      | none => trivial
      | some cs =>
        obtain ⟨ccs', h1, h2⟩ := layParts_ok hp hz hl
        refine SimV.same (run_build w t qs ccs' ?_) ?_ hh
        · unfold Program.built
          simp only [ht.inf, ht.des, ht.zer, ok.inf, ok.siz, h1]
        · refine .agg (by simpa using h2.1) fun i hi => ?_
          obtain ⟨cv, k1, k2⟩ := h2.get i hi
          simpa [Array.getD_eq_getD_getElem?, k1] using k2
  · trivial

end Pf
/- Slices: built, made, appended to, copied, cut; places in them. -/
namespace Pf
open Go
variable {P : Program} {TT : TypeId → Option TI}

/-- Rows in a flat array. -/
def RowsR (FM : FMem) (β : BMap) (sz : Nat) (rows : List (List AV)) (c : Array Value) : Prop :=
  c.size = rows.length * sz ∧ (∀ (k : Nat) v, c[k]? = some v → v.oneCell' = true) ∧ ∀ r row, rows[r]? = some row → row.length = sz ∧ ∀ j (h : j < row.length), ∃ cv, c[r * sz + j]? = some cv ∧ VR FM β row[j] cv

theorem row_of_index {sz r j r' j' : Nat} (hj : j < sz) (hj' : j' < sz) (h : r * sz + j = r' * sz + j') : r = r' ∧ j = j' := by
  rcases Nat.lt_trichotomy r r' with hlt | rfl | hgt
  · have : (r + 1) * sz ≤ r' * sz := Nat.mul_le_mul_right _ hlt
    rw [Nat.add_mul, Nat.one_mul] at this; omega
  · exact ⟨rfl, by omega⟩
  · have : (r' + 1) * sz ≤ r * sz := Nat.mul_le_mul_right _ hgt
    rw [Nat.add_mul, Nat.one_mul] at this; omega

theorem layRows_ok {FM : FMem} {β : BMap} {sz : Nat} (hz : 0 < sz) : ∀ {ps : List (Nat × AV)} {qs : List (Nat × Value)} {rows rows' : List (List AV)} {c : Array Value}, PartsR FM β ps qs → RowsR FM β sz rows c →
    layRows sz rows ps = some rows' → ∃ c', Instr.fill (fun i => some (i * sz, sz)) c qs = some c' ∧ RowsR FM β sz rows' c' ∧ rows'.length = rows.length
  | [], qs, rows, rows', c, hp, hv, h => by
    cases qs with
    | nil =>
      simp only [layRows, Option.some.injEq] at h
      subst h
      exact ⟨c, rfl, hv, rfl⟩
    | cons q qs => exact absurd hp.1 (by simp)
  | (i, v) :: ps, [], rows, rows', c, hp, hv, h => absurd hp.1 (by simp)
  | (i, v) :: ps, (i', cv) :: qs, rows, rows', c, hp, hv, h => by
    obtain ⟨⟨e, hvv⟩, hp'⟩ := hp.tail
    simp only at e hvv
    subst e
    simp only [layRows] at h
    split at h
    · rename_i hb ht
      have hs := Nat.eq_of_beq_eq_true hb
      rw [lenM_eq] at hs
      rw [setM_eq] at h
      by_cases hi : i < rows.length
      · simp only [hi, if_true] at h
        have hc := hvv.cells (cells_ne_top ht)
        have hcl : cv.cells.size = sz := by have := hc.1; simp at this; omega
        have hbd : i * sz + cv.cells.size ≤ c.size := by
          rw [hv.1, hcl]
          have : (i + 1) * sz ≤ rows.length * sz := Nat.mul_le_mul_right _ hi
          rw [Nat.add_mul, Nat.one_mul] at this
          omega
        obtain ⟨z1, z2⟩ := foldl_zipIdx_get (i * sz) cv.cells.toList 0 c (by simpa using hbd)
        simp only [Nat.add_zero] at z1 z2
        have hv1 : RowsR FM β sz (rows.set i v.cells) ((cv.cells.toList.zipIdx 0).foldl (fun cs (x : Value × Nat) => cs.setIfInBounds (i * sz + x.2) x.1) c) := by
          refine ⟨by rw [z1, hv.1]; simp, fun k v1 hv1 => ?_, fun r row hr => ?_⟩
          · rw [z2] at hv1
            split at hv1
            · exact allOne_vrs hc ht v1 (List.mem_of_getElem? hv1)
            · exact hv.2.1 k v1 hv1
          by_cases hri : r = i
          · subst hri
            rw [List.getElem?_set_self hi] at hr
            cases hr
            refine ⟨hs, fun j hj => ?_⟩
            obtain ⟨cv1, k1, k2⟩ := hc.get j hj
            refine ⟨cv1, ?_, k2⟩
            rw [z2, if_pos (by simp; omega)]
            rw [show r * sz + j - r * sz = j from by omega]
            simpa using k1
          · rw [List.getElem?_set_ne (Ne.symm hri)] at hr
            obtain ⟨k1, k2⟩ := hv.2.2 r row hr
            refine ⟨k1, fun j hj => ?_⟩
            obtain ⟨cv1, k3, k4⟩ := k2 j hj
            refine ⟨cv1, ?_, k4⟩
            rw [z2, if_neg]
            · exact k3
            · intro hh
              have e2 : r * sz + j = i * sz + (r * sz + j - i * sz) := by omega
              have := (row_of_index (sz := sz) (by omega) (by simp at hh; omega) e2).1
              exact hri this
        obtain ⟨c', w1, w2, w3⟩ := layRows_ok hz hp' hv1 h
        refine ⟨c', ?_, w2, by simpa using w3⟩
        unfold Instr.fill
        simp only
        rw [if_neg (by simp [hcl]; omega)]
        rw [← w1]
        congr 1
        rw [← Array.foldl_toList]
        simp [Array.toList_zipIdx]
      · simp [hi] at h
    · cases h

theorem repM_eq {α : Type} (v : α) : ∀ n, repM v n = List.replicate n v
  | 0 => rfl
  | n + 1 => by simp [repM, repM_eq v n, List.replicate_succ]

/-- The zero value's cells, over and over. -/
theorem made_get {z : Array Value} {n r sz j : Nat} (hz : z.size = sz) (hr : r < n) (hj : j < sz) : (madeCells z (n * sz))[r * sz + j]? = z[j]? := by
  have hlt : r * sz + j < n * sz := by
    have : (r + 1) * sz ≤ n * sz := Nat.mul_le_mul_right _ hr
    rw [Nat.add_mul, Nat.one_mul] at this
    omega
  have hm : (r * sz + j) % z.size = j := by
    rw [hz, Nat.mul_comm, Nat.mul_add_mod, Nat.mod_eq_of_lt hj]
  have hjz : j < z.size := by omega
  simp only [madeCells, Array.getElem?_map, Array.getElem?_range, hlt, if_true, Option.map_some]
  rw [hm]
  simp [hjz]

theorem zeroFits_one {a : AV} {v : Value} (h : zeroFits a v = true) : v.oneCell' = true := by
  unfold zeroFits at h
  split at h <;> first | rfl | cases h
theorem zerosFit_one : ∀ {asx : List AV} {vs : List Value}, zerosFit asx vs = true → ∀ v ∈ vs, v.oneCell' = true
  | [], [], _, v, h => by cases h
  | [], _ :: _, h, _, _ => by cases h
  | _ :: _, [], h, _, _ => by cases h
  | a :: asx, x :: xs, h, v, hv => by
    simp only [zerosFit, Bool.and_eq_true] at h
    rcases List.mem_cons.1 hv with rfl | hv
    · exact zeroFits_one h.1
    · exact zerosFit_one h.2 v hv
theorem made_one {z : Array Value} (h : ∀ v ∈ z.toList, v.oneCell' = true) (hz : 0 < z.size) {n : Nat} (k : Nat) (v : Value) (hv : (madeCells z n)[k]? = some v) : v.oneCell' = true := by
  simp only [madeCells, Array.getElem?_map, Array.getElem?_range] at hv
  split at hv
  · simp only [Option.map_some, Option.some.injEq] at hv
    have hlt : k % z.size < z.size := Nat.mod_lt _ hz
    rw [getElem!_pos z (k % z.size) hlt] at hv
    subst hv
    exact h _ (by simp)
  · cases hv

theorem intsM_view {k : IntKind} : ∀ {rows : List (List AV)} {l : List Int}, intsM k rows = some l → rows = l.map fun n => [.int k n]
  | [], l, h => by simp only [intsM, Option.some.injEq] at h; subst h; rfl
  | [.int k' n] :: rs, l, h => by
    simp only [intsM] at h
    split at h
    · rename_i hk
      have := kid_inj hk
      subst this
      cases hl : intsM k rs with
      | none => simp [hl] at h
      | some l' =>
        simp only [hl, Option.some.injEq] at h
        subst h
        rw [intsM_view hl]
        rfl
    · cases h
  | [] :: _, l, h => by simp [intsM] at h
  | (_ :: _ :: _) :: _, l, h => by simp [intsM] at h
  | [.top] :: _, l, h | [.bool _] :: _, l, h | [.pr _] :: _, l, h | [.str _] :: _, l, h | [.nilp] :: _, l, h | [.ptr _ _ _ _] :: _, l, h | [.fptr _ _] :: _, l, h | [.nils] :: _, l, h
  | [.e0] :: _, l, h | [.fi _ _] :: _, l, h | [.fz _ _] :: _, l, h | [.sl _ _ _ _] :: _, l, h | [.fn _ _ _] :: _, l, h | [.nilf] :: _, l, h | [.iface _ _] :: _, l, h | [.nili] :: _, l, h
  | [.agg _] :: _, l, h | [.tup _] :: _, l, h => by simp [intsM] at h

theorem sl_new {FM : FMem} {β : BMap} {b cb sz n len : Nat} (hl : len ≤ n) (hp : 0 < n) : VR FM (updB β b 0 (some ⟨cb, 0, sz, n⟩)) (.sl b 0 0 len) (.slice (some ⟨cb, 0, none⟩) len n) := by
  have := VR.sl (FM := FM) (off := 0) (len := len) (cap := n) (updB_self β b 0 (some ⟨cb, 0, sz, n⟩)) (Nat.le_refl _) (by simp) hl hp
  simpa using this
theorem sl_new0 {FM : FMem} {β : BMap} {b cb sz n : Nat} {a : Option Addr} : VR FM (updB β b 0 (some ⟨cb, 0, sz, n⟩)) (.sl b 0 0 0) (.slice a 0 0) :=
  VR.sl0 (updB_self β b 0 (some ⟨cb, 0, sz, n⟩)) (fun L e => by cases e; exact Nat.le_refl _)

theorem RelH.garbage {FM : FMem} {β : BMap} {H : AHeap} {w w' : World} (hh : RelH FM β H w) (hs : w.heap.size ≤ w'.heap.size) (hf : ∀ cb, cb < w.heap.size → w'.heap[cb]? = w.heap[cb]?)
    (e2 : w'.os = w.os) (e3 : w'.output = w.output) (e4 : w'.tape = w.tape) : RelH FM β H w' ∧ Ext FM β H w FM β H w' := by
  refine ⟨⟨fun b blk g n row h1 h2 => ?_, hh.inj, hh.wid, fun cb o v h => ?_, hh.dom, hh.gk.at (hh.gk.tabw.keep fun _ hlt => hf _ hlt), hh.mp.keep (fun _ _ _ h => h) (fun _ _ _ _ h => h) fun cb es cl h => by rw [hf cb (Array.getElem?_eq_some_iff.1 h).1]; exact h⟩, ⟨fun _ _ _ h => h, fun _ _ _ h => h, hs, fun _ _ h => h, fun cb h _ => hf cb h, fun _ _ _ h => .inl h, Nat.le_refl _, e2, e3, e4⟩⟩
  · obtain ⟨lo, h3, h4⟩ := hh.mem b blk g n row h1 h2
    refine ⟨lo, h3, ?_⟩
    cases lo with
    | none => exact h4
    | some L => exact MemOk.keep h4 (hf _ h4.lt) (fun _ _ _ h => h)
  · have := hh.fm cb o v h
    rw [cell_congr (hf cb (cell_lt this))]
    exact this

theorem alloc_size (w1 : World) (o : Obj) : (w1.alloc o).heap.size = w1.heap.size + 1 := by
  show (w1.heap.push o).size = _
  simp
theorem alloc_heap (w w1 : World) (o : Obj) (e1 : w1.heap = w.heap) (cb : Nat) (h : cb < w.heap.size) : (w1.alloc o).heap[cb]? = w.heap[cb]? := by
  simp only [World.alloc, e1]
  rw [Array.getElem?_push]
  have : cb ≠ w.heap.size := by omega
  simp [this]

theorem buildSliceOp_good (hT : TTok P TT) {t : TypeId} {i : TI} {info : TypeInfo} {d : TypeDesc} {z : Value} (ht : TIok P t i info d z) {FM : FMem} {β : BMap} {H : AHeap} {w : World} (hh : RelH FM β H w)
    {len : Nat} {ps : List (Nat × AV)} {qs : Array (Nat × Value)} (hp : PartsR FM β ps qs.toList) : (buildSliceOp TT i len ps H).good fun u H' => SimV ((Instr.buildSlice t len qs).run P w) FM β H w u H' := by
  have hk := ht.kin
  unfold buildSliceOp
  split
  · rename_i e hkk
    rw [hkk] at hk
    cases d <;> simp only [TK.fits, Bool.false_eq_true, beq_iff_eq] at hk
    subst hk
    cases hte : TT e with
    | none => trivial
    | some j =>
      simp only
      obtain ⟨info', d', z', ok⟩ := TI.fits_iff (hT _ _ hte)
      split
      · split
        · have hq : qs = #[] := by
            have := hp.1
            simp at this
            exact Array.eq_empty_of_size_eq_zero this.symm
          subst hq
          obtain ⟨g1, g2⟩ := hh.garbage (w' := w.alloc (.cells #[] e)) (by rw [alloc_size]; omega) (alloc_heap w w _ rfl) rfl rfl rfl
          refine ⟨.slice (some ⟨w.heap.size, 0, none⟩) 0 0, _, FM, β, ?_, .e0, g1, g2⟩
          simp [Instr.buildSlice, ht.run_under w, ok.run_size w, Instr.fill, newRow, ok.siz, Array.range_zero']
        · trivial
      · rename_i len
        split
        · trivial
        · rename_i hb
          simp only [Bool.and_eq_true] at hb
          obtain ⟨⟨hb1, hb2⟩, hb3⟩ := hb
          have hj01 : 1 ≤ j.size := by simpa [Nat.blt] using hb1
          have hj0 : 0 < j.size := by omega
          have hj1 : j.size ≤ 1000 := Nat.le_of_ble_eq_true hb2
          have hl1 : len + 1 ≤ 1000 := Nat.le_of_ble_eq_true hb3
          cases hlr : layRows j.size (repM j.zero (len + 1)) ps with
          | none => trivial
          | some rows =>
            simp only
            have hzs : z'.cells.size = j.size := ok.zsize
            have hr0 : RowsR FM β j.size (repM j.zero (len + 1)) (madeCells z'.cells ((len + 1) * j.size)) := by
              have hzv := zerosFit_vrs (FM := FM) (β := β) ok.zeros
              refine ⟨by rw [size_madeCells, repM_eq]; simp, made_one (zerosFit_one ok.zeros) (by rw [hzs]; exact hj0), fun r row hr => ?_⟩
              rw [repM_eq, List.getElem?_replicate] at hr
              split at hr
              · rename_i hrl
                cases hr
                have hl1 : j.zero.length = j.size := by have := hzv.1; simp at this; omega
                refine ⟨hl1, fun jj hj => ?_⟩
                rw [made_get hzs hrl (by omega)]
                exact hzv.get jj hj
              · cases hr
            obtain ⟨c', w1, w2, w3⟩ := layRows_ok hj0 hp hr0 hlr
            rw [repM_eq, List.length_replicate] at w3
            have hsm : (len + 1) * j.size ≤ 1000 * 1000 := Nat.mul_le_mul hl1 hj1
            have hrun := run_buildSlice (P := P) w t e (len + 1) qs c' info' z' ht.des ok.inf ok.zer (by rw [ok.siz]; omega)
              (by rw [ok.siz]; exact Nat.mul_ne_zero (by omega) (by omega)) (by rw [ok.siz]; exact w1)
            have hrows : ∀ r, r < len + 1 → (rows.getD r []).length = j.size ∧ ∀ k (h : k < (rows.getD r []).length), ∃ cv, c'[r * j.size + k]? = some cv ∧ VR FM β (rows.getD r [])[k] cv := by
              intro r hr
              have hr' : r < rows.length := by omega
              have he : rows.getD r [] = rows[r] := by simp [List.getD_eq_getElem?_getD, hr']
              rw [he]
              exact w2.2.2 r rows[r] (by simp [hr'])
            have fin : ∀ (blk : ABlk) (row : Nat → List AV) (hv : blk.view = some (0, len + 1, row)) (he : ∀ r, r < len + 1 → row r = rows.getD r []) (hw : j.size = blk.width), SimV ((Instr.buildSlice t (len + 1) qs).run P w) FM β H w (.sl H.length 0 0 (len + 1)) (H ++ [blk]) := by
              intro blk row hv he hw
              have ex := hh.alloc (w1 := w) rfl rfl rfl rfl (c := c') (elem := e) (blk1 := blk) (nr := len + 1) (sz := j.size) hv hj0 (by rw [w2.1, w3]) w2.2.1 (Nat.le_refl _) hw (fun r hr => by rw [he r hr]; exact hrows r hr)
              exact ⟨_, _, FM, _, hrun, sl_new (Nat.le_refl _) (by omega), ex.1, ex.2⟩
            split
            · rename_i k hkj
              cases hin : intsM k rows with
              | none => trivial
              | some l =>
                simp only [newB_eq, St.good]
                have hrl := intsM_view hin
                have hll : l.length = len + 1 := by rw [← w3, hrl]; simp
                refine fin _ _ (by simp only [ABlk.view, hll]; rfl) (fun r hr => ?_) ?_
                · rw [hrl]
                  simp [List.getD_eq_getElem?_getD, show r < l.length by omega]
                · have h0 := (hrows 0 (by omega)).1
                  rw [hrl] at h0
                  have : 0 < l.length := by omega
                  simp [List.getD_eq_getElem?_getD, this] at h0
                  simp only [ABlk.width]; omega
            · simp only [newB_eq, St.good]
              exact fin _ _ (by simp only [ABlk.view, w3]) (fun _ _ => rfl) (hrows 0 (by omega)).1.symm
  · trivial

end Pf
/- Keys of maps, values of structs compared, and what a map does: the model's own operations. -/
namespace Pf
open Go
variable {P : Program} {TT : TypeId → Option TI}

/-! ### Keys -/
theorem CR.inj {b : Bool} {c : Int ⊕ List UInt8} {u v : Value} (h1 : CR b c u) (h2 : CR b c v) : u = v := by
  cases h1 with
  | int => cases h2; rfl
  | str e1 =>
    cases h2 with
    | str e2 =>
      rename_i b1 b2
      have e := e1.trans e2.symm
      obtain ⟨⟨x⟩⟩ := b1
      obtain ⟨⟨y⟩⟩ := b2
      simp only at e
      subst e
      rfl
theorem CRs.inj : ∀ {bs : List Bool} {cs : MKey} {us vs : List Value}, CRs bs cs us → CRs bs cs vs → us = vs
  | [], [], [], [], _, _ => rfl
  | _ :: _, _ :: _, _ :: _, _ :: _, h1, h2 => by rw [h1.1.inj h2.1, CRs.inj h1.2 h2.2]
  | [], [], [], _ :: _, _, h => h.elim
  | [], [], _ :: _, _, h, _ => h.elim
  | [], _ :: _, _, _, h, _ => h.elim
  | _ :: _, [], _, _, h, _ => h.elim
  | _ :: _, _ :: _, [], _, h, _ => h.elim
  | _ :: _, _ :: _, _ :: _, [], _, h => h.elim
theorem KR.inj {sh : Option (List Bool)} {k : MKey} {u v : Value} (h1 : KR sh k u) (h2 : KR sh k v) : u = v := by
  cases h1 with
  | one a => cases h2 with | one b => exact a.inj b
  | agg a => cases h2 with | agg b => rw [show _ = _ from Array.toList_inj.1 (a.inj b)]
theorem sameBools_eq : ∀ {a b : List Bool}, sameBools a b = true → a = b
  | [], [], _ => rfl
  | true :: asx, true :: bs, h => by rw [sameBools_eq (a := asx) (b := bs) h]
  | false :: asx, false :: bs, h => by rw [sameBools_eq (a := asx) (b := bs) h]
  | [], _ :: _, h => by cases h
  | true :: _, [], h => by cases h
  | false :: _, [], h => by cases h
  | true :: _, false :: _, h => by cases h
  | false :: _, true :: _, h => by cases h
theorem sameShape_eq {a b : Option (List Bool)} (h : sameShape a b = true) : a = b := by
  cases a <;> cases b <;> first | rfl | cases h | skip
  rw [sameBools_eq h]

theorem keyCells_ok {FM : FMem} {β : BMap} : ∀ {fs : List (Nat × TypeId)} {cs : List AV} {k : MKey} {bs : List Bool} {vs : List Value}, keyCells TT fs cs = some k → cellShape TT fs = some bs → VRs FM β cs vs → CRs bs k vs
  | [], [], k, bs, vs, h1, h2, h3 => by
    simp only [keyCells, Option.some.injEq] at h1
    simp only [cellShape, Option.some.injEq] at h2
    subst h1; subst h2
    cases vs with
    | nil => trivial
    | cons => have := h3.1; simp at this
  | [], _ :: _, k, bs, vs, h1, _, _ => by simp [keyCells] at h1
  | _ :: _, [], k, bs, vs, h1, _, _ => by simp [keyCells] at h1
  | (o, ft) :: fs, v :: cs, k, bs, vs, h1, h2, h3 => by
    cases vs with
    | nil => have := h3.1; simp at this
    | cons cv vs =>
      have hv : VR FM β v cv := h3.2 0 (Nat.zero_lt_succ _)
      have ht : VRs FM β cs vs := ⟨by simpa using h3.1, fun i hi => h3.2 (i + 1) (Nat.succ_lt_succ hi)⟩
      simp only [keyCells] at h1
      simp only [cellShape] at h2
      cases hj : TT ft with
      | none => simp [hj] at h1
      | some j =>
        simp only [hj] at h1 h2
        split at h1
        · rename_i kk n hk
          simp only [hk] at h2
          split at h1
          · rename_i ks hks
            split at h2
            · rename_i bs' hbs
              cases h1; cases h2; cases hv
              exact ⟨.int, keyCells_ok hks hbs ht⟩
            · cases h2
          · cases h1
        · rename_i s hk
          simp only [hk] at h2
          split at h1
          · rename_i ks hks
            split at h2
            · rename_i bs' hbs
              cases h1; cases h2
              cases hv with
              | str hs => exact ⟨.str hs, keyCells_ok hks hbs ht⟩
            · cases h2
          · cases h1
        · cases h1
theorem keyOfV_ok {i : TI} {v : AV} {k : MKey} {sh : Option (List Bool)} {FM : FMem} {β : BMap} {cv : Value} (h1 : keyOfV TT i v = some k) (h2 : shapeOf TT i = some sh) (h3 : VR FM β v cv) : KR sh k cv := by
  unfold keyOfV at h1
  unfold shapeOf at h2
  split at h1
  · rename_i s hk
    simp only [hk, Option.some.injEq] at h2
    cases h1; subst h2
    cases h3 with
    | str hs => exact .one (.str hs)
  · rename_i fs cs hk
    simp only [hk] at h2
    split at h1
    · rename_i he
      simp only [he] at h2
      split at h2
      · rename_i bs hb
        cases h2
        cases h3 with
        | agg a b => exact .agg (keyCells_ok h1 hb ⟨by simpa using a, fun i hi => by rw [toList_getD]; exact b i hi⟩)
      · cases h2
    · cases h1
  · cases h1

/-! ### Equality -/
theorem CR.eq_run (hT : TTok P TT) {ft : TypeId} {j : TI} (hj : TT ft = some j) {b : Bool} (hb : (b = false ∧ ∃ k, j.kind = .int k) ∨ (b = true ∧ j.kind = .string)) {c d : Int ⊕ List UInt8} {u v : Value} (h1 : CR b c u) (h2 : CR b d v) (n : Nat) (w : World) :
    (Op.equalIn (n + 1) ft u v).run P w = .ok (decide (c = d)) w := by
  obtain ⟨info, de, z, ok⟩ := TI.fits_iff (hT _ _ hj)
  rcases hb with ⟨rfl, k, hk⟩ | ⟨rfl, hk⟩
  · cases h1; cases h2
    have hd : P.underlying ft = some (.int k) := by
      have := ok.kin
      rw [hk] at this
      have hde := ok.des
      cases de <;> simp_all [TK.fits]
    rw [run_equalIn_int w n ft .i64 k _ _ hd]
    congr 1
    rename_i a b
    by_cases e : a = b <;> simp [e]
  · have hd : P.underlying ft = some .string := by
      have := ok.kin
      rw [hk] at this
      have hde := ok.des
      cases de <;> simp_all [TK.fits]
    cases h1 with
    | str e1 =>
    cases h2 with
    | str e2 =>
    rw [run_equalIn_string w n ft _ _ hd]
    congr 1
    subst e1; subst e2
    rename_i x y
    rw [ByteArray.toList_eq, ByteArray.toList_eq]
    by_cases e : x.data.toList = y.data.toList
    · simp [e]
    · have e' : ¬ x.data = y.data := fun h => e (by rw [h])
      simp [e, e']
theorem cellShape_kind {o : Nat} {ft : TypeId} {fs : List (Nat × TypeId)} {bs : List Bool} (h : cellShape TT ((o, ft) :: fs) = some bs) :
    ∃ j b bs', TT ft = some j ∧ bs = b :: bs' ∧ cellShape TT fs = some bs' ∧ ((b = false ∧ ∃ k, j.kind = .int k) ∨ (b = true ∧ j.kind = .string)) := by
  simp only [cellShape] at h
  split at h
  · rename_i j hj
    split at h
    · rename_i k hk
      split at h
      · rename_i bs' hb
        cases h
        exact ⟨j, false, bs', hj, rfl, hb, .inl ⟨rfl, k, hk⟩⟩
      · cases h
    · rename_i hk
      split at h
      · rename_i bs' hb
        cases h
        exact ⟨j, true, bs', hj, rfl, hb, .inr ⟨rfl, hk⟩⟩
      · cases h
    · cases h
  · cases h
theorem part_cell (hT : TTok P TT) {ft : TypeId} {j : TI} (hj : TT ft = some j) {b : Bool} (hb : (b = false ∧ ∃ k, j.kind = .int k) ∨ (b = true ∧ j.kind = .string)) {xs : Array Value} {o : Nat} {v : Value} (h : xs[o]? = some v) (w : World) : (part ft xs o).run P w = .ok v w := by
  obtain ⟨info, de, z, ok⟩ := TI.fits_iff (hT _ _ hj)
  have ha : j.kind.agg = false := by rcases hb with ⟨_, k, hk⟩ | ⟨_, hk⟩ <;> rw [hk] <;> rfl
  simp [part, ok.run_agg w, ha, h]
theorem eqFields_run (hT : TTok P TT) {xs ys : Array Value} (n : Nat) (w : World) : ∀ {F : List Field} {bs : List Bool} {a b : MKey} {o : Nat}, offsOk o F = true → cellShape TT (F.map fun f => (f.offset, f.type)) = some bs →
    CRs bs a (xs.toList.drop o) → CRs bs b (ys.toList.drop o) → (Op.eqFields (n + 1) xs ys F).run P w = .ok (decide (a = b)) w
  | [], bs, a, b, o, _, h2, h3, h4 => by
    simp only [List.map_nil, cellShape, Option.some.injEq] at h2
    subst h2
    have ha : a = [] := by
      cases a with
      | nil => rfl
      | cons => cases hx : xs.toList.drop o <;> rw [hx] at h3 <;> exact h3.elim
    have hb : b = [] := by
      cases b with
      | nil => rfl
      | cons => cases hx : ys.toList.drop o <;> rw [hx] at h4 <;> exact h4.elim
    subst ha; subst hb
    simp [Op.eqFields]
  | f :: F, bs, a, b, o, h1, h2, h3, h4 => by
    simp only [offsOk, Bool.and_eq_true, beq_iff_eq, bne_iff_ne, ne_eq] at h1
    obtain ⟨⟨ho, hn⟩, h1⟩ := h1
    obtain ⟨j, c, bs', hj, rfl, hb', hk⟩ := cellShape_kind (o := f.offset) (ft := f.type) (fs := F.map fun f => (f.offset, f.type)) (by simpa using h2)
    cases a with
    | nil => cases hx : xs.toList.drop o <;> rw [hx] at h3 <;> exact h3.elim
    | cons a0 a =>
    cases b with
    | nil => cases hx : ys.toList.drop o <;> rw [hx] at h4 <;> exact h4.elim
    | cons b0 b =>
    cases hx : xs.toList.drop o with
    | nil => rw [hx] at h3; exact h3.elim
    | cons u us =>
    cases hy : ys.toList.drop o with
    | nil => rw [hy] at h4; exact h4.elim
    | cons v vs =>
    rw [hx] at h3; rw [hy] at h4
    have nxt : ∀ {zs : Array Value} {z : Value} {zr : List Value}, zs.toList.drop o = z :: zr → zs[o]? = some z ∧ zs.toList.drop (o + 1) = zr := by
      intro zs z zr h
      refine ⟨?_, ?_⟩
      · have := congrArg (fun l => l[0]?) h
        simpa using this
      · rw [← List.drop_drop, h]; rfl
    obtain ⟨x1, x2⟩ := nxt hx
    obtain ⟨y1, y2⟩ := nxt hy
    subst ho
    have ih := eqFields_run hT (xs := xs) (ys := ys) n w h1 hb' (by rw [x2]; exact h3.2) (by rw [y2]; exact h4.2)
    have e1 := CR.eq_run hT hj hk h3.1 h4.1 n w
    simp only [Op.eqFields, ne_eq, hn, not_false_eq_true, if_true, Sem.run_bind, part_cell hT hj hk x1 w, part_cell hT hj hk y1 w, e1, Result.andThen_ok]
    by_cases e : a0 = b0
    · subst e
      simp [ih]
    · simp [e]
theorem kind_struct' {t : TypeId} {i : TI} {info : TypeInfo} {d : TypeDesc} {z : Value} (ok : TIok P t i info d z) {fs : List (Nat × TypeId)} (hk : i.kind = .struct fs) : ∃ F : Array Field, P.underlying t = some (.struct F) ∧ F.toList.map (fun f => (f.offset, f.type)) = fs := by
  have hi := ok.kin
  rw [hk] at hi
  have hd := ok.des
  cases d <;> simp [TK.fits] at hi
  exact ⟨_, hd, hi⟩
theorem KR.eq_run (hT : TTok P TT) {t : TypeId} {i : TI} (ht : TT t = some i) {sh : Option (List Bool)} (hs : shapeOf TT i = some sh) {a b : MKey} {u v : Value} (h1 : KR sh a u) (h2 : KR sh b v) (w : World) : (Op.equal t u v).run P w = .ok (decide (a = b)) w := by
  obtain ⟨info, de, z, ok⟩ := TI.fits_iff (hT _ _ ht)
  have e : Op.equal t u v = Op.equalIn (9998 + 1 + 1) t u v := rfl
  rw [e]
  generalize 9998 = n
  unfold shapeOf at hs
  split at hs
  · rename_i hk
    cases hs
    cases h1 with
    | one c1 =>
    cases h2 with
    | one c2 =>
    rw [CR.eq_run hT ht (b := true) (.inr ⟨rfl, hk⟩) c1 c2 (n + 1) w]
    congr 1
    rename_i x y
    by_cases e : x = y <;> simp [e]
  · rename_i fs hk
    split at hs
    · rename_i he
      split at hs
      · rename_i bs hb
        cases hs
        cases h1 with
        | agg c1 =>
        cases h2 with
        | agg c2 =>
        obtain ⟨F, hF, rfl⟩ := kind_struct' ok hk
        have hp := ok.eqp he
        unfold eqPlain at hp
        simp only [hF, Bool.and_eq_true, Bool.not_eq_true'] at hp
        have hfs : P.fieldsOf t = F := by simp [Program.fieldsOf, hF]
        rw [run_equalIn_struct w (n + 1) t _ _ (by rw [hfs]; exact hF) hp.1.1, hfs]
        exact eqFields_run hT n w hp.1.2 hb (by simpa using c1) (by simpa using c2)
      · cases hs
    · cases hs
  · cases hs
end Pf
/- What a map does: the model's own operations, and the relation kept. -/
namespace Pf
open Go
variable {P : Program} {TT : TypeId → Option TI}

/-! ### Keys are checked, found, kept -/
theorem check_cell (hT : TTok P TT) {ft : TypeId} {j : TI} (hj : TT ft = some j) {b : Bool} (hb : (b = false ∧ ∃ k, j.kind = .int k) ∨ (b = true ∧ j.kind = .string)) {v : Value} (em : Bool) (n : Nat) (w : World) :
    (Instr.checkKey em (n + 1) ft v).run P w = .ok () w := by
  obtain ⟨info, de, z, ok⟩ := TI.fits_iff (hT _ _ hj)
  have hk := ok.kin
  unfold Instr.checkKey
  simp only [Sem.run_bind, ok.run_under w, Result.andThen_ok]
  rcases hb with ⟨_, k, hk'⟩ | ⟨_, hk'⟩ <;> rw [hk'] at hk <;> cases de <;> simp_all [TK.fits]
theorem check_fields (hT : TTok P TT) {xs : Array Value} (em : Bool) (n : Nat) (w : World) : ∀ {F : List Field} {bs : List Bool} {a : MKey} {o : Nat}, offsOk o F = true → cellShape TT (F.map fun f => (f.offset, f.type)) = some bs →
    CRs bs a (xs.toList.drop o) → ∀ f ∈ F, ¬ f.name = "_" ∧ ∃ v, (part f.type xs f.offset).run P w = .ok v w ∧ (Instr.checkKey em (n + 1) f.type v).run P w = .ok () w
  | [], bs, a, o, _, h2, h3 => by simp
  | f :: F, bs, a, o, h1, h2, h3 => by
    simp only [offsOk, Bool.and_eq_true, beq_iff_eq, bne_iff_ne, ne_eq] at h1
    obtain ⟨⟨ho, hn⟩, h1⟩ := h1
    obtain ⟨j, c, bs', hj, rfl, hb', hk⟩ := cellShape_kind (o := f.offset) (ft := f.type) (fs := F.map fun f => (f.offset, f.type)) (by simpa using h2)
    cases a with
    | nil => cases hx : xs.toList.drop o <;> rw [hx] at h3 <;> exact h3.elim
    | cons a0 a =>
    cases hx : xs.toList.drop o with
    | nil => rw [hx] at h3; exact h3.elim
    | cons u us =>
    rw [hx] at h3
    have x1 : xs[o]? = some u := by
      have := congrArg (fun l => l[0]?) hx
      simpa using this
    have x2 : xs.toList.drop (o + 1) = us := by rw [← List.drop_drop, hx]; rfl
    subst ho
    have ih := check_fields hT (xs := xs) em n w h1 hb' (by rw [x2]; exact h3.2)
    intro f' hf
    rcases List.mem_cons.1 hf with rfl | hf
    · exact ⟨hn, u, part_cell hT hj hk x1 w, check_cell hT hj hk em n w⟩
    · exact ih f' hf
theorem forIn_unit {α : Type} {w : World} {body : α → PUnit → Sem (ForInStep PUnit)} : ∀ {F : List α}, (∀ f ∈ F, (body f ⟨⟩).run P w = .ok (.yield ⟨⟩) w) → (forIn F PUnit.unit body).run P w = .ok ⟨⟩ w
  | [], _ => by simp
  | f :: F, h => by
    have ih := forIn_unit (F := F) fun f hf => h f (List.mem_cons_of_mem _ hf)
    simp only [List.forIn_cons, Sem.run_bind, h f (List.mem_cons_self ..), Result.andThen_ok]
    exact ih
theorem bb_self (b : ByteArray) : (b == b) = true := by rw [beq_toListBytes]; simp
theorem bb_ne {a b : ByteArray} (h : ¬ a = b) : (a == b) = false := by
  rw [beq_toListBytes, ByteArray.toList_eq, ByteArray.toList_eq]
  obtain ⟨⟨x⟩⟩ := a
  obtain ⟨⟨y⟩⟩ := b
  have : ¬ x = y := fun e => h (by rw [e])
  simp [this]
theorem KR.check (hT : TTok P TT) {t : TypeId} {i : TI} (ht : TT t = some i) {sh : Option (List Bool)} (hs : shapeOf TT i = some sh) {a : MKey} {u : Value} (h1 : KR sh a u) (em : Bool) (w : World) : (Instr.checkKey em 10000 t u).run P w = .ok () w := by
  obtain ⟨info, de, z, ok⟩ := TI.fits_iff (hT _ _ ht)
  have e : Instr.checkKey em 10000 t u = Instr.checkKey em (9998 + 1 + 1) t u := rfl
  rw [e]
  generalize 9998 = n
  unfold shapeOf at hs
  split at hs
  · rename_i hk
    exact check_cell hT ht (b := true) (.inr ⟨rfl, hk⟩) em (n + 1) w
  · rename_i fs hk
    split at hs
    · rename_i he
      split at hs
      · rename_i bs hb
        cases hs
        cases h1 with
        | agg c1 =>
        obtain ⟨F, hF, rfl⟩ := kind_struct' ok hk
        have hp := ok.eqp he
        unfold eqPlain at hp
        simp only [hF, Bool.and_eq_true, Bool.not_eq_true'] at hp
        have hc := check_fields hT em n w hp.1.2 hb (by simpa using c1)
        unfold Instr.checkKey
        simp only [Sem.run_bind, run_underlying hF, Result.andThen_ok]
        rw [← Array.forIn_toList, forIn_unit fun f hf => ?_]
        · rfl
        · obtain ⟨q1, v, q2, q3⟩ := hc f hf
          simp [q1, q2, q3, Result.andThen]
      · cases hs
    · cases hs
  · cases hs
/-- Where a key stands in a map, and what is held there. -/
def fnd (vb : Bool) : List (MKey × Int) → MKey → Nat → Option (Nat × Value)
  | [], _, _ => none
  | (k, n) :: es, x, i => if x = k then some (i, mval vb n) else fnd vb es x (i + 1)
theorem KR.asking (hT : TTok P TT) {t : TypeId} {i : TI} (ht : TT t = some i) {sh : Option (List Bool)} (hs : shapeOf TT i = some sh) {vb : Bool} {a : MKey} {u : Value} (h1 : KR sh a u) (w : World) : ∀ {es : List (MKey × Int)} {ents : List MapEntry} (k : Nat), EntsR vb sh es ents →
    (Instr.findAsking t u ents k).run P w = .ok (fnd vb es a k) w
  | [], [], k, _ => by simp [Instr.findAsking, fnd]
  | [], _ :: _, _, h => h.elim
  | _ :: _, [], _, h => h.elim
  | (x, n) :: es, e :: ents, k, h => by
    have ih := KR.asking hT ht hs h1 w (k + 1) h.2
    have e1 := KR.eq_run hT ht hs h1 h.1.1 w
    simp only [Instr.findAsking, Sem.run_bind, e1, Result.andThen_ok, fnd]
    by_cases hx : a = x
    · subst hx
      simp [h.1.2]
    · simp [hx, ih]
theorem KR.now {sh : Option (List Bool)} {vb : Bool} {a : MKey} {u : Value} (h1 : KR none a u) : ∀ {es : List (MKey × Int)} {ents : List MapEntry} (k : Nat), EntsR vb none es ents → Instr.findNow .string u ents k = some (fnd vb es a k)
  | [], [], k, _ => rfl
  | [], _ :: _, _, h => h.elim
  | _ :: _, [], _, h => h.elim
  | (x, n) :: es, e :: ents, k, h => by
    have ih := KR.now (sh := sh) h1 (k + 1) h.2
    obtain ⟨⟨hk, hv⟩, _⟩ := h
    cases h1 with
    | one c1 =>
    generalize hek : e.key = ek at hk
    cases hk with
    | one c2 =>
    cases c1 with
    | str e1 =>
    cases c2 with
    | str e2 =>
    rename_i s1 b1 s2 b2
    simp only [Instr.findNow, hek, Instr.sameNow, fnd]
    by_cases hb : b1 = b2
    · subst hb
      have : s1 = s2 := e1.symm.trans e2
      subst this
      simp [hv, bb_self]
    · have hs : ¬ s1 = s2 := fun h => hb (by
        have e := (e1.trans h).trans e2.symm
        obtain ⟨⟨x⟩⟩ := b1
        obtain ⟨⟨y⟩⟩ := b2
        simp only at e
        subst e
        rfl)
      simp [bb_ne hb, hs, ih]
theorem KR.find (hT : TTok P TT) {t : TypeId} {i : TI} (ht : TT t = some i) {sh : Option (List Bool)} (hs : shapeOf TT i = some sh) {vb : Bool} {a : MKey} {u : Value} (h1 : KR sh a u) (w : World) {es : List (MKey × Int)} {ents : List MapEntry} (h : EntsR vb sh es ents) :
    (Instr.findKey t u ents).run P w = .ok (fnd vb es a 0) w := by
  obtain ⟨info, de, z, ok⟩ := TI.fits_iff (hT _ _ ht)
  unfold Instr.findKey
  simp only [Sem.run_bind, ok.run_under w, Result.andThen_ok]
  cases hn : Instr.findNow de u ents 0 with
  | none => exact KR.asking hT ht hs h1 w 0 h
  | some r =>
    simp only [Sem.run_pure]
    congr 1
    unfold shapeOf at hs
    split at hs
    · rename_i hk
      cases hs
      have hde : de = .string := by
        have := ok.kin
        rw [hk] at this
        cases de <;> simp_all [TK.fits]
      subst hde
      rw [KR.now (sh := none) h1 0 h] at hn
      exact (Option.some.inj hn).symm
    · rename_i fs hk
      split at hs
      · split at hs
        · cases hs
          cases h1 with
          | agg c1 =>
          cases ents with
          | nil =>
            cases es with
            | nil => simp only [Instr.findNow, Option.some.injEq] at hn; rw [← hn]; rfl
            | cons => exact h.elim
          | cons e ents =>
            have : ∀ xs, Instr.sameNow de (.agg xs) e.key = none := by intro xs; cases de <;> rfl
            simp only [Instr.findNow, this] at hn
            cases hn
        · cases hs
      · cases hs
    · cases hs
theorem sameBits_cells (n : Nat) : ∀ {bs : List Bool} {a : MKey} {us : List Value}, CRs bs a us → ((us.zip us).all fun (x, y) => Instr.sameBits (n + 1) x y) = true
  | [], [], [], _ => rfl
  | [], [], _ :: _, h => h.elim
  | [], _ :: _, _, h => h.elim
  | _ :: _, [], _, h => h.elim
  | _ :: _, _ :: _, [], h => h.elim
  | _ :: bs, _ :: a, u :: us, h => by
    have ih := sameBits_cells n h.2
    have h1 := h.1
    simp only [List.zip_cons_cons, List.all_cons, Bool.and_eq_true]
    refine ⟨?_, ih⟩
    cases h1 with
    | int => simp [Instr.sameBits]
    | str e => simp [Instr.sameBits, bb_self]
theorem KR.stays {sh : Option (List Bool)} {a : MKey} {u v : Value} (h1 : KR sh a u) (h2 : KR sh a v) (w : World) : (Instr.keyThatStays u v).run P w = .ok v w := by
  have e := h1.inj h2
  subst e
  have : Instr.sameBits 10000 u u = true := by
    show Instr.sameBits (9998 + 1 + 1) u u = true
    generalize 9998 = n
    cases h1 with
    | one c => cases c; simp [Instr.sameBits, bb_self]
    | agg c => simp only [Instr.sameBits, beq_self_eq_true, Bool.true_and]; exact sameBits_cells n c
  simp [Instr.keyThatStays, this]
theorem fnd_none {vb : Bool} : ∀ {es : List (MKey × Int)} {x : MKey} {k : Nat}, fnd vb es x k = none → mget es x = 0 ∧ x ∉ es.map Prod.fst ∧ ∀ v, mput es x v = es ++ [(x, v)]
  | [], x, k, _ => ⟨rfl, by simp, fun v => rfl⟩
  | (y, n) :: es, x, k, h => by
    simp only [fnd] at h
    split at h
    · cases h
    · rename_i hx
      obtain ⟨h1, h2, h3⟩ := fnd_none h
      refine ⟨by simp [mget, hx, h1], by simp [hx]; simpa using h2, fun v => by simp [mput, hx, h3]⟩
theorem fnd_some {vb : Bool} : ∀ {es : List (MKey × Int)} {x : MKey} {k j : Nat} {u : Value}, fnd vb es x k = some (j, u) → u = mval vb (mget es x) ∧ x ∈ es.map Prod.fst ∧ ∃ i n, j = i + k ∧ es[i]? = some (x, n) ∧ ∀ v, mput es x v = es.set i (x, v)
  | [], x, k, j, u, h => by simp [fnd] at h
  | (y, n) :: es, x, k, j, u, h => by
    simp only [fnd] at h
    split at h
    · rename_i hx
      subst hx
      simp only [Option.some.injEq, Prod.mk.injEq] at h
      obtain ⟨rfl, rfl⟩ := h
      exact ⟨by simp [mget], by simp, 0, n, by omega, rfl, fun v => by simp [mput]⟩
    · rename_i hx
      obtain ⟨h1, h2, i, m, h3, h4, h5⟩ := fnd_some h
      refine ⟨by simp [mget, hx, h1], by simp only [List.map_cons, List.mem_cons]; exact .inr h2, i + 1, m, by omega, by simpa using h4, fun v => by simp [mput, hx, h5]⟩
theorem EntsR.get {vb : Bool} {sh : Option (List Bool)} : ∀ {es : List (MKey × Int)} {ents : List MapEntry} {i : Nat} {x : MKey} {n : Int}, EntsR vb sh es ents → es[i]? = some (x, n) → ∃ e, ents[i]? = some e ∧ KR sh x e.key
  | [], _, i, x, n, _, h => by simp at h
  | _ :: _, [], i, x, n, h, _ => h.elim
  | (y, m) :: es, e :: ents, 0, x, n, h, h2 => by
    simp only [List.getElem?_cons_zero, Option.some.injEq, Prod.mk.injEq] at h2
    obtain ⟨rfl, rfl⟩ := h2
    exact ⟨e, rfl, h.1.1⟩
  | _ :: es, _ :: ents, i + 1, x, n, h, h2 => by
    obtain ⟨e, h3, h4⟩ := EntsR.get (i := i) h.2 (by simpa using h2)
    exact ⟨e, by simpa using h3, h4⟩
theorem EntsR.push {vb : Bool} {sh : Option (List Bool)} {x : MKey} {n : Int} {e : MapEntry} (h : KR sh x e.key) (hv : e.val = mval vb n) : ∀ {es : List (MKey × Int)} {ents : List MapEntry}, EntsR vb sh es ents → EntsR vb sh (es ++ [(x, n)]) (ents ++ [e])
  | [], [], _ => ⟨⟨h, hv⟩, trivial⟩
  | [], _ :: _, h => h.elim
  | _ :: _, [], h => h.elim
  | _ :: _, _ :: _, h1 => ⟨h1.1, EntsR.push h hv h1.2⟩
theorem EntsR.set {vb : Bool} {sh : Option (List Bool)} {x : MKey} {n : Int} {e : MapEntry} (h : KR sh x e.key) (hv : e.val = mval vb n) : ∀ {es : List (MKey × Int)} {ents : List MapEntry} {i : Nat}, EntsR vb sh es ents → EntsR vb sh (es.set i (x, n)) (ents.set i e)
  | [], [], _, _ => trivial
  | [], _ :: _, _, h => h.elim
  | _ :: _, [], _, h => h.elim
  | _ :: _, _ :: _, 0, h1 => ⟨⟨h, hv⟩, h1.2⟩
  | _ :: _, _ :: _, i + 1, h1 => ⟨h1.1, EntsR.set h hv h1.2⟩
end Pf
/- Maps: the relation kept, and the operations as the machine does them. -/
namespace Pf
open Go
variable {P : Program} {TT : TypeId → Option TI}

theorem RelH.mem_ne {FM : FMem} {β : BMap} {H : AHeap} {w : World} (hh : RelH FM β H w) {b g n : Nat} {blk : ABlk} {row : Nat → List AV} {L : Loc} (h1 : H[b]? = some blk) (h2 : blk.view = some (g, n, row)) (h3 : β b g = some (some L)) {cb : Nat} {es : Array MapEntry} {cl : Nat}
    (h4 : w.heap[cb]? = some (.map es cl)) : L.cb ≠ cb ∧ L.cb < w.heap.size := by
  obtain ⟨lo, e, h⟩ := hh.mem b blk g n row h1 h2
  rw [h3] at e
  cases e
  have h : MemOk FM β w L n row := h
  refine ⟨fun e => ?_, h.lt⟩
  obtain ⟨c, ee, fr, c1, _⟩ := h.cells
  rw [e, h4] at c1
  cases c1
/-- A map is written. -/
theorem RelH.setMap {FM : FMem} {β : BMap} {H : AHeap} {w : World} (hh : RelH FM β H w) {b : Nat} {vb : Bool} {sh : Option (List Bool)} {es es' : List (MKey × Int)} {L : Loc} {ents : Array MapEntry} {clock : Nat} (hb : H[b]? = some (.mp vb sh es)) (hl : β b 0 = some (some L))
    (hw : w.heap[L.cb]? = some (.map ents clock)) {ents' : Array MapEntry} {clock' : Nat} (he : EntsR vb sh es' ents'.toList) :
    RelH FM β (H.set b (.mp vb sh es')) { w with heap := w.heap.setIfInBounds L.cb (.map ents' clock') } ∧ Ext FM β H w FM β (H.set b (.mp vb sh es')) { w with heap := w.heap.setIfInBounds L.cb (.map ents' clock') } := by
  have hlen : b < H.length := (List.getElem?_eq_some_iff.1 hb).1
  have hne : ∀ cb, cb ≠ L.cb → (w.heap.setIfInBounds L.cb (.map ents' clock'))[cb]? = w.heap[cb]? := fun cb h => by
    rw [Array.getElem?_setIfInBounds, if_neg (fun e => h e.symm)]
  have hself : (w.heap.setIfInBounds L.cb (.map ents' clock'))[L.cb]? = some (.map ents' clock') := by
    rw [Array.getElem?_setIfInBounds, if_pos rfl, if_pos (Array.getElem?_eq_some_iff.1 hw).1]
  have get : ∀ {b' : Nat} {blk : ABlk}, (H.set b (.mp vb sh es'))[b']? = some blk → (b' = b ∧ blk = .mp vb sh es') ∨ (b' ≠ b ∧ H[b']? = some blk) := by
    intro b' blk h
    rw [List.getElem?_set] at h
    by_cases e : b = b'
    · subst e
      rw [if_pos rfl, if_pos hlen] at h
      exact .inl ⟨rfl, (Option.some.inj h).symm⟩
    · rw [if_neg e] at h
      exact .inr ⟨fun h => e h.symm, h⟩
  have getv : ∀ {b' : Nat} {blk : ABlk} {g n : Nat} {row : Nat → List AV}, (H.set b (.mp vb sh es'))[b']? = some blk → blk.view = some (g, n, row) → H[b']? = some blk := by
    intro b' blk g n row h1 h2
    rcases get h1 with ⟨_, rfl⟩ | ⟨_, h⟩
    · cases h2
    · exact h
  refine ⟨⟨?_, ?_, ?_, ?_, ?_, hh.gk.at (hh.gk.tabw.keep fun hx _ => hne _ fun e => by
    obtain ⟨cs, el, fr, q1, _⟩ := hh.gk.tabw hx
    rw [e, hw] at q1; cases q1), ?_⟩, ⟨fun _ _ _ h => h, fun _ _ _ h => h, by simp, ?_, ?_, fun _ _ _ h => .inl h, by simp, rfl, rfl, rfl⟩⟩
  · intro b' blk g n row h1 h2
    have h1 := getv h1 h2
    obtain ⟨lo, e, h⟩ := hh.mem b' blk g n row h1 h2
    refine ⟨lo, e, ?_⟩
    cases lo with
    | none => exact h
    | some L' => exact MemOk.keep h (hne _ (hh.mem_ne h1 h2 e hw).1) (fun _ _ _ h => h)
  · intro b1 b2 k1 k2 g1 g2 n1 n2 row1 row2 L1 L2 h1 h2 h3 h4 h5 h6 h7
    exact hh.inj b1 b2 k1 k2 g1 g2 n1 n2 row1 row2 L1 L2 (getv h1 h2) h2 h3 (getv h4 h5) h5 h6 h7
  · intro b1 k1 g1 n1 row1 L1 h1 h2 h3
    exact hh.wid b1 k1 g1 n1 row1 L1 (getv h1 h2) h2 h3
  · intro cb o v h
    have hc := hh.fm cb o v h
    have : cb ≠ L.cb := by
      rintro rfl
      simp [World.cell?, hw] at hc
    rw [cell_congr (hne cb this)]
    exact hc
  · intro b1 g1 lo h
    obtain ⟨h1, h2⟩ := hh.dom b1 g1 lo h
    exact ⟨by simpa using h1, fun blk g' n row q1 q2 => h2 blk g' n row (getv q1 q2) q2⟩
  · refine ⟨fun b1 vb1 sh1 es1 h => ?_, fun b1 b2 vb1 vb2 sh1 sh2 es1 es2 L1 L2 h1 h2 h3 h4 h5 => ?_⟩
    · rcases get h with ⟨rfl, e⟩ | ⟨hn, h⟩
      · cases e
        exact ⟨L, hl, ents', clock', hself, he⟩
      · obtain ⟨L1, q1, ents1, cl1, q2, q3⟩ := hh.mp.lies b1 vb1 sh1 es1 h
        refine ⟨L1, q1, ents1, cl1, ?_, q3⟩
        rw [hne _ fun e => hn (hh.mp.inj b1 b vb1 vb sh1 sh es1 es L1 L h q1 hb hl e)]
        exact q2
    · have old : ∀ {b' : Nat} {vb' : Bool} {sh' : Option (List Bool)} {es1 : List (MKey × Int)}, (H.set b (.mp vb sh es'))[b']? = some (.mp vb' sh' es1) → ∃ vb2 sh2 es2, H[b']? = some (.mp vb2 sh2 es2) := by
        intro b' vb' sh' es1 h
        rcases get h with ⟨rfl, _⟩ | ⟨_, h⟩
        · exact ⟨_, _, _, hb⟩
        · exact ⟨_, _, _, h⟩
      obtain ⟨_, _, _, q1⟩ := old h1
      obtain ⟨_, _, _, q2⟩ := old h3
      exact hh.mp.inj b1 b2 _ _ _ _ _ _ L1 L2 q1 h2 q2 h4 h5
  · rintro cb _ ⟨b1, blk, g, n, row, L1, h1, h2, h3, h4⟩
    rcases get h1 with ⟨rfl, rfl⟩ | ⟨_, h1⟩
    · cases h2
      exact ⟨b1, _, 0, 0, _, L1, hb, rfl, h3, h4⟩
    · exact ⟨b1, blk, g, n, row, L1, h1, h2, h3, h4⟩
  · intro cb _ hi
    exact hne cb fun e => hi ⟨b, _, 0, 0, _, L, hb, rfl, hl, e.symm⟩
/-- A new map. -/
theorem RelH.newMap {FM : FMem} {β : BMap} {H : AHeap} {w : World} (hh : RelH FM β H w) (vb : Bool) (sh : Option (List Bool)) :
    RelH FM (updB β H.length 0 (some ⟨w.heap.size, 0, 1, 0⟩)) (H ++ [.mp vb sh []]) (w.alloc (.map #[] 0)) ∧ Ext FM β H w FM (updB β H.length 0 (some ⟨w.heap.size, 0, 1, 0⟩)) (H ++ [.mp vb sh []]) (w.alloc (.map #[] 0)) := by
  have hold : ∀ cb, cb < w.heap.size → (w.alloc (.map #[] 0)).heap[cb]? = w.heap[cb]? := fun cb h => alloc_heap w w _ rfl cb h
  have hnew : (w.alloc (.map #[] 0)).heap[w.heap.size]? = some (.map #[] 0) := by show (w.heap.push _)[w.heap.size]? = _; simp
  have hsub : ∀ b g lo, β b g = some lo → updB β H.length 0 (some ⟨w.heap.size, 0, 1, 0⟩) b g = some lo :=
    updB_sub (fun lo' e => absurd (hh.dom _ _ _ e).1 (Nat.lt_irrefl _))
  have hother : ∀ {b g : Nat}, b ≠ H.length → updB β H.length 0 (some ⟨w.heap.size, 0, 1, 0⟩) b g = β b g := fun h => by
    unfold updB; rw [if_neg (fun e => h e.1)]
  have get : ∀ {b' : Nat} {blk : ABlk}, (H ++ [.mp vb sh []])[b']? = some blk → (b' = H.length ∧ blk = .mp vb sh []) ∨ (b' < H.length ∧ H[b']? = some blk) := by
    intro b' blk h
    rcases Nat.lt_trichotomy b' H.length with hlt | rfl | hgt
    · rw [List.getElem?_append_left hlt] at h; exact .inr ⟨by omega, h⟩
    · simp at h; exact .inl ⟨rfl, h.symm⟩
    · rw [List.getElem?_eq_none (by simp; omega)] at h; cases h
  have getv : ∀ {b' : Nat} {blk : ABlk} {g n : Nat} {row : Nat → List AV}, (H ++ [.mp vb sh []])[b']? = some blk → blk.view = some (g, n, row) → b' ≠ H.length ∧ H[b']? = some blk := by
    intro b' blk g n row h1 h2
    rcases get h1 with ⟨_, rfl⟩ | ⟨hl, h⟩
    · cases h2
    · exact ⟨by omega, h⟩
  refine ⟨⟨?_, ?_, ?_, ?_, ?_, hh.gk.at (hh.gk.tabw.keep fun _ hlt => hold _ hlt), ?_⟩, ⟨fun _ _ _ h => h, hsub, by rw [alloc_size]; omega, ?_, fun cb h _ => hold cb h, fun _ _ _ h => .inl h, by simp, rfl, rfl, rfl⟩⟩
  · intro b' blk g n row h1 h2
    have ⟨hn, h1⟩ := getv h1 h2
    obtain ⟨lo, e, h⟩ := hh.mem b' blk g n row h1 h2
    refine ⟨lo, hsub _ _ _ e, ?_⟩
    cases lo with
    | none => exact h
    | some L' => exact MemOk.keep h (hold _ (MemOk.lt h)) hsub
  · intro b1 b2 k1 k2 g1 g2 n1 n2 row1 row2 L1 L2 h1 h2 h3 h4 h5 h6 h7
    have ⟨m1, h1⟩ := getv h1 h2
    have ⟨m2, h4⟩ := getv h4 h5
    rw [hother m1] at h3
    rw [hother m2] at h6
    exact hh.inj b1 b2 k1 k2 g1 g2 n1 n2 row1 row2 L1 L2 h1 h2 h3 h4 h5 h6 h7
  · intro b1 k1 g1 n1 row1 L1 h1 h2 h3
    have ⟨m1, h1⟩ := getv h1 h2
    rw [hother m1] at h3
    exact hh.wid b1 k1 g1 n1 row1 L1 h1 h2 h3
  · intro cb o v h
    have hc := hh.fm cb o v h
    rw [cell_congr (hold cb (cell_lt hc))]
    exact hc
  · intro b1 g1 lo h
    by_cases hb : b1 = H.length
    · subst hb
      refine ⟨by simp, fun blk g' n row q1 q2 => absurd rfl (getv q1 q2).1⟩
    · rw [hother hb] at h
      obtain ⟨h1, h2⟩ := hh.dom b1 g1 lo h
      exact ⟨by simp; omega, fun blk g' n row q1 q2 => h2 blk g' n row (getv q1 q2).2 q2⟩
  · refine ⟨fun b1 vb1 sh1 es1 h => ?_, fun b1 b2 vb1 vb2 sh1 sh2 es1 es2 L1 L2 h1 h2 h3 h4 h5 => ?_⟩
    · rcases get h with ⟨rfl, e⟩ | ⟨hn, h⟩
      · cases e
        exact ⟨_, updB_self _ _ _ _, #[], 0, hnew, trivial⟩
      · obtain ⟨L1, q1, ents1, cl1, q2, q3⟩ := hh.mp.lies b1 vb1 sh1 es1 h
        exact ⟨L1, hsub _ _ _ q1, ents1, cl1, by rw [hold _ (Array.getElem?_eq_some_iff.1 q2).1]; exact q2, q3⟩
    · have lt : ∀ {b' : Nat} {vb' : Bool} {sh' : Option (List Bool)} {es1 : List (MKey × Int)} {L' : Loc}, H[b']? = some (.mp vb' sh' es1) → β b' 0 = some (some L') → L'.cb < w.heap.size := by
        intro b' vb' sh' es1 L' q1 q2
        obtain ⟨L2, q3, e2, c2, q4, _⟩ := hh.mp.lies b' vb' sh' es1 q1
        rw [q2] at q3
        cases q3
        exact (Array.getElem?_eq_some_iff.1 q4).1
      rcases get h1 with ⟨rfl, e⟩ | ⟨m1, h1⟩ <;> rcases get h3 with ⟨rfl, e'⟩ | ⟨m2, h3⟩
      · rfl
      · rw [updB_self] at h2
        cases h2
        rw [hother (by omega)] at h4
        have := lt h3 h4
        simp only at h5
        omega
      · rw [updB_self] at h4
        cases h4
        rw [hother (by omega)] at h2
        have := lt h1 h2
        simp only at h5
        omega
      · rw [hother (by omega)] at h2
        rw [hother (by omega)] at h4
        exact hh.mp.inj b1 b2 _ _ _ _ _ _ L1 L2 h1 h2 h3 h4 h5
  · rintro cb hcb ⟨b1, blk, g, n, row, L1, h1, h2, h3, h4⟩
    rcases get h1 with ⟨rfl, rfl⟩ | ⟨m1, h1⟩
    · cases h2
      rw [updB_self] at h3
      cases h3
      simp only at h4
      omega
    · rw [hother (by omega)] at h3
      exact ⟨b1, blk, g, n, row, L1, h1, h2, h3, h4⟩

/-! ### Structs held against each other -/
theorem keyCells_shape : ∀ {fs : List (Nat × TypeId)} {cs : List AV} {k : MKey}, keyCells TT fs cs = some k → ∃ bs, cellShape TT fs = some bs
  | [], [], k, h => ⟨[], rfl⟩
  | [], _ :: _, k, h => by simp [keyCells] at h
  | _ :: _, [], k, h => by simp [keyCells] at h
  | (o, ft) :: fs, v :: cs, k, h => by
    simp only [keyCells] at h
    simp only [cellShape]
    cases hj : TT ft with
    | none => simp [hj] at h
    | some j =>
      simp only [hj] at h ⊢
      split at h
      · rename_i kk n hk
        split at h
        · rename_i ks hks
          obtain ⟨bs, hb⟩ := keyCells_shape hks
          exact ⟨false :: bs, by simp [hk, hb]⟩
        · cases h
      · rename_i s hk
        split at h
        · rename_i ks hks
          obtain ⟨bs, hb⟩ := keyCells_shape hks
          exact ⟨true :: bs, by simp [hk, hb]⟩
        · cases h
      · cases h
theorem keyOfV_shape {i : TI} {v : AV} {k : MKey} (h : keyOfV TT i v = some k) : ∃ sh, shapeOf TT i = some sh := by
  unfold keyOfV at h
  unfold shapeOf
  split at h
  · rename_i hk
    exact ⟨none, by simp [hk]⟩
  · rename_i fs cs hk
    split at h
    · rename_i he
      obtain ⟨bs, hb⟩ := keyCells_shape h
      exact ⟨some bs, by simp [hk, he, hb]⟩
    · cases h
  · cases h
theorem eqvOp_good (hT : TTok P TT) {op : BinOp} {t : TypeId} {i : TI} (hi : TT t = some i) {cs ds : List AV} {cx cy : Value} {FM : FMem} {β : BMap} {H : AHeap} {w : World} (hx : VR FM β (.agg cs) cx) (hy : VR FM β (.agg ds) cy) (hh : RelH FM β H w) {X Y : Operand} :
    (eqvOp TT op i (.agg cs) (.agg ds) H).good fun u H' => SimV ((do eqGuard op t X Y cx cy; binOp op t cx cy : Sem Value).run P w) FM β H w u H' := by
  obtain ⟨info, de, z, ok⟩ := TI.fits_iff (hT _ _ hi)
  unfold eqvOp
  split
  · rename_i a b ha hb
    obtain ⟨sh, hs⟩ := keyOfV_shape ha
    have ka := keyOfV_ok ha hs hx
    have kb := keyOfV_ok hb hs hy
    have he := KR.eq_run hT hi hs ka kb w
    have hg : (eqGuard op t X Y cx cy).run P w = .ok () w := by
      have hp : P.eqGuardType P.depth t = false := by
        unfold keyOfV at ha
        split at ha
        · rename_i hv; cases hv
        · rename_i fs cs' hk hv
          split at ha
          · rename_i hq
            have := ok.eqp hq
            unfold eqPlain at this
            split at this
            · simp only [Bool.and_eq_true, Bool.not_eq_true'] at this
              exact this.2
            · cases this
          · cases ha
        · cases ha
      cases hx with
      | agg h1 _ =>
      cases hy with
      | agg h2 _ => exact run_eqGuard_agg w op t X Y _ _ hp
    cases hx with
    | agg h1 _ =>
    cases hy with
    | agg h2 _ =>
    split
    · exact SimV.same (cv := .bool (decide (a = b))) (by simp only [Sem.run_bind, hg, Result.andThen_ok]; simp [binOp, he]) (.pr (by simp)) hh
    · exact SimV.same (cv := .bool (!decide (a = b))) (by simp only [Sem.run_bind, hg, Result.andThen_ok]; simp [binOp, he]) (.pr (by simp)) hh
    · trivial
  · trivial
/-! ### The operations -/
theorem kind_map {t : TypeId} {i : TI} {info : TypeInfo} {d : TypeDesc} {z : Value} (ok : TIok P t i info d z) {k e : TypeId} (hk : i.kind = .map k e) : P.underlying t = some (.map k e) := by
  have hi := ok.kin
  rw [hk] at hi
  have hd := ok.des
  cases d <;> simp [TK.fits] at hi
  obtain ⟨rfl, rfl⟩ := hi
  exact hd
theorem makeMapOp_good {i : TI} {t : TypeId} {FM : FMem} {β : BMap} {H : AHeap} {w : World} (hh : RelH FM β H w) : (makeMapOp TT i H).good fun u H' => SimV ((Instr.makeMap t none).run P w) FM β H w u H' := by
  have hr : (Instr.makeMap t none).run P w = .ok (.map (some w.heap.size)) (w.alloc (.map #[] 0)) := by simp [Instr.makeMap]
  have key : ∀ vb sh, (newB (fun b => .mp b) (.mp vb sh []) H).good fun u H' => SimV ((Instr.makeMap t none).run P w) FM β H w u H' := by
    intro vb sh
    rw [newB_eq]
    obtain ⟨h1, h2⟩ := hh.newMap vb sh
    exact ⟨_, _, FM, _, hr, VR.mp (L := ⟨w.heap.size, 0, 1, 0⟩) (updB_self _ _ _ _), h1, h2⟩
  unfold makeMapOp
  split
  · split
    · split
      · exact key _ _
      · exact key _ _
      · trivial
    · trivial
  · trivial
theorem map_block {FM : FMem} {β : BMap} {H : AHeap} {w : World} (hh : RelH FM β H w) {b : Nat} {vb : Bool} {sh : Option (List Bool)} {es : List (MKey × Int)} (hb : nthM H b = some (.mp vb sh es)) {cm : Value} (hm : VR FM β (.mp b) cm) :
    ∃ L ents clock, cm = .map (some L.cb) ∧ H[b]? = some (.mp vb sh es) ∧ β b 0 = some (some L) ∧ w.heap[L.cb]? = some (.map ents clock) ∧ EntsR vb sh es ents.toList := by
  rw [nthM_eq] at hb
  cases hm with
  | mp hl =>
    rename_i L
    obtain ⟨L', q1, ents, cl, q2, q3⟩ := hh.mp.lies b vb sh es hb
    rw [hl] at q1
    cases q1
    exact ⟨L, ents, cl, rfl, hb, hl, q2, q3⟩
/-- Does a map hold this key? -/
def mhas : List (MKey × Int) → MKey → Bool
  | [], _ => false
  | (k, _) :: es, x => if x = k then true else mhas es x
theorem mhas_iff : ∀ {es : List (MKey × Int)} {x : MKey}, mhas es x = true ↔ x ∈ es.map Prod.fst
  | [], x => by simp [mhas]
  | (k, n) :: es, x => by
    simp only [mhas, List.map_cons, List.mem_cons]
    by_cases h : x = k
    · simp [h]
    · rw [if_neg h, mhas_iff]
      exact ⟨.inr, fun q => q.resolve_left h⟩
theorem lookup_run (hT : TTok P TT) {t k e : TypeId} (hu : P.underlying t = some (.map k e)) {j l : TI} (hj : TT k = some j) (hl : TT e = some l) {sh : Option (List Bool)} (hs : shapeOf TT j = some sh) {vb : Bool} (hv : (vb = true ∧ l.kind = .bool) ∨ (vb = false ∧ l.kind = .int .i64))
    {w : World} {r : Nat} {ents : Array MapEntry} {clock : Nat} (hr : w.heap[r]? = some (.map ents clock)) {es : List (MKey × Int)} (he : EntsR vb sh es ents.toList) {a : MKey} {u : Value} (hk : KR sh a u) (c : Bool) :
    (Instr.lookup t (.map (some r)) u c).run P w = .ok (if c then .tuple #[mval vb (mget es a), .bool (mhas es a)] else mval vb (mget es a)) w := by
  obtain ⟨info, de, z, ok⟩ := TI.fits_iff (hT _ _ hl)
  have hz : z = mval vb 0 := by
    have := ok.kz
    rcases hv with ⟨rfl, h⟩ | ⟨rfl, h⟩ <;> rw [h] at this
    · cases z <;> simp [kindZero] at this
      subst this; rfl
    · cases z <;> simp [kindZero] at this
      obtain ⟨rfl, rfl⟩ := this; rfl
  have h1 := KR.check hT hj hs hk ents.isEmpty w
  have h2 := KR.find hT hj hs hk w he
  cases hf : fnd vb es a 0 with
  | none =>
    rw [hf] at h2
    obtain ⟨q1, q2, _⟩ := fnd_none hf
    simp only [Instr.lookup, Sem.run_bind, run_underlying hu, Result.andThen_ok, MapKept.run_getObj_map hr, h1, h2, ok.run_zero w, Sem.run_pure, q1, hz]
    have q3 : mhas es a = false := by cases h : mhas es a with | false => rfl | true => exact absurd (mhas_iff.1 h) q2
    cases c <;> simp [q3]
  | some p =>
    obtain ⟨j', v⟩ := p
    rw [hf] at h2
    obtain ⟨rfl, q2, _⟩ := fnd_some hf
    simp only [Instr.lookup, Sem.run_bind, run_underlying hu, Result.andThen_ok, MapKept.run_getObj_map hr, h1, h2, Sem.run_pure]
    have q3 : mhas es a = true := mhas_iff.2 q2
    cases c <;> simp [q3]
theorem lookV_vr {FM : FMem} {β : BMap} (vb c : Bool) (es : List (MKey × Int)) (a : MKey) : VR FM β (lookV vb c es a) (if c then .tuple #[mval vb (mget es a), .bool (mhas es a)] else mval vb (mget es a)) := by
  have hb : VR FM β (.pr (mget es a ≠ 0)) (mval true (mget es a)) := by unfold mval; exact .pr (by simp)
  have hi : VR FM β (.int .i64 (mget es a)) (mval false (mget es a)) := by unfold mval; exact .int
  have ho : VR FM β (.pr (a ∈ es.map Prod.fst)) (.bool (mhas es a)) := .pr mhas_iff
  cases vb <;> cases c
  · exact hi
  · exact .tup rfl fun i h => by
      match i, h with
      | 0, _ => exact hi
      | 1, _ => exact ho
  · exact hb
  · exact .tup rfl fun i h => by
      match i, h with
      | 0, _ => exact hb
      | 1, _ => exact ho
theorem lookupOp_good (hT : TTok P TT) {t : TypeId} {i : TI} (hi : TT t = some i) {m x : AV} {cm cx : Value} {c : Bool} {FM : FMem} {β : BMap} {H : AHeap} {w : World} (hm : VR FM β m cm) (hx : VR FM β x cx) (hh : RelH FM β H w) :
    (lookupOp TT i m x c H).good fun u H' => SimV ((Instr.lookup t cm cx c).run P w) FM β H w u H' := by
  obtain ⟨info, de, z, ok⟩ := TI.fits_iff (hT _ _ hi)
  unfold lookupOp
  split
  · rename_i k e b hk
    have hu := kind_map ok hk
    split
    · rename_i j l vb sh es hj hl hb
      obtain ⟨L, ents, clock, rfl, _, _, q2, q3⟩ := map_block hh hb hm
      split
      · rename_i key sh' hkey hsh
        split
        · have hs := sameShape_eq (by assumption : sameShape sh sh' = true)
          subst hs
          exact SimV.same (lookup_run hT hu hj hl hsh (.inl ⟨rfl, by assumption⟩) q2 q3 (keyOfV_ok hkey hsh hx) c) (lookV_vr _ _ _ _) hh
        · have hs := sameShape_eq (by assumption : sameShape sh sh' = true)
          subst hs
          exact SimV.same (lookup_run hT hu hj hl hsh (.inr ⟨rfl, by assumption⟩) q2 q3 (keyOfV_ok hkey hsh hx) c) (lookV_vr _ _ _ _) hh
        · trivial
      · trivial
    · trivial
  · trivial
theorem update_run (hT : TTok P TT) {t k e : TypeId} (hu : P.underlying t = some (.map k e)) {j : TI} (hj : TT k = some j) {sh : Option (List Bool)} (hs : shapeOf TT j = some sh) {vb : Bool} {w : World} {r : Nat} {ents : Array MapEntry} {clock : Nat} (hr : w.heap[r]? = some (.map ents clock))
    {es : List (MKey × Int)} (he : EntsR vb sh es ents.toList) {a : MKey} {u : Value} (hk : KR sh a u) (n : Int) :
    ∃ ents' clock', (Instr.mapUpdate t (.map (some r)) u (mval vb n)).run P w = .ok () { w with heap := w.heap.setIfInBounds r (.map ents' clock') } ∧ EntsR vb sh (mput es a n) ents'.toList := by
  have h1 := KR.check hT hj hs hk false w
  have h2 := KR.find hT hj hs hk w he
  cases hf : fnd vb es a 0 with
  | none =>
    rw [hf] at h2
    obtain ⟨_, _, q3⟩ := fnd_none hf
    refine ⟨ents.push ⟨u, mval vb n, clock⟩, clock + 1, ?_, ?_⟩
    · simp [Instr.mapUpdate, run_underlying hu, MapKept.run_getObj_map hr, h1, h2, MapKept.run_setObj_map _ hr, Result.andThen]
    · rw [q3, Array.toList_push]
      exact EntsR.push hk rfl he
  | some p =>
    obtain ⟨j', v⟩ := p
    rw [hf] at h2
    obtain ⟨_, _, i, m, hij, q3, q4⟩ := fnd_some hf
    have hji : j' = i := by omega
    subst hji
    clear hij
    obtain ⟨e0, q5, q6⟩ := he.get q3
    have q7 : ents[j']? = some e0 := by simpa using q5
    refine ⟨ents.modify j' fun e => { e with key := u, val := mval vb n }, clock, ?_, ?_⟩
    · simp [Instr.mapUpdate, run_underlying hu, MapKept.run_getObj_map hr, h1, h2, MapKept.run_setObj_map _ hr, Result.andThen, q7, KR.stays q6 hk]
    · rw [q4, Array.toList_modify, show ents.toList.modify j' (fun e => { e with key := u, val := mval vb n }) = ents.toList.set j' { e0 with key := u, val := mval vb n } from ?_]
      · exact EntsR.set (e := { e0 with key := u, val := mval vb n }) hk rfl he
      · apply List.ext_getElem?
        intro s
        rw [List.getElem?_modify, List.getElem?_set]
        by_cases hs : j' = s
        · subst hs
          have hlt : j' < ents.toList.length := (List.getElem?_eq_some_iff.1 q5).1
          rw [q5]
          simp only [if_true, hlt]
          rfl
        · simp [hs]
theorem updateOp_good (hT : TTok P TT) {t : TypeId} {i : TI} (hi : TT t = some i) {m x v : AV} {cm cx cv : Value} {FM : FMem} {β : BMap} {H : AHeap} {w : World} (hm : VR FM β m cm) (hx : VR FM β x cx) (hv : VR FM β v cv) (hh : RelH FM β H w) :
    (updateOp TT i m x v H).good fun u H' => u = .tup [] ∧ ∃ w', (Instr.mapUpdate t cm cx cv).run P w = .ok () w' ∧ RelH FM β H' w' ∧ Ext FM β H w FM β H' w' := by
  obtain ⟨info, de, z, ok⟩ := TI.fits_iff (hT _ _ hi)
  unfold updateOp
  split
  · rename_i k e b hk
    have hu := kind_map ok hk
    split
    · rename_i j vb sh es hj hb
      obtain ⟨L, ents, clock, rfl, p1, p2, q2, q3⟩ := map_block hh hb hm
      have key : ∀ (key : MKey), KR sh key cx → shapeOf TT j = some sh → ∀ n, cv = mval vb n → (putB (.tup []) b (.mp vb sh (mput es key n)) H).good fun u H' => u = .tup [] ∧ ∃ w', (Instr.mapUpdate t (.map (some L.cb)) cx cv).run P w = .ok () w' ∧ RelH FM β H' w' ∧ Ext FM β H w FM β H' w' := by
        rintro key hkey hsh n rfl
        obtain ⟨ents', clock', r1, r2⟩ := update_run hT hu hj hsh q2 q3 hkey n
        rw [putB_eq _ _ _ _ (List.getElem?_eq_some_iff.1 p1).1]
        obtain ⟨s1, s2⟩ := hh.setMap p1 p2 q2 (clock' := clock') r2
        exact ⟨rfl, _, r1, s1, s2⟩
      split
      · rename_i key' sh' hkey hsh
        split
        · rename_i h1
          have hs := sameShape_eq h1
          subst hs
          cases hv
          exact key _ (keyOfV_ok hkey hsh hx) hsh 1 rfl
        · rename_i h1
          have hs := sameShape_eq h1
          subst hs
          cases hv
          exact key _ (keyOfV_ok hkey hsh hx) hsh 0 rfl
        · rename_i n h1
          have hs := sameShape_eq h1
          subst hs
          cases hv
          exact key _ (keyOfV_ok hkey hsh hx) hsh n rfl
        · trivial
      · trivial
    · trivial
  · trivial
end Pf
/- Slices made, appended to, copied, cut; places in them. -/
namespace Pf
open Go
variable {P : Program} {TT : TypeId → Option TI}

theorem makeSliceOp_good (hT : TTok P TT) {t : TypeId} {i : TI} {info : TypeInfo} {d : TypeDesc} {z : Value} (ht : TIok P t i info d z) {FM : FMem} {β : BMap} {H : AHeap} {w : World} (hh : RelH FM β H w)
    {kl kc : IntKind} {l c : Int} : (makeSliceOp TT i l c H).good fun u H' => SimV ((Instr.makeSlice t (.int kl l) (.int kc c)).run P w) FM β H w u H' := by
  have hk := ht.kin
  unfold makeSliceOp
  split
  · rename_i e hkk
    rw [hkk] at hk
    cases d <;> simp only [TK.fits, Bool.false_eq_true, beq_iff_eq] at hk
    subst hk
    cases hte : TT e with
    | none => trivial
    | some j =>
      simp only
      obtain ⟨info', d', z', ok⟩ := TI.fits_iff (hT _ _ hte)
      have hzv := zerosFit_vrs (FM := FM) (β := β) ok.zeros
      have fin : ∀ (blk : ABlk) (row : Nat → List AV), 0 < j.size → blk.view = some (0, l.toNat, row) → (∀ r, r < l.toNat → row r = j.zero) → j.size = blk.width →
          (0 ≤ l ∧ l ≤ c ∧ c * j.bytes ≤ 140737488355328 ∧ c ≤ 9223372036854775807) →
          SimV ((Instr.makeSlice t (.int kl l) (.int kc c)).run P w) FM β H w (.sl H.length 0 0 l.toNat) (H ++ [blk]) := by
        rintro blk row hj0 hv he hw ⟨h0, h1, h2, h3⟩
        have hrun := run_make (P := P) w t e info' z' ht.des ok.inf ok.zer kl kc l c h0 h1 (by rw [ok.byt, Int.mul_comm]; omega) h3
        have ex := hh.alloc (w1 := w) rfl rfl rfl rfl (c := madeCells z'.cells (c.toNat * info'.size)) (elem := e) (blk1 := blk) (nr := c.toNat) (sz := j.size) hv hj0
          (by rw [size_madeCells, ok.siz]) (made_one (zerosFit_one ok.zeros) (by rw [ok.zsize]; exact hj0)) (by omega) hw (fun r hr => by
            have hl1 : j.zero.length = j.size := by have := hzv.1; have := ok.zsize; simp at *; omega
            rw [he r hr]
            refine ⟨hl1, fun k hk => ?_⟩
            rw [ok.siz, made_get ok.zsize (by omega) (by omega)]
            exact hzv.get k hk)
        refine ⟨_, _, FM, _, hrun, ?_, ex.1, ex.2⟩
        by_cases hc0 : c.toNat = 0
        · have hl0 : l.toNat = 0 := by omega
          rw [hl0, hc0]
          exact sl_new0
        · exact sl_new (by omega) (by omega)
      split
      · trivial
      · rename_i s hs
        split
        · rename_i k hkj
          simp only [newB_eq, withC, St.good]
          exact fin _ _ (by omega) (by simp only [ABlk.view, List.length_replicate]; rfl) (fun r hr => by
            rw [hkj]
            simp [List.getD_eq_getElem?_getD, hr]) (by
            have h1 := hzv.1
            have h2 := ok.zsize
            rw [hkj] at h1
            simp only [ABlk.width]
            simp at h1
            omega)
        · simp only [newB_eq, withC, St.good]
          exact fin _ _ (by omega) rfl (fun r hr => rfl) (by
            have h1 := hzv.1
            have h2 := ok.zsize
            simp only [ABlk.width]
            simp at h1
            omega)
  · trivial

end Pf
/- Slices appended to. -/
namespace Pf
open Go
variable {P : Program} {TT : TypeId → Option TI}

/-- What is appended, row by row. -/
structure SrcR (P : Program) (FM : FMem) (β : BMap) (w : World) (sz : Nat) (tx : TypeId) (x : Value) (n : Nat) (row : Nat → List AV) (news : List Value) : Prop where
  src : Src P sz tx x n news w
  rel : ∀ r, r < n → (row r).length = sz ∧ ∀ j (h : j < (row r).length), ∃ cv, news[r * sz + j]? = some cv ∧ VR FM β (row r)[j] cv

def condO : Option Prop → Prop
  | none => True
  | some D => D
theorem withC_ok {C : Prop} {c : Option Prop} {v : AV} {H : AHeap} {Q : AV → AHeap → Prop} (h : C → condO c → Q v H) : (withC C c (.ok v H)).good Q := by
  cases c with
  | none => exact fun hc => h hc trivial
  | some D => exact fun hc => h hc.1 hc.2

/-- A piece of the model's memory as a list. -/
theorem piece {w : World} {cb o n : Nat} {f : Nat → Value} (h : ∀ k, k < n → w.cell? ⟨cb, o + k, none⟩ = some (f k)) :
    ∀ j v, ((List.range n).map f)[j]? = some v → w.cell? ((⟨cb, o, none⟩ : Addr).add j) = some v := by
  intro j v hj
  rw [addr_add]
  simp only [List.getElem?_map] at hj
  by_cases hjn : j < n
  · rw [List.getElem?_range hjn] at hj
    simp only [Option.map_some, Option.some.injEq] at hj
    rw [h j hjn, hj]
  · rw [List.getElem?_eq_none (by simp; omega)] at hj
    cases hj

theorem SrcR.of_cells {FM : FMem} {β : BMap} {w : World} {sz cb o n cap : Nat} {tx e' : TypeId} {row : Nat → List AV} (hk : P.underlying tx = some (.slice e')) (hz : 0 < sz)
    (h : ∀ r, r < n → (row r).length = sz ∧ ∀ j (h : j < (row r).length), ∃ cv, w.cell? ⟨cb, o + r * sz + j, none⟩ = some cv ∧ cv.oneCell' = true ∧ VR FM β (row r)[j] cv) :
    ∃ news, SrcR P FM β w sz tx (.slice (some ⟨cb, o, none⟩) n cap) n row news := by
  let f : Nat → Value := fun k => (w.cell? ⟨cb, o + k, none⟩).getD undef
  have hdiv : ∀ k, k < n * sz → k / sz < n ∧ k % sz < sz ∧ k = k / sz * sz + k % sz := by
    intro k hk
    refine ⟨Nat.div_lt_of_lt_mul (by rwa [Nat.mul_comm] at hk), Nat.mod_lt _ hz, ?_⟩
    rw [Nat.mul_comm]; exact (Nat.div_add_mod k sz).symm
  have hcell : ∀ k, k < n * sz → w.cell? ⟨cb, o + k, none⟩ = some (f k) ∧ (f k).oneCell' = true := by
    intro k hk
    obtain ⟨h1, h2, h3⟩ := hdiv k hk
    obtain ⟨l1, l2⟩ := h _ h1
    obtain ⟨cv, m1, m2, m3⟩ := l2 (k % sz) (by omega)
    have e : o + k = o + k / sz * sz + k % sz := by omega
    simp only [f]
    rw [e, m1]
    exact ⟨rfl, m2⟩
  refine ⟨(List.range (n * sz)).map f, Src.ofSlice w hk _ n cap _ (by simp) (piece fun k hk => (hcell k hk).1) ?_, fun r hr => ?_⟩
  · intro u hu
    obtain ⟨k, hk, rfl⟩ := List.mem_map.1 hu
    exact (hcell k (List.mem_range.1 hk)).2
  · obtain ⟨l1, l2⟩ := h r hr
    refine ⟨l1, fun j hj => ?_⟩
    obtain ⟨cv, m1, m2, m3⟩ := l2 j hj
    have hlt : r * sz + j < n * sz := by
      have : (r + 1) * sz ≤ n * sz := Nat.mul_le_mul_right _ hr
      rw [Nat.add_mul, Nat.one_mul] at this
      omega
    refine ⟨cv, ?_, m3⟩
    simp only [List.getElem?_map, List.getElem?_range hlt, Option.map_some, f]
    rw [← Nat.add_assoc, m1]
    rfl

theorem SrcR.none {FM : FMem} {β : BMap} {w : World} {sz cap : Nat} {tx e' : TypeId} {a : Option Addr} {row : Nat → List AV} (hk : P.underlying tx = some (.slice e')) :
    ∃ news, SrcR P FM β w sz tx (.slice a 0 cap) 0 row news := by
  cases a with
  | none => exact ⟨[], Src.ofNil w hk cap, fun r hr => by omega⟩
  | some a => exact ⟨[], Src.ofSlice w hk a 0 cap [] (by simp) (by simp) (by simp), fun r hr => by omega⟩

theorem MemOk.cell_one {FM : FMem} {β : BMap} {w : World} {L : Loc} {n : Nat} {row : Nat → List AV} (h : MemOk FM β w L n row) {o : Nat} {cv : Value} (hc : w.cell? ⟨L.cb, o, none⟩ = some cv) : cv.oneCell' = true := by
  obtain ⟨c, e, fr, h1, _, _, h2, _⟩ := h.cells
  rw [cell_of_heap h1] at hc
  exact h2 o cv hc

theorem VR.view_src {FM : FMem} {β : BMap} {H : AHeap} {w : World} (hh : RelH FM β H w) {b g len n sz : Nat} {blk : ABlk} {row : Nat → List AV} {cx : Value} {tx e' : TypeId}
    (hk : P.underlying tx = some (.slice e')) (hz : 0 < sz) (hx : VR FM β (.sl b g 0 len) cx) (hb : H[b]? = some blk) (hv : blk.view = some (g, n, row)) (hle : len ≤ n)
    (hsz : ∀ r, r < len → (row r).length = sz) : ∃ news, SrcR P FM β w sz tx cx len row news := by
  cases hx with
  | sl hl hs hr hc hp =>
    rename_i cap L
    have hm := hh.at hb hv hl
    have hs0 : L.sh = 0 := by omega
    have hLs : ∀ r, r < len → L.sz = sz := by
      intro r hr'
      obtain ⟨_, _, _, _, _, _, _, g4⟩ := hm.cells
      have := (g4 r (by omega) (by omega)).1
      rw [hsz r hr'] at this
      exact this.symm
    have := SrcR.of_cells (P := P) (FM := FM) (β := β) (w := w) (cb := L.cb) (o := (0 - L.sh) * L.sz) (n := len) (cap := cap) (row := row) hk hz (fun r hr' => ⟨hsz r hr', fun j hj => by
      obtain ⟨cv, m1, m2⟩ := hm.row (r := r) (by omega) (by omega) j hj
      have e := hLs r hr'
      refine ⟨cv, ?_, hm.cell_one m1, m2⟩
      rw [hs0, e] at m1
      rw [hs0]
      simpa using m1⟩)
    exact this
  | sl0 hl hs => exact SrcR.none hk

theorem intsOf_src {FM : FMem} {β : BMap} {H : AHeap} {w : World} (hh : RelH FM β H w) {x : AV} {cx : Value} (hx : VR FM β x cx) {k : IntKind} {l : List Int} {c : Option Prop} (h : intsOf x H = some (k, l, c))
    (hc : condO c) {tx e' : TypeId} (hk : P.underlying tx = some (.slice e')) : ∃ news, SrcR P FM β w 1 tx cx l.length (fun i => [.int k (l.getD i 0)]) news := by
  unfold intsOf at h
  split at h
  · simp only [Option.some.injEq, Prod.mk.injEq] at h
    obtain ⟨rfl, rfl, rfl⟩ := h
    cases hx with
    | fi0 => exact SrcR.none hk
    | fi hcap hm =>
      refine SrcR.of_cells hk (by omega) fun r hr => ⟨rfl, fun j hj => ?_⟩
      have hj0 : j = 0 := by simpa using hj
      subst hj0
      exact ⟨_, by simpa using hh.fm _ _ _ (hm r hr), rfl, .int⟩
  · rename_i b g len
    rw [nthM_eq] at h
    split at h
    · rename_i g' k' l' hb
      simp only [Option.some.injEq, Prod.mk.injEq] at h
      obtain ⟨rfl, rfl, rfl⟩ := h
      obtain ⟨rfl, rfl⟩ := hc
      exact VR.view_src hh hk (by omega) hx hb rfl (Nat.le_refl _) (fun r hr => rfl)
    · cases h
  · cases h

theorem rowsOf_src {FM : FMem} {β : BMap} {H : AHeap} {w : World} (hh : RelH FM β H w) {x : AV} {cx : Value} (hx : VR FM β x cx) {n : Nat} {row : Nat → List AV} {c : Option Prop} (h : rowsOf x H = some (n, row, c))
    (hc : condO c) {sz : Nat} (hz : 0 < sz) (hsz0 : (row 0).length = sz) {tx e' : TypeId} (hk : P.underlying tx = some (.slice e')) : ∃ news, SrcR P FM β w sz tx cx n row news ∧ ∀ r, r < n → (row r).length = sz := by
  unfold rowsOf at h
  split at h
  · simp only [Option.some.injEq, Prod.mk.injEq] at h
    obtain ⟨rfl, rfl, rfl⟩ := h
    cases hx with
    | fz0 =>
      rename_i row a cap
      obtain ⟨news, h⟩ := SrcR.none (P := P) (FM := FM) (β := β) (w := w) (sz := sz) (row := row) hk
      exact ⟨news, h, fun r hr => by omega⟩
    | fz cv hz' hcap hl hm ho hv =>
      rename_i n row cb o s cap
      have hsz : ∀ r, r < n → (row r).length = sz := fun r hr => by rw [hl r hr, ← hl 0 (by omega), hsz0]
      have hss : ∀ r, r < n → s = sz := fun r hr => by rw [← hl r hr, hsz r hr]
      obtain ⟨news, h⟩ := SrcR.of_cells (P := P) (FM := FM) (β := β) (w := w) (cb := cb) (o := o) (n := n) (cap := cap) (row := row) hk hz fun r hr => ⟨hsz r hr, fun j hj => by
        have e := hss r hr
        subst e
        have hj' : j < s := by rw [hl r hr] at hj; exact hj
        exact ⟨_, hh.fm _ _ _ (hm r j hr hj'), ho r j hr hj', (hv r j hr hj).mono (fun _ _ _ h => h) (fun _ _ _ h => by cases h)⟩⟩
      exact ⟨news, h, hsz⟩
  · rename_i b g len
    rw [nthM_eq] at h
    split at h
    · rename_i g' r0 hb
      simp only [Option.some.injEq, Prod.mk.injEq] at h
      obtain ⟨rfl, rfl, rfl⟩ := h
      obtain ⟨rfl, rfl⟩ := hc
      have := VR.view_src (P := P) hh hk hz hx hb rfl (Nat.le_refl _) (fun r hr => by
        have : r = 0 := by omega
        subst this
        simpa using hsz0)
      obtain ⟨news, k1, k2⟩ := this
      refine ⟨news, ⟨k1, fun r hr => ?_⟩, fun r hr => hsz0⟩
      have : r = 0 := by omega
      subst this
      simpa using k2 0 (by omega)
    · rename_i g' n' row' hb
      simp only [Option.some.injEq, Prod.mk.injEq] at h
      obtain ⟨rfl, rfl, rfl⟩ := h
      obtain ⟨rfl, rfl⟩ := hc
      have hsz : ∀ r, r < len → (row' r).length = sz := by
        intro r hr
        obtain ⟨lo, e1, e2⟩ := hh.mem b _ g' len row' hb rfl
        cases lo with
        | none => have : len = 0 := e2; omega
        | some L =>
          have hm : MemOk FM β w L len row' := e2
          have hL : L.sz = (row' 0).length := hh.wid b _ g' len row' L hb rfl e1
          obtain ⟨_, _, _, _, _, _, _, g4⟩ := hm.cells
          cases hx with
          | sl hl hs _ _ _ =>
            rw [e1] at hl
            cases hl
            rw [(g4 r (by omega) hr).1, hL, hsz0]
          | sl0 _ _ => omega
      obtain ⟨news, h⟩ := VR.view_src (P := P) hh hk hz hx hb rfl (Nat.le_refl _) hsz
      exact ⟨news, h, hsz⟩
    · cases h
  · cases h

end Pf
/- Appending, in place or to a new row. -/
namespace Pf
open Go
variable {P : Program} {TT : TypeId → Option TI}

theorem take_news_drop_get {ca : Array Value} {o : Nat} {news : List Value} (hb : o + news.length ≤ ca.size) (k : Nat) :
    ((ca.toList.take o ++ news ++ ca.toList.drop (o + news.length)).toArray)[k]? = if o ≤ k ∧ k < o + news.length then news[k - o]? else ca[k]? := by
  simp only [List.getElem?_toArray]
  by_cases h : o ≤ k ∧ k < o + news.length
  · rw [if_pos h, List.getElem?_append_left (by simp; omega), List.getElem?_append_right (by simp; omega)]
    congr 1
    simp; omega
  · rw [if_neg h]
    by_cases h' : k < o
    · rw [List.getElem?_append_left (by simp; omega), List.getElem?_append_left (by simp; omega), List.getElem?_take]
      simp [h']
    · rw [List.getElem?_append_right (by simp; omega)]
      rw [List.getElem?_drop]
      simp only [List.length_append, List.length_take, Array.length_toList, Array.getElem?_toList]
      congr 1
      omega

theorem zeroCells_size (z : Array Value) (n : Nat) : (Builtin.zeroCells z n).size = n * z.size := by simp [Builtin.zeroCells]
theorem zeroCells_one {z : Array Value} (h : ∀ v ∈ z.toList, v.oneCell' = true) (hz : 0 < z.size) {n : Nat} (k : Nat) (v : Value) (hv : (Builtin.zeroCells z n)[k]? = some v) : v.oneCell' = true := by
  have : Builtin.zeroCells z n = madeCells z (n * z.size) := rfl
  rw [this] at hv
  exact made_one h hz k v hv

/-- Where a new row is made: what was, what comes, and noughts. -/
theorem grown_row {FM : FMem} {β : BMap} {w : World} {sz len m k : Nat} {t tx : TypeId} {cs cx : Value} {row0 row2 : Nat → List AV} {olds news : List Value} {z : Array Value} (hz : 0 < sz)
    (hzs : z.size = sz) (hz1 : ∀ v ∈ z.toList, v.oneCell' = true) (ho : SrcR P FM β w sz t cs len row0 olds) (hn : SrcR P FM β w sz tx cx m row2 news) :
    let c := (olds ++ news).toArray ++ Builtin.zeroCells z k
    c.size = (len + m + k) * sz ∧ (∀ (i : Nat) v, c[i]? = some v → v.oneCell' = true) ∧
      (∀ r, r < len → ∀ j (h : j < (row0 r).length), ∃ cv, c[r * sz + j]? = some cv ∧ VR FM β (row0 r)[j] cv) ∧
      (∀ r, r < m → ∀ j (h : j < (row2 r).length), ∃ cv, c[(len + r) * sz + j]? = some cv ∧ VR FM β (row2 r)[j] cv) := by
  intro c
  have l1 := ho.src.newsLen
  have l2 := hn.src.newsLen
  have hcz : c.size = (len + m + k) * sz := by
    simp only [c, Array.size_append, List.size_toArray, List.length_append, zeroCells_size, hzs, l1, l2, Nat.add_mul]
  have hget : ∀ i, i < len * sz + m * sz → c[i]? = (olds ++ news)[i]? := by
    intro i hi
    simp only [c]
    rw [Array.getElem?_append_left (by simp [l1, l2]; omega)]
    simp
  refine ⟨hcz, fun i v hv => ?_, fun r hr j hj => ?_, fun r hr j hj => ?_⟩
  · by_cases hi : i < len * sz + m * sz
    · rw [hget i hi] at hv
      rcases List.mem_append.1 (List.mem_of_getElem? hv) with h | h
      · exact ho.src.one v h
      · exact hn.src.one v h
    · simp only [c] at hv
      rw [Array.getElem?_append_right (by simp [l1, l2]; omega)] at hv
      exact zeroCells_one hz1 (by omega) _ v hv
  · obtain ⟨k1, k2⟩ := ho.rel r hr
    obtain ⟨cv, k3, k4⟩ := k2 j hj
    have hlt : r * sz + j < len * sz := by
      have : (r + 1) * sz ≤ len * sz := Nat.mul_le_mul_right _ hr
      rw [Nat.add_mul, Nat.one_mul] at this
      omega
    refine ⟨cv, ?_, k4⟩
    rw [hget _ (by omega), List.getElem?_append_left (by rw [l1]; exact hlt)]
    exact k3
  · obtain ⟨k1, k2⟩ := hn.rel r hr
    obtain ⟨cv, k3, k4⟩ := k2 j hj
    have hlt : r * sz + j < m * sz := by
      have : (r + 1) * sz ≤ m * sz := Nat.mul_le_mul_right _ hr
      rw [Nat.add_mul, Nat.one_mul] at this
      omega
    refine ⟨cv, ?_, k4⟩
    rw [Nat.add_mul, hget _ (by omega), List.getElem?_append_right (by rw [l1]; omega), l1]
    rw [show len * sz + r * sz + j - len * sz = r * sz + j from by omega]
    exact k3

theorem MemOk.of {FM : FMem} {β : BMap} {w : World} {cb sh sz nr n : Nat} {row : Nat → List AV} (h1 : 0 < sz) (h2 : sh ≤ n) (h3 : n - sh ≤ nr) {c : Array Value} {elem : TypeId} {fr : Nat × Nat}
    (h4 : w.heap[cb]? = some (.cells c elem fr)) (h5 : c.size = nr * sz) (h6 : ∀ o, o < c.size → ¬(fr.1 ≤ o ∧ o < fr.2)) (h7 : ∀ (k : Nat) v, c[k]? = some v → v.oneCell' = true)
    (h8 : ∀ r, sh ≤ r → r < n → (row r).length = sz ∧ ∀ j (h : j < (row r).length), ∃ cv, c[(r - sh) * sz + j]? = some cv ∧ VR FM β (row r)[j] cv) (h9 : ∀ o, FM cb o = none) :
    MemOk FM β w ⟨cb, sh, sz, nr⟩ n row := ⟨h1, h2, h3, ⟨c, elem, fr, h4, h5, h6, h7, h8⟩, h9⟩

/-- One more generation of a block, by an append. -/
theorem append_blk {t tx ty e : TypeId} {j : TI} {info' : TypeInfo} {d' : TypeDesc} {z' : Value} (hu : P.underlying t = some (.slice e)) (ok : TIok P e j info' d' z') (hj0 : 0 < j.size) (hb0 : 0 < j.bytes)
    {FM : FMem} {β : BMap} {H : AHeap} {w : World} (hh : RelH FM β H w) {b g off len n0 m : Nat} {blk blk1 : ABlk} {row0 row1 row2 : Nat → List AV} {cs cx : Value} {news : List Value}
    (hb : H[b]? = some blk) (hv : blk.view = some (g, n0, row0)) (hle : off + len ≤ n0) (hs : VR FM β (.sl b g off len) cs) (hx : SrcR P FM β w j.size tx cx m row2 news)
    (hbytes : (len + m) * j.bytes ≤ 140737488355328) (hw0 : blk.width = j.size) (hw1 : blk1.width = j.size) (hv1 : blk1.view = some (g + 1, off + len + m, row1))
    (hold : ∀ r, r < off + len → (∀ L, β b g = some (some L) → L.sh ≤ r) → (row1 r).length = (row0 r).length ∧ ∀ i (h : i < (row1 r).length) cv, (∃ h' : i < (row0 r).length, ∀ {β'}, (∀ b g lo, β b g = some lo → β' b g = some lo) → VR FM β' (row0 r)[i] cv) →
      ∀ {β'}, (∀ b g lo, β b g = some lo → β' b g = some lo) → VR FM β' (row1 r)[i] cv)
    (hnew : ∀ r, r < m → (row1 (off + len + r)).length = (row2 r).length ∧ ∀ i (h : i < (row1 (off + len + r)).length) cv, (∃ h' : i < (row2 r).length, ∀ {β'}, (∀ b g lo, β b g = some lo → β' b g = some lo) → VR FM β' (row2 r)[i] cv) →
      ∀ {β'}, (∀ b g lo, β b g = some lo → β' b g = some lo) → VR FM β' (row1 (off + len + r))[i] cv) :
    SimV ((Builtin.append_ #[t, tx] ty #[cs, cx]).run P w) FM β H w (.sl b (g + 1) off (len + m)) (H.set b blk1) := by
  have hdomg : ∀ lo, β b (g + 1) ≠ some lo := by
    intro lo h
    have := (hh.dom _ _ _ h).2 blk g n0 row0 hb hv
    omega
  have hsubN : ∀ lo1, ∀ b' g' lo, β b' g' = some lo → updB β b (g + 1) lo1 b' g' = some lo := fun lo1 => updB_sub (fun lo' e => absurd e (hdomg lo'))
  have hvm : ∀ {a : AV} {cv : Value}, VR FM β a cv → ∀ {β' : BMap}, (∀ b g lo, β b g = some lo → β' b g = some lo) → VR FM β' a cv := fun h _ hb => h.mono (fun _ _ _ h => h) hb
  -- a new row
  have fresh : ∀ (a : Option Addr) (cap : Nat) (lo0 : Option Loc) (olds : List Value), β b g = some lo0 → (∀ L, lo0 = some L → L.sh ≤ off) → SrcR P FM β w j.size t (.slice a len cap) len (fun i => row0 (off + i)) olds → cap < len + m →
      SimV ((Builtin.append_ #[t, tx] ty #[.slice a len cap, cx]).run P w) FM β H w (.sl b (g + 1) off (len + m)) (H.set b blk1) := by
    intro a cap lo0 olds hl0 hso ho hcap
    have h63 : ((len + m : Nat) : Int) ≤ 9223372036854775807 := by
      have : (len + m) * 1 ≤ (len + m) * j.bytes := Nat.mul_le_mul_left _ (by omega)
      omega
    have hrun := run_append_grow_src (P := P) w t tx ty e info' z' hu ok.inf ok.zer a len cap olds (by rw [ok.siz]; exact ho.src.cellsD) cx m news (by rw [ok.siz]; exact hx.src) hcap h63
      (by rw [ok.byt]; exact growslice_fits hcap hbytes)
    have hge := grownCap_ge w (len + m) cap e
    obtain ⟨c1, c2, c3, c4⟩ := grown_row (P := P) (k := grownCap w (len + m) cap e - (len + m)) (z := z'.cells) hj0 ok.zsize (zerosFit_one ok.zeros) ho hx
    rw [show len + m + (grownCap w (len + m) cap e - (len + m)) = grownCap w (len + m) cap e from by omega] at c1
    refine ⟨_, _, FM, updB β b (g + 1) (some ⟨w.heap.size, off, j.size, grownCap w (len + m) cap e⟩), hrun, ?_, ?_⟩
    · have := VR.sl (FM := FM) (off := off) (len := len + m) (cap := grownCap w (len + m) cap e) (updB_self β b (g + 1) (some ⟨w.heap.size, off, j.size, grownCap w (len + m) cap e⟩)) (Nat.le_refl _)
        (by simp) hge (by omega)
      simpa using this
    · have hsz : (w.drew.alloc (.cells ((olds ++ news).toArray ++ Builtin.zeroCells z'.cells (grownCap w (len + m) cap e - (len + m))) e)).heap.size = w.heap.size + 1 := by rw [alloc_size]; rfl
      refine hh.turn hb hv hl0 hv1 (.inr (by omega)) ⟨by omega, fun cb h _ => alloc_heap w w.drew _ rfl cb h, fun L e => by cases e; exact .inl (Nat.le_refl _), rfl, rfl, rfl⟩ ?_
        (fun L e => by cases e; exact hw1.symm)
      refine MemOk.of (fr := (0, 0)) hj0 (by omega) (by omega) (elem := e) ?_ c1 (fun o _ h => by simp at h) c2 (fun r h1 h2 => ?_) (fun o => ?_)
      · show (w.heap.push _)[w.heap.size]? = _
        simp
      · by_cases hr : r < off + len
        · obtain ⟨k1, k2⟩ := hold r hr (fun L e => by rw [hl0] at e; cases e; have := hso L rfl; omega)
          have hrel := ho.rel (r - off) (by omega)
          rw [show off + (r - off) = r from by omega] at hrel
          have hc3 := c3 (r - off) (by omega)
          rw [show off + (r - off) = r from by omega] at hc3
          refine ⟨by rw [k1]; exact hrel.1, fun i hi => ?_⟩
          obtain ⟨cv, m1, m2⟩ := hc3 i (by omega)
          exact ⟨cv, m1, k2 i hi cv ⟨by omega, fun hb => hvm m2 hb⟩ (hsubN _)⟩
        · obtain ⟨k1, k2⟩ := hnew (r - (off + len)) (by omega)
          rw [show off + len + (r - (off + len)) = r from by omega] at k1 k2
          have hrel := hx.rel (r - (off + len)) (by omega)
          refine ⟨by rw [k1]; exact hrel.1, fun i hi => ?_⟩
          obtain ⟨cv, m1, m2⟩ := c4 (r - (off + len)) (by omega) i (by omega)
          rw [show len + (r - (off + len)) = r - off from by omega] at m1
          exact ⟨cv, m1, k2 i hi cv ⟨by omega, fun hb => hvm m2 hb⟩ (hsubN _)⟩
      · cases he : FM w.heap.size o with
        | none => rfl
        | some v => exact absurd (cell_lt (hh.fm _ _ _ he)) (Nat.lt_irrefl _)
  have hkt : P.underlying t = some (.slice e) := hu
  cases hs with
  | sl0 hl hs0 =>
    rename_i a lo
    by_cases hm0 : m = 0
    · subst hm0
      refine ⟨.slice a 0 0, w, FM, updB β b (g + 1) lo, ?_, .sl0 (updB_self _ _ _ _) hs0, ?_⟩
      · have hnl := hx.src.newsLen
        simp only [Nat.zero_mul] at hnl
        have hn0 : news = [] := List.eq_nil_of_length_eq_zero hnl
        have hc := hx.src.cells
        rw [hn0] at hc
        rcases hx.src.kind with ⟨e', hk⟩ | hk <;> cases a <;>
          simp [Builtin.append_, run_underlying hu, run_underlying hk, Go.sizeOf, typeInfo, ok.inf, ok.siz, hx.src.len, hc, storeCells]
      · refine hh.turn hb hv hl hv1 (.inr (by omega)) ⟨Nat.le_refl _, fun _ _ _ => rfl, fun L e => by cases e; exact .inr ⟨L, rfl, rfl⟩, rfl, rfl, rfl⟩ ?_ (fun L e => by
          cases e
          rw [hh.wid b blk g n0 row0 L hb hv hl, hw0, hw1])
        obtain ⟨lo', e1, e2⟩ := hh.mem b blk g n0 row0 hb hv
        rw [hl] at e1
        cases e1
        cases lo with
        | none => have : n0 = 0 := e2; show off + 0 + 0 = 0; omega
        | some L =>
          have hm : MemOk FM β w L n0 row0 := e2
          have := hs0 L rfl
          refine ⟨hm.sz, by omega, by have := hm.fit; omega, ?_, hm.free⟩
          obtain ⟨ca, ee, fr, m1, m2, m3, mo, m4⟩ := hm.cells
          refine ⟨ca, ee, fr, m1, m2, m3, mo, fun r h1 h2 => ?_⟩
          obtain ⟨l1, l2⟩ := m4 r h1 (by omega)
          obtain ⟨k1, k2⟩ := hold r (by omega) (fun L' e => by rw [hl] at e; cases e; exact h1)
          refine ⟨by rw [k1]; exact l1, fun i hi => ?_⟩
          obtain ⟨cv, n1, n2⟩ := l2 i (by omega)
          exact ⟨cv, n1, k2 i hi cv ⟨by omega, fun hb => hvm n2 hb⟩ (hsubN _)⟩
    · obtain ⟨olds, ho⟩ := SrcR.none (P := P) (FM := FM) (β := β) (w := w) (sz := j.size) (cap := 0) (a := a) (row := fun i => row0 (off + i)) hkt
      exact fresh a 0 lo olds hl hs0 ho (by omega)
  | sl hl hs0 hr hc hp =>
    rename_i cap L
    have hm := hh.at hb hv hl
    have hLs : L.sz = j.size := by rw [hh.wid b blk g n0 row0 L hb hv hl, hw0]
    by_cases hroom : len + m ≤ cap
    · -- in place
      obtain ⟨ca, ee, fr, m1, m2, m3, mo, m4⟩ := hm.cells
      have hnl := hx.src.newsLen
      have hpos : (off - L.sh) * L.sz + len * j.size + news.length ≤ ca.size := by
        rw [hnl, m2, hLs, ← Nat.add_mul, ← Nat.add_mul]
        exact Nat.mul_le_mul_right _ (by omega)
      have hst := run_storeCells_free P L.cb ((off - L.sh) * L.sz + len * j.size) ee fr news 0 ca w m1 m3 (by simpa using hpos) hx.src.one
      simp only [Nat.add_zero] at hst
      have hgt := take_news_drop_get (ca := ca) (o := (off - L.sh) * L.sz + len * j.size) (news := news) hpos
      refine ⟨.slice (some ⟨L.cb, (off - L.sh) * L.sz, none⟩) (len + m) cap, w.setRow L.cb (ca.toList.take ((off - L.sh) * L.sz + len * j.size) ++ news ++ ca.toList.drop ((off - L.sh) * L.sz + len * j.size + news.length)).toArray, FM, updB β b (g + 1) (some L), ?_, ?_, ?_⟩
      · have hadd := addr_add L.cb ((off - L.sh) * L.sz) (len * j.size)
        rcases hx.src.kind with ⟨e', hk⟩ | hk <;>
          simp [Builtin.append_, run_underlying hu, run_underlying hk, Go.sizeOf, typeInfo, ok.inf, ok.siz, hx.src.len, hroom, hx.src.cells, hadd, hst]
      · exact .sl (updB_self _ _ _ _) hs0 hr hroom hp
      · refine hh.turn hb hv hl hv1 (.inr (by omega)) ⟨by simp, fun cb hcb h => setRow_other w L.cb cb _ (fun e => h L rfl e.symm), fun L' e => by cases e; exact .inr ⟨L, rfl, rfl⟩, rfl, rfl, rfl⟩ ?_
          (fun L' e => by cases e; rw [hLs, hw1])
        have hncs : (ca.toList.take ((off - L.sh) * L.sz + len * j.size) ++ news ++ ca.toList.drop ((off - L.sh) * L.sz + len * j.size + news.length)).toArray.size = ca.size := by
          simp only [List.size_toArray, List.length_append, List.length_take, List.length_drop, Array.length_toList]
          omega
        refine ⟨hm.sz, by omega, by omega, ⟨_, ee, fr, setRow_heap w L.cb ca _ ee fr m1, hncs.trans m2, by rw [hncs]; exact m3, ?_, fun r h1 h2 => ?_⟩, hm.free⟩
        · intro k v hv
          rw [hgt] at hv
          split at hv
          · exact hx.src.one v (List.mem_of_getElem? hv)
          · exact mo k v hv
        · by_cases hrr : r < off + len
          · obtain ⟨k1, k2⟩ := hold r hrr (fun L' e => by rw [hl] at e; cases e; exact h1)
            obtain ⟨l1, l2⟩ := m4 r h1 (by omega)
            refine ⟨by rw [k1]; exact l1, fun i hi => ?_⟩
            obtain ⟨cv, n1, n2⟩ := l2 i (by omega)
            refine ⟨cv, ?_, k2 i hi cv ⟨by omega, fun hb => hvm n2 hb⟩ (hsubN _)⟩
            rw [hgt, if_neg]
            · exact n1
            · rintro ⟨a1, a2⟩
              rw [hLs, ← Nat.add_mul] at a1
              have : (r - L.sh + 1) * j.size ≤ (off - L.sh + len) * j.size := Nat.mul_le_mul_right _ (by omega)
              rw [Nat.add_mul, Nat.one_mul] at this
              omega
          · obtain ⟨k1, k2⟩ := hnew (r - (off + len)) (by omega)
            rw [show off + len + (r - (off + len)) = r from by omega] at k1 k2
            obtain ⟨l1, l2⟩ := hx.rel (r - (off + len)) (by omega)
            refine ⟨by rw [k1, hLs]; exact l1, fun i hi => ?_⟩
            obtain ⟨cv, n1, n2⟩ := l2 i (by omega)
            refine ⟨cv, ?_, k2 i hi cv ⟨by omega, fun hb => hvm n2 hb⟩ (hsubN _)⟩
            have e1 : (r - L.sh) * L.sz + i = (off - L.sh) * L.sz + len * j.size + ((r - (off + len)) * j.size + i) := by
              rw [hLs, ← Nat.add_mul, ← Nat.add_assoc, ← Nat.add_mul]
              congr 2
              omega
            have hlt : (r - (off + len)) * j.size + i < news.length := by
              rw [hnl]
              have : (r - (off + len) + 1) * j.size ≤ m * j.size := Nat.mul_le_mul_right _ (by omega)
              rw [Nat.add_mul, Nat.one_mul] at this
              omega
            rw [hgt, e1, if_pos (by omega)]
            rw [show (off - L.sh) * L.sz + len * j.size + ((r - (off + len)) * j.size + i) - ((off - L.sh) * L.sz + len * j.size) = (r - (off + len)) * j.size + i from by omega]
            exact n1
    · have hsz : ∀ r, r < len → (row0 (off + r)).length = j.size := by
        intro r hr'
        obtain ⟨_, _, _, _, _, _, _, g4⟩ := hm.cells
        rw [← hLs]
        exact (g4 (off + r) (by omega) (by omega)).1
      obtain ⟨olds, ho⟩ := SrcR.of_cells (P := P) (FM := FM) (β := β) (w := w) (cb := L.cb) (o := (off - L.sh) * L.sz) (n := len) (cap := cap) (row := fun i => row0 (off + i)) hkt hj0
        (fun r hr' => ⟨hsz r hr', fun i hi => by
          obtain ⟨cv, k1, k2⟩ := hm.row (r := off + r) (by omega) (by omega) i hi
          have e1 : (off + r - L.sh) * L.sz + i = (off - L.sh) * L.sz + r * j.size + i := by
            rw [hLs, ← Nat.add_mul]; congr 2; omega
          rw [e1] at k1
          exact ⟨cv, k1, hm.cell_one k1, k2⟩⟩)
      exact fresh _ cap (some L) olds hl (fun L' e => by cases e; exact hs0) ho (by omega)
end Pf
/- Appending, copying, cutting; places. -/
namespace Pf
open Go
variable {P : Program} {TT : TypeId → Option TI}

/-- What is appended to nothing. -/
theorem append_new {t tx ty e : TypeId} {j : TI} {info' : TypeInfo} {d' : TypeDesc} {z' : Value} (hu : P.underlying t = some (.slice e)) (ok : TIok P e j info' d' z') (hj0 : 0 < j.size) (hb0 : 0 < j.bytes)
    {FM : FMem} {β : BMap} {H : AHeap} {w : World} (hh : RelH FM β H w) {m : Nat} {blk1 : ABlk} {row2 : Nat → List AV} {a : Option Addr} {cx : Value} {news : List Value}
    (hx : SrcR P FM β w j.size tx cx m row2 news) (hbytes : m * j.bytes ≤ 140737488355328) (hw1 : 0 < m → blk1.width = j.size) (hv1 : blk1.view = some (0, m, row2)) :
    SimV ((Builtin.append_ #[t, tx] ty #[.slice a 0 0, cx]).run P w) FM β H w (.sl H.length 0 0 m) (H ++ [blk1]) := by
  by_cases hm0 : m = 0
  · subst hm0
    have ex := hh.new (w' := w) (lo1 := none) hv1 ⟨Nat.le_refl _, fun _ _ _ => rfl, (fun L e => by cases e), rfl, rfl, rfl⟩ rfl (fun L e => by cases e)
    refine ⟨.slice a 0 0, w, FM, _, ?_, .sl0 (updB_self _ _ _ _) (fun L e => by cases e), ex.1, ex.2⟩
    have hnl := hx.src.newsLen
    simp only [Nat.zero_mul] at hnl
    have hn0 : news = [] := List.eq_nil_of_length_eq_zero hnl
    have hc := hx.src.cells
    rw [hn0] at hc
    rcases hx.src.kind with ⟨e', hk⟩ | hk <;> cases a <;>
      simp [Builtin.append_, run_underlying hu, run_underlying hk, Go.sizeOf, typeInfo, ok.inf, ok.siz, hx.src.len, hc, storeCells]
  · have hkt : P.underlying t = some (.slice e) := hu
    obtain ⟨olds, ho⟩ := SrcR.none (P := P) (FM := FM) (β := β) (w := w) (sz := j.size) (cap := 0) (a := a) (row := fun _ => []) hkt
    have h63 : ((0 + m : Nat) : Int) ≤ 9223372036854775807 := by
      have : m * 1 ≤ m * j.bytes := Nat.mul_le_mul_left _ (by omega)
      omega
    have hrun := run_append_grow_src (P := P) w t tx ty e info' z' hu ok.inf ok.zer a 0 0 olds (by rw [ok.siz]; exact ho.src.cellsD) cx m news (by rw [ok.siz]; exact hx.src) (by omega) h63
      (by rw [ok.byt]; exact growslice_fits (by omega) (by simpa using hbytes))
    have hge := grownCap_ge w (0 + m) 0 e
    obtain ⟨c1, c2, c3, c4⟩ := grown_row (P := P) (k := grownCap w (0 + m) 0 e - (0 + m)) (z := z'.cells) hj0 ok.zsize (zerosFit_one ok.zeros) ho hx
    rw [show 0 + m + (grownCap w (0 + m) 0 e - (0 + m)) = grownCap w (0 + m) 0 e from by omega] at c1
    have hge' : m ≤ grownCap w (0 + m) 0 e := by omega
    have hm1 : 0 < m := by omega
    have ex := hh.alloc (w1 := w.drew) rfl rfl rfl rfl (elem := e) hv1 hj0 c1 c2 hge' (hw1 hm1).symm (fun r hr => ⟨(hx.rel r hr).1, by simpa using c4 r hr⟩)
    refine ⟨_, _, FM, _, hrun, ?_, ex.1, ex.2⟩
    have := sl_new (FM := FM) (β := β) (b := H.length) (cb := w.heap.size) (sz := j.size) hge' (Nat.lt_of_lt_of_le hm1 hge')
    simpa using this

theorem appendOp_good (hT : TTok P TT) {t tx ty : TypeId} {i : TI} {info : TypeInfo} {d : TypeDesc} {z : Value} (ht : TIok P t i info d z) {e' : TypeId} (hk2 : P.underlying tx = some (.slice e')) {FM : FMem} {β : BMap}
    {H : AHeap} {w : World} (hh : RelH FM β H w) {s x : AV} {cs cx : Value} (hs : VR FM β s cs) (hx : VR FM β x cx) :
    (appendOp TT i s x H).good fun u H' => SimV ((Builtin.append_ #[t, tx] ty #[cs, cx]).run P w) FM β H w u H' := by
  have hk := ht.kin
  have addN_eq : ∀ m n, addN m n = m + n := by intro m n; cases m <;> simp [addN]
  unfold appendOp
  simp only [addN_eq]
  split
  · rename_i e hkk
    rw [hkk] at hk
    cases d <;> simp only [TK.fits, Bool.false_eq_true, beq_iff_eq] at hk
    subst hk
    have hu := ht.des
    cases hte : TT e with
    | none => trivial
    | some j =>
      simp only
      obtain ⟨info', d', z', ok⟩ := TI.fits_iff (hT _ _ hte)
      split
      · trivial
      · rename_i bb hbb
        have hb0 : 0 < j.bytes := by omega
        split
        · rename_i kd hkj hsj
          have hj0 : 0 < j.size := by omega
          cases hi : intsOf x H with
          | none =>
            simp only
            have nothing : ∀ b g off len, s = .sl b g off len → x = .nils ∨ x = .e0 → SimV ((Builtin.append_ #[t, tx] ty #[cs, cx]).run P w) FM β H w s H := by
              rintro b g off len rfl hxe
              have hcx : ∃ a, cx = .slice a 0 0 := by
                rcases hxe with rfl | rfl <;> cases hx
                · exact ⟨_, rfl⟩
                · exact ⟨_, rfl⟩
              obtain ⟨a2, rfl⟩ := hcx
              refine SimV.same (cv := cs) ?_ hs hh
              cases hs with
              | sl hl hs0 hr hc hp =>
                cases a2 <;> simp [Builtin.append_, run_underlying hu, run_underlying hk2, Go.sizeOf, typeInfo, ok.inf, ok.siz, Builtin.lenOf, Builtin.firstCells, hc, loadCells, loadCellsFrom, storeCells]
              | sl0 hl hs0 =>
                rename_i a lo
                cases a <;> cases a2 <;> simp [Builtin.append_, run_underlying hu, run_underlying hk2, Go.sizeOf, typeInfo, ok.inf, ok.siz, Builtin.lenOf, Builtin.firstCells, loadCells, loadCellsFrom, storeCells]
            split
            · exact nothing _ _ _ _ rfl (.inl rfl)
            · exact nothing _ _ _ _ rfl (.inr rfl)
            · trivial
          | some q =>
            obtain ⟨k2, l2, c⟩ := q
            simp only
            split
            · rename_i b g off len
              rw [nthM_eq]
              split
              · rename_i g' k l hb
                split
                · rename_i hkid
                  obtain rfl := kid_inj hkid
                  rw [putB_eq _ _ _ _ (List.getElem?_eq_some_iff.1 hb).1]
                  refine withC_ok ?_
                  rintro ⟨rfl, hlen, hbytes⟩ hc
                  obtain ⟨news, hsrc⟩ := intsOf_src hh hx hi hc hk2
                  refine append_blk (row1 := fun i => [.int k ((l ++ l2).getD i 0)]) (row2 := fun i => [.int k (l2.getD i 0)]) hu ok hj0 hb0 hh hb rfl (by omega) hs (by rw [hsj]; exact hsrc) hbytes (by rw [hsj]; rfl) (by rw [hsj]; rfl)
                    (by simp only [ABlk.view, List.length_append]; rw [← hlen]) (fun r hr _ => ⟨rfl, fun i hi cv h β' hb => ?_⟩) (fun r hr => ⟨rfl, fun i hi cv h β' hb => ?_⟩)
                  · obtain ⟨h1, h2⟩ := h
                    have := h2 hb
                    have e2 : (l ++ l2).getD r 0 = l.getD r 0 := by
                      simp only [List.getD_eq_getElem?_getD]
                      rw [List.getElem?_append_left (by omega)]
                    simp only [e2]
                    exact this
                  · obtain ⟨h1, h2⟩ := h
                    have := h2 hb
                    have e2 : (l ++ l2).getD (off + len + r) 0 = l2.getD r 0 := by
                      simp only [List.getD_eq_getElem?_getD]
                      rw [List.getElem?_append_right (by omega)]
                      congr 2
                      omega
                    simp only [e2]
                    exact this
                · trivial
              · trivial
            · rw [newB_eq]
              refine withC_ok fun hbytes hc => ?_
              obtain ⟨news, hsrc⟩ := intsOf_src hh hx hi hc hk2
              cases hs
              exact append_new hu ok hj0 hb0 hh (by rw [hsj]; exact hsrc) hbytes (fun _ => by rw [hsj]; rfl) rfl
            · rw [newB_eq]
              refine withC_ok fun hbytes hc => ?_
              obtain ⟨news, hsrc⟩ := intsOf_src hh hx hi hc hk2
              cases hs
              exact append_new hu ok hj0 hb0 hh (by rw [hsj]; exact hsrc) hbytes (fun _ => by rw [hsj]; rfl) rfl
            · trivial
        · trivial
        · trivial
        · rename_i sz hnk hsj
          have hj0 : 0 < j.size := by omega
          cases hi : rowsOf x H with
          | none => trivial
          | some q =>
            obtain ⟨m, row2, c⟩ := q
            simp only
            split
            · trivial
            · rename_i hl2
              have hl2 := Nat.eq_of_beq_eq_true hl2
              rw [lenM_eq] at hl2
              split
              · rename_i b g off len
                rw [nthM_eq]
                split
                · rename_i g' n row hb
                  rw [putB_eq _ _ _ _ (List.getElem?_eq_some_iff.1 hb).1]
                  refine withC_ok ?_
                  rintro ⟨rfl, hlen, hbytes, hrl⟩ hc
                  obtain ⟨news, hsrc, hr2⟩ := rowsOf_src hh hx hi hc hj0 hl2 hk2
                  refine append_blk (row1 := fun i => mrgL (i < off + len) (row i) (row2 (i - (off + len)))) (row2 := row2) hu ok hj0 hb0 hh hb rfl hlen hs hsrc hbytes (hrl 0)
                    (by simp only [ABlk.width, mrgL_len, hrl 0]) rfl (fun r hr _ => ⟨mrgL_len, fun i hi cv h β' hb => ?_⟩) (fun r hr => ⟨by rw [mrgL_len, hrl, hr2 r hr], fun i hi cv h β' hb => ?_⟩)
                  · obtain ⟨h1, h2⟩ := h
                    exact mrgL_vr i hi (fun _ => ⟨h1, h2 hb⟩) (fun hn => absurd hr hn)
                  · obtain ⟨h1, h2⟩ := h
                    refine mrgL_vr i hi (fun hn => by omega) (fun _ => ?_)
                    rw [show off + len + r - (off + len) = r from by omega]
                    exact ⟨h1, h2 hb⟩
                · trivial
              · rw [newB_eq]
                refine withC_ok fun hbytes hc => ?_
                obtain ⟨news, hsrc, hr2⟩ := rowsOf_src hh hx hi hc hj0 hl2 hk2
                cases hs
                exact append_new hu ok hj0 hb0 hh hsrc hbytes (fun _ => hl2) rfl
              · rw [newB_eq]
                refine withC_ok fun hbytes hc => ?_
                obtain ⟨news, hsrc, hr2⟩ := rowsOf_src hh hx hi hc hj0 hl2 hk2
                cases hs
                exact append_new hu ok hj0 hb0 hh hsrc hbytes (fun _ => hl2) rfl
              · trivial
  · trivial
end Pf
/- Copying, cutting; places in slices. -/
namespace Pf
open Go
variable {P : Program} {TT : TypeId → Option TI}

theorem goInt_vr {FM : FMem} {β : BMap} {a b : Int} (h : a = b) : VR FM β (.int .i64 a) (goInt b) := by subst h; exact .int

theorem copyOp_good {t tx ty e : TypeId} {j : TI} {info' : TypeInfo} {d' : TypeDesc} {z' : Value} (hu : P.underlying t = some (.slice e)) (ok : TIok P e j info' d' z') (hj : j.size = 1)
    {FM : FMem} {β : BMap} {H : AHeap} {w : World} (hh : RelH FM β H w) {x y : AV} {cx cy : Value} (hx : VR FM β x cx) (hy : VR FM β y cy) :
    (copyOp x y H).good fun u H' => SimV ((Builtin.copy_ #[t, tx] ty #[cx, cy]).run P w) FM β H w u H' := by
  unfold copyOp
  split
  · rename_i b g off len
    rw [nthM_eq]
    split
    · rename_i g' k l hb
      have hlt := (List.getElem?_eq_some_iff.1 hb).1
      split
      · rename_i k2 l2
        split
        · rename_i hkid
          obtain rfl := kid_inj hkid
          simp only [putBc, setM_eq, if_pos hlt]
          rintro ⟨rfl, hle⟩
          have none_ : min len l2.length = 0 → (Builtin.copy_ #[t, tx] ty #[cx, cy]).run P w = .ok (goInt 0) w →
              SimV ((Builtin.copy_ #[t, tx] ty #[cx, cy]).run P w) FM β H w (.int .i64 (min (len : Int) l2.length)) (H.set b (.ints g' k (splice l off (l2.take len)))) := by
            intro h0 hr
            have e1 : l2.take len = [] := by
              by_cases h : len = 0
              · simp [h]
              · have : l2 = [] := List.eq_nil_of_length_eq_zero (by omega)
                simp [this]
            have e2 : splice l off [] = l := by simp [splice]
            rw [e1, e2]
            have e3 : H.set b (.ints g' k l) = H := by
              obtain ⟨h1, h2⟩ := List.getElem?_eq_some_iff.1 hb
              rw [← h2, List.set_getElem_self]
            rw [e3]
            exact SimV.same hr (goInt_vr (by omega)) hh
          have hs1 : (P.info? e).map (·.size) = some 1 := by rw [ok.inf]; simp [ok.siz, hj]
          cases hx with
          | sl0 hl hs0 =>
            cases hy with
            | fi0 => exact none_ (by simp) (run_copy_none w t tx ty e _ _ 0 0 0 _ hu hs1 (by simp))
            | fi hc hm => exact none_ (by simp) (run_copy_none w t tx ty e _ _ 0 0 _ _ hu hs1 (by simp))
          | sl hl hs0 hr hc hp =>
            rename_i cap L
            cases hy with
            | fi0 => exact none_ (by simp) (run_copy_none w t tx ty e _ _ len _ 0 _ hu hs1 (by simp))
            | fi hc2 hm2 =>
              rename_i cb o cap2
              have hm := hh.at hb rfl hl
              have hL : L.sz = 1 := hh.wid b _ g' _ _ L hb rfl hl
              obtain ⟨ca, ee, fr, m1, m2, m3, mo, m4⟩ := hm.cells
              let cs : List Value := (l2.take len).map (Value.int k)
              have hcl : cs.length = Nat.min l2.length len := by simp [cs, Nat.min_comm]
              have hsrc : ∀ i v, cs[i]? = some v → w.cell? ((⟨cb, o, none⟩ : Addr).add i) = some v := by
                intro i v hi
                rw [addr_add]
                simp only [cs, List.getElem?_map, List.getElem?_take] at hi
                split at hi
                · rename_i hil
                  cases he : l2[i]? with
                  | none => simp [he] at hi
                  | some n =>
                    simp only [he, Option.map_some, Option.some.injEq] at hi
                    subst hi
                    have := hh.fm _ _ _ (hm2 i (List.getElem?_eq_some_iff.1 he).1)
                    simpa [List.getD_eq_getElem?_getD, he] using this
                · simp at hi
              have hpos : (off - L.sh) * L.sz + cs.length ≤ ca.size := by
                rw [m2, hL, hcl]
                have : Nat.min l2.length len ≤ len := Nat.min_le_right _ _
                omega
              have hld := run_loadCells_list (P := P) w ⟨cb, o, none⟩ cs hsrc
              have hst := run_storeCells_free P L.cb ((off - L.sh) * L.sz) ee fr cs 0 ca w m1 m3 (by simpa using hpos) (by
                intro v hv
                obtain ⟨n, _, rfl⟩ := List.mem_map.1 hv
                rfl)
              simp only [Nat.add_zero] at hst
              have hgt := take_news_drop_get (ca := ca) (o := (off - L.sh) * L.sz) (news := cs) hpos
              refine ⟨goInt cs.length, w.setRow L.cb (ca.toList.take ((off - L.sh) * L.sz) ++ cs ++ ca.toList.drop ((off - L.sh) * L.sz + cs.length)).toArray, FM, updB β b g' (some L), ?_, goInt_vr (by rw [hcl, show Nat.min l2.length len = min l2.length len from rfl]; omega), ?_⟩
              · simp [Builtin.copy_, run_underlying hu, Builtin.lenOf, Builtin.firstCells, Go.sizeOf, typeInfo, ok.inf, ok.siz, hj, ← hcl, hld, hst]
              · have hncs : (ca.toList.take ((off - L.sh) * L.sz) ++ cs ++ ca.toList.drop ((off - L.sh) * L.sz + cs.length)).toArray.size = ca.size := by
                  simp only [List.size_toArray, List.length_append, List.length_take, List.length_drop, Array.length_toList]
                  omega
                have hspl : (splice l off (l2.take len)).length = l.length := by simp [splice]; omega
                refine hh.turn (blk1 := .ints g' k (splice l off (l2.take len))) hb rfl hl rfl (.inl ⟨rfl, rfl⟩) ⟨by simp, fun cb hcb h => setRow_other w L.cb cb _ (fun e => h L rfl e.symm), fun L' e => by cases e; exact .inr ⟨L, rfl, rfl⟩, rfl, rfl, rfl⟩ ?_
                  (fun L' e => by cases e; exact hL)
                refine ⟨hm.sz, by rw [hspl]; exact hm.sh, by rw [hspl]; exact hm.fit, ⟨_, ee, fr, setRow_heap w L.cb ca _ ee fr m1, hncs.trans m2, by rw [hncs]; exact m3, ?_, fun r h1 h2 => ⟨by rw [hL]; rfl, fun i hi => ?_⟩⟩, hm.free⟩
                · intro q v hv
                  rw [hgt] at hv
                  split at hv
                  · obtain ⟨n, _, rfl⟩ := List.mem_map.1 (List.mem_of_getElem? hv)
                    rfl
                  · exact mo q v hv
                · have hi0 : i = 0 := by simpa using hi
                  subst hi0
                  rw [hspl] at h2
                  refine ⟨.int k ((splice l off (l2.take len)).getD r 0), ?_, .int⟩
                  rw [hgt, hL]
                  simp only [Nat.mul_one, Nat.add_zero]
                  have hcl' : cs.length = (l2.take len).length := by simp [cs]
                  by_cases hin : off - L.sh ≤ r - L.sh ∧ r - L.sh < off - L.sh + cs.length
                  · rw [if_pos hin]
                    have e1 : (splice l off (l2.take len))[r]? = (l2.take len)[r - off]? := by
                      simp only [splice]
                      rw [List.getElem?_append_left (by simp; simp at hcl'; omega), List.getElem?_append_right (by simp; omega)]
                      congr 1
                      simp; omega
                    have hlt2 : r - off < (l2.take len).length := by omega
                    simp only [cs, List.getElem?_map, List.getD_eq_getElem?_getD, e1]
                    rw [show r - L.sh - (off - L.sh) = r - off from by omega, List.getElem?_eq_getElem hlt2]
                    rfl
                  · rw [if_neg hin]
                    obtain ⟨_, l2'⟩ := m4 r h1 h2
                    obtain ⟨cv, n1, n2⟩ := l2' 0 (by simp)
                    rw [hL] at n1
                    simp only [Nat.mul_one, Nat.add_zero] at n1
                    rw [n1]
                    have e1 : (splice l off (l2.take len))[r]? = l[r]? := by
                      simp only [splice]
                      by_cases hro : r < off
                      · rw [List.getElem?_append_left (by simp; omega), List.getElem?_append_left (by simp; omega), List.getElem?_take]
                        simp [hro]
                      · rw [List.getElem?_append_right (by simp; simp at hcl'; omega), List.getElem?_drop]
                        congr 1
                        simp; simp at hcl'; omega
                    simp only [List.getElem_cons_zero] at n2
                    simp only [List.getD_eq_getElem?_getD] at n2 ⊢
                    rw [e1]
                    cases n2
                    rfl
        · trivial
      · trivial
    · trivial
  · trivial
end Pf
/- Cutting; places in slices; lengths; the least and the greatest. -/
namespace Pf
open Go
variable {P : Program} {TT : TypeId → Option TI}

/-- A slice's row is as wide as said. -/
theorem widthOk_sl {FM : FMem} {β : BMap} {H : AHeap} {w : World} (hh : RelH FM β H w) {b g off len sz : Nat} (h : widthOk (.sl b g off len) sz H = true) {L : Loc} (hl : β b g = some (some L)) :
    (∃ blk n row, H[b]? = some blk ∧ blk.view = some (g, n, row)) → L.sz = sz := by
  rintro ⟨blk, n, row, hb, hv⟩
  have hw := hh.wid b blk g n row L hb hv hl
  simp only [widthOk, nthM_eq, hb] at h
  cases blk with
  | dead => cases hv
  | mp => cases hv
  | ints _ _ _ =>
    have := Nat.eq_of_beq_eq_true h
    simp only [ABlk.width] at hw
    omega
  | tab _ _ row =>
    have := Nat.eq_of_beq_eq_true h
    rw [lenM_eq] at this
    simp only [ABlk.width] at hw
    omega
  | lst _ rows =>
    cases rows with
    | nil => simp at h
    | cons r0 rs =>
      have := Nat.eq_of_beq_eq_true h
      rw [lenM_eq] at this
      simp [ABlk.width] at hw
      omega

theorem run_bound {w : World} {k : IntKind} {n : Int} {y : Nat} {c : BoundsCode} (h0 : 0 ≤ n) (h1 : n ≤ y) : (Instr.sliceBound (.int k n) y c).run P w = .ok n.toNat w := by
  simp [Instr.sliceBound, asIntOf, h0, h1]

def ci (k : IntKind) : Option Int → Option Value := Option.map (Value.int k)

/-- The model's cut of a slice. -/
theorem run_cut {w : World} {t e : TypeId} {j : TI} {info' : TypeInfo} {d' : TypeDesc} {z' : Value} (hu : P.underlying t = some (.slice e)) (ok : TIok P e j info' d' z') {a : Option Addr} {len cap : Nat} {k1 k2 : IntKind} {lo hi : Option Int}
    {l h : Nat} (hl : lo.getD 0 = (l : Int)) (hh : hi.getD (len : Int) = (h : Int)) (h1 : l ≤ h) (h2 : h ≤ cap) :
    (Instr.sliceAt t (.slice a len cap) (ci k1 lo) (ci k2 hi) none).run P w = .ok (.slice (if cap = l then a else a.map (·.add (l * j.size))) (h - l) (cap - l)) w := by
  have hn : ∀ (n : Nat), (0 : Int) ≤ n := fun n => Int.natCast_nonneg n
  cases lo <;> cases hi <;> simp only [Option.getD_none, Option.getD_some] at hl hh
  · have : l = 0 := by omega
    have : h = len := by omega
    subst_vars
    simp [Instr.sliceAt, Instr.slice, Instr.sliceBounds, run_underlying hu, ok.run_size w, ci]
  · have : l = 0 := by omega
    subst_vars
    simp [Instr.sliceAt, Instr.slice, Instr.sliceBounds, run_underlying hu, ok.run_size w, ci, run_bound (P := P) (w := w) (hn h) (show (h : Int) ≤ cap by omega)]
  · have : h = len := by omega
    subst_vars
    simp [Instr.sliceAt, Instr.slice, Instr.sliceBounds, run_underlying hu, ok.run_size w, ci, run_bound (P := P) (w := w) (hn l) (show (l : Int) ≤ h by omega)]
  · subst_vars
    simp [Instr.sliceAt, Instr.slice, Instr.sliceBounds, run_underlying hu, ok.run_size w, ci, run_bound (P := P) (w := w) (hn h) (show (h : Int) ≤ cap by omega),
      run_bound (P := P) (w := w) (hn l) (show (l : Int) ≤ h by omega)]

theorem run_cut_str {w : World} {t : TypeId} (hu : P.underlying t = some .string) {s : ByteArray} {k1 k2 : IntKind} {lo hi : Option Int}
    {l h : Nat} (hl : lo.getD 0 = (l : Int)) (hh : hi.getD (s.size : Int) = (h : Int)) (h1 : l ≤ h) (h2 : h ≤ s.size) :
    (Instr.sliceAt t (.string s) (ci k1 lo) (ci k2 hi) none).run P w = .ok (.string (s.extract l h)) w := by
  have hn : ∀ (n : Nat), (0 : Int) ≤ n := fun n => Int.natCast_nonneg n
  cases lo <;> cases hi <;> simp only [Option.getD_none, Option.getD_some] at hl hh
  · have : l = 0 := by omega
    have : h = s.size := by omega
    subst_vars
    simp [Instr.sliceAt, Instr.slice, Instr.sliceBounds, run_underlying hu, ci]
  · have : l = 0 := by omega
    subst_vars
    simp [Instr.sliceAt, Instr.slice, Instr.sliceBounds, run_underlying hu, ci, run_bound (P := P) (w := w) (hn h) (show (h : Int) ≤ s.size by omega)]
  · have : h = s.size := by omega
    subst_vars
    simp [Instr.sliceAt, Instr.slice, Instr.sliceBounds, run_underlying hu, ci, run_bound (P := P) (w := w) (hn l) (show (l : Int) ≤ s.size by omega)]
  · subst_vars
    simp [Instr.sliceAt, Instr.slice, Instr.sliceBounds, run_underlying hu, ci, run_bound (P := P) (w := w) (hn h) (show (h : Int) ≤ s.size by omega),
      run_bound (P := P) (w := w) (hn l) (show (l : Int) ≤ h by omega)]

/-- What the cut of a slice is known to be. -/
theorem cut_vr {FM : FMem} {β : BMap} {H : AHeap} {w : World} (hh : RelH FM β H w) {sz : Nat} {v v' : AV} {a : Option Addr} {len cap : Nat} (hv : VR FM β v (.slice a len cap)) (hw : widthOk v sz H = true) {lo hi : Option Int} {C : Prop}
    (hc : cutV v lo hi = some (C, v')) (c : C) : ∃ l h : Nat, lo.getD 0 = (l : Int) ∧ hi.getD (len : Int) = (h : Int) ∧ l ≤ h ∧ h ≤ cap ∧
      (((∃ b g off ln, v = .sl b g off ln ∧ ∃ blk n row, H[b]? = some blk ∧ blk.view = some (g, n, row)) ∨ (∀ b g off ln, v ≠ .sl b g off ln)) →
      VR FM β v' (.slice (if cap = l then a else a.map (·.add (l * sz))) (h - l) (cap - l))) := by
  cases hv with
  | nils =>
    cases lo <;> cases hi <;> simp only [cutV, Option.some.injEq, Prod.mk.injEq, reduceCtorEq] at hc
    · obtain ⟨rfl, rfl⟩ := hc; subst c; exact ⟨0, 0, rfl, rfl, Nat.le_refl _, Nat.le_refl _, fun _ => .nils⟩
    · obtain ⟨rfl, rfl⟩ := hc; subst c; exact ⟨0, 0, rfl, rfl, Nat.le_refl _, Nat.le_refl _, fun _ => .nils⟩
  | e0 => cases lo <;> cases hi <;> simp [cutV] at hc
  | fi0 =>
    rename_i k
    cases lo with
    | none =>
      cases hi with
      | none => simp [cutV] at hc
      | some y =>
        simp only [cutV, Option.some.injEq, Prod.mk.injEq] at hc
        obtain ⟨rfl, rfl⟩ := hc
        have hy : y = 0 := by simp at c; omega
        subst hy
        exact ⟨0, 0, rfl, rfl, Nat.le_refl _, Nat.zero_le _, fun _ => by simpa using VR.fi0⟩
    | some x =>
      cases hi with
      | none =>
        simp only [cutV, Option.some.injEq, Prod.mk.injEq] at hc
        obtain ⟨rfl, rfl⟩ := hc
        have hx : x = 0 := by simp at c; omega
        subst hx
        exact ⟨0, 0, rfl, rfl, Nat.le_refl _, Nat.zero_le _, fun _ => by simpa using VR.fi0⟩
      | some y =>
        simp only [cutV, Option.some.injEq, Prod.mk.injEq] at hc
        obtain ⟨rfl, rfl⟩ := hc
        have hx : x = 0 ∧ y = 0 := by simp at c; omega
        obtain ⟨rfl, rfl⟩ := hx
        exact ⟨0, 0, rfl, rfl, Nat.le_refl _, Nat.zero_le _, fun _ => by simpa using VR.fi0⟩
  | fi hcap hm =>
    rename_i k ls cb o
    have hs : sz = 1 := by simpa [widthOk] using hw
    subst hs
    have gen : ∀ l h : Nat, l ≤ h → h ≤ ls.length → VR FM β (.fi k ((ls.take h).drop l)) (.slice (if cap = l then some ⟨cb, o, none⟩ else (some ⟨cb, o, none⟩ : Option Addr).map (·.add (l * 1))) (h - l) (cap - l)) := by
      intro l h h1 h2
      by_cases hz : h - l = 0
      · have : (ls.take h).drop l = [] := List.eq_nil_of_length_eq_zero (by simp; omega)
        rw [this, hz]
        exact .fi0
      · have hcl : cap ≠ l := by omega
        simp only [hcl, if_false, Option.map_some, addr_add, Nat.mul_one]
        have hlen : ((ls.take h).drop l).length = h - l := by simp; omega
        have := VR.fi (FM := FM) (β := β) (k := k) (l := (ls.take h).drop l) (cb := cb) (o := o + l) (cap := cap - l) (by omega) (fun i hi => by
          rw [Nat.add_assoc, hm (l + i) (by omega)]
          congr 2
          simp [List.getD_eq_getElem?_getD, show i < h - l by omega, show l + i < h by omega])
        rw [hlen] at this
        exact this
    cases lo with
    | none =>
      cases hi with
      | none => simp [cutV] at hc
      | some y =>
        simp only [cutV, Option.some.injEq, Prod.mk.injEq] at hc
        obtain ⟨rfl, rfl⟩ := hc
        have := gen 0 y.toNat (by omega) (by omega)
        exact ⟨0, y.toNat, rfl, by simp; omega, by omega, by omega, fun _ => by simpa using this⟩
    | some x =>
      cases hi with
      | none =>
        simp only [cutV, Option.some.injEq, Prod.mk.injEq] at hc
        obtain ⟨rfl, rfl⟩ := hc
        have := gen x.toNat ls.length (by omega) (Nat.le_refl _)
        exact ⟨x.toNat, ls.length, by simp; omega, by simp, by omega, by omega, fun _ => by simpa using this⟩
      | some y =>
        simp only [cutV, Option.some.injEq, Prod.mk.injEq] at hc
        obtain ⟨rfl, rfl⟩ := hc
        exact ⟨x.toNat, y.toNat, by simp; omega, by simp; omega, by omega, by omega, fun _ => gen _ _ (by omega) (by omega)⟩
  | fz0 =>
    rename_i row
    cases lo with
    | none =>
      cases hi with
      | none => simp [cutV] at hc
      | some y =>
        simp only [cutV, Option.some.injEq, Prod.mk.injEq] at hc
        obtain ⟨rfl, rfl⟩ := hc
        have hy : y = 0 := by omega
        subst hy
        exact ⟨0, 0, rfl, rfl, Nat.le_refl _, Nat.zero_le _, fun _ => by simpa using VR.fz0⟩
    | some x =>
      cases hi with
      | none =>
        simp only [cutV, Option.some.injEq, Prod.mk.injEq] at hc
        obtain ⟨rfl, rfl⟩ := hc
        have hx : x = 0 := by omega
        subst hx
        exact ⟨0, 0, rfl, rfl, Nat.le_refl _, Nat.zero_le _, fun _ => by simpa using VR.fz0⟩
      | some y =>
        simp only [cutV, Option.some.injEq, Prod.mk.injEq] at hc
        obtain ⟨rfl, rfl⟩ := hc
        have hx : x = 0 ∧ y = 0 := by omega
        obtain ⟨rfl, rfl⟩ := hx
        exact ⟨0, 0, rfl, rfl, Nat.le_refl _, Nat.zero_le _, fun _ => by simpa using VR.fz0⟩
  | fz cvs hz hcap hl hm ho hvs =>
    rename_i row cb o s
    have gen : ∀ l h : Nat, l ≤ h → h ≤ len → VR FM β (.fz (h - l) fun i => row (i + l)) (.slice (if cap = l then some ⟨cb, o, none⟩ else (some ⟨cb, o, none⟩ : Option Addr).map (·.add (l * sz))) (h - l) (cap - l)) := by
      intro l h h1 h2
      by_cases h0 : h - l = 0
      · rw [h0]; exact .fz0
      · have hcl : cap ≠ l := by omega
        have hs : s = sz := by
          have h3 : (row 0).length = sz := by
            have := Nat.eq_of_beq_eq_true hw
            rwa [lenM_eq] at this
          rw [← hl 0 (by omega)]; exact h3
        subst hs
        simp only [hcl, if_false, Option.map_some, addr_add]
        refine VR.fz (fun i j => cvs (i + l) j) hz (by omega) (fun i hi => hl _ (by omega)) (fun i j hi hj => ?_) (fun i j hi hj => ho _ _ (by omega) hj) (fun i j hi hj => hvs _ _ (by omega) hj)
        rw [← hm (i + l) j (by omega) hj]
        congr 1
        rw [Nat.add_mul]
        omega
    cases lo with
    | none =>
      cases hi with
      | none => simp [cutV] at hc
      | some y =>
        simp only [cutV, Option.some.injEq, Prod.mk.injEq] at hc
        obtain ⟨rfl, rfl⟩ := hc
        have := gen 0 y.toNat (by omega) (by omega)
        exact ⟨0, y.toNat, rfl, by simp; omega, by omega, by omega, fun _ => by simpa using this⟩
    | some x =>
      cases hi with
      | none =>
        simp only [cutV, Option.some.injEq, Prod.mk.injEq] at hc
        obtain ⟨rfl, rfl⟩ := hc
        exact ⟨x.toNat, len, by simp; omega, by simp, by omega, by omega, fun _ => gen _ _ (by omega) (Nat.le_refl _)⟩
      | some y =>
        simp only [cutV, Option.some.injEq, Prod.mk.injEq] at hc
        obtain ⟨rfl, rfl⟩ := hc
        exact ⟨x.toNat, y.toNat, by simp; omega, by simp; omega, by omega, by omega, fun _ => gen _ _ (by omega) (by omega)⟩
  | sl hl hs0 hr hcc hp =>
    rename_i b g off L
    have gen : ∀ l h : Nat, l ≤ h → h ≤ len → (∃ blk n row, H[b]? = some blk ∧ blk.view = some (g, n, row)) →
        VR FM β (.sl b g (off + l) (h - l)) (.slice (if cap = l then some ⟨L.cb, (off - L.sh) * L.sz, none⟩ else (some ⟨L.cb, (off - L.sh) * L.sz, none⟩ : Option Addr).map (·.add (l * sz))) (h - l) (cap - l)) := by
      intro l h h1 h2 hx
      by_cases hcl : cap = l
      · have : h - l = 0 := by omega
        simp only [hcl, if_true, this, Nat.sub_self]
        exact .sl0 hl (fun L' e => by cases e; omega)
      · have hs := widthOk_sl hh hw hl hx
        simp only [hcl, if_false, Option.map_some, addr_add]
        have e1 : (off - L.sh) * L.sz + l * sz = (off + l - L.sh) * L.sz := by
          rw [hs, ← Nat.add_mul]; congr 1; omega
        rw [e1]
        exact .sl hl (by omega) (by omega) (by omega) (by omega)
    have ext : ((∃ b' g' off' ln, AV.sl b g off len = .sl b' g' off' ln ∧ ∃ blk n row, H[b']? = some blk ∧ blk.view = some (g', n, row)) ∨ (∀ b' g' off' ln, AV.sl b g off len ≠ .sl b' g' off' ln)) →
        ∃ blk n row, H[b]? = some blk ∧ blk.view = some (g, n, row) := by
      rintro (⟨b', g', off', ln, e, hx⟩ | hx)
      · cases e; exact hx
      · exact absurd rfl (hx _ _ _ _)
    cases lo with
    | none =>
      cases hi with
      | none => simp [cutV] at hc
      | some y =>
        simp only [cutV, Option.some.injEq, Prod.mk.injEq] at hc
        obtain ⟨rfl, rfl⟩ := hc
        exact ⟨0, y.toNat, rfl, by simp; omega, by omega, by omega, fun hx => by simpa using gen 0 y.toNat (by omega) (by omega) (ext hx)⟩
    | some x =>
      cases hi with
      | none =>
        simp only [cutV, Option.some.injEq, Prod.mk.injEq] at hc
        obtain ⟨rfl, rfl⟩ := hc
        exact ⟨x.toNat, len, by simp; omega, by simp, by omega, by omega, fun hx => gen _ _ (by omega) (Nat.le_refl _) (ext hx)⟩
      | some y =>
        simp only [cutV, Option.some.injEq, Prod.mk.injEq] at hc
        obtain ⟨rfl, rfl⟩ := hc
        exact ⟨x.toNat, y.toNat, by simp; omega, by simp; omega, by omega, by omega, fun hx => gen _ _ (by omega) (by omega) (ext hx)⟩
  | sl0 hl hs0 =>
    rename_i b g off lo'
    have fin : ∀ x : Nat, x = 0 → VR FM β (.sl b g (off + x) 0) (.slice (if 0 = 0 then a else a.map (·.add (0 * sz))) (0 - 0) (0 - 0)) := by
      rintro x rfl
      simp
      exact .sl0 hl hs0
    cases lo with
    | none =>
      cases hi with
      | none => simp [cutV] at hc
      | some y =>
        simp only [cutV, Option.some.injEq, Prod.mk.injEq] at hc
        obtain ⟨rfl, rfl⟩ := hc
        have hy : y = 0 := by omega
        subst hy
        exact ⟨0, 0, rfl, rfl, Nat.le_refl _, Nat.le_refl _, fun _ => by simpa using fin 0 rfl⟩
    | some x =>
      cases hi with
      | none =>
        simp only [cutV, Option.some.injEq, Prod.mk.injEq] at hc
        obtain ⟨rfl, rfl⟩ := hc
        have hx : x = 0 := by omega
        subst hx
        exact ⟨0, 0, rfl, rfl, Nat.le_refl _, Nat.le_refl _, fun _ => by simpa using fin 0 rfl⟩
      | some y =>
        simp only [cutV, Option.some.injEq, Prod.mk.injEq] at hc
        obtain ⟨rfl, rfl⟩ := hc
        have hx : x = 0 ∧ y = 0 := by omega
        obtain ⟨rfl, rfl⟩ := hx
        exact ⟨0, 0, rfl, rfl, Nat.le_refl _, Nat.le_refl _, fun _ => by simpa using fin 0 rfl⟩
  | top => simp [widthOk] at hw

theorem genOf_ok {v : AV} {H : AHeap} {c : Option Prop} (h : genOf v H = some c) (hc : condO c) :
    (∃ b g off ln, v = .sl b g off ln ∧ ∃ blk n row, H[b]? = some blk ∧ blk.view = some (g, n, row)) ∨ (∀ b g off ln, v ≠ .sl b g off ln) := by
  cases v with
  | sl b g off ln =>
    left
    refine ⟨b, g, off, ln, rfl, ?_⟩
    simp only [genOf, nthM_eq] at h
    split at h
    · rename_i g' _ _ hb
      cases h
      have : g' = g := hc
      subst this
      exact ⟨_, _, _, hb, rfl⟩
    · rename_i g' _ hb
      cases h
      have : g' = g := hc
      subst this
      exact ⟨_, _, _, hb, rfl⟩
    · rename_i g' _ _ hb
      cases h
      have : g' = g := hc
      subst this
      exact ⟨_, _, _, hb, rfl⟩
    · cases h
  | _ => exact .inr (by intros; simp)

theorem sliceOp_good (hT : TTok P TT) {t : TypeId} {i : TI} {info : TypeInfo} {d : TypeDesc} {z : Value} (ht : TIok P t i info d z) {FM : FMem} {β : BMap} {H : AHeap} {w : World} (hh : RelH FM β H w)
    {v : AV} {cv : Value} (hv : VR FM β v cv) {k1 k2 : IntKind} {lo hi : Option Int} : (sliceOp TT i v lo hi H).good fun u H' => SimV ((Instr.sliceAt t cv (ci k1 lo) (ci k2 hi) none).run P w) FM β H w u H' := by
  have hk := ht.kin
  unfold sliceOp
  split
  · rename_i s hkk
    rw [hkk] at hk
    cases d <;> simp only [TK.fits, Bool.false_eq_true] at hk
    cases hv with
    | str hs =>
    rename_i b
    cases hc : cutV (.str s) lo hi with
    | none => trivial
    | some q =>
      obtain ⟨C, v'⟩ := q
      intro c
      have hsz : s.length = b.size := by rw [← hs]; exact Array.length_toList
      have gen : ∀ l h : Nat, VR FM β (.str ((s.take h).drop l)) (.string (b.extract l h)) := by
        intro l h
        refine .str ?_
        rw [Lib.extract_data, ← hs, List.drop_take]
      have fin : ∀ l h : Nat, lo.getD 0 = (l : Int) → hi.getD (b.size : Int) = (h : Int) → l ≤ h → h ≤ b.size → v' = .str ((s.take h).drop l) → SimV ((Instr.sliceAt t (.string b) (ci k1 lo) (ci k2 hi) none).run P w) FM β H w v' H := by
        rintro l h h1 h2 h3 h4 rfl
        exact SimV.same (run_cut_str ht.des h1 h2 h3 h4) (gen l h) hh
      cases lo with
      | none =>
        cases hi with
        | none => simp [cutV] at hc
        | some y =>
          simp only [cutV, Option.some.injEq, Prod.mk.injEq] at hc
          obtain ⟨rfl, rfl⟩ := hc
          exact fin 0 y.toNat rfl (by simp; omega) (by omega) (by omega) (by simp)
      | some x =>
        cases hi with
        | none =>
          simp only [cutV, Option.some.injEq, Prod.mk.injEq] at hc
          obtain ⟨rfl, rfl⟩ := hc
          exact fin x.toNat s.length (by simp; omega) (by simp [hsz]) (by omega) (by omega) (by simp)
        | some y =>
          simp only [cutV, Option.some.injEq, Prod.mk.injEq] at hc
          obtain ⟨rfl, rfl⟩ := hc
          exact fin x.toNat y.toNat (by simp; omega) (by simp; omega) (by omega) (by omega) rfl
  · rename_i e hkk
    rw [hkk] at hk
    cases d <;> simp only [TK.fits, Bool.false_eq_true, beq_iff_eq] at hk
    subst hk
    cases hte : TT e with
    | none => trivial
    | some j =>
      simp only
      obtain ⟨info', d', z', ok⟩ := TI.fits_iff (hT _ _ hte)
      split
      · rename_i hw
        split
        · rename_i C v' c hc hg
          refine withC_ok fun hC hcc => ?_
          have hsl : ∃ a len cap, cv = .slice a len cap := by
            cases hv <;> first | exact ⟨_, _, _, rfl⟩ | (simp [widthOk] at hw; done)
          obtain ⟨a, len, cap, rfl⟩ := hsl
          obtain ⟨l, h, h1, h2, h3, h4, h5⟩ := cut_vr hh hv hw hc hC
          exact SimV.same (run_cut ht.des ok h1 h2 h3 h4) (h5 (genOf_ok hg hcc)) hh
        · trivial
      · trivial
  · trivial

theorem run_clip {w : World} {t e : TypeId} {j : TI} {info' : TypeInfo} {d' : TypeDesc} {z' : Value} (hu : P.underlying t = some (.slice e)) (ok : TIok P e j info' d' z') {a : Option Addr} {len cap : Nat} {k1 k2 : IntKind}
    {h x : Nat} (h1 : h ≤ x) (h2 : x ≤ cap) :
    (Instr.sliceAt t (.slice a len cap) none (some (.int k1 h)) (some (.int k2 x))).run P w = .ok (.slice (if x = 0 then a else a.map (·.add (0 * j.size))) (h - 0) (x - 0)) w := by
  have hn : ∀ (n : Nat), (0 : Int) ≤ n := fun n => Int.natCast_nonneg n
  simp [Instr.sliceAt, Instr.slice, Instr.sliceBounds, run_underlying hu, ok.run_size w, run_bound (P := P) (w := w) (hn h) (show (h : Int) ≤ x by omega), run_bound (P := P) (w := w) (hn x) (show (x : Int) ≤ cap by omega)]

theorem slice3Op_good (hT : TTok P TT) {t : TypeId} {i : TI} {info : TypeInfo} {d : TypeDesc} {z : Value} (ht : TIok P t i info d z) {FM : FMem} {β : BMap} {H : AHeap} {w : World} (hh : RelH FM β H w)
    {v : AV} {cv : Value} (hv : VR FM β v cv) {k1 k2 : IntKind} : (slice3Op TT i v 0 0 H).good fun u H' => SimV ((Instr.sliceAt t cv none (some (.int k1 0)) (some (.int k2 0))).run P w) FM β H w u H' := by
  have hk := ht.kin
  unfold slice3Op
  split
  · rename_i e hkk
    rw [hkk] at hk
    cases d <;> simp only [TK.fits, Bool.false_eq_true, beq_iff_eq] at hk
    subst hk
    cases hte : TT e with
    | none => trivial
    | some j =>
      simp only
      obtain ⟨info', d', z', ok⟩ := TI.fits_iff (hT _ _ hte)
      have fin : (∃ a len cap, cv = .slice a len cap) → SimV ((Instr.sliceAt t cv none (some (.int k1 0)) (some (.int k2 0))).run P w) FM β H w .e0 H := by
        rintro ⟨a, len, cap, rfl⟩
        exact SimV.same (run_clip (h := 0) (x := 0) ht.des ok (Nat.le_refl _) (Nat.zero_le _)) (by simpa using VR.e0) hh
      split
      · split <;> first | trivial | (intro _; cases hv <;> exact fin ⟨_, _, _, rfl⟩)
      · trivial
  · trivial

theorem clipOp_good (hT : TTok P TT) {t : TypeId} {i : TI} {info : TypeInfo} {d : TypeDesc} {z : Value} (ht : TIok P t i info d z) {FM : FMem} {β : BMap} {H : AHeap} {w : World} (hh : RelH FM β H w)
    {v : AV} {cv : Value} (hv : VR FM β v cv) {k1 k2 : IntKind} {h x : Int} : (clipOp TT i v h x H).good fun u H' => SimV ((Instr.sliceAt t cv none (some (.int k1 h)) (some (.int k2 x))).run P w) FM β H w u H' := by
  have hk := ht.kin
  unfold clipOp
  split
  · rename_i e hkk
    rw [hkk] at hk
    cases d <;> simp only [TK.fits, Bool.false_eq_true, beq_iff_eq] at hk
    subst hk
    cases hte : TT e with
    | none => trivial
    | some j =>
      simp only
      obtain ⟨info', d', z', ok⟩ := TI.fits_iff (hT _ _ hte)
      have run : ∀ (a : Option Addr) (len cap : Nat), h = (len : Int) → x = (len : Int) → len ≤ cap → (Instr.sliceAt t (.slice a len cap) none (some (.int k1 h)) (some (.int k2 x))).run P w = .ok (.slice a len len) w := by
        rintro a len cap rfl rfl hle
        rw [run_clip ht.des ok (Nat.le_refl _) hle]
        by_cases h0 : len = 0
        · simp [h0]
        · cases a <;> simp [h0, Addr.add]
      cases hv with
      | fi0 => rintro ⟨h1, h2⟩; exact SimV.same (run _ 0 _ (by simpa using h1) (by simpa using h2) (Nat.zero_le _)) .fi0 hh
      | fi hc hm => rintro ⟨h1, h2⟩; exact SimV.same (run _ _ _ h1 h2 hc) (.fi (Nat.le_refl _) hm) hh
      | fz0 => rintro ⟨h1, h2⟩; exact SimV.same (run _ 0 _ h1 h2 (Nat.zero_le _)) .fz0 hh
      | fz cvs hz hc hl hm ho hvs => rintro ⟨h1, h2⟩; exact SimV.same (run _ _ _ h1 h2 hc) (.fz cvs hz (Nat.le_refl _) hl hm ho hvs) hh
      | sl hl hs hr hc hp =>
        rintro ⟨h1, h2⟩
        rename_i b g off len cap L
        refine SimV.same (run _ _ _ h1 h2 hc) ?_ hh
        by_cases h0 : len = 0
        · subst h0; exact .sl0 hl (fun L' e => by cases e; exact hs)
        · exact .sl hl hs (by omega) (Nat.le_refl _) (by omega)
      | sl0 hl hs => rintro ⟨h1, h2⟩; exact SimV.same (run _ 0 0 h1 h2 (Nat.le_refl _)) (.sl0 hl hs) hh
      | nils => rintro ⟨h1, h2⟩; exact SimV.same (run _ 0 0 h1 h2 (Nat.le_refl _)) .nils hh
      | e0 => rintro ⟨h1, h2⟩; exact SimV.same (run _ 0 0 h1 h2 (Nat.le_refl _)) .e0 hh
      | _ => trivial
  · trivial
end Pf
