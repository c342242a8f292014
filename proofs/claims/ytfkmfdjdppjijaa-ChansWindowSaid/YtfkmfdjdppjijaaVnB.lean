/- What each operation of the small machine does. -/
import Derived.Test.YtfkmfdjdppjijaaVnA
set_option linter.unusedVariables false
set_option linter.unusedSimpArgs false
namespace Go.Vm
open Go

/-- What an operation asks of the memory and does to it: the blocks that it looks at, the names that it writes, and: a condition, the value, what each written name then holds (none: nothing is known of it any more). -/
structure Deed where
  rd : List Nat
  wr : List Nat
  go : List Blk → Option (Prop × AV × List (Option Blk))

def lookAll (M : Mem) : List Nat → Option (List Blk)
  | [] => some []
  | b :: r => match look b M with
    | none => none
    | some k => match lookAll M r with
      | none => none
      | some ks => some (k :: ks)

def put0 (b : Nat) (k : Option Blk) (M : Mem) : Mem :=
  match k with
  | none => drop1 b M
  | some k => put1 b k M

def putAll : List Nat → List (Option Blk) → Mem → Option Mem
  | [], [], M => some M
  | b :: r, k :: ks, M => putAll r ks (put0 b k M)
  | _, _, _ => none

def Deed.run (A : Deed) (M : Mem) : Option (Prop × AV × Mem) :=
  match lookAll M A.rd with
  | none => none
  | some bs => match A.go bs with
    | none => none
    | some (C, v, cs) => match putAll A.wr cs M with
      | none => none
      | some M' => some (C, v, M')

def pureD (C : Prop) (v : AV) : Option Deed := some { rd := [], wr := [], go := fun _ => some (C, v, []) }
def loadD (b : Nat) (f : Blk → Option (Prop × AV)) : Option Deed :=
  some { rd := [b], wr := [], go := fun l => match l with | [k] => (match f k with | some (C, v) => some (C, v, []) | none => none) | _ => none }
def storeD (b : Nat) (f : Blk → Option (Prop × Blk)) : Option Deed :=
  some { rd := [b], wr := [b], go := fun l => match l with | [k] => (match f k with | some (C, k') => some (C, undefA, [some k']) | none => none) | _ => none }
def newD (nm : Nat) (C : Prop) (k : Blk) (v : AV) : Option Deed := some { rd := [], wr := [nm], go := fun _ => some (C, v, [some k]) }

/-! ### values -/
def intsOf (k : IntKind) : List Value → Option (List Int)
  | [] => some []
  | .int k' n :: r => if k' = k then (match intsOf k r with | some xs => some (n :: xs) | none => none) else none
  | _ => none

def scOf : Value → Sc
  | .bool b => .b b
  | .int k n => .i k n
  | .string s => .s s
  | .pointer none => .nilp
  | .slice none 0 0 => .nils
  | v => .raw v

/-- Cells, as integers of one kind where they are. -/
def cellsOfV (l : List Value) : Option Blk :=
  match l.all (·.oneCell') with
  | false => none
  | true => match l with
    | .int k n :: r => (match intsOf k (.int k n :: r) with
      | some xs => some (.ints k xs.length xs)
      | none => some (.cells (l.map scOf)))
    | _ => some (.cells (l.map scOf))

def Blk.av : Blk → AV
  | .ints k n xs => .ints k n xs
  | .cells l => .agg l
  | .vec v xs => .agg (xs.map v.sc)

def avOf : Value → Option AV
  | .agg cs => (cellsOfV cs.toList).map Blk.av
  | .tuple _ => none
  | v => some (.sc (scOf v))

/-- The cells of a value. -/
def AV.blk : AV → Option Blk
  | .sc (.i k n) => some (.ints k 1 [n])
  | .sc s => some (.cells [s])
  | .ints k n xs => some (.ints k n xs)
  | .agg l => some (.cells l)
  | .tup _ => none

abbrev Globs := Nat → Option (IntKind × List Int)

def ev (G : Globs) (fr : Fr) : Operand → Option AV
  | .tmp t => look t fr
  | .const v => avOf v
  | .global g => match G g with | some (k, xs) => some (.sc (.rp k xs 0)) | none => none
  | .func f => some (.sc (.raw (.func (.func f) #[] #[])))

abbrev Env1 := Operand → Option AV

def evAll (ρ : Env1) : List Operand → Option (List AV)
  | [] => some []
  | o :: r => match ρ o with
    | none => none
    | some v => match evAll ρ r with
      | none => none
      | some vs => some (v :: vs)

/-! ### integers -/
def iAnd (k : IntKind) (x y : Int) : Int := k.wrap ((BitVec.ofInt k.bits x &&& BitVec.ofInt k.bits y).toNat : Int)
def iOr (k : IntKind) (x y : Int) : Int := k.wrap ((BitVec.ofInt k.bits x ||| BitVec.ofInt k.bits y).toNat : Int)
def iXor (k : IntKind) (x y : Int) : Int := k.wrap ((BitVec.ofInt k.bits x ^^^ BitVec.ofInt k.bits y).toNat : Int)
def iAndNot (k : IntKind) (x y : Int) : Int := k.wrap ((BitVec.ofInt k.bits x &&& ~~~(BitVec.ofInt k.bits y)).toNat : Int)
def iShl (k : IntKind) (x y : Int) : Int := k.wrap (x * 2 ^ (min y.toNat k.bits))
def iShr (k : IntKind) (x y : Int) : Int := x.fdiv (2 ^ (min y.toNat k.bits))
def iAdd (k : IntKind) (x y : Int) : Int := k.wrap (x + y)
def iSub (k : IntKind) (x y : Int) : Int := k.wrap (x - y)
def iMul (k : IntKind) (x y : Int) : Int := k.wrap (x * y)
def iQuo (k : IntKind) (x y : Int) : Int := k.wrap (x.tdiv y)
def iRem (x y : Int) : Int := x.tmod y
def iNot (k : IntKind) (x : Int) : Int := iXor k (if k.signed then -1 else k.max) x

def binInt (op : BinOp) (k : IntKind) (x y : Int) : Option (Prop × Sc) :=
  match op with
  | .add => some (True, .i k (iAdd k x y))
  | .sub => some (True, .i k (iSub k x y))
  | .mul => some (True, .i k (iMul k x y))
  | .quo => some (y ≠ 0, .i k (iQuo k x y))
  | .rem => some (y ≠ 0, .i k (iRem x y))
  | .and => some (True, .i k (iAnd k x y))
  | .or => some (True, .i k (iOr k x y))
  | .xor => some (True, .i k (iXor k x y))
  | .andNot => some (True, .i k (iAndNot k x y))
  | .eql => some (True, .b (x == y))
  | .neq => some (True, .b (x != y))
  | .lss => some (True, .b (decide (x < y)))
  | .leq => some (True, .b (decide (x ≤ y)))
  | .gtr => some (True, .b (decide (x > y)))
  | .geq => some (True, .b (decide (x ≥ y)))
  | _ => none

/-- The bytes of a list of integers, and back. -/
def bytesOf (xs : List Int) : ByteArray := ⟨(xs.map fun n => UInt8.ofNat n.toNat).toArray⟩
def bytesI (x : ByteArray) : List Int := x.data.toList.map fun c => (c.toNat : Int)
def byteAt (x : ByteArray) (i : Int) : Int := (bytesI x).getD i.toNat 0

def strEq (x y : ByteArray) : Bool := x.toList == y.toList

def binop (P : Program) (op : BinOp) (t : TypeId) (x y : AV) : Option Deed :=
  match x, y with
  | .sc (.i k a), .sc (.i k' b) =>
    match op with
    | .shl => pureD (0 ≤ b) (.sc (.i k (iShl k a b)))
    | .shr => pureD (0 ≤ b) (.sc (.i k (iShr k a b)))
    | op => if k = k' then (match binInt op k a b with | some (C, s) => pureD C (.sc s) | none => none) else none
  | .sc (.s a), .sc (.s b) =>
    match op with
    | .add => pureD (a.size + b.size ≤ 9223372036854775807) (.sc (.s (a ++ b)))
    | .eql => pureD True (.sc (.b (strEq a b)))
    | .neq => pureD True (.sc (.b (!strEq a b)))
    | _ => none
  | .sc (.b a), .sc (.b b) =>
    match P.underlying t with
    | some .bool => (match op with
      | .eql => pureD True (.sc (.b (a == b)))
      | .neq => pureD True (.sc (.b (!(a == b))))
      | _ => none)
    | _ => none
  | .ints k n xs, .ints k' n' ys =>
    match P.underlying t with
    | some (.array m e) => (match P.underlying e, (P.info? e).map (·.size) with
      | some (.int _), some 1 => if k = k' ∧ n = m ∧ n' = m then (match op with
        | .eql => pureD True (.sc (.b (xs == ys)))
        | .neq => pureD True (.sc (.b (!(xs == ys))))
        | _ => none) else none
      | _, _ => none)
    | _ => none
  | .sc (.p _ _), .sc .nilp =>
    match P.underlying t, op with
    | some (.pointer _), .eql => pureD True (.sc (.b false))
    | some (.pointer _), .neq => pureD True (.sc (.b true))
    | _, _ => none
  | .sc .nilp, .sc .nilp =>
    match P.underlying t, op with
    | some (.pointer _), .eql => pureD True (.sc (.b true))
    | some (.pointer _), .neq => pureD True (.sc (.b false))
    | _, _ => none
  | .sc (.ro _ xs), .sc .nils =>
    match P.underlying t, op with
    | some (.slice _), .eql => pureD (0 < xs.length) (.sc (.b false))
    | some (.slice _), .neq => pureD (0 < xs.length) (.sc (.b true))
    | _, _ => none
  | .sc (.sl _ _ len _ _), .sc .nils =>
    match P.underlying t, op with
    | some (.slice _), .eql => pureD (0 < len) (.sc (.b false))
    | some (.slice _), .neq => pureD (0 < len) (.sc (.b true))
    | _, _ => none
  | .sc .nils, .sc .nils =>
    match P.underlying t, op with
    | some (.slice _), .eql => pureD True (.sc (.b true))
    | some (.slice _), .neq => pureD True (.sc (.b false))
    | _, _ => none
  | _, _ => none

def unop (op : UnOp) (x : AV) : Option Deed :=
  match op, x with
  | .neg, .sc (.i k n) => pureD True (.sc (.i k (iSub k 0 n)))
  | .xor, .sc (.i k n) => pureD True (.sc (.i k (iNot k n)))
  | .not, .sc (.b b) => pureD True (.sc (.b (!b)))
  | _, _ => none

/-! ### memory -/
/-- The cell o + i * s. -/
def adr (o i s : Nat) : Nat := bif Nat.beq s 1 then (bif Nat.beq o 0 then i else o + i) else (bif Nat.beq o 0 then i * s else o + i * s)

theorem adr_eq (o i s : Nat) : adr o i s = o + i * s := by
  unfold adr
  cases h : Nat.beq s 1 <;> cases h' : Nat.beq o 0 <;> simp only [cond_true, cond_false]
  · rw [Nat.eq_of_beq_eq_true h']; omega
  · rw [Nat.eq_of_beq_eq_true h]; omega
  · rw [Nat.eq_of_beq_eq_true h, Nat.eq_of_beq_eq_true h']; omega

def Blk.at (blk : Blk) (j : Nat) : Prop × Sc :=
  match blk with
  | .ints k n xs => (j < n, .i k (xs.getD j 0))
  | .cells l => (j < l.length, l.getD j .nilp)
  | .vec v xs => (j < xs.length, v.sc (xs.getD j v.z))

def splice {α : Type} (xs : List α) (o : Nat) (ys : List α) : List α := xs.take o ++ ys ++ xs.drop (o + ys.length)

/-- Some cells of a block. -/
def Blk.sub (blk : Blk) (o s : Nat) : Prop × Blk :=
  match blk with
  | .ints k n xs => bif Nat.beq s n && Nat.beq o 0 then (True, .ints k n xs) else (o + s ≤ n, .ints k s ((xs.drop o).take s))
  | .cells l => (o + s ≤ l.length, .cells ((l.drop o).take s))
  | .vec v xs => bif Nat.beq o 0 then (s ≤ xs.length, .vec v (xs.take s)) else (o + s ≤ xs.length, .vec v ((xs.drop o).take s))

/-- One cell, or cells, written. -/
def Blk.put (blk : Blk) (o : Nat) (v : AV) : Option (Prop × Nat × Blk) :=
  match blk, v with
  | .ints k n xs, .sc (.i k' x) => if k = k' then some (o < n, 1, .ints k n (xs.set o x)) else none
  | .cells l, .sc s => some (o < l.length, 1, .cells (l.set o s))
  | .ints k n xs, .ints k' m ys => if k = k' then (bif Nat.beq m n && Nat.beq o 0 then some (True, m, .ints k n ys) else some (o + m ≤ n, m, .ints k n (splice xs o ys))) else none
  | .cells l, .ints k m ys => some (o + m ≤ l.length, m, .cells (splice l o (ys.map (.i k ·))))
  | .cells l, .agg ss => some (o + ss.length ≤ l.length, ss.length, .cells (splice l o ss))
  | .vec v xs, .sc s => match v.un s with
    | some x => some (o < xs.length, 1, .vec v (xs.set o x))
    | none => none
  | _, _ => none

/-- The same, whatever the lengths. -/
def Blk.putS (blk : Blk) (o : Nat) (v : AV) : Option (Prop × Nat × Blk) :=
  match blk, v with
  | .ints k n xs, .ints k' m ys => if k = k' then some (o + m ≤ n, m, .ints k n (splice xs o ys)) else none
  | blk, v => blk.put o v

def sizeT (P : Program) (t : TypeId) : Option Nat := (P.info? t).map (·.size)
def isAggT (P : Program) (t : TypeId) : Option Bool :=
  match P.underlying t with
  | some (.struct _) | some (.array _ _) => some true
  | some _ => some false
  | none => none

def loadOp (P : Program) (t : TypeId) (a : AV) : Option Deed :=
  match isAggT P t, sizeT P t with
  | some false, some _ =>
    match a with
    | .sc (.p b o) => loadD b fun k => let r := k.at o; some (r.1, .sc r.2)
    | .sc (.rp k xs j) => pureD (j < xs.length) (.sc (.i k (xs.getD j 0)))
    | .sc (.rps x) => pureD True (.sc (.s x))
    | .sc (.rpb xs) => pureD True (.sc (.ro .u8 xs))
    | _ => none
  | some true, some s =>
    match a with
    | .sc (.p b o) => loadD b fun k => let r := k.sub o s; some (r.1, r.2.av)
    | .sc (.rp k xs j) => pureD (j + s ≤ xs.length) (.ints k s ((xs.drop j).take s))
    | _ => none
  | _, _ => none

def storeOp (P : Program) (t : TypeId) (a v : AV) : Option Deed :=
  match sizeT P t, a with
  | some s, .sc (.p b o) => storeD b fun k => match k.put o v with
    | some (C, m, k') => some (C ∧ m = s, k')
    | none => none
  | _, _ => none

def allocOp (P : Program) (t : TypeId) (nm : Nat) : Option Deed :=
  match (P.info? t).map (·.zero) with
  | some (some z) => (match cellsOfV z.cells.toList with | some k => newD nm True k (.sc (.p nm 0)) | none => none)
  | _ => none

def boxOp (v : AV) (nm : Nat) : Option Deed :=
  match v.blk with
  | some k => newD nm True k (.sc (.p nm 0))
  | none => none

/-- Parts laid over cells. -/
def fillB (place : Nat → Option (Nat × Nat)) : Blk → List (Nat × AV) → Option (Prop × Blk)
  | k, [] => some (True, k)
  | k, (i, v) :: r => match place i with
    | none => none
    | some (off, size) => match k.put off v with
      | none => none
      | some (C, m, k') => match fillB place k' r with
        | none => none
        | some (C', k'') => some ((C ∧ m = size) ∧ C', k'')

def evParts (ρ : Env1) : List (Nat × Operand) → Option (List (Nat × AV))
  | [] => some []
  | (i, o) :: r => match ρ o with
    | none => none
    | some v => match evParts ρ r with
      | none => none
      | some vs => some ((i, v) :: vs)

def placesOf (P : Program) : List Field → Option (List (Nat × Nat))
  | [] => some []
  | f :: r => match sizeT P f.type with
    | none => none
    | some s => match placesOf P r with
      | none => none
      | some l => some ((f.offset, s) :: l)

def buildOp (P : Program) (t : TypeId) (parts : List (Nat × AV)) : Option Deed :=
  match (P.info? t).map (·.zero), P.underlying t with
  | some (some z), some (.struct fs) =>
    match placesOf P fs.toList with
    | none => none
    | some ps => match cellsOfV z.cells.toList with
      | none => none
      | some k0 => match fillB (fun i => ps[i]?) k0 parts with
        | some (C, k) => pureD C k.av
        | none => none
  | some (some z), some (.array _ e) =>
    match sizeT P e with
    | none => none
    | some s => match cellsOfV z.cells.toList with
      | none => none
      | some k0 => match fillB (fun i => some (i * s, s)) k0 parts with
        | some (C, k) => pureD C k.av
        | none => none
  | _, _ => none

def repeatL {α : Type} (l : List α) : Nat → List α
  | 0 => []
  | n + 1 => l ++ repeatL l n

def buildSliceOp (P : Program) (t : TypeId) (len : Nat) (parts : List (Nat × AV)) (nm : Nat) : Option Deed :=
  match P.underlying t with
  | some (.slice e) =>
    match sizeT P e, (P.info? e).map (·.zero) with
    | some s, some (some z) => bif Nat.beq s 0 then none else
      match cellsOfV (repeatL z.cells.toList len) with
      | none => none
      | some k0 => match fillB (fun i => some (i * s, s)) k0 parts with
        | some (C, k) => newD nm (C ∧ len * s ≤ 16777216 ∧ z.cells.size = s) k (.sc (.sl nm 0 len s none))
        | none => none
    | _, _ => none
  | _ => none

def fieldAddrOp (P : Program) (s : TypeId) (x : AV) (f : Nat) : Option Deed :=
  match P.underlying s with
  | some (.struct fs) => match fs.toList[f]? with
    | some fd => (match sizeT P fd.type, x with
      | some (_ + 1), .sc (.p b o) => pureD True (.sc (.p b (o + fd.offset)))
      | _, _ => none)
    | none => none
  | _ => none

def Blk.part (k : Blk) (agg : Bool) (o s : Nat) : Prop × AV :=
  match agg with
  | true => let r := k.sub o s; (r.1, r.2.av)
  | false => let r := k.at o; (r.1, .sc r.2)

def fieldOp (P : Program) (t : TypeId) (x : AV) (f : Nat) : Option Deed :=
  match P.underlying t with
  | some (.struct fs) => match fs.toList[f]? with
    | some fd => (match isAggT P fd.type, sizeT P fd.type, x with
      | some a, some s, .ints k n xs => let r := (Blk.ints k n xs).part a fd.offset s; pureD r.1 r.2
      | some a, some s, .agg l => let r := (Blk.cells l).part a fd.offset s; pureD r.1 r.2
      | _, _, _ => none)
    | none => none
  | _ => none

def indexOp (P : Program) (t : TypeId) (x ix : AV) : Option Deed :=
  match P.underlying t, x, ix with
  | some (.array n e), .ints k m xs, .sc (.i _ i) => (match isAggT P e, sizeT P e with
      | some a, some s => let r := (Blk.ints k m xs).part a (adr 0 i.toNat s) s; pureD ((0 ≤ i ∧ i < (n : Int)) ∧ r.1) r.2
      | _, _ => none)
  | some (.array n e), .agg l, .sc (.i _ i) => (match isAggT P e, sizeT P e with
      | some a, some s => let r := (Blk.cells l).part a (adr 0 i.toNat s) s; pureD ((0 ≤ i ∧ i < (n : Int)) ∧ r.1) r.2
      | _, _ => none)
  | some .string, .sc (.s s), .sc (.i _ i) => pureD (0 ≤ i ∧ i < (s.size : Int)) (.sc (.i .u8 (byteAt s i)))
  | _, _, _ => none

def indexAddrOp (P : Program) (t : TypeId) (x ix : AV) : Option Deed :=
  match P.underlying t, x, ix with
  | some (.array n e), .sc (.p b o), .sc (.i _ i) => (match sizeT P e with
      | some s => pureD (0 ≤ i ∧ i < (n : Int)) (.sc (.p b (adr o i.toNat s)))
      | none => none)
  | some (.array n e), .sc (.rp k xs j), .sc (.i _ i) => (match sizeT P e with
      | some 1 => pureD (0 ≤ i ∧ i < (n : Int)) (.sc (.rp k xs (j + i.toNat)))
      | _ => none)
  | some (.slice e), .sc (.sl b off len es _), .sc (.i _ i) => (match sizeT P e with
      | some s => if s = es then pureD (0 ≤ i ∧ i < (len : Int)) (.sc (.p b (adr off i.toNat s))) else none
      | none => none)
  | some (.slice e), .sc (.ro k xs), .sc (.i _ i) => (match sizeT P e with
      | some 1 => pureD (0 ≤ i ∧ i < (xs.length : Int)) (.sc (.rp k xs i.toNat))
      | _ => none)
  | some (.slice e), .sc (.ros xs), .sc (.i _ i) => (match sizeT P e with
      | some 1 => pureD (0 ≤ i ∧ i < (xs.length : Int)) (.sc (.rps (xs.getD i.toNat ⟨#[]⟩)))
      | _ => none)
  | some (.slice e), .sc (.rob xs), .sc (.i _ i) => (match sizeT P e with
      | some 1 => pureD (0 ≤ i ∧ i < (xs.length : Int)) (.sc (.rpb (xs.getD i.toNat [])))
      | _ => none)
  | _, _, _ => none

/-- An optional bound of a slice expression. -/
def bnd (d : Int) : Option AV → Option Int
  | none => some d
  | some (.sc (.i _ i)) => some i
  | _ => none

def sliceOp (P : Program) (t : TypeId) (x : AV) (lo hi mx : Option AV) : Option Deed :=
  match P.underlying t, x with
  | some .string, .sc (.s s) => (match bnd 0 lo, bnd s.size hi, mx with
      | some l, some h, none => pureD (0 ≤ l ∧ l ≤ h ∧ h ≤ (s.size : Int)) (.sc (.s (s.extract l.toNat h.toNat)))
      | _, _, _ => none)
  | some (.slice e), .sc (.ro k xs) => (match sizeT P e, bnd 0 lo, bnd xs.length hi, mx with
      | some 1, some l, some h, none => pureD (0 ≤ l ∧ l ≤ h ∧ h ≤ (xs.length : Int)) (.sc (.ro k ((xs.drop l.toNat).take (h.toNat - l.toNat))))
      | some 1, some l, some h, some (.sc (.i _ m)) => pureD (0 ≤ l ∧ l ≤ h ∧ h ≤ m ∧ m ≤ (xs.length : Int)) (.sc (.ro k ((xs.drop l.toNat).take (h.toNat - l.toNat))))
      | _, _, _, _ => none)
  | some (.slice e), .sc (.sl b off len es cap) => (match sizeT P e, bnd 0 lo, bnd len hi, mx with
      | some s, some l, some h, none => if s = es then pureD (0 ≤ l ∧ l ≤ h ∧ h ≤ (len : Int)) (.sc (.sl b (off + l.toNat * es) (h.toNat - l.toNat) es (cap.map (· - l.toNat)))) else none
      | some s, some l, some h, some (.sc (.i _ m)) => if s = es then pureD (0 ≤ l ∧ l ≤ h ∧ h ≤ m ∧ m ≤ (len : Int)) (.sc (.sl b (off + l.toNat * es) (h.toNat - l.toNat) es (some (m.toNat - l.toNat)))) else none
      | _, _, _, _ => none)
  | some (.slice e), .sc .nils => (match sizeT P e, bnd 0 lo, bnd 0 hi, mx with
      | some _, some l, some h, none => pureD (l = 0 ∧ h = 0) (.sc .nils)
      | _, _, _, _ => none)
  | some (.array n e), .sc (.p b o) => (match sizeT P e, bnd 0 lo, bnd n hi, mx with
      | some s, some l, some h, none => loadD b fun k => some ((0 ≤ l ∧ l ≤ h ∧ h ≤ (n : Int)) ∧ o + n * s ≤ k.len, .sc (.sl b (o + l.toNat * s) (h.toNat - l.toNat) s (some (n - l.toNat))))
      | some s, some l, some h, some (.sc (.i _ m)) => loadD b fun k => some ((0 ≤ l ∧ l ≤ h ∧ h ≤ m ∧ m ≤ (n : Int)) ∧ o + n * s ≤ k.len, .sc (.sl b (o + l.toNat * s) (h.toNat - l.toNat) s (some (m.toNat - l.toNat))))
      | _, _, _, _ => none)
  | _, _ => none

/-- The integers that a slice reads as: what must be looked at, and how it is read there. -/
def readD (x : AV) (f : List Int → Option (Prop × AV)) : Option Deed :=
  match x with
  | .sc (.ro _ xs) => (match f xs with | some (C, v) => pureD C v | none => none)
  | .sc .nils => (match f [] with | some (C, v) => pureD C v | none => none)
  | .sc (.sl b off len 1 _) => loadD b fun k => match k with
    | .ints _ n xs => (match f ((xs.drop off).take len) with | some (C, v) => some (off + len ≤ n ∧ C, v) | none => none)
    | _ => none
  | _ => none

def convertOp (P : Program) (src dst : TypeId) (x : AV) (nm : Nat) : Option Deed :=
  match P.underlying src, P.underlying dst, x with
  | _, some (.int k), .sc (.i _ n) => (match P.underlying src with | some _ => pureD True (.sc (.i k (k.wrap n))) | none => none)
  | some _, some .string, .sc (.s s) => pureD True (.sc (.s s))
  | some _, some (.slice e), .sc (.s s) => (match P.underlying e with
      | some (.int .u8) => newD nm True (.ints .u8 s.size (bytesI s)) (.sc (.sl nm 0 s.size 1 none))
      | _ => none)
  | some (.slice _), some (.slice e), .sc (.sl b off len 1 cap) => (match P.underlying e, Nat.beq src dst with
      | some (.int .u8), true => loadD b fun k => some (k.len = len ∧ off = 0 ∧ 0 < len, .sc (.sl b off len 1 cap))
      | _, _ => none)
  | some (.slice e), some .string, x => (match P.underlying e with
      | some (.int .u8) => (match x with
        | .sc (.ro .u8 xs) => pureD True (.sc (.s (bytesOf xs)))
        | .sc .nils => pureD True (.sc (.s ⟨#[]⟩))
        | .sc (.sl b off len 1 _) => loadD b fun k => match k with
          | .ints .u8 n xs => some (off + len ≤ n, .sc (.s (bytesOf ((xs.drop off).take len))))
          | _ => none
        | _ => none)
      | _ => none)
  | _, _, _ => none

def makeSliceOp (P : Program) (t : TypeId) (len cap : AV) (nm : Nat) : Option Deed :=
  match P.underlying t, len, cap with
  | some (.slice e), .sc (.i .i64 l), .sc (.i .i64 c) =>
    match P.info? e with
    | some i => (match i.zero, i.size with
      | some (.int k z), 1 => newD nm ((0 ≤ l ∧ l = c) ∧ l ≤ 140737488355328 ∧ (i.bytes : Int) * l ≤ 281474976710656) (.ints k l.toNat (List.replicate l.toNat z)) (.sc (.sl nm 0 l.toNat 1 none))
      | some (.string z), 1 => newD nm ((0 ≤ l ∧ l = c) ∧ l ≤ 140737488355328 ∧ (i.bytes : Int) * l ≤ 281474976710656) (.vec .str (List.replicate l.toNat z)) (.sc (.sl nm 0 l.toNat 1 none))
      | some z, s => (match cellsOfV (repeatL z.cells.toList l.toNat) with
        | some k => newD nm (((0 ≤ l ∧ l = c) ∧ l ≤ 140737488355328 ∧ (i.bytes : Int) * l ≤ 281474976710656) ∧ z.cells.size = s ∧ 0 < s) k (.sc (.sl nm 0 l.toNat s none))
        | none => none)
      | _, _ => none)
    | none => none
  | _, _, _ => none

def arrayAtOp (P : Program) (t : TypeId) (x : AV) : Option Deed :=
  match P.underlying t, x with
  | some (.array n _), .sc (.ro k xs) => pureD (0 < n ∧ n ≤ xs.length) (.sc (.rp k xs 0))
  | some (.array n _), .sc (.sl b off len _ _) => pureD (0 < n ∧ n ≤ len) (.sc (.p b off))
  | _, _ => none

def lenOp (P : Program) (t : TypeId) (x : AV) : Option Deed :=
  match P.underlying t, x with
  | some .string, .sc (.s s) => pureD True (.sc (.i .i64 s.size))
  | some (.array n _), _ => pureD True (.sc (.i .i64 n))
  | some (.slice _), .sc (.sl _ _ len _ _) => pureD True (.sc (.i .i64 len))
  | some (.slice _), .sc .nils => pureD True (.sc (.i .i64 0))
  | some (.slice _), .sc (.ro _ xs) => pureD True (.sc (.i .i64 xs.length))
  | some (.slice _), .sc (.ros xs) => pureD True (.sc (.i .i64 xs.length))
  | some (.slice _), .sc (.rob xs) => pureD True (.sc (.i .i64 xs.length))
  | _, _ => none

def minI (x y : Int) : Int := if y < x then y else x
def maxI (x y : Int) : Int := if y > x then y else x

def minOp : List AV → Option Deed
  | [.sc (.i k x), .sc (.i _ y)] => pureD True (.sc (.i k (minI x y)))
  | [.sc (.i k x), .sc (.i _ y), .sc (.i _ z)] => pureD True (.sc (.i k (minI (minI x y) z)))
  | _ => none

def Blk.cat (a b : Blk) : Option Blk :=
  match a, b with
  | .ints k n xs, .ints k' m ys => if k = k' then some (.ints k (n + m) (xs ++ ys)) else none
  | .cells l, .cells m => some (.cells (l ++ m))
  | .vec v xs, .cells l => match v.unL l with
    | some ys => some (.vec v (xs ++ ys))
    | none => none
  | .vec .row xs, .vec .row ys => some (.vec .row (xs ++ ys))
  | .vec .str xs, .vec .str ys => some (.vec .str (xs ++ ys))
  | .vec .tab xs, .vec .tab ys => some (.vec .tab (xs ++ ys))
  | _, _ => none

/-- From a place on. -/
def Blk.from (k : Blk) (o : Nat) : Blk :=
  match k with
  | .ints k n xs => bif Nat.beq o 0 then .ints k n xs else .ints k (n - o) (xs.drop o)
  | .cells l => .cells (l.drop o)
  | .vec v xs => bif Nat.beq o 0 then .vec v xs else .vec v (xs.drop o)

/-- What an append takes: what is looked at; how many elements; their cells. -/
def srcOf (x : AV) : Option (List Nat × (List Blk → Option (Prop × Nat × Blk))) :=
  match x with
  | .sc (.s s) => some ([], fun _ => some (True, s.size, .ints .u8 s.size (bytesI s)))
  | .sc (.ro k xs) => some ([], fun _ => some (True, xs.length, .ints k xs.length xs))
  | .sc (.sl b off len es _) => some ([b], fun l => match l with
    | [k] => let r := k.sub off (len * es); some (r.1, len, r.2)
    | _ => none)
  | _ => none

/-- Zeros, so many: what 'append(s, make(..)...)' takes. -/
def zerosOf (P : Program) (e : TypeId) (x : AV) : Option (List Nat × (List Blk → Option (Prop × Nat × Blk))) :=
  match x, P.info? e with
  | .sc (.i .i64 n), some i => (match i.zero, i.size with
    | some (.int k z), 1 => some ([], fun _ => some ((0 ≤ n ∧ n ≤ 140737488355328) ∧ (i.bytes : Int) * n ≤ 281474976710656, n.toNat, .ints k n.toNat (List.replicate n.toNat z)))
    | _, _ => none)
  | _, _ => none

def srcOf2 (P : Program) (e u : TypeId) (x : AV) : Option (List Nat × (List Blk → Option (Prop × Nat × Blk))) :=
  match P.underlying u with
  | some .string => srcOf x
  | some (.slice _) => srcOf x
  | some (.int _) => zerosOf P e x
  | _ => none

def appendOp (P : Program) (t u : TypeId) (dst src : AV) (nm : Nat) : Option Deed :=
  match P.underlying t with
  | some (.slice e) =>
    match P.info? e, srcOf2 P e u src with
    | some i, some (rs, f) => (match i.zero with
      | none => none
      | some z => (match dst with
        | .sc .nils => some { rd := rs, wr := [nm], go := fun l => match f l with
            | some (C, m, k) => some (((C ∧ z.cells.size = i.size) ∧ 0 < i.size ∧ m * i.bytes ≤ 140737488355328 ∧ m ≤ 140737488355328) ∧ k.len = m * i.size, .sc (.sl nm 0 m i.size none), [some k])
            | none => none }
        | .sc (.sl b off len es none) => if rs.any (Nat.beq b) then none else some { rd := b :: rs, wr := [b, nm], go := fun l => match l with
            | k0 :: l' => (match f l' with
              | some (C, m, k) => (match (k0.from off).cat k with
                | some k' => some ((((C ∧ z.cells.size = i.size) ∧ 0 < i.size ∧ (len + m) * i.bytes ≤ 140737488355328 ∧ len + m ≤ 140737488355328) ∧ k.len = m * i.size) ∧ es = i.size ∧ off + len * es = k0.len, .sc (.sl nm 0 (len + m) i.size none), [none, some k'])
                | none => none)
              | none => none)
            | _ => none }
        | .sc (.sl b off len es (some c)) => some { rd := b :: rs, wr := [nm], go := fun l => match l with
            | k0 :: l' => (match f l' with
              | some (C, m, k) => let r := k0.sub off (len * es); (match r.2.cat k with
                | some k' => some (((((C ∧ r.1) ∧ z.cells.size = i.size) ∧ 0 < i.size ∧ (len + m) * i.bytes ≤ 140737488355328 ∧ len + m ≤ 140737488355328) ∧ k.len = m * i.size) ∧ es = i.size ∧ c = len ∧ 0 < m, .sc (.sl nm 0 (len + m) i.size none), [some k'])
                | none => none)
              | none => none)
            | _ => none }
        | _ => none))
    | _, _ => none
  | _ => none

/-- copy, where all of the source has room. -/
def copyOp (P : Program) (t : TypeId) (dst src : AV) : Option Deed :=
  match P.underlying t with
  | some (.slice e) =>
    match sizeT P e, dst, srcOf src with
    | some s, .sc (.sl b off len es _), some (rs, f) => if rs.any (Nat.beq b) then none else some { rd := b :: rs, wr := [b], go := fun l => match l with
        | k0 :: l' => (match f l' with
          | some (C, m, k) => (match k0.putS off k.av with
            | some (C', m', k') => some ((((C ∧ C') ∧ 0 < s ∧ s = es) ∧ m ≤ len ∧ k.len = m * s) ∧ m' = m * s, .sc (.i .i64 m), [some k'])
            | none => none)
          | none => none)
        | _ => none }
    | _, _, _ => none
  | _ => none

/-! ### an operation -/
def evOpt (ρ : Env1) : Option Operand → Option (Option AV)
  | none => some none
  | some o => match ρ o with
    | some v => some (some v)
    | none => none

def opDeed (P : Program) (ρ : Env1) (nm : Nat) (o : Oper) : Option Deed :=
  match o.op with
  | .move x | .assign x => match ρ x with
    | some v => pureD True v
    | none => none
  | .pick c a b => match ρ c, ρ a, ρ b with
    | some (.sc (.b x)), some va, some vb => pureD True (match x with | true => va | false => vb)
    | some (.sc (.b x)), some va, none => pureD (x = true) va
    | some (.sc (.b x)), none, some vb => pureD (x = false) vb
    | _, _, _ => none
  | .alloc t => allocOp P t nm
  | .box _ x => match ρ x with
    | some v => boxOp v nm
    | none => none
  | .build t parts => match evParts ρ parts.toList with
    | some ps => buildOp P t ps
    | none => none
  | .buildSlice t len parts => match evParts ρ parts.toList with
    | some ps => buildSliceOp P t len ps nm
    | none => none
  | .load t x => match ρ x with
    | some v => loadOp P t v
    | none => none
  | .store t x y => match ρ x, ρ y with
    | some a, some v => storeOp P t a v
    | _, _ => none
  | .nilCheck x => match ρ x with
    | some (.sc (.p b n)) => pureD True (.sc (.p b n))
    | _ => none
  | .binOp op t x y _ => match ρ x, ρ y with
    | some a, some b => binop P op t a b
    | _, _ => none
  | .unOp op _ x => match ρ x with
    | some a => unop op a
    | none => none
  | .convert s d x => match ρ x with
    | some a => convertOp P s d a nm
    | none => none
  | .sliceToArrayPointer t x => match ρ x with
    | some a => arrayAtOp P t a
    | none => none
  | .makeSlice t l c => match ρ l, ρ c with
    | some a, some b => makeSliceOp P t a b nm
    | _, _ => none
  | .slice t x lo hi mx => match ρ x, evOpt ρ lo, evOpt ρ hi, evOpt ρ mx with
    | some a, some l, some h, some m => if m.isSome && h.isNone then none else sliceOp P t a l h m
    | _, _, _, _ => none
  | .fieldAddr t x f => match ρ x with
    | some a => fieldAddrOp P t a f
    | none => none
  | .field t x f => match ρ x with
    | some a => fieldOp P t a f
    | none => none
  | .indexAddr t x i => match ρ x, ρ i with
    | some a, some b => indexAddrOp P t a b
    | _, _ => none
  | .index t x i => match ρ x, ρ i with
    | some a, some b => indexOp P t a b
    | _, _ => none
  | .extract x i => match ρ x with
    | some (.tup l) => (match l[i]? with
      | some v => pureD True v.up
      | none => none)
    | _ => none
  | .call c => match c.callee with
    | .builtin .len => (match c.argTypes.toList, evAll ρ c.args.toList with
      | [t], some [v] => lenOp P t v
      | _, _ => none)
    | .builtin .min => (match evAll ρ c.args.toList with
      | some vs => minOp vs
      | none => none)
    | .builtin .append => (match c.argTypes.toList, evAll ρ c.args.toList with
      | [t, u], some [d, s] => appendOp P t u d s nm
      | _, _ => none)
    | .builtin .copy => (match c.argTypes.toList, evAll ρ c.args.toList with
      | [t, _], some [d, s] => copyOp P t d s
      | _, _ => none)
    | _ => none
  | _ => none

end Go.Vm
