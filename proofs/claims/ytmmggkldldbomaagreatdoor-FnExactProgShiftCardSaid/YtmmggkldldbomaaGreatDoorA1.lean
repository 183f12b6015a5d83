/- Own texts, part A1: PxA PxB PxC PxD PxE. -/
import Derived.Calls
import Derived.Orders
import Derived.Below
import Derived.Laws.AppendOwn
import Derived.Laws.Tables
import Derived.Laws.Cells
import Derived.Laws.IdiomCopy
import Derived.Laws.OwnMore
import Derived.Maps.AppendAt
import Derived.Deep.MidRow
set_option linter.unusedVariables false

/- The evaluator: tagged pure values, environments, operations. Nothing is proved here. -/
namespace Go.Px
open Go

/-- The kinds of data. A struct is a chain of 'cons' ended by 'nil'. 'mp' is a map that is nil. 'hdr': a slice of rows that are kept in an arena: its entry (0 is none), where it begins, how long it is. -/
inductive Ty where
  | int (k : IntKind) | bool | str | err | mp | slice (e : Ty) | nil | cons (a b : Ty) | hdr (et : Nat) (t : Ty)
  deriving DecidableEq, Inhabited

namespace Ty
def den : Ty → Type
  | .int _ => Int | .bool => Bool | .str => ByteArray | .err => Bool | .mp => Unit | .slice e => List e.den | .nil => Unit | .cons a b => a.den × b.den | .hdr _ _ => Nat × Nat × Nat
/-- cells -/
def size : Ty → Nat
  | .int _ => 1 | .bool => 1 | .str => 1 | .err => 1 | .mp => 1 | .slice _ => 1 | .nil => 0 | .cons a b => a.size + b.size | .hdr _ _ => 1
def dflt : (t : Ty) → t.den
  | .int _ => (0 : Int) | .bool => false | .str => ByteArray.empty | .err => false | .mp => () | .slice e => ([] : List e.den) | .nil => () | .cons a b => (a.dflt, b.dflt) | .hdr _ _ => ((0, 0, 0) : Nat × Nat × Nat)
def kindEq (a b : IntKind) : Bool := match a, b with
  | .i8, .i8 | .i16, .i16 | .i32, .i32 | .i64, .i64 | .u8, .u8 | .u16, .u16 | .u32, .u32 | .u64, .u64 => true
  | _, _ => false
theorem kindEq_eq {a b : IntKind} (h : kindEq a b = true) : a = b := by cases a <;> cases b <;> first | rfl | cases h
def beq : Ty → Ty → Bool
  | .int a, .int b => kindEq a b
  | .bool, .bool | .str, .str | .err, .err | .mp, .mp | .nil, .nil => true
  | .slice a, .slice b => a.beq b
  | .cons a b, .cons c d => a.beq c && b.beq d
  | .hdr a b, .hdr c d => Nat.beq a c && b.beq d
  | _, _ => false
theorem eq_of_beq : ∀ {a b : Ty}, a.beq b = true → a = b
  | .int a, .int b, h => by rw [kindEq_eq (a := a) (b := b) h]
  | .bool, .bool, _ | .str, .str, _ | .err, .err, _ | .mp, .mp, _ | .nil, .nil, _ => rfl
  | .slice a, .slice b, h => by rw [eq_of_beq (a := a) (b := b) h]
  | .cons a b, .cons c d, h => by
    simp only [beq, Bool.and_eq_true] at h
    rw [eq_of_beq (a := a) (b := c) h.1, eq_of_beq (a := b) (b := d) h.2]
  | .hdr a b, .hdr c d, h => by
    simp only [beq, Bool.and_eq_true, Nat.beq_eq] at h
    rw [h.1, eq_of_beq (a := b) (b := d) h.2]
end Ty

/-- One cell's worth of a value. fr: what it leads to was made in this call. -/
inductive Cell where
  | val (t : Ty) (x : t.den) (fr : Bool)
  | nil
  | row (o : Nat)
  | part (o : Nat) (t : Ty) (lo n : Nat)
  | ptr (o : Nat) (off : Nat)
  | elt (o : Nat) (t : Ty) (i off : Nat)
  | cptr (t : Ty) (x : t.den) (fr : Bool)
  | fn (f : Nat) (caps : List Nat)
  | mp (o : Nat)
  | ad (et : Nat) (t : Ty) (k i off : Nat)   -- the address of an element in an arena
instance : Inhabited Cell := ⟨.nil⟩
inductive SV where
  | cell (c : Cell) | agg (cs : List Cell) | tup (l : List (Bool × List Cell)) | undef | top   -- nothing is known of 'top'
def cellNames : Cell → List Nat
  | .row o => [o] | .part o _ _ _ => [o] | .ptr o _ => [o] | .elt o _ _ _ => [o] | .fn _ l => l | .mp o => [o]
  | _ => []
/-- st: 0 one's own, 1 frozen, 2 lent -/
inductive OV where
  | row (t : Ty) (et : Nat) (xs : List t.den) (fr : Bool) (st : Nat)
  | box (cs : List Cell) (st : Nat)
  | mp (k : IntKind) (es : List (ByteArray × Int)) (st : Nat)   -- a map of texts to numbers
  | mem (t : Ty) (et : Nat) (bs : List (Option (List t.den)))   -- an arena: rows that slices inside data lead to; what is none is dead
  | al (t : Ty) (et : Nat) (x : Nat × Nat × Nat)   -- a row that went into an arena: where it is
  | dead   -- nothing is known of it any more
structure Env where
  slots : List (Nat × Option SV)
  objs : List (Nat × Option OV)

def beqB (a b : Bool) : Bool := a == b
def look {α : Type} : List (Nat × Option α) → Nat → Option α
  | [], _ => none
  | (k, v) :: r, s => cond (Nat.beq k s) v (look r s)
inductive W where
  | slot (s : Nat) (v : Option SV) | obj (o : Nat) (v : Option OV)
def Env.put (e : Env) : W → Env
  | .slot s v => ⟨(s, v) :: e.slots, e.objs⟩
  | .obj o v => ⟨e.slots, (o, v) :: e.objs⟩
def Env.puts (e : Env) (ws : List W) : Env := ws.foldl Env.put e
def Env.slot (e : Env) (s : Nat) : Option SV := look e.slots s
def Env.obj (e : Env) (o : Nat) : Option OV := look e.objs o

/-- What is known of a type. -/
inductive TD where
  | int (k : IntKind) | bool | string | err | slice (e : Nat) | struct (fs : List (Nat × Nat)) | array (n e : Nat) | pointer (e : Nat) | map (k e : Nat) | other
structure TI where
  d : TD
  ty : Ty
  size : Nat
  bytes : Nat
  eqf : Bool := false     -- may values of this struct be compared by '=='
abbrev Types := List (Nat × Option TI)
def TI.isAgg (i : TI) : Bool := match i.d with | .struct _ | .array _ _ => true | _ => false

def tyVal (t t' : Ty) (x : t'.den) : Option t.den := if h : t'.beq t = true then some ((Ty.eq_of_beq h) ▸ x) else none
def tyList (t t' : Ty) (x : List t'.den) : Option (List t.den) := if h : t'.beq t = true then some ((Ty.eq_of_beq h) ▸ x) else none
def tyMem (t t' : Ty) (x : List (Option (List t'.den))) : Option (List (Option (List t.den))) := if h : t'.beq t = true then some ((Ty.eq_of_beq h) ▸ x) else none
/-- A settled cell as a datum of kind t. -/
def Cell.as (t : Ty) : Cell → Option t.den
  | .val t' x _ => tyVal t t' x
  | .nil => match t with | .slice e => some ([] : List e.den) | .hdr _ _ => some ((0, 0, 0) : Nat × Nat × Nat) | _ => none
  | _ => none
def Cell.fr : Cell → Bool
  | .val _ _ f => f
  | .nil => true
  | _ => false
/-- A row that goes into a datum is frozen. -/
def settle (v : Env) : Cell → Option (Cell × List W)
  | .val t x f => some (.val t x f, [])
  | .nil => some (.nil, [])
  | .row o => match v.obj o with
    | some (.row t et xs f 0) => some (.val (.slice t) xs f, [.obj o (some (.row t et xs f 1))])
    | some (.row t _ xs f 1) => some (.val (.slice t) xs f, [])
    | _ => none
  | _ => none
def settles (v : Env) : List Cell → Option (List Cell × List W)
  | [] => some ([], [])
  | c :: r => match settle v c, settles v r with
    | some (c', w), some (r', w') => some (c' :: r', w ++ w')
    | _, _ => none
/-- Settled cells as a datum, and those that are left. -/
def imp : (t : Ty) → List Cell → Option (t.den × List Cell)
  | .nil, cs => some ((), cs)
  | .cons a b, cs => match imp a cs with
    | some (x, r) => match imp b r with
      | some (y, r') => some ((x, y), r')
      | none => none
    | none => none
  | .int k, c :: r => (c.as (.int k)).map (·, r)
  | .bool, c :: r => (c.as .bool).map (·, r)
  | .str, c :: r => (c.as .str).map (·, r)
  | .err, c :: r => (c.as .err).map (·, r)
  | .mp, c :: r => (c.as .mp).map (·, r)
  | .slice e, c :: r => (c.as (.slice e)).map (·, r)
  | .hdr a t, c :: r => (c.as (.hdr a t)).map (·, r)
  | _, [] => none
def impAll (t : Ty) (cs : List Cell) : Option t.den := match imp t cs with | some (x, []) => some x | _ => none
def frAll (cs : List Cell) : Bool := cs.all Cell.fr
def expl : (t : Ty) → t.den → Bool → List Cell
  | .nil, _, _ => []
  | .cons a b, x, f => expl a x.1 f ++ expl b x.2 f
  | .int k, x, _ => [.val (.int k) x true]
  | .bool, x, _ => [.val .bool x true]
  | .str, x, _ => [.val .str x true]
  | .err, x, _ => [.val .err x true]
  | .mp, x, _ => [.val .mp x true]
  | .slice e, x, f => [.val (.slice e) x f]
  | .hdr a t, x, _ => [.val (.hdr a t) x true]
def zeroCells : Ty → List Cell
  | .nil => []
  | .cons a b => zeroCells a ++ zeroCells b
  | .int k => [.val (.int k) (0 : Int) true]
  | .bool => [.val .bool false true]
  | .str => [.val .str ByteArray.empty true]
  | .err => [.val .err false true]
  | .mp => [.val .mp () true]
  | .slice _ => [.nil]
  | .hdr _ _ => [.nil]
def replaced : List Cell → Nat → List Cell → List Cell
  | _, _, [] => []
  | new, 0, o :: r => match new with | n :: ns => n :: replaced ns 0 r | [] => o :: r
  | new, k + 1, o :: r => o :: replaced new k r
def SV.cells : SV → Option (List Cell)
  | .cell c => some [c] | .agg cs => some cs | _ => none
def sv (agg : Bool) (cs : List Cell) : Option SV := match agg, cs with
  | true, cs => some (.agg cs)
  | false, [c] => some (.cell c)
  | _, _ => none

def constSV : Value → Option SV
  | .int k n => some (.cell (.val (.int k) n true))
  | .bool b => some (.cell (.val .bool b true))
  | .string s => some (.cell (.val .str s true))
  | .slice none 0 0 => some (.cell .nil)
  | .nilIface => some (.cell (.val .err false true))
  | _ => some .top
def res (v : Env) : SV → SV
  | .cell (.row o) => match v.obj o with | some (.al t et x) => .cell (.val (.hdr et t) x true) | _ => .cell (.row o)
  | s => s
def opnd (v : Env) : Operand → Option SV
  | .tmp t => (v.slot t).map (res v)
  | .const c => constSV c
  | .func f => some (.cell (.fn f []))
  | .global _ => none
def ocell (v : Env) (x : Operand) : Option Cell := match opnd v x with | some (.cell c) => some c | _ => none
def oint (v : Env) (x : Operand) : Option (IntKind × Int) := match opnd v x with | some (.cell (.val (.int k) n _)) => some (k, n) | _ => none

/-- Names of what operation with result slot d makes. -/
def nm (d j : Nat) : Nat := (d + 1) * 64 + j

structure Eff where
  ok : Bool
  ws : List W
def yes (ws : List W) : Option Eff := some ⟨true, ws⟩
def setc (d : Nat) (c : Cell) : W := .slot d (some (.cell c))
def setv (d : Nat) (v : SV) : W := .slot d (some v)

/-! Arenas -/
def an (et : Nat) : Nat := 900000 + et % 100000
/-- An entry's row; which entries live; an entry written. Entries are told from 1 on. -/
def mrow {α : Type} (bs : List (Option (List α))) : Nat → List α
  | 0 => []
  | k + 1 => match bs.getD k none with | some xs => xs | none => []
def mlive {α : Type} (bs : List (Option (List α))) : Nat → Bool
  | 0 => false
  | k + 1 => match bs.getD k none with | some _ => true | none => false
def mwr {α : Type} (bs : List (Option (List α))) (x : Option (List α)) : Nat → List (Option (List α))
  | 0 => bs
  | k + 1 => bs.set k x
/-- What a slice into an arena holds; is it there? -/
def mval {α : Type} (bs : List (Option (List α))) (x : Nat × Nat × Nat) : List α := ((mrow bs x.1).take (x.2.1 + x.2.2)).drop x.2.1
def mok {α : Type} (bs : List (Option (List α))) (x : Nat × Nat × Nat) : Bool := Nat.beq x.2.2 0 || (mlive bs x.1 && Nat.ble (x.2.1 + x.2.2) (mrow bs x.1).length)
def mhit {α : Type} (bs : List (Option (List α))) (k j : Nat) : Bool := mlive bs k && Nat.ble (j + 1) (mrow bs k).length
/-- May the row be taken out; the row. -/
def mtk {α : Type} (bs : List (Option (List α))) (x : Nat × Nat × Nat) : Bool := Nat.beq x.2.1 0 && (Nat.beq x.1 0 || (mlive bs x.1 && Nat.ble x.2.2 (mrow bs x.1).length))
def mhd {α : Type} (bs : List (Option (List α))) (x : Nat × Nat × Nat) : List α := (mrow bs x.1).take x.2.2
def arena (v : Env) (et : Nat) (t : Ty) : Option (List (Option (List t.den))) := match v.obj (an et) with
  | some (.mem t' et' bs) => if Nat.beq et et' = true then tyMem t t' bs else none
  | _ => none
/-- A slice's length. -/
def lenOf (v : Env) : Cell → Option Int
  | .val (.hdr _ _) x _ => some ((x.2.2 : Nat) : Int)
  | .val (.slice e) x _ => some ((List.length (α := e.den) x : Nat) : Int)
  | .val .str x _ => some ((ByteArray.size x : Nat) : Int)
  | .nil => some 0
  | .row o => match v.obj o with | some (.row _ _ xs _ _) => some ((xs.length : Nat) : Int) | _ => none
  | .part _ _ _ n => some (n : Int)
  | _ => none

def bt (s : ByteArray) (i : Int) : Int := if h : i.toNat < s.size then ((s[i.toNat]'h).toNat : Int) else 0
def rd {t : Ty} (xs : List t.den) (i : Int) : t.den := xs.getD i.toNat t.dflt
def inB (i n : Int) : Bool := decide (0 ≤ i) && decide (i < n)

def intBin (op : BinOp) (k : IntKind) (x y : Int) : Option (Bool × (Int ⊕ Bool)) := match op with
  | .add => some (true, .inl (k.wrap (x + y)))
  | .sub => some (true, .inl (k.wrap (x - y)))
  | .mul => some (true, .inl (k.wrap (x * y)))
  | .quo => some (!(y == 0), .inl (k.wrap (x.tdiv y)))
  | .rem => some (!(y == 0), .inl (x.tmod y))
  | .and => some (true, .inl (k.wrap (BitVec.ofInt k.bits x &&& BitVec.ofInt k.bits y).toNat))
  | .or => some (true, .inl (k.wrap (BitVec.ofInt k.bits x ||| BitVec.ofInt k.bits y).toNat))
  | .xor => some (true, .inl (k.wrap (BitVec.ofInt k.bits x ^^^ BitVec.ofInt k.bits y).toNat))
  | .andNot => some (true, .inl (k.wrap (BitVec.ofInt k.bits x &&& ~~~ BitVec.ofInt k.bits y).toNat))
  | .eql => some (true, .inr (x == y))
  | .neq => some (true, .inr (x != y))
  | .lss => some (true, .inr (decide (x < y)))
  | .leq => some (true, .inr (decide (x ≤ y)))
  | .gtr => some (true, .inr (decide (x > y)))
  | .geq => some (true, .inr (decide (x ≥ y)))
  | .shl => some (decide (0 ≤ y), .inl (k.wrap (x * 2 ^ (min y.toNat k.bits))))
  | .shr => some (decide (0 ≤ y), .inl (x.fdiv (2 ^ (min y.toNat k.bits))))
theorem sok_ex : ∃ f : ByteArray → ByteArray → Bool, ∀ x y, f x y = decide (((x.size + y.size : Nat) : Int) ≤ 140737488355328) := ⟨_, fun _ _ => rfl⟩
/-- May two texts be joined? (The kernel does not look into it.) -/
noncomputable def sok : ByteArray → ByteArray → Bool := Classical.choose sok_ex
theorem sok_eq (x y : ByteArray) : sok x y = decide (((x.size + y.size : Nat) : Int) ≤ 140737488355328) := Classical.choose_spec sok_ex x y
noncomputable def strBin (op : BinOp) (x y : ByteArray) : Option (Bool × (ByteArray ⊕ Bool)) :=
  match op with
  | .add => some (sok x y, .inl (x ++ y))
  | .eql => some (true, .inr (x.toList == y.toList))
  | .neq => some (true, .inr (!(x.toList == y.toList)))
  | .lss => some (true, .inr (Op.bytesLess x.toList y.toList))
  | .leq => some (true, .inr (Op.bytesLess x.toList y.toList || (x.toList == y.toList)))
  | .gtr => some (true, .inr (!(Op.bytesLess x.toList y.toList || (x.toList == y.toList))))
  | .geq => some (true, .inr (!(Op.bytesLess x.toList y.toList)))
  | _ => none
/-- '==' of two cells of plain data. -/
def cellEq : Cell → Cell → Option Bool
  | .val (.int k) x _, .val (.int k') y _ => if Ty.kindEq k k' = true then some (show Bool from (show Int from x) == (show Int from y)) else none
  | .val .bool x _, .val .bool y _ => some (beqB x y)
  | .val .str x _, .val .str y _ => some (ByteArray.toList x == ByteArray.toList y)
  | _, _ => none
def cellsEq : List Cell → List Cell → Option Bool
  | [], [] => some true
  | c :: r, d :: s => match cellEq c d, cellsEq r s with
    | some b, some b' => some (b && b')
    | _, _ => none
  | _, _ => none
/-- The cells of a plain datum, by type. -/
def tyCells : Ty → List Ty
  | .nil => []
  | .cons a b => tyCells a ++ tyCells b
  | t => [t]
def cellFit : Cell → Ty → Bool
  | .val (.int k) _ _, .int k' => Ty.kindEq k k'
  | .val .bool _ _, .bool => true
  | .val .str _ _, .str => true
  | _, _ => false
def cellsFit : List Cell → List Ty → Bool
  | [], [] => true
  | c :: r, t :: s => cellFit c t && cellsFit r s
  | _, _ => false
noncomputable def binEff (T : Types) (v : Env) (d : Nat) (op : BinOp) (t : Nat) (x y : Operand) : Option Eff :=
  match opnd v x, opnd v y with
  | some (.cell (.val (.int k) a _)), some (.cell (.val (.int k') b _)) =>
    match op with
    | .shl | .shr => match intBin op k a b with
      | some (ok, .inl r) => some ⟨ok, [setc d (.val (.int k) r true)]⟩
      | _ => none
    | _ => if Ty.kindEq k k' = true then match intBin op k a b with
      | some (ok, .inl r) => some ⟨ok, [setc d (.val (.int k) r true)]⟩
      | some (ok, .inr r) => some ⟨ok, [setc d (.val .bool r true)]⟩
      | none => none else none
  | some (.cell (.val .str a _)), some (.cell (.val .str b _)) => match strBin op a b with
    | some (ok, .inl r) => some ⟨ok, [setc d (.val .str r true)]⟩
    | some (ok, .inr r) => some ⟨ok, [setc d (.val .bool r true)]⟩
    | none => none
  | some (.cell (.val .bool a _)), some (.cell (.val .bool b _)) => match look T t with
    | some i => match i.d with
      | .bool => match op with
        | .eql => yes [setc d (.val .bool (beqB a b) true)]
        | .neq => yes [setc d (.val .bool (!(beqB a b)) true)]
        | _ => none
      | _ => none
    | none => none
  | some (.cell (.val .err a _)), some (.cell (.val .err b _)) => match look T t, y, b with
    | some i, .const .nilIface, false => match i.d with
      | .err => match op with
        | .eql => yes [setc d (.val .bool (!a) true)]
        | .neq => yes [setc d (.val .bool a true)]
        | _ => none
      | _ => none
    | _, _, _ => none
  | some (.agg a), some (.agg b) => match look T t, cellsEq a b with
    | some i, some r => match op with
      | .eql => if i.eqf && cellsFit a (tyCells i.ty) then yes [setc d (.val .bool r true)] else none
      | .neq => if i.eqf && cellsFit a (tyCells i.ty) then yes [setc d (.val .bool (!r) true)] else none
      | _ => none
    | _, _ => none
  | _, _ => none

/-- Where an address leads. -/
def loadEff (T : Types) (v : Env) (d : Nat) (t : Nat) (x : Operand) : Option Eff :=
  match look T t, ocell v x with
  | some i, some (.ptr o off) => match v.obj o with
    | some (.box cs _) => match sv i.isAgg ((cs.drop off).take i.size) with
      | some r => if Nat.ble (off + i.size) cs.length = true then yes [setv d r] else none
      | none => none
    | _ => none
  | some i, some (.elt o t' j off) => match v.obj o with
    | some (.row t'' _ xs f _) => if t''.beq t' = true then
        match sv i.isAgg (((expl t'' (xs.getD j t''.dflt) f).drop off).take i.size) with
        | some r => if Nat.ble (off + i.size) t''.size = true then yes [setv d r] else none
        | none => none
      else none
    | _ => none
  | some i, some (.cptr t' x' f) => if t'.beq i.ty = true then match sv i.isAgg (expl t' x' f) with
      | some r => yes [setv d r]
      | none => none
    else none
  | some i, some (.ad et t' k j off) => match arena v et t' with
    | some bs => match sv i.isAgg (((expl t' ((mrow bs k).getD j t'.dflt) true).drop off).take i.size) with
      | some r => if Nat.ble (off + i.size) t'.size = true then some ⟨mhit bs k j, [setv d r]⟩ else none
      | none => none
    | none => none
  | _, _ => none
def storeEff (T : Types) (v : Env) (t : Nat) (x y : Operand) : Option Eff :=
  match look T t, ocell v x, (opnd v y).bind SV.cells with
  | some i, some (.ptr o off), some cs' => match v.obj o with
    | some (.box cs st) => if (Nat.beq cs'.length i.size && (Nat.ble (off + i.size) cs.length && !(Nat.beq st 1))) = true then yes [.obj o (some (.box (replaced cs' off cs) st))] else none
    | _ => none
  | some i, some (.elt o t' j off), some cs' => match v.obj o, settles v cs' with
    | some (.row t'' et xs f st), some (cs'', ws) =>
      if (t''.beq t' && (Nat.beq cs'.length i.size && (Nat.ble (off + i.size) t''.size && (!(Nat.beq st 1) && !((cs'.flatMap cellNames).any (Nat.beq o)))))) = true then
        match impAll t'' (replaced cs'' off (expl t'' (xs.getD j t''.dflt) f)) with
        | some z => yes (ws ++ [.obj o (some (.row t'' et (xs.set j z) (f && frAll cs'') st))])
        | none => none
      else none
    | _, _ => none
  | some i, some (.ad et t' k j off), some cs' => match arena v et t' with
    | some bs => if (Nat.beq cs'.length i.size && Nat.ble (off + i.size) t'.size) = true then
        match impAll t' (replaced cs' off (expl t' ((mrow bs k).getD j t'.dflt) true)) with
        | some z => some ⟨mhit bs k j, [.obj (an et) (some (.mem t' et (mwr bs (some ((mrow bs k).set j z)) k)))]⟩
        | none => none
      else none
    | none => none
  | _, _, _ => none

def fieldEff (T : Types) (v : Env) (d : Nat) (s : Nat) (x : Operand) (f : Nat) : Option Eff :=
  match look T s with
  | some i => match i.d with
    | .struct fs => match fs[f]? with
      | some (fo, ft) => match look T ft with
        | some fi => if Nat.ble 1 fi.size = true then match ocell v x with
          | some (.ptr o off) => yes [setc d (.ptr o (off + fo))]
          | some (.elt o t j off) => yes [setc d (.elt o t j (off + fo))]
          | some (.ad et t k j off) => yes [setc d (.ad et t k j (off + fo))]
          | some (.cptr t y fr) => if (t.beq i.ty && Nat.ble (fo + fi.size) i.size) = true then match impAll fi.ty (((expl t y fr).drop fo).take fi.size) with
            | some z => yes [setc d (.cptr fi.ty z fr)]
            | none => none else none
          | _ => none
          else none
        | none => none
      | none => none
    | _ => none
  | none => none

def indexEff (T : Types) (v : Env) (d : Nat) (t : Nat) (x y : Operand) : Option Eff :=
  match look T t, ocell v x, oint v y with
  | some i, some c, some (_, n) => match i.d, c with
    | .slice e, .val (.slice t') xs f => match look T e with
      | some ei => if ei.ty.beq t' = true then some ⟨inB n (List.length (α := t'.den) xs : Nat), [setc d (.cptr t' (rd xs n) f)]⟩ else none
      | none => none
    | .slice e, .val (.hdr et t') x _ => match look T e with
      | some ei => if ei.ty.beq t' = true then some ⟨inB n (x.2.2 : Nat), [setc d (.ad et t' x.1 (x.2.1 + n.toNat) 0)]⟩ else none
      | none => none
    | .slice e, .row o => match v.obj o, look T e with
      | some (.row t' _ xs _ _), some ei => if ei.ty.beq t' = true then some ⟨inB n (xs.length : Nat), [setc d (.elt o t' n.toNat 0)]⟩ else none
      | _, _ => none
    | .slice e, .part o t' lo m => match v.obj o, look T e with
      | some (.row _ _ _ _ _), some ei => if ei.ty.beq t' = true then some ⟨inB n (m : Nat), [setc d (.elt o t' (lo + n.toNat) 0)]⟩ else none
      | _, _ => none
    | _, _ => none
  | _, _, _ => none

/-- where a part begins -/
def loN (lo : Option Operand) (a : Int) : Nat := match lo with | none => 0 | some _ => a.toNat
def bndOf (v : Env) (o : Option Operand) (dft : Int) : Option Int := match o with
  | none => some dft
  | some y => match oint v y with | some (_, n) => some n | none => none
def sliceOk (a b n : Int) : Bool := decide (0 ≤ a) && (decide (a ≤ b) && decide (b ≤ n))
def sliceEff (T : Types) (v : Env) (d : Nat) (t : Nat) (x : Operand) (lo hi mx : Option Operand) : Option Eff :=
  match look T t, ocell v x, mx with
  | some i, some c, none =>
    match i.d, c, lenOf v c with
    | .string, .val .str s _, some n => match bndOf v lo 0, bndOf v hi n with
      | some a, some b => some ⟨sliceOk a b n, [setc d (.val .str (ByteArray.extract s a.toNat b.toNat) true)]⟩
      | _, _ => none
    | .slice e, .val (.slice t') xs f, some n => match look T e, bndOf v lo 0, bndOf v hi n with
      | some ei, some a, some b => if ei.ty.beq t' = true then some ⟨sliceOk a b n, [setc d (.val (.slice t') (((xs : List t'.den).take b.toNat).drop a.toNat) f)]⟩ else none
      | _, _, _ => none
    | .slice e, .val (.hdr et t') x f, some n => match look T e, bndOf v lo 0, bndOf v hi n with
      | some ei, some a, some b => if ei.ty.beq t' = true then some ⟨sliceOk a b n, [setc d (.val (.hdr et t') ((x.1, x.2.1 + a.toNat, b.toNat - a.toNat) : Nat × Nat × Nat) f)]⟩ else none
      | _, _, _ => none
    | .slice e, .nil, some _ => match look T e, bndOf v lo 0, bndOf v hi 0 with
      | some _, some a, some b => some ⟨sliceOk a b 0, [setc d .nil]⟩
      | _, _, _ => none
    | .slice e, .row o, some n => match v.obj o, look T e, bndOf v lo 0, bndOf v hi n with
      | some (.row t' _ _ _ _), some ei, some a, some b => if ei.ty.beq t' = true then some ⟨sliceOk a b n, [setc d (.part o t' (loN lo a) (b.toNat - loN lo a))]⟩ else none
      | _, _, _, _ => none
    | _, _, _ => none
  | some i, some c, some m =>
    match i.d, c, lenOf v c with
    | .slice e, .val (.slice t') xs f, some n => match look T e, bndOf v lo 0, bndOf v hi n, bndOf v (some m) n with
      | some ei, some a, some b, some k => if (ei.ty.beq t' && hi.isSome) = true then some ⟨sliceOk a b k && decide (k ≤ n), [setc d (.val (.slice t') (((xs : List t'.den).take b.toNat).drop a.toNat) f)]⟩ else none
      | _, _, _, _ => none
    | .slice e, .val (.hdr et t') x f, some n => match look T e, bndOf v lo 0, bndOf v hi n, bndOf v (some m) n with
      | some ei, some a, some b, some k => if (ei.ty.beq t' && hi.isSome) = true then some ⟨sliceOk a b k && decide (k ≤ n), [setc d (.val (.hdr et t') ((x.1, x.2.1 + a.toNat, b.toNat - a.toNat) : Nat × Nat × Nat) f)]⟩ else none
      | _, _, _, _ => none
    | .slice e, .row o, some n => match v.obj o, look T e, bndOf v hi n, bndOf v (some m) n with
      | some (.row t' et xs f st), some ei, some b, some k => if (ei.ty.beq t' && (lo.isNone && (hi.isSome && (Nat.beq st 0 || Nat.beq st 2)))) = true then
          some ⟨sliceOk 0 b k && decide (k ≤ n), [.obj o none, .obj (nm d 0) (some (.row t' et (xs.take b.toNat) f st)), setc d (.row (nm d 0))]⟩ else none
      | _, _, _, _ => none
    | _, _, _ => none
  | _, _, _ => none

def makeEff (T : Types) (v : Env) (d : Nat) (t : Nat) (l c : Operand) : Option Eff :=
  match look T t, oint v l, oint v c with
  | some i, some (_, n), some (_, m) => match i.d with
    | .slice e => match look T e with
      | some ei => if Nat.ble 1 ei.bytes = true then some ⟨decide (0 ≤ n) && (decide (n ≤ m) && decide (m * ei.bytes ≤ 140737488355328)),
          [.obj (nm d 0) (some (.row ei.ty e (List.replicate n.toNat ei.ty.dflt) true 0)), setc d (.row (nm d 0))]⟩ else none
      | none => none
    | _ => none
  | _, _, _ => none

def fillCells (fs : List (Nat × Nat)) (v : Env) : List (Nat × Operand) → List Cell → Option (List Cell)
  | [], cs => some cs
  | (j, x) :: r, cs => match fs[j]?, (opnd v x).bind SV.cells with
    | some (fo, sz), some cs' => if Nat.beq cs'.length sz && Nat.ble (fo + sz) cs.length then fillCells fs v r (replaced cs' fo cs) else none
    | _, _ => none
def sizesOf (T : Types) : List (Nat × Nat) → Option (List (Nat × Nat))
  | [] => some []
  | (fo, ft) :: r => match look T ft, sizesOf T r with
    | some i, some l => some ((fo, i.size) :: l)
    | _, _ => none
def slots0 (n sz : Nat) : List (Nat × Nat) := (List.range n).map fun j => (j * sz, sz)
def buildEff (T : Types) (v : Env) (d : Nat) (t : Nat) (ps : List (Nat × Operand)) : Option Eff :=
  match look T t with
  | some i => match i.d with
    | .struct fs => match sizesOf T fs with
      | some l => match fillCells l v ps (zeroCells i.ty) with
        | some cs => yes [setv d (.agg cs)]
        | none => none
      | none => none
    | .array n e => match look T e with
      | some ei => match fillCells (slots0 n ei.size) v ps (zeroCells i.ty) with
        | some cs => yes [setv d (.agg cs)]
        | none => none
      | none => none
    | _ => none
  | none => none
/-- Cells as elements. -/
def elems (t : Ty) : Nat → List Cell → Option (List t.den)
  | 0, [] => some []
  | 0, _ :: _ => none
  | n + 1, cs => match imp t cs with
    | some (x, r) => (elems t n r).map (x :: ·)
    | none => none
def zeroRep (t : Ty) : Nat → List Cell
  | 0 => []
  | n + 1 => zeroCells t ++ zeroRep t n
def buildSliceEff (T : Types) (v : Env) (d : Nat) (t n : Nat) (ps : List (Nat × Operand)) : Option Eff :=
  match look T t with
  | some i => match i.d with
    | .slice e => match look T e with
      | some ei => match fillCells (slots0 n ei.size) v ps (zeroRep ei.ty n) with
        | some cs => match settles v cs with
          | some (cs', ws) => match elems ei.ty n cs' with
            | some xs => if (Nat.ble (n * ei.size) 1000000 && Nat.ble 1 ei.size) = true then
                yes (ws ++ [.obj (nm d 0) (some (.row ei.ty e xs (frAll cs') 0)), setc d (.row (nm d 0))]) else none
            | none => none
          | none => none
        | none => none
      | none => none
    | _ => none
  | none => none

/-- What a slice that is read only holds; a row stays. -/
def content (v : Env) : Cell → Option (Σ t : Ty, List t.den × Bool)
  | .val (.slice t) xs f => some ⟨t, xs, f⟩
  | .row o => match v.obj o with | some (.row t _ xs f _) => some ⟨t, xs, f⟩ | _ => none
  | .part o t lo n => match v.obj o with
    | some (.row t' _ xs f _) => if t'.beq t = true then some ⟨t', (xs.take (lo + n)).drop lo, f⟩ else none
    | _ => none
  | _ => none
/-- .. in an arena too -/
def contentA (v : Env) : Cell → Option (Σ t : Ty, List t.den × Bool)
  | .val (.hdr et t) x _ => (arena v et t).map fun bs => ⟨t, mval bs x, true⟩
  | c => content v c
def okOf (v : Env) : Cell → Bool
  | .val (.hdr et t) x _ => match arena v et t with | some bs => mok bs x | none => true
  | _ => true
def hasSl : Ty → Bool
  | .slice _ => true | .cons a b => hasSl a || hasSl b | _ => false
/-- append(s, x..) -/
def news (v : Env) (t : Ty) : Cell → Option (List t.den × Bool)
  | .nil => some ([], true)
  | b => match contentA v b with
    | some ⟨t', xs, f⟩ => match tyList t t' xs with | some z => some (z, f || !(hasSl t)) | none => none
    | none => none
def appendEff (T : Types) (v : Env) (d : Nat) (t : Nat) (s x : Operand) : Option Eff :=
  match look T t with
  | some i => match i.d with
    | .slice e => match look T e, ocell v s, ocell v x with
      | some ei, some a, some b => if (Nat.ble 1 ei.size && Nat.ble 1 ei.bytes) = true then
        match news v ei.ty b with
        | none => none
        | some (new, f') => match a with
          | .nil => some ⟨okOf v b && decide (((new.length : Nat) : Int) * ei.bytes ≤ 140737488355328), [.obj (nm d 0) (some (.row ei.ty e new f' 0)), setc d (.row (nm d 0))]⟩
          | .row o => match v.obj o with
            | some (.row t' e' xs f st) => match tyList ei.ty t' xs with
              | some xs => if (Nat.beq e e' && (Nat.beq st 0 || Nat.beq st 2)) = true then
                  some ⟨okOf v b && decide ((((xs ++ new).length : Nat) : Int) * ei.bytes ≤ 140737488355328),
                    [.obj o none, .obj (nm d 0) (some (.row ei.ty e (xs ++ new) (f && f') st)), setc d (.row (nm d 0))]⟩ else none
              | none => none
            | _ => none
          | .part o t0 lo n => match v.obj o with
            | some (.row t' e' xs f st) => match tyList ei.ty t' xs with
              | some xs => if ((t0.beq ei.ty && Nat.beq e e') && (Nat.beq st 0 || Nat.beq st 2)) = true then
                  some ⟨okOf v b && decide (((((xs.take (lo + n)).drop lo ++ new).length : Nat) : Int) * ei.bytes ≤ 140737488355328),
                    [.obj o none, .obj (nm d 0) (some (.row ei.ty e ((xs.take (lo + n)).drop lo ++ new) (f && f') st)), setc d (.row (nm d 0))]⟩ else none
              | none => none
            | _ => none
          | _ => none
        else none
      | _, _, _ => none
    | _ => none
  | none => none
/-- copy(xs, ys): what xs holds then -/
def copied (xs ys : List Int) : List Int := ys.take xs.length ++ xs.drop ys.length
def copyEff (T : Types) (v : Env) (d : Nat) (t : Nat) (s x : Operand) : Option Eff :=
  match look T t with
  | some i => match i.d with
    | .slice e => match look T e, ocell v s, ocell v x with
      | some ei, some (.row o), some b => match v.obj o with
        | some (.row (.int k) e' xs f st) => if (Nat.beq ei.size 1 && (Nat.beq e e' && !(Nat.beq st 1))) = true then match news v (.int k) b with
            | some (ys, _) => some <| Eff.mk (okOf v b) [.obj o (some (.row (.int k) e' (copied xs ys) f st)), setc d (.val (.int .i64) (show Int from min (List.length (α := Int) xs : Nat) (List.length (α := Int) ys : Nat)) true)]
            | none => none
          else none
        | _ => none
      | _, _, _ => none
    | _ => none
  | none => none
def builtinEff (T : Types) (v : Env) (d : Nat) (b : Builtin) (args : List Operand) (tys : List Nat) : Option Eff :=
  match b, args, tys with
  | .len, [x], t :: _ => match look T t, ocell v x with
    | some i, some c => match i.d, c, lenOf v c with
      | .string, .val .str _ _, some n => yes [setc d (.val (.int .i64) n true)]
      | .slice _, .val (.hdr _ _) _ _, some n => yes [setc d (.val (.int .i64) n true)]
      | .slice _, .val (.slice _) _ _, some n => yes [setc d (.val (.int .i64) n true)]
      | .slice _, .nil, some n => yes [setc d (.val (.int .i64) n true)]
      | .slice _, .row _, some n => yes [setc d (.val (.int .i64) n true)]
      | .slice _, .part _ _ _ _, some n => yes [setc d (.val (.int .i64) n true)]
      | _, _, _ => none
    | _, _ => none
  | .append, [s, x], [t, t'] => if Nat.beq t t' = true then appendEff T v d t s x else none
  | .copy, [s, x], [t, t'] => if Nat.beq t t' = true then copyEff T v d t s x else none
  | .max, [x, y, z], _ => match oint v x, oint v y, oint v z with
    | some (k, a), some (k', b), some (k'', c) => if (Ty.kindEq k k' && Ty.kindEq k k'') = true then yes [setc d (.val (.int k) (show Int from max (show Int from max a b) c) true)] else none
    | _, _, _ => none
  | .min, [x, y, z], _ => match oint v x, oint v y, oint v z with
    | some (k, a), some (k', b), some (k'', c) => if (Ty.kindEq k k' && Ty.kindEq k k'') = true then yes [setc d (.val (.int k) (show Int from min (show Int from min a b) c) true)] else none
    | _, _, _ => none
  | .max, [x, y], _ => match oint v x, oint v y with
    | some (k, a), some (k', b) => if Ty.kindEq k k' = true then yes [setc d (.val (.int k) (show Int from max a b) true)] else none
    | _, _ => none
  | .min, [x, y], _ => match oint v x, oint v y with
    | some (k, a), some (k', b) => if Ty.kindEq k k' = true then yes [setc d (.val (.int k) (show Int from min a b) true)] else none
    | _, _ => none
  | _, _, _ => none
def pickEff (v : Env) (d : Nat) (c x y : Operand) : Option Eff :=
  match ocell v c with
  | some (.val .bool b _) => match opnd v x, opnd v y with
    | some (.cell (.val t p f)), some (.cell (.val t' q f')) => match tyVal t t' q with
      | some q => yes [setc d (.val t (cond b p q) (f && f'))]
      | none => none
    | some p, some .undef => match b with | true => yes [setv d p] | false => none
    | some .undef, some q => match b with | true => none | false => yes [setv d q]
    | _, _ => none
  | _ => none
def convEff (T : Types) (v : Env) (d : Nat) (s t : Nat) (x : Operand) : Option Eff :=
  match look T s, look T t, opnd v x with
  | some _, some ti, some (.cell (.val (.int _) n _)) => match ti.d with
    | .int k' => yes [setc d (.val (.int k') (k'.wrap n) true)]
    | _ => none
  | some _, some ti, some (.cell (.val .str s f)) => match ti.d with
    | .string => yes [setc d (.val .str s f)]
    | _ => none
  | _, _, _ => none
/-- Bytes as a text. -/
def ofInts (xs : List Int) : ByteArray := xs.foldl (fun r n => r.push (UInt8.ofNat n.toNat)) ByteArray.empty
def strOf (T : Types) (v : Env) (s t : Nat) (x : Operand) : Option ByteArray :=
  match look T s, look T t, ocell v x with
  | some si, some ti, some cl => match si.d, ti.d with
    | .slice e, .string => match look T e with
      | some ei => match ei.d with
        | .int .u8 => match cl with
          | .nil => some ByteArray.empty
          | cl => match content v cl with
            | some ⟨t', xs, _⟩ => (tyList (.int .u8) t' xs).map ofInts
            | none => none
        | _ => none
      | none => none
    | _, _ => none
  | _, _, _ => none
def boxNames : List Cell → Option (List Nat)
  | [] => some []
  | .ptr o 0 :: r => (boxNames r).map (o :: ·)
  | _ => none

/-! Maps of texts to numbers -/
def mput : List (ByteArray × Int) → ByteArray → Int → List (ByteArray × Int)
  | [], s, n => [(s, n)]
  | e :: r, s, n => cond (s.toList == e.1.toList) ((s, n) :: r) (e :: mput r s n)
def mget : List (ByteArray × Int) → ByteArray → Int
  | [], _ => 0
  | e :: r, s => cond (s.toList == e.1.toList) e.2 (mget r s)
def mhas (es : List (ByteArray × Int)) (s : ByteArray) : Bool := es.any fun e => s.toList == e.1.toList
/-- Is the type a map of texts to numbers? -/
def mapOf (T : Types) (t : Nat) : Option IntKind := match look T t with
  | some i => match i.d with
    | .map k e => match look T k, look T e with
      | some ki, some ei => match ki.d, ei.d with
        | .string, .int kk => some kk
        | _, _ => none
      | _, _ => none
    | _ => none
  | none => none
def makeMapEff (T : Types) (d t : Nat) : Option Eff := match mapOf T t with
  | some k => yes [.obj (nm d 0) (some (.mp k [] 0)), setc d (.mp (nm d 0))]
  | none => none
def insertEff (T : Types) (v : Env) (t : Nat) (m x y : Operand) : Option Eff :=
  match mapOf T t, ocell v m, ocell v x, oint v y with
  | some k, some (.mp o), some (.val .str s _), some (k', n) => match v.obj o with
    | some (.mp k'' es st) => if (Ty.kindEq k k' && (Ty.kindEq k k'' && (Nat.beq st 0 || Nat.beq st 2))) = true then yes [.obj o (some (.mp k (mput es s n) st))] else none
    | _ => none
  | _, _, _, _ => none
/-- The key must be there. -/
def lookupEff (T : Types) (v : Env) (d t : Nat) (m x : Operand) : Option Eff :=
  match mapOf T t, ocell v m, ocell v x with
  | some k, some (.mp o), some (.val .str s _) => match v.obj o with
    | some (.mp k' es _) => if Ty.kindEq k k' = true then some ⟨mhas es s, [setc d (.val (.int k) (mget es s) true)]⟩ else none
    | _ => none
  | _, _, _ => none

noncomputable def oper (T : Types) (o : Oper) (v : Env) : Option Eff :=
  match o.dst with
  | none => match o.op with
    | .store t x y => storeEff T v t x y
    | .mapUpdate t m x y => insertEff T v t m x y
    | .insert t m x y => insertEff T v t m x y
    | _ => none
  | some d => match o.op with
    | .move x | .assign x => match opnd v x with | some r => yes [setv d r] | none => none
    | .pick c x y => pickEff v d c x y
    | .alloc t => match look T t with | some i => yes [.obj (nm d 0) (some (.box (zeroCells i.ty) 0)), setc d (.ptr (nm d 0) 0)] | none => none
    | .box t x => match look T t, (opnd v x).bind SV.cells with
      | some i, some cs => if Nat.beq cs.length i.size = true then yes [.obj (nm d 0) (some (.box cs 0)), setc d (.ptr (nm d 0) 0)] else none
      | _, _ => none
    | .build t ps => buildEff T v d t ps.toList
    | .buildSlice t n ps => buildSliceEff T v d t n ps.toList
    | .load t x => loadEff T v d t x
    | .nilCheck x => match ocell v x with
      | some (.ptr o off) => yes [setc d (.ptr o off)]
      | some (.elt o t i off) => yes [setc d (.elt o t i off)]
      | some (.cptr t x f) => yes [setc d (.cptr t x f)]
      | some (.ad et t k i off) => yes [setc d (.ad et t k i off)]
      | _ => none
    | .binOp op t x y _ => binEff T v d op t x y
    | .unOp op _ x => match op, opnd v x with
      | .not, some (.cell (.val .bool b _)) => yes [setc d (.val .bool (!b) true)]
      | .neg, some (.cell (.val (.int k) n _)) => yes [setc d (.val (.int k) (k.wrap ((0 : Int) - (show Int from n))) true)]
      | _, _ => none
    | .convert s t x => match convEff T v d s t x with
      | some ef => some ef
      | none => (strOf T v s t x).map fun b => ⟨true, [setc d (.val .str b true)]⟩
    | .makeFunc (.func f) first caps => match first.toList, (caps.toList.mapM (ocell v)).bind boxNames with
      | [], some l => yes [setc d (.fn f l)]
      | _, _ => none
    | .makeSlice t l c => makeEff T v d t l c
    | .makeMap t none => makeMapEff T d t
    | .lookup t m x false => lookupEff T v d t m x
    | .slice t x lo hi mx => sliceEff T v d t x lo hi mx
    | .fieldAddr s x f => fieldEff T v d s x f
    | .field t x f => match look T t, opnd v x with
      | some i, some (.agg cs) => match i.d with
        | .struct fs => match fs[f]? with
          | some (fo, ft) => match look T ft with
            | some fi => match sv fi.isAgg ((cs.drop fo).take fi.size) with
              | some r => if Nat.ble (fo + fi.size) cs.length = true then yes [setv d r] else none
              | none => none
            | none => none
          | none => none
        | _ => none
      | _, _ => none
    | .indexAddr t x y => indexEff T v d t x y
    | .index t x y => match look T t, ocell v x, oint v y with
      | some i, some (.val .str s _), some (_, n) => match i.d with
        | .string => some ⟨inB n (ByteArray.size s : Nat), [setc d (.val (.int .u8) (bt s n) true)]⟩
        | _ => none
      | _, _, _ => none
    | .extract x j => match opnd v x with
      | some (.tup l) => match l[j]? with
        | some (a, cs) => match sv a cs with | some r => yes [setv d r] | none => none
        | none => none
      | _ => none
    | .call { callee := .builtin b, args, argTypes } => builtinEff T v d b args.toList argTypes.toList
    | _ => none

end Go.Px

/- The evaluator: views, calls, regions, code. Nothing is proved here. -/
namespace Go.Px
open Go

abbrev Cell.names : Cell → List Nat := cellNames
def SV.names : SV → List Nat
  | .cell c => c.names | .agg cs => cs.flatMap Cell.names | .tup l => l.flatMap fun p => p.2.flatMap Cell.names | .undef => [] | .top => []
def OV.names : OV → List Nat
  | .row .. => [] | .box cs _ => cs.flatMap Cell.names | .mp .. => [] | .mem .. => [] | .al .. => [] | .dead => []
def oNames {α : Type} (f : α → List Nat) : Nat × Option α → List Nat
  | (_, some v) => f v
  | (_, none) => []
def tmpsOf : List Operand → List Nat
  | [] => []
  | .tmp t :: r => t :: tmpsOf r
  | _ :: r => tmpsOf r
/-- The arenas that a cell may lead to. -/
def tyAr : Ty → List Nat
  | .hdr et t => an et :: tyAr t | .slice t => tyAr t | .cons a b => tyAr a ++ tyAr b | _ => []
def cellAr : Cell → List Nat
  | .val t _ _ => tyAr t | .cptr t _ _ => tyAr t | .ad et t _ _ _ => an et :: tyAr t | _ => []
def SV.ars : SV → List Nat
  | .cell c => cellAr c | .agg cs => cs.flatMap cellAr | .tup l => l.flatMap fun p => p.2.flatMap cellAr | .undef => [] | .top => []
def OV.ars : OV → List Nat
  | .row _ et _ _ _ => [an et] | .al _ et _ => [an et] | _ => []
/-- What an operation can see: its operands' slots, and the objects that they lead to; the arenas that are told by ms. -/
def viewM (e : Env) (ts ms : List Nat) : Env :=
  let ss := ts.map fun t => (t, e.slot t)
  let o1 := (ss.flatMap (oNames SV.names)).map fun n => (n, e.obj n)
  let o2 := (o1.flatMap (oNames OV.names)).map fun n => (n, e.obj n)
  let o3 := ((ss.flatMap (oNames SV.ars) ++ o1.flatMap (oNames OV.ars)) ++ ms).map fun n => (n, e.obj n)
  ⟨ss, o1 ++ o2 ++ o3⟩

/-! ### Calls -/
inductive CSh where
  | val (t : Ty) (fr : Bool) | row (t : Ty) (et : Nat) (fr : Bool)
def CSh.den : CSh → Type
  | .val t _ => t.den | .row t _ _ => List t.den
def Pay : List CSh → Type
  | [] => Unit
  | c :: r => c.den × Pay r
def Pay.append : (a b : List CSh) → Pay a → Pay b → Pay (a ++ b)
  | [], _, _, q => q
  | _ :: a, b, p, q => (p.1, Pay.append a b p.2 q)
def Pay.split : (a b : List CSh) → Pay (a ++ b) → Pay a × Pay b
  | [], _, q => ((), q)
  | _ :: a, b, p => let r := Pay.split a b p.2; ((p.1, r.1), r.2)
inductive PSh where
  | cell (c : CSh) | agg (cs : List CSh) | box (cs : List CSh) | fn (f : Nat) (caps : List (List CSh))
def PSh.flat : PSh → List CSh
  | .cell c => [c] | .agg cs => cs | .box cs => cs | .fn _ l => l.flatten
def PSh.boxes : PSh → List (List CSh)
  | .box cs => [cs] | .fn _ l => l | _ => []
def flatOuts : List (Nat × List CSh) → List CSh
  | [] => []
  | p :: l => p.2 ++ flatOuts l
structure Sig where
  ins : List PSh
  outs : List (Nat × List CSh)   -- 0 one cell, 1 a struct, 2 a new variable's address
  mems : List (Nat × Ty) := []   -- arenas that are handed in and back
@[reducible] def Sig.inl (s : Sig) : List CSh := s.ins.flatMap PSh.flat
@[reducible] def Sig.boxes (s : Sig) : List (List CSh) := s.ins.flatMap PSh.boxes
@[reducible] def Sig.outl (s : Sig) : List CSh := flatOuts s.outs ++ s.boxes.flatten
/-- Data with arenas' rows ahead. -/
def PayX (A : Type) : List (Nat × Ty) → Type
  | [] => A
  | p :: r => List (Option (List p.2.den)) × PayX A r
def PayX.out {A : Type} : (ms : List (Nat × Ty)) → PayX A ms → A
  | [], q => q
  | _ :: r, q => PayX.out r q.2
abbrev PayM := PayX Unit
def PayX.ms {A : Type} : (ms : List (Nat × Ty)) → PayX A ms → PayM ms
  | [], _ => ()
  | _ :: r, q => (q.1, PayX.ms r q.2)
def PayX.mk {A : Type} : (ms : List (Nat × Ty)) → A → PayM ms → PayX A ms
  | [], a, _ => a
  | _ :: r, a, q => (q.1, PayX.mk r a q.2)
/-- The arenas' rows. -/
def memPay (v : Env) : (ms : List (Nat × Ty)) → Option (PayM ms)
  | [] => some ()
  | p :: r => match arena v p.1 p.2, memPay v r with
    | some bs, some q => some (bs, q)
    | _, _ => none
def memObjs : (ms : List (Nat × Ty)) → PayM ms → List (Nat × Option OV)
  | [], _ => []
  | p :: r, q => (an p.1, some (.mem p.2 p.1 q.1)) :: memObjs r q.2
def memNames (ms : List (Nat × Ty)) : List Nat := ms.map fun p => an p.1
abbrev Sig.In (s : Sig) : Type := PayX (Pay s.inl) s.mems
abbrev Sig.Out (s : Sig) : Type := PayX (Pay s.outl) s.mems
/-- A function at one pattern of closures. -/
structure FD where
  sig : Sig
  run : sig.In → Option sig.Out
abbrev Den := Nat → List Nat → Option FD

/-- What the arguments come to: their data; is all that they lead to fresh; the rows that are lent as data; the variables that are lent, with what they hold and the state of what comes back. -/
structure Args (l : List CSh) where
  pay : Pay l
  fresh : Bool
  lent : List Nat
  boxes : List (Nat × List Cell × Nat)
  mov : List Nat   -- rows that are handed over for good
  ok : Bool        -- is what they lead to there
/-- A datum without slices into arenas, and what it is then. -/
def flat : Ty → Ty
  | .hdr _ t => .slice (flat t) | .slice t => .slice (flat t) | .cons a b => .cons (flat a) (flat b) | t => t
def seen (v : Env) : (t : Ty) → t.den → (flat t).den
  | .hdr et t, x => match arena v et t with | some bs => (mval bs x).map (seen v t) | none => ([] : List (flat t).den)
  | .slice t, xs => List.map (seen v t) xs
  | .cons a b, x => (seen v a x.1, seen v b x.2)
  | .int _, x => x | .bool, x => x | .str, x => x | .err, x => x | .mp, x => x | .nil, x => x
def bareT : Ty → Bool
  | .hdr _ _ => false | .slice t => bareT t | .cons a b => bareT a && bareT b | _ => true
def seenOk (v : Env) : (t : Ty) → t.den → Bool
  | .hdr et t, x => match arena v et t with | some bs => cond (bareT t) (mok bs x) (mok bs x && (mval bs x).all (seenOk v t)) | none => false
  | .slice t, xs => cond (bareT t) true (List.all xs (seenOk v t))
  | .cons a b, x => seenOk v a x.1 && seenOk v b x.2
  | _, _ => true
def Args.none : Args [] := ⟨(), true, [], [], [], true⟩
def loose (st : Nat) : Bool := Nat.beq st 0 || Nat.beq st 2
def isVal : CSh → Bool
  | .val _ _ => true | _ => false
def argCell (v : Env) (c : CSh) (x : Cell) : Option (c.den × Bool × List Nat × Bool) :=
  match c with
  | .val t fl => if (!fl || !(hasSl t)) = true then match x with
    | .val t' y f => if t'.beq t = true then (tyVal t t' y).map fun z => (z, f || !(hasSl t'), [], true)
      else (tyVal t (flat t') (seen v t' y)).map fun z => (z, f || !(hasSl t'), tyAr t', seenOk v t' y)
    | .nil => match t with | .slice e => some (([] : List e.den), true, [], true) | .hdr _ _ => some (((0, 0, 0) : Nat × Nat × Nat), true, [], true) | _ => none
    | x => match content v x with
      | some ⟨t', xs, f⟩ => match t with
        | .slice e => if t'.beq e = true then (tyList e t' xs).map fun z => (z, f, x.names, true)
          else (tyList e (flat t') (xs.map (seen v t'))).map fun z => (z, f, x.names ++ tyAr t', xs.all (seenOk v t'))
        | _ => none
      | none => none
    else none
  | .row t et fl => if (!fl || !(hasSl t)) = true then match x with
    | .row o => match v.obj o with
      | some (.row t' et' xs f' st) => if (Nat.beq et et' && loose st) = true then (tyList t t' xs).map fun z => (z, f' || !(hasSl t), [], true) else none
      | _ => none
    | .nil => some (([] : List t.den), true, [], true)
    | _ => none
    else none
def rowName : Cell → List Nat
  | .row o => [o] | _ => []
def movOf : CSh → Cell → List Nat
  | .row _ _ _, x => rowName x
  | _, _ => []
def argCells (v : Env) : (l : List CSh) → List Cell → Option (Args l)
  | [], [] => some .none
  | c :: l, x :: xs => match argCell v c x, argCells v l xs with
    | some (z, f, ns, ok), some a => some ⟨(z, a.pay), f && a.fresh, ns ++ a.lent, [], movOf c x ++ a.mov, ok && a.ok⟩
    | _, _ => none
  | _, _ => none
def Args.join {a b : List CSh} (x : Args a) (y : Args b) : Args (a ++ b) := ⟨Pay.append a b x.pay y.pay, x.fresh && y.fresh, x.lent ++ y.lent, x.boxes ++ y.boxes, x.mov ++ y.mov, x.ok && y.ok⟩
/-- The state of the rows that come back in a lent variable. -/
def rowSt (v : Env) (st : Nat) : List Cell → Nat
  | [] => st
  | .row o :: r => match v.obj o with
    | some (.row _ _ _ _ 2) => 2
    | _ => rowSt v st r
  | _ :: r => rowSt v st r
def argBox (v : Env) (cs : List CSh) (o : Nat) : Option (Args cs) := match v.obj o with
  | some (.box xs st) => if loose st = true then match argCells v cs xs with
    | some a => match a.lent with
      | [] => some ⟨a.pay, a.fresh, [], [(o, xs, rowSt v st xs)], [], a.ok⟩
      | _ => none
    | none => none else none
  | _ => none
def argBoxes (v : Env) : (l : List (List CSh)) → List Nat → Option (Args l.flatten)
  | [], [] => some .none
  | cs :: l, o :: os => match argBox v cs o, argBoxes v l os with
    | some a, some b => some (a.join b)
    | _, _ => none
  | _, _ => none
def argOne (v : Env) (c : CSh) (x : SV) : Option (Args [c]) := match x with
  | .cell y => argCells v [c] [y]
  | _ => none
def argAgg (v : Env) (cs : List CSh) (x : SV) : Option (Args cs) := match x with
  | .agg xs => argCells v cs xs
  | _ => none
def argPtr (v : Env) (cs : List CSh) (x : SV) : Option (Args cs) := match x with
  | .cell (.ptr o 0) => argBox v cs o
  | _ => none
def argFn (v : Env) (f : Nat) (l : List (List CSh)) (x : SV) : Option (Args l.flatten) := match x with
  | .cell (.fn g os) => if Nat.beq f g = true then argBoxes v l os else none
  | _ => none
def arg (v : Env) : (p : PSh) → SV → Option (Args p.flat)
  | .cell c, x => argOne v c x
  | .agg cs, x => argAgg v cs x
  | .box cs, x => argPtr v cs x
  | .fn f l, x => argFn v f l x
def args (v : Env) : (l : List PSh) → List SV → Option (Args (l.flatMap PSh.flat))
  | [], [] => some .none
  | p :: l, x :: xs => match arg v p x, args v l xs with
    | some a, some b => some (a.join b)
    | _, _ => none
  | _, _ => none
/-- The cells of a result, named from j on; the rows that it brings; the next name. -/
def outCells (d : Nat) (fresh : Bool) (st : Nat) : (j : Nat) → (l : List CSh) → Pay l → List Cell × List W × Nat
  | j, [], _ => ([], [], j)
  | j, .val t f :: l, p => let r := outCells d fresh st j l p.2; (.val t p.1 (f || fresh || !(hasSl t)) :: r.1, r.2.1, r.2.2)
  | j, .row t et f :: l, p => let r := outCells d fresh st (j + 1) l p.2; (.row (nm d j) :: r.1, .obj (nm d j) (some (.row t et p.1 (f || fresh || !(hasSl t)) st)) :: r.2.1, r.2.2)
def outs (d : Nat) (fresh : Bool) (st : Nat) : (j : Nat) → (l : List (Nat × List CSh)) → Pay (flatOuts l) → List (Bool × List Cell) × List W × Nat
  | j, [], _ => ([], [], j)
  | j, bc :: l, p =>
    let q := Pay.split bc.2 (flatOuts l) p
    let r := outCells d fresh st j bc.2 q.1
    cond (Nat.beq bc.1 2)
      (let s := outs d fresh st (r.2.2 + 1) l q.2
       ((false, [.ptr (nm d r.2.2) 0]) :: s.1, r.2.1 ++ .obj (nm d r.2.2) (some (.box r.1 st)) :: s.2.1, s.2.2))
      (let s := outs d fresh st r.2.2 l q.2
       ((Nat.beq bc.1 1, r.1) :: s.1, r.2.1 ++ s.2.1, s.2.2))
/-- What the call leaves in the variables that were lent. -/
def backs (v : Env) (d : Nat) (fresh : Bool) (st : Nat) : (j : Nat) → (l : List (List CSh)) → List (Nat × List Cell × Nat) → Pay l.flatten → List W
  | _, [], _, _ => []
  | _, _ :: _, [], _ => []
  | j, cs :: l, (o, _, _) :: bs, p =>
    let q := Pay.split cs l.flatten p
    let r := outCells d fresh st j cs q.1
    r.2.1 ++ (.obj o (some (.box r.1 (match v.obj o with | some (.box _ st) => st | _ => 0))) :: backs v d fresh st r.2.2 l bs q.2)
def cntCells : List CSh → Nat
  | [] => 0
  | .val _ _ :: l => cntCells l
  | .row _ _ _ :: l => cntCells l + 1
def cntOuts : List (Nat × List CSh) → Nat
  | [] => 0
  | bc :: l => cntCells bc.2 + (cond (Nat.beq bc.1 2) 1 0) + cntOuts l
def cntBoxes : List (List CSh) → Nat
  | [] => 0
  | cs :: l => cntCells cs + cntBoxes l
/-- Does a result lead to what the arguments lead to? -/
def leaks : List CSh → Bool
  | [] => false
  | .val t f :: l => (hasSl t && !f) || leaks l
  | .row t _ f :: l => (hasSl t && !f) || leaks l
def freezes (v : Env) : List Nat → Option (List W)
  | [] => some []
  | n :: r => match v.obj n, freezes v r with
    | some (.row t et xs f 0), some ws => some (.obj n (some (.row t et xs f 1)) :: ws)
    | some (.row _ _ _ _ 1), some ws => some ws
    | _, _ => none
def keyOf : List SV → List Nat
  | [] => []
  | .cell (.fn f _) :: r => f :: keyOf r
  | _ :: r => keyOf r
def opnds (v : Env) : List Operand → Option (List SV)
  | [] => some []
  | x :: r => match opnd v x, opnds v r with
    | some s, some l => some (s :: l)
    | _, _ => none
def resSV (l : List (Bool × List Cell)) : SV := match l with
  | [(b, cs)] => match sv b cs with | some r => r | none => .top
  | l => .tup l
def nodupB : List Nat → Bool
  | [] => true
  | a :: r => !(r.any (Nat.beq a)) && nodupB r
/-- The state of what comes back: one for all variables that were lent. -/
def allSt (l : List (Nat × List Cell × Nat)) : Nat := cond (l.any fun b => !(Nat.beq b.2.2 0)) 2 0
/-- The state of the rows that were handed over. -/
def movSt (v : Env) : List Nat → Nat
  | [] => 0
  | o :: r => match v.obj o with
    | some (.row _ _ _ _ 0) => movSt v r
    | _ => 2
/-- Slices into these arenas only. -/
def hdrIn (ms : List (Nat × Ty)) : Ty → Bool
  | .hdr et t => (ms.any fun p => Nat.beq p.1 et) && hdrIn ms t | .slice t => hdrIn ms t | .cons a b => hdrIn ms a && hdrIn ms b | _ => true
def outIn (ms : List (Nat × Ty)) : List CSh → Bool
  | [] => true
  | .val t _ :: l => hdrIn ms t && outIn ms l
  | .row t _ _ :: l => hdrIn ms t && outIn ms l
/-- A call made ready: the function, its data, and what is written behind it. -/
structure Made where
  fd : FD
  pay : fd.sig.In
  ws : fd.sig.Out → List W
  cnt : Nat
  ok : Bool
def callee (v : Env) (x : Operand) : Option (Nat × List Nat) := match opnd v x with | some (.cell (.fn f caps)) => some (f, caps) | _ => none
def lastW (d : Option Nat) (l : List (Bool × List Cell)) : List W := match d with | some d => [setv d (resSV l)] | none => []
def memWs (l : List (Nat × Option OV)) : List W := l.map fun p => .obj p.1 p.2
def made (D : Den) (v : Env) (d : Option Nat) (f : Operand) (xs : List Operand) : Option Made :=
  match callee v f, opnds v xs with
  | some (g, caps), some l => match D g (keyOf l) with
    | some fd =>
      let l' := l ++ caps.map fun o => .cell (.ptr o 0)
      match args v fd.sig.ins l', memPay v fd.sig.mems with
      | some a, some pm =>
        let mv := a.mov ++ memNames fd.sig.mems
        let bn := (a.boxes.flatMap fun b => b.1 :: b.2.1.flatMap Cell.names) ++ mv
        let fz := if leaks fd.sig.outl = true then freezes v a.lent else some []
        match fz with
        | some fz => if (nodupB bn && (!(bn.any fun n => a.lent.any (Nat.beq n)) && (outIn fd.sig.mems fd.sig.outl && fd.sig.mems.all fun p => hdrIn fd.sig.mems p.2))) = true then
            some ⟨fd, PayX.mk _ a.pay pm, fun qx =>
              let q := PayX.out _ qx
              let s := Pay.split (flatOuts fd.sig.outs) fd.sig.boxes.flatten q
              let st := movSt v mv
              let r := outs (d.getD 0) a.fresh st 0 fd.sig.outs s.1
              fz ++ (bn.map (fun n => .obj n none) ++ (r.2.1 ++ (backs v (d.getD 0) a.fresh (allSt a.boxes) r.2.2 fd.sig.boxes a.boxes s.2 ++ (memWs (memObjs fd.sig.mems (PayX.ms _ qx)) ++ lastW d r.1)))), cntOuts fd.sig.outs + cntBoxes fd.sig.boxes, a.ok⟩ else none
        | none => none
      | _, _ => none
    | none => none
  | _, _ => none

/-! ### Operations -/
structure Cx where
  T : Types
  D : Den
  n : Nat      -- rounds
  N : Nat      -- slots
  pins : List Nat   -- slots that stay
  mems : List Nat   -- the arenas
def callOf (o : Oper) : Option (Operand × List Operand) := match o.op with
  | .call { callee := .value f, args, .. } => some (f, args.toList)
  | _ => none
/-- Is the name one of those that the operation with result slot d makes? -/
def mine (d n : Nat) : Bool := Nat.beq (n / 64) (d + 1)
def wNames : W → List Nat
  | .slot _ (some v) => v.names
  | .slot _ none => []
  | .obj o (some v) => o :: v.names
  | .obj o none => [o]
def freshB (e : Env) (d : Nat) : Bool :=
  !(e.slots.any fun p => (oNames SV.names p).any (mine d)) && !(e.objs.any fun p => mine d p.1 || (oNames OV.names p).any (mine d))
def freshD (e : Env) : Option Nat → Bool
  | none => false
  | some d => freshB e d
def creates (o : Oper) : Bool := match o.op with
  | .alloc _ | .box _ _ | .buildSlice _ _ _ | .makeSlice _ _ _ | .makeMap _ _ => true
  | .slice _ _ _ _ mx => mx.isSome
  | .call { callee := .builtin .append, .. } => true
  | _ => false
def dstOk (N : Nat) (pins : List Nat) (o : Oper) : Bool := match o.dst with | none => true | some d => Nat.ble (d + 1) N && !(pins.any (Nat.beq d))
def memN (l : List Nat) (s : Nat) : Bool := l.any (Nat.beq s)
/-- Plain cells that are the same. -/
def cellSame : Cell → Cell → Bool
  | .val (.int k) x _, .val (.int k') y _ => cond (Ty.kindEq k k') (show Bool from (show Int from x) == (show Int from y)) false
  | .val .bool x _, .val .bool y _ => beqB x y
  | _, _ => false
def cellsSame : List Cell → List Cell → Bool
  | [], [] => true
  | c :: r, d :: s => cellSame c d && cellsSame r s
  | _, _ => false
def ovSame : Option OV → Option OV → Bool
  | some (.box cs st), some (.box ds st') => cond (Nat.beq st st') (cellsSame cs ds) false
  | _, _ => false
/-- Some variables are not written: what is written to them is what they hold. -/
def prune (pr : List Nat) : List W → List W
  | [] => []
  | .slot s v :: r => .slot s v :: prune pr r
  | .obj o v :: r => cond (memN pr o) (prune pr r) (.obj o v :: prune pr r)
def sameAll (v : Env) (ws : List W) : List Nat → Bool
  | [] => true
  | b :: r => ovSame (v.obj b) ((v.puts ws).obj b) && sameAll v ws r
def plainCell : Cell → Bool
  | .val (.int _) _ _ => true | .val .bool _ _ => true | _ => false
def plainBox (e : Env) (b : Nat) : Bool := match e.obj b with | some (.box cs _) => cs.all plainCell | _ => false
def pointed (e : Env) (all : List Oper) (b : Nat) : Bool := all.any fun o => (tmpsOf o.op.operands.toList).any fun t => match e.slot t with | some (.cell (.ptr n _)) => Nat.beq n b | _ => false
/-- how many operations have a closure that leads to it -/
def closed (e : Env) (all : List Oper) (b : Nat) : Nat := (all.filter fun o => (tmpsOf o.op.operands.toList).any fun t => match e.slot t with | some (.cell (.fn _ caps)) => memN caps b | _ => false).length
/-- Variables that a closure's call is asked to leave as they are: others of the same region look at them. -/
def prunes (e : Env) (all : List Oper) (o : Oper) : List Nat := match callOf o with
  | some (f, _) => match callee (viewM e (tmpsOf o.op.operands.toList) []) f with
    | some (_, caps) => caps.filter fun b => plainBox e b && (pointed e all b || Nat.ble 3 (closed e all b))
    | none => []
  | none => []
/-! Rows that go into arenas, and rows that are taken out: memory stays as it is -/
def absCell (v : Env) : Cell → Cell × List W
  | .row o => match v.obj o with
    | some (.row t et xs f st) => match arena v et t with
      | some bs => if (!(hasSl t) && (Nat.beq st 0 || Nat.beq st 2)) = true then
          (.val (.hdr et t) ((bs.length + 1, 0, xs.length) : Nat × Nat × Nat) true, [.obj o (some (.al t et (bs.length + 1, 0, xs.length))), .obj (an et) (some (.mem t et (bs ++ [some xs])))]) else (.row o, [])
      | none => (.row o, [])
    | _ => (.row o, [])
  | c => (c, [])
def absCells (v : Env) : List Cell → List Cell × List W
  | [] => ([], [])
  | c :: r => let p := absCell v c; let q := absCells (v.puts p.2) r; (p.1 :: q.1, p.2 ++ q.2)
def absSlot (v : Env) (s : Nat) : List W := match v.slot s with
  | some (.cell c) => let p := absCell v c; match p.2 with | [] => [] | x :: w => (x :: w) ++ [setc s p.1]
  | some (.agg cs) => let p := absCells v cs; match p.2 with | [] => [] | x :: w => (x :: w) ++ [setv s (.agg p.1)]
  | _ => []
def absSlots (v : Env) : List Nat → List W
  | [] => []
  | s :: r => let w := absSlot v s; w ++ absSlots (v.puts w) r
/-- A row is taken out of its arena. -/
def takeW (v : Env) (d s : Nat) : Bool × List W := match v.slot s with
  | some (.cell (.val (.hdr et t) x _)) => match arena v et t with
    | some bs => (mtk bs x,
        [.obj (an et) (some (.mem t et (mwr bs none x.1))), .obj (nm d 1) (some (.row t et (mhd bs x) true 2)), setc s (.row (nm d 1))])
    | none => (true, [])
  | _ => (true, [])
def tmpOf : Operand → List Nat
  | .tmp t => [t] | _ => []
/-- Is it an address of a variable? -/
def isVar (v : Env) (x : Operand) : Bool := match ocell v x with | some (.ptr _ _) => true | _ => false
def aggOf (v : Env) : Operand → List Nat
  | .tmp t => match v.slot t with | some (.agg _) => [t] | _ => []
  | _ => []
/-- What is done ahead of an operation. -/
def pre (D : Den) (v : Env) (o : Oper) : Bool × List W := match callOf o with
  | some (f, xs) => match callee v f, opnds v xs with
    | some (g, _), some l => match D g (keyOf l) with
      | some fd => cond fd.sig.mems.isEmpty (true, []) (true, absSlots v (tmpsOf xs))
      | none => (true, [])
    | _, _ => (true, [])
  | none => match o.op, o.dst with
    | .call { callee := .builtin .append, args, .. }, some d => match args.toList with
      | .tmp s :: _ => takeW v d s
      | _ => (true, [])
    | .store _ x y, _ => cond (isVar v x) (true, absSlots v (aggOf v y)) (true, absSlots v (tmpOf y))
    | .buildSlice _ _ ps, _ => (true, absSlots v (tmpsOf (ps.toList.map (·.2))))
    | _, _ => (true, [])
/-- What an operation sees. -/
def vw (cx : Cx) (e : Env) (o : Oper) : Env := viewM e (tmpsOf o.op.operands.toList) (match callOf o with | some _ => cx.mems | none => [])
section
variable (cx : Cx)
noncomputable def exec {R : Type} (pr : List Nat) (o : Oper) (e : Env) (K : List W → Option R) : Option R :=
  let v0 := vw cx e o
  let p := pre cx.D v0 o
  let v := v0.puts p.2
  cond p.1 (match callOf o with
  | some (f, xs) => match made cx.D v o.dst f xs with
    | some m => cond (Nat.beq m.cnt 0 || (Nat.ble m.cnt 64 && freshD e o.dst)) (cond m.ok ((m.fd.run m.pay).bind fun q => match pr with
      | [] => K (p.2 ++ m.ws q)
      | b :: pr => cond (sameAll v0 (p.2 ++ m.ws q) (b :: pr)) (K (prune (b :: pr) (p.2 ++ m.ws q))) none) none) none
    | none => none
  | none => match oper cx.T o v with
    | some ef => cond (!(creates o) || freshD e o.dst) (cond ef.ok (K (p.2 ++ ef.ws)) none) none
    | none => none) none
def skipW (o : Oper) : List W := match o.dst with | some d => [.slot d (some .undef)] | none => []
def guardSlot (all : List Oper) (o : Oper) : Option (Option Nat × Bool) := match o.guard with
  | none => none
  | some (j, want) => some ((all[j]?).bind (·.dst), want)
/-- One operation, its guard asked. -/
noncomputable def step {R : Type} (pr : List Nat) (all : List Oper) (o : Oper) (e : Env) (K : List W → Env → Option R) : Option R :=
  cond (dstOk cx.N cx.pins o) (match guardSlot all o with
  | none => exec cx pr o e fun ws => K ws (e.puts ws)
  | some (some s, want) => match e.slot s with
    | some .undef => K (skipW o) (e.puts (skipW o))
    | some (.cell (.val .bool b f)) => match b with
      | true => let e' := e.put (setc s (.val .bool true f)); cond want (exec cx pr o e' fun ws => K ws (e'.puts ws)) (K (skipW o) (e'.puts (skipW o)))
      | false => let e' := e.put (setc s (.val .bool false f)); cond want (K (skipW o) (e'.puts (skipW o))) (exec cx pr o e' fun ws => K ws (e'.puts ws))
    | _ => none
  | some (none, _) => none) none
noncomputable def runOps {R : Type} (all : List Oper) : List Oper → Env → (Env → Option R) → Option R
  | [], e, K => K e
  | o :: r, e, K => step cx [] all o e fun _ e' => runOps all r e' K

/-! Operations whose order is drawn: those that are not ordered must not meet. -/
/-- i: place; rs, ro: what is read; cl: what comes before, in bits. -/
structure Rec where
  i : Nat
  o : Oper
  ws : List W
  rs : List Nat
  ro : List Nat
  cl : Nat
def bindsAny (e : Edge) : Bool := match e.ground with | .textOnly _ => false | .gcOnly _ => false | _ => true
def bitB (cl i : Nat) : Bool := Nat.beq (Nat.land (Nat.shiftRight cl i) 1) 1
def clOf : List Rec → Nat → Nat
  | [], _ => 0
  | r :: l, j => cond (Nat.beq r.i j) r.cl (clOf l j)
def closure (recs : List Rec) : List Edge → Nat
  | [] => 0
  | e :: l => cond (bindsAny e) (Nat.lor (Nat.lor (Nat.pow 2 e.on) (clOf recs e.on)) (closure recs l)) (closure recs l)
def edgesOk (recs : List Rec) (o : Oper) : Bool := o.after.toList.all fun e => !(bindsAny e) || recs.any fun r => Nat.beq r.i e.on
def wSlots : List W → List Nat
  | [] => []
  | .slot s _ :: r => s :: wSlots r
  | .obj _ _ :: r => wSlots r
def wObjs : List W → List Nat
  | [] => []
  | .slot _ _ :: r => wObjs r
  | .obj o _ :: r => o :: wObjs r
def disj (a b : List Nat) : Bool := !(a.any (memN b))
def notMine (o : Oper) (ws : List W) : Bool := match o.dst with | none => true | some d => !(ws.any fun w => (wNames w).any (mine d))
def indep (a b : Rec) : Bool :=
  (disj (wSlots a.ws) b.rs && (disj (wObjs a.ws) b.ro && (disj (wSlots b.ws) a.rs && disj (wObjs b.ws) a.ro))) &&
  ((disj (wSlots a.ws) (wSlots b.ws) && disj (wObjs a.ws) (wObjs b.ws)) && (notMine a.o b.ws && notMine b.o a.ws))
def usesOp (o : Oper) (all : List Oper) : List Nat := (match guardSlot all o with | some (some s, _) => [s] | _ => []) ++ tmpsOf o.op.operands.toList
noncomputable def drawOps {R : Type} (all : List Oper) : List Oper → Nat → List Rec → Env → (Env → Option R) → Option R
  | [], _, _, e, K => K e
  | o :: r, i, recs, e, K => cond (edgesOk recs o) (step cx (prunes e all o) all o e fun ws e' =>
      let rc : Rec := ⟨i, o, ws, usesOp o all, (vw cx e o).objs.map (·.1), closure recs o.after.toList⟩
      cond (recs.all fun p => bitB rc.cl p.i || indep p rc) (drawOps all r (i + 1) (rc :: recs) e' K) none) none
end

/-! ### Shapes of environments: an environment itself is its shape, whatever its data -/
def Cell.pay : Cell → Type
  | .val t _ _ => t.den | .part _ _ _ _ => Nat × Nat | .elt _ _ _ _ => Nat | .cptr t _ _ => t.den | .ad _ _ _ _ _ => Nat × Nat | _ => Unit
def listBeq : List Nat → List Nat → Bool
  | [], [] => true
  | a :: r, b :: s => Nat.beq a b && listBeq r s
  | _, _ => false
def Cell.get : (G : Cell) → Cell → Option G.pay
  | .val t _ f, .val t' x f' => if f' || !f then tyVal t t' x else none
  | .nil, .nil => some ()
  | .row o, .row o' => if Nat.beq o o' then some () else none
  | .part o t _ _, .part o' t' lo n => if Nat.beq o o' && t'.beq t then some (lo, n) else none
  | .ptr o k, .ptr o' k' => if Nat.beq o o' && Nat.beq k k' then some () else none
  | .elt o t _ k, .elt o' t' i k' => if Nat.beq o o' && (t'.beq t && Nat.beq k k') then some i else none
  | .cptr t _ f, .cptr t' x f' => if f' || !f then tyVal t t' x else none
  | .fn f l, .fn f' l' => if Nat.beq f f' && listBeq l l' then some () else none
  | .mp o, .mp o' => if Nat.beq o o' then some () else none
  | .ad et t _ _ off, .ad et' t' k i off' => if Nat.beq et et' && (t'.beq t && Nat.beq off off') then some (k, i) else none
  | _, _ => none
def Cell.mk : (G : Cell) → G.pay → Cell
  | .val t _ f, p => .val t p f
  | .nil, _ => .nil
  | .row o, _ => .row o
  | .part o t _ _, p => .part o t p.1 p.2
  | .ptr o k, _ => .ptr o k
  | .elt o t _ k, p => .elt o t p k
  | .cptr t _ f, p => .cptr t p f
  | .fn f l, _ => .fn f l
  | .mp o, _ => .mp o
  | .ad et t _ _ off, p => .ad et t p.1 p.2 off
def cellsPay : List Cell → Type
  | [] => Unit
  | c :: r => c.pay × cellsPay r
def cellsGet : (G : List Cell) → List Cell → Option (cellsPay G)
  | [], [] => some ()
  | c :: r, x :: s => match c.get x, cellsGet r s with
    | some a, some b => some (a, b)
    | _, _ => none
  | _, _ => none
def cellsMk : (G : List Cell) → cellsPay G → List Cell
  | [], _ => []
  | c :: r, p => c.mk p.1 :: cellsMk r p.2
def tupPay : List (Bool × List Cell) → Type
  | [] => Unit
  | c :: r => cellsPay c.2 × tupPay r
def tupGet : (G : List (Bool × List Cell)) → List (Bool × List Cell) → Option (tupPay G)
  | [], [] => some ()
  | c :: r, x :: s => if beqB c.1 x.1 = true then match cellsGet c.2 x.2, tupGet r s with
      | some a, some b => some (a, b)
      | _, _ => none
    else none
  | _, _ => none
def tupMk : (G : List (Bool × List Cell)) → tupPay G → List (Bool × List Cell)
  | [], _ => []
  | c :: r, p => (c.1, cellsMk c.2 p.1) :: tupMk r p.2
def SV.pay : SV → Type
  | .cell c => c.pay | .agg cs => cellsPay cs | .tup l => tupPay l | .undef => Unit | .top => Unit
def SV.get : (G : SV) → SV → Option G.pay
  | .cell c, .cell x => c.get x
  | .agg cs, .agg xs => cellsGet cs xs
  | .tup l, .tup m => tupGet l m
  | .undef, .undef => some ()
  | .top, _ => some ()
  | _, _ => none
def SV.mk : (G : SV) → G.pay → SV
  | .cell c, p => .cell (c.mk p) | .agg cs, p => .agg (cellsMk cs p) | .tup l, p => .tup (tupMk l p) | .undef, _ => .undef | .top, _ => .top
def OV.pay : OV → Type
  | .row t _ _ _ _ => List t.den | .box cs _ => cellsPay cs | .mp _ _ _ => List (ByteArray × Int) | .mem t _ _ => List (Option (List t.den)) | .al _ _ _ => Nat × Nat × Nat | .dead => Unit
def OV.get : (G : OV) → OV → Option G.pay
  | .row t et _ f st, .row t' et' xs f' st' => if Nat.beq et et' && (Nat.beq st st' && (f' || !f)) then tyList t t' xs else none
  | .box cs st, .box xs st' => if Nat.beq st st' then cellsGet cs xs else none
  | .mp k _ st, .mp k' es st' => if (Ty.kindEq k k' && Nat.beq st st') = true then some es else none
  | .mem t et _, .mem t' et' bs => if Nat.beq et et' then tyMem t t' bs else none
  | .al t et _, .al t' et' x => if (t.beq t' && Nat.beq et et') = true then some x else none
  | .dead, .dead => some ()
  | _, _ => none
def OV.mk : (G : OV) → G.pay → OV
  | .row t et _ f st, p => .row t et p f st | .box cs st, p => .box (cellsMk cs p) st | .mp k _ st, p => .mp k p st | .mem t et _, p => .mem t et p | .al t et _, p => .al t et p | .dead, _ => .dead
def slotsPay : List (Nat × Option SV) → Type
  | [] => Unit
  | (_, some G) :: r => G.pay × slotsPay r
  | (_, none) :: r => slotsPay r
def slotsGet : (G : List (Nat × Option SV)) → Env → Option (slotsPay G)
  | [], _ => some ()
  | (s, some G) :: r, e => match e.slot s with
    | some x => match G.get x, slotsGet r e with
      | some a, some b => some (a, b)
      | _, _ => none
    | none => none
  | (_, none) :: r, e => slotsGet r e
def slotsMk : (G : List (Nat × Option SV)) → slotsPay G → List (Nat × Option SV)
  | [], _ => []
  | (s, some G) :: r, p => (s, some (G.mk p.1)) :: slotsMk r p.2
  | (s, none) :: r, p => (s, none) :: slotsMk r p
def objsPay : List (Nat × Option OV) → Type
  | [] => Unit
  | (_, some G) :: r => G.pay × objsPay r
  | (_, none) :: r => objsPay r
def objsGet : (G : List (Nat × Option OV)) → Env → Option (objsPay G)
  | [], _ => some ()
  | (s, some G) :: r, e => match e.obj s with
    | some x => match G.get x, objsGet r e with
      | some a, some b => some (a, b)
      | _, _ => none
    | none => none
  | (_, none) :: r, e => objsGet r e
def objsMk : (G : List (Nat × Option OV)) → objsPay G → List (Nat × Option OV)
  | [], _ => []
  | (s, some G) :: r, p => (s, some (G.mk p.1)) :: objsMk r p.2
  | (s, none) :: r, p => (s, none) :: objsMk r p
def EPay (G : Env) : Type := slotsPay G.slots × objsPay G.objs
def Env.get (G e : Env) : Option (EPay G) := match slotsGet G.slots e, objsGet G.objs e with
  | some a, some b => some (a, b)
  | _, _ => none
def Env.mk' (G : Env) (p : EPay G) : Env := ⟨slotsMk G.slots p.1, objsMk G.objs p.2⟩

/-! ### What is kept at a head or a join; names are numbered anew -/
def dedup : List Nat → List Nat → List Nat
  | [], _ => []
  | a :: r, seen => cond (seen.any (Nat.beq a)) (dedup r seen) (a :: dedup r (a :: seen))
def lookN : List (Nat × Nat) → Nat → Nat
  | [], s => s
  | (k, v) :: r, s => cond (Nat.beq k s) v (lookN r s)
def Cell.ren (ρ : List (Nat × Nat)) : Cell → Cell
  | .row o => .row (lookN ρ o) | .part o t a n => .part (lookN ρ o) t a n | .ptr o k => .ptr (lookN ρ o) k | .elt o t i k => .elt (lookN ρ o) t i k
  | .fn f l => .fn f (l.map (lookN ρ)) | .mp o => .mp (lookN ρ o) | c => c
def SV.ren (ρ : List (Nat × Nat)) : SV → SV
  | .cell c => .cell (c.ren ρ) | .agg cs => .agg (cs.map (Cell.ren ρ)) | .tup l => .tup (l.map fun p => (p.1, p.2.map (Cell.ren ρ))) | .undef => .undef | .top => .top
def OV.ren (ρ : List (Nat × Nat)) : OV → OV
  | .row t et xs f st => .row t et xs f st | .box cs st => .box (cs.map (Cell.ren ρ)) st | .mp k es st => .mp k es st | .mem t et bs => .mem t et bs | .al t et x => .al t et x | .dead => .dead
def numbered : Nat → List Nat → List (Nat × Nat)
  | _, [] => []
  | k, a :: r => (a, k) :: numbered (k + 1) r
def kept (e : Env) : List Nat → List (Nat × Option SV)
  | [] => []
  | s :: r => match e.slot s with
    | some x => (s, some x) :: kept e r
    | none => kept e r
def keptO (e : Env) : List Nat → List (Nat × Option OV)
  | [] => []
  | s :: r => match e.obj s with
    | some x => (s, some x) :: keptO e r
    | none => keptO e r
def isM : Option OV → Bool
  | some (.mem ..) => true | _ => false
/-- The arenas. -/
def isMem : Nat × Option OV → Bool
  | (n, some (.mem ..)) => Nat.ble (n + 1) 1000000
  | _ => false
def memsOf (e : Env) : List (Nat × Option OV) := (keptO e (dedup ((e.objs.filter isMem).map (·.1)) [])).filter isMem
def canon (keep : List Nat) (e : Env) : Env :=
  let ss := kept e (dedup keep [])
  let mm := memsOf e
  let n1 := dedup (ss.flatMap (oNames SV.names)) []
  let n2 := dedup (n1 ++ (keptO e n1).flatMap (oNames OV.names)) (mm.map (·.1))
  let oo := keptO e n2
  let ρ := numbered 1000000 (oo.map (·.1))
  let ok (x : Nat × Option SV) : Bool := (oNames SV.names x).all fun n => oo.any fun p => Nat.beq p.1 n
  let okO (x : Nat × Option OV) : Bool := !(isM x.2) && (oNames OV.names x).all fun n => oo.any fun p => Nat.beq p.1 n
  ⟨(ss.filter ok).map fun p => (p.1, p.2.map (SV.ren ρ)), ((oo.filter okO).map fun p => (lookN ρ p.1, p.2.map (OV.ren ρ))) ++ mm⟩

/-! ### A cell brought to the form of another one: nil is a row or a datum, a row is a datum, what is fresh need not be told so -/
def freshName (e : Env) (o : Nat) : Bool :=
  !(e.objs.any fun p => Nat.beq p.1 o || (oNames OV.names p).any (Nat.beq o)) && !(e.slots.any fun p => (oNames SV.names p).any (Nat.beq o))
def alignCell (M : Env) (k : Nat) (m c : Cell) (e : Env) : Cell × Env :=
  match m, c with
  | .row mo, .nil => match M.obj mo with
    | some (.row t et _ _ _) => cond (freshName e k) (.row k, e.put (.obj k (some (.row t et [] true 0)))) (.nil, e)
    | _ => (.nil, e)
  | .val (.slice t) _ f, .nil => (.val (.slice t) ([] : List t.den) f, e)
  | .val (.hdr et t) _ _, .nil => (.val (.hdr et t) ((0, 0, 0) : Nat × Nat × Nat) true, e)
  | .val (.hdr _ _) _ _, .row o => let p := absCell e (.row o); (p.1, e.puts p.2)
  | .val (.slice _) _ f, .row o => match e.obj o with
    | some (.row t et xs f' 0) => (.val (.slice t) xs (f' && f), e.put (.obj o (some (.row t et xs f' 1))))
    | some (.row t _ xs f' 1) => (.val (.slice t) xs (f' && f), e)
    | _ => (.row o, e)
  | .val _ _ false, .val t x true => (.val t x false, e)
  | .cptr _ _ false, .cptr t x true => (.cptr t x false, e)
  | .row mo, .row o => match M.obj mo, e.obj o with
    | some (.row _ _ _ f st), some (.row t et xs f' st') =>
      match st', st with
      | 0, 1 => (.row o, e.put (.obj o (some (.row t et xs (f' && f) 1))))
      | 0, 2 => (.row o, e.put (.obj o (some (.row t et xs (f' && f) 2))))
      | st', _ => cond (f' && !f) (.row o, e.put (.obj o (some (.row t et xs f st')))) (.row o, e)
    | _, _ => (.row o, e)
  | .val (.slice _) _ f, .part o t lo n => match e.obj o with
    | some (.row t' et xs f' st) => cond (t'.beq t) (match st with
      | 0 => (.val (.slice t') (((show List t'.den from xs).take (lo + n)).drop lo) (f' && f), e.put (.obj o (some (.row t' et xs f' 1))))
      | 1 => (.val (.slice t') (((show List t'.den from xs).take (lo + n)).drop lo) (f' && f), e)
      | _ => (.part o t lo n, e)) (.part o t lo n, e)
    | _ => (.part o t lo n, e)
  | .row mo, .part o t lo n => match M.obj mo, e.obj o with
    | some (.row _ _ _ f st), some (.row t' et xs f' st') => cond (freshName e k && (t.beq t' && loose st'))
      (.row k, (e.put (.obj o (some .dead))).put (.obj k (some (.row t' et ((xs.take (lo + n)).drop lo) (f' && f) (cond (Nat.beq st 2) 2 st'))))) (.part o t lo n, e)
    | _, _ => (.part o t lo n, e)
  | .part _ _ _ _, .row o => match e.obj o with
    | some (.row t _ xs f' 1) => (.val (.slice t) xs f', e)
    | _ => (.row o, e)
  | _, c => (c, e)
def alignCells (M : Env) : Nat → List Cell → List Cell → Env → List Cell × Env
  | k, m :: ms, c :: cs, e => let r := alignCell M k m c e; let s := alignCells M (k + 1) ms cs r.2; (r.1 :: s.1, s.2)
  | _, _, cs, e => (cs, e)
def alignBox (M : Env) (k mo o : Nat) (e : Env) : Env :=
  match M.obj mo, e.obj o with
  | some (.box ms _), some (.box cs st) => let r := alignCells M k ms cs e; r.2.put (.obj o (some (.box r.1 st)))
  | _, _ => e
def alignSlot (M : Env) (e : Env) : Nat × Option SV → Env
  | (s, some m) => match m, e.slot s with
    | .cell (.ptr mo 0), some (.cell (.ptr o 0)) => alignBox M (3000000 + 64 * s) mo o e
    | .cell m, some (.cell c) => let r := alignCell M (3000000 + 64 * s) m c e; r.2.put (setc s r.1)
    | .agg ms, some (.agg cs) => let r := alignCells M (3000000 + 64 * s) ms cs e; r.2.put (setv s (.agg r.1))
    | _, _ => e
  | _ => e
def align (M e : Env) : Env := M.slots.foldl (alignSlot M) e

/-! ### Code -/
inductive X where
  | nrm | ex (id : Nat) | ret
def usesOps (all : List Oper) : List Oper → List Nat
  | [] => []
  | o :: r => usesOp o all ++ usesOps all r
def uses : Code → List Nat
  | .region _ ops _ => usesOps ops.toList ops.toList
  | .seq a b => uses a ++ uses b
  | .cond c a b => tmpsOf [c] ++ uses a ++ uses b
  | .block _ c => uses c
  | .loop c => uses c
  | _ => []
def exitsTo (id : Nat) : Code → Nat
  | .seq a b => exitsTo id a + exitsTo id b
  | .cond _ a b => exitsTo id a + exitsTo id b
  | .block _ c => exitsTo id c
  | .loop c => exitsTo id c
  | .exit k => cond (Nat.beq k id) 1 0
  | _ => 0
/-- How many ways lead to the end of a piece of code. -/
def ways : Code → Nat
  | .skip => 1
  | .region _ ops _ => cond (ops.toList.any fun o => o.guard.isSome) 2 1
  | .seq a b => min 1 (ways a) * ways b
  | .cond _ a b => ways a + ways b
  | .block id c => ways c + exitsTo id c
  | _ => 0
/-- What a piece of code writes whenever it comes to its end. -/
def dstsOf : List Oper → List Nat
  | [] => []
  | o :: r => match o.dst with | some d => d :: dstsOf r | none => dstsOf r
def defs : Code → List Nat
  | .region _ ops _ => dstsOf ops.toList
  | .seq a b => defs a ++ defs b
  | .cond _ a b => cond (Nat.beq (ways a) 0) (defs b) (cond (Nat.beq (ways b) 0) (defs a) ((defs a).filter (memN (defs b))))
  | .block id c => cond (Nat.beq (exitsTo id c) 0) (defs c) []
  | _ => []
def without (l r : List Nat) : List Nat := l.filter fun s => !(memN r s)
def reads (all : List Oper) : List Oper → List Nat
  | [] => []
  | o :: r => usesOp o all ++ (match o.dst with | some d => without (reads all r) [d] | none => reads all r)
/-- What is read before it is written. -/
def needs : Code → List Nat
  | .region _ ops _ => reads ops.toList ops.toList
  | .seq a b => needs a ++ without (needs b) (defs a)
  | .cond c a b => tmpsOf [c] ++ needs a ++ needs b
  | .block _ c => needs c
  | .loop c => needs c
  | _ => []
section
variable (cx : Cx)
/-- The environments at the ends of a piece of code, one an end; data do not matter. -/
def alignP (M e : Env) : Env := M.slots.foldl (fun e p => match p.2, e.slot p.1 with
  | some (.cell (.row mo)), some (.cell (.part o t lo n)) => let r := alignCell M (3000000 + 64 * p.1) (.row mo) (.part o t lo n) e; r.2.put (setc p.1 r.1)
  | _, _ => e) e
def addX (x : X) (e : Env) : List (X × Env) → List (X × Env)
  | [] => [(x, e)]
  | p :: r => cond (match p.1, x with | .nrm, .nrm => true | .ret, .ret => true | .ex a, .ex b => Nat.beq a b | _, _ => false) ((x, align (alignP p.2 e) p.2) :: r) (p :: addX x e r)
def addsX : List (X × Env) → List (X × Env) → List (X × Env)
  | [], l => l
  | p :: r, l => addsX r (addX p.1 p.2 l)
def dfltPay : (l : List CSh) → Pay l
  | [] => ()
  | .val t _ :: l => (t.dflt, dfltPay l)
  | .row t _ _ :: l => (([] : List t.den), dfltPay l)
def dfltX {A : Type} (a : A) : (ms : List (Nat × Ty)) → PayX A ms
  | [] => a
  | _ :: r => ([], dfltX a r)
noncomputable def probeOp (o : Oper) (e : Env) : Option Env :=
  let v0 := vw cx e o
  let p := pre cx.D v0 o
  let v := v0.puts p.2
  match callOf o with
  | some (f, xs) => match made cx.D v o.dst f xs with
    | some m => some ((e.puts p.2).puts (m.ws (dfltX (dfltPay _) _)))
    | none => none
  | none => match oper cx.T o v with
    | some ef => some ((e.puts p.2).puts ef.ws)
    | none => none
noncomputable def probeOps : List Oper → Env → Option Env
  | [], e => some e
  | o :: r, e => match probeOp cx o e with | some e' => probeOps r e' | none => probeOps r (e.puts (skipW o))
def nrmOf : List (X × Env) → Option Env
  | [] => none
  | (.nrm, e) :: _ => some e
  | _ :: r => nrmOf r
noncomputable def probe : Code → Env → List (X × Env)
  | .skip, e => [(.nrm, e)]
  | .region _ ops _, e => match probeOps cx ops.toList e with | some e' => [(.nrm, e')] | none => []
  | .seq a b, e => (probe a e).foldl (fun l p => match p.1 with | .nrm => addsX (probe b p.2) l | x => addX x p.2 l) []
  | .cond _ a b, e => addsX (probe b e) (probe a e)
  | .block id c, e => (probe c e).foldl (fun l p => match p.1 with | .ex k => cond (Nat.beq k id) (addX .nrm p.2 l) (addX p.1 p.2 l) | x => addX x p.2 l) []
  | .loop c, e => (probe c e).filter fun p => match p.1 with | .nrm => false | _ => true
  | .exit k, e => [(.ex k, e)]
  | .ret, e => [(.ret, e)]
  | _, _ => []
/-- What stands at a loop's head, brought to the form that a round leaves it in. -/
noncomputable def toHead (c : Code) (e : Env) : Env := match nrmOf (probe cx c e) with | some e1 => align e1 e | none => e
def iter {P R : Type} (F : (P → Option R) → P → Option R) : Nat → P → Option R
  | 0, _ => none
  | n + 1, p => F (iter F n) p
/-- Which operations an operation comes behind, itself included: bits. -/
def locS (s : Nat) : Nat := 2 * s
def locO (o : Nat) : Nat := 2 * o + 1
noncomputable def ev : (c : Code) → (R : Type) → Env → List Nat → (X → Env → Option R) → Option R
  | .skip, _, e, _, K => K .nrm e
  | .region _ ops draw, _, e, _, K => cond draw (drawOps cx ops.toList ops.toList 0 [] e (K .nrm)) (runOps cx ops.toList ops.toList e (K .nrm))
  | .seq a b, R, e, live, K =>
    let keep := needs b ++ live
    match cond (Nat.ble 2 (ways a)) (nrmOf (probe cx a e)) none with
    | none => ev a R e keep fun x e' => match x with
      | .nrm => ev b R e' live K
      | x => K x e'
    | some e1 =>
      let G := canon keep e1
      (ev a (R ⊕ EPay G) e keep fun x e' => match x with
        | .nrm => (G.get (canon (G.slots.map (·.1)) (align G e'))).map .inr
        | x => (K x e').map .inl).bind fun
      | .inl r => some r
      | .inr p => ev b R (G.mk' p) live K
  | .cond c a b, R, e, live, K => match c with
    | .tmp s => match e.slot s with
      | some (.cell (.val .bool t f)) => match t with
        | true => ev a R (e.put (setc s (.val .bool true f))) live K
        | false => ev b R (e.put (setc s (.val .bool false f))) live K
      | _ => none
    | .const (.bool t) => match t with
      | true => ev a R e live K
      | false => ev b R e live K
    | _ => none
  | .block id c, R, e, live, K => ev c R e live fun x e' => match x with
    | .ex k => cond (Nat.beq k id) (K .nrm e') (K (.ex k) e')
    | x => K x e'
  | .loop c, R, e, live, K =>
    let keep := needs c ++ live
    let G := canon keep (toHead cx c (toHead cx c e))
    match G.get G with
    | none => none
    | some p => iter (fun REC q => ev c R (G.mk' q) keep fun x e' => match x with
      | .nrm => match G.get (canon (G.slots.map (·.1)) (align G e')) with
        | some q' => REC q'
        | none => none
      | x => K x e') cx.n p
  | .exit k, _, e, _, K => K (.ex k) e
  | .ret, _, e, _, K => K .ret e
  | _, _, _, _, _ => none
end

/-! ### A function -/
def pnm (i j : Nat) : Nat := 2000000 + i * 64 + j
/-- The cells of a parameter, out of its data; rows of a lent variable have names. -/
def inCells (i : Nat) : (j : Nat) → (l : List CSh) → Pay l → List Cell × List (Nat × Option OV) × Nat
  | j, [], _ => ([], [], j)
  | j, .val t _ :: l, p => let r := inCells i j l p.2; (.val t p.1 (!(hasSl t)) :: r.1, r.2.1, r.2.2)
  | j, .row t et f :: l, p => let r := inCells i (j + 1) l p.2; (.row (pnm i j) :: r.1, (pnm i j, some (.row t et p.1 (!(hasSl t)) 2)) :: r.2.1, r.2.2)
def inBoxes (i : Nat) : (j : Nat) → (l : List (List CSh)) → Pay l.flatten → List Nat × List (Nat × Option OV)
  | _, [], _ => ([], [])
  | j, cs :: l, p =>
    let q := Pay.split cs l.flatten p
    let r := inCells i (j + 1) cs q.1
    let s := inBoxes i r.2.2 l q.2
    (pnm i j :: s.1, (pnm i j, some (.box r.1 2)) :: r.2.1 ++ s.2)
def inArg (i : Nat) : (p : PSh) → Pay p.flat → SV × List (Nat × Option OV)
  | .cell c, p => let r := inCells i 0 [c] p; match r.1 with | [x] => (.cell x, r.2.1) | _ => (.top, [])
  | .agg cs, p => let r := inCells i 0 cs p; (.agg r.1, r.2.1)
  | .box cs, p => (.cell (.ptr (pnm i 0) 0), let r := inCells i 1 cs p; (pnm i 0, some (.box r.1 2)) :: r.2.1)
  | .fn f l, p => let r := inBoxes i 0 l p; (.cell (.fn f r.1), r.2)
def inEnv : (i : Nat) → (l : List PSh) → Pay (l.flatMap PSh.flat) → Env
  | _, [], _ => ⟨[], []⟩
  | i, p :: l, q =>
    let s := Pay.split p.flat (l.flatMap PSh.flat) q
    let a := inArg i p s.1
    let r := inEnv (i + 1) l s.2
    ⟨(i, some a.1) :: r.slots, a.2 ++ r.objs⟩
/-- A result's cells as data; the rows that are frozen for it, those that are handed over. -/
def retCells (e : Env) (lent : Bool) : (l : List CSh) → List Cell → Option (Pay l × List Nat × List Nat)
  | [], [] => some ((), [], [])
  | .val t f :: l, x :: xs => match retCells e lent l xs with
    | some (q, zs, rs) => match settle e x with
      | some (c, _) => if (!f || c.fr || !(hasSl t)) = true then (match c.as t with | some z => some ((z, q), rowName x ++ zs, rs) | none => none) else none
      | none => none
    | none => none
  | .row t et f :: l, x :: xs => match retCells e lent l xs with
    | some (q, zs, rs) => match x with
      | .nil => some ((([] : List t.den), q), zs, rs)
      | .row o => match e.obj o with
        | some (.row t' et' xs' f' st) => if (Nat.beq et et' && ((!f || f' || !(hasSl t)) && (Nat.beq st 0 || (lent && Nat.beq st 2)))) = true then (match tyList t t' xs' with | some z => some ((z, q), zs, o :: rs) | none => none) else none
        | _ => none
      | _ => none
    | none => none
  | _, _ => none
def retVar (T : Types) (e : Env) (k : Nat) : ResultVar → Option (List Cell × List Nat)
  | .tmp t => match k, e.slot t with
    | 0, some (.cell c) => some ([c], [])
    | 1, some (.agg cs) => some (cs, [])
    | 2, some (.cell (.ptr o 0)) => match e.obj o with
      | some (.box xs 0) => some (xs, [o])
      | _ => none
    | _, _ => none
  | .cell a t => match look T t, e.slot a with
    | some i, some (.cell (.ptr o 0)) => match e.obj o with
      | some (.box xs _) => if Nat.beq xs.length i.size = true then (match k, i.isAgg with
        | 0, false => if Nat.beq i.size 1 = true then some (xs, []) else none
        | 1, true => some (xs, [])
        | _, _ => none) else none
      | _ => none
    | _, _ => none
def retVars (T : Types) (e : Env) (lent : Bool) : List ResultVar → (l : List (Nat × List CSh)) → Option (Pay (flatOuts l) × List Nat × List Nat)
  | [], [] => some ((), [], [])
  | r :: rs, bc :: l =>
    match retVar T e bc.1 r, retVars T e lent rs l with
    | some (xs, ns), some (q, zs, ms) => match retCells e lent bc.2 xs with
      | some (p, zs', ms') => some (Pay.append bc.2 (flatOuts l) p q, zs' ++ zs, (ns ++ ms') ++ ms)
      | none => none
    | _, _ => none
  | _, _ => none
def retBoxes (e : Env) : (l : List (List CSh)) → List Nat → Option (Pay l.flatten × List Nat × List Nat)
  | [], [] => some ((), [], [])
  | cs :: l, o :: os => match e.obj o with
    | some (.box xs 2) => match retCells e true cs xs, retBoxes e l os with
      | some (p, zs', ms'), some (q, zs, ms) => some (Pay.append cs l.flatten p q, zs' ++ zs, (o :: ms') ++ ms)
      | _, _ => none
    | _ => none
  | _, _ => none
/-- The lent variables' names, as they stand in the parameters' slots. -/
def lentNames (e : Env) : Nat → List PSh → Option (List Nat)
  | _, [] => some []
  | i, .box _ :: l => match e.slot i, lentNames e (i + 1) l with
    | some (.cell (.ptr o 0)), some r => some (o :: r)
    | _, _ => none
  | i, .fn _ _ :: l => match e.slot i, lentNames e (i + 1) l with
    | some (.cell (.fn _ os)), some r => some (os ++ r)
    | _, _ => none
  | i, _ :: l => lentNames e (i + 1) l
def boxSlots : Nat → List PSh → List Nat
  | _, [] => []
  | i, .box _ :: l => i :: boxSlots (i + 1) l
  | i, .fn _ _ :: l => i :: boxSlots (i + 1) l
  | i, _ :: l => boxSlots (i + 1) l
def resSlots : List ResultVar → List Nat
  | [] => []
  | .tmp t :: r => t :: resSlots r
  | .cell a _ :: r => a :: resSlots r
/-- Results that are no rows. -/
def resAbs : List ResultVar → List (Nat × List CSh) → List Nat
  | r :: rs, bc :: l => cond (bc.2.all isVal) (resSlots [r]) [] ++ resAbs rs l
  | _, _ => []
/-- Is a row handed over for good? -/
def isMov : PSh → Bool
  | .cell c => !(isVal c) | .agg cs => !(cs.all isVal) | _ => false
def hasMov (s : Sig) : Bool := s.ins.any isMov
def finish (T : Types) (fn : Func) (s : Sig) (e0 : Env) : Option s.Out :=
  let e := cond s.mems.isEmpty e0 (e0.puts (absSlots e0 (resAbs fn.results.toList s.outs)))
  match lentNames e 0 s.ins with
  | some os => match retVars T e (hasMov s || !(s.mems.isEmpty)) fn.results.toList s.outs, retBoxes e s.boxes os, memPay e s.mems with
    | some (p, zs, ms), some (q, zs', ms'), some pm => if (nodupB ((ms ++ ms') ++ memNames s.mems) && !((ms ++ ms').any (memN (zs ++ zs')))) = true then some (PayX.mk _ (Pay.append (flatOuts s.outs) s.boxes.flatten p q) pm) else none
    | _, _, _ => none
  | none => none
/-- Names of a parameter's variables and rows do not run over. -/
def cntArg : PSh → Nat
  | .box cs => cntCells cs + 1
  | .fn _ l => cntBoxes l + l.length
  | .cell c => cntCells [c]
  | .agg cs => cntCells cs
def sigOk (s : Sig) (N : Nat) : Bool := s.ins.all (fun p => Nat.ble (cntArg p) 64) && (Nat.ble s.ins.length N && (!(hasMov s || !(s.mems.isEmpty)) || s.boxes.all fun cs => cs.all isVal))
/-- What a call begins with. -/
def inAll (s : Sig) (p : s.In) : Env := let e := inEnv 0 s.ins (PayX.out _ p); ⟨e.slots, e.objs ++ memObjs s.mems (PayX.ms _ p)⟩
noncomputable def body (T : Types) (D : Den) (n : Nat) (fn : Func) (s : Sig) (p : s.In) : Option s.Out :=
  cond (sigOk s fn.ntmps) (match fn.body with
  | some c => ev ⟨T, D, n, fn.ntmps, boxSlots 0 s.ins, memNames s.mems⟩ c s.Out (inAll s p) (resSlots fn.results.toList ++ boxSlots 0 s.ins) fun x e => match x with
    | .ret => finish T fn s e
    | .nrm => finish T fn s e
    | _ => none
  | none => none) none
/-- The same, with arenas of its own: they are empty as it begins, and nobody sees them behind it. -/
def emptyPay : (ms : List (Nat × Ty)) → PayM ms
  | [] => ()
  | _ :: r => ([], emptyPay r)
noncomputable def bodyG {R : Type} (T : Types) (D : Den) (n : Nat) (fn : Func) (s : Sig) (g : s.Out → R) (p : s.In) : Option R :=
  cond (sigOk s fn.ntmps) (match fn.body with
  | some c => ev ⟨T, D, n, fn.ntmps, boxSlots 0 s.ins, memNames s.mems⟩ c R (inAll s p) (resSlots fn.results.toList ++ boxSlots 0 s.ins) fun x e => match x with
    | .ret => (finish T fn s e).map g
    | .nrm => (finish T fn s e).map g
    | _ => none
  | none => none) none
/-- May arenas be kept hidden? -/
def hideOk (s : Sig) (ms : List (Nat × Ty)) : Bool := outIn [] s.inl && (outIn [] s.outl && ms.all fun p => !(hasSl p.2))
noncomputable def bodyL (T : Types) (D : Den) (n : Nat) (fn : Func) (s : Sig) (ms : List (Nat × Ty)) (p : s.In) : Option s.Out :=
  cond (hideOk s ms) (bodyG T D n fn ⟨s.ins, s.outs, ms⟩ (fun r => PayX.mk s.mems (PayX.out ms r) (PayX.ms s.mems p)) (PayX.mk ms (PayX.out s.mems p) (emptyPay ms))) none
abbrev Funcs := List (Nat × Option Func)
abbrev Sigs := List (Nat × Option (List (List Nat × Sig)))
def sigAt : List (List Nat × Sig) → List Nat → Option Sig
  | [], _ => none
  | (k, s) :: r, key => cond (listBeq k key) (some s) (sigAt r key)
/-- The denotations, to a depth. 'base': what is known otherwise. -/
noncomputable def den (T : Types) (F : Funcs) (S : Sigs) (base : Den) : Nat → Den
  | 0, _, _ => none
  | n + 1, f, key => match base f key with
    | some d => some d
    | none => match look F f, look S f with
      | some fn, some l => match sigAt l key with
        | some s => some ⟨s, body T (den T F S base n) n fn s⟩
        | none => none
      | _, _ => none

end Go.Px

/- What an environment says of a frame and a world. -/
namespace Go.Px
open Go

/-- A block; or where an arena's entry lies: block g, from cell C.1 on, room for C.2 elements. -/
inductive Loc where
  | b (k : Nat) | m (et k g : Nat) (C : Nat × Nat)
instance : Coe Nat Loc := ⟨Loc.b⟩
/-- A set of blocks among places. -/
@[reducible] def up (SA : Nat → Prop) : Loc → Prop
  | .b k => SA k | .m .. => False
theorem up.mono {S S' : Nat → Prop} (h : ∀ k, S k → S' k) : ∀ l, up S l → up S' l
  | .b k, hk => h k hk
  | .m .., hk => hk.elim
/-- A row of one's own; its block may begin ahead of it, and be longer. -/
def _root_.Go.World.ownsR (w : World) (base : Nat) (e : TypeId) (size : Nat) (v : Value) (n : Nat) (xs : List Value) : Prop :=
  xs.length = n * size ∧
  ((v = .slice none 0 0 ∧ n = 0) ∨
   ∃ g off cap cur, v = .slice (some ⟨g, off, none⟩) n cap ∧ base ≤ g ∧ w.heap[g]? = some (.cells cur e (0, 0)) ∧ n ≤ cap ∧ cap ≤ maxLen ∧ off + cap * size ≤ cur.size ∧ (cur.toList.drop off).take (n * size) = xs)
theorem _root_.Go.World.ownsR_nil (w : World) (base : Nat) (e : TypeId) (size : Nat) : w.ownsR base e size (.slice none 0 0) 0 [] := ⟨by simp, .inl ⟨rfl, rfl⟩⟩
theorem _root_.Go.World.ownsR.lt {w : World} {base : Nat} {e : TypeId} {size : Nat} {v : Value} {n : Nat} {xs : List Value} (h : w.ownsR base e size v n xs) : ∀ k, v.ownBlock = some k → base ≤ k ∧ k < w.heap.size := by
  intro k hk
  rcases h.2 with ⟨rfl, _⟩ | ⟨g, off, cap, cur, rfl, hb, hg, _⟩
  · simp [Value.ownBlock] at hk
  · simp [Value.ownBlock] at hk
    subst hk
    exact ⟨hb, (Array.getElem?_eq_some_iff.1 hg).1⟩
/-! ### Data in memory -/
def Chop {α : Type} (R : List Value → α → Prop) : List α → List Value → Prop
  | [], vs => vs = []
  | x :: xs, vs => ∃ c r, vs = c ++ r ∧ R c x ∧ Chop R xs r
/-- The cells cs are the datum x; what they lead to lies in blocks of S. -/
def Rep (h : Array Obj) (S : Loc → Prop) : (t : Ty) → List Value → t.den → Prop
  | .int k, cs, x => cs = [.int k x]
  | .bool, cs, x => cs = [.bool x]
  | .str, cs, x => cs = [.string x]
  | .err, cs, x => (x = false ∧ cs = [.nilIface]) ∨ (x = true ∧ ∃ t v, cs = [.iface t v])
  | .mp, cs, _ => cs = [.map none]
  | .slice e, cs, xs => ∃ a n c, cs = [.slice a n c] ∧ List.length (α := e.den) xs = n ∧ n ≤ c ∧
      (n = 0 ∨ ∃ g off arr et fr, a = some ⟨g, off, none⟩ ∧ S g ∧ h[g]? = some (.cells arr et fr) ∧ off + n * e.size ≤ arr.size ∧
        Chop (Rep h S e) xs ((arr.toList.drop off).take (n * e.size)))
  | .nil, cs, _ => cs = []
  | .cons a b, cs, x => ∃ c d, cs = c ++ d ∧ Rep h S a c x.1 ∧ Rep h S b d x.2
  | .hdr et t, cs, x => ∃ b n c, cs = [.slice b n c] ∧ x.2.2 = n ∧ n ≤ c ∧
      ((n = 0 ∧ c = 0 ∧ (x.2.1 = 0 → b = none)) ∨ ∃ g C, b = some ⟨g, C.1 + x.2.1 * t.size, none⟩ ∧ x.2.1 + c ≤ C.2 ∧ S (.m et x.1 g C))

section
variable {h h' : Array Obj} {S S' : Loc → Prop}
theorem Chop.mono {α : Type} {R R' : List Value → α → Prop} (hR : ∀ c x, R c x → R' c x) : ∀ {xs : List α} {vs : List Value}, Chop R xs vs → Chop R' xs vs
  | [], _, h => h
  | _ :: _, _, ⟨c, r, e, h1, h2⟩ => ⟨c, r, e, hR _ _ h1, Chop.mono hR h2⟩
theorem Rep.mono (hS : ∀ k, S k → S' k) (hh : ∀ k : Nat, S k → h'[k]? = h[k]?) : ∀ {t : Ty} {cs : List Value} {x : t.den}, Rep h S t cs x → Rep h' S' t cs x
  | .int _, _, _, hr => hr
  | .bool, _, _, hr => hr
  | .str, _, _, hr => hr
  | .err, _, _, hr => hr
  | .mp, _, _, hr => hr
  | .nil, _, _, hr => hr
  | .cons _ _, _, _, ⟨c, d, e, h1, h2⟩ => ⟨c, d, e, Rep.mono hS hh h1, Rep.mono hS hh h2⟩
  | .slice e, _, _, ⟨a, n, c, e1, e2, e3, h1⟩ => ⟨a, n, c, e1, e2, e3, h1.imp id fun ⟨g, off, arr, et, fr, f1, f2, f3, f4, f5⟩ =>
      ⟨g, off, arr, et, fr, f1, hS _ f2, (hh _ f2).trans f3, f4, f5.mono fun _ _ hr => Rep.mono hS hh hr⟩⟩
  | .hdr _ _, _, _, ⟨b, n, c, e1, e2, e3, h1⟩ => ⟨b, n, c, e1, e2, e3, h1.imp id fun ⟨g, C, f1, f2, f3⟩ => ⟨g, C, f1, f2, hS _ f3⟩⟩
/-- Do all entries of arenas lie where they lay? -/
def Mem' (S S' : Loc → Prop) : Prop := ∀ et k g C, S (.m et k g C) → S' (.m et k g C)
theorem Rep.noSl (hm : Mem' S S') : ∀ {t : Ty} {cs : List Value} {x : t.den}, hasSl t = false → Rep h S t cs x → Rep h' S' t cs x
  | .int _, _, _, _, hr => hr
  | .bool, _, _, _, hr => hr
  | .str, _, _, _, hr => hr
  | .err, _, _, _, hr => hr
  | .mp, _, _, _, hr => hr
  | .nil, _, _, _, hr => hr
  | .cons a b, _, _, hn, ⟨c, d, e, h1, h2⟩ => by
    simp only [hasSl, Bool.or_eq_false_iff] at hn
    exact ⟨c, d, e, Rep.noSl hm hn.1 h1, Rep.noSl hm hn.2 h2⟩
  | .slice e, _, _, hn, _ => by simp [hasSl] at hn
  | .hdr _ _, _, _, _, ⟨b, n, c, e1, e2, e3, h1⟩ => ⟨b, n, c, e1, e2, e3, h1.imp id fun ⟨g, C, f1, f2, f3⟩ => ⟨g, C, f1, f2, hm _ _ _ _ f3⟩⟩
theorem Rep.len : ∀ {t : Ty} {cs : List Value} {x : t.den}, Rep h S t cs x → cs.length = t.size
  | .int _, _, _, hr => by simp only [Rep] at hr; rw [hr]; rfl
  | .bool, _, _, hr => by simp only [Rep] at hr; rw [hr]; rfl
  | .str, _, _, hr => by simp only [Rep] at hr; rw [hr]; rfl
  | .err, _, _, hr => by simp only [Rep] at hr; rcases hr with ⟨_, rfl⟩ | ⟨_, _, _, rfl⟩ <;> rfl
  | .mp, _, _, hr => by simp only [Rep] at hr; rw [hr]; rfl
  | .nil, _, _, hr => by simp only [Rep] at hr; rw [hr]; rfl
  | .cons a b, _, _, ⟨c, d, e, h1, h2⟩ => by rw [e, List.length_append, h1.len, h2.len]; rfl
  | .slice e, _, _, ⟨a, n, c, e1, _⟩ => by rw [e1]; rfl
  | .hdr _ _, _, _, ⟨a, n, c, e1, _⟩ => by rw [e1]; rfl
theorem Rep.one : ∀ {t : Ty} {cs : List Value} {x : t.den}, Rep h S t cs x → ∀ v ∈ cs, v.oneCell' = true
  | .int _, _, _, hr => by simp only [Rep] at hr; subst hr; simp [Value.oneCell']
  | .bool, _, _, hr => by simp only [Rep] at hr; subst hr; simp [Value.oneCell']
  | .str, _, _, hr => by simp only [Rep] at hr; subst hr; simp [Value.oneCell']
  | .err, _, _, hr => by simp only [Rep] at hr; rcases hr with ⟨_, rfl⟩ | ⟨_, _, _, rfl⟩ <;> simp [Value.oneCell']
  | .mp, _, _, hr => by simp only [Rep] at hr; subst hr; simp [Value.oneCell']
  | .nil, _, _, hr => by simp only [Rep] at hr; subst hr; simp
  | .cons a b, _, _, ⟨c, d, e, h1, h2⟩ => by
    intro v hv
    rw [e, List.mem_append] at hv
    exact hv.elim (h1.one v) (h2.one v)
  | .slice e, _, _, ⟨a, n, c, e1, _⟩ => by subst e1; simp [Value.oneCell']
  | .hdr _ _, _, _, ⟨a, n, c, e1, _⟩ => by subst e1; simp [Value.oneCell']
theorem Chop.len {t : Ty} : ∀ {xs : List t.den} {vs : List Value}, Chop (Rep h S t) xs vs → vs.length = xs.length * t.size
  | [], _, e => by simp only [Chop] at e; subst e; simp
  | x :: xs, _, ⟨c, r, e, h1, h2⟩ => by
    rw [e, List.length_append, h1.len, h2.len, List.length_cons, Nat.add_mul, Nat.one_mul, Nat.add_comm]
theorem Chop.one {t : Ty} : ∀ {xs : List t.den} {vs : List Value}, Chop (Rep h S t) xs vs → ∀ v ∈ vs, v.oneCell' = true
  | [], _, e => by simp only [Chop] at e; subst e; simp
  | x :: xs, _, ⟨c, r, e, h1, h2⟩ => by
    intro v hv
    rw [e, List.mem_append] at hv
    exact hv.elim (h1.one v) (h2.one v)
theorem Chop.append {α : Type} {R : List Value → α → Prop} : ∀ {xs ys : List α} {vs us : List Value}, Chop R xs vs → Chop R ys us → Chop R (xs ++ ys) (vs ++ us)
  | [], _, _, _, e, h => by simp only [Chop] at e; subst e; simpa using h
  | _ :: _, _, _, us, ⟨c, r, e, h1, h2⟩, h => ⟨c, r ++ us, by rw [e, List.append_assoc], h1, h2.append h⟩
/-- The element at i. -/
theorem Chop.at_ {t : Ty} : ∀ {xs : List t.den} {vs : List Value} (i : Nat), Chop (Rep h S t) xs vs → i < xs.length →
    Rep h S t ((vs.drop (i * t.size)).take t.size) (xs.getD i t.dflt)
  | [], _, _, _, hi => by simp at hi
  | x :: xs, vs, 0, ⟨c, r, e, h1, h2⟩, _ => by
    have hl := h1.len
    subst e
    simpa [← hl] using h1
  | x :: xs, vs, i + 1, ⟨c, r, e, h1, h2⟩, hi => by
    have hl := h1.len
    subst e
    have ih := h2.at_ i (by simpa using hi)
    rw [show (i + 1) * t.size = c.length + i * t.size by rw [hl, Nat.add_mul, Nat.one_mul, Nat.add_comm], List.drop_append, List.drop_of_length_le (by omega), List.nil_append]
    simpa using ih
theorem Chop.take {t : Ty} : ∀ {xs : List t.den} {vs : List Value} (n : Nat), Chop (Rep h S t) xs vs → Chop (Rep h S t) (xs.take n) (vs.take (n * t.size))
  | [], _, n, e => by simp only [Chop] at e; subst e; simp [Chop]
  | x :: xs, vs, 0, _ => by simp [Chop]
  | x :: xs, vs, n + 1, ⟨c, r, e, h1, h2⟩ => by
    have hl := h1.len
    subst e
    have e1 : (n + 1) * t.size = c.length + n * t.size := by rw [hl, Nat.add_mul, Nat.one_mul, Nat.add_comm]
    exact ⟨c, r.take (n * t.size), by rw [e1]; simp [List.take_append, List.take_of_length_le], h1, h2.take n⟩
theorem Chop.drop {t : Ty} : ∀ {xs : List t.den} {vs : List Value} (n : Nat), Chop (Rep h S t) xs vs → Chop (Rep h S t) (xs.drop n) (vs.drop (n * t.size))
  | [], _, n, e => by simp only [Chop] at e; subst e; simp [Chop]
  | x :: xs, vs, 0, hc => by simpa using hc
  | x :: xs, vs, n + 1, ⟨c, r, e, h1, h2⟩ => by
    have hl := h1.len
    subst e
    have e1 : (n + 1) * t.size = c.length + n * t.size := by rw [hl, Nat.add_mul, Nat.one_mul, Nat.add_comm]
    have e2 : (c ++ r).drop ((n + 1) * t.size) = r.drop (n * t.size) := by rw [e1]; simp [List.drop_append]
    rw [e2]
    exact h2.drop n
theorem Chop.set {t : Ty} {z : t.den} {zs : List Value} (hz : Rep h S t zs z) : ∀ {xs : List t.den} {vs : List Value} (i : Nat), Chop (Rep h S t) xs vs → i < xs.length →
    Chop (Rep h S t) (xs.set i z) (vs.take (i * t.size) ++ zs ++ vs.drop (i * t.size + t.size))
  | [], _, _, _, hi => by simp at hi
  | x :: xs, vs, 0, ⟨c, r, e, h1, h2⟩, _ => by
    have hl := h1.len
    subst e
    simp only [List.set_cons_zero, Nat.zero_mul, List.take_zero, List.nil_append, Nat.zero_add]
    rw [← hl, List.drop_left]
    exact ⟨zs, r, rfl, hz, h2⟩
  | x :: xs, vs, i + 1, ⟨c, r, e, h1, h2⟩, hi => by
    have hl := h1.len
    subst e
    have e1 : (i + 1) * t.size = c.length + i * t.size := by rw [hl, Nat.add_mul, Nat.one_mul, Nat.add_comm]
    simp only [List.set_cons_succ]
    refine ⟨c, r.take (i * t.size) ++ zs ++ r.drop (i * t.size + t.size), ?_, h1, h2.set hz i (by simpa using hi)⟩
    rw [e1, List.take_append, List.take_of_length_le (by omega), Nat.add_assoc, List.drop_append, List.drop_of_length_le (by omega)]
    simp
theorem Chop.replicate {t : Ty} {z : t.den} {zs : List Value} (hz : Rep h S t zs z) : ∀ n, Chop (Rep h S t) (List.replicate n z) (List.replicate n zs).flatten
  | 0 => rfl
  | n + 1 => ⟨zs, _, rfl, hz, Chop.replicate hz n⟩
end

/-! ### Cells, slots, objects -/
def S2 (SA : Nat → Prop) (SF : Loc → Prop) (fr : Bool) : Loc → Prop := fun k => SF k ∨ (fr = false ∧ up SA k)
def All2 {α : Type} (R : α → Value → Prop) : List α → List Value → Prop
  | [], vs => vs = []
  | c :: cs, vs => ∃ v r, vs = v :: r ∧ R c v ∧ All2 R cs r
def ownB : Value → Option Nat
  | .slice (some a) _ _ => some a.block
  | .pointer (some a) => some a.block
  | .map (some g) => some g
  | _ => none
section
variable (h : Array Obj) (SA : Nat → Prop) (SF : Loc → Prop) (β : Nat → Value)
def CellRep : Cell → Value → Prop
  | .val t x fr, v => Rep h (S2 SA SF fr) t [v] x
  | .nil, v => v = .slice none 0 0
  | .row o, v => v = β o ∧ ∃ a n c, v = .slice a n c
  | .part o t lo n, v => ∃ a N c, β o = .slice a N c ∧ lo + n ≤ N ∧ N ≤ c ∧ v = .slice (if c = lo then a else a.map (·.add (lo * t.size))) n (c - lo)
  | .ptr o off, v => ∃ g, β o = .pointer (some ⟨g, 0, none⟩) ∧ v = .pointer (some ⟨g, off, none⟩)
  | .elt o t i off, v => ∃ g b N c, β o = .slice (some ⟨g, b, none⟩) N c ∧ i < N ∧ v = .pointer (some ⟨g, b + (i * t.size + off), none⟩)
  | .cptr t x fr, v => ∃ g off arr et fz, v = .pointer (some ⟨g, off, none⟩) ∧ (S2 SA SF fr) g ∧ h[g]? = some (.cells arr et fz) ∧ off + t.size ≤ arr.size ∧
      Rep h (S2 SA SF fr) t ((arr.toList.drop off).take t.size) x
  | .fn f caps, v => v = .func (.func f) #[] (caps.map β).toArray ∧ ∀ o ∈ caps, ∃ g, β o = .pointer (some ⟨g, 0, none⟩)
  | .mp o, v => v = β o ∧ ∃ g, v = .map (some g)
  | .ad et t k i off, v => ∃ g C, SF (.m et k g C) ∧ v = .pointer (some ⟨g, C.1 + (i * t.size + off), none⟩)
def CellsRep (cs : List Cell) (vs : List Value) : Prop := All2 (CellRep h SA SF β) cs vs
def PartRep (p : Bool × List Cell) (v : Value) : Prop :=
  ∃ vs, CellsRep h SA SF β p.2 vs ∧ v = if p.1 = true then .agg vs.toArray else vs.headD undef
def SVRep : SV → Value → Prop
  | .cell c, v => CellRep h SA SF β c v
  | .agg cs, v => ∃ vs : List Value, v = .agg vs.toArray ∧ CellsRep h SA SF β cs vs
  | .tup l, v => ∃ vs : List Value, v = .tuple vs.toArray ∧ All2 (PartRep h SA SF β) l vs
  | .undef, v => v = undef
  | .top, _ => True
end
def OV.st : OV → Nat
  | .row _ _ _ _ st => st | .box _ st => st | .mp _ _ st => st | .mem _ _ _ => 2 | .al _ _ _ => 2 | .dead => 2
/-- An arena: its entries lie in blocks of their own. -/
structure MemRep (h : Array Obj) (SA : Nat → Prop) (SF : Loc → Prop) (t : Ty) (et : Nat) (bs : List (Option (List t.den))) : Prop where
  dom : ∀ k g C, SF (.m et k g C) → 1 ≤ k ∧ k ≤ bs.length
  one : ∀ k g C g' C', SF (.m et k g C) → SF (.m et k g' C') → g = g' ∧ C = C'
  ent : ∀ k xs, bs[k]? = some (some xs) → (xs = [] ∧ ∀ g C, ¬ SF (.m et (k + 1) g C)) ∨
    ∃ g C cur, SF (.m et (k + 1) g C) ∧ h[g]? = some (.cells cur et (0, 0)) ∧ xs.length ≤ C.2 ∧ C.2 ≤ maxLen ∧ C.1 + C.2 * t.size ≤ cur.size ∧ Chop (Rep h (S2 SA SF true) t) xs ((cur.toList.drop C.1).take (xs.length * t.size))
  inj : ∀ k k' xs xs' g C C', bs[k]? = some (some xs) → bs[k']? = some (some xs') → SF (.m et (k + 1) g C) → SF (.m et (k' + 1) g C') → k = k'
  sl : hasSl t = false
def ObjRep (SA : Nat → Prop) (SF : Loc → Prop) (β : Nat → Value) (w : World) (o : Nat) : OV → Prop
  | .row t et xs fr _ => ∃ vs, w.ownsR 0 et t.size (β o) xs.length vs ∧ Chop (Rep w.heap (S2 SA SF fr) t) xs vs
  | .box cs _ => ∃ g arr et, β o = .pointer (some ⟨g, 0, none⟩) ∧ w.heap[g]? = some (.cells arr et (0, 0)) ∧ CellsRep w.heap SA SF β cs arr.toList
  | .mp k es _ => ∃ g ents clock, β o = .map (some g) ∧ w.heap[g]? = some (.map ents clock) ∧ ents.toList.map (fun e => (e.key, e.val)) = es.map (fun p => (Value.string p.1, Value.int k p.2))
  | .mem t et bs => o = an et ∧ MemRep w.heap SA SF t et bs
  | .dead => True
  | .al t et x => Rep w.heap (S2 SA SF true) (.hdr et t) [β o] x
/-- The blocks of an object. -/
def Owns (SF : Loc → Prop) (β : Nat → Value) (o : Nat) : OV → Nat → Prop
  | .row .., g => ownB (β o) = some g
  | .box .., g => ownB (β o) = some g
  | .mp .., g => ownB (β o) = some g
  | .mem _ et bs, g => ∃ k xs C, bs[k]? = some (some xs) ∧ SF (.m et (k + 1) g C)
  | .al _ _ _, _ => False
  | .dead, _ => False

/-- A call's frame: the world as it began; what may be read; what is lent. -/
structure Ctx where
  w0 : World
  SA : Nat → Prop
  Bor : Nat → Prop
  N : Nat
  pin : List (Nat × Value)
  S0 : Loc → Prop   -- where the entries of arenas lay
def Ctx.ok (c : Ctx) (d : Nat) : Prop := d < c.N ∧ ∀ p ∈ c.pin, p.1 ≠ d
structure RelB (c : Ctx) (β : Nat → Value) (SF : Loc → Prop) (e : Env) (a : Act) (w : World) : Prop where
  os : w.os = c.w0.os
  tape : w.tape = c.w0.tape
  output : w.output = c.w0.output
  size : c.w0.heap.size ≤ w.heap.size
  old : ∀ k, k < c.w0.heap.size → ¬ c.Bor k → w.heap[k]? = c.w0.heap[k]?
  sa : ∀ k, c.SA k → k < c.w0.heap.size ∧ ¬ c.Bor k
  bor : ∀ k, c.Bor k → k < c.w0.heap.size
  sf : ∀ k : Nat, SF k → c.w0.heap.size ≤ k ∧ k < w.heap.size
  mu : ∀ l, c.S0 l → SF l
  nd : a.defers = []
  nt : a.tmps.size = c.N
  pins : ∀ p ∈ c.pin, a.tmps.getD p.1 undef = p.2
  slots : ∀ s sv, e.slot s = some sv → s < c.N ∧ SVRep w.heap c.SA SF β sv (a.tmps.getD s undef)
  objs : ∀ o ov, e.obj o = some ov → ObjRep c.SA SF β w o ov
  own : ∀ o ov g, e.obj o = some ov → Owns SF β o ov g → g < w.heap.size ∧
    ((ov.st = 0 ∧ c.w0.heap.size ≤ g ∧ ¬ SF g) ∨ (ov.st = 1 ∧ SF g) ∨ (ov.st = 2 ∧ (c.Bor g ∨ c.w0.heap.size ≤ g ∧ ¬ SF g)))
  inj : ∀ o o' ov ov' g, o ≠ o' → e.obj o = some ov → e.obj o' = some ov' → Owns SF β o ov g → Owns SF β o' ov' g → False
def Rel (c : Ctx) (e : Env) (a : Act) (w : World) : Prop := ∃ β SF, RelB c β SF e a w

end Go.Px

/- The relation's steps. -/
namespace Go.Px
open Go

theorem look_cons {α : Type} (k : Nat) (v : Option α) (r : List (Nat × Option α)) (s : Nat) : look ((k, v) :: r) s = if k = s then v else look r s := by
  show cond (Nat.beq k s) v (look r s) = _
  by_cases h : k = s
  · simp [h]
  · have : Nat.beq k s = false := by
      cases hb : Nat.beq k s
      · rfl
      · exact absurd (Nat.eq_of_beq_eq_true hb) h
    simp [h, this]
@[simp] theorem slot_put_slot (e : Env) (s : Nat) (v : Option SV) (s' : Nat) : (e.put (.slot s v)).slot s' = if s = s' then v else e.slot s' := look_cons ..
@[simp] theorem obj_put_slot (e : Env) (s : Nat) (v : Option SV) (o : Nat) : (e.put (.slot s v)).obj o = e.obj o := rfl
@[simp] theorem slot_put_obj (e : Env) (o : Nat) (v : Option OV) (s : Nat) : (e.put (.obj o v)).slot s = e.slot s := rfl
@[simp] theorem obj_put_obj (e : Env) (o : Nat) (v : Option OV) (o' : Nat) : (e.put (.obj o v)).obj o' = if o = o' then v else e.obj o' := look_cons ..

section
variable {h h' : Array Obj} {SA : Nat → Prop} {SF SF' : Loc → Prop} {β β' : Nat → Value}
theorem S2.mono (hSF : ∀ k, SF k → SF' k) (f : Bool) : ∀ k, S2 SA SF f k → S2 SA SF' f k := fun _ hk => hk.imp (hSF _) id
theorem S2.sub (f : Bool) {k : Nat} (hk : S2 SA SF f k) : SA k ∨ SF k := hk.elim .inr fun x => .inl x.2
theorem CellRep.mono (hSF : ∀ k, SF k → SF' k) (hh : ∀ k, SA k ∨ SF k → h'[k]? = h[k]?) {c : Cell} {v : Value} (hβ : ∀ o ∈ c.names, β' o = β o)
    (H : CellRep h SA SF β c v) : CellRep h' SA SF' β' c v := by
  cases c with
  | val t x f => exact Rep.mono (S2.mono hSF f) (fun k hk => hh k (S2.sub f hk)) H
  | nil => exact H
  | row o => exact ⟨by rw [hβ o (by simp [cellNames])]; exact H.1, H.2⟩
  | part o t lo n =>
    obtain ⟨a, N, c, h1, h2⟩ := H
    exact ⟨a, N, c, by rw [hβ o (by simp [cellNames])]; exact h1, h2⟩
  | ptr o k =>
    obtain ⟨g, h1, h2⟩ := H
    exact ⟨g, by rw [hβ o (by simp [cellNames])]; exact h1, h2⟩
  | elt o t i k =>
    obtain ⟨g, b, N, c, h1, h2⟩ := H
    exact ⟨g, b, N, c, by rw [hβ o (by simp [cellNames])]; exact h1, h2⟩
  | cptr t x f =>
    obtain ⟨g, off, arr, et, fz, h1, h2, h3, h4, h5⟩ := H
    exact ⟨g, off, arr, et, fz, h1, S2.mono hSF f _ h2, (hh g (S2.sub f h2)).trans h3, h4, Rep.mono (S2.mono hSF f) (fun k hk => hh k (S2.sub f hk)) h5⟩
  | fn f caps =>
    obtain ⟨h1, h2⟩ := H
    refine ⟨by rw [h1]; congr 2; exact List.map_congr_left fun o ho => (hβ o ho).symm, fun o ho => ?_⟩
    obtain ⟨g, hg⟩ := h2 o ho
    exact ⟨g, by rw [hβ o ho]; exact hg⟩
  | mp o => exact ⟨by rw [hβ o (by simp [cellNames])]; exact H.1, H.2⟩
  | ad et t k i off =>
    obtain ⟨g, C, h1, h2⟩ := H
    exact ⟨g, C, hSF _ h1, h2⟩
theorem CellsRep.mono (hSF : ∀ k, SF k → SF' k) (hh : ∀ k, SA k ∨ SF k → h'[k]? = h[k]?) : ∀ {cs : List Cell} {vs : List Value}, (∀ o ∈ cs.flatMap Cell.names, β' o = β o) →
    CellsRep h SA SF β cs vs → CellsRep h' SA SF' β' cs vs
  | [], _, _, H => H
  | c :: cs, _, hβ, ⟨v, r, e, h1, h2⟩ => ⟨v, r, e, h1.mono hSF hh (fun o ho => hβ o (by simp [ho])), CellsRep.mono hSF hh (fun o ho => hβ o (by
      rw [List.flatMap_cons, List.mem_append]; exact .inr ho)) h2⟩
theorem CellsRep.len : ∀ {cs : List Cell} {vs : List Value}, CellsRep h SA SF β cs vs → vs.length = cs.length
  | [], _, H => by simp only [CellsRep, All2] at H; subst H; rfl
  | c :: cs, _, ⟨v, r, e, _, h2⟩ => by subst e; simp [CellsRep.len h2]
theorem All2.part (hSF : ∀ k, SF k → SF' k) (hh : ∀ k, SA k ∨ SF k → h'[k]? = h[k]?) : ∀ {l : List (Bool × List Cell)} {vs : List Value}, (∀ o ∈ l.flatMap (fun p => p.2.flatMap Cell.names), β' o = β o) →
    All2 (PartRep h SA SF β) l vs → All2 (PartRep h' SA SF' β') l vs
  | [], _, _, H => H
  | p :: l, _, hβ, ⟨v, r, e, ⟨vs, h1, h3⟩, h2⟩ => ⟨v, r, e, ⟨vs, h1.mono hSF hh (fun o ho => hβ o (by rw [List.flatMap_cons, List.mem_append]; exact .inl ho)), h3⟩,
      All2.part hSF hh (fun o ho => hβ o (by rw [List.flatMap_cons, List.mem_append]; exact .inr ho)) h2⟩
theorem SVRep.mono (hSF : ∀ k, SF k → SF' k) (hh : ∀ k, SA k ∨ SF k → h'[k]? = h[k]?) {x : SV} {v : Value} (hβ : ∀ o ∈ x.names, β' o = β o)
    (H : SVRep h SA SF β x v) : SVRep h' SA SF' β' x v := by
  cases x with
  | cell c => exact CellRep.mono hSF hh hβ H
  | agg cs => obtain ⟨vs, e, H⟩ := H; exact ⟨vs, e, H.mono hSF hh hβ⟩
  | tup l => obtain ⟨vs, e, H⟩ := H; exact ⟨vs, e, H.part hSF hh hβ⟩
  | undef => exact H
  | top => trivial
theorem ownsR_congr {w w' : World} {b : Nat} {et : TypeId} {sz : Nat} {v : Value} {n : Nat} {vs : List Value} (hb : ∀ g, ownB v = some g → w'.heap[g]? = w.heap[g]?)
    (H : w.ownsR b et sz v n vs) : w'.ownsR b et sz v n vs := by
  refine ⟨H.1, H.2.imp id fun ⟨g, off, cap, cur, h1, h2, h3, h4⟩ => ⟨g, off, cap, cur, h1, h2, ?_, h4⟩⟩
  rw [hb g (by rw [h1]; rfl)]
  exact h3
/-- An arena's entries lie where they lay. -/
def Same (SF SF' : Loc → Prop) : OV → Prop
  | .mem _ et _ => ∀ k g C, SF' (.m et k g C) → SF (.m et k g C)
  | _ => True
theorem Mem'.same (h : Mem' SF' SF) (ov : OV) : Same SF SF' ov := by
  cases ov <;> first | trivial | exact fun k g C => h _ k g C
theorem Owns.back {o g : Nat} {ov : OV} (hs : Same SF SF' ov) (hβ : β' o = β o) (h : Owns SF' β' o ov g) : Owns SF β o ov g := by
  cases ov with
  | mem t et bs =>
    obtain ⟨k, xs, C, h1, h2⟩ := h
    exact ⟨k, xs, C, h1, hs _ _ _ h2⟩
  | row t et xs f st => exact (show ownB (β o) = some g by rw [← hβ]; exact h)
  | box cs st => exact (show ownB (β o) = some g by rw [← hβ]; exact h)
  | mp k es st => exact (show ownB (β o) = some g by rw [← hβ]; exact h)
  | al t et x => exact h.elim
  | dead => exact h.elim
theorem MemRep.mono {t : Ty} {et : Nat} {bs : List (Option (List t.den))} (hSF : ∀ k, SF k → SF' k) (hs : ∀ k g C, SF' (.m et k g C) → SF (.m et k g C)) (hh : ∀ k, SA k ∨ SF k → h'[k]? = h[k]?)
    (hb : ∀ g, (∃ k xs C, bs[k]? = some (some xs) ∧ SF (.m et (k + 1) g C)) → h'[g]? = h[g]?) (H : MemRep h SA SF t et bs) : MemRep h' SA SF' t et bs where
  dom k g C q := H.dom k g C (hs _ _ _ q)
  one k g C g' C' q q' := H.one _ _ _ _ _ (hs _ _ _ q) (hs _ _ _ q')
  ent k xs hk := (H.ent k xs hk).imp (fun ⟨h1, h2⟩ => ⟨h1, fun g C q => h2 g C (hs _ _ _ q)⟩) fun ⟨g, C, cur, h1, h2, h3, h4, h5, h6⟩ =>
    ⟨g, C, cur, hSF _ h1, (hb g ⟨k, xs, C, hk, h1⟩).trans h2, h3, h4, h5, h6.mono fun _ _ hr => Rep.mono (S2.mono hSF true) (fun k hk => hh k (S2.sub true hk)) hr⟩
  inj k k' xs xs' g C C' q1 q2 q3 q4 := H.inj k k' xs xs' g C C' q1 q2 (hs _ _ _ q3) (hs _ _ _ q4)
  sl := H.sl
theorem ObjRep.mono {w w' : World} {o : Nat} (hSF : ∀ k, SF k → SF' k) (hh : ∀ k, SA k ∨ SF k → w'.heap[k]? = w.heap[k]?)
    {ov : OV} (hb : ∀ g, Owns SF β o ov g → w'.heap[g]? = w.heap[g]?) (hs : Same SF SF' ov) (hβ0 : β' o = β o) (hβ : ∀ n ∈ ov.names, β' n = β n) (H : ObjRep SA SF β w o ov) : ObjRep SA SF' β' w' o ov := by
  cases ov with
  | row t et xs f st =>
    obtain ⟨vs, h1, h2⟩ := H
    exact ⟨vs, by rw [hβ0]; exact ownsR_congr hb h1, h2.mono fun _ _ hr => Rep.mono (S2.mono hSF f) (fun k hk => hh k (S2.sub f hk)) hr⟩
  | box cs st =>
    obtain ⟨g, arr, et, h1, h2, h3⟩ := H
    exact ⟨g, arr, et, by rw [hβ0]; exact h1, by rw [hb g (show ownB (β o) = some g by rw [h1]; rfl)]; exact h2, h3.mono hSF hh hβ⟩
  | mp k es st =>
    obtain ⟨g, ents, ck, h1, h2, h3⟩ := H
    exact ⟨g, ents, ck, by rw [hβ0]; exact h1, by rw [hb g (show ownB (β o) = some g by rw [h1]; rfl)]; exact h2, h3⟩
  | mem t et bs => exact ⟨H.1, MemRep.mono hSF hs hh (fun g hg => hb g hg) H.2⟩
  | dead => trivial
  | al t et x =>
    show Rep w'.heap (S2 SA SF' true) (.hdr et t) [β' o] x
    rw [hβ0]
    exact Rep.mono (S2.mono hSF true) (fun k hk => hh k (S2.sub true hk)) H
end

/-- What an environment may change, and what then must be shown. M: the blocks that are written. -/
theorem RelB.go' {c : Ctx} {β : Nat → Value} {SF : Loc → Prop} {e : Env} {a : Act} {w : World} (H : RelB c β SF e a w)
    {β' : Nat → Value} {SF' : Loc → Prop} {e' : Env} {a' : Act} {w' : World} (M : Nat → Prop)
    (os : w'.os = w.os) (tape : w'.tape = w.tape) (output : w'.output = w.output) (size : w.heap.size ≤ w'.heap.size)
    (keep : ∀ k, k < w.heap.size → ¬ M k → w'.heap[k]? = w.heap[k]?) (hM : ∀ k, M k → ¬ c.SA k ∧ ¬ SF k ∧ (c.w0.heap.size ≤ k ∨ c.Bor k))
    (hSF : ∀ k, SF k → SF' k) (sf : ∀ k : Nat, SF' k → c.w0.heap.size ≤ k ∧ k < w'.heap.size)
    (nd : a'.defers = []) (nt : a'.tmps.size = c.N) (pins : ∀ p ∈ c.pin, a'.tmps.getD p.1 undef = a.tmps.getD p.1 undef)
    (slots : ∀ s sv, e'.slot s = some sv → (e.slot s = some sv ∧ a'.tmps.getD s undef = a.tmps.getD s undef ∧ ∀ o ∈ sv.names, β' o = β o) ∨
      (s < c.N ∧ SVRep w'.heap c.SA SF' β' sv (a'.tmps.getD s undef)))
    (objs : ∀ o ov, e'.obj o = some ov → (e.obj o = some ov ∧ β' o = β o ∧ (∀ n ∈ ov.names, β' n = β n) ∧ (∀ g, Owns SF β o ov g → ¬ M g ∧ (ov.st ≠ 1 → SF' g → SF g)) ∧ Same SF SF' ov) ∨
      (ObjRep c.SA SF' β' w' o ov ∧ ∀ g, Owns SF' β' o ov g → g < w'.heap.size ∧ ((ov.st = 0 ∧ c.w0.heap.size ≤ g ∧ ¬ SF' g) ∨ (ov.st = 1 ∧ SF' g) ∨ (ov.st = 2 ∧ (c.Bor g ∨ c.w0.heap.size ≤ g ∧ ¬ SF' g)))))
    (inj : ∀ o o' ov ov' g, o ≠ o' → e'.obj o = some ov → e'.obj o' = some ov' → Owns SF' β' o ov g → Owns SF' β' o' ov' g → False) :
    RelB c β' SF' e' a' w' := by
  have hlt : ∀ k, c.SA k ∨ SF k → k < w.heap.size := fun k hk => hk.elim (fun h => Nat.lt_of_lt_of_le (H.sa k h).1 H.size) (fun h => (H.sf k h).2)
  have hh : ∀ k, c.SA k ∨ SF k → w'.heap[k]? = w.heap[k]? := fun k hk => keep k (hlt k hk) fun hm => hk.elim (hM k hm).1 (hM k hm).2.1
  refine ⟨os.trans H.os, tape.trans H.tape, output.trans H.output, Nat.le_trans H.size size, fun k hk hb => ?_, H.sa, H.bor, sf, fun l hl => hSF l (H.mu l hl), nd, nt, fun p hp => (pins p hp).trans (H.pins p hp), fun s sv hs => ?_, fun o ov ho => ?_, fun o ov g ho hg => ?_, inj⟩
  · rw [keep k (Nat.lt_of_lt_of_le hk H.size) fun hm => (hM k hm).2.2.elim (fun h => by omega) hb]
    exact H.old k hk hb
  · rcases slots s sv hs with ⟨h1, h2, h3⟩ | h
    · obtain ⟨h4, h5⟩ := H.slots s sv h1
      exact ⟨h4, by rw [h2]; exact h5.mono hSF hh h3⟩
    · exact h
  · rcases objs o ov ho with ⟨h1, h2, h3, h4, h5⟩ | h
    · exact (H.objs o ov h1).mono hSF hh (fun g hg => keep g (H.own o ov g h1 hg).1 (h4 g hg).1) h5 h2 h3
    · exact h.1
  · rcases objs o ov ho with ⟨h1, h2, h3, h4, h7⟩ | h
    · have hg := hg.back h7 h2
      obtain ⟨h5, h6⟩ := H.own o ov g h1 hg
      exact ⟨Nat.lt_of_lt_of_le h5 size, h6.imp (fun ⟨x, y, z⟩ => ⟨x, y, fun hs => z ((h4 g hg).2 (by omega) hs)⟩) (Or.imp (fun ⟨x, y⟩ => ⟨x, hSF g y⟩) fun ⟨x, y⟩ => ⟨x, y.imp id fun ⟨p, q⟩ => ⟨p, fun hs => q ((h4 g hg).2 (by omega) hs)⟩⟩)⟩
    · exact h.2 g hg
theorem RelB.go {c : Ctx} {β : Nat → Value} {SF : Loc → Prop} {e : Env} {a : Act} {w : World} (H : RelB c β SF e a w)
    {β' : Nat → Value} {SF' : Loc → Prop} {e' : Env} {a' : Act} {w' : World} (M : Nat → Prop)
    (os : w'.os = w.os) (tape : w'.tape = w.tape) (output : w'.output = w.output) (size : w.heap.size ≤ w'.heap.size)
    (keep : ∀ k, k < w.heap.size → ¬ M k → w'.heap[k]? = w.heap[k]?) (hM : ∀ k, M k → ¬ c.SA k ∧ ¬ SF k ∧ (c.w0.heap.size ≤ k ∨ c.Bor k))
    (hSF : ∀ k, SF k → SF' k) (hmm : Mem' SF' SF) (sf : ∀ k : Nat, SF' k → c.w0.heap.size ≤ k ∧ k < w'.heap.size)
    (nd : a'.defers = []) (nt : a'.tmps.size = c.N) (pins : ∀ p ∈ c.pin, a'.tmps.getD p.1 undef = a.tmps.getD p.1 undef)
    (slots : ∀ s sv, e'.slot s = some sv → (e.slot s = some sv ∧ a'.tmps.getD s undef = a.tmps.getD s undef ∧ ∀ o ∈ sv.names, β' o = β o) ∨
      (s < c.N ∧ SVRep w'.heap c.SA SF' β' sv (a'.tmps.getD s undef)))
    (objs : ∀ o ov, e'.obj o = some ov → (e.obj o = some ov ∧ β' o = β o ∧ (∀ n ∈ ov.names, β' n = β n) ∧ ∀ g, Owns SF β o ov g → ¬ M g ∧ (ov.st ≠ 1 → SF' g → SF g)) ∨
      (ObjRep c.SA SF' β' w' o ov ∧ ∀ g, Owns SF' β' o ov g → g < w'.heap.size ∧ ((ov.st = 0 ∧ c.w0.heap.size ≤ g ∧ ¬ SF' g) ∨ (ov.st = 1 ∧ SF' g) ∨ (ov.st = 2 ∧ (c.Bor g ∨ c.w0.heap.size ≤ g ∧ ¬ SF' g)))))
    (inj : ∀ o o' ov ov' g, o ≠ o' → e'.obj o = some ov → e'.obj o' = some ov' → Owns SF' β' o ov g → Owns SF' β' o' ov' g → False) :
    RelB c β' SF' e' a' w' := 
  H.go' M os tape output size keep hM hSF sf nd nt pins slots (fun o ov ho => (objs o ov ho).imp (fun ⟨h1, h2, h3, h4⟩ => ⟨h1, h2, h3, h4, hmm.same ov⟩) id) inj

section
variable {c : Ctx} {β : Nat → Value} {SF : Loc → Prop} {e : Env} {a : Act} {w : World}
theorem put_size (a : Act) (d : Option Tmp) (v : Value) : (a.put d v).tmps.size = a.tmps.size := by cases d <;> simp [Act.put]
theorem put_defers (a : Act) (d : Option Tmp) (v : Value) : (a.put d v).defers = a.defers := by cases d <;> rfl
theorem put_get (a : Act) (d : Nat) (v : Value) (s : Nat) (hd : d < a.tmps.size) : (a.put (some d) v).tmps.getD s undef = if d = s then v else a.tmps.getD s undef := by
  simp only [Act.put]
  rw [Array.getD_eq_getD_getElem?, Array.getD_eq_getD_getElem?, Array.getElem?_setIfInBounds]
  split
  · subst_vars; simp
  · rfl
/-- P1: a slot is written. -/
theorem RelB.slot (H : RelB c β SF e a w) (d : Nat) (hok : c.ok d) (x : Option SV) (v : Value) (hx : ∀ y, x = some y → SVRep w.heap c.SA SF β y v) :
    RelB c β SF (e.put (.slot d x)) (a.put (some d) v) w := by
  have hd := hok.1
  have hd' : d < a.tmps.size := by rw [H.nt]; exact hd
  refine H.go (fun _ => False) rfl rfl rfl (Nat.le_refl _) (fun _ _ _ => rfl) (fun _ h => h.elim) (fun _ h => h) (fun _ _ _ _ h => h) H.sf (by rw [put_defers]; exact H.nd) (by rw [put_size]; exact H.nt) (fun p hp => by rw [put_get a d v p.1 hd', if_neg fun h => hok.2 p hp h.symm])
    (fun s sv hs => ?_) (fun o ov ho => ?_) H.inj
  · rw [slot_put_slot] at hs
    by_cases h : d = s
    · subst h
      rw [if_pos rfl] at hs
      exact .inr ⟨hd, by rw [put_get a d v d hd', if_pos rfl]; exact hx _ hs⟩
    · rw [if_neg h] at hs
      exact .inl ⟨hs, by rw [put_get a d v s hd', if_neg h], fun _ _ => rfl⟩
  · exact .inl ⟨ho, rfl, fun _ _ => rfl, fun _ _ => ⟨id, fun _ h => h⟩⟩
/-- A slot is told anew, the value being the same. -/
theorem RelB.reslot (H : RelB c β SF e a w) (d : Nat) (hd : d < c.N) (x : Option SV) (hx : ∀ y, x = some y → SVRep w.heap c.SA SF β y (a.tmps.getD d undef)) :
    RelB c β SF (e.put (.slot d x)) a w := by
  refine H.go (fun _ => False) rfl rfl rfl (Nat.le_refl _) (fun _ _ _ => rfl) (fun _ h => h.elim) (fun _ h => h) (fun _ _ _ _ h => h) H.sf H.nd H.nt (fun _ _ => rfl)
    (fun s sv hs => ?_) (fun o ov ho => ?_) H.inj
  · rw [slot_put_slot] at hs
    by_cases h : d = s
    · subst h
      rw [if_pos rfl] at hs
      exact .inr ⟨hd, hx _ hs⟩
    · rw [if_neg h] at hs
      exact .inl ⟨hs, rfl, fun _ _ => rfl⟩
  · exact .inl ⟨ho, rfl, fun _ _ => rfl, fun _ _ => ⟨id, fun _ h => h⟩⟩
/-- The world has drawn. -/
theorem RelB.drew (H : RelB c β SF e a w) (n : Nat) : RelB c β SF e a { w with drawn := n } :=
  ⟨H.os, H.tape, H.output, H.size, H.old, H.sa, H.bor, H.sf, H.mu, H.nd, H.nt, H.pins, H.slots, fun o ov ho => by
    have := H.objs o ov ho
    cases ov <;> exact this, H.own, H.inj⟩
/-- P2: an object is forgotten. -/
theorem RelB.drop (H : RelB c β SF e a w) (o : Nat) : RelB c β SF (e.put (.obj o none)) a w := by
  refine H.go (fun _ => False) rfl rfl rfl (Nat.le_refl _) (fun _ _ _ => rfl) (fun _ h => h.elim) (fun _ h => h) (fun _ _ _ _ h => h) H.sf H.nd H.nt (fun _ _ => rfl)
    (fun s sv hs => .inl ⟨hs, rfl, fun _ _ => rfl⟩) (fun o' ov ho => ?_) (fun o1 o2 ov ov' g hne h1 h2 => ?_)
  · rw [obj_put_obj] at ho
    split at ho
    · cases ho
    · exact .inl ⟨ho, rfl, fun _ _ => rfl, fun _ _ => ⟨id, fun _ h => h⟩⟩
  · rw [obj_put_obj] at h1 h2
    split at h1
    · cases h1
    · split at h2
      · cases h2
      · exact H.inj o1 o2 ov ov' g hne h1 h2
/-- A block more is frozen. -/
@[reducible] def fz (SF : Loc → Prop) (v : Value) : Loc → Prop
  | .b k => SF (.b k) ∨ ownB v = some k
  | .m et k g C => SF (.m et k g C)
theorem fz.sub {v : Value} : ∀ l, SF l → fz SF v l
  | .b _, h => .inl h
  | .m .., h => h
theorem fz.mem {v : Value} : Mem' (fz SF v) SF := fun _ _ _ _ h => h
/-- P3: a row is frozen. -/
theorem RelB.freeze (H : RelB c β SF e a w) {o : Nat} {t : Ty} {et : Nat} {xs : List t.den} {f : Bool} (ho : e.obj o = some (.row t et xs f 0)) :
    RelB c β (fz SF (β o)) (e.put (.obj o (some (.row t et xs f 1)))) a w := by
  have hw := fun g (hg : ownB (β o) = some g) => H.own o _ g ho hg
  refine H.go (fun _ => False) rfl rfl rfl (Nat.le_refl _) (fun _ _ _ => rfl) (fun _ h => h.elim) fz.sub fz.mem (fun k hk => ?_) H.nd H.nt (fun _ _ => rfl)
    (fun s sv hs => .inl ⟨hs, rfl, fun _ _ => rfl⟩) (fun o' ov ho' => ?_) (fun o1 o2 ov ov' g hne h1 h2 => ?_)
  · rcases hk with hk | hk
    · exact H.sf k hk
    · obtain ⟨h1, h2⟩ := hw k hk
      rcases h2 with h2 | h2 | h2
      · exact ⟨h2.2.1, h1⟩
      · exact absurd h2.1 (by simp [OV.st])
      · exact absurd h2.1 (by simp [OV.st])
  · rw [obj_put_obj] at ho'
    by_cases h : o = o'
    · subst h
      rw [if_pos rfl] at ho'
      cases ho'
      refine .inr ⟨?_, fun g hg => ⟨(hw g hg).1, .inr (.inl ⟨rfl, .inr hg⟩)⟩⟩
      exact (H.objs o _ ho).mono fz.sub (fun _ _ => rfl) (fun _ _ => rfl) trivial rfl (fun _ h => by simp [OV.names] at h)
    · rw [if_neg h] at ho'
      refine .inl ⟨ho', rfl, fun _ _ => rfl, fun g hg => ⟨id, fun h0 hs => ?_⟩⟩
      rcases hs with hs | hs
      · exact hs
      · exact absurd (H.inj o o' _ _ g h ho ho' hs hg) id
  · rw [obj_put_obj] at h1 h2
    have key : ∀ o' ov1, (if o = o' then some (OV.row t et xs f 1) else e.obj o') = some ov1 → ∃ ov, e.obj o' = some ov ∧ (Owns (fz SF (β o)) β o' ov1 g → Owns SF β o' ov g) := fun o' ov1 h => by
      split at h
      · subst_vars; cases h; exact ⟨_, ho, fun h => h⟩
      · exact ⟨_, h, fun h => h.back (fz.mem.same _) rfl⟩
    obtain ⟨x1, y1, z1⟩ := key o1 _ h1
    obtain ⟨x2, y2, z2⟩ := key o2 _ h2
    exact fun q1 q2 => H.inj o1 o2 _ _ g hne y1 y2 (z1 q1) (z2 q2)

def Occ (e : Env) (o : Nat) : Prop := (∃ s sv, e.slot s = some sv ∧ o ∈ sv.names) ∨ (∃ n ov, e.obj n = some ov ∧ (n = o ∨ o ∈ ov.names))
def upd (β : Nat → Value) (o : Nat) (v : Value) : Nat → Value := fun n => if n = o then v else β n
theorem upd_same (o : Nat) (v : Value) : upd β o v o = v := by simp [upd]
theorem upd_ne {o n : Nat} (v : Value) (h : n ≠ o) : upd β o v n = β n := by simp [upd, h]
/-- An object of one block. -/
def OV.flat : OV → Prop
  | .mem .. => False | .al .. => False | .dead => False | _ => True
theorem Owns.of {o g : Nat} {ov : OV} (hf : ov.flat) (h : ownB (β o) = some g) : Owns SF β o ov g := by
  cases ov <;> first | exact h | cases hf
theorem Owns.flat {o g : Nat} {ov : OV} (hf : ov.flat) (h : Owns SF β o ov g) : ownB (β o) = some g := by
  cases ov <;> first | exact h | cases hf
/-- P4, P7: a new object; M: what was written beside. -/
theorem RelB.new (H : RelB c β SF e a w) {o : Nat} (hn : ¬ Occ e o) {w' : World} (M : Nat → Prop)
    (os : w'.os = w.os) (tape : w'.tape = w.tape) (output : w'.output = w.output) (size : w.heap.size ≤ w'.heap.size)
    (keep : ∀ k, k < w.heap.size → ¬ M k → w'.heap[k]? = w.heap[k]?) (hM : ∀ k, M k → ¬ c.SA k ∧ ¬ SF k ∧ (c.w0.heap.size ≤ k ∨ c.Bor k))
    (hfree : ∀ o' ov' g, e.obj o' = some ov' → Owns SF β o' ov' g → ¬ M g) {v : Value} {ov : OV}
    (hob : ObjRep c.SA SF (upd β o v) w' o ov)
    (hown : ∀ g, ownB v = some g → g < w'.heap.size ∧ ((ov.st = 0 ∧ c.w0.heap.size ≤ g ∧ ¬ SF g) ∨ (ov.st = 1 ∧ SF g) ∨ (ov.st = 2 ∧ (c.Bor g ∨ c.w0.heap.size ≤ g ∧ ¬ SF g))) ∧ ∀ o' ov', e.obj o' = some ov' → ¬ Owns SF β o' ov' g) (hfl : ov.flat := by trivial) :
    RelB c (upd β o v) SF (e.put (.obj o (some ov))) a w' := by
  have hne : ∀ n ov, e.obj n = some ov → n ≠ o := fun n ov h he => hn (.inr ⟨n, ov, h, .inl he⟩)
  refine H.go M os tape output size keep hM (fun _ h => h) (fun _ _ _ _ h => h)
    (fun k hk => ⟨(H.sf k hk).1, Nat.lt_of_lt_of_le (H.sf k hk).2 size⟩) H.nd H.nt (fun _ _ => rfl)
    (fun s sv hs => .inl ⟨hs, rfl, fun n hns => upd_ne v fun he => hn (.inl ⟨s, sv, hs, he ▸ hns⟩)⟩) (fun o' ov' ho' => ?_) (fun o1 o2 ov1 ov2 g hne12 h1 h2 hg1 hg2 => ?_)
  · rw [obj_put_obj] at ho'
    by_cases h : o = o'
    · subst h
      rw [if_pos rfl] at ho'
      cases ho'
      refine .inr ⟨hob, fun g hg => ?_⟩
      have hg := hg.flat hfl
      rw [upd_same] at hg
      obtain ⟨h1, h2, _⟩ := hown g hg
      exact ⟨h1, h2⟩
    · rw [if_neg h] at ho'
      exact .inl ⟨ho', upd_ne v (hne _ _ ho'), fun n hnn => upd_ne v fun he => hn (.inr ⟨o', ov', ho', .inr (he ▸ hnn)⟩), fun g hg => ⟨hfree _ _ _ ho' hg, fun _ h => h⟩⟩
  · rw [obj_put_obj] at h1 h2
    have hb : ∀ n ov', e.obj n = some ov' → Owns SF (upd β o v) n ov' g → Owns SF β n ov' g := fun n ov' h q => q.back (by cases ov' <;> first | trivial | exact fun _ _ _ h => h) (upd_ne v (hne _ _ h))
    by_cases e1 : o = o1
    · subst e1
      rw [if_neg hne12] at h2
      rw [if_pos rfl] at h1
      cases h1
      have hg1 := hg1.flat hfl
      rw [upd_same] at hg1
      exact (hown g hg1).2.2 _ _ h2 (hb _ _ h2 hg2)
    · rw [if_neg e1] at h1
      by_cases e2 : o = o2
      · subst e2
        rw [if_pos rfl] at h2
        cases h2
        have hg2 := hg2.flat hfl
        rw [upd_same] at hg2
        exact (hown g hg2).2.2 _ _ h1 (hb _ _ h1 hg1)
      · rw [if_neg e2] at h2
        exact H.inj o1 o2 _ _ g hne12 h1 h2 (hb _ _ h1 hg1) (hb _ _ h2 hg2)
/-- What is not frozen lies apart from what may be read. -/
theorem RelB.loose (H : RelB c β SF e a w) {o : Nat} {ov : OV} (ho : e.obj o = some ov) (hst : ov.st ≠ 1) {k : Nat} (hk : Owns SF β o ov k) : ¬ c.SA k ∧ ¬ SF k ∧ (c.w0.heap.size ≤ k ∨ c.Bor k) := by
  rcases (H.own o ov k ho hk).2 with h | h | ⟨_, h | h⟩
  · exact ⟨fun hs => by have := (H.sa k hs).1; omega, h.2.2, .inl h.2.1⟩
  · exact absurd h.1 hst
  · exact ⟨fun hs => (H.sa k hs).2 h, fun hs => by have := (H.sf k hs).1; have := H.bor k h; omega, .inr h⟩
  · exact ⟨fun hs => by have := (H.sa k hs).1; omega, h.2, .inl h.1⟩
/-- P5, P6: an object is written. -/
theorem RelB.rewrite (H : RelB c β SF e a w) {o : Nat} {ov ov' : OV} (ho : e.obj o = some ov) (hst : ov'.st = ov.st) (hnf : ov.st ≠ 1) {w' : World}
    (os : w'.os = w.os) (tape : w'.tape = w.tape) (output : w'.output = w.output) (size : w.heap.size ≤ w'.heap.size)
    (keep : ∀ k, k < w.heap.size → ¬ Owns SF β o ov k → w'.heap[k]? = w.heap[k]?) (hob : ObjRep c.SA SF β w' o ov') (how : ∀ g, Owns SF β o ov' g → Owns SF β o ov g := by exact fun _ h => h) :
    RelB c β SF (e.put (.obj o (some ov'))) a w' := by
  refine H.go (fun k => Owns SF β o ov k) os tape output size keep (fun k hk => H.loose ho hnf hk) (fun _ h => h) (fun _ _ _ _ h => h) (fun k hk => ⟨(H.sf k hk).1, Nat.lt_of_lt_of_le (H.sf k hk).2 size⟩) H.nd H.nt (fun _ _ => rfl)
    (fun s sv hs => .inl ⟨hs, rfl, fun _ _ => rfl⟩) (fun o' ov1 ho' => ?_) (fun o1 o2 ov1 ov2 g hne h1 h2 => ?_)
  · rw [obj_put_obj] at ho'
    by_cases h : o = o'
    · subst h
      rw [if_pos rfl] at ho'
      cases ho'
      refine .inr ⟨hob, fun g hg => ?_⟩
      obtain ⟨h1, h2⟩ := H.own o ov g ho (how g hg)
      exact ⟨Nat.lt_of_lt_of_le h1 size, by rw [hst]; exact h2⟩
    · rw [if_neg h] at ho'
      exact .inl ⟨ho', rfl, fun _ _ => rfl, fun g hg => ⟨fun hm => H.inj o o' _ _ g h ho ho' hm hg, fun _ h => h⟩⟩
  · rw [obj_put_obj] at h1 h2
    have key : ∀ o' ov1, (if o = o' then some ov' else e.obj o') = some ov1 → ∃ ov2, e.obj o' = some ov2 ∧ (Owns SF β o' ov1 g → Owns SF β o' ov2 g) := fun o' ov1 h => by
      split at h
      · subst_vars; cases h; exact ⟨_, ho, how g⟩
      · exact ⟨_, h, fun h => h⟩
    obtain ⟨x1, y1, z1⟩ := key o1 _ h1
    obtain ⟨x2, y2, z2⟩ := key o2 _ h2
    exact fun q1 q2 => H.inj o1 o2 _ _ g hne y1 y2 (z1 q1) (z2 q2)
/-- An object is told anew, memory being the same. -/
theorem RelB.retell (H : RelB c β SF e a w) {o : Nat} {ov ov' : OV} (ho : e.obj o = some ov) (hst : ov'.st = ov.st ∨ ov.st = 0 ∧ ov'.st = 2) (hob : ObjRep c.SA SF β w o ov') (how : ∀ g, Owns SF β o ov' g → Owns SF β o ov g := by exact fun _ h => h) :
    RelB c β SF (e.put (.obj o (some ov'))) a w := by
  refine H.go (fun _ => False) rfl rfl rfl (Nat.le_refl _) (fun _ _ _ => rfl) (fun _ h => h.elim) (fun _ h => h) (fun _ _ _ _ h => h) H.sf H.nd H.nt (fun _ _ => rfl)
    (fun s sv hs => .inl ⟨hs, rfl, fun _ _ => rfl⟩) (fun o' ov1 ho' => ?_) (fun o1 o2 ov1 ov2 g hne h1 h2 => ?_)
  · rw [obj_put_obj] at ho'
    by_cases h : o = o'
    · subst h
      rw [if_pos rfl] at ho'
      cases ho'
      refine .inr ⟨hob, fun g hg => ?_⟩
      obtain ⟨h1, h2⟩ := H.own o ov g ho (how g hg)
      refine ⟨h1, ?_⟩
      rcases hst with h | ⟨h, h'⟩
      · rw [h]; exact h2
      · rcases h2 with h2 | h2 | h2
        · exact .inr (.inr ⟨h', .inr h2.2⟩)
        · omega
        · omega
    · rw [if_neg h] at ho'
      exact .inl ⟨ho', rfl, fun _ _ => rfl, fun g hg => ⟨id, fun _ h => h⟩⟩
  · rw [obj_put_obj] at h1 h2
    have key : ∀ o' ov1, (if o = o' then some ov' else e.obj o') = some ov1 → ∃ ov2, e.obj o' = some ov2 ∧ (Owns SF β o' ov1 g → Owns SF β o' ov2 g) := fun o' ov1 h => by
      split at h
      · subst_vars; cases h; exact ⟨_, ho, how g⟩
      · exact ⟨_, h, fun h => h⟩
    obtain ⟨x1, y1, z1⟩ := key o1 _ h1
    obtain ⟨x2, y2, z2⟩ := key o2 _ h2
    exact fun q1 q2 => H.inj o1 o2 _ _ g hne y1 y2 (z1 q1) (z2 q2)
end
end Go.Px

/- Operations: what the evaluator says of one is so. Part 1. -/
namespace Go.Px
open Go

/-! ### Types -/
def zeroVals : Ty → List Value
  | .int k => [.int k 0] | .bool => [.bool false] | .str => [.string ByteArray.empty] | .err => [.nilIface] | .mp => [.map none] | .slice _ => [.slice none 0 0]
  | .nil => [] | .cons a b => zeroVals a ++ zeroVals b | .hdr _ _ => [.slice none 0 0]
@[simp] def DescOk : TD → TypeDesc → Prop
  | .int k, .int k' => k = k'
  | .bool, .bool => True
  | .string, .string => True
  | .err, .interface _ => True
  | .slice e, .slice e' => e = e'
  | .struct fs, .struct fields => fs = fields.toList.map fun f => (f.offset, f.type)
  | .array n e, .array n' e' => n = n' ∧ e = e'
  | .pointer e, .pointer e' => e = e'
  | .map k e, .map k' e' => k = k' ∧ e = e'
  | .other, d => d.isRow = false
  | _, _ => False
def EqOk (P : Program) (t : TypeId) (ty : Ty) : Prop := P.eqGuardType P.depth t = false ∧
  ∀ (h h' : Array Obj) (SA : Nat → Prop) (SF : Loc → Prop) (SA' : Nat → Prop) (SF' : Loc → Prop) (β β' : Nat → Value) (cs ds : List Cell) (vs us : List Value) (r : Bool) (w : World), cellsEq cs ds = some r →
    cellsFit cs (tyCells ty) = true → CellsRep h SA SF β cs vs → CellsRep h' SA' SF' β' ds us → (Op.equal t (.agg vs.toArray) (.agg us.toArray)).run P w = .ok r w
structure TIOk (P : Program) (t : TypeId) (i : TI) : Prop where
  desc : ∃ d, P.underlying t = some d ∧ DescOk i.d d
  info : ∃ j, P.info? t = some j ∧ j.size = i.size ∧ j.bytes = i.bytes ∧ ∃ z, j.zero = some z ∧ z.cells.toList = zeroVals i.ty
  size : i.ty.size = i.size
  eqf : i.eqf = true → EqOk P t i.ty
def TOk (P : Program) (T : Types) : Prop := ∀ t i, look T t = some i → TIOk P t i

/-! ### An operation that runs -/
def Runs (P : Program) (o : Oper) (a : Act) (w : World) (Φ : Act → World → Prop) : Prop :=
  (∃ v w', (execOp a.eval o).run P w = .ok (.value v) w' ∧ Φ (a.put o.dst v) w') ∨ (∃ w', (execOp a.eval o).run P w = .ok .skip w' ∧ Φ (a.put o.dst undef) w')
theorem Runs.wp {P : Program} {o : Oper} {a : Act} {w : World} {Φ K : Act → World → Prop} {Q : Exit → Act → World → Prop} (h : Runs P o a w Φ) (hK : ∀ a w, Φ a w → K a w) :
    o.wp P a w K Q := by
  unfold Oper.wp
  rcases h with ⟨v, w', h, hΦ⟩ | ⟨w', h, hΦ⟩
  · rw [h]; exact hK _ _ hΦ
  · rw [h]; exact hK _ _ hΦ

/-! ### What is seen -/
theorem look_map {α : Type} (f : Nat → Option α) : ∀ (l : List Nat) (s : Nat) (v : α), look (l.map fun t => (t, f t)) s = some v → f s = some v
  | [], _, _, h => by cases h
  | t :: l, s, v, h => by
    rw [List.map_cons, look_cons] at h
    split at h
    · subst_vars; exact h
    · exact look_map f l s v h
theorem look_append {α : Type} : ∀ (l m : List (Nat × Option α)) (s : Nat) (v : α), look (l ++ m) s = some v → look l s = some v ∨ look m s = some v
  | [], _, _, _, h => .inr h
  | (k, x) :: l, m, s, v, h => by
    rw [List.cons_append, look_cons] at h
    rw [look_cons]
    split at h
    · rename_i e; rw [if_pos e]; exact .inl h
    · rename_i e; rw [if_neg e]; exact look_append l m s v h
/-- What is seen is so. -/
class Sub (ve e : Env) : Prop where
  slot : ∀ s v, ve.slot s = some v → e.slot s = some v
  obj : ∀ o v, ve.obj o = some v → e.obj o = some v
theorem view_slot {ve e : Env} [S : Sub ve e] {s : Nat} {v : SV} (h : ve.slot s = some v) : e.slot s = some v := S.slot _ _ h
theorem view_obj {ve e : Env} [S : Sub ve e] {o : Nat} {v : OV} (h : ve.obj o = some v) : e.obj o = some v := S.obj _ _ h
instance {e : Env} {ts ms : List Nat} : Sub (viewM e ts ms) e where
  slot s v h := look_map e.slot ts s v h
  obj o v h := by
    rcases look_append _ _ o v h with h | h
    · rcases look_append _ _ o v h with h | h
      · exact look_map e.obj _ o v h
      · exact look_map e.obj _ o v h
    · exact look_map e.obj _ o v h
instance {cx : Cx} {e : Env} {o : Oper} : Sub (vw cx e o) e := inferInstanceAs (Sub (viewM e _ _) e)

section
variable {P : Program} {T : Types} {c : Ctx} {β : Nat → Value} {SF : Loc → Prop} {e : Env} {a : Act} {w : World} {ve : Env} [Sub ve e]
theorem constSV_rep {v : Value} {x : SV} (h : constSV v = some x) : SVRep w.heap c.SA SF β x v := by
  unfold constSV at h
  split at h <;> cases h
  · exact rfl
  · exact rfl
  · exact rfl
  · exact rfl
  · exact .inl ⟨rfl, rfl⟩
  · trivial
theorem res_rep (H : RelB c β SF e a w) {s : SV} {v : Value} (h : SVRep w.heap c.SA SF β s v) : SVRep w.heap c.SA SF β (res ve s) v := by
  unfold res
  split
  · split
    · rename_i o t et x ho
      obtain ⟨rfl, _⟩ := h
      exact H.objs _ _ (view_obj ho)
    · exact h
  · exact h
theorem opnd_rep (H : RelB c β SF e a w) {x : Operand} {s : SV} (h : opnd ve x = some s) : SVRep w.heap c.SA SF β s (a.eval x) := by
  cases x with
  | tmp t =>
    obtain ⟨s', h1, rfl⟩ := Option.map_eq_some_iff.1 h
    exact res_rep H (H.slots t s' (view_slot h1)).2
  | const v => exact constSV_rep h
  | global g => cases h
  | func f => cases h; exact ⟨rfl, fun o ho => by cases ho⟩
theorem ocell_rep (H : RelB c β SF e a w) {x : Operand} {s : Cell} (h : ocell ve x = some s) : CellRep w.heap c.SA SF β s (a.eval x) := by
  unfold ocell at h
  split at h
  · cases h
    rename_i h'
    exact opnd_rep H h'
  · cases h
theorem oint_rep (H : RelB c β SF e a w) {x : Operand} {k : IntKind} {n : Int} (h : oint ve x = some (k, n)) : a.eval x = .int k n := by
  unfold oint at h
  split at h
  · cases h
    rename_i h'
    have := opnd_rep H h'
    simpa [SVRep, CellRep, Rep] using this
  · cases h
theorem bool_rep {h : Array Obj} {SA : Nat → Prop} {SF : Loc → Prop} {β : Nat → Value} {b f : Bool} {v : Value} (H : CellRep h SA SF β (.val .bool b f) v) : v = .bool b := by
  simpa [CellRep, Rep] using H
theorem int_rep {h : Array Obj} {SA : Nat → Prop} {SF : Loc → Prop} {β : Nat → Value} {k : IntKind} {b : Int} {f : Bool} {v : Value} (H : CellRep h SA SF β (.val (.int k) b f) v) : v = .int k b := by
  simpa [CellRep, Rep] using H
theorem str_rep {h : Array Obj} {SA : Nat → Prop} {SF : Loc → Prop} {β : Nat → Value} {b : ByteArray} {f : Bool} {v : Value} (H : CellRep h SA SF β (.val .str b f) v) : v = .string b := by
  simpa [CellRep, Rep] using H
theorem opnd_cell (H : RelB c β SF e a w) {x : Operand} {s : Cell} (h : opnd ve x = some (.cell s)) : CellRep w.heap c.SA SF β s (a.eval x) := opnd_rep H h
theorem tyVal_eq {t t' : Ty} {x : t'.den} {y : t.den} (h : tyVal t t' x = some y) : t' = t ∧ HEq x y := by
  unfold tyVal at h
  split at h
  · rename_i hb
    have := Ty.eq_of_beq hb
    subst this
    cases h
    exact ⟨rfl, HEq.rfl⟩
  · cases h
theorem tyList_eq {t t' : Ty} {x : List t'.den} {y : List t.den} (h : tyList t t' x = some y) : t' = t ∧ HEq x y := by
  unfold tyList at h
  split at h
  · rename_i hb
    have := Ty.eq_of_beq hb
    subst this
    cases h
    exact ⟨rfl, HEq.rfl⟩
  · cases h

/-- An operation that yields a value and leaves the world. -/
theorem Runs.pure {o : Oper} {d : Nat} (H : RelB c β SF e a w) (hd : o.dst = some d) (hN : c.ok d) {x : SV} {v : Value} (hr : (execOp a.eval o).run P w = .ok (.value v) w)
    (hx : SVRep w.heap c.SA SF β x v) : Runs P o a w (Rel c (e.puts [setv d x])) :=
  .inl ⟨v, w, hr, β, SF, by rw [hd]; exact H.slot d hN (some x) v fun y hy => by cases hy; exact hx⟩

variable {d : Nat} (ty : TypeId) (pos : String) (af : Array Edge) (g : Option (Nat × Bool))
theorem move_sound (H : RelB c β SF e a w) (hN : c.ok d) {x : Operand} {r : SV} (h : opnd ve x = some r) :
    Runs P ⟨some d, .move x, ty, pos, af, g⟩ a w (Rel c (e.puts [setv d r])) := .pure H rfl hN rfl (opnd_rep H h)
theorem assign_sound (H : RelB c β SF e a w) (hN : c.ok d) {x : Operand} {r : SV} (h : opnd ve x = some r) :
    Runs P ⟨some d, .assign x, ty, pos, af, g⟩ a w (Rel c (e.puts [setv d r])) := .pure H rfl hN rfl (opnd_rep H h)
theorem S2.weak {SA : Nat → Prop} {SF : Loc → Prop} (f f' : Bool) (hf : f = false → f' = false) : ∀ k, S2 SA SF f k → S2 SA SF f' k := fun _ hk => hk.imp id fun ⟨h3, h4⟩ => ⟨hf h3, h4⟩
theorem pick_true {x y z : Operand} (hb : a.eval x = .bool true) : (execOp a.eval ⟨some d, .pick x y z, ty, pos, af, g⟩).run P w = .ok (.value (a.eval y)) w := by
  simp only [execOp, hb, asBool]; rfl
theorem pick_false {x y z : Operand} (hb : a.eval x = .bool false) : (execOp a.eval ⟨some d, .pick x y z, ty, pos, af, g⟩).run P w = .ok (.value (a.eval z)) w := by
  simp only [execOp, hb, asBool]; rfl
theorem pick_sound (H : RelB c β SF e a w) (hN : c.ok d) {x y z : Operand} {ef : Eff} (h : pickEff ve d x y z = some ef) :
    Runs P ⟨some d, .pick x y z, ty, pos, af, g⟩ a w (Rel c (e.puts ef.ws)) := by
  unfold pickEff at h
  split at h
  · rename_i b f hc
    have hb := bool_rep (ocell_rep H hc)
    split at h
    · rename_i t p f1 t' q f2 h1 h2
      split at h
      · rename_i q' hq
        cases h
        obtain ⟨rfl, hq⟩ := tyVal_eq hq
        cases hq
        have r1 := opnd_rep H h1
        have r2 := opnd_rep H h2
        cases b
        · exact .pure H rfl hN (pick_false ty pos af g hb) (Rep.mono (S2.weak f2 _ (by cases f1 <;> cases f2 <;> simp)) (fun _ _ => rfl) r2)
        · exact .pure H rfl hN (pick_true ty pos af g hb) (Rep.mono (S2.weak f1 _ (by cases f1 <;> cases f2 <;> simp)) (fun _ _ => rfl) r1)
      · cases h
    · rename_i p h1 _
      cases b
      · cases h
      · cases h; exact .pure H rfl hN (pick_true ty pos af g hb) (opnd_rep H h1)
    · rename_i q _ h2
      cases b
      · cases h; exact .pure H rfl hN (pick_false ty pos af g hb) (opnd_rep H h2)
      · cases h
    · cases h
  · cases h
theorem nilCheck_sound (H : RelB c β SF e a w) (hN : c.ok d) {x : Operand} {cl : Cell} (h : ocell ve x = some cl)
    (hc : (∃ o off, cl = .ptr o off) ∨ (∃ o t i off, cl = .elt o t i off) ∨ (∃ t y f, cl = .cptr t y f) ∨ ∃ et t k i off, cl = .ad et t k i off) :
    Runs P ⟨some d, .nilCheck x, ty, pos, af, g⟩ a w (Rel c (e.puts [setc d cl])) := by
  have hr := ocell_rep H h
  have hp : ∃ p, a.eval x = .pointer (some p) := by
    rcases hc with ⟨o, off, rfl⟩ | ⟨o, t, i, off, rfl⟩ | ⟨t, y, f, rfl⟩ | ⟨et, t, k, i, off, rfl⟩
    · obtain ⟨g, _, h2⟩ := hr; exact ⟨_, h2⟩
    · obtain ⟨g, _, _, _, _, _, h2⟩ := hr; exact ⟨_, h2⟩
    · obtain ⟨g, off, arr, et, fz, h2, _⟩ := hr; exact ⟨_, h2⟩
    · obtain ⟨g, C, _, h2⟩ := hr; exact ⟨_, h2⟩
  obtain ⟨p, hp⟩ := hp
  refine .pure (x := .cell cl) (v := .pointer (some p)) H rfl hN ?_ (by rw [← hp]; exact hr)
  simp only [execOp, hp]; rfl
theorem not_sound (H : RelB c β SF e a w) (hN : c.ok d) {x : Operand} {xt : TypeId} {b : Bool} {f : Bool} (h : opnd ve x = some (.cell (.val .bool b f))) :
    Runs P ⟨some d, .unOp .not xt x, ty, pos, af, g⟩ a w (Rel c (e.puts [setc d (.val .bool (!b) true)])) := by
  have hb := bool_rep (opnd_cell H h)
  exact .pure (x := .cell (.val .bool (!b) true)) (v := .bool (!b)) H rfl hN (by simp only [execOp, hb]; rfl) rfl
theorem neg_sound (H : RelB c β SF e a w) (hN : c.ok d) {x : Operand} {xt : TypeId} {k : IntKind} {n : Int} {f : Bool} (h : opnd ve x = some (.cell (.val (.int k) n f))) :
    Runs P ⟨some d, .unOp .neg xt x, ty, pos, af, g⟩ a w (Rel c (e.puts [setc d (.val (.int k) (k.wrap (0 - n)) true)])) := by
  have hb := int_rep (opnd_cell H h)
  exact .pure (x := .cell (.val (.int k) (k.wrap (0 - n)) true)) (v := .int k (k.wrap (0 - n))) H rfl hN (by simp only [execOp, hb]; rfl) rfl
theorem conv_sound (HT : TOk P T) (H : RelB c β SF e a w) (hN : c.ok d) {x : Operand} {s t : TypeId} {ef : Eff} (h : convEff T ve d s t x = some ef) :
    Runs P ⟨some d, .convert s t x, ty, pos, af, g⟩ a w (Rel c (e.puts ef.ws)) := by
  unfold convEff at h
  split at h
  · rename_i si ti k n f h1 h2 h3
    split at h
    · rename_i k' hk
      cases h
      have hx := int_rep (opnd_cell H h3)
      obtain ⟨sd, hs, _⟩ := (HT _ _ h1).desc
      obtain ⟨td, ht, htd⟩ := (HT _ _ h2).desc
      rw [hk] at htd
      cases td <;> simp only [DescOk] at htd
      subst htd
      refine .pure (x := .cell (.val (.int k') (k'.wrap n) true)) (v := .int k' (k'.wrap n)) H rfl hN ?_ rfl
      simp only [execOp, hx, convert, Sem.run_bind, run_underlying hs, run_underlying ht, Result.andThen_ok]
      rfl
    · cases h
  · rename_i si ti s' f h1 h2 h3
    split at h
    · rename_i hk
      cases h
      have hx := str_rep (opnd_cell H h3)
      obtain ⟨sd, hs, _⟩ := (HT _ _ h1).desc
      obtain ⟨td, ht, htd⟩ := (HT _ _ h2).desc
      rw [hk] at htd
      cases td <;> simp only [DescOk] at htd
      refine .pure (x := .cell (.val .str s' f)) (v := .string s') H rfl hN ?_ rfl
      simp only [execOp, hx, convert, Sem.run_bind, run_underlying hs, run_underlying ht, Result.andThen_ok]
      cases sd <;> rfl
    · cases h
  · cases h
/-! ### Two operands -/
def toV (k : IntKind) : Int ⊕ Bool → Value
  | .inl n => .int k n
  | .inr b => .bool b
theorem run_int {k k' : IntKind} {x y : Int} {op : BinOp} {t : TypeId} {X Y : Operand} {pt : TypeId} {r : Int ⊕ Bool} (hx : a.eval X = .int k x) (hy : a.eval Y = .int k' y)
    (hr : intBin op k x y = some (true, r)) (hk : k = k' ∨ op = .shl ∨ op = .shr) :
    (execOp a.eval ⟨some d, .binOp op t X Y pt, ty, pos, af, g⟩).run P w = .ok (.value (toV k r)) w := by
  cases op <;> simp only [intBin, Option.some.injEq, Prod.mk.injEq, decide_eq_true_eq, Bool.not_eq_true', beq_eq_false_iff_ne, ne_eq, true_and] at hr
  all_goals first | (obtain ⟨hc, rfl⟩ := hr) | (subst hr)
  all_goals simp only [reduceCtorEq, or_false, or_true] at hk
  all_goals try subst hk
  all_goals simp [execOp, hx, hy, eqGuard, binOp, toV, Op.intArith, Op.intDiv, Op.intBits, Op.intCmp, Op.shift]
  all_goals (intro h; omega)
theorem run_str {x y : ByteArray} {op : BinOp} {t : TypeId} {X Y : Operand} {pt : TypeId} {r : ByteArray ⊕ Bool} (hx : a.eval X = .string x) (hy : a.eval Y = .string y)
    (hr : strBin op x y = some (true, r)) :
    (execOp a.eval ⟨some d, .binOp op t X Y pt, ty, pos, af, g⟩).run P w = .ok (.value (match r with | .inl s => .string s | .inr b => .bool b)) w := by
  cases op <;> simp only [strBin, sok_eq, Option.some.injEq, Prod.mk.injEq, decide_eq_true_eq, true_and, reduceCtorEq] at hr
  all_goals first | (obtain ⟨hc, rfl⟩ := hr) | (subst hr)
  all_goals simp [execOp, hx, hy, eqGuard, binOp, Op.stringOp]
  omega
theorem cell_ty {h : Array Obj} {SA : Nat → Prop} {SF : Loc → Prop} {β : Nat → Value} {c : Cell} {v : Value} (hc : CellRep h SA SF β c v) : v.oneCell' = true := by
  cases c with
  | val t x f => exact Rep.one hc v (by simp)
  | nil => cases hc; rfl
  | row o => obtain ⟨_, a, n, c, rfl⟩ := hc; rfl
  | part o t lo n => obtain ⟨a, N, c, _, _, _, rfl⟩ := hc; rfl
  | ptr o k => obtain ⟨g, _, rfl⟩ := hc; rfl
  | elt o t i k => obtain ⟨g, b, N, c, _, _, rfl⟩ := hc; rfl
  | cptr t x f => obtain ⟨g, off, arr, et, fz, rfl, _⟩ := hc; rfl
  | fn f caps => obtain ⟨rfl, _⟩ := hc; rfl
  | mp o => obtain ⟨_, g, rfl⟩ := hc; rfl
  | ad et t k i off => obtain ⟨g, C, _, rfl⟩ := hc; rfl
theorem cells_one {h : Array Obj} {SA : Nat → Prop} {SF : Loc → Prop} {β : Nat → Value} : ∀ {cs : List Cell} {vs : List Value}, CellsRep h SA SF β cs vs → ∀ v ∈ vs, v.oneCell' = true
  | [], _, e => by simp only [CellsRep, All2] at e; subst e; simp
  | c :: cs, _, ⟨v, r, e, h1, h2⟩ => by
    subst e
    intro u hu
    rcases List.mem_cons.1 hu with rfl | hu
    · exact cell_ty h1
    · exact cells_one h2 u hu
theorem err_rep {h : Array Obj} {SA : Nat → Prop} {SF : Loc → Prop} {β : Nat → Value} {b f : Bool} {v : Value} (H : CellRep h SA SF β (.val .err b f) v) : (b = false ∧ v = .nilIface) ∨ (b = true ∧ ∃ t u, v = .iface t u) := by
  rcases H with ⟨h1, h2⟩ | ⟨h1, t, u, h2⟩
  · exact .inl ⟨h1, by simpa using h2⟩
  · exact .inr ⟨h1, t, u, by simpa using h2⟩
theorem bin_sound (HT : TOk P T) (H : RelB c β SF e a w) (hN : c.ok d) {op : BinOp} {t pt : TypeId} {x y : Operand} {ef : Eff} (h : binEff T ve d op t x y = some ef) (ho : ef.ok = true) :
    Runs P ⟨some d, .binOp op t x y pt, ty, pos, af, g⟩ a w (Rel c (e.puts ef.ws)) := by
  unfold binEff at h
  split at h
  · rename_i k m _ k' n _ h1 h2
    have hx := int_rep (opnd_cell H h1)
    have hy := int_rep (opnd_cell H h2)
    split at h
    · split at h
      · rename_i ok r hr
        cases h
        cases ho
        exact .pure (x := .cell (.val (.int k) r true)) (v := .int k r) H rfl hN (run_int ty pos af g hx hy hr (by simp)) rfl
      · cases h
    · split at h
      · rename_i ok r hr
        cases h
        cases ho
        exact .pure (x := .cell (.val (.int k) r true)) (v := .int k r) H rfl hN (run_int ty pos af g hx hy hr (by simp)) rfl
      · cases h
    · split at h
      · rename_i hk
        have hk := Ty.kindEq_eq hk
        subst hk
        split at h
        · rename_i ok r hr
          cases h
          cases ho
          exact .pure (x := .cell (.val (.int k) r true)) (v := .int k r) H rfl hN (run_int ty pos af g hx hy hr (by simp)) rfl
        · rename_i ok r hr
          cases h
          cases ho
          exact .pure (x := .cell (.val .bool r true)) (v := .bool r) H rfl hN (run_int ty pos af g hx hy hr (by simp)) rfl
        · cases h
      · cases h
  · rename_i m _ n _ h1 h2
    have hx := str_rep (opnd_cell H h1)
    have hy := str_rep (opnd_cell H h2)
    split at h
    · rename_i ok r hr
      cases h
      cases ho
      exact .pure (x := .cell (.val .str r true)) (v := .string r) H rfl hN (run_str ty pos af g hx hy hr) rfl
    · rename_i ok r hr
      cases h
      cases ho
      exact .pure (x := .cell (.val .bool r true)) (v := .bool r) H rfl hN (run_str ty pos af g hx hy hr) rfl
    · cases h
  · rename_i m _ n _ h1 h2
    have hx := bool_rep (opnd_cell H h1)
    have hy := bool_rep (opnd_cell H h2)
    split at h
    · rename_i i hi
      obtain ⟨dd, hd, hdd⟩ := (HT _ _ hi).desc
      split at h
      · rename_i hb
        rw [hb] at hdd
        cases dd <;> simp only [DescOk] at hdd
        have he : (Op.equal t (.bool m) (.bool n)).run P w = .ok (beqB m n) w := by
          rw [Op.equal, show Op.maxDepth = 9999 + 1 from rfl, Op.equalIn]
          simp [run_underlying hd, beqB]
        split at h
        · cases h
          exact .pure (x := .cell (.val .bool (beqB m n) true)) (v := .bool (beqB m n)) H rfl hN (by simp [execOp, hx, hy, eqGuard, binOp, he]) rfl
        · cases h
          exact .pure (x := .cell (.val .bool (!(beqB m n)) true)) (v := .bool (!(beqB m n))) H rfl hN (by simp [execOp, hx, hy, eqGuard, binOp, he]) rfl
        · cases h
      · cases h
    · cases h
  · rename_i m _ n _ h1 h2
    have hx := err_rep (opnd_cell H h1)
    split at h
    · rename_i i hi
      obtain ⟨dd, hd, hdd⟩ := (HT _ _ hi).desc
      have hy : a.eval (.const .nilIface) = .nilIface := rfl
      split at h
      · rename_i hb
        rw [hb] at hdd
        cases dd <;> simp only [DescOk] at hdd
        have he : (Op.equal t (a.eval x) .nilIface).run P w = .ok (!m) w := by
          rw [Op.equal, show Op.maxDepth = 9999 + 1 from rfl, Op.equalIn]
          rcases hx with ⟨rfl, hx⟩ | ⟨rfl, _, _, hx⟩ <;> simp [run_underlying hd, hx]
        have hg : ∀ op, (eqGuard op t x (.const .nilIface) (a.eval x) .nilIface).run P w = .ok () w := by
          intro op
          rcases hx with ⟨rfl, hx⟩ | ⟨rfl, _, _, hx⟩ <;> rw [hx] <;> cases op <;> simp [eqGuard]
        split at h
        · cases h
          refine .pure (x := .cell (.val .bool (!m) true)) (v := .bool (!m)) H rfl hN ?_ rfl
          simp only [execOp, hy, Sem.run_bind, hg, Result.andThen_ok]
          rcases hx with ⟨rfl, hx⟩ | ⟨rfl, _, _, hx⟩ <;> rw [hx] at he ⊢ <;> simp [binOp, he]
        · cases h
          refine .pure (x := .cell (.val .bool m true)) (v := .bool m) H rfl hN ?_ rfl
          simp only [execOp, hy, Sem.run_bind, hg, Result.andThen_ok]
          rcases hx with ⟨rfl, hx⟩ | ⟨rfl, _, _, hx⟩ <;> rw [hx] at he ⊢ <;> simp [binOp, he]
        · cases h
      · cases h
    · cases h
  · rename_i m n h1 h2
    have hx := opnd_rep H h1
    have hy := opnd_rep H h2
    obtain ⟨vs, hx, hvs⟩ := hx
    obtain ⟨us, hy, hus⟩ := hy
    split at h
    · rename_i i r hi hr
      have key : (i.eqf && cellsFit m (tyCells i.ty)) = true → (Op.equal t (.agg vs.toArray) (.agg us.toArray)).run P w = .ok r w ∧ ∀ op, (eqGuard op t x y (.agg vs.toArray) (.agg us.toArray)).run P w = .ok () w := by
        intro hc
        simp only [Bool.and_eq_true] at hc
        obtain ⟨hc, hl⟩ := hc
        obtain ⟨q1, q2⟩ := (HT _ _ hi).eqf hc
        refine ⟨q2 _ _ _ _ _ _ _ _ _ _ _ _ _ _ hr hl hvs hus, fun op => ?_⟩
        cases op <;> simp [eqGuard, q1]
      split at h
      · split at h
        · rename_i hc
          cases h
          obtain ⟨k1, k2⟩ := key hc
          refine .pure (x := .cell (.val .bool r true)) (v := .bool r) H rfl hN ?_ rfl
          simp [execOp, hx, hy, Sem.run_bind, k2, binOp, k1]
        · cases h
      · split at h
        · rename_i hc
          cases h
          obtain ⟨k1, k2⟩ := key hc
          refine .pure (x := .cell (.val .bool (!r) true)) (v := .bool (!r)) H rfl hN ?_ rfl
          simp [execOp, hx, hy, Sem.run_bind, k2, binOp, k1]
        · cases h
      · cases h
    · cases h
  · cases h
end
end Go.Px
