/- Own texts, part A1: PxA PxB PxC PxD PxE. -/
import Derived.Calls
import Derived.Orders
import Derived.Below
import Derived.Laws.AppendOwn
import Derived.Laws.Tables
import Derived.Laws.Cells
import Derived.Laws.IdiomCopy
import Derived.Laws.OwnMore
import Derived.Maps.AppendAt
import Derived.Deep.MidRow
set_option linter.unusedVariables false
namespace Go.Px
open Go
inductive Ty where
 | int (k : IntKind) | bool | str | err | mp | slice (e : Ty) | nil | cons (a b : Ty) | aI (et : Nat) (t : Ty)
 deriving DecidableEq, Inhabited
namespace Ty
def den : Ty → Type
 | .int _ => Int | .bool => Bool | .str => ByteArray | .err => Bool | .mp => Unit | .slice e => List e.den | .nil => Unit | .cons a b => a.den × b.den | .aI _ _ => Nat × Nat × Nat
def size : Ty → Nat
 | .int _ => 1 | .bool => 1 | .str => 1 | .err => 1 | .mp => 1 | .slice _ => 1 | .nil => 0 | .cons a b => a.size + b.size | .aI _ _ => 1
def vy : (t : Ty) → t.den
 | .int _ => (0 : Int) | .bool => false | .str => ByteArray.empty | .err => false | .mp => () | .slice e => ([] : List e.den) | .nil => () | .cons a b => (a.vy, b.vy) | .aI _ _ => ((0, 0, 0) : Nat × Nat × Nat)
def fZ (a b : IntKind) : Bool := match a, b with
 | .i8, .i8 | .i16, .i16 | .i32, .i32 | .i64, .i64 | .u8, .u8 | .u16, .u16 | .u32, .u32 | .u64, .u64 => true
 | _, _ => false
theorem dH {a b : IntKind} (h : fZ a b = true) : a = b := by cases a <;> cases b <;> first | rfl | cases h
def beq : Ty → Ty → Bool
 | .int a, .int b => fZ a b
 | .bool, .bool | .str, .str | .err, .err | .mp, .mp | .nil, .nil => true
 | .slice a, .slice b => a.beq b
 | .cons a b, .cons c d => a.beq c && b.beq d
 | .aI a b, .aI c d => Nat.beq a c && b.beq d
 | _, _ => false
theorem eq_of_beq : ∀ {a b : Ty}, a.beq b = true → a = b
 | .int a, .int b, h => by rw [dH (a := a) (b := b) h]
 | .bool, .bool, _ | .str, .str, _ | .err, .err, _ | .mp, .mp, _ | .nil, .nil, _ => rfl
 | .slice a, .slice b, h => by rw [eq_of_beq (a := a) (b := b) h]
 | .cons a b, .cons c d, h => by
  simp only [beq, Bool.and_eq_true] at h
  rw [eq_of_beq (a := a) (b := c) h.1, eq_of_beq (a := b) (b := d) h.2]
 | .aI a b, .aI c d, h => by
  simp only [beq, Bool.and_eq_true, Nat.beq_eq] at h
  rw [h.1, eq_of_beq (a := b) (b := d) h.2]
end Ty
inductive Cell where
 | val (t : Ty) (x : t.den) (fr : Bool)
 | nil
 | row (o : Nat)
 | part (o : Nat) (t : Ty) (lo n : Nat)
 | ptr (o : Nat) (off : Nat)
 | xQ (o : Nat) (t : Ty) (i off : Nat)
 | lj (t : Ty) (x : t.den) (fr : Bool)
 | fn (f : Nat) (caps : List Nat)
 | mp (o : Nat)
 | ad (et : Nat) (t : Ty) (k i off : Nat)
instance : Inhabited Cell := ⟨.nil⟩
inductive SV where
 | cell (c : Cell) | agg (cs : List Cell) | xr (l : List (Bool × List Cell)) | undef | top
def aq : Cell → List Nat
 | .row o => [o] | .part o _ _ _ => [o] | .ptr o _ => [o] | .xQ o _ _ _ => [o] | .fn _ l => l | .mp o => [o]
 | _ => []
inductive OV where
 | row (t : Ty) (et : Nat) (xs : List t.den) (fr : Bool) (st : Nat)
 | box (cs : List Cell) (st : Nat)
 | mp (k : IntKind) (es : List (ByteArray × Int)) (st : Nat)
 | mem (t : Ty) (et : Nat) (bs : List (Option (List t.den)))
 | al (t : Ty) (et : Nat) (x : Nat × Nat × Nat)
 | dead
structure Env where
 bk : List (Nat × Option SV)
 aY : List (Nat × Option OV)
def r9 (a b : Bool) : Bool := a == b
def look {α : Type} : List (Nat × Option α) → Nat → Option α
 | [], _ => none
 | (k, v) :: r, s => cond (Nat.beq k s) v (look r s)
inductive W where
 | slot (s : Nat) (v : Option SV) | obj (o : Nat) (v : Option OV)
def Env.put (e : Env) : W → Env
 | .slot s v => ⟨(s, v) :: e.bk, e.aY⟩
 | .obj o v => ⟨e.bk, (o, v) :: e.aY⟩
def Env.aF (e : Env) (ws : List W) : Env := ws.foldl Env.put e
def Env.slot (e : Env) (s : Nat) : Option SV := look e.bk s
def Env.obj (e : Env) (o : Nat) : Option OV := look e.aY o
inductive TD where
 | int (k : IntKind) | bool | string | err | slice (e : Nat) | struct (fs : List (Nat × Nat)) | array (n e : Nat) | pointer (e : Nat) | map (k e : Nat) | other
structure TI where
 d : TD
 ty : Ty
 size : Nat
 bytes : Nat
 NQ : Bool := false
abbrev Types := List (Nat × Option TI)
def TI.isAgg (i : TI) : Bool := match i.d with | .struct _ | .array _ _ => true | _ => false
def wA (t t' : Ty) (x : t'.den) : Option t.den := if h : t'.beq t = true then some ((Ty.eq_of_beq h) ▸ x) else none
def lQ (t t' : Ty) (x : List t'.den) : Option (List t.den) := if h : t'.beq t = true then some ((Ty.eq_of_beq h) ▸ x) else none
def Gp (t t' : Ty) (x : List (Option (List t'.den))) : Option (List (Option (List t.den))) := if h : t'.beq t = true then some ((Ty.eq_of_beq h) ▸ x) else none
def Cell.as (t : Ty) : Cell → Option t.den
 | .val t' x _ => wA t t' x
 | .nil => match t with | .slice e => some ([] : List e.den) | .aI _ _ => some ((0, 0, 0) : Nat × Nat × Nat) | _ => none
 | _ => none
def Cell.fr : Cell → Bool
 | .val _ _ f => f
 | .nil => true
 | _ => false
def settle (v : Env) : Cell → Option (Cell × List W)
 | .val t x f => some (.val t x f, [])
 | .nil => some (.nil, [])
 | .row o => match v.obj o with
  | some (.row t et xs f 0) => some (.val (.slice t) xs f, [.obj o (some (.row t et xs f 1))])
  | some (.row t _ xs f 1) => some (.val (.slice t) xs f, [])
  | _ => none
 | _ => none
def tQ (v : Env) : List Cell → Option (List Cell × List W)
 | [] => some ([], [])
 | c :: r => match settle v c, tQ v r with
  | some (c', w), some (r', w') => some (c' :: r', w ++ w')
  | _, _ => none
def imp : (t : Ty) → List Cell → Option (t.den × List Cell)
 | .nil, cs => some ((), cs)
 | .cons a b, cs => match imp a cs with
  | some (x, r) => match imp b r with
   | some (y, r') => some ((x, y), r')
   | none => none
  | none => none
 | .int k, c :: r => (c.as (.int k)).map (·, r)
 | .bool, c :: r => (c.as .bool).map (·, r)
 | .str, c :: r => (c.as .str).map (·, r)
 | .err, c :: r => (c.as .err).map (·, r)
 | .mp, c :: r => (c.as .mp).map (·, r)
 | .slice e, c :: r => (c.as (.slice e)).map (·, r)
 | .aI a t, c :: r => (c.as (.aI a t)).map (·, r)
 | _, [] => none
def yq (t : Ty) (cs : List Cell) : Option t.den := match imp t cs with | some (x, []) => some x | _ => none
def iA (cs : List Cell) : Bool := cs.all Cell.fr
def tR : (t : Ty) → t.den → Bool → List Cell
 | .nil, _, _ => []
 | .cons a b, x, f => tR a x.1 f ++ tR b x.2 f
 | .int k, x, _ => [.val (.int k) x true]
 | .bool, x, _ => [.val .bool x true]
 | .str, x, _ => [.val .str x true]
 | .err, x, _ => [.val .err x true]
 | .mp, x, _ => [.val .mp x true]
 | .slice e, x, f => [.val (.slice e) x f]
 | .aI a t, x, _ => [.val (.aI a t) x true]
def zeroCells : Ty → List Cell
 | .nil => []
 | .cons a b => zeroCells a ++ zeroCells b
 | .int k => [.val (.int k) (0 : Int) true]
 | .bool => [.val .bool false true]
 | .str => [.val .str ByteArray.empty true]
 | .err => [.val .err false true]
 | .mp => [.val .mp () true]
 | .slice _ => [.nil]
 | .aI _ _ => [.nil]
def eK : List Cell → Nat → List Cell → List Cell
 | _, _, [] => []
 | new, 0, o :: r => match new with | n :: ns => n :: eK ns 0 r | [] => o :: r
 | new, k + 1, o :: r => o :: eK new k r
def SV.cells : SV → Option (List Cell)
 | .cell c => some [c] | .agg cs => some cs | _ => none
def sv (agg : Bool) (cs : List Cell) : Option SV := match agg, cs with
 | true, cs => some (.agg cs)
 | false, [c] => some (.cell c)
 | _, _ => none
def xJ : Value → Option SV
 | .int k n => some (.cell (.val (.int k) n true))
 | .bool b => some (.cell (.val .bool b true))
 | .string s => some (.cell (.val .str s true))
 | .slice none 0 0 => some (.cell .nil)
 | .nilIface => some (.cell (.val .err false true))
 | _ => some .top
def res (v : Env) : SV → SV
 | .cell (.row o) => match v.obj o with | some (.al t et x) => .cell (.val (.aI et t) x true) | _ => .cell (.row o)
 | s => s
def jn (v : Env) : Operand → Option SV
 | .tmp t => (v.slot t).map (res v)
 | .const c => xJ c
 | .func f => some (.cell (.fn f []))
 | .global _ => none
def fb (v : Env) (x : Operand) : Option Cell := match jn v x with | some (.cell c) => some c | _ => none
def iB (v : Env) (x : Operand) : Option (IntKind × Int) := match jn v x with | some (.cell (.val (.int k) n _)) => some (k, n) | _ => none
def nm (d j : Nat) : Nat := (d + 1) * 64 + j
structure pq where
 ok : Bool
 ws : List W
def yes (ws : List W) : Option pq := some ⟨true, ws⟩
def bz (d : Nat) (c : Cell) : W := .slot d (some (.cell c))
def nO (d : Nat) (v : SV) : W := .slot d (some v)
def an (et : Nat) : Nat := 900000 + et % 100000
def ak {α : Type} (bs : List (Option (List α))) : Nat → List α
 | 0 => []
 | k + 1 => match bs.getD k none with | some xs => xs | none => []
def fI {α : Type} (bs : List (Option (List α))) : Nat → Bool
 | 0 => false
 | k + 1 => match bs.getD k none with | some _ => true | none => false
def eY {α : Type} (bs : List (Option (List α))) (x : Option (List α)) : Nat → List (Option (List α))
 | 0 => bs
 | k + 1 => bs.set k x
def au {α : Type} (bs : List (Option (List α))) (x : Nat × Nat × Nat) : List α := ((ak bs x.1).take (x.2.1 + x.2.2)).drop x.2.1
def bH {α : Type} (bs : List (Option (List α))) (x : Nat × Nat × Nat) : Bool := Nat.beq x.2.2 0 || (fI bs x.1 && Nat.ble (x.2.1 + x.2.2) (ak bs x.1).length)
def dO {α : Type} (bs : List (Option (List α))) (k j : Nat) : Bool := fI bs k && Nat.ble (j + 1) (ak bs k).length
def Q2 {α : Type} (bs : List (Option (List α))) (x : Nat × Nat × Nat) : Bool := Nat.beq x.2.1 0 && (Nat.beq x.1 0 || (fI bs x.1 && Nat.ble x.2.2 (ak bs x.1).length))
def Q8 {α : Type} (bs : List (Option (List α))) (x : Nat × Nat × Nat) : List α := (ak bs x.1).take x.2.2
def pv (v : Env) (et : Nat) (t : Ty) : Option (List (Option (List t.den))) := match v.obj (an et) with
 | some (.mem t' et' bs) => if Nat.beq et et' = true then Gp t t' bs else none
 | _ => none
def lenOf (v : Env) : Cell → Option Int
 | .val (.aI _ _) x _ => some ((x.2.2 : Nat) : Int)
 | .val (.slice e) x _ => some ((List.length (α := e.den) x : Nat) : Int)
 | .val .str x _ => some ((ByteArray.size x : Nat) : Int)
 | .nil => some 0
 | .row o => match v.obj o with | some (.row _ _ xs _ _) => some ((xs.length : Nat) : Int) | _ => none
 | .part _ _ _ n => some (n : Int)
 | _ => none
def bt (s : ByteArray) (i : Int) : Int := if h : i.toNat < s.size then ((s[i.toNat]'h).toNat : Int) else 0
def rd {t : Ty} (xs : List t.den) (i : Int) : t.den := xs.getD i.toNat t.vy
def bQ (i n : Int) : Bool := decide (0 ≤ i) && decide (i < n)
def Bs (op : BinOp) (k : IntKind) (x y : Int) : Option (Bool × (Int ⊕ Bool)) := match op with
 | .add => some (true, .inl (k.wrap (x + y)))
 | .sub => some (true, .inl (k.wrap (x - y)))
 | .mul => some (true, .inl (k.wrap (x * y)))
 | .quo => some (!(y == 0), .inl (k.wrap (x.tdiv y)))
 | .rem => some (!(y == 0), .inl (x.tmod y))
 | .and => some (true, .inl (k.wrap (BitVec.ofInt k.bits x &&& BitVec.ofInt k.bits y).toNat))
 | .or => some (true, .inl (k.wrap (BitVec.ofInt k.bits x ||| BitVec.ofInt k.bits y).toNat))
 | .xor => some (true, .inl (k.wrap (BitVec.ofInt k.bits x ^^^ BitVec.ofInt k.bits y).toNat))
 | .andNot => some (true, .inl (k.wrap (BitVec.ofInt k.bits x &&& ~~~ BitVec.ofInt k.bits y).toNat))
 | .eql => some (true, .inr (x == y))
 | .neq => some (true, .inr (x != y))
 | .lss => some (true, .inr (decide (x < y)))
 | .leq => some (true, .inr (decide (x ≤ y)))
 | .gtr => some (true, .inr (decide (x > y)))
 | .geq => some (true, .inr (decide (x ≥ y)))
 | .shl => some (decide (0 ≤ y), .inl (k.wrap (x * 2 ^ (min y.toNat k.bits))))
 | .shr => some (decide (0 ≤ y), .inl (x.fdiv (2 ^ (min y.toNat k.bits))))
theorem Jn : ∃ f : ByteArray → ByteArray → Bool, ∀ x y, f x y = decide (((x.size + y.size : Nat) : Int) ≤ 140737488355328) := ⟨_, fun _ _ => rfl⟩
noncomputable def Lc : ByteArray → ByteArray → Bool := Classical.choose Jn
theorem Bt (x y : ByteArray) : Lc x y = decide (((x.size + y.size : Nat) : Int) ≤ 140737488355328) := Classical.choose_spec Jn x y
noncomputable def E4 (op : BinOp) (x y : ByteArray) : Option (Bool × (ByteArray ⊕ Bool)) :=
 match op with
 | .add => some (Lc x y, .inl (x ++ y))
 | .eql => some (true, .inr (x.toList == y.toList))
 | .neq => some (true, .inr (!(x.toList == y.toList)))
 | .lss => some (true, .inr (Op.bytesLess x.toList y.toList))
 | .leq => some (true, .inr (Op.bytesLess x.toList y.toList || (x.toList == y.toList)))
 | .gtr => some (true, .inr (!(Op.bytesLess x.toList y.toList || (x.toList == y.toList))))
 | .geq => some (true, .inr (!(Op.bytesLess x.toList y.toList)))
 | _ => none
def p5 : Cell → Cell → Option Bool
 | .val (.int k) x _, .val (.int k') y _ => if Ty.fZ k k' = true then some (show Bool from (show Int from x) == (show Int from y)) else none
 | .val .bool x _, .val .bool y _ => some (r9 x y)
 | .val .str x _, .val .str y _ => some (ByteArray.toList x == ByteArray.toList y)
 | _, _ => none
def mQ : List Cell → List Cell → Option Bool
 | [], [] => some true
 | c :: r, d :: s => match p5 c d, mQ r s with
  | some b, some b' => some (b && b')
  | _, _ => none
 | _, _ => none
def mR : Ty → List Ty
 | .nil => []
 | .cons a b => mR a ++ mR b
 | t => [t]
def Bu : Cell → Ty → Bool
 | .val (.int k) _ _, .int k' => Ty.fZ k k'
 | .val .bool _ _, .bool => true
 | .val .str _ _, .str => true
 | _, _ => false
def iC : List Cell → List Ty → Bool
 | [], [] => true
 | c :: r, t :: s => Bu c t && iC r s
 | _, _ => false
noncomputable def E5 (T : Types) (v : Env) (d : Nat) (op : BinOp) (t : Nat) (x y : Operand) : Option pq :=
 match jn v x, jn v y with
 | some (.cell (.val (.int k) a _)), some (.cell (.val (.int k') b _)) =>
  match op with
  | .shl | .shr => match Bs op k a b with
   | some (ok, .inl r) => some ⟨ok, [bz d (.val (.int k) r true)]⟩
   | _ => none
  | _ => if Ty.fZ k k' = true then match Bs op k a b with
   | some (ok, .inl r) => some ⟨ok, [bz d (.val (.int k) r true)]⟩
   | some (ok, .inr r) => some ⟨ok, [bz d (.val .bool r true)]⟩
   | none => none else none
 | some (.cell (.val .str a _)), some (.cell (.val .str b _)) => match E4 op a b with
  | some (ok, .inl r) => some ⟨ok, [bz d (.val .str r true)]⟩
  | some (ok, .inr r) => some ⟨ok, [bz d (.val .bool r true)]⟩
  | none => none
 | some (.cell (.val .bool a _)), some (.cell (.val .bool b _)) => match look T t with
  | some i => match i.d with
   | .bool => match op with
    | .eql => yes [bz d (.val .bool (r9 a b) true)]
    | .neq => yes [bz d (.val .bool (!(r9 a b)) true)]
    | _ => none
   | _ => none
  | none => none
 | some (.cell (.val .err a _)), some (.cell (.val .err b _)) => match look T t, y, b with
  | some i, .const .nilIface, false => match i.d with
   | .err => match op with
    | .eql => yes [bz d (.val .bool (!a) true)]
    | .neq => yes [bz d (.val .bool a true)]
    | _ => none
   | _ => none
  | _, _, _ => none
 | some (.agg a), some (.agg b) => match look T t, mQ a b with
  | some i, some r => match op with
   | .eql => if i.NQ && iC a (mR i.ty) then yes [bz d (.val .bool r true)] else none
   | .neq => if i.NQ && iC a (mR i.ty) then yes [bz d (.val .bool (!r) true)] else none
   | _ => none
  | _, _ => none
 | _, _ => none
def Bv (T : Types) (v : Env) (d : Nat) (t : Nat) (x : Operand) : Option pq :=
 match look T t, fb v x with
 | some i, some (.ptr o off) => match v.obj o with
  | some (.box cs _) => match sv i.isAgg ((cs.drop off).take i.size) with
   | some r => if Nat.ble (off + i.size) cs.length = true then yes [nO d r] else none
   | none => none
  | _ => none
 | some i, some (.xQ o t' j off) => match v.obj o with
  | some (.row t'' _ xs f _) => if t''.beq t' = true then
    match sv i.isAgg (((tR t'' (xs.getD j t''.vy) f).drop off).take i.size) with
    | some r => if Nat.ble (off + i.size) t''.size = true then yes [nO d r] else none
    | none => none
   else none
  | _ => none
 | some i, some (.lj t' x' f) => if t'.beq i.ty = true then match sv i.isAgg (tR t' x' f) with
   | some r => yes [nO d r]
   | none => none
  else none
 | some i, some (.ad et t' k j off) => match pv v et t' with
  | some bs => match sv i.isAgg (((tR t' ((ak bs k).getD j t'.vy) true).drop off).take i.size) with
   | some r => if Nat.ble (off + i.size) t'.size = true then some ⟨dO bs k j, [nO d r]⟩ else none
   | none => none
  | none => none
 | _, _ => none
def yr (T : Types) (v : Env) (t : Nat) (x y : Operand) : Option pq :=
 match look T t, fb v x, (jn v y).bind SV.cells with
 | some i, some (.ptr o off), some cs' => match v.obj o with
  | some (.box cs st) => if (Nat.beq cs'.length i.size && (Nat.ble (off + i.size) cs.length && !(Nat.beq st 1))) = true then yes [.obj o (some (.box (eK cs' off cs) st))] else none
  | _ => none
 | some i, some (.xQ o t' j off), some cs' => match v.obj o, tQ v cs' with
  | some (.row t'' et xs f st), some (cs'', ws) =>
   if (t''.beq t' && (Nat.beq cs'.length i.size && (Nat.ble (off + i.size) t''.size && (!(Nat.beq st 1) && !((cs'.flatMap aq).any (Nat.beq o)))))) = true then
    match yq t'' (eK cs'' off (tR t'' (xs.getD j t''.vy) f)) with
    | some z => yes (ws ++ [.obj o (some (.row t'' et (xs.set j z) (f && iA cs'') st))])
    | none => none
   else none
  | _, _ => none
 | some i, some (.ad et t' k j off), some cs' => match pv v et t' with
  | some bs => if (Nat.beq cs'.length i.size && Nat.ble (off + i.size) t'.size) = true then
    match yq t' (eK cs' off (tR t' ((ak bs k).getD j t'.vy) true)) with
    | some z => some ⟨dO bs k j, [.obj (an et) (some (.mem t' et (eY bs (some ((ak bs k).set j z)) k)))]⟩
    | none => none
   else none
  | none => none
 | _, _, _ => none
def yt (T : Types) (v : Env) (d : Nat) (s : Nat) (x : Operand) (f : Nat) : Option pq :=
 match look T s with
 | some i => match i.d with
  | .struct fs => match fs[f]? with
   | some (fo, ft) => match look T ft with
    | some fi => if Nat.ble 1 fi.size = true then match fb v x with
     | some (.ptr o off) => yes [bz d (.ptr o (off + fo))]
     | some (.xQ o t j off) => yes [bz d (.xQ o t j (off + fo))]
     | some (.ad et t k j off) => yes [bz d (.ad et t k j (off + fo))]
     | some (.lj t y fr) => if (t.beq i.ty && Nat.ble (fo + fi.size) i.size) = true then match yq fi.ty (((tR t y fr).drop fo).take fi.size) with
      | some z => yes [bz d (.lj fi.ty z fr)]
      | none => none else none
     | _ => none
     else none
    | none => none
   | none => none
  | _ => none
 | none => none
def yu (T : Types) (v : Env) (d : Nat) (t : Nat) (x y : Operand) : Option pq :=
 match look T t, fb v x, iB v y with
 | some i, some c, some (_, n) => match i.d, c with
  | .slice e, .val (.slice t') xs f => match look T e with
   | some ei => if ei.ty.beq t' = true then some ⟨bQ n (List.length (α := t'.den) xs : Nat), [bz d (.lj t' (rd xs n) f)]⟩ else none
   | none => none
  | .slice e, .val (.aI et t') x _ => match look T e with
   | some ei => if ei.ty.beq t' = true then some ⟨bQ n (x.2.2 : Nat), [bz d (.ad et t' x.1 (x.2.1 + n.toNat) 0)]⟩ else none
   | none => none
  | .slice e, .row o => match v.obj o, look T e with
   | some (.row t' _ xs _ _), some ei => if ei.ty.beq t' = true then some ⟨bQ n (xs.length : Nat), [bz d (.xQ o t' n.toNat 0)]⟩ else none
   | _, _ => none
  | .slice e, .part o t' lo m => match v.obj o, look T e with
   | some (.row _ _ _ _ _), some ei => if ei.ty.beq t' = true then some ⟨bQ n (m : Nat), [bz d (.xQ o t' (lo + n.toNat) 0)]⟩ else none
   | _, _ => none
  | _, _ => none
 | _, _, _ => none
def QD (lo : Option Operand) (a : Int) : Nat := match lo with | none => 0 | some _ => a.toNat
def fj (v : Env) (o : Option Operand) (dft : Int) : Option Int := match o with
 | none => some dft
 | some y => match iB v y with | some (_, n) => some n | none => none
def ba (a b n : Int) : Bool := decide (0 ≤ a) && (decide (a ≤ b) && decide (b ≤ n))
def yv (T : Types) (v : Env) (d : Nat) (t : Nat) (x : Operand) (lo hi mx : Option Operand) : Option pq :=
 match look T t, fb v x, mx with
 | some i, some c, none =>
  match i.d, c, lenOf v c with
  | .string, .val .str s _, some n => match fj v lo 0, fj v hi n with
   | some a, some b => some ⟨ba a b n, [bz d (.val .str (ByteArray.extract s a.toNat b.toNat) true)]⟩
   | _, _ => none
  | .slice e, .val (.slice t') xs f, some n => match look T e, fj v lo 0, fj v hi n with
   | some ei, some a, some b => if ei.ty.beq t' = true then some ⟨ba a b n, [bz d (.val (.slice t') (((xs : List t'.den).take b.toNat).drop a.toNat) f)]⟩ else none
   | _, _, _ => none
  | .slice e, .val (.aI et t') x f, some n => match look T e, fj v lo 0, fj v hi n with
   | some ei, some a, some b => if ei.ty.beq t' = true then some ⟨ba a b n, [bz d (.val (.aI et t') ((x.1, x.2.1 + a.toNat, b.toNat - a.toNat) : Nat × Nat × Nat) f)]⟩ else none
   | _, _, _ => none
  | .slice e, .nil, some _ => match look T e, fj v lo 0, fj v hi 0 with
   | some _, some a, some b => some ⟨ba a b 0, [bz d .nil]⟩
   | _, _, _ => none
  | .slice e, .row o, some n => match v.obj o, look T e, fj v lo 0, fj v hi n with
   | some (.row t' _ _ _ _), some ei, some a, some b => if ei.ty.beq t' = true then some ⟨ba a b n, [bz d (.part o t' (QD lo a) (b.toNat - QD lo a))]⟩ else none
   | _, _, _, _ => none
  | _, _, _ => none
 | some i, some c, some m =>
  match i.d, c, lenOf v c with
  | .slice e, .val (.slice t') xs f, some n => match look T e, fj v lo 0, fj v hi n, fj v (some m) n with
   | some ei, some a, some b, some k => if (ei.ty.beq t' && hi.isSome) = true then some ⟨ba a b k && decide (k ≤ n), [bz d (.val (.slice t') (((xs : List t'.den).take b.toNat).drop a.toNat) f)]⟩ else none
   | _, _, _, _ => none
  | .slice e, .val (.aI et t') x f, some n => match look T e, fj v lo 0, fj v hi n, fj v (some m) n with
   | some ei, some a, some b, some k => if (ei.ty.beq t' && hi.isSome) = true then some ⟨ba a b k && decide (k ≤ n), [bz d (.val (.aI et t') ((x.1, x.2.1 + a.toNat, b.toNat - a.toNat) : Nat × Nat × Nat) f)]⟩ else none
   | _, _, _, _ => none
  | .slice e, .row o, some n => match v.obj o, look T e, fj v hi n, fj v (some m) n with
   | some (.row t' et xs f st), some ei, some b, some k => if (ei.ty.beq t' && (lo.isNone && (hi.isSome && (Nat.beq st 0 || Nat.beq st 2)))) = true then
     some ⟨ba 0 b k && decide (k ≤ n), [.obj o none, .obj (nm d 0) (some (.row t' et (xs.take b.toNat) f st)), bz d (.row (nm d 0))]⟩ else none
   | _, _, _, _ => none
  | _, _, _ => none
 | _, _, _ => none
def Bw (T : Types) (v : Env) (d : Nat) (t : Nat) (l c : Operand) : Option pq :=
 match look T t, iB v l, iB v c with
 | some i, some (_, n), some (_, m) => match i.d with
  | .slice e => match look T e with
   | some ei => if Nat.ble 1 ei.bytes = true then some ⟨decide (0 ≤ n) && (decide (n ≤ m) && decide (m * ei.bytes ≤ 140737488355328)),
     [.obj (nm d 0) (some (.row ei.ty e (List.replicate n.toNat ei.ty.vy) true 0)), bz d (.row (nm d 0))]⟩ else none
   | none => none
  | _ => none
 | _, _, _ => none
def lI (fs : List (Nat × Nat)) (v : Env) : List (Nat × Operand) → List Cell → Option (List Cell)
 | [], cs => some cs
 | (j, x) :: r, cs => match fs[j]?, (jn v x).bind SV.cells with
  | some (fo, sz), some cs' => if Nat.beq cs'.length sz && Nat.ble (fo + sz) cs.length then lI fs v r (eK cs' fo cs) else none
  | _, _ => none
def xK (T : Types) : List (Nat × Nat) → Option (List (Nat × Nat))
 | [] => some []
 | (fo, ft) :: r => match look T ft, xK T r with
  | some i, some l => some ((fo, i.size) :: l)
  | _, _ => none
def Bx (n sz : Nat) : List (Nat × Nat) := (List.range n).map fun j => (j * sz, sz)
def yw (T : Types) (v : Env) (d : Nat) (t : Nat) (ps : List (Nat × Operand)) : Option pq :=
 match look T t with
 | some i => match i.d with
  | .struct fs => match xK T fs with
   | some l => match lI l v ps (zeroCells i.ty) with
    | some cs => yes [nO d (.agg cs)]
    | none => none
   | none => none
  | .array n e => match look T e with
   | some ei => match lI (Bx n ei.size) v ps (zeroCells i.ty) with
    | some cs => yes [nO d (.agg cs)]
    | none => none
   | none => none
  | _ => none
 | none => none
def elems (t : Ty) : Nat → List Cell → Option (List t.den)
 | 0, [] => some []
 | 0, _ :: _ => none
 | n + 1, cs => match imp t cs with
  | some (x, r) => (elems t n r).map (x :: ·)
  | none => none
def xL (t : Ty) : Nat → List Cell
 | 0 => []
 | n + 1 => zeroCells t ++ xL t n
def nx (T : Types) (v : Env) (d : Nat) (t n : Nat) (ps : List (Nat × Operand)) : Option pq :=
 match look T t with
 | some i => match i.d with
  | .slice e => match look T e with
   | some ei => match lI (Bx n ei.size) v ps (xL ei.ty n) with
    | some cs => match tQ v cs with
     | some (cs', ws) => match elems ei.ty n cs' with
      | some xs => if (Nat.ble (n * ei.size) 1000000 && Nat.ble 1 ei.size) = true then
        yes (ws ++ [.obj (nm d 0) (some (.row ei.ty e xs (iA cs') 0)), bz d (.row (nm d 0))]) else none
      | none => none
     | none => none
    | none => none
   | none => none
  | _ => none
 | none => none
def content (v : Env) : Cell → Option (Σ t : Ty, List t.den × Bool)
 | .val (.slice t) xs f => some ⟨t, xs, f⟩
 | .row o => match v.obj o with | some (.row t _ xs f _) => some ⟨t, xs, f⟩ | _ => none
 | .part o t lo n => match v.obj o with
  | some (.row t' _ xs f _) => if t'.beq t = true then some ⟨t', (xs.take (lo + n)).drop lo, f⟩ else none
  | _ => none
 | _ => none
def yx (v : Env) : Cell → Option (Σ t : Ty, List t.den × Bool)
 | .val (.aI et t) x _ => (pv v et t).map fun bs => ⟨t, au bs x, true⟩
 | c => content v c
def Dj (v : Env) : Cell → Bool
 | .val (.aI et t) x _ => match pv v et t with | some bs => bH bs x | none => true
 | _ => true
def cE : Ty → Bool
 | .slice _ => true | .cons a b => cE a || cE b | _ => false
def news (v : Env) (t : Ty) : Cell → Option (List t.den × Bool)
 | .nil => some ([], true)
 | b => match yx v b with
  | some ⟨t', xs, f⟩ => match lQ t t' xs with | some z => some (z, f || !(cE t)) | none => none
  | none => none
def vz (T : Types) (u v : Env) (d : Nat) (t : Nat) (s x : Operand) : Option pq :=
 match look T t with
 | some i => match i.d with
  | .slice e => match look T e, fb v s, fb u x with
   | some ei, some a, some b => if (Nat.ble 1 ei.size && Nat.ble 1 ei.bytes) = true then
    match news u ei.ty b with
    | none => none
    | some (new, f') => match a with
     | .nil => some ⟨Dj u b && decide (((new.length : Nat) : Int) * ei.bytes ≤ 140737488355328), [.obj (nm d 0) (some (.row ei.ty e new f' 0)), bz d (.row (nm d 0))]⟩
     | .row o => match v.obj o with
      | some (.row t' e' xs f st) => match lQ ei.ty t' xs with
       | some xs => if (Nat.beq e e' && (Nat.beq st 0 || Nat.beq st 2)) = true then
         some ⟨Dj u b && decide ((((xs ++ new).length : Nat) : Int) * ei.bytes ≤ 140737488355328),
          [.obj o none, .obj (nm d 0) (some (.row ei.ty e (xs ++ new) (f && f') st)), bz d (.row (nm d 0))]⟩ else none
       | none => none
      | _ => none
     | .part o t0 lo n => match v.obj o with
      | some (.row t' e' xs f st) => match lQ ei.ty t' xs with
       | some xs => if ((t0.beq ei.ty && Nat.beq e e') && (Nat.beq st 0 || Nat.beq st 2)) = true then
         some ⟨Dj u b && decide (((((xs.take (lo + n)).drop lo ++ new).length : Nat) : Int) * ei.bytes ≤ 140737488355328),
          [.obj o none, .obj (nm d 0) (some (.row ei.ty e ((xs.take (lo + n)).drop lo ++ new) (f && f') st)), bz d (.row (nm d 0))]⟩ else none
       | none => none
      | _ => none
     | _ => none
    else none
   | _, _, _ => none
  | _ => none
 | none => none
def copied (xs ys : List Int) : List Int := ys.take xs.length ++ xs.drop ys.length
def By (T : Types) (v : Env) (d : Nat) (t : Nat) (s x : Operand) : Option pq :=
 match look T t with
 | some i => match i.d with
  | .slice e => match look T e, fb v s, fb v x with
   | some ei, some (.row o), some b => match v.obj o with
    | some (.row (.int k) e' xs f st) => if (Nat.beq ei.size 1 && (Nat.beq e e' && !(Nat.beq st 1))) = true then match news v (.int k) b with
      | some (ys, _) => some <| pq.mk (Dj v b) [.obj o (some (.row (.int k) e' (copied xs ys) f st)), bz d (.val (.int .i64) (show Int from min (List.length (α := Int) xs : Nat) (List.length (α := Int) ys : Nat)) true)]
      | none => none
     else none
    | _ => none
   | _, _, _ => none
  | _ => none
 | none => none
def tm (T : Types) (u v : Env) (d : Nat) (b : Builtin) (args : List Operand) (tys : List Nat) : Option pq :=
 match b, args, tys with
 | .len, [x], t :: _ => match look T t, fb v x with
  | some i, some c => match i.d, c, lenOf v c with
   | .string, .val .str _ _, some n => yes [bz d (.val (.int .i64) n true)]
   | .slice _, .val (.aI _ _) _ _, some n => yes [bz d (.val (.int .i64) n true)]
   | .slice _, .val (.slice _) _ _, some n => yes [bz d (.val (.int .i64) n true)]
   | .slice _, .nil, some n => yes [bz d (.val (.int .i64) n true)]
   | .slice _, .row _, some n => yes [bz d (.val (.int .i64) n true)]
   | .slice _, .part _ _ _ _, some n => yes [bz d (.val (.int .i64) n true)]
   | _, _, _ => none
  | _, _ => none
 | .append, [s, x], [t, t'] => if Nat.beq t t' = true then vz T u v d t s x else none
 | .copy, [s, x], [t, t'] => if Nat.beq t t' = true then By T v d t s x else none
 | .max, [x, y, z], _ => match iB v x, iB v y, iB v z with
  | some (k, a), some (k', b), some (k'', c) => if (Ty.fZ k k' && Ty.fZ k k'') = true then yes [bz d (.val (.int k) (show Int from max (show Int from max a b) c) true)] else none
  | _, _, _ => none
 | .min, [x, y, z], _ => match iB v x, iB v y, iB v z with
  | some (k, a), some (k', b), some (k'', c) => if (Ty.fZ k k' && Ty.fZ k k'') = true then yes [bz d (.val (.int k) (show Int from min (show Int from min a b) c) true)] else none
  | _, _, _ => none
 | .max, [x, y], _ => match iB v x, iB v y with
  | some (k, a), some (k', b) => if Ty.fZ k k' = true then yes [bz d (.val (.int k) (show Int from max a b) true)] else none
  | _, _ => none
 | .min, [x, y], _ => match iB v x, iB v y with
  | some (k, a), some (k', b) => if Ty.fZ k k' = true then yes [bz d (.val (.int k) (show Int from min a b) true)] else none
  | _, _ => none
 | _, _, _ => none
def Bz (v : Env) (d : Nat) (c x y : Operand) : Option pq :=
 match fb v c with
 | some (.val .bool b _) => match jn v x, jn v y with
  | some (.cell (.val t p f)), some (.cell (.val t' q f')) => match wA t t' q with
   | some q => yes [bz d (.val t (cond b p q) (f && f'))]
   | none => none
  | some p, some .undef => match b with | true => yes [nO d p] | false => none
  | some .undef, some q => match b with | true => none | false => yes [nO d q]
  | _, _ => none
 | _ => none
def BA (T : Types) (v : Env) (d : Nat) (s t : Nat) (x : Operand) : Option pq :=
 match look T s, look T t, jn v x with
 | some _, some ti, some (.cell (.val (.int _) n _)) => match ti.d with
  | .int k' => yes [bz d (.val (.int k') (k'.wrap n) true)]
  | _ => none
 | some _, some ti, some (.cell (.val .str s f)) => match ti.d with
  | .string => yes [bz d (.val .str s f)]
  | _ => none
 | _, _, _ => none
def oR (xs : List Int) : ByteArray := xs.foldl (fun r n => r.push (UInt8.ofNat n.toNat)) ByteArray.empty
def strOf (T : Types) (v : Env) (s t : Nat) (x : Operand) : Option ByteArray :=
 match look T s, look T t, fb v x with
 | some si, some ti, some cl => match si.d, ti.d with
  | .slice e, .string => match look T e with
   | some ei => match ei.d with
    | .int .u8 => match cl with
     | .nil => some ByteArray.empty
     | cl => match content v cl with
      | some ⟨t', xs, _⟩ => (lQ (.int .u8) t' xs).map oR
      | none => none
    | _ => none
   | none => none
  | _, _ => none
 | _, _, _ => none
def p8 : List Cell → Option (List Nat)
 | [] => some []
 | .ptr o 0 :: r => (p8 r).map (o :: ·)
 | _ => none
def BB : List (ByteArray × Int) → ByteArray → Int → List (ByteArray × Int)
 | [], s, n => [(s, n)]
 | e :: r, s, n => cond (s.toList == e.1.toList) ((s, n) :: r) (e :: BB r s n)
def BC : List (ByteArray × Int) → ByteArray → Int
 | [], _ => 0
 | e :: r, s => cond (s.toList == e.1.toList) e.2 (BC r s)
def HH (es : List (ByteArray × Int)) (s : ByteArray) : Bool := es.any fun e => s.toList == e.1.toList
def mapOf (T : Types) (t : Nat) : Option IntKind := match look T t with
 | some i => match i.d with
  | .map k e => match look T k, look T e with
   | some ki, some ei => match ki.d, ei.d with
    | .string, .int kk => some kk
    | _, _ => none
   | _, _ => none
  | _ => none
 | none => none
def tn (T : Types) (d t : Nat) : Option pq := match mapOf T t with
 | some k => yes [.obj (nm d 0) (some (.mp k [] 0)), bz d (.mp (nm d 0))]
 | none => none
def rm (T : Types) (v : Env) (t : Nat) (m x y : Operand) : Option pq :=
 match mapOf T t, fb v m, fb v x, iB v y with
 | some k, some (.mp o), some (.val .str s _), some (k', n) => match v.obj o with
  | some (.mp k'' es st) => if (Ty.fZ k k' && (Ty.fZ k k'' && (Nat.beq st 0 || Nat.beq st 2))) = true then yes [.obj o (some (.mp k (BB es s n) st))] else none
  | _ => none
 | _, _, _, _ => none
def vA (T : Types) (v : Env) (d t : Nat) (m x : Operand) : Option pq :=
 match mapOf T t, fb v m, fb v x with
 | some k, some (.mp o), some (.val .str s _) => match v.obj o with
  | some (.mp k' es _) => if Ty.fZ k k' = true then some ⟨HH es s, [bz d (.val (.int k) (BC es s) true)]⟩ else none
  | _ => none
 | _, _, _ => none
noncomputable def oper (T : Types) (u : Env) (o : Oper) (v : Env) : Option pq :=
 match o.dst with
 | none => match o.op with
  | .store t x y => yr T v t x y
  | .mapUpdate t m x y => rm T v t m x y
  | .insert t m x y => rm T v t m x y
  | _ => none
 | some d => match o.op with
  | .move x | .assign x => match jn v x with | some r => yes [nO d r] | none => none
  | .pick c x y => Bz v d c x y
  | .alloc t => match look T t with | some i => yes [.obj (nm d 0) (some (.box (zeroCells i.ty) 0)), bz d (.ptr (nm d 0) 0)] | none => none
  | .box t x => match look T t, (jn v x).bind SV.cells with
   | some i, some cs => if Nat.beq cs.length i.size = true then yes [.obj (nm d 0) (some (.box cs 0)), bz d (.ptr (nm d 0) 0)] else none
   | _, _ => none
  | .build t ps => yw T v d t ps.toList
  | .buildSlice t n ps => nx T v d t n ps.toList
  | .load t x => Bv T v d t x
  | .nilCheck x => match fb v x with
   | some (.ptr o off) => yes [bz d (.ptr o off)]
   | some (.xQ o t i off) => yes [bz d (.xQ o t i off)]
   | some (.lj t x f) => yes [bz d (.lj t x f)]
   | some (.ad et t k i off) => yes [bz d (.ad et t k i off)]
   | _ => none
  | .binOp op t x y _ => E5 T v d op t x y
  | .unOp op _ x => match op, jn v x with
   | .not, some (.cell (.val .bool b _)) => yes [bz d (.val .bool (!b) true)]
   | .neg, some (.cell (.val (.int k) n _)) => yes [bz d (.val (.int k) (k.wrap ((0 : Int) - (show Int from n))) true)]
   | _, _ => none
  | .convert s t x => match BA T v d s t x with
   | some ef => some ef
   | none => (strOf T v s t x).map fun b => ⟨true, [bz d (.val .str b true)]⟩
  | .makeFunc (.func f) first caps => match first.toList, (caps.toList.mapM (fb v)).bind p8 with
   | [], some l => yes [bz d (.fn f l)]
   | _, _ => none
  | .makeSlice t l c => Bw T v d t l c
  | .makeMap t none => tn T d t
  | .lookup t m x false => vA T v d t m x
  | .slice t x lo hi mx => yv T v d t x lo hi mx
  | .fieldAddr s x f => yt T v d s x f
  | .field t x f => match look T t, jn v x with
   | some i, some (.agg cs) => match i.d with
    | .struct fs => match fs[f]? with
     | some (fo, ft) => match look T ft with
      | some fi => match sv fi.isAgg ((cs.drop fo).take fi.size) with
       | some r => if Nat.ble (fo + fi.size) cs.length = true then yes [nO d r] else none
       | none => none
      | none => none
     | none => none
    | _ => none
   | _, _ => none
  | .indexAddr t x y => yu T v d t x y
  | .index t x y => match look T t, fb v x, iB v y with
   | some i, some (.val .str s _), some (_, n) => match i.d with
    | .string => some ⟨bQ n (ByteArray.size s : Nat), [bz d (.val (.int .u8) (bt s n) true)]⟩
    | _ => none
   | _, _, _ => none
  | .extract x j => match jn v x with
   | some (.xr l) => match l[j]? with
    | some (a, cs) => match sv a cs with | some r => yes [nO d r] | none => none
    | none => none
   | _ => none
  | .call { callee := .builtin b, args, argTypes } => tm T u v d b args.toList argTypes.toList
  | _ => none
end Go.Px
namespace Go.Px
open Go
abbrev Cell.names : Cell → List Nat := aq
def SV.names : SV → List Nat
 | .cell c => c.names | .agg cs => cs.flatMap Cell.names | .xr l => l.flatMap fun p => p.2.flatMap Cell.names | .undef => [] | .top => []
def OV.names : OV → List Nat
 | .row .. => [] | .box cs _ => cs.flatMap Cell.names | .mp .. => [] | .mem .. => [] | .al .. => [] | .dead => []
def dP {α : Type} (f : α → List Nat) : Nat × Option α → List Nat
 | (_, some v) => f v
 | (_, none) => []
def tmpsOf : List Operand → List Nat
 | [] => []
 | .tmp t :: r => t :: tmpsOf r
 | _ :: r => tmpsOf r
def Ah : Ty → List Nat
 | .aI et t => an et :: Ah t | .slice t => Ah t | .cons a b => Ah a ++ Ah b | _ => []
def E6 : Cell → List Nat
 | .val t _ _ => Ah t | .lj t _ _ => Ah t | .ad et t _ _ _ => an et :: Ah t | _ => []
def SV.QE : SV → List Nat
 | .cell c => E6 c | .agg cs => cs.flatMap E6 | .xr l => l.flatMap fun p => p.2.flatMap E6 | .undef => [] | .top => []
def OV.QE : OV → List Nat
 | .row _ et _ _ _ => [an et] | .al _ et _ => [an et] | _ => []
def wB (e : Env) (ts ms : List Nat) : Env :=
 let ss := ts.map fun t => (t, e.slot t)
 let o1 := (ss.flatMap (dP SV.names)).map fun n => (n, e.obj n)
 let o2 := (o1.flatMap (dP OV.names)).map fun n => (n, e.obj n)
 let o3 := ((ss.flatMap (dP SV.QE) ++ o1.flatMap (dP OV.QE)) ++ ms).map fun n => (n, e.obj n)
 ⟨ss, o1 ++ o2 ++ o3⟩
inductive eZ where
 | val (t : Ty) (fr : Bool) | row (t : Ty) (et : Nat) (fr : Bool)
def eZ.den : eZ → Type
 | .val t _ => t.den | .row t _ _ => List t.den
def cR : List eZ → Type
 | [] => Unit
 | c :: r => c.den × cR r
def cR.append : (a b : List eZ) → cR a → cR b → cR (a ++ b)
 | [], _, _, q => q
 | _ :: a, b, p, q => (p.1, cR.append a b p.2 q)
def cR.split : (a b : List eZ) → cR (a ++ b) → cR a × cR b
 | [], _, q => ((), q)
 | _ :: a, b, p => let r := cR.split a b p.2; ((p.1, r.1), r.2)
inductive kC where
 | cell (c : eZ) | agg (cs : List eZ) | box (cs : List eZ) | fn (f : Nat) (caps : List (List eZ)) | ad (et : Nat) (t : Ty) (off : Nat)
def kC.flat : kC → List eZ
 | .cell c => [c] | .agg cs => cs | .box cs => cs | .fn _ l => l.flatten | .ad et t _ => [.val (.aI et t) false]
def kC.boxes : kC → List (List eZ)
 | .box cs => [cs] | .fn _ l => l | _ => []
def aK : List (Nat × List eZ) → List eZ
 | [] => []
 | p :: l => p.2 ++ aK l
structure bh where
 ins : List kC
 outs : List (Nat × List eZ)
 bA : List (Nat × Ty) := []
@[reducible] def bh.inl (s : bh) : List eZ := s.ins.flatMap kC.flat
@[reducible] def bh.boxes (s : bh) : List (List eZ) := s.ins.flatMap kC.boxes
@[reducible] def bh.BD (s : bh) : List eZ := aK s.outs ++ s.boxes.flatten
def bN (A : Type) : List (Nat × Ty) → Type
 | [] => A
 | p :: r => List (Option (List p.2.den)) × bN A r
def bN.out {A : Type} : (ms : List (Nat × Ty)) → bN A ms → A
 | [], q => q
 | _ :: r, q => bN.out r q.2
abbrev mM := bN Unit
def bN.ms {A : Type} : (ms : List (Nat × Ty)) → bN A ms → mM ms
 | [], _ => ()
 | _ :: r, q => (q.1, bN.ms r q.2)
def bN.mk {A : Type} : (ms : List (Nat × Ty)) → A → mM ms → bN A ms
 | [], a, _ => a
 | _ :: r, a, q => (q.1, bN.mk r a q.2)
def tp (v : Env) : (ms : List (Nat × Ty)) → Option (mM ms)
 | [] => some ()
 | p :: r => match pv v p.1 p.2, tp v r with
  | some bs, some q => some (bs, q)
  | _, _ => none
def gb : (ms : List (Nat × Ty)) → mM ms → List (Nat × Option OV)
 | [], _ => []
 | p :: r, q => (an p.1, some (.mem p.2 p.1 q.1)) :: gb r q.2
def aJ (ms : List (Nat × Ty)) : List Nat := ms.map fun p => an p.1
abbrev bh.In (s : bh) : Type := bN (cR s.inl) s.bA
abbrev bh.Out (s : bh) : Type := bN (cR s.BD) s.bA
structure FD where
 sig : bh
 run : sig.In → Option sig.Out
abbrev Den := Nat → List Nat → Option FD
structure ik (l : List eZ) where
 nM : cR l
 fresh : Bool
 eN : List Nat
 boxes : List (Nat × List Cell × Nat)
 iI : List Nat
 ok : Bool
def flat : Ty → Ty
 | .aI _ t => .slice (flat t) | .slice t => .slice (flat t) | .cons a b => .cons (flat a) (flat b) | t => t
def seen (v : Env) : (t : Ty) → t.den → (flat t).den
 | .aI et t, x => match pv v et t with | some bs => (au bs x).map (seen v t) | none => ([] : List (flat t).den)
 | .slice t, xs => List.map (seen v t) xs
 | .cons a b, x => (seen v a x.1, seen v b x.2)
 | .int _, x => x | .bool, x => x | .str, x => x | .err, x => x | .mp, x => x | .nil, x => x
def p9 : Ty → Bool
 | .aI _ _ => false | .slice t => p9 t | .cons a b => p9 a && p9 b | _ => true
def gn (v : Env) : (t : Ty) → t.den → Bool
 | .aI et t, x => match pv v et t with | some bs => cond (p9 t) (bH bs x) (bH bs x && (au bs x).all (gn v t)) | none => false
 | .slice t, xs => cond (p9 t) true (List.all xs (gn v t))
 | .cons a b, x => gn v a x.1 && gn v b x.2
 | _, _ => true
def ik.none : ik [] := ⟨(), true, [], [], [], true⟩
def loose (st : Nat) : Bool := Nat.beq st 0 || Nat.beq st 2
def isVal : eZ → Bool
 | .val _ _ => true | _ => false
def oS (v : Env) (c : eZ) (x : Cell) : Option (c.den × Bool × List Nat × Bool) :=
 match c with
 | .val t fl => if (!fl || !(cE t)) = true then match x with
  | .val t' y f => if t'.beq t = true then (wA t t' y).map fun z => (z, f || !(cE t'), [], true)
   else (wA t (flat t') (seen v t' y)).map fun z => (z, f || !(cE t'), Ah t', gn v t' y)
  | .nil => match t with | .slice e => some (([] : List e.den), true, [], true) | .aI _ _ => some (((0, 0, 0) : Nat × Nat × Nat), true, [], true) | _ => none
  | x => match content v x with
   | some ⟨t', xs, f⟩ => match t with
    | .slice e => if t'.beq e = true then (lQ e t' xs).map fun z => (z, f, x.names, true)
     else (lQ e (flat t') (xs.map (seen v t'))).map fun z => (z, f, x.names ++ Ah t', xs.all (gn v t'))
    | _ => none
   | none => none
  else none
 | .row t et fl => if (!fl || !(cE t)) = true then match x with
  | .row o => match v.obj o with
   | some (.row t' et' xs f' st) => if (Nat.beq et et' && loose st) = true then (lQ t t' xs).map fun z => (z, f' || !(cE t), [], true) else none
   | _ => none
  | .nil => some (([] : List t.den), true, [], true)
  | _ => none
  else none
def rn : Cell → List Nat
 | .row o => [o] | _ => []
def P2 : eZ → Cell → List Nat
 | .row _ _ _, x => rn x
 | _, _ => []
def eL (v : Env) : (l : List eZ) → List Cell → Option (ik l)
 | [], [] => some .none
 | c :: l, x :: xs => match oS v c x, eL v l xs with
  | some (z, f, ns, ok), some a => some ⟨(z, a.nM), f && a.fresh, ns ++ a.eN, [], P2 c x ++ a.iI, ok && a.ok⟩
  | _, _ => none
 | _, _ => none
def ik.join {a b : List eZ} (x : ik a) (y : ik b) : ik (a ++ b) := ⟨cR.append a b x.nM y.nM, x.fresh && y.fresh, x.eN ++ y.eN, x.boxes ++ y.boxes, x.iI ++ y.iI, x.ok && y.ok⟩
def wC (v : Env) (st : Nat) : List Cell → Nat
 | [] => st
 | .row o :: r => match v.obj o with
  | some (.row _ _ _ _ 2) => 2
  | _ => wC v st r
 | _ :: r => wC v st r
def BE (v : Env) (cs : List eZ) (o : Nat) : Option (ik cs) := match v.obj o with
 | some (.box xs st) => if loose st = true then match eL v cs xs with
  | some a => match a.eN with
   | [] => some ⟨a.nM, a.fresh, [], [(o, xs, wC v st xs)], [], a.ok⟩
   | _ => none
  | none => none else none
 | _ => none
def tS (v : Env) : (l : List (List eZ)) → List Nat → Option (ik l.flatten)
 | [], [] => some .none
 | cs :: l, o :: os => match BE v cs o, tS v l os with
  | some a, some b => some (a.join b)
  | _, _ => none
 | _, _ => none
def E7 (v : Env) (c : eZ) (x : SV) : Option (ik [c]) := match x with
 | .cell y => eL v [c] [y]
 | _ => none
def E8 (v : Env) (cs : List eZ) (x : SV) : Option (ik cs) := match x with
 | .agg xs => eL v cs xs
 | _ => none
def E9 (v : Env) (cs : List eZ) (x : SV) : Option (ik cs) := match x with
 | .cell (.ptr o 0) => BE v cs o
 | _ => none
def Jo (v : Env) (f : Nat) (l : List (List eZ)) (x : SV) : Option (ik l.flatten) := match x with
 | .cell (.fn g os) => if Nat.beq f g = true then tS v l os else none
 | _ => none
def Jp (et : Nat) (t : Ty) (off : Nat) : SV → Option (ik [.val (.aI et t) false])
 | .cell (.ad et' t' k i off') => if (Nat.beq et et' && (t'.beq t && Nat.beq off off')) = true then some ⟨(((k, i, 1) : Nat × Nat × Nat), ()), true, [], [], [], true⟩ else none
 | _ => none
def arg (v : Env) : (p : kC) → SV → Option (ik p.flat)
 | .cell c, x => E7 v c x
 | .agg cs, x => E8 v cs x
 | .box cs, x => E9 v cs x
 | .fn f l, x => Jo v f l x
 | .ad et t off, x => Jp et t off x
def args (v : Env) : (l : List kC) → List SV → Option (ik (l.flatMap kC.flat))
 | [], [] => some .none
 | p :: l, x :: xs => match arg v p x, args v l xs with
  | some a, some b => some (a.join b)
  | _, _ => none
 | _, _ => none
def ea (d : Nat) (fresh : Bool) (st : Nat) : (j : Nat) → (l : List eZ) → cR l → List Cell × List W × Nat
 | j, [], _ => ([], [], j)
 | j, .val t f :: l, p => let r := ea d fresh st j l p.2; (.val t p.1 (f || fresh || !(cE t)) :: r.1, r.2.1, r.2.2)
 | j, .row t et f :: l, p => let r := ea d fresh st (j + 1) l p.2; (.row (nm d j) :: r.1, .obj (nm d j) (some (.row t et p.1 (f || fresh || !(cE t)) st)) :: r.2.1, r.2.2)
def outs (d : Nat) (fresh : Bool) (st : Nat) : (j : Nat) → (l : List (Nat × List eZ)) → cR (aK l) → List (Bool × List Cell) × List W × Nat
 | j, [], _ => ([], [], j)
 | j, bc :: l, p =>
  let q := cR.split bc.2 (aK l) p
  let r := ea d fresh st j bc.2 q.1
  cond (Nat.beq bc.1 2)
   (let s := outs d fresh st (r.2.2 + 1) l q.2
    ((false, [.ptr (nm d r.2.2) 0]) :: s.1, r.2.1 ++ .obj (nm d r.2.2) (some (.box r.1 st)) :: s.2.1, s.2.2))
   (let s := outs d fresh st r.2.2 l q.2
    ((Nat.beq bc.1 1, r.1) :: s.1, r.2.1 ++ s.2.1, s.2.2))
def qa (v : Env) (d : Nat) (fresh : Bool) (st : Nat) : (j : Nat) → (l : List (List eZ)) → List (Nat × List Cell × Nat) → cR l.flatten → List W
 | _, [], _, _ => []
 | _, _ :: _, [], _ => []
 | j, cs :: l, (o, _, _) :: bs, p =>
  let q := cR.split cs l.flatten p
  let r := ea d fresh st j cs q.1
  r.2.1 ++ (.obj o (some (.box r.1 (match v.obj o with | some (.box _ st) => st | _ => 0))) :: qa v d fresh st r.2.2 l bs q.2)
def aE : List eZ → Nat
 | [] => 0
 | .val _ _ :: l => aE l
 | .row _ _ _ :: l => aE l + 1
def bj : List (Nat × List eZ) → Nat
 | [] => 0
 | bc :: l => aE bc.2 + (cond (Nat.beq bc.1 2) 1 0) + bj l
def b6 : List (List eZ) → Nat
 | [] => 0
 | cs :: l => aE cs + b6 l
def lS : List eZ → Bool
 | [] => false
 | .val t f :: l => (cE t && !f) || lS l
 | .row t _ f :: l => (cE t && !f) || lS l
def tT (v : Env) : List Nat → Option (List W)
 | [] => some []
 | n :: r => match v.obj n, tT v r with
  | some (.row t et xs f 0), some ws => some (.obj n (some (.row t et xs f 1)) :: ws)
  | some (.row _ _ _ _ 1), some ws => some ws
  | _, _ => none
def keyOf : List SV → List Nat
 | [] => []
 | .cell (.fn f _) :: r => f :: keyOf r
 | .cell (.ad et _ _ _ off) :: r => (800000 + et * 100 + off) :: keyOf r
 | _ :: r => keyOf r
def AR (v : Env) : List Operand → Option (List SV)
 | [] => some []
 | x :: r => match jn v x, AR v r with
  | some s, some l => some (s :: l)
  | _, _ => none
def Jq (l : List (Bool × List Cell)) : SV := match l with
 | [(b, cs)] => match sv b cs with | some r => r | none => .top
 | l => .xr l
def nodupB : List Nat → Bool
 | [] => true
 | a :: r => !(r.any (Nat.beq a)) && nodupB r
def tU (l : List (Nat × List Cell × Nat)) : Nat := cond (l.any fun b => !(Nat.beq b.2.2 0)) 2 0
def nP (v : Env) : List Nat → Nat
 | [] => 0
 | o :: r => match v.obj o with
  | some (.row _ _ _ _ 0) => nP v r
  | _ => 2
def mS (ms : List (Nat × Ty)) : Ty → Bool
 | .aI et t => (ms.any fun p => Nat.beq p.1 et) && mS ms t | .slice t => mS ms t | .cons a b => mS ms a && mS ms b | _ => true
def ec (ms : List (Nat × Ty)) : List eZ → Bool
 | [] => true
 | .val t _ :: l => mS ms t && ec ms l
 | .row t _ _ :: l => mS ms t && ec ms l
structure Made where
 fd : FD
 nM : fd.sig.In
 ws : fd.sig.Out → List W
 PZ : Nat
 ok : Bool
def callee (v : Env) (x : Operand) : Option (Nat × List Nat) := match jn v x with | some (.cell (.fn f caps)) => some (f, caps) | _ => none
def P3 (d : Option Nat) (l : List (Bool × List Cell)) : List W := match d with | some d => [nO d (Jq l)] | none => []
def Gq (l : List (Nat × Option OV)) : List W := l.map fun p => .obj p.1 p.2
def made (D : Den) (v : Env) (d : Option Nat) (f : Operand) (xs : List Operand) : Option Made :=
 match callee v f, AR v xs with
 | some (g, caps), some l => match D g (keyOf l) with
  | some fd =>
   let l' := l ++ caps.map fun o => .cell (.ptr o 0)
   match args v fd.sig.ins l', tp v fd.sig.bA with
   | some a, some pm =>
    let mv := a.iI ++ aJ fd.sig.bA
    let bn := (a.boxes.flatMap fun b => b.1 :: b.2.1.flatMap Cell.names) ++ mv
    let fz := if lS fd.sig.BD = true then tT v a.eN else some []
    match fz with
    | some fz => if (nodupB bn && (!(bn.any fun n => a.eN.any (Nat.beq n)) && (ec fd.sig.bA fd.sig.BD && fd.sig.bA.all fun p => mS fd.sig.bA p.2))) = true then
      some ⟨fd, bN.mk _ a.nM pm, fun qx =>
       let q := bN.out _ qx
       let s := cR.split (aK fd.sig.outs) fd.sig.boxes.flatten q
       let st := nP v mv
       let r := outs (d.getD 0) a.fresh st 0 fd.sig.outs s.1
       fz ++ (bn.map (fun n => .obj n none) ++ (r.2.1 ++ (qa v (d.getD 0) a.fresh (tU a.boxes) r.2.2 fd.sig.boxes a.boxes s.2 ++ (Gq (gb fd.sig.bA (bN.ms _ qx)) ++ P3 d r.1)))), bj fd.sig.outs + b6 fd.sig.boxes, a.ok⟩ else none
    | none => none
   | _, _ => none
  | none => none
 | _, _ => none
structure Cx where
 T : Types
 D : Den
 n : Nat
 N : Nat
 pins : List Nat
 bA : List Nat
def fk (o : Oper) : Option (Operand × List Operand) := match o.op with
 | .call { callee := .value f, args, .. } => some (f, args.toList)
 | _ => none
def BF (d n : Nat) : Bool := Nat.beq (n / 64) (d + 1)
def dx : W → List Nat
 | .slot _ (some v) => v.names
 | .slot _ none => []
 | .obj o (some v) => o :: v.names
 | .obj o none => [o]
def Fa (e : Env) (d : Nat) : Bool :=
 !(e.bk.any fun p => (dP SV.names p).any (BF d)) && !(e.aY.any fun p => BF d p.1 || (dP OV.names p).any (BF d))
def Fb (e : Env) : Option Nat → Bool
 | none => false
 | some d => Fa e d
def tV (o : Oper) : Bool := match o.op with
 | .alloc _ | .box _ _ | .buildSlice _ _ _ | .makeSlice _ _ _ | .makeMap _ _ => true
 | .slice _ _ _ _ mx => mx.isSome
 | .call { callee := .builtin .append, .. } => true
 | _ => false
def wD (N : Nat) (pins : List Nat) (o : Oper) : Bool := match o.dst with | none => true | some d => Nat.ble (d + 1) N && !(pins.any (Nat.beq d))
def yy (l : List Nat) (s : Nat) : Bool := l.any (Nat.beq s)
def yz : Cell → Cell → Bool
 | .val (.int k) x _, .val (.int k') y _ => cond (Ty.fZ k k') (show Bool from (show Int from x) == (show Int from y)) false
 | .val .bool x _, .val .bool y _ => r9 x y
 | _, _ => false
def nQ : List Cell → List Cell → Bool
 | [], [] => true
 | c :: r, d :: s => yz c d && nQ r s
 | _, _ => false
def BG : Option OV → Option OV → Bool
 | some (.box cs st), some (.box ds st') => cond (Nat.beq st st') (nQ cs ds) false
 | _, _ => false
def prune (pr : List Nat) : List W → List W
 | [] => []
 | .slot s v :: r => .slot s v :: prune pr r
 | .obj o v :: r => cond (yy pr o) (prune pr r) (.obj o v :: prune pr r)
def rp (v : Env) (ws : List W) : List Nat → Bool
 | [] => true
 | b :: r => BG (v.obj b) ((v.aF ws).obj b) && rp v ws r
def plainCell : Cell → Bool
 | .val (.int _) _ _ => true | .val .bool _ _ => true | _ => false
def Jr (e : Env) (b : Nat) : Bool := match e.obj b with | some (.box cs _) => cs.all plainCell | _ => false
def Ld (e : Env) (all : List Oper) (b : Nat) : Bool := all.any fun o => (tmpsOf o.op.operands.toList).any fun t => match e.slot t with | some (.cell (.ptr n _)) => Nat.beq n b | _ => false
def closed (e : Env) (all : List Oper) (b : Nat) : Nat := (all.filter fun o => (tmpsOf o.op.operands.toList).any fun t => match e.slot t with | some (.cell (.fn _ caps)) => yy caps b | _ => false).length
def NN (e : Env) (all : List Oper) (o : Oper) : List Nat := match fk o with
 | some (f, _) => match callee (wB e (tmpsOf o.op.operands.toList) []) f with
  | some (_, caps) => caps.filter fun b => Jr e b && (Ld e all b || Nat.ble 3 (closed e all b))
  | none => []
 | none => []
def ld (v : Env) : Cell → Cell × List W
 | .row o => match v.obj o with
  | some (.row t et xs f st) => match pv v et t with
   | some bs => if (!(cE t) && (Nat.beq st 0 || Nat.beq st 2)) = true then
     (.val (.aI et t) ((bs.length + 1, 0, xs.length) : Nat × Nat × Nat) true, [.obj o (some (.al t et (bs.length + 1, 0, xs.length))), .obj (an et) (some (.mem t et (bs ++ [some xs])))]) else (.row o, [])
   | none => (.row o, [])
  | _ => (.row o, [])
 | c => (c, [])
def iD (v : Env) : List Cell → List Cell × List W
 | [] => ([], [])
 | c :: r => let p := ld v c; let q := iD (v.aF p.2) r; (p.1 :: q.1, p.2 ++ q.2)
def xM (v : Env) (s : Nat) : List W := match v.slot s with
 | some (.cell c) => let p := ld v c; match p.2 with | [] => [] | x :: w => (x :: w) ++ [bz s p.1]
 | some (.agg cs) => let p := iD v cs; match p.2 with | [] => [] | x :: w => (x :: w) ++ [nO s (.agg p.1)]
 | _ => []
def dM (v : Env) : List Nat → List W
 | [] => []
 | s :: r => let w := xM v s; w ++ dM (v.aF w) r
def Dk (v : Env) (d s : Nat) : Bool × List W := match v.slot s with
 | some (.cell (.val (.aI et t) x _)) => match pv v et t with
  | some bs => (Q2 bs x,
    [.obj (an et) (some (.mem t et (eY bs none x.1))), .obj (nm d 1) (some (.row t et (Q8 bs x) true 2)), bz s (.row (nm d 1))])
  | none => (true, [])
 | _ => (true, [])
def P4 : Operand → List Nat
 | .tmp t => [t] | _ => []
def isVar (v : Env) (x : Operand) : Bool := match fb v x with | some (.ptr _ _) => true | _ => false
def P5 (v : Env) : Operand → List Nat
 | .tmp t => match v.slot t with | some (.agg _) => [t] | _ => []
 | _ => []
def pre (D : Den) (v : Env) (o : Oper) : Bool × List W := match fk o with
 | some (f, xs) => match callee v f, AR v xs with
  | some (g, _), some l => match D g (keyOf l) with
   | some fd => cond fd.sig.bA.isEmpty (true, []) (true, dM v (tmpsOf xs))
   | none => (true, [])
  | _, _ => (true, [])
 | none => match o.op, o.dst with
  | .call { callee := .builtin .append, args, .. }, some d => match args.toList with
   | .tmp s :: _ => Dk v d s
   | _ => (true, [])
  | .store _ x y, _ => cond (isVar v x) (true, dM v (P5 v y)) (true, dM v (P4 y))
  | .buildSlice _ _ ps, _ => (true, dM v (tmpsOf (ps.toList.map (·.2))))
  | _, _ => (true, [])
def SV.rows : SV → List Nat
 | .cell (.row o) => [o] | _ => []
def Gr (e : Env) (ts : List Nat) : Env :=
 let ss := ts.map fun t => (t, e.slot t)
 ⟨ss, (ss.flatMap (dP SV.rows)).map fun n => (n, e.obj n)⟩
def Fc (o : Oper) : Bool := match o.op with
 | .move _ => true | .assign _ => true | _ => false
def vw (cx : Cx) (e : Env) (o : Oper) : Env := cond (Fc o) (Gr e (tmpsOf o.op.operands.toList)) <| wB e (tmpsOf o.op.operands.toList) (match fk o with | some _ => cx.bA | none => [])
section
variable (cx : Cx)
noncomputable def exec {R : Type} (pr : List Nat) (o : Oper) (e : Env) (K : List W → Option R) : Option R :=
 let v0 := vw cx e o
 let p := pre cx.D v0 o
 let v := v0.aF p.2
 cond p.1 (match fk o with
 | some (f, xs) => match made cx.D v o.dst f xs with
  | some m => cond (Nat.beq m.PZ 0 || (Nat.ble m.PZ 64 && Fb e o.dst)) (cond m.ok ((m.fd.run m.nM).bind fun q => match pr with
   | [] => K (p.2 ++ m.ws q)
   | b :: pr => cond (rp v0 (p.2 ++ m.ws q) (b :: pr)) (K (prune (b :: pr) (p.2 ++ m.ws q))) none) none) none
  | none => none
 | none => match oper cx.T v0 o v with
  | some ef => cond (!(tV o) || Fb e o.dst) (cond ef.ok (K (p.2 ++ ef.ws)) none) none
  | none => none) none
def so (o : Oper) : List W := match o.dst with | some d => [.slot d (some .undef)] | none => []
def fp (all : List Oper) (o : Oper) : Option (Option Nat × Bool) := match o.guard with
 | none => none
 | some (j, want) => some ((all[j]?).bind (·.dst), want)
noncomputable def step {R : Type} (pr : List Nat) (all : List Oper) (o : Oper) (e : Env) (K : List W → Env → Option R) : Option R :=
 cond (wD cx.N cx.pins o) (match fp all o with
 | none => exec cx pr o e fun ws => K ws (e.aF ws)
 | some (some s, want) => match e.slot s with
  | some .undef => K (so o) (e.aF (so o))
  | some (.cell (.val .bool b f)) => match b with
   | true => let e' := e.put (bz s (.val .bool true f)); cond want (exec cx pr o e' fun ws => K ws (e'.aF ws)) (K (so o) (e'.aF (so o)))
   | false => let e' := e.put (bz s (.val .bool false f)); cond want (K (so o) (e'.aF (so o))) (exec cx pr o e' fun ws => K ws (e'.aF ws))
  | _ => none
 | some (none, _) => none) none
noncomputable def BH {R : Type} (all : List Oper) : List Oper → Env → (Env → Option R) → Option R
 | [], e, K => K e
 | o :: r, e, K => step cx [] all o e fun _ e' => BH all r e' K
structure Rec where
 i : Nat
 o : Oper
 ws : List W
 rs : List Nat
 ro : List Nat
 cl : Nat
def iE (e : Edge) : Bool := match e.ground with | .textOnly _ => false | .gcOnly _ => false | _ => true
def HI (cl i : Nat) : Bool := Nat.beq (Nat.land (Nat.shiftRight cl i) 1) 1
def HJ : List Rec → Nat → Nat
 | [], _ => 0
 | r :: l, j => cond (Nat.beq r.i j) r.cl (HJ l j)
def closure (recs : List Rec) : List Edge → Nat
 | [] => 0
 | e :: l => cond (iE e) (Nat.lor (Nat.lor (Nat.pow 2 e.on) (HJ recs e.on)) (closure recs l)) (closure recs l)
def xN (recs : List Rec) (o : Oper) : Bool := o.after.toList.all fun e => !(iE e) || recs.any fun r => Nat.beq r.i e.on
def ga : List W → List Nat
 | [] => []
 | .slot s _ :: r => s :: ga r
 | .obj _ _ :: r => ga r
def cw : List W → List Nat
 | [] => []
 | .slot _ _ :: r => cw r
 | .obj o _ :: r => o :: cw r
def sb (a b : List Nat) : Bool := !(a.any (yy b))
def tW (o : Oper) (ws : List W) : Bool := match o.dst with | none => true | some d => !(ws.any fun w => (dx w).any (BF d))
def indep (a b : Rec) : Bool :=
 (sb (ga a.ws) b.rs && (sb (cw a.ws) b.ro && (sb (ga b.ws) a.rs && sb (cw b.ws) a.ro))) &&
 ((sb (ga a.ws) (ga b.ws) && sb (cw a.ws) (cw b.ws)) && (tW a.o b.ws && tW b.o a.ws))
def kD (o : Oper) (all : List Oper) : List Nat := (match fp all o with | some (some s, _) => [s] | _ => []) ++ tmpsOf o.op.operands.toList
noncomputable def tX {R : Type} (all : List Oper) : List Oper → Nat → List Rec → Env → (Env → Option R) → Option R
 | [], _, _, e, K => K e
 | o :: r, i, recs, e, K => cond (xN recs o) (step cx (NN e all o) all o e fun ws e' =>
   let rc : Rec := ⟨i, o, ws, kD o all, (vw cx e o).aY.map (·.1), closure recs o.after.toList⟩
   cond (recs.all fun p => HI rc.cl p.i || indep p rc) (tX all r (i + 1) (rc :: recs) e' K) none) none
end
def Cell.nM : Cell → Type
 | .val t _ _ => t.den | .part _ _ _ _ => Nat × Nat | .xQ _ _ _ _ => Nat | .lj t _ _ => t.den | .ad _ _ _ _ _ => Nat × Nat | _ => Unit
def tY : List Nat → List Nat → Bool
 | [], [] => true
 | a :: r, b :: s => Nat.beq a b && tY r s
 | _, _ => false
def Cell.get : (G : Cell) → Cell → Option G.nM
 | .val t _ f, .val t' x f' => if f' || !f then wA t t' x else none
 | .nil, .nil => some ()
 | .row o, .row o' => if Nat.beq o o' then some () else none
 | .part o t _ _, .part o' t' lo n => if Nat.beq o o' && t'.beq t then some (lo, n) else none
 | .ptr o k, .ptr o' k' => if Nat.beq o o' && Nat.beq k k' then some () else none
 | .xQ o t _ k, .xQ o' t' i k' => if Nat.beq o o' && (t'.beq t && Nat.beq k k') then some i else none
 | .lj t _ f, .lj t' x f' => if f' || !f then wA t t' x else none
 | .fn f l, .fn f' l' => if Nat.beq f f' && tY l l' then some () else none
 | .mp o, .mp o' => if Nat.beq o o' then some () else none
 | .ad et t _ _ off, .ad et' t' k i off' => if Nat.beq et et' && (t'.beq t && Nat.beq off off') then some (k, i) else none
 | _, _ => none
def Cell.mk : (G : Cell) → G.nM → Cell
 | .val t _ f, p => .val t p f
 | .nil, _ => .nil
 | .row o, _ => .row o
 | .part o t _ _, p => .part o t p.1 p.2
 | .ptr o k, _ => .ptr o k
 | .xQ o t _ k, p => .xQ o t p k
 | .lj t _ f, p => .lj t p f
 | .fn f l, _ => .fn f l
 | .mp o, _ => .mp o
 | .ad et t _ _ off, p => .ad et t p.1 p.2 off
def jU : List Cell → Type
 | [] => Unit
 | c :: r => c.nM × jU r
def nS : (G : List Cell) → List Cell → Option (jU G)
 | [], [] => some ()
 | c :: r, x :: s => match c.get x, nS r s with
  | some a, some b => some (a, b)
  | _, _ => none
 | _, _ => none
def tZ : (G : List Cell) → jU G → List Cell
 | [], _ => []
 | c :: r, p => c.mk p.1 :: tZ r p.2
def yA : List (Bool × List Cell) → Type
 | [] => Unit
 | c :: r => jU c.2 × yA r
def BI : (G : List (Bool × List Cell)) → List (Bool × List Cell) → Option (yA G)
 | [], [] => some ()
 | c :: r, x :: s => if r9 c.1 x.1 = true then match nS c.2 x.2, BI r s with
   | some a, some b => some (a, b)
   | _, _ => none
  else none
 | _, _ => none
def Js : (G : List (Bool × List Cell)) → yA G → List (Bool × List Cell)
 | [], _ => []
 | c :: r, p => (c.1, tZ c.2 p.1) :: Js r p.2
def SV.nM : SV → Type
 | .cell c => c.nM | .agg cs => jU cs | .xr l => yA l | .undef => Unit | .top => Unit
def SV.get : (G : SV) → SV → Option G.nM
 | .cell c, .cell x => c.get x
 | .agg cs, .agg xs => nS cs xs
 | .xr l, .xr m => BI l m
 | .undef, .undef => some ()
 | .top, _ => some ()
 | _, _ => none
def SV.mk : (G : SV) → G.nM → SV
 | .cell c, p => .cell (c.mk p) | .agg cs, p => .agg (tZ cs p) | .xr l, p => .xr (Js l p) | .undef, _ => .undef | .top, _ => .top
def OV.nM : OV → Type
 | .row t _ _ _ _ => List t.den | .box cs _ => jU cs | .mp _ _ _ => List (ByteArray × Int) | .mem t _ _ => List (Option (List t.den)) | .al _ _ _ => Nat × Nat × Nat | .dead => Unit
def OV.get : (G : OV) → OV → Option G.nM
 | .row t et _ f st, .row t' et' xs f' st' => if Nat.beq et et' && (Nat.beq st st' && (f' || !f)) then lQ t t' xs else none
 | .box cs st, .box xs st' => if Nat.beq st st' then nS cs xs else none
 | .mp k _ st, .mp k' es st' => if (Ty.fZ k k' && Nat.beq st st') = true then some es else none
 | .mem t et _, .mem t' et' bs => if Nat.beq et et' then Gp t t' bs else none
 | .al t et _, .al t' et' x => if (t.beq t' && Nat.beq et et') = true then some x else none
 | .dead, .dead => some ()
 | _, _ => none
def OV.mk : (G : OV) → G.nM → OV
 | .row t et _ f st, p => .row t et p f st | .box cs st, p => .box (tZ cs p) st | .mp k _ st, p => .mp k p st | .mem t et _, p => .mem t et p | .al t et _, p => .al t et p | .dead, _ => .dead
def nT : List (Nat × Option SV) → Type
 | [] => Unit
 | (_, some G) :: r => G.nM × nT r
 | (_, none) :: r => nT r
def nU : (G : List (Nat × Option SV)) → Env → Option (nT G)
 | [], _ => some ()
 | (s, some G) :: r, e => match e.slot s with
  | some x => match G.get x, nU r e with
   | some a, some b => some (a, b)
   | _, _ => none
  | none => none
 | (_, none) :: r, e => nU r e
def rq : (G : List (Nat × Option SV)) → nT G → List (Nat × Option SV)
 | [], _ => []
 | (s, some G) :: r, p => (s, some (G.mk p.1)) :: rq r p.2
 | (s, none) :: r, p => (s, none) :: rq r p
def rr : List (Nat × Option OV) → Type
 | [] => Unit
 | (_, some G) :: r => G.nM × rr r
 | (_, none) :: r => rr r
def ru : (G : List (Nat × Option OV)) → Env → Option (rr G)
 | [], _ => some ()
 | (s, some G) :: r, e => match e.obj s with
  | some x => match G.get x, ru r e with
   | some a, some b => some (a, b)
   | _, _ => none
  | none => none
 | (_, none) :: r, e => ru r e
def vB : (G : List (Nat × Option OV)) → rr G → List (Nat × Option OV)
 | [], _ => []
 | (s, some G) :: r, p => (s, some (G.mk p.1)) :: vB r p.2
 | (s, none) :: r, p => (s, none) :: vB r p
def Jt (G : Env) : Type := nT G.bk × rr G.aY
def Env.get (G e : Env) : Option (Jt G) := match nU G.bk e, ru G.aY e with
 | some a, some b => some (a, b)
 | _, _ => none
def Env.mk' (G : Env) (p : Jt G) : Env := ⟨rq G.bk p.1, vB G.aY p.2⟩
def dedup : List Nat → List Nat → List Nat
 | [], _ => []
 | a :: r, seen => cond (seen.any (Nat.beq a)) (dedup r seen) (a :: dedup r (a :: seen))
def gp : List (Nat × Nat) → Nat → Nat
 | [], s => s
 | (k, v) :: r, s => cond (Nat.beq k s) v (gp r s)
def Cell.Dl (ρ : List (Nat × Nat)) : Cell → Cell
 | .row o => .row (gp ρ o) | .part o t a n => .part (gp ρ o) t a n | .ptr o k => .ptr (gp ρ o) k | .xQ o t i k => .xQ (gp ρ o) t i k
 | .fn f l => .fn f (l.map (gp ρ)) | .mp o => .mp (gp ρ o) | c => c
def SV.Dl (ρ : List (Nat × Nat)) : SV → SV
 | .cell c => .cell (c.Dl ρ) | .agg cs => .agg (cs.map (Cell.Dl ρ)) | .xr l => .xr (l.map fun p => (p.1, p.2.map (Cell.Dl ρ))) | .undef => .undef | .top => .top
def OV.Dl (ρ : List (Nat × Nat)) : OV → OV
 | .row t et xs f st => .row t et xs f st | .box cs st => .box (cs.map (Cell.Dl ρ)) st | .mp k es st => .mp k es st | .mem t et bs => .mem t et bs | .al t et x => .al t et x | .dead => .dead
def iF : Nat → List Nat → List (Nat × Nat)
 | _, [] => []
 | k, a :: r => (a, k) :: iF (k + 1) r
def kept (e : Env) : List Nat → List (Nat × Option SV)
 | [] => []
 | s :: r => match e.slot s with
  | some x => (s, some x) :: kept e r
  | none => kept e r
def sq (e : Env) : List Nat → List (Nat × Option OV)
 | [] => []
 | s :: r => match e.obj s with
  | some x => (s, some x) :: sq e r
  | none => sq e r
def P6 : Option OV → Bool
 | some (.mem ..) => true | _ => false
def Gs : Nat × Option OV → Bool
 | (n, some (.mem ..)) => Nat.ble (n + 1) 1000000
 | _ => false
def vC (e : Env) : List (Nat × Option OV) := (sq e (dedup ((e.aY.filter Gs).map (·.1)) [])).filter Gs
def canon (keep : List Nat) (e : Env) : Env :=
 let ss := kept e (dedup keep [])
 let mm := vC e
 let n1 := dedup (ss.flatMap (dP SV.names)) []
 let n2 := dedup (n1 ++ (sq e n1).flatMap (dP OV.names)) (mm.map (·.1))
 let oo := sq e n2
 let ρ := iF 1000000 (oo.map (·.1))
 let ok (x : Nat × Option SV) : Bool := (dP SV.names x).all fun n => oo.any fun p => Nat.beq p.1 n
 let okO (x : Nat × Option OV) : Bool := !(P6 x.2) && (dP OV.names x).all fun n => oo.any fun p => Nat.beq p.1 n
 ⟨(ss.filter ok).map fun p => (p.1, p.2.map (SV.Dl ρ)), ((oo.filter okO).map fun p => (gp ρ p.1, p.2.map (OV.Dl ρ))) ++ mm⟩
def lJ (e : Env) (o : Nat) : Bool :=
 !(e.aY.any fun p => Nat.beq p.1 o || (dP OV.names p).any (Nat.beq o)) && !(e.bk.any fun p => (dP SV.names p).any (Nat.beq o))
def nW (M : Env) (k : Nat) (m c : Cell) (e : Env) : Cell × Env :=
 match m, c with
 | .row mo, .nil => match M.obj mo with
  | some (.row t et _ _ _) => cond (lJ e k) (.row k, e.put (.obj k (some (.row t et [] true 0)))) (.nil, e)
  | _ => (.nil, e)
 | .val (.slice t) _ f, .nil => (.val (.slice t) ([] : List t.den) f, e)
 | .val (.aI et t) _ _, .nil => (.val (.aI et t) ((0, 0, 0) : Nat × Nat × Nat) true, e)
 | .val (.aI _ _) _ _, .row o => let p := ld e (.row o); (p.1, e.aF p.2)
 | .val (.slice _) _ f, .row o => match e.obj o with
  | some (.row t et xs f' 0) => (.val (.slice t) xs (f' && f), e.put (.obj o (some (.row t et xs f' 1))))
  | some (.row t _ xs f' 1) => (.val (.slice t) xs (f' && f), e)
  | _ => (.row o, e)
 | .val _ _ false, .val t x true => (.val t x false, e)
 | .lj _ _ false, .lj t x true => (.lj t x false, e)
 | .row mo, .row o => match M.obj mo, e.obj o with
  | some (.row _ _ _ f st), some (.row t et xs f' st') =>
   match st', st with
   | 0, 1 => (.row o, e.put (.obj o (some (.row t et xs (f' && f) 1))))
   | 0, 2 => (.row o, e.put (.obj o (some (.row t et xs (f' && f) 2))))
   | st', _ => cond (f' && !f) (.row o, e.put (.obj o (some (.row t et xs f st')))) (.row o, e)
  | _, _ => (.row o, e)
 | .val (.slice _) _ f, .part o t lo n => match e.obj o with
  | some (.row t' et xs f' st) => cond (t'.beq t) (match st with
   | 0 => (.val (.slice t') (((show List t'.den from xs).take (lo + n)).drop lo) (f' && f), e.put (.obj o (some (.row t' et xs f' 1))))
   | 1 => (.val (.slice t') (((show List t'.den from xs).take (lo + n)).drop lo) (f' && f), e)
   | _ => (.part o t lo n, e)) (.part o t lo n, e)
  | _ => (.part o t lo n, e)
 | .row mo, .part o t lo n => match M.obj mo, e.obj o with
  | some (.row _ _ _ f st), some (.row t' et xs f' st') => cond (lJ e k && (t.beq t' && loose st'))
   (.row k, (e.put (.obj o (some .dead))).put (.obj k (some (.row t' et ((xs.take (lo + n)).drop lo) (f' && f) (cond (Nat.beq st 2) 2 st'))))) (.part o t lo n, e)
  | _, _ => (.part o t lo n, e)
 | .part _ _ _ _, .row o => match e.obj o with
  | some (.row t _ xs f' 1) => (.val (.slice t) xs f', e)
  | _ => (.row o, e)
 | _, c => (c, e)
def cj (M : Env) : Nat → List Cell → List Cell → Env → List Cell × Env
 | k, m :: ms, c :: cs, e => let r := nW M k m c e; let s := cj M (k + 1) ms cs r.2; (r.1 :: s.1, s.2)
 | _, _, cs, e => (cs, e)
def yB (M : Env) (k mo o : Nat) (e : Env) : Env :=
 match M.obj mo, e.obj o with
 | some (.box ms _), some (.box cs st) => let r := cj M k ms cs e; r.2.put (.obj o (some (.box r.1 st)))
 | _, _ => e
def rv (M : Env) (e : Env) : Nat × Option SV → Env
 | (s, some m) => match m, e.slot s with
  | .cell (.ptr mo 0), some (.cell (.ptr o 0)) => yB M (3000000 + 64 * s) mo o e
  | .cell m, some (.cell c) => let r := nW M (3000000 + 64 * s) m c e; r.2.put (bz s r.1)
  | .agg ms, some (.agg cs) => let r := cj M (3000000 + 64 * s) ms cs e; r.2.put (nO s (.agg r.1))
  | _, _ => e
 | _ => e
def align (M e : Env) : Env := M.bk.foldl (rv M) e
inductive X where
 | vx | ex (id : Nat) | ret
def Gt (all : List Oper) : List Oper → List Nat
 | [] => []
 | o :: r => kD o all ++ Gt all r
def HK : Code → List Nat
 | .region _ ops _ => Gt ops.toList ops.toList
 | .seq a b => HK a ++ HK b
 | .cond c a b => tmpsOf [c] ++ HK a ++ HK b
 | .block _ c => HK c
 | .loop c => HK c
 | _ => []
def mT (id : Nat) : Code → Nat
 | .seq a b => mT id a + mT id b
 | .cond _ a b => mT id a + mT id b
 | .block _ c => mT id c
 | .loop c => mT id c
 | .exit k => cond (Nat.beq k id) 1 0
 | _ => 0
def ways : Code → Nat
 | .skip => 1
 | .region _ ops _ => cond (ops.toList.any fun o => o.guard.isSome) 2 1
 | .seq a b => min 1 (ways a) * ways b
 | .cond _ a b => ways a + ways b
 | .block id c => ways c + mT id c
 | _ => 0
def dstsOf : List Oper → List Nat
 | [] => []
 | o :: r => match o.dst with | some d => d :: dstsOf r | none => dstsOf r
def defs : Code → List Nat
 | .region _ ops _ => dstsOf ops.toList
 | .seq a b => defs a ++ defs b
 | .cond _ a b => cond (Nat.beq (ways a) 0) (defs b) (cond (Nat.beq (ways b) 0) (defs a) ((defs a).filter (yy (defs b))))
 | .block id c => cond (Nat.beq (mT id c) 0) (defs c) []
 | _ => []
def Gu (l r : List Nat) : List Nat := l.filter fun s => !(yy r s)
def reads (all : List Oper) : List Oper → List Nat
 | [] => []
 | o :: r => kD o all ++ (match o.dst with | some d => Gu (reads all r) [d] | none => reads all r)
def qb : Code → List Nat
 | .region _ ops _ => reads ops.toList ops.toList
 | .seq a b => qb a ++ Gu (qb b) (defs a)
 | .cond c a b => tmpsOf [c] ++ qb a ++ qb b
 | .block _ c => qb c
 | .loop c => qb c
 | _ => []
section
variable (cx : Cx)
def NO (M e : Env) : Env := M.bk.foldl (fun e p => match p.2, e.slot p.1 with
 | some (.cell (.row mo)), some (.cell (.part o t lo n)) => let r := nW M (3000000 + 64 * p.1) (.row mo) (.part o t lo n) e; r.2.put (bz p.1 r.1)
 | _, _ => e) e
def HL (x : X) (e : Env) : List (X × Env) → List (X × Env)
 | [] => [(x, e)]
 | p :: r => cond (match p.1, x with | .vx, .vx => true | .ret, .ret => true | .ex a, .ex b => Nat.beq a b | _, _ => false) ((x, align (NO p.2 e) p.2) :: r) (p :: HL x e r)
def Ju : List (X × Env) → List (X × Env) → List (X × Env)
 | [], l => l
 | p :: r, l => Ju r (HL p.1 p.2 l)
def BJ : (l : List eZ) → cR l
 | [] => ()
 | .val t _ :: l => (t.vy, BJ l)
 | .row t _ _ :: l => (([] : List t.den), BJ l)
def No {A : Type} (a : A) : (ms : List (Nat × Ty)) → bN A ms
 | [] => a
 | _ :: r => ([], No a r)
noncomputable def Le (o : Oper) (e : Env) : Option Env :=
 let v0 := vw cx e o
 let p := pre cx.D v0 o
 let v := v0.aF p.2
 match fk o with
 | some (f, xs) => match made cx.D v o.dst f xs with
  | some m => some ((e.aF p.2).aF (m.ws (No (BJ _) _)))
  | none => none
 | none => match oper cx.T v0 o v with
  | some ef => some ((e.aF p.2).aF ef.ws)
  | none => none
noncomputable def yC : List Oper → Env → Option Env
 | [], e => some e
 | o :: r, e => match Le cx o e with | some e' => yC r e' | none => yC r (e.aF (so o))
def Jv : List (X × Env) → Option Env
 | [] => none
 | (.vx, e) :: _ => some e
 | _ :: r => Jv r
noncomputable def wE : Code → Env → List (X × Env)
 | .skip, e => [(.vx, e)]
 | .region _ ops _, e => match yC cx ops.toList e with | some e' => [(.vx, e')] | none => []
 | .seq a b, e => (wE a e).foldl (fun l p => match p.1 with | .vx => Ju (wE b p.2) l | x => HL x p.2 l) []
 | .cond _ a b, e => Ju (wE b e) (wE a e)
 | .block id c, e => (wE c e).foldl (fun l p => match p.1 with | .ex k => cond (Nat.beq k id) (HL .vx p.2 l) (HL p.1 p.2 l) | x => HL x p.2 l) []
 | .loop c, e => (wE c e).filter fun p => match p.1 with | .vx => false | _ => true
 | .exit k, e => [(.ex k, e)]
 | .ret, e => [(.ret, e)]
 | _, _ => []
noncomputable def vE (c : Code) (e : Env) : Env := match Jv (wE cx c e) with | some e1 => align e1 e | none => e
def iter {P R : Type} (F : (P → Option R) → P → Option R) : Nat → P → Option R
 | 0, _ => none
 | n + 1, p => F (iter F n) p
def Q9 (s : Nat) : Nat := 2 * s
def Ra (o : Nat) : Nat := 2 * o + 1
noncomputable def ev : (c : Code) → (R : Type) → Env → List Nat → (X → Env → Option R) → Option R
 | .skip, _, e, _, K => K .vx e
 | .region _ ops draw, _, e, _, K => cond draw (tX cx ops.toList ops.toList 0 [] e (K .vx)) (BH cx ops.toList ops.toList e (K .vx))
 | .seq a b, R, e, live, K =>
  let keep := qb b ++ live
  match cond (Nat.ble 2 (ways a)) (Jv (wE cx a e)) none with
  | none => ev a R e keep fun x e' => match x with
   | .vx => ev b R e' live K
   | x => K x e'
  | some e1 =>
   let G := canon keep e1
   (ev a (R ⊕ Jt G) e keep fun x e' => match x with
    | .vx => (G.get (canon (G.bk.map (·.1)) (align G e'))).map .inr
    | x => (K x e').map .inl).bind fun
   | .inl r => some r
   | .inr p => ev b R (G.mk' p) live K
 | .cond c a b, R, e, live, K => match c with
  | .tmp s => match e.slot s with
   | some (.cell (.val .bool t f)) => match t with
    | true => ev a R (e.put (bz s (.val .bool true f))) live K
    | false => ev b R (e.put (bz s (.val .bool false f))) live K
   | _ => none
  | .const (.bool t) => match t with
   | true => ev a R e live K
   | false => ev b R e live K
  | _ => none
 | .block id c, R, e, live, K => ev c R e live fun x e' => match x with
  | .ex k => cond (Nat.beq k id) (K .vx e') (K (.ex k) e')
  | x => K x e'
 | .loop c, R, e, live, K =>
  let keep := qb c ++ live
  let G := canon keep (vE cx c (vE cx c e))
  match G.get G with
  | none => none
  | some p => iter (fun REC q => ev c R (G.mk' q) keep fun x e' => match x with
   | .vx => match G.get (canon (G.bk.map (·.1)) (align G e')) with
    | some q' => REC q'
    | none => none
   | x => K x e') cx.n p
 | .exit k, _, e, _, K => K (.ex k) e
 | .ret, _, e, _, K => K .ret e
 | _, _, _, _, _ => none
end
def gS (i j : Nat) : Nat := 2000000 + i * 64 + j
def dQ (i : Nat) : (j : Nat) → (l : List eZ) → cR l → List Cell × List (Nat × Option OV) × Nat
 | j, [], _ => ([], [], j)
 | j, .val t _ :: l, p => let r := dQ i j l p.2; (.val t p.1 (!(cE t)) :: r.1, r.2.1, r.2.2)
 | j, .row t et f :: l, p => let r := dQ i (j + 1) l p.2; (.row (gS i j) :: r.1, (gS i j, some (.row t et p.1 (!(cE t)) 2)) :: r.2.1, r.2.2)
def jG (i : Nat) : (j : Nat) → (l : List (List eZ)) → cR l.flatten → List Nat × List (Nat × Option OV)
 | _, [], _ => ([], [])
 | j, cs :: l, p =>
  let q := cR.split cs l.flatten p
  let r := dQ i (j + 1) cs q.1
  let s := jG i r.2.2 l q.2
  (gS i j :: s.1, (gS i j, some (.box r.1 2)) :: r.2.1 ++ s.2)
def yD (i : Nat) : (p : kC) → cR p.flat → SV × List (Nat × Option OV)
 | .cell c, p => let r := dQ i 0 [c] p; match r.1 with | [x] => (.cell x, r.2.1) | _ => (.top, [])
 | .agg cs, p => let r := dQ i 0 cs p; (.agg r.1, r.2.1)
 | .box cs, p => (.cell (.ptr (gS i 0) 0), let r := dQ i 1 cs p; (gS i 0, some (.box r.1 2)) :: r.2.1)
 | .fn f l, p => let r := jG i 0 l p; (.cell (.fn f r.1), r.2)
 | .ad et t off, p => (.cell (.ad et t p.1.1 p.1.2.1 off), [])
def yE : (i : Nat) → (l : List kC) → cR (l.flatMap kC.flat) → Env
 | _, [], _ => ⟨[], []⟩
 | i, p :: l, q =>
  let s := cR.split p.flat (l.flatMap kC.flat) q
  let a := yD i p s.1
  let r := yE (i + 1) l s.2
  ⟨(i, some a.1) :: r.bk, a.2 ++ r.aY⟩
def gq (e : Env) (eN : Bool) : (l : List eZ) → List Cell → Option (cR l × List Nat × List Nat)
 | [], [] => some ((), [], [])
 | .val t f :: l, x :: xs => match gq e eN l xs with
  | some (q, zs, rs) => match settle e x with
   | some (c, _) => if (!f || c.fr || !(cE t)) = true then (match c.as t with | some z => some ((z, q), rn x ++ zs, rs) | none => none) else none
   | none => none
  | none => none
 | .row t et f :: l, x :: xs => match gq e eN l xs with
  | some (q, zs, rs) => match x with
   | .nil => some ((([] : List t.den), q), zs, rs)
   | .row o => match e.obj o with
    | some (.row t' et' xs' f' st) => if (Nat.beq et et' && ((!f || f' || !(cE t)) && (Nat.beq st 0 || (eN && Nat.beq st 2)))) = true then (match lQ t t' xs' with | some z => some ((z, q), zs, o :: rs) | none => none) else none
    | _ => none
   | _ => none
  | none => none
 | _, _ => none
def BK (T : Types) (e : Env) (k : Nat) : ResultVar → Option (List Cell × List Nat)
 | .tmp t => match k, e.slot t with
  | 0, some (.cell c) => some ([c], [])
  | 1, some (.agg cs) => some (cs, [])
  | 2, some (.cell (.ptr o 0)) => match e.obj o with
   | some (.box xs 0) => some (xs, [o])
   | _ => none
  | _, _ => none
 | .cell a t => match look T t, e.slot a with
  | some i, some (.cell (.ptr o 0)) => match e.obj o with
   | some (.box xs _) => if Nat.beq xs.length i.size = true then (match k, i.isAgg with
    | 0, false => if Nat.beq i.size 1 = true then some (xs, []) else none
    | 1, true => some (xs, [])
    | _, _ => none) else none
   | _ => none
  | _, _ => none
def ry (T : Types) (e : Env) (eN : Bool) : List ResultVar → (l : List (Nat × List eZ)) → Option (cR (aK l) × List Nat × List Nat)
 | [], [] => some ((), [], [])
 | r :: rs, bc :: l =>
  match BK T e bc.1 r, ry T e eN rs l with
  | some (xs, ns), some (q, zs, ms) => match gq e eN bc.2 xs with
   | some (p, zs', ms') => some (cR.append bc.2 (aK l) p q, zs' ++ zs, (ns ++ ms') ++ ms)
   | none => none
  | _, _ => none
 | _, _ => none
def nY (e : Env) : (l : List (List eZ)) → List Nat → Option (cR l.flatten × List Nat × List Nat)
 | [], [] => some ((), [], [])
 | cs :: l, o :: os => match e.obj o with
  | some (.box xs 2) => match gq e true cs xs, nY e l os with
   | some (p, zs', ms'), some (q, zs, ms) => some (cR.append cs l.flatten p q, zs' ++ zs, (o :: ms') ++ ms)
   | _, _ => none
  | _ => none
 | _, _ => none
def gF (e : Env) : Nat → List kC → Option (List Nat)
 | _, [] => some []
 | i, .box _ :: l => match e.slot i, gF e (i + 1) l with
  | some (.cell (.ptr o 0)), some r => some (o :: r)
  | _, _ => none
 | i, .fn _ _ :: l => match e.slot i, gF e (i + 1) l with
  | some (.cell (.fn _ os)), some r => some (os ++ r)
  | _, _ => none
 | i, _ :: l => gF e (i + 1) l
def eM : Nat → List kC → List Nat
 | _, [] => []
 | i, .box _ :: l => i :: eM (i + 1) l
 | i, .fn _ _ :: l => i :: eM (i + 1) l
 | i, _ :: l => eM (i + 1) l
def qc : List ResultVar → List Nat
 | [] => []
 | .tmp t :: r => t :: qc r
 | .cell a _ :: r => a :: qc r
def yF : List ResultVar → List (Nat × List eZ) → List Nat
 | r :: rs, bc :: l => cond (bc.2.all isVal) (qc [r]) [] ++ yF rs l
 | _, _ => []
def Dm : kC → Bool
 | .cell c => !(isVal c) | .agg cs => !(cs.all isVal) | _ => false
def vF (s : bh) : Bool := s.ins.any Dm
def finish (T : Types) (fn : Func) (s : bh) (e0 : Env) : Option s.Out :=
 let e := cond s.bA.isEmpty e0 (e0.aF (dM e0 (yF fn.results.toList s.outs)))
 match gF e 0 s.ins with
 | some os => match ry T e (vF s || !(s.bA.isEmpty)) fn.results.toList s.outs, nY e s.boxes os, tp e s.bA with
  | some (p, zs, ms), some (q, zs', ms'), some pm => if (nodupB ((ms ++ ms') ++ aJ s.bA) && !((ms ++ ms').any (yy (zs ++ zs')))) = true then some (bN.mk _ (cR.append (aK s.outs) s.boxes.flatten p q) pm) else none
  | _, _, _ => none
 | none => none
def vG : kC → Nat
 | .box cs => aE cs + 1
 | .fn _ l => b6 l + l.length
 | .cell c => aE [c]
 | .agg cs => aE cs
 | .ad _ _ _ => 0
def Jw (s : bh) (N : Nat) : Bool := s.ins.all (fun p => Nat.ble (vG p) 64) && (Nat.ble s.ins.length N && (!(vF s || !(s.bA.isEmpty)) || s.boxes.all fun cs => cs.all isVal))
def Gv (s : bh) (p : s.In) : Env := let e := yE 0 s.ins (bN.out _ p); ⟨e.bk, e.aY ++ gb s.bA (bN.ms _ p)⟩
noncomputable def body (T : Types) (D : Den) (n : Nat) (fn : Func) (s : bh) (p : s.In) : Option s.Out :=
 cond (Jw s fn.ntmps) (match fn.body with
 | some c => ev ⟨T, D, n, fn.ntmps, eM 0 s.ins, aJ s.bA⟩ c s.Out (Gv s p) (qc fn.results.toList ++ eM 0 s.ins) fun x e => match x with
  | .ret => finish T fn s e
  | .vx => finish T fn s e
  | _ => none
 | none => none) none
def iG : (ms : List (Nat × Ty)) → mM ms
 | [] => ()
 | _ :: r => ([], iG r)
noncomputable def AS {R : Type} (T : Types) (D : Den) (n : Nat) (fn : Func) (s : bh) (g : s.Out → R) (p : s.In) : Option R :=
 cond (Jw s fn.ntmps) (match fn.body with
 | some c => ev ⟨T, D, n, fn.ntmps, eM 0 s.ins, aJ s.bA⟩ c R (Gv s p) (qc fn.results.toList ++ eM 0 s.ins) fun x e => match x with
  | .ret => (finish T fn s e).map g
  | .vx => (finish T fn s e).map g
  | _ => none
 | none => none) none
def Jx (s : bh) (ms : List (Nat × Ty)) : Bool := ec [] s.inl && (ec [] s.BD && ms.all fun p => !(cE p.2))
noncomputable def Gw (T : Types) (D : Den) (n : Nat) (fn : Func) (s : bh) (ms : List (Nat × Ty)) (p : s.In) : Option s.Out :=
 cond (Jx s ms) (AS T D n fn ⟨s.ins, s.outs, ms⟩ (fun r => bN.mk s.bA (bN.out ms r) (bN.ms s.bA p)) (bN.mk ms (bN.out s.bA p) (iG ms))) none
abbrev AT := List (Nat × Option Func)
abbrev Lf := List (Nat × Option (List (List Nat × bh)))
def Jy : List (List Nat × bh) → List Nat → Option bh
 | [], _ => none
 | (k, s) :: r, key => cond (tY k key) (some s) (Jy r key)
noncomputable def den (T : Types) (F : AT) (S : Lf) (base : Den) : Nat → Den
 | 0, _, _ => none
 | n + 1, f, key => match base f key with
  | some d => some d
  | none => match look F f, look S f with
   | some fn, some l => match Jy l key with
    | some s => some ⟨s, body T (den T F S base n) n fn s⟩
    | none => none
   | _, _ => none
end Go.Px
namespace Go.Px
open Go
inductive Loc where
 | b (k : Nat) | m (et k g : Nat) (C : Nat × Nat)
instance : Coe Nat Loc := ⟨Loc.b⟩
@[reducible] def up (SA : Nat → Prop) : Loc → Prop
 | .b k => SA k | .m .. => False
theorem up.mono {S S' : Nat → Prop} (h : ∀ k, S k → S' k) : ∀ l, up S l → up S' l
 | .b k, hk => h k hk
 | .m .., hk => hk.elim
def _root_.Go.World.fc (w : World) (base : Nat) (e : TypeId) (size : Nat) (v : Value) (n : Nat) (xs : List Value) : Prop :=
 xs.length = n * size ∧
 ((v = .slice none 0 0 ∧ n = 0) ∨
  ∃ g off cap cur, v = .slice (some ⟨g, off, none⟩) n cap ∧ base ≤ g ∧ w.heap[g]? = some (.cells cur e (0, 0)) ∧ n ≤ cap ∧ cap ≤ maxLen ∧ off + cap * size ≤ cur.size ∧ (cur.toList.drop off).take (n * size) = xs)
theorem _root_.Go.World.dW (w : World) (base : Nat) (e : TypeId) (size : Nat) : w.fc base e size (.slice none 0 0) 0 [] := ⟨by simp, .inl ⟨rfl, rfl⟩⟩
theorem _root_.Go.World.fc.lt {w : World} {base : Nat} {e : TypeId} {size : Nat} {v : Value} {n : Nat} {xs : List Value} (h : w.fc base e size v n xs) : ∀ k, v.ownBlock = some k → base ≤ k ∧ k < w.heap.size := by
 intro k hk
 rcases h.2 with ⟨rfl, _⟩ | ⟨g, off, cap, cur, rfl, hb, hg, _⟩
 ·simp [Value.ownBlock] at hk
 ·simp [Value.ownBlock] at hk
  subst hk
  exact ⟨hb, (Array.getElem?_eq_some_iff.1 hg).1⟩
def b7 {α : Type} (R : List Value → α → Prop) : List α → List Value → Prop
 | [], vs => vs = []
 | x :: xs, vs => ∃ c r, vs = c ++ r ∧ R c x ∧ b7 R xs r
def bm (h : Array Obj) (S : Loc → Prop) : (t : Ty) → List Value → t.den → Prop
 | .int k, cs, x => cs = [.int k x]
 | .bool, cs, x => cs = [.bool x]
 | .str, cs, x => cs = [.string x]
 | .err, cs, x => (x = false ∧ cs = [.nilIface]) ∨ (x = true ∧ ∃ t v, cs = [.iface t v])
 | .mp, cs, _ => cs = [.map none]
 | .slice e, cs, xs => ∃ a n c, cs = [.slice a n c] ∧ List.length (α := e.den) xs = n ∧ n ≤ c ∧
   (n = 0 ∨ ∃ g off arr et fr, a = some ⟨g, off, none⟩ ∧ S g ∧ h[g]? = some (.cells arr et fr) ∧ off + n * e.size ≤ arr.size ∧
    b7 (bm h S e) xs ((arr.toList.drop off).take (n * e.size)))
 | .nil, cs, _ => cs = []
 | .cons a b, cs, x => ∃ c d, cs = c ++ d ∧ bm h S a c x.1 ∧ bm h S b d x.2
 | .aI et t, cs, x => ∃ b n c, cs = [.slice b n c] ∧ x.2.2 = n ∧ n ≤ c ∧
   ((n = 0 ∧ c = 0 ∧ (x.2.1 = 0 → b = none)) ∨ ∃ g C, b = some ⟨g, C.1 + x.2.1 * t.size, none⟩ ∧ x.2.1 + c ≤ C.2 ∧ S (.m et x.1 g C))
section
variable {h h' : Array Obj} {S S' : Loc → Prop}
theorem b7.mono {α : Type} {R R' : List Value → α → Prop} (hR : ∀ c x, R c x → R' c x) : ∀ {xs : List α} {vs : List Value}, b7 R xs vs → b7 R' xs vs
 | [], _, h => h
 | _ :: _, _, ⟨c, r, e, h1, h2⟩ => ⟨c, r, e, hR _ _ h1, b7.mono hR h2⟩
theorem bm.mono (hS : ∀ k, S k → S' k) (hh : ∀ k : Nat, S k → h'[k]? = h[k]?) : ∀ {t : Ty} {cs : List Value} {x : t.den}, bm h S t cs x → bm h' S' t cs x
 | .int _, _, _, hr => hr
 | .bool, _, _, hr => hr
 | .str, _, _, hr => hr
 | .err, _, _, hr => hr
 | .mp, _, _, hr => hr
 | .nil, _, _, hr => hr
 | .cons _ _, _, _, ⟨c, d, e, h1, h2⟩ => ⟨c, d, e, bm.mono hS hh h1, bm.mono hS hh h2⟩
 | .slice e, _, _, ⟨a, n, c, e1, e2, e3, h1⟩ => ⟨a, n, c, e1, e2, e3, h1.imp id fun ⟨g, off, arr, et, fr, f1, f2, f3, f4, f5⟩ =>
   ⟨g, off, arr, et, fr, f1, hS _ f2, (hh _ f2).trans f3, f4, f5.mono fun _ _ hr => bm.mono hS hh hr⟩⟩
 | .aI _ _, _, _, ⟨b, n, c, e1, e2, e3, h1⟩ => ⟨b, n, c, e1, e2, e3, h1.imp id fun ⟨g, C, f1, f2, f3⟩ => ⟨g, C, f1, f2, hS _ f3⟩⟩
def yG (S S' : Loc → Prop) : Prop := ∀ et k g C, S (.m et k g C) → S' (.m et k g C)
theorem bm.lT (hm : yG S S') : ∀ {t : Ty} {cs : List Value} {x : t.den}, cE t = false → bm h S t cs x → bm h' S' t cs x
 | .int _, _, _, _, hr => hr
 | .bool, _, _, _, hr => hr
 | .str, _, _, _, hr => hr
 | .err, _, _, _, hr => hr
 | .mp, _, _, _, hr => hr
 | .nil, _, _, _, hr => hr
 | .cons a b, _, _, hn, ⟨c, d, e, h1, h2⟩ => by
  simp only [cE, Bool.or_eq_false_iff] at hn
  exact ⟨c, d, e, bm.lT hm hn.1 h1, bm.lT hm hn.2 h2⟩
 | .slice e, _, _, hn, _ => by simp [cE] at hn
 | .aI _ _, _, _, _, ⟨b, n, c, e1, e2, e3, h1⟩ => ⟨b, n, c, e1, e2, e3, h1.imp id fun ⟨g, C, f1, f2, f3⟩ => ⟨g, C, f1, f2, hm _ _ _ _ f3⟩⟩
theorem bm.len : ∀ {t : Ty} {cs : List Value} {x : t.den}, bm h S t cs x → cs.length = t.size
 | .int _, _, _, hr => by simp only [bm] at hr; rw [hr]; rfl
 | .bool, _, _, hr => by simp only [bm] at hr; rw [hr]; rfl
 | .str, _, _, hr => by simp only [bm] at hr; rw [hr]; rfl
 | .err, _, _, hr => by simp only [bm] at hr; rcases hr with ⟨_, rfl⟩ | ⟨_, _, _, rfl⟩ <;> rfl
 | .mp, _, _, hr => by simp only [bm] at hr; rw [hr]; rfl
 | .nil, _, _, hr => by simp only [bm] at hr; rw [hr]; rfl
 | .cons a b, _, _, ⟨c, d, e, h1, h2⟩ => by rw [e, List.length_append, h1.len, h2.len]; rfl
 | .slice e, _, _, ⟨a, n, c, e1, _⟩ => by rw [e1]; rfl
 | .aI _ _, _, _, ⟨a, n, c, e1, _⟩ => by rw [e1]; rfl
theorem bm.one : ∀ {t : Ty} {cs : List Value} {x : t.den}, bm h S t cs x → ∀ v ∈ cs, v.oneCell' = true
 | .int _, _, _, hr => by simp only [bm] at hr; subst hr; simp [Value.oneCell']
 | .bool, _, _, hr => by simp only [bm] at hr; subst hr; simp [Value.oneCell']
 | .str, _, _, hr => by simp only [bm] at hr; subst hr; simp [Value.oneCell']
 | .err, _, _, hr => by simp only [bm] at hr; rcases hr with ⟨_, rfl⟩ | ⟨_, _, _, rfl⟩ <;> simp [Value.oneCell']
 | .mp, _, _, hr => by simp only [bm] at hr; subst hr; simp [Value.oneCell']
 | .nil, _, _, hr => by simp only [bm] at hr; subst hr; simp
 | .cons a b, _, _, ⟨c, d, e, h1, h2⟩ => by
  intro v hv
  rw [e, List.mem_append] at hv
  exact hv.elim (h1.one v) (h2.one v)
 | .slice e, _, _, ⟨a, n, c, e1, _⟩ => by subst e1; simp [Value.oneCell']
 | .aI _ _, _, _, ⟨a, n, c, e1, _⟩ => by subst e1; simp [Value.oneCell']
theorem b7.len {t : Ty} : ∀ {xs : List t.den} {vs : List Value}, b7 (bm h S t) xs vs → vs.length = xs.length * t.size
 | [], _, e => by simp only [b7] at e; subst e; simp
 | x :: xs, _, ⟨c, r, e, h1, h2⟩ => by
  rw [e, List.length_append, h1.len, h2.len, List.length_cons, Nat.add_mul, Nat.one_mul, Nat.add_comm]
theorem b7.one {t : Ty} : ∀ {xs : List t.den} {vs : List Value}, b7 (bm h S t) xs vs → ∀ v ∈ vs, v.oneCell' = true
 | [], _, e => by simp only [b7] at e; subst e; simp
 | x :: xs, _, ⟨c, r, e, h1, h2⟩ => by
  intro v hv
  rw [e, List.mem_append] at hv
  exact hv.elim (h1.one v) (h2.one v)
theorem b7.append {α : Type} {R : List Value → α → Prop} : ∀ {xs ys : List α} {vs us : List Value}, b7 R xs vs → b7 R ys us → b7 R (xs ++ ys) (vs ++ us)
 | [], _, _, _, e, h => by simp only [b7] at e; subst e; simpa using h
 | _ :: _, _, _, us, ⟨c, r, e, h1, h2⟩, h => ⟨c, r ++ us, by rw [e, List.append_assoc], h1, h2.append h⟩
theorem b7.at_ {t : Ty} : ∀ {xs : List t.den} {vs : List Value} (i : Nat), b7 (bm h S t) xs vs → i < xs.length →
  bm h S t ((vs.drop (i * t.size)).take t.size) (xs.getD i t.vy)
 | [], _, _, _, hi => by simp at hi
 | x :: xs, vs, 0, ⟨c, r, e, h1, h2⟩, _ => by
  have hl := h1.len
  subst e
  simpa [← hl] using h1
 | x :: xs, vs, i + 1, ⟨c, r, e, h1, h2⟩, hi => by
  have hl := h1.len
  subst e
  have ih := h2.at_ i (by simpa using hi)
  rw [show (i + 1) * t.size = c.length + i * t.size by rw [hl, Nat.add_mul, Nat.one_mul, Nat.add_comm], List.drop_append, List.drop_of_length_le (by omega), List.nil_append]
  simpa using ih
theorem b7.take {t : Ty} : ∀ {xs : List t.den} {vs : List Value} (n : Nat), b7 (bm h S t) xs vs → b7 (bm h S t) (xs.take n) (vs.take (n * t.size))
 | [], _, n, e => by simp only [b7] at e; subst e; simp [b7]
 | x :: xs, vs, 0, _ => by simp [b7]
 | x :: xs, vs, n + 1, ⟨c, r, e, h1, h2⟩ => by
  have hl := h1.len
  subst e
  have e1 : (n + 1) * t.size = c.length + n * t.size := by rw [hl, Nat.add_mul, Nat.one_mul, Nat.add_comm]
  exact ⟨c, r.take (n * t.size), by rw [e1]; simp [List.take_append, List.take_of_length_le], h1, h2.take n⟩
theorem b7.drop {t : Ty} : ∀ {xs : List t.den} {vs : List Value} (n : Nat), b7 (bm h S t) xs vs → b7 (bm h S t) (xs.drop n) (vs.drop (n * t.size))
 | [], _, n, e => by simp only [b7] at e; subst e; simp [b7]
 | x :: xs, vs, 0, hc => by simpa using hc
 | x :: xs, vs, n + 1, ⟨c, r, e, h1, h2⟩ => by
  have hl := h1.len
  subst e
  have e1 : (n + 1) * t.size = c.length + n * t.size := by rw [hl, Nat.add_mul, Nat.one_mul, Nat.add_comm]
  have e2 : (c ++ r).drop ((n + 1) * t.size) = r.drop (n * t.size) := by rw [e1]; simp [List.drop_append]
  rw [e2]
  exact h2.drop n
theorem b7.set {t : Ty} {z : t.den} {zs : List Value} (hz : bm h S t zs z) : ∀ {xs : List t.den} {vs : List Value} (i : Nat), b7 (bm h S t) xs vs → i < xs.length →
  b7 (bm h S t) (xs.set i z) (vs.take (i * t.size) ++ zs ++ vs.drop (i * t.size + t.size))
 | [], _, _, _, hi => by simp at hi
 | x :: xs, vs, 0, ⟨c, r, e, h1, h2⟩, _ => by
  have hl := h1.len
  subst e
  simp only [List.set_cons_zero, Nat.zero_mul, List.take_zero, List.nil_append, Nat.zero_add]
  rw [← hl, List.drop_left]
  exact ⟨zs, r, rfl, hz, h2⟩
 | x :: xs, vs, i + 1, ⟨c, r, e, h1, h2⟩, hi => by
  have hl := h1.len
  subst e
  have e1 : (i + 1) * t.size = c.length + i * t.size := by rw [hl, Nat.add_mul, Nat.one_mul, Nat.add_comm]
  simp only [List.set_cons_succ]
  refine ⟨c, r.take (i * t.size) ++ zs ++ r.drop (i * t.size + t.size), ?_, h1, h2.set hz i (by simpa using hi)⟩
  rw [e1, List.take_append, List.take_of_length_le (by omega), Nat.add_assoc, List.drop_append, List.drop_of_length_le (by omega)]
  simp
theorem b7.replicate {t : Ty} {z : t.den} {zs : List Value} (hz : bm h S t zs z) : ∀ n, b7 (bm h S t) (List.replicate n z) (List.replicate n zs).flatten
 | 0 => rfl
 | n + 1 => ⟨zs, _, rfl, hz, b7.replicate hz n⟩
end
def S2 (SA : Nat → Prop) (SF : Loc → Prop) (fr : Bool) : Loc → Prop := fun k => SF k ∨ (fr = false ∧ up SA k)
def gk {α : Type} (R : α → Value → Prop) : List α → List Value → Prop
 | [], vs => vs = []
 | c :: cs, vs => ∃ v r, vs = v :: r ∧ R c v ∧ gk R cs r
def bo : Value → Option Nat
 | .slice (some a) _ _ => some a.block
 | .pointer (some a) => some a.block
 | .map (some g) => some g
 | _ => none
section
variable (h : Array Obj) (SA : Nat → Prop) (SF : Loc → Prop) (β : Nat → Value)
def aG : Cell → Value → Prop
 | .val t x fr, v => bm h (S2 SA SF fr) t [v] x
 | .nil, v => v = .slice none 0 0
 | .row o, v => v = β o ∧ ∃ a n c, v = .slice a n c
 | .part o t lo n, v => ∃ a N c, β o = .slice a N c ∧ lo + n ≤ N ∧ N ≤ c ∧ v = .slice (if c = lo then a else a.map (·.add (lo * t.size))) n (c - lo)
 | .ptr o off, v => ∃ g, β o = .pointer (some ⟨g, 0, none⟩) ∧ v = .pointer (some ⟨g, off, none⟩)
 | .xQ o t i off, v => ∃ g b N c, β o = .slice (some ⟨g, b, none⟩) N c ∧ i < N ∧ v = .pointer (some ⟨g, b + (i * t.size + off), none⟩)
 | .lj t x fr, v => ∃ g off arr et fz, v = .pointer (some ⟨g, off, none⟩) ∧ (S2 SA SF fr) g ∧ h[g]? = some (.cells arr et fz) ∧ off + t.size ≤ arr.size ∧
   bm h (S2 SA SF fr) t ((arr.toList.drop off).take t.size) x
 | .fn f caps, v => v = .func (.func f) #[] (caps.map β).toArray ∧ ∀ o ∈ caps, ∃ g, β o = .pointer (some ⟨g, 0, none⟩)
 | .mp o, v => v = β o ∧ ∃ g, v = .map (some g)
 | .ad et t k i off, v => ∃ g C, SF (.m et k g C) ∧ v = .pointer (some ⟨g, C.1 + (i * t.size + off), none⟩)
def ao (cs : List Cell) (vs : List Value) : Prop := gk (aG h SA SF β) cs vs
def lf (p : Bool × List Cell) (v : Value) : Prop :=
 ∃ vs, ao h SA SF β p.2 vs ∧ v = if p.1 = true then .agg vs.toArray else vs.headD undef
def eg : SV → Value → Prop
 | .cell c, v => aG h SA SF β c v
 | .agg cs, v => ∃ vs : List Value, v = .agg vs.toArray ∧ ao h SA SF β cs vs
 | .xr l, v => ∃ vs : List Value, v = .tuple vs.toArray ∧ gk (lf h SA SF β) l vs
 | .undef, v => v = undef
 | .top, _ => True
end
def OV.st : OV → Nat
 | .row _ _ _ _ st => st | .box _ st => st | .mp _ _ st => st | .mem _ _ _ => 2 | .al _ _ _ => 2 | .dead => 2
structure dy (h : Array Obj) (SA : Nat → Prop) (SF : Loc → Prop) (t : Ty) (et : Nat) (bs : List (Option (List t.den))) : Prop where
 E3 : ∀ k g C, SF (.m et k g C) → 1 ≤ k ∧ k ≤ bs.length
 one : ∀ k g C g' C', SF (.m et k g C) → SF (.m et k g' C') → g = g' ∧ C = C'
 HQ : ∀ k xs, bs[k]? = some (some xs) → (xs = [] ∧ ∀ g C, ¬ SF (.m et (k + 1) g C)) ∨
  ∃ g C cur, SF (.m et (k + 1) g C) ∧ h[g]? = some (.cells cur et (0, 0)) ∧ xs.length ≤ C.2 ∧ C.2 ≤ maxLen ∧ C.1 + C.2 * t.size ≤ cur.size ∧ b7 (bm h (S2 SA SF true) t) xs ((cur.toList.drop C.1).take (xs.length * t.size))
 inj : ∀ k k' xs xs' g C C', bs[k]? = some (some xs) → bs[k']? = some (some xs') → SF (.m et (k + 1) g C) → SF (.m et (k' + 1) g C') → k = k'
 sl : cE t = false
def cS (SA : Nat → Prop) (SF : Loc → Prop) (β : Nat → Value) (w : World) (o : Nat) : OV → Prop
 | .row t et xs fr _ => ∃ vs, w.fc 0 et t.size (β o) xs.length vs ∧ b7 (bm w.heap (S2 SA SF fr) t) xs vs
 | .box cs _ => ∃ g arr et, β o = .pointer (some ⟨g, 0, none⟩) ∧ w.heap[g]? = some (.cells arr et (0, 0)) ∧ ao w.heap SA SF β cs arr.toList
 | .mp k es _ => ∃ g ents clock, β o = .map (some g) ∧ w.heap[g]? = some (.map ents clock) ∧ ents.toList.map (fun e => (e.key, e.val)) = es.map (fun p => (Value.string p.1, Value.int k p.2))
 | .mem t et bs => o = an et ∧ dy w.heap SA SF t et bs
 | .dead => True
 | .al t et x => bm w.heap (S2 SA SF true) (.aI et t) [β o] x
def bI (SF : Loc → Prop) (β : Nat → Value) (o : Nat) : OV → Nat → Prop
 | .row .., g => bo (β o) = some g
 | .box .., g => bo (β o) = some g
 | .mp .., g => bo (β o) = some g
 | .mem _ et bs, g => ∃ k xs C, bs[k]? = some (some xs) ∧ SF (.m et (k + 1) g C)
 | .al _ _ _, _ => False
 | .dead, _ => False
structure Ctx where
 w0 : World
 SA : Nat → Prop
 tq : Nat → Prop
 N : Nat
 NR : List (Nat × Value)
 S0 : Loc → Prop
def Ctx.ok (c : Ctx) (d : Nat) : Prop := d < c.N ∧ ∀ p ∈ c.NR, p.1 ≠ d
structure aC (c : Ctx) (β : Nat → Value) (SF : Loc → Prop) (e : Env) (a : Act) (w : World) : Prop where
 os : w.os = c.w0.os
 tape : w.tape = c.w0.tape
 output : w.output = c.w0.output
 size : c.w0.heap.size ≤ w.heap.size
 sr : ∀ k, k < c.w0.heap.size → ¬ c.tq k → w.heap[k]? = c.w0.heap[k]?
 sa : ∀ k, c.SA k → k < c.w0.heap.size ∧ ¬ c.tq k
 P0 : ∀ k, c.tq k → k < c.w0.heap.size
 sf : ∀ k : Nat, SF k → c.w0.heap.size ≤ k ∧ k < w.heap.size
 mu : ∀ l, c.S0 l → SF l
 nd : a.defers = []
 nt : a.tmps.size = c.N
 pins : ∀ p ∈ c.NR, a.tmps.getD p.1 undef = p.2
 bk : ∀ s sv, e.slot s = some sv → s < c.N ∧ eg w.heap c.SA SF β sv (a.tmps.getD s undef)
 aY : ∀ o ov, e.obj o = some ov → cS c.SA SF β w o ov
 own : ∀ o ov g, e.obj o = some ov → bI SF β o ov g → g < w.heap.size ∧
  ((ov.st = 0 ∧ c.w0.heap.size ≤ g ∧ ¬ SF g) ∨ (ov.st = 1 ∧ SF g) ∨ (ov.st = 2 ∧ (c.tq g ∨ c.w0.heap.size ≤ g ∧ ¬ SF g)))
 inj : ∀ o o' ov ov' g, o ≠ o' → e.obj o = some ov → e.obj o' = some ov' → bI SF β o ov g → bI SF β o' ov' g → False
def Rel (c : Ctx) (e : Env) (a : Act) (w : World) : Prop := ∃ β SF, aC c β SF e a w
end Go.Px
namespace Go.Px
open Go
theorem dz {α : Type} (k : Nat) (v : Option α) (r : List (Nat × Option α)) (s : Nat) : look ((k, v) :: r) s = if k = s then v else look r s := by
 show cond (Nat.beq k s) v (look r s) = _
 by_cases h : k = s
 ·simp [h]
 ·have : Nat.beq k s = false := by
   cases hb : Nat.beq k s
   ·rfl
   ·exact absurd (Nat.eq_of_beq_eq_true hb) h
  simp [h, this]
@[simp] theorem dV (e : Env) (s : Nat) (v : Option SV) (s' : Nat) : (e.put (.slot s v)).slot s' = if s = s' then v else e.slot s' := dz ..
@[simp] theorem lg (e : Env) (s : Nat) (v : Option SV) (o : Nat) : (e.put (.slot s v)).obj o = e.obj o := rfl
@[simp] theorem lh (e : Env) (o : Nat) (v : Option OV) (s : Nat) : (e.put (.obj o v)).slot s = e.slot s := rfl
@[simp] theorem ai (e : Env) (o : Nat) (v : Option OV) (o' : Nat) : (e.put (.obj o v)).obj o' = if o = o' then v else e.obj o' := dz ..
section
variable {h h' : Array Obj} {SA : Nat → Prop} {SF SF' : Loc → Prop} {β β' : Nat → Value}
theorem S2.mono (hSF : ∀ k, SF k → SF' k) (f : Bool) : ∀ k, S2 SA SF f k → S2 SA SF' f k := fun _ hk => hk.imp (hSF _) id
theorem S2.sub (f : Bool) {k : Nat} (hk : S2 SA SF f k) : SA k ∨ SF k := hk.elim .inr fun x => .inl x.2
theorem aG.mono (hSF : ∀ k, SF k → SF' k) (hh : ∀ k, SA k ∨ SF k → h'[k]? = h[k]?) {c : Cell} {v : Value} (hβ : ∀ o ∈ c.names, β' o = β o)
  (H : aG h SA SF β c v) : aG h' SA SF' β' c v := by
 cases c with
 | val t x f => exact bm.mono (S2.mono hSF f) (fun k hk => hh k (S2.sub f hk)) H
 | nil => exact H
 | row o => exact ⟨by rw [hβ o (by simp [aq])]; exact H.1, H.2⟩
 | part o t lo n =>
  obtain ⟨a, N, c, h1, h2⟩ := H
  exact ⟨a, N, c, by rw [hβ o (by simp [aq])]; exact h1, h2⟩
 | ptr o k =>
  obtain ⟨g, h1, h2⟩ := H
  exact ⟨g, by rw [hβ o (by simp [aq])]; exact h1, h2⟩
 | xQ o t i k =>
  obtain ⟨g, b, N, c, h1, h2⟩ := H
  exact ⟨g, b, N, c, by rw [hβ o (by simp [aq])]; exact h1, h2⟩
 | lj t x f =>
  obtain ⟨g, off, arr, et, fz, h1, h2, h3, h4, h5⟩ := H
  exact ⟨g, off, arr, et, fz, h1, S2.mono hSF f _ h2, (hh g (S2.sub f h2)).trans h3, h4, bm.mono (S2.mono hSF f) (fun k hk => hh k (S2.sub f hk)) h5⟩
 | fn f caps =>
  obtain ⟨h1, h2⟩ := H
  refine ⟨by rw [h1]; congr 2; exact List.map_congr_left fun o ho => (hβ o ho).symm, fun o ho => ?_⟩
  obtain ⟨g, hg⟩ := h2 o ho
  exact ⟨g, by rw [hβ o ho]; exact hg⟩
 | mp o => exact ⟨by rw [hβ o (by simp [aq])]; exact H.1, H.2⟩
 | ad et t k i off =>
  obtain ⟨g, C, h1, h2⟩ := H
  exact ⟨g, C, hSF _ h1, h2⟩
theorem ao.mono (hSF : ∀ k, SF k → SF' k) (hh : ∀ k, SA k ∨ SF k → h'[k]? = h[k]?) : ∀ {cs : List Cell} {vs : List Value}, (∀ o ∈ cs.flatMap Cell.names, β' o = β o) →
  ao h SA SF β cs vs → ao h' SA SF' β' cs vs
 | [], _, _, H => H
 | c :: cs, _, hβ, ⟨v, r, e, h1, h2⟩ => ⟨v, r, e, h1.mono hSF hh (fun o ho => hβ o (by simp [ho])), ao.mono hSF hh (fun o ho => hβ o (by
   rw [List.flatMap_cons, List.mem_append]; exact .inr ho)) h2⟩
theorem ao.len : ∀ {cs : List Cell} {vs : List Value}, ao h SA SF β cs vs → vs.length = cs.length
 | [], _, H => by simp only [ao, gk] at H; subst H; rfl
 | c :: cs, _, ⟨v, r, e, _, h2⟩ => by subst e; simp [ao.len h2]
theorem gk.part (hSF : ∀ k, SF k → SF' k) (hh : ∀ k, SA k ∨ SF k → h'[k]? = h[k]?) : ∀ {l : List (Bool × List Cell)} {vs : List Value}, (∀ o ∈ l.flatMap (fun p => p.2.flatMap Cell.names), β' o = β o) →
  gk (lf h SA SF β) l vs → gk (lf h' SA SF' β') l vs
 | [], _, _, H => H
 | p :: l, _, hβ, ⟨v, r, e, ⟨vs, h1, h3⟩, h2⟩ => ⟨v, r, e, ⟨vs, h1.mono hSF hh (fun o ho => hβ o (by rw [List.flatMap_cons, List.mem_append]; exact .inl ho)), h3⟩,
   gk.part hSF hh (fun o ho => hβ o (by rw [List.flatMap_cons, List.mem_append]; exact .inr ho)) h2⟩
theorem eg.mono (hSF : ∀ k, SF k → SF' k) (hh : ∀ k, SA k ∨ SF k → h'[k]? = h[k]?) {x : SV} {v : Value} (hβ : ∀ o ∈ x.names, β' o = β o)
  (H : eg h SA SF β x v) : eg h' SA SF' β' x v := by
 cases x with
 | cell c => exact aG.mono hSF hh hβ H
 | agg cs => obtain ⟨vs, e, H⟩ := H; exact ⟨vs, e, H.mono hSF hh hβ⟩
 | xr l => obtain ⟨vs, e, H⟩ := H; exact ⟨vs, e, H.part hSF hh hβ⟩
 | undef => exact H
 | top => trivial
theorem Dn {w w' : World} {b : Nat} {et : TypeId} {sz : Nat} {v : Value} {n : Nat} {vs : List Value} (hb : ∀ g, bo v = some g → w'.heap[g]? = w.heap[g]?)
  (H : w.fc b et sz v n vs) : w'.fc b et sz v n vs := by
 refine ⟨H.1, H.2.imp id fun ⟨g, off, cap, cur, h1, h2, h3, h4⟩ => ⟨g, off, cap, cur, h1, h2, ?_, h4⟩⟩
 rw [hb g (by rw [h1]; rfl)]
 exact h3
def HM (SF SF' : Loc → Prop) : OV → Prop
 | .mem _ et _ => ∀ k g C, SF' (.m et k g C) → SF (.m et k g C)
 | _ => True
theorem yG.same (h : yG SF' SF) (ov : OV) : HM SF SF' ov := by
 cases ov <;> first | trivial | exact fun k g C => h _ k g C
theorem bI.back {o g : Nat} {ov : OV} (hs : HM SF SF' ov) (hβ : β' o = β o) (h : bI SF' β' o ov g) : bI SF β o ov g := by
 cases ov with
 | mem t et bs =>
  obtain ⟨k, xs, C, h1, h2⟩ := h
  exact ⟨k, xs, C, h1, hs _ _ _ h2⟩
 | row t et xs f st => exact (show bo (β o) = some g by rw [← hβ]; exact h)
 | box cs st => exact (show bo (β o) = some g by rw [← hβ]; exact h)
 | mp k es st => exact (show bo (β o) = some g by rw [← hβ]; exact h)
 | al t et x => exact h.elim
 | dead => exact h.elim
theorem dy.mono {t : Ty} {et : Nat} {bs : List (Option (List t.den))} (hSF : ∀ k, SF k → SF' k) (hs : ∀ k g C, SF' (.m et k g C) → SF (.m et k g C)) (hh : ∀ k, SA k ∨ SF k → h'[k]? = h[k]?)
  (hb : ∀ g, (∃ k xs C, bs[k]? = some (some xs) ∧ SF (.m et (k + 1) g C)) → h'[g]? = h[g]?) (H : dy h SA SF t et bs) : dy h' SA SF' t et bs where
 E3 k g C q := H.E3 k g C (hs _ _ _ q)
 one k g C g' C' q q' := H.one _ _ _ _ _ (hs _ _ _ q) (hs _ _ _ q')
 HQ k xs hk := (H.HQ k xs hk).imp (fun ⟨h1, h2⟩ => ⟨h1, fun g C q => h2 g C (hs _ _ _ q)⟩) fun ⟨g, C, cur, h1, h2, h3, h4, h5, h6⟩ =>
  ⟨g, C, cur, hSF _ h1, (hb g ⟨k, xs, C, hk, h1⟩).trans h2, h3, h4, h5, h6.mono fun _ _ hr => bm.mono (S2.mono hSF true) (fun k hk => hh k (S2.sub true hk)) hr⟩
 inj k k' xs xs' g C C' q1 q2 q3 q4 := H.inj k k' xs xs' g C C' q1 q2 (hs _ _ _ q3) (hs _ _ _ q4)
 sl := H.sl
theorem cS.mono {w w' : World} {o : Nat} (hSF : ∀ k, SF k → SF' k) (hh : ∀ k, SA k ∨ SF k → w'.heap[k]? = w.heap[k]?)
  {ov : OV} (hb : ∀ g, bI SF β o ov g → w'.heap[g]? = w.heap[g]?) (hs : HM SF SF' ov) (hβ0 : β' o = β o) (hβ : ∀ n ∈ ov.names, β' n = β n) (H : cS SA SF β w o ov) : cS SA SF' β' w' o ov := by
 cases ov with
 | row t et xs f st =>
  obtain ⟨vs, h1, h2⟩ := H
  exact ⟨vs, by rw [hβ0]; exact Dn hb h1, h2.mono fun _ _ hr => bm.mono (S2.mono hSF f) (fun k hk => hh k (S2.sub f hk)) hr⟩
 | box cs st =>
  obtain ⟨g, arr, et, h1, h2, h3⟩ := H
  exact ⟨g, arr, et, by rw [hβ0]; exact h1, by rw [hb g (show bo (β o) = some g by rw [h1]; rfl)]; exact h2, h3.mono hSF hh hβ⟩
 | mp k es st =>
  obtain ⟨g, ents, ck, h1, h2, h3⟩ := H
  exact ⟨g, ents, ck, by rw [hβ0]; exact h1, by rw [hb g (show bo (β o) = some g by rw [h1]; rfl)]; exact h2, h3⟩
 | mem t et bs => exact ⟨H.1, dy.mono hSF hs hh (fun g hg => hb g hg) H.2⟩
 | dead => trivial
 | al t et x =>
  show bm w'.heap (S2 SA SF' true) (.aI et t) [β' o] x
  rw [hβ0]
  exact bm.mono (S2.mono hSF true) (fun k hk => hh k (S2.sub true hk)) H
end
theorem aC.go' {c : Ctx} {β : Nat → Value} {SF : Loc → Prop} {e : Env} {a : Act} {w : World} (H : aC c β SF e a w)
  {β' : Nat → Value} {SF' : Loc → Prop} {e' : Env} {a' : Act} {w' : World} (M : Nat → Prop)
  (os : w'.os = w.os) (tape : w'.tape = w.tape) (output : w'.output = w.output) (size : w.heap.size ≤ w'.heap.size)
  (keep : ∀ k, k < w.heap.size → ¬ M k → w'.heap[k]? = w.heap[k]?) (hM : ∀ k, M k → ¬ c.SA k ∧ ¬ SF k ∧ (c.w0.heap.size ≤ k ∨ c.tq k))
  (hSF : ∀ k, SF k → SF' k) (sf : ∀ k : Nat, SF' k → c.w0.heap.size ≤ k ∧ k < w'.heap.size)
  (nd : a'.defers = []) (nt : a'.tmps.size = c.N) (pins : ∀ p ∈ c.NR, a'.tmps.getD p.1 undef = a.tmps.getD p.1 undef)
  (bk : ∀ s sv, e'.slot s = some sv → (e.slot s = some sv ∧ a'.tmps.getD s undef = a.tmps.getD s undef ∧ ∀ o ∈ sv.names, β' o = β o) ∨
   (s < c.N ∧ eg w'.heap c.SA SF' β' sv (a'.tmps.getD s undef)))
  (aY : ∀ o ov, e'.obj o = some ov → (e.obj o = some ov ∧ β' o = β o ∧ (∀ n ∈ ov.names, β' n = β n) ∧ (∀ g, bI SF β o ov g → ¬ M g ∧ (ov.st ≠ 1 → SF' g → SF g)) ∧ HM SF SF' ov) ∨
   (cS c.SA SF' β' w' o ov ∧ ∀ g, bI SF' β' o ov g → g < w'.heap.size ∧ ((ov.st = 0 ∧ c.w0.heap.size ≤ g ∧ ¬ SF' g) ∨ (ov.st = 1 ∧ SF' g) ∨ (ov.st = 2 ∧ (c.tq g ∨ c.w0.heap.size ≤ g ∧ ¬ SF' g)))))
  (inj : ∀ o o' ov ov' g, o ≠ o' → e'.obj o = some ov → e'.obj o' = some ov' → bI SF' β' o ov g → bI SF' β' o' ov' g → False) :
  aC c β' SF' e' a' w' := by
 have hlt : ∀ k, c.SA k ∨ SF k → k < w.heap.size := fun k hk => hk.elim (fun h => Nat.lt_of_lt_of_le (H.sa k h).1 H.size) (fun h => (H.sf k h).2)
 have hh : ∀ k, c.SA k ∨ SF k → w'.heap[k]? = w.heap[k]? := fun k hk => keep k (hlt k hk) fun hm => hk.elim (hM k hm).1 (hM k hm).2.1
 refine ⟨os.trans H.os, tape.trans H.tape, output.trans H.output, Nat.le_trans H.size size, fun k hk hb => ?_, H.sa, H.P0, sf, fun l hl => hSF l (H.mu l hl), nd, nt, fun p hp => (pins p hp).trans (H.pins p hp), fun s sv hs => ?_, fun o ov ho => ?_, fun o ov g ho hg => ?_, inj⟩
 ·rw [keep k (Nat.lt_of_lt_of_le hk H.size) fun hm => (hM k hm).2.2.elim (fun h => by omega) hb]
  exact H.sr k hk hb
 ·rcases bk s sv hs with ⟨h1, h2, h3⟩ | h
  ·obtain ⟨h4, h5⟩ := H.bk s sv h1
   exact ⟨h4, by rw [h2]; exact h5.mono hSF hh h3⟩
  ·exact h
 ·rcases aY o ov ho with ⟨h1, h2, h3, h4, h5⟩ | h
  ·exact (H.aY o ov h1).mono hSF hh (fun g hg => keep g (H.own o ov g h1 hg).1 (h4 g hg).1) h5 h2 h3
  ·exact h.1
 ·rcases aY o ov ho with ⟨h1, h2, h3, h4, h7⟩ | h
  ·have hg := hg.back h7 h2
   obtain ⟨h5, h6⟩ := H.own o ov g h1 hg
   exact ⟨Nat.lt_of_lt_of_le h5 size, h6.imp (fun ⟨x, y, z⟩ => ⟨x, y, fun hs => z ((h4 g hg).2 (by omega) hs)⟩) (Or.imp (fun ⟨x, y⟩ => ⟨x, hSF g y⟩) fun ⟨x, y⟩ => ⟨x, y.imp id fun ⟨p, q⟩ => ⟨p, fun hs => q ((h4 g hg).2 (by omega) hs)⟩⟩)⟩
  ·exact h.2 g hg
theorem aC.go {c : Ctx} {β : Nat → Value} {SF : Loc → Prop} {e : Env} {a : Act} {w : World} (H : aC c β SF e a w)
  {β' : Nat → Value} {SF' : Loc → Prop} {e' : Env} {a' : Act} {w' : World} (M : Nat → Prop)
  (os : w'.os = w.os) (tape : w'.tape = w.tape) (output : w'.output = w.output) (size : w.heap.size ≤ w'.heap.size)
  (keep : ∀ k, k < w.heap.size → ¬ M k → w'.heap[k]? = w.heap[k]?) (hM : ∀ k, M k → ¬ c.SA k ∧ ¬ SF k ∧ (c.w0.heap.size ≤ k ∨ c.tq k))
  (hSF : ∀ k, SF k → SF' k) (hmm : yG SF' SF) (sf : ∀ k : Nat, SF' k → c.w0.heap.size ≤ k ∧ k < w'.heap.size)
  (nd : a'.defers = []) (nt : a'.tmps.size = c.N) (pins : ∀ p ∈ c.NR, a'.tmps.getD p.1 undef = a.tmps.getD p.1 undef)
  (bk : ∀ s sv, e'.slot s = some sv → (e.slot s = some sv ∧ a'.tmps.getD s undef = a.tmps.getD s undef ∧ ∀ o ∈ sv.names, β' o = β o) ∨
   (s < c.N ∧ eg w'.heap c.SA SF' β' sv (a'.tmps.getD s undef)))
  (aY : ∀ o ov, e'.obj o = some ov → (e.obj o = some ov ∧ β' o = β o ∧ (∀ n ∈ ov.names, β' n = β n) ∧ ∀ g, bI SF β o ov g → ¬ M g ∧ (ov.st ≠ 1 → SF' g → SF g)) ∨
   (cS c.SA SF' β' w' o ov ∧ ∀ g, bI SF' β' o ov g → g < w'.heap.size ∧ ((ov.st = 0 ∧ c.w0.heap.size ≤ g ∧ ¬ SF' g) ∨ (ov.st = 1 ∧ SF' g) ∨ (ov.st = 2 ∧ (c.tq g ∨ c.w0.heap.size ≤ g ∧ ¬ SF' g)))))
  (inj : ∀ o o' ov ov' g, o ≠ o' → e'.obj o = some ov → e'.obj o' = some ov' → bI SF' β' o ov g → bI SF' β' o' ov' g → False) :
  aC c β' SF' e' a' w' :=
 H.go' M os tape output size keep hM hSF sf nd nt pins bk (fun o ov ho => (aY o ov ho).imp (fun ⟨h1, h2, h3, h4⟩ => ⟨h1, h2, h3, h4, hmm.same ov⟩) id) inj
section
variable {c : Ctx} {β : Nat → Value} {SF : Loc → Prop} {e : Env} {a : Act} {w : World}
theorem Jz (a : Act) (d : Option Tmp) (v : Value) : (a.put d v).tmps.size = a.tmps.size := by cases d <;> simp [Act.put]
theorem put_defers (a : Act) (d : Option Tmp) (v : Value) : (a.put d v).defers = a.defers := by cases d <;> rfl
theorem BL (a : Act) (d : Nat) (v : Value) (s : Nat) (hd : d < a.tmps.size) : (a.put (some d) v).tmps.getD s undef = if d = s then v else a.tmps.getD s undef := by
 simp only [Act.put]
 rw [Array.getD_eq_getD_getElem?, Array.getD_eq_getD_getElem?, Array.getElem?_setIfInBounds]
 split
 ·subst_vars; simp
 ·rfl
theorem aC.slot (H : aC c β SF e a w) (d : Nat) (hok : c.ok d) (x : Option SV) (v : Value) (hx : ∀ y, x = some y → eg w.heap c.SA SF β y v) :
  aC c β SF (e.put (.slot d x)) (a.put (some d) v) w := by
 have hd := hok.1
 have hd' : d < a.tmps.size := by rw [H.nt]; exact hd
 refine H.go (fun _ => False) rfl rfl rfl (Nat.le_refl _) (fun _ _ _ => rfl) (fun _ h => h.elim) (fun _ h => h) (fun _ _ _ _ h => h) H.sf (by rw [put_defers]; exact H.nd) (by rw [Jz]; exact H.nt) (fun p hp => by rw [BL a d v p.1 hd', if_neg fun h => hok.2 p hp h.symm])
  (fun s sv hs => ?_) (fun o ov ho => ?_) H.inj
 ·rw [dV] at hs
  by_cases h : d = s
  ·subst h
   rw [if_pos rfl] at hs
   exact .inr ⟨hd, by rw [BL a d v d hd', if_pos rfl]; exact hx _ hs⟩
  ·rw [if_neg h] at hs
   exact .inl ⟨hs, by rw [BL a d v s hd', if_neg h], fun _ _ => rfl⟩
 ·exact .inl ⟨ho, rfl, fun _ _ => rfl, fun _ _ => ⟨id, fun _ h => h⟩⟩
theorem aC.yH (H : aC c β SF e a w) (d : Nat) (hd : d < c.N) (x : Option SV) (hx : ∀ y, x = some y → eg w.heap c.SA SF β y (a.tmps.getD d undef)) :
  aC c β SF (e.put (.slot d x)) a w := by
 refine H.go (fun _ => False) rfl rfl rfl (Nat.le_refl _) (fun _ _ _ => rfl) (fun _ h => h.elim) (fun _ h => h) (fun _ _ _ _ h => h) H.sf H.nd H.nt (fun _ _ => rfl)
  (fun s sv hs => ?_) (fun o ov ho => ?_) H.inj
 ·rw [dV] at hs
  by_cases h : d = s
  ·subst h
   rw [if_pos rfl] at hs
   exact .inr ⟨hd, hx _ hs⟩
  ·rw [if_neg h] at hs
   exact .inl ⟨hs, rfl, fun _ _ => rfl⟩
 ·exact .inl ⟨ho, rfl, fun _ _ => rfl, fun _ _ => ⟨id, fun _ h => h⟩⟩
theorem aC.drew (H : aC c β SF e a w) (n : Nat) : aC c β SF e a { w with drawn := n } :=
 ⟨H.os, H.tape, H.output, H.size, H.sr, H.sa, H.P0, H.sf, H.mu, H.nd, H.nt, H.pins, H.bk, fun o ov ho => by
  have := H.aY o ov ho
  cases ov <;> exact this, H.own, H.inj⟩
theorem aC.drop (H : aC c β SF e a w) (o : Nat) : aC c β SF (e.put (.obj o none)) a w := by
 refine H.go (fun _ => False) rfl rfl rfl (Nat.le_refl _) (fun _ _ _ => rfl) (fun _ h => h.elim) (fun _ h => h) (fun _ _ _ _ h => h) H.sf H.nd H.nt (fun _ _ => rfl)
  (fun s sv hs => .inl ⟨hs, rfl, fun _ _ => rfl⟩) (fun o' ov ho => ?_) (fun o1 o2 ov ov' g hne h1 h2 => ?_)
 ·rw [ai] at ho
  split at ho
  ·cases ho
  ·exact .inl ⟨ho, rfl, fun _ _ => rfl, fun _ _ => ⟨id, fun _ h => h⟩⟩
 ·rw [ai] at h1 h2
  split at h1
  ·cases h1
  ·split at h2
   ·cases h2
   ·exact H.inj o1 o2 ov ov' g hne h1 h2
@[reducible] def fz (SF : Loc → Prop) (v : Value) : Loc → Prop
 | .b k => SF (.b k) ∨ bo v = some k
 | .m et k g C => SF (.m et k g C)
theorem fz.sub {v : Value} : ∀ l, SF l → fz SF v l
 | .b _, h => .inl h
 | .m .., h => h
theorem fz.mem {v : Value} : yG (fz SF v) SF := fun _ _ _ _ h => h
theorem aC.freeze (H : aC c β SF e a w) {o : Nat} {t : Ty} {et : Nat} {xs : List t.den} {f : Bool} (ho : e.obj o = some (.row t et xs f 0)) :
  aC c β (fz SF (β o)) (e.put (.obj o (some (.row t et xs f 1)))) a w := by
 have hw := fun g (hg : bo (β o) = some g) => H.own o _ g ho hg
 refine H.go (fun _ => False) rfl rfl rfl (Nat.le_refl _) (fun _ _ _ => rfl) (fun _ h => h.elim) fz.sub fz.mem (fun k hk => ?_) H.nd H.nt (fun _ _ => rfl)
  (fun s sv hs => .inl ⟨hs, rfl, fun _ _ => rfl⟩) (fun o' ov ho' => ?_) (fun o1 o2 ov ov' g hne h1 h2 => ?_)
 ·rcases hk with hk | hk
  ·exact H.sf k hk
  ·obtain ⟨h1, h2⟩ := hw k hk
   rcases h2 with h2 | h2 | h2
   ·exact ⟨h2.2.1, h1⟩
   ·exact absurd h2.1 (by simp [OV.st])
   ·exact absurd h2.1 (by simp [OV.st])
 ·rw [ai] at ho'
  by_cases h : o = o'
  ·subst h
   rw [if_pos rfl] at ho'
   cases ho'
   refine .inr ⟨?_, fun g hg => ⟨(hw g hg).1, .inr (.inl ⟨rfl, .inr hg⟩)⟩⟩
   exact (H.aY o _ ho).mono fz.sub (fun _ _ => rfl) (fun _ _ => rfl) trivial rfl (fun _ h => by simp [OV.names] at h)
  ·rw [if_neg h] at ho'
   refine .inl ⟨ho', rfl, fun _ _ => rfl, fun g hg => ⟨id, fun h0 hs => ?_⟩⟩
   rcases hs with hs | hs
   ·exact hs
   ·exact absurd (H.inj o o' _ _ g h ho ho' hs hg) id
 ·rw [ai] at h1 h2
  have key : ∀ o' ov1, (if o = o' then some (OV.row t et xs f 1) else e.obj o') = some ov1 → ∃ ov, e.obj o' = some ov ∧ (bI (fz SF (β o)) β o' ov1 g → bI SF β o' ov g) := fun o' ov1 h => by
   split at h
   ·subst_vars; cases h; exact ⟨_, ho, fun h => h⟩
   ·exact ⟨_, h, fun h => h.back (fz.mem.same _) rfl⟩
  obtain ⟨x1, y1, z1⟩ := key o1 _ h1
  obtain ⟨x2, y2, z2⟩ := key o2 _ h2
  exact fun q1 q2 => H.inj o1 o2 _ _ g hne y1 y2 (z1 q1) (z2 q2)
def ua (e : Env) (o : Nat) : Prop := (∃ s sv, e.slot s = some sv ∧ o ∈ sv.names) ∨ (∃ n ov, e.obj n = some ov ∧ (n = o ∨ o ∈ ov.names))
def AU (β : Nat → Value) (o : Nat) (v : Value) : Nat → Value := fun n => if n = o then v else β n
theorem bT (o : Nat) (v : Value) : AU β o v o = v := by simp [AU]
theorem ny {o n : Nat} (v : Value) (h : n ≠ o) : AU β o v n = β n := by simp [AU, h]
def OV.flat : OV → Prop
 | .mem .. => False | .al .. => False | .dead => False | _ => True
theorem bI.of {o g : Nat} {ov : OV} (hf : ov.flat) (h : bo (β o) = some g) : bI SF β o ov g := by
 cases ov <;> first | exact h | cases hf
theorem bI.flat {o g : Nat} {ov : OV} (hf : ov.flat) (h : bI SF β o ov g) : bo (β o) = some g := by
 cases ov <;> first | exact h | cases hf
theorem aC.new (H : aC c β SF e a w) {o : Nat} (hn : ¬ ua e o) {w' : World} (M : Nat → Prop)
  (os : w'.os = w.os) (tape : w'.tape = w.tape) (output : w'.output = w.output) (size : w.heap.size ≤ w'.heap.size)
  (keep : ∀ k, k < w.heap.size → ¬ M k → w'.heap[k]? = w.heap[k]?) (hM : ∀ k, M k → ¬ c.SA k ∧ ¬ SF k ∧ (c.w0.heap.size ≤ k ∨ c.tq k))
  (hfree : ∀ o' ov' g, e.obj o' = some ov' → bI SF β o' ov' g → ¬ M g) {v : Value} {ov : OV}
  (hob : cS c.SA SF (AU β o v) w' o ov)
  (hown : ∀ g, bo v = some g → g < w'.heap.size ∧ ((ov.st = 0 ∧ c.w0.heap.size ≤ g ∧ ¬ SF g) ∨ (ov.st = 1 ∧ SF g) ∨ (ov.st = 2 ∧ (c.tq g ∨ c.w0.heap.size ≤ g ∧ ¬ SF g))) ∧ ∀ o' ov', e.obj o' = some ov' → ¬ bI SF β o' ov' g) (hfl : ov.flat := by trivial) :
  aC c (AU β o v) SF (e.put (.obj o (some ov))) a w' := by
 have hne : ∀ n ov, e.obj n = some ov → n ≠ o := fun n ov h he => hn (.inr ⟨n, ov, h, .inl he⟩)
 refine H.go M os tape output size keep hM (fun _ h => h) (fun _ _ _ _ h => h)
  (fun k hk => ⟨(H.sf k hk).1, Nat.lt_of_lt_of_le (H.sf k hk).2 size⟩) H.nd H.nt (fun _ _ => rfl)
  (fun s sv hs => .inl ⟨hs, rfl, fun n hns => ny v fun he => hn (.inl ⟨s, sv, hs, he ▸ hns⟩)⟩) (fun o' ov' ho' => ?_) (fun o1 o2 ov1 ov2 g hne12 h1 h2 hg1 hg2 => ?_)
 ·rw [ai] at ho'
  by_cases h : o = o'
  ·subst h
   rw [if_pos rfl] at ho'
   cases ho'
   refine .inr ⟨hob, fun g hg => ?_⟩
   have hg := hg.flat hfl
   rw [bT] at hg
   obtain ⟨h1, h2, _⟩ := hown g hg
   exact ⟨h1, h2⟩
  ·rw [if_neg h] at ho'
   exact .inl ⟨ho', ny v (hne _ _ ho'), fun n hnn => ny v fun he => hn (.inr ⟨o', ov', ho', .inr (he ▸ hnn)⟩), fun g hg => ⟨hfree _ _ _ ho' hg, fun _ h => h⟩⟩
 ·rw [ai] at h1 h2
  have hb : ∀ n ov', e.obj n = some ov' → bI SF (AU β o v) n ov' g → bI SF β n ov' g := fun n ov' h q => q.back (by cases ov' <;> first | trivial | exact fun _ _ _ h => h) (ny v (hne _ _ h))
  by_cases e1 : o = o1
  ·subst e1
   rw [if_neg hne12] at h2
   rw [if_pos rfl] at h1
   cases h1
   have hg1 := hg1.flat hfl
   rw [bT] at hg1
   exact (hown g hg1).2.2 _ _ h2 (hb _ _ h2 hg2)
  ·rw [if_neg e1] at h1
   by_cases e2 : o = o2
   ·subst e2
    rw [if_pos rfl] at h2
    cases h2
    have hg2 := hg2.flat hfl
    rw [bT] at hg2
    exact (hown g hg2).2.2 _ _ h1 (hb _ _ h1 hg1)
   ·rw [if_neg e2] at h2
    exact H.inj o1 o2 _ _ g hne12 h1 h2 (hb _ _ h1 hg1) (hb _ _ h2 hg2)
theorem aC.loose (H : aC c β SF e a w) {o : Nat} {ov : OV} (ho : e.obj o = some ov) (hst : ov.st ≠ 1) {k : Nat} (hk : bI SF β o ov k) : ¬ c.SA k ∧ ¬ SF k ∧ (c.w0.heap.size ≤ k ∨ c.tq k) := by
 rcases (H.own o ov k ho hk).2 with h | h | ⟨_, h | h⟩
 ·exact ⟨fun hs => by have := (H.sa k hs).1; omega, h.2.2, .inl h.2.1⟩
 ·exact absurd h.1 hst
 ·exact ⟨fun hs => (H.sa k hs).2 h, fun hs => by have := (H.sf k hs).1; have := H.P0 k h; omega, .inr h⟩
 ·exact ⟨fun hs => by have := (H.sa k hs).1; omega, h.2, .inl h.1⟩
theorem aC.rewrite (H : aC c β SF e a w) {o : Nat} {ov ov' : OV} (ho : e.obj o = some ov) (hst : ov'.st = ov.st) (hnf : ov.st ≠ 1) {w' : World}
  (os : w'.os = w.os) (tape : w'.tape = w.tape) (output : w'.output = w.output) (size : w.heap.size ≤ w'.heap.size)
  (keep : ∀ k, k < w.heap.size → ¬ bI SF β o ov k → w'.heap[k]? = w.heap[k]?) (hob : cS c.SA SF β w' o ov') (how : ∀ g, bI SF β o ov' g → bI SF β o ov g := by exact fun _ h => h) :
  aC c β SF (e.put (.obj o (some ov'))) a w' := by
 refine H.go (fun k => bI SF β o ov k) os tape output size keep (fun k hk => H.loose ho hnf hk) (fun _ h => h) (fun _ _ _ _ h => h) (fun k hk => ⟨(H.sf k hk).1, Nat.lt_of_lt_of_le (H.sf k hk).2 size⟩) H.nd H.nt (fun _ _ => rfl)
  (fun s sv hs => .inl ⟨hs, rfl, fun _ _ => rfl⟩) (fun o' ov1 ho' => ?_) (fun o1 o2 ov1 ov2 g hne h1 h2 => ?_)
 ·rw [ai] at ho'
  by_cases h : o = o'
  ·subst h
   rw [if_pos rfl] at ho'
   cases ho'
   refine .inr ⟨hob, fun g hg => ?_⟩
   obtain ⟨h1, h2⟩ := H.own o ov g ho (how g hg)
   exact ⟨Nat.lt_of_lt_of_le h1 size, by rw [hst]; exact h2⟩
  ·rw [if_neg h] at ho'
   exact .inl ⟨ho', rfl, fun _ _ => rfl, fun g hg => ⟨fun hm => H.inj o o' _ _ g h ho ho' hm hg, fun _ h => h⟩⟩
 ·rw [ai] at h1 h2
  have key : ∀ o' ov1, (if o = o' then some ov' else e.obj o') = some ov1 → ∃ ov2, e.obj o' = some ov2 ∧ (bI SF β o' ov1 g → bI SF β o' ov2 g) := fun o' ov1 h => by
   split at h
   ·subst_vars; cases h; exact ⟨_, ho, how g⟩
   ·exact ⟨_, h, fun h => h⟩
  obtain ⟨x1, y1, z1⟩ := key o1 _ h1
  obtain ⟨x2, y2, z2⟩ := key o2 _ h2
  exact fun q1 q2 => H.inj o1 o2 _ _ g hne y1 y2 (z1 q1) (z2 q2)
theorem aC.qe (H : aC c β SF e a w) {o : Nat} {ov ov' : OV} (ho : e.obj o = some ov) (hst : ov'.st = ov.st ∨ ov.st = 0 ∧ ov'.st = 2) (hob : cS c.SA SF β w o ov') (how : ∀ g, bI SF β o ov' g → bI SF β o ov g := by exact fun _ h => h) :
  aC c β SF (e.put (.obj o (some ov'))) a w := by
 refine H.go (fun _ => False) rfl rfl rfl (Nat.le_refl _) (fun _ _ _ => rfl) (fun _ h => h.elim) (fun _ h => h) (fun _ _ _ _ h => h) H.sf H.nd H.nt (fun _ _ => rfl)
  (fun s sv hs => .inl ⟨hs, rfl, fun _ _ => rfl⟩) (fun o' ov1 ho' => ?_) (fun o1 o2 ov1 ov2 g hne h1 h2 => ?_)
 ·rw [ai] at ho'
  by_cases h : o = o'
  ·subst h
   rw [if_pos rfl] at ho'
   cases ho'
   refine .inr ⟨hob, fun g hg => ?_⟩
   obtain ⟨h1, h2⟩ := H.own o ov g ho (how g hg)
   refine ⟨h1, ?_⟩
   rcases hst with h | ⟨h, h'⟩
   ·rw [h]; exact h2
   ·rcases h2 with h2 | h2 | h2
    ·exact .inr (.inr ⟨h', .inr h2.2⟩)
    ·omega
    ·omega
  ·rw [if_neg h] at ho'
   exact .inl ⟨ho', rfl, fun _ _ => rfl, fun g hg => ⟨id, fun _ h => h⟩⟩
 ·rw [ai] at h1 h2
  have key : ∀ o' ov1, (if o = o' then some ov' else e.obj o') = some ov1 → ∃ ov2, e.obj o' = some ov2 ∧ (bI SF β o' ov1 g → bI SF β o' ov2 g) := fun o' ov1 h => by
   split at h
   ·subst_vars; cases h; exact ⟨_, ho, how g⟩
   ·exact ⟨_, h, fun h => h⟩
  obtain ⟨x1, y1, z1⟩ := key o1 _ h1
  obtain ⟨x2, y2, z2⟩ := key o2 _ h2
  exact fun q1 q2 => H.inj o1 o2 _ _ g hne y1 y2 (z1 q1) (z2 q2)
end
end Go.Px
namespace Go.Px
open Go
def lU : Ty → List Value
 | .int k => [.int k 0] | .bool => [.bool false] | .str => [.string ByteArray.empty] | .err => [.nilIface] | .mp => [.map none] | .slice _ => [.slice none 0 0]
 | .nil => [] | .cons a b => lU a ++ lU b | .aI _ _ => [.slice none 0 0]
@[simp] def dq : TD → TypeDesc → Prop
 | .int k, .int k' => k = k'
 | .bool, .bool => True
 | .string, .string => True
 | .err, .interface _ => True
 | .slice e, .slice e' => e = e'
 | .struct fs, .struct fields => fs = fields.toList.map fun f => (f.offset, f.type)
 | .array n e, .array n' e' => n = n' ∧ e = e'
 | .pointer e, .pointer e' => e = e'
 | .map k e, .map k' e' => k = k' ∧ e = e'
 | .other, d => d.isRow = false
 | _, _ => False
def NP (P : Program) (t : TypeId) (ty : Ty) : Prop := P.eqGuardType P.depth t = false ∧
 ∀ (h h' : Array Obj) (SA : Nat → Prop) (SF : Loc → Prop) (SA' : Nat → Prop) (SF' : Loc → Prop) (β β' : Nat → Value) (cs ds : List Cell) (vs us : List Value) (r : Bool) (w : World), mQ cs ds = some r →
  iC cs (mR ty) = true → ao h SA SF β cs vs → ao h' SA' SF' β' ds us → (Op.equal t (.agg vs.toArray) (.agg us.toArray)).run P w = .ok r w
structure aD (P : Program) (t : TypeId) (i : TI) : Prop where
 desc : ∃ d, P.underlying t = some d ∧ dq i.d d
 info : ∃ j, P.info? t = some j ∧ j.size = i.size ∧ j.bytes = i.bytes ∧ ∃ z, j.zero = some z ∧ z.cells.toList = lU i.ty
 size : i.ty.size = i.size
 NQ : i.NQ = true → NP P t i.ty
def mL (P : Program) (T : Types) : Prop := ∀ t i, look T t = some i → aD P t i
def ff (P : Program) (o : Oper) (a : Act) (w : World) (Φ : Act → World → Prop) : Prop :=
 (∃ v w', (execOp a.eval o).run P w = .ok (.value v) w' ∧ Φ (a.put o.dst v) w') ∨ (∃ w', (execOp a.eval o).run P w = .ok .skip w' ∧ Φ (a.put o.dst undef) w')
theorem ff.wp {P : Program} {o : Oper} {a : Act} {w : World} {Φ K : Act → World → Prop} {Q : Exit → Act → World → Prop} (h : ff P o a w Φ) (hK : ∀ a w, Φ a w → K a w) :
  o.wp P a w K Q := by
 unfold Oper.wp
 rcases h with ⟨v, w', h, hΦ⟩ | ⟨w', h, hΦ⟩
 ·rw [h]; exact hK _ _ hΦ
 ·rw [h]; exact hK _ _ hΦ
theorem lV {α : Type} (f : Nat → Option α) : ∀ (l : List Nat) (s : Nat) (v : α), look (l.map fun t => (t, f t)) s = some v → f s = some v
 | [], _, _, h => by cases h
 | t :: l, s, v, h => by
  rw [List.map_cons, dz] at h
  split at h
  ·subst_vars; exact h
  ·exact lV f l s v h
theorem fB {α : Type} : ∀ (l m : List (Nat × Option α)) (s : Nat) (v : α), look (l ++ m) s = some v → look l s = some v ∨ look m s = some v
 | [], _, _, _, h => .inr h
 | (k, x) :: l, m, s, v, h => by
  rw [List.cons_append, dz] at h
  rw [dz]
  split at h
  ·rename_i e; rw [if_pos e]; exact .inl h
  ·rename_i e; rw [if_neg e]; exact fB l m s v h
class Sub (ve e : Env) : Prop where
 slot : ∀ s v, ve.slot s = some v → e.slot s = some v
 obj : ∀ o v, ve.obj o = some v → e.obj o = some v
theorem AV {ve e : Env} [S : Sub ve e] {s : Nat} {v : SV} (h : ve.slot s = some v) : e.slot s = some v := S.slot _ _ h
theorem bE {ve e : Env} [S : Sub ve e] {o : Nat} {v : OV} (h : ve.obj o = some v) : e.obj o = some v := S.obj _ _ h
instance {e : Env} {ts ms : List Nat} : Sub (wB e ts ms) e where
 slot s v h := lV e.slot ts s v h
 obj o v h := by
  rcases fB _ _ o v h with h | h
  ·rcases fB _ _ o v h with h | h
   ·exact lV e.obj _ o v h
   ·exact lV e.obj _ o v h
  ·exact lV e.obj _ o v h
instance {e : Env} {ts : List Nat} : Sub (Gr e ts) e where
 slot s v h := lV e.slot ts s v h
 obj o v h := lV e.obj _ o v h
instance {cx : Cx} {e : Env} {o : Oper} : Sub (vw cx e o) e := by
 unfold vw
 cases Fc o
 ·exact inferInstanceAs (Sub (wB e _ _) e)
 ·exact inferInstanceAs (Sub (Gr e _) e)
section
variable {P : Program} {T : Types} {c : Ctx} {β : Nat → Value} {SF : Loc → Prop} {e : Env} {a : Act} {w : World} {ve : Env} [Sub ve e]
theorem Dp {v : Value} {x : SV} (h : xJ v = some x) : eg w.heap c.SA SF β x v := by
 unfold xJ at h
 split at h <;> cases h
 ·exact rfl
 ·exact rfl
 ·exact rfl
 ·exact rfl
 ·exact .inl ⟨rfl, rfl⟩
 ·trivial
theorem Lg (H : aC c β SF e a w) {s : SV} {v : Value} (h : eg w.heap c.SA SF β s v) : eg w.heap c.SA SF β (res ve s) v := by
 unfold res
 split
 ·split
  ·rename_i o t et x ho
   obtain ⟨rfl, _⟩ := h
   exact H.aY _ _ (bE ho)
  ·exact h
 ·exact h
theorem cY (H : aC c β SF e a w) {x : Operand} {s : SV} (h : jn ve x = some s) : eg w.heap c.SA SF β s (a.eval x) := by
 cases x with
 | tmp t =>
  obtain ⟨s', h1, rfl⟩ := Option.map_eq_some_iff.1 h
  exact Lg H (H.bk t s' (AV h1)).2
 | const v => exact Dp h
 | global g => cases h
 | func f => cases h; exact ⟨rfl, fun o ho => by cases ho⟩
theorem aW (H : aC c β SF e a w) {x : Operand} {s : Cell} (h : fb ve x = some s) : aG w.heap c.SA SF β s (a.eval x) := by
 unfold fb at h
 split at h
 ·cases h
  rename_i h'
  exact cY H h'
 ·cases h
theorem dN (H : aC c β SF e a w) {x : Operand} {k : IntKind} {n : Int} (h : iB ve x = some (k, n)) : a.eval x = .int k n := by
 unfold iB at h
 split at h
 ·cases h
  rename_i h'
  have := cY H h'
  simpa [eg, aG, bm] using this
 ·cases h
theorem lW {h : Array Obj} {SA : Nat → Prop} {SF : Loc → Prop} {β : Nat → Value} {b f : Bool} {v : Value} (H : aG h SA SF β (.val .bool b f) v) : v = .bool b := by
 simpa [aG, bm] using H
theorem xO {h : Array Obj} {SA : Nat → Prop} {SF : Loc → Prop} {β : Nat → Value} {k : IntKind} {b : Int} {f : Bool} {v : Value} (H : aG h SA SF β (.val (.int k) b f) v) : v = .int k b := by
 simpa [aG, bm] using H
theorem mU {h : Array Obj} {SA : Nat → Prop} {SF : Loc → Prop} {β : Nat → Value} {b : ByteArray} {f : Bool} {v : Value} (H : aG h SA SF β (.val .str b f) v) : v = .string b := by
 simpa [aG, bm] using H
theorem eH (H : aC c β SF e a w) {x : Operand} {s : Cell} (h : jn ve x = some (.cell s)) : aG w.heap c.SA SF β s (a.eval x) := cY H h
theorem nZ {t t' : Ty} {x : t'.den} {y : t.den} (h : wA t t' x = some y) : t' = t ∧ HEq x y := by
 unfold wA at h
 split at h
 ·rename_i hb
  have := Ty.eq_of_beq hb
  subst this
  cases h
  exact ⟨rfl, HEq.rfl⟩
 ·cases h
theorem fX {t t' : Ty} {x : List t'.den} {y : List t.den} (h : lQ t t' x = some y) : t' = t ∧ HEq x y := by
 unfold lQ at h
 split at h
 ·rename_i hb
  have := Ty.eq_of_beq hb
  subst this
  cases h
  exact ⟨rfl, HEq.rfl⟩
 ·cases h
theorem ff.pure {o : Oper} {d : Nat} (H : aC c β SF e a w) (hd : o.dst = some d) (hN : c.ok d) {x : SV} {v : Value} (hr : (execOp a.eval o).run P w = .ok (.value v) w)
  (hx : eg w.heap c.SA SF β x v) : ff P o a w (Rel c (e.aF [nO d x])) :=
 .inl ⟨v, w, hr, β, SF, by rw [hd]; exact H.slot d hN (some x) v fun y hy => by cases hy; exact hx⟩
variable {d : Nat} (ty : TypeId) (pos : String) (af : Array Edge) (g : Option (Nat × Bool))
theorem Fe (H : aC c β SF e a w) (hN : c.ok d) {x : Operand} {r : SV} (h : jn ve x = some r) :
  ff P ⟨some d, .move x, ty, pos, af, g⟩ a w (Rel c (e.aF [nO d r])) := .pure H rfl hN rfl (cY H h)
theorem BM (H : aC c β SF e a w) (hN : c.ok d) {x : Operand} {r : SV} (h : jn ve x = some r) :
  ff P ⟨some d, .assign x, ty, pos, af, g⟩ a w (Rel c (e.aF [nO d r])) := .pure H rfl hN rfl (cY H h)
theorem S2.xq {SA : Nat → Prop} {SF : Loc → Prop} (f f' : Bool) (hf : f = false → f' = false) : ∀ k, S2 SA SF f k → S2 SA SF f' k := fun _ hk => hk.imp id fun ⟨h3, h4⟩ => ⟨hf h3, h4⟩
theorem AW {x y z : Operand} (hb : a.eval x = .bool true) : (execOp a.eval ⟨some d, .pick x y z, ty, pos, af, g⟩).run P w = .ok (.value (a.eval y)) w := by
 simp only [execOp, hb, asBool]; rfl
theorem yI {x y z : Operand} (hb : a.eval x = .bool false) : (execOp a.eval ⟨some d, .pick x y z, ty, pos, af, g⟩).run P w = .ok (.value (a.eval z)) w := by
 simp only [execOp, hb, asBool]; rfl
theorem Ff (H : aC c β SF e a w) (hN : c.ok d) {x y z : Operand} {ef : pq} (h : Bz ve d x y z = some ef) :
  ff P ⟨some d, .pick x y z, ty, pos, af, g⟩ a w (Rel c (e.aF ef.ws)) := by
 unfold Bz at h
 split at h
 ·rename_i b f hc
  have hb := lW (aW H hc)
  split at h
  ·rename_i t p f1 t' q f2 h1 h2
   split at h
   ·rename_i q' hq
    cases h
    obtain ⟨rfl, hq⟩ := nZ hq
    cases hq
    have r1 := cY H h1
    have r2 := cY H h2
    cases b
    ·exact .pure H rfl hN (yI ty pos af g hb) (bm.mono (S2.xq f2 _ (by cases f1 <;> cases f2 <;> simp)) (fun _ _ => rfl) r2)
    ·exact .pure H rfl hN (AW ty pos af g hb) (bm.mono (S2.xq f1 _ (by cases f1 <;> cases f2 <;> simp)) (fun _ _ => rfl) r1)
   ·cases h
  ·rename_i p h1 _
   cases b
   ·cases h
   ·cases h; exact .pure H rfl hN (AW ty pos af g hb) (cY H h1)
  ·rename_i q _ h2
   cases b
   ·cases h; exact .pure H rfl hN (yI ty pos af g hb) (cY H h2)
   ·cases h
  ·cases h
 ·cases h
theorem iH (H : aC c β SF e a w) (hN : c.ok d) {x : Operand} {cl : Cell} (h : fb ve x = some cl)
  (hc : (∃ o off, cl = .ptr o off) ∨ (∃ o t i off, cl = .xQ o t i off) ∨ (∃ t y f, cl = .lj t y f) ∨ ∃ et t k i off, cl = .ad et t k i off) :
  ff P ⟨some d, .nilCheck x, ty, pos, af, g⟩ a w (Rel c (e.aF [bz d cl])) := by
 have hr := aW H h
 have hp : ∃ p, a.eval x = .pointer (some p) := by
  rcases hc with ⟨o, off, rfl⟩ | ⟨o, t, i, off, rfl⟩ | ⟨t, y, f, rfl⟩ | ⟨et, t, k, i, off, rfl⟩
  ·obtain ⟨g, _, h2⟩ := hr; exact ⟨_, h2⟩
  ·obtain ⟨g, _, _, _, _, _, h2⟩ := hr; exact ⟨_, h2⟩
  ·obtain ⟨g, off, arr, et, fz, h2, _⟩ := hr; exact ⟨_, h2⟩
  ·obtain ⟨g, C, _, h2⟩ := hr; exact ⟨_, h2⟩
 obtain ⟨p, hp⟩ := hp
 refine .pure (x := .cell cl) (v := .pointer (some p)) H rfl hN ?_ (by rw [← hp]; exact hr)
 simp only [execOp, hp]; rfl
theorem HN (H : aC c β SF e a w) (hN : c.ok d) {x : Operand} {xt : TypeId} {b : Bool} {f : Bool} (h : jn ve x = some (.cell (.val .bool b f))) :
  ff P ⟨some d, .unOp .not xt x, ty, pos, af, g⟩ a w (Rel c (e.aF [bz d (.val .bool (!b) true)])) := by
 have hb := lW (eH H h)
 exact .pure (x := .cell (.val .bool (!b) true)) (v := .bool (!b)) H rfl hN (by simp only [execOp, hb]; rfl) rfl
theorem HO (H : aC c β SF e a w) (hN : c.ok d) {x : Operand} {xt : TypeId} {k : IntKind} {n : Int} {f : Bool} (h : jn ve x = some (.cell (.val (.int k) n f))) :
  ff P ⟨some d, .unOp .neg xt x, ty, pos, af, g⟩ a w (Rel c (e.aF [bz d (.val (.int k) (k.wrap (0 - n)) true)])) := by
 have hb := xO (eH H h)
 exact .pure (x := .cell (.val (.int k) (k.wrap (0 - n)) true)) (v := .int k (k.wrap (0 - n))) H rfl hN (by simp only [execOp, hb]; rfl) rfl
theorem Fg (HT : mL P T) (H : aC c β SF e a w) (hN : c.ok d) {x : Operand} {s t : TypeId} {ef : pq} (h : BA T ve d s t x = some ef) :
  ff P ⟨some d, .convert s t x, ty, pos, af, g⟩ a w (Rel c (e.aF ef.ws)) := by
 unfold BA at h
 split at h
 ·rename_i si ti k n f h1 h2 h3
  split at h
  ·rename_i k' hk
   cases h
   have hx := xO (eH H h3)
   obtain ⟨sd, hs, _⟩ := (HT _ _ h1).desc
   obtain ⟨td, ht, htd⟩ := (HT _ _ h2).desc
   rw [hk] at htd
   cases td <;> simp only [dq] at htd
   subst htd
   refine .pure (x := .cell (.val (.int k') (k'.wrap n) true)) (v := .int k' (k'.wrap n)) H rfl hN ?_ rfl
   simp only [execOp, hx, convert, Sem.run_bind, run_underlying hs, run_underlying ht, Result.andThen_ok]
   rfl
  ·cases h
 ·rename_i si ti s' f h1 h2 h3
  split at h
  ·rename_i hk
   cases h
   have hx := mU (eH H h3)
   obtain ⟨sd, hs, _⟩ := (HT _ _ h1).desc
   obtain ⟨td, ht, htd⟩ := (HT _ _ h2).desc
   rw [hk] at htd
   cases td <;> simp only [dq] at htd
   refine .pure (x := .cell (.val .str s' f)) (v := .string s') H rfl hN ?_ rfl
   simp only [execOp, hx, convert, Sem.run_bind, run_underlying hs, run_underlying ht, Result.andThen_ok]
   cases sd <;> rfl
  ·cases h
 ·cases h
def Q3 (k : IntKind) : Int ⊕ Bool → Value
 | .inl n => .int k n
 | .inr b => .bool b
theorem xP {k k' : IntKind} {x y : Int} {op : BinOp} {t : TypeId} {X Y : Operand} {pt : TypeId} {r : Int ⊕ Bool} (hx : a.eval X = .int k x) (hy : a.eval Y = .int k' y)
  (hr : Bs op k x y = some (true, r)) (hk : k = k' ∨ op = .shl ∨ op = .shr) :
  (execOp a.eval ⟨some d, .binOp op t X Y pt, ty, pos, af, g⟩).run P w = .ok (.value (Q3 k r)) w := by
 cases op <;> simp only [Bs, Option.some.injEq, Prod.mk.injEq, decide_eq_true_eq, Bool.not_eq_true', beq_eq_false_iff_ne, ne_eq, true_and] at hr
 all_goals first | (obtain ⟨hc, rfl⟩ := hr) | (subst hr)
 all_goals simp only [reduceCtorEq, or_false, or_true] at hk
 all_goals try subst hk
 all_goals simp [execOp, hx, hy, eqGuard, binOp, Q3, Op.intArith, Op.intDiv, Op.intBits, Op.intCmp, Op.shift]
 all_goals (intro h; omega)
theorem Gx {x y : ByteArray} {op : BinOp} {t : TypeId} {X Y : Operand} {pt : TypeId} {r : ByteArray ⊕ Bool} (hx : a.eval X = .string x) (hy : a.eval Y = .string y)
  (hr : E4 op x y = some (true, r)) :
  (execOp a.eval ⟨some d, .binOp op t X Y pt, ty, pos, af, g⟩).run P w = .ok (.value (match r with | .inl s => .string s | .inr b => .bool b)) w := by
 cases op <;> simp only [E4, Bt, Option.some.injEq, Prod.mk.injEq, decide_eq_true_eq, true_and, reduceCtorEq] at hr
 all_goals first | (obtain ⟨hc, rfl⟩ := hr) | (subst hr)
 all_goals simp [execOp, hx, hy, eqGuard, binOp, Op.stringOp]
 omega
theorem Gy {h : Array Obj} {SA : Nat → Prop} {SF : Loc → Prop} {β : Nat → Value} {c : Cell} {v : Value} (hc : aG h SA SF β c v) : v.oneCell' = true := by
 cases c with
 | val t x f => exact bm.one hc v (by simp)
 | nil => cases hc; rfl
 | row o => obtain ⟨_, a, n, c, rfl⟩ := hc; rfl
 | part o t lo n => obtain ⟨a, N, c, _, _, _, rfl⟩ := hc; rfl
 | ptr o k => obtain ⟨g, _, rfl⟩ := hc; rfl
 | xQ o t i k => obtain ⟨g, b, N, c, _, _, rfl⟩ := hc; rfl
 | lj t x f => obtain ⟨g, off, arr, et, fz, rfl, _⟩ := hc; rfl
 | fn f caps => obtain ⟨rfl, _⟩ := hc; rfl
 | mp o => obtain ⟨_, g, rfl⟩ := hc; rfl
 | ad et t k i off => obtain ⟨g, C, _, rfl⟩ := hc; rfl
theorem rz {h : Array Obj} {SA : Nat → Prop} {SF : Loc → Prop} {β : Nat → Value} : ∀ {cs : List Cell} {vs : List Value}, ao h SA SF β cs vs → ∀ v ∈ vs, v.oneCell' = true
 | [], _, e => by simp only [ao, gk] at e; subst e; simp
 | c :: cs, _, ⟨v, r, e, h1, h2⟩ => by
  subst e
  intro u hu
  rcases List.mem_cons.1 hu with rfl | hu
  ·exact Gy h1
  ·exact rz h2 u hu
theorem Lh {h : Array Obj} {SA : Nat → Prop} {SF : Loc → Prop} {β : Nat → Value} {b f : Bool} {v : Value} (H : aG h SA SF β (.val .err b f) v) : (b = false ∧ v = .nilIface) ∨ (b = true ∧ ∃ t u, v = .iface t u) := by
 rcases H with ⟨h1, h2⟩ | ⟨h1, t, u, h2⟩
 ·exact .inl ⟨h1, by simpa using h2⟩
 ·exact .inr ⟨h1, t, u, by simpa using h2⟩
theorem HP (HT : mL P T) (H : aC c β SF e a w) (hN : c.ok d) {op : BinOp} {t pt : TypeId} {x y : Operand} {ef : pq} (h : E5 T ve d op t x y = some ef) (ho : ef.ok = true) :
  ff P ⟨some d, .binOp op t x y pt, ty, pos, af, g⟩ a w (Rel c (e.aF ef.ws)) := by
 unfold E5 at h
 split at h
 ·rename_i k m _ k' n _ h1 h2
  have hx := xO (eH H h1)
  have hy := xO (eH H h2)
  split at h
  ·split at h
   ·rename_i ok r hr
    cases h
    cases ho
    exact .pure (x := .cell (.val (.int k) r true)) (v := .int k r) H rfl hN (xP ty pos af g hx hy hr (by simp)) rfl
   ·cases h
  ·split at h
   ·rename_i ok r hr
    cases h
    cases ho
    exact .pure (x := .cell (.val (.int k) r true)) (v := .int k r) H rfl hN (xP ty pos af g hx hy hr (by simp)) rfl
   ·cases h
  ·split at h
   ·rename_i hk
    have hk := Ty.dH hk
    subst hk
    split at h
    ·rename_i ok r hr
     cases h
     cases ho
     exact .pure (x := .cell (.val (.int k) r true)) (v := .int k r) H rfl hN (xP ty pos af g hx hy hr (by simp)) rfl
    ·rename_i ok r hr
     cases h
     cases ho
     exact .pure (x := .cell (.val .bool r true)) (v := .bool r) H rfl hN (xP ty pos af g hx hy hr (by simp)) rfl
    ·cases h
   ·cases h
 ·rename_i m _ n _ h1 h2
  have hx := mU (eH H h1)
  have hy := mU (eH H h2)
  split at h
  ·rename_i ok r hr
   cases h
   cases ho
   exact .pure (x := .cell (.val .str r true)) (v := .string r) H rfl hN (Gx ty pos af g hx hy hr) rfl
  ·rename_i ok r hr
   cases h
   cases ho
   exact .pure (x := .cell (.val .bool r true)) (v := .bool r) H rfl hN (Gx ty pos af g hx hy hr) rfl
  ·cases h
 ·rename_i m _ n _ h1 h2
  have hx := lW (eH H h1)
  have hy := lW (eH H h2)
  split at h
  ·rename_i i hi
   obtain ⟨dd, hd, hdd⟩ := (HT _ _ hi).desc
   split at h
   ·rename_i hb
    rw [hb] at hdd
    cases dd <;> simp only [dq] at hdd
    have he : (Op.equal t (.bool m) (.bool n)).run P w = .ok (r9 m n) w := by
     rw [Op.equal, show Op.maxDepth = 9999 + 1 from rfl, Op.equalIn]
     simp [run_underlying hd, r9]
    split at h
    ·cases h
     exact .pure (x := .cell (.val .bool (r9 m n) true)) (v := .bool (r9 m n)) H rfl hN (by simp [execOp, hx, hy, eqGuard, binOp, he]) rfl
    ·cases h
     exact .pure (x := .cell (.val .bool (!(r9 m n)) true)) (v := .bool (!(r9 m n))) H rfl hN (by simp [execOp, hx, hy, eqGuard, binOp, he]) rfl
    ·cases h
   ·cases h
  ·cases h
 ·rename_i m _ n _ h1 h2
  have hx := Lh (eH H h1)
  split at h
  ·rename_i i hi
   obtain ⟨dd, hd, hdd⟩ := (HT _ _ hi).desc
   have hy : a.eval (.const .nilIface) = .nilIface := rfl
   split at h
   ·rename_i hb
    rw [hb] at hdd
    cases dd <;> simp only [dq] at hdd
    have he : (Op.equal t (a.eval x) .nilIface).run P w = .ok (!m) w := by
     rw [Op.equal, show Op.maxDepth = 9999 + 1 from rfl, Op.equalIn]
     rcases hx with ⟨rfl, hx⟩ | ⟨rfl, _, _, hx⟩ <;> simp [run_underlying hd, hx]
    have hg : ∀ op, (eqGuard op t x (.const .nilIface) (a.eval x) .nilIface).run P w = .ok () w := by
     intro op
     rcases hx with ⟨rfl, hx⟩ | ⟨rfl, _, _, hx⟩ <;> rw [hx] <;> cases op <;> simp [eqGuard]
    split at h
    ·cases h
     refine .pure (x := .cell (.val .bool (!m) true)) (v := .bool (!m)) H rfl hN ?_ rfl
     simp only [execOp, hy, Sem.run_bind, hg, Result.andThen_ok]
     rcases hx with ⟨rfl, hx⟩ | ⟨rfl, _, _, hx⟩ <;> rw [hx] at he ⊢ <;> simp [binOp, he]
    ·cases h
     refine .pure (x := .cell (.val .bool m true)) (v := .bool m) H rfl hN ?_ rfl
     simp only [execOp, hy, Sem.run_bind, hg, Result.andThen_ok]
     rcases hx with ⟨rfl, hx⟩ | ⟨rfl, _, _, hx⟩ <;> rw [hx] at he ⊢ <;> simp [binOp, he]
    ·cases h
   ·cases h
  ·cases h
 ·rename_i m n h1 h2
  have hx := cY H h1
  have hy := cY H h2
  obtain ⟨vs, hx, hvs⟩ := hx
  obtain ⟨us, hy, hus⟩ := hy
  split at h
  ·rename_i i r hi hr
   have key : (i.NQ && iC m (mR i.ty)) = true → (Op.equal t (.agg vs.toArray) (.agg us.toArray)).run P w = .ok r w ∧ ∀ op, (eqGuard op t x y (.agg vs.toArray) (.agg us.toArray)).run P w = .ok () w := by
    intro hc
    simp only [Bool.and_eq_true] at hc
    obtain ⟨hc, hl⟩ := hc
    obtain ⟨q1, q2⟩ := (HT _ _ hi).NQ hc
    refine ⟨q2 _ _ _ _ _ _ _ _ _ _ _ _ _ _ hr hl hvs hus, fun op => ?_⟩
    cases op <;> simp [eqGuard, q1]
   split at h
   ·split at h
    ·rename_i hc
     cases h
     obtain ⟨k1, k2⟩ := key hc
     refine .pure (x := .cell (.val .bool r true)) (v := .bool r) H rfl hN ?_ rfl
     simp [execOp, hx, hy, Sem.run_bind, k2, binOp, k1]
    ·cases h
   ·split at h
    ·rename_i hc
     cases h
     obtain ⟨k1, k2⟩ := key hc
     refine .pure (x := .cell (.val .bool (!r) true)) (v := .bool (!r)) H rfl hN ?_ rfl
     simp [execOp, hx, hy, Sem.run_bind, k2, binOp, k1]
    ·cases h
   ·cases h
  ·cases h
 ·cases h
end
end Go.Px
