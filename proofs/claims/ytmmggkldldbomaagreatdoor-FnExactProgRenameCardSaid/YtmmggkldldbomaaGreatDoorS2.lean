/- Own texts, part S2: PxFns. -/
import Derived.Test.YtmmggkldldbomaaGreatDoorA5
import Derived.Test.YtmmggkldldbomaaGreatDoorS1
set_option linter.unusedVariables false
namespace Go.Px.Seat
open Go
abbrev Tn := Int × (Int × (ByteArray × Unit))
abbrev Hd := Nat × (Nat × Nat)
abbrev Mem (α : Type) := List (Option (List α))
abbrev Df := ByteArray × (List ByteArray × ((List Tn × Unit) × Unit))
abbrev Rl := Int × ((List Tn × Unit) × ((List Tn × Unit) × Unit))
abbrev Dh := ByteArray × (Hd × ((Hd × Unit) × Unit))
abbrev Rh := Int × ((Hd × Unit) × ((Hd × Unit) × Unit))
abbrev cg : Df := ((bs []), ([], (([], ()), ())))
abbrev dA : Rl := (0, (([], ()), (([], ()), ())))
abbrev ox : Dh := ((bs []), ((0, (0, 0)), (((0, (0, 0)), ()), ())))
abbrev kT : Rh := (0, (((0, (0, 0)), ()), (((0, (0, 0)), ()), ())))
abbrev iy : Tn → Tn := fun y => (y.1, (y.2.1, (y.2.2.1, y.2.2.2)))
def ej (R : ax) (u0 : Mem Dh) (u1 : Mem Rh) (u2 : Mem ByteArray) (u3 : Mem Tn) (u4 : List Df) (u5 : List ByteArray) (u6 : List Rl) (u7 : ByteArray) (u8 : ByteArray) : Option (Mem Dh × Mem Rh × Mem ByteArray × Mem Tn × Bool × Unit) := R 5 [777] cP (u0, (u1, (u2, (u3, (u4, (u5, (u6, (u7, (u8, ())))))))))
def fh (R : ax) (u0 : Mem Dh) (u1 : Mem Rh) (u2 : Mem ByteArray) (u3 : Mem Tn) (u4 : Hd) (u5 : Hd) (u6 : Hd) (u7 : ByteArray) (u8 : ByteArray) : Option (Mem Dh × Mem Rh × Mem ByteArray × Mem Tn × Hd × Hd × Hd × Bool × Unit) := R 10 [777] j1 (u0, (u1, (u2, (u3, (u4, (u5, (u6, (u7, (u8, ())))))))))
def gV (R : ax) (u0 : Mem Dh) (u1 : Mem Rh) (u2 : Mem ByteArray) (u3 : Mem Tn) (u4 : Hd) (u5 : Hd) (u6 : Hd) (u7 : ByteArray) (u8 : ByteArray) : Option (Mem Dh × Mem Rh × Mem ByteArray × Mem Tn × Hd × Hd × Hd × Bool × Unit) := R 11 [777] j2 (u0, (u1, (u2, (u3, (u4, (u5, (u6, (u7, (u8, ())))))))))
def iN (R : ax) (u0 : List Df) (u1 : List ByteArray) (u2 : List Rl) : Option (Int × Unit) := R 13 [] sG (u0, (u1, (u2, ())))
def tD (R : ax) (u0 : List Df) (u1 : List ByteArray) (u2 : List Rl) (u3 : Int) : Option (Int × Unit) := R 18 [] wY (u0, (u1, (u2, (u3, ()))))
def eI (R : ax) (u0 : Mem Dh) (u1 : Mem Rh) (u2 : Mem ByteArray) (u3 : Mem Tn) (u4 : List Df) (u5 : List ByteArray) (u6 : List Rl) : Option (Mem Dh × Mem Rh × Mem ByteArray × Mem Tn × Hd × Hd × Hd × Unit) := R 19 [777] od (u0, (u1, (u2, (u3, (u4, (u5, (u6, ())))))))
def js (R : ax) (u0 : List Df) (u1 : List ByteArray) (u2 : List Rl) (u3 : List Df) (u4 : List ByteArray) (u5 : List Rl) : Option (Bool × Unit) := R 20 [] wZ (u0, (u1, (u2, (u3, (u4, (u5, ()))))))
def dJ (R : ax) (u0 : Mem Dh) (u1 : Mem Rh) (u2 : Mem ByteArray) (u3 : Mem Tn) (u4 : Hd) (u5 : Hd) (u6 : Hd) (u7 : Int) : Option (Mem Dh × Mem Rh × Mem ByteArray × Mem Tn × Int × Unit) := R 21 [777] l6 (u0, (u1, (u2, (u3, (u4, (u5, (u6, (u7, ()))))))))
def lv (R : ax) (u0 : List Df) (u1 : List ByteArray) (u2 : List Rl) (u3 : Int) : Option (Int × Unit) := R 22 [] sH (u0, (u1, (u2, (u3, ()))))
def cD (R : ax) (u0 : List ByteArray) (u1 : ByteArray) : Option (Int × Unit) := R 35 [] fC (u0, (u1, ()))
def c8 (R : ax) (u0 : ByteArray) : Option (Bool × Unit) := R 36 [] dk (u0, ())
def a8 (R : ax) (u0 : List ByteArray) (u1 : ByteArray) : Option (Bool × Unit) := R 37 [] eP (u0, (u1, ()))
def gI (R : ax) (u0 : List Df) (u1 : List ByteArray) (u2 : List Rl) : Option (List ByteArray × Unit) := R 38 [] mX (u0, (u1, (u2, ())))
def gx (R : ax) (u0 : Mem Dh) (u1 : Mem Rh) (u2 : Mem ByteArray) (u3 : Mem Tn) (u4 : Hd) (u5 : Hd) (u6 : Hd) : Option (Mem Dh × Mem Rh × Mem ByteArray × Mem Tn × Hd × Hd × Hd × Unit) := R 39 [777] jg (u0, (u1, (u2, (u3, (u4, (u5, (u6, ())))))))
def gy (R : ax) (u0 : List ByteArray) (u1 : ByteArray) : Option (Int × Unit) := R 40 [] uF (u0, (u1, ()))
def iO (R : ax) (u0 : List Df) (u1 : List ByteArray) (u2 : List Rl) : Option (Int × Unit) := R 41 [] sI (u0, (u1, (u2, ())))
def da (R : ax) (u0 : ByteArray) : Option (Bool × Unit) := R 42 [] px (u0, ())
def oX (R : ax) (u0 : List Df) (u1 : List ByteArray) (u2 : List Rl) (u3 : ByteArray) : Option (Bool × Unit) := R 43 [] sJ (u0, (u1, (u2, (u3, ()))))
def kH (R : ax) (u0 : Mem Dh) (u1 : Mem Rh) (u2 : Mem ByteArray) (u3 : Mem Tn) (u4 : Hd) (u5 : Hd) (u6 : Hd) : Option (Mem Dh × Mem Rh × Mem ByteArray × Mem Tn × Hd × Hd × Hd × Unit) := R 44 [777] oe (u0, (u1, (u2, (u3, (u4, (u5, (u6, ())))))))
def gJ (R : ax) (u0 : Mem Dh) (u1 : Mem Rh) (u2 : Mem ByteArray) (u3 : Mem Tn) (u4 : Hd) (u5 : ByteArray) (u6 : ByteArray) : Option (Mem Dh × Mem Rh × Mem ByteArray × Mem Tn × Unit) := R 45 [777] mY (u0, (u1, (u2, (u3, (u4, (u5, (u6, ())))))))
def kI (R : ax) (u0 : List Df) (u1 : List ByteArray) (u2 : List Rl) : Option (Bool × Unit) := R 47 [] og (u0, (u1, (u2, ())))
def nC (R : ax) (u0 : List Df) (u1 : List ByteArray) (u2 : List Rl) : Option (Bool × Unit) := R 48 [] qw (u0, (u1, (u2, ())))
def mb (R : ax) (u0 : List Df) (u1 : List ByteArray) (u2 : List Rl) : Option (Bool × Unit) := R 49 [] py (u0, (u1, (u2, ())))
def jt (R : ax) (u0 : List Df) (u1 : List ByteArray) (u2 : List Rl) (u3 : ByteArray) (u4 : List ByteArray) (u5 : List Tn) : Option (Int × Unit) := R 50 [] mZ (u0, (u1, (u2, (u3, (u4, (u5, ()))))))
def ju (R : ax) (u0 : List Df) (u1 : List ByteArray) (u2 : List Rl) (u3 : Int) (u4 : List Tn) (u5 : List Tn) : Option (Int × Unit) := R 51 [] na (u0, (u1, (u2, (u3, (u4, (u5, ()))))))
def nE (R : ax) (u0 : List Df) (u1 : List ByteArray) (u2 : List Rl) : Option (Int × Unit) := R 52 [] qy (u0, (u1, (u2, ())))
def tE (R : ax) (u0 : Int) (u1 : Int) (u2 : Int) : Option (Bool × Unit) := R 53 [] GJ (u0, (u1, (u2, ())))
def cQ (R : ax) (u0 : List ByteArray) : Option (List ByteArray × Unit) := R 54 [] fK (u0, ())
def mc (R : ax) (u0 : List Df) (u1 : Int) : Option (Int × Unit) := R 56 [] pz (u0, (u1, ()))
def jI (R : ax) (u0 : List ByteArray) (u1 : Int) : Option (Int × Unit) := R 57 [] qz (u0, (u1, ()))
def me (R : ax) (u0 : List Rl) (u1 : Int) : Option (Int × Unit) := R 58 [] pA (u0, (u1, ()))
def gW (R : ax) (u0 : Mem Dh) (u1 : Mem Rh) (u2 : Mem ByteArray) (u3 : Mem Tn) (u4 : List Df) : Option (Mem Dh × Mem Rh × Mem ByteArray × Mem Tn × Hd × Unit) := R 59 [777] j3 (u0, (u1, (u2, (u3, (u4, ())))))
def fF (R : ax) (u0 : Mem Dh) (u1 : Mem Rh) (u2 : Mem ByteArray) (u3 : Mem Tn) (u4 : List ByteArray) : Option (Mem Dh × Mem Rh × Mem ByteArray × Mem Tn × Hd × Unit) := R 60 [777] kO (u0, (u1, (u2, (u3, (u4, ())))))
def gX (R : ax) (u0 : Mem Dh) (u1 : Mem Rh) (u2 : Mem ByteArray) (u3 : Mem Tn) (u4 : List Rl) : Option (Mem Dh × Mem Rh × Mem ByteArray × Mem Tn × Hd × Unit) := R 61 [777] j4 (u0, (u1, (u2, (u3, (u4, ())))))
def mf (R : ax) (u0 : List Df) (u1 : List Df) : Option (Bool × Unit) := R 62 [] pB (u0, (u1, ()))
def jJ (R : ax) (u0 : List ByteArray) (u1 : List ByteArray) : Option (Bool × Unit) := R 63 [] qA (u0, (u1, ()))
def mg (R : ax) (u0 : List Rl) (u1 : List Rl) : Option (Bool × Unit) := R 64 [] pC (u0, (u1, ()))
def ep (R : ax) (u0 : Mem Dh) (u1 : Mem Rh) (u2 : Mem ByteArray) (u3 : Mem Tn) (u4 : Hd) (u5 : Int) : Option (Mem Dh × Mem Rh × Mem ByteArray × Mem Tn × Int × Unit) := R 65 [777] iL (u0, (u1, (u2, (u3, (u4, (u5, ()))))))
def dE (R : ax) (u0 : Mem Dh) (u1 : Mem Rh) (u2 : Mem ByteArray) (u3 : Mem Tn) (u4 : Hd) (u5 : Int) : Option (Mem Dh × Mem Rh × Mem ByteArray × Mem Tn × Int × Unit) := R 66 [777] jh (u0, (u1, (u2, (u3, (u4, (u5, ()))))))
def er (R : ax) (u0 : Mem Dh) (u1 : Mem Rh) (u2 : Mem ByteArray) (u3 : Mem Tn) (u4 : Hd) (u5 : Int) : Option (Mem Dh × Mem Rh × Mem ByteArray × Mem Tn × Int × Unit) := R 67 [777] iM (u0, (u1, (u2, (u3, (u4, (u5, ()))))))
def jv (R : ax) (u0 : List Df) (u1 : Int) : Option (Int × Unit) := R 68 [] nb (u0, (u1, ()))
def ia (R : ax) (u0 : List ByteArray) (u1 : Int) : Option (Int × Unit) := R 69 [] oh (u0, (u1, ()))
def jw (R : ax) (u0 : List Rl) (u1 : Int) : Option (Int × Unit) := R 70 [] nc (u0, (u1, ()))
def fv (R : ax) (u0 : List Df) (u1 : List ByteArray) (u2 : List Rl) (u3 : ByteArray) : Option (Int × Unit) := R 72 [] pD (u0, (u1, (u2, (u3, ()))))
def gz (R : ax) (u0 : List Df) (u1 : List ByteArray) (u2 : List Rl) (u3 : ByteArray) : Option (Int × Unit) := R 74 [] w3 (u0, (u1, (u2, (u3, ()))))
def nj (R : ax) (u0 : List ByteArray) : Option (List ByteArray × Unit) := R 76 [] uG (u0, ())
def jx (R : ax) (u0 : List Tn) : Option (Bool × Unit) := R 77 [] w4 (u0, ())
def zm (R : ax) (u0 : ByteArray) : Option (Bool × Unit) := R 83 [] nf (u0, ())
def dR (R : ax) (u0 : Mem Dh) (u1 : Mem Rh) (u2 : Mem ByteArray) (u3 : Mem Tn) (u4 : Hd) : Option (Mem Dh × Mem Rh × Mem ByteArray × Mem Tn × Hd × Unit) := R 84 [777] fL (u0, (u1, (u2, (u3, (u4, ())))))
def gK (R : ax) (u0 : List ByteArray) : Option (List ByteArray × Unit) := R 85 [] ng (u0, ())
def dS (R : ax) (u0 : Mem Dh) (u1 : Mem Rh) (u2 : Mem ByteArray) (u3 : Mem Tn) (u4 : Hd) : Option (Mem Dh × Mem Rh × Mem ByteArray × Mem Tn × Hd × Unit) := R 86 [777] fM (u0, (u1, (u2, (u3, (u4, ())))))
def cJ (R : ax) (u0 : List Tn) : Option (List Tn × Unit) := R 87 [] hO (u0, ())
def oY (R : ax) (u0 : List Df) (u1 : List ByteArray) (u2 : List Rl) : Option (Int × Unit) := R 88 [] sK (u0, (u1, (u2, ())))
def mh (R : ax) (u0 : List Df) (u1 : List ByteArray) (u2 : List Rl) (u3 : ByteArray) (u4 : List ByteArray) (u5 : List Tn) : Option (Int × Unit) := R 89 [] pE (u0, (u1, (u2, (u3, (u4, (u5, ()))))))
def mj (R : ax) (u0 : List Df) (u1 : List ByteArray) (u2 : List Rl) (u3 : Int) (u4 : List Tn) (u5 : List Tn) : Option (Int × Unit) := R 90 [] pF (u0, (u1, (u2, (u3, (u4, (u5, ()))))))
def iP (R : ax) (u0 : Mem Bool) (u1 : List Df) (u2 : List ByteArray) (u3 : List Rl) : Option (Mem Bool × List Hd × Unit) := R 91 [778] l7 (u0, (u1, (u2, (u3, ()))))
def oZ (R : ax) (u0 : ByteArray) : Option (Bool × Unit) := R 92 [] sL (u0, ())
def qM (R : ax) (u0 : ByteArray) : Option (Bool × Unit) := R 93 [] uH (u0, ())
def j7 (R : ax) (u0 : List Tn) : Option (List Tn × Unit) := R 94 [] uI (u0, ())
def jy (R : ax) (u0 : List Tn) : Option (Bool × Unit) := R 95 [] w5 (u0, ())
def bf (R : ax) (u0 : List ByteArray) : Option (Bool × Unit) := R 96 [97] b8 (u0, ())
def bg (R : ax) (u0 : List ByteArray) : Option (Bool × Unit) := R 96 [98] b9 (u0, ())
def bd (R : ax) (u0 : List ByteArray) (u1 : List Df) (u2 : List ByteArray) (u3 : List Rl) : Option (Bool × List Df × List ByteArray × List Rl × Unit) := R 96 [103] b5 (u0, (u1, (u2, (u3, ()))))
def gg (R : ax) (u0 : ByteArray) : Option (Bool × Unit) := R 97 [] l8 (u0, ())
def gh (R : ax) (u0 : ByteArray) : Option (Bool × Unit) := R 98 [] l9 (u0, ())
def aQ (R : ax) (u0 : List Df) : Option (Bool × Unit) := R 99 [100] bB (u0, ())
def aP (R : ax) (u0 : List Df) : Option (Bool × Unit) := R 99 [102] bw (u0, ())
def ib (R : ax) (u0 : ByteArray) (u1 : List ByteArray) (u2 : List Tn) : Option (Bool × Unit) := R 100 [] oi (u0, (u1, (u2, ())))
def rK (R : ax) (u0 : List ByteArray) : Option (Bool × Unit) := R 101 [] zk (u0, ())
def gL (R : ax) (u0 : ByteArray) (u1 : List ByteArray) (u2 : List Tn) : Option (Bool × Unit) := R 102 [] nh (u0, (u1, (u2, ())))
def ir (R : ax) (u0 : ByteArray) (u1 : List Df) (u2 : List ByteArray) (u3 : List Rl) : Option (Bool × List Df × List ByteArray × List Rl × Unit) := R 103 [] kP (u0, (u1, (u2, (u3, ()))))
def jK (R : ax) (u0 : List Df) (u1 : List ByteArray) (u2 : List Rl) (u3 : List Tn) (u4 : List ByteArray) : Option (Int × Unit) := R 104 [] qB (u0, (u1, (u2, (u3, (u4, ())))))
def bR (R : ax) (u0 : List (List Tn)) : Option (List Tn × Unit) := R 105 [] cI (u0, ())
def nF (R : ax) (u0 : List Df) (u1 : List ByteArray) (u2 : List Rl) (u3 : Int) : Option (List Bool × Unit) := R 106 [] qC (u0, (u1, (u2, (u3, ()))))
def jL (R : ax) (u0 : ByteArray) (u1 : List ByteArray) (u2 : List Tn) (u3 : Int) : Option (Int × Unit) := R 108 [] qD (u0, (u1, (u2, (u3, ()))))
def jM (R : ax) (u0 : Int) (u1 : List Tn) (u2 : List Tn) (u3 : Int) : Option (Int × Unit) := R 109 [] qE (u0, (u1, (u2, (u3, ()))))
def iu (R : ax) (u0 : Mem Dh) (u1 : Mem Rh) (u2 : Mem ByteArray) (u3 : Mem Tn) (u4 : ByteArray) (u5 : List ByteArray) (u6 : List Tn) : Option (Mem Dh × Mem Rh × Mem ByteArray × Mem Tn × ByteArray × Hd × Hd × Unit) := R 110 [777] kQ (u0, (u1, (u2, (u3, (u4, (u5, (u6, ())))))))
def iv (R : ax) (u0 : Mem Dh) (u1 : Mem Rh) (u2 : Mem ByteArray) (u3 : Mem Tn) (u4 : Int) (u5 : List Tn) (u6 : List Tn) : Option (Mem Dh × Mem Rh × Mem ByteArray × Mem Tn × Int × Hd × Hd × Unit) := R 111 [777] kR (u0, (u1, (u2, (u3, (u4, (u5, (u6, ())))))))
def jN (R : ax) (u0 : ByteArray) (u1 : List ByteArray) (u2 : List Tn) (u3 : ByteArray) (u4 : List ByteArray) (u5 : List Tn) : Option (Bool × Unit) := R 112 [] qF (u0, (u1, (u2, (u3, (u4, (u5, ()))))))
def jO (R : ax) (u0 : Int) (u1 : List Tn) (u2 : List Tn) (u3 : Int) (u4 : List Tn) (u5 : List Tn) : Option (Bool × Unit) := R 113 [] qG (u0, (u1, (u2, (u3, (u4, (u5, ()))))))
def eQ (R : ax) (u0 : Int) : Option (ByteArray × Unit) := R 114 [] sM (u0, ())
def cv (R : ax) (u0 : Mem Dh) (u1 : Mem Rh) (u2 : Mem ByteArray) (u3 : Mem Tn) (u4 : Hd) (u5 : Int) : Option (Mem Dh × Mem Rh × Mem ByteArray × Mem Tn × Int × Unit) := R 115 [777] ix (u0, (u1, (u2, (u3, (u4, (u5, ()))))))
def eS (R : ax) (u0 : List Tn) (u1 : Int) : Option (Int × Unit) := R 116 [] ma (u0, (u1, ()))
def aU (R : ax) (u0 : List Df) : Option (Int × Unit) := R 117 [100] bL (u0, ())
def aS (R : ax) (u0 : List Df) : Option (Int × Unit) := R 117 [102] bF (u0, ())
def aT (R : ax) (u0 : List Df) (u1 : ByteArray) : Option (Int × ByteArray × Unit) := R 117 [118] bG (u0, (u1, ()))
def jz (R : ax) (u0 : ByteArray) (u1 : List ByteArray) (u2 : List Tn) (u3 : ByteArray) : Option (Bool × ByteArray × Unit) := R 118 [] ni (u0, (u1, (u2, (u3, ()))))
def nk (R : ax) (u0 : Int) (u1 : Int) (u2 : ByteArray) : Option (Int × Unit) := R 123 [] uJ (u0, (u1, (u2, ())))
def lx (R : ax) (u0 : Int) : Option (Bool × Unit) := R 127 [] sN (u0, ())
def o7 (R : ax) (u0 : Int) : Option (Bool × Unit) := R 128 [] sO (u0, ())
def bO (R : ax) (u0 : Mem Dh) (u1 : Mem Rh) (u2 : Mem ByteArray) (u3 : Mem Tn) (u4 : Hd) : Option (Mem Dh × Mem Rh × Mem ByteArray × Mem Tn × Hd × Unit) := R 129 [777] cF (u0, (u1, (u2, (u3, (u4, ())))))
def bJ (R : ax) (u0 : Mem Dh) (u1 : Mem Rh) (u2 : Mem ByteArray) (u3 : Mem Tn) (u4 : Hd) : Option (Mem Dh × Mem Rh × Mem ByteArray × Mem Tn × List Dh × Unit) := R 130 [777] av (u0, (u1, (u2, (u3, (u4, ())))))
def dK (R : ax) (u0 : List ByteArray) : Option (List ByteArray × Unit) := R 131 [] aO (u0, ())
def bP (R : ax) (u0 : Mem Dh) (u1 : Mem Rh) (u2 : Mem ByteArray) (u3 : Mem Tn) (u4 : Hd) : Option (Mem Dh × Mem Rh × Mem ByteArray × Mem Tn × Hd × Unit) := R 132 [777] cG (u0, (u1, (u2, (u3, (u4, ())))))
def bK (R : ax) (u0 : Mem Dh) (u1 : Mem Rh) (u2 : Mem ByteArray) (u3 : Mem Tn) (u4 : Hd) : Option (Mem Dh × Mem Rh × Mem ByteArray × Mem Tn × List Rh × Unit) := R 133 [777] aw (u0, (u1, (u2, (u3, (u4, ())))))
def bX (R : ax) (u0 : List Tn) : Option (List Tn × Unit) := R 134 [] c7 (u0, ())
def bV (R : ax) (u0 : List Tn) : Option (List Tn × Unit) := R 135 [] aA (u0, ())
def nG (R : ax) (u0 : List Df) (u1 : List ByteArray) (u2 : List Rl) : Option (Bool × Unit) := R 136 [] qH (u0, (u1, (u2, ())))
def fO (R : ax) (u0 : List ByteArray) : Option (Bool × Unit) := R 137 [] oj (u0, ())
def iQ (R : ax) (u0 : List Df) (u1 : List ByteArray) (u2 : List Rl) (u3 : List Tn) (u4 : List ByteArray) : Option (Int × Unit) := R 138 [] sP (u0, (u1, (u2, (u3, (u4, ())))))
def gA (R : ax) (u0 : List Df) (u1 : List ByteArray) (u2 : List Rl) (u3 : Int) (u4 : Int) (u5 : Int) : Option (Bool × Unit) := R 139 [] pG (u0, (u1, (u2, (u3, (u4, (u5, ()))))))
def jP (R : ax) (u0 : Int) : Option (Bool × Unit) := R 140 [] qI (u0, ())
def ly (R : ax) (u0 : Int) : Option (Bool × Unit) := R 141 [] sQ (u0, ())
def fG (R : ax) (u0 : Int) (u1 : Int) (u2 : ByteArray) : Option (Int × Unit) := R 142 [] kS (u0, (u1, (u2, ())))
def br (R : ax) (u0 : List ByteArray) : Option (Int × Unit) := R 143 [97] cr (u0, ())
def bu (R : ax) (u0 : List ByteArray) : Option (Int × Unit) := R 143 [98] ct (u0, ())
def bp (R : ax) (u0 : List ByteArray) (u1 : List Df) (u2 : List ByteArray) (u3 : List Rl) : Option (Int × List Df × List ByteArray × List Rl × Unit) := R 143 [103] cm (u0, (u1, (u2, (u3, ()))))
def bY (R : ax) (u0 : List Tn) (u1 : Int) : Option (List Tn × Unit) := R 144 [] ay (u0, (u1, ()))
def iR (R : ax) (u0 : List Tn) : Option (List ByteArray × Unit) := R 145 [] pH (u0, ())
def ml (R : ax) (u0 : List Tn) (u1 : Int) : Option (Int × Unit) := R 146 [] w6 (u0, (u1, ()))
def fP (R : ax) (u0 : Mem Dh) (u1 : Mem Rh) (u2 : Mem ByteArray) (u3 : Mem Tn) (u4 : List Tn) : Option (Mem Dh × Mem Rh × Mem ByteArray × Mem Tn × Hd × Unit) := R 147 [777] om (u0, (u1, (u2, (u3, (u4, ())))))
def mn (R : ax) (u0 : List Tn) (u1 : List Tn) : Option (Bool × Unit) := R 148 [] w7 (u0, (u1, ()))
def nH (R : ax) (u0 : ByteArray) : Option (Bool × Unit) := R 154 [] qJ (u0, ())
def lz (R : ax) (u0 : List ByteArray) : Option (Bool × Unit) := R 158 [] sS (u0, ())
def qN (R : ax) (u0 : Int) : Option (Bool × Unit) := R 159 [] uK (u0, ())
def nI (R : ax) (u0 : ByteArray) : Option (Bool × Unit) := R 160 [] qK (u0, ())
def db (R : ax) (u0 : Mem ByteArray) (u1 : Hd) : Option (Mem ByteArray × Unit) := R 161 [779] aH (u0, (u1, ()))
def cC (R : ax) (u0 : Mem ByteArray) (u1 : Hd) : Option (Mem ByteArray × List ByteArray × Unit) := R 162 [779] az (u0, (u1, ()))
def kJ (R : ax) (u0 : List Tn) (u1 : Int) : Option (Int × Unit) := R 163 [] oq (u0, (u1, ()))
def gB (R : ax) (u0 : Mem Dh) (u1 : Mem Rh) (u2 : Mem ByteArray) (u3 : Mem Tn) (u4 : List Tn) : Option (Mem Dh × Mem Rh × Mem ByteArray × Mem Tn × Hd × Unit) := R 164 [777] ji (u0, (u1, (u2, (u3, (u4, ())))))
def kK (R : ax) (u0 : List Tn) (u1 : List Tn) : Option (Bool × Unit) := R 165 [] ot (u0, (u1, ()))
def jA (R : ax) (u0 : ByteArray) (u1 : Int) : Option (Int × Unit) := R 169 [] w8 (u0, (u1, ()))
def vW (R : ax) (u0 : ByteArray) : Option (Bool × Unit) := R 172 [] zl (u0, ())
def iS (R : ax) (u0 : Int) (u1 : Int) (u2 : ByteArray) (u3 : Int) : Option (Int × Unit) := R 175 [] pI (u0, (u1, (u2, (u3, ()))))
def mq (R : ax) (u0 : Int) (u1 : Int) (u2 : ByteArray) : Option Tn := R 176 [] pJ (u0, (u1, (u2, ())))
def iT (R : ax) (u0 : Int) (u1 : Int) (u2 : ByteArray) (u3 : Int) (u4 : Int) (u5 : ByteArray) : Option (Bool × Unit) := R 177 [] pK (u0, (u1, (u2, (u3, (u4, (u5, ()))))))
def qO (R : ax) (u0 : ByteArray) : Option (ByteArray × ByteArray × Int × Bool × Unit) := R 179 [] uL (u0, ())
def hU (R : ax) (u0 : ByteArray) (u1 : ByteArray) : Option (ByteArray × ByteArray × Bool × Unit) := R 191 [] qL (u0, (u1, ()))
def ic (R : ax) (u0 : ByteArray) : Option (Bool × Unit) := R 192 [] ou (u0, ())
def iU (R : ax) (u0 : ByteArray) : Option (Bool × Unit) := R 193 [] sT (u0, ())
def gY (R : ax) (u0 : ByteArray) (u1 : ByteArray) : Option (ByteArray × Bool × Unit) := R 194 [] j5 (u0, (u1, ()))
def mr (R : ax) (u0 : ByteArray) : Option (Int × Bool × Unit) := R 195 [] cq (u0, ())
def ek (R : ax) (u0 : ByteArray) (u1 : ByteArray) : Option (ByteArray × ByteArray × Bool × Unit) := R 202 [] gf (u0, (u1, ()))
def dc (R : ax) (u0 : ByteArray) (u1 : ByteArray) : Option (ByteArray × Bool × Unit) := R 203 [] eA (u0, (u1, ()))
def dL (R : ax) (u0 : ByteArray) (u1 : ByteArray) : Option (Int × Unit) := R 207 [] aM (u0, (u1, ()))
def de (R : ax) (u0 : ByteArray) (u1 : ByteArray) : Option (Bool × Unit) := R 208 [] eB (u0, (u1, ()))
noncomputable def gC (R : ax) (n : Nat) (u0 : Mem Dh) (u1 : Mem Rh) (u2 : Mem ByteArray) (u3 : Mem Tn) (u4 : List Df) (u5 : List ByteArray) (u6 : List Rl) (u7 : ByteArray) (u8 : ByteArray) : Option (Mem Dh × Mem Rh × Mem ByteArray × Mem Tn × Bool × Unit) :=
 bif (bS 1048576 (cW u7)) then
  some (u0, (u1, (u2, (u3, (true, ())))))
 else
 bif (bS 1048576 (cW u8)) then
  some (u0, (u1, (u2, (u3, (true, ())))))
 else
 (tD R u4 u5 u6 1048576).bind fun (r18_1, _) =>
 bif (bS r18_1 0) then
  some (u0, (u1, (u2, (u3, (true, ())))))
 else
 (eI R u0 u1 u2 u3 u4 u5 u6).bind fun (r19_1, (r19b, (r19c, (r19d, (r19e, (r19f, (x, _))))))) =>
 (gV R r19_1 r19b r19c r19d r19e r19f x u7 u8).bind fun (r11_1, (r11b, (r11c, (r11d, (r11e, (r11f, (x_1, (x_2, _)))))))) =>
 (eI R r11_1 r11b r11c r11d u4 u5 u6).bind fun (r19_2_1, (r19_2b, (r19_2c, (r19_2d, (r19_2e, (r19_2f, (x_3, _))))))) =>
 (fh R r19_2_1 r19_2b r19_2c r19_2d r19_2e r19_2f x_3 u7 u8).bind fun (r10_1, (r10b, (r10c, (r10d, (r10e, (r10f, (x_4, (x_5, _)))))))) =>
 jb (P := (Bool × Unit × Unit × Unit × Unit × Bool × Bool × ByteArray × ByteArray × Bool × Unit) × (Hd × Hd × Hd × Unit) × (List Df × List ByteArray × List Rl × Unit) × (Hd × Hd × Hd × Unit) × (Hd × Hd × Hd × Unit) × Mem Tn × Mem ByteArray × Mem Rh × Mem Dh × Unit) (
   ok ((((bH r10_1 r10e) && (List.all (au r10_1 r10e) fun y => ((bH r10c y.2.1) && (((bH r10d y.2.2.1.1) && true) && true)))) && ((bH r10c r10f) && (((bH r10b x_4) && (List.all (au r10b x_4) fun y_1 => (((bH r10d y_1.2.1.1) && true) && (((bH r10d y_1.2.2.1.1) && true) && true)))) && true))) && ((((bH r10_1 r11e) && (List.all (au r10_1 r11e) fun y_2 => ((bH r10c y_2.2.1) && (((bH r10d y_2.2.2.1.1) && true) && true)))) && ((bH r10c r11f) && (((bH r10b x_1) && (List.all (au r10b x_1) fun y_3 => (((bH r10d y_3.2.1.1) && true) && (((bH r10d y_3.2.2.1.1) && true) && true)))) && true))) && true)) <|
   (js R (List.map (fun y_4 => (y_4.1, ((List.map (fun y_5 => y_5) (au r10c y_4.2.1)), (((List.map (iy) (au r10d y_4.2.2.1.1)), y_4.2.2.1.2), y_4.2.2.2)))) (au r10_1 r10e)) (List.map (fun y_7 => y_7) (au r10c r10f)) (List.map (fun y_8 => (y_8.1, (((List.map (iy) (au r10d y_8.2.1.1)), y_8.2.1.2), (((List.map (iy) (au r10d y_8.2.2.1.1)), y_8.2.2.1.2), y_8.2.2.2)))) (au r10b x_4)) (List.map (fun y_11 => (y_11.1, ((List.map (fun y_12 => y_12) (au r10c y_11.2.1)), (((List.map (iy) (au r10d y_11.2.2.1.1)), y_11.2.2.1.2), y_11.2.2.2)))) (au r10_1 r11e)) (List.map (fun y_14 => y_14) (au r10c r11f)) (List.map (fun y_15 => (y_15.1, (((List.map (iy) (au r10d y_15.2.1.1)), y_15.2.1.2), (((List.map (iy) (au r10d y_15.2.2.1.1)), y_15.2.2.1.2), y_15.2.2.2)))) (au r10b x_1))).bind fun (r20_1, _) =>
   bif (!r20_1) then
    some (.inr ((true, ((), ((), ((), ((), (x_5, (x_2, (u7, (u8, (false, ())))))))))), ((r19_2e, (r19_2f, (x_3, ()))), ((u4, (u5, (u6, ()))), ((r10e, (r10f, (x_4, ()))), ((r11e, (r11f, (x_1, ()))), (r10d, (r10c, (r10b, (r10_1, ()))))))))))
   else
   some (.inr (((!(r9 x_5 x_2)), ((), ((), ((), ((), (x_5, (x_2, (u7, (u8, (false, ())))))))))), ((r19_2e, (r19_2f, (x_3, ()))), ((u4, (u5, (u6, ()))), ((r10e, (r10f, (x_4, ()))), ((r11e, (r11f, (x_1, ()))), (r10d, (r10c, (r10b, (r10_1, ()))))))))))) fun ((t54, (_, (_, (_, (_, (g112, (w19, (aOld1, (aName2, (t6, _)))))))))), ((o0a, (o0b, (o0c, _))), ((o1a, (o1b, (o1c, _))), ((o2a, (o2b, (o2c, _))), ((o3a, (o3b, (o3c, _))), (o900073, (o900009, (o900057, (o900059, _))))))))) =>
 bif t54 then
  some (o900059, (o900057, (o900009, (o900073, (false, ())))))
 else
 (eI R o900059 o900057 o900009 o900073 o1a o1b o1c).bind fun (r19_3_1, (r19_3b, (r19_3c, (r19_3d, (r19_3e, (r19_3f, (x_6, _))))))) =>
 ok ((((bH r19_3_1 o0a) && (List.all (au r19_3_1 o0a) fun y_18 => ((bH r19_3c y_18.2.1) && (((bH r19_3d y_18.2.2.1.1) && true) && true)))) && ((bH r19_3c o0b) && (((bH r19_3b o0c) && (List.all (au r19_3b o0c) fun y_19 => (((bH r19_3d y_19.2.1.1) && true) && (((bH r19_3d y_19.2.2.1.1) && true) && true)))) && true))) && ((((bH r19_3_1 r19_3e) && (List.all (au r19_3_1 r19_3e) fun y_20 => ((bH r19_3c y_20.2.1) && (((bH r19_3d y_20.2.2.1.1) && true) && true)))) && ((bH r19_3c r19_3f) && (((bH r19_3b x_6) && (List.all (au r19_3b x_6) fun y_21 => (((bH r19_3d y_21.2.1.1) && true) && (((bH r19_3d y_21.2.2.1.1) && true) && true)))) && true))) && true)) <|
 (js R (List.map (fun y_22 => (y_22.1, ((List.map (fun y_23 => y_23) (au r19_3c y_22.2.1)), (((List.map (iy) (au r19_3d y_22.2.2.1.1)), y_22.2.2.1.2), y_22.2.2.2)))) (au r19_3_1 o0a)) (List.map (fun y_25 => y_25) (au r19_3c o0b)) (List.map (fun y_26 => (y_26.1, (((List.map (iy) (au r19_3d y_26.2.1.1)), y_26.2.1.2), (((List.map (iy) (au r19_3d y_26.2.2.1.1)), y_26.2.2.1.2), y_26.2.2.2)))) (au r19_3b o0c)) (List.map (fun y_29 => (y_29.1, ((List.map (fun y_30 => y_30) (au r19_3c y_29.2.1)), (((List.map (iy) (au r19_3d y_29.2.2.1.1)), y_29.2.2.1.2), y_29.2.2.2)))) (au r19_3_1 r19_3e)) (List.map (fun y_32 => y_32) (au r19_3c r19_3f)) (List.map (fun y_33 => (y_33.1, (((List.map (iy) (au r19_3d y_33.2.1.1)), y_33.2.1.2), (((List.map (iy) (au r19_3d y_33.2.2.1.1)), y_33.2.2.1.2), y_33.2.2.2)))) (au r19_3b x_6))).bind fun (r20_2_1, _) =>
 bif (!r20_2_1) then
  some (r19_3_1, (r19_3b, (r19_3c, (r19_3d, (false, ())))))
 else
 (dJ R r19_3_1 r19_3b r19_3c r19_3d o0a o0b o0c 1).bind fun (r21_1, (r21b, (r21c, (r21d, (r21e, _))))) =>
 jb (P := (Bool × Unit × Unit × ByteArray × ByteArray × Unit × Bool × Bool × Unit) × (Hd × Hd × Hd × Unit) × (List Df × List ByteArray × List Rl × Unit) × (Hd × Hd × Hd × Unit) × Mem Tn × Mem ByteArray × Mem Rh × Mem Dh × Unit) (
   bif (bS r21e 0) then
    some (.inr ((true, ((), ((), (aOld1, (aName2, ((), (w19, (t6, ())))))))), ((o2a, (o2b, (o2c, ()))), ((o1a, (o1b, (o1c, ()))), ((o3a, (o3b, (o3c, ()))), (r21d, (r21c, (r21b, (r21_1, ())))))))))
   else
   ok ((((bH r21_1 o2a) && (List.all (au r21_1 o2a) fun y_36 => ((bH r21c y_36.2.1) && (((bH r21d y_36.2.2.1.1) && true) && true)))) && ((bH r21c o2b) && (((bH r21b o2c) && (List.all (au r21b o2c) fun y_37 => (((bH r21d y_37.2.1.1) && true) && (((bH r21d y_37.2.2.1.1) && true) && true)))) && true))) && ((((bH r21_1 o3a) && (List.all (au r21_1 o3a) fun y_38 => ((bH r21c y_38.2.1) && (((bH r21d y_38.2.2.1.1) && true) && true)))) && ((bH r21c o3b) && (((bH r21b o3c) && (List.all (au r21b o3c) fun y_39 => (((bH r21d y_39.2.1.1) && true) && (((bH r21d y_39.2.2.1.1) && true) && true)))) && true))) && true)) <|
   (js R (List.map (fun y_40 => (y_40.1, ((List.map (fun y_41 => y_41) (au r21c y_40.2.1)), (((List.map (iy) (au r21d y_40.2.2.1.1)), y_40.2.2.1.2), y_40.2.2.2)))) (au r21_1 o2a)) (List.map (fun y_43 => y_43) (au r21c o2b)) (List.map (fun y_44 => (y_44.1, (((List.map (iy) (au r21d y_44.2.1.1)), y_44.2.1.2), (((List.map (iy) (au r21d y_44.2.2.1.1)), y_44.2.2.1.2), y_44.2.2.2)))) (au r21b o2c)) (List.map (fun y_47 => (y_47.1, ((List.map (fun y_48 => y_48) (au r21c y_47.2.1)), (((List.map (iy) (au r21d y_47.2.2.1.1)), y_47.2.2.1.2), y_47.2.2.2)))) (au r21_1 o3a)) (List.map (fun y_50 => y_50) (au r21c o3b)) (List.map (fun y_51 => (y_51.1, (((List.map (iy) (au r21d y_51.2.1.1)), y_51.2.1.2), (((List.map (iy) (au r21d y_51.2.2.1.1)), y_51.2.2.1.2), y_51.2.2.2)))) (au r21b o3c))).bind fun (r20_3_1, _) =>
   bif (!r20_3_1) then
    some (.inr ((true, ((), ((), (aOld1, (aName2, ((), (w19, (t6, ())))))))), ((o2a, (o2b, (o2c, ()))), ((o1a, (o1b, (o1c, ()))), ((o3a, (o3b, (o3c, ()))), (r21d, (r21c, (r21b, (r21_1, ())))))))))
   else
   some (.inr (((!(r9 g112 w19)), ((), ((), (aOld1, (aName2, ((), (w19, (t6, ())))))))), ((o2a, (o2b, (o2c, ()))), ((o1a, (o1b, (o1c, ()))), ((o3a, (o3b, (o3c, ()))), (r21d, (r21c, (r21b, (r21_1, ())))))))))) fun ((t75, (_, (_, (aOld1_1, (aName2_1, (_, (w19_1, (t6_1, _)))))))), ((o0a_1, (o0b_1, (o0c_1, _))), ((o1a_1, (o1b_1, (o1c_1, _))), ((o2a_1, (o2b_1, (o2c_1, _))), (o900073_1, (o900009_1, (o900057_1, (o900059_1, _)))))))) =>
 bif t75 then
  some (o900059_1, (o900057_1, (o900009_1, (o900073_1, (false, ())))))
 else
 (dJ R o900059_1 o900057_1 o900009_1 o900073_1 o0a_1 o0b_1 o0c_1 1).bind fun (r21_2_1, (r21_2b, (r21_2c, (r21_2d, (r21_2e, _))))) =>
 ok ((((bH r21_2_1 o0a_1) && (List.all (au r21_2_1 o0a_1) fun y_54 => ((bH r21_2c y_54.2.1) && (((bH r21_2d y_54.2.2.1.1) && true) && true)))) && ((bH r21_2c o0b_1) && (((bH r21_2b o0c_1) && (List.all (au r21_2b o0c_1) fun y_55 => (((bH r21_2d y_55.2.1.1) && true) && (((bH r21_2d y_55.2.2.1.1) && true) && true)))) && true))) && true) <|
 (lv R (List.map (fun y_56 => (y_56.1, ((List.map (fun y_57 => y_57) (au r21_2c y_56.2.1)), (((List.map (iy) (au r21_2d y_56.2.2.1.1)), y_56.2.2.1.2), y_56.2.2.2)))) (au r21_2_1 o0a_1)) (List.map (fun y_59 => y_59) (au r21_2c o0b_1)) (List.map (fun y_60 => (y_60.1, (((List.map (iy) (au r21_2d y_60.2.1.1)), y_60.2.1.2), (((List.map (iy) (au r21_2d y_60.2.2.1.1)), y_60.2.2.1.2), y_60.2.2.2)))) (au r21_2b o0c_1)) 1).bind fun (r22_1, _) =>
 bif (bS r22_1 0) then
  some (r21_2_1, (r21_2b, (r21_2c, (r21_2d, (false, ())))))
 else
 bif (r22_1 != r21_2e) then
  some (r21_2_1, (r21_2b, (r21_2c, (r21_2d, (false, ())))))
 else
 (eI R r21_2_1 r21_2b r21_2c r21_2d o1a_1 o1b_1 o1c_1).bind fun (r19_4_1, (r19_4b, (r19_4c, (r19_4d, (r19_4e, (r19_4f, (x_7, _))))))) =>
 (fh R r19_4_1 r19_4b r19_4c r19_4d r19_4e r19_4f x_7 aOld1_1 aName2_1).bind fun (r10_2_1, (r10_2b, (r10_2c, (r10_2d, (r10_2e, (r10_2f, (x_8, (x_9, _)))))))) =>
 jb (P := (Bool × Unit × Int × Bool × Unit) × (Hd × Hd × Hd × Unit) × Mem Tn × Mem ByteArray × Mem Rh × Mem Dh × Unit) (
   ok ((((bH r10_2_1 r10_2e) && (List.all (au r10_2_1 r10_2e) fun y_63 => ((bH r10_2c y_63.2.1) && (((bH r10_2d y_63.2.2.1.1) && true) && true)))) && ((bH r10_2c r10_2f) && (((bH r10_2b x_8) && (List.all (au r10_2b x_8) fun y_64 => (((bH r10_2d y_64.2.1.1) && true) && (((bH r10_2d y_64.2.2.1.1) && true) && true)))) && true))) && ((((bH r10_2_1 o2a_1) && (List.all (au r10_2_1 o2a_1) fun y_65 => ((bH r10_2c y_65.2.1) && (((bH r10_2d y_65.2.2.1.1) && true) && true)))) && ((bH r10_2c o2b_1) && (((bH r10_2b o2c_1) && (List.all (au r10_2b o2c_1) fun y_66 => (((bH r10_2d y_66.2.1.1) && true) && (((bH r10_2d y_66.2.2.1.1) && true) && true)))) && true))) && true)) <|
   (js R (List.map (fun y_67 => (y_67.1, ((List.map (fun y_68 => y_68) (au r10_2c y_67.2.1)), (((List.map (iy) (au r10_2d y_67.2.2.1.1)), y_67.2.2.1.2), y_67.2.2.2)))) (au r10_2_1 r10_2e)) (List.map (fun y_70 => y_70) (au r10_2c r10_2f)) (List.map (fun y_71 => (y_71.1, (((List.map (iy) (au r10_2d y_71.2.1.1)), y_71.2.1.2), (((List.map (iy) (au r10_2d y_71.2.2.1.1)), y_71.2.2.1.2), y_71.2.2.2)))) (au r10_2b x_8)) (List.map (fun y_74 => (y_74.1, ((List.map (fun y_75 => y_75) (au r10_2c y_74.2.1)), (((List.map (iy) (au r10_2d y_74.2.2.1.1)), y_74.2.2.1.2), y_74.2.2.2)))) (au r10_2_1 o2a_1)) (List.map (fun y_77 => y_77) (au r10_2c o2b_1)) (List.map (fun y_78 => (y_78.1, (((List.map (iy) (au r10_2d y_78.2.1.1)), y_78.2.1.2), (((List.map (iy) (au r10_2d y_78.2.2.1.1)), y_78.2.2.1.2), y_78.2.2.2)))) (au r10_2b o2c_1))).bind fun (r20_4_1, _) =>
   bif (!r20_4_1) then
    some (.inr ((true, ((), (r21_2e, (t6_1, ())))), ((o0a_1, (o0b_1, (o0c_1, ()))), (r10_2d, (r10_2c, (r10_2b, (r10_2_1, ())))))))
   else
   some (.inr (((!(r9 x_9 w19_1)), ((), (r21_2e, (t6_1, ())))), ((o0a_1, (o0b_1, (o0c_1, ()))), (r10_2d, (r10_2c, (r10_2b, (r10_2_1, ())))))))) fun ((t103, (_, (m14, (t6_2, _)))), ((o0a_2, (o0b_2, (o0c_2, _))), (o900073_2, (o900009_2, (o900057_2, (o900059_2, _)))))) =>
 bif t103 then
  some (o900059_2, (o900057_2, (o900009_2, (o900073_2, (false, ())))))
 else
 ok ((((bH o900059_2 o0a_2) && (List.all (au o900059_2 o0a_2) fun y_81 => ((bH o900009_2 y_81.2.1) && (((bH o900073_2 y_81.2.2.1.1) && true) && true)))) && ((bH o900009_2 o0b_2) && (((bH o900057_2 o0c_2) && (List.all (au o900057_2 o0c_2) fun y_82 => (((bH o900073_2 y_82.2.1.1) && true) && (((bH o900073_2 y_82.2.2.1.1) && true) && true)))) && true))) && true) <|
 (lv R (List.map (fun y_83 => (y_83.1, ((List.map (fun y_84 => y_84) (au o900009_2 y_83.2.1)), (((List.map (iy) (au o900073_2 y_83.2.2.1.1)), y_83.2.2.1.2), y_83.2.2.2)))) (au o900059_2 o0a_2)) (List.map (fun y_86 => y_86) (au o900009_2 o0b_2)) (List.map (fun y_87 => (y_87.1, (((List.map (iy) (au o900073_2 y_87.2.1.1)), y_87.2.1.2), (((List.map (iy) (au o900073_2 y_87.2.2.1.1)), y_87.2.2.1.2), y_87.2.2.2)))) (au o900057_2 o0c_2)) 1).bind fun (r22_2_1, _) =>
 bif (bS r22_2_1 0) then
  some (o900059_2, (o900057_2, (o900009_2, (o900073_2, (false, ())))))
 else
 bif (r22_2_1 != m14) then
  some (o900059_2, (o900057_2, (o900009_2, (o900073_2, (false, ())))))
 else
 some (o900059_2, (o900057_2, (o900009_2, (o900073_2, (true, ())))))
noncomputable def kU (R : ax) (n : Nat) (u0 : Mem Dh) (u1 : Mem Rh) (u2 : Mem ByteArray) (u3 : Mem Tn) (u4 : Hd) (u5 : Hd) (u6 : Hd) (u7 : ByteArray) (u8 : ByteArray) : Option (Mem Dh × Mem Rh × Mem ByteArray × Mem Tn × Hd × Hd × Hd × Bool × Unit) :=
 ok (((bH u2 u5) && true) && true) <|
 (cD R (List.map (fun y => y) (au u2 u5)) u7).bind fun (r35_1, _) =>
 jb (P := (Bool × Unit × Unit × Int × ByteArray × ByteArray × Bool × Unit) × (Unit × Unit × Unit × Unit) × (Hd × Hd × Hd × Unit) × Mem Dh × Mem Rh × Mem ByteArray × Mem Tn × Unit) (
   ok ((((bH u0 u4) && (List.all (au u0 u4) fun y_1 => ((bH u2 y_1.2.1) && (((bH u3 y_1.2.2.1.1) && true) && true)))) && ((bH u2 u5) && (((bH u1 u6) && (List.all (au u1 u6) fun y_2 => (((bH u3 y_2.2.1.1) && true) && (((bH u3 y_2.2.2.1.1) && true) && true)))) && true))) && true) <|
   (iN R (List.map (fun y_3 => (y_3.1, ((List.map (fun y_4 => y_4) (au u2 y_3.2.1)), (((List.map (iy) (au u3 y_3.2.2.1.1)), y_3.2.2.1.2), y_3.2.2.2)))) (au u0 u4)) (List.map (fun y_6 => y_6) (au u2 u5)) (List.map (fun y_7 => (y_7.1, (((List.map (iy) (au u3 y_7.2.1.1)), y_7.2.1.2), (((List.map (iy) (au u3 y_7.2.2.1.1)), y_7.2.2.1.2), y_7.2.2.2)))) (au u1 u6))).bind fun (r13_1, _) =>
   bif (r13_1 != 0) then
    some (.inr ((true, ((), ((), (r35_1, (u8, (u7, (false, ()))))))), (((), ((), ((), ()))), ((u4, (u5, (u6, ()))), (u0, (u1, (u2, (u3, ()))))))))
   else
   bif (bS r35_1 0) then
    some (.inr ((true, ((), ((), (r35_1, (u8, (u7, (false, ()))))))), (((), ((), ((), ()))), ((u4, (u5, (u6, ()))), (u0, (u1, (u2, (u3, ()))))))))
   else
   (c8 R u8).bind fun (r36_1, _) =>
   bif (!r36_1) then
    some (.inr ((true, ((), ((), (r35_1, (u8, (u7, (false, ()))))))), (((), ((), ((), ()))), ((u4, (u5, (u6, ()))), (u0, (u1, (u2, (u3, ()))))))))
   else
   ok ((((bH u0 u4) && (List.all (au u0 u4) fun y_10 => ((bH u2 y_10.2.1) && (((bH u3 y_10.2.2.1.1) && true) && true)))) && ((bH u2 u5) && (((bH u1 u6) && (List.all (au u1 u6) fun y_11 => (((bH u3 y_11.2.1.1) && true) && (((bH u3 y_11.2.2.1.1) && true) && true)))) && true))) && true) <|
   (gI R (List.map (fun y_12 => (y_12.1, ((List.map (fun y_13 => y_13) (au u2 y_12.2.1)), (((List.map (iy) (au u3 y_12.2.2.1.1)), y_12.2.2.1.2), y_12.2.2.2)))) (au u0 u4)) (List.map (fun y_15 => y_15) (au u2 u5)) (List.map (fun y_16 => (y_16.1, (((List.map (iy) (au u3 y_16.2.1.1)), y_16.2.1.2), (((List.map (iy) (au u3 y_16.2.2.1.1)), y_16.2.2.1.2), y_16.2.2.2)))) (au u1 u6))).bind fun (r38_1, _) =>
   (a8 R r38_1 u8).bind fun (r37_1, _) =>
   some (.inr ((r37_1, ((), ((), (r35_1, (u8, (u7, (false, ()))))))), (((), ((), ((), ()))), ((u4, (u5, (u6, ()))), (u0, (u1, (u2, (u3, ()))))))))) fun ((t37, (_, (_, (at8, (name2, (old1, (t7, _))))))), ((_, (_, (_, _))), ((o1a, (o1b, (o1c, _))), (o900059, (o900057, (o900009, (o900073, _))))))) =>
 bif t37 then
  some (o900059, (o900057, (o900009, (o900073, ((0, (0, 0)), ((0, (0, 0)), ((0, (0, 0)), (false, ()))))))))
 else
 (gx R o900059 o900057 o900009 o900073 o1a o1b o1c).bind fun (r39_1, (r39b, (r39c, (r39d, (r39e, (r39f, (x, _))))))) =>
 ok (bQ at8 ((r39f.2.2 : Nat) : Int)) <|
 ok (dO r39c r39f.1 (r39f.2.1 + (Int.toNat at8))) <|
 iter (P := (Int × Int × Hd × ByteArray × ByteArray × Unit × Unit × Bool × Unit) × (Hd × Hd × Hd × Unit) × (Unit × Unit × Unit × Unit) × Mem ByteArray × Mem Tn × Mem Rh × Mem Dh × Unit) (fun rec ((t49, (t48, (t47, (old1_1, (name2_1, (_, (_, (t7_1, _)))))))), ((o0a, (o0b, (o0c, _))), ((_, (_, (_, _))), (o900009_1, (o900073_1, (o900057_1, (o900059_1, _))))))) =>
   bif (bS t49 t48) then
    ok (bQ t49 ((t47.2.2 : Nat) : Int)) <|
    ok (dO o900057_1 t47.1 (t47.2.1 + (Int.toNat t49))) <|
    iter (P := (Int × Int × Unit × ByteArray × ByteArray × Int × Int × Hd × Unit × Unit × Bool × Unit) × List Hd × (Hd × Hd × Hd × Unit) × (Unit × Unit × Unit × Unit) × Mem ByteArray × Mem Tn × Mem Rh × Mem Dh × Unit) (fun rec_1 ((t61, (t60, (_, (old1_2, (name2_2, (t49_1, (t48_1, (t47_1, (_, (_, (t7_2, _))))))))))), (o0, ((o1a_1, (o1b_1, (o1c_1, _))), ((_, (_, (_, _))), (o900009_2, (o900073_2, (o900057_2, (o900059_2, _)))))))) =>
      bif (bS t61 t60) then
       ok (bQ t61 (len o0)) <|
       iter (P := (Int × Int × Hd × ByteArray × Hd × ByteArray × Int × Int × Unit × Int × Int × Hd × Unit × Unit × Bool × Unit) × List Hd × (Hd × Hd × Hd × Unit) × (Unit × Unit × Unit × Unit) × Mem ByteArray × Mem Tn × Mem Rh × Mem Dh × Unit) (fun rec_2 ((t67, (t66, (t65, (old1_3, (nodes13, (name2_3, (t61_1, (t60_1, (_, (t49_2, (t48_2, (t47_2, (_, (_, (t7_3, _))))))))))))))), (o0_1, ((o1a_2, (o1b_2, (o1c_2, _))), ((_, (_, (_, _))), (o900009_3, (o900073_3, (o900057_3, (o900059_3, _)))))))) =>
         bif (bS t67 t66) then
          jb (P := (Int × Int × Hd × ByteArray × Hd × ByteArray × Int × Int × Unit × Int × Int × Hd × Unit × Unit × Bool × Unit) × List Hd × (Hd × Hd × Hd × Unit) × (Unit × Unit × Unit × Unit) × Mem Tn × Mem ByteArray × Mem Rh × Mem Dh × Unit) (
            ok (bQ t67 ((t65.2.2 : Nat) : Int)) <|
            ok (dO o900073_3 t65.1 (t65.2.1 + (Int.toNat t67))) <|
            jb (P := (Bool × Hd × Int × ByteArray × Int × Int × Hd × ByteArray × Int × Int × Unit × Int × Int × Hd × Unit × Unit × Bool × Unit) × List Hd × (Hd × Hd × Hd × Unit) × (Unit × Unit × Unit × Unit) × Mem ByteArray × Mem Tn × Mem Rh × Mem Dh × Unit) (
              bif ((List.getD (ak o900073_3 t65.1) (t65.2.1 + (Int.toNat t67)) (0, (0, ((bs []), ())))).1 == 2) then
               some (.inr (((seq (List.getD (ak o900073_3 t65.1) (t65.2.1 + (Int.toNat t67)) (0, (0, ((bs []), ())))).2.2.1 old1_3), (nodes13, (t67, (name2_3, (t67, (t66, (t65, (old1_3, (t61_1, (t60_1, ((), (t49_2, (t48_2, (t47_2, ((), ((), (t7_3, ()))))))))))))))))), (o0_1, ((o1a_2, (o1b_2, (o1c_2, ()))), (((), ((), ((), ()))), (o900009_3, (o900073_3, (o900057_3, (o900059_3, ())))))))))
              else
              some (.inr ((false, (nodes13, (t67, (name2_3, (t67, (t66, (t65, (old1_3, (t61_1, (t60_1, ((), (t49_2, (t48_2, (t47_2, ((), ((), (t7_3, ()))))))))))))))))), (o0_1, ((o1a_2, (o1b_2, (o1c_2, ()))), (((), ((), ((), ()))), (o900009_3, (o900073_3, (o900057_3, (o900059_3, ())))))))))) fun ((t80, (nodes13_1, (i14, (name2_4, (t67_1, (t66_1, (t65_1, (old1_4, (t61_2, (t60_2, (_, (t49_3, (t48_3, (t47_3, (_, (_, (t7_4, _))))))))))))))))), (o0_2, ((o1a_3, (o1b_3, (o1c_3, _))), ((_, (_, (_, _))), (o900009_4, (o900073_4, (o900057_4, (o900059_4, _)))))))) =>
            bif t80 then
             ok (bQ i14 ((nodes13_1.2.2 : Nat) : Int)) <|
             ok (dO o900073_4 nodes13_1.1 (nodes13_1.2.1 + (Int.toNat i14))) <|
             some (.inr ((t67_1, (t66_1, (t65_1, (old1_4, (nodes13_1, (name2_4, (t61_2, (t60_2, ((), (t49_3, (t48_3, (t47_3, ((), ((), (t7_4, ()))))))))))))))), (o0_2, ((o1a_3, (o1b_3, (o1c_3, ()))), (((), ((), ((), ()))), ((eY o900073_4 (some (List.set (ak o900073_4 nodes13_1.1) (nodes13_1.2.1 + (Int.toNat i14)) ((List.getD (ak o900073_4 nodes13_1.1) (nodes13_1.2.1 + (Int.toNat i14)) (0, (0, ((bs []), ())))).1, ((List.getD (ak o900073_4 nodes13_1.1) (nodes13_1.2.1 + (Int.toNat i14)) (0, (0, ((bs []), ())))).2.1, (name2_4, ()))))) nodes13_1.1), (o900009_4, (o900057_4, (o900059_4, ())))))))))
            else
            some (.inr ((t67_1, (t66_1, (t65_1, (old1_4, (nodes13_1, (name2_4, (t61_2, (t60_2, ((), (t49_3, (t48_3, (t47_3, ((), ((), (t7_4, ()))))))))))))))), (o0_2, ((o1a_3, (o1b_3, (o1c_3, ()))), (((), ((), ((), ()))), (o900073_4, (o900009_4, (o900057_4, (o900059_4, ())))))))))) fun ((t67_2, (t66_2, (t65_2, (old1_5, (nodes13_2, (name2_5, (t61_3, (t60_3, (_, (t49_4, (t48_4, (t47_4, (_, (_, (t7_5, _))))))))))))))), (o0_3, ((o1a_4, (o1b_4, (o1c_4, _))), ((_, (_, (_, _))), (o900073_5, (o900009_5, (o900057_5, (o900059_5, _)))))))) =>
          rec_2 (((aB .i64 t67_2 1), (t66_2, (t65_2, (old1_5, (nodes13_2, (name2_5, (t61_3, (t60_3, ((), (t49_4, (t48_4, (t47_4, ((), ((), (t7_5, ()))))))))))))))), (o0_3, ((o1a_4, (o1b_4, (o1c_4, ()))), (((), ((), ((), ()))), (o900009_5, (o900073_5, (o900057_5, (o900059_5, ()))))))))
         else
         rec_1 (((aB .i64 t61_1 1), (t60_1, ((), (old1_3, (name2_3, (t49_2, (t48_2, (t47_2, ((), ((), (t7_3, ()))))))))))), (o0_1, ((o1a_2, (o1b_2, (o1c_2, ()))), (((), ((), ((), ()))), (o900009_3, (o900073_3, (o900057_3, (o900059_3, ()))))))))) n ((0, ((((List.getD o0 (Int.toNat t61) (0, (0, 0))).2.2 : Nat) : Int), ((List.getD o0 (Int.toNat t61) (0, (0, 0))), (old1_2, ((List.getD o0 (Int.toNat t61) (0, (0, 0))), (name2_2, (t61, (t60, ((), (t49_1, (t48_1, (t47_1, ((), ((), (t7_2, ()))))))))))))))), (o0, ((o1a_1, (o1b_1, (o1c_1, ()))), (((), ((), ((), ()))), (o900009_2, (o900073_2, (o900057_2, (o900059_2, ()))))))))
      else
      rec (((aB .i64 t49_1 1), (t48_1, (t47_1, (old1_2, (name2_2, ((), ((), (t7_2, ())))))))), ((o1a_1, (o1b_1, (o1c_1, ()))), (((), ((), ((), ()))), (o900009_2, (o900073_2, (o900057_2, (o900059_2, ())))))))) n ((0, ((len [(List.getD (ak o900057_1 t47.1) (t47.2.1 + (Int.toNat t49)) kT).2.1.1, (List.getD (ak o900057_1 t47.1) (t47.2.1 + (Int.toNat t49)) kT).2.2.1.1]), ((), (old1_1, (name2_1, (t49, (t48, (t47, ((), ((), (t7_1, ()))))))))))), ([(List.getD (ak o900057_1 t47.1) (t47.2.1 + (Int.toNat t49)) kT).2.1.1, (List.getD (ak o900057_1 t47.1) (t47.2.1 + (Int.toNat t49)) kT).2.2.1.1], ((o0a, (o0b, (o0c, ()))), (((), ((), ((), ()))), (o900009_1, (o900073_1, (o900057_1, (o900059_1, ()))))))))
   else
   some (o900059_1, (o900057_1, (o900009_1, (o900073_1, (o0a, (o0b, (o0c, (true, ()))))))))) n ((0, (((x.2.2 : Nat) : Int), (x, (old1, (name2, ((), ((), (t7, ())))))))), ((r39e, (r39f, (x, ()))), (((), ((), ((), ()))), ((eY r39c (some (List.set (ak r39c r39f.1) (r39f.2.1 + (Int.toNat at8)) name2)) r39f.1), (r39d, (r39b, (r39_1, ())))))))
noncomputable def kW (R : ax) (n : Nat) (u0 : Mem Dh) (u1 : Mem Rh) (u2 : Mem ByteArray) (u3 : Mem Tn) (u4 : Hd) (u5 : Hd) (u6 : Hd) (u7 : ByteArray) (u8 : ByteArray) : Option (Mem Dh × Mem Rh × Mem ByteArray × Mem Tn × Hd × Hd × Hd × Bool × Unit) :=
 ok (((bH u2 u5) && true) && true) <|
 (gy R (List.map (fun y => y) (au u2 u5)) u7).bind fun (r40_1, _) =>
 jb (P := (Bool × Unit × Unit × Int × ByteArray × ByteArray × Bool × Unit) × (Unit × Unit × Unit × Unit) × (Hd × Hd × Hd × Unit) × Mem Dh × Mem Rh × Mem ByteArray × Mem Tn × Unit) (
   ok ((((bH u0 u4) && (List.all (au u0 u4) fun y_1 => ((bH u2 y_1.2.1) && (((bH u3 y_1.2.2.1.1) && true) && true)))) && ((bH u2 u5) && (((bH u1 u6) && (List.all (au u1 u6) fun y_2 => (((bH u3 y_2.2.1.1) && true) && (((bH u3 y_2.2.2.1.1) && true) && true)))) && true))) && true) <|
   (iO R (List.map (fun y_3 => (y_3.1, ((List.map (fun y_4 => y_4) (au u2 y_3.2.1)), (((List.map (iy) (au u3 y_3.2.2.1.1)), y_3.2.2.1.2), y_3.2.2.2)))) (au u0 u4)) (List.map (fun y_6 => y_6) (au u2 u5)) (List.map (fun y_7 => (y_7.1, (((List.map (iy) (au u3 y_7.2.1.1)), y_7.2.1.2), (((List.map (iy) (au u3 y_7.2.2.1.1)), y_7.2.2.1.2), y_7.2.2.2)))) (au u1 u6))).bind fun (r41_1, _) =>
   bif (r41_1 != 0) then
    some (.inr ((true, ((), ((), (r40_1, (u8, (u7, (false, ()))))))), (((), ((), ((), ()))), ((u4, (u5, (u6, ()))), (u0, (u1, (u2, (u3, ()))))))))
   else
   bif (bS r40_1 0) then
    some (.inr ((true, ((), ((), (r40_1, (u8, (u7, (false, ()))))))), (((), ((), ((), ()))), ((u4, (u5, (u6, ()))), (u0, (u1, (u2, (u3, ()))))))))
   else
   (da R u8).bind fun (r42_1, _) =>
   bif (!r42_1) then
    some (.inr ((true, ((), ((), (r40_1, (u8, (u7, (false, ()))))))), (((), ((), ((), ()))), ((u4, (u5, (u6, ()))), (u0, (u1, (u2, (u3, ()))))))))
   else
   ok ((((bH u0 u4) && (List.all (au u0 u4) fun y_10 => ((bH u2 y_10.2.1) && (((bH u3 y_10.2.2.1.1) && true) && true)))) && ((bH u2 u5) && (((bH u1 u6) && (List.all (au u1 u6) fun y_11 => (((bH u3 y_11.2.1.1) && true) && (((bH u3 y_11.2.2.1.1) && true) && true)))) && true))) && true) <|
   (oX R (List.map (fun y_12 => (y_12.1, ((List.map (fun y_13 => y_13) (au u2 y_12.2.1)), (((List.map (iy) (au u3 y_12.2.2.1.1)), y_12.2.2.1.2), y_12.2.2.2)))) (au u0 u4)) (List.map (fun y_15 => y_15) (au u2 u5)) (List.map (fun y_16 => (y_16.1, (((List.map (iy) (au u3 y_16.2.1.1)), y_16.2.1.2), (((List.map (iy) (au u3 y_16.2.2.1.1)), y_16.2.2.1.2), y_16.2.2.2)))) (au u1 u6)) u8).bind fun (r43_1, _) =>
   some (.inr ((r43_1, ((), ((), (r40_1, (u8, (u7, (false, ()))))))), (((), ((), ((), ()))), ((u4, (u5, (u6, ()))), (u0, (u1, (u2, (u3, ()))))))))) fun ((t31, (_, (_, (at8, (name2, (old1, (t7, _))))))), ((_, (_, (_, _))), ((o1a, (o1b, (o1c, _))), (o900059, (o900057, (o900009, (o900073, _))))))) =>
 bif t31 then
  some (o900059, (o900057, (o900009, (o900073, ((0, (0, 0)), ((0, (0, 0)), ((0, (0, 0)), (false, ()))))))))
 else
 (kH R o900059 o900057 o900009 o900073 o1a o1b o1c).bind fun (r44_1, (r44b, (r44c, (r44d, (r44e, (r44f, (x, _))))))) =>
 ok (bQ at8 ((r44f.2.2 : Nat) : Int)) <|
 ok (dO r44c r44f.1 (r44f.2.1 + (Int.toNat at8))) <|
 iter (P := (Int × Unit × ByteArray × ByteArray × Unit × Bool × Unit) × (Hd × Hd × Hd × Unit) × (Unit × Unit × Unit × Unit) × Mem ByteArray × Mem Tn × Mem Rh × Mem Dh × Unit) (fun rec ((i10, (_, (old1_1, (name2_1, (_, (t7_1, _)))))), ((o0a, (o0b, (o0c, _))), ((_, (_, (_, _))), (o900009_1, (o900073_1, (o900057_1, (o900059_1, _))))))) =>
   bif (bS i10 ((o0c.2.2 : Nat) : Int)) then
    ok (bQ i10 ((o0c.2.2 : Nat) : Int)) <|
    ok (dO o900057_1 o0c.1 (o0c.2.1 + (Int.toNat i10))) <|
    (gJ R o900059_1 o900057_1 o900009_1 o900073_1 (List.getD (ak o900057_1 o0c.1) (o0c.2.1 + (Int.toNat i10)) kT).2.1.1 old1_1 name2_1).bind fun (r45_1, (r45b, (r45c, (r45d, _)))) =>
    ok (bQ i10 ((o0c.2.2 : Nat) : Int)) <|
    ok (dO r45b o0c.1 (o0c.2.1 + (Int.toNat i10))) <|
    (gJ R r45_1 r45b r45c r45d (List.getD (ak r45b o0c.1) (o0c.2.1 + (Int.toNat i10)) kT).2.2.1.1 old1_1 name2_1).bind fun (r45_2_1, (r45_2b, (r45_2c, (r45_2d, _)))) =>
    rec (((aB .i64 i10 1), ((), (old1_1, (name2_1, ((), (t7_1, ())))))), ((o0a, (o0b, (o0c, ()))), (((), ((), ((), ()))), (r45_2c, (r45_2d, (r45_2b, (r45_2_1, ())))))))
   else
   some (o900059_1, (o900057_1, (o900009_1, (o900073_1, (o0a, (o0b, (o0c, (true, ()))))))))) n ((0, ((), (old1, (name2, ((), (t7, ())))))), ((r44e, (r44f, (x, ()))), (((), ((), ((), ()))), ((eY r44c (some (List.set (ak r44c r44f.1) (r44f.2.1 + (Int.toNat at8)) name2)) r44f.1), (r44d, (r44b, (r44_1, ())))))))
noncomputable def uM (R : ax) (n : Nat) (u0 : List Df) (u1 : List ByteArray) (u2 : List Rl) : Option (Int × Unit) :=
 (kI R u0 u1 u2).bind fun (r47_1, _) =>
 bif (!r47_1) then
  some (4, ())
 else
 (nC R u0 u1 u2).bind fun (r48_1, _) =>
 bif r48_1 then
  some (5, ())
 else
 (mb R u0 u1 u2).bind fun (r49_1, _) =>
 bif r49_1 then
  some (6, ())
 else
 iter (P := (Int × Int × List Df × Unit × Int × Unit) × (List Df × List ByteArray × List Rl × Unit) × Unit) (fun rec ((t22, (t21, (t20, (_, (t2, _))))), ((o0a, (o0b, (o0c, _))), _)) =>
   bif (bS t22 t21) then
    ok (bQ t22 (len t20)) <|
    (jt R o0a o0b o0c (List.getD t20 (Int.toNat t22) cg).1 (List.getD t20 (Int.toNat t22) cg).2.1 (List.getD t20 (Int.toNat t22) cg).2.2.1.1).bind fun (r50_1, _) =>
    bif (r50_1 != 0) then
     some (r50_1, ())
    else
    rec (((aB .i64 t22 1), (t21, (t20, ((), (t2, ()))))), ((o0a, (o0b, (o0c, ()))), ()))
   else
   iter (P := (Int × Int × List Rl × Unit × Int × Unit) × (List Df × List ByteArray × List Rl × Unit) × Unit) (fun rec_1 ((t36, (t35, (t34, (_, (t2_1, _))))), ((o0a_1, (o0b_1, (o0c_1, _))), _)) =>
     bif (bS t36 t35) then
      ok (bQ t36 (len t34)) <|
      (ju R o0a_1 o0b_1 o0c_1 (List.getD t34 (Int.toNat t36) dA).1 (List.getD t34 (Int.toNat t36) dA).2.1.1 (List.getD t34 (Int.toNat t36) dA).2.2.1.1).bind fun (r51_1, _) =>
      bif (r51_1 != 0) then
       some (r51_1, ())
      else
      rec_1 (((aB .i64 t36 1), (t35, (t34, ((), (t2_1, ()))))), ((o0a_1, (o0b_1, (o0c_1, ()))), ()))
     else
     (nE R o0a_1 o0b_1 o0c_1).bind fun (r52_1, _) =>
     bif (kG 0 r52_1) then
      some (10, ())
     else
     jb (P := (Bool × Int × Unit) × Unit) (
       bif ((len o0b_1) == 0) then
        some (.inr ((true, (t2_1, ())), ()))
       else
       some (.inr ((((len o0c_1) == 0), (t2_1, ())), ()))) fun ((t51, (t2_2, _)), _) =>
     bif t51 then
      some (11, ())
     else
     some (0, ())) n ((0, ((len o0c), (o0c, ((), (t2, ()))))), ((o0a, (o0b, (o0c, ()))), ()))) n ((0, ((len u0), (u0, ((), (0, ()))))), ((u0, (u1, (u2, ()))), ()))
noncomputable def zn (R : ax) (n : Nat) (u0 : List Df) (u1 : List ByteArray) (u2 : List Rl) (u3 : Int) : Option (Int × Unit) :=
 (mc R u0 u3).bind fun (r56_1, _) =>
 bif (bS r56_1 0) then
  some ((-1), ())
 else
 (jI R u1 r56_1).bind fun (r57_1, _) =>
 bif (bS r57_1 0) then
  some ((-1), ())
 else
 (me R u2 r57_1).bind fun (r58_1, _) =>
 bif (bS r58_1 0) then
  some ((-1), ())
 else
 some (r58_1, ())
noncomputable def pL (R : ax) (n : Nat) (u0 : Mem Dh) (u1 : Mem Rh) (u2 : Mem ByteArray) (u3 : Mem Tn) (u4 : List Df) (u5 : List ByteArray) (u6 : List Rl) : Option (Mem Dh × Mem Rh × Mem ByteArray × Mem Tn × Hd × Hd × Hd × Unit) :=
 (gW R u0 u1 u2 u3 u4).bind fun (r59_1, (r59b, (r59c, (r59d, (r59e, _))))) =>
 (fF R r59_1 r59b r59c r59d u5).bind fun (r60_1, (r60b, (r60c, (r60d, (r60e, _))))) =>
 (gX R r60_1 r60b r60c r60d u6).bind fun (r61_1, (r61b, (r61c, (r61d, (r61e, _))))) =>
 some (r61_1, (r61b, (r61c, (r61d, (r59e, (r60e, (r61e, ())))))))
noncomputable def zo (R : ax) (n : Nat) (u0 : List Df) (u1 : List ByteArray) (u2 : List Rl) (u3 : List Df) (u4 : List ByteArray) (u5 : List Rl) : Option (Bool × Unit) :=
 (mf R u0 u3).bind fun (r62_1, _) =>
 bif (!r62_1) then
  some (false, ())
 else
 (jJ R u1 u4).bind fun (r63_1, _) =>
 bif (!r63_1) then
  some (false, ())
 else
 (mg R u2 u5).bind fun (r64_1, _) =>
 bif (!r64_1) then
  some (false, ())
 else
 some (true, ())
noncomputable def iV (R : ax) (n : Nat) (u0 : Mem Dh) (u1 : Mem Rh) (u2 : Mem ByteArray) (u3 : Mem Tn) (u4 : Hd) (u5 : Hd) (u6 : Hd) (u7 : Int) : Option (Mem Dh × Mem Rh × Mem ByteArray × Mem Tn × Int × Unit) :=
 (ep R u0 u1 u2 u3 u4 u7).bind fun (r65_1, (r65b, (r65c, (r65d, (r65e, _))))) =>
 (dE R r65_1 r65b r65c r65d u5 r65e).bind fun (r66_1, (r66b, (r66c, (r66d, (r66e, _))))) =>
 (er R r66_1 r66b r66c r66d u6 r66e).bind fun (r67_1, (r67b, (r67c, (r67d, (r67e, _))))) =>
 some (r67_1, (r67b, (r67c, (r67d, (r67e, ())))))
noncomputable def uN (R : ax) (n : Nat) (u0 : List Df) (u1 : List ByteArray) (u2 : List Rl) (u3 : Int) : Option (Int × Unit) :=
 (jv R u0 u3).bind fun (r68_1, _) =>
 bif (bS r68_1 0) then
  some ((-1), ())
 else
 (ia R u1 r68_1).bind fun (r69_1, _) =>
 bif (bS r69_1 0) then
  some ((-1), ())
 else
 (jw R u2 r69_1).bind fun (r70_1, _) =>
 bif (bS r70_1 0) then
  some ((-1), ())
 else
 some (r70_1, ())
noncomputable def fQ (R : ax) (n : Nat) (u0 : List ByteArray) (u1 : ByteArray) : Option (Int × Unit) :=
 iter (P := (Int × Int × ByteArray × List ByteArray × Int × Unit) × Unit) (fun rec ((t8, (t7, (v1, (s0, (t4, _))))), _) =>
   bif (bS t8 t7) then
    ok (bQ t8 (len s0)) <|
    bif (seq v1 (List.getD s0 (Int.toNat t8) (bs []))) then
     some (t8, ())
    else
    rec (((aB .i64 t8 1), (t7, (v1, (s0, (t4, ()))))), ())
   else
   some ((-1), ())) n ((0, ((len u0), (u1, (u0, (0, ()))))), ())
noncomputable def fe (R : ax) (n : Nat) (u0 : List ByteArray) (u1 : ByteArray) : Option (Bool × Unit) :=
 (cD R u0 u1).bind fun (r35_1, _) =>
 some ((kG 0 r35_1), ())
noncomputable def oy (R : ax) (n : Nat) (u0 : List Df) (u1 : List ByteArray) (u2 : List Rl) : Option (List ByteArray × Unit) :=
 iter (P := (Int × Int × List Df × Unit × Unit × Unit × Unit) × List ByteArray × (List Df × List ByteArray × List Rl × Unit) × Unit) (fun rec ((t9, (t8, (t7, (_, (_, (_, _)))))), (o0, ((o1a, (o1b, (o1c, _))), _))) =>
   bif (bS t9 t8) then
    ok (bQ t9 (len t7)) <|
    ok (Di (o0 ++ [(List.getD t7 (Int.toNat t9) cg).1]) 16) <|
    rec (((aB .i64 t9 1), (t8, (t7, ((), ((), ((), ())))))), ((o0 ++ [(List.getD t7 (Int.toNat t9) cg).1]), ((o1a, (o1b, (o1c, ()))), ())))
   else
   ok (Di (o0 ++ o1b) 16) <|
   some ((o0 ++ o1b), ())) n ((0, ((len u0), (u0, ((), ((), ((), ())))))), ([], ((u0, (u1, (u2, ()))), ())))
noncomputable def j8 (R : ax) (n : Nat) (u0 : Mem Dh) (u1 : Mem Rh) (u2 : Mem ByteArray) (u3 : Mem Tn) (u4 : Hd) (u5 : Hd) (u6 : Hd) : Option (Mem Dh × Mem Rh × Mem ByteArray × Mem Tn × Hd × Hd × Hd × Unit) :=
 (dR R u0 u1 u2 u3 u4).bind fun (r84_1, (r84b, (r84c, (r84d, (r84e, _))))) =>
 ok (((bH r84c u5) && true) && true) <|
 (gK R (List.map (fun y => y) (au r84c u5))).bind fun (r85_1, _) =>
 (dS R r84_1 r84b r84c r84d u6).bind fun (r86_1, (r86b, (r86c, (r86d, (r86e, _))))) =>
 iter (P := (Int × Int × Hd × Unit × Unit × Unit) × (Hd × Hd × Hd × Unit) × (Unit × Unit × Unit × Unit) × Mem ByteArray × Mem Tn × Mem Rh × Mem Dh × Unit) (fun rec ((t21, (t20, (t19, (_, (_, _))))), ((o0a, (o0b, (o0c, _))), ((_, (_, (_, _))), (o900009, (o900073, (o900057, (o900059, _))))))) =>
   bif (bS t21 t20) then
    ok (bQ t21 ((t19.2.2 : Nat) : Int)) <|
    ok (dO o900059 t19.1 (t19.2.1 + (Int.toNat t21))) <|
    ok (((bH o900009 (List.getD (ak o900059 t19.1) (t19.2.1 + (Int.toNat t21)) ox).2.1) && true) && true) <|
    (gK R (List.map (fun y_1 => y_1) (au o900009 (List.getD (ak o900059 t19.1) (t19.2.1 + (Int.toNat t21)) ox).2.1))).bind fun (r85_2_1, _) =>
    ok (bQ t21 ((o0a.2.2 : Nat) : Int)) <|
    ok (dO o900059 o0a.1 (o0a.2.1 + (Int.toNat t21))) <|
    ok (((bH o900073 (List.getD (ak o900059 t19.1) (t19.2.1 + (Int.toNat t21)) ox).2.2.1.1) && true) && true) <|
    (cJ R (List.map (iy) (au o900073 (List.getD (ak o900059 t19.1) (t19.2.1 + (Int.toNat t21)) ox).2.2.1.1))).bind fun (r87_1, _) =>
    ok (bQ t21 ((o0a.2.2 : Nat) : Int)) <|
    ok (dO (eY o900059 (some (List.set (ak o900059 o0a.1) (o0a.2.1 + (Int.toNat t21)) ((List.getD (ak o900059 o0a.1) (o0a.2.1 + (Int.toNat t21)) ox).1, ((((List.length o900009) + 1), (0, (List.length r85_2_1))), (((List.getD (ak o900059 o0a.1) (o0a.2.1 + (Int.toNat t21)) ox).2.2.1.1, ()), ()))))) o0a.1) o0a.1 (o0a.2.1 + (Int.toNat t21))) <|
    rec (((aB .i64 t21 1), (t20, (t19, ((), ((), ()))))), ((o0a, (o0b, (o0c, ()))), (((), ((), ((), ()))), ((o900009 ++ [some r85_2_1]), ((o900073 ++ [some r87_1]), (o900057, ((eY (eY o900059 (some (List.set (ak o900059 o0a.1) (o0a.2.1 + (Int.toNat t21)) ((List.getD (ak o900059 o0a.1) (o0a.2.1 + (Int.toNat t21)) ox).1, ((((List.length o900009) + 1), (0, (List.length r85_2_1))), (((List.getD (ak o900059 o0a.1) (o0a.2.1 + (Int.toNat t21)) ox).2.2.1.1, ()), ()))))) o0a.1) (some (List.set (ak (eY o900059 (some (List.set (ak o900059 o0a.1) (o0a.2.1 + (Int.toNat t21)) ((List.getD (ak o900059 o0a.1) (o0a.2.1 + (Int.toNat t21)) ox).1, ((((List.length o900009) + 1), (0, (List.length r85_2_1))), (((List.getD (ak o900059 o0a.1) (o0a.2.1 + (Int.toNat t21)) ox).2.2.1.1, ()), ()))))) o0a.1) o0a.1) (o0a.2.1 + (Int.toNat t21)) ((List.getD (ak (eY o900059 (some (List.set (ak o900059 o0a.1) (o0a.2.1 + (Int.toNat t21)) ((List.getD (ak o900059 o0a.1) (o0a.2.1 + (Int.toNat t21)) ox).1, ((((List.length o900009) + 1), (0, (List.length r85_2_1))), (((List.getD (ak o900059 o0a.1) (o0a.2.1 + (Int.toNat t21)) ox).2.2.1.1, ()), ()))))) o0a.1) o0a.1) (o0a.2.1 + (Int.toNat t21)) ox).1, ((List.getD (ak (eY o900059 (some (List.set (ak o900059 o0a.1) (o0a.2.1 + (Int.toNat t21)) ((List.getD (ak o900059 o0a.1) (o0a.2.1 + (Int.toNat t21)) ox).1, ((((List.length o900009) + 1), (0, (List.length r85_2_1))), (((List.getD (ak o900059 o0a.1) (o0a.2.1 + (Int.toNat t21)) ox).2.2.1.1, ()), ()))))) o0a.1) o0a.1) (o0a.2.1 + (Int.toNat t21)) ox).2.1, (((((List.length o900073) + 1), (0, (List.length r87_1))), ()), ()))))) o0a.1), ())))))))
   else
   iter (P := (Int × Int × Hd × Unit × Unit × Unit) × (Hd × Hd × Hd × Unit) × (Unit × Unit × Unit × Unit) × Mem ByteArray × Mem Tn × Mem Rh × Mem Dh × Unit) (fun rec_1 ((t48, (t47, (t46, (_, (_, _))))), ((o0a_1, (o0b_1, (o0c_1, _))), ((_, (_, (_, _))), (o900009_1, (o900073_1, (o900057_1, (o900059_1, _))))))) =>
     bif (bS t48 t47) then
      ok (bQ t48 ((t46.2.2 : Nat) : Int)) <|
      ok (dO o900057_1 t46.1 (t46.2.1 + (Int.toNat t48))) <|
      ok (((bH o900073_1 (List.getD (ak o900057_1 t46.1) (t46.2.1 + (Int.toNat t48)) kT).2.1.1) && true) && true) <|
      (cJ R (List.map (iy) (au o900073_1 (List.getD (ak o900057_1 t46.1) (t46.2.1 + (Int.toNat t48)) kT).2.1.1))).bind fun (r87_2_1, _) =>
      ok (bQ t48 ((o0c_1.2.2 : Nat) : Int)) <|
      ok (dO o900057_1 o0c_1.1 (o0c_1.2.1 + (Int.toNat t48))) <|
      ok (((bH (o900073_1 ++ [some r87_2_1]) (List.getD (ak o900057_1 t46.1) (t46.2.1 + (Int.toNat t48)) kT).2.2.1.1) && true) && true) <|
      (cJ R (List.map (iy) (au (o900073_1 ++ [some r87_2_1]) (List.getD (ak o900057_1 t46.1) (t46.2.1 + (Int.toNat t48)) kT).2.2.1.1))).bind fun (r87_3_1, _) =>
      ok (bQ t48 ((o0c_1.2.2 : Nat) : Int)) <|
      ok (dO (eY o900057_1 (some (List.set (ak o900057_1 o0c_1.1) (o0c_1.2.1 + (Int.toNat t48)) ((List.getD (ak o900057_1 o0c_1.1) (o0c_1.2.1 + (Int.toNat t48)) kT).1, (((((List.length o900073_1) + 1), (0, (List.length r87_2_1))), ()), (((List.getD (ak o900057_1 o0c_1.1) (o0c_1.2.1 + (Int.toNat t48)) kT).2.2.1.1, ()), ()))))) o0c_1.1) o0c_1.1 (o0c_1.2.1 + (Int.toNat t48))) <|
      rec_1 (((aB .i64 t48 1), (t47, (t46, ((), ((), ()))))), ((o0a_1, (o0b_1, (o0c_1, ()))), (((), ((), ((), ()))), (o900009_1, (((o900073_1 ++ [some r87_2_1]) ++ [some r87_3_1]), ((eY (eY o900057_1 (some (List.set (ak o900057_1 o0c_1.1) (o0c_1.2.1 + (Int.toNat t48)) ((List.getD (ak o900057_1 o0c_1.1) (o0c_1.2.1 + (Int.toNat t48)) kT).1, (((((List.length o900073_1) + 1), (0, (List.length r87_2_1))), ()), (((List.getD (ak o900057_1 o0c_1.1) (o0c_1.2.1 + (Int.toNat t48)) kT).2.2.1.1, ()), ()))))) o0c_1.1) (some (List.set (ak (eY o900057_1 (some (List.set (ak o900057_1 o0c_1.1) (o0c_1.2.1 + (Int.toNat t48)) ((List.getD (ak o900057_1 o0c_1.1) (o0c_1.2.1 + (Int.toNat t48)) kT).1, (((((List.length o900073_1) + 1), (0, (List.length r87_2_1))), ()), (((List.getD (ak o900057_1 o0c_1.1) (o0c_1.2.1 + (Int.toNat t48)) kT).2.2.1.1, ()), ()))))) o0c_1.1) o0c_1.1) (o0c_1.2.1 + (Int.toNat t48)) ((List.getD (ak (eY o900057_1 (some (List.set (ak o900057_1 o0c_1.1) (o0c_1.2.1 + (Int.toNat t48)) ((List.getD (ak o900057_1 o0c_1.1) (o0c_1.2.1 + (Int.toNat t48)) kT).1, (((((List.length o900073_1) + 1), (0, (List.length r87_2_1))), ()), (((List.getD (ak o900057_1 o0c_1.1) (o0c_1.2.1 + (Int.toNat t48)) kT).2.2.1.1, ()), ()))))) o0c_1.1) o0c_1.1) (o0c_1.2.1 + (Int.toNat t48)) kT).1, (((List.getD (ak (eY o900057_1 (some (List.set (ak o900057_1 o0c_1.1) (o0c_1.2.1 + (Int.toNat t48)) ((List.getD (ak o900057_1 o0c_1.1) (o0c_1.2.1 + (Int.toNat t48)) kT).1, (((((List.length o900073_1) + 1), (0, (List.length r87_2_1))), ()), (((List.getD (ak o900057_1 o0c_1.1) (o0c_1.2.1 + (Int.toNat t48)) kT).2.2.1.1, ()), ()))))) o0c_1.1) o0c_1.1) (o0c_1.2.1 + (Int.toNat t48)) kT).2.1.1, ()), (((((List.length (o900073_1 ++ [some r87_2_1])) + 1), (0, (List.length r87_3_1))), ()), ()))))) o0c_1.1), (o900059_1, ())))))))
     else
     some (o900059_1, (o900057_1, (o900009_1, (o900073_1, (o0a_1, (o0b_1, (o0c_1, ())))))))) n ((0, (((o0c.2.2 : Nat) : Int), (o0c, ((), ((), ()))))), ((o0a, (o0b, (o0c, ()))), (((), ((), ((), ()))), (o900009, (o900073, (o900057, (o900059, ())))))))) n ((0, (((r84e.2.2 : Nat) : Int), (r84e, ((), ((), ()))))), ((r84e, ((((List.length r86c) + 1), (0, (List.length r85_1))), (r86e, ()))), (((), ((), ((), ()))), ((r86c ++ [some r85_1]), (r86d, (r86b, (r86_1, ())))))))
noncomputable def w9 (R : ax) (n : Nat) (u0 : List ByteArray) (u1 : ByteArray) : Option (Int × Unit) :=
 iter (P := (Int × List ByteArray × ByteArray × Int × Unit) × Unit) (fun rec ((i5, (l0, (s1, (t4, _)))), _) =>
   bif (bS i5 (len l0)) then
    ok (bQ i5 (len l0)) <|
    bif (seq (List.getD l0 (Int.toNat i5) (bs [])) s1) then
     some (i5, ())
    else
    rec (((aB .i64 i5 1), (l0, (s1, (t4, ())))), ())
   else
   some ((-1), ())) n ((0, (u0, (u1, (0, ())))), ())
noncomputable def uO (R : ax) (n : Nat) (u0 : List Df) (u1 : List ByteArray) (u2 : List Rl) : Option (Int × Unit) :=
 (oY R u0 u1 u2).bind fun (r88_1, _) =>
 iter (P := (Int × Unit × Int × Int × Unit) × (List Df × List ByteArray × List Rl × Unit) × Mem Bool × Unit) (fun rec ((i4, (_, (c3, (t2, _)))), ((o0a, (o0b, (o0c, _))), (o900004, _))) =>
   jb (P := (Bool × Unit × Int × Int × Int × Unit) × (List Df × List ByteArray × List Rl × Unit) × Mem Bool × Unit) (
     bif (bS i4 (len o0a)) then
      some (.inr (((c3 == 0), ((), (i4, (c3, (t2, ()))))), ((o0a, (o0b, (o0c, ()))), (o900004, ()))))
     else
     some (.inr ((false, ((), (i4, (c3, (t2, ()))))), ((o0a, (o0b, (o0c, ()))), (o900004, ()))))) fun ((t18, (_, (i4_1, (c3_1, (t2_1, _))))), ((o0a_1, (o0b_1, (o0c_1, _))), (o900004_1, _))) =>
   bif t18 then
    ok (bQ i4_1 (len o0a_1)) <|
    (mh R o0a_1 o0b_1 o0c_1 (List.getD o0a_1 (Int.toNat i4_1) cg).1 (List.getD o0a_1 (Int.toNat i4_1) cg).2.1 (List.getD o0a_1 (Int.toNat i4_1) cg).2.2.1.1).bind fun (r89_1, _) =>
    rec (((aB .i64 i4_1 1), ((), (r89_1, (t2_1, ())))), ((o0a_1, (o0b_1, (o0c_1, ()))), (o900004_1, ())))
   else
   iter (P := (Int × Unit × Int × Int × Unit) × (List Df × List ByteArray × List Rl × Unit) × Mem Bool × Unit) (fun rec_1 ((i5, (_, (c3_2, (t2_2, _)))), ((o0a_2, (o0b_2, (o0c_2, _))), (o900004_2, _))) =>
     jb (P := (Bool × Unit × Int × Int × Int × Unit) × (List Df × List ByteArray × List Rl × Unit) × Mem Bool × Unit) (
       bif (bS i5 (len o0c_2)) then
        some (.inr (((c3_2 == 0), ((), (i5, (c3_2, (t2_2, ()))))), ((o0a_2, (o0b_2, (o0c_2, ()))), (o900004_2, ()))))
       else
       some (.inr ((false, ((), (i5, (c3_2, (t2_2, ()))))), ((o0a_2, (o0b_2, (o0c_2, ()))), (o900004_2, ()))))) fun ((t36, (_, (i5_1, (c3_3, (t2_3, _))))), ((o0a_3, (o0b_3, (o0c_3, _))), (o900004_3, _))) =>
     bif t36 then
      ok (bQ i5_1 (len o0c_3)) <|
      (mj R o0a_3 o0b_3 o0c_3 (List.getD o0c_3 (Int.toNat i5_1) dA).1 (List.getD o0c_3 (Int.toNat i5_1) dA).2.1.1 (List.getD o0c_3 (Int.toNat i5_1) dA).2.2.1.1).bind fun (r90_1, _) =>
      rec_1 (((aB .i64 i5_1 1), ((), (r90_1, (t2_3, ())))), ((o0a_3, (o0b_3, (o0c_3, ()))), (o900004_3, ())))
     else
     bif (c3_3 != 0) then
      some (c3_3, ())
     else
     (iP R o900004_3 o0a_3 o0b_3 o0c_3).bind fun (r91_1, (r91b, _)) =>
     iter (P := (Int × List Hd × Unit × Int × Unit) × (List Df × List ByteArray × List Rl × Unit) × Mem Bool × Unit) (fun rec_2 ((i7, (table6, (_, (t2_4, _)))), ((o0a_4, (o0b_4, (o0c_4, _))), (o900004_4, _))) =>
       bif (bS i7 (len table6)) then
        ok (bQ i7 (len table6)) <|
        ok (bQ i7 (((List.getD table6 (Int.toNat i7) (0, (0, 0))).2.2 : Nat) : Int)) <|
        ok (dO o900004_4 (List.getD table6 (Int.toNat i7) (0, (0, 0))).1 ((List.getD table6 (Int.toNat i7) (0, (0, 0))).2.1 + (Int.toNat i7))) <|
        bif (List.getD (ak o900004_4 (List.getD table6 (Int.toNat i7) (0, (0, 0))).1) ((List.getD table6 (Int.toNat i7) (0, (0, 0))).2.1 + (Int.toNat i7)) false) then
         some (10, ())
        else
        rec_2 (((aB .i64 i7 1), (table6, ((), (t2_4, ())))), ((o0a_4, (o0b_4, (o0c_4, ()))), (o900004_4, ())))
       else
       jb (P := (Bool × Int × Unit) × Mem Bool × Unit) (
         bif ((len o0b_4) == 0) then
          some (.inr ((true, (t2_4, ())), (o900004_4, ())))
         else
         some (.inr ((((len o0c_4) == 0), (t2_4, ())), (o900004_4, ())))) fun ((t73, (t2_5, _)), (o900004_5, _)) =>
       bif t73 then
        some (11, ())
       else
       some (0, ())) n ((0, (r91b, ((), (t2_3, ())))), ((o0a_3, (o0b_3, (o0c_3, ()))), (r91_1, ())))) n ((0, ((), (c3_1, (t2_1, ())))), ((o0a_1, (o0b_1, (o0c_1, ()))), (o900004_1, ())))) n ((0, ((), (r88_1, (0, ())))), ((u0, (u1, (u2, ()))), ([], ())))
noncomputable def qP (R : ax) (n : Nat) (u0 : ByteArray) : Option (Bool × Unit) :=
 jb (P := (Bool × Unit) × Unit) (
   (oZ R u0).bind fun (r92_1, _) =>
   bif r92_1 then
    (qM R u0).bind fun (r93_1, _) =>
    some (.inr (((!r93_1), ()), ()))
   else
   some (.inr ((false, ()), ()))) fun ((t2, _), _) =>
 some (t2, ())
noncomputable def uP (R : ax) (n : Nat) (u0 : List Df) (u1 : List ByteArray) (u2 : List Rl) (u3 : ByteArray) : Option (Bool × Unit) :=
 jb (P := (Bool × Unit) × Unit) (
   (gz R u0 u1 u2 u3).bind fun (r74_1, _) =>
   bif (kG 0 r74_1) then
    some (.inr ((true, ()), ()))
   else
   (gy R u1 u3).bind fun (r40_1, _) =>
   some (.inr (((kG 0 r40_1), ()), ()))) fun ((t4, _), _) =>
 some (t4, ())
noncomputable def pM (R : ax) (n : Nat) (u0 : Mem Dh) (u1 : Mem Rh) (u2 : Mem ByteArray) (u3 : Mem Tn) (u4 : Hd) (u5 : Hd) (u6 : Hd) : Option (Mem Dh × Mem Rh × Mem ByteArray × Mem Tn × Hd × Hd × Hd × Unit) :=
 ok (((bH u2 u5) && true) && true) <|
 (nj R (List.map (fun y => y) (au u2 u5))).bind fun (r76_1, _) =>
 iter (P := (Int × Unit × Unit × Unit × Unit) × (Hd × Hd × Hd × Unit) × (Unit × Hd × Unit × Unit) × (Unit × Unit × Unit × Unit) × List Dh × Mem ByteArray × Mem Dh × Mem Rh × Mem Tn × Unit) (fun rec ((i4, (_, (_, (_, _)))), ((o0a, (o0b, (o0c, _))), ((_, (o1, (_, _))), ((_, (_, (_, _))), (o3, (o900009, (o900059, (o900057, (o900073, _))))))))) =>
   bif (bS i4 ((o0a.2.2 : Nat) : Int)) then
    ok (bQ i4 ((o0a.2.2 : Nat) : Int)) <|
    ok (dO o900059 o0a.1 (o0a.2.1 + (Int.toNat i4))) <|
    ok (bQ i4 ((o0a.2.2 : Nat) : Int)) <|
    ok (dO o900059 o0a.1 (o0a.2.1 + (Int.toNat i4))) <|
    ok (((bH o900009 (List.getD (ak o900059 o0a.1) (o0a.2.1 + (Int.toNat i4)) ox).2.1) && true) && true) <|
    (nj R (List.map (fun y_1 => y_1) (au o900009 (List.getD (ak o900059 o0a.1) (o0a.2.1 + (Int.toNat i4)) ox).2.1))).bind fun (r76_2_1, _) =>
    ok (bQ i4 ((o0a.2.2 : Nat) : Int)) <|
    ok (dO o900059 o0a.1 (o0a.2.1 + (Int.toNat i4))) <|
    ok (((bH o900073 (List.getD (ak o900059 o0a.1) (o0a.2.1 + (Int.toNat i4)) ox).2.2.1.1) && true) && true) <|
    (j7 R (List.map (iy) (au o900073 (List.getD (ak o900059 o0a.1) (o0a.2.1 + (Int.toNat i4)) ox).2.2.1.1))).bind fun (r94_1, _) =>
    ok (Di (o3 ++ [((List.getD (ak o900059 o0a.1) (o0a.2.1 + (Int.toNat i4)) ox).1, ((((List.length o900009) + 1), (0, (List.length r76_2_1))), (((((List.length o900073) + 1), (0, (List.length r94_1))), ()), ())))]) 64) <|
    rec (((aB .i64 i4 1), ((), ((), ((), ())))), ((o0a, (o0b, (o0c, ()))), (((), (o1, ((), ()))), (((), ((), ((), ()))), ((o3 ++ [((List.getD (ak o900059 o0a.1) (o0a.2.1 + (Int.toNat i4)) ox).1, ((((List.length o900009) + 1), (0, (List.length r76_2_1))), (((((List.length o900073) + 1), (0, (List.length r94_1))), ()), ())))]), ((o900009 ++ [some r76_2_1]), (o900059, (o900057, ((o900073 ++ [some r94_1]), ())))))))))
   else
   iter (P := (Int × Unit × Unit × Unit × Unit) × (Hd × Hd × Hd × Unit) × (Unit × Hd × Unit × Unit) × (Unit × Unit × Unit × Unit) × List Dh × List Rh × Mem ByteArray × Mem Dh × Mem Rh × Mem Tn × Unit) (fun rec_1 ((i5, (_, (_, (_, _)))), ((o0a_1, (o0b_1, (o0c_1, _))), ((_, (o1_1, (_, _))), ((_, (_, (_, _))), (o3_1, (o4, (o900009_1, (o900059_1, (o900057_1, (o900073_1, _)))))))))) =>
     bif (bS i5 ((o0c_1.2.2 : Nat) : Int)) then
      ok (bQ i5 ((o0c_1.2.2 : Nat) : Int)) <|
      ok (dO o900057_1 o0c_1.1 (o0c_1.2.1 + (Int.toNat i5))) <|
      ok (bQ i5 ((o0c_1.2.2 : Nat) : Int)) <|
      ok (dO o900057_1 o0c_1.1 (o0c_1.2.1 + (Int.toNat i5))) <|
      ok (((bH o900073_1 (List.getD (ak o900057_1 o0c_1.1) (o0c_1.2.1 + (Int.toNat i5)) kT).2.1.1) && true) && true) <|
      (j7 R (List.map (iy) (au o900073_1 (List.getD (ak o900057_1 o0c_1.1) (o0c_1.2.1 + (Int.toNat i5)) kT).2.1.1))).bind fun (r94_2_1, _) =>
      ok (bQ i5 ((o0c_1.2.2 : Nat) : Int)) <|
      ok (dO o900057_1 o0c_1.1 (o0c_1.2.1 + (Int.toNat i5))) <|
      ok (((bH o900073_1 (List.getD (ak o900057_1 o0c_1.1) (o0c_1.2.1 + (Int.toNat i5)) kT).2.2.1.1) && true) && true) <|
      (j7 R (List.map (iy) (au o900073_1 (List.getD (ak o900057_1 o0c_1.1) (o0c_1.2.1 + (Int.toNat i5)) kT).2.2.1.1))).bind fun (r94_3_1, _) =>
      ok (Di (o4 ++ [((List.getD (ak o900057_1 o0c_1.1) (o0c_1.2.1 + (Int.toNat i5)) kT).1, (((((List.length o900073_1) + 1), (0, (List.length r94_2_1))), ()), (((((List.length (o900073_1 ++ [some r94_2_1])) + 1), (0, (List.length r94_3_1))), ()), ())))]) 56) <|
      rec_1 (((aB .i64 i5 1), ((), ((), ((), ())))), ((o0a_1, (o0b_1, (o0c_1, ()))), (((), (o1_1, ((), ()))), (((), ((), ((), ()))), (o3_1, ((o4 ++ [((List.getD (ak o900057_1 o0c_1.1) (o0c_1.2.1 + (Int.toNat i5)) kT).1, (((((List.length o900073_1) + 1), (0, (List.length r94_2_1))), ()), (((((List.length (o900073_1 ++ [some r94_2_1])) + 1), (0, (List.length r94_3_1))), ()), ())))]), (o900009_1, (o900059_1, (o900057_1, (((o900073_1 ++ [some r94_2_1]) ++ [some r94_3_1]), ()))))))))))
     else
     some ((o900059_1 ++ [some o3_1]), ((o900057_1 ++ [some o4]), (o900009_1, (o900073_1, ((((List.length o900059_1) + 1), (0, (List.length o3_1))), (o1_1, ((((List.length o900057_1) + 1), (0, (List.length o4))), ())))))))) n ((0, ((), ((), ((), ())))), ((o0a, (o0b, (o0c, ()))), (((), (o1, ((), ()))), (((), ((), ((), ()))), (o3, ([], (o900009, (o900059, (o900057, (o900073, ()))))))))))) n ((0, ((), ((), ((), ())))), ((u4, (u5, (u6, ()))), (((), ((((List.length u2) + 1), (0, (List.length r76_1))), ((), ()))), (((), ((), ((), ()))), ([], ((u2 ++ [some r76_1]), (u0, (u1, (u3, ())))))))))
noncomputable def oz (R : ax) (n : Nat) (u0 : Mem Dh) (u1 : Mem Rh) (u2 : Mem ByteArray) (u3 : Mem Tn) (u4 : Hd) (u5 : ByteArray) (u6 : ByteArray) : Option (Mem Dh × Mem Rh × Mem ByteArray × Mem Tn × Unit) :=
 iter (P := (Int × Unit × ByteArray × ByteArray × Unit) × (Hd × Unit) × Mem Dh × Mem Rh × Mem ByteArray × Mem Tn × Unit) (fun rec ((i6, (_, (old1, (name2, _)))), ((o0, _), (o900059, (o900057, (o900009, (o900073, _)))))) =>
   bif (bS i6 ((o0.2.2 : Nat) : Int)) then
    jb (P := (Int × Unit × ByteArray × ByteArray × Unit) × (Hd × Unit) × Mem Tn × Mem Dh × Mem Rh × Mem ByteArray × Unit) (
      jb (P := (Bool × Unit × Int × ByteArray × ByteArray × Unit) × (Hd × Unit) × Mem Dh × Mem Rh × Mem ByteArray × Mem Tn × Unit) (
        ok (bQ i6 ((o0.2.2 : Nat) : Int)) <|
        ok (dO o900073 o0.1 (o0.2.1 + (Int.toNat i6))) <|
        bif ((List.getD (ak o900073 o0.1) (o0.2.1 + (Int.toNat i6)) (0, (0, ((bs []), ())))).1 == 2) then
         ok (bQ i6 ((o0.2.2 : Nat) : Int)) <|
         ok (dO o900073 o0.1 (o0.2.1 + (Int.toNat i6))) <|
         some (.inr (((seq (List.getD (ak o900073 o0.1) (o0.2.1 + (Int.toNat i6)) (0, (0, ((bs []), ())))).2.2.1 old1), ((), (i6, (name2, (old1, ()))))), ((o0, ()), (o900059, (o900057, (o900009, (o900073, ())))))))
        else
        some (.inr ((false, ((), (i6, (name2, (old1, ()))))), ((o0, ()), (o900059, (o900057, (o900009, (o900073, ())))))))) fun ((t30, (_, (i6_1, (name2_1, (old1_1, _))))), ((o0_1, _), (o900059_1, (o900057_1, (o900009_1, (o900073_1, _)))))) =>
      bif t30 then
       ok (bQ i6_1 ((o0_1.2.2 : Nat) : Int)) <|
       ok (dO o900073_1 o0_1.1 (o0_1.2.1 + (Int.toNat i6_1))) <|
       some (.inr ((i6_1, ((), (old1_1, (name2_1, ())))), ((o0_1, ()), ((eY o900073_1 (some (List.set (ak o900073_1 o0_1.1) (o0_1.2.1 + (Int.toNat i6_1)) ((List.getD (ak o900073_1 o0_1.1) (o0_1.2.1 + (Int.toNat i6_1)) (0, (0, ((bs []), ())))).1, ((List.getD (ak o900073_1 o0_1.1) (o0_1.2.1 + (Int.toNat i6_1)) (0, (0, ((bs []), ())))).2.1, (name2_1, ()))))) o0_1.1), (o900059_1, (o900057_1, (o900009_1, ())))))))
      else
      some (.inr ((i6_1, ((), (old1_1, (name2_1, ())))), ((o0_1, ()), (o900073_1, (o900059_1, (o900057_1, (o900009_1, ())))))))) fun ((i6_2, (_, (old1_2, (name2_2, _)))), ((o0_2, _), (o900073_2, (o900059_2, (o900057_2, (o900009_2, _)))))) =>
    rec (((aB .i64 i6_2 1), ((), (old1_2, (name2_2, ())))), ((o0_2, ()), (o900059_2, (o900057_2, (o900009_2, (o900073_2, ()))))))
   else
   some (o900059, (o900057, (o900009, (o900073, ()))))) n ((0, ((), (u5, (u6, ())))), ((u4, ()), (u0, (u1, (u2, (u3, ()))))))
noncomputable def pN (R : ax) (n : Nat) (u0 : List Df) (u1 : List ByteArray) (u2 : List Rl) : Option (Bool × Unit) :=
 iter (P := (Int × Int × List Df × Unit × Bool × Unit) × (List Df × List ByteArray × List Rl × Unit) × Unit) (fun rec ((t10, (t9, (t8, (_, (t2, _))))), ((o0a, (o0b, (o0c, _))), _)) =>
   bif (bS t10 t9) then
    ok (bQ t10 (len t8)) <|
    jb (P := (Bool × Int × Int × List Df × Unit × Bool × Unit) × (List Df × List ByteArray × List Rl × Unit) × Unit) (
      (jy R (List.getD t8 (Int.toNat t10) cg).2.2.1.1).bind fun (r95_1, _) =>
      bif (!r95_1) then
       some (.inr ((true, (t10, (t9, (t8, ((), (t2, ())))))), ((o0a, (o0b, (o0c, ()))), ())))
      else
      (c8 R (List.getD t8 (Int.toNat t10) cg).1).bind fun (r36_1, _) =>
      bif (!r36_1) then
       some (.inr ((true, (t10, (t9, (t8, ((), (t2, ())))))), ((o0a, (o0b, (o0c, ()))), ())))
      else
      (bf R (List.getD t8 (Int.toNat t10) cg).2.1).bind fun (r96_1, _) =>
      some (.inr ((r96_1, (t10, (t9, (t8, ((), (t2, ())))))), ((o0a, (o0b, (o0c, ()))), ())))) fun ((t28, (t10_1, (t9_1, (t8_1, (_, (t2_1, _)))))), ((o0a_1, (o0b_1, (o0c_1, _))), _)) =>
    bif t28 then
     some (false, ())
    else
    rec (((aB .i64 t10_1 1), (t9_1, (t8_1, ((), (t2_1, ()))))), ((o0a_1, (o0b_1, (o0c_1, ()))), ()))
   else
   iter (P := (Int × Int × List Rl × Unit × Bool × Unit) × (List Df × List ByteArray × List Rl × Unit) × Unit) (fun rec_1 ((t33, (t32, (t31, (_, (t2_2, _))))), ((o0a_2, (o0b_2, (o0c_2, _))), _)) =>
     bif (bS t33 t32) then
      ok (bQ t33 (len t31)) <|
      jb (P := (Bool × Int × Int × List Rl × Unit × Bool × Unit) × (List Df × List ByteArray × List Rl × Unit) × Unit) (
        (jy R (List.getD t31 (Int.toNat t33) dA).2.1.1).bind fun (r95_2_1, _) =>
        bif (!r95_2_1) then
         some (.inr ((true, (t33, (t32, (t31, ((), (t2_2, ())))))), ((o0a_2, (o0b_2, (o0c_2, ()))), ())))
        else
        (jy R (List.getD t31 (Int.toNat t33) dA).2.2.1.1).bind fun (r95_3_1, _) =>
        bif (!r95_3_1) then
         some (.inr ((true, (t33, (t32, (t31, ((), (t2_2, ())))))), ((o0a_2, (o0b_2, (o0c_2, ()))), ())))
        else
        (tE R (List.getD t31 (Int.toNat t33) dA).1 1 3).bind fun (r53_1, _) =>
        some (.inr (((!r53_1), (t33, (t32, (t31, ((), (t2_2, ())))))), ((o0a_2, (o0b_2, (o0c_2, ()))), ())))) fun ((t52, (t33_1, (t32_1, (t31_1, (_, (t2_3, _)))))), ((o0a_3, (o0b_3, (o0c_3, _))), _)) =>
      bif t52 then
       some (false, ())
      else
      rec_1 (((aB .i64 t33_1 1), (t32_1, (t31_1, ((), (t2_3, ()))))), ((o0a_3, (o0b_3, (o0c_3, ()))), ()))
     else
     (bg R o0b_2).bind fun (r96_2_1, _) =>
     some ((!r96_2_1), ())) n ((0, ((len o0c), (o0c, ((), (t2, ()))))), ((o0a, (o0b, (o0c, ()))), ()))) n ((0, ((len u0), (u0, ((), (false, ()))))), ((u0, (u1, (u2, ()))), ()))
noncomputable def sU (R : ax) (n : Nat) (u0 : List Df) (u1 : List ByteArray) (u2 : List Rl) : Option (Bool × Unit) :=
 jb (P := (Bool × Unit) × Unit) (
   bif (bS 12 (len u0)) then
    some (.inr ((true, ()), ()))
   else
   bif (bS 6 (len u1)) then
    some (.inr ((true, ()), ()))
   else
   bif (bS 12 (len u2)) then
    some (.inr ((true, ()), ()))
   else
   (aQ R u0).bind fun (r99_1, _) =>
   some (.inr ((r99_1, ()), ()))) fun ((t2, _), _) =>
 some (t2, ())
noncomputable def qQ (R : ax) (n : Nat) (u0 : List Df) (u1 : List ByteArray) (u2 : List Rl) : Option (Bool × Unit) :=
 jb (P := (Bool × Unit) × Unit) (
   (gI R u0 u1 u2).bind fun (r38_1, _) =>
   (rK R r38_1).bind fun (r101_1, _) =>
   bif r101_1 then
    some (.inr ((true, ()), ()))
   else
   (aP R u0).bind fun (r99_1, _) =>
   some (.inr ((r99_1, ()), ()))) fun ((t2, _), _) =>
 some (t2, ())
noncomputable def oA (R : ax) (n : Nat) (u0 : List Df) (u1 : List ByteArray) (u2 : List Rl) (u3 : ByteArray) (u4 : List ByteArray) (u5 : List Tn) : Option (Int × Unit) :=
 (bd R u4 u0 u1 u2).bind fun (r96_1, (r96b, (r96c, (r96d, _)))) =>
 bif r96_1 then
  some (7, ())
 else
 (jK R r96b r96c r96d u5 u4).bind fun (r104_1, _) =>
 some (r104_1, ())
noncomputable def oB (R : ax) (n : Nat) (u0 : List Df) (u1 : List ByteArray) (u2 : List Rl) (u3 : Int) (u4 : List Tn) (u5 : List Tn) : Option (Int × Unit) :=
 (bR R [u4, u5]).bind fun (r105_1, _) =>
 (jK R u0 u1 u2 r105_1 u1).bind fun (r104_1, _) =>
 some (r104_1, ())
noncomputable def sW (R : ax) (n : Nat) (u0 : List Df) (u1 : List ByteArray) (u2 : List Rl) : Option (Int × Unit) :=
 iter (P := (Int × Int × Unit × Int × Unit) × (List Df × List ByteArray × List Rl × Unit) × Unit) (fun rec ((t7, (t6, (_, (t2, _)))), ((o0a, (o0b, (o0c, _))), _)) =>
   bif (bS t7 t6) then
    (nF R o0a o0b o0c t7).bind fun (r106_1, _) =>
    ok (bQ t7 (len r106_1)) <|
    bif (List.getD r106_1 (Int.toNat t7) false) then
     some (t7, ())
    else
    rec (((aB .i64 t7 1), (t6, ((), (t2, ())))), ((o0a, (o0b, (o0c, ()))), ()))
   else
   some ((-1), ())) n ((0, ((len u0), ((), (0, ())))), ((u0, (u1, (u2, ()))), ()))
noncomputable def Og (R : ax) (n : Nat) (u0 : Int) (u1 : Int) (u2 : Int) : Option (Bool × Unit) :=
 jb (P := (Bool × Unit) × Unit) (
   bif (kG u1 u0) then
    some (.inr (((kG u0 u2), ()), ()))
   else
   some (.inr ((false, ()), ()))) fun ((t6, _), _) =>
 some (t6, ())
noncomputable def lA (R : ax) (n : Nat) (u0 : List ByteArray) : Option (List ByteArray × Unit) :=
 ok ((ba 0 (len u0) (len u0)) && (kG (len u0) (len u0))) <|
 some ((List.drop (Int.toNat 0) (List.take (Int.toNat (len u0)) u0)), ())
noncomputable def qR (R : ax) (n : Nat) (u0 : List Df) (u1 : Int) : Option (Int × Unit) :=
 bif (bS (mN .i64 u1 (len u0)) 0) then
  some ((-1), ())
 else
 iter (P := (Int × List Df × Int × Int × Unit) × Unit) (fun rec ((i5, (a0, (left1, (t4, _)))), _) =>
   bif (bS i5 (len a0)) then
    ok (bQ i5 (len a0)) <|
    (jL R (List.getD a0 (Int.toNat i5) cg).1 (List.getD a0 (Int.toNat i5) cg).2.1 (List.getD a0 (Int.toNat i5) cg).2.2.1.1 left1).bind fun (r108_1, _) =>
    bif (bS r108_1 0) then
     some ((-1), ())
    else
    rec (((aB .i64 i5 1), (a0, (r108_1, (t4, ())))), ())
   else
   some (left1, ())) n ((0, (u0, ((mN .i64 u1 (len u0)), (0, ())))), ())
noncomputable def sX (R : ax) (n : Nat) (u0 : List ByteArray) (u1 : Int) : Option (Int × Unit) :=
 bif (bS (mN .i64 u1 (len u0)) 0) then
  some ((-1), ())
 else
 iter (P := (Int × List ByteArray × Int × Int × Unit) × Unit) (fun rec ((i5, (a0, (left1, (t4, _)))), _) =>
   bif (bS i5 (len a0)) then
    ok (bQ i5 (len a0)) <|
    bif (bS (mN .i64 left1 (cW (List.getD a0 (Int.toNat i5) (bs [])))) 0) then
     some ((-1), ())
    else
    rec (((aB .i64 i5 1), (a0, ((mN .i64 left1 (cW (List.getD a0 (Int.toNat i5) (bs [])))), (t4, ())))), ())
   else
   some (left1, ())) n ((0, (u0, ((mN .i64 u1 (len u0)), (0, ())))), ())
noncomputable def qS (R : ax) (n : Nat) (u0 : List Rl) (u1 : Int) : Option (Int × Unit) :=
 bif (bS (mN .i64 u1 (len u0)) 0) then
  some ((-1), ())
 else
 iter (P := (Int × List Rl × Int × Int × Unit) × Unit) (fun rec ((i5, (a0, (left1, (t4, _)))), _) =>
   bif (bS i5 (len a0)) then
    ok (bQ i5 (len a0)) <|
    (jM R (List.getD a0 (Int.toNat i5) dA).1 (List.getD a0 (Int.toNat i5) dA).2.1.1 (List.getD a0 (Int.toNat i5) dA).2.2.1.1 left1).bind fun (r109_1, _) =>
    bif (bS r109_1 0) then
     some ((-1), ())
    else
    rec (((aB .i64 i5 1), (a0, (r109_1, (t4, ())))), ())
   else
   some (left1, ())) n ((0, (u0, ((mN .i64 u1 (len u0)), (0, ())))), ())
noncomputable def kX (R : ax) (n : Nat) (u0 : Mem Dh) (u1 : Mem Rh) (u2 : Mem ByteArray) (u3 : Mem Tn) (u4 : List Df) : Option (Mem Dh × Mem Rh × Mem ByteArray × Mem Tn × Hd × Unit) :=
 ok (An (len u4) (len u4) 64) <|
 iter (P := (Int × List Df × Unit × Unit × Unit) × List Dh × Mem Dh × Mem Rh × Mem ByteArray × Mem Tn × Unit) (fun rec ((i4, (a0, (_, (_, _)))), (o0, (o900059, (o900057, (o900009, (o900073, _)))))) =>
   bif (bS i4 (len a0)) then
    ok (bQ i4 (len a0)) <|
    (iu R o900059 o900057 o900009 o900073 (List.getD a0 (Int.toNat i4) cg).1 (List.getD a0 (Int.toNat i4) cg).2.1 (List.getD a0 (Int.toNat i4) cg).2.2.1.1).bind fun (r110_1, (r110b, (r110c, (r110d, (r110e, (r110f, (x, _))))))) =>
    ok (bQ i4 (len o0)) <|
    rec (((aB .i64 i4 1), (a0, ((), ((), ())))), ((List.set o0 (Int.toNat i4) (r110e, (r110f, ((x, ()), ())))), (r110_1, (r110b, (r110c, (r110d, ()))))))
   else
   some ((o900059 ++ [some o0]), (o900057, (o900009, (o900073, ((((List.length o900059) + 1), (0, (List.length o0))), ())))))) n ((0, (u4, ((), ((), ())))), ((List.replicate (Int.toNat (len u4)) ox), (u0, (u1, (u2, (u3, ()))))))
noncomputable def mw (R : ax) (n : Nat) (u0 : Mem Dh) (u1 : Mem Rh) (u2 : Mem ByteArray) (u3 : Mem Tn) (u4 : List ByteArray) : Option (Mem Dh × Mem Rh × Mem ByteArray × Mem Tn × Hd × Unit) :=
 ok (An (len u4) (len u4) 16) <|
 iter (P := (Int × List ByteArray × Unit × Unit × Unit) × List ByteArray × Mem Dh × Mem Rh × Mem ByteArray × Mem Tn × Unit) (fun rec ((i4, (a0, (_, (_, _)))), (o0, (o900059, (o900057, (o900009, (o900073, _)))))) =>
   bif (bS i4 (len a0)) then
    ok (bQ i4 (len a0)) <|
    ok (bQ i4 (len o0)) <|
    rec (((aB .i64 i4 1), (a0, ((), ((), ())))), ((List.set o0 (Int.toNat i4) (List.getD a0 (Int.toNat i4) (bs []))), (o900059, (o900057, (o900009, (o900073, ()))))))
   else
   some (o900059, (o900057, ((o900009 ++ [some o0]), (o900073, ((((List.length o900009) + 1), (0, (List.length o0))), ())))))) n ((0, (u4, ((), ((), ())))), ((List.replicate (Int.toNat (len u4)) (bs [])), (u0, (u1, (u2, (u3, ()))))))
noncomputable def kY (R : ax) (n : Nat) (u0 : Mem Dh) (u1 : Mem Rh) (u2 : Mem ByteArray) (u3 : Mem Tn) (u4 : List Rl) : Option (Mem Dh × Mem Rh × Mem ByteArray × Mem Tn × Hd × Unit) :=
 ok (An (len u4) (len u4) 56) <|
 iter (P := (Int × List Rl × Unit × Unit × Unit) × List Rh × Mem Dh × Mem Rh × Mem ByteArray × Mem Tn × Unit) (fun rec ((i4, (a0, (_, (_, _)))), (o0, (o900059, (o900057, (o900009, (o900073, _)))))) =>
   bif (bS i4 (len a0)) then
    ok (bQ i4 (len a0)) <|
    (iv R o900059 o900057 o900009 o900073 (List.getD a0 (Int.toNat i4) dA).1 (List.getD a0 (Int.toNat i4) dA).2.1.1 (List.getD a0 (Int.toNat i4) dA).2.2.1.1).bind fun (r111_1, (r111b, (r111c, (r111d, (r111e, (r111f, (x, _))))))) =>
    ok (bQ i4 (len o0)) <|
    rec (((aB .i64 i4 1), (a0, ((), ((), ())))), ((List.set o0 (Int.toNat i4) (r111e, ((r111f, ()), ((x, ()), ())))), (r111_1, (r111b, (r111c, (r111d, ()))))))
   else
   some (o900059, ((o900057 ++ [some o0]), (o900009, (o900073, ((((List.length o900057) + 1), (0, (List.length o0))), ())))))) n ((0, (u4, ((), ((), ())))), ((List.replicate (Int.toNat (len u4)) kT), (u0, (u1, (u2, (u3, ()))))))
noncomputable def qT (R : ax) (n : Nat) (u0 : List Df) (u1 : List Df) : Option (Bool × Unit) :=
 bif ((len u0) != (len u1)) then
  some (false, ())
 else
 iter (P := (Int × List Df × List Df × Bool × Unit) × Unit) (fun rec ((i5, (a0, (b1, (t4, _)))), _) =>
   bif (bS i5 (len a0)) then
    ok (bQ i5 (len a0)) <|
    ok (bQ i5 (len b1)) <|
    (jN R (List.getD a0 (Int.toNat i5) cg).1 (List.getD a0 (Int.toNat i5) cg).2.1 (List.getD a0 (Int.toNat i5) cg).2.2.1.1 (List.getD b1 (Int.toNat i5) cg).1 (List.getD b1 (Int.toNat i5) cg).2.1 (List.getD b1 (Int.toNat i5) cg).2.2.1.1).bind fun (r112_1, _) =>
    bif (!r112_1) then
     some (false, ())
    else
    rec (((aB .i64 i5 1), (a0, (b1, (t4, ())))), ())
   else
   some (true, ())) n ((0, (u0, (u1, (false, ())))), ())
noncomputable def sY (R : ax) (n : Nat) (u0 : List ByteArray) (u1 : List ByteArray) : Option (Bool × Unit) :=
 bif ((len u0) != (len u1)) then
  some (false, ())
 else
 iter (P := (Int × List ByteArray × List ByteArray × Bool × Unit) × Unit) (fun rec ((i5, (a0, (b1, (t4, _)))), _) =>
   bif (bS i5 (len a0)) then
    ok (bQ i5 (len a0)) <|
    ok (bQ i5 (len b1)) <|
    bif (!(seq (List.getD a0 (Int.toNat i5) (bs [])) (List.getD b1 (Int.toNat i5) (bs [])))) then
     some (false, ())
    else
    rec (((aB .i64 i5 1), (a0, (b1, (t4, ())))), ())
   else
   some (true, ())) n ((0, (u0, (u1, (false, ())))), ())
noncomputable def qU (R : ax) (n : Nat) (u0 : List Rl) (u1 : List Rl) : Option (Bool × Unit) :=
 bif ((len u0) != (len u1)) then
  some (false, ())
 else
 iter (P := (Int × List Rl × List Rl × Bool × Unit) × Unit) (fun rec ((i5, (a0, (b1, (t4, _)))), _) =>
   bif (bS i5 (len a0)) then
    ok (bQ i5 (len a0)) <|
    ok (bQ i5 (len b1)) <|
    (jO R (List.getD a0 (Int.toNat i5) dA).1 (List.getD a0 (Int.toNat i5) dA).2.1.1 (List.getD a0 (Int.toNat i5) dA).2.2.1.1 (List.getD b1 (Int.toNat i5) dA).1 (List.getD b1 (Int.toNat i5) dA).2.1.1 (List.getD b1 (Int.toNat i5) dA).2.2.1.1).bind fun (r113_1, _) =>
    bif (!r113_1) then
     some (false, ())
    else
    rec (((aB .i64 i5 1), (a0, (b1, (t4, ())))), ())
   else
   some (true, ())) n ((0, (u0, (u1, (false, ())))), ())
noncomputable def jj (R : ax) (n : Nat) (u0 : Mem Dh) (u1 : Mem Rh) (u2 : Mem ByteArray) (u3 : Mem Tn) (u4 : Hd) (u5 : Int) : Option (Mem Dh × Mem Rh × Mem ByteArray × Mem Tn × Int × Unit) :=
 iter (P := (Int × Hd × Int × Int × Unit) × Mem Dh × Mem Rh × Mem ByteArray × Mem Tn × Unit) (fun rec ((i5, (a0, (k1, (t4, _)))), (o900059, (o900057, (o900009, (o900073, _))))) =>
   bif (bS i5 ((a0.2.2 : Nat) : Int)) then
    (eQ R k1).bind fun (r114_1, _) =>
    ok (bQ i5 ((a0.2.2 : Nat) : Int)) <|
    ok (dO o900059 a0.1 (a0.2.1 + (Int.toNat i5))) <|
    ok (bQ i5 ((a0.2.2 : Nat) : Int)) <|
    ok (dO (eY o900059 (some (List.set (ak o900059 a0.1) (a0.2.1 + (Int.toNat i5)) (r114_1, ((List.getD (ak o900059 a0.1) (a0.2.1 + (Int.toNat i5)) ox).2.1, (((List.getD (ak o900059 a0.1) (a0.2.1 + (Int.toNat i5)) ox).2.2.1.1, ()), ()))))) a0.1) a0.1 (a0.2.1 + (Int.toNat i5))) <|
    (dE R (eY o900059 (some (List.set (ak o900059 a0.1) (a0.2.1 + (Int.toNat i5)) (r114_1, ((List.getD (ak o900059 a0.1) (a0.2.1 + (Int.toNat i5)) ox).2.1, (((List.getD (ak o900059 a0.1) (a0.2.1 + (Int.toNat i5)) ox).2.2.1.1, ()), ()))))) a0.1) o900057 o900009 o900073 (List.getD (ak (eY o900059 (some (List.set (ak o900059 a0.1) (a0.2.1 + (Int.toNat i5)) (r114_1, ((List.getD (ak o900059 a0.1) (a0.2.1 + (Int.toNat i5)) ox).2.1, (((List.getD (ak o900059 a0.1) (a0.2.1 + (Int.toNat i5)) ox).2.2.1.1, ()), ()))))) a0.1) a0.1) (a0.2.1 + (Int.toNat i5)) ox).2.1 (aB .i64 k1 1)).bind fun (r66_1, (r66b, (r66c, (r66d, (r66e, _))))) =>
    ok (bQ i5 ((a0.2.2 : Nat) : Int)) <|
    ok (dO r66_1 a0.1 (a0.2.1 + (Int.toNat i5))) <|
    (cv R r66_1 r66b r66c r66d (List.getD (ak r66_1 a0.1) (a0.2.1 + (Int.toNat i5)) ox).2.2.1.1 r66e).bind fun (r115_1, (r115b, (r115c, (r115d, (r115e, _))))) =>
    rec (((aB .i64 i5 1), (a0, (r115e, (t4, ())))), (r115_1, (r115b, (r115c, (r115d, ())))))
   else
   some (o900059, (o900057, (o900009, (o900073, (k1, ())))))) n ((0, (u4, (u5, (0, ())))), (u0, (u1, (u2, (u3, ())))))
noncomputable def ke (R : ax) (n : Nat) (u0 : Mem Dh) (u1 : Mem Rh) (u2 : Mem ByteArray) (u3 : Mem Tn) (u4 : Hd) (u5 : Int) : Option (Mem Dh × Mem Rh × Mem ByteArray × Mem Tn × Int × Unit) :=
 iter (P := (Int × Hd × Int × Int × Unit) × Mem Dh × Mem Rh × Mem ByteArray × Mem Tn × Unit) (fun rec ((i5, (a0, (k1, (t4, _)))), (o900059, (o900057, (o900009, (o900073, _))))) =>
   bif (bS i5 ((a0.2.2 : Nat) : Int)) then
    (eQ R k1).bind fun (r114_1, _) =>
    ok (bQ i5 ((a0.2.2 : Nat) : Int)) <|
    ok (dO o900009 a0.1 (a0.2.1 + (Int.toNat i5))) <|
    rec (((aB .i64 i5 1), (a0, ((aB .i64 k1 1), (t4, ())))), (o900059, (o900057, ((eY o900009 (some (List.set (ak o900009 a0.1) (a0.2.1 + (Int.toNat i5)) r114_1)) a0.1), (o900073, ())))))
   else
   some (o900059, (o900057, (o900009, (o900073, (k1, ())))))) n ((0, (u4, (u5, (0, ())))), (u0, (u1, (u2, (u3, ())))))
noncomputable def jk (R : ax) (n : Nat) (u0 : Mem Dh) (u1 : Mem Rh) (u2 : Mem ByteArray) (u3 : Mem Tn) (u4 : Hd) (u5 : Int) : Option (Mem Dh × Mem Rh × Mem ByteArray × Mem Tn × Int × Unit) :=
 iter (P := (Int × Hd × Int × Int × Unit) × Mem Dh × Mem Rh × Mem ByteArray × Mem Tn × Unit) (fun rec ((i5, (a0, (k1, (t4, _)))), (o900059, (o900057, (o900009, (o900073, _))))) =>
   bif (bS i5 ((a0.2.2 : Nat) : Int)) then
    ok (bQ i5 ((a0.2.2 : Nat) : Int)) <|
    ok (dO o900057 a0.1 (a0.2.1 + (Int.toNat i5))) <|
    ok (bQ i5 ((a0.2.2 : Nat) : Int)) <|
    ok (dO (eY o900057 (some (List.set (ak o900057 a0.1) (a0.2.1 + (Int.toNat i5)) (k1, (((List.getD (ak o900057 a0.1) (a0.2.1 + (Int.toNat i5)) kT).2.1.1, ()), (((List.getD (ak o900057 a0.1) (a0.2.1 + (Int.toNat i5)) kT).2.2.1.1, ()), ()))))) a0.1) a0.1 (a0.2.1 + (Int.toNat i5))) <|
    (cv R o900059 (eY o900057 (some (List.set (ak o900057 a0.1) (a0.2.1 + (Int.toNat i5)) (k1, (((List.getD (ak o900057 a0.1) (a0.2.1 + (Int.toNat i5)) kT).2.1.1, ()), (((List.getD (ak o900057 a0.1) (a0.2.1 + (Int.toNat i5)) kT).2.2.1.1, ()), ()))))) a0.1) o900009 o900073 (List.getD (ak (eY o900057 (some (List.set (ak o900057 a0.1) (a0.2.1 + (Int.toNat i5)) (k1, (((List.getD (ak o900057 a0.1) (a0.2.1 + (Int.toNat i5)) kT).2.1.1, ()), (((List.getD (ak o900057 a0.1) (a0.2.1 + (Int.toNat i5)) kT).2.2.1.1, ()), ()))))) a0.1) a0.1) (a0.2.1 + (Int.toNat i5)) kT).2.1.1 (aB .i64 k1 1)).bind fun (r115_1, (r115b, (r115c, (r115d, (r115e, _))))) =>
    ok (bQ i5 ((a0.2.2 : Nat) : Int)) <|
    ok (dO r115b a0.1 (a0.2.1 + (Int.toNat i5))) <|
    (cv R r115_1 r115b r115c r115d (List.getD (ak r115b a0.1) (a0.2.1 + (Int.toNat i5)) kT).2.2.1.1 r115e).bind fun (r115_2_1, (r115_2b, (r115_2c, (r115_2d, (r115_2e, _))))) =>
    rec (((aB .i64 i5 1), (a0, (r115_2e, (t4, ())))), (r115_2_1, (r115_2b, (r115_2c, (r115_2d, ())))))
   else
   some (o900059, (o900057, (o900009, (o900073, (k1, ())))))) n ((0, (u4, (u5, (0, ())))), (u0, (u1, (u2, (u3, ())))))
noncomputable def oC (R : ax) (n : Nat) (u0 : List Df) (u1 : Int) : Option (Int × Unit) :=
 iter (P := (Int × List Df × Int × Int × Unit) × Unit) (fun rec ((i5, (a0, (k1, (t4, _)))), _) =>
   bif (bS i5 (len a0)) then
    ok (bQ i5 (len a0)) <|
    (eQ R k1).bind fun (r114_1, _) =>
    bif (!(seq (List.getD a0 (Int.toNat i5) cg).1 r114_1)) then
     some ((-1), ())
    else
    ok (bQ i5 (len a0)) <|
    (ia R (List.getD a0 (Int.toNat i5) cg).2.1 (aB .i64 k1 1)).bind fun (r69_1, _) =>
    bif (bS r69_1 0) then
     some ((-1), ())
    else
    ok (bQ i5 (len a0)) <|
    (eS R (List.getD a0 (Int.toNat i5) cg).2.2.1.1 r69_1).bind fun (r116_1, _) =>
    bif (bS r116_1 0) then
     some ((-1), ())
    else
    rec (((aB .i64 i5 1), (a0, (r116_1, (t4, ())))), ())
   else
   some (k1, ())) n ((0, (u0, (u1, (0, ())))), ())
noncomputable def pO (R : ax) (n : Nat) (u0 : List ByteArray) (u1 : Int) : Option (Int × Unit) :=
 iter (P := (Int × List ByteArray × Int × Int × Unit) × Unit) (fun rec ((i5, (a0, (k1, (t4, _)))), _) =>
   bif (bS i5 (len a0)) then
    ok (bQ i5 (len a0)) <|
    (eQ R k1).bind fun (r114_1, _) =>
    bif (!(seq (List.getD a0 (Int.toNat i5) (bs [])) r114_1)) then
     some ((-1), ())
    else
    rec (((aB .i64 i5 1), (a0, ((aB .i64 k1 1), (t4, ())))), ())
   else
   some (k1, ())) n ((0, (u0, (u1, (0, ())))), ())
noncomputable def oD (R : ax) (n : Nat) (u0 : List Rl) (u1 : Int) : Option (Int × Unit) :=
 iter (P := (Int × List Rl × Int × Int × Unit) × Unit) (fun rec ((i5, (a0, (k1, (t4, _)))), _) =>
   bif (bS i5 (len a0)) then
    ok (bQ i5 (len a0)) <|
    bif ((List.getD a0 (Int.toNat i5) dA).1 != k1) then
     some ((-1), ())
    else
    ok (bQ i5 (len a0)) <|
    (eS R (List.getD a0 (Int.toNat i5) dA).2.1.1 (aB .i64 k1 1)).bind fun (r116_1, _) =>
    bif (bS r116_1 0) then
     some ((-1), ())
    else
    ok (bQ i5 (len a0)) <|
    (eS R (List.getD a0 (Int.toNat i5) dA).2.2.1.1 r116_1).bind fun (r116_2_1, _) =>
    bif (bS r116_2_1 0) then
     some ((-1), ())
    else
    rec (((aB .i64 i5 1), (a0, (r116_2_1, (t4, ())))), ())
   else
   some (k1, ())) n ((0, (u0, (u1, (0, ())))), ())
noncomputable def qV (R : ax) (n : Nat) (u0 : List Df) (u1 : List ByteArray) (u2 : List Rl) (u3 : ByteArray) : Option (Int × Unit) :=
 (aT R u0 u3).bind fun (r117_1, (r117b, _)) =>
 some (r117_1, ())
noncomputable def zp (R : ax) (n : Nat) (u0 : List Df) (u1 : List ByteArray) (u2 : List Rl) (u3 : ByteArray) : Option (Int × Unit) :=
 iter (P := (Int × Unit × ByteArray × Int × Unit) × (List Df × List ByteArray × List Rl × Unit) × Unit) (fun rec ((i5, (_, (name1, (t4, _)))), ((o0a, (o0b, (o0c, _))), _)) =>
   bif (bS i5 (len o0a)) then
    ok (bQ i5 (len o0a)) <|
    bif (seq (List.getD o0a (Int.toNat i5) cg).1 name1) then
     some (i5, ())
    else
    rec (((aB .i64 i5 1), ((), (name1, (t4, ())))), ((o0a, (o0b, (o0c, ()))), ()))
   else
   some ((-1), ())) n ((0, ((), (u3, (0, ())))), ((u0, (u1, (u2, ()))), ()))
noncomputable def xa (R : ax) (n : Nat) (u0 : List ByteArray) : Option (List ByteArray × Unit) :=
 iter (P := (Int × List ByteArray × Unit × Unit × Unit) × List ByteArray × Unit) (fun rec ((i4, (l0, (_, (_, _)))), (o0, _)) =>
   bif (bS i4 (len l0)) then
    ok (bQ i4 (len l0)) <|
    ok (Di (o0 ++ [(List.getD l0 (Int.toNat i4) (bs []))]) 16) <|
    rec (((aB .i64 i4 1), (l0, ((), ((), ())))), ((o0 ++ [(List.getD l0 (Int.toNat i4) (bs []))]), ()))
   else
   some (o0, ())) n ((0, (u0, ((), ((), ())))), ([], ()))
noncomputable def zq (R : ax) (n : Nat) (u0 : List Tn) : Option (Bool × Unit) :=
 bif (bS 100 (len u0)) then
  some (false, ())
 else
 iter (P := (Int × Unit × Int × Bool × Unit) × (List Tn × Unit) × Unit) (fun rec ((i4, (_, (depth3, (t2, _)))), ((o0, _), _)) =>
   bif (bS i4 (len o0)) then
    ok (bQ i4 (len o0)) <|
    (nk R (List.getD o0 (Int.toNat i4) (0, (0, ((bs []), ())))).1 (List.getD o0 (Int.toNat i4) (0, (0, ((bs []), ())))).2.1 (List.getD o0 (Int.toNat i4) (0, (0, ((bs []), ())))).2.2.1).bind fun (r123_1, _) =>
    jb (P := (Bool × Int × Int × Int × Unit × Bool × Unit) × (List Tn × Unit) × Unit) (
      bif (bS r123_1 0) then
       some (.inr ((true, (depth3, (r123_1, (i4, ((), (t2, ())))))), ((o0, ()), ())))
      else
      some (.inr (((bS depth3 r123_1), (depth3, (r123_1, (i4, ((), (t2, ())))))), ((o0, ()), ())))) fun ((t29, (depth3_1, (k5, (i4_1, (_, (t2_1, _)))))), ((o0_1, _), _)) =>
    bif t29 then
     some (false, ())
    else
    rec (((aB .i64 i4_1 1), ((), ((aB .i64 (mN .i64 depth3_1 k5) 1), (t2_1, ())))), ((o0_1, ()), ()))
   else
   some ((depth3 == 1), ())) n ((0, ((), (0, (false, ())))), ((u0, ()), ()))
noncomputable def zr (R : ax) (n : Nat) (u0 : ByteArray) : Option (Bool × Unit) :=
 iter (P := (Int × Int × ByteArray × Bool × Unit) × Unit) (fun rec ((t6, (t5, (s0, (t2, _)))), _) =>
   bif (bS t6 t5) then
    jb (P := (Bool × Int × Int × ByteArray × Bool × Unit) × Unit) (
      ok (bQ t6 (cW s0)) <|
      (lx R (bt s0 t6)).bind fun (r127_1, _) =>
      bif (!r127_1) then
       ok (bQ t6 (cW s0)) <|
       (o7 R (bt s0 t6)).bind fun (r128_1, _) =>
       some (.inr (((!r128_1), (t6, (t5, (s0, (t2, ()))))), ()))
      else
      some (.inr ((false, (t6, (t5, (s0, (t2, ()))))), ()))) fun ((t20, (t6_1, (t5_1, (s0_1, (t2_1, _))))), _) =>
    bif t20 then
     some (false, ())
    else
    rec (((aB .i64 t6_1 1), (t5_1, (s0_1, (t2_1, ())))), ())
   else
   jb (P := (Bool × Unit) × Unit) (
     (tE R (cW s0) 1 8).bind fun (r53_1, _) =>
     bif r53_1 then
      ok (bQ 0 (cW s0)) <|
      (lx R (bt s0 0)).bind fun (r127_2_1, _) =>
      some (.inr ((r127_2_1, ()), ()))
     else
     some (.inr ((false, ()), ()))) fun ((t2_2, _), _) =>
   some (t2_2, ())) n ((0, ((cW u0), (u0, (false, ())))), ())
noncomputable def gi (R : ax) (n : Nat) (u0 : Mem Dh) (u1 : Mem Rh) (u2 : Mem ByteArray) (u3 : Mem Tn) (u4 : Hd) : Option (Mem Dh × Mem Rh × Mem ByteArray × Mem Tn × Hd × Unit) :=
 (bJ R u0 u1 u2 u3 u4).bind fun (r130_1, (r130b, (r130c, (r130d, (r130e, _))))) =>
 (bO R (r130_1 ++ [some r130e]) r130b r130c r130d (((List.length r130_1) + 1), (0, (List.length r130e)))).bind fun (r129_1, (r129b, (r129c, (r129d, (r129e, _))))) =>
 some (r129_1, (r129b, (r129c, (r129d, (r129e, ())))))
noncomputable def oE (R : ax) (n : Nat) (u0 : List ByteArray) : Option (List ByteArray × Unit) :=
 (dK R u0).bind fun (r131_1, _) =>
 (cQ R r131_1).bind fun (r54_1, _) =>
 some (r54_1, ())
noncomputable def gj (R : ax) (n : Nat) (u0 : Mem Dh) (u1 : Mem Rh) (u2 : Mem ByteArray) (u3 : Mem Tn) (u4 : Hd) : Option (Mem Dh × Mem Rh × Mem ByteArray × Mem Tn × Hd × Unit) :=
 (bK R u0 u1 u2 u3 u4).bind fun (r133_1, (r133b, (r133c, (r133d, (r133e, _))))) =>
 (bP R r133_1 (r133b ++ [some r133e]) r133c r133d (((List.length r133b) + 1), (0, (List.length r133e)))).bind fun (r132_1, (r132b, (r132c, (r132d, (r132e, _))))) =>
 some (r132_1, (r132b, (r132c, (r132d, (r132e, ())))))
noncomputable def iz (R : ax) (n : Nat) (u0 : List Tn) : Option (List Tn × Unit) :=
 (bV R u0).bind fun (r135_1, _) =>
 (bX R r135_1).bind fun (r134_1, _) =>
 some (r134_1, ())
noncomputable def uQ (R : ax) (n : Nat) (u0 : List Df) (u1 : List ByteArray) (u2 : List Rl) : Option (Int × Unit) :=
 (nG R u0 u1 u2).bind fun (r136_1, _) =>
 bif (!r136_1) then
  some (4, ())
 else
 jb (P := (Bool × Unit × Int × Unit) × (List Df × List ByteArray × List Rl × Unit) × Unit) (
   bif (bS 12 (len u0)) then
    some (.inr ((true, ((), (0, ()))), ((u0, (u1, (u2, ()))), ())))
   else
   bif (bS 6 (len u1)) then
    some (.inr ((true, ((), (0, ()))), ((u0, (u1, (u2, ()))), ())))
   else
   some (.inr (((bS 12 (len u2)), ((), (0, ()))), ((u0, (u1, (u2, ()))), ())))) fun ((t26, (_, (t2, _))), ((o0a, (o0b, (o0c, _))), _)) =>
 bif t26 then
  some (5, ())
 else
 iter (P := (Int × Unit × Unit × Int × Unit) × (List Df × List ByteArray × List Rl × Unit) × List ByteArray × Unit) (fun rec ((i4, (_, (_, (t2_1, _)))), ((o0a_1, (o0b_1, (o0c_1, _))), (o1, _))) =>
   bif (bS i4 (len o0a_1)) then
    ok (bQ i4 (len o0a_1)) <|
    bif (bS 6 (len (List.getD o0a_1 (Int.toNat i4) cg).2.1)) then
     some (5, ())
    else
    ok (bQ i4 (len o0a_1)) <|
    ok (Di (o1 ++ [(List.getD o0a_1 (Int.toNat i4) cg).1]) 16) <|
    rec (((aB .i64 i4 1), ((), ((), (t2_1, ())))), ((o0a_1, (o0b_1, (o0c_1, ()))), ((o1 ++ [(List.getD o0a_1 (Int.toNat i4) cg).1]), ())))
   else
   iter (P := (Int × Unit × Unit × Int × Unit) × (List Df × List ByteArray × List Rl × Unit) × List ByteArray × Unit) (fun rec_1 ((i5, (_, (_, (t2_2, _)))), ((o0a_2, (o0b_2, (o0c_2, _))), (o1_1, _))) =>
     bif (bS i5 (len o0b_2)) then
      ok (bQ i5 (len o0b_2)) <|
      ok (Di (o1_1 ++ [(List.getD o0b_2 (Int.toNat i5) (bs []))]) 16) <|
      rec_1 (((aB .i64 i5 1), ((), ((), (t2_2, ())))), ((o0a_2, (o0b_2, (o0c_2, ()))), ((o1_1 ++ [(List.getD o0b_2 (Int.toNat i5) (bs []))]), ())))
     else
     (fO R o1_1).bind fun (r137_1, _) =>
     iter (P := (Int × Unit × Bool × Int × Unit) × (List Df × List ByteArray × List Rl × Unit) × Unit) (fun rec_2 ((i7, (_, (again6, (t2_3, _)))), ((o0a_3, (o0b_3, (o0c_3, _))), _)) =>
       bif (bS i7 (len o0a_3)) then
        jb (P := (Int × Unit × Bool × Int × Unit) × (List Df × List ByteArray × List Rl × Unit) × Unit) (
          bif again6 then
           some (.inr ((i7, ((), (true, (t2_3, ())))), ((o0a_3, (o0b_3, (o0c_3, ()))), ())))
          else
          ok (bQ i7 (len o0a_3)) <|
          (fO R (List.getD o0a_3 (Int.toNat i7) cg).2.1).bind fun (r137_2_1, _) =>
          some (.inr ((i7, ((), ((!r137_2_1), (t2_3, ())))), ((o0a_3, (o0b_3, (o0c_3, ()))), ())))) fun ((i7_1, (_, (again6_1, (t2_4, _)))), ((o0a_4, (o0b_4, (o0c_4, _))), _)) =>
        rec_2 (((aB .i64 i7_1 1), ((), (again6_1, (t2_4, ())))), ((o0a_4, (o0b_4, (o0c_4, ()))), ()))
       else
       bif again6 then
        some (6, ())
       else
       some (0, ())) n ((0, ((), ((!r137_1), (t2_2, ())))), ((o0a_2, (o0b_2, (o0c_2, ()))), ()))) n ((0, ((), ((), (t2_1, ())))), ((o0a_1, (o0b_1, (o0c_1, ()))), (o1, ())))) n ((0, ((), ((), (t2, ())))), ((o0a, (o0b, (o0c, ()))), ([], ())))
noncomputable def qW (R : ax) (n : Nat) (u0 : List Df) (u1 : List ByteArray) (u2 : List Rl) (u3 : ByteArray) (u4 : List ByteArray) (u5 : List Tn) : Option (Int × Unit) :=
 iter (P := (Int × Unit × Unit × Int × Unit) × (ByteArray × List ByteArray × List Tn × Unit) × (List Df × List ByteArray × List Rl × Unit) × Unit) (fun rec ((i5, (_, (_, (t4, _)))), ((o0a, (o0b, (o0c, _))), ((o1a, (o1b, (o1c, _))), _))) =>
   bif (bS i5 (len o0b)) then
    ok (bQ i5 (len o0b)) <|
    (gz R o1a o1b o1c (List.getD o0b (Int.toNat i5) (bs []))).bind fun (r74_1, _) =>
    bif (kG 0 r74_1) then
     some (7, ())
    else
    rec (((aB .i64 i5 1), ((), ((), (t4, ())))), ((o0a, (o0b, (o0c, ()))), ((o1a, (o1b, (o1c, ()))), ())))
   else
   (iQ R o1a o1b o1c o0c o0b).bind fun (r138_1, _) =>
   some (r138_1, ())) n ((0, ((), ((), (0, ())))), ((u3, (u4, (u5, ()))), ((u0, (u1, (u2, ()))), ())))
noncomputable def qX (R : ax) (n : Nat) (u0 : List Df) (u1 : List ByteArray) (u2 : List Rl) (u3 : Int) (u4 : List Tn) (u5 : List Tn) : Option (Int × Unit) :=
 (iQ R u0 u1 u2 u4 u1).bind fun (r138_1, _) =>
 jb (P := (Int × Int × Unit) × Unit) (
   bif (r138_1 == 0) then
    (iQ R u0 u1 u2 u5 u1).bind fun (r138_2_1, _) =>
    some (.inr ((r138_2_1, (0, ())), ()))
   else
   some (.inr ((r138_1, (0, ())), ()))) fun ((c5, (t4, _)), _) =>
 some (c5, ())
noncomputable def nn (R : ax) (n : Nat) (u0 : Mem Bool) (u1 : List Df) (u2 : List ByteArray) (u3 : List Rl) : Option (Mem Bool × List Hd × Unit) :=
 iter (P := (Int × Unit × Unit × Unit × Unit) × (List Df × List ByteArray × List Rl × Unit) × List Hd × Mem Bool × Unit) (fun rec ((i4, (_, (_, (_, _)))), ((o0a, (o0b, (o0c, _))), (o1, (o900004, _)))) =>
   bif (bS i4 (len o0a)) then
    ok (An (len o0a) (len o0a) 1) <|
    iter (P := (Int × Unit × Unit × Int × Unit × Unit × Unit) × (List Df × List ByteArray × List Rl × Unit) × List Bool × List Hd × Mem Bool × Unit) (fun rec_1 ((j6, (_, (_, (i4_1, (_, (_, _)))))), ((o0a_1, (o0b_1, (o0c_1, _))), (o1_1, (o2, (o900004_1, _))))) =>
      bif (bS j6 (len o0a_1)) then
       (gA R o0a_1 o0b_1 o0c_1 i4_1 j6 1).bind fun (r139_1, _) =>
       ok (bQ j6 (len o1_1)) <|
       rec_1 (((aB .i64 j6 1), ((), ((), (i4_1, ((), ((), ())))))), ((o0a_1, (o0b_1, (o0c_1, ()))), ((List.set o1_1 (Int.toNat j6) r139_1), (o2, (o900004_1, ())))))
      else
      ok (Di (o2 ++ [(((List.length o900004_1) + 1), (0, (List.length o1_1)))]) 24) <|
      rec (((aB .i64 i4_1 1), ((), ((), ((), ())))), ((o0a_1, (o0b_1, (o0c_1, ()))), ((o2 ++ [(((List.length o900004_1) + 1), (0, (List.length o1_1)))]), ((o900004_1 ++ [some o1_1]), ()))))) n ((0, ((), ((), (i4, ((), ((), ())))))), ((o0a, (o0b, (o0c, ()))), ((List.replicate (Int.toNat (len o0a)) false), (o1, (o900004, ())))))
   else
   iter (P := (Int × Unit × Unit × Unit) × List Hd × Mem Bool × Unit) (fun rec_2 ((k7, (_, (_, _))), (o0, (o900004_2, _))) =>
     bif (bS k7 (len o0)) then
      iter (P := (Int × Unit × Int × Unit × Unit) × List Hd × Mem Bool × Unit) (fun rec_3 ((i8, (_, (k7_1, (_, _)))), (o0_1, (o900004_3, _))) =>
        bif (bS i8 (len o0_1)) then
         iter (P := (Int × Unit × Int × Int × Unit × Unit) × List Hd × Mem Bool × Unit) (fun rec_4 ((j9, (_, (i8_1, (k7_2, (_, _))))), (o0_2, (o900004_4, _))) =>
           bif (bS j9 (len o0_2)) then
            jb (P := (Int × Unit × Int × Int × Unit × Unit) × List Hd × Mem Bool × Unit) (
              jb (P := (Bool × Unit × Int × Int × Int × Unit × Unit) × List Hd × Mem Bool × Unit) (
                ok (bQ i8_1 (len o0_2)) <|
                ok (bQ k7_2 (((List.getD o0_2 (Int.toNat i8_1) (0, (0, 0))).2.2 : Nat) : Int)) <|
                ok (dO o900004_4 (List.getD o0_2 (Int.toNat i8_1) (0, (0, 0))).1 ((List.getD o0_2 (Int.toNat i8_1) (0, (0, 0))).2.1 + (Int.toNat k7_2))) <|
                bif (List.getD (ak o900004_4 (List.getD o0_2 (Int.toNat i8_1) (0, (0, 0))).1) ((List.getD o0_2 (Int.toNat i8_1) (0, (0, 0))).2.1 + (Int.toNat k7_2)) false) then
                 ok (bQ k7_2 (len o0_2)) <|
                 ok (bQ j9 (((List.getD o0_2 (Int.toNat k7_2) (0, (0, 0))).2.2 : Nat) : Int)) <|
                 ok (dO o900004_4 (List.getD o0_2 (Int.toNat k7_2) (0, (0, 0))).1 ((List.getD o0_2 (Int.toNat k7_2) (0, (0, 0))).2.1 + (Int.toNat j9))) <|
                 some (.inr (((List.getD (ak o900004_4 (List.getD o0_2 (Int.toNat k7_2) (0, (0, 0))).1) ((List.getD o0_2 (Int.toNat k7_2) (0, (0, 0))).2.1 + (Int.toNat j9)) false), ((), (i8_1, (j9, (k7_2, ((), ())))))), (o0_2, (o900004_4, ()))))
                else
                some (.inr ((false, ((), (i8_1, (j9, (k7_2, ((), ())))))), (o0_2, (o900004_4, ()))))) fun ((t72, (_, (i8_2, (j9_1, (k7_3, (_, _)))))), (o0_3, (o900004_5, _))) =>
              bif t72 then
               ok (bQ i8_2 (len o0_3)) <|
               ok (bQ j9_1 (((List.getD o0_3 (Int.toNat i8_2) (0, (0, 0))).2.2 : Nat) : Int)) <|
               ok (dO o900004_5 (List.getD o0_3 (Int.toNat i8_2) (0, (0, 0))).1 ((List.getD o0_3 (Int.toNat i8_2) (0, (0, 0))).2.1 + (Int.toNat j9_1))) <|
               some (.inr ((j9_1, ((), (i8_2, (k7_3, ((), ()))))), (o0_3, ((eY o900004_5 (some (List.set (ak o900004_5 (List.getD o0_3 (Int.toNat i8_2) (0, (0, 0))).1) ((List.getD o0_3 (Int.toNat i8_2) (0, (0, 0))).2.1 + (Int.toNat j9_1)) true)) (List.getD o0_3 (Int.toNat i8_2) (0, (0, 0))).1), ()))))
              else
              some (.inr ((j9_1, ((), (i8_2, (k7_3, ((), ()))))), (o0_3, (o900004_5, ()))))) fun ((j9_2, (_, (i8_3, (k7_4, (_, _))))), (o0_4, (o900004_6, _))) =>
            rec_4 (((aB .i64 j9_2 1), ((), (i8_3, (k7_4, ((), ()))))), (o0_4, (o900004_6, ())))
           else
           rec_3 (((aB .i64 i8_1 1), ((), (k7_2, ((), ())))), (o0_2, (o900004_4, ())))) n ((0, ((), (i8, (k7_1, ((), ()))))), (o0_1, (o900004_3, ())))
        else
        rec_2 (((aB .i64 k7_1 1), ((), ((), ()))), (o0_1, (o900004_3, ())))) n ((0, ((), (k7, ((), ())))), (o0, (o900004_2, ())))
     else
     some (o900004_2, (o0, ()))) n ((0, ((), ((), ()))), (o1, (o900004, ())))) n ((0, ((), ((), ((), ())))), ((u1, (u2, (u3, ()))), ([], (u0, ()))))
noncomputable def uR (R : ax) (n : Nat) (u0 : ByteArray) : Option (Bool × Unit) :=
 jb (P := (Bool × ByteArray × Bool × Unit) × Unit) (
   bif (bS (cW u0) 1) then
    some (.inr ((true, (u0, (false, ()))), ()))
   else
   bif (bS 8 (cW u0)) then
    some (.inr ((true, (u0, (false, ()))), ()))
   else
   ok (bQ 0 (cW u0)) <|
   (jP R (bt u0 0)).bind fun (r140_1, _) =>
   some (.inr (((!r140_1), (u0, (false, ()))), ()))) fun ((t17, (s0, (t2, _))), _) =>
 bif t17 then
  some (false, ())
 else
 iter (P := (Int × ByteArray × Bool × Unit) × Unit) (fun rec ((i3, (s0_1, (t2_1, _))), _) =>
   bif (bS i3 (cW s0_1)) then
    jb (P := (Bool × Int × ByteArray × Bool × Unit) × Unit) (
      ok (bQ i3 (cW s0_1)) <|
      (jP R (bt s0_1 i3)).bind fun (r140_2_1, _) =>
      bif (!r140_2_1) then
       ok (bQ i3 (cW s0_1)) <|
       (ly R (bt s0_1 i3)).bind fun (r141_1, _) =>
       some (.inr (((!r141_1), (i3, (s0_1, (t2_1, ())))), ()))
      else
      some (.inr ((false, (i3, (s0_1, (t2_1, ())))), ()))) fun ((t35, (i3_1, (s0_2, (t2_2, _)))), _) =>
    bif t35 then
     some (false, ())
    else
    rec (((aB .i64 i3_1 1), (s0_2, (t2_2, ()))), ())
   else
   some (true, ())) n ((1, (s0, (t2, ()))), ())
noncomputable def xb (R : ax) (n : Nat) (u0 : ByteArray) : Option (Bool × Unit) :=
 jb (P := (Bool × Unit) × Unit) (
   bif (seq u0 (bs [100, 101, 102])) then
    some (.inr ((true, ()), ()))
   else
   bif (seq u0 (bs [118, 97, 114])) then
    some (.inr ((true, ()), ()))
   else
   bif (seq u0 (bs [115, 113, 114, 116])) then
    some (.inr ((true, ()), ()))
   else
   bif (seq u0 (bs [97, 98, 115])) then
    some (.inr ((true, ()), ()))
   else
   bif (seq u0 (bs [109, 105, 110])) then
    some (.inr ((true, ()), ()))
   else
   some (.inr (((seq u0 (bs [109, 97, 120])), ()), ()))) fun ((t2, _), _) =>
 some (t2, ())
noncomputable def xc (R : ax) (n : Nat) (u0 : List Tn) : Option (List Tn × Unit) :=
 iter (P := (Int × Unit × Unit × Unit × Unit) × (List Tn × Unit) × (Unit × Unit) × (Unit × Unit) × List Tn × Unit) (fun rec ((i4, (_, (_, (_, _)))), ((o0, _), ((_, _), ((_, _), (o3, _))))) =>
   bif (bS i4 (len o0)) then
    ok (bQ i4 (len o0)) <|
    ok (Di (o3 ++ [((List.getD o0 (Int.toNat i4) (0, (0, ((bs []), ())))).1, ((List.getD o0 (Int.toNat i4) (0, (0, ((bs []), ())))).2.1, ((List.getD o0 (Int.toNat i4) (0, (0, ((bs []), ())))).2.2.1, ())))]) 32) <|
    rec (((aB .i64 i4 1), ((), ((), ((), ())))), ((o0, ()), (((), ()), (((), ()), ((o3 ++ [((List.getD o0 (Int.toNat i4) (0, (0, ((bs []), ())))).1, ((List.getD o0 (Int.toNat i4) (0, (0, ((bs []), ())))).2.1, ((List.getD o0 (Int.toNat i4) (0, (0, ((bs []), ())))).2.2.1, ())))]), ())))))
   else
   some (o3, ())) n ((0, ((), ((), ((), ())))), ((u0, ()), (((), ()), (((), ()), ([], ())))))
noncomputable def zt (R : ax) (n : Nat) (u0 : List Tn) : Option (Bool × Unit) :=
 iter (P := (Int × Int × List Tn × Int × Unit × Bool × Unit) × (List Tn × Unit) × Unit) (fun rec ((t10, (t9, (t8, (depth3, (_, (t2, _)))))), ((o0, _), _)) =>
   bif (bS t10 t9) then
    ok (bQ t10 (len t8)) <|
    (fG R (List.getD t8 (Int.toNat t10) (0, (0, ((bs []), ())))).1 (List.getD t8 (Int.toNat t10) (0, (0, ((bs []), ())))).2.1 (List.getD t8 (Int.toNat t10) (0, (0, ((bs []), ())))).2.2.1).bind fun (r142_1, _) =>
    jb (P := (Bool × Int × Int × Int × Int × List Tn × Unit × Bool × Unit) × (List Tn × Unit) × Unit) (
      bif (bS r142_1 0) then
       some (.inr ((true, (depth3, (r142_1, (t10, (t9, (t8, ((), (t2, ())))))))), ((o0, ()), ())))
      else
      some (.inr (((bS depth3 r142_1), (depth3, (r142_1, (t10, (t9, (t8, ((), (t2, ())))))))), ((o0, ()), ())))) fun ((t22, (depth3_1, (parts6, (t10_1, (t9_1, (t8_1, (_, (t2_1, _)))))))), ((o0_1, _), _)) =>
    bif t22 then
     some (false, ())
    else
    rec (((aB .i64 t10_1 1), (t9_1, (t8_1, ((aB .i64 depth3_1 (mN .i64 1 parts6)), ((), (t2_1, ())))))), ((o0_1, ()), ()))
   else
   jb (P := (Bool × Unit) × Unit) (
     bif (depth3 == 1) then
      some (.inr (((kG (len o0) 100), ()), ()))
     else
     some (.inr ((false, ()), ()))) fun ((t2_2, _), _) =>
   some (t2_2, ())) n ((0, ((len u0), (u0, (0, ((), (false, ())))))), ((u0, ()), ()))
noncomputable def cd (R : ax) (n : Nat) (u0 : List ByteArray) : Option (Bool × Unit) :=
 (br R u0).bind fun (r143_1, _) =>
 some ((kG 0 r143_1), ())
noncomputable def cf (R : ax) (n : Nat) (u0 : List ByteArray) : Option (Bool × Unit) :=
 (bu R u0).bind fun (r143_1, _) =>
 some ((kG 0 r143_1), ())
noncomputable def ca (R : ax) (n : Nat) (u0 : List ByteArray) (u1 : List Df) (u2 : List ByteArray) (u3 : List Rl) : Option (Bool × List Df × List ByteArray × List Rl × Unit) :=
 (bp R u0 u1 u2 u3).bind fun (r143_1, (r143b, (r143c, (r143d, _)))) =>
 some ((kG 0 r143_1), (r143b, (r143c, (r143d, ()))))
noncomputable def np (R : ax) (n : Nat) (u0 : ByteArray) : Option (Bool × Unit) :=
 (c8 R u0).bind fun (r36_1, _) =>
 some ((!r36_1), ())
noncomputable def nq (R : ax) (n : Nat) (u0 : ByteArray) : Option (Bool × Unit) :=
 (c8 R u0).bind fun (r36_1, _) =>
 some ((!r36_1), ())
noncomputable def bD (R : ax) (n : Nat) (u0 : List Df) : Option (Bool × Unit) :=
 (aU R u0).bind fun (r117_1, _) =>
 some ((kG 0 r117_1), ())
noncomputable def bC (R : ax) (n : Nat) (u0 : List Df) : Option (Bool × Unit) :=
 (aS R u0).bind fun (r117_1, _) =>
 some ((kG 0 r117_1), ())
noncomputable def pP (R : ax) (n : Nat) (u0 : ByteArray) (u1 : List ByteArray) (u2 : List Tn) : Option (Bool × Unit) :=
 some ((bS 6 (len u1)), ())
noncomputable def Ba (R : ax) (n : Nat) (u0 : List ByteArray) : Option (Bool × Unit) :=
 iter (P := (Int × Int × List ByteArray × List ByteArray × Bool × Unit) × Unit) (fun rec ((t7, (t6, (t5, (list0, (t2, _))))), _) =>
   bif (bS t7 t6) then
    ok (bQ t7 (len t5)) <|
    ok (ba 0 t7 (len list0)) <|
    (a8 R (List.drop (Int.toNat 0) (List.take (Int.toNat t7) list0)) (List.getD t5 (Int.toNat t7) (bs []))).bind fun (r37_1, _) =>
    bif r37_1 then
     some (true, ())
    else
    rec (((aB .i64 t7 1), (t6, (t5, (list0, (t2, ()))))), ())
   else
   some (false, ())) n ((0, ((len u0), (u0, (u0, (false, ()))))), ())
noncomputable def oF (R : ax) (n : Nat) (u0 : ByteArray) (u1 : List ByteArray) (u2 : List Tn) : Option (Bool × Unit) :=
 (rK R u1).bind fun (r101_1, _) =>
 some (r101_1, ())
noncomputable def my (R : ax) (n : Nat) (u0 : ByteArray) (u1 : List Df) (u2 : List ByteArray) (u3 : List Rl) : Option (Bool × List Df × List ByteArray × List Rl × Unit) :=
 (fv R u1 u2 u3 u0).bind fun (r72_1, _) =>
 some ((kG 0 r72_1), (u1, (u2, (u3, ()))))
noncomputable def sZ (R : ax) (n : Nat) (u0 : List Df) (u1 : List ByteArray) (u2 : List Rl) (u3 : List Tn) (u4 : List ByteArray) : Option (Int × Unit) :=
 iter (P := (Int × Int × List Tn × Unit × List ByteArray × Int × Unit) × (List Df × List ByteArray × List Rl × Unit) × Unit) (fun rec ((t12, (t11, (t10, (_, (own2, (t6, _)))))), ((o0a, (o0b, (o0c, _))), _)) =>
   bif (bS t12 t11) then
    jb (P := (Int × Int × List Tn × Unit × List ByteArray × Int × Unit) × (List Df × List ByteArray × List Rl × Unit) × Unit) (
      ok (bQ t12 (len t10)) <|
      jb (P := (Bool × Unit × Unit × List ByteArray × Int × Int × List Tn × Int × Unit) × (List Df × List ByteArray × List Rl × Unit) × Tn × Unit) (
        bif ((List.getD t10 (Int.toNat t12) (0, (0, ((bs []), ())))).1 != 2) then
         some (.inr ((((List.getD t10 (Int.toNat t12) (0, (0, ((bs []), ())))).1 != 13), ((), ((), (own2, (t12, (t11, (t10, (t6, ())))))))), ((o0a, (o0b, (o0c, ()))), (((List.getD t10 (Int.toNat t12) (0, (0, ((bs []), ())))).1, ((List.getD t10 (Int.toNat t12) (0, (0, ((bs []), ())))).2.1, ((List.getD t10 (Int.toNat t12) (0, (0, ((bs []), ())))).2.2.1, ()))), ()))))
        else
        some (.inr ((false, ((), ((), (own2, (t12, (t11, (t10, (t6, ())))))))), ((o0a, (o0b, (o0c, ()))), (((List.getD t10 (Int.toNat t12) (0, (0, ((bs []), ())))).1, ((List.getD t10 (Int.toNat t12) (0, (0, ((bs []), ())))).2.1, ((List.getD t10 (Int.toNat t12) (0, (0, ((bs []), ())))).2.2.1, ()))), ()))))) fun ((t23, (_, (_, (own2_1, (t12_1, (t11_1, (t10_1, (t6_1, _)))))))), ((o0a_1, (o0b_1, (o0c_1, _))), ((o1a, (o1b, (o1c, _))), _))) =>
      bif t23 then
       some (.inr ((t12_1, (t11_1, (t10_1, ((), (own2_1, (t6_1, ())))))), ((o0a_1, (o0b_1, (o0c_1, ()))), ())))
      else
      (fv R o0a_1 o0b_1 o0c_1 o1c).bind fun (r72_1, _) =>
      (a8 R own2_1 o1c).bind fun (r37_1, _) =>
      bif r37_1 then
       bif (o1a == 13) then
        some (.inl (9, ()))
       else
       some (.inr ((t12_1, (t11_1, (t10_1, ((), (own2_1, (t6_1, ())))))), ((o0a_1, (o0b_1, (o0c_1, ()))), ())))
      else
      bif (bS r72_1 0) then
       some (.inl (8, ()))
      else
      ok (bQ r72_1 (len o0a_1)) <|
      bif ((len (List.getD o0a_1 (Int.toNat r72_1) cg).2.1) != o1b) then
       some (.inl (9, ()))
      else
      some (.inr ((t12_1, (t11_1, (t10_1, ((), (own2_1, (t6_1, ())))))), ((o0a_1, (o0b_1, (o0c_1, ()))), ())))) fun ((t12_2, (t11_2, (t10_2, (_, (own2_2, (t6_2, _)))))), ((o0a_2, (o0b_2, (o0c_2, _))), _)) =>
    rec (((aB .i64 t12_2 1), (t11_2, (t10_2, ((), (own2_2, (t6_2, ())))))), ((o0a_2, (o0b_2, (o0c_2, ()))), ()))
   else
   some (0, ())) n ((0, ((len u3), (u3, ((), (u4, (0, ())))))), ((u0, (u1, (u2, ()))), ()))
noncomputable def fy (R : ax) (n : Nat) (u0 : List (List Tn)) : Option (List Tn × Unit) :=
 iter (P := (Int × Int × List (List Tn) × Int × List (List Tn) × Unit × Unit) × Unit) (fun rec ((t11, (t10, (t9, (size3, (slices0, (_, _)))))), _) =>
   bif (bS t11 t10) then
    jb (P := (Int × Int × List (List Tn) × Int × List (List Tn) × Unit × Unit) × Unit) (
      ok (bQ t11 (len t9)) <|
      bif (bS (aB .i64 size3 (len (List.getD t9 (Int.toNat t11) []))) 0) then
       none
      else
      some (.inr ((t11, (t10, (t9, ((aB .i64 size3 (len (List.getD t9 (Int.toNat t11) []))), (slices0, ((), ())))))), ()))) fun ((t11_1, (t10_1, (t9_1, (size3_1, (slices0_1, (_, _)))))), _) =>
    rec (((aB .i64 t11_1 1), (t10_1, (t9_1, (size3_1, (slices0_1, ((), ())))))), ())
   else
   (bY R [] size3).bind fun (r144_1, _) =>
   iter (P := (Int × Int × List (List Tn) × Unit × Unit × Unit) × List Tn × Unit) (fun rec_1 ((t27, (t26, (t25, (_, (_, _))))), (o0, _)) =>
     bif (bS t27 t26) then
      ok (bQ t27 (len t25)) <|
      ok (Di (o0 ++ (List.getD t25 (Int.toNat t27) [])) 32) <|
      rec_1 (((aB .i64 t27 1), (t26, (t25, ((), ((), ()))))), ((o0 ++ (List.getD t25 (Int.toNat t27) [])), ()))
     else
     some (o0, ())) n ((0, ((len slices0), (slices0, ((), ((), ()))))), (r144_1, ()))) n ((0, ((len u0), (u0, (0, (u0, ((), ())))))), ())
noncomputable def s3 (R : ax) (n : Nat) (u0 : List Df) (u1 : List ByteArray) (u2 : List Rl) (u3 : Int) : Option (List Bool × Unit) :=
 ok (An (len u0) (len u0) 1) <|
 iter (P := (Unit × Unit × Unit × Unit × Unit) × List Int × (List Df × List ByteArray × List Rl × Unit) × List Bool × Unit) (fun rec ((_, (_, (_, (_, _)))), (o0, ((o1a, (o1b, (o1c, _))), (o2, _)))) =>
   bif (bS 0 (len o0)) then
    ok (bQ 0 (len o0)) <|
    ok (bQ (List.getD o0 (Int.toNat 0) 0) (len o1a)) <|
    ok (ba 1 (len o0) (len o0)) <|
    (iR R (List.getD o1a (Int.toNat (List.getD o0 (Int.toNat 0) 0)) cg).2.2.1.1).bind fun (r145_1, _) =>
    iter (P := (Int × Int × Unit × Unit × Unit × Unit × Unit × Unit) × List ByteArray × (List Df × List ByteArray × List Rl × Unit) × List Bool × List Int × Unit) (fun rec_1 ((t33, (t32, (_, (_, (_, (_, (_, _))))))), (o0_1, ((o1a_1, (o1b_1, (o1c_1, _))), (o2_1, (o3, _))))) =>
      bif (bS t33 t32) then
       jb (P := (Int × Int × Unit × Unit × Unit × Unit × Unit × Unit) × List ByteArray × (List Df × List ByteArray × List Rl × Unit) × List Bool × List Int × Unit) (
         ok (bQ t33 (len o0_1)) <|
         (fv R o1a_1 o1b_1 o1c_1 (List.getD o0_1 (Int.toNat t33) (bs []))).bind fun (r72_1, _) =>
         jb (P := (Bool × Unit × Int × Unit × Int × Int × Unit × Unit × Unit × Unit) × List Bool × List Int × List ByteArray × (List Df × List ByteArray × List Rl × Unit) × Unit) (
           bif (kG 0 r72_1) then
            ok (bQ r72_1 (len o2_1)) <|
            some (.inr (((!(List.getD o2_1 (Int.toNat r72_1) false)), ((), (r72_1, ((), (t33, (t32, ((), ((), ((), ()))))))))), (o2_1, (o3, (o0_1, ((o1a_1, (o1b_1, (o1c_1, ()))), ()))))))
           else
           some (.inr ((false, ((), (r72_1, ((), (t33, (t32, ((), ((), ((), ()))))))))), (o2_1, (o3, (o0_1, ((o1a_1, (o1b_1, (o1c_1, ()))), ()))))))) fun ((t48, (_, (k10, (_, (t33_1, (t32_1, (_, (_, (_, _))))))))), (o0_2, (o1, (o2_2, ((o3a, (o3b, (o3c, _))), _))))) =>
         bif t48 then
          ok (bQ k10 (len o0_2)) <|
          ok (Di (o1 ++ [k10]) 8) <|
          some (.inr ((t33_1, (t32_1, ((), ((), ((), ((), ((), ()))))))), (o2_2, ((o3a, (o3b, (o3c, ()))), ((List.set o0_2 (Int.toNat k10) true), ((o1 ++ [k10]), ()))))))
         else
         some (.inr ((t33_1, (t32_1, ((), ((), ((), ((), ((), ()))))))), (o2_2, ((o3a, (o3b, (o3c, ()))), (o0_2, (o1, ()))))))) fun ((t33_2, (t32_2, (_, (_, (_, (_, (_, _))))))), (o0_3, ((o1a_2, (o1b_2, (o1c_2, _))), (o2_3, (o3_1, _))))) =>
       rec_1 (((aB .i64 t33_2 1), (t32_2, ((), ((), ((), ((), ((), ()))))))), (o0_3, ((o1a_2, (o1b_2, (o1c_2, ()))), (o2_3, (o3_1, ())))))
      else
      rec (((), ((), ((), ((), ())))), (o3, ((o1a_1, (o1b_1, (o1c_1, ()))), (o2_1, ()))))) n ((0, ((len r145_1), ((), ((), ((), ((), ((), ()))))))), (r145_1, ((o1a, (o1b, (o1c, ()))), (o2, ((part o0 (Int.toNat 1) ((Int.toNat (len o0)) - (Int.toNat 1))), ())))))
   else
   some (o2, ())) n (((), ((), ((), ((), ())))), ([u3], ((u0, (u1, (u2, ()))), ((List.replicate (Int.toNat (len u0)) false), ()))))
noncomputable def s4 (R : ax) (n : Nat) (u0 : ByteArray) (u1 : List ByteArray) (u2 : List Tn) (u3 : Int) : Option (Int × Unit) :=
 bif (bS (mN .i64 u3 (cW u0)) 0) then
  some ((-1), ())
 else
 (jI R u1 (mN .i64 u3 (cW u0))).bind fun (r57_1, _) =>
 bif (bS r57_1 0) then
  some ((-1), ())
 else
 (ml R u2 r57_1).bind fun (r146_1, _) =>
 bif (bS r146_1 0) then
  some ((-1), ())
 else
 some (r146_1, ())
noncomputable def s5 (R : ax) (n : Nat) (u0 : Int) (u1 : List Tn) (u2 : List Tn) (u3 : Int) : Option (Int × Unit) :=
 (ml R u1 u3).bind fun (r146_1, _) =>
 bif (bS r146_1 0) then
  some ((-1), ())
 else
 (ml R u2 r146_1).bind fun (r146_2_1, _) =>
 bif (bS r146_2_1 0) then
  some ((-1), ())
 else
 some (r146_2_1, ())
noncomputable def mz (R : ax) (n : Nat) (u0 : Mem Dh) (u1 : Mem Rh) (u2 : Mem ByteArray) (u3 : Mem Tn) (u4 : ByteArray) (u5 : List ByteArray) (u6 : List Tn) : Option (Mem Dh × Mem Rh × Mem ByteArray × Mem Tn × ByteArray × Hd × Hd × Unit) :=
 (fF R u0 u1 u2 u3 u5).bind fun (r60_1, (r60b, (r60c, (r60d, (r60e, _))))) =>
 (fP R r60_1 r60b r60c r60d u6).bind fun (r147_1, (r147b, (r147c, (r147d, (r147e, _))))) =>
 some (r147_1, (r147b, (r147c, (r147d, (u4, (r60e, (r147e, ())))))))
noncomputable def mC (R : ax) (n : Nat) (u0 : Mem Dh) (u1 : Mem Rh) (u2 : Mem ByteArray) (u3 : Mem Tn) (u4 : Int) (u5 : List Tn) (u6 : List Tn) : Option (Mem Dh × Mem Rh × Mem ByteArray × Mem Tn × Int × Hd × Hd × Unit) :=
 (fP R u0 u1 u2 u3 u5).bind fun (r147_1, (r147b, (r147c, (r147d, (r147e, _))))) =>
 (fP R r147_1 r147b r147c r147d u6).bind fun (r147_2_1, (r147_2b, (r147_2c, (r147_2d, (r147_2e, _))))) =>
 some (r147_2_1, (r147_2b, (r147_2c, (r147_2d, (u4, (r147e, (r147_2e, ())))))))
noncomputable def s6 (R : ax) (n : Nat) (u0 : ByteArray) (u1 : List ByteArray) (u2 : List Tn) (u3 : ByteArray) (u4 : List ByteArray) (u5 : List Tn) : Option (Bool × Unit) :=
 bif (!(seq u0 u3)) then
  some (false, ())
 else
 (jJ R u1 u4).bind fun (r63_1, _) =>
 bif (!r63_1) then
  some (false, ())
 else
 (mn R u2 u5).bind fun (r148_1, _) =>
 bif (!r148_1) then
  some (false, ())
 else
 some (true, ())
noncomputable def s7 (R : ax) (n : Nat) (u0 : Int) (u1 : List Tn) (u2 : List Tn) (u3 : Int) (u4 : List Tn) (u5 : List Tn) : Option (Bool × Unit) :=
 bif (u0 != u3) then
  some (false, ())
 else
 (mn R u1 u4).bind fun (r148_1, _) =>
 bif (!r148_1) then
  some (false, ())
 else
 (mn R u2 u5).bind fun (r148_2_1, _) =>
 bif (!r148_2_1) then
  some (false, ())
 else
 some (true, ())
noncomputable def uS (R : ax) (n : Nat) (u0 : Int) : Option (ByteArray × Unit) :=
 bif (kG u0 0) then
  some ((bs [109, 48]), ())
 else
 iter (P := (Int × ByteArray × ByteArray × Unit) × Unit) (fun rec ((k0, (out3, (t2, _))), _) =>
   bif (bS 0 k0) then
    ok (Lc (oR [(IntKind.wrap .u8 (aB .i64 48 (Ih .i64 k0 10)))]) out3) <|
    rec (((Lr .i64 k0 10), (((oR [(IntKind.wrap .u8 (aB .i64 48 (Ih .i64 k0 10)))]) ++ out3), (t2, ()))), ())
   else
   ok (Lc (bs [109]) out3) <|
   some (((bs [109]) ++ out3), ())) n ((u0, ((bs []), ((bs []), ()))), ())
noncomputable def iW (R : ax) (n : Nat) (u0 : Mem Dh) (u1 : Mem Rh) (u2 : Mem ByteArray) (u3 : Mem Tn) (u4 : Hd) (u5 : Int) : Option (Mem Dh × Mem Rh × Mem ByteArray × Mem Tn × Int × Unit) :=
 iter (P := (Int × Hd × Int × Int × Unit) × Mem Dh × Mem Rh × Mem ByteArray × Mem Tn × Unit) (fun rec ((i5, (a0, (k1, (t4, _)))), (o900059, (o900057, (o900009, (o900073, _))))) =>
   bif (bS i5 ((a0.2.2 : Nat) : Int)) then
    ok (bQ i5 ((a0.2.2 : Nat) : Int)) <|
    ok (dO o900073 a0.1 (a0.2.1 + (Int.toNat i5))) <|
    ok (bQ i5 ((a0.2.2 : Nat) : Int)) <|
    ok (dO (eY o900073 (some (List.set (ak o900073 a0.1) (a0.2.1 + (Int.toNat i5)) (k1, ((List.getD (ak o900073 a0.1) (a0.2.1 + (Int.toNat i5)) (0, (0, ((bs []), ())))).2.1, ((List.getD (ak o900073 a0.1) (a0.2.1 + (Int.toNat i5)) (0, (0, ((bs []), ())))).2.2.1, ()))))) a0.1) a0.1 (a0.2.1 + (Int.toNat i5))) <|
    (eQ R (aB .i64 (aB .i64 k1 1) 1)).bind fun (r114_1, _) =>
    ok (bQ i5 ((a0.2.2 : Nat) : Int)) <|
    ok (dO (eY (eY o900073 (some (List.set (ak o900073 a0.1) (a0.2.1 + (Int.toNat i5)) (k1, ((List.getD (ak o900073 a0.1) (a0.2.1 + (Int.toNat i5)) (0, (0, ((bs []), ())))).2.1, ((List.getD (ak o900073 a0.1) (a0.2.1 + (Int.toNat i5)) (0, (0, ((bs []), ())))).2.2.1, ()))))) a0.1) (some (List.set (ak (eY o900073 (some (List.set (ak o900073 a0.1) (a0.2.1 + (Int.toNat i5)) (k1, ((List.getD (ak o900073 a0.1) (a0.2.1 + (Int.toNat i5)) (0, (0, ((bs []), ())))).2.1, ((List.getD (ak o900073 a0.1) (a0.2.1 + (Int.toNat i5)) (0, (0, ((bs []), ())))).2.2.1, ()))))) a0.1) a0.1) (a0.2.1 + (Int.toNat i5)) ((List.getD (ak (eY o900073 (some (List.set (ak o900073 a0.1) (a0.2.1 + (Int.toNat i5)) (k1, ((List.getD (ak o900073 a0.1) (a0.2.1 + (Int.toNat i5)) (0, (0, ((bs []), ())))).2.1, ((List.getD (ak o900073 a0.1) (a0.2.1 + (Int.toNat i5)) (0, (0, ((bs []), ())))).2.2.1, ()))))) a0.1) a0.1) (a0.2.1 + (Int.toNat i5)) (0, (0, ((bs []), ())))).1, ((aB .i64 k1 1), ((List.getD (ak (eY o900073 (some (List.set (ak o900073 a0.1) (a0.2.1 + (Int.toNat i5)) (k1, ((List.getD (ak o900073 a0.1) (a0.2.1 + (Int.toNat i5)) (0, (0, ((bs []), ())))).2.1, ((List.getD (ak o900073 a0.1) (a0.2.1 + (Int.toNat i5)) (0, (0, ((bs []), ())))).2.2.1, ()))))) a0.1) a0.1) (a0.2.1 + (Int.toNat i5)) (0, (0, ((bs []), ())))).2.2.1, ()))))) a0.1) a0.1 (a0.2.1 + (Int.toNat i5))) <|
    rec (((aB .i64 i5 1), (a0, ((aB .i64 (aB .i64 (aB .i64 k1 1) 1) 1), (t4, ())))), (o900059, (o900057, (o900009, ((eY (eY (eY o900073 (some (List.set (ak o900073 a0.1) (a0.2.1 + (Int.toNat i5)) (k1, ((List.getD (ak o900073 a0.1) (a0.2.1 + (Int.toNat i5)) (0, (0, ((bs []), ())))).2.1, ((List.getD (ak o900073 a0.1) (a0.2.1 + (Int.toNat i5)) (0, (0, ((bs []), ())))).2.2.1, ()))))) a0.1) (some (List.set (ak (eY o900073 (some (List.set (ak o900073 a0.1) (a0.2.1 + (Int.toNat i5)) (k1, ((List.getD (ak o900073 a0.1) (a0.2.1 + (Int.toNat i5)) (0, (0, ((bs []), ())))).2.1, ((List.getD (ak o900073 a0.1) (a0.2.1 + (Int.toNat i5)) (0, (0, ((bs []), ())))).2.2.1, ()))))) a0.1) a0.1) (a0.2.1 + (Int.toNat i5)) ((List.getD (ak (eY o900073 (some (List.set (ak o900073 a0.1) (a0.2.1 + (Int.toNat i5)) (k1, ((List.getD (ak o900073 a0.1) (a0.2.1 + (Int.toNat i5)) (0, (0, ((bs []), ())))).2.1, ((List.getD (ak o900073 a0.1) (a0.2.1 + (Int.toNat i5)) (0, (0, ((bs []), ())))).2.2.1, ()))))) a0.1) a0.1) (a0.2.1 + (Int.toNat i5)) (0, (0, ((bs []), ())))).1, ((aB .i64 k1 1), ((List.getD (ak (eY o900073 (some (List.set (ak o900073 a0.1) (a0.2.1 + (Int.toNat i5)) (k1, ((List.getD (ak o900073 a0.1) (a0.2.1 + (Int.toNat i5)) (0, (0, ((bs []), ())))).2.1, ((List.getD (ak o900073 a0.1) (a0.2.1 + (Int.toNat i5)) (0, (0, ((bs []), ())))).2.2.1, ()))))) a0.1) a0.1) (a0.2.1 + (Int.toNat i5)) (0, (0, ((bs []), ())))).2.2.1, ()))))) a0.1) (some (List.set (ak (eY (eY o900073 (some (List.set (ak o900073 a0.1) (a0.2.1 + (Int.toNat i5)) (k1, ((List.getD (ak o900073 a0.1) (a0.2.1 + (Int.toNat i5)) (0, (0, ((bs []), ())))).2.1, ((List.getD (ak o900073 a0.1) (a0.2.1 + (Int.toNat i5)) (0, (0, ((bs []), ())))).2.2.1, ()))))) a0.1) (some (List.set (ak (eY o900073 (some (List.set (ak o900073 a0.1) (a0.2.1 + (Int.toNat i5)) (k1, ((List.getD (ak o900073 a0.1) (a0.2.1 + (Int.toNat i5)) (0, (0, ((bs []), ())))).2.1, ((List.getD (ak o900073 a0.1) (a0.2.1 + (Int.toNat i5)) (0, (0, ((bs []), ())))).2.2.1, ()))))) a0.1) a0.1) (a0.2.1 + (Int.toNat i5)) ((List.getD (ak (eY o900073 (some (List.set (ak o900073 a0.1) (a0.2.1 + (Int.toNat i5)) (k1, ((List.getD (ak o900073 a0.1) (a0.2.1 + (Int.toNat i5)) (0, (0, ((bs []), ())))).2.1, ((List.getD (ak o900073 a0.1) (a0.2.1 + (Int.toNat i5)) (0, (0, ((bs []), ())))).2.2.1, ()))))) a0.1) a0.1) (a0.2.1 + (Int.toNat i5)) (0, (0, ((bs []), ())))).1, ((aB .i64 k1 1), ((List.getD (ak (eY o900073 (some (List.set (ak o900073 a0.1) (a0.2.1 + (Int.toNat i5)) (k1, ((List.getD (ak o900073 a0.1) (a0.2.1 + (Int.toNat i5)) (0, (0, ((bs []), ())))).2.1, ((List.getD (ak o900073 a0.1) (a0.2.1 + (Int.toNat i5)) (0, (0, ((bs []), ())))).2.2.1, ()))))) a0.1) a0.1) (a0.2.1 + (Int.toNat i5)) (0, (0, ((bs []), ())))).2.2.1, ()))))) a0.1) a0.1) (a0.2.1 + (Int.toNat i5)) ((List.getD (ak (eY (eY o900073 (some (List.set (ak o900073 a0.1) (a0.2.1 + (Int.toNat i5)) (k1, ((List.getD (ak o900073 a0.1) (a0.2.1 + (Int.toNat i5)) (0, (0, ((bs []), ())))).2.1, ((List.getD (ak o900073 a0.1) (a0.2.1 + (Int.toNat i5)) (0, (0, ((bs []), ())))).2.2.1, ()))))) a0.1) (some (List.set (ak (eY o900073 (some (List.set (ak o900073 a0.1) (a0.2.1 + (Int.toNat i5)) (k1, ((List.getD (ak o900073 a0.1) (a0.2.1 + (Int.toNat i5)) (0, (0, ((bs []), ())))).2.1, ((List.getD (ak o900073 a0.1) (a0.2.1 + (Int.toNat i5)) (0, (0, ((bs []), ())))).2.2.1, ()))))) a0.1) a0.1) (a0.2.1 + (Int.toNat i5)) ((List.getD (ak (eY o900073 (some (List.set (ak o900073 a0.1) (a0.2.1 + (Int.toNat i5)) (k1, ((List.getD (ak o900073 a0.1) (a0.2.1 + (Int.toNat i5)) (0, (0, ((bs []), ())))).2.1, ((List.getD (ak o900073 a0.1) (a0.2.1 + (Int.toNat i5)) (0, (0, ((bs []), ())))).2.2.1, ()))))) a0.1) a0.1) (a0.2.1 + (Int.toNat i5)) (0, (0, ((bs []), ())))).1, ((aB .i64 k1 1), ((List.getD (ak (eY o900073 (some (List.set (ak o900073 a0.1) (a0.2.1 + (Int.toNat i5)) (k1, ((List.getD (ak o900073 a0.1) (a0.2.1 + (Int.toNat i5)) (0, (0, ((bs []), ())))).2.1, ((List.getD (ak o900073 a0.1) (a0.2.1 + (Int.toNat i5)) (0, (0, ((bs []), ())))).2.2.1, ()))))) a0.1) a0.1) (a0.2.1 + (Int.toNat i5)) (0, (0, ((bs []), ())))).2.2.1, ()))))) a0.1) a0.1) (a0.2.1 + (Int.toNat i5)) (0, (0, ((bs []), ())))).1, ((List.getD (ak (eY (eY o900073 (some (List.set (ak o900073 a0.1) (a0.2.1 + (Int.toNat i5)) (k1, ((List.getD (ak o900073 a0.1) (a0.2.1 + (Int.toNat i5)) (0, (0, ((bs []), ())))).2.1, ((List.getD (ak o900073 a0.1) (a0.2.1 + (Int.toNat i5)) (0, (0, ((bs []), ())))).2.2.1, ()))))) a0.1) (some (List.set (ak (eY o900073 (some (List.set (ak o900073 a0.1) (a0.2.1 + (Int.toNat i5)) (k1, ((List.getD (ak o900073 a0.1) (a0.2.1 + (Int.toNat i5)) (0, (0, ((bs []), ())))).2.1, ((List.getD (ak o900073 a0.1) (a0.2.1 + (Int.toNat i5)) (0, (0, ((bs []), ())))).2.2.1, ()))))) a0.1) a0.1) (a0.2.1 + (Int.toNat i5)) ((List.getD (ak (eY o900073 (some (List.set (ak o900073 a0.1) (a0.2.1 + (Int.toNat i5)) (k1, ((List.getD (ak o900073 a0.1) (a0.2.1 + (Int.toNat i5)) (0, (0, ((bs []), ())))).2.1, ((List.getD (ak o900073 a0.1) (a0.2.1 + (Int.toNat i5)) (0, (0, ((bs []), ())))).2.2.1, ()))))) a0.1) a0.1) (a0.2.1 + (Int.toNat i5)) (0, (0, ((bs []), ())))).1, ((aB .i64 k1 1), ((List.getD (ak (eY o900073 (some (List.set (ak o900073 a0.1) (a0.2.1 + (Int.toNat i5)) (k1, ((List.getD (ak o900073 a0.1) (a0.2.1 + (Int.toNat i5)) (0, (0, ((bs []), ())))).2.1, ((List.getD (ak o900073 a0.1) (a0.2.1 + (Int.toNat i5)) (0, (0, ((bs []), ())))).2.2.1, ()))))) a0.1) a0.1) (a0.2.1 + (Int.toNat i5)) (0, (0, ((bs []), ())))).2.2.1, ()))))) a0.1) a0.1) (a0.2.1 + (Int.toNat i5)) (0, (0, ((bs []), ())))).2.1, (r114_1, ()))))) a0.1), ())))))
   else
   some (o900059, (o900057, (o900009, (o900073, (k1, ())))))) n ((0, (u4, (u5, (0, ())))), (u0, (u1, (u2, (u3, ())))))
noncomputable def nr (R : ax) (n : Nat) (u0 : List Tn) (u1 : Int) : Option (Int × Unit) :=
 iter (P := (Int × List Tn × Int × Int × Unit) × Unit) (fun rec ((i5, (a0, (k1, (t4, _)))), _) =>
   bif (bS i5 (len a0)) then
    ok (bQ i5 (len a0)) <|
    bif ((List.getD a0 (Int.toNat i5) (0, (0, ((bs []), ())))).1 != k1) then
     some ((-1), ())
    else
    ok (bQ i5 (len a0)) <|
    bif ((List.getD a0 (Int.toNat i5) (0, (0, ((bs []), ())))).2.1 != (aB .i64 k1 1)) then
     some ((-1), ())
    else
    ok (bQ i5 (len a0)) <|
    (eQ R (aB .i64 (aB .i64 k1 1) 1)).bind fun (r114_1, _) =>
    bif (!(seq (List.getD a0 (Int.toNat i5) (0, (0, ((bs []), ())))).2.2.1 r114_1)) then
     some ((-1), ())
    else
    rec (((aB .i64 i5 1), (a0, ((aB .i64 (aB .i64 (aB .i64 k1 1) 1) 1), (t4, ())))), ())
   else
   some (k1, ())) n ((0, (u0, (u1, (0, ())))), ())
noncomputable def dB (R : ax) (n : Nat) (u0 : List Df) : Option (Int × Unit) :=
 iter (P := (Int × Int × Unit × List Df × Int × Unit) × Unit) (fun rec ((t8, (t7, (_, (s0, (t4, _))))), _) =>
   bif (bS t8 t7) then
    ok (bQ t8 (len s0)) <|
    (ib R (List.getD s0 (Int.toNat t8) cg).1 (List.getD s0 (Int.toNat t8) cg).2.1 (List.getD s0 (Int.toNat t8) cg).2.2.1.1).bind fun (r100_1, _) =>
    bif r100_1 then
     some (t8, ())
    else
    rec (((aB .i64 t8 1), (t7, ((), (s0, (t4, ()))))), ())
   else
   some ((-1), ())) n ((0, ((len u0), ((), (u0, (0, ()))))), ())
noncomputable def dr (R : ax) (n : Nat) (u0 : List Df) : Option (Int × Unit) :=
 iter (P := (Int × Int × Unit × List Df × Int × Unit) × Unit) (fun rec ((t8, (t7, (_, (s0, (t4, _))))), _) =>
   bif (bS t8 t7) then
    ok (bQ t8 (len s0)) <|
    (gL R (List.getD s0 (Int.toNat t8) cg).1 (List.getD s0 (Int.toNat t8) cg).2.1 (List.getD s0 (Int.toNat t8) cg).2.2.1.1).bind fun (r102_1, _) =>
    bif r102_1 then
     some (t8, ())
    else
    rec (((aB .i64 t8 1), (t7, ((), (s0, (t4, ()))))), ())
   else
   some ((-1), ())) n ((0, ((len u0), ((), (u0, (0, ()))))), ())
noncomputable def bM (R : ax) (n : Nat) (u0 : List Df) (u1 : ByteArray) : Option (Int × ByteArray × Unit) :=
 iter (P := (Int × Int × Unit × List Df × Int × Unit) × (ByteArray × Unit) × Unit) (fun rec ((t8, (t7, (_, (s0, (t4, _))))), ((o0, _), _)) =>
   bif (bS t8 t7) then
    ok (bQ t8 (len s0)) <|
    (jz R (List.getD s0 (Int.toNat t8) cg).1 (List.getD s0 (Int.toNat t8) cg).2.1 (List.getD s0 (Int.toNat t8) cg).2.2.1.1 o0).bind fun (r118_1, (r118b, _)) =>
    bif r118_1 then
     some (t8, (r118b, ()))
    else
    rec (((aB .i64 t8 1), (t7, ((), (s0, (t4, ()))))), ((r118b, ()), ()))
   else
   some ((-1), (o0, ()))) n ((0, ((len u0), ((), (u0, (0, ()))))), ((u1, ()), ()))
noncomputable def oG (R : ax) (n : Nat) (u0 : ByteArray) (u1 : List ByteArray) (u2 : List Tn) (u3 : ByteArray) : Option (Bool × ByteArray × Unit) :=
 some ((seq u0 u3), (u3, ()))
noncomputable def xd (R : ax) (n : Nat) (u0 : Int) (u1 : Int) (u2 : ByteArray) : Option (Int × Unit) :=
 jb (P := (Int × Unit) × Unit) (
   bif (u0 == 1) then
    jb (P := (Bool × Int × Unit) × Unit) (
      bif (u1 == 0) then
       (nH R u2).bind fun (r154_1, _) =>
       some (.inr ((r154_1, (0, ())), ()))
      else
      some (.inr ((false, (0, ())), ()))) fun ((t14, (t2, _)), _) =>
    bif t14 then
     some (.inl (0, ()))
    else
    some (.inr ((t2, ()), ()))
   else
   bif (u0 == 2) then
    jb (P := (Bool × Int × Unit) × Unit) (
      bif (u1 == 0) then
       (da R u2).bind fun (r42_1, _) =>
       some (.inr ((r42_1, (0, ())), ()))
      else
      some (.inr ((false, (0, ())), ()))) fun ((t24, (t2_1, _)), _) =>
    bif t24 then
     some (.inl (0, ()))
    else
    some (.inr ((t2_1, ()), ()))
   else
   jb (P := (Bool × Unit × Int × Int × Unit) × Tn × Unit) (
     bif (u0 == 3) then
      some (.inr ((true, ((), (u0, (0, ())))), ((u0, (u1, (u2, ()))), ())))
     else
     bif (u0 == 9) then
      some (.inr ((true, ((), (u0, (0, ())))), ((u0, (u1, (u2, ()))), ())))
     else
     some (.inr (((u0 == 10), ((), (u0, (0, ())))), ((u0, (u1, (u2, ()))), ())))) fun ((t25, (_, (t4, (t2_2, _)))), ((o0a, (o0b, (o0c, _))), _)) =>
   bif t25 then
    jb (P := (Bool × Int × Unit) × Unit) (
      bif (o0b == 0) then
       some (.inr (((seq o0c (bs [])), (t2_2, ())), ()))
      else
      some (.inr ((false, (t2_2, ())), ()))) fun ((t36, (t2_3, _)), _) =>
    bif t36 then
     some (.inl (1, ()))
    else
    some (.inr ((t2_3, ()), ()))
   else
   jb (P := (Bool × Unit × Int × Int × Unit) × Tn × Unit) (
     bif (t4 == 4) then
      some (.inr ((true, ((), (t4, (t2_2, ())))), ((o0a, (o0b, (o0c, ()))), ())))
     else
     bif (t4 == 5) then
      some (.inr ((true, ((), (t4, (t2_2, ())))), ((o0a, (o0b, (o0c, ()))), ())))
     else
     bif (t4 == 6) then
      some (.inr ((true, ((), (t4, (t2_2, ())))), ((o0a, (o0b, (o0c, ()))), ())))
     else
     bif (t4 == 7) then
      some (.inr ((true, ((), (t4, (t2_2, ())))), ((o0a, (o0b, (o0c, ()))), ())))
     else
     bif (t4 == 11) then
      some (.inr ((true, ((), (t4, (t2_2, ())))), ((o0a, (o0b, (o0c, ()))), ())))
     else
     some (.inr (((t4 == 12), ((), (t4, (t2_2, ())))), ((o0a, (o0b, (o0c, ()))), ())))) fun ((t37, (_, (t4_1, (t2_4, _)))), ((o0a_1, (o0b_1, (o0c_1, _))), _)) =>
   bif t37 then
    jb (P := (Bool × Int × Unit) × Unit) (
      bif (o0b_1 == 0) then
       some (.inr (((seq o0c_1 (bs [])), (t2_4, ())), ()))
      else
      some (.inr ((false, (t2_4, ())), ()))) fun ((t51, (t2_5, _)), _) =>
    bif t51 then
     some (.inl (2, ()))
    else
    some (.inr ((t2_5, ()), ()))
   else
   bif (t4_1 == 8) then
    jb (P := (Bool × Int × Unit) × Unit) (
      bif (kG 0 o0b_1) then
       bif (kG o0b_1 8) then
        some (.inr (((seq o0c_1 (bs [])), (t2_4, ())), ()))
       else
       some (.inr ((false, (t2_4, ())), ()))
      else
      some (.inr ((false, (t2_4, ())), ()))) fun ((t66, (t2_6, _)), _) =>
    bif t66 then
     some (.inl (1, ()))
    else
    some (.inr ((t2_6, ()), ()))
   else
   bif (t4_1 == 13) then
    jb (P := (Bool × Unit × Int × Unit) × Tn × Unit) (
      bif (kG 1 o0b_1) then
       bif (kG o0b_1 6) then
        (da R o0c_1).bind fun (r42_2_1, _) =>
        some (.inr ((r42_2_1, ((), (t2_4, ()))), ((o0a_1, (o0b_1, (o0c_1, ()))), ())))
       else
       some (.inr ((false, ((), (t2_4, ()))), ((o0a_1, (o0b_1, (o0c_1, ()))), ())))
      else
      some (.inr ((false, ((), (t2_4, ()))), ((o0a_1, (o0b_1, (o0c_1, ()))), ())))) fun ((t81, (_, (t2_7, _))), ((o0a_2, (o0b_2, (o0c_2, _))), _)) =>
    bif t81 then
     some (.inl (o0b_2, ()))
    else
    some (.inr ((t2_7, ()), ()))
   else
   some (.inr ((t2_4, ()), ()))) fun ((t2_8, _), _) =>
 some ((-1), ())
noncomputable def B2 (R : ax) (n : Nat) (u0 : Int) : Option (Bool × Unit) :=
 jb (P := (Bool × Unit) × Unit) (
   bif (kG 97 u0) then
    some (.inr (((kG u0 122), ()), ()))
   else
   some (.inr ((false, ()), ()))) fun ((t2, _), _) =>
 some (t2, ())
noncomputable def B3 (R : ax) (n : Nat) (u0 : Int) : Option (Bool × Unit) :=
 jb (P := (Bool × Unit) × Unit) (
   bif (kG 48 u0) then
    some (.inr (((kG u0 57), ()), ()))
   else
   some (.inr ((false, ()), ()))) fun ((t2, _), _) =>
 some (t2, ())
noncomputable def cK (R : ax) (n : Nat) (u0 : Mem Dh) (u1 : Mem Rh) (u2 : Mem ByteArray) (u3 : Mem Tn) (u4 : Hd) : Option (Mem Dh × Mem Rh × Mem ByteArray × Mem Tn × Hd × Unit) :=
 ok ((ba 0 ((u4.2.2 : Nat) : Int) ((u4.2.2 : Nat) : Int)) && (kG ((u4.2.2 : Nat) : Int) ((u4.2.2 : Nat) : Int))) <|
 some (u0, (u1, (u2, (u3, ((u4.1, (u4.2.1, (Int.toNat ((u4.2.2 : Nat) : Int)))), ())))))
noncomputable def cM (R : ax) (n : Nat) (u0 : Mem Dh) (u1 : Mem Rh) (u2 : Mem ByteArray) (u3 : Mem Tn) (u4 : Hd) : Option (Mem Dh × Mem Rh × Mem ByteArray × Mem Tn × Hd × Unit) :=
 ok ((ba 0 ((u4.2.2 : Nat) : Int) ((u4.2.2 : Nat) : Int)) && (kG ((u4.2.2 : Nat) : Int) ((u4.2.2 : Nat) : Int))) <|
 some (u0, (u1, (u2, (u3, ((u4.1, (u4.2.1, (Int.toNat ((u4.2.2 : Nat) : Int)))), ())))))
noncomputable def fT (R : ax) (n : Nat) (u0 : List Tn) : Option (List Tn × Unit) :=
 ok ((ba 0 (len u0) (len u0)) && (kG (len u0) (len u0))) <|
 some ((List.drop (Int.toNat 0) (List.take (Int.toNat (len u0)) u0)), ())
noncomputable def s8 (R : ax) (n : Nat) (u0 : List Df) (u1 : List ByteArray) (u2 : List Rl) : Option (Bool × Unit) :=
 iter (P := (Int × Unit × Bool × Unit) × (List Df × List ByteArray × List Rl × Unit) × Unit) (fun rec ((i3, (_, (t2, _))), ((o0a, (o0b, (o0c, _))), _)) =>
   bif (bS i3 (len o0a)) then
    jb (P := (Bool × Int × Unit × Bool × Unit) × (List Df × List ByteArray × List Rl × Unit) × Unit) (
      ok (bQ i3 (len o0a)) <|
      (jx R (List.getD o0a (Int.toNat i3) cg).2.2.1.1).bind fun (r77_1, _) =>
      bif (!r77_1) then
       some (.inr ((true, (i3, ((), (t2, ())))), ((o0a, (o0b, (o0c, ()))), ())))
      else
      ok (bQ i3 (len o0a)) <|
      (da R (List.getD o0a (Int.toNat i3) cg).1).bind fun (r42_1, _) =>
      bif (!r42_1) then
       some (.inr ((true, (i3, ((), (t2, ())))), ((o0a, (o0b, (o0c, ()))), ())))
      else
      ok (bQ i3 (len o0a)) <|
      (lz R (List.getD o0a (Int.toNat i3) cg).2.1).bind fun (r158_1, _) =>
      some (.inr (((!r158_1), (i3, ((), (t2, ())))), ((o0a, (o0b, (o0c, ()))), ())))) fun ((t39, (i3_1, (_, (t2_1, _)))), ((o0a_1, (o0b_1, (o0c_1, _))), _)) =>
    bif t39 then
     some (false, ())
    else
    rec (((aB .i64 i3_1 1), ((), (t2_1, ()))), ((o0a_1, (o0b_1, (o0c_1, ()))), ()))
   else
   iter (P := (Int × Unit × Bool × Unit) × (List Df × List ByteArray × List Rl × Unit) × Unit) (fun rec_1 ((i4, (_, (t2_2, _))), ((o0a_2, (o0b_2, (o0c_2, _))), _)) =>
     bif (bS i4 (len o0c_2)) then
      jb (P := (Bool × Int × Unit × Bool × Unit) × (List Df × List ByteArray × List Rl × Unit) × Unit) (
        ok (bQ i4 (len o0c_2)) <|
        (qN R (List.getD o0c_2 (Int.toNat i4) dA).1).bind fun (r159_1, _) =>
        bif (!r159_1) then
         some (.inr ((true, (i4, ((), (t2_2, ())))), ((o0a_2, (o0b_2, (o0c_2, ()))), ())))
        else
        ok (bQ i4 (len o0c_2)) <|
        (jx R (List.getD o0c_2 (Int.toNat i4) dA).2.1.1).bind fun (r77_2_1, _) =>
        bif (!r77_2_1) then
         some (.inr ((true, (i4, ((), (t2_2, ())))), ((o0a_2, (o0b_2, (o0c_2, ()))), ())))
        else
        ok (bQ i4 (len o0c_2)) <|
        (jx R (List.getD o0c_2 (Int.toNat i4) dA).2.2.1.1).bind fun (r77_3_1, _) =>
        some (.inr (((!r77_3_1), (i4, ((), (t2_2, ())))), ((o0a_2, (o0b_2, (o0c_2, ()))), ())))) fun ((t74, (i4_1, (_, (t2_3, _)))), ((o0a_3, (o0b_3, (o0c_3, _))), _)) =>
      bif t74 then
       some (false, ())
      else
      rec_1 (((aB .i64 i4_1 1), ((), (t2_3, ()))), ((o0a_3, (o0b_3, (o0c_3, ()))), ()))
     else
     (lz R o0b_2).bind fun (r158_2_1, _) =>
     some (r158_2_1, ())) n ((0, ((), (t2, ()))), ((o0a, (o0b, (o0c, ()))), ()))) n ((0, ((), (false, ()))), ((u0, (u1, (u2, ()))), ()))
noncomputable def pQ (R : ax) (n : Nat) (u0 : List ByteArray) : Option (Bool × Unit) :=
 iter (P := (Int × List ByteArray × Bool × Unit) × Unit) (fun rec ((i3, (l0, (t2, _))), _) =>
   bif (bS i3 (len l0)) then
    jb (P := (Bool × Int × List ByteArray × Bool × Unit) × Unit) (
      ok (bQ i3 (len l0)) <|
      (da R (List.getD l0 (Int.toNat i3) (bs []))).bind fun (r42_1, _) =>
      bif (!r42_1) then
       some (.inr ((true, (i3, (l0, (t2, ())))), ()))
      else
      ok (ba 0 i3 (len l0)) <|
      ok (bQ i3 (len l0)) <|
      (gy R (List.drop (Int.toNat 0) (List.take (Int.toNat i3) l0)) (List.getD l0 (Int.toNat i3) (bs []))).bind fun (r40_1, _) =>
      some (.inr (((kG 0 r40_1), (i3, (l0, (t2, ())))), ()))) fun ((t26, (i3_1, (l0_1, (t2_1, _)))), _) =>
    bif t26 then
     some (false, ())
    else
    rec (((aB .i64 i3_1 1), (l0_1, (t2_1, ()))), ())
   else
   some (true, ())) n ((0, (u0, (false, ()))), ())
noncomputable def uT (R : ax) (n : Nat) (u0 : List Df) (u1 : List ByteArray) (u2 : List Rl) (u3 : List Tn) (u4 : List ByteArray) : Option (Int × Unit) :=
 iter (P := (Int × Unit × Unit × List ByteArray × Int × Unit) × (List Tn × Unit) × (List Df × List ByteArray × List Rl × Unit) × Unit) (fun rec ((i7, (_, (_, (own2, (t6, _))))), ((o0, _), ((o1a, (o1b, (o1c, _))), _))) =>
   bif (bS i7 (len o0)) then
    jb (P := (Int × Unit × Unit × List ByteArray × Int × Unit) × (List Tn × Unit) × (List Df × List ByteArray × List Rl × Unit) × Unit) (
      ok (bQ i7 (len o0)) <|
      jb (P := (Bool × Unit × Unit × List ByteArray × Int × Unit × Int × Unit) × (List Df × List ByteArray × List Rl × Unit) × Tn × (List Tn × Unit) × Unit) (
        bif ((List.getD o0 (Int.toNat i7) (0, (0, ((bs []), ())))).1 != 2) then
         some (.inr ((((List.getD o0 (Int.toNat i7) (0, (0, ((bs []), ())))).1 != 13), ((), ((), (own2, (i7, ((), (t6, ()))))))), ((o1a, (o1b, (o1c, ()))), (((List.getD o0 (Int.toNat i7) (0, (0, ((bs []), ())))).1, ((List.getD o0 (Int.toNat i7) (0, (0, ((bs []), ())))).2.1, ((List.getD o0 (Int.toNat i7) (0, (0, ((bs []), ())))).2.2.1, ()))), ((o0, ()), ())))))
        else
        some (.inr ((false, ((), ((), (own2, (i7, ((), (t6, ()))))))), ((o1a, (o1b, (o1c, ()))), (((List.getD o0 (Int.toNat i7) (0, (0, ((bs []), ())))).1, ((List.getD o0 (Int.toNat i7) (0, (0, ((bs []), ())))).2.1, ((List.getD o0 (Int.toNat i7) (0, (0, ((bs []), ())))).2.2.1, ()))), ((o0, ()), ())))))) fun ((t30, (_, (_, (own2_1, (i7_1, (_, (t6_1, _))))))), ((o0a, (o0b, (o0c, _))), ((o1a_1, (o1b_1, (o1c_1, _))), ((o2, _), _)))) =>
      bif t30 then
       some (.inr ((i7_1, ((), ((), (own2_1, (t6_1, ()))))), ((o2, ()), ((o0a, (o0b, (o0c, ()))), ()))))
      else
      (gz R o0a o0b o0c o1c_1).bind fun (r74_1, _) =>
      (gy R own2_1 o1c_1).bind fun (r40_1, _) =>
      jb (P := (Bool × Bool × Unit × Unit × Int × Int × Unit × List ByteArray × Int × Unit) × Tn × (List Df × List ByteArray × List Rl × Unit) × (List Tn × Unit) × Unit) (
        bif (bS r74_1 0) then
         some (.inr (((!(kG 0 r40_1)), ((kG 0 r40_1), ((), ((), (r74_1, (i7_1, ((), (own2_1, (t6_1, ()))))))))), ((o1a_1, (o1b_1, (o1c_1, ()))), ((o0a, (o0b, (o0c, ()))), ((o2, ()), ())))))
        else
        some (.inr ((false, ((kG 0 r40_1), ((), ((), (r74_1, (i7_1, ((), (own2_1, (t6_1, ()))))))))), ((o1a_1, (o1b_1, (o1c_1, ()))), ((o0a, (o0b, (o0c, ()))), ((o2, ()), ())))))) fun ((t45, (mine10, (_, (_, (k9, (i7_2, (_, (own2_2, (t6_2, _))))))))), ((o0a_1, (o0b_1, (o0c_1, _))), ((o1a_2, (o1b_2, (o1c_2, _))), ((o2_1, _), _)))) =>
      bif t45 then
       some (.inl (8, ()))
      else
      bif mine10 then
       bif (o0a_1 == 13) then
        some (.inl (9, ()))
       else
       some (.inr ((i7_2, ((), ((), (own2_2, (t6_2, ()))))), ((o2_1, ()), ((o1a_2, (o1b_2, (o1c_2, ()))), ()))))
      else
      ok (bQ k9 (len o1a_2)) <|
      bif ((len (List.getD o1a_2 (Int.toNat k9) cg).2.1) != o0b_1) then
       some (.inl (9, ()))
      else
      some (.inr ((i7_2, ((), ((), (own2_2, (t6_2, ()))))), ((o2_1, ()), ((o1a_2, (o1b_2, (o1c_2, ()))), ()))))) fun ((i7_3, (_, (_, (own2_3, (t6_3, _))))), ((o0_1, _), ((o1a_3, (o1b_3, (o1c_3, _))), _))) =>
    rec (((aB .i64 i7_3 1), ((), ((), (own2_3, (t6_3, ()))))), ((o0_1, ()), ((o1a_3, (o1b_3, (o1c_3, ()))), ())))
   else
   some (0, ())) n ((0, ((), ((), (u4, (0, ()))))), ((u3, ()), ((u0, (u1, (u2, ()))), ())))
noncomputable def qY (R : ax) (n : Nat) (u0 : List Df) (u1 : List ByteArray) (u2 : List Rl) (u3 : Int) (u4 : Int) (u5 : Int) : Option (Bool × Unit) :=
 iter (P := (Int × Unit × Int × Int × Int × Bool × Unit) × (List Df × List ByteArray × List Rl × Unit) × Unit) (fun rec ((i9, (_, (from1, (to2, (steps3, (t8, _)))))), ((o0a, (o0b, (o0c, _))), _)) =>
   ok (bQ from1 (len o0a)) <|
   bif (bS i9 (len (List.getD o0a (Int.toNat from1) cg).2.2.1.1)) then
    jb (P := (Int × Unit × Int × Int × Int × Bool × Unit) × (List Df × List ByteArray × List Rl × Unit) × Unit) (
      ok (bQ from1 (len o0a)) <|
      ok (bQ i9 (len (List.getD o0a (Int.toNat from1) cg).2.2.1.1)) <|
      jb (P := (Bool × Unit × Unit × Int × Int × Int × Int × Bool × Unit) × (List Df × List ByteArray × List Rl × Unit) × Tn × Unit) (
        bif ((List.getD (List.getD o0a (Int.toNat from1) cg).2.2.1.1 (Int.toNat i9) (0, (0, ((bs []), ())))).1 != 2) then
         some (.inr ((((List.getD (List.getD o0a (Int.toNat from1) cg).2.2.1.1 (Int.toNat i9) (0, (0, ((bs []), ())))).1 != 13), ((), ((), (to2, (steps3, (i9, (from1, (t8, ())))))))), ((o0a, (o0b, (o0c, ()))), (((List.getD (List.getD o0a (Int.toNat from1) cg).2.2.1.1 (Int.toNat i9) (0, (0, ((bs []), ())))).1, ((List.getD (List.getD o0a (Int.toNat from1) cg).2.2.1.1 (Int.toNat i9) (0, (0, ((bs []), ())))).2.1, ((List.getD (List.getD o0a (Int.toNat from1) cg).2.2.1.1 (Int.toNat i9) (0, (0, ((bs []), ())))).2.2.1, ()))), ()))))
        else
        some (.inr ((false, ((), ((), (to2, (steps3, (i9, (from1, (t8, ())))))))), ((o0a, (o0b, (o0c, ()))), (((List.getD (List.getD o0a (Int.toNat from1) cg).2.2.1.1 (Int.toNat i9) (0, (0, ((bs []), ())))).1, ((List.getD (List.getD o0a (Int.toNat from1) cg).2.2.1.1 (Int.toNat i9) (0, (0, ((bs []), ())))).2.1, ((List.getD (List.getD o0a (Int.toNat from1) cg).2.2.1.1 (Int.toNat i9) (0, (0, ((bs []), ())))).2.2.1, ()))), ()))))) fun ((t41, (_, (_, (to2_1, (steps3_1, (i9_1, (from1_1, (t8_1, _)))))))), ((o0a_1, (o0b_1, (o0c_1, _))), ((o1a, (o1b, (o1c, _))), _))) =>
      bif t41 then
       some (.inr ((i9_1, ((), (from1_1, (to2_1, (steps3_1, (t8_1, ())))))), ((o0a_1, (o0b_1, (o0c_1, ()))), ())))
      else
      (gz R o0a_1 o0b_1 o0c_1 o1c).bind fun (r74_1, _) =>
      jb (P := (Bool × Int × Unit × Int × Int × Int × Bool × Unit) × (List Df × List ByteArray × List Rl × Unit) × Unit) (
        bif (r74_1 == to2_1) then
         some (.inr ((true, (i9_1, ((), (from1_1, (to2_1, (steps3_1, (t8_1, ()))))))), ((o0a_1, (o0b_1, (o0c_1, ()))), ())))
        else
        bif (kG 0 r74_1) then
         bif (bS 1 steps3_1) then
          (gA R o0a_1 o0b_1 o0c_1 r74_1 to2_1 (mN .i64 steps3_1 1)).bind fun (r139_1, _) =>
          some (.inr ((r139_1, (i9_1, ((), (from1_1, (to2_1, (steps3_1, (t8_1, ()))))))), ((o0a_1, (o0b_1, (o0c_1, ()))), ())))
         else
         some (.inr ((false, (i9_1, ((), (from1_1, (to2_1, (steps3_1, (t8_1, ()))))))), ((o0a_1, (o0b_1, (o0c_1, ()))), ())))
        else
        some (.inr ((false, (i9_1, ((), (from1_1, (to2_1, (steps3_1, (t8_1, ()))))))), ((o0a_1, (o0b_1, (o0c_1, ()))), ())))) fun ((t64, (i9_2, (_, (from1_2, (to2_2, (steps3_2, (t8_2, _))))))), ((o0a_2, (o0b_2, (o0c_2, _))), _)) =>
      bif t64 then
       some (.inl (true, ()))
      else
      some (.inr ((i9_2, ((), (from1_2, (to2_2, (steps3_2, (t8_2, ())))))), ((o0a_2, (o0b_2, (o0c_2, ()))), ())))) fun ((i9_3, (_, (from1_3, (to2_3, (steps3_3, (t8_3, _)))))), ((o0a_3, (o0b_3, (o0c_3, _))), _)) =>
    rec (((aB .i64 i9_3 1), ((), (from1_3, (to2_3, (steps3_3, (t8_3, ())))))), ((o0a_3, (o0b_3, (o0c_3, ()))), ()))
   else
   some (false, ())) n ((0, ((), (u3, (u4, (u5, (false, ())))))), ((u0, (u1, (u2, ()))), ()))
noncomputable def Ao (R : ax) (n : Nat) (u0 : Int) : Option (Bool × Unit) :=
 jb (P := (Bool × Unit) × Unit) (
   bif (kG 97 u0) then
    some (.inr (((kG u0 122), ()), ()))
   else
   some (.inr ((false, ()), ()))) fun ((t2, _), _) =>
 some (t2, ())
noncomputable def B4 (R : ax) (n : Nat) (u0 : Int) : Option (Bool × Unit) :=
 jb (P := (Bool × Unit) × Unit) (
   bif (kG 48 u0) then
    some (.inr (((kG u0 57), ()), ()))
   else
   some (.inr ((false, ()), ()))) fun ((t2, _), _) =>
 some (t2, ())
noncomputable def mD (R : ax) (n : Nat) (u0 : Int) (u1 : Int) (u2 : ByteArray) : Option (Int × Unit) :=
 jb (P := (Unit × Bool × Int × Unit) × Tn × Unit) (
   bif (u1 == 0) then
    some (.inr (((), ((seq u2 (bs [])), (0, ()))), ((u0, (u1, (u2, ()))), ())))
   else
   some (.inr (((), (false, (0, ()))), ((u0, (u1, (u2, ()))), ())))) fun ((_, (bare3, (t2, _))), ((o0a, (o0b, (o0c, _))), _)) =>
 jb (P := (Int × Unit) × Unit) (
   bif (o0a == 1) then
    jb (P := (Bool × Int × Unit) × Unit) (
      bif (o0b == 0) then
       (nI R o0c).bind fun (r160_1, _) =>
       some (.inr ((r160_1, (t2, ())), ()))
      else
      some (.inr ((false, (t2, ())), ()))) fun ((t23, (t2_1, _)), _) =>
    bif t23 then
     some (.inl (0, ()))
    else
    some (.inr ((t2_1, ()), ()))
   else
   bif (o0a == 2) then
    jb (P := (Bool × Int × Unit) × Unit) (
      bif (o0b == 0) then
       (c8 R o0c).bind fun (r36_1, _) =>
       some (.inr ((r36_1, (t2, ())), ()))
      else
      some (.inr ((false, (t2, ())), ()))) fun ((t33, (t2_2, _)), _) =>
    bif t33 then
     some (.inl (0, ()))
    else
    some (.inr ((t2_2, ()), ()))
   else
   jb (P := (Bool × Bool × Int × Unit × Int × Unit) × Tn × Unit) (
     bif (o0a == 3) then
      some (.inr ((true, (bare3, (o0a, ((), (t2, ()))))), ((o0a, (o0b, (o0c, ()))), ())))
     else
     bif (o0a == 9) then
      some (.inr ((true, (bare3, (o0a, ((), (t2, ()))))), ((o0a, (o0b, (o0c, ()))), ())))
     else
     some (.inr (((o0a == 10), (bare3, (o0a, ((), (t2, ()))))), ((o0a, (o0b, (o0c, ()))), ())))) fun ((t34, (bare3_1, (t13, (_, (t2_3, _))))), ((o0a_1, (o0b_1, (o0c_1, _))), _)) =>
   bif t34 then
    bif bare3_1 then
     some (.inl (1, ()))
    else
    some (.inr ((t2_3, ()), ()))
   else
   jb (P := (Bool × Bool × Int × Unit × Int × Unit) × Tn × Unit) (
     bif (t13 == 4) then
      some (.inr ((true, (bare3_1, (t13, ((), (t2_3, ()))))), ((o0a_1, (o0b_1, (o0c_1, ()))), ())))
     else
     bif (t13 == 5) then
      some (.inr ((true, (bare3_1, (t13, ((), (t2_3, ()))))), ((o0a_1, (o0b_1, (o0c_1, ()))), ())))
     else
     bif (t13 == 6) then
      some (.inr ((true, (bare3_1, (t13, ((), (t2_3, ()))))), ((o0a_1, (o0b_1, (o0c_1, ()))), ())))
     else
     bif (t13 == 7) then
      some (.inr ((true, (bare3_1, (t13, ((), (t2_3, ()))))), ((o0a_1, (o0b_1, (o0c_1, ()))), ())))
     else
     bif (t13 == 11) then
      some (.inr ((true, (bare3_1, (t13, ((), (t2_3, ()))))), ((o0a_1, (o0b_1, (o0c_1, ()))), ())))
     else
     some (.inr (((t13 == 12), (bare3_1, (t13, ((), (t2_3, ()))))), ((o0a_1, (o0b_1, (o0c_1, ()))), ())))) fun ((t39, (bare3_2, (t13_1, (_, (t2_4, _))))), ((o0a_2, (o0b_2, (o0c_2, _))), _)) =>
   bif t39 then
    bif bare3_2 then
     some (.inl (2, ()))
    else
    some (.inr ((t2_4, ()), ()))
   else
   bif (t13_1 == 8) then
    jb (P := (Bool × Int × Unit) × Unit) (
      (tE R o0b_2 0 8).bind fun (r53_1, _) =>
      bif r53_1 then
       some (.inr (((seq o0c_2 (bs [])), (t2_4, ())), ()))
      else
      some (.inr ((false, (t2_4, ())), ()))) fun ((t56, (t2_5, _)), _) =>
    bif t56 then
     some (.inl (1, ()))
    else
    some (.inr ((t2_5, ()), ()))
   else
   bif (t13_1 == 13) then
    jb (P := (Bool × Unit × Int × Unit) × Tn × Unit) (
      (tE R o0b_2 1 6).bind fun (r53_2_1, _) =>
      bif r53_2_1 then
       (c8 R o0c_2).bind fun (r36_2_1, _) =>
       some (.inr ((r36_2_1, ((), (t2_4, ()))), ((o0a_2, (o0b_2, (o0c_2, ()))), ())))
      else
      some (.inr ((false, ((), (t2_4, ()))), ((o0a_2, (o0b_2, (o0c_2, ()))), ())))) fun ((t66, (_, (t2_6, _))), ((o0a_3, (o0b_3, (o0c_3, _))), _)) =>
    bif t66 then
     some (.inl (o0b_3, ()))
    else
    some (.inr ((t2_6, ()), ()))
   else
   some (.inr ((t2_4, ()), ()))) fun ((t2_7, _), _) =>
 some ((-1), ())
noncomputable def eC (R : ax) (n : Nat) (u0 : List ByteArray) : Option (Int × Unit) :=
 iter (P := (Int × Int × Unit × List ByteArray × Int × Unit) × Unit) (fun rec ((t8, (t7, (_, (s0, (t4, _))))), _) =>
   bif (bS t8 t7) then
    ok (bQ t8 (len s0)) <|
    (gg R (List.getD s0 (Int.toNat t8) (bs []))).bind fun (r97_1, _) =>
    bif r97_1 then
     some (t8, ())
    else
    rec (((aB .i64 t8 1), (t7, ((), (s0, (t4, ()))))), ())
   else
   some ((-1), ())) n ((0, ((len u0), ((), (u0, (0, ()))))), ())
noncomputable def eE (R : ax) (n : Nat) (u0 : List ByteArray) : Option (Int × Unit) :=
 iter (P := (Int × Int × Unit × List ByteArray × Int × Unit) × Unit) (fun rec ((t8, (t7, (_, (s0, (t4, _))))), _) =>
   bif (bS t8 t7) then
    ok (bQ t8 (len s0)) <|
    (gh R (List.getD s0 (Int.toNat t8) (bs []))).bind fun (r98_1, _) =>
    bif r98_1 then
     some (t8, ())
    else
    rec (((aB .i64 t8 1), (t7, ((), (s0, (t4, ()))))), ())
   else
   some ((-1), ())) n ((0, ((len u0), ((), (u0, (0, ()))))), ())
noncomputable def cu (R : ax) (n : Nat) (u0 : List ByteArray) (u1 : List Df) (u2 : List ByteArray) (u3 : List Rl) : Option (Int × List Df × List ByteArray × List Rl × Unit) :=
 iter (P := (Int × Int × Unit × List ByteArray × Int × Unit) × (List Df × List ByteArray × List Rl × Unit) × Unit) (fun rec ((t8, (t7, (_, (s0, (t4, _))))), ((o0a, (o0b, (o0c, _))), _)) =>
   bif (bS t8 t7) then
    ok (bQ t8 (len s0)) <|
    (ir R (List.getD s0 (Int.toNat t8) (bs [])) o0a o0b o0c).bind fun (r103_1, (r103b, (r103c, (r103d, _)))) =>
    bif r103_1 then
     some (t8, (r103b, (r103c, (r103d, ()))))
    else
    rec (((aB .i64 t8 1), (t7, ((), (s0, (t4, ()))))), ((r103b, (r103c, (r103d, ()))), ()))
   else
   some ((-1), (o0a, (o0b, (o0c, ()))))) n ((0, ((len u0), ((), (u0, (0, ()))))), ((u1, (u2, (u3, ()))), ()))
noncomputable def qZ (R : ax) (n : Nat) (u0 : List Tn) : Option (List ByteArray × Unit) :=
 iter (P := (Int × Int × List Tn × Unit × Unit × Unit) × List ByteArray × Mem ByteArray × Unit) (fun rec ((t9, (t8, (t7, (_, (_, _))))), (o0, (o900009, _))) =>
   bif (bS t9 t8) then
    jb (P := (Int × Int × List Tn × Unit × Unit × Unit) × List ByteArray × Mem ByteArray × Unit) (
      ok (bQ t9 (len t7)) <|
      jb (P := (Bool × Unit × Unit × Int × Int × List Tn × Unit × Unit) × List ByteArray × Tn × Mem ByteArray × Unit) (
        bif ((List.getD t7 (Int.toNat t9) (0, (0, ((bs []), ())))).1 == 2) then
         some (.inr ((true, ((), ((), (t9, (t8, (t7, ((), ()))))))), (o0, (((List.getD t7 (Int.toNat t9) (0, (0, ((bs []), ())))).1, ((List.getD t7 (Int.toNat t9) (0, (0, ((bs []), ())))).2.1, ((List.getD t7 (Int.toNat t9) (0, (0, ((bs []), ())))).2.2.1, ()))), (o900009, ())))))
        else
        some (.inr ((((List.getD t7 (Int.toNat t9) (0, (0, ((bs []), ())))).1 == 13), ((), ((), (t9, (t8, (t7, ((), ()))))))), (o0, (((List.getD t7 (Int.toNat t9) (0, (0, ((bs []), ())))).1, ((List.getD t7 (Int.toNat t9) (0, (0, ((bs []), ())))).2.1, ((List.getD t7 (Int.toNat t9) (0, (0, ((bs []), ())))).2.2.1, ()))), (o900009, ())))))) fun ((t20, (_, (_, (t9_1, (t8_1, (t7_1, (_, _))))))), (o0_1, ((o1a, (o1b, (o1c, _))), (o900009_1, _)))) =>
      bif t20 then
       ok (Di (o0_1 ++ [o1c]) 16) <|
       some (.inr ((t9_1, (t8_1, (t7_1, ((), ((), ()))))), ((o0_1 ++ [o1c]), (o900009_1, ()))))
      else
      some (.inr ((t9_1, (t8_1, (t7_1, ((), ((), ()))))), (o0_1, (o900009_1, ()))))) fun ((t9_2, (t8_2, (t7_2, (_, (_, _))))), (o0_2, (o900009_2, _))) =>
    rec (((aB .i64 t9_2 1), (t8_2, (t7_2, ((), ((), ()))))), (o0_2, (o900009_2, ())))
   else
   (db R (o900009 ++ [some o0]) (((List.length o900009) + 1), (0, (List.length o0)))).bind fun (r161_1, _) =>
   (cC R r161_1 (((List.length o900009) + 1), (0, (List.length o0)))).bind fun (r162_1, (r162b, _)) =>
   (cQ R r162b).bind fun (r54_1, _) =>
   some (r54_1, ())) n ((0, ((len u0), (u0, ((), ((), ()))))), ([], ([], ())))
noncomputable def FE (R : ax) (n : Nat) (u0 : List Tn) (u1 : Int) : Option (Int × Unit) :=
 (kJ R u0 u1).bind fun (r163_1, _) =>
 bif (bS r163_1 0) then
  some ((-1), ())
 else
 some (r163_1, ())
noncomputable def pR (R : ax) (n : Nat) (u0 : Mem Dh) (u1 : Mem Rh) (u2 : Mem ByteArray) (u3 : Mem Tn) (u4 : List Tn) : Option (Mem Dh × Mem Rh × Mem ByteArray × Mem Tn × Hd × Unit) :=
 (gB R u0 u1 u2 u3 u4).bind fun (r164_1, (r164b, (r164c, (r164d, (r164e, _))))) =>
 some (r164_1, (r164b, (r164c, (r164d, (r164e, ())))))
noncomputable def zu (R : ax) (n : Nat) (u0 : List Tn) (u1 : List Tn) : Option (Bool × Unit) :=
 (kK R u0 u1).bind fun (r165_1, _) =>
 bif (!r165_1) then
  some (false, ())
 else
 some (true, ())
noncomputable def s9 (R : ax) (n : Nat) (u0 : ByteArray) : Option (Bool × Unit) :=
 (jA R u0 0).bind fun (r169_1, _) =>
 jb (P := (Bool × Int × ByteArray × Bool × Unit) × Unit) (
   bif (bS 60 (cW u0)) then
    some (.inr ((true, (r169_1, (u0, (false, ())))), ()))
   else
   bif (r169_1 == 0) then
    some (.inr ((true, (r169_1, (u0, (false, ())))), ()))
   else
   bif (bS 1 r169_1) then
    ok (bQ 0 (cW u0)) <|
    some (.inr ((((bt u0 0) == 48), (r169_1, (u0, (false, ())))), ()))
   else
   some (.inr ((false, (r169_1, (u0, (false, ())))), ()))) fun ((t25, (n3, (s0, (t2, _)))), _) =>
 bif t25 then
  some (false, ())
 else
 jb (P := (Int × ByteArray × Bool × Unit) × Unit) (
   jb (P := (Bool × ByteArray × Int × Bool × Unit) × Unit) (
     bif (bS n3 (cW s0)) then
      ok (bQ n3 (cW s0)) <|
      some (.inr ((((bt s0 n3) == 46), (s0, (n3, (t2, ())))), ()))
     else
     some (.inr ((false, (s0, (n3, (t2, ())))), ()))) fun ((t36, (s0_1, (at4, (t2_1, _)))), _) =>
   bif t36 then
    (jA R s0_1 (aB .i64 at4 1)).bind fun (r169_2_1, _) =>
    bif (r169_2_1 == 0) then
     some (.inl (false, ()))
    else
    some (.inr (((aB .i64 (aB .i64 at4 1) r169_2_1), (s0_1, (t2_1, ()))), ()))
   else
   some (.inr ((at4, (s0_1, (t2_1, ()))), ()))) fun ((at4_1, (s0_2, (t2_2, _))), _) =>
 jb (P := (Int × ByteArray × Bool × Unit) × Unit) (
   jb (P := (Bool × Int × ByteArray × Bool × Unit) × Unit) (
     bif (bS at4_1 (cW s0_2)) then
      ok (bQ at4_1 (cW s0_2)) <|
      some (.inr ((((bt s0_2 at4_1) == 101), (at4_1, (s0_2, (t2_2, ())))), ()))
     else
     some (.inr ((false, (at4_1, (s0_2, (t2_2, ())))), ()))) fun ((t56, (at4_2, (s0_3, (t2_3, _)))), _) =>
   bif t56 then
    jb (P := (Bool × Int × ByteArray × Bool × Unit) × Unit) (
      bif (bS (aB .i64 at4_2 1) (cW s0_3)) then
       ok (bQ (aB .i64 at4_2 1) (cW s0_3)) <|
       some (.inr ((((bt s0_3 (aB .i64 at4_2 1)) == 45), ((aB .i64 at4_2 1), (s0_3, (t2_3, ())))), ()))
      else
      some (.inr ((false, ((aB .i64 at4_2 1), (s0_3, (t2_3, ())))), ()))) fun ((minus6, (at4_3, (s0_4, (t2_4, _)))), _) =>
    jb (P := (ByteArray × Int × Bool × Bool × Unit) × Unit) (
      bif minus6 then
       some (.inr ((s0_4, ((aB .i64 at4_3 1), (minus6, (t2_4, ())))), ()))
      else
      some (.inr ((s0_4, (at4_3, (minus6, (t2_4, ())))), ()))) fun ((s0_5, (at4_4, (minus6_1, (t2_5, _)))), _) =>
    (jA R s0_5 at4_4).bind fun (r169_3_1, _) =>
    jb (P := (Bool × Int × Int × ByteArray × Bool × Unit) × Unit) (
      bif (r169_3_1 == 0) then
       some (.inr ((true, (at4_4, (r169_3_1, (s0_5, (t2_5, ()))))), ()))
      else
      bif (bS 3 r169_3_1) then
       some (.inr ((true, (at4_4, (r169_3_1, (s0_5, (t2_5, ()))))), ()))
      else
      ok (bQ at4_4 (cW s0_5)) <|
      bif ((bt s0_5 at4_4) == 48) then
       bif (bS 1 r169_3_1) then
        some (.inr ((true, (at4_4, (r169_3_1, (s0_5, (t2_5, ()))))), ()))
       else
       bif minus6_1 then
        some (.inr ((true, (at4_4, (r169_3_1, (s0_5, (t2_5, ()))))), ()))
       else
       bif (r169_3_1 == 3) then
        ok (ba at4_4 (aB .i64 at4_4 r169_3_1) (cW s0_5)) <|
        some (.inr (((!(slt (ByteArray.extract s0_5 (Int.toNat at4_4) (Int.toNat (aB .i64 at4_4 r169_3_1))) (bs [52, 48, 48]) || seq (ByteArray.extract s0_5 (Int.toNat at4_4) (Int.toNat (aB .i64 at4_4 r169_3_1))) (bs [52, 48, 48]))), (at4_4, (r169_3_1, (s0_5, (t2_5, ()))))), ()))
       else
       some (.inr ((false, (at4_4, (r169_3_1, (s0_5, (t2_5, ()))))), ()))
      else
      bif (r169_3_1 == 3) then
       ok (ba at4_4 (aB .i64 at4_4 r169_3_1) (cW s0_5)) <|
       some (.inr (((!(slt (ByteArray.extract s0_5 (Int.toNat at4_4) (Int.toNat (aB .i64 at4_4 r169_3_1))) (bs [52, 48, 48]) || seq (ByteArray.extract s0_5 (Int.toNat at4_4) (Int.toNat (aB .i64 at4_4 r169_3_1))) (bs [52, 48, 48]))), (at4_4, (r169_3_1, (s0_5, (t2_5, ()))))), ()))
      else
      some (.inr ((false, (at4_4, (r169_3_1, (s0_5, (t2_5, ()))))), ()))) fun ((t106, (at4_5, (k7, (s0_6, (t2_6, _))))), _) =>
    bif t106 then
     some (.inl (false, ()))
    else
    some (.inr (((aB .i64 at4_5 k7), (s0_6, (t2_6, ()))), ()))
   else
   some (.inr ((at4_2, (s0_3, (t2_3, ()))), ()))) fun ((at4_6, (s0_7, (t2_7, _))), _) =>
 some ((at4_6 == (cW s0_7)), ())
noncomputable def uU (R : ax) (n : Nat) (u0 : List ByteArray) : Option (Bool × Unit) :=
 iter (P := (Int × List ByteArray × Bool × Unit) × Unit) (fun rec ((i3, (l0, (t2, _))), _) =>
   bif (bS i3 (len l0)) then
    ok (bQ i3 (len l0)) <|
    (da R (List.getD l0 (Int.toNat i3) (bs []))).bind fun (r42_1, _) =>
    bif (!r42_1) then
     some (false, ())
    else
    rec (((aB .i64 i3 1), (l0, (t2, ()))), ())
   else
   some (true, ())) n ((0, (u0, (false, ()))), ())
noncomputable def xe (R : ax) (n : Nat) (u0 : Int) : Option (Bool × Unit) :=
 jb (P := (Bool × Unit) × Unit) (
   bif (u0 == 1) then
    some (.inr ((true, ()), ()))
   else
   bif (u0 == 2) then
    some (.inr ((true, ()), ()))
   else
   some (.inr (((u0 == 3), ()), ()))) fun ((t2, _), _) =>
 some (t2, ())
noncomputable def ta (R : ax) (n : Nat) (u0 : ByteArray) : Option (Bool × Unit) :=
 jb (P := (Bool × Unit) × Unit) (
   (vW R u0).bind fun (r172_1, _) =>
   bif r172_1 then
    some (.inr (((kG (cW u0) 60), ()), ()))
   else
   some (.inr ((false, ()), ()))) fun ((t2, _), _) =>
 some (t2, ())
noncomputable def pS (R : ax) (n : Nat) (u0 : List Tn) (u1 : Int) : Option (Int × Unit) :=
 bif (bS (mN .i64 u1 (len u0)) 0) then
  some ((-1), ())
 else
 iter (P := (Int × List Tn × Int × Int × Unit) × Unit) (fun rec ((i5, (a0, (left1, (t4, _)))), _) =>
   bif (bS i5 (len a0)) then
    ok (bQ i5 (len a0)) <|
    (iS R (List.getD a0 (Int.toNat i5) (0, (0, ((bs []), ())))).1 (List.getD a0 (Int.toNat i5) (0, (0, ((bs []), ())))).2.1 (List.getD a0 (Int.toNat i5) (0, (0, ((bs []), ())))).2.2.1 left1).bind fun (r175_1, _) =>
    bif (bS r175_1 0) then
     some ((-1), ())
    else
    rec (((aB .i64 i5 1), (a0, (r175_1, (t4, ())))), ())
   else
   some (left1, ())) n ((0, (u0, ((mN .i64 u1 (len u0)), (0, ())))), ())
noncomputable def kj (R : ax) (n : Nat) (u0 : Mem Dh) (u1 : Mem Rh) (u2 : Mem ByteArray) (u3 : Mem Tn) (u4 : List Tn) : Option (Mem Dh × Mem Rh × Mem ByteArray × Mem Tn × Hd × Unit) :=
 ok (An (len u4) (len u4) 32) <|
 iter (P := (Int × List Tn × Unit × Unit × Unit) × List Tn × Mem Dh × Mem Rh × Mem ByteArray × Mem Tn × Unit) (fun rec ((i4, (a0, (_, (_, _)))), (o0, (o900059, (o900057, (o900009, (o900073, _)))))) =>
   bif (bS i4 (len a0)) then
    ok (bQ i4 (len a0)) <|
    (mq R (List.getD a0 (Int.toNat i4) (0, (0, ((bs []), ())))).1 (List.getD a0 (Int.toNat i4) (0, (0, ((bs []), ())))).2.1 (List.getD a0 (Int.toNat i4) (0, (0, ((bs []), ())))).2.2.1).bind fun (r176_1, (r176b, (r176c, _))) =>
    ok (bQ i4 (len o0)) <|
    rec (((aB .i64 i4 1), (a0, ((), ((), ())))), ((List.set o0 (Int.toNat i4) (r176_1, (r176b, (r176c, ())))), (o900059, (o900057, (o900009, (o900073, ()))))))
   else
   some (o900059, (o900057, (o900009, ((o900073 ++ [some o0]), ((((List.length o900073) + 1), (0, (List.length o0))), ())))))) n ((0, (u4, ((), ((), ())))), ((List.replicate (Int.toNat (len u4)) (0, (0, ((bs []), ())))), (u0, (u1, (u2, (u3, ()))))))
noncomputable def pT (R : ax) (n : Nat) (u0 : List Tn) (u1 : List Tn) : Option (Bool × Unit) :=
 bif ((len u0) != (len u1)) then
  some (false, ())
 else
 iter (P := (Int × List Tn × List Tn × Bool × Unit) × Unit) (fun rec ((i5, (a0, (b1, (t4, _)))), _) =>
   bif (bS i5 (len a0)) then
    ok (bQ i5 (len a0)) <|
    ok (bQ i5 (len b1)) <|
    (iT R (List.getD a0 (Int.toNat i5) (0, (0, ((bs []), ())))).1 (List.getD a0 (Int.toNat i5) (0, (0, ((bs []), ())))).2.1 (List.getD a0 (Int.toNat i5) (0, (0, ((bs []), ())))).2.2.1 (List.getD b1 (Int.toNat i5) (0, (0, ((bs []), ())))).1 (List.getD b1 (Int.toNat i5) (0, (0, ((bs []), ())))).2.1 (List.getD b1 (Int.toNat i5) (0, (0, ((bs []), ())))).2.2.1).bind fun (r177_1, _) =>
    bif (!r177_1) then
     some (false, ())
    else
    rec (((aB .i64 i5 1), (a0, (b1, (t4, ())))), ())
   else
   some (true, ())) n ((0, (u0, (u1, (false, ())))), ())
noncomputable def zv (R : ax) (n : Nat) (u0 : ByteArray) (u1 : Int) : Option (Int × Unit) :=
 iter (P := (Int × Int × ByteArray × Int × Unit) × Unit) (fun rec ((from1, (n5, (s0, (t4, _)))), _) =>
   jb (P := (Bool × Int × Int × ByteArray × Int × Unit) × Unit) (
     bif (bS (aB .i64 from1 n5) (cW s0)) then
      ok (bQ (aB .i64 from1 n5) (cW s0)) <|
      (ly R (bt s0 (aB .i64 from1 n5))).bind fun (r141_1, _) =>
      some (.inr ((r141_1, (n5, (from1, (s0, (t4, ()))))), ()))
     else
     some (.inr ((false, (n5, (from1, (s0, (t4, ()))))), ()))) fun ((t19, (n5_1, (from1_1, (s0_1, (t4_1, _))))), _) =>
   bif t19 then
    rec ((from1_1, ((aB .i64 n5_1 1), (s0_1, (t4_1, ())))), ())
   else
   some (n5_1, ())) n ((u1, (0, (u0, (0, ())))), ())
noncomputable def Bb (R : ax) (n : Nat) (u0 : ByteArray) : Option (Bool × Unit) :=
 (qO R u0).bind fun (r179_1, (r179b, (r179c, (r179d, _)))) =>
 jb (P := (Bool × Unit) × Unit) (
   bif r179d then
    some (.inr (((kG (cW u0) 60), ()), ()))
   else
   some (.inr ((false, ()), ()))) fun ((t2, _), _) =>
 some (t2, ())
noncomputable def zw (R : ax) (n : Nat) (u0 : Int) (u1 : Int) (u2 : ByteArray) (u3 : Int) : Option (Int × Unit) :=
 bif (bS (mN .i64 u3 (cW u2)) 0) then
  some ((-1), ())
 else
 some ((mN .i64 u3 (cW u2)), ())
noncomputable def zx (R : ax) (n : Nat) (u0 : Int) (u1 : Int) (u2 : ByteArray) : Option Tn :=
 some (u0, (u1, (u2, ())))
noncomputable def q8 (R : ax) (n : Nat) (u0 : Int) (u1 : Int) (u2 : ByteArray) (u3 : Int) (u4 : Int) (u5 : ByteArray) : Option (Bool × Unit) :=
 bif (u0 != u3) then
  some (false, ())
 else
 bif (u1 != u4) then
  some (false, ())
 else
 bif (!(seq u2 u5)) then
  some (false, ())
 else
 some (true, ())
noncomputable def xf (R : ax) (n : Nat) (u0 : ByteArray) : Option (ByteArray × ByteArray × Int × Bool × Unit) :=
 (hU R u0 (bs [101])).bind fun (r191_1, (r191b, (r191c, _))) =>
 (hU R r191_1 (bs [46])).bind fun (r191_2_1, (r191_2b, (r191_2c, _))) =>
 jb (P := (Bool × Bool × ByteArray × ByteArray × ByteArray × ByteArray × ByteArray × Int × Bool × Unit) × Unit) (
   (ic R r191_2_1).bind fun (r192_1, _) =>
   bif (!r192_1) then
    some (.inr ((true, (r191c, (r191_2_1, (r191_2b, (r191b, ((bs []), ((bs []), (0, (false, ()))))))))), ()))
   else
   bif r191_2c then
    (iU R r191_2b).bind fun (r193_1, _) =>
    some (.inr (((!r193_1), (r191c, (r191_2_1, (r191_2b, (r191b, ((bs []), ((bs []), (0, (false, ()))))))))), ()))
   else
   some (.inr ((false, (r191c, (r191_2_1, (r191_2b, (r191b, ((bs []), ((bs []), (0, (false, ()))))))))), ()))) fun ((t38, (hasPower8, (ahead9, (behind10, (power7, (t2, (t3, (t4, (t5, _))))))))), _) =>
 bif t38 then
  some ((bs []), ((bs []), (0, (false, ()))))
 else
 bif (!hasPower8) then
  some (ahead9, (behind10, (0, (true, ()))))
 else
 (gY R power7 (bs [45])).bind fun (r194_1, (r194b, _)) =>
 (mr R r194_1).bind fun (r195_1, (r195b, _)) =>
 jb (P := (Bool × Bool × Int × ByteArray × ByteArray × ByteArray × ByteArray × Int × Bool × Unit) × Unit) (
   bif r195b then
    some (.inr ((true, (r194b, (r195_1, (ahead9, (behind10, (t2, (t3, (t4, (t5, ()))))))))), ()))
   else
   (ic R r194_1).bind fun (r192_2_1, _) =>
   bif (!r192_2_1) then
    some (.inr ((true, (r194b, (r195_1, (ahead9, (behind10, (t2, (t3, (t4, (t5, ()))))))))), ()))
   else
   bif (bS 3 (cW r194_1)) then
    some (.inr ((true, (r194b, (r195_1, (ahead9, (behind10, (t2, (t3, (t4, (t5, ()))))))))), ()))
   else
   bif (bS 400 r195_1) then
    some (.inr ((true, (r194b, (r195_1, (ahead9, (behind10, (t2, (t3, (t4, (t5, ()))))))))), ()))
   else
   bif r194b then
    some (.inr (((r195_1 == 0), (r194b, (r195_1, (ahead9, (behind10, (t2, (t3, (t4, (t5, ()))))))))), ()))
   else
   some (.inr ((false, (r194b, (r195_1, (ahead9, (behind10, (t2, (t3, (t4, (t5, ()))))))))), ()))) fun ((t75, (minus13, (n14, (ahead9_1, (behind10_1, (t2_1, (t3_1, (t4_1, (t5_1, _))))))))), _) =>
 bif t75 then
  some ((bs []), ((bs []), (0, (false, ()))))
 else
 jb (P := (ByteArray × ByteArray × Int × ByteArray × ByteArray × Int × Bool × Unit) × Unit) (
   bif minus13 then
    some (.inr ((ahead9_1, (behind10_1, ((QH .i64 n14), (t2_1, (t3_1, (t4_1, (t5_1, ()))))))), ()))
   else
   some (.inr ((ahead9_1, (behind10_1, (n14, (t2_1, (t3_1, (t4_1, (t5_1, ()))))))), ()))) fun ((ahead9_2, (behind10_2, (n14_1, (t2_2, (t3_2, (t4_2, (t5_2, _))))))), _) =>
 some (ahead9_2, (behind10_2, (n14_1, (true, ()))))
noncomputable def tb (R : ax) (n : Nat) (u0 : ByteArray) (u1 : ByteArray) : Option (ByteArray × ByteArray × Bool × Unit) :=
 (ek R u0 u1).bind fun (r202_1, (r202b, (r202c, _))) =>
 some (r202_1, (r202b, (r202c, ())))
noncomputable def pU (R : ax) (n : Nat) (u0 : ByteArray) : Option (Bool × Unit) :=
 jb (P := (Bool × Unit) × Unit) (
   (iU R u0).bind fun (r193_1, _) =>
   bif r193_1 then
    bif (seq u0 (bs [48])) then
     some (.inr ((true, ()), ()))
    else
    ok (bQ 0 (cW u0)) <|
    some (.inr ((((bt u0 0) != 48), ()), ()))
   else
   some (.inr ((false, ()), ()))) fun ((t2, _), _) =>
 some (t2, ())
noncomputable def uV (R : ax) (n : Nat) (u0 : ByteArray) : Option (Bool × Unit) :=
 iter (P := (Int × Int × ByteArray × Bool × Unit) × Unit) (fun rec ((t6, (t5, (s0, (t2, _)))), _) =>
   bif (bS t6 t5) then
    jb (P := (Bool × Int × Int × ByteArray × Bool × Unit) × Unit) (
      ok (bQ t6 (cW s0)) <|
      bif (bS (bt s0 t6) 48) then
       some (.inr ((true, (t6, (t5, (s0, (t2, ()))))), ()))
      else
      ok (bQ t6 (cW s0)) <|
      some (.inr (((bS 57 (bt s0 t6)), (t6, (t5, (s0, (t2, ()))))), ()))) fun ((t18, (t6_1, (t5_1, (s0_1, (t2_1, _))))), _) =>
    bif t18 then
     some (false, ())
    else
    rec (((aB .i64 t6_1 1), (t5_1, (s0_1, (t2_1, ())))), ())
   else
   some ((!(seq s0 (bs []))), ())) n ((0, ((cW u0), (u0, (false, ())))), ())
noncomputable def kZ (R : ax) (n : Nat) (u0 : ByteArray) (u1 : ByteArray) : Option (ByteArray × Bool × Unit) :=
 (dc R u0 u1).bind fun (r203_1, (r203b, _)) =>
 some (r203_1, (r203b, ()))
noncomputable def gD (R : ax) (n : Nat) (u0 : ByteArray) (u1 : ByteArray) : Option (ByteArray × ByteArray × Bool × Unit) :=
 (dL R u0 u1).bind fun (r207_1, _) =>
 bif (kG 0 r207_1) then
  ok (ba 0 r207_1 (cW u0)) <|
  ok (ba (aB .i64 r207_1 (cW u1)) (cW u0) (cW u0)) <|
  some ((ByteArray.extract u0 (Int.toNat 0) (Int.toNat r207_1)), ((ByteArray.extract u0 (Int.toNat (aB .i64 r207_1 (cW u1))) (Int.toNat (cW u0))), (true, ())))
 else
 some (u0, ((bs []), (false, ())))
noncomputable def eT (R : ax) (n : Nat) (u0 : ByteArray) (u1 : ByteArray) : Option (ByteArray × Bool × Unit) :=
 (de R u0 u1).bind fun (r208_1, _) =>
 bif (!r208_1) then
  some (u0, (false, ()))
 else
 ok (ba (cW u1) (cW u0) (cW u0)) <|
 some ((ByteArray.extract u0 (Int.toNat (cW u1)) (Int.toNat (cW u0))), (true, ()))
noncomputable def eU (R : ax) (n : Nat) (u0 : ByteArray) (u1 : ByteArray) : Option (Bool × Unit) :=
 jb (P := (Bool × Unit) × Unit) (
   bif (kG (cW u1) (cW u0)) then
    ok (ba 0 (cW u1) (cW u0)) <|
    some (.inr (((seq (ByteArray.extract u0 (Int.toNat 0) (Int.toNat (cW u1))) u1), ()), ()))
   else
   some (.inr ((false, ()), ()))) fun ((t4, _), _) =>
 some (t4, ())
end Go.Px.Seat
