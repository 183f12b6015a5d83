/- Own texts, part S3: PxEqs. -/
import Derived.Test.YtmmggkldldbomaaGreatDoorS2
set_option linter.unusedVariables false
namespace Go.Px.Seat
open Go
noncomputable def C (B : ax) : Prog := ⟨T, F, S, B, md, L⟩
variable {B : ax}
theorem mE (R : ax) (n : Nat) (u0 : Mem Dh) (u1 : Mem Rh) (u2 : Mem ByteArray) (u3 : Mem Tn) (u4 : List Df) (u5 : List ByteArray) (u6 : List Rl) (u7 : ByteArray) (u8 : ByteArray) : ej ((C B).step R n) u0 u1 u2 u3 u4 u5 u6 u7 u8 = gC R n u0 u1 u2 u3 u4 u5 u6 u7 u8 := by kernel_rfl
theorem sc (R : ax) (n : Nat) (u0 : Mem Dh) (u1 : Mem Rh) (u2 : Mem ByteArray) (u3 : Mem Tn) (u4 : Hd) (u5 : Hd) (u6 : Hd) (u7 : ByteArray) (u8 : ByteArray) : fh ((C B).step R n) u0 u1 u2 u3 u4 u5 u6 u7 u8 = kU R n u0 u1 u2 u3 u4 u5 u6 u7 u8 := by kernel_rfl
theorem se (R : ax) (n : Nat) (u0 : Mem Dh) (u1 : Mem Rh) (u2 : Mem ByteArray) (u3 : Mem Tn) (u4 : Hd) (u5 : Hd) (u6 : Hd) (u7 : ByteArray) (u8 : ByteArray) : gV ((C B).step R n) u0 u1 u2 u3 u4 u5 u6 u7 u8 = kW R n u0 u1 u2 u3 u4 u5 u6 u7 u8 := by kernel_rfl
theorem B5 (R : ax) (n : Nat) (u0 : List Df) (u1 : List ByteArray) (u2 : List Rl) : iN ((C B).step R n) u0 u1 u2 = uM R n u0 u1 u2 := by kernel_rfl
theorem FG (R : ax) (n : Nat) (u0 : List Df) (u1 : List ByteArray) (u2 : List Rl) (u3 : Int) : tD ((C B).step R n) u0 u1 u2 u3 = zn R n u0 u1 u2 u3 := by kernel_rfl
theorem xy (R : ax) (n : Nat) (u0 : Mem Dh) (u1 : Mem Rh) (u2 : Mem ByteArray) (u3 : Mem Tn) (u4 : List Df) (u5 : List ByteArray) (u6 : List Rl) : eI ((C B).step R n) u0 u1 u2 u3 u4 u5 u6 = pL R n u0 u1 u2 u3 u4 u5 u6 := by kernel_rfl
theorem FH (R : ax) (n : Nat) (u0 : List Df) (u1 : List ByteArray) (u2 : List Rl) (u3 : List Df) (u4 : List ByteArray) (u5 : List Rl) : js ((C B).step R n) u0 u1 u2 u3 u4 u5 = zo R n u0 u1 u2 u3 u4 u5 := by kernel_rfl
theorem nu (R : ax) (n : Nat) (u0 : Mem Dh) (u1 : Mem Rh) (u2 : Mem ByteArray) (u3 : Mem Tn) (u4 : Hd) (u5 : Hd) (u6 : Hd) (u7 : Int) : dJ ((C B).step R n) u0 u1 u2 u3 u4 u5 u6 u7 = iV R n u0 u1 u2 u3 u4 u5 u6 u7 := by kernel_rfl
theorem B6 (R : ax) (n : Nat) (u0 : List Df) (u1 : List ByteArray) (u2 : List Rl) (u3 : Int) : lv ((C B).step R n) u0 u1 u2 u3 = uN R n u0 u1 u2 u3 := by kernel_rfl
theorem kL (R : ax) (n : Nat) (u0 : List ByteArray) (u1 : ByteArray) : cD ((C B).step R n) u0 u1 = fQ R n u0 u1 := by kernel_rfl
theorem jf (R : ax) (n : Nat) (u0 : List ByteArray) (u1 : ByteArray) : a8 ((C B).step R n) u0 u1 = fe R n u0 u1 := by kernel_rfl
theorem vX (R : ax) (n : Nat) (u0 : List Df) (u1 : List ByteArray) (u2 : List Rl) : gI ((C B).step R n) u0 u1 u2 = oy R n u0 u1 u2 := by kernel_rfl
theorem q9 (R : ax) (n : Nat) (u0 : Mem Dh) (u1 : Mem Rh) (u2 : Mem ByteArray) (u3 : Mem Tn) (u4 : Hd) (u5 : Hd) (u6 : Hd) : gx ((C B).step R n) u0 u1 u2 u3 u4 u5 u6 = j8 R n u0 u1 u2 u3 u4 u5 u6 := by kernel_rfl
theorem DX (R : ax) (n : Nat) (u0 : List ByteArray) (u1 : ByteArray) : gy ((C B).step R n) u0 u1 = w9 R n u0 u1 := by kernel_rfl
theorem B7 (R : ax) (n : Nat) (u0 : List Df) (u1 : List ByteArray) (u2 : List Rl) : iO ((C B).step R n) u0 u1 u2 = uO R n u0 u1 u2 := by kernel_rfl
theorem zy (R : ax) (n : Nat) (u0 : ByteArray) : da ((C B).step R n) u0 = qP R n u0 := by kernel_rfl
theorem B8 (R : ax) (n : Nat) (u0 : List Df) (u1 : List ByteArray) (u2 : List Rl) (u3 : ByteArray) : oX ((C B).step R n) u0 u1 u2 u3 = uP R n u0 u1 u2 u3 := by kernel_rfl
theorem xz (R : ax) (n : Nat) (u0 : Mem Dh) (u1 : Mem Rh) (u2 : Mem ByteArray) (u3 : Mem Tn) (u4 : Hd) (u5 : Hd) (u6 : Hd) : kH ((C B).step R n) u0 u1 u2 u3 u4 u5 u6 = pM R n u0 u1 u2 u3 u4 u5 u6 := by kernel_rfl
theorem vY (R : ax) (n : Nat) (u0 : Mem Dh) (u1 : Mem Rh) (u2 : Mem ByteArray) (u3 : Mem Tn) (u4 : Hd) (u5 : ByteArray) (u6 : ByteArray) : gJ ((C B).step R n) u0 u1 u2 u3 u4 u5 u6 = oz R n u0 u1 u2 u3 u4 u5 u6 := by kernel_rfl
theorem xA (R : ax) (n : Nat) (u0 : List Df) (u1 : List ByteArray) (u2 : List Rl) : kI ((C B).step R n) u0 u1 u2 = pN R n u0 u1 u2 := by kernel_rfl
theorem Ap (R : ax) (n : Nat) (u0 : List Df) (u1 : List ByteArray) (u2 : List Rl) : nC ((C B).step R n) u0 u1 u2 = sU R n u0 u1 u2 := by kernel_rfl
theorem zz (R : ax) (n : Nat) (u0 : List Df) (u1 : List ByteArray) (u2 : List Rl) : mb ((C B).step R n) u0 u1 u2 = qQ R n u0 u1 u2 := by kernel_rfl
theorem vZ (R : ax) (n : Nat) (u0 : List Df) (u1 : List ByteArray) (u2 : List Rl) (u3 : ByteArray) (u4 : List ByteArray) (u5 : List Tn) : jt ((C B).step R n) u0 u1 u2 u3 u4 u5 = oA R n u0 u1 u2 u3 u4 u5 := by kernel_rfl
theorem v7 (R : ax) (n : Nat) (u0 : List Df) (u1 : List ByteArray) (u2 : List Rl) (u3 : Int) (u4 : List Tn) (u5 : List Tn) : ju ((C B).step R n) u0 u1 u2 u3 u4 u5 = oB R n u0 u1 u2 u3 u4 u5 := by kernel_rfl
theorem Aq (R : ax) (n : Nat) (u0 : List Df) (u1 : List ByteArray) (u2 : List Rl) : nE ((C B).step R n) u0 u1 u2 = sW R n u0 u1 u2 := by kernel_rfl
theorem JX (R : ax) (n : Nat) (u0 : Int) (u1 : Int) (u2 : Int) : tE ((C B).step R n) u0 u1 u2 = Og R n u0 u1 u2 := by kernel_rfl
theorem lB (R : ax) (n : Nat) (u0 : List ByteArray) : cQ ((C B).step R n) u0 = lA R n u0 := by kernel_rfl
theorem zA (R : ax) (n : Nat) (u0 : List Df) (u1 : Int) : mc ((C B).step R n) u0 u1 = qR R n u0 u1 := by kernel_rfl
theorem Ar (R : ax) (n : Nat) (u0 : List ByteArray) (u1 : Int) : jI ((C B).step R n) u0 u1 = sX R n u0 u1 := by kernel_rfl
theorem zB (R : ax) (n : Nat) (u0 : List Rl) (u1 : Int) : me ((C B).step R n) u0 u1 = qS R n u0 u1 := by kernel_rfl
theorem sg (R : ax) (n : Nat) (u0 : Mem Dh) (u1 : Mem Rh) (u2 : Mem ByteArray) (u3 : Mem Tn) (u4 : List Df) : gW ((C B).step R n) u0 u1 u2 u3 u4 = kX R n u0 u1 u2 u3 u4 := by kernel_rfl
theorem tF (R : ax) (n : Nat) (u0 : Mem Dh) (u1 : Mem Rh) (u2 : Mem ByteArray) (u3 : Mem Tn) (u4 : List ByteArray) : fF ((C B).step R n) u0 u1 u2 u3 u4 = mw R n u0 u1 u2 u3 u4 := by kernel_rfl
theorem sh (R : ax) (n : Nat) (u0 : Mem Dh) (u1 : Mem Rh) (u2 : Mem ByteArray) (u3 : Mem Tn) (u4 : List Rl) : gX ((C B).step R n) u0 u1 u2 u3 u4 = kY R n u0 u1 u2 u3 u4 := by kernel_rfl
theorem zC (R : ax) (n : Nat) (u0 : List Df) (u1 : List Df) : mf ((C B).step R n) u0 u1 = qT R n u0 u1 := by kernel_rfl
theorem As (R : ax) (n : Nat) (u0 : List ByteArray) (u1 : List ByteArray) : jJ ((C B).step R n) u0 u1 = sY R n u0 u1 := by kernel_rfl
theorem zD (R : ax) (n : Nat) (u0 : List Rl) (u1 : List Rl) : mg ((C B).step R n) u0 u1 = qU R n u0 u1 := by kernel_rfl
theorem jl (R : ax) (n : Nat) (u0 : Mem Dh) (u1 : Mem Rh) (u2 : Mem ByteArray) (u3 : Mem Tn) (u4 : Hd) (u5 : Int) : ep ((C B).step R n) u0 u1 u2 u3 u4 u5 = jj R n u0 u1 u2 u3 u4 u5 := by kernel_rfl
theorem kq (R : ax) (n : Nat) (u0 : Mem Dh) (u1 : Mem Rh) (u2 : Mem ByteArray) (u3 : Mem Tn) (u4 : Hd) (u5 : Int) : dE ((C B).step R n) u0 u1 u2 u3 u4 u5 = ke R n u0 u1 u2 u3 u4 u5 := by kernel_rfl
theorem jm (R : ax) (n : Nat) (u0 : Mem Dh) (u1 : Mem Rh) (u2 : Mem ByteArray) (u3 : Mem Tn) (u4 : Hd) (u5 : Int) : er ((C B).step R n) u0 u1 u2 u3 u4 u5 = jk R n u0 u1 u2 u3 u4 u5 := by kernel_rfl
theorem v8 (R : ax) (n : Nat) (u0 : List Df) (u1 : Int) : jv ((C B).step R n) u0 u1 = oC R n u0 u1 := by kernel_rfl
theorem xB (R : ax) (n : Nat) (u0 : List ByteArray) (u1 : Int) : ia ((C B).step R n) u0 u1 = pO R n u0 u1 := by kernel_rfl
theorem wa (R : ax) (n : Nat) (u0 : List Rl) (u1 : Int) : jw ((C B).step R n) u0 u1 = oD R n u0 u1 := by kernel_rfl
theorem zE (R : ax) (n : Nat) (u0 : List Df) (u1 : List ByteArray) (u2 : List Rl) (u3 : ByteArray) : fv ((C B).step R n) u0 u1 u2 u3 = qV R n u0 u1 u2 u3 := by kernel_rfl
theorem FI (R : ax) (n : Nat) (u0 : List Df) (u1 : List ByteArray) (u2 : List Rl) (u3 : ByteArray) : gz ((C B).step R n) u0 u1 u2 u3 = zp R n u0 u1 u2 u3 := by kernel_rfl
theorem DY (R : ax) (n : Nat) (u0 : List ByteArray) : nj ((C B).step R n) u0 = xa R n u0 := by kernel_rfl
theorem FJ (R : ax) (n : Nat) (u0 : List Tn) : jx ((C B).step R n) u0 = zq R n u0 := by kernel_rfl
theorem FK (R : ax) (n : Nat) (u0 : ByteArray) : zm ((C B).step R n) u0 = zr R n u0 := by kernel_rfl
theorem lC (R : ax) (n : Nat) (u0 : Mem Dh) (u1 : Mem Rh) (u2 : Mem ByteArray) (u3 : Mem Tn) (u4 : Hd) : dR ((C B).step R n) u0 u1 u2 u3 u4 = gi R n u0 u1 u2 u3 u4 := by kernel_rfl
theorem wb (R : ax) (n : Nat) (u0 : List ByteArray) : gK ((C B).step R n) u0 = oE R n u0 := by kernel_rfl
theorem lE (R : ax) (n : Nat) (u0 : Mem Dh) (u1 : Mem Rh) (u2 : Mem ByteArray) (u3 : Mem Tn) (u4 : Hd) : dS ((C B).step R n) u0 u1 u2 u3 u4 = gj R n u0 u1 u2 u3 u4 := by kernel_rfl
theorem oH (R : ax) (n : Nat) (u0 : List Tn) : cJ ((C B).step R n) u0 = iz R n u0 := by kernel_rfl
theorem B9 (R : ax) (n : Nat) (u0 : List Df) (u1 : List ByteArray) (u2 : List Rl) : oY ((C B).step R n) u0 u1 u2 = uQ R n u0 u1 u2 := by kernel_rfl
theorem zF (R : ax) (n : Nat) (u0 : List Df) (u1 : List ByteArray) (u2 : List Rl) (u3 : ByteArray) (u4 : List ByteArray) (u5 : List Tn) : mh ((C B).step R n) u0 u1 u2 u3 u4 u5 = qW R n u0 u1 u2 u3 u4 u5 := by kernel_rfl
theorem zG (R : ax) (n : Nat) (u0 : List Df) (u1 : List ByteArray) (u2 : List Rl) (u3 : Int) (u4 : List Tn) (u5 : List Tn) : mj ((C B).step R n) u0 u1 u2 u3 u4 u5 = qX R n u0 u1 u2 u3 u4 u5 := by kernel_rfl
theorem uW (R : ax) (n : Nat) (u0 : Mem Bool) (u1 : List Df) (u2 : List ByteArray) (u3 : List Rl) : iP ((C B).step R n) u0 u1 u2 u3 = nn R n u0 u1 u2 u3 := by kernel_rfl
theorem Ca (R : ax) (n : Nat) (u0 : ByteArray) : oZ ((C B).step R n) u0 = uR R n u0 := by kernel_rfl
theorem DZ (R : ax) (n : Nat) (u0 : ByteArray) : qM ((C B).step R n) u0 = xb R n u0 := by kernel_rfl
theorem D0 (R : ax) (n : Nat) (u0 : List Tn) : j7 ((C B).step R n) u0 = xc R n u0 := by kernel_rfl
theorem FL (R : ax) (n : Nat) (u0 : List Tn) : jy ((C B).step R n) u0 = zt R n u0 := by kernel_rfl
theorem dX (R : ax) (n : Nat) (u0 : List ByteArray) : bf ((C B).step R n) u0 = cd R n u0 := by kernel_rfl
theorem dY (R : ax) (n : Nat) (u0 : List ByteArray) : bg ((C B).step R n) u0 = cf R n u0 := by kernel_rfl
theorem dT (R : ax) (n : Nat) (u0 : List ByteArray) (u1 : List Df) (u2 : List ByteArray) (u3 : List Rl) : bd ((C B).step R n) u0 u1 u2 u3 = ca R n u0 u1 u2 u3 := by kernel_rfl
theorem uX (R : ax) (n : Nat) (u0 : ByteArray) : gg ((C B).step R n) u0 = np R n u0 := by kernel_rfl
theorem uY (R : ax) (n : Nat) (u0 : ByteArray) : gh ((C B).step R n) u0 = nq R n u0 := by kernel_rfl
theorem dj (R : ax) (n : Nat) (u0 : List Df) : aQ ((C B).step R n) u0 = bD R n u0 := by kernel_rfl
theorem df (R : ax) (n : Nat) (u0 : List Df) : aP ((C B).step R n) u0 = bC R n u0 := by kernel_rfl
theorem xC (R : ax) (n : Nat) (u0 : ByteArray) (u1 : List ByteArray) (u2 : List Tn) : ib ((C B).step R n) u0 u1 u2 = pP R n u0 u1 u2 := by kernel_rfl
theorem Ii (R : ax) (n : Nat) (u0 : List ByteArray) : rK ((C B).step R n) u0 = Ba R n u0 := by kernel_rfl
theorem we (R : ax) (n : Nat) (u0 : ByteArray) (u1 : List ByteArray) (u2 : List Tn) : gL ((C B).step R n) u0 u1 u2 = oF R n u0 u1 u2 := by kernel_rfl
theorem tG (R : ax) (n : Nat) (u0 : ByteArray) (u1 : List Df) (u2 : List ByteArray) (u3 : List Rl) : ir ((C B).step R n) u0 u1 u2 u3 = my R n u0 u1 u2 u3 := by kernel_rfl
theorem Au (R : ax) (n : Nat) (u0 : List Df) (u1 : List ByteArray) (u2 : List Rl) (u3 : List Tn) (u4 : List ByteArray) : jK ((C B).step R n) u0 u1 u2 u3 u4 = sZ R n u0 u1 u2 u3 u4 := by kernel_rfl
theorem fA (R : ax) (n : Nat) (u0 : List (List Tn)) : bR ((C B).step R n) u0 = fy R n u0 := by kernel_rfl
theorem Av (R : ax) (n : Nat) (u0 : List Df) (u1 : List ByteArray) (u2 : List Rl) (u3 : Int) : nF ((C B).step R n) u0 u1 u2 u3 = s3 R n u0 u1 u2 u3 := by kernel_rfl
theorem Aw (R : ax) (n : Nat) (u0 : ByteArray) (u1 : List ByteArray) (u2 : List Tn) (u3 : Int) : jL ((C B).step R n) u0 u1 u2 u3 = s4 R n u0 u1 u2 u3 := by kernel_rfl
theorem Ax (R : ax) (n : Nat) (u0 : Int) (u1 : List Tn) (u2 : List Tn) (u3 : Int) : jM ((C B).step R n) u0 u1 u2 u3 = s5 R n u0 u1 u2 u3 := by kernel_rfl
theorem tH (R : ax) (n : Nat) (u0 : Mem Dh) (u1 : Mem Rh) (u2 : Mem ByteArray) (u3 : Mem Tn) (u4 : ByteArray) (u5 : List ByteArray) (u6 : List Tn) : iu ((C B).step R n) u0 u1 u2 u3 u4 u5 u6 = mz R n u0 u1 u2 u3 u4 u5 u6 := by kernel_rfl
theorem tI (R : ax) (n : Nat) (u0 : Mem Dh) (u1 : Mem Rh) (u2 : Mem ByteArray) (u3 : Mem Tn) (u4 : Int) (u5 : List Tn) (u6 : List Tn) : iv ((C B).step R n) u0 u1 u2 u3 u4 u5 u6 = mC R n u0 u1 u2 u3 u4 u5 u6 := by kernel_rfl
theorem Ay (R : ax) (n : Nat) (u0 : ByteArray) (u1 : List ByteArray) (u2 : List Tn) (u3 : ByteArray) (u4 : List ByteArray) (u5 : List Tn) : jN ((C B).step R n) u0 u1 u2 u3 u4 u5 = s6 R n u0 u1 u2 u3 u4 u5 := by kernel_rfl
theorem Az (R : ax) (n : Nat) (u0 : Int) (u1 : List Tn) (u2 : List Tn) (u3 : Int) (u4 : List Tn) (u5 : List Tn) : jO ((C B).step R n) u0 u1 u2 u3 u4 u5 = s7 R n u0 u1 u2 u3 u4 u5 := by kernel_rfl
theorem Cb (R : ax) (n : Nat) (u0 : Int) : eQ ((C B).step R n) u0 = uS R n u0 := by kernel_rfl
theorem pa (R : ax) (n : Nat) (u0 : Mem Dh) (u1 : Mem Rh) (u2 : Mem ByteArray) (u3 : Mem Tn) (u4 : Hd) (u5 : Int) : cv ((C B).step R n) u0 u1 u2 u3 u4 u5 = iW R n u0 u1 u2 u3 u4 u5 := by kernel_rfl
theorem uZ (R : ax) (n : Nat) (u0 : List Tn) (u1 : Int) : eS ((C B).step R n) u0 u1 = nr R n u0 u1 := by kernel_rfl
theorem dC (R : ax) (n : Nat) (u0 : List Df) : aU ((C B).step R n) u0 = dB R n u0 := by kernel_rfl
theorem dt (R : ax) (n : Nat) (u0 : List Df) : aS ((C B).step R n) u0 = dr R n u0 := by kernel_rfl
theorem du (R : ax) (n : Nat) (u0 : List Df) (u1 : ByteArray) : aT ((C B).step R n) u0 u1 = bM R n u0 u1 := by kernel_rfl
theorem wg (R : ax) (n : Nat) (u0 : ByteArray) (u1 : List ByteArray) (u2 : List Tn) (u3 : ByteArray) : jz ((C B).step R n) u0 u1 u2 u3 = oG R n u0 u1 u2 u3 := by kernel_rfl
theorem D9 (R : ax) (n : Nat) (u0 : Int) (u1 : Int) (u2 : ByteArray) : nk ((C B).step R n) u0 u1 u2 = xd R n u0 u1 u2 := by kernel_rfl
theorem Cc (R : ax) (n : Nat) (u0 : Int) : lx ((C B).step R n) u0 = B2 R n u0 := by kernel_rfl
theorem Cd (R : ax) (n : Nat) (u0 : Int) : o7 ((C B).step R n) u0 = B3 R n u0 := by kernel_rfl
theorem fw (R : ax) (n : Nat) (u0 : Mem Dh) (u1 : Mem Rh) (u2 : Mem ByteArray) (u3 : Mem Tn) (u4 : Hd) : bO ((C B).step R n) u0 u1 u2 u3 u4 = cK R n u0 u1 u2 u3 u4 := by kernel_rfl
theorem fx (R : ax) (n : Nat) (u0 : Mem Dh) (u1 : Mem Rh) (u2 : Mem ByteArray) (u3 : Mem Tn) (u4 : Hd) : bP ((C B).step R n) u0 u1 u2 u3 u4 = cM R n u0 u1 u2 u3 u4 := by kernel_rfl
theorem fU (R : ax) (n : Nat) (u0 : List Tn) : bX ((C B).step R n) u0 = fT R n u0 := by kernel_rfl
theorem AA (R : ax) (n : Nat) (u0 : List Df) (u1 : List ByteArray) (u2 : List Rl) : nG ((C B).step R n) u0 u1 u2 = s8 R n u0 u1 u2 := by kernel_rfl
theorem xD (R : ax) (n : Nat) (u0 : List ByteArray) : fO ((C B).step R n) u0 = pQ R n u0 := by kernel_rfl
theorem Ce (R : ax) (n : Nat) (u0 : List Df) (u1 : List ByteArray) (u2 : List Rl) (u3 : List Tn) (u4 : List ByteArray) : iQ ((C B).step R n) u0 u1 u2 u3 u4 = uT R n u0 u1 u2 u3 u4 := by kernel_rfl
theorem zH (R : ax) (n : Nat) (u0 : List Df) (u1 : List ByteArray) (u2 : List Rl) (u3 : Int) (u4 : Int) (u5 : Int) : gA ((C B).step R n) u0 u1 u2 u3 u4 u5 = qY R n u0 u1 u2 u3 u4 u5 := by kernel_rfl
theorem AB (R : ax) (n : Nat) (u0 : Int) : jP ((C B).step R n) u0 = Ao R n u0 := by kernel_rfl
theorem Cf (R : ax) (n : Nat) (u0 : Int) : ly ((C B).step R n) u0 = B4 R n u0 := by kernel_rfl
theorem tJ (R : ax) (n : Nat) (u0 : Int) (u1 : Int) (u2 : ByteArray) : fG ((C B).step R n) u0 u1 u2 = mD R n u0 u1 u2 := by kernel_rfl
theorem eF (R : ax) (n : Nat) (u0 : List ByteArray) : br ((C B).step R n) u0 = eC R n u0 := by kernel_rfl
theorem eG (R : ax) (n : Nat) (u0 : List ByteArray) : bu ((C B).step R n) u0 = eE R n u0 := by kernel_rfl
theorem eu (R : ax) (n : Nat) (u0 : List ByteArray) (u1 : List Df) (u2 : List ByteArray) (u3 : List Rl) : bp ((C B).step R n) u0 u1 u2 u3 = cu R n u0 u1 u2 u3 := by kernel_rfl
theorem zI (R : ax) (n : Nat) (u0 : List Tn) : iR ((C B).step R n) u0 = qZ R n u0 := by kernel_rfl
theorem FM (R : ax) (n : Nat) (u0 : List Tn) (u1 : Int) : ml ((C B).step R n) u0 u1 = FE R n u0 u1 := by kernel_rfl
theorem xE (R : ax) (n : Nat) (u0 : Mem Dh) (u1 : Mem Rh) (u2 : Mem ByteArray) (u3 : Mem Tn) (u4 : List Tn) : fP ((C B).step R n) u0 u1 u2 u3 u4 = pR R n u0 u1 u2 u3 u4 := by kernel_rfl
theorem FN (R : ax) (n : Nat) (u0 : List Tn) (u1 : List Tn) : mn ((C B).step R n) u0 u1 = zu R n u0 u1 := by kernel_rfl
theorem AD (R : ax) (n : Nat) (u0 : ByteArray) : nH ((C B).step R n) u0 = s9 R n u0 := by kernel_rfl
theorem Cg (R : ax) (n : Nat) (u0 : List ByteArray) : lz ((C B).step R n) u0 = uU R n u0 := by kernel_rfl
theorem Ea (R : ax) (n : Nat) (u0 : Int) : qN ((C B).step R n) u0 = xe R n u0 := by kernel_rfl
theorem AE (R : ax) (n : Nat) (u0 : ByteArray) : nI ((C B).step R n) u0 = ta R n u0 := by kernel_rfl
theorem xF (R : ax) (n : Nat) (u0 : List Tn) (u1 : Int) : kJ ((C B).step R n) u0 u1 = pS R n u0 u1 := by kernel_rfl
theorem ra (R : ax) (n : Nat) (u0 : Mem Dh) (u1 : Mem Rh) (u2 : Mem ByteArray) (u3 : Mem Tn) (u4 : List Tn) : gB ((C B).step R n) u0 u1 u2 u3 u4 = kj R n u0 u1 u2 u3 u4 := by kernel_rfl
theorem xG (R : ax) (n : Nat) (u0 : List Tn) (u1 : List Tn) : kK ((C B).step R n) u0 u1 = pT R n u0 u1 := by kernel_rfl
theorem FO (R : ax) (n : Nat) (u0 : ByteArray) (u1 : Int) : jA ((C B).step R n) u0 u1 = zv R n u0 u1 := by kernel_rfl
theorem Ij (R : ax) (n : Nat) (u0 : ByteArray) : vW ((C B).step R n) u0 = Bb R n u0 := by kernel_rfl
theorem zJ (R : ax) (n : Nat) (u0 : Int) (u1 : Int) (u2 : ByteArray) (u3 : Int) : iS ((C B).step R n) u0 u1 u2 u3 = zw R n u0 u1 u2 u3 := by kernel_rfl
theorem zK (R : ax) (n : Nat) (u0 : Int) (u1 : Int) (u2 : ByteArray) : mq ((C B).step R n) u0 u1 u2 = zx R n u0 u1 u2 := by kernel_rfl
theorem zL (R : ax) (n : Nat) (u0 : Int) (u1 : Int) (u2 : ByteArray) (u3 : Int) (u4 : Int) (u5 : ByteArray) : iT ((C B).step R n) u0 u1 u2 u3 u4 u5 = q8 R n u0 u1 u2 u3 u4 u5 := by kernel_rfl
theorem Eb (R : ax) (n : Nat) (u0 : ByteArray) : qO ((C B).step R n) u0 = xf R n u0 := by kernel_rfl
theorem AF (R : ax) (n : Nat) (u0 : ByteArray) (u1 : ByteArray) : hU ((C B).step R n) u0 u1 = tb R n u0 u1 := by kernel_rfl
theorem xH (R : ax) (n : Nat) (u0 : ByteArray) : ic ((C B).step R n) u0 = pU R n u0 := by kernel_rfl
theorem Ch (R : ax) (n : Nat) (u0 : ByteArray) : iU ((C B).step R n) u0 = uV R n u0 := by kernel_rfl
theorem sj (R : ax) (n : Nat) (u0 : ByteArray) (u1 : ByteArray) : gY ((C B).step R n) u0 u1 = kZ R n u0 u1 := by kernel_rfl
theorem mF (R : ax) (n : Nat) (u0 : ByteArray) (u1 : ByteArray) : ek ((C B).step R n) u0 u1 = gD R n u0 u1 := by kernel_rfl
theorem iX (R : ax) (n : Nat) (u0 : ByteArray) (u1 : ByteArray) : dc ((C B).step R n) u0 u1 = eT R n u0 u1 := by kernel_rfl
theorem iY (R : ax) (n : Nat) (u0 : ByteArray) (u1 : ByteArray) : de ((C B).step R n) u0 u1 = eU R n u0 u1 := by kernel_rfl
end Go.Px.Seat
