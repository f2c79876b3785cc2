/- TO. No condition. -/
import Derived.Test.YtnpeieeomokomaaGreatZTN
import Derived.Test.YtnpeieeomokomaaGreatZCH
import Derived.Test.YtnpeieeomokomaaGreatZTA
import Derived.Test.YtnpeieeomokomaaGreatZTG
import Derived.Test.YtnpeieeomokomaaGreatZTJ
import Derived.Test.YtnpeieeomokomaaGreatZTL
import Derived.Test.YtnpeieeomokomaaGreatZTM
set_option maxRecDepth 100000
set_option maxHeartbeats 2000000
noncomputable section
namespace Go.Proofs.YtnpeieeomokomaaGreat
open Go.Sim
variable {h:H}{Q:Uc}
variable{l:Ub}{s:Ua}{v:V}
def zFS:List Go.Oper:=z5I.toList
def oI(i:Nat):Go.Oper:=(zFS[i]?).getD default
theorem zRD:zFS=[oI 0,oI 1,oI 2,oI 3,oI 4,oI 5,oI 6,oI 7,oI 8,oI 9]:=da
theorem okI:ya zFS=some 9:=da
def I_0(p0:Nat)(a:Nat)(p4:Nat)(r:Nat)(s:Ua)(x:Int)(n:Int)(q:Ua)(_:Int)(_:Int)(_:Int):Tm:=(Tb.set (Tb.set (Tb.set (Tb.set (Tb.set (Tb.set (Tb.set (Tb.set (Tb.set (Tb.set (Tb.set (Tb.set (Tb.set (Tb.set (Tb.set (Tb.set (Tb.set (Tb.set (Tb.set (Tb.leaf zC) 0 (.agg (kg s x 0 0))) 1 (dd n)) 2 (.ptr p0 0)) 4 (.ptr a 0)) 5 (.ptr p4 0)) 8 (.agg (kg s x 0 0))) 9 (.ptr r 0)) 6 (.ptr r 0)) 10 (.ptr r 0)) 11 (.ptr r 0)) 12 (.ptr r 0)) 13 (.ptr r 1)) 14 (dd x)) 7 (dd x)) 15 (.ptr r 0)) 16 (dd n)) 17 (.str q)) 18 (.ptr r 0)) 19 (.bool true))
theorem aI0(p0:Nat)(a:Nat)(p4:Nat)(r:Nat)(s:Ua)(x:Int)(n:Int)(q:Ua)(y:Int)(e:Int)(z:Int)(h:H):yD zB (oI 0) (zx (I_0 p0 a p4 r s x n q y e z)) h=some (.val (.ptr r 0) h):=da
def I_1(p0:Nat)(a:Nat)(p4:Nat)(r:Nat)(s:Ua)(x:Int)(n:Int)(q:Ua)(y:Int)(e:Int)(z:Int):Tm:=Tb.set (I_0 p0 a p4 r s x n q y e z) 20 (.ptr r 0)
theorem aI1(p0:Nat)(a:Nat)(p4:Nat)(r:Nat)(s:Ua)(x:Int)(n:Int)(q:Ua)(y:Int)(e:Int)(z:Int)(h:H):yD zB (oI 1) (zx (I_1 p0 a p4 r s x n q y e z)) h=some (.val (.ptr r 0) h):=da
def I_2(p0:Nat)(a:Nat)(p4:Nat)(r:Nat)(s:Ua)(x:Int)(n:Int)(q:Ua)(y:Int)(e:Int)(z:Int):Tm:=Tb.set (I_1 p0 a p4 r s x n q y e z) 21 (.ptr r 0)
theorem aI2(p0:Nat)(a:Nat)(p4:Nat)(r:Nat)(s:Ua)(x:Int)(n:Int)(q:Ua)(y:Int)(e:Int)(z:Int)(h:H):yD zB (oI 2) (zx (I_2 p0 a p4 r s x n q y e z)) h=some (.val (.ptr r 0) h):=da
def I_3(p0:Nat)(a:Nat)(p4:Nat)(r:Nat)(s:Ua)(x:Int)(n:Int)(q:Ua)(y:Int)(e:Int)(z:Int):Tm:=Tb.set (I_2 p0 a p4 r s x n q y e z) 22 (.ptr r 0)
theorem eI3(p0:Nat)(a:Nat)(p4:Nat)(r:Nat)(s:Ua)(x:Int)(n:Int)(q:Ua)(y:Int)(e:Int)(z:Int):(oI 3).op = .load 80 (t 22)/\zx (I_3 p0 a p4 r s x n q y e z) (t 22)=some (.ptr r 0):=⟨da,da⟩
def I_4(p0:Nat)(a:Nat)(p4:Nat)(r:Nat)(s:Ua)(x:Int)(n:Int)(q:Ua)(y:Int)(e:Int)(z:Int):Tm:=Tb.set (I_3 p0 a p4 r s x n q y e z) 23 (.agg (kg s y e z))
theorem aI4(p0:Nat)(a:Nat)(p4:Nat)(r:Nat)(s:Ua)(x:Int)(n:Int)(q:Ua)(y:Int)(e:Int)(z:Int)(h:H):yD zB (oI 4) (zx (I_4 p0 a p4 r s x n q y e z)) h=some (.val (.ptr r 0) h):=da
def I_5(p0:Nat)(a:Nat)(p4:Nat)(r:Nat)(s:Ua)(x:Int)(n:Int)(q:Ua)(y:Int)(e:Int)(z:Int):Tm:=Tb.set (I_4 p0 a p4 r s x n q y e z) 24 (.ptr r 0)
theorem aI5(p0:Nat)(a:Nat)(p4:Nat)(r:Nat)(s:Ua)(x:Int)(n:Int)(q:Ua)(y:Int)(e:Int)(z:Int)(h:H):yD zB (oI 5) (zx (I_5 p0 a p4 r s x n q y e z)) h=some (.val (.ptr r 0) h):=da
def I_6(p0:Nat)(a:Nat)(p4:Nat)(r:Nat)(s:Ua)(x:Int)(n:Int)(q:Ua)(y:Int)(e:Int)(z:Int):Tm:=Tb.set (I_5 p0 a p4 r s x n q y e z) 25 (.ptr r 0)
theorem aI6(p0:Nat)(a:Nat)(p4:Nat)(r:Nat)(s:Ua)(x:Int)(n:Int)(q:Ua)(y:Int)(e:Int)(z:Int)(h:H):yD zB (oI 6) (zx (I_6 p0 a p4 r s x n q y e z)) h=some (.val (.ptr r 0) h):=da
def I_7(p0:Nat)(a:Nat)(p4:Nat)(r:Nat)(s:Ua)(x:Int)(n:Int)(q:Ua)(y:Int)(e:Int)(z:Int):Tm:=Tb.set (I_6 p0 a p4 r s x n q y e z) 26 (.ptr r 0)
theorem eI7(p0:Nat)(a:Nat)(p4:Nat)(r:Nat)(s:Ua)(x:Int)(n:Int)(q:Ua)(y:Int)(e:Int)(z:Int):(oI 7).op = .load 80 (t 26)/\zx (I_7 p0 a p4 r s x n q y e z) (t 26)=some (.ptr r 0):=⟨da,da⟩
def I_8(p0:Nat)(a:Nat)(p4:Nat)(r:Nat)(s:Ua)(x:Int)(n:Int)(q:Ua)(y:Int)(e:Int)(z:Int):Tm:=Tb.set (I_7 p0 a p4 r s x n q y e z) 27 (.agg (kg s y e z))
theorem eI8(p0:Nat)(a:Nat)(p4:Nat)(r:Nat)(s:Ua)(x:Int)(n:Int)(q:Ua)(y:Int)(e:Int)(z:Int):(oI 8).op = .store 80 (t 4) (t 23)/\zx (I_8 p0 a p4 r s x n q y e z) (t 4)=some (.ptr a 0)/\zx (I_8 p0 a p4 r s x n q y e z) (t 23)=some (.agg (kg s y e z)):=⟨da,da,da⟩
theorem z3j(p0:Nat)(a:Nat)(p4:Nat)(r:Nat)(s:Ua)(x:Int)(n:Int)(q:Ua)(y:Int)(e:Int)(z:Int):yq zFS (zi zFS []) 9 8 (I_8 p0 a p4 r s x n q y e z) (oI 8)=((cond (!(Nat.beq a r) && true) true false && true) || false):=da
theorem eI9(p0:Nat)(a:Nat)(p4:Nat)(r:Nat)(s:Ua)(x:Int)(n:Int)(q:Ua)(y:Int)(e:Int)(z:Int):(oI 9).op = .store 80 (t 5) (t 27)/\zx (I_8 p0 a p4 r s x n q y e z) (t 5)=some (.ptr p4 0)/\zx (I_8 p0 a p4 r s x n q y e z) (t 27)=some (.agg (kg s y e z)):=⟨da,da,da⟩
theorem gI(p0:Nat)(a:Nat)(p4:Nat)(r:Nat)(s:Ua)(x:Int)(n:Int)(q:Ua)(y:Int)(e:Int)(z:Int):zI (I_8 p0 a p4 r s x n q y e z) 4 = .ptr a 0/\zI (I_8 p0 a p4 r s x n q y e z) 5 = .ptr p4 0:=⟨da,da⟩
theorem dI:(oI 0).dst=some 20/\(oI 1).dst=some 21/\(oI 2).dst=some 22/\(oI 3).dst=some 23/\(oI 4).dst=some 24/\(oI 5).dst=some 25/\(oI 6).dst=some 26/\(oI 7).dst=some 27/\(oI 8).dst=none/\(oI 9).dst=none:=⟨da,da,da,da,da,da,da,da,da,da⟩
theorem uI:(oI 0).guard=none/\(oI 1).guard=none/\(oI 2).guard=none/\(oI 3).guard=none/\(oI 4).guard=none/\(oI 5).guard=none/\(oI 6).guard=none/\(oI 7).guard=none/\(oI 8).guard=none/\(oI 9).guard=none:=⟨da,da,da,da,da,da,da,da,da,da⟩
def zFT:List Go.Oper:=z5J.toList
def oJ(i:Nat):Go.Oper:=(zFT[i]?).getD default
theorem zRE:zFT=[oJ 0,oJ 1,oJ 2,oJ 3,oJ 4,oJ 5,oJ 6,oJ 7,oJ 8,oJ 9,oJ 10,oJ 11,oJ 12,oJ 13,oJ 14,oJ 15,oJ 16,oJ 17,oJ 18]:=da
theorem okJ:ya zFT=some 18:=da
def J_0(p0:Nat)(a:Nat)(p4:Nat)(r:Nat)(s:Ua)(x:Int)(n:Int)(_:Ua)(_:Int)(_:Int)(_:Int)(q0:Ua):Tm:=(Tb.set (Tb.set (Tb.set (Tb.set (Tb.set (Tb.set (Tb.set (Tb.set (Tb.set (Tb.set (Tb.set (Tb.set (Tb.set (Tb.set (Tb.set (Tb.set (Tb.set (Tb.set (Tb.set (Tb.leaf zC) 0 (.agg (kg s x 0 0))) 1 (dd n)) 2 (.ptr p0 0)) 4 (.ptr a 0)) 5 (.ptr p4 0)) 8 (.agg (kg s x 0 0))) 9 (.ptr r 0)) 6 (.ptr r 0)) 10 (.ptr r 0)) 11 (.ptr r 0)) 12 (.ptr r 0)) 13 (.ptr r 1)) 14 (dd x)) 7 (dd x)) 15 (.ptr r 0)) 16 (dd n)) 17 (.str q0)) 18 (.ptr r 0)) 19 (.bool false))
theorem aJ0(p0:Nat)(a:Nat)(p4:Nat)(r:Nat)(s:Ua)(x:Int)(n:Int)(q:Ua)(y:Int)(e:Int)(z:Int)(q0:Ua)(h:H):yD zB (oJ 0) (zx (J_0 p0 a p4 r s x n q y e z q0)) h=some (.val (.ptr r 0) h):=da
def J_1(p0:Nat)(a:Nat)(p4:Nat)(r:Nat)(s:Ua)(x:Int)(n:Int)(q:Ua)(y:Int)(e:Int)(z:Int)(q0:Ua):Tm:=Tb.set (J_0 p0 a p4 r s x n q y e z q0) 28 (.ptr r 0)
theorem aJ1(p0:Nat)(a:Nat)(p4:Nat)(r:Nat)(s:Ua)(x:Int)(n:Int)(q:Ua)(y:Int)(e:Int)(z:Int)(q0:Ua)(h:H):yD zB (oJ 1) (zx (J_1 p0 a p4 r s x n q y e z q0)) h=some (.val (.ptr r 0) h):=da
def J_2(p0:Nat)(a:Nat)(p4:Nat)(r:Nat)(s:Ua)(x:Int)(n:Int)(q:Ua)(y:Int)(e:Int)(z:Int)(q0:Ua):Tm:=Tb.set (J_1 p0 a p4 r s x n q y e z q0) 29 (.ptr r 0)
theorem aJ2(p0:Nat)(a:Nat)(p4:Nat)(r:Nat)(s:Ua)(x:Int)(n:Int)(q:Ua)(y:Int)(e:Int)(z:Int)(q0:Ua)(h:H):yD zB (oJ 2) (zx (J_2 p0 a p4 r s x n q y e z q0)) h=some (.val (.ptr r 0) h):=da
def J_3(p0:Nat)(a:Nat)(p4:Nat)(r:Nat)(s:Ua)(x:Int)(n:Int)(q:Ua)(y:Int)(e:Int)(z:Int)(q0:Ua):Tm:=Tb.set (J_2 p0 a p4 r s x n q y e z q0) 30 (.ptr r 0)
theorem aJ3(p0:Nat)(a:Nat)(p4:Nat)(r:Nat)(s:Ua)(x:Int)(n:Int)(q:Ua)(y:Int)(e:Int)(z:Int)(q0:Ua)(h:H):yD zB (oJ 3) (zx (J_3 p0 a p4 r s x n q y e z q0)) h=some (.val (.ptr r 0) h):=da
def J_4(p0:Nat)(a:Nat)(p4:Nat)(r:Nat)(s:Ua)(x:Int)(n:Int)(q:Ua)(y:Int)(e:Int)(z:Int)(q0:Ua):Tm:=Tb.set (J_3 p0 a p4 r s x n q y e z q0) 31 (.ptr r 0)
theorem eJ4(p0:Nat)(a:Nat)(p4:Nat)(r:Nat)(s:Ua)(x:Int)(n:Int)(q:Ua)(y:Int)(e:Int)(z:Int)(q0:Ua):(oJ 4).op = .load 9 (t 31)/\zx (J_4 p0 a p4 r s x n q y e z q0) (t 31)=some (.ptr r 0):=⟨da,da⟩
def J_5(p0:Nat)(a:Nat)(p4:Nat)(r:Nat)(s:Ua)(x:Int)(n:Int)(q:Ua)(y:Int)(e:Int)(z:Int)(q0:Ua):Tm:=Tb.set (J_4 p0 a p4 r s x n q y e z q0) 32 (.str s)
theorem aJ5(p0:Nat)(a:Nat)(p4:Nat)(r:Nat)(s:Ua)(x:Int)(n:Int)(q:Ua)(y:Int)(e:Int)(z:Int)(q0:Ua)(h:H):yD zB (oJ 5) (zx (J_5 p0 a p4 r s x n q y e z q0)) h=some (.val (.ptr r 0) h):=da
def J_6(p0:Nat)(a:Nat)(p4:Nat)(r:Nat)(s:Ua)(x:Int)(n:Int)(q:Ua)(y:Int)(e:Int)(z:Int)(q0:Ua):Tm:=Tb.set (J_5 p0 a p4 r s x n q y e z q0) 33 (.ptr r 0)
theorem aJ6(p0:Nat)(a:Nat)(p4:Nat)(r:Nat)(s:Ua)(x:Int)(n:Int)(q:Ua)(y:Int)(e:Int)(z:Int)(q0:Ua)(h:H):yD zB (oJ 6) (zx (J_6 p0 a p4 r s x n q y e z q0)) h=some (.val (.ptr r 0) h):=da
def J_7(p0:Nat)(a:Nat)(p4:Nat)(r:Nat)(s:Ua)(x:Int)(n:Int)(q:Ua)(y:Int)(e:Int)(z:Int)(q0:Ua):Tm:=Tb.set (J_6 p0 a p4 r s x n q y e z q0) 34 (.ptr r 0)
theorem aJ7(p0:Nat)(a:Nat)(p4:Nat)(r:Nat)(s:Ua)(x:Int)(n:Int)(q:Ua)(y:Int)(e:Int)(z:Int)(q0:Ua)(h:H):yD zB (oJ 7) (zx (J_7 p0 a p4 r s x n q y e z q0)) h=some (.val (.ptr r 0) h):=da
def J_8(p0:Nat)(a:Nat)(p4:Nat)(r:Nat)(s:Ua)(x:Int)(n:Int)(q:Ua)(y:Int)(e:Int)(z:Int)(q0:Ua):Tm:=Tb.set (J_7 p0 a p4 r s x n q y e z q0) 35 (.ptr r 0)
theorem aJ8(p0:Nat)(a:Nat)(p4:Nat)(r:Nat)(s:Ua)(x:Int)(n:Int)(q:Ua)(y:Int)(e:Int)(z:Int)(q0:Ua)(h:H):yD zB (oJ 8) (zx (J_8 p0 a p4 r s x n q y e z q0)) h=some (.val (.ptr r 1) h):=da
def J_9(p0:Nat)(a:Nat)(p4:Nat)(r:Nat)(s:Ua)(x:Int)(n:Int)(q:Ua)(y:Int)(e:Int)(z:Int)(q0:Ua):Tm:=Tb.set (J_8 p0 a p4 r s x n q y e z q0) 36 (.ptr r 1)
theorem eJ9(p0:Nat)(a:Nat)(p4:Nat)(r:Nat)(s:Ua)(x:Int)(n:Int)(q:Ua)(y:Int)(e:Int)(z:Int)(q0:Ua):(oJ 9).op = .load 3 (t 36)/\zx (J_9 p0 a p4 r s x n q y e z q0) (t 36)=some (.ptr r 1):=⟨da,da⟩
def zVY(p0:Nat)(a:Nat)(p4:Nat)(r:Nat)(s:Ua)(x:Int)(n:Int)(q:Ua)(y:Int)(e:Int)(z:Int)(q0:Ua):Tm:=Tb.set (J_9 p0 a p4 r s x n q y e z q0) 37 (dd y)
theorem z3I(p0:Nat)(a:Nat)(p4:Nat)(r:Nat)(s:Ua)(x:Int)(n:Int)(q:Ua)(y:Int)(e:Int)(z:Int)(q0:Ua):(oJ 10).op = .slice 9 (t 32) none (some (t 37)) none/\zx (zVY p0 a p4 r s x n q y e z q0) (t 32)=some (.str s)/\zx (zVY p0 a p4 r s x n q y e z q0) (t 37)=some (dd y):=⟨da,da,da⟩
def zY4(p0:Nat)(a:Nat)(p4:Nat)(r:Nat)(s:Ua)(x:Int)(n:Int)(q:Ua)(y:Int)(e:Int)(z:Int)(q0:Ua):Tm:=Tb.set (zVY p0 a p4 r s x n q y e z q0) 38 (.str q)
theorem z2j(p0:Nat)(a:Nat)(p4:Nat)(r:Nat)(s:Ua)(x:Int)(n:Int)(q:Ua)(y:Int)(e:Int)(z:Int)(q0:Ua)(h:H):yD zB (oJ 11) (zx (zY4 p0 a p4 r s x n q y e z q0)) h=some (.val (dd x) h):=da
def zY5(p0:Nat)(a:Nat)(p4:Nat)(r:Nat)(s:Ua)(x:Int)(n:Int)(q:Ua)(y:Int)(e:Int)(z:Int)(q0:Ua):Tm:=Tb.set (zY4 p0 a p4 r s x n q y e z q0) 39 (dd x)
theorem z2k(p0:Nat)(a:Nat)(p4:Nat)(r:Nat)(s:Ua)(x:Int)(n:Int)(q:Ua)(y:Int)(e:Int)(z:Int)(q0:Ua)(h:H):yD zB (oJ 12) (zx (zY5 p0 a p4 r s x n q y e z q0)) h=some (.val (.agg [.str q,dd x,dd 0,dd 0]) h):=da
def zY6(p0:Nat)(a:Nat)(p4:Nat)(r:Nat)(s:Ua)(x:Int)(n:Int)(q:Ua)(y:Int)(e:Int)(z:Int)(q0:Ua):Tm:=Tb.set (zY5 p0 a p4 r s x n q y e z q0) 40 (.agg [.str q,dd x,dd 0,dd 0])
theorem z2l(p0:Nat)(a:Nat)(p4:Nat)(r:Nat)(s:Ua)(x:Int)(n:Int)(q:Ua)(y:Int)(e:Int)(z:Int)(q0:Ua)(h:H):yD zB (oJ 13) (zx (zY6 p0 a p4 r s x n q y e z q0)) h=some (.val (.ptr r 0) h):=da
def zY7(p0:Nat)(a:Nat)(p4:Nat)(r:Nat)(s:Ua)(x:Int)(n:Int)(q:Ua)(y:Int)(e:Int)(z:Int)(q0:Ua):Tm:=Tb.set (zY6 p0 a p4 r s x n q y e z q0) 41 (.ptr r 0)
theorem z2m(p0:Nat)(a:Nat)(p4:Nat)(r:Nat)(s:Ua)(x:Int)(n:Int)(q:Ua)(y:Int)(e:Int)(z:Int)(q0:Ua)(h:H):yD zB (oJ 14) (zx (zY7 p0 a p4 r s x n q y e z q0)) h=some (.val (.ptr r 0) h):=da
def zY8(p0:Nat)(a:Nat)(p4:Nat)(r:Nat)(s:Ua)(x:Int)(n:Int)(q:Ua)(y:Int)(e:Int)(z:Int)(q0:Ua):Tm:=Tb.set (zY7 p0 a p4 r s x n q y e z q0) 42 (.ptr r 0)
theorem z2n(p0:Nat)(a:Nat)(p4:Nat)(r:Nat)(s:Ua)(x:Int)(n:Int)(q:Ua)(y:Int)(e:Int)(z:Int)(q0:Ua)(h:H):yD zB (oJ 15) (zx (zY8 p0 a p4 r s x n q y e z q0)) h=some (.val (.ptr r 0) h):=da
def zY9(p0:Nat)(a:Nat)(p4:Nat)(r:Nat)(s:Ua)(x:Int)(n:Int)(q:Ua)(y:Int)(e:Int)(z:Int)(q0:Ua):Tm:=Tb.set (zY8 p0 a p4 r s x n q y e z q0) 43 (.ptr r 0)
theorem zYp(p0:Nat)(a:Nat)(p4:Nat)(r:Nat)(s:Ua)(x:Int)(n:Int)(q:Ua)(y:Int)(e:Int)(z:Int)(q0:Ua):(oJ 16).op = .load 80 (t 43)/\zx (zY9 p0 a p4 r s x n q y e z q0) (t 43)=some (.ptr r 0):=⟨da,da⟩
def zCq(p0:Nat)(a:Nat)(p4:Nat)(r:Nat)(s:Ua)(x:Int)(n:Int)(q:Ua)(y:Int)(e:Int)(z:Int)(q0:Ua):Tm:=Tb.set (zY9 p0 a p4 r s x n q y e z q0) 44 (.agg (kg s y e z))
theorem zVr(p0:Nat)(a:Nat)(p4:Nat)(r:Nat)(s:Ua)(x:Int)(n:Int)(q:Ua)(y:Int)(e:Int)(z:Int)(q0:Ua):(oJ 17).op = .store 80 (t 4) (t 40)/\zx (zCq p0 a p4 r s x n q y e z q0) (t 4)=some (.ptr a 0)/\zx (zCq p0 a p4 r s x n q y e z q0) (t 40)=some (.agg (kg q x 0 0)):=⟨da,da,da⟩
theorem zZv(p0:Nat)(a:Nat)(p4:Nat)(r:Nat)(s:Ua)(x:Int)(n:Int)(q:Ua)(y:Int)(e:Int)(z:Int)(q0:Ua):yq zFT (zi zFT []) 18 17 (zCq p0 a p4 r s x n q y e z q0) (oJ 17)=((cond (!(Nat.beq a r) && true) true false && true) || false):=da
theorem zVs(p0:Nat)(a:Nat)(p4:Nat)(r:Nat)(s:Ua)(x:Int)(n:Int)(q:Ua)(y:Int)(e:Int)(z:Int)(q0:Ua):(oJ 18).op = .store 80 (t 5) (t 44)/\zx (zCq p0 a p4 r s x n q y e z q0) (t 5)=some (.ptr p4 0)/\zx (zCq p0 a p4 r s x n q y e z q0) (t 44)=some (.agg (kg s y e z)):=⟨da,da,da⟩
theorem gJ(p0:Nat)(a:Nat)(p4:Nat)(r:Nat)(s:Ua)(x:Int)(n:Int)(q:Ua)(y:Int)(e:Int)(z:Int)(q0:Ua):zI (zCq p0 a p4 r s x n q y e z q0) 4 = .ptr a 0/\zI (zCq p0 a p4 r s x n q y e z q0) 5 = .ptr p4 0:=⟨da,da⟩
theorem dJ:(oJ 0).dst=some 28/\(oJ 1).dst=some 29/\(oJ 2).dst=some 30/\(oJ 3).dst=some 31/\(oJ 4).dst=some 32/\(oJ 5).dst=some 33/\(oJ 6).dst=some 34/\(oJ 7).dst=some 35/\(oJ 8).dst=some 36/\(oJ 9).dst=some 37/\(oJ 10).dst=some 38/\(oJ 11).dst=some 39/\(oJ 12).dst=some 40/\(oJ 13).dst=some 41/\(oJ 14).dst=some 42/\(oJ 15).dst=some 43/\(oJ 16).dst=some 44/\(oJ 17).dst=none/\(oJ 18).dst=none:=⟨da,da,da,da,da,da,da,da,da,da,da,da,da,da,da,da,da,da,da⟩
theorem uJ:(oJ 0).guard=none/\(oJ 1).guard=none/\(oJ 2).guard=none/\(oJ 3).guard=none/\(oJ 4).guard=none/\(oJ 5).guard=none/\(oJ 6).guard=none/\(oJ 7).guard=none/\(oJ 8).guard=none/\(oJ 9).guard=none/\(oJ 10).guard=none/\(oJ 11).guard=none/\(oJ 12).guard=none/\(oJ 13).guard=none/\(oJ 14).guard=none/\(oJ 15).guard=none/\(oJ 16).guard=none/\(oJ 17).guard=none/\(oJ 18).guard=none:=⟨da,da,da,da,da,da,da,da,da,da,da,da,da,da,da,da,da,da,da⟩
theorem zWM{p0 a p4 r:Nat}{s q:Ua}{x n y e z:Int}{d:List AD}{Q:Ud}(b:h.nx<=T.top)(hl:h.low<=T.top)(gr:h.get r=some (cR s y e z))(B:h.get a=some (oC [] 0 0 0))(C:h.get p4=some (oC [] 0 0 0))(l2:a<h.nx)(S:p4<h.nx)(D:a≠r)(f:a≠p4)(E:∀h',h'.get a=some (oC s y e z)->h'.get p4=some (oC s y e z)->∀g,Has g [(4,.ptr a 0),(5,.ptr p4 0)]->Q .normal ⟨45,g,d,h'⟩):wpDr P zB false zFS ⟨45,I_0 p0 a p4 r s x n q y e z,d,h⟩ Q:=by
 have a7:zZ zB 80 (zX h) (.ptr a 0) (.agg (kg s y e z))=some ((zX h).upd a (some (oC s y e z))):=z6 wI (show(zX h).get a=_ from B) rfl;have L1:yN h ((zX h).upd a (some (oC s y e z)))=h.upd a (some (oC s y e z)):=j7;have m:(h.upd a (some (oC s y e z))).get a=some (oC s y e z):=zF _;have o:(h.upd a (some (oC s y e z))).get p4=some (oC [] 0 0 0):=(zS _ (Ne.symm f)).trans C;generalize h.upd a (some (oC s y e z))=h1 at L1 m o;have p:zZ zB 80 h1 (.ptr p4 0) (.agg (kg s y e z))=some (h1.upd p4 (some (oC s y e z))):=z6 wI o rfl;have t:(h1.upd p4 (some (oC s y e z))).get p4=some (oC s y e z):=zF _;have u:(h1.upd p4 (some (oC s y e z))).get a=some (oC s y e z):=(zS _ f).trans m;generalize h1.upd p4 (some (oC s y e z))=j at p u t;have w:=gI p0 a p4 r s x n q y e z;refine⟨jm,9,.normal,⟨45,I_8 p0 a p4 r s x n q y e z,d,j⟩,xu,okI,?_,E j u t _ ⟨w.1,w.2,trivial⟩⟩;have i:=z3j p0 a p4 r s x n q y e z;rw[qf D]at i;obtain⟨d0,d1,d2,d3,d4,d5,d6,d7,F,G⟩:=dI;obtain⟨H,I,J,K,L,M,N,O,u8,R⟩:=uI;generalize hbs:zi zFS []=bs at i ⊢;generalize hops:zFS=ops at i ⊢;have k:ops=[oI 0,oI 1,oI 2,oI 3,oI 4,oI 5,oI 6,oI 7,oI 8,oI 9]:=by rw[<-hops];exact zRD
 have A:zo zB 80 (zX h) (.ptr r 0)=some (.agg (kg s y e z)):=zO wI rfl (show(zX h).get r=_ from gr) rfl;have c:yJ zB jm false jh ops bs 9 9 0 [oI 0,oI 1,oI 2,oI 3,oI 4,oI 5,oI 6,oI 7,oI 8,oI 9] ⟨45,I_0 p0 a p4 r s x n q y e z,d,h⟩=some (.done .normal ⟨45,I_8 p0 a p4 r s x n q y e z,d,j⟩):=by
  refine zQ H (aI0 p0 a p4 r s x n q y e z _) d0 rfl b hl ?_;refine zQ I (aI1 p0 a p4 r s x n q y e z _) d1 rfl b hl ?_;refine zQ J (aI2 p0 a p4 r s x n q y e z _) d2 rfl b hl ?_;refine zQ K (xF (eI3 p0 a p4 r s x n q y e z).1 (eI3 p0 a p4 r s x n q y e z).2 A) d3 rfl b hl ?_;refine zQ L (aI4 p0 a p4 r s x n q y e z _) d4 rfl b hl ?_;refine zQ M (aI5 p0 a p4 r s x n q y e z _) d5 rfl b hl ?_;refine zQ N (aI6 p0 a p4 r s x n q y e z _) d6 rfl b hl ?_;refine zQ O (xF (eI7 p0 a p4 r s x n q y e z).1 (eI7 p0 a p4 r s x n q y e z).2 A) d7 rfl b hl ?_;refine jZ u8 (yg (eI8 p0 a p4 r s x n q y e z).1 (eI8 p0 a p4 r s x n q y e z).2.1 (eI8 p0 a p4 r s x n q y e z).2.2 a7) F (i.trans rfl) ?_;try dsimp only
  rw[L1];exact qW R (yg (eI9 p0 a p4 r s x n q y e z).1 (eI9 p0 a p4 r s x n q y e z).2.1 (eI9 p0 a p4 r s x n q y e z).2.2 p) G
 rw[<-k]at c;exact c
theorem zJy{c:Ctx}{o:Go.Oper}{t:Nat}{x:Go.Operand}{lo hi mx:Option Go.Operand}{e:Go.Operand->Ui}{w:V}{a b m:Ui}(d:o.op = .slice t x lo hi mx)(f:e x=some v)(h1:evO e lo=some a)(g:evO e hi=some b)(i:evO e mx=some m)(hs:zy c t h v a b m=some w):yD c o e h=some (.val w h):=by unfold yD;simp only[d,f,h1,g,i,hs];try rfl
theorem zVv{e:Go.Operand->Ui}{x:Go.Operand}(h:e x=some v):evO e (some x)=some (some v):=by unfold evO;simp only[h]
theorem zEw{y:Nat}(a:y<=s.length):zy zB 9 h (.str s) none (some (dd y)) none=some (.str (zH s 0 y)):=by
 unfold zy;have b:yj (y:Int)=some y:=rfl;have c:jO s 0=s.length:=by rw[yb];omega
 simp only[kO,Go.Sim.bnd,b,c];rw[oG a,oS];try rfl
theorem zWN{p0 c p4 r y:Nat}{s q q0:Ua}{x n:Int}{d:List AD}{Q:Ud}(e:h.nx<=T.top)(hl:h.low<=T.top)(W:y<=s.length)(gr:h.get r=some (cR s y 0 0))(X:h.get c=some (oC [] 0 0 0))(Y:h.get p4=some (oC [] 0 0 0))(l2:c<h.nx)(l4:p4<h.nx)(Z:c≠r)(i:c≠p4)(hq:∀h',h'.get c=some (oC (zH s 0 y) x 0 0)->h'.get p4=some (oC s y 0 0)->∀j,Has j [(4,.ptr c 0),(5,.ptr p4 0)]->Q .normal ⟨45,j,d,h'⟩):wpDr P zB false zFT ⟨45,J_0 p0 c p4 r s x n (zH s 0 y) y 0 0 q0,d,h⟩ Q:=by
 have a7:zZ zB 80 (zX h) (.ptr c 0) (.agg (kg (zH s 0 y) x 0 0))=some ((zX h).upd c (some (oC (zH s 0 y) x 0 0))):=z6 wI (show(zX h).get c=_ from X) rfl;have L1:yN h ((zX h).upd c (some (oC (zH s 0 y) x 0 0)))=h.upd c (some (oC (zH s 0 y) x 0 0)):=j7;have N:(h.upd c (some (oC (zH s 0 y) x 0 0))).get c=some (oC (zH s 0 y) x 0 0):=zF _;have O:(h.upd c (some (oC (zH s 0 y) x 0 0))).get p4=some (oC [] 0 0 0):=(zS _ (Ne.symm i)).trans Y;generalize h.upd c (some (oC (zH s 0 y) x 0 0))=h1 at L1 N O;have R:zZ zB 80 h1 (.ptr p4 0) (.agg (kg s y 0 0))=some (h1.upd p4 (some (oC s y 0 0))):=z6 wI O rfl;have S:(h1.upd p4 (some (oC s y 0 0))).get p4=some (oC s y 0 0):=zF _;have U:(h1.upd p4 (some (oC s y 0 0))).get c=some (oC (zH s 0 y) x 0 0):=(zS _ i).trans N;generalize h1.upd p4 (some (oC s y 0 0))=o at R U S;have V:=gJ p0 c p4 r s x n (zH s 0 y) y 0 0 q0;refine⟨jm,18,.normal,⟨45,zCq p0 c p4 r s x n (zH s 0 y) y 0 0 q0,d,o⟩,xu,okJ,?_,hq o U S _ ⟨V.1,V.2,trivial⟩⟩;have k:=zZv p0 c p4 r s x n (zH s 0 y) y 0 0 q0;rw[qf Z]at k;obtain⟨d0,d1,d2,d3,d4,d5,d6,d7,d8,d9,p,t,u,w,z,A,B,C,D⟩:=dJ;obtain⟨u0,u1,u2,u3,u4,u5,u6,u7,u8,u9,E,F,G,H,I,J,u16,K,L⟩:=uJ;have g:=z3I p0 c p4 r s x n (zH s 0 y) y 0 0 q0;generalize hbs:zi zFT []=bs at k ⊢;generalize hops:zFT=ops at k ⊢;have M:ops=[oJ 0,oJ 1,oJ 2,oJ 3,oJ 4,oJ 5,oJ 6,oJ 7,oJ 8,oJ 9,oJ 10,oJ 11,oJ 12,oJ 13,oJ 14,oJ 15,oJ 16,oJ 17,oJ 18]:=by rw[<-hops];exact zRE
 have gt:(zX h).get r=some (cR s y 0 0):=gr;have f:yJ zB jm false jh ops bs 18 18 0 [oJ 0,oJ 1,oJ 2,oJ 3,oJ 4,oJ 5,oJ 6,oJ 7,oJ 8,oJ 9,oJ 10,oJ 11,oJ 12,oJ 13,oJ 14,oJ 15,oJ 16,oJ 17,oJ 18] ⟨45,J_0 p0 c p4 r s x n (zH s 0 y) y 0 0 q0,d,h⟩=some (.done .normal ⟨45,zCq p0 c p4 r s x n (zH s 0 y) y 0 0 q0,d,o⟩):=by
  refine zQ u0 (aJ0 p0 c p4 r s x n (zH s 0 y) y 0 0 q0 _) d0 rfl e hl ?_;refine zQ u1 (aJ1 p0 c p4 r s x n (zH s 0 y) y 0 0 q0 _) d1 rfl e hl ?_;refine zQ u2 (aJ2 p0 c p4 r s x n (zH s 0 y) y 0 0 q0 _) d2 rfl e hl ?_;refine zQ u3 (aJ3 p0 c p4 r s x n (zH s 0 y) y 0 0 q0 _) d3 rfl e hl ?_;refine zQ u4 (xF (eJ4 p0 c p4 r s x n (zH s 0 y) y 0 0 q0).1 (eJ4 p0 c p4 r s x n (zH s 0 y) y 0 0 q0).2 (zK kO rfl gt rfl)) d4 rfl e hl ?_;refine zQ u5 (aJ5 p0 c p4 r s x n (zH s 0 y) y 0 0 q0 _) d5 rfl e hl ?_;refine zQ u6 (aJ6 p0 c p4 r s x n (zH s 0 y) y 0 0 q0 _) d6 rfl e hl ?_;refine zQ u7 (aJ7 p0 c p4 r s x n (zH s 0 y) y 0 0 q0 _) d7 rfl e hl ?_;refine zQ u8 (aJ8 p0 c p4 r s x n (zH s 0 y) y 0 0 q0 _) d8 rfl e hl ?_;refine zQ u9 (xF (eJ9 p0 c p4 r s x n (zH s 0 y) y 0 0 q0).1 (eJ9 p0 c p4 r s x n (zH s 0 y) y 0 0 q0).2 (zK zm rfl gt rfl)) d9 rfl e hl ?_;refine zQ E (zJy (a:=none) (b:=some (dd y)) (m:=none) g.1 g.2.1 rfl (zVv g.2.2) rfl (zEw W)) p rfl e hl ?_;refine zQ F (z2j p0 c p4 r s x n (zH s 0 y) y 0 0 q0 _) t rfl e hl ?_;refine zQ G (z2k p0 c p4 r s x n (zH s 0 y) y 0 0 q0 _) u rfl e hl ?_;refine zQ H (z2l p0 c p4 r s x n (zH s 0 y) y 0 0 q0 _) w rfl e hl ?_;refine zQ I (z2m p0 c p4 r s x n (zH s 0 y) y 0 0 q0 _) z rfl e hl ?_;refine zQ J (z2n p0 c p4 r s x n (zH s 0 y) y 0 0 q0 _) A rfl e hl ?_;refine zQ u16 (xF (zYp p0 c p4 r s x n (zH s 0 y) y 0 0 q0).1 (zYp p0 c p4 r s x n (zH s 0 y) y 0 0 q0).2 (zO wI rfl gt rfl)) B rfl e hl ?_;refine jZ K (yg (zVr p0 c p4 r s x n (zH s 0 y) y 0 0 q0).1 (zVr p0 c p4 r s x n (zH s 0 y) y 0 0 q0).2.1 (zVr p0 c p4 r s x n (zH s 0 y) y 0 0 q0).2.2 a7) C (k.trans rfl) ?_;try dsimp only
  rw[L1];exact qW L (yg (zVs p0 c p4 r s x n (zH s 0 y) y 0 0 q0).1 (zVs p0 c p4 r s x n (zH s 0 y) y 0 0 q0).2.1 (zVs p0 c p4 r s x n (zH s 0 y) y 0 0 q0).2.2 R) D
 rw[<-M]at f;exact f
theorem zKX{s:Ua}{x n:Nat}(H:x<=s.length)(hs:s.length<4611686018427387904)(I:n<4611686018427387904)(h1:x+n<=s.length->Q (.tuple [.agg (kg (zH s 0 (x+n)) x 0 0),.agg (kg s ((x+n:Nat):Int) 0 0)]) h)(J:s.length<x+n->Q (.tuple [.agg (kg s x 5 s.length),.agg (kg s x 5 s.length)]) h):RF P zB 63 [.agg (kg s x 0 0),dd n] h Q:=by
 refine RF.plain ?_ (Ks (xU _ _ _ _) (zL _ _));refine yU z4E ⟨db,?_⟩;have S:H0.nx=0:=rfl;have U:H0.low=T.top:=rfl;have zt:200000<T.top:=db
 rintro p0 a rfl m;have V:a.nx=1:=by rw[m,z8];omega
 have E:Ext H0 a 1:=by rw[m];exact Ext.new _ oy
 have K:a.get H0.nx=some (oC s x 0 0):=by rw[m];exact zM _ oy
 clear m;refine⟨oy,?_⟩;rintro W e rfl o;have X:e.nx=2:=by rw[o,z8];omega
 have y:Ext a e 1:=by rw[o];exact Ext.new _ oy
 have L:e.get a.nx=some (oC [] 0 0 0):=by rw[o];exact zM _ oy
 clear o;refine⟨oy,?_⟩;rintro Y g rfl p;have Z:g.nx=3:=by rw[p,z8];omega
 have t:Ext e g 1:=by rw[p];exact Ext.new _ oy
 have M:g.get e.nx=some (oC [] 0 0 0):=by rw[p];exact zM _ oy
 clear p;have N:g.get H0.nx=some (oC s x 0 0):=by rw[t.get _ oy,y.get _ oy];exact K
 have O:g.get a.nx=some (oC [] 0 0 0):=by rw[t.get _ oy];exact L
 refine⟨_,_,_,_,zO wI rfl N rfl,zNn λF r f r1 r2 gr=>?_⟩;have t6:=f.top;have l6:=f.le;refine⟨.ptr r 0,rfl,.ptr r 0,F,rfl,?_⟩;show ∃z,zo zB 3 F (.ptr r (0+0+1))=some (dd z)/\_;refine⟨x,zK zm rfl gr rfl,O5 gr r2 oy (by have:=f.low;have:=t.low;have:=y.low;have:=E.low;omega) H hs I λA i=>⟨λu w=>?_,λu w=>?_⟩⟩;all_goals
  have t7:=i.top;have l7:=i.low;have j:A.get a.nx=some (oC [] 0 0 0):=by rw[i.get _ oy oy,f.get _ oy];exact O
  have k:A.get e.nx=some (oC [] 0 0 0):=by rw[i.get _ oy oy,f.get _ oy];exact M
  have n7:=i.le;have G:A.low<=T.top:=by have:=f.low;have:=t.low;have:=y.low;have:=E.low;omega
  refine⟨_,rfl,Jb w ⟨_,rfl,λc=>?_,λc=>?_⟩⟩
 .exact absurd c (by simp)
 .refine zWN (q:=[]) oy G u w j k oy oy oy oy λR B C tm b=>?_
  refine thenC.nx (wpS.av b zPy rfl rfl (b.on λD d=>?_));exact endW.ok (leave.cell (d.get rfl) (zO wI rfl B rfl) (leave.cell (d.get rfl) (zO wI rfl C rfl) rfl)) ⟨qH (xU _ _ _ _) (xU _ _ _ _),h1 u⟩
 .refine zWM oy G w j k oy oy oy oy λR B C tm b=>?_
  refine thenC.nx (wpS.av b zPy rfl rfl (b.on λD d=>?_));exact thenC.rt (endW.ok (leave.cell (d.get rfl) (zO wI rfl B rfl) (leave.cell (d.get rfl) (zO wI rfl C rfl) rfl)) ⟨qH (xU _ _ _ _) (xU _ _ _ _),J u⟩)
 exact absurd c (by simp)
def wW(l:Ub):Int:=if 256<l.length then 6 else if wg l=true then (if wy l<2 then 7 else if xZ 11 l=2048 then 0 else 21) else 2
theorem zEy{i:Nat}(hi:i<l.length)(h:¬(0<=l[i]/\l[i]<=11)):wg l=false:=by
 rcases g:wg l with _|_
 .rfl
 exact absurd (ji g (od hi)) h
theorem zEz{x:Int}(h:wg l=true)(a:0<=x/\x<=11:=by omega):wg (l++[x])=true:=by rw[jF,h];simp only[wg,List.all_cons,List.all_nil,Bool.and_true,Bool.true_and,oM,decide_eq_true_eq];omega
theorem Y0(x:Int):lone 11 x<=2048:=zQp (oV 11) x
theorem zVH{x:Int}(h:0<x/\x<=11):zj .shl .i64 1 (zG ((11:Int)-x))=some (dd (lone 11 x:Nat)):=by rw[zD oy oy,show(11:Int)-x=((11-x.toNat:Nat):Int)by omega];have b:2^(11-x.toNat)<=2^11:=Nat.pow_le_pow_right db oy;have e:=zz (a:=1) (n:=11-x.toNat) oy oy;rw[Nat.one_mul]at e;unfold lone;rw[if_pos oy];exact e
theorem zP1{v:V}{l:Ub}(sl:Sl h v 1 l.length (zV l))(hl:l.length<=1000)(h1:256<l.length->Q (.tuple [dd 0,dd 6]) h)(y:¬256<l.length->wg l=false->Q (.tuple [dd 0,dd 2]) h)(A:¬256<l.length->wg l=true->Q (.tuple [dd (xZ 11 l:Nat),dd 0]) h):RF P zB 112 [v] h Q:=by
 refine yU z0H ⟨_,sl.len z7 rfl,λc=>h1 oy,λc=>⟨_,sl.len z7 rfl,Has.nil.on λtm hs=>?_⟩⟩;have r:¬256<l.length:=oy
 refine wpC.round (λk tm h'=>∃i:Nat,i<=l.length/\k=l.length-i/\h'=h/\wg (l.take i)=true/\Has tm [(12,dd i),(11,dd (Int.ofNat l.length)),(10,v),(4,dd (xZ 11 (l.take i):Nat))]) l.length ⟨0,oy,oy,rfl,by simp[wg],hs.sub da⟩ ?_;clear hs;rintro k tm h' ⟨i,B,rfl,rfl,j,hs⟩;refine wpC.av hs zRg rfl rfl ⟨λc=>?_,λc=>hs.on λm a=>?_⟩
 .have hi:i<l.length:=by have:(i:Int)<Int.ofNat l.length:=c;simp at this;omega
  obtain⟨b,o,C,z⟩:=kc sl hi;have f:¬(0<=l[i]/\l[i]<=11)->wg l=false:=zEy hi;have q:=xj hi;have hb:=zDZ (λx=>Y0 x) (l.take i);rw[List.length_take]at hb;generalize l[i]=x at z f q;refine⟨b,o,C,x,z,λD=>hs.on λm a=>?_,λD=>⟨λE=>hs.on λm a=>?_,λE=>hs.on λm a=>?_⟩⟩
  .have t:=y r (f oy);refine wpS.av a zDv rfl rfl (a.on λg d=>?_);exact thenC.rt (d.slt λwH e=>thenC.rt (thenC.rt (endW.r2 (e.get rfl) (e.get rfl) t)))
  .have t:=y r (f oy);refine wpS.av a zDv rfl rfl (a.on λg d=>?_);exact thenC.rt (d.slt λwH e=>thenC.rt (thenC.rt (endW.r2 (e.get rfl) (e.get rfl) t)))
  have G:=Y0 x;have p:wg (l.take (i+1))=true:=by rw[q];exact zEz j
  refine wpS.av a zDv rfl rfl ⟨λF=>⟨_,zVH oy,a.on λg d=>?_⟩,λF=>a.on λg d=>?_⟩
  .refine thenC.nx (wpS.av d zJj rfl rfl (d.on λu n=>n.slt λwH e=>⟨rfl,rfl,l.length-(i+1),oy,i+1,oy,rfl,rfl,p,?_⟩));have w:zG (((xZ 11 (l.take i):Nat):Int)+((lone 11 x:Nat):Int))=((xZ 11 (l.take (i+1)):Nat):Int):=by
    rw[q,ko];unfold xZ;rw[zD oy oy];rfl
   rw[<-w,<-xP];exact e.sub da
  refine thenC.nx (wpS.av d zJj rfl rfl (d.on λu n=>n.slt λwH e=>⟨rfl,rfl,l.length-(i+1),oy,i+1,oy,rfl,rfl,p,?_⟩));have w:xZ 11 (l.take (i+1))=xZ 11 (l.take i):=by rw[q,ko];unfold lone;rw[if_neg oy];rfl
  rw[w,<-xP];exact e.sub da
 have hi:i=l.length:=by have:¬(i:Int)<Int.ofNat l.length:=c;simp at this;omega
 subst hi;rw[List.take_length]at j a;exact thenC.left (wpS.av a zS5 rfl rfl (a.on λg d=>endW.r2 (d.get rfl) (d.get rfl) (A r j)))
def Yi(l:Ub):Nat:=(l.filter λx=>decide (0<x)).length
theorem zCJ(l:Ub)(x:Int):Yi (l++[x])=Yi l+(if 0<x then 1 else 0):=by unfold Yi;rw[List.filter_append,oe];congr 1;by_cases c:0<x<;>simp[c]
theorem zRJ(l:Ub):Yi l<=l.length:=List.length_filter_le _ _
theorem JD:∀{l:Ub},wg l=true->Yi l=wy l
 | [],_=>rfl
 | x::l,h=>by
  have h':wg ([x]++l)=true:=h;rw[jF,oM]at h';have a:=ji h (List.mem_cons_self ..);have ih:=JD h'.2;unfold Yi wy at ih ⊢;by_cases c:x=0
  .subst c;simpa using ih
  have:0<x:=oy
  simp[c,this];simpa using ih
theorem Je{v:V}{l:Ub}(sl:Sl h v 1 l.length (zV l))(hl:l.length<=1000)(p:∀m:Int,Q (.tuple [dd (Yi l:Nat),dd m]) h):RF P zB 113 [v] h Q:=by
 refine yU z0I ⟨_,sl.len z7 rfl,Has.nil.on λtm hs=>?_⟩;refine wpC.round (λk tm h'=>∃(i:Nat) (m:Int),i<=l.length/\k=l.length-i/\h'=h/\Has tm [(8,dd i),(7,dd (Int.ofNat l.length)),(6,v),(2,dd (Yi (l.take i):Nat)),(3,dd m)]) l.length ⟨0,0,oy,oy,rfl,hs.sub da⟩ ?_;clear hs;rintro k tm h' ⟨i,m,q,rfl,rfl,hs⟩;refine wpC.av hs zRh rfl rfl ⟨λc=>?_,λc=>hs.on λd a=>?_⟩
 .have hi:i<l.length:=by have:(i:Int)<Int.ofNat l.length:=c;simp at this;omega
  obtain⟨b,o,r,n⟩:=kc sl hi;have f:=xj hi;have hb:=zRJ (l.take i);rw[List.length_take]at hb;generalize l[i]=x at n f;refine⟨b,o,r,x,n,λg=>hs.on λd a=>⟨rfl,rfl,l.length-(i+1),oy,i+1,max m x,oy,rfl,rfl,?_⟩,λg=>hs.on λd a=>⟨rfl,rfl,l.length-(i+1),oy,i+1,m,oy,rfl,rfl,?_⟩⟩
  .have j:zG (((Yi (l.take i):Nat):Int)+1)=((Yi (l.take (i+1)):Nat):Int):=by
    rw[f,zCJ,if_pos g,zD oy oy];rfl
   rw[<-j,<-xP];exact a.sub da
  have j:Yi (l.take (i+1))=Yi (l.take i):=by rw[f,zCJ,if_neg g];rfl
  rw[j,<-xP];exact a.sub da
 have hi:i=l.length:=by have:¬(i:Int)<Int.ofNat l.length:=c;simp at this;omega
 subst hi;rw[List.take_length]at a;exact thenC.left (wpS.av a zS6 rfl rfl (a.on λt e=>endW.r2 (e.get rfl) (e.get rfl) (p _)))
theorem zIt(sl:Sl h v 1 l.length (zV l))(hl:l.length<=1000)(a:Q (dd (wW l)) h):RF P zB 61 [v] h Q:=by
 unfold wW at a;refine yU z4C (zP1 sl hl (λc=>?_) (λc hb=>?_) (λc hb=>?_))
 .rw[if_pos c]at a;exact⟨_,_,rfl,Je sl hl λm=>⟨_,_,rfl,λ_=>a,λg=>absurd db g⟩⟩
 .rw[if_neg c,hb,if_neg db]at a;exact⟨_,_,rfl,Je sl hl λm=>⟨_,_,rfl,λ_=>a,λg=>absurd db g⟩⟩
 rw[if_neg c,if_pos hb,<-JD hb]at a;refine⟨_,_,rfl,Je sl hl λm=>⟨_,_,rfl,λg=>absurd rfl g,λ_=>⟨λb=>?_,λb=>?_⟩⟩⟩
 .rw[if_pos oy]at a;exact a
 rw[if_neg oy]at a;refine⟨λd=>?_,λd=>?_⟩
 .rw[if_neg oy]at a;exact a
 rw[if_pos oy]at a;exact a
theorem zWi{x:Int}(h:0<x/\x<=11):zj .shl .i64 1 (zU .u64 (zG ((11:Int)-x)))=some (dd (lone 11 x:Nat)):=by have e:=zVH h;rw[zD oy oy,show(11:Int)-x=((11-x.toNat:Nat):Int)by omega]at e ⊢;rw[zb oy];exact e
theorem zP2{v:V}{l:Ub}(sl:Sl h v 1 l.length (zV l))(hl:l.length<=1000)(h1:256<l.length->Q (.tuple [dd 0,dd 6]) h)(A:¬256<l.length->wg l=false->Q (.tuple [dd 0,dd 2]) h)(B:¬256<l.length->wg l=true->Q (.tuple [dd (xZ 11 l:Nat),dd 0]) h):RF P zB 199 [v] h Q:=by
 refine yU z0o ⟨_,sl.len z7 rfl,λc=>h1 oy,λc=>Has.nil.on λtm hs=>?_⟩;have u:¬256<l.length:=oy
 refine wpC.round (λk tm h'=>∃i:Nat,i<=l.length/\k=l.length-i/\h'=h/\wg (l.take i)=true/\Has tm [(5,dd i),(0,v),(4,dd (xZ 11 (l.take i):Nat))]) l.length ⟨0,oy,oy,rfl,by simp[wg],hs.sub da⟩ ?_;clear hs;rintro k tm h' ⟨i,C,rfl,rfl,f,hs⟩;refine wpC.av hs zSC rfl rfl ⟨_,sl.len z7 rfl,λc=>?_,λc=>hs.on λg a=>?_⟩
 .have hi:i<l.length:=oy
  obtain⟨b,o,r,n⟩:=kc sl hi;have e:¬(0<=l[i]/\l[i]<=11)->wg l=false:=zEy hi;have t:=xj hi;have hb:=zDZ (λx=>Y0 x) (l.take i);rw[List.length_take]at hb;generalize l[i]=x at n e t;refine⟨b,o,r,x,n,λD=>hs.on λg a=>?_,λD=>⟨b,o,r,x,n,λE=>hs.on λg a=>?_,λE=>hs.on λg a=>?_⟩⟩
  .have w:=A u (e oy);exact thenC.rt (thenC.rt (endW.r2 (a.get rfl) (a.get rfl) w))
  .have w:=A u (e oy);exact thenC.rt (thenC.rt (endW.r2 (a.get rfl) (a.get rfl) w))
  have G:=Y0 x;have p:wg (l.take (i+1))=true:=by rw[t];exact zEz f
  refine wpS.av a zTD rfl rfl ⟨b,o,r,x,n,λF=>⟨b,o,r,x,n,_,zWi oy,a.on λq d=>?_⟩,λF=>a.on λq d=>?_⟩
  .refine thenC.nx (wpS.av d zJn rfl rfl (d.on λy j=>j.slt λwH m=>⟨rfl,rfl,l.length-(i+1),oy,i+1,oy,rfl,rfl,p,?_⟩));have z:zG (((xZ 11 (l.take i):Nat):Int)+((lone 11 x:Nat):Int))=((xZ 11 (l.take (i+1)):Nat):Int):=by
    rw[t,ko];unfold xZ;rw[zD oy oy];rfl
   rw[<-z,<-xP];exact m.sub da
  refine thenC.nx (wpS.av d zJn rfl rfl (d.on λy j=>j.slt λwH m=>⟨rfl,rfl,l.length-(i+1),oy,i+1,oy,rfl,rfl,p,?_⟩));have z:xZ 11 (l.take (i+1))=xZ 11 (l.take i):=by rw[t,ko];unfold lone;rw[if_neg oy];rfl
  rw[z,<-xP];exact m.sub da
 have hi:i=l.length:=oy
 subst hi;rw[List.take_length]at f a;exact thenC.left (wpS.av a zTE rfl rfl (a.on λq d=>endW.r2 (d.get rfl) (d.get rfl) (B u f)))
theorem zNd{v:V}{l:Ub}(sl:Sl h v 1 l.length (zV l))(hl:l.length<=1000)(n:Q (dd (wy l:Nat)) h):RF P zB 200 [v] h Q:=by
 refine yU z0p (Has.nil.on λtm hs=>?_);refine wpC.round (λk tm h'=>∃i:Nat,i<=l.length/\k=l.length-i/\h'=h/\Has tm [(4,dd i),(0,v),(3,dd (wy (l.take i):Nat))]) l.length ⟨0,oy,oy,rfl,hs.sub da⟩ ?_;clear hs;rintro k tm h' ⟨i,p,rfl,rfl,hs⟩;refine wpC.av hs zSD rfl rfl ⟨_,sl.len z7 rfl,λc=>?_,λc=>hs.on λd a=>?_⟩
 .have hi:i<l.length:=oy
  obtain⟨b,o,q,m⟩:=kc sl hi;have e:=xj hi;have hb:=Of (l.take i);rw[List.length_take]at hb;generalize l[i]=x at m e;refine⟨b,o,q,x,m,λf=>hs.on λd a=>⟨rfl,rfl,l.length-(i+1),oy,i+1,oy,rfl,rfl,?_⟩,λf=>hs.on λd a=>⟨rfl,rfl,l.length-(i+1),oy,i+1,oy,rfl,rfl,?_⟩⟩
  .have g:zG (((wy (l.take i):Nat):Int)+1)=((wy (l.take (i+1)):Nat):Int):=by
    rw[e,Zn,if_pos f,zD oy oy];rfl
   rw[<-g,<-xP];exact a.sub da
  have g:wy (l.take (i+1))=wy (l.take i):=by rw[e,Zn,if_neg f];rfl
  rw[g,<-xP];exact a.sub da
 have hi:i=l.length:=oy
 subst hi;rw[List.take_length]at a;exact thenC.left (wpS.av a zTF rfl rfl (a.on λr j=>endW.r1 (j.get rfl) n))
theorem zIu(sl:Sl h v 1 l.length (zV l))(hl:l.length<=1000)(a:Q (dd (wW l)) h):RF P zB 128 [v] h Q:=by
 unfold wW at a;refine yU z0R (zP2 sl hl (λc=>?_) (λc hb=>?_) (λc hb=>?_))
 .rw[if_pos c]at a;exact⟨_,_,rfl,λ_=>a,λg=>absurd db g⟩
 .rw[if_neg c,hb,if_neg db]at a;exact⟨_,_,rfl,λ_=>a,λg=>absurd db g⟩
 rw[if_neg c,if_pos hb]at a;refine⟨_,_,rfl,λg=>absurd rfl g,λ_=>zNd sl hl ⟨_,rfl,λb=>?_,λb=>?_⟩⟩
 .rw[if_pos oy]at a;exact a
 rw[if_neg oy]at a;refine⟨λd=>?_,λd=>?_⟩
 .rw[if_neg oy]at a;exact a
 rw[if_pos oy]at a;exact a
theorem _root_.Go.Sim.leaveL.tmp{c:Ctx}{a:Nat}{l:List (Go.ResultVar×V)}{acc:Ug}{r:Option Ug}(hr:leaveL c h l (v::acc)=r):leaveL c h ((.tmp a,v)::l) acc=r:=hr
def zK7(l:Ub)(n:Int):Int:=if wW l=0 then (if n<0\/131072<n then 2 else 0) else wW l
theorem zAR{n:Int}(sl:Sl h v 1 l.length (zV l))(hl:l.length<=1000)(a:Q (dd (zK7 l n)) h):RF P zB 194 [v,dd n] h Q:=by
 unfold zK7 at a;refine yU z0j (zIt sl hl ⟨_,rfl,λc=>?_,λc=>?_⟩)
 .rw[if_pos c]at a;refine⟨λb=>?_,λb=>⟨λd=>?_,λd=>?_⟩⟩
  .rw[if_pos (.inl b)]at a;exact a
  .rw[if_pos (.inr d)]at a;exact a
  rw[if_neg oy]at a;rw[c];exact a
 rw[if_neg c]at a;exact a
theorem zAQ{n:Int}(sl:Sl h v 1 l.length (zV l))(hl:l.length<=1000)(a:Q (dd (zK7 l n)) h):RF P zB 129 [v,dd n] h Q:=by
 unfold zK7 at a;refine yU z0S (zIu sl hl ⟨_,rfl,λc=>?_,λc=>?_⟩)
 .rw[if_pos c]at a;refine⟨λb=>?_,λb=>⟨λd=>?_,λd=>?_⟩⟩
  .rw[if_pos (.inl b)]at a;exact a
  .rw[if_pos (.inr d)]at a;exact a
  rw[if_neg oy]at a;rw[c];exact a
 rw[if_neg c]at a;exact a
def prt(n:Nat):Ug:=[dd ((n+3)/4:Nat),dd ((n+3)/4:Nat),dd ((n+3)/4:Nat),dd (n-3*((n+3)/4):Nat)]
abbrev oP4(a b c d:Int):O:=.cells (.ls [dd a,dd b,dd c,dd d]) ⟨0,177,0⟩ true false
theorem zOK{n:Nat}(h:6<=n)(f:n<=131072): [(dd (zG (Int.tdiv (zG (((n:Nat):Int)+3)) 4))),(dd (zG (Int.tdiv (zG (((n:Nat):Int)+3)) 4))),(dd (zG (Int.tdiv (zG (((n:Nat):Int)+3)) 4))),(dd (zG (((n:Nat):Int)-(zG ((3:Int)*(zG (Int.tdiv (zG (((n:Nat):Int)+3)) 4)))))))]=prt n:=by
 have a:zG (((n:Nat):Int)+3)=((n+3:Nat):Int):=by rw[zD oy oy];rfl
 have b:Int.tdiv ((n+3:Nat):Int) 4=(((n+3)/4:Nat):Int):=rfl;have c:zG (((n+3)/4:Nat):Int)=(((n+3)/4:Nat):Int):=zD oy oy;have d:zG ((3:Int)*(((n+3)/4:Nat):Int))=((3*((n+3)/4):Nat):Int):=by rw[zD oy oy];omega
 have e:zG (((n:Nat):Int)-((3*((n+3)/4):Nat):Int))=((n-3*((n+3)/4):Nat):Int):=by rw[zD oy oy];omega
 rw[a,b,c,d,e];rfl
theorem zH8{a b c d:Int}:∀v∈[dd a,dd b,dd c,dd d],Plain v:=λv e=>by simp only[oq,List.not_mem_nil,or_false]at e;rcases e with rfl|rfl|rfl|rfl<;>exact zL _ _
theorem zOC{n:Nat}(h1:6<=n)(b:n<=131072)(c:Q (.agg (prt n)) h):RF P zB 197 [dd n] h Q:=by
 refine RF.plain ?_ (zGn (zL _ _));refine yU z0m ⟨db,?_⟩;rintro p0 d rfl a;have e:d.get H0.nx=some (oP4 0 0 0 0):=by rw[a];exact zM _ db
 clear a;refine⟨db,?_⟩;try dsimp only
 rw[show[(dd (zG (Int.tdiv (zG (((n:Nat):Int)+3)) 4))),(dd (zG (Int.tdiv (zG (((n:Nat):Int)+3)) 4))),(dd (zG (Int.tdiv (zG (((n:Nat):Int)+3)) 4))),(dd (zG (((n:Nat):Int)-(zG ((3:Int)*(zG (Int.tdiv (zG (((n:Nat):Int)+3)) 4)))))))]=prt n from zOK h1 b];refine⟨_,z6 YP e rfl,?_⟩;exact endL.ok (leaveL.cell (zO YP rfl (zF _ (show H0.nx<T.top by decide)) rfl) rfl) ⟨xM zH8,c⟩
theorem zKi{n:Nat}(g:n<=131072)(b:6<=n->Q (.tuple [.agg (prt n),dd 0]) h)(d:n<6->Q (.tuple [.agg [dd 0,dd 0,dd 0,dd 0],dd 20]) h):RF P zB 131 [dd n] h Q:=by
 refine RF.plain ?_ (zGn (zL _ _));refine yU z0U ⟨db,?_⟩;rintro p0 i rfl e;have f:i.get H0.nx=some (oP4 0 0 0 0):=by rw[e];exact zM _ db
 clear e;refine⟨λc=>absurd c oy,λ_=>⟨λc=>absurd c oy,λ_=>Has.nil.on λtm hs=>?_⟩⟩;refine wpS.av hs zSf rfl rfl ⟨λc=>?_,λc=>⟨db,?_⟩⟩
 .refine⟨_,z6 YP f rfl,hs.on λqM a=>?_⟩;exact endW.ok (leave.cell (a.get rfl) (zO YP rfl (zF _ (show H0.nx<T.top by decide)) rfl) (leave.tmp (a.get rfl) rfl)) ⟨qH (xM zH8) (zL _ _),d oy⟩
 rw[zOK oy g];refine⟨_,z6 YP f rfl,hs.on λqM a=>?_⟩;exact endW.ok (leave.cell (a.get rfl) (zO YP rfl (zF _ (show H0.nx<T.top by decide)) rfl) (leave.tmp (a.get rfl) rfl)) ⟨qH (xM zH8) (zL _ _),b oy⟩
theorem zKP{a b:Int}(f:Q (.tuple [.str [],.nilslice,dd 0,.agg [dd a,dd b]]) h)(j:h.nx+1<=T.top):RF P zB 69 [dd a,dd b] h Q:=by
 refine RF.forget (n:=1) (v:=.tuple [.str [],.nilslice,dd 0,.agg [dd a,dd b]]) ?_ (kE λv d=>?_) f
 .refine yU z4J ⟨oy,?_⟩;rintro p0 e rfl c;have g:e.get h.nx=some (oF 0 0):=by rw[c];exact zM _ oy
  have i:Ext h e 1:=by rw[c];exact Ext.new _ oy
  clear c;refine⟨_,z6 zd g rfl,?_⟩;exact endL.ok (leaveL.tmp (leaveL.tmp (leaveL.tmp (leaveL.cell (zO zd rfl (zF _ (show h.nx<T.top by omega)) rfl) rfl)))) ⟨rfl,i.upd (some (oF a b)) (show h.nx<T.top by omega) (oV _)⟩
 simp only[oq,List.not_mem_nil,or_false]at d;rcases d with rfl|rfl|rfl|rfl
 .exact yx _
 .exact YD
 .exact zL _ _
 exact xM (Ks (zL _ _) (zL _ _))
theorem zQy(sl:Sl h v 1 l.length (zV l))(hl:l.length<=1000)(a:Q (dd (if l.length=0 then 0 else wW l)) h):RF P zB 70 [v] h Q:=by
 refine yU z4L ⟨_,sl.len z7 rfl,λc=>?_,λc=>zIu sl hl ?_⟩
 .rw[if_pos oy]at a;exact a
 rw[if_neg oy]at a;exact⟨_,rfl,a⟩
theorem _root_.Go.Sim.Row.list{l:Ug}{n:Nat}(h:l.length=n):Row (.ls l) n l:=⟨trivial,by show wM l 0=n;rw[yB];omega,h,λ_ _=>Cs.getL_eq _ _⟩
theorem zCu{p k:Nat}(a:k<12):yo zB 381 (.ptr p 0) (dd k)=some (.ptr p k):=by rcases k with _|_|_|_|_|_|_|_|_|_|_|_|k;all_goals first|omega|kernel_rfl
abbrev oK(cs:Cs):O:=.cells cs ⟨0,382,0⟩ true false
theorem kZ(l:Ub):zV (Zo l)=[dd (wl l 0:Nat),dd (wl l 1:Nat),dd (wl l 2:Nat),dd (wl l 3:Nat),dd (wl l 4:Nat),dd (wl l 5:Nat),dd (wl l 6:Nat),dd (wl l 7:Nat),dd (wl l 8:Nat),dd (wl l 9:Nat),dd (wl l 10:Nat),dd (wl l 11:Nat)]:=by
 have:List.range 12=[0,1,2,3,4,5,6,7,8,9,10,11]:=db
 unfold Zo zE4;rw[this];rfl
theorem _root_.Go.Sim.Row.all12{cs:Cs}{xs:Ug}(r:Row cs 12 xs):cs.range 0 12=some xs:=Cs.range_is db r.2.2.1 λi hi=>by rw[Nat.zero_add];exact r.2.2.2 i hi
theorem zNc{v:V}{l:Ub}(sl:Sl h v 1 l.length (zV l))(hl:l.length<=256)(hb:wg l=true)(hn:h.nx+1<=T.top)(O:∀h',Ext h h' 1->Q (.tuple [.agg (zV (Zo l)),dd 0]) h'):RF P zB 330 [v] h Q:=by
 refine yU z19 ⟨oy,?_⟩;rintro p0 h1 rfl J;have A:=(Vw.nil (S:=zN) (h:=h)).new J oy;have R:=(zq J).2.1;have s1:=sl.ext R;rw[show([dd 0,dd 0,dd 0,dd 0,dd 0,dd 0,dd 0,dd 0,dd 0,dd 0,dd 0,dd 0]:Ug)=zV (Zo [])from by rw[kZ];rfl]at A;refine⟨_,s1.len z7 rfl,λc=>absurd c oy,λ_=>⟨_,s1.len z7 rfl,Has.nil.on λtm hs=>?_⟩⟩;refine wpC.round (λk tm h'=>∃(i:Nat) (cs:Cs),i<=l.length/\k=l.length-i/\Vw zN h h' 1 [(h.nx,oK cs)]/\h'.nx<=T.top/\Row cs 12 (zV (Zo (l.take i)))/\Has tm [(12,dd i),(11,dd (Int.ofNat l.length)),(10,v),(2,.ptr h.nx 0)]) l.length ⟨0,_,oy,oy,A,by have:=A.top;omega,(show Row (.ls (zV (Zo []))) 12 (zV (Zo []))from Row.list (by rw[kZ];rfl)),hs.sub da⟩ ?_;clear hs;rintro k tm h' ⟨i,cs,U,rfl,w,p,r,hs⟩;have B:=sl.ext w.ex0;refine wpC.av hs zS1 rfl rfl ⟨λc=>?_,λc=>hs.on λC g=>?_⟩
 .have hi:i<l.length:=by have:(i:Int)<Int.ofNat l.length:=c;simp at this;omega
  obtain⟨b,o,W,K⟩:=kc B hi;have L:=xj hi;have X:=ji hb (od hi);generalize l[i]=x at K L X;refine⟨b,o,W,x,K,λY=>absurd Y oy,λ_=>⟨λZ=>absurd Z oy,λ_=>hs.on λC g=>?_⟩⟩;obtain⟨s,rfl⟩:∃s:Nat,x=(s:Int):=⟨x.toNat,oy⟩;have d:s<12:=oy
  have D:=OQ (l.take i) s;rw[List.length_take]at D;have E:(zV (Zo (l.take i)))[s]? = some (dd (wl (l.take i) s:Nat)):=by unfold zV;rw[oh,OE d];rfl
  obtain⟨y,cs',F,r2,z,n2⟩:=w.set (cx:=zB) 0 (e:=3) (j:=s) (u:=dd (wl (l.take i) s+1:Nat)) r rfl p d zm rfl rfl rfl rfl;have ew:zG (((wl (l.take i) s:Nat):Int)+1)=((wl (l.take i) s+1:Nat):Int):=by rw[zD oy oy];rfl
  refine wpS.av g zTj rfl rfl ⟨_,_,zCu d,_,w.ld1 0 rfl zm ((r.2.2.2 s d).trans E),_,_,zCu d,y,by rw[ew];exact F,g.on λG m=>?_⟩;refine thenC.nx (wpS.av m zTk rfl rfl (m.on λtm3 H=>H.slt λwH I=>⟨rfl,rfl,l.length-(i+1),oy,i+1,cs',oy,rfl,z,by show y.nx<=_;omega,?_,?_⟩))
  .rw[<-Zx,zMK d,<-L]at r2;exact r2
  rw[<-xP];exact I.sub da
 have hi:i=l.length:=by have:¬(i:Int)<Int.ofNat l.length:=c;simp at this;omega
 subst hi;rw[List.take_length]at r;have M:=r.all12;rw[kZ]at M;have n:(zV (Zo l)).length=12:=r.2.2.1;obtain⟨q,N,p2⟩:=Cs.put_some (cs:=cs) r.1 (o:=0) (vs:=zV (Zo l)) (by rw[r.2.1,n];decide);obtain⟨_,p3,p4⟩:=Cs.put_eq N;have r2:Row q 12 (zV (Zo l)):=⟨p2,by rw[p3,r.2.1],n,λa ha=>by rw[p4,if_pos ⟨oQ _,oy⟩,Nat.sub_zero]⟩
 obtain⟨y,F,z,n2,_⟩:=w.st (cx:=zB) 0 (t:=381) (f:=0) (u:=.agg (zV (Zo l))) (cs':=q) rfl p zJg N (by rw[kZ];rfl) (oQ _) (by rw[kZ];rfl);refine thenC.left (wpS.av g zTl rfl rfl ⟨_,_,_,_,_,_,_,_,_,_,_,_,w.ldA 0 rfl zJg M,y,by rw[<-kZ];exact F,g.on λG m=>?_⟩);exact endW.ok (leave.cell (m.get rfl) (z.ldA 0 rfl zJg r2.all12) (leave.tmp (m.get rfl) rfl)) (O _ z.ex0)
def ju(l:Ub):Prop:=l.length<=256/\wg l=true/\2<=wy l/\xZ 11 l=2048
def zDm(l:Ub):Nat->Nat
 | 0=>0
 | j+1=>zDm l j+wl l (j+1)*2^(11-(j+1))
def zDH(l:Ub):Nat->Nat
 | 0=>0
 | j+1=>zDH l j+wl l (j+1)
theorem zIg(l:Ub):∀j,zDH l j<=l.length*j
 | 0=>oQ _
 | j+1=>by have:=zIg l j;have:=OQ l (j+1);rw[zDH,Nat.mul_succ];omega
theorem zJ7(l:Ub):∀j,zDm l j<=l.length*2048*j
 | 0=>oQ _
 | j+1=>by have:=zJ7 l j;have h1:=OQ l (j+1);have a:2^(11-(j+1))<=2^11:=Nat.pow_le_pow_right db oy;have b:=Nat.mul_le_mul h1 a;rw[zDm,Nat.mul_succ];omega
theorem zIF(l:Ub)(x:Int)(s:Nat):wl (x::l) s=wl l s+(if x=(s:Int) then 1 else 0):=by
 unfold wl;by_cases c:x=(s:Int)
 .rw[List.filter_cons_of_pos (by simpa using c),if_pos c];rfl
 rw[List.filter_cons_of_neg (by simpa using c),if_neg c];rfl
theorem zGO:∀{l:Ub},wg l=true->zDm l 11=xZ 11 l/\zDH l 11=wy l
 | [],_=>⟨rfl,rfl⟩
 | x::l,h=>by
  have a:wg l=true:=by have:wg ([x]++l)=true:=h;rw[jF,oM]at this;exact this.2
  have g:=ji h (List.mem_cons_self ..);obtain⟨b,d⟩:=zGO a;have e:xZ 11 (x::l)=lone 11 x+xZ 11 l:=by simp[xZ]
  have f:wy (x::l)=wy l+(if x≠0 then 1 else 0):=by have:=YV [x] l;rw[List.singleton_append]at this;rw[this,Nat.add_comm];congr 1;by_cases c:x=0<;>simp[wy,c]
  rw[e,f,<-b,<-d];simp only[zDm,zDH,zIF];have:x=0\/x=1\/x=2\/x=3\/x=4\/x=5\/x=6\/x=7\/x=8\/x=9\/x=10\/x=11:=oy
  rcases this with rfl|rfl|rfl|rfl|rfl|rfl|rfl|rfl|rfl|rfl|rfl|rfl<;>(simp[lone];try omega)
theorem zDF{v:V}{l:Ub}(sl:Sl h v 1 l.length (zV l))(z:ju l)(J:h.nx+2<=T.top)(A:Q (dd 0) h):RF P zB 317 [v] h Q:=by
 obtain⟨hl,hb,K,b⟩:=z;refine RF.forget (n:=2) (v:=dd 0) ?_ (zL _ _) A;refine yU z12 (zNc sl hl hb oy λh1 m=>?_);have L:=m.top;rw[kZ];refine⟨_,_,_,_,_,_,_,_,_,_,_,_,_,rfl,oy,?_⟩;rintro p B rfl C;have o:=((Vw.nil (S:=zN) (h:=h)).ext m).new C oy;have M:=o.top;obtain⟨q,w,x,n4,_⟩:=o.st (cx:=zB) 0 (t:=381) (f:=0) (u:=.agg (zV (Zo l))) (cs':=.ls (zV (Zo l))) rfl oy zJg (by rw[kZ];rfl) (by rw[kZ];rfl) (oQ _) (by rw[kZ];rfl);rw[kZ]at w;refine⟨q,w,λc=>absurd rfl c,λ_=>Has.nil.on λtm hs=>?_⟩;have r:Row (.ls (zV (Zo l))) 12 (zV (Zo l)):=Row.list (by rw[kZ];rfl);refine wpC.round (λk tm h'=>∃j:Nat,j<=11/\k=11-j/\h'=q/\Has tm [(7,dd (j+1:Nat)),(5,dd (zDm l j:Nat)),(3,.ptr h1.nx 0),(6,dd (zDH l j:Nat))]) 11 ⟨0,oy,oy,rfl,hs.sub da⟩ ?_;clear hs;rintro k tm h' ⟨j,d,rfl,rfl,hs⟩;refine wpC.av hs zSV rfl rfl ⟨λc=>?_,λc=>hs.on λe a=>?_⟩
 .have d:j<11:=oy
  have N:=zIg l j;have O:=zJ7 l j;have R:=OQ l (j+1);have U:l.length*j<=256*11:=Nat.mul_le_mul hl oy;have W:l.length*2048*j<=256*2048*11:=Nat.mul_le_mul (Nat.mul_le_mul_right _ hl) oy;have D:2^(11-(j+1))<=2^11:=Nat.pow_le_pow_right db oy;have B:wl l (j+1)*2^(11-(j+1))<=256*2^11:=Nat.mul_le_mul oy D;have g:(zV (Zo l))[j+1]? = some (dd (wl l (j+1):Nat)):=by unfold zV;rw[oh,OE oy];rfl
  have y:=x.ld1 (cx:=zB) (t:=3) 0 rfl zm ((r.2.2.2 (j+1) oy).trans g);have E:zj .shl .i64 ((wl l (j+1):Nat):Int) (zG ((11:Int)-((j+1:Nat):Int)))=some (dd ((wl l (j+1)*2^(11-(j+1)):Nat):Int)):=by rw[zD oy oy,show(11:Int)-((j+1:Nat):Int)=((11-(j+1):Nat):Int)by omega];exact zz oy oy
  refine⟨_,_,zCu oy,_,y,_,E,_,_,zCu oy,_,y,hs.on λe a=>⟨rfl,rfl,11-(j+1),oy,j+1,oy,rfl,rfl,?_⟩⟩;have F:zG (((zDm l j:Nat):Int)+((wl l (j+1)*2^(11-(j+1)):Nat):Int))=((zDm l (j+1):Nat):Int):=by rw[zD oy oy,zDm];omega
  have i:zG (((zDH l j:Nat):Int)+((wl l (j+1):Nat):Int))=((zDH l (j+1):Nat):Int):=by rw[zD oy oy,zDH];omega
  rw[<-F,<-i,show((j+1+1:Nat):Int)=zG (((j+1:Nat):Int)+1)from by rw[zD oy oy];rfl];exact a.sub da
 have d:j=11:=oy
 subst d;obtain⟨G,H⟩:=zGO hb;rw[G,H,b]at a;refine thenC.left (wpS.av a zT9 rfl rfl ⟨λc=>absurd c oy,λ_=>⟨λc=>absurd rfl c,λ_=>a.on λI b=>?_⟩⟩);exact endW.r1 (b.get rfl) ⟨rfl,x.ex0.mono oy⟩
theorem zQr{v:V}{l:Ub}(sl:Sl h v 1 l.length (zV l))(hl:l.length<=256)(h1:0<l.length)(hb:wg l=true)(q:Q (dd (xS l:Nat)) h):RF P zB 331 [v] h Q:=by
 refine yU z1a ⟨_,sl.len z7 rfl,λc=>absurd c oy,λ_=>Has.nil.on λtm hs=>?_⟩;obtain⟨b,o,g,e⟩:=kc sl h1;have r:=ji hb (od h1);have f:=xj h1;rw[List.take_zero,List.nil_append]at f;have g0:grt (l.take (0+1))=l[0]:=by rw[f];show max (0:Int) l[0]=l[0];omega
 generalize l[0]=t at e g0;refine wpS.av hs zTn rfl rfl ⟨b,o,g,t,e,hs.on λj d=>?_⟩;refine wpC.round (λk tm h'=>∃i:Nat,1<=i/\i<=l.length/\k=l.length-i/\h'=h/\Has tm [(4,dd i),(0,v),(3,dd (grt (l.take i)))]) (l.length-1) ⟨1,oy,oy,oy,rfl,by rw[g0];exact d.sub da⟩ ?_;clear hs d;rintro k tm h' ⟨i,u,w,rfl,rfl,hs⟩;refine wpC.av hs zS2 rfl rfl ⟨_,sl.len z7 rfl,λc=>?_,λc=>hs.on λm a=>?_⟩
 .have hi:i<l.length:=oy
  obtain⟨b,o,g,e⟩:=kc sl hi;have p:=xj hi;generalize l[i]=x at e p;refine⟨b,o,g,x,e,hs.on λm a=>⟨rfl,rfl,l.length-(i+1),oy,i+1,oy,oy,rfl,rfl,?_⟩⟩;try dsimp only
  rw[p,zEu,<-xP];exact a.sub da
 have hi:i=l.length:=oy
 subst hi;rw[List.take_length,zDR]at a;exact thenC.left (wpS.av a zTm rfl rfl (a.on λj d=>d.slt λy n=>endW.r1 (n.get rfl) q))
theorem Xl(sl:Sl h v 1 l.length (zV l))(hl:l.length<=256)(h1:0<l.length)(hb:wg l=true)(a:Q (dd (xS l:Nat)) h):RF P zB 318 [v] h Q :=
 yU z13 (zQr sl hl h1 hb ⟨_,rfl,a⟩)
def zBm(a0 a1 a b:Int):Int:=wu [jz b a1,jz a0 a]
section
variable (a0 a1 b0 b1:Int)
abbrev sv(a b:Int):V:=.agg [dd a,dd b]
def hSy:H:=(H0.new (.cells (.ls [dd a0,dd a1]) ⟨0,373,0⟩ true false)).new (.cells (.ls [dd b0,dd b1]) ⟨0,373,0⟩ true false)
def tSy:Tm:=Tb.set (Tb.set (Tb.set (Tb.set (Tb.set (Tb.leaf zC) 0 (sv a0 a1)) 1 (sv b0 b1)) 2 (.ptr H0.nx 0)) 3 (.ptr 1 0)) 4 (dd 0)
def mSy:Nat:=(ya z2t.toList).getD 0
def rSy(x y o:Int):Option (List Qy×St) :=
 Yn zB z2t.toList (zi z2t.toList []) mSy mSy 0 z2t.toList ⟨17,tSy a0 a1 b0 b1,[],hSy a0 a1 b0 b1⟩ [dd x,dd y,dd o]
theorem zWU:ya z2t.toList=some mSy:=da
theorem zWd(x y o:Int):(rSy a0 a1 b0 b1 x y o).isSome=true:=da
theorem zWe(x y o:Int):(rSy a0 a1 b0 b1 x y o).map (λx=>x.1.map λq=>(q.1,q.2.2)) =
  some [((335,[dd b1,dd a1]),dd x),((335,[dd a0,dd b0]),dd y),((334,[.slice 2 0 2 (.exact 2)]),dd o)]:=da
theorem zZi(x y o:Int):((rSy a0 a1 b0 b1 x y o).bind λx=>(x.1[2]?).map λq=>(q.2.1.nx,q.2.1.get 2))=some (3,some (.cells (.ls [dd x,dd y]) ⟨0,4,0⟩ true false)):=da
theorem zZj(x y o:Int):(rSy a0 a1 b0 b1 x y o).map (λx=>(x.2.n,x.2.dfr,zI x.2.tm 4))=some (17,[],dd o):=da
theorem z3Z{α:Type}{l:List α}(h:l.length=3):∃a b c,l=[a,b,c]:=by rcases l with _|⟨a,_|⟨b,_|⟨c,_|⟨d,l⟩⟩⟩⟩<;>simp at h;exact⟨a,b,c,rfl⟩
theorem zMH{h:H}{Q:Uc}(c:Q (dd (zBm a0 a1 b0 b1)) h):RF P zB 333 [sv a0 a1,sv b0 b1] h Q:=by
 refine RF.plain ?_ (zk rfl);have c:∀h':H,Plain (dd (zBm a0 a1 b0 b1))/\Q (dd (zBm a0 a1 b0 b1)) h:=λ_=>⟨yc rfl,c⟩
 refine yU z1b ⟨of_decide_eq_true da,?_⟩;rintro p0 h1 rfl rfl;refine⟨of_decide_eq_true da,?_⟩;rintro K L rfl rfl;obtain⟨⟨w,z⟩,e⟩:=Option.isSome_iff_exists.1 (zWd a0 a1 b0 b1 (jz b1 a1) (jz a0 b0) (wu [jz b1 a1,jz a0 b0]));have k:=qs_at e (zWe _ _ _ _ _ _ _);have g:=zZi a0 a1 b0 b1 (jz b1 a1) (jz a0 b0) (wu [jz b1 a1,jz a0 b0]);have es:=zZj a0 a1 b0 b1 (jz b1 a1) (jz a0 b0) (wu [jz b1 a1,jz a0 b0]);rw[e]at g es;obtain⟨q0,j,m,rfl⟩:∃q0 j m,w=[q0,j,m]:=by exact z3Z (by have:=congrArg List.length k;simpa using this)
 simp only[List.map_cons,List.map_nil,List.cons.injEq,oB,and_true]at k;obtain⟨⟨k0,v0⟩,⟨r,v1⟩,⟨t,u⟩⟩:=k;obtain⟨⟨M,A⟩,⟨w0,N⟩⟩:=q0;obtain⟨⟨O,B⟩,⟨C,R⟩⟩:=j;obtain⟨⟨S,D⟩,⟨E,T⟩⟩:=m;simp only at k0 v0 r v1 t u;obtain⟨rfl,rfl⟩:=k0;obtain⟨rfl,rfl⟩:=r;obtain⟨rfl,rfl⟩:=t;subst v0 v1 u;refine wpDr.ans zWU e ?_ ?_ ?_
 .intro q c;simp only[oq,List.not_mem_nil,or_false]at c;rcases c with rfl|rfl|rfl
  .exact RF.same (zIe ⟨rfl,rfl⟩)
  .exact RF.same (zIe ⟨rfl,rfl⟩)
  simp only[List.getElem?_cons_succ,List.getElem?_cons_zero,Option.bind_some,oo,oA,oB]at g;refine RF.same (zZd (l:=[jz b1 a1,jz a0 b0]) ⟨rfl,.inr ⟨2,0,_,_,_,_,_,rfl,by rw[g.1];decide,g.2,?_⟩⟩ (by simp) ⟨rfl,rfl⟩);intro i hi;rcases i with _|_|i
  .rfl
  .rfl
  exact absurd hi (by show ¬i+1+1<2*1;omega)
 .have:∀q∈[((335,[dd b1,dd a1]),w0,dd (jz b1 a1)),((335,[dd a0,dd b0]),C,dd (jz a0 b0)),((334,[.slice 2 0 2 (.exact 2)]),E,dd (wu [jz b1 a1,jz a0 b0]))],q.2.2=(match q.1.2 with | [.int _ x,.int _ y]=>dd (jz x y)|_=>dd (wu [jz b1 a1,jz a0 b0])):=by
   intro q c;simp only[oq,List.not_mem_nil,or_false]at c;rcases c with rfl|rfl|rfl<;>rfl
  intro a F b hb o;rw[this a F,this b hb,o]
 obtain⟨n,tm,d,G⟩:=z;simp only[oo,oA,oB]at es;obtain⟨rfl,rfl,I⟩:=es;have f:Has tm [(4,dd (zBm a0 a1 b0 b1))]:=⟨I,trivial⟩;exact thenC.nx (wpS.av f zTo rfl rfl (f.on λJ p=>endW.r1 (p.get rfl) (c G)))
end
end Go.Proofs.YtnpeieeomokomaaGreat
