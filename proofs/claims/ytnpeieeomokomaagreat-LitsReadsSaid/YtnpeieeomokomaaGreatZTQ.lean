/- TQ. No condition. -/
import Derived.Test.YtnpeieeomokomaaGreatZTP
import Derived.Test.YtnpeieeomokomaaGreatZTO
import Derived.Test.YtnpeieeomokomaaGreatZCtx
import Derived.Test.YtnpeieeomokomaaGreatZX
import Derived.Test.YtnpeieeomokomaaGreatZS
import Derived.Shelf.Strings.Repeat
set_option maxRecDepth 100000
set_option maxHeartbeats 2000000
noncomputable section
namespace Go.Proofs.YtnpeieeomokomaaGreat
open Go.Sim
variable {h:H}{Q:Uc}
variable{ys zs:List (Int×Int)}{l:Ub}{out s:Ua}{c m n p:Nat}{v:V}{k:Uc}
def JA:List Go.Oper:=z2o.toList
def Ku(i:Nat):Go.Oper:=(JA[i]?).getD default
theorem zNr:JA=[Ku 0,Ku 1,Ku 2,Ku 3]:=da
theorem z3f:ya JA=some 2:=da
def zL8(tm:Tm)(p0:Nat)(q:Ua)(i:Int)(pm:Nat)(pt:Nat)(a:Nat)(b:Nat)(p4:Nat)(d:Nat)(v0:V)(o:Nat)(m:Int)(s:Ua)(e:Int)(_:Int)(_:Ua):Tm:=(Tb.set (Tb.set (Tb.set (Tb.set (Tb.set (Tb.set (Tb.set (Tb.set (Tb.set (Tb.set (Tb.set (Tb.set (Tb.set (zW tm [(3,.ptr p0 0),(19,.str q),(18,dd i),(17,.ptr pm 0),(16,.ptr pt 0),(15,.ptr a 0),(6,.ptr b 0),(7,.ptr p4 0),(8,.ptr d 0)]) 75 v0) 76 (.str q)) 77 (dd i)) 78 (.ptr pm o)) 79 (dd m)) 80 (.tuple [(.str s),(dd e)])) 74 (.tuple [(.str s),(dd e)])) 81 (.str s)) 82 (dd e)) 20 (.str s)) 21 (dd e)) 83 (dd e)) 84 (.bool true))
theorem z3C(tm:Tm)(p0:Nat)(q:Ua)(i:Int)(pm:Nat)(pt:Nat)(a:Nat)(b:Nat)(p4:Nat)(d:Nat)(v0:V)(o:Nat)(m:Int)(s:Ua)(e:Int)(at_:Int)(out:Ua):(Ku 0).op = .load 3 (t 16)/\zx (zL8 tm p0 q i pm pt a b p4 d v0 o m s e at_ out) (t 16)=some (.ptr pt 0):=⟨da,da⟩
def zCp(tm:Tm)(p0:Nat)(q:Ua)(i:Int)(pm:Nat)(pt:Nat)(a:Nat)(b:Nat)(p4:Nat)(d:Nat)(v0:V)(o:Nat)(m:Int)(s:Ua)(e:Int)(at_:Int)(out:Ua):Tm:=Tb.set (zL8 tm p0 q i pm pt a b p4 d v0 o m s e at_ out) 85 (dd at_)
theorem z3D(tm:Tm)(p0:Nat)(q:Ua)(i:Int)(pm:Nat)(pt:Nat)(b:Nat)(a:Nat)(p4:Nat)(d:Nat)(v0:V)(o:Nat)(m:Int)(s:Ua)(e:Int)(at_:Int)(out:Ua):(Ku 1).op = .store 9 (t 6) (cs [])/\zx (zCp tm p0 q i pm pt b a p4 d v0 o m s e at_ out) (t 6)=some (.ptr a 0)/\zx (zCp tm p0 q i pm pt b a p4 d v0 o m s e at_ out) (cs [])=some (.str []):=⟨da,da,da⟩
theorem zZu(tm:Tm)(p0:Nat)(q:Ua)(i:Int)(pm:Nat)(pt:Nat)(b:Nat)(a:Nat)(p4:Nat)(d:Nat)(v0:V)(o:Nat)(m:Int)(s:Ua)(e:Int)(at_:Int)(out:Ua):yq JA (zi JA []) 2 1 (zCp tm p0 q i pm pt b a p4 d v0 o m s e at_ out) (Ku 1)=((cond (!(Nat.beq a pt) && true) true false && true) || false):=da
theorem z3E(tm:Tm)(p0:Nat)(q:Ua)(i:Int)(pm:Nat)(pt:Nat)(a:Nat)(b:Nat)(p4:Nat)(d:Nat)(v0:V)(o:Nat)(m:Int)(s:Ua)(e:Int)(at_:Int)(out:Ua):(Ku 2).op = .store 3 (t 7) (t 85)/\zx (zCp tm p0 q i pm pt a b p4 d v0 o m s e at_ out) (t 7)=some (.ptr p4 0)/\zx (zCp tm p0 q i pm pt a b p4 d v0 o m s e at_ out) (t 85)=some (dd at_):=⟨da,da,da⟩
theorem z3F(tm:Tm)(p0:Nat)(q:Ua)(i:Int)(pm:Nat)(pt:Nat)(b:Nat)(d:Nat)(p4:Nat)(a:Nat)(v0:V)(o:Nat)(m:Int)(s:Ua)(e:Int)(at_:Int)(out:Ua):(Ku 3).op = .store 24 (t 8) (ci 22)/\zx (zCp tm p0 q i pm pt b d p4 a v0 o m s e at_ out) (t 8)=some (.ptr a 0)/\zx (zCp tm p0 q i pm pt b d p4 a v0 o m s e at_ out) (ci 22)=some (dd 22):=⟨da,da,da⟩
theorem dHr:(Ku 0).dst=some 85/\(Ku 1).dst=none/\(Ku 2).dst=none/\(Ku 3).dst=none:=⟨da,da,da,da⟩
theorem uHr:(Ku 0).guard=none/\(Ku 1).guard=none/\(Ku 2).guard=none/\(Ku 3).guard=none:=⟨da,da,da,da⟩
def Xz:List Go.Oper:=z2p.toList
def jl(i:Nat):Go.Oper:=(Xz[i]?).getD default
theorem zNq:Xz=[jl 0,jl 1,jl 2,jl 3,jl 4,jl 5,jl 6,jl 7,jl 8]:=da
theorem z3e:ya Xz=some 8:=da
def zL7(tm:Tm)(p0:Nat)(q:Ua)(i:Int)(pm:Nat)(pt:Nat)(a:Nat)(b:Nat)(p4:Nat)(d:Nat)(v0:V)(o:Nat)(m:Int)(s:Ua)(e:Int)(_:Int)(_:Ua)(_:Int):Tm:=(Tb.set (Tb.set (Tb.set (Tb.set (Tb.set (Tb.set (Tb.set (Tb.set (Tb.set (Tb.set (Tb.set (Tb.set (Tb.set (zW tm [(3,.ptr p0 0),(19,.str q),(18,dd i),(17,.ptr pm 0),(16,.ptr pt 0),(15,.ptr a 0),(6,.ptr b 0),(7,.ptr p4 0),(8,.ptr d 0)]) 75 v0) 76 (.str q)) 77 (dd i)) 78 (.ptr pm o)) 79 (dd m)) 80 (.tuple [(.str s),(dd e)])) 74 (.tuple [(.str s),(dd e)])) 81 (.str s)) 82 (dd e)) 20 (.str s)) 21 (dd e)) 83 (dd e)) 84 (.bool false))
theorem z2w(tm:Tm)(p0:Nat)(q:Ua)(i:Int)(pm:Nat)(pt:Nat)(a:Nat)(b:Nat)(p4:Nat)(d:Nat)(v0:V)(o:Nat)(m:Int)(s:Ua)(e:Int)(at_:Int)(out:Ua)(a2:Int):(jl 0).op = .load 9 (t 15)/\zx (zL7 tm p0 q i pm pt a b p4 d v0 o m s e at_ out a2) (t 15)=some (.ptr a 0):=⟨da,da⟩
def zY0(tm:Tm)(p0:Nat)(q:Ua)(i:Int)(pm:Nat)(pt:Nat)(a:Nat)(b:Nat)(p4:Nat)(d:Nat)(v0:V)(o:Nat)(m:Int)(s:Ua)(e:Int)(at_:Int)(out:Ua)(a2:Int):Tm:=Tb.set (zL7 tm p0 q i pm pt a b p4 d v0 o m s e at_ out a2) 86 (.str out)
theorem z2g(tm:Tm)(p0:Nat)(q:Ua)(i:Int)(pm:Nat)(pt:Nat)(a:Nat)(b:Nat)(p4:Nat)(d:Nat)(v0:V)(o:Nat)(m:Int)(s:Ua)(e:Int)(at_:Int)(out:Ua)(a2:Int)(h:H):yD zB (jl 1) (zx (zY0 tm p0 q i pm pt a b p4 d v0 o m s e at_ out a2)) h=some (.val (.str s) h):=da
def zVW(tm:Tm)(p0:Nat)(q:Ua)(i:Int)(pm:Nat)(pt:Nat)(a:Nat)(b:Nat)(p4:Nat)(d:Nat)(v0:V)(o:Nat)(m:Int)(s:Ua)(e:Int)(at_:Int)(out:Ua)(a2:Int):Tm:=Tb.set (zY0 tm p0 q i pm pt a b p4 d v0 o m s e at_ out a2) 87 (.str s)
theorem z2x(tm:Tm)(p0:Nat)(q:Ua)(i:Int)(pm:Nat)(pt:Nat)(a:Nat)(b:Nat)(p4:Nat)(d:Nat)(v0:V)(o:Nat)(m:Int)(s:Ua)(e:Int)(at_:Int)(out:Ua)(a2:Int):(jl 2).op = .binOp .add 9 (t 86) (t 87) 9/\zx (zVW tm p0 q i pm pt a b p4 d v0 o m s e at_ out a2) (t 86)=some (.str out)/\zx (zVW tm p0 q i pm pt a b p4 d v0 o m s e at_ out a2) (t 87)=some (.str s):=⟨da,da,da⟩
def zY1(tm:Tm)(p0:Nat)(q:Ua)(i:Int)(pm:Nat)(pt:Nat)(a:Nat)(b:Nat)(p4:Nat)(d:Nat)(v0:V)(o:Nat)(m:Int)(s:Ua)(e:Int)(at_:Int)(out:Ua)(a2:Int):Tm:=Tb.set (zVW tm p0 q i pm pt a b p4 d v0 o m s e at_ out a2) 88 (.str (out++s))
theorem z2y(tm:Tm)(p0:Nat)(q:Ua)(i:Int)(pm:Nat)(pt:Nat)(a:Nat)(b:Nat)(p4:Nat)(d:Nat)(v0:V)(o:Nat)(m:Int)(s:Ua)(e:Int)(at_:Int)(out:Ua)(a2:Int):(jl 3).op = .load 3 (t 16)/\zx (zY1 tm p0 q i pm pt a b p4 d v0 o m s e at_ out a2) (t 16)=some (.ptr pt 0):=⟨da,da⟩
def zY2(tm:Tm)(p0:Nat)(q:Ua)(i:Int)(pm:Nat)(pt:Nat)(a:Nat)(b:Nat)(p4:Nat)(d:Nat)(v0:V)(o:Nat)(m:Int)(s:Ua)(e:Int)(at_:Int)(out:Ua)(a2:Int):Tm:=Tb.set (zY1 tm p0 q i pm pt a b p4 d v0 o m s e at_ out a2) 89 (dd at_)
theorem z2h(tm:Tm)(p0:Nat)(q:Ua)(i:Int)(pm:Nat)(pt:Nat)(a:Nat)(b:Nat)(p4:Nat)(d:Nat)(v0:V)(o:Nat)(m:Int)(s:Ua)(e:Int)(at_:Int)(out:Ua)(a2:Int)(h:H):yD zB (jl 4) (zx (zY2 tm p0 q i pm pt a b p4 d v0 o m s e at_ out a2)) h=some (.val (.str q) h):=da
def zY3(tm:Tm)(p0:Nat)(q:Ua)(i:Int)(pm:Nat)(pt:Nat)(a:Nat)(b:Nat)(p4:Nat)(d:Nat)(v0:V)(o:Nat)(m:Int)(s:Ua)(e:Int)(at_:Int)(out:Ua)(a2:Int):Tm:=Tb.set (zY2 tm p0 q i pm pt a b p4 d v0 o m s e at_ out a2) 90 (.str q)
theorem z2i(tm:Tm)(p0:Nat)(q:Ua)(i:Int)(pm:Nat)(pt:Nat)(a:Nat)(b:Nat)(p4:Nat)(d:Nat)(v0:V)(o:Nat)(m:Int)(s:Ua)(e:Int)(at_:Int)(out:Ua)(a2:Int)(h:H):yD zB (jl 5) (zx (zY3 tm p0 q i pm pt a b p4 d v0 o m s e at_ out a2)) h=some (.val (dd (Int.ofNat (jO q 0))) h):=da
def zVX(tm:Tm)(p0:Nat)(q:Ua)(i:Int)(pm:Nat)(pt:Nat)(a:Nat)(b:Nat)(p4:Nat)(d:Nat)(v0:V)(o:Nat)(m:Int)(s:Ua)(e:Int)(at_:Int)(out:Ua)(a2:Int):Tm:=Tb.set (zY3 tm p0 q i pm pt a b p4 d v0 o m s e at_ out a2) 91 (dd (Int.ofNat (jO q 0)))
theorem z2z(tm:Tm)(p0:Nat)(q:Ua)(i:Int)(pm:Nat)(pt:Nat)(a:Nat)(b:Nat)(p4:Nat)(d:Nat)(v0:V)(o:Nat)(m:Int)(s:Ua)(e:Int)(at_:Int)(out:Ua)(a2:Int):(jl 6).op = .binOp .add 3 (t 89) (t 91) 3/\zx (zVX tm p0 q i pm pt a b p4 d v0 o m s e at_ out a2) (t 89)=some (dd at_)/\zx (zVX tm p0 q i pm pt a b p4 d v0 o m s e at_ out a2) (t 91)=some (dd (Int.ofNat (jO q 0))):=⟨da,da,da⟩
def zGb(tm:Tm)(p0:Nat)(q:Ua)(i:Int)(pm:Nat)(pt:Nat)(a:Nat)(b:Nat)(p4:Nat)(d:Nat)(v0:V)(o:Nat)(m:Int)(s:Ua)(e:Int)(at_:Int)(out:Ua)(a2:Int):Tm:=Tb.set (zVX tm p0 q i pm pt a b p4 d v0 o m s e at_ out a2) 92 (dd a2)
theorem z3A(tm:Tm)(p0:Nat)(q:Ua)(i:Int)(pm:Nat)(pt:Nat)(a:Nat)(b:Nat)(p4:Nat)(d:Nat)(v0:V)(o:Nat)(m:Int)(s:Ua)(e:Int)(at_:Int)(out:Ua)(a2:Int):(jl 7).op = .store 9 (t 15) (t 88)/\zx (zGb tm p0 q i pm pt a b p4 d v0 o m s e at_ out a2) (t 15)=some (.ptr a 0)/\zx (zGb tm p0 q i pm pt a b p4 d v0 o m s e at_ out a2) (t 88)=some (.str (out++s)):=⟨da,da,da⟩
theorem zZt(tm:Tm)(p0:Nat)(q:Ua)(i:Int)(pm:Nat)(pt:Nat)(a:Nat)(b:Nat)(p4:Nat)(d:Nat)(v0:V)(o:Nat)(m:Int)(s:Ua)(e:Int)(at_:Int)(out:Ua)(a2:Int):yq Xz (zi Xz []) 8 7 (zGb tm p0 q i pm pt a b p4 d v0 o m s e at_ out a2) (jl 7)=((cond (!(Nat.beq a pt) && true) true false && true) || false):=da
theorem z3B(tm:Tm)(p0:Nat)(q:Ua)(i:Int)(pm:Nat)(pt:Nat)(a:Nat)(b:Nat)(p4:Nat)(d:Nat)(v0:V)(o:Nat)(m:Int)(s:Ua)(e:Int)(at_:Int)(out:Ua)(a2:Int):(jl 8).op = .store 3 (t 16) (t 92)/\zx (zGb tm p0 q i pm pt a b p4 d v0 o m s e at_ out a2) (t 16)=some (.ptr pt 0)/\zx (zGb tm p0 q i pm pt a b p4 d v0 o m s e at_ out a2) (t 92)=some (dd a2):=⟨da,da,da⟩
theorem dHn:(jl 0).dst=some 86/\(jl 1).dst=some 87/\(jl 2).dst=some 88/\(jl 3).dst=some 89/\(jl 4).dst=some 90/\(jl 5).dst=some 91/\(jl 6).dst=some 92/\(jl 7).dst=none/\(jl 8).dst=none:=⟨da,da,da,da,da,da,da,da,da⟩
theorem uHn:(jl 0).guard=none/\(jl 1).guard=none/\(jl 2).guard=none/\(jl 3).guard=none/\(jl 4).guard=none/\(jl 5).guard=none/\(jl 6).guard=none/\(jl 7).guard=none/\(jl 8).guard=none:=⟨da,da,da,da,da,da,da,da,da⟩
theorem zKf{c:Ctx}{orc:Nat->Ug->H->Option (V×H)}{b:Bool}{ih:Ue}{o:Go.Oper}{l ops:List Go.Oper}{tm:Tm}{d:List AD}{h h1:H}{a:Option Out}(g:o.guard=none)(i:yD c o (zx tm) h=some (.skip h1))(j:o.dst=none)(e:wX c orc b ih ops l ⟨n,tm,d,h1⟩=a):wX c orc b ih ops (o::l) ⟨n,tm,d,h⟩=a:=by
 have q:zh ops tm o=true:=by unfold zh;rw[g]
 have f:zc c orc b ih o ⟨n,tm,d,h⟩=some (.normal,⟨n,tm,d,h1⟩):=by unfold zc;simp only[i];unfold yk;simp only[j]
 show cond (zh ops tm o) (match zc c orc b ih o ⟨n,tm,d,h⟩with|some (.normal,r)=>_|some (x,r)=>_|none=>none) _=_;rw[q,oS,f];exact e
theorem zI1{c:Ctx}{o:Go.Oper}{op:Go.BinOp}{t r:Nat}{x y:Go.Operand}{e:Go.Operand->Ui}{a b:V}(d:o.op = .binOp op t x y r)(f:e x=some a)(g:e y=some b)(i:ZQ c op t x y a b=some v):yD c o e h=some (.val v h):=by unfold yD;simp only[d,f,g,i];rfl
abbrev qq(s:Ua):O:=.cells (.ls [.str s]) ⟨0,10,0⟩ true false
abbrev Jv(x:Int):O:=.cells (.ls [dd x]) ⟨0,4,0⟩ true false
abbrev oEg(x:Int):O:=.cells (.ls [dd x]) ⟨0,25,0⟩ true false
theorem zZN{hb h:H}{c pt b D g p4 a p0 i:Nat}{m:Int}{E F:O}{tm:Tm}{q s out:Ua}{pm o:Nat}{v0:V}{e a6 a4 at_:Int}{r2:Ua}{d:List AD}{G I J K L:Nat×O}{Q:Ud}(w:Vw zN hb h c ([G,I,J,K,L,(pt,Jv at_),(b,qq out),(D,E),(g,oEg a6),(p4,Jv a4),(a,qq r2),(p0,F)]))(M:h.nx<=T.top)(hl:h.low<=T.top)(R:∀h',Vw zN hb h' c ([G,I,J,K,L,(pt,Jv at_),(b,qq out),(D,E),(g,oEg 22),(p4,Jv at_),(a,qq []),(p0,F)])->h'.nx=h.nx->∀x,Q .normal ⟨94,x,d,h'⟩):wpDr P zB true JA ⟨94,zL8 tm p0 q i pm pt b a p4 g v0 o m s e at_ out,d,h⟩ Q:=by
 have S:a<pt:=((w.bk.drop 5).2.2.2.at 4 rfl).1;have U:=w.lt 5 rfl;have W:zo zB 3 (zX h) (.ptr pt 0)=some (dd at_):=zK zm rfl (show(zX h).get pt=_ from w.get 5 rfl) rfl;have a1:zZ zB 9 (zX h) (.ptr a 0) (.str [])=some ((zX h).upd a (some (qq []))):=z6 kO (show(zX h).get a=_ from w.get 10 rfl) rfl;have L1:yN h ((zX h).upd a (some (qq [])))=h.upd a (some (qq [])):=j7;have N:=w.upd 10 (o':=qq []) rfl M;have X:(h.upd a (some (qq []))).nx=h.nx:=rfl;generalize h.upd a (some (qq []))=h1 at L1 N X;obtain⟨h2,Y,Z,n2,_⟩:=N.st (cx:=zB) 9 (t:=3) (f:=0) (u:=dd at_) (cs':=.ls [dd at_]) rfl oy zm rfl;obtain⟨y,e3,w3,n3,_⟩:=Z.st (cx:=zB) 8 (t:=24) (f:=0) (u:=dd 22) (cs':=.ls [dd 22]) rfl oy yh rfl;refine⟨jm,2,.normal,⟨94,zCp tm p0 q i pm pt b a p4 g v0 o m s e at_ out,d,y⟩,xu,z3f,?_,R y w3 oy _⟩;have r:=zZu tm p0 q i pm pt b a p4 g v0 o m s e at_ out;rw[qf (show a≠pt by omega)]at r;obtain⟨d0,d1,d2,d3⟩:=dHr;obtain⟨u0,u1,u2,u3⟩:=uHr;generalize hbs:zi JA []=bs at r ⊢;generalize hops:JA=ops at r ⊢;have z:ops=[Ku 0,Ku 1,Ku 2,Ku 3]:=by rw[<-hops];exact zNr
 have j:yJ zB jm true jh ops bs 2 2 0 [Ku 0,Ku 1,Ku 2,Ku 3] ⟨94,zL8 tm p0 q i pm pt b a p4 g v0 o m s e at_ out,d,h⟩=some (.done .normal ⟨94,zCp tm p0 q i pm pt b a p4 g v0 o m s e at_ out,d,y⟩):=by
  have g0:=z3C tm p0 q i pm pt b a p4 g v0 o m s e at_ out;have A:=z3D tm p0 q i pm pt b a p4 g v0 o m s e at_ out;have B:=z3E tm p0 q i pm pt b a p4 g v0 o m s e at_ out;have C:=z3F tm p0 q i pm pt b a p4 g v0 o m s e at_ out;refine zQ u0 (xF g0.1 g0.2 W) d0 rfl M hl ?_;refine jZ u1 (yg A.1 A.2.1 A.2.2 a1) d1 (r.trans rfl) ?_;try dsimp only
  rw[L1];exact zKf u2 (yg B.1 B.2.1 B.2.2 Y) d2 (qW u3 (yg C.1 C.2.1 C.2.2 e3) d3)
 rw[<-z]at j;exact j
theorem zZM{hb h:H}{c pt a I b p4 g p0 i:Nat}{m:Int}{J K:O}{tm:Tm}{q s out:Ua}{pm o at_:Nat}{v0:V}{e a6 a4:Int}{r2:Ua}{d:List AD}{L M N R S:Nat×O}{Q:Ud}(w:Vw zN hb h c ([L,M,N,R,S,(pt,Jv at_),(a,qq out),(I,J),(b,oEg a6),(p4,Jv a4),(g,qq r2),(p0,K)]))(j:h.nx<=T.top)(hl:h.low<=T.top)(hs:out.length+s.length<=4611686018427387904)(X:at_+q.length<9223372036854775808)(Y:∀h',Vw zN hb h' c ([L,M,N,R,S,(pt,Jv (at_+q.length:Nat)),(a,qq (out++s)),(I,J),(b,oEg a6),(p4,Jv a4),(g,qq r2),(p0,K)])->h'.nx=h.nx->∀z,Q .normal ⟨94,z,d,h'⟩):wpDr P zB true Xz ⟨94,zL7 tm p0 q i pm pt a g p4 b v0 o m s e at_ out (at_+q.length:Nat),d,h⟩ Q:=by
 have Z:a<pt:=((w.bk.drop 5).2.2.2.at 0 rfl).1;have ltt:=w.lt 5 rfl;have ld:zo zB 3 (zX h) (.ptr pt 0)=some (dd at_):=zK zm rfl (show(zX h).get pt=_ from w.get 5 rfl) rfl;have A:zo zB 9 (zX h) (.ptr a 0)=some (.str out):=zK kO rfl (show(zX h).get a=_ from w.get 6 rfl) rfl;have a1:zZ zB 9 (zX h) (.ptr a 0) (.str (out++s))=some ((zX h).upd a (some (qq (out++s)))):=z6 kO (show(zX h).get a=_ from w.get 6 rfl) rfl;have L1:yN h ((zX h).upd a (some (qq (out++s))))=h.upd a (some (qq (out++s))):=j7;have U:=w.upd 6 (o':=qq (out++s)) rfl j;have n1:(h.upd a (some (qq (out++s)))).nx=h.nx:=rfl;generalize h.upd a (some (qq (out++s)))=h1 at L1 U n1;have x:zG ((at_:Int)+Int.ofNat (jO q 0))=((at_+q.length:Nat):Int):=by rw[yb,Nat.zero_add,zD (by show -9223372036854775808<=(at_:Int)+(q.length:Int);omega) (by show(at_:Int)+(q.length:Int)<9223372036854775808;omega)];rfl
 obtain⟨B,e2,w2,n2,_⟩:=U.st (cx:=zB) 5 (t:=3) (f:=0) (u:=dd (at_+q.length:Nat)) (cs':=.ls [dd (at_+q.length:Nat)]) rfl oy zm rfl;refine⟨jm,8,.normal,⟨94,zGb tm p0 q i pm pt a g p4 b v0 o m s e at_ out (at_+q.length:Nat),d,B⟩,xu,z3e,?_,Y B w2 oy _⟩;have y:=zZt tm p0 q i pm pt a g p4 b v0 o m s e at_ out (at_+q.length:Nat);rw[qf (show a≠pt by omega)]at y;obtain⟨d0,d1,d2,d3,d4,d5,d6,d7,d8⟩:=dHn;obtain⟨u0,u1,u2,u3,u4,u5,u6,u7,u8⟩:=uHn;have bi:ZQ zB .add 9 (t 86) (t 87) (.str out) (.str s)=some (.str (out++s)):=by show cond (Nat.ble (jO out (jO s 0)) 4611686018427387904) (some (V.str (out++s))) none=_;rw[yb,yb,oG,oS]
 have bj:ZQ zB .add 3 (t 89) (t 91) (dd at_) (dd (Int.ofNat (jO q 0)))=some (dd (at_+q.length:Nat)):=by
  show some (dd (zG ((at_:Int)+Int.ofNat (jO q 0))))=_;try dsimp only
  rw[x]
 generalize hbs:zi Xz []=bs at y ⊢;generalize hops:Xz=ops at y ⊢;have C:ops=[jl 0,jl 1,jl 2,jl 3,jl 4,jl 5,jl 6,jl 7,jl 8]:=by rw[<-hops];exact zNq
 have r:yJ zB jm true jh ops bs 8 8 0 [jl 0,jl 1,jl 2,jl 3,jl 4,jl 5,jl 6,jl 7,jl 8] ⟨94,zL7 tm p0 q i pm pt a g p4 b v0 o m s e at_ out (at_+q.length:Nat),d,h⟩=some (.done .normal ⟨94,zGb tm p0 q i pm pt a g p4 b v0 o m s e at_ out (at_+q.length:Nat),d,B⟩):=by
  have g0:=z2w tm p0 q i pm pt a g p4 b v0 o m s e at_ out (at_+q.length:Nat);have D:=z2x tm p0 q i pm pt a g p4 b v0 o m s e at_ out (at_+q.length:Nat);have W:=z2y tm p0 q i pm pt a g p4 b v0 o m s e at_ out (at_+q.length:Nat);have E:=z2z tm p0 q i pm pt a g p4 b v0 o m s e at_ out (at_+q.length:Nat);have F:=z3A tm p0 q i pm pt a g p4 b v0 o m s e at_ out (at_+q.length:Nat);have G:=z3B tm p0 q i pm pt a g p4 b v0 o m s e at_ out (at_+q.length:Nat);refine zQ u0 (xF g0.1 g0.2 A) d0 rfl j hl ?_;refine zQ u1 (z2g tm p0 q i pm pt a g p4 b v0 o m s e at_ out (at_+q.length:Nat) _) d1 rfl j hl ?_;refine zQ u2 (zI1 D.1 D.2.1 D.2.2 bi) d2 rfl j hl ?_;refine zQ u3 (xF W.1 W.2 ld) d3 rfl j hl ?_;refine zQ u4 (z2h tm p0 q i pm pt a g p4 b v0 o m s e at_ out (at_+q.length:Nat) _) d4 rfl j hl ?_;refine zQ u5 (z2i tm p0 q i pm pt a g p4 b v0 o m s e at_ out (at_+q.length:Nat) _) d5 rfl j hl ?_;refine zQ u6 (zI1 E.1 E.2.1 E.2.2 bj) d6 rfl j hl ?_;refine jZ u7 (yg F.1 F.2.1 F.2.2 a1) d7 (y.trans rfl) ?_;try dsimp only
  rw[L1];exact qW u8 (yg G.1 G.2.1 G.2.2 e2) d8
 rw[<-C]at r;exact r
abbrev oLq(st:LoopState)(a:Option Go.Code)(tm:Tm)(df:Nat):O:=.loop st a 94 tm #[72,73] ZP qh df
abbrev oPr(n:Nat):O:=.cells (.ls (prt n)) ⟨0,177,0⟩ true false
abbrev oLv(v:V):O:=.cells (.ls [v]) ⟨0,24,0⟩ true false
def mnP(n i:Nat):Nat:=if i<3 then (n+3)/4 else n-3*((n+3)/4)
theorem zOJ:∀i,i<4->(Cs.ls (prt n)).get? i=some (dd (mnP n i))
 | 0,_=>rfl
 | 1,_=>rfl
 | 2,_=>rfl
 | 3,_=>rfl
theorem zDY{i:Nat}(h:n<=131072):mnP n i<=131072:=by unfold mnP;split<;>omega
theorem Z9:∀i,i<4->yo zB 176 (.ptr p 0) (dd (i:Nat))=some (.ptr p i)
 | 0,_=>da
 | 1,_=>da
 | 2,_=>da
 | 3,_=>da
theorem Jm(s:Ua)(l:Ub)(n:Nat):∀left b v (out:Ua),out.length<=n->(xK s l n left b v out).1.length<=n
 | 0,b,v,out,h=>by
  unfold xK;split
  .exact h
  exact oQ _
 | k+1,b,v,out,h=>by
  unfold xK;split
  .exact oQ _
  rename_i c;split
  .exact Jm s l n k _ _ _ (by rw[oe];exact Nat.lt_of_not_le c)
  exact Jm s l n k _ _ _ h
theorem Ou(s:Ua)(l:Ub)(n:Nat):(wP s l n).1.length<=n:=by
 unfold wP;split
 .exact oQ _
 exact Jm _ _ _ _ _ _ _ (oQ _)
theorem thenC.ret{K:St->Prop}{R:Ud}{s:St}(h:R .ret s):thenC K R .ret s:=h
theorem zFx{hb h:H}{c l df pa ps pm pt a x b p4 d p0 i n at_:Nat}{y os z:O}{tm:Tm}{part out:Ua}{v:V}{xb:Ub}(hi:i<4)(w:Vw zN hb h c [(l,oLq .ready none tm df),(df,.deferred true),(pa,y),(ps,os),(pm,oPr n),(pt,Jv at_),(a,qq out),(x,z),(b,oEg 0),(p4,Jv 0),(d,qq []),(p0,oLv v)])(hs:Has tm [(3,.ptr p0 0),(17,.ptr pm 0),(16,.ptr pt 0),(15,.ptr a 0),(6,.ptr d 0),(7,.ptr p4 0),(8,.ptr b 0)])(sl:Sl hb v 1 xb.length (zV xb))(I:ju xb)(J:part.length<=1500)(R:out.length<=10000000)(K:at_<=10000)(q:n<=131072)(S:h.nx+60000<=T.top)(hl:h.low<=T.top)(A:(wP part xb (mnP n i)).2=0->∀h',Vw zN hb h' c [(l,oLq .ready none tm df),(df,.deferred true),(pa,y),(ps,os),(pm,oPr n),(pt,Jv (at_+part.length:Nat)),(a,qq (out++(wP part xb (mnP n i)).1)),(x,z),(b,oEg 0),(p4,Jv 0),(d,qq []),(p0,oLv v)]->h'.nx=h.nx->Q (.bool true) h')(B:(wP part xb (mnP n i)).2≠0->∀h',Vw zN hb h' c [(l,oLq .done (some .ret) tm df),(df,.deferred true),(pa,y),(ps,os),(pm,oPr n),(pt,Jv at_),(a,qq out),(x,z),(b,oEg 22),(p4,Jv at_),(d,qq []),(p0,oLv v)]->h'.nx=h.nx->Q (.bool false) h'):
  RR P l [dd (i:Nat),.str part] h Q:=by
 have C:l<T.top:=oO (w.lt 0 rfl) oy;refine RR.intro C (w.get 0 rfl) rfl (RC.of_wp yA ZP ?_);refine wpC.sealS zR9 (hs.on λqM e=>?_);refine⟨rfl,_,_,_,_,_,_,_,w.get 0 rfl,RC.of_wp yA qh ?_⟩;have o:Vw zN hb (h.upd l (some (oLq .busy none tm df))) c [(l,oLq .busy none tm df),(df,.deferred true),(pa,y),(ps,os),(pm,oPr n),(pt,Jv at_),(a,qq out),(x,z),(b,oEg 0),(p4,Jv 0),(d,qq []),(p0,oLv v)]:=w.upd 0 rfl oy;show wpC P zB true (jd qh) ⟨94,qM,[],h.upd l (some (oLq .busy none tm df))⟩ _;have L:(h.upd l (some (oLq .busy none tm df))).nx=h.nx:=rfl;have r:(h.upd l (some (oLq .busy none tm df))).low<=T.top:=by rw[H.low_upd];omega
 generalize h.upd l (some (oLq .busy none tm df))=h1 at o L r ⊢;have D:=sl.ext o.ex0;refine wpC.at e zRc rfl rfl ⟨⟨oy,r⟩,_,o.ld1 11 rfl z7 rfl,pm,i,Z9 i hi,_,o.ld1 4 (f:=i) rfl zm (zOJ i hi),?_⟩;refine K3 (show Sl (zX h1) v 1 xb.length (zV xb)from D) I J (zDY q) (show h1.nx+60000<=T.top by omega) (oV _) ⟨_,_,rfl,show h1.nx<=T.top by omega,?_⟩;intro F G;rw[zFH r]at G;subst G;rw[show zW qM [(3,.ptr p0 0),(19,.str part),(18,dd (i:Nat)),(17,.ptr pm 0)]=zW qM [(3,.ptr p0 0),(19,.str part),(18,dd (i:Nat)),(17,.ptr pm 0),(16,.ptr pt 0),(15,.ptr a 0),(6,.ptr d 0),(7,.ptr p4 0),(8,.ptr b 0)]from(xn (e.sub rfl) rfl).trans (xn (e.sub rfl) rfl).symm];refine⟨λt=>?_,λt=>?_⟩
 .show wpDr P zB true JA ⟨94,zL8 qM p0 part (i:Nat) pm pt a d p4 b v i (mnP n i:Nat) (wP part xb (mnP n i)).1 (wP part xb (mnP n i)).2 (at_:Nat) out,[],F⟩ _;refine zZN o oy r λg u M j=>?_
  show Wt kX (jd zH9) ⟨94,j,[],g⟩ _;refine wpS.av (l:=[]) Has.nil zS7 rfl rfl (Has.nil.on λN _=>?_);refine thenC.ret ?_;refine Has.nil.slt λwH _=>?_
  have E:=u.get 0 rfl;show(match wG l .ret ⟨94,wH,[],g⟩with|some (.ret v h')=>Q v h'|_=>False);simp only[wG,E];exact B t _ (u.upd 0 rfl oy) (by show g.nx=h.nx;omega)
 have t:=Decidable.not_not.1 t;show wpDr P zB true Xz ⟨94,zL7 qM p0 part (i:Nat) pm pt a d p4 b v i (mnP n i:Nat) (wP part xb (mnP n i)).1 (wP part xb (mnP n i)).2 (at_:Nat) out (at_+part.length:Nat),[],F⟩ _;refine zZM o oy r (by have:=Ou part xb (mnP n i);have:=zDY (i:=i) q;omega) oy λg u M j=>?_
 show zp kX _ (exitB 4 .normal) ⟨94,j,[],g⟩;refine Has.nil.slt λwH _=>?_
 have E:=u.get 0 rfl;show(match wG l .normal ⟨94,wH,[],g⟩with|some (.ret v h')=>Q v h'|_=>False);simp only[wG,E];exact A t _ (u.upd 0 rfl oy) (by show g.nx=h.nx;omega)
def n4(a b c d:Nat)(i:Nat):Nat:=if i=0 then a else if i=1 then b else if i=2 then c else d
def s4(a b c d:Nat)(i:Nat):Nat:=if i=0 then 6 else if i=1 then 6+a else if i=2 then 6+a+b else if i=3 then 6+a+b+c else 6+a+b+c+d
theorem zR0{a b d i:Nat}(hi:i<4):s4 a b c d (i+1)=s4 a b c d i+n4 a b c d i:=by
 match i,hi with
 | 0,_=>rfl
 | 1,_=>rfl
 | 2,_=>rfl
 | 3,_=>rfl
theorem zJ8{a b d i:Nat}:s4 a b c d i<=6+a+b+c+d:=by unfold s4;(repeat' split)<;>omega
abbrev ag4(a b c d:Int):V:=.agg [dd a,dd b,dd c,dd d]
theorem zQW{a b d:Nat}:∀i,i<4->yC zB 176 (ag4 a b c d) (dd (i:Nat))=some (dd (n4 a b c d i))
 | 0,_=>da
 | 1,_=>da
 | 2,_=>da
 | 3,_=>da
def xr(l:Ub)(s:Ua)(n:Nat)(z:Nat->Nat):Nat->Nat->Ua->List UInt8×Nat×Int
 | 0,_,out=>(out,0,0)
 | k+1,i,out=>if (wP (zH s (z i) (z (i+1))) l (mnP n i)).2=0 then xr l s n z k (i+1) (out++(wP (zH s (z i) (z (i+1))) l (mnP n i)).1) else ([],z i,22)
theorem zZl(a:k (.bool false) h):YH zB 4 k (.bool false) h:=⟨false,rfl,λg=>(by cases g),λ_=>a⟩
theorem zZP{k:Bool->Prop}(a:k true):zBG .not (.bool false) (λv=>wO v k):=a
theorem zGS{y:Nat}(a:y<=s.length):zy zB 9 h (.str s) (some (dd y)) none none=some (.str (s.drop y)):=by
 unfold zy;have b:yj (y:Int)=some y:=rfl;have d:jO s 0=s.length:=by rw[yb];omega
 simp only[kO,Go.Sim.bnd,b,d];have e:zH s y s.length=s.drop y:=by unfold zH;rw[List.take_of_length_le (by rw[List.length_drop];exact oV _)]
 rw[oG a,oS,<-e];try rfl
theorem zKK{x y:Nat}(_:x<=y):zH (s.drop x) 0 (y-x)=zH s x y:=by unfold zH;rw[List.drop_zero,Nat.sub_zero]
theorem zEd{hb h:H}{c l df pa ps pm pt x G A p4 B p0 n a b d e:Nat}{I:O}{tm:Tm}{s:Ua}{v:V}{xb:Ub}(w:Vw zN hb h c [(l,oLq .ready none tm df),(df,.deferred true),(pa,oP4 a b d e),(ps,qq (s.drop 6)),(pm,oPr n),(pt,Jv 6),(x,qq []),(G,I),(A,oEg 0),(p4,Jv 0),(B,qq []),(p0,oLv v)])(hs:Has tm [(3,.ptr p0 0),(17,.ptr pm 0),(16,.ptr pt 0),(15,.ptr x 0),(6,.ptr B 0),(7,.ptr p4 0),(8,.ptr A 0)])(sl:Sl hb v 1 xb.length (zV xb))(W:ju xb)(X:6+a+b+d+e=s.length)(hp:s.length<=1500)(C:n<=131072)(hn:h.nx+60000<=T.top)(hl:hb.low<=T.top)(K:∀h' out os,xr xb s n (s4 a b d e) 4 0 []=(out,0,0)->Vw zN hb h' c [(l,oLq .ready none tm df),(df,.deferred true),(pa,oP4 a b d e),(ps,os),(pm,oPr n),(pt,Jv s.length),(x,qq out),(G,I),(A,oEg 0),(p4,Jv 0),(B,qq []),(p0,oLv v)]->h'.nx=h.nx->Q (.tuple []) h')(L:∀h' out os,∀at_:Nat,xr xb s n (s4 a b d e) 4 0 []=([],at_,22)->Vw zN hb h' c [(l,oLq .done (some .ret) tm df),(df,.deferred true),(pa,oP4 a b d e),(ps,os),(pm,oPr n),(pt,Jv at_),(x,qq out),(G,I),(A,oEg 22),(p4,Jv at_),(B,qq []),(p0,oLv v)]->h'.nx=h.nx->Q (.tuple []) h'):
  RF P zB 264 [.yield l,.ptr pa 0,.ptr ps 0] h Q:=by
 refine yU z1H ⟨_,_,_,_,w.ldA 2 rfl YP rfl,Has.nil.on λqM D=>?_⟩;refine wpC.round (λk qM h'=>∃i out,i<=4/\k=4-i/\h'.nx=h.nx/\out.length<=i*131072/\Vw zN hb h' c [(l,oLq .ready none tm df),(df,.deferred true),(pa,oP4 a b d e),(ps,qq (s.drop (s4 a b d e i))),(pm,oPr n),(pt,Jv (s4 a b d e i:Nat)),(x,qq out),(G,I),(A,oEg 0),(p4,Jv 0),(B,qq []),(p0,oLv v)] /\
  xr xb s n (s4 a b d e) (4-i) i out=xr xb s n (s4 a b d e) 4 0 []/\Has qM [(7,dd i),(6,ag4 a b d e),(0,.yield l),(2,.ptr ps 0)]) 4
  ⟨0,[],oy,rfl,rfl,oV _,w,rfl,D.sub rfl⟩ ?_
 clear D w;rintro k Y h' ⟨i,out,Z,rfl,M,hol,w,q,j⟩;refine wpC.av j zSK rfl rfl ⟨λc1=>?_,λc1=>j.on λE r=>?_⟩
 .have hi:i<4:=oy
  have o:=zR0 (a:=a) (b:=b) (c:=d) (d:=e) hi;have hle:=zJ8 (a:=a) (b:=b) (c:=d) (d:=e) (i:=i+1);have R:n4 a b d e i=s4 a b d e (i+1)-s4 a b d e i:=oy
  have hdl:(s.drop (s4 a b d e i)).length=s.length-s4 a b d e i:=List.length_drop ..;refine⟨_,zQW i hi,_,w.ld1 3 rfl kO rfl,_,zEw (y:=n4 a b d e i) oy,?_⟩;try dsimp only
  rw[R,zKK oy];have N:(zH s (s4 a b d e i) (s4 a b d e (i+1))).length=n4 a b d e i:=by rw[zH,List.length_take,List.length_drop];omega
  have g:xr xb s n (s4 a b d e) (4-i) i out=if (wP (zH s (s4 a b d e i) (s4 a b d e (i+1))) xb (mnP n i)).2=0 then xr xb s n (s4 a b d e) (4-(i+1)) (i+1) (out++(wP (zH s (s4 a b d e i) (s4 a b d e (i+1))) xb (mnP n i)).1) else ([],s4 a b d e i,22):=by rw[show 4-i=(4-(i+1))+1 by omega];rfl
  show RR P l [dd (i:Nat),.str (zH s (s4 a b d e i) (s4 a b d e (i+1)))] h' _;refine zFx hi w hs sl W oy oy oy C oy (oW w.low hl) (λz F J n2=>zJ6 (OI ?_)) (λz F J n2=>zZl (zZP ?_))
  .rw[if_pos z,q]at g;have hv:=Ou (zH s (s4 a b d e i) (s4 a b d e (i+1))) xb (mnP n i);have hm:=zDY (i:=i) C;have ls:zo zB 9 F (.ptr ps 0)=some (.str (s.drop (s4 a b d e i))):=J.ld1 3 rfl kO rfl;have tl:=zGS (s:=s.drop (s4 a b d e i)) (y:=n4 a b d e i) (h:=F) oy;rw[List.drop_drop,<-o]at tl;obtain⟨S,e3,U,n3,_⟩:=J.st (cx:=zB) 3 (t:=9) (f:=0) (u:=.str (s.drop (s4 a b d e (i+1)))) (cs':=.ls [.str (s.drop (s4 a b d e (i+1)))]) rfl oy kO rfl;try dsimp only
   rw[<-R];refine⟨_,ls,_,tl,S,e3,j.on λE r=>⟨rfl,rfl,4-(i+1),oy,i+1,_,oy,rfl,(show S.nx=h.nx by omega),?_,?_,g.symm,?_⟩⟩
   .rw[oe];omega
   .rw[N,<-o]at U;exact U
   have e1:zG ((i:Int)+1)=((i+1:Nat):Int):=by rw[zD oy oy];rfl
   rw[<-e1];exact r.sub da
  rw[if_neg z,q]at g;refine j.on λE r=>?_
  show Q (.tuple []) F;exact L F _ _ _ g J oy
 have hi:i=4:=oy
 subst hi;show Q (.tuple []) h';rw[show s4 a b d e 4=s.length from X]at w;exact K h' out _ q.symm w M
theorem Xk(h:wW l=0):ju l:=by
 unfold wW at h;split at h
 .cases h
 split at h
 .split at h
  .cases h
  split at h
  .exact⟨oy,by assumption,oy,by assumption⟩
  cases h
 cases h
theorem ZI(l:Ub)(h:n<=131072):zK7 l n=wW l:=by
 unfold zK7;by_cases c:wW l=0
 .rw[if_pos c,if_neg oy,c]
 rw[if_neg c]
def Yh(s:Ua)(l:Ub)(n:Nat):List UInt8×Int:=if wW l=0 then wP s l n else ([],wW l)
theorem zM7(sl:Sl h v 1 l.length (zV l))(hl:l.length<=1000)(hs:s.length<=1500)(a:n<=131072)(e:h.nx+60000<=T.top)(d:h.low<=T.top)(b:Q (.tuple [.str (Yh s l n).1,dd (Yh s l n).2]) h):RF P zB 123 [v,.str s,dd n] h Q:=by
 refine yU z0M (zAR sl hl ⟨_,rfl,λc=>?_,λc=>?_⟩)
 .rw[ZI l a]at c ⊢;unfold Yh at b;rw[if_neg c]at b;exact b
 have c:=Decidable.not_not.1 c;rw[ZI l a]at c;unfold Yh at b;rw[if_pos c]at b;exact K3 sl (Xk c) hs a e d ⟨_,_,rfl,b⟩
theorem zPY{s:Ua}{a:Nat}(F:a+2<=s.length)(hs:s.length<=1500)(z:Q (.tuple [.int .u64 (wQ (zH s a (a+2)):Nat),dd (a+2:Nat),.agg [dd 0,dd 0]]) h):RF P zB 196 [.str s,dd a,dd 2] h Q:=by
 refine RF.plain ?_ (zVd (yx _) (zL _ _) (zL _ _));refine yU z0l ⟨db,?_⟩;rintro p h1 rfl x;have A:h1.get H0.nx=some (oF 0 0):=by rw[x];exact zM _ db
 clear x;refine⟨λc=>absurd c db,λ_=>⟨λc=>absurd c db,λ_=>⟨λc=>absurd c oy,λ_=>⟨λc=>absurd (show(s.length:Int)<a from c) oy,λ_=>Has.nil.on λtm e=>?_⟩⟩⟩⟩;refine wpS.av e zTA rfl rfl ⟨λc=>absurd (show zG ((s.length:Int)-a)<2 from c) (by rw[zD oy oy];omega),λ_=>e.on λj d=>?_⟩;refine thenC.nx (d.sealK λq g=>?_);refine wpS.av g zTC rfl rfl (g.on λwH f=>?_);have hl:(zH s a (a+2)).length=2:=by rw[zH,List.length_take,List.length_drop];omega
 refine wpC.round (λk tm h'=>∃i:Nat,i<=2/\k=2-i/\h'=h1/\Has tm [(39,dd i),(38,dd 2),(6,.int .u64 (wQ ((zH s a (a+2)).take i):Nat)),(0,.str s),(1,dd a),(2,dd 2),(8,.ptr H0.nx 0)]) 2 ⟨0,oy,rfl,rfl,f.sub rfl⟩ ?_;clear e d g f;rintro k tm h' ⟨i,B,rfl,rfl,e⟩;refine wpC.av e zSB rfl rfl ⟨λc=>?_,λc=>e.on λj d=>?_⟩
 .have hi:i<2:=oy
  obtain⟨b,hb⟩:∃b,s[a+i]? = some b:=⟨s[a+i]'oy,oU oy⟩;have r:(zH s a (a+2))[i]? = some b:=by rw[zH,List.getElem?_take_of_lt oy,List.getElem?_drop,hb]
  have C:=b.toNat_lt;have G:256^i<=256^1:=Nat.pow_le_pow_right db oy;have D:b.toNat*256^i<=255*256^i:=Nat.mul_le_mul_right _ oy;have y:=Y8 ((zH s a (a+2)).take i);rw[List.length_take,Nat.min_eq_left oy]at y;have E:zG ((8:Int)*(i:Int))=((8*i:Nat):Int):=by rw[zD oy oy];omega
  have u:zG ((a:Int)+(i:Int))=((a+i:Nat):Int):=by rw[zD oy oy];rfl
  have w:zG ((i:Int)+1)=((i+1:Nat):Int):=by rw[zD oy oy];rfl
  try dsimp only
  rw[u];refine⟨_,yR hb,((b.toNat*2^(8*i):Nat):Int),?_,((wQ ((zH s a (a+2)).take (i+1)):Nat):Int),?_,e.on λj d=>?_⟩
  .rw[zb oy,E];exact ZK oy (by rw[zF0];omega)
  .rw[zD2 (by rw[zF0];omega),zAS (by rw[zF0];exact y),zF0,zCe r]
  rw[w]at d;exact⟨rfl,rfl,2-(i+1),oy,i+1,oy,rfl,rfl,d.sub da⟩
 have hi:i=2:=oy
 subst hi;rw[List.take_of_length_le oy]at d;refine thenC.left (wpS.av d zTB rfl rfl ⟨_,z6 zd A rfl,d.on λq g=>g.slt λwH f=>?_⟩);refine zDK (p:=H0.nx) (o:=0) (f.get (t:=6) rfl) (f.get (t:=7) rfl) (f.get (t:=8) rfl) (zO zd rfl (zF _ db) rfl) ⟨zAU (zL _ _) (zL _ _) (xM (Ks (zL _ _) (zL _ _))),?_⟩;try dsimp only
 rw[zD oy oy];exact z
def l2(s:Ua)(a:Nat):Nat:=wQ (zH s a (a+2))
theorem K4(s:Ua)(a:Nat):l2 s a<65536:=by
 have h:=Y8 (zH s a (a+2));have hl:(zH s a (a+2)).length<=2:=by rw[zH,List.length_take];omega
 have b:256^(zH s a (a+2)).length<=256^2:=Nat.pow_le_pow_right db hl;have d:(256:Nat)^2=65536:=db
 unfold l2;omega
def l6(s:Ua):Nat:=6+l2 s 0+l2 s 2+l2 s 4
def yV(s:Ua)(l:Ub)(n:Nat):List UInt8×Nat×Int :=
 if wW l≠0 then ([],0,wW l) else if n<6 then ([],0,20) else if s.length<6 then ([],0,22) else if s.length<l6 s then ([],0,22)
 else xr l s n (s4 (l2 s 0) (l2 s 2) (l2 s 4) (s.length-l6 s)) 4 0 []
def zA(s:Ua)(j i:Nat):Int:=if j<i then (l2 s (2*j):Int) else 0
def zR(s:Ua):Nat->Int
 | 0=>(s.length:Int)-6
 | i+1=>zR s i-l2 s (2*i)
abbrev oZ(s:Ua)(i:Nat):O:=oP4 (zA s 0 i) (zA s 1 i) (zA s 2 i) (zR s i)
theorem zKd{e:Nat}{xs:Ug}(s:Sl h v e n xs):v.one=true:=by obtain⟨_,⟨rfl,_⟩|⟨b,o,a,cs,k,w,op,rfl,_⟩⟩:=s<;>rfl
theorem zMQ{tm:Tm}{df a p4 b:Nat}{at_ e:Int}{x:AX}(d:x = .ret)(hs:Has tm [(6,.ptr b 0),(7,.ptr p4 0),(8,.ptr a 0)])(g:h.get df=some (.deferred true))(f:zo zB 9 (h.upd df (some (.deferred false))) (.ptr b 0)=some (.str out))(i:zo zB 3 (h.upd df (some (.deferred false))) (.ptr p4 0)=some (dd at_))(j:zo zB 24 (h.upd df (some (.deferred false))) (.ptr a 0)=some (dd e))(o:Q (.tuple [.str out,dd at_,dd e]) (h.upd df (some (.deferred false)))):endW zB ⟨94,[.cell 6 9,.cell 7 3,.cell 8 24],bf 124⟩ Q x ⟨m,tm,[.coll df],h⟩:=by
 subst d;show wpD [.coll df] h _;simp only[wpD,g];have el:∀rs,leave zB rs tm (h.upd df (some (.deferred false))) [.cell 6 9,.cell 7 3,.cell 8 24] []=some [.str out,dd at_,dd e]:=λrs=>leave.cell (hs.get (t:=6) rfl) f (leave.cell (hs.get (t:=7) rfl) i (leave.cell (hs.get (t:=8) rfl) j rfl))
 rw[el];exact o
theorem z48:∀i,i<3->(Cs.ls [dd (zA s 0 i),dd (zA s 1 i),dd (zA s 2 i),dd (zR s i)]).put i (dd (l2 s (2*i):Nat)).cells=some (.ls [dd (zA s 0 (i+1)),dd (zA s 1 (i+1)),dd (zA s 2 (i+1)),dd (zR s i)])
 | 0,_=>da
 | 1,_=>da
 | 2,_=>da
theorem z47:∀i,i<3->(Cs.ls [dd (zA s 0 (i+1)),dd (zA s 1 (i+1)),dd (zA s 2 (i+1)),dd (zR s i)]).get? i=some (dd (l2 s (2*i):Nat))
 | 0,_=>da
 | 1,_=>da
 | 2,_=>da
theorem zFr{v:V}{l:Ub}{s:Ua}{n:Nat}{h:H}{Q:Uc}(sl:Sl h v 1 l.length (zV l))(hl:l.length<=1000)(hs:s.length<=1500)(M:n<=131072)(hn:h.nx+61000<=T.top)(B:h.low<=T.top)(hq:Q (.tuple [.str (yV s l n).1,.int .i64 (yV s l n).2.1,.int .i64 (yV s l n).2.2]) h):RF P zB 124 [v,.str s,.int .i64 n] h Q:=by
 refine RF.forget (n:=100) (v:=.tuple [.str (yV s l n).1,.int .i64 (yV s l n).2.1,.int .i64 (yV s l n).2.2]) ?_ (zAU (yx _) (zL _ _) (zL _ _)) hq;clear hq Q;refine yU z0N ⟨zKd sl,oy,?_⟩;rintro p0 h1 rfl e1;have w1:=(Vw.nil (S:=zN) (h:=h)).new e1 oy;have t1:=w1.top;refine⟨rfl,oy,?_⟩;rintro p2 h3 rfl e3;have w3:=w1.new e3 oy;have t3:=w3.top;refine⟨rfl,oy,?_⟩;rintro p4 h5 rfl e5;have w5:=w3.new e5 oy;have t5:=w5.top;refine⟨rfl,oy,?_⟩;rintro p6 G rfl e7;have w7:=w5.new e7 oy;have t7:=w7.top;refine⟨v,w7.ld1 3 rfl z7 rfl,zAR (sl.ext w7.ex0) hl ⟨_,rfl,?_⟩⟩;try dsimp only
 rw[ZI l M];have fin:∀e:Int,yV s l n=([],0,e)->∃C,zZ zB 9 G (.ptr h1.nx 0) (.str [])=some C/\∃D,zZ zB 3 C (.ptr h3.nx 0) (.int .i64 0)=some D/\∃E,zZ zB 24 D (.ptr h5.nx 0) (.int .i64 e)=some E/\endL zB E [(.cell 6 9,.ptr h1.nx 0),(.cell 7 3,.ptr h3.nx 0),(.cell 8 24,.ptr h5.nx 0)] (λv' h'=>v' = .tuple [.str (yV s l n).1,.int .i64 (yV s l n).2.1,.int .i64 (yV s l n).2.2]/\Ext h h' 100):=by intro e he;obtain⟨C,N,O,n12,_⟩:=w7.st (cx:=zB) 2 (t:=9) (f:=0) (u:=.str []) (cs':=.ls [.str []]) rfl oy kO rfl;obtain⟨D,R,U,n13,_⟩:=O.st (cx:=zB) 1 (t:=3) (f:=0) (u:=.int .i64 0) (cs':=.ls [.int .i64 0]) rfl oy zm rfl;obtain⟨E,W,d,n14,_⟩:=U.st (cx:=zB) 0 (t:=24) (f:=0) (u:=.int .i64 e) (cs':=.ls [.int .i64 e]) rfl oy yh rfl;refine⟨C,N,D,R,E,W,endL.ok (leaveL.cell (d.ld1 2 rfl kO rfl) (leaveL.cell (d.ld1 1 rfl zm rfl) (leaveL.cell (d.ld1 0 rfl yh rfl) rfl))) ⟨?_,d.ex0.mono oy⟩⟩;rw[he];rfl
 refine⟨λc=>?_,λc=>?_⟩
 .exact fin _ (by unfold yV;rw[if_pos c])
 refine⟨λc2=>?_,λc2=>?_⟩
 .exact fin _ (by unfold yV;rw[if_neg c,if_pos oy])
 refine⟨λc3=>?_,λc3=>?_⟩
 .have c3:(s.length:Int)<6:=c3;exact fin _ (by unfold yV;rw[if_neg c,if_neg oy,if_pos oy])
 have c3:¬(s.length:Int)<6:=c3;have hg:=Xk (Decidable.not_not.1 c);have hv:yV s l n=if s.length<l6 s then ([],0,22) else xr l s n (s4 (l2 s 0) (l2 s 2) (l2 s 4) (s.length-l6 s)) 4 0 []:=by unfold yV;rw[if_neg c,if_neg oy,if_neg oy]
 have h6:6<=n:=oy
 clear fin c c2;refine⟨oy,?_⟩;rintro pl h22 rfl e22;have X:=w7.new e22 oy;have t22:=X.top;have e0:zG ((Int.ofNat s.length)-6)=(s.length:Int)-6:=zD (show -9223372036854775808<=(s.length:Int)-6 by omega) (show(s.length:Int)-6<9223372036854775808 by omega);try dsimp only
 rw[e0];obtain⟨h25,e25,w25,n25,_⟩:=X.st (cx:=zB) 0 (t:=3) (f:=3) (u:=.int .i64 ((s.length:Int)-6)) (cs':=.ls [.int .i64 0,.int .i64 0,.int .i64 0,.int .i64 ((s.length:Int)-6)]) rfl oy zm rfl;refine⟨G.nx,3,Z9 3 oy,h25,e25,Has.nil.on λtm hs0=>?_⟩;refine wpC.round (λk tm h'=>∃i,i<=3/\k=3-i/\Vw zN h h' (5+i) [(G.nx,oZ s i),(h5.nx,oEg 0),(h3.nx,Jv 0),(h1.nx,qq []),(h.nx,oLv v)] /\
  Has tm [(40,.int .i64 i),(1,.str s),(10,.ptr G.nx 0),(6,.ptr h1.nx 0),(7,.ptr h3.nx 0),(8,.ptr h5.nx 0),(3,.ptr h.nx 0),(2,.int .i64 n)]) 3 ⟨0,oy,rfl,w25,hs0.sub rfl⟩ ?_
 clear hs0 w25 X e25 e22;rintro k tm h' ⟨i,hi1,rfl,w,Y⟩;have tw:=w.top;refine wpC.av Y zRi rfl rfl ⟨λc=>?_,λc=>Y.on λtm2 F=>?_⟩
 .have hw:zG ((2:Int)*(i:Int))=((2*i:Nat):Int):=by rw[zD oy oy];omega
  have hw2:zG ((i:Int)+1)=((i+1:Nat):Int):=by rw[zD oy oy];rfl
  have hl2:=K4 s (2*i);have hw3:zG ((l2 s (2*i):Nat):Int)=((l2 s (2*i):Nat):Int):=zD oy oy;have hzr:∀j,j<=3->-1000000<=zR s j/\zR s j<=1500:=λj hj=>by
   have a0:=K4 s (2*0);have a1:=K4 s (2*1);have a2:=K4 s (2*2)
   match j,hj with
   | 0,_=>simp only[zR];omega
   | 1,_=>simp only[zR];omega
   | 2,_=>simp only[zR];omega
   | 3,_=>simp only[zR];omega
  have hz0:=hzr i hi1;have hw4:zG (zR s i-(l2 s (2*i):Nat))=zR s (i+1):=zD oy oy;try dsimp only
  rw[hw];refine zPY oy hs ⟨_,_,_,_,rfl,oy,?_⟩;rintro pf h8 rfl e8;have w8:=w.new e8 oy;have t8:=w8.top;obtain⟨h9,e9,w9,n9,_⟩:=w8.st (cx:=zB) 0 (t:=26) (f:=0) (u:=.agg [.int .i64 0,.int .i64 0]) (cs':=.ls [.int .i64 0,.int .i64 0]) rfl oy zd rfl;refine⟨h9,e9,G.nx,i,Z9 i oy,?_⟩;show ∃Z,zZ zB 3 h9 (.ptr G.nx i) (.int .i64 (zG (l2 s (2*i):Nat)))=some Z/\_;try dsimp only
  rw[hw3];obtain⟨Z,e11,x,n11,_⟩:=w9.st (cx:=zB) 1 (t:=3) (f:=i) (u:=.int .i64 (l2 s (2*i):Nat)) rfl oy zm (z48 i oy);have x:=x.drop 1;have t11:=x.top;refine⟨Z,e11,⟨oy,oW x.low B⟩,G.nx,3,Z9 3 oy,zR s i,x.ld1 0 (f:=3) rfl zm rfl,G.nx,i,Z9 i oy,(l2 s (2*i):Nat),x.ld1 0 (f:=i) rfl zm (z47 i oy),G.nx,3,Z9 3 oy,?_⟩;obtain⟨h20,e20,w20,n20,_⟩:=x.st (cx:=zB) 0 (t:=3) (f:=3) (u:=.int .i64 (zR s (i+1))) (cs':=.ls [.int .i64 (zA s 0 (i+1)),.int .i64 (zA s 1 (i+1)),.int .i64 (zA s 2 (i+1)),.int .i64 (zR s (i+1))]) rfl oy zm rfl;try dsimp only
  rw[hw4];refine⟨h20,e20,Y.on λtm2 F=>?_⟩;rw[hw2]at F;exact⟨rfl,rfl,3-(i+1),oy,i+1,oy,rfl,w20,F.sub da⟩
 have hi:i=3:=oy
 subst hi;have hz3:zR s 3=(s.length:Int)-(l6 s:Nat):=by show(s.length:Int)-6-(l2 s 0:Nat)-(l2 s 2:Nat)-(l2 s 4:Nat)=_;unfold l6;omega
 have lw:=oW w.low B;refine thenC.left (wpS.av F zS9 rfl rfl ⟨G.nx,3,Z9 3 oy,zR s 3,w.ld1 0 (f:=3) rfl zm rfl,λc=>?_,λc=>?_⟩)
 .obtain⟨C,N,O,n12,_⟩:=w.st (cx:=zB) 3 (t:=9) (f:=0) (u:=.str []) (cs':=.ls [.str []]) rfl oy kO rfl;obtain⟨D,R,U,n13,_⟩:=O.st (cx:=zB) 2 (t:=3) (f:=0) (u:=.int .i64 0) (cs':=.ls [.int .i64 0]) rfl oy zm rfl;obtain⟨E,W,d,n14,_⟩:=U.st (cx:=zB) 1 (t:=24) (f:=0) (u:=.int .i64 22) (cs':=.ls [.int .i64 22]) rfl oy yh rfl;refine⟨C,N,D,R,E,W,F.on λb o=>?_⟩;refine endW.ok (leave.cell (o.get (t:=6) rfl) (d.ld1 3 rfl kO rfl) (leave.cell (o.get (t:=7) rfl) (d.ld1 2 rfl zm rfl) (leave.cell (o.get (t:=8) rfl) (d.ld1 1 rfl yh rfl) rfl))) ⟨?_,d.ex0.mono oy⟩;rw[hv,if_pos oy];rfl
 rw[if_neg oy]at hv;refine⟨rfl,oy,?_⟩;rintro po h26 rfl e26;have w26:=w.new e26 oy;have t26:=w26.top;refine⟨rfl,oy,?_⟩;rintro pt h27 rfl e27;have w27:=w26.new e27 oy;have t27:=w27.top;obtain⟨h28,e28,w28,n28,_⟩:=w27.st (cx:=zB) 1 (t:=9) (f:=0) (u:=.str []) (cs':=.ls [.str []]) rfl oy kO rfl;obtain⟨h29,e29,w29,n29,_⟩:=w28.st (cx:=zB) 0 (t:=3) (f:=0) (u:=.int .i64 6) (cs':=.ls [.int .i64 6]) rfl oy zm rfl;have t29:=w29.top;refine⟨h28,e28,h29,e29,zOC oy M ⟨_,_,_,_,rfl,oy,?_⟩⟩;rintro pm h30 rfl e30;have w30:=w29.new e30 oy;have t30:=w30.top;obtain⟨J,e31,K,n31,_⟩:=w30.st (cx:=zB) 0 (t:=176) (f:=0) (u:=.agg (prt n)) (cs':=.ls (prt n)) rfl oy YP rfl;have t31:=K.top;refine⟨J,e31,⟨oy,oW K.low B⟩,_,zGS (y:=6) oy,_,_,_,_,K.ldA 3 rfl YP rfl,?_⟩;refine yU z0n ⟨rfl,oy,?_⟩;rintro ps h32 rfl e32;have w32:=K.new e32 oy;have t32:=w32.top;refine⟨oy,?_⟩;rintro pa a rfl e33;have w33:=w32.new e33 oy;have t33:=w33.top;refine⟨_,rfl,F.on λb o=>?_⟩;refine RC.rangeFunc yA (g:=264) (first:=[]) (captured:=[.ptr h32.nx 0,.ptr J.nx 0]) (show zx b (t 71)=_ from congrArg some (o.get rfl)) (by show a.nx+1<_;omega) ?_;show RF P zB 264 [.yield (a.nx+1),.ptr h32.nx 0,.ptr J.nx 0] ((a.new (.deferred true)).new (oLq .ready none b a.nx)) _;obtain⟨q,e34⟩:∃q,q=a.new (.deferred true):=⟨_,rfl⟩;have w34:=w33.new e34 oy;have t34:=w34.top;have n34:q.nx=a.nx+1:=by rw[e34,z8]
 obtain⟨h35,e35⟩:∃h35,h35=q.new (oLq .ready none b a.nx):=⟨_,rfl⟩;have L:=w34.new e35 oy;have t35:=L.top;rw[<-e34,<-e35,<-n34];have hz4:zR s 3=((s.length-l6 s:Nat):Int):=oy
 have L:Vw zN h h35 20 [(q.nx,oLq .ready none b a.nx),(a.nx,.deferred true),(h32.nx,oP4 (l2 s 0:Nat) (l2 s 2:Nat) (l2 s 4:Nat) (s.length-l6 s:Nat)),(J.nx,qq (s.drop 6)),(h29.nx,oPr n),(h26.nx,Jv 6),(h'.nx,qq []),(G.nx,oZ s 3),(h5.nx,oEg 0),(h3.nx,Jv 0),(h1.nx,qq []),(h.nx,oLv v)]:=by rw[<-hz4];exact L.more oy
 refine zEd L (o.sub da) sl hg (by unfold l6 at *;omega) hs M oy B (λz out os hgo I n36=>?_) (λz out os at_ hgo I n36=>?_);all_goals
  have gl:=I.get 0 rfl;simp only[qI,gl]
 all_goals
  have t36:=I.top
 .have A:=I.upd 0 (o':=.loop .exhausted none 94 b #[72,73] ZP qh a.nx) rfl oy;have n37:(z.upd q.nx (some (.loop .exhausted none 94 b #[72,73] ZP qh a.nx))).nx=z.nx:=rfl;generalize z.upd q.nx (some (.loop .exhausted none 94 b #[72,73] ZP qh a.nx))=h37 at A n37 ⊢;show Wf kX zHa ⟨94,b,[.coll a.nx],h37⟩ _;obtain⟨h38,e38,w38,n38,_⟩:=A.st (cx:=zB) 10 (t:=9) (f:=0) (u:=.str out) (cs':=.ls [.str out]) rfl oy kO rfl;obtain⟨h39,e39,w39,n39,_⟩:=w38.st (cx:=zB) 9 (t:=3) (f:=0) (u:=.int .i64 0) (cs':=.ls [.int .i64 0]) rfl oy zm rfl;obtain⟨h40,e40,w40,n40,_⟩:=w39.st (cx:=zB) 8 (t:=24) (f:=0) (u:=.int .i64 0) (cs':=.ls [.int .i64 0]) rfl oy yh rfl;refine wpS.av o zS8 rfl rfl ⟨_,A.ld1 6 rfl kO rfl,h38,e38,h39,e39,h40,e40,o.on λwH hs4=>hs4.slt λKm hs5=>?_⟩;have r:=w40.upd 1 (o':=.deferred false) rfl oy;refine zMQ rfl (hs5.sub rfl) (w40.get 1 rfl) (r.ld1 10 rfl kO rfl) (r.ld1 9 rfl zm rfl) (r.ld1 8 rfl yh rfl) ⟨?_,r.ex0.mono oy⟩;rw[hv,hgo];rfl
 have A:=I.upd 0 (o':=.loop .exhausted (some .ret) 94 b #[72,73] ZP qh a.nx) rfl oy;have n37:(z.upd q.nx (some (.loop .exhausted (some .ret) 94 b #[72,73] ZP qh a.nx))).nx=z.nx:=rfl;generalize z.upd q.nx (some (.loop .exhausted (some .ret) 94 b #[72,73] ZP qh a.nx))=h37 at A n37 ⊢;have r:=A.upd 1 (o':=.deferred false) rfl oy;refine thenC.ret (o.slt λKm hs5=>?_);refine zMQ rfl (hs5.sub rfl) (A.get 1 rfl) (r.ld1 10 rfl kO rfl) (r.ld1 9 rfl zm rfl) (r.ld1 8 rfl yh rfl) ⟨?_,r.ex0.mono oy⟩;rw[hv,hgo]
abbrev oRk(s:Ua)(x e y b:Int):O:=.cells (.ls [.str s,dd x,dd e,dd y,dd b]) ⟨0,84,0⟩ true false
theorem zWB:zP zB 83 1 h (.ptr p 0) k=k (.ptr p 4) h:=da
theorem Om:zP zB 83 0 h (.ptr p 0) k=k (.ptr p 0) h:=da
theorem kx:zP zB 80 1 h (.ptr p 0) k=k (.ptr p 1) h:=da
theorem Jt:yD zB ⟨none,.nilCheck (t 0),0, "",#[],none⟩ (λ_=>some (.ptr p 0)) h=some (.val (.ptr p 0) h):=da
theorem zQ0{x e y b a:Int}(g:h.get p=some (oRk s x e y b))(j:p<h.nx)(z:h.nx+1<=T.top)(o:Q (.agg [dd a,dd b]) h):RF P zB 64 [.ptr p 0,dd a] h Q:=by
 refine RF.forget (n:=1) (v:=.agg [dd a,dd b]) ?_ (xM (Ks (zL _ _) (zL _ _))) o;refine yU z4F ⟨oy,?_⟩;rintro p0 h1 rfl q;have d:=(Vw.nil (S:=zN) (h:=h)).new q oy;have A:=d.top;obtain⟨r,w,i,B,_⟩:=d.st (cx:=zB) 0 (t:=26) (f:=0) (u:=.agg [dd a,dd b]) (cs':=.ls [dd a,dd b]) rfl oy zd rfl;refine⟨_,_,Jt,?_⟩;try dsimp only
 rw[zWB];exact⟨_,zK zm rfl ((d.ex0.get _ j).trans g) rfl,r,w,endL.ok (leaveL.cell (i.ldA 0 rfl zd rfl) rfl) ⟨rfl,i.ex0⟩⟩
def Sls(h:H)(v:V)(l:Ub):Prop:=Sl h v 1 l.length (zV l)/\(l.length=0->yr 1 h v=some (0,[]))
theorem Sls.ext{h h':H}(s:Sls h v l)(x:Ext h h' m):Sls h' v l:=by
 obtain⟨s,d⟩:=s;refine⟨s.ext x,λf=>?_⟩;have a:=d f;obtain⟨_,⟨rfl,_⟩|⟨b,o,g,cs,k,w,op,rfl,hb,i,_⟩⟩:=s
 .rfl
 refine Eq.trans ?_ a;have e:=x.get b hb;unfold yr;simp only[e]
theorem Sls.of(s:Sl h v 1 l.length (zV l))(hl:0<l.length):Sls h v l:=⟨s,λh=>absurd h oy⟩
theorem zVm(d:h.nx<T.top):zJ zB 23 0 [] h=some (.slice h.nx 0 0 (.exact 0),h.new (.cells (.ls []) ⟨0,3+1,0⟩ true false)):=by
 have a:zJ zB 23 0 [] h=(match (cond (Nat.blt h.nx T.top) (some (h.nx,h.new (.cells (.ls []) ⟨0,3+1,0⟩ true false))) none:Option (Nat×H))with|some (b,h')=>some (.slice b 0 0 (.exact 0),h')|none=>none):=da
 rw[(zY _ _).2 d,oS]at a;exact a
theorem zW2{v:V}{l:Ub}(s:Sls h v l)(E:h.nx+2<=T.top:=by omega)(t:l.length<=262143:=by omega):
  ∃h1,zJ zB 23 0 [] h=some (.slice h.nx 0 0 (.exact 0),h1)/\∃w h',zn zB 23 h1 (.slice h.nx 0 0 (.exact 0)) v=some (w,h')/\Ext h h' 2/\Sls h' w l:=by
 obtain⟨s,z⟩:=s;refine⟨_,zVm oy,?_⟩;generalize e1:h.new (.cells (.ls []) ⟨0,3+1,0⟩ true false)=h1;have d:Ext h h1 1:=by rw[<-e1];exact Ext.new _ oy
 have u:h1.get h.nx=some (.cells (.ls []) ⟨0,3+1,0⟩ true false):=by rw[<-e1];exact zM _ oy
 have F:=d.top;have A:h.nx<h1.nx:=by rw[<-e1,z8];omega
 rcases Nat.eq_zero_or_pos l.length with f|f
 .have hl:l=[]:=List.eq_nil_of_length_eq_zero f;have g:yr yn.size h1 v=some (0,[]):=by
   have j:=z f;obtain⟨_,⟨rfl,_⟩|⟨b,o,G,cs,k,w,op,rfl,hb,H,_⟩⟩:=s
   .rfl
   refine Eq.trans ?_ j;have e:=d.get b hb;unfold yr;simp only[e]
  refine⟨.slice h.nx 0 0 (.exact 0),h1.upd h.nx (some (.cells (.ls []) ⟨0,3+1,0⟩ true false)),?_,?_⟩
  .unfold zn;rw[z7];simp only[zPr];have q:qn yn=true:=da
   rw[q,oS,g];show Go.Sim.appTo yn h1 0 [] (.slice h.nx 0 0 (.exact 0))=_;unfold Go.Sim.appTo;simp only[u];rfl
  subst hl;have x:(h1.upd h.nx (some (.cells (.ls []) ⟨0,3+1,0⟩ true false))).get h.nx=some (.cells (.ls []) ⟨0,3+1,0⟩ true false):=zF _;exact⟨(d.upd _ oy (oV _)).mono oy,⟨rfl,.inr ⟨h.nx,0,_,_,_,_,_,rfl,A,x,λi hi=>by simp at hi⟩⟩,λ_=>by
   unfold yr;simp only[x];rfl⟩
 have r:=s.ext d;have a:(zV l).length=l.length:=by simp[zV]
 obtain⟨cs,y,I⟩:=Cs.ofL_some (l:=zV l) (by rw[a];omega);obtain⟨J,B⟩:=Cs.ofL_eq y;refine⟨.slice h1.nx 0 l.length (.skip 0),h1.new (.cells cs (jC yn) true true),?_,?_⟩
 .unfold zn;rw[z7];simp only[zPr];have q:qn yn=true:=da
  rw[q,oS,r.src db f];show Go.Sim.appTo yn h1 l.length (zV l) (.slice h.nx 0 0 (.exact 0))=_;unfold Go.Sim.appTo;simp only[u];unfold qv;have C:Nat.ble (0+l.length) 0=false:=by
   rcases hb:Nat.ble (0+l.length) 0 with _|_
   .rfl
   have:=oH hb;omega
  rw[C,oT];have D:zCx (.ls []) 0 (0*yn.size) (zV l)=some cs:=by unfold zCx;rw[Nat.zero_mul,zJ4 (.ls []) 0 (.inr trivial)];simp only[zMa,oS,List.nil_append,y]
  rw[D,Nat.zero_add];exact ky (by show l.length*8<=_;omega) oy
 exact⟨d.trans (Ext.new _ oy),.of ⟨by rw[a,Nat.mul_one],.inr ⟨h1.nx,0,_,cs,_,_,_,rfl,by rw[z8];omega,zM _ oy,λi _=>by rw[Nat.zero_add];exact B i⟩⟩ f⟩
theorem zKF(sl:Sls h v l)(hl:l.length<=1000)(i:h.nx+2<=T.top)(f:∀h' v',Ext h h' 2->Sl h' v' 1 l.length (zV l)->Q v' h'):RF P zB 65 [v] h Q:=by
 refine yU z4G ?_;obtain⟨h1,j,w,q,r,u,x⟩:=zW2 sl i;obtain⟨sl,_⟩:=sl;obtain⟨a,⟨rfl,d⟩|⟨b,o,y,cs,k,w',op,rfl,hb,z,A⟩⟩:=sl
 .have e:ZQ zB .eql 23 (t 3) (.const (.slice none 0 0)) .nilslice .nilslice=some (.bool true):=da
  exact⟨true,e,λ_=>f _ _ ((Ext.refl h).mono oy) ⟨a,.inl ⟨rfl,d⟩⟩,λg=>(by cases g)⟩
 have e:ZQ zB .eql 23 (t 3) (.const (.slice none 0 0)) (.slice b o l.length y) .nilslice=some (.bool false):=da
 exact⟨false,e,λg=>(by cases g),λ_=>⟨_,h1,j,trivial,w,q,r,f _ _ u x.1⟩⟩
theorem zBy{B:Nat}{z:Nat->Nat}(a:∀i,z i<=B):∀k i out,(xr l s n z k i out).2.1<=B
 | 0,_,_=>oQ _
 | k+1,i,out=>by
  unfold xr;split
  .exact zBy a k _ _
  exact a i
theorem zEq:(yV s l n).2.1<=s.length:=by
 unfold yV;repeat' (split;· exact oQ _)
 refine zBy (λi=>?_) _ _ _;have:=zJ8 (a:=l2 s 0) (b:=l2 s 2) (c:=l2 s 4) (d:=s.length-l6 s) (i:=i);unfold l6 at *;omega
def kl(s:Ua)(l:Ub)(n st at_:Nat):List UInt8×Int×Int :=
 if st=1 then (if (Yh s l n).2=0 then ((Yh s l n).1,0,0) else ([],22,at_))
 else if (yV s l n).2.2=0 then ((yV s l n).1,0,0) else ([],22,(at_+(yV s l n).2.1:Nat))
theorem zML{B:Ua}{st at_:Nat}{e y b:Int}(g:h.get p=some (oRk B at_ e y b))(C:p<h.nx)(sl:Sl h v 1 l.length (zV l))(hl:l.length<=1000)(hs:s.length<=1500)(o:n<=131072)(D:at_<=100000)(J:h.nx+62000<=T.top)(q:h.low<=T.top)(E:Q (.tuple [.str (kl s l n st at_).1,.agg [dd (kl s l n st at_).2.1,dd (kl s l n st at_).2.2]]) h):RF P zB 67 [.ptr p 0,v,.str s,dd n,dd st] h Q:=by
 refine RF.forget (n:=1) (v:=.tuple [.str (kl s l n st at_).1,.agg [dd (kl s l n st at_).2.1,dd (kl s l n st at_).2.2]]) ?_ (qH (yx _) (xM (Ks (zL _ _) (zL _ _)))) E;refine yU z4H ⟨oy,?_⟩;rintro p0 h1 rfl F;have i:=(Vw.nil (S:=zN) (h:=h)).new F oy;have K:=i.top;have j:=oW i.low q;have z:=(i.ex0.get _ C).trans g;have fin:∀(out:Ua) (a x:Int),kl s l n st at_=(out,a,x)->∃r,zZ zB 26 h1 (.ptr h.nx 0) (.agg [dd a,dd x])=some r/\endL zB r [(.tmp 10,.str out),(.cell 11 26,.ptr h.nx 0)] (λv' h'=>v' = .tuple [.str (kl s l n st at_).1,.agg [dd (kl s l n st at_).2.1,dd (kl s l n st at_).2.2]]/\Ext h h' 1):=by intro out a x G;obtain⟨H,I,A,L,_⟩:=i.st (cx:=zB) 0 (t:=26) (f:=0) (u:=.agg [dd a,dd x]) (cs':=.ls [dd a,dd x]) rfl oy zd rfl;exact⟨H,I,endL.ok (leaveL.tmp (leaveL.cell (A.ldA 0 rfl zd rfl) rfl)) ⟨by rw[G];rfl,A.ex0⟩⟩
 refine⟨λc=>?_,λc=>?_⟩
 .have w:kl s l n st at_=if (Yh s l n).2=0 then ((Yh s l n).1,0,0) else ([],22,(at_:Int)):=by
   unfold kl;rw[if_pos oy]
  refine zM7 (sl.ext i.ex0) hl hs o oy j ⟨_,_,rfl,λd=>⟨⟨oy,j⟩,_,_,Jt,⟨by show h1.nx<=T.top;omega,by show h1.nx<=T.top;omega⟩,qV j ?_⟩,λd=>fin _ _ _ ?_⟩
  .try dsimp only
   rw[Om,kx];exact⟨_,zK zm rfl z rfl,fin _ _ _ (by rw[w,if_neg d])⟩
  rw[w,if_pos (Decidable.not_not.1 d)]
 have w:kl s l n st at_=if (yV s l n).2.2=0 then ((yV s l n).1,0,0) else ([],22,((at_+(yV s l n).2.1:Nat):Int)):=by unfold kl;rw[if_neg oy]
 refine zFr (sl.ext i.ex0) hl hs o oy j ⟨_,_,_,rfl,λd=>⟨⟨oy,j⟩,_,_,Jt,⟨by show h1.nx<=T.top;omega,by show h1.nx<=T.top;omega⟩,qV j ?_⟩,λd=>fin _ _ _ ?_⟩
 .try dsimp only
  rw[Om,kx];refine⟨_,zK zm rfl z rfl,?_⟩;have M:=zEq (s:=s) (l:=l) (n:=n);try dsimp only
  rw[zD oy oy];exact fin _ _ _ (by rw[w,if_neg d];rfl)
 rw[w,if_pos (Decidable.not_not.1 d)]
def zCC:Go.Shelf.Ren:=⟨λ|99=>118|105=>66|165=>119|166=>120|169=>122|170=>121|206=>191|212=>117|240=>192|241=>193|263=>189|264=>190|276=>261|277=>262|n=>n,λ|0=>0|3=>3|4=>4|5=>5|9=>9|20=>20|37=>71|46=>72|51=>243|53=>127|70=>159|72=>161|75=>163|76=>164|80=>166|109=>157|127=>248|146=>244|148=>246|164=>308|n=>n,λn=>n⟩
theorem zZ4:Lays.n105 Tryz.prog zCC where
 mixed:=da
 f99:=Tryz.func118.trans (congrArg some da)
 f105:=Tryz.func66.trans (congrArg some da)
 f165:=Tryz.func119.trans (congrArg some da)
 f166:=Tryz.func120.trans (congrArg some da)
 f169:=Tryz.func122.trans (congrArg some da)
 f170:=Tryz.func121.trans (congrArg some da)
 f206:=Tryz.func191.trans (congrArg some da)
 f212:=Tryz.func117.trans (congrArg some da)
 f240:=Tryz.func192.trans (congrArg some da)
 f241:=Tryz.func193.trans (congrArg some da)
 f263:=Tryz.func189.trans (congrArg some da)
 f264:=Tryz.func190.trans (congrArg some da)
 f276:=Tryz.func261.trans (congrArg some da)
 f277:=Tryz.func262.trans (congrArg some da)
 t0:=Tryz.underlying0
 a0:=Tryz.isAgg0
 z0:=Tryz.sizeOf0
 v0:=Tryz.zeroValue0
 t3:=Tryz.underlying3
 a3:=Tryz.isAgg3
 z3:=Tryz.sizeOf3
 v3:=Tryz.zeroValue3
 t4:=Tryz.underlying4
 a4:=Tryz.isAgg4
 z4:=Tryz.sizeOf4
 v4:=Tryz.zeroValue4
 t5:=Tryz.underlying5
 a5:=Tryz.isAgg5
 z5:=Tryz.sizeOf5
 v5:=Tryz.zeroValue5
 t9:=Tryz.underlying9
 a9:=Tryz.isAgg9
 z9:=Tryz.sizeOf9
 v9:=Tryz.zeroValue9
 t20:=Tryz.underlying20
 a20:=Tryz.isAgg20
 z20:=Tryz.sizeOf20
 v20:=Tryz.zeroValue20
 t37:=Tryz.underlying71
 a37:=Tryz.isAgg71
 z37:=Tryz.sizeOf71
 v37:=Tryz.zeroValue71
 t46:=Tryz.underlying72
 a46:=Tryz.isAgg72
 z46:=Tryz.sizeOf72
 v46:=Tryz.zeroValue72
 t51:=Tryz.underlying243
 a51:=Tryz.isAgg243
 z51:=Tryz.sizeOf243
 v51:=Tryz.zeroValue243
 t53:=Tryz.underlying127
 a53:=Tryz.isAgg127
 z53:=Tryz.sizeOf127
 v53:=Tryz.zeroValue127
 t70:=Tryz.underlying159
 a70:=Tryz.isAgg159
 z70:=Tryz.sizeOf159
 v70:=Tryz.zeroValue159
 t72:=Tryz.underlying161
 a72:=Tryz.isAgg161
 z72:=Tryz.sizeOf161
 v72:=Tryz.zeroValue161
 t75:=Tryz.underlying163
 a75:=Tryz.isAgg163
 z75:=Tryz.sizeOf163
 v75:=Tryz.zeroValue163
 t76:=Tryz.underlying164
 a76:=Tryz.isAgg164
 z76:=Tryz.sizeOf164
 v76:=Tryz.zeroValue164
 t109:=Tryz.underlying157
 a109:=Tryz.isAgg157
 z109:=Tryz.sizeOf157
 v109:=Tryz.zeroValue157
 t127:=Tryz.underlying248
 a127:=Tryz.isAgg248
 z127:=Tryz.sizeOf248
 v127:=Tryz.zeroValue248
 t146:=Tryz.underlying244
 a146:=Tryz.isAgg244
 z146:=Tryz.sizeOf244
 v146:=Tryz.zeroValue244
 t148:=Tryz.underlying246
 a148:=Tryz.isAgg246
 z148:=Tryz.sizeOf246
 v148:=Tryz.zeroValue246
 t164:=Tryz.underlying308
 a164:=Tryz.isAgg308
 z164:=Tryz.sizeOf308
 v164:=Tryz.zeroValue308
theorem zVw:Builder.Extra Tryz.prog zCC where
 sizeBuilder:=da
 liesBuilder:=da
 t5:=zZ4.t5
 a5:=zZ4.a5
 z5:=zZ4.z5
 v5:=zZ4.v5
 infoByte:=da
 cellsByte:=da
 sizeByte:=da
 neB5:=db
theorem zWO:∃fi,zB.fn.get 66=some fi:=Option.isSome_iff_exists.1 da
theorem zLC{b:UInt8}(g:n<=140737488355328)(a:Q (.str (List.replicate n b)) h):RF Tryz.prog zB 66 [.str [b],.int .i64 n] h Q:=by
 refine⟨_,_,⟨zWO,SimF.of_below (ar:=#[.string ⟨#[b]⟩,.int .i64 n]) (u:=.string ⟨(List.replicate n b).toArray⟩) (λρ=>by simp[V.conc]) (λρ D=>⟨by simp[V.conc],by simp[V.In]⟩) λw=>?_⟩,a⟩;refine(Any.strings_Repeat zZ4 zVw ⟨#[b]⟩ n w oy (by show 1*n<=_;omega)).mono λe w' ⟨d,f⟩=>⟨?_,f⟩
 have:=Lib.repeatL_replicate b 1 n;rw[Nat.mul_one]at this;rw[d,<-this];rfl
def qP(zs:List (Int×Int)):Nat->List (Int×Int)
 | 0=>[]
 | n+1=>zs.filter (λp=>decide (p.2=((n+1:Nat):Int)))++qP zs n
theorem Oo{α:Type}(p q:α->Bool)(h:∀x,p x=true->q x=false):∀l:List α,(l.filter p++l.filter q).Perm (l.filter λx=>p x || q x)
 | []=>.nil
 | x::l=>by
  have ih:=Oo p q h l;cases c:p x with
  | true=>rw[List.filter_cons_of_pos c,List.filter_cons_of_neg (by rw[h x c];simp),List.filter_cons_of_pos (by rw[c];rfl)];exact ih.cons x
  | false =>
   rw[List.filter_cons_of_neg (by rw[c];simp)];cases d:q x with
   | true=>rw[List.filter_cons_of_pos d,List.filter_cons_of_pos (by rw[c,d];rfl)];exact List.perm_middle.trans (ih.cons x)
   | false=>rw[List.filter_cons_of_neg (by rw[d];simp),List.filter_cons_of_neg (by rw[c,d];simp)];exact ih
theorem O3(h:∀p∈zs,1<=p.2):∀n:Nat,(qP zs n).Perm (zs.filter λp=>decide (p.2<=(n:Int)))
 | 0=>by rw[List.filter_eq_nil_iff.2 λp a=>by have:=h p a;simp;omega];exact .nil
 | n+1=>by
  refine((O3 h n).append_left _).trans ((Oo _ _ (λx b=>?_) zs).trans (.of_eq (List.filter_congr λx _=>?_)))
  .have:=of_decide_eq_true b;exact decide_eq_false oy
  rw[<-Bool.decide_or];exact decide_eq_decide.2 oy
theorem zBj{p:Int×Int}:∀n:Nat,p∈qP zs n->p.2<=(n:Int)
 | 0,h=>by cases h
 | n+1,h=>by
  rcases List.mem_append.1 h with h|h
  .have:=of_decide_eq_true (List.mem_filter.1 h).2;omega
  have:=zBj n h;omega
theorem Xa(h:zs.Pairwise λx y=>x.1<y.1):∀n:Nat,(qP zs n).Pairwise λx y=>y.2<x.2\/(y.2=x.2/\x.1<y.1)
 | 0=>.nil
 | n+1=>by
  refine List.pairwise_append.2 ⟨(h.filter _).imp_of_mem λ{x y} a b k=>.inr ⟨?_,k⟩,Xa h n,λx a y b=>.inl ?_⟩
  .rw[of_decide_eq_true (List.mem_filter.1 a).2,of_decide_eq_true (List.mem_filter.1 b).2]
  have:=of_decide_eq_true (List.mem_filter.1 a).2;have:=zBj n b;omega
theorem J1(hm:∀x∈l,x<=(m:Int)):xC kU (yF l)=qP (yF l) m:=by
 have d:∀p∈yF l,1<=p.2/\p.2<=(m:Int):=λp d=>by obtain⟨k,_,_,e,g⟩:=YM d;exact⟨oy,hm _ (List.mem_of_getElem? e)⟩
 have f:(yF l).filter (λp=>decide (p.2<=(m:Int)))=yF l:=List.filter_eq_self.2 λp h=>decide_eq_true (d p h).2
 refine List.Perm.eq_of_pairwise (le:=λx y=>y.2<x.2\/(y.2=x.2/\x.1<=y.1)) (λa b _ _ h k=>?_) ((wK j8 (yF l)).2.imp λ{x y} h=>?_) ((Xa (zDt l 0) m).imp λ{x y} h=>?_) ((wK j8 (yF l)).1.trans ?_)
 .exact Prod.ext oy oy
 .rw[zFI,decide_eq_false_iff_not]at h;omega
 .omega
 have:=O3 (λp h=>(d p h).1) m;rw[f]at this;exact this.symm
def qL(m:Nat)(zs:List (Int×Int)):List (Int×Int):=zs.flatMap λp=>List.replicate (2^(m-p.2.toNat)) p
theorem Kk(m:Nat)(a b:List (Int×Int)):qL m (a++b)=qL m a++qL m b:=List.flatMap_append
theorem zGQ(m:Nat)(ys:List (Int×Int)):(qL m ys).length=xV m ys ys.length:=by
 unfold qL xV;rw[List.take_length];induction ys with
 | nil=>rfl
 | cons p ys ih=>rw[List.flatMap_cons,oe,ih,List.length_replicate,List.map_cons,List.sum_cons]
def yv(m:Nat):List (Int×Int)->Nat->List (Int×Int)->List (Int×Int)
 | [],_,o=>o
 | p::t,i,o=>(yv m t (i+1) o).set p.1.toNat (p.2,((i/2^(m-p.2.toNat):Nat):Int))
theorem zA0(m:Nat):∀(t:List (Int×Int)) (i:Nat) (o:List (Int×Int)),(yv m t i o).length=o.length
 | [],_,_=>rfl
 | p::t,i,o=>by rw[yv,List.length_set,zA0 m t]
theorem zF4(m q:Nat)(p:Int×Int)(t o:List (Int×Int)):∀c j,j+c<=2^(m-p.2.toNat)->yv m (List.replicate c p++t) (q*2^(m-p.2.toNat)+j) o =
  if c=0 then yv m t (q*2^(m-p.2.toNat)+j) o else (yv m t (q*2^(m-p.2.toNat)+j+c) o).set p.1.toNat (p.2,((q:Nat):Int))
 | 0,_,_=>rfl
 | c+1,j,h=>by
  have e:(q*2^(m-p.2.toNat)+j)/2^(m-p.2.toNat)=q:=by rw[Nat.mul_comm,Nat.mul_add_div (Nat.pow_pos db),Nat.div_eq_of_lt oy,Nat.add_zero]
  rw[if_neg oy,List.replicate_succ,List.cons_append,yv,e,Nat.add_assoc,zF4 m q p t o c (j+1) oy];by_cases hc:c=0
  .subst hc;rw[if_pos rfl];rfl
  rw[if_neg hc,List.set_set];congr 2;omega
theorem zRP(hs:ys.Pairwise λx y=>y.2<=x.2)(a:xV m ys ys.length=2^m)(o:List (Int×Int)){k:Nat}(b:k<ys.length):
  yv m (qL m (ys.drop k)) (xV m ys k) o=(yv m (qL m (ys.drop (k+1))) (xV m ys (k+1)) o).set ys[k].1.toNat (ys[k].2,((xV m ys k/2^(m-ys[k].2.toNat):Nat):Int)):=by
 obtain⟨q,d⟩:=zUB hs a b;have f:0<2^(m-ys[k].2.toNat):=Nat.pow_pos db;have e:qL m (ys.drop k)=List.replicate (2^(m-ys[k].2.toNat)) ys[k]++qL m (ys.drop (k+1)):=by rw[List.drop_eq_getElem_cons b];rfl
 have h:=zF4 m q ys[k] (qL m (ys.drop (k+1))) o (2^(m-ys[k].2.toNat)) 0 oy;rw[if_neg oy]at h;rw[e,Y3 b,d,Nat.mul_div_cancel_left _ f,Nat.mul_comm];exact h
theorem put_eq(hs:ys.Pairwise λx y=>y.2<=x.2)(b:xV m ys ys.length=2^m)(d:(ys.map Prod.fst).Nodup)(hr:∀p∈ys,0<=p.1/\p.1<n)(o:List (Int×Int))(f:o.length=n):
  ∀c k,k+c=ys.length->∀x:Nat,(yv m (qL m (ys.drop k)) (xV m ys k) o)[x]? = if ∃i,∃hi:i<ys.length,k<=i/\ys[i].1.toNat=x then (Kv m n ys ys.length)[x]? else o[x]?
 | 0,k,g,x=>by rw[List.drop_of_length_le oy,if_neg (by rintro⟨i,hi,h,_⟩;omega)];rfl
 | c+1,k,g,x=>by
  have a:k<ys.length:=oy
  have h1:=hr _ (od a);rw[zRP hs b o a];by_cases hx:ys[k].1.toNat=x
  .subst hx;rw[if_pos ⟨k,a,oV _,rfl⟩,List.getElem?_set_self (by rw[zA0];omega),zD3 d hr _ (oV _) k a a]
  rw[om hx,put_eq hs b d hr o f c (k+1) oy x];have e:(∃i,∃hi:i<ys.length,k+1<=i/\ys[i].1.toNat=x)↔∃i,∃hi:i<ys.length,k<=i/\ys[i].1.toNat=x:=⟨λ⟨i,hi,h,e⟩=>⟨i,hi,oy,e⟩,λ⟨i,hi,h,e⟩=>⟨i,hi,by
   by_cases c:i=k
   .subst c;exact absurd e hx
   omega,e⟩⟩
  simp only[e]
theorem zJI{x:Nat}(h:∀i,∀hi:i<ys.length,ys[i].1.toNat≠x):∀k,k<=ys.length->(Kv m n ys k)[x]? = (List.replicate n ((0:Int),(0:Int)))[x]?
 | 0,_=>rfl
 | k+1,a=>by rw[Jw oy,om (h k oy),zJI h k oy]
theorem zKI(a:ju l):yv (xS l) (qL (xS l) (qP (yF l) (xS l))) 0 (List.replicate l.length ((0:Int),(0:Int)))=YT l:=by
 rw[<-J1 λx b=>qj b];refine List.ext_getElem? λx=>?_
 have hr:∀p∈xC kU (yF l),0<=p.1/\p.1<l.length:=λp d=>by obtain⟨k,f,g,_⟩:=KT d;omega
 have h:=put_eq (zCl l) (zBI a) (zG4 l) hr (List.replicate l.length ((0:Int),(0:Int))) (by simp) _ 0 (Nat.zero_add _) x;have e:xV (xS l) (xC kU (yF l)) 0=0:=by simp[xV]
 rw[List.drop_zero,e]at h;rw[h];split
 .rfl
 next c=>exact(zJI (λi hi e=>c ⟨i,hi,oQ _,e⟩) _ (oV _)).symm
theorem zN5{x:Int}(hm:m<=11)(h0:0<=x)(h1:x<=(m:Int)):lone 11 (if x≠0 then (m:Int)+1-x else 0)=2^(11-m)*kR x:=by
 unfold kR lone;by_cases c:x≠0
 .rw[if_pos c,if_pos c,if_pos oy,<-Nat.pow_add];congr 1;omega
 rw[if_neg c,if_neg c];rfl
theorem zFJ{m:Nat}(hm:m<=11): {l:Ub}->(∀x∈l,0<=x/\x<=(m:Int))->xZ 11 (J3 m l)=2^(11-m)*yH l
 | [],_=>rfl
 | x::l,h=>by
  have h1:=h x (by simp);have a:=zFJ hm (l:=l) λy b=>h y (by simp[b])
  have d:xZ 11 (J3 m (x::l))=lone 11 (if x≠0 then (m:Int)+1-x else 0)+xZ 11 (J3 m l):=by simp[xZ,J3]
  have e:yH (x::l)=kR x+yH l:=by simp[yH]
  rw[d,e,zN5 hm h1.1 h1.2,a,Nat.mul_add]
theorem zIf{m:Nat}: {l:Ub}->(∀x∈l,0<=x/\x<=(m:Int))->wy (J3 m l)=wy l
 | [],_=>rfl
 | x::l,h=>by
  have h1:=h x (by simp);have a:=zIf (m:=m) (l:=l) λy b=>h y (by simp[b])
  have e:∀(y:Int) (l:Ub),wy (y::l)=(if y≠0 then 1 else 0)+wy l:=λy l=>by
   rw[show y::l=[y]++l from rfl,YV];congr 1;unfold wy;by_cases c:y≠0
   .rw[if_pos c];simp[c]
   have c:=Decidable.not_not.1 c;subst c;rfl
  show wy ((if x≠0 then (m:Int)+1-x else 0)::J3 m l)=_;rw[e,e,a];congr 1;by_cases c:x≠0
  .rw[if_pos c,if_pos c,if_pos oy]
  rw[if_neg c,if_neg c,if_neg oy]
theorem zAy{x:Int}: {l:Ub}->x∈l->kR x<=yH l
 | y::l,h=>by
  have e:yH (y::l)=kR y+yH l:=by simp[yH]
  rw[e];rcases oq.1 h with rfl|h
  .omega
  have:=zAy h;omega
theorem zNg(h1:2^m<=n)(d:n<2^(m+1)):zT n=m+1:=by
 have a:=yK d;have b:=jB n;by_cases c:zT n<=m
 .have:2^zT n<=2^m:=Nat.pow_le_pow_right db c;omega
 omega
theorem zK1{l:Ub}(h:XS l=0):wW (xb l)=0:=by
 unfold XS at h;by_cases c1:l.length<1\/255<l.length
 .rw[if_pos c1]at h;cases h
 rw[if_neg c1]at h;by_cases e:wg l=true
 case neg=>rw[if_neg e]at h;cases h
 rw[if_pos e]at h;by_cases g:wok l
 case neg=>rw[if_neg g]at h;cases h
 obtain⟨j,o,q⟩:=g;have r:=jB (yH l);have hb:∀x∈l,0<=x/\x<=(zT (yH l):Int):=λx b=>by
  refine⟨(ji e b).1,?_⟩;by_cases c:x≠0
  .have h1:=zAy b;unfold kR at h1;rw[if_pos c]at h1;have:=(Nat.pow_lt_pow_iff_right (a:=2) db).1 (Nat.lt_of_le_of_lt h1 r);omega
  omega
 have i:1<=yH l:=by obtain⟨x,b⟩:=List.exists_mem_of_length_pos (Nat.pos_of_ne_zero j);obtain⟨b,f⟩:=List.mem_filter.1 b;have f:=of_decide_eq_true f;have h1:=zAy b;unfold kR at h1;rw[if_pos f]at h1;exact oW (Nat.pow_pos db) h1
 have t:yM l+yH l=2^zT (yH l):=by unfold yM;omega
 generalize hm:zT (yH l)=m at *;generalize hr:yM l=W at *;have A:W.log2<m:=by refine(Nat.pow_lt_pow_iff_right (a:=2) db).1 ?_;omega
 have u:zT W=W.log2+1:=zNg oy (by rw[Nat.pow_succ];have:=Nat.pow_pos (n:=W.log2) (show 0<2 by decide);omega);have hl:xb l=J3 m (l++[((W.log2+1:Nat):Int)]):=by unfold xb;rw[hm,hr,u]
 have d:∀x∈l++[((W.log2+1:Nat):Int)],0<=x/\x<=(m:Int):=λx b=>by
  rcases List.mem_append.1 b with b|b
  .exact hb x b
  rw[List.mem_singleton.1 b];omega
 have w:kR ((W.log2+1:Nat):Int)=W:=by unfold kR;rw[if_pos oy];exact q.symm
 have es:xZ 11 (xb l)=2048:=by have:yH [((W.log2+1:Nat):Int)]=W:=(show kR ((W.log2+1:Nat):Int)+0=W by rw[Nat.add_zero];exact w);rw[hl,zFJ o d,zBH,this,Nat.add_comm,t,<-Nat.pow_add,show 11-m+m=11 by omega]
 have B:2<=wy (xb l):=by rw[hl,zIf d,Zn,if_pos oy];omega
 have hi:wg (xb l)=true:=by rw[hl];unfold wg;rw[List.all_eq_true];intro y z;obtain⟨x,b,rfl⟩:=List.mem_map.1 z;have:=d x b;rw[oM,decide_eq_true_iff,decide_eq_true_iff];split<;>omega
 unfold wW;rw[Xr,if_neg oy,if_pos hi,if_neg oy,if_pos es]
structure LR where
 out:Ua
 nx:Option Ub
 fin:Int
 e:Int
 y:Int
def Zg(e y:Int):LR:=⟨[],none,0,e,y⟩
def lrC(s:Ua)(l:Ub)(a b n st:Nat):LR :=
 if (kl (zH s a b) l n st a).2.1=0 then ⟨(kl (zH s a b) l n st a).1,some l,b,0,0⟩ else Zg (kl (zH s a b) l n st a).2.1 (kl (zH s a b) l n st a).2.2
def lrT(s:Ua)(x:Int)(st n m b:Nat):LR :=
 if (ye (zH s 0 (b+m)) b).e=0 then lrC s (ye (zH s 0 (b+m)) b).l (ye (zH s 0 (b+m)) b).nx (b+m) n st
 else if (ye (zH s 0 (b+m)) b).e=5 then Zg 21 x else Zg (ye (zH s 0 (b+m)) b).e (ye (zH s 0 (b+m)) b).fat
def Ze(k n m:Nat):Nat:=if k=0 then n else if k=1 then 1 else m
def lrD(s:Ua)(x:Int)(last:Ub)(k st n m b:Nat):LR :=
 if k=0 then ⟨zH s b (b+n),some last,(b+n:Nat),0,0⟩
 else if k=1 then ⟨List.replicate n (s[b]?.getD 0),some last,(b+1:Nat),0,0⟩
 else if k=3/\last.length=0 then Zg 26 x
 else if st=4/\n<6 then Zg 20 x
 else if k=2 then lrT s x st n m b else lrC s last b (b+m) n st
def lrB(s:Ua)(x:Int)(last:Ub)(most:Int)(k st n m b:Nat):LR :=
 if most<0\/131072<most then Zg 2 0
 else if last.length≠0/\wW last≠0 then Zg (wW last) 0
 else if most<n\/s.length<b+Ze k n m then Zg 20 x
 else lrD s x last k st n m b
def Jq(s:Ua)(x:Int)(last:Ub)(most:Int):LR :=
 if x<0\/s.length<x then Zg 2 0
 else if s.length<x.toNat+fw (hb s x.toNat % 4) (hb s x.toNat/4 % 4) then Zg 20 x
 else lrB s x last most (hb s x.toNat % 4) (fz (hb s x.toNat % 4) (hb s x.toNat/4 % 4))
  (wQ (zH s x.toNat (x.toNat+fw (hb s x.toNat % 4) (hb s x.toNat/4 % 4)))/2^ff (hb s x.toNat % 4) (hb s x.toNat/4 % 4) % 2^fx (hb s x.toNat % 4) (hb s x.toNat/4 % 4))
  (wQ (zH s x.toNat (x.toNat+fw (hb s x.toNat % 4) (hb s x.toNat/4 % 4)))/2^ff (hb s x.toNat % 4) (hb s x.toNat/4 % 4)/2^fx (hb s x.toNat % 4) (hb s x.toNat/4 % 4) % 2^fy (hb s x.toNat % 4) (hb s x.toNat/4 % 4))
  (x.toNat+fw (hb s x.toNat % 4) (hb s x.toNat/4 % 4))
theorem zFv(s:Ua)(x:Int)(last:Ub)(most:Int):(∃e y,e≠0/\rh s x=rhN 0 0 0 0 0 e y/\Jq s x last most=Zg e y) \/
  ∃k st n m b:Nat,k<4/\(st=1\/st=4\/k<2)/\n<2^20/\m<2^18/\b<=s.length/\0<=x/\x<=s.length/\rh s x=rhN k st n m b 0 0/\Jq s x last most=lrB s x last most k st n m b:=by
 unfold rh Jq rhA;by_cases c:x<0\/s.length<x
 .exact .inl ⟨2,0,db,by rw[if_pos c],by rw[if_pos c]⟩
 rw[if_neg c,if_neg c];by_cases a:s.length<x.toNat+fw (hb s x.toNat % 4) (hb s x.toNat/4 % 4)
 .refine .inl ⟨20,x,db,?_,by rw[if_pos a]⟩;rw[if_neg oy,show((x.toNat:Nat):Int)=x by omega]
 refine .inr ⟨_,_,_,_,_,Nat.mod_lt _ db,?_,?_,?_,Nat.le_of_not_lt a,oy,oy,by rw[if_pos oy],by rw[if_neg a]⟩
 .unfold fz;split
  .omega
  split<;>omega
 .exact oO (Nat.mod_lt _ (Nat.pow_pos db)) (Nat.pow_le_pow_right db (zWF _ _))
 exact oO (Nat.mod_lt _ (Nat.pow_pos db)) (Nat.pow_le_pow_right db (zWG _ _))
end Go.Proofs.YtnpeieeomokomaaGreat
