/- TC. No condition. -/
import Derived.Test.YtnpeieeomokomaaGreatZTA
import Derived.Test.YtnpeieeomokomaaGreatZW
set_option maxRecDepth 100000
set_option maxHeartbeats 1000000
noncomputable section
namespace Go.Proofs.YtnpeieeomokomaaGreat
open Go.Sim
variable {h:H}{Q:V->H->Prop}
abbrev tl (s:List UInt8):V:=.agg [.str s]
def zUe (s:List UInt8):H:=(H0.new (.cells (.ls [.str []]) ⟨0,298+1,0⟩ true false)).upd H0.nx (some (.cells (.ls [.str s]) ⟨0,298+1,0⟩ true false))
def z1X (s:List UInt8):Tm:=Tb.set (Tb.set (Tb.set (Tb.set (Tb.set (Tb.set (Tb.leaf zB) 0 (.str s)) 2 (.int .i64 0)) 3 (.int .i64 0)) 6 (.str s)) 7 (.agg [.str s])) 4 (.ptr H0.nx 0)
def zNg:Nat:=(yZ z5y.toList).getD 0
def zJG (s:List UInt8) (z a e:Int):Option (List Qy×St) :=
 wK zA z5y.toList (z8 z5y.toList []) zNg zNg 0 z5y.toList ⟨22,z1X s,[],zUe s⟩ [.bool false,.int .i64 0,.int .i64 z,.int .i64 a,.int .i64 e]
theorem zNh:yZ z5y.toList=some zNg:=by kernel_rfl
theorem zPE (s:List UInt8) (z a e:Int):(zJG s z a e).isSome=true:=by kernel_rfl
theorem zPF (s:List UInt8) (z a e:Int):(zJG s z a e).map (λx=>x.1.map λq=>(q.1,q.2.2)) =
  some [((305,[tl s]),.bool false),((250,[.bool false,.int .i64 4]),.int .i64 0),((306,[tl s]),.int .i64 z),((250,[.bool (JN z 0),.int .i64 22]),.int .i64 a),((248,[.slice 1 0 2 (.exact 2)]),.int .i64 e)]:=by kernel_rfl
theorem zRn (s:List UInt8) (z a e:Int):((zJG s z a e).bind λx=>(x.1[4]?).map λq=>(q.2.1.nx,q.2.1.get 1))=some (2,some (.cells (.ls [.int .i64 0,.int .i64 a]) ⟨0,24+1,0⟩ true false)):=by kernel_rfl
theorem zRo (s:List UInt8) (z a e:Int):(zJG s z a e).map (λx=>(x.2.n,x.2.dfr,zi x.2.tm 5,zi x.2.tm 4,x.2.heap.get 0))=some (22,[],.int .i64 e,.ptr 0 0,some (.cells (.ls [.str s]) ⟨0,298+1,0⟩ true false)):=by kernel_rfl
theorem _root_.Go.Sim.thenC.rt {K:St->Prop}{R:AX->St->Prop}{s:St}(h:R .ret s):thenC K R .ret s:=h
theorem z6d {α:Type}:∀{l:List α},l.length=5->∃a b c d e,l=[a,b,c,d,e]
 | [a,b,c,d,e],_=>⟨a,b,c,d,e,rfl⟩
theorem zXM {α:Type}:∀{l:List α},l.length=4->∃a b c d,l=[a,b,c,d]
 | [a,b,c,d],_=>⟨a,b,c,d,rfl⟩
def KJ (s:List UInt8):V:=if zp s<0 then .tuple [.int .i64 0,.int .i64 22] else .tuple [.int .i64 (zp s),.int .i64 0]
theorem zFc (s:List UInt8):Plain (KJ s):=by
 unfold KJ;split<;>exact zd rfl
theorem _root_.Go.Sim.qs_at {r:Option (List Qy×St)}{qs:List Qy}{s:St}{l:List ((Nat×List V)×V)}(e:r=some (qs,s)) (h:r.map (λx=>x.1.map λq=>(q.1,q.2.2))=some l):qs.map (λq=>(q.1,q.2.2))=l:=by
 subst e;exact Option.some.inj h
theorem zE2 {s:List UInt8}(hs:s.length<=2000) (hq:Q (KJ s) h):RF P zA 273 [.str s] h Q:=by
 refine RF.plain ?_ (zj rfl);have hq:∀h':H,Plain (KJ s)/\Q (KJ s) h:=λ_=>⟨zFc _,hq⟩
 refine yD z0X rfl rfl z23 ⟨by decide,?_⟩;rintro p0 h1 rfl rfl;refine⟨zUe s,zk zJR (zZ _ (by decide)) rfl (oJ _) rfl rfl,?_⟩;obtain⟨⟨qs,s'⟩,e⟩:=Option.isSome_iff_exists.1 (zPE s (zp s) (if zp s<0 then 22 else 0) (if zp s<0 then 22 else 0));have k:=qs_at e (zPF _ _ _ _);have eh:=zRn s (zp s) (if zp s<0 then 22 else 0) (if zp s<0 then 22 else 0);have es:=zRo s (zp s) (if zp s<0 then 22 else 0) (if zp s<0 then 22 else 0);rw[e]at eh es;obtain⟨q0,q1,q2,q3,q4,rfl⟩:∃q0 q1 q2 q3 q4,qs=[q0,q1,q2,q3,q4]:=by
  exact z6d (by have:=congrArg List.length k;simpa using this)
 simp only[List.map_cons,List.map_nil,List.cons.injEq,oB,and_true]at k;obtain⟨⟨k0,v0⟩,⟨k1,v1⟩,⟨k2,v2⟩,⟨k3,v3⟩,⟨k4,v4⟩⟩:=k;obtain⟨⟨f0,a0⟩,⟨w0,x0⟩⟩:=q0;obtain⟨⟨f1,a1⟩,⟨w1,x1⟩⟩:=q1;obtain⟨⟨f2,a2⟩,⟨w2,x2⟩⟩:=q2;obtain⟨⟨f3,a3⟩,⟨w3,x3⟩⟩:=q3;obtain⟨⟨f4,a4⟩,⟨w4,x4⟩⟩:=q4;simp only at k0 v0 k1 v1 k2 v2 k3 v3 k4 v4;obtain⟨rfl,rfl⟩:=k0;obtain⟨rfl,rfl⟩:=k1;obtain⟨rfl,rfl⟩:=k2;obtain⟨rfl,rfl⟩:=k3;obtain⟨rfl,rfl⟩:=k4;subst v0 v1 v2 v3 v4;refine wpDr.ans zNh e ?_ ?_ ?_
 ·intro q hq
  simp only[od,List.not_mem_nil,or_false]at hq;rcases hq with rfl|rfl|rfl|rfl|rfl
  ·refine RF.same (zIo ⟨?_,rfl⟩)
   rw[decide_eq_false (by omega)]
  ·exact RF.same (j5 ⟨rfl,rfl⟩)
  ·exact RF.same (OM (by omega) ⟨rfl,rfl⟩)
  ·refine RF.same (j5 ⟨?_,rfl⟩)
   rw[yg];by_cases c:zp s<0
   ·rw[if_pos c,decide_eq_true c];rfl
   ·rw[if_neg c,decide_eq_false c];rfl
  ·simp only[List.getElem?_cons_succ,List.getElem?_cons_zero,Option.bind_some,oZ,oA,oB]at eh
   refine RF.same (qP (l:=[0,if zp s<0 then 22 else 0]) ⟨rfl,.inr ⟨1,0,_,_,_,_,_,rfl,by rw[eh.1];decide,eh.2,?_⟩⟩ (by simp) ⟨?_,rfl⟩)
   ·intro i hi
    rcases i with _|_|i
    ·rfl
    ·rfl
    ·exact absurd hi (by show ¬i+1+1<2*1;omega)
   ·simp only[wT]
    by_cases c:zp s<0
    ·rw[if_pos c];rfl
    ·rw[if_neg c];rfl
 ·intro a ha b hb hab
  simp only[od,List.not_mem_nil,or_false]at ha hb;rcases ha with rfl|rfl|rfl|rfl|rfl<;>rcases hb with rfl|rfl|rfl|rfl|rfl<;>first|rfl|(simp at hab)
 ·obtain⟨n,tm,d,hp⟩:=s'
  simp only[oZ,oA,oB]at es;obtain⟨rfl,rfl,g5,g4,gh⟩:=es;have hs0:Has tm [(5,.int .i64 (if zp s<0 then 22 else 0)),(4,.ptr 0 0)]:=⟨g5,g4,trivial⟩;refine wpS.av hs0 zTh rfl rfl ⟨λc=>?_,λc=>?_⟩
  ·have c1:zp s<0:=by
    by_cases c1:zp s<0
    ·exact c1
    ·rw[if_neg c1]at c;exact absurd rfl c
   rw[if_pos c1]at *;refine hs0.on λtm' hs'=>?_
   refine thenC.rt (endW.r2 (hs'.get rfl) (hs'.get rfl) ?_);have:=hq hp;unfold KJ at this;rw[if_pos c1]at this;exact this
  ·have c1:¬zp s<0:=λc1=>c (by rw[if_pos c1];decide)
   refine hs0.on λtm' hs'=>thenC.nx (wpS.av hs' zTi rfl rfl ⟨s,zo zJR rfl gh rfl,OM (by omega) ⟨_,rfl,hs'.on λtm2 hs2=>endW.r2 (hs2.get rfl) (hs2.get rfl) ?_⟩⟩)
   have:=hq hp;unfold KJ at this;rw[if_neg c1]at this;exact this
abbrev brd (s:List UInt8) (left:Nat):V:=.agg [.str s,.int .i64 left]
def zMi (s:List UInt8) (left:Nat):H:=((H0.new (.cells (.ls [.str s,.int .i64 left]) ⟨0,120+1,0⟩ true false)).new (.cells (.ls [.str []]) ⟨0,298+1,0⟩ true false)).upd 1 (some (.cells (.ls [.str s]) ⟨0,298+1,0⟩ true false))
def zXg (s:List UInt8) (left:Nat):Tm:=Tb.set (Tb.set (Tb.set (Tb.set (Tb.set (Tb.set (Tb.set (Tb.leaf zB) 0 (brd s left)) 1 (.ptr 0 0)) 2 (.int .i64 0)) 4 (.ptr 0 (0+0))) 5 (.str s)) 6 (.agg [.str s])) 3 (.ptr 1 0)
def zHM:Nat:=(yZ z5z.toList).getD 0
def zHe (s:List UInt8) (left z:Nat):Option (List Qy×St) :=
 wK zA z5z.toList (z8 z5z.toList []) zHM zHM 0 z5z.toList ⟨27,zXg s left,[],zMi s left⟩ [.bool false,.int .i64 z,.int .i64 z,.int .i64 0]
theorem zKk:yZ z5z.toList=some zHM:=by kernel_rfl
theorem zLG (s:List UInt8) (left z:Nat):(zHe s left z).isSome=true:=by kernel_rfl
theorem zLH (s:List UInt8) (left z:Nat):(zHe s left z).map (λx=>x.1.map λq=>(q.1,q.2.2)) =
  some [((305,[tl s]),.bool false),((306,[tl s]),.int .i64 z),((306,[tl s]),.int .i64 z),((250,[.bool (JN (z:Nat) (left:Nat)),.int .i64 10]),.int .i64 0)]:=by kernel_rfl
theorem zPH (s:List UInt8) (left z:Nat):(zHe s left z).map (λx=>(x.2.n,x.2.dfr,zi x.2.tm 2))=some (27,[],.int .i64 0):=by kernel_rfl
theorem zCm {s:List UInt8}{left:Nat}(hs:s.length<=2000) (hl:(left:Int)<=zp s) (hq:Q (.int .i64 0) h):RF P zA 308 [brd s left] h Q:=by
 refine RF.plain ?_ (zj rfl);have hq:∀h':H,Plain (.int .i64 0)/\Q (.int .i64 0) h:=λ_=>⟨ye _ _,hq⟩
 obtain⟨z,hz⟩:∃z:Nat,zp s=z:=⟨(zp s).toNat,by omega⟩;refine yD z0k rfl rfl z2r ⟨by decide,?_⟩;rintro p0 h1 rfl rfl;refine⟨s,zX qh rfl (zZ _ (by decide)) rfl,(show 1<T.top by decide),?_⟩;rintro p3 h4 rfl rfl;refine⟨zMi s left,zk zJR (zZ _ (show 1<T.top by decide)) rfl (oJ _) rfl rfl,?_⟩;obtain⟨⟨qs,s'⟩,e⟩:=Option.isSome_iff_exists.1 (zLG s left z);have k:=qs_at e (zLH _ _ _);have es:=zPH s left z;rw[e]at es;obtain⟨q0,q1,q2,q3,rfl⟩:∃q0 q1 q2 q3,qs=[q0,q1,q2,q3]:=zXM (by have:=congrArg List.length k;simpa using this);simp only[List.map_cons,List.map_nil,List.cons.injEq,oB,and_true]at k;obtain⟨⟨k0,v0⟩,⟨k1,v1⟩,⟨k2,v2⟩,⟨k3,v3⟩⟩:=k;obtain⟨⟨f0,a0⟩,⟨w0,x0⟩⟩:=q0;obtain⟨⟨f1,a1⟩,⟨w1,x1⟩⟩:=q1;obtain⟨⟨f2,a2⟩,⟨w2,x2⟩⟩:=q2;obtain⟨⟨f3,a3⟩,⟨w3,x3⟩⟩:=q3;simp only at k0 v0 k1 v1 k2 v2 k3 v3;obtain⟨rfl,rfl⟩:=k0;obtain⟨rfl,rfl⟩:=k1;obtain⟨rfl,rfl⟩:=k2;obtain⟨rfl,rfl⟩:=k3;subst v0 v1 v2 v3;refine wpDr.ans zKk e ?_ ?_ ?_
 ·intro q hq
  simp only[od,List.not_mem_nil,or_false]at hq;rcases hq with rfl|rfl|rfl|rfl
  ·refine RF.same (zIo ⟨?_,rfl⟩)
   rw[decide_eq_false (by omega)]
  ·exact RF.same (OM (by omega) ⟨by rw[hz],rfl⟩)
  ·exact RF.same (OM (by omega) ⟨by rw[hz],rfl⟩)
  ·refine RF.same (j5 ⟨?_,rfl⟩)
   rw[yg,decide_eq_false (by omega)];rfl
 ·intro a ha b hb hab
  simp only[od,List.not_mem_nil,or_false]at ha hb;rcases ha with rfl|rfl|rfl|rfl<;>rcases hb with rfl|rfl|rfl|rfl<;>first|rfl|(simp at hab)
 ·obtain⟨n,tm,d,hp⟩:=s'
  simp only[oZ,oA,oB]at es;obtain⟨rfl,rfl,g2⟩:=es;have hs0:Has tm [(2,.int .i64 0)]:=⟨g2,trivial⟩;exact wpS.av hs0 zTz rfl rfl (hs0.on λtm' hs'=>endW.r1 (hs'.get rfl) (hq hp))
def oBk (s:List UInt8) (left:Nat):O:=.cells (.ls [.str s,.int .i64 left]) ⟨0,360+1,0⟩ true false
theorem zBb (s:List UInt8) (left n:Nat):wQ s left (n+1)=2*wQ s left n+(if n<left then jq s (left-1-n) else 0):=rfl
theorem zKp {s:List UInt8}{p left n:Nat}(hg:h.get p=some (oBk s left)) (hs:s.length<=2000) (hl:left<=8*s.length) (hn:n<=32) (hq:Q (.int .u64 (wQ s left n:Nat)) h) :
  RF P zA 309 [.ptr p 0,.int .i64 n] h Q:=by
 refine yD z0l rfl rfl z2s (Has.nil.on λtm hs0=>?_);refine wpC.round (λk tm h'=>∃i:Nat,i<=n/\k=n-i/\h'=h/\Has tm [(9,.int .i64 i),(8,.int .i64 n),(5,.int .u64 (wQ s left i:Nat)),(0,.ptr p 0)]) n ⟨0,by omega,rfl,rfl,hs0.sub rfl⟩ ?_
 rintro k tm h' ⟨i,hi,rfl,rfl,hs1⟩;have hb:=XX s left i;have hp32:2^i<=2^32:=Nat.pow_le_pow_right (by decide) (by omega);have e:zH ((i:Int)+1)=((i+1:Nat):Int):=by rw[zD (by omega) (by omega)];rfl
 have el:zH (zH ((left:Int)-1)-(i:Int))=(left:Int)-1-i:=by
  rw[zD (n:=(left:Int)-1) (by omega) (by omega),zD (by omega) (by omega)]
 refine wpC.av hs1 zSh rfl rfl ⟨λc=>?_,λc=>hs1.on λtm' hs'=>?_⟩
 rotate_left
 ·have hin:i=n:=by omega
  subst hin;refine thenC.left (wpS.av hs' zUA rfl rfl (hs'.on λtm2 hs2=>?_));exact endW.r1 (hs2.get rfl) hq
 have hin:i<n:=by omega
 have hp31:2^i<=2^31:=Nat.pow_le_pow_right (by decide) (by omega);refine⟨((wQ s left i*2^1:Nat):Int),Zq (n:=1) (by decide) (by omega),.ptr p 0,h',rfl,?_⟩;show ∃x5,zK zA 3 h' (.ptr p (0+1))=some (.int .i64 x5)/\_;refine⟨left,zX zb rfl hg rfl,λc2=>⟨.ptr p 0,h',rfl,?_⟩,λc2=>hs1.on λtm' hs'=>?_⟩
 ·rw[el]at c2
  have hlt:i<left:=by omega
  have hi8:left-1-i<8*s.length:=by omega
  have hsb:=JB s (left-1-i);show ∃l10,zK zA 298 h' (.ptr p (0+0))=some (.agg [.str l10])/\_;refine⟨s,zo zJR rfl hg rfl,?_⟩;rw[el,show(left:Int)-1-i=((left-1-i:Nat):Int)by omega];refine zWt hi8 (by omega) ⟨_,rfl,((wQ s left (i+1):Nat):Int),?_,hs1.on λtm' hs'=>?_⟩
  ·rw[zIv (by omega) (by omega),Nat.or_comm,zAR (a:=jq s (left-1-i)) (i:=1) (by omega),zBb,if_pos hlt]
   congr 3
   omega
  ·refine⟨rfl,rfl,n-(i+1),by omega,i+1,by omega,rfl,rfl,?_⟩
   rw[<-e];exact hs'.sub rfl
 ·rw[el]at c2
  have hz:wQ s left (i+1)=wQ s left i*2^1:=by rw[zBb,if_neg (by omega)];omega
  refine⟨rfl,rfl,n-(i+1),by omega,i+1,by omega,rfl,rfl,?_⟩;rw[hz,<-e];exact hs'.sub rfl
def KN (s:List UInt8) (left:Nat):H:=H0.new (.cells (.ls [.str s,.int .i64 left]) ⟨0,120+1,0⟩ true false)
abbrev Xo (a b:Int):O:=.cells (.ls [.int .i64 a,.int .i64 b]) ⟨0,24+1,0⟩ true false
theorem zGo (s:List UInt8) (left:Nat) (a b:Int):zF zA 343 2 [(0,.int .i64 a),(1,.int .i64 b)] (KN s left)=some (.slice 1 0 2 (.exact 2),(KN s left).new (Xo a b)):=by kernel_rfl
def KO (s:List UInt8) (left:Nat):H:=(KN s left).new (.cells (.ls [.str [],.int .i64 0]) ⟨0,120+1,0⟩ true false)
theorem O7 (s:List UInt8) (left:Nat) (a b:Int):zF zA 343 2 [(0,.int .i64 a),(1,.int .i64 b)] (KO s left)=some (.slice 2 0 2 (.exact 2),(KO s left).new (Xo a b)):=by kernel_rfl
theorem zHl {b:Nat}{x y:Int}(hb:b<h.nx) (hg:h.get b=some (Xo x y)):Sl h (.slice b 0 2 (.exact 2)) 1 [x,y].length ([x,y].map λn=>V.int .i64 n) :=
 ⟨rfl,.inr ⟨b,0,_,_,_,_,_,rfl,hb,hg,λi hi=>by
  rcases i with _|_|i
  ·rfl
  ·rfl
  ·exact absurd hi (by show ¬i+1+1<2*1;omega)⟩⟩
theorem zOA {s:List UInt8}{left n:Nat}(hs:s.length<=2000) (hl:(left:Int)<=zp s) (hn:n<=32) (hq:Q (.tuple [.int .u64 (wQ s left n:Nat),.int .i64 0]) h):RF P zA 278 [brd s left,.int .i64 n] h Q:=by
 refine RF.plain ?_ (zj rfl);have hz:=XY s;refine yD z02 rfl rfl z29 ⟨by decide,?_⟩;rintro p0 h1 rfl rfl;have g1:(KN s left).get 0=some (.cells (.ls [.str s,.int .i64 left]) ⟨0,120+1,0⟩ true false):=zZ _ (by decide);have g2:((KN s left).new (Xo 0 0)).get 1=some (Xo 0 0):=zZ _ (show 1<T.top by decide);have g3:((KN s left).new (Xo 0 0)).get 0=some (.cells (.ls [.str s,.int .i64 left]) ⟨0,120+1,0⟩ true false):=(yQ _ (show 1<T.top by decide) (show 0<1 by decide)).trans g1;refine⟨s,left,zo jI rfl g1 rfl,zCm hs hl ⟨0,rfl,λc=>by omega,λ_=>⟨λc=>by omega,λ_=>j5 ⟨0,rfl,_,_,zGo s left 0 0,qP (zHl (show 1<2 by decide) g2) (by decide) ⟨0,rfl,Has.nil.on λtm hs0=>?_⟩⟩⟩⟩⟩
 refine wpS.av hs0 zTn rfl rfl ⟨λc=>absurd rfl c,λ_=>hs0.on λtm1 hs1=>thenC.nx (hs1.sealK λtm2 hs2=>?_)⟩
 refine wpS.av hs2 zTo rfl rfl ?_;show ∃l2,zK zA 9 ((KN s left).new (Xo 0 0)) (.ptr 0 (0+0))=some (.str l2)/\_;refine⟨s,zX qh rfl g3 rfl,?_⟩;show ∃x5,zK zA 3 ((KN s left).new (Xo 0 0)) (.ptr 0 (0+1))=some (.int .i64 x5)/\_;refine⟨left,zX zb rfl g3 rfl,(show 2<T.top by decide),?_⟩;rintro p6 h7 rfl e7;obtain⟨n7,x7,g7⟩:=zx e7 (show 2<T.top by decide);refine zKp g7 hs (by omega) hn ⟨_,rfl,hs2.on λtm3 hs3=>endW.r2 (hs3.get rfl) (hs3.get rfl) ⟨zd rfl,hq⟩⟩
def tkB (s:List UInt8) (left n:Nat):V:=if n<=left then .tuple [brd s (left-n),.int .u64 (wQ s left n:Nat),.int .i64 0] else .tuple [.agg [.str [],.int .i64 0],.int .u64 0,.int .i64 5]
theorem zKz (s:List UInt8) (left n:Nat):Plain (tkB s left n):=by
 unfold tkB;split<;>exact zd rfl
theorem zP1 {s:List UInt8}{left n:Nat}(hs:s.length<=2000) (hl:(left:Int)<=zp s) (hn:n<=32) (hq:Q (tkB s left n) h):RF P zA 215 [brd s left,.int .i64 n] h Q:=by
 refine RF.plain ?_ (zj rfl);have hq:∀h':H,Plain (tkB s left n)/\Q (tkB s left n) h:=λ_=>⟨zKz _ _ _,hq⟩
 have hz:=XY s;refine yD zZu rfl rfl z2B ⟨by decide,?_⟩;rintro p0 h1 rfl rfl;refine⟨(show 1<T.top by decide),?_⟩;rintro p2 h3 rfl rfl;have g0:(KO s left).get 0=some (.cells (.ls [.str s,.int .i64 left]) ⟨0,120+1,0⟩ true false):=(yQ _ (show 1<T.top by decide) (show 0<1 by decide)).trans (zZ _ (by decide));have g1:(KO s left).get 1=some (.cells (.ls [.str [],.int .i64 0]) ⟨0,120+1,0⟩ true false):=zZ _ (show 1<T.top by decide);have k0:∀a b,((KO s left).new (Xo a b)).get 0=some (.cells (.ls [.str s,.int .i64 left]) ⟨0,120+1,0⟩ true false):=λa b=>(yQ _ (show 2<T.top by decide) (show 0<2 by decide)).trans g0
 have k1:∀a b,((KO s left).new (Xo a b)).get 1=some (.cells (.ls [.str [],.int .i64 0]) ⟨0,120+1,0⟩ true false):=λa b=>(yQ _ (show 2<T.top by decide) (show 1<2 by decide)).trans g1
 have k2:∀a b,((KO s left).new (Xo a b)).get 2=some (Xo a b):=λa b=>zZ _ (show 2<T.top by decide)
 refine⟨s,left,zo jI rfl g0 rfl,zOA hs hl hn ⟨_,_,rfl,left,zX zb rfl g0 rfl,λc=>?_,λc=>?_⟩⟩
 ·have hlt:¬n<=left:=by omega
  unfold tkB at hq;rw[if_neg hlt]at hq;refine j5 ⟨5,rfl,_,_,O7 s left 0 5,qP (zHl (show 2<3 by decide) (k2 0 5)) (by decide) ⟨5,rfl,λ_=>?_,λg=>absurd (show(5:Int)≠0 by decide) g⟩⟩
  exact⟨_,zk jI (k1 0 5) rfl (oJ _) rfl rfl,endL.ok (leaveL.cell (zo jI rfl (zN _ (show 1<T.top by decide)) rfl) rfl) (hq H0)⟩
 ·have hle:n<=left:=by omega
  unfold tkB at hq;rw[if_pos hle]at hq;refine j5 ⟨0,rfl,_,_,O7 s left 0 0,qP (zHl (show 2<3 by decide) (k2 0 0)) (by decide) ⟨0,rfl,λg=>absurd rfl g,λ_=>?_⟩⟩
  have ew:zH ((left:Int)-n)=((left-n:Nat):Int):=by rw[zD (by omega) (by omega)];omega
  refine⟨left,zX zb rfl (k0 0 0) rfl,?_⟩;rw[ew];obtain⟨h21,e21,g21,k21⟩:∃h21,zf zA 3 ((KO s left).new (Xo 0 0)) (.ptr 0 (0+1)) (.int .i64 ((left-n:Nat):Int))=some h21/\h21.get 0=some (.cells (.ls [.str s,.int .i64 ((left-n:Nat):Int)]) ⟨0,120+1,0⟩ true false)/\h21.get 1=some (.cells (.ls [.str [],.int .i64 0]) ⟨0,120+1,0⟩ true false) :=
   ⟨_,zk zb (k0 0 0) rfl (oJ _) rfl rfl,zN _ (by decide),(zP _ (by decide) (by decide)).trans (k1 0 0)⟩
  exact⟨h21,e21,s,((left-n:Nat):Int),zo jI rfl g21 rfl,_,zk jI k21 rfl (oJ _) rfl rfl,endL.ok (leaveL.cell (zo jI rfl (zN _ (show 1<T.top by decide)) rfl) rfl) (hq H0)⟩
def rdB (s:List UInt8):V:=if zp s<0 then .tuple [.agg [.str [],.int .i64 0],.int .i64 22] else .tuple [.agg [.str s,.int .i64 (zp s)],.int .i64 0]
theorem zKx (s:List UInt8):Plain (rdB s):=by
 unfold rdB;split<;>exact zd rfl
theorem zPM {s:List UInt8}(hs:s.length<=2000) (hq:Q (rdB s) h):RF P zA 213 [.str s] h Q:=by
 refine RF.plain ?_ (zj rfl);have hq:∀h':H,Plain (rdB s)/\Q (rdB s) h:=λ_=>⟨zKx _,hq⟩
 refine yD zZs rfl rfl z1z ⟨by decide,?_⟩;rintro p0 h1 rfl e1;obtain⟨n1,x1,g1⟩:=zx e1 (by decide);refine zE2 hs ?_;unfold KJ;unfold rdB at hq;by_cases c:zp s<0
 ·rw[if_pos c]at hq ⊢
  exact⟨0,22,rfl,λ_=>⟨_,zk jI g1 rfl (oJ _) rfl rfl,endL.ok (leaveL.cell (zo jI rfl (zN _ (by decide)) rfl) rfl) (hq H0)⟩,λg=>absurd (show(22:Int)≠0 by decide) g⟩
 ·rw[if_neg c]at hq ⊢
  exact⟨zp s,0,rfl,λg=>absurd rfl g,λ_=>⟨_,zk jI g1 rfl (oJ _) rfl rfl,endL.ok (leaveL.cell (zo jI rfl (zN _ (by decide)) rfl) rfl) (hq H0)⟩⟩
def kK (l:List Int):Bool:=l.all λx=>decide (0<=x) && decide (x<=11)
def cnt (l:List Int):Nat:=(l.filter λx=>decide (x≠0)).length
def zKd (l:List Int):V:=if kK l=true then .tuple [.int .i64 (cnt l:Nat),.bool true] else .tuple [.int .i64 0,.bool false]
theorem qq (l m:List Int):kK (l++m)=(kK l && kK m):=List.all_append ..
theorem kb (l m:List Int):cnt (l++m)=cnt l+cnt m:=by unfold cnt;rw[List.filter_append,oU]
theorem JZ (l:List Int):cnt l<=l.length:=List.length_filter_le _ _
theorem zBr {v:V}{l:List Int}(sl:Sl h v 1 l.length (zJ l)) (hl:l.length<4611686018427387904) (hq:Q (zKd l) h):RF P zA 142 [v] h Q:=by
 refine yD zZ9 rfl rfl z1g ⟨_,sl.len zO rfl,Has.nil.on λtm hs=>?_⟩
 refine wpC.round (λk tm h'=>∃i:Nat,i<=l.length/\k=l.length-i/\h'=h/\kK (l.take i)=true/\Has tm [(8,.int .i64 i),(7,.int .i64 l.length),(6,v),(2,.int .i64 (cnt (l.take i):Nat)),(3,.bool false)]) l.length ⟨0,by omega,by omega,rfl,by simp[kK],hs.sub rfl⟩ ?_
 rintro k tm h' ⟨i,h1,rfl,rfl,h2,hs⟩;refine wpC.av hs zSS rfl rfl ⟨λc=>?_,λc=>hs.on λtm' hs'=>?_⟩
 ·have hi:i<l.length:=by omega
  have hg:l[i]? = some l[i]:=oO hi;obtain⟨b,o,e1,e2⟩:=sl.at1 (u:=.int .i64 l[i]) hi zO rfl zb rfl rfl (by rw[oW,hg];rfl);have ht:l.take (i+1)=l.take i++[l[i]]:=by rw[List.take_add_one,hg];rfl
  have hall:∀x,x∈[l[i]]->¬(0<=x/\x<=11)->zKd l = .tuple [.int .i64 0,.bool false]:=λx hx hn=>by
   unfold zKd;rw[if_neg];intro g;rw[<-List.take_append_drop (i+1) l,qq,ht,qq]at g;simp only[oG]at g;have:=List.all_eq_true.1 g.1.2 x hx;simp only[oG,decide_eq_true_eq]at this;exact hn this
  generalize l[i]=x at hg e2 ht hall;have e:zH ((i:Int)+1)=((i+1:Nat):Int):=by rw[zD (by omega) (by omega)];rfl
  refine⟨b,o,e1,x,e2,λc2=>hs.on λtm' hs'=>?_,λc2=>⟨λc3=>hs.on λtm' hs'=>?_,λc3=>hs.on λtm' hs'=>?_⟩⟩
  ·rw[hall x (List.mem_singleton.2 rfl) (λg=>by omega)]at hq
   exact thenC.rt (thenC.rt (endW.r2 (hs'.get rfl) (hs'.get rfl) hq))
  ·rw[hall x (List.mem_singleton.2 rfl) (λg=>by omega)]at hq
   exact thenC.rt (thenC.rt (endW.r2 (hs'.get rfl) (hs'.get rfl) hq))
  ·have hb:kK (l.take (i+1))=true:=by
    rw[ht,qq,h2];simp only[kK,List.all_cons,List.all_nil,Bool.and_true,Bool.true_and,oG,decide_eq_true_eq];omega
   have hc:=JZ (l.take i);rw[List.length_take]at hc;refine wpS.av hs' zTD rfl rfl ⟨λc4=>hs'.on λtm2 hs2=>?_,λc4=>hs'.on λtm2 hs2=>?_⟩
   ·refine thenC.nx (wpS.av hs2 zJX rfl rfl (hs2.on λtm3 hs3=>hs3.slt λtm4 hs4=>⟨rfl,rfl,l.length-(i+1),by omega,i+1,by omega,rfl,rfl,hb,?_⟩))
    have ec:zH (((cnt (l.take i):Nat):Int)+1)=((cnt (l.take (i+1)):Nat):Int):=by
     rw[zD (by omega) (by omega),ht,kb];have:cnt [x]=1:=by simp[cnt,c4]
     omega
    rw[<-ec,<-e];exact hs4.sub rfl
   ·refine thenC.nx (wpS.av hs2 zJX rfl rfl (hs2.on λtm3 hs3=>hs3.slt λtm4 hs4=>⟨rfl,rfl,l.length-(i+1),by omega,i+1,by omega,rfl,rfl,hb,?_⟩))
    have ec:cnt (l.take (i+1))=cnt (l.take i):=by
     rw[ht,kb];have:x=0:=by omega
     subst this;rfl
    rw[ec,<-e];exact hs4.sub rfl
 ·have hi:i=l.length:=by omega
  subst hi;rw[List.take_length]at h2 hs';unfold zKd at hq;rw[if_pos h2]at hq;refine thenC.left (wpS.av hs' zTE rfl rfl (hs'.on λtm2 hs2=>?_));exact endW.r2 (hs2.get rfl) (hs2.get rfl) hq
def Kr (x:Int):Nat:=if x≠0 then 2^(x.toNat-1) else 0
def xM (l:List Int):Nat:=(l.map Kr).sum
theorem zPo (l m:List Int):xM (l++m)=xM l+xM m:=by unfold xM;rw[List.map_append,List.sum_append]
theorem zJ6 {x:Int}(h:x<=11):Kr x<=1024:=by
 unfold Kr;split
 ·exact oQ (Nat.pow_le_pow_right (by decide) (show x.toNat-1<=10 by omega)) (by decide)
 ·omega
theorem zDu:∀{l:List Int},kK l=true->xM l<=1024*l.length
 | [],_=>by simp[xM]
 | x::l,h=>by
  unfold kK at h;rw[List.all_cons,oG,oG]at h;have h1:=zJ6 (of_decide_eq_true h.1.2);have h2:=zDu (l:=l) h.2;have:xM (x::l)=Kr x+xM l:=by simp[xM]
  rw[this,oV];omega
theorem zXV {x:Int}(h1:1<=x) (h2:x<=11) (hq:Q (.int .i64 (Kr x:Nat)) h):RF P zA 144 [.int .i64 x] h Q:=by
 have e:zT .u64 (zH (x-1))=((x.toNat-1:Nat):Int):=by
  rw[zD (by omega) (by omega),show x-1=((x.toNat-1:Nat):Int)by omega,zW (by omega)]
 have hp:2^(x.toNat-1)<=2^10:=Nat.pow_le_pow_right (by decide) (by omega);refine yD zZa rfl rfl z1h ⟨((1*2^(x.toNat-1):Nat):Int),by rw[e];exact yC (a:=1) (by omega) (by omega),?_⟩;unfold Kr at hq;rw[if_pos (by omega)]at hq
 rwa [Nat.one_mul]
theorem zP5 {v:V}{l:List Int}(sl:Sl h v 1 l.length (zJ l)) (hl:l.length<=1000) (hin:kK l=true) (hq:Q (.int .i64 (xM l:Nat)) h) :
  RF P zA 143 [v,.func (.func 144) [] []] h Q:=by
 refine yD zUa rfl rfl zVU ⟨_,sl.len zO rfl,Has.nil.on λtm hs=>?_⟩
 refine wpC.round (λk tm h'=>∃i:Nat,i<=l.length/\k=l.length-i/\h'=h/\Has tm [(9,.int .i64 i),(8,.int .i64 l.length),(7,v),(4,.int .i64 (xM (l.take i):Nat)),(1,.func (.func 144) [] [])]) l.length ⟨0,by omega,by omega,rfl,hs.sub rfl⟩ ?_
 rintro k tm h' ⟨i,h1,rfl,rfl,hs⟩;refine wpC.av hs zJW rfl rfl ⟨λc=>?_,λc=>hs.on λtm' hs'=>?_⟩
 ·have hi:i<l.length:=by omega
  have hg:l[i]? = some l[i]:=oO hi;obtain⟨b,o,e1,e2⟩:=sl.at1 (u:=.int .i64 l[i]) hi zO rfl zb rfl rfl (by rw[oW,hg];rfl);have ht:l.take (i+1)=l.take i++[l[i]]:=by rw[List.take_add_one,hg];rfl
  have hr:0<=l[i]/\l[i]<=11:=by
   have:=List.all_eq_true.1 hin l[i] (oS hi);simpa using this
  generalize l[i]=x at hg e2 ht hr;have e:zH ((i:Int)+1)=((i+1:Nat):Int):=by rw[zD (by omega) (by omega)];rfl
  have hw:xM (l.take (i+1))=xM (l.take i)+Kr x:=by rw[ht,zPo];simp[xM]
  have hb:xM (l.take i)<=1024*i:=by
   have hh:kK (l.take i)=true:=by
    have:=hin;rw[<-List.take_append_drop i l,qq,oG]at this;exact this.1
   have:=zDu hh;rw[List.length_take]at this;omega
  have hx:=zJ6 hr.2;refine⟨b,o,e1,x,e2,λc2=>?_,λc2=>hs.on λtm' hs'=>⟨rfl,rfl,l.length-(i+1),by omega,i+1,by omega,rfl,rfl,?_⟩⟩
  ·show RF P zA 144 [.int .i64 x] h' _
   refine zXV (by omega) hr.2 ?_;refine⟨((Kr x:Nat):Int),rfl,hs.on λtm' hs'=>⟨rfl,rfl,l.length-(i+1),by omega,i+1,by omega,rfl,rfl,?_⟩⟩
   have ew:zH (((xM (l.take i):Nat):Int)+(Kr x:Nat))=((xM (l.take (i+1)):Nat):Int):=by rw[zD (by omega) (by omega),hw];rfl
   rw[<-ew,<-e];exact hs'.sub rfl
  ·have:xM (l.take (i+1))=xM (l.take i):=by
    rw[hw];have:x=0:=by omega
    subst this;rfl
   rw[this,<-e];exact hs'.sub rfl
 ·have hi:i=l.length:=by omega
  subst hi;rw[List.take_length]at hs';refine thenC.left (wpS.av hs' zJY rfl rfl (hs'.on λtm2 hs2=>?_));exact endW.r1 (hs2.get rfl) hq
def wD (l:List Int):Nat:=2^zQ (xM l)-xM l
def wok (l:List Int):Prop:=cnt l≠0/\zQ (xM l)<=11/\wD l=2^(wD l).log2
instance (l:List Int):Decidable (wok l):=inferInstanceAs (Decidable (_/\_/\_))
def zKc (l:List Int):V :=
 if l.length<1\/255<l.length then .tuple [.int .i64 0,.int .i64 0,.int .i64 4]
 else if kK l=true then
  (if wok l then .tuple [.int .i64 (zQ (wD l):Nat),.int .i64 (zQ (xM l):Nat),.int .i64 0] else .tuple [.int .i64 0,.int .i64 0,.int .i64 21])
 else .tuple [.int .i64 0,.int .i64 0,.int .i64 2]
theorem zAE {v:V}{l:List Int}(sl:Sl h v 1 l.length (zJ l)) (hl:l.length<4611686018427387904) (hq:Q (zKc l) h):RF P zA 82 [v] h Q:=by
 refine yD z66 rfl rfl z7Q ⟨_,sl.len zO rfl,λc=>?_,λc=>⟨_,sl.len zO rfl,λc2=>?_,λc2=>Has.nil.on λtm hs=>?_⟩⟩
 ·unfold zKc at hq
  rw[if_pos (.inl (by omega))]at hq;exact hq
 ·unfold zKc at hq
  rw[if_pos (.inr (by omega))]at hq;exact hq
 unfold zKc at hq;rw[if_neg (by omega)]at hq;refine wpS.av hs zYR rfl rfl (zBr sl hl ?_);unfold zKd;by_cases hin:kK l=true
 ·rw[if_pos hin]at hq ⊢
  have hw:=zDu hin;have hm:zQ (xM l)<=20:=yA (by omega);have hlt:=Zb (xM l);have hp:2^zQ (xM l)<=2^20:=Nat.pow_le_pow_right (by decide) hm;refine⟨(cnt l:Nat),true,rfl,λ_=>zP5 sl (by omega) hin ⟨_,rfl,OA (by omega) ?_⟩,λg=>(by cases g)⟩
  rw[jc];have e1:zT .u64 (max ((zQ (xM l):Nat):Int) 0)=((zQ (xM l):Nat):Int):=by
   rw[show max ((zQ (xM l):Nat):Int) 0=((zQ (xM l):Nat):Int)by omega,zW (by omega)]
  have e2:zH (((1*2^zQ (xM l):Nat):Int)-(xM l:Nat))=((wD l:Nat):Int):=by
   rw[zD (by omega) (by omega)];unfold wD;omega
  have hr1:1<=wD l:=by unfold wD;omega
  have hr2:wD l<=2^20:=by unfold wD;omega
  have e3:zH (((wD l:Nat):Int)-1)=((wD l-1:Nat):Int):=by rw[zD (by omega) (by omega)];omega
  refine⟨_,rfl,((1*2^zQ (xM l):Nat):Int),by rw[e1];exact yC (a:=1) (by omega) (by omega),λc3=>hs.on λtm2 hs2=>?_,λc3=>⟨λc4=>hs.on λtm2 hs2=>?_,λc4=>?_⟩⟩
  ·rw[if_neg (λg:wok l=>g.1 (by omega))]at hq
   exact endW.r3 (hs2.get rfl) (hs2.get rfl) (hs2.get rfl) hq
  ·rw[if_neg (λg:wok l=>by have:=g.2.1;omega)]at hq
   exact endW.r3 (hs2.get rfl) (hs2.get rfl) (hs2.get rfl) hq
  rw[e2];refine⟨λc5=>by omega,λ_=>⟨((wD l &&& (wD l-1):Nat):Int),by rw[e3];exact ZU (by omega) (by omega),λc6=>hs.on λtm2 hs2=>?_,λc6=>hs.on λtm2 hs2=>?_⟩⟩
  ·rw[if_neg (λg:wok l=>c6 (by rw[(zFh (by omega)).2 g.2.2];rfl))]at hq
   exact endW.r3 (hs2.get rfl) (hs2.get rfl) (hs2.get rfl) hq
  ·have hok:wok l:=⟨λg=>c3 (by omega),by omega,(zFh (by omega)).1 (by omega)⟩
   rw[if_pos hok]at hq;refine wpS.av hs2 zYQ rfl rfl (OA (by omega) ⟨_,rfl,hs2.on λtm3 hs3=>?_⟩)
   refine hs3.slt λtm4 hs4=>?_
   refine endW.r3 (hs4.get rfl) (hs4.get rfl) (hs4.get rfl) ?_;rw[jc];exact hq
 ·rw[if_neg hin]at hq ⊢
  refine⟨0,false,rfl,λg=>(by cases g),λ_=>hs.on λtm2 hs2=>endW.r3 (hs2.get rfl) (hs2.get rfl) (hs2.get rfl) hq⟩
def jz (l:List Int):Int:=if l.length<1\/255<l.length then 4 else if kK l=true then (if wok l then 0 else 21) else 2
theorem Xz {v:V}{l:List Int}(sl:Sl h v 1 l.length (zJ l)) (hl:l.length<4611686018427387904) (hq:Q (.int .i64 (jz l)) h):RF P zA 41 [v] h Q:=by
 refine yD z6T rfl rfl z7D (zAE sl hl ?_);unfold zKc;unfold jz at hq;split at hq
 ·rename_i c;rw[if_pos c];exact⟨_,_,_,rfl,hq⟩
 ·rename_i c
  rw[if_neg c];split at hq
  ·rename_i c2
   rw[if_pos c2];split at hq
   ·rename_i c3;rw[if_pos c3];exact⟨_,_,_,rfl,hq⟩
   ·rename_i c3;rw[if_neg c3];exact⟨_,_,_,rfl,hq⟩
  ·rename_i c2;rw[if_neg c2];exact⟨_,_,_,rfl,hq⟩
def pt (x:Int):Int:=if x<0 then 1 else x
def pts (l:List Int):Int:=(l.map pt).sum
theorem qw (l m:List Int):pts (l++m)=pts l+pts m:=by unfold pts;rw[List.map_append,List.sum_append]
theorem zDV (x:Int):pts [x]=pt x:=by simp[pts]
structure GD (log:Nat) (l:List Int):Prop where
 lg:log=5\/log=6
 pos:1<=l.length
 len:l.length<=12
 low:∀x∈l,-1<=x
 last:l.getLast?≠some 0
 pts:pts l=2^log
def stp (log:Nat):Nat:=2^log/2+2^log/8+3
def nxt (log m:Nat):Nat->Nat->Nat
 | 0,p=>p
 | f+1,p=>if p<2^log-m then p else nxt log m f ((p+stp log) % 2^log)
def KR (log m:Nat):Nat->Nat
 | 0=>0
 | k+1=>nxt log m 13 ((KR log m k+stp log) % 2^log)
def Y0:List Int->Nat->Nat->List Int->List Int
 | [],_,_,out=>out
 | p::l,s,n,out=>if p = -1 then Y0 l (s+1) (n-1) (out.set (n-1) s) else Y0 l (s+1) n out
def Xx (log m:Nat) (s:Nat):Nat->Nat->List Int->List Int
 | 0,_,out=>out
 | c+1,k,out=>Xx log m s c (k+1) (out.set (KR log m k) s)
def XH (log m:Nat):List Int->Nat->Nat->List Int->List Int
 | [],_,_,out=>out
 | p::l,s,k,out=>XH log m l (s+1) (k+p.toNat) (Xx log m s p.toNat k out)
def yf (l:List Int):Nat:=(l.filter λx=>decide (x = -1)).length
def yi (log:Nat) (l:List Int):List Int:=XH log (yf l) l 0 0 (Y0 l 0 (2^log) (List.replicate (2^log) 0))
def Oh (log m:Nat):Bool :=
 ((List.range 64).all λp=>decide (nxt log m 13 ((p+stp log) % 2^log)<2^log-m)) &&
 ((List.range (2^log-m)).all λq=>(List.range (2^log-m)).any λk=>decide (KR log m k=q))
theorem zGt:((List.range 13).all λm=>Oh 5 m && Oh 6 m)=true:=by decide +kernel
theorem zBg {log m:Nat}(hl:log=5\/log=6) (hm:m<=12):Oh log m=true:=by
 have h:=List.all_eq_true.1 zGt m (List.mem_range.2 (by omega));rw[oG]at h;rcases hl with rfl|rfl
 ·exact h.1
 ·exact h.2
theorem xD {log:Nat}(hl:log=5\/log=6):32<=2^log/\2^log<=64:=by rcases hl with rfl|rfl<;>decide
theorem zXS {log m p:Nat}(hl:log=5\/log=6) (hm:m<=12) (hp:p<2^log):nxt log m 13 ((p+stp log) % 2^log)<2^log-m:=by
 have h:=zBg hl hm;unfold Oh at h;rw[oG]at h;exact of_decide_eq_true (List.all_eq_true.1 h.1 p (List.mem_range.2 (by have:=xD hl;omega)))
theorem Jd {log m:Nat}(hl:log=5\/log=6) (hm:m<=12) (k:Nat):KR log m k<2^log-m:=by
 have hp:=xD hl;cases k with
 | zero=>show 0<_;omega
 | succ k=>exact zXS hl hm (by have:=Jd hl hm k;omega)
theorem zR8 {log m q:Nat}(hl:log=5\/log=6) (hm:m<=12) (hq:q<2^log-m):∃k,k<2^log-m/\KR log m k=q:=by
 have h:=zBg hl hm;unfold Oh at h;rw[oG]at h;obtain⟨k,h1,h2⟩:=List.any_eq_true.1 (List.all_eq_true.1 h.2 q (List.mem_range.2 hq));exact⟨k,List.mem_range.1 h1,of_decide_eq_true h2⟩
theorem Zi:∀{l:List Int}{s n:Nat}{out:List Int},(Y0 l s n out).length=out.length
 | [],_,_,_=>rfl
 | p::l,s,n,out=>by
  unfold Y0;split
  ·rw[Zi,oh]
  ·exact Zi
theorem Xy {log m s:Nat}:∀{c k:Nat}{out:List Int},(Xx log m s c k out).length=out.length
 | 0,_,_=>rfl
 | c+1,k,out=>by unfold Xx;rw[Xy,oh]
theorem zFn {log m:Nat}:∀{l:List Int}{s k:Nat}{out:List Int},(XH log m l s k out).length=out.length
 | [],_,_,_=>rfl
 | p::l,s,k,out=>by unfold XH;rw[zFn,Xy]
theorem Zs (log:Nat) (l:List Int):(yi log l).length=2^log:=by unfold yi;rw[zFn,Zi,List.length_replicate]
theorem kR (p:Int) (l:List Int):yf (p::l)=(if p = -1 then 1 else 0)+yf l:=by
 unfold yf;rw[List.filter_cons];by_cases h:p = -1
 ·rw[if_pos h,if_pos (by simp[h]),oV];omega
 ·rw[if_neg h,if_neg (by simp[h])];omega
theorem zAP (l:List Int):yf l<=l.length:=List.length_filter_le _ _
def zAO (l:List Int):Nat:=(l.map Int.toNat).sum
theorem YM (p:Int) (l:List Int):zAO (p::l)=p.toNat+zAO l:=by simp[zAO]
theorem xh (p:Int) (l:List Int):pts (p::l)=pt p+pts l:=by simp[pts]
theorem xy:∀{l:List Int},(∀x∈l,-1<=x)->((zAO l+yf l:Nat):Int)=pts l
 | [],_=>rfl
 | p::l,h=>by
  have h1:=xy (l:=l) λx hx=>h x (oH _ hx)
  have h2:=h p (List.mem_cons_self ..);rw[YM,kR,xh];unfold pt;by_cases c:p = -1
  ·rw[if_pos c,if_pos (by omega)]
   have:p.toNat=0:=by omega
   omega
  ·rw[if_neg c,if_neg (by omega)]
   omega
theorem GD.cells {log:Nat}{l:List Int}(g:GD log l):zAO l+yf l=2^log:=by
 have h:=xy g.low;rw[g.pts]at h;have:((2^log:Nat):Int)=2^log:=by simp
 omega
def Occ (l:List Int) (x:Int):Prop:=∃s:Nat,x=s/\∃p,l[s]? = some p/\p≠0
theorem zA0 {all:List Int}:∀{l:List Int}{s n:Nat}{out:List Int},all.drop s=l->yf l<=n->n<=out.length->(∀i x,n<=i->out[i]? = some x->Occ all x)->∀i x,n-yf l<=i->(Y0 l s n out)[i]? = some x->Occ all x
 | [],s,n,out,_,_,_,h=>λi x hi hx=>h i x (by have:yf []=0:=rfl;omega) hx
 | p::l,s,n,out,hd,hr,hn,h=>by
  have hd2:all.drop (s+1)=l:=by rw[<-List.drop_drop,hd];rfl
  have hs:all[s]? = some p:=by
   have:=congrArg (λl:List Int=>l[0]?) hd;rw[List.getElem?_drop]at this;simpa using this
  rw[kR]at hr ⊢;unfold Y0;split
  ·rename_i c
   rw[if_pos c]at hr;refine λi x hi hx=>zA0 (n:=n-1) hd2 (by omega) (by rw[oh];omega) (λi x hi hx=>?_) i x (by omega) hx
   by_cases e:i=n-1
   ·subst e
    rw[List.getElem?_set_self (by omega)]at hx;cases hx;exact⟨s,rfl,p,hs,by omega⟩
   ·rw[oY (by omega)]at hx
    exact h i x (by omega) hx
  ·rename_i c
   rw[if_neg c]at hr;exact λi x hi hx=>zA0 hd2 (by omega) hn h i x (by omega) hx
theorem zFl {all:List Int}{log m s:Nat}{p:Int}(hl:log=5\/log=6) (hm:m<=12) (hs:all[s]? = some p) (hp:p≠0):∀{c k:Nat}{out:List Int},out.length=2^log ->
  (∀i x,2^log-m<=i->out[i]? = some x->Occ all x)->(∀j x,j<k->out[KR log m j]? = some x->Occ all x) ->
  (∀i x,2^log-m<=i->(Xx log m s c k out)[i]? = some x->Occ all x)/\(∀j x,j<k+c->(Xx log m s c k out)[KR log m j]? = some x->Occ all x)
 | 0,k,out,_,h1,h2=>⟨h1,h2⟩
 | c+1,k,out,ho,h1,h2=>by
  unfold Xx;have hk:=Jd hl hm k;have r:=zFl hl hm hs hp (c:=c) (k:=k+1) (out:=out.set (KR log m k) s) (by rw[oh];exact ho) (λi x hi hx=>?_) (λj x hj hx=>?_)
  ·exact⟨r.1,λj x hj hx=>r.2 j x (by omega) hx⟩
  ·rw[oY (by omega)]at hx
   exact h1 i x hi hx
  ·by_cases e:KR log m j=KR log m k
   ·rw[e,List.getElem?_set_self (by omega)]at hx
    cases hx;exact⟨s,rfl,p,hs,hp⟩
   ·rw[oY (λq=>e q.symm)]at hx
    by_cases e2:j=k
    ·exact absurd (by rw[e2]) e
    ·exact h2 j x (by omega) hx
theorem zAY {all:List Int}{log m:Nat}(hl:log=5\/log=6) (hm:m<=12):∀{l:List Int}{s k:Nat}{out:List Int},all.drop s=l->out.length=2^log ->
  (∀i x,2^log-m<=i->out[i]? = some x->Occ all x)->(∀j x,j<k->out[KR log m j]? = some x->Occ all x) ->
  (∀i x,2^log-m<=i->(XH log m l s k out)[i]? = some x->Occ all x)/\(∀j x,j<k+zAO l->(XH log m l s k out)[KR log m j]? = some x->Occ all x)
 | [],s,k,out,_,_,h1,h2=>⟨h1,h2⟩
 | p::l,s,k,out,hd,ho,h1,h2=>by
  have hd2:all.drop (s+1)=l:=by rw[<-List.drop_drop,hd];rfl
  have hs:all[s]? = some p:=by
   have:=congrArg (λl:List Int=>l[0]?) hd;rw[List.getElem?_drop]at this;simpa using this
  unfold XH;rw[YM];by_cases c:p=0
  ·subst c
   show(∀i x,_->(XH log m l (s+1) (k+0) out)[i]? = some x->_)/\(∀j x,j<k+(0+zAO l)->(XH log m l (s+1) (k+0) out)[KR log m j]? = some x->_);rw[Nat.zero_add];exact zAY hl hm hd2 ho h1 h2
  ·obtain⟨r1,r2⟩:=zFl hl hm hs c (c:=p.toNat) (k:=k) ho h1 h2
   have r:=zAY hl hm hd2 (by rw[Xy];exact ho) r1 r2;exact⟨r.1,λj x hj hx=>r.2 j x (by omega) hx⟩
theorem JH {log:Nat}{l:List Int}(g:GD log l) {i:Nat}{x:Int}(hx:(yi log l)[i]? = some x):Occ l x:=by
 have hm:yf l<=12:=oQ (zAP l) g.len;have hp:=xD g.lg;have hc:=g.cells;have h1:=zA0 (all:=l) (l:=l) (s:=0) (n:=2^log) (out:=List.replicate (2^log) 0) rfl (by omega) (by rw[List.length_replicate];exact oP _) (λi x hi hx=>by
  rw[og (by rw[List.length_replicate];exact hi)]at hx;cases hx)
 obtain⟨h2,h3⟩:=zAY (all:=l) (l:=l) (s:=0) (k:=0) g.lg hm rfl (by rw[Zi,List.length_replicate]) h1 (λj x hj _=>absurd hj (Nat.not_lt_zero _))
 by_cases c:i<2^log-yf l
 ·obtain⟨k,hk,rfl⟩:=zR8 g.lg hm c
  exact h3 k x (by omega) hx
 ·exact h2 i x (by omega) hx
end Go.Proofs.YtnpeieeomokomaaGreat
