/- TC. No condition. -/
import Derived.Test.YtnpeieeomokomaaGreatYTA
import Derived.Test.YtnpeieeomokomaaGreatYW
set_option maxRecDepth 100000
set_option maxHeartbeats 1000000
noncomputable section
namespace Go.Proofs.YtnpeieeomokomaaGreat
open Go.Sim
variable {h:H}{Q:V->H->Prop}
variable{l:List Int}{s:List UInt8}{log m:Nat}
abbrev tl(s:List UInt8):V:=.agg [.str s]
def zVQ(s:List UInt8):H:=(H0.new (.cells (.ls [.str []]) ⟨0,298+1,0⟩ true false)).upd H0.nx (some (.cells (.ls [.str s]) ⟨0,298+1,0⟩ true false))
def z2C(s:List UInt8):Tm:=Tb.set (Tb.set (Tb.set (Tb.set (Tb.set (Tb.set (Tb.leaf zB) 0 (.str s)) 2 (.int .i64 0)) 3 (.int .i64 0)) 6 (.str s)) 7 (.agg [.str s])) 4 (.ptr H0.nx 0)
def zOO:Nat:=(yb z6i.toList).getD 0
def zJT(s:List UInt8)(z a e:Int):Option (List Qy×St) :=
 wT zA z6i.toList (za z6i.toList []) zOO zOO 0 z6i.toList ⟨22,z2C s,[],zVQ s⟩ [.bool false,.int .i64 0,.int .i64 z,.int .i64 a,.int .i64 e]
theorem zOP:yb z6i.toList=some zOO:=by kernel_rfl
theorem zPd(s:List UInt8)(z a e:Int):(zJT s z a e).isSome=true:=by kernel_rfl
theorem zPe(s:List UInt8)(z a e:Int):(zJT s z a e).map (λx=>x.1.map λq=>(q.1,q.2.2)) =
  some [((305,[tl s]),.bool false),((250,[.bool false,.int .i64 4]),.int .i64 0),((306,[tl s]),.int .i64 z),((250,[.bool (JU z 0),.int .i64 22]),.int .i64 a),((248,[.slice 1 0 2 (.exact 2)]),.int .i64 e)]:=by kernel_rfl
theorem zS4(s:List UInt8)(z a e:Int):((zJT s z a e).bind λx=>(x.1[4]?).map λq=>(q.2.1.nx,q.2.1.get 1))=some (2,some (.cells (.ls [.int .i64 0,.int .i64 a]) ⟨0,24+1,0⟩ true false)):=by kernel_rfl
theorem zS5(s:List UInt8)(z a e:Int):(zJT s z a e).map (λx=>(x.2.n,x.2.dfr,zk x.2.tm 5,zk x.2.tm 4,x.2.heap.get 0))=some (22,[],.int .i64 e,.ptr 0 0,some (.cells (.ls [.str s]) ⟨0,298+1,0⟩ true false)):=by kernel_rfl
theorem _root_.Go.Sim.thenC.rt{K:St->Prop}{R:AX->St->Prop}{s:St}(h:R .ret s):thenC K R .ret s:=h
theorem z7W{α:Type}:∀{l:List α},l.length=5->∃a b c d e,l=[a,b,c,d,e]
 | [a,b,c,d,e],_=>⟨a,b,c,d,e,rfl⟩
theorem zXn{α:Type}:∀{l:List α},l.length=4->∃a b c d,l=[a,b,c,d]
 | [a,b,c,d],_=>⟨a,b,c,d,rfl⟩
def KL(s:List UInt8):V:=if zr s<0 then .tuple [.int .i64 0,.int .i64 22] else .tuple [.int .i64 (zr s),.int .i64 0]
theorem zFm(s:List UInt8):Plain (KL s):=by
 unfold KL;split<;>exact zm rfl
theorem _root_.Go.Sim.qs_at{r:Option (List Qy×St)}{qs:List Qy}{s:St}{l:List ((Nat×List V)×V)}(e:r=some (qs,s))(h:r.map (λx=>x.1.map λq=>(q.1,q.2.2))=some l):qs.map (λq=>(q.1,q.2.2))=l:=by
 subst e;exact Option.some.inj h
theorem zEb(hs:s.length<=2000)(hq:Q (KL s) h):RF P zA 273 [.str s] h Q:=by
 refine RF.plain ?_ (zn rfl);have hq:∀h':H,Plain (KL s)/\Q (KL s) h:=λ_=>⟨zFm _,hq⟩
 refine yK z1A rfl rfl z3J ⟨by decide,?_⟩;rintro p0 h1 rfl rfl;refine⟨zVQ s,zo zJ7 (zZ _ (by decide)) rfl (oJ _) rfl rfl,?_⟩;obtain⟨⟨qs,s'⟩,e⟩:=Option.isSome_iff_exists.1 (zPd s (zr s) (if zr s<0 then 22 else 0) (if zr s<0 then 22 else 0));have k:=qs_at e (zPe _ _ _ _);have eh:=zS4 s (zr s) (if zr s<0 then 22 else 0) (if zr s<0 then 22 else 0);have es:=zS5 s (zr s) (if zr s<0 then 22 else 0) (if zr s<0 then 22 else 0);rw[e]at eh es;obtain⟨q0,q1,q2,q3,q4,rfl⟩:∃q0 q1 q2 q3 q4,qs=[q0,q1,q2,q3,q4]:=by
  exact z7W (by have:=congrArg List.length k;simpa using this)
 simp only[List.map_cons,List.map_nil,List.cons.injEq,oB,and_true]at k;obtain⟨⟨k0,v0⟩,⟨k1,v1⟩,⟨k2,v2⟩,⟨k3,v3⟩,⟨k4,v4⟩⟩:=k;obtain⟨⟨f0,a0⟩,⟨w0,x0⟩⟩:=q0;obtain⟨⟨f1,a1⟩,⟨w1,x1⟩⟩:=q1;obtain⟨⟨f2,a2⟩,⟨w2,x2⟩⟩:=q2;obtain⟨⟨f3,a3⟩,⟨w3,x3⟩⟩:=q3;obtain⟨⟨f4,a4⟩,⟨w4,x4⟩⟩:=q4;simp only at k0 v0 k1 v1 k2 v2 k3 v3 k4 v4;obtain⟨rfl,rfl⟩:=k0;obtain⟨rfl,rfl⟩:=k1;obtain⟨rfl,rfl⟩:=k2;obtain⟨rfl,rfl⟩:=k3;obtain⟨rfl,rfl⟩:=k4;subst v0 v1 v2 v3 v4;refine wpDr.ans zOP e ?_ ?_ ?_
 ·intro q hq
  simp only[od,List.not_mem_nil,or_false]at hq;rcases hq with rfl|rfl|rfl|rfl|rfl
  ·refine RF.same (zJD ⟨?_,rfl⟩)
   rw[decide_eq_false (by omega)]
  ·exact RF.same (jd ⟨rfl,rfl⟩)
  ·exact RF.same (OT (by omega) ⟨rfl,rfl⟩)
  ·refine RF.same (jd ⟨?_,rfl⟩)
   rw[yi];by_cases c:zr s<0
   ·rw[if_pos c,decide_eq_true c];rfl
   ·rw[if_neg c,decide_eq_false c];rfl
  ·simp only[List.getElem?_cons_succ,List.getElem?_cons_zero,Option.bind_some,oZ,oA,oB]at eh
   refine RF.same (qZ (l:=[0,if zr s<0 then 22 else 0]) ⟨rfl,.inr ⟨1,0,_,_,_,_,_,rfl,by rw[eh.1];decide,eh.2,?_⟩⟩ (by simp) ⟨?_,rfl⟩)
   ·intro i hi
    rcases i with _|_|i
    ·rfl
    ·rfl
    ·exact absurd hi (by show ¬i+1+1<2*1;omega)
   ·simp only[wa]
    by_cases c:zr s<0
    ·rw[if_pos c];rfl
    ·rw[if_neg c];rfl
 ·intro a ha b hb hab
  simp only[od,List.not_mem_nil,or_false]at ha hb;rcases ha with rfl|rfl|rfl|rfl|rfl<;>rcases hb with rfl|rfl|rfl|rfl|rfl<;>first|rfl|(simp at hab)
 ·obtain⟨n,tm,d,hp⟩:=s'
  simp only[oZ,oA,oB]at es;obtain⟨rfl,rfl,g5,g4,gh⟩:=es;have hs0:Has tm [(5,.int .i64 (if zr s<0 then 22 else 0)),(4,.ptr 0 0)]:=⟨g5,g4,trivial⟩;refine wpS.av hs0 zUZ rfl rfl ⟨λc=>?_,λc=>?_⟩
  ·have c1:zr s<0:=by
    by_cases c1:zr s<0
    ·exact c1
    ·rw[if_neg c1]at c;exact absurd rfl c
   rw[if_pos c1]at *;refine hs0.on λtm' hs'=>?_
   refine thenC.rt (endW.r2 (hs'.get rfl) (hs'.get rfl) ?_);have:=hq hp;unfold KL at this;rw[if_pos c1]at this;exact this
  ·have c1:¬zr s<0:=λc1=>c (by rw[if_pos c1];decide)
   refine hs0.on λtm' hs'=>thenC.nx (wpS.av hs' zU0 rfl rfl ⟨s,zu zJ7 rfl gh rfl,OT (by omega) ⟨_,rfl,hs'.on λtm2 hs2=>endW.r2 (hs2.get rfl) (hs2.get rfl) ?_⟩⟩)
   have:=hq hp;unfold KL at this;rw[if_neg c1]at this;exact this
abbrev brd(s:List UInt8)(left:Nat):V:=.agg [.str s,.int .i64 left]
def zNN(s:List UInt8)(left:Nat):H:=((H0.new (.cells (.ls [.str s,.int .i64 left]) ⟨0,120+1,0⟩ true false)).new (.cells (.ls [.str []]) ⟨0,298+1,0⟩ true false)).upd 1 (some (.cells (.ls [.str s]) ⟨0,298+1,0⟩ true false))
def zYS(s:List UInt8)(left:Nat):Tm:=Tb.set (Tb.set (Tb.set (Tb.set (Tb.set (Tb.set (Tb.set (Tb.leaf zB) 0 (brd s left)) 1 (.ptr 0 0)) 2 (.int .i64 0)) 4 (.ptr 0 (0+0))) 5 (.str s)) 6 (.agg [.str s])) 3 (.ptr 1 0)
def zHZ:Nat:=(yb z6j.toList).getD 0
def zHq(s:List UInt8)(left z:Nat):Option (List Qy×St) :=
 wT zA z6j.toList (za z6j.toList []) zHZ zHZ 0 z6j.toList ⟨27,zYS s left,[],zNN s left⟩ [.bool false,.int .i64 z,.int .i64 z,.int .i64 0]
theorem zLB:yb z6j.toList=some zHZ:=by kernel_rfl
theorem zLX(s:List UInt8)(left z:Nat):(zHq s left z).isSome=true:=by kernel_rfl
theorem zLY(s:List UInt8)(left z:Nat):(zHq s left z).map (λx=>x.1.map λq=>(q.1,q.2.2)) =
  some [((305,[tl s]),.bool false),((306,[tl s]),.int .i64 z),((306,[tl s]),.int .i64 z),((250,[.bool (JU (z:Nat) (left:Nat)),.int .i64 10]),.int .i64 0)]:=by kernel_rfl
theorem zPg(s:List UInt8)(left z:Nat):(zHq s left z).map (λx=>(x.2.n,x.2.dfr,zk x.2.tm 2))=some (27,[],.int .i64 0):=by kernel_rfl
theorem zCu{left:Nat}(hs:s.length<=2000)(hl:(left:Int)<=zr s)(hq:Q (.int .i64 0) h):RF P zA 308 [brd s left] h Q:=by
 refine RF.plain ?_ (zn rfl);have hq:∀h':H,Plain (.int .i64 0)/\Q (.int .i64 0) h:=λ_=>⟨ym _ _,hq⟩
 obtain⟨z,hz⟩:∃z:Nat,zr s=z:=⟨(zr s).toNat,by omega⟩;refine yK z1X rfl rfl z36 ⟨by decide,?_⟩;rintro p0 h1 rfl rfl;refine⟨s,zX ZN rfl (zZ _ (by decide)) rfl,(show 1<T.top by decide),?_⟩;rintro p3 h4 rfl rfl;refine⟨zNN s left,zo zJ7 (zZ _ (show 1<T.top by decide)) rfl (oJ _) rfl rfl,?_⟩;obtain⟨⟨qs,s'⟩,e⟩:=Option.isSome_iff_exists.1 (zLX s left z);have k:=qs_at e (zLY _ _ _);have es:=zPg s left z;rw[e]at es;obtain⟨q0,q1,q2,q3,rfl⟩:∃q0 q1 q2 q3,qs=[q0,q1,q2,q3]:=zXn (by have:=congrArg List.length k;simpa using this);simp only[List.map_cons,List.map_nil,List.cons.injEq,oB,and_true]at k;obtain⟨⟨k0,v0⟩,⟨k1,v1⟩,⟨k2,v2⟩,⟨k3,v3⟩⟩:=k;obtain⟨⟨f0,a0⟩,⟨w0,x0⟩⟩:=q0;obtain⟨⟨f1,a1⟩,⟨w1,x1⟩⟩:=q1;obtain⟨⟨f2,a2⟩,⟨w2,x2⟩⟩:=q2;obtain⟨⟨f3,a3⟩,⟨w3,x3⟩⟩:=q3;simp only at k0 v0 k1 v1 k2 v2 k3 v3;obtain⟨rfl,rfl⟩:=k0;obtain⟨rfl,rfl⟩:=k1;obtain⟨rfl,rfl⟩:=k2;obtain⟨rfl,rfl⟩:=k3;subst v0 v1 v2 v3;refine wpDr.ans zLB e ?_ ?_ ?_
 ·intro q hq
  simp only[od,List.not_mem_nil,or_false]at hq;rcases hq with rfl|rfl|rfl|rfl
  ·refine RF.same (zJD ⟨?_,rfl⟩)
   rw[decide_eq_false (by omega)]
  ·exact RF.same (OT (by omega) ⟨by rw[hz],rfl⟩)
  ·exact RF.same (OT (by omega) ⟨by rw[hz],rfl⟩)
  ·refine RF.same (jd ⟨?_,rfl⟩)
   rw[yi,decide_eq_false (by omega)];rfl
 ·intro a ha b hb hab
  simp only[od,List.not_mem_nil,or_false]at ha hb;rcases ha with rfl|rfl|rfl|rfl<;>rcases hb with rfl|rfl|rfl|rfl<;>first|rfl|(simp at hab)
 ·obtain⟨n,tm,d,hp⟩:=s'
  simp only[oZ,oA,oB]at es;obtain⟨rfl,rfl,g2⟩:=es;have hs0:Has tm [(2,.int .i64 0)]:=⟨g2,trivial⟩;exact wpS.av hs0 zUh rfl rfl (hs0.on λtm' hs'=>endW.r1 (hs'.get rfl) (hq hp))
def oBk(s:List UInt8)(left:Nat):O:=.cells (.ls [.str s,.int .i64 left]) ⟨0,360+1,0⟩ true false
theorem zBi(s:List UInt8)(left n:Nat):wC s left (n+1)=2*wC s left n+(if n<left then wI s (left-1-n) else 0):=rfl
theorem zLH{p left n:Nat}(hg:h.get p=some (oBk s left))(hs:s.length<=2000)(hl:left<=8*s.length)(hn:n<=32)(hq:Q (.int .u64 (wC s left n:Nat)) h):
  RF P zA 309 [.ptr p 0,.int .i64 n] h Q:=by
 refine yK z1Y rfl rfl z37 (Has.nil.on λtm hs0=>?_);refine wpC.round (λk tm h'=>∃i:Nat,i<=n/\k=n-i/\h'=h/\Has tm [(9,.int .i64 i),(8,.int .i64 n),(5,.int .u64 (wC s left i:Nat)),(0,.ptr p 0)]) n ⟨0,by omega,rfl,rfl,hs0.sub rfl⟩ ?_
 rintro k tm h' ⟨i,hi,rfl,rfl,hs1⟩;have hb:=X4 s left i;have hp32:2^i<=2^32:=Nat.pow_le_pow_right (by decide) (by omega);have e:zG ((i:Int)+1)=((i+1:Nat):Int):=by rw[zD (by omega) (by omega)];rfl
 have el:zG (zG ((left:Int)-1)-(i:Int))=(left:Int)-1-i:=by
  rw[zD (n:=(left:Int)-1) (by omega) (by omega),zD (by omega) (by omega)]
 refine wpC.av hs1 zTZ rfl rfl ⟨λc=>?_,λc=>hs1.on λtm' hs'=>?_⟩
 rotate_left
 ·have hin:i=n:=by omega
  subst hin;refine thenC.left (wpS.av hs' zUi rfl rfl (hs'.on λtm2 hs2=>?_));exact endW.r1 (hs2.get rfl) hq
 have hin:i<n:=by omega
 have hp31:2^i<=2^31:=Nat.pow_le_pow_right (by decide) (by omega);refine⟨((wC s left i*2^1:Nat):Int),Zx (n:=1) (by decide) (by omega),.ptr p 0,h',rfl,?_⟩;show ∃x5,zK zA 3 h' (.ptr p (0+1))=some (.int .i64 x5)/\_;refine⟨left,zX zd rfl hg rfl,λc2=>⟨.ptr p 0,h',rfl,?_⟩,λc2=>hs1.on λtm' hs'=>?_⟩
 ·rw[el]at c2
  have hlt:i<left:=by omega
  have hi8:left-1-i<8*s.length:=by omega
  have hsb:=JH s (left-1-i);show ∃l10,zK zA 298 h' (.ptr p (0+0))=some (.agg [.str l10])/\_;refine⟨s,zu zJ7 rfl hg rfl,?_⟩;rw[el,show(left:Int)-1-i=((left-1-i:Nat):Int)by omega];refine zX4 hi8 (by omega) ⟨_,rfl,((wC s left (i+1):Nat):Int),?_,hs1.on λtm' hs'=>?_⟩
  ·rw[zJK (by omega) (by omega),Nat.or_comm,zAX (a:=wI s (left-1-i)) (i:=1) (by omega),zBi,if_pos hlt]
   congr 3
   omega
  ·refine⟨rfl,rfl,n-(i+1),by omega,i+1,by omega,rfl,rfl,?_⟩
   rw[<-e];exact hs'.sub rfl
 ·rw[el]at c2
  have hz:wC s left (i+1)=wC s left i*2^1:=by rw[zBi,if_neg (by omega)];omega
  refine⟨rfl,rfl,n-(i+1),by omega,i+1,by omega,rfl,rfl,?_⟩;rw[hz,<-e];exact hs'.sub rfl
def KP(s:List UInt8)(left:Nat):H:=H0.new (.cells (.ls [.str s,.int .i64 left]) ⟨0,120+1,0⟩ true false)
abbrev Xw(a b:Int):O:=.cells (.ls [.int .i64 a,.int .i64 b]) ⟨0,24+1,0⟩ true false
theorem zHD(s:List UInt8)(left:Nat)(a b:Int):zF zA 343 2 [(0,.int .i64 a),(1,.int .i64 b)] (KP s left)=some (.slice 1 0 2 (.exact 2),(KP s left).new (Xw a b)):=by kernel_rfl
def KQ(s:List UInt8)(left:Nat):H:=(KP s left).new (.cells (.ls [.str [],.int .i64 0]) ⟨0,120+1,0⟩ true false)
theorem Od(s:List UInt8)(left:Nat)(a b:Int):zF zA 343 2 [(0,.int .i64 a),(1,.int .i64 b)] (KQ s left)=some (.slice 2 0 2 (.exact 2),(KQ s left).new (Xw a b)):=by kernel_rfl
theorem zHz{b:Nat}{x y:Int}(hb:b<h.nx)(hg:h.get b=some (Xw x y)):Sl h (.slice b 0 2 (.exact 2)) 1 [x,y].length ([x,y].map λn=>V.int .i64 n) :=
 ⟨rfl,.inr ⟨b,0,_,_,_,_,_,rfl,hb,hg,λi hi=>by
  rcases i with _|_|i
  ·rfl
  ·rfl
  ·exact absurd hi (by show ¬i+1+1<2*1;omega)⟩⟩
theorem zO9{left n:Nat}(hs:s.length<=2000)(hl:(left:Int)<=zr s)(hn:n<=32)(hq:Q (.tuple [.int .u64 (wC s left n:Nat),.int .i64 0]) h):RF P zA 278 [brd s left,.int .i64 n] h Q:=by
 refine RF.plain ?_ (zn rfl);have hz:=X5 s;refine yK z1F rfl rfl z3O ⟨by decide,?_⟩;rintro p0 h1 rfl rfl;have g1:(KP s left).get 0=some (.cells (.ls [.str s,.int .i64 left]) ⟨0,120+1,0⟩ true false):=zZ _ (by decide);have g2:((KP s left).new (Xw 0 0)).get 1=some (Xw 0 0):=zZ _ (show 1<T.top by decide);have g3:((KP s left).new (Xw 0 0)).get 0=some (.cells (.ls [.str s,.int .i64 left]) ⟨0,120+1,0⟩ true false):=(yT _ (show 1<T.top by decide) (show 0<1 by decide)).trans g1;refine⟨s,left,zu jP rfl g1 rfl,zCu hs hl ⟨0,rfl,λc=>by omega,λ_=>⟨λc=>by omega,λ_=>jd ⟨0,rfl,_,_,zHD s left 0 0,qZ (zHz (show 1<2 by decide) g2) (by decide) ⟨0,rfl,Has.nil.on λtm hs0=>?_⟩⟩⟩⟩⟩
 refine wpS.av hs0 zU5 rfl rfl ⟨λc=>absurd rfl c,λ_=>hs0.on λtm1 hs1=>thenC.nx (hs1.sealK λtm2 hs2=>?_)⟩
 refine wpS.av hs2 zU6 rfl rfl ?_;show ∃l2,zK zA 9 ((KP s left).new (Xw 0 0)) (.ptr 0 (0+0))=some (.str l2)/\_;refine⟨s,zX ZN rfl g3 rfl,?_⟩;show ∃x5,zK zA 3 ((KP s left).new (Xw 0 0)) (.ptr 0 (0+1))=some (.int .i64 x5)/\_;refine⟨left,zX zd rfl g3 rfl,(show 2<T.top by decide),?_⟩;rintro p6 h7 rfl e7;obtain⟨n7,x7,g7⟩:=yA e7 (show 2<T.top by decide);refine zLH g7 hs (by omega) hn ⟨_,rfl,hs2.on λtm3 hs3=>endW.r2 (hs3.get rfl) (hs3.get rfl) ⟨zm rfl,hq⟩⟩
def tkB(s:List UInt8)(left n:Nat):V:=if n<=left then .tuple [brd s (left-n),.int .u64 (wC s left n:Nat),.int .i64 0] else .tuple [.agg [.str [],.int .i64 0],.int .u64 0,.int .i64 5]
theorem zLP(s:List UInt8)(left n:Nat):Plain (tkB s left n):=by
 unfold tkB;split<;>exact zm rfl
theorem zQB{left n:Nat}(hs:s.length<=2000)(hl:(left:Int)<=zr s)(hn:n<=32)(hq:Q (tkB s left n) h):RF P zA 215 [brd s left,.int .i64 n] h Q:=by
 refine RF.plain ?_ (zn rfl);have hq:∀h':H,Plain (tkB s left n)/\Q (tkB s left n) h:=λ_=>⟨zLP _ _ _,hq⟩
 have hz:=X5 s;refine yK z07 rfl rfl z2h ⟨by decide,?_⟩;rintro p0 h1 rfl rfl;refine⟨(show 1<T.top by decide),?_⟩;rintro p2 h3 rfl rfl;have g0:(KQ s left).get 0=some (.cells (.ls [.str s,.int .i64 left]) ⟨0,120+1,0⟩ true false):=(yT _ (show 1<T.top by decide) (show 0<1 by decide)).trans (zZ _ (by decide));have g1:(KQ s left).get 1=some (.cells (.ls [.str [],.int .i64 0]) ⟨0,120+1,0⟩ true false):=zZ _ (show 1<T.top by decide);have k0:∀a b,((KQ s left).new (Xw a b)).get 0=some (.cells (.ls [.str s,.int .i64 left]) ⟨0,120+1,0⟩ true false):=λa b=>(yT _ (show 2<T.top by decide) (show 0<2 by decide)).trans g0
 have k1:∀a b,((KQ s left).new (Xw a b)).get 1=some (.cells (.ls [.str [],.int .i64 0]) ⟨0,120+1,0⟩ true false):=λa b=>(yT _ (show 2<T.top by decide) (show 1<2 by decide)).trans g1
 have k2:∀a b,((KQ s left).new (Xw a b)).get 2=some (Xw a b):=λa b=>zZ _ (show 2<T.top by decide)
 refine⟨s,left,zu jP rfl g0 rfl,zO9 hs hl hn ⟨_,_,rfl,left,zX zd rfl g0 rfl,λc=>?_,λc=>?_⟩⟩
 ·have hlt:¬n<=left:=by omega
  unfold tkB at hq;rw[if_neg hlt]at hq;refine jd ⟨5,rfl,_,_,Od s left 0 5,qZ (zHz (show 2<3 by decide) (k2 0 5)) (by decide) ⟨5,rfl,λ_=>?_,λg=>absurd (show(5:Int)≠0 by decide) g⟩⟩
  exact⟨_,zo jP (k1 0 5) rfl (oJ _) rfl rfl,endL.ok (leaveL.cell (zu jP rfl (zN _ (show 1<T.top by decide)) rfl) rfl) (hq H0)⟩
 ·have hle:n<=left:=by omega
  unfold tkB at hq;rw[if_pos hle]at hq;refine jd ⟨0,rfl,_,_,Od s left 0 0,qZ (zHz (show 2<3 by decide) (k2 0 0)) (by decide) ⟨0,rfl,λg=>absurd rfl g,λ_=>?_⟩⟩
  have ew:zG ((left:Int)-n)=((left-n:Nat):Int):=by rw[zD (by omega) (by omega)];omega
  refine⟨left,zX zd rfl (k0 0 0) rfl,?_⟩;rw[ew];obtain⟨h21,e21,g21,k21⟩:∃h21,zg zA 3 ((KQ s left).new (Xw 0 0)) (.ptr 0 (0+1)) (.int .i64 ((left-n:Nat):Int))=some h21/\h21.get 0=some (.cells (.ls [.str s,.int .i64 ((left-n:Nat):Int)]) ⟨0,120+1,0⟩ true false)/\h21.get 1=some (.cells (.ls [.str [],.int .i64 0]) ⟨0,120+1,0⟩ true false) :=
   ⟨_,zo zd (k0 0 0) rfl (oJ _) rfl rfl,zN _ (by decide),(zQ _ (by decide) (by decide)).trans (k1 0 0)⟩
  exact⟨h21,e21,s,((left-n:Nat):Int),zu jP rfl g21 rfl,_,zo jP k21 rfl (oJ _) rfl rfl,endL.ok (leaveL.cell (zu jP rfl (zN _ (show 1<T.top by decide)) rfl) rfl) (hq H0)⟩
def rdB(s:List UInt8):V:=if zr s<0 then .tuple [.agg [.str [],.int .i64 0],.int .i64 22] else .tuple [.agg [.str s,.int .i64 (zr s)],.int .i64 0]
theorem zLO(s:List UInt8):Plain (rdB s):=by
 unfold rdB;split<;>exact zm rfl
theorem zPl(hs:s.length<=2000)(hq:Q (rdB s) h):RF P zA 213 [.str s] h Q:=by
 refine RF.plain ?_ (zn rfl);have hq:∀h':H,Plain (rdB s)/\Q (rdB s) h:=λ_=>⟨zLO _,hq⟩
 refine yK z05 rfl rfl z2f ⟨by decide,?_⟩;rintro p0 h1 rfl e1;obtain⟨n1,x1,g1⟩:=yA e1 (by decide);refine zEb hs ?_;unfold KL;unfold rdB at hq;by_cases c:zr s<0
 ·rw[if_pos c]at hq ⊢
  exact⟨0,22,rfl,λ_=>⟨_,zo jP g1 rfl (oJ _) rfl rfl,endL.ok (leaveL.cell (zu jP rfl (zN _ (by decide)) rfl) rfl) (hq H0)⟩,λg=>absurd (show(22:Int)≠0 by decide) g⟩
 ·rw[if_neg c]at hq ⊢
  exact⟨zr s,0,rfl,λg=>absurd rfl g,λ_=>⟨_,zo jP g1 rfl (oJ _) rfl rfl,endL.ok (leaveL.cell (zu jP rfl (zN _ (by decide)) rfl) rfl) (hq H0)⟩⟩
def jk(l:List Int):Bool:=l.all λx=>decide (0<=x) && decide (x<=11)
def cnt(l:List Int):Nat:=(l.filter λx=>decide (x≠0)).length
def zKu(l:List Int):V:=if jk l=true then .tuple [.int .i64 (cnt l:Nat),.bool true] else .tuple [.int .i64 0,.bool false]
theorem ZA(l m:List Int):jk (l++m)=(jk l && jk m):=List.all_append ..
theorem kq(l m:List Int):cnt (l++m)=cnt l+cnt m:=by unfold cnt;rw[List.filter_append,oU]
theorem J6(l:List Int):cnt l<=l.length:=List.length_filter_le _ _
theorem zCA{v:V}{l:List Int}(sl:Sl h v 1 l.length (zJ l))(hl:l.length<4611686018427387904)(hq:Q (zKu l) h):RF P zA 142 [v] h Q:=by
 refine yK z0M rfl rfl z2V ⟨_,sl.len zP rfl,Has.nil.on λtm hs=>?_⟩
 refine wpC.round (λk tm h'=>∃i:Nat,i<=l.length/\k=l.length-i/\h'=h/\jk (l.take i)=true/\Has tm [(8,.int .i64 i),(7,.int .i64 l.length),(6,v),(2,.int .i64 (cnt (l.take i):Nat)),(3,.bool false)]) l.length ⟨0,by omega,by omega,rfl,by simp[jk],hs.sub rfl⟩ ?_
 rintro k tm h' ⟨i,h1,rfl,rfl,h2,hs⟩;refine wpC.av hs zTA rfl rfl ⟨λc=>?_,λc=>hs.on λtm' hs'=>?_⟩
 ·have hi:i<l.length:=by omega
  have hg:l[i]? = some l[i]:=oO hi;obtain⟨b,o,e1,e2⟩:=sl.at1 (u:=.int .i64 l[i]) hi zP rfl zd rfl rfl (by rw[oW,hg];rfl);have ht:l.take (i+1)=l.take i++[l[i]]:=by rw[List.take_add_one,hg];rfl
  have hall:∀x,x∈[l[i]]->¬(0<=x/\x<=11)->zKu l = .tuple [.int .i64 0,.bool false]:=λx hx hn=>by
   unfold zKu;rw[if_neg];intro g;rw[<-List.take_append_drop (i+1) l,ZA,ht,ZA]at g;simp only[oG]at g;have:=List.all_eq_true.1 g.1.2 x hx;simp only[oG,decide_eq_true_eq]at this;exact hn this
  generalize l[i]=x at hg e2 ht hall;have e:zG ((i:Int)+1)=((i+1:Nat):Int):=by rw[zD (by omega) (by omega)];rfl
  refine⟨b,o,e1,x,e2,λc2=>hs.on λtm' hs'=>?_,λc2=>⟨λc3=>hs.on λtm' hs'=>?_,λc3=>hs.on λtm' hs'=>?_⟩⟩
  ·rw[hall x (List.mem_singleton.2 rfl) (λg=>by omega)]at hq
   exact thenC.rt (thenC.rt (endW.r2 (hs'.get rfl) (hs'.get rfl) hq))
  ·rw[hall x (List.mem_singleton.2 rfl) (λg=>by omega)]at hq
   exact thenC.rt (thenC.rt (endW.r2 (hs'.get rfl) (hs'.get rfl) hq))
  ·have hb:jk (l.take (i+1))=true:=by
    rw[ht,ZA,h2];simp only[jk,List.all_cons,List.all_nil,Bool.and_true,Bool.true_and,oG,decide_eq_true_eq];omega
   have hc:=J6 (l.take i);rw[List.length_take]at hc;refine wpS.av hs' zTl rfl rfl ⟨λc4=>hs'.on λtm2 hs2=>?_,λc4=>hs'.on λtm2 hs2=>?_⟩
   ·refine thenC.nx (wpS.av hs2 zJd rfl rfl (hs2.on λtm3 hs3=>hs3.slt λtm4 hs4=>⟨rfl,rfl,l.length-(i+1),by omega,i+1,by omega,rfl,rfl,hb,?_⟩))
    have ec:zG (((cnt (l.take i):Nat):Int)+1)=((cnt (l.take (i+1)):Nat):Int):=by
     rw[zD (by omega) (by omega),ht,kq];have:cnt [x]=1:=by simp[cnt,c4]
     omega
    rw[<-ec,<-e];exact hs4.sub rfl
   ·refine thenC.nx (wpS.av hs2 zJd rfl rfl (hs2.on λtm3 hs3=>hs3.slt λtm4 hs4=>⟨rfl,rfl,l.length-(i+1),by omega,i+1,by omega,rfl,rfl,hb,?_⟩))
    have ec:cnt (l.take (i+1))=cnt (l.take i):=by
     rw[ht,kq];have:x=0:=by omega
     subst this;rfl
    rw[ec,<-e];exact hs4.sub rfl
 ·have hi:i=l.length:=by omega
  subst hi;rw[List.take_length]at h2 hs';unfold zKu at hq;rw[if_pos h2]at hq;refine thenC.left (wpS.av hs' zTm rfl rfl (hs'.on λtm2 hs2=>?_));exact endW.r2 (hs2.get rfl) (hs2.get rfl) hq
def Kv(x:Int):Nat:=if x≠0 then 2^(x.toNat-1) else 0
def xP(l:List Int):Nat:=(l.map Kv).sum
theorem zQ0(l m:List Int):xP (l++m)=xP l+xP m:=by unfold xP;rw[List.map_append,List.sum_append]
theorem zJl{x:Int}(h:x<=11):Kv x<=1024:=by
 unfold Kv;split
 ·exact oQ (Nat.pow_le_pow_right (by decide) (show x.toNat-1<=10 by omega)) (by decide)
 ·omega
theorem zEC:∀{l:List Int},jk l=true->xP l<=1024*l.length
 | [],_=>by simp[xP]
 | x::l,h=>by
  unfold jk at h;rw[List.all_cons,oG,oG]at h;have h1:=zJl (of_decide_eq_true h.1.2);have h2:=zEC (l:=l) h.2;have:xP (x::l)=Kv x+xP l:=by simp[xP]
  rw[this,oV];omega
theorem zXw{x:Int}(h1:1<=x)(h2:x<=11)(hq:Q (.int .i64 (Kv x:Nat)) h):RF P zA 144 [.int .i64 x] h Q:=by
 have e:zT .u64 (zG (x-1))=((x.toNat-1:Nat):Int):=by
  rw[zD (by omega) (by omega),show x-1=((x.toNat-1:Nat):Int)by omega,zW (by omega)]
 have hp:2^(x.toNat-1)<=2^10:=Nat.pow_le_pow_right (by decide) (by omega);refine yK z0N rfl rfl z2W ⟨((1*2^(x.toNat-1):Nat):Int),by rw[e];exact yH (a:=1) (by omega) (by omega),?_⟩;unfold Kv at hq;rw[if_pos (by omega)]at hq
 rwa [Nat.one_mul]
theorem zQF{v:V}{l:List Int}(sl:Sl h v 1 l.length (zJ l))(hl:l.length<=1000)(hin:jk l=true)(hq:Q (.int .i64 (xP l:Nat)) h):
  RF P zA 143 [v,.func (.func 144) [] []] h Q:=by
 refine yK zVM rfl rfl zVv ⟨_,sl.len zP rfl,Has.nil.on λtm hs=>?_⟩
 refine wpC.round (λk tm h'=>∃i:Nat,i<=l.length/\k=l.length-i/\h'=h/\Has tm [(9,.int .i64 i),(8,.int .i64 l.length),(7,v),(4,.int .i64 (xP (l.take i):Nat)),(1,.func (.func 144) [] [])]) l.length ⟨0,by omega,by omega,rfl,hs.sub rfl⟩ ?_
 rintro k tm h' ⟨i,h1,rfl,rfl,hs⟩;refine wpC.av hs zJc rfl rfl ⟨λc=>?_,λc=>hs.on λtm' hs'=>?_⟩
 ·have hi:i<l.length:=by omega
  have hg:l[i]? = some l[i]:=oO hi;obtain⟨b,o,e1,e2⟩:=sl.at1 (u:=.int .i64 l[i]) hi zP rfl zd rfl rfl (by rw[oW,hg];rfl);have ht:l.take (i+1)=l.take i++[l[i]]:=by rw[List.take_add_one,hg];rfl
  have hr:0<=l[i]/\l[i]<=11:=by
   have:=List.all_eq_true.1 hin l[i] (oS hi);simpa using this
  generalize l[i]=x at hg e2 ht hr;have e:zG ((i:Int)+1)=((i+1:Nat):Int):=by rw[zD (by omega) (by omega)];rfl
  have hw:xP (l.take (i+1))=xP (l.take i)+Kv x:=by rw[ht,zQ0];simp[xP]
  have hb:xP (l.take i)<=1024*i:=by
   have hh:jk (l.take i)=true:=by
    have:=hin;rw[<-List.take_append_drop i l,ZA,oG]at this;exact this.1
   have:=zEC hh;rw[List.length_take]at this;omega
  have hx:=zJl hr.2;refine⟨b,o,e1,x,e2,λc2=>?_,λc2=>hs.on λtm' hs'=>⟨rfl,rfl,l.length-(i+1),by omega,i+1,by omega,rfl,rfl,?_⟩⟩
  ·show RF P zA 144 [.int .i64 x] h' _
   refine zXw (by omega) hr.2 ?_;refine⟨((Kv x:Nat):Int),rfl,hs.on λtm' hs'=>⟨rfl,rfl,l.length-(i+1),by omega,i+1,by omega,rfl,rfl,?_⟩⟩
   have ew:zG (((xP (l.take i):Nat):Int)+(Kv x:Nat))=((xP (l.take (i+1)):Nat):Int):=by rw[zD (by omega) (by omega),hw];rfl
   rw[<-ew,<-e];exact hs'.sub rfl
  ·have:xP (l.take (i+1))=xP (l.take i):=by
    rw[hw];have:x=0:=by omega
    subst this;rfl
   rw[this,<-e];exact hs'.sub rfl
 ·have hi:i=l.length:=by omega
  subst hi;rw[List.take_length]at hs';refine thenC.left (wpS.av hs' zJe rfl rfl (hs'.on λtm2 hs2=>?_));exact endW.r1 (hs2.get rfl) hq
def xq(l:List Int):Nat:=2^zO (xP l)-xP l
def wok(l:List Int):Prop:=cnt l≠0/\zO (xP l)<=11/\xq l=2^(xq l).log2
instance(l:List Int):Decidable (wok l):=inferInstanceAs (Decidable (_/\_/\_))
def zKt(l:List Int):V :=
 if l.length<1\/255<l.length then .tuple [.int .i64 0,.int .i64 0,.int .i64 4]
 else if jk l=true then
  (if wok l then .tuple [.int .i64 (zO (xq l):Nat),.int .i64 (zO (xP l):Nat),.int .i64 0] else .tuple [.int .i64 0,.int .i64 0,.int .i64 21])
 else .tuple [.int .i64 0,.int .i64 0,.int .i64 2]
theorem zAN{v:V}(sl:Sl h v 1 l.length (zJ l))(hl:l.length<4611686018427387904)(hq:Q (zKt l) h):RF P zA 82 [v] h Q:=by
 refine yK z7P rfl rfl z7y ⟨_,sl.len zP rfl,λc=>?_,λc=>⟨_,sl.len zP rfl,λc2=>?_,λc2=>Has.nil.on λtm hs=>?_⟩⟩
 ·unfold zKt at hq
  rw[if_pos (.inl (by omega))]at hq;exact hq
 ·unfold zKt at hq
  rw[if_pos (.inr (by omega))]at hq;exact hq
 unfold zKt at hq;rw[if_neg (by omega)]at hq;refine wpS.av hs zYt rfl rfl (zCA sl hl ?_);unfold zKu;by_cases hin:jk l=true
 ·rw[if_pos hin]at hq ⊢
  have hw:=zEC hin;have hm:zO (xP l)<=20:=zw (by omega);have hlt:=qe (xP l);have hp:2^zO (xP l)<=2^20:=Nat.pow_le_pow_right (by decide) hm;refine⟨(cnt l:Nat),true,rfl,λ_=>zQF sl (by omega) hin ⟨_,rfl,OE (by omega) ?_⟩,λg=>(by cases g)⟩
  rw[jj];have e1:zT .u64 (max ((zO (xP l):Nat):Int) 0)=((zO (xP l):Nat):Int):=by
   rw[show max ((zO (xP l):Nat):Int) 0=((zO (xP l):Nat):Int)by omega,zW (by omega)]
  have e2:zG (((1*2^zO (xP l):Nat):Int)-(xP l:Nat))=((xq l:Nat):Int):=by
   rw[zD (by omega) (by omega)];unfold xq;omega
  have hr1:1<=xq l:=by unfold xq;omega
  have hr2:xq l<=2^20:=by unfold xq;omega
  have e3:zG (((xq l:Nat):Int)-1)=((xq l-1:Nat):Int):=by rw[zD (by omega) (by omega)];omega
  refine⟨_,rfl,((1*2^zO (xP l):Nat):Int),by rw[e1];exact yH (a:=1) (by omega) (by omega),λc3=>hs.on λtm2 hs2=>?_,λc3=>⟨λc4=>hs.on λtm2 hs2=>?_,λc4=>?_⟩⟩
  ·rw[if_neg (λg:wok l=>g.1 (by omega))]at hq
   exact endW.r3 (hs2.get rfl) (hs2.get rfl) (hs2.get rfl) hq
  ·rw[if_neg (λg:wok l=>by have:=g.2.1;omega)]at hq
   exact endW.r3 (hs2.get rfl) (hs2.get rfl) (hs2.get rfl) hq
  rw[e2];refine⟨λc5=>by omega,λ_=>⟨((xq l &&& (xq l-1):Nat):Int),by rw[e3];exact Z1 (by omega) (by omega),λc6=>hs.on λtm2 hs2=>?_,λc6=>hs.on λtm2 hs2=>?_⟩⟩
  ·rw[if_neg (λg:wok l=>c6 (by rw[(zFr (by omega)).2 g.2.2];rfl))]at hq
   exact endW.r3 (hs2.get rfl) (hs2.get rfl) (hs2.get rfl) hq
  ·have hok:wok l:=⟨λg=>c3 (by omega),by omega,(zFr (by omega)).1 (by omega)⟩
   rw[if_pos hok]at hq;refine wpS.av hs2 zYs rfl rfl (OE (by omega) ⟨_,rfl,hs2.on λtm3 hs3=>?_⟩)
   refine hs3.slt λtm4 hs4=>?_
   refine endW.r3 (hs4.get rfl) (hs4.get rfl) (hs4.get rfl) ?_;rw[jj];exact hq
 ·rw[if_neg hin]at hq ⊢
  refine⟨0,false,rfl,λg=>(by cases g),λ_=>hs.on λtm2 hs2=>endW.r3 (hs2.get rfl) (hs2.get rfl) (hs2.get rfl) hq⟩
def jw(l:List Int):Int:=if l.length<1\/255<l.length then 4 else if jk l=true then (if wok l then 0 else 21) else 2
theorem zAa{v:V}(sl:Sl h v 1 l.length (zJ l))(hl:l.length<4611686018427387904)(hq:Q (.int .i64 (jw l)) h):RF P zA 41 [v] h Q:=by
 refine yK z7C rfl rfl z7l (zAN sl hl ?_);unfold zKt;unfold jw at hq;split at hq
 ·rename_i c;rw[if_pos c];exact⟨_,_,_,rfl,hq⟩
 ·rename_i c
  rw[if_neg c];split at hq
  ·rename_i c2
   rw[if_pos c2];split at hq
   ·rename_i c3;rw[if_pos c3];exact⟨_,_,_,rfl,hq⟩
   ·rename_i c3;rw[if_neg c3];exact⟨_,_,_,rfl,hq⟩
  ·rename_i c2;rw[if_neg c2];exact⟨_,_,_,rfl,hq⟩
def pt(x:Int):Int:=if x<0 then 1 else x
def pts(l:List Int):Int:=(l.map pt).sum
theorem ZG(l m:List Int):pts (l++m)=pts l+pts m:=by unfold pts;rw[List.map_append,List.sum_append]
theorem zD4(x:Int):pts [x]=pt x:=by simp[pts]
structure GD (log:Nat) (l:List Int):Prop where
 lg:log=5\/log=6
 pos:1<=l.length
 len:l.length<=12
 low:∀x∈l,-1<=x
 last:l.getLast?≠some 0
 pts:pts l=2^log
def stp(log:Nat):Nat:=2^log/2+2^log/8+3
def nxt(log m:Nat):Nat->Nat->Nat
 | 0,p=>p
 | f+1,p=>if p<2^log-m then p else nxt log m f ((p+stp log) % 2^log)
def JV(log m:Nat):Nat->Nat
 | 0=>0
 | k+1=>nxt log m 13 ((JV log m k+stp log) % 2^log)
def qL:List Int->Nat->Nat->List Int->List Int
 | [],_,_,out=>out
 | p::l,s,n,out=>if p = -1 then qL l (s+1) (n-1) (out.set (n-1) s) else qL l (s+1) n out
def Zo(log m:Nat)(s:Nat):Nat->Nat->List Int->List Int
 | 0,_,out=>out
 | c+1,k,out=>Zo log m s c (k+1) (out.set (JV log m k) s)
def ZV(log m:Nat):List Int->Nat->Nat->List Int->List Int
 | [],_,_,out=>out
 | p::l,s,k,out=>ZV log m l (s+1) (k+p.toNat) (Zo log m s p.toNat k out)
def yU(l:List Int):Nat:=(l.filter λx=>decide (x = -1)).length
def z7(log:Nat)(l:List Int):List Int:=ZV log (yU l) l 0 0 (qL l 0 (2^log) (List.replicate (2^log) 0))
def Oo(log m:Nat):Bool :=
 ((List.range 64).all λp=>decide (nxt log m 13 ((p+stp log) % 2^log)<2^log-m)) &&
 ((List.range (2^log-m)).all λq=>(List.range (2^log-m)).any λk=>decide (JV log m k=q))
theorem zHI:((List.range 13).all λm=>Oo 5 m && Oo 6 m)=true:=by decide +kernel
theorem zBo(hl:log=5\/log=6)(hm:m<=12):Oo log m=true:=by
 have h:=List.all_eq_true.1 zHI m (List.mem_range.2 (by omega));rw[oG]at h;rcases hl with rfl|rfl
 ·exact h.1
 ·exact h.2
theorem yz(hl:log=5\/log=6):32<=2^log/\2^log<=64:=by rcases hl with rfl|rfl<;>decide
theorem zXt{p:Nat}(hl:log=5\/log=6)(hm:m<=12)(hp:p<2^log):nxt log m 13 ((p+stp log) % 2^log)<2^log-m:=by
 have h:=zBo hl hm;unfold Oo at h;rw[oG]at h;exact of_decide_eq_true (List.all_eq_true.1 h.1 p (List.mem_range.2 (by have:=yz hl;omega)))
theorem XP(hl:log=5\/log=6)(hm:m<=12)(k:Nat):JV log m k<2^log-m:=by
 have hp:=yz hl;cases k with
 | zero=>show 0<_;omega
 | succ k=>exact zXt hl hm (by have:=XP hl hm k;omega)
theorem zSP{q:Nat}(hl:log=5\/log=6)(hm:m<=12)(hq:q<2^log-m):∃k,k<2^log-m/\JV log m k=q:=by
 have h:=zBo hl hm;unfold Oo at h;rw[oG]at h;obtain⟨k,h1,h2⟩:=List.any_eq_true.1 (List.all_eq_true.1 h.2 q (List.mem_range.2 hq));exact⟨k,List.mem_range.1 h1,of_decide_eq_true h2⟩
theorem Zq:∀{l:List Int}{s n:Nat}{out:List Int},(qL l s n out).length=out.length
 | [],_,_,_=>rfl
 | p::l,s,n,out=>by
  unfold qL;split
  ·rw[Zq,oh]
  ·exact Zq
theorem JF{s:Nat}:∀{c k:Nat}{out:List Int},(Zo log m s c k out).length=out.length
 | 0,_,_=>rfl
 | c+1,k,out=>by unfold Zo;rw[JF,oh]
theorem zFz:∀{l:List Int}{s k:Nat}{out:List Int},(ZV log m l s k out).length=out.length
 | [],_,_,_=>rfl
 | p::l,s,k,out=>by unfold ZV;rw[zFz,JF]
theorem jO(log:Nat)(l:List Int):(z7 log l).length=2^log:=by unfold z7;rw[zFz,Zq,List.length_replicate]
theorem wo(p:Int)(l:List Int):yU (p::l)=(if p = -1 then 1 else 0)+yU l:=by
 unfold yU;rw[List.filter_cons];by_cases h:p = -1
 ·rw[if_pos h,if_pos (by simp[h]),oV];omega
 ·rw[if_neg h,if_neg (by simp[h])];omega
theorem Xv(l:List Int):yU l<=l.length:=List.length_filter_le _ _
def Jf(l:List Int):Nat:=(l.map Int.toNat).sum
theorem qh(p:Int)(l:List Int):Jf (p::l)=p.toNat+Jf l:=by simp[Jf]
theorem yr(p:Int)(l:List Int):pts (p::l)=pt p+pts l:=by simp[pts]
theorem xU:∀{l:List Int},(∀x∈l,-1<=x)->((Jf l+yU l:Nat):Int)=pts l
 | [],_=>rfl
 | p::l,h=>by
  have h1:=xU (l:=l) λx hx=>h x (oH _ hx)
  have h2:=h p (List.mem_cons_self ..);rw[qh,wo,yr];unfold pt;by_cases c:p = -1
  ·rw[if_pos c,if_pos (by omega)]
   have:p.toNat=0:=by omega
   omega
  ·rw[if_neg c,if_neg (by omega)]
   omega
theorem GD.cells(g:GD log l):Jf l+yU l=2^log:=by
 have h:=xU g.low;rw[g.pts]at h;have:((2^log:Nat):Int)=2^log:=by simp
 omega
def Occ(l:List Int)(x:Int):Prop:=∃s:Nat,x=s/\∃p,l[s]? = some p/\p≠0
theorem zA8{all:List Int}:∀{l:List Int}{s n:Nat}{out:List Int},all.drop s=l->yU l<=n->n<=out.length->(∀i x,n<=i->out[i]? = some x->Occ all x)->∀i x,n-yU l<=i->(qL l s n out)[i]? = some x->Occ all x
 | [],s,n,out,_,_,_,h=>λi x hi hx=>h i x (by have:yU []=0:=rfl;omega) hx
 | p::l,s,n,out,hd,hr,hn,h=>by
  have hd2:all.drop (s+1)=l:=by rw[<-List.drop_drop,hd];rfl
  have hs:all[s]? = some p:=by
   have:=congrArg (λl:List Int=>l[0]?) hd;rw[List.getElem?_drop]at this;simpa using this
  rw[wo]at hr ⊢;unfold qL;split
  ·rename_i c
   rw[if_pos c]at hr;refine λi x hi hx=>zA8 (n:=n-1) hd2 (by omega) (by rw[oh];omega) (λi x hi hx=>?_) i x (by omega) hx
   by_cases e:i=n-1
   ·subst e
    rw[List.getElem?_set_self (by omega)]at hx;cases hx;exact⟨s,rfl,p,hs,by omega⟩
   ·rw[oY (by omega)]at hx
    exact h i x (by omega) hx
  ·rename_i c
   rw[if_neg c]at hr;exact λi x hi hx=>zA8 hd2 (by omega) hn h i x (by omega) hx
theorem zFw{all:List Int}{log m s:Nat}{p:Int}(hl:log=5\/log=6)(hm:m<=12)(hs:all[s]? = some p)(hp:p≠0):∀{c k:Nat}{out:List Int},out.length=2^log ->
  (∀i x,2^log-m<=i->out[i]? = some x->Occ all x)->(∀j x,j<k->out[JV log m j]? = some x->Occ all x) ->
  (∀i x,2^log-m<=i->(Zo log m s c k out)[i]? = some x->Occ all x)/\(∀j x,j<k+c->(Zo log m s c k out)[JV log m j]? = some x->Occ all x)
 | 0,k,out,_,h1,h2=>⟨h1,h2⟩
 | c+1,k,out,ho,h1,h2=>by
  unfold Zo;have hk:=XP hl hm k;have r:=zFw hl hm hs hp (c:=c) (k:=k+1) (out:=out.set (JV log m k) s) (by rw[oh];exact ho) (λi x hi hx=>?_) (λj x hj hx=>?_)
  ·exact⟨r.1,λj x hj hx=>r.2 j x (by omega) hx⟩
  ·rw[oY (by omega)]at hx
   exact h1 i x hi hx
  ·by_cases e:JV log m j=JV log m k
   ·rw[e,List.getElem?_set_self (by omega)]at hx
    cases hx;exact⟨s,rfl,p,hs,hp⟩
   ·rw[oY (λq=>e q.symm)]at hx
    by_cases e2:j=k
    ·exact absurd (by rw[e2]) e
    ·exact h2 j x (by omega) hx
theorem zA4{all:List Int}(hl:log=5\/log=6)(hm:m<=12):∀{l:List Int}{s k:Nat}{out:List Int},all.drop s=l->out.length=2^log ->
  (∀i x,2^log-m<=i->out[i]? = some x->Occ all x)->(∀j x,j<k->out[JV log m j]? = some x->Occ all x) ->
  (∀i x,2^log-m<=i->(ZV log m l s k out)[i]? = some x->Occ all x)/\(∀j x,j<k+Jf l->(ZV log m l s k out)[JV log m j]? = some x->Occ all x)
 | [],s,k,out,_,_,h1,h2=>⟨h1,h2⟩
 | p::l,s,k,out,hd,ho,h1,h2=>by
  have hd2:all.drop (s+1)=l:=by rw[<-List.drop_drop,hd];rfl
  have hs:all[s]? = some p:=by
   have:=congrArg (λl:List Int=>l[0]?) hd;rw[List.getElem?_drop]at this;simpa using this
  unfold ZV;rw[qh];by_cases c:p=0
  ·subst c
   show(∀i x,_->(ZV log m l (s+1) (k+0) out)[i]? = some x->_)/\(∀j x,j<k+(0+Jf l)->(ZV log m l (s+1) (k+0) out)[JV log m j]? = some x->_);rw[Nat.zero_add];exact zA4 hl hm hd2 ho h1 h2
  ·obtain⟨r1,r2⟩:=zFw hl hm hs c (c:=p.toNat) (k:=k) ho h1 h2
   have r:=zA4 hl hm hd2 (by rw[JF];exact ho) r1 r2;exact⟨r.1,λj x hj hx=>r.2 j x (by omega) hx⟩
theorem JN(g:GD log l){i:Nat}{x:Int}(hx:(z7 log l)[i]? = some x):Occ l x:=by
 have hm:yU l<=12:=oQ (Xv l) g.len;have hp:=yz g.lg;have hc:=g.cells;have h1:=zA8 (all:=l) (l:=l) (s:=0) (n:=2^log) (out:=List.replicate (2^log) 0) rfl (by omega) (by rw[List.length_replicate];exact oP _) (λi x hi hx=>by
  rw[og (by rw[List.length_replicate];exact hi)]at hx;cases hx)
 obtain⟨h2,h3⟩:=zA4 (all:=l) (l:=l) (s:=0) (k:=0) g.lg hm rfl (by rw[Zq,List.length_replicate]) h1 (λj x hj _=>absurd hj (Nat.not_lt_zero _))
 by_cases c:i<2^log-yU l
 ·obtain⟨k,hk,rfl⟩:=zSP g.lg hm c
  exact h3 k x (by omega) hx
 ·exact h2 i x (by omega) hx
end Go.Proofs.YtnpeieeomokomaaGreat
