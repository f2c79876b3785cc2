/- TC. No condition. -/
import Derived.Test.YtnpeieeomokomaaGreatZTA
import Derived.Test.YtnpeieeomokomaaGreatZW
set_option maxRecDepth 100000
set_option maxHeartbeats 1000000
noncomputable section
namespace Go.Proofs.YtnpeieeomokomaaGreat
open Go.Sim
variable {h:H}{Q:Uc}
variable{l:Ub}{s:Ua}{log m n p:Nat}
abbrev tl(s:Ua):V:=.agg [.str s]
def zUH(s:Ua):H:=(H0.new (.cells (.ls [.str []]) ⟨0,298+1,0⟩ true false)).upd H0.nx (some (.cells (.ls [.str s]) ⟨0,298+1,0⟩ true false))
def zZy(s:Ua):Tm:=Tb.set (Tb.set (Tb.set (Tb.set (Tb.set (Tb.set (Tb.leaf zC) 0 (.str s)) 2 (dd 0)) 3 (dd 0)) 6 (.str s)) 7 (.agg [.str s])) 4 (.ptr H0.nx 0)
def zN9:Nat:=(ya z2r.toList).getD 0
def zJ2(s:Ua)(z a e:Int):Option (List Qy×St) :=
 Yn zB z2r.toList (zi z2r.toList []) zN9 zN9 0 z2r.toList ⟨22,zZy s,[],zUH s⟩ [.bool false,dd 0,dd z,dd a,dd e]
theorem zNa:ya z2r.toList=some zN9:=da
theorem zPS(s:Ua)(z a e:Int):(zJ2 s z a e).isSome=true:=da
theorem zPT(s:Ua)(z a e:Int):(zJ2 s z a e).map (λx=>x.1.map λq=>(q.1,q.2.2)) =
  some [((305,[tl s]),.bool false),((250,[.bool false,dd 4]),dd 0),((306,[tl s]),dd z),((250,[.bool (ltF z 0),dd 22]),dd a),((248,[.slice 1 0 2 (.exact 2)]),dd e)]:=da
theorem zRQ(s:Ua)(z a e:Int):((zJ2 s z a e).bind λx=>(x.1[4]?).map λq=>(q.2.1.nx,q.2.1.get 1))=some (2,some (.cells (.ls [dd 0,dd a]) ⟨0,24+1,0⟩ true false)):=da
theorem zRR(s:Ua)(z a e:Int):(zJ2 s z a e).map (λx=>(x.2.n,x.2.dfr,zI x.2.tm 5,zI x.2.tm 4,x.2.heap.get 0))=some (22,[],dd e,.ptr 0 0,some (.cells (.ls [.str s]) ⟨0,298+1,0⟩ true false)):=da
theorem _root_.Go.Sim.thenC.rt{K:St->Prop}{R:Ud}{s:St}(h:R .ret s):thenC K R .ret s:=h
theorem z31{α:Type}:∀{l:List α},l.length=5->∃a b c d e,l=[a,b,c,d,e]
 | [a,b,c,d,e],_=>⟨a,b,c,d,e,rfl⟩
theorem z30{α:Type}:∀{l:List α},l.length=4->∃a b c d,l=[a,b,c,d]
 | [a,b,c,d],_=>⟨a,b,c,d,rfl⟩
def qO(s:Ua):V:=if zf s<0 then .tuple [dd 0,dd 22] else .tuple [dd (zf s),dd 0]
theorem zFW(s:Ua):Plain (qO s):=by unfold qO;split<;>exact yc rfl
theorem _root_.Go.Sim.qs_at{r:Option (List Qy×St)}{a:List Qy}{s:St}{l:List ((Nat×Ug)×V)}(e:r=some (a,s))(h:r.map (λx=>x.1.map λq=>(q.1,q.2.2))=some l):a.map (λq=>(q.1,q.2.2))=l:=by subst e;exact Option.some.inj h
theorem zEZ(hs:s.length<=2000)(j:Q (qO s) h):RF P zB 273 [.str s] h Q:=by
 refine RF.plain ?_ (zk rfl);have j:∀h':H,Plain (qO s)/\Q (qO s) h:=λ_=>⟨zFW _,j⟩
 refine yU z1L ⟨db,?_⟩;rintro p0 h1 rfl rfl;refine⟨zUH s,z6 zJe (zM _ db) rfl,?_⟩;obtain⟨⟨J,K⟩,e⟩:=Option.isSome_iff_exists.1 (zPS s (zf s) (if zf s<0 then 22 else 0) (if zf s<0 then 22 else 0));have k:=qs_at e (zPT _ _ _ _);have t:=zRQ s (zf s) (if zf s<0 then 22 else 0) (if zf s<0 then 22 else 0);have es:=zRR s (zf s) (if zf s<0 then 22 else 0) (if zf s<0 then 22 else 0);rw[e]at t es;obtain⟨q0,u,v,w,x,rfl⟩:∃q0 u v w x,J=[q0,u,v,w,x]:=by exact z31 (by have:=congrArg List.length k;simpa using this)
 simp only[List.map_cons,List.map_nil,List.cons.injEq,oB,and_true]at k;obtain⟨⟨k0,v0⟩,⟨A,v1⟩,⟨B,C⟩,⟨D,E⟩,⟨F,v4⟩⟩:=k;obtain⟨⟨R,a0⟩,⟨w0,S⟩⟩:=q0;obtain⟨⟨T,a1⟩,⟨U,V⟩⟩:=u;obtain⟨⟨W,a2⟩,⟨X,Y⟩⟩:=v;obtain⟨⟨Z,a3⟩,⟨w3,x3⟩⟩:=w;obtain⟨⟨f4,a4⟩,⟨w4,x4⟩⟩:=x;simp only at k0 v0 A v1 B C D E F v4;obtain⟨rfl,rfl⟩:=k0;obtain⟨rfl,rfl⟩:=A;obtain⟨rfl,rfl⟩:=B;obtain⟨rfl,rfl⟩:=D;obtain⟨rfl,rfl⟩:=F;subst v0 v1 C E v4;refine wpDr.ans zNa e ?_ ?_ ?_
 .intro q j;simp only[oq,List.not_mem_nil,or_false]at j;rcases j with rfl|rfl|rfl|rfl|rfl
  .refine RF.same (zIy ⟨?_,rfl⟩);rw[decide_eq_false oy]
  .exact RF.same (Y9 ⟨rfl,rfl⟩)
  .exact RF.same (OO ⟨rfl,rfl⟩)
  .refine RF.same (Y9 ⟨?_,rfl⟩);rw[xa];by_cases c:zf s<0
   .rw[if_pos c,decide_eq_true c];rfl
   rw[if_neg c,decide_eq_false c];rfl
  simp only[List.getElem?_cons_succ,List.getElem?_cons_zero,Option.bind_some,oo,oA,oB]at t;refine RF.same (Xd (l:=[0,if zf s<0 then 22 else 0]) ⟨rfl,.inr ⟨1,0,_,_,_,_,_,rfl,by rw[t.1];decide,t.2,?_⟩⟩ (by simp) ⟨?_,rfl⟩)
  .intro i hi;rcases i with _|_|i
   .rfl
   .rfl
   exact absurd hi (by show ¬i+1+1<2*1;omega)
  simp only[wu];by_cases c:zf s<0
  .rw[if_pos c];rfl
  rw[if_neg c];rfl
 .intro a G b hb y;simp only[oq,List.not_mem_nil,or_false]at G hb;rcases G with rfl|rfl|rfl|rfl|rfl<;>rcases hb with rfl|rfl|rfl|rfl|rfl<;>first|rfl|(simp at y)
 obtain⟨n,tm,d,I⟩:=K;simp only[oo,oA,oB]at es;obtain⟨rfl,rfl,L,M,N⟩:=es;have o:Has tm [(5,dd (if zf s<0 then 22 else 0)),(4,.ptr 0 0)]:=⟨L,M,trivial⟩;refine wpS.av o zTT rfl rfl ⟨λc=>?_,λc=>?_⟩
 .have g:zf s<0:=by
   by_cases g:zf s<0
   .exact g
   rw[if_neg g]at c;exact absurd rfl c
  rw[if_pos g]at *;refine o.on λz f=>?_
  refine thenC.rt (endW.r2 (f.get rfl) (f.get rfl) ?_);have:=j I;unfold qO at this;rw[if_pos g]at this;exact this
 have g:¬zf s<0:=λg=>c (by rw[if_pos g];decide)
 refine o.on λz f=>thenC.nx (wpS.av f zTU rfl rfl ⟨s,zO zJe rfl N rfl,OO ⟨_,rfl,f.on λO r=>endW.r2 (r.get rfl) (r.get rfl) ?_⟩⟩)
 have:=j I;unfold qO at this;rw[if_neg g]at this;exact this
abbrev OD(s:Ua)(left:Nat):V:=.agg [.str s,dd left]
def zM5(s:Ua)(left:Nat):H:=((H0.new (.cells (.ls [.str s,dd left]) ⟨0,120+1,0⟩ true false)).new (.cells (.ls [.str []]) ⟨0,298+1,0⟩ true false)).upd 1 (some (.cells (.ls [.str s]) ⟨0,298+1,0⟩ true false))
def zWm(s:Ua)(left:Nat):Tm:=Tb.set (Tb.set (Tb.set (Tb.set (Tb.set (Tb.set (Tb.set (Tb.leaf zC) 0 (OD s left)) 1 (.ptr 0 0)) 2 (dd 0)) 4 (.ptr 0 (0+0))) 5 (.str s)) 6 (.agg [.str s])) 3 (.ptr 1 0)
def zHT:Nat:=(ya z2s.toList).getD 0
def zHj(s:Ua)(left z:Nat):Option (List Qy×St) :=
 Yn zB z2s.toList (zi z2s.toList []) zHT zHT 0 z2s.toList ⟨27,zWm s left,[],zM5 s left⟩ [.bool false,dd z,dd z,dd 0]
theorem zK4:ya z2s.toList=some zHT:=da
theorem zKs(s:Ua)(left z:Nat):(zHj s left z).isSome=true:=da
theorem zKt(s:Ua)(left z:Nat):(zHj s left z).map (λx=>x.1.map λq=>(q.1,q.2.2)) =
  some [((305,[tl s]),.bool false),((306,[tl s]),dd z),((306,[tl s]),dd z),((250,[.bool (ltF (z:Nat) (left:Nat)),dd 10]),dd 0)]:=da
theorem zPV(s:Ua)(left z:Nat):(zHj s left z).map (λx=>(x.2.n,x.2.dfr,zI x.2.tm 2))=some (27,[],dd 0):=da
theorem zCz{left:Nat}(hs:s.length<=2000)(hl:(left:Int)<=zf s)(c:Q (dd 0) h):RF P zB 308 [OD s left] h Q:=by
 refine RF.plain ?_ (zk rfl);have c:∀h':H,Plain (dd 0)/\Q (dd 0) h:=λ_=>⟨zL _ _,c⟩
 obtain⟨z,t⟩:∃z:Nat,zf s=z:=⟨(zf s).toNat,oy⟩;refine yU z10 ⟨db,?_⟩;rintro p0 h1 rfl rfl;refine⟨s,zK kO rfl (zM _ db) rfl,(show 1<T.top by decide),?_⟩;rintro G I rfl rfl;refine⟨zM5 s left,z6 zJe (zM _ (show 1<T.top by decide)) rfl,?_⟩;obtain⟨⟨B,C⟩,e⟩:=Option.isSome_iff_exists.1 (zKs s left z);have k:=qs_at e (zKt _ _ _);have es:=zPV s left z;rw[e]at es;obtain⟨q0,g,i,j,rfl⟩:∃q0 g i j,B=[q0,g,i,j]:=z30 (by have:=congrArg List.length k;simpa using this);simp only[List.map_cons,List.map_nil,List.cons.injEq,oB,and_true]at k;obtain⟨⟨k0,v0⟩,⟨u,v1⟩,⟨v,w⟩,⟨x,y⟩⟩:=k;obtain⟨⟨J,a0⟩,⟨w0,K⟩⟩:=q0;obtain⟨⟨L,a1⟩,⟨M,N⟩⟩:=g;obtain⟨⟨O,a2⟩,⟨R,S⟩⟩:=i;obtain⟨⟨U,a3⟩,⟨V,W⟩⟩:=j;simp only at k0 v0 u v1 v w x y;obtain⟨rfl,rfl⟩:=k0;obtain⟨rfl,rfl⟩:=u;obtain⟨rfl,rfl⟩:=v;obtain⟨rfl,rfl⟩:=x;subst v0 v1 w y;refine wpDr.ans zK4 e ?_ ?_ ?_
 .intro q c;simp only[oq,List.not_mem_nil,or_false]at c;rcases c with rfl|rfl|rfl|rfl
  .refine RF.same (zIy ⟨?_,rfl⟩);rw[decide_eq_false oy]
  .exact RF.same (OO ⟨by rw[t],rfl⟩)
  .exact RF.same (OO ⟨by rw[t],rfl⟩)
  refine RF.same (Y9 ⟨?_,rfl⟩);rw[xa,decide_eq_false oy];rfl
 .intro a A b hb o;simp only[oq,List.not_mem_nil,or_false]at A hb;rcases A with rfl|rfl|rfl|rfl<;>rcases hb with rfl|rfl|rfl|rfl<;>first|rfl|(simp at o)
 obtain⟨n,tm,d,D⟩:=C;simp only[oo,oA,oB]at es;obtain⟨rfl,rfl,E⟩:=es;have f:Has tm [(2,dd 0)]:=⟨E,trivial⟩;exact wpS.av f zT7 rfl rfl (f.on λF r=>endW.r1 (r.get rfl) (c D))
def oBk(s:Ua)(left:Nat):O:=.cells (.ls [.str s,dd left]) ⟨0,360+1,0⟩ true false
theorem YS(s:Ua)(left n:Nat):yI s left (n+1)=2*yI s left n+(if n<left then wY s (left-1-n) else 0):=rfl
theorem zK9{left:Nat}(v:h.get p=some (oBk s left))(hs:s.length<=2000)(hl:left<=8*s.length)(D:n<=32)(y:Q (.int .u64 (yI s left n:Nat)) h):
  RF P zB 309 [.ptr p 0,dd n] h Q:=by
 refine yU z11 (Has.nil.on λtm j=>?_);refine wpC.round (λk tm h'=>∃i:Nat,i<=n/\k=n-i/\h'=h/\Has tm [(9,dd i),(8,dd n),(5,.int .u64 (yI s left i:Nat)),(0,.ptr p 0)]) n ⟨0,oy,rfl,rfl,j.sub rfl⟩ ?_;rintro k tm h' ⟨i,hi,rfl,rfl,d⟩;have hb:=jX s left i;have w:2^i<=2^32:=Nat.pow_le_pow_right db oy;have e:zG ((i:Int)+1)=((i+1:Nat):Int):=by rw[zD oy oy];rfl
 have el:zG (zG ((left:Int)-1)-(i:Int))=(left:Int)-1-i:=by rw[zD (n:=(left:Int)-1) oy oy,zD oy oy]
 refine wpC.av d zSU rfl rfl ⟨λc=>?_,λc=>d.on λf b=>?_⟩
 rotate_left
 .have g:i=n:=oy
  subst g;refine thenC.left (wpS.av b zT8 rfl rfl (b.on λz o=>?_));exact endW.r1 (o.get rfl) y
 have g:i<n:=oy
 have x:2^i<=2^31:=Nat.pow_le_pow_right db oy;refine⟨((yI s left i*2^1:Nat):Int),ZK (n:=1) db oy,.ptr p 0,h',rfl,?_⟩;show ∃A,zo zB 3 h' (.ptr p (0+1))=some (dd A)/\_;refine⟨left,zK zm rfl v rfl,λq=>⟨.ptr p 0,h',rfl,?_⟩,λq=>d.on λf b=>?_⟩
 .rw[el]at q;have r:i<left:=oy
  have t:left-1-i<8*s.length:=oy
  have B:=Z5 s (left-1-i);show ∃u,zo zB 298 h' (.ptr p (0+0))=some (.agg [.str u])/\_;refine⟨s,zO zJe rfl v rfl,?_⟩;try dsimp only
  rw[el,show(left:Int)-1-i=((left-1-i:Nat):Int)by omega];refine zVj t oy ⟨_,rfl,((yI s left (i+1):Nat):Int),?_,d.on λf b=>?_⟩
  .rw[zD2 oy,Nat.or_comm,zAS (a:=wY s (left-1-i)) (i:=1) oy,YS,if_pos r];congr 3;omega
  refine⟨rfl,rfl,n-(i+1),oy,i+1,oy,rfl,rfl,?_⟩;try dsimp only
  rw[<-e];exact b.sub rfl
 rw[el]at q;have C:yI s left (i+1)=yI s left i*2^1:=by rw[YS,if_neg oy];omega
 refine⟨rfl,rfl,n-(i+1),oy,i+1,oy,rfl,rfl,?_⟩;try dsimp only
 rw[C,<-e];exact b.sub rfl
def K0(s:Ua)(left:Nat):H:=H0.new (.cells (.ls [.str s,dd left]) ⟨0,120+1,0⟩ true false)
abbrev Ju(a b:Int):O:=.cells (.ls [dd a,dd b]) ⟨0,24+1,0⟩ true false
theorem zGs(s:Ua)(left:Nat)(a b:Int):zJ zB 343 2 [(0,dd a),(1,dd b)] (K0 s left)=some (.slice 1 0 2 (.exact 2),(K0 s left).new (Ju a b)):=da
def K1(s:Ua)(left:Nat):H:=(K0 s left).new (.cells (.ls [.str [],dd 0]) ⟨0,120+1,0⟩ true false)
theorem O0(s:Ua)(left:Nat)(a b:Int):zJ zB 343 2 [(0,dd a),(1,dd b)] (K1 s left)=some (.slice 2 0 2 (.exact 2),(K1 s left).new (Ju a b)):=da
theorem zHw{b:Nat}{x y:Int}(hb:b<h.nx)(a:h.get b=some (Ju x y)):Sl h (.slice b 0 2 (.exact 2)) 1 [x,y].length ([x,y].map λn=>dd n) :=
 ⟨rfl,.inr ⟨b,0,_,_,_,_,_,rfl,hb,a,λi hi=>by
  rcases i with _|_|i
  .rfl
  .rfl
  exact absurd hi (by show ¬i+1+1<2*1;omega)⟩⟩
theorem zOD{left:Nat}(hs:s.length<=2000)(hl:(left:Int)<=zf s)(i:n<=32)(j:Q (.tuple [.int .u64 (yI s left n:Nat),dd 0]) h):RF P zB 278 [OD s left,dd n] h Q:=by refine RF.plain ?_ (zk rfl);have v:=wS s;refine yU z1Q ⟨db,?_⟩;rintro p0 h1 rfl rfl;have f:(K0 s left).get 0=some (.cells (.ls [.str s,dd left]) ⟨0,120+1,0⟩ true false):=zM _ db;have k:((K0 s left).new (Ju 0 0)).get 1=some (Ju 0 0):=zM _ (show 1<T.top by decide);have g:((K0 s left).new (Ju 0 0)).get 0=some (.cells (.ls [.str s,dd left]) ⟨0,120+1,0⟩ true false):=(xJ _ (show 1<T.top by decide) (show 0<1 by decide)).trans f;refine⟨s,left,zO zw rfl f rfl,zCz hs hl ⟨0,rfl,λc=>oy,λ_=>⟨λc=>oy,λ_=>Y9 ⟨0,rfl,_,_,zGs s left 0 0,Xd (zHw (show 1<2 by decide) k) db ⟨0,rfl,Has.nil.on λtm a=>?_⟩⟩⟩⟩⟩;refine wpS.av a zTZ rfl rfl ⟨λc=>absurd rfl c,λ_=>a.on λqM e=>thenC.nx (e.sealK λo b=>?_)⟩;refine wpS.av b zT0 rfl rfl ?_;show ∃l2,zo zB 9 ((K0 s left).new (Ju 0 0)) (.ptr 0 (0+0))=some (.str l2)/\_;refine⟨s,zK kO rfl g rfl,?_⟩;show ∃q,zo zB 3 ((K0 s left).new (Ju 0 0)) (.ptr 0 (0+1))=some (dd q)/\_;refine⟨left,zK zm rfl g rfl,(show 2<T.top by decide),?_⟩;rintro w x rfl r;obtain⟨y,z,t⟩:=zq r (show 2<T.top by decide);refine zK9 t hs oy i ⟨_,rfl,b.on λu d=>endW.r2 (d.get rfl) (d.get rfl) ⟨yc rfl,j⟩⟩
def tkB(s:Ua)(left n:Nat):V:=if n<=left then .tuple [OD s (left-n),.int .u64 (yI s left n:Nat),dd 0] else .tuple [.agg [.str [],dd 0],.int .u64 0,dd 5]
theorem zCH(s:Ua)(left n:Nat):Plain (tkB s left n):=by unfold tkB;split<;>exact yc rfl
theorem zGT{left:Nat}(hs:s.length<=2000)(hl:(left:Int)<=zf s)(t:n<=32)(e:Q (tkB s left n) h):RF P zB 215 [OD s left,dd n] h Q:=by
 refine RF.plain ?_ (zk rfl);have e:∀h':H,Plain (tkB s left n)/\Q (tkB s left n) h:=λ_=>⟨zCH _ _ _,e⟩
 have w:=wS s;refine yU z0w ⟨db,?_⟩;rintro p0 h1 rfl rfl;refine⟨(show 1<T.top by decide),?_⟩;rintro x y rfl rfl;have g0:(K1 s left).get 0=some (.cells (.ls [.str s,dd left]) ⟨0,120+1,0⟩ true false):=(xJ _ (show 1<T.top by decide) (show 0<1 by decide)).trans (zM _ db);have u:(K1 s left).get 1=some (.cells (.ls [.str [],dd 0]) ⟨0,120+1,0⟩ true false):=zM _ (show 1<T.top by decide);have k0:∀a b,((K1 s left).new (Ju a b)).get 0=some (.cells (.ls [.str s,dd left]) ⟨0,120+1,0⟩ true false):=λa b=>(xJ _ (show 2<T.top by decide) (show 0<2 by decide)).trans g0
 have q:∀a b,((K1 s left).new (Ju a b)).get 1=some (.cells (.ls [.str [],dd 0]) ⟨0,120+1,0⟩ true false):=λa b=>(xJ _ (show 2<T.top by decide) (show 1<2 by decide)).trans u
 have r:∀a b,((K1 s left).new (Ju a b)).get 2=some (Ju a b):=λa b=>zM _ (show 2<T.top by decide)
 refine⟨s,left,zO zw rfl g0 rfl,zOD hs hl t ⟨_,_,rfl,left,zK zm rfl g0 rfl,λc=>?_,λc=>?_⟩⟩
 .have f:¬n<=left:=oy
  unfold tkB at e;rw[if_neg f]at e;refine Y9 ⟨5,rfl,_,_,O0 s left 0 5,Xd (zHw (show 2<3 by decide) (r 0 5)) db ⟨5,rfl,λ_=>?_,λg=>absurd (show(5:Int)≠0 by decide) g⟩⟩;exact⟨_,z6 zw (q 0 5) rfl,endL.ok (leaveL.cell (zO zw rfl (zF _ (show 1<T.top by decide)) rfl) rfl) (e H0)⟩
 have i:n<=left:=oy
 unfold tkB at e;rw[if_pos i]at e;refine Y9 ⟨0,rfl,_,_,O0 s left 0 0,Xd (zHw (show 2<3 by decide) (r 0 0)) db ⟨0,rfl,λg=>absurd rfl g,λ_=>?_⟩⟩;have v:zG ((left:Int)-n)=((left-n:Nat):Int):=by rw[zD oy oy];omega
 refine⟨left,zK zm rfl (k0 0 0) rfl,?_⟩;try dsimp only
 rw[v];obtain⟨d,j,k,o⟩:∃d,zZ zB 3 ((K1 s left).new (Ju 0 0)) (.ptr 0 (0+1)) (dd ((left-n:Nat):Int))=some d/\d.get 0=some (.cells (.ls [.str s,dd ((left-n:Nat):Int)]) ⟨0,120+1,0⟩ true false)/\d.get 1=some (.cells (.ls [.str [],dd 0]) ⟨0,120+1,0⟩ true false) :=
  ⟨_,z6 zm (k0 0 0) rfl,zF _ db,(zS _ db db).trans (q 0 0)⟩
 exact⟨d,j,s,((left-n:Nat):Int),zO zw rfl k rfl,_,z6 zw o rfl,endL.ok (leaveL.cell (zO zw rfl (zF _ (show 1<T.top by decide)) rfl) rfl) (e H0)⟩
def rdB(s:Ua):V:=if zf s<0 then .tuple [.agg [.str [],dd 0],dd 22] else .tuple [.agg [.str s,dd (zf s)],dd 0]
theorem zCG(s:Ua):Plain (rdB s):=by unfold rdB;split<;>exact yc rfl
theorem zFq(hs:s.length<=2000)(a:Q (rdB s) h):RF P zB 213 [.str s] h Q:=by
 refine RF.plain ?_ (zk rfl);have a:∀h':H,Plain (rdB s)/\Q (rdB s) h:=λ_=>⟨zCG _,a⟩
 refine yU z0u ⟨db,?_⟩;rintro p0 h1 rfl d;obtain⟨e,f,b⟩:=zq d db;refine zEZ hs ?_;unfold qO;unfold rdB at a;by_cases c:zf s<0
 .rw[if_pos c]at a ⊢;exact⟨0,22,rfl,λ_=>⟨_,z6 zw b rfl,endL.ok (leaveL.cell (zO zw rfl (zF _ db) rfl) rfl) (a H0)⟩,λg=>absurd (show(22:Int)≠0 by decide) g⟩
 rw[if_neg c]at a ⊢;exact⟨zf s,0,rfl,λg=>absurd rfl g,λ_=>⟨_,z6 zw b rfl,endL.ok (leaveL.cell (zO zw rfl (zF _ db) rfl) rfl) (a H0)⟩⟩
def wg(l:Ub):Bool:=l.all λx=>decide (0<=x) && decide (x<=11)
def wy(l:Ub):Nat:=(l.filter λx=>decide (x≠0)).length
def zM9(l:Ub):V:=if wg l=true then .tuple [dd (wy l:Nat),.bool true] else .tuple [dd 0,.bool false]
theorem jF(l m:Ub):wg (l++m)=(wg l && wg m):=List.all_append ..
theorem YV(l m:Ub):wy (l++m)=wy l+wy m:=by unfold wy;rw[List.filter_append,oe]
theorem Of(l:Ub):wy l<=l.length:=List.length_filter_le _ _
theorem zKY{v:V}{l:Ub}(sl:Sl h v 1 l.length (zV l))(hl:l.length<4611686018427387904)(j:Q (zM9 l) h):RF P zB 142 [v] h Q:=by
 refine yU z0Z ⟨_,sl.len z7 rfl,Has.nil.on λtm hs=>?_⟩;refine wpC.round (λk tm h'=>∃i:Nat,i<=l.length/\k=l.length-i/\h'=h/\wg (l.take i)=true/\Has tm [(8,dd i),(7,dd l.length),(6,v),(2,dd (wy (l.take i):Nat)),(3,.bool false)]) l.length ⟨0,oy,oy,rfl,by simp[wg],hs.sub rfl⟩ ?_;rintro k tm h' ⟨i,h1,rfl,rfl,z,hs⟩;refine wpC.av hs zRo rfl rfl ⟨λc=>?_,λc=>hs.on λq a=>?_⟩
 .have hi:i<l.length:=oy
  have A:l[i]? = some l[i]:=oU hi;obtain⟨b,o,F,D⟩:=sl.at1 (u:=dd l[i]) hi z7 rfl zm rfl rfl (by rw[oh,A];rfl);have w:l.take (i+1)=l.take i++[l[i]]:=by rw[List.take_add_one,A];rfl
  have f:∀x,x∈[l[i]]->¬(0<=x/\x<=11)->zM9 l = .tuple [dd 0,.bool false]:=λx G H=>by unfold zM9;rw[if_neg];intro g;rw[<-List.take_append_drop (i+1) l,jF,w,jF]at g;simp only[oM]at g;have:=List.all_eq_true.1 g.1.2 x G;simp only[oM,decide_eq_true_eq]at this;exact H this
  generalize l[i]=x at A D w f;have e:zG ((i:Int)+1)=((i+1:Nat):Int):=by rw[zD oy oy];rfl
  refine⟨b,o,F,x,D,λI=>hs.on λq a=>?_,λI=>⟨λJ=>hs.on λq a=>?_,λJ=>hs.on λq a=>?_⟩⟩
  .rw[f x (List.mem_singleton.2 rfl) (λg=>oy)]at j;exact thenC.rt (thenC.rt (endW.r2 (a.get rfl) (a.get rfl) j))
  .rw[f x (List.mem_singleton.2 rfl) (λg=>oy)]at j;exact thenC.rt (thenC.rt (endW.r2 (a.get rfl) (a.get rfl) j))
  have hb:wg (l.take (i+1))=true:=by rw[w,jF,z];simp only[wg,List.all_cons,List.all_nil,Bool.and_true,Bool.true_and,oM,decide_eq_true_eq];omega
  have K:=Of (l.take i);rw[List.length_take]at K;refine wpS.av a zSi rfl rfl ⟨λE=>a.on λy d=>?_,λE=>a.on λy d=>?_⟩
  .refine thenC.nx (wpS.av d zJk rfl rfl (d.on λB r=>r.slt λwH t=>⟨rfl,rfl,l.length-(i+1),oy,i+1,oy,rfl,rfl,hb,?_⟩));have C:zG (((wy (l.take i):Nat):Int)+1)=((wy (l.take (i+1)):Nat):Int):=by
    rw[zD oy oy,w,YV];have:wy [x]=1:=by simp[wy,E]
    omega
   rw[<-C,<-e];exact t.sub rfl
  refine thenC.nx (wpS.av d zJk rfl rfl (d.on λB r=>r.slt λwH t=>⟨rfl,rfl,l.length-(i+1),oy,i+1,oy,rfl,rfl,hb,?_⟩));have C:wy (l.take (i+1))=wy (l.take i):=by
   rw[w,YV];have:x=0:=oy
   subst this;rfl
  rw[C,<-e];exact t.sub rfl
 have hi:i=l.length:=oy
 subst hi;rw[List.take_length]at z a;unfold zM9 at j;rw[if_pos z]at j;refine thenC.left (wpS.av a zSj rfl rfl (a.on λy d=>?_));exact endW.r2 (d.get rfl) (d.get rfl) j
def kR(x:Int):Nat:=if x≠0 then 2^(x.toNat-1) else 0
def yH(l:Ub):Nat:=(l.map kR).sum
theorem zBH(l m:Ub):yH (l++m)=yH l+yH m:=by unfold yH;rw[List.map_append,List.sum_append]
theorem zDx{x:Int}(h:x<=11):kR x<=1024:=by
 unfold kR;split
 .exact oW (Nat.pow_le_pow_right db (show x.toNat-1<=10 by omega)) db
 omega
theorem J0:∀{l:Ub},wg l=true->yH l<=1024*l.length
 | [],_=>by simp[yH]
 | x::l,h=>by
  unfold wg at h;rw[List.all_cons,oM,oM]at h;have h1:=zDx (of_decide_eq_true h.1.2);have a:=J0 (l:=l) h.2;have:yH (x::l)=kR x+yH l:=by simp[yH]
  rw[this,og];omega
theorem zW1{x:Int}(h1:1<=x)(c:x<=11)(b:Q (dd (kR x:Nat)) h):RF P zB 144 [dd x] h Q:=by
 have e:zU .u64 (zG (x-1))=((x.toNat-1:Nat):Int):=by rw[zD oy oy,show x-1=((x.toNat-1:Nat):Int)by omega,zb oy]
 have d:2^(x.toNat-1)<=2^10:=Nat.pow_le_pow_right db oy;refine yU z01 ⟨((1*2^(x.toNat-1):Nat):Int),by rw[e];exact zz (a:=1) oy oy,?_⟩;unfold kR at b;rw[if_pos oy]at b
 rwa [Nat.one_mul]
theorem zPn{v:V}{l:Ub}(sl:Sl h v 1 l.length (zV l))(hl:l.length<=1000)(d:wg l=true)(w:Q (dd (yH l:Nat)) h):
  RF P zB 143 [v,.func (.func 144) [] []] h Q:=by
 refine yU z00 ⟨_,sl.len z7 rfl,Has.nil.on λtm hs=>?_⟩;refine wpC.round (λk tm h'=>∃i:Nat,i<=l.length/\k=l.length-i/\h'=h/\Has tm [(9,dd i),(8,dd l.length),(7,v),(4,dd (yH (l.take i):Nat)),(1,.func (.func 144) [] [])]) l.length ⟨0,oy,oy,rfl,hs.sub rfl⟩ ?_;rintro k tm h' ⟨i,h1,rfl,rfl,hs⟩;refine wpC.av hs zRp rfl rfl ⟨λc=>?_,λc=>hs.on λf a=>?_⟩
 .have hi:i<l.length:=oy
  have g:l[i]? = some l[i]:=oU hi;obtain⟨b,o,y,q⟩:=sl.at1 (u:=dd l[i]) hi z7 rfl zm rfl rfl (by rw[oh,g];rfl);have r:l.take (i+1)=l.take i++[l[i]]:=by rw[List.take_add_one,g];rfl
  have hr:0<=l[i]/\l[i]<=11:=by have:=List.all_eq_true.1 d l[i] (od hi);simpa using this
  generalize l[i]=x at g q r hr;have e:zG ((i:Int)+1)=((i+1:Nat):Int):=by rw[zD oy oy];rfl
  have t:yH (l.take (i+1))=yH (l.take i)+kR x:=by rw[r,zBH];simp[yH]
  have hb:yH (l.take i)<=1024*i:=by
   have z:wg (l.take i)=true:=by have:=d;rw[<-List.take_append_drop i l,jF,oM]at this;exact this.1
   have:=J0 z;rw[List.length_take]at this;omega
  have D:=zDx hr.2;refine⟨b,o,y,x,q,λA=>?_,λA=>hs.on λf a=>⟨rfl,rfl,l.length-(i+1),oy,i+1,oy,rfl,rfl,?_⟩⟩
  .show RF P zB 144 [dd x] h' _;refine zW1 oy hr.2 ?_;refine⟨((kR x:Nat):Int),rfl,hs.on λf a=>⟨rfl,rfl,l.length-(i+1),oy,i+1,oy,rfl,rfl,?_⟩⟩;have B:zG (((yH (l.take i):Nat):Int)+(kR x:Nat))=((yH (l.take (i+1)):Nat):Int):=by rw[zD oy oy,t];rfl
   rw[<-B,<-e];exact a.sub rfl
  have:yH (l.take (i+1))=yH (l.take i):=by
   rw[t];have:x=0:=oy
   subst this;rfl
  rw[this,<-e];exact a.sub rfl
 have hi:i=l.length:=oy
 subst hi;rw[List.take_length]at a;refine thenC.left (wpS.av a zSk rfl rfl (a.on λC j=>?_));exact endW.r1 (j.get rfl) w
def yM(l:Ub):Nat:=2^zT (yH l)-yH l
def wok(l:Ub):Prop:=wy l≠0/\zT (yH l)<=11/\yM l=2^(yM l).log2
instance(l:Ub):Decidable (wok l):=inferInstanceAs (Decidable (_/\_/\_))
def zKW(l:Ub):V :=
 if l.length<1\/255<l.length then .tuple [dd 0,dd 0,dd 4]
 else if wg l=true then
  (if wok l then .tuple [dd (zT (yM l):Nat),dd (zT (yH l):Nat),dd 0] else .tuple [dd 0,dd 0,dd 21])
 else .tuple [dd 0,dd 0,dd 2]
theorem Oy{v:V}(sl:Sl h v 1 l.length (zV l))(hl:l.length<4611686018427387904)(d:Q (zKW l) h):RF P zB 82 [v] h Q:=by
 refine yU z4T ⟨_,sl.len z7 rfl,λc=>?_,λc=>⟨_,sl.len z7 rfl,λr=>?_,λr=>Has.nil.on λtm hs=>?_⟩⟩
 .unfold zKW at d;rw[if_pos (.inl oy)]at d;exact d
 .unfold zKW at d;rw[if_pos (.inr oy)]at d;exact d
 unfold zKW at d;rw[if_neg oy]at d;refine wpS.av hs zXt rfl rfl (zKY sl hl ?_);unfold zM9;by_cases e:wg l=true
 .rw[if_pos e]at d ⊢;have C:=J0 e;have hm:zT (yH l)<=20:=yK;have t:=jB (yH l);have D:2^zT (yH l)<=2^20:=Nat.pow_le_pow_right db hm;refine⟨(wy l:Nat),true,rfl,λ_=>zPn sl oy e ⟨_,rfl,zDA ?_⟩,λg=>(by cases g)⟩;rw[Zw];have u:zU .u64 (max ((zT (yH l):Nat):Int) 0)=((zT (yH l):Nat):Int):=by
   rw[show max ((zT (yH l):Nat):Int) 0=((zT (yH l):Nat):Int)by omega,zb oy]
  have w:zG (((1*2^zT (yH l):Nat):Int)-(yH l:Nat))=((yM l:Nat):Int):=by rw[zD oy oy];unfold yM;omega
  have x:1<=yM l:=by unfold yM;omega
  have y:yM l<=2^20:=by unfold yM;omega
  have z:zG (((yM l:Nat):Int)-1)=((yM l-1:Nat):Int):=by rw[zD oy oy];omega
  refine⟨_,rfl,((1*2^zT (yH l):Nat):Int),by rw[u];exact zz (a:=1) oy oy,λo=>hs.on λf b=>?_,λo=>⟨λA=>hs.on λf b=>?_,λA=>?_⟩⟩
  .rw[if_neg (λg:wok l=>g.1 oy)]at d;exact endW.r3 (b.get rfl) (b.get rfl) (b.get rfl) d
  .rw[if_neg (λg:wok l=>by have:=g.2.1;omega)]at d;exact endW.r3 (b.get rfl) (b.get rfl) (b.get rfl) d
  rw[w];refine⟨λE=>oy,λ_=>⟨((yM l &&& (yM l-1):Nat):Int),by rw[z];exact qt oy oy,λq=>hs.on λf b=>?_,λq=>hs.on λf b=>?_⟩⟩
  .rw[if_neg (λg:wok l=>q (by rw[(zFZ).2 g.2.2];rfl))]at d;exact endW.r3 (b.get rfl) (b.get rfl) (b.get rfl) d
  have j:wok l:=⟨λg=>o oy,oy,(zFZ).1 oy⟩
  rw[if_pos j]at d;refine wpS.av b zXs rfl rfl (zDA ⟨_,rfl,b.on λB k=>?_⟩);refine k.slt λwH i=>?_
  refine endW.r3 (i.get rfl) (i.get rfl) (i.get rfl) ?_;try dsimp only
  rw[Zw];exact d
 rw[if_neg e]at d ⊢;refine⟨0,false,rfl,λg=>(by cases g),λ_=>hs.on λf b=>endW.r3 (b.get rfl) (b.get rfl) (b.get rfl) d⟩
def XS(l:Ub):Int:=if l.length<1\/255<l.length then 4 else if wg l=true then (if wok l then 0 else 21) else 2
theorem zFw{v:V}(sl:Sl h v 1 l.length (zV l))(hl:l.length<4611686018427387904)(a:Q (dd (XS l)) h):RF P zB 41 [v] h Q:=by
 refine yU z3u (Oy sl hl ?_);unfold zKW;unfold XS at a;split at a
 .rename_i c;rw[if_pos c];exact⟨_,_,_,rfl,a⟩
 rename_i c;rw[if_neg c];split at a
 .rename_i b;rw[if_pos b];split at a
  .rename_i d;rw[if_pos d];exact⟨_,_,_,rfl,a⟩
  rename_i d;rw[if_neg d];exact⟨_,_,_,rfl,a⟩
 rename_i b;rw[if_neg b];exact⟨_,_,_,rfl,a⟩
theorem zHY(h:0<m):zT m=zT (m/2)+1:=by
 unfold zT;rw[if_neg oy];by_cases h2:m/2=0
 .have:m=1:=oy
  subst this;rfl
 rw[if_neg h2,Nat.log2_def,if_pos oy]
theorem zA8(e:Q (dd ((zT n:Nat)-1:Int)) h)(f:n<9223372036854775808:=by omega):RF P zB 153 [dd n] h Q:=by
 have hb:zT n<=63:=yK f;refine yU z0a (Has.nil.on λtm hs=>?_);refine wpC.round (λk tm h'=>∃m:Nat,m<=n/\zT m<=zT n/\k=m/\h'=h/\Has tm [(0,dd m),(3,dd ((zT n:Nat)-(zT m:Nat)-1:Int))]) n ⟨n,oV _,oV _,rfl,rfl,by rw[show((zT n:Nat)-(zT n:Nat)-1:Int) = -1 by omega];exact hs.sub rfl⟩ ?_;rintro k tm h' ⟨m,h1,t,rfl,rfl,hs⟩;refine wpC.av hs zRx rfl rfl ⟨λc=>⟨db,hs.on λb a=>?_⟩,λc=>hs.on λb a=>?_⟩
 .have g:0<k:=oy
  have u:=zHY g;refine⟨rfl,rfl,k/2,oy,k/2,oy,oy,rfl,rfl,?_⟩;have i:zG (Int.tdiv (k:Int) 2)=((k/2:Nat):Int):=by rw[show Int.tdiv (k:Int) 2=((k/2:Nat):Int)from rfl,zD oy oy]
  have j:zG (((zT n:Nat)-(zT k:Nat)-1:Int)+1)=((zT n:Nat)-(zT (k/2):Nat)-1:Int):=by rw[zD oy oy];omega
  rw[<-i,<-j];exact a.sub rfl
 have o:k=0:=oy
 subst o;have q:((zT n:Nat)-(zT 0:Nat)-1:Int)=((zT n:Nat)-1:Int):=by rw[show zT 0=0 from rfl];omega
 rw[q]at a;refine thenC.left (wpS.av a zSu rfl rfl (a.on λr d=>?_));exact endW.r1 (d.get rfl) e
theorem zCV(b:Q (dd (zT n:Nat)) h)(a:n<9223372036854775808:=by omega):RF P zB 156 [dd n] h Q:=by
 have hb:zT n<=63:=yK a;refine yU z0d (zA8 ⟨_,rfl,?_⟩ a);try dsimp only
 rw[show zG (((zT n:Nat)-1:Int)+1)=((zT n:Nat):Int)by rw[zD oy oy];omega];exact b
def pt(x:Int):Int:=if x<0 then 1 else x
def pts(l:Ub):Int:=(l.map pt).sum
theorem JF(l m:Ub):pts (l++m)=pts l+pts m:=by unfold pts;rw[List.map_append,List.sum_append]
theorem OM(x:Int):pts [x]=pt x:=by simp[pts]
theorem zF1{x:Int}(h:x<=1048576):0<=pt x/\pt x<=1048576:=by unfold pt;split<;>omega
theorem zCK:∀{l:Ub},(∀x∈l,x<=1048576)->0<=pts l/\pts l<=1048576*l.length
 | [],_=>by simp[pts]
 | x::l,h=>by
  have h1:=zF1 (h x (List.mem_cons_self ..));have b:=zCK (l:=l) λy a=>h y (oN _ a)
  have:pts (x::l)=pt x+pts l:=by simp[pts]
  rw[this,og];omega
theorem zA9{v:V}{l:Ub}(sl:Sl h v 1 l.length (zV l))(hl:l.length<=1000)(t:∀x∈l,x<=1048576)(B:Q (dd (pts l)) h):RF P zB 148 [v] h Q:=by
 refine yU z05 (Has.nil.on λtm hs=>?_);refine wpC.round (λk tm h'=>∃i:Nat,i<=l.length/\k=l.length-i/\h'=h/\Has tm [(4,dd i),(0,v),(3,dd (pts (l.take i)))]) l.length ⟨0,oy,oy,rfl,hs.sub rfl⟩ ?_;rintro k tm h' ⟨i,h1,rfl,rfl,hs⟩;refine wpC.av hs zRq rfl rfl ⟨_,sl.len z7 rfl,λc=>?_,λc=>hs.on λd a=>?_⟩
 .have hi:i<l.length:=oy
  have f:l[i]? = some l[i]:=oU hi;obtain⟨b,o,w,g⟩:=sl.at1 (u:=dd l[i]) hi z7 rfl zm rfl rfl (by rw[oh,f];rfl);have z:l.take (i+1)=l.take i++[l[i]]:=by rw[List.take_add_one,f];rfl
  have hr:=t l[i] (od hi);generalize l[i]=x at f g z hr;have e:zG ((i:Int)+1)=((i+1:Nat):Int):=by rw[zD oy oy];rfl
  have hb:=zCK (l:=l.take i) λy C=>t y (List.mem_of_mem_take C)
  rw[List.length_take]at hb;have A:pts (l.take (i+1))=pts (l.take i)+pt x:=by rw[z,JF,OM]
  have E:=zF1 hr;refine⟨b,o,w,x,g,λj=>hs.on λd a=>⟨rfl,rfl,l.length-(i+1),oy,i+1,oy,rfl,rfl,?_⟩,λj=>⟨b,o,w,x,g,hs.on λd a=>⟨rfl,rfl,l.length-(i+1),oy,i+1,oy,rfl,rfl,?_⟩⟩⟩
  .have q:zG (pts (l.take i)+1)=pts (l.take (i+1)):=by
    rw[zD oy oy,A];unfold pt;rw[if_pos j]
   rw[<-q,<-e];exact a.sub rfl
  have q:zG (pts (l.take i)+x)=pts (l.take (i+1)):=by rw[zD oy oy,A];unfold pt;rw[if_neg j]
  rw[<-q,<-e];exact a.sub rfl
 have hi:i=l.length:=oy
 subst hi;rw[List.take_length]at a;refine thenC.left (wpS.av a zSm rfl rfl (a.on λD r=>?_));exact endW.r1 (r.get rfl) B
theorem zAa(hs:s.length<=1048576)(f:p<=8*s.length)(d:Q (dd 0) h):RF P zB 150 [rdr s p] h Q:=by
 refine RF.plain ?_ (zk rfl);refine yU z07 ⟨db,?_⟩;rintro q h1 rfl e;obtain⟨g,i,a⟩:=zq e db;refine⟨s,zK kO rfl a rfl,λc=>?_,λc=>⟨p,zK zm rfl a rfl,λc=>?_,λc=>⟨p,zK zm rfl a rfl,s,zK kO rfl a rfl,λc=>?_,λc=>⟨zL _ _,d⟩⟩⟩⟩
 .have b:(1048576:Int)<(s.length:Int):=c;omega
 .omega
 have b:zG (8*(s.length:Int))<(p:Int):=c;rw[zD oy oy]at b;omega
theorem zKo(hs:s.length<=1048576)(b:p<=8*s.length)(d:Q (.tuple [dd ((p+7)/8:Nat),dd 0]) h):RF P zB 85 [rdr s p] h Q:=by
 refine RF.plain ?_ (zk rfl);refine yU z4W ⟨db,?_⟩;rintro q h1 rfl f;obtain⟨g,i,a⟩:=zq f db;refine⟨s,p,zO yt rfl a rfl,zAa hs b ⟨0,rfl,λc=>absurd rfl c,λ_=>⟨p,zK zm rfl a rfl,db,yc rfl,?_⟩⟩⟩;have e:zG (Int.tdiv (zG ((p:Int)+7)) 8)=(((p+7)/8:Nat):Int):=by rw[zD (n:=(p:Int)+7) oy oy,show(p:Int)+7=((p+7:Nat):Int)from rfl,show Int.tdiv ((p+7:Nat):Int) 8=(((p+7)/8:Nat):Int)from rfl,zD oy oy]
 rw[e];exact d
theorem zHi{s:Ua}{p n:Nat}(hs:s.length<=1048576)(K:p<=8*s.length)(L:n<=32)(B:Q (dd (zu s p n:Nat)) h):RF P zB 279 [rdr s p,dd n] h Q:=by
 refine RF.plain ?_ (zk rfl);refine yU z1R ⟨db,?_⟩;rintro q h1 rfl j;obtain⟨M,N,o⟩:=zq j db;refine Has.nil.on λtm r=>?_
 refine wpC.round (λk tm h'=>∃i:Nat,i<=n/\k=n-i/\h'=h1/\Has tm [(6,dd i),(1,dd n),(2,.ptr H0.nx 0),(5,dd (zu s p i:Nat))]) n ⟨0,oy,rfl,rfl,r.sub rfl⟩ ?_;rintro k tm h' ⟨i,hi,rfl,rfl,d⟩;have O:=jE s p i;have z:2^i<=2^32:=Nat.pow_le_pow_right db oy;have e:zG ((i:Int)+1)=((i+1:Nat):Int):=by rw[zD oy oy];rfl
 have g:zG ((p:Int)+(i:Int))=((p+i:Nat):Int):=by rw[zD oy oy];rfl
 have el:zG (8*Int.ofNat s.length)=((8*s.length:Nat):Int):=by show zG (8*(s.length:Int))=_;rw[zD oy oy];omega
 refine wpC.av d zSQ rfl rfl ⟨λc=>?_,λc=>d.on λf a=>?_⟩
 rotate_left
 .have t:i=n:=oy
  subst t;refine thenC.left (wpS.av a zT1 rfl rfl (a.on λC u=>?_));exact endW.r1 (u.get rfl) ⟨zL _ _,B⟩
 show ∃D,zo zB 3 h' (.ptr H0.nx (0+1))=some (dd D)/\_;refine⟨p,zK zm rfl o rfl,?_⟩;show ∃E,zo zB 9 h' (.ptr H0.nx (0+0))=some (.str E)/\_;refine⟨s,zK kO rfl o rfl,λv=>?_,λv=>d.on λf a=>?_⟩
 .rw[g,el]at v;have F:p+i<8*s.length:=oy
  have w:s[(p+i)/8]? = some s[(p+i)/8]:=oU oy;have x:=(s[(p+i)/8]'oy).toNat_lt;generalize s[(p+i)/8]'oy=b at w x;have R:b.toNat/2^((p+i) % 8)<=b.toNat:=Nat.div_le_self _ _;have y:=Y7 w;have A:=Z5 s (p+i);have j:zG (Int.tdiv (zG ((p:Int)+(i:Int))) 8)=(((p+i)/8:Nat):Int):=by rw[g,show Int.tdiv ((p+i:Nat):Int) 8=(((p+i)/8:Nat):Int)from rfl,zD oy oy]
  have G:Int.tmod (zG ((p:Int)+(i:Int))) 8=(((p+i) % 8:Nat):Int):=by rw[g];rfl
  have hm:wY s (p+i)*2^i<=1*2^i:=Nat.mul_le_mul_right _ oy;show ∃H,zo zB 9 h' (.ptr H0.nx (0+0))=some (.str H)/\_;refine⟨s,zK kO rfl o rfl,db,(b.toNat:Int),by rw[j];exact yR w,db,((b.toNat/2^((p+i) % 8):Nat):Int),?_,((wY s (p+i):Nat):Int),?_,((wY s (p+i)*2^i:Nat):Int),?_,d.on λf a=>?_⟩
  .rw[G,zb oy,zD oy oy];exact kJ oy
  .rw[y,<-wz _ 1];exact qt (b:=1) oy db
  .rw[zb oy];exact zz oy oy
  refine⟨rfl,rfl,n-(i+1),oy,i+1,oy,rfl,rfl,?_⟩;have I:zG (((zu s p i:Nat):Int)+((wY s (p+i)*2^i:Nat):Int))=((zu s p (i+1):Nat):Int):=by rw[zD oy oy];rfl
  rw[<-e,<-I];exact a.sub rfl
 rw[g,el]at v;have J:zu s p (i+1)=zu s p i:=by show zu s p i+wY s (p+i)*2^i=_;rw[zC4];omega
 refine⟨rfl,rfl,n-(i+1),oy,i+1,oy,rfl,rfl,?_⟩;try dsimp only
 rw[J,<-e];exact a.sub rfl
theorem zKq(hs:s.length<=1048576)(d:p<=8*s.length)(f:n<=32)(g:Q (.tuple [dd (zu s p n:Nat),dd 0]) h):RF P zB 217 [rdr s p,dd n] h Q:=by refine RF.plain ?_ (zk rfl);refine yU z0y ⟨db,?_⟩;rintro q h1 rfl i;obtain⟨k,o,e⟩:=zq i db;refine⟨s,p,zO yt rfl e rfl,zAa hs d ⟨0,rfl,λ_=>⟨λc=>oy,λ_=>⟨λc=>oy,λ_=>Has.nil.on λtm a=>?_⟩⟩,λc=>absurd rfl c⟩⟩;refine wpS.av a zTI rfl rfl ⟨λc=>absurd rfl c,λ_=>⟨s,p,zO yt rfl e rfl,zHi hs d f ⟨_,rfl,a.on λj b=>?_⟩⟩⟩;exact endW.r2 (b.get rfl) (b.get rfl) ⟨yc rfl,g⟩
theorem zKv(hs:s.length<=1048576)(x:p<=8*s.length)(y:n<=32)(f:Q (tkF s p n) h):RF P zB 146 [rdr s p,dd n] h Q:=by
 refine RF.plain ?_ (zk rfl);have f:∀h':H,Plain (tkF s p n)/\Q (tkF s p n) h:=λ_=>⟨zCI _ _ _,f⟩
 have D:H0.nx=0:=rfl;have E:=zt;refine yU z03 ⟨db,?_⟩;rintro q0 h1 rfl z;obtain⟨F,G,A⟩:=zq z db;refine⟨oy,?_⟩;rintro I i rfl B;obtain⟨J,j,w⟩:=zq B;have d:i.get H0.nx=some (.cells (.ls [.str s,dd p]) ⟨0,112+1,0⟩ true false):=by rw[j.get _ oy];exact A
 have el:zG (8*Int.ofNat s.length)=((8*s.length:Nat):Int):=by show zG (8*(s.length:Int))=_;rw[zD oy oy];omega
 have k:zG ((p:Int)+(n:Int))=((p+n:Nat):Int):=by rw[zD oy oy];rfl
 refine⟨s,p,zO yt rfl d rfl,zKq hs x y ⟨_,0,rfl,λ_=>⟨p,zK zm rfl d rfl,s,zK kO rfl d rfl,λc=>Has.nil.on λtm e=>?_,λc=>Has.nil.on λtm e=>?_⟩,λc=>absurd rfl c⟩⟩
 .rw[el,k]at c;have o:¬p+n<=8*s.length:=oy
  unfold tkF at f;rw[if_neg o]at f;refine wpS.av e zJl rfl rfl ⟨λ_=>⟨_,z6 yt w rfl,e.on λq b=>?_⟩,λg=>absurd g db⟩;exact endW.ok (leave.cell (b.get rfl) (zO yt rfl (zF _) rfl) (leave.tmp (b.get rfl) (leave.tmp (b.get rfl) rfl))) (f H0)
 rw[el,k]at c;have r:p+n<=8*s.length:=oy
 unfold tkF at f;rw[if_pos r]at f;refine wpS.av e zJl rfl rfl ⟨λg=>absurd rfl g,λ_=>?_⟩;show ∃j,zo zB 3 i (.ptr H0.nx (0+1))=some (dd j)/\_;refine⟨p,zK zm rfl d rfl,?_⟩;show ∃a,zZ zB 3 i (.ptr H0.nx (0+1)) (dd (zG ((p:Int)+(n:Int))))=some a/\_;rw[k];obtain⟨a,t,u,v,C⟩:∃a,zZ zB 3 i (.ptr H0.nx (0+1)) (dd ((p+n:Nat):Int))=some a/\a.get H0.nx=some (.cells (.ls [.str s,dd ((p+n:Nat):Int)]) ⟨0,112+1,0⟩ true false)/\a.get h1.nx=i.get h1.nx/\a.nx=i.nx :=
  ⟨_,z6 zm d rfl,zF _,zS _,rfl⟩
 refine⟨a,t,s,((p+n:Nat):Int),zO yt rfl u rfl,_,z6 yt (v.trans w) rfl,e.on λq b=>?_⟩;exact endW.ok (leave.cell (b.get rfl) (zO yt rfl (zF _) rfl) (leave.tmp (b.get rfl) (leave.tmp (b.get rfl) rfl))) (f H0)
def oRr(s:Ua)(p:Nat)(e:Int):O:=.cells (.ls [.str s,dd p,dd e]) ⟨0,114+1,0⟩ true false
theorem JG{r:Nat}{e:Int}(d:h.get r=some (oRr s p e))(hr:r<h.nx)(x:h.nx+1<=T.top)(hs:s.length<=1048576)(y:p<=8*s.length)(z:n<=32)(f:p+n<=8*s.length->∀h',ExtX (· = r) h h' 1->h'.get r=some (oRr s (p+n) e)->Q (dd (zu s p n:Nat)) h')(i:¬p+n<=8*s.length->∀h',ExtX (· = r) h h' 1->h'.get r=some (oRr s p 23)->Q (dd 0) h'):RF P zB 83 [.ptr r 0,dd n] h Q:=by
 refine yU z4U ⟨.ptr r 0,h,rfl,?_⟩;show ∃A B,zo zB 112 h (.ptr r (0+0))=some (.agg [.str A,dd B])/\_;refine⟨s,p,zO yt rfl d rfl,zKv hs y z ?_⟩;unfold tkF;by_cases c:p+n<=8*s.length
 .rw[if_pos c];refine⟨s,((p+n:Nat):Int),_,_,rfl,oy,?_⟩;rintro q h1 rfl j;obtain⟨C,b,k⟩:=zq j;obtain⟨a,o,D,t,u,E⟩:∃a,zZ zB 112 h1 (.ptr h.nx 0) (.agg [.str s,dd ((p+n:Nat):Int)])=some a/\a.get h.nx=some (oRd s (p+n))/\a.get r=some (oRr s p e)/\Ext h a 1/\a.nx=h1.nx :=
   ⟨_,z6 yt k rfl,zF _,by rw[zS _,b.get _ hr];exact d,b.upd _ oy (oV _),rfl⟩
  refine⟨a,o,λg=>absurd rfl g,λ_=>⟨s,((p+n:Nat):Int),zO yt rfl D rfl,.ptr r 0,a,rfl,?_⟩⟩;show ∃v,zZ zB 112 a (.ptr r (0+0)) _=some v/\_;exact⟨_,z6 yt t rfl,f c _ ((ExtX.of u).upd _ oy (.inl rfl)) (zF _)⟩
 rw[if_neg c];refine⟨[],0,_,_,rfl,oy,?_⟩;rintro q h1 rfl j;obtain⟨C,b,k⟩:=zq j;obtain⟨a,o,t,u,E⟩:∃a,zZ zB 112 h1 (.ptr h.nx 0) (.agg [.str [],dd 0])=some a/\a.get r=some (oRr s p e)/\Ext h a 1/\a.nx=h1.nx :=
  ⟨_,z6 yt k rfl,by rw[zS _,b.get _ hr];exact d,b.upd _ oy (oV _),rfl⟩
 refine⟨a,o,λ_=>⟨.ptr r 0,a,rfl,?_⟩,λg=>absurd (show(5:Int)≠0 by decide) g⟩;show ∃w,zZ zB 24 a (.ptr r (0+2)) (dd 23)=some w/\_;exact⟨_,z6 yh t rfl,i c _ ((ExtX.of u).upd _ oy (.inl rfl)) (zF _)⟩
theorem zKw{v:V}{k:Nat}(ow:Ow h v yn l.length (zV l))(hl:l.length<=1000)(G:k<=1000)(H:h.nx+2*k<=T.top)(t:∀v' h',Ow h' v' yn (l.length+k) (zV (l++List.replicate k 0))->ExtX (λb=>yG v=some b) h h' (2*k)->(∀b,yG v'=some b->yG v=some b\/h.nx<=b)->Q v' h'):RF P zB 149 [v,dd k,dd 0] h Q:=by
 refine yU z06 (Has.nil.on λtm hs=>?_);refine wpC.round (λj tm h'=>∃(i:Nat) (v':V),i<=k/\j=k-i/\Ow h' v' yn (l.length+i) (zV (l++List.replicate i 0))/\ExtX (λb=>yG v=some b) h h' (2*i)/\(∀b,yG v'=some b->yG v=some b\/h.nx<=b) /\
  Has tm [(7,dd i),(1,dd k),(0,v'),(2,dd 0)]) k ⟨0,v,oy,oy,by simpa using ow,⟨oV _,oV _,λ_ _ _=>rfl,oV _,λ_ h1 _ _=>h1⟩,λb e=>.inl e,hs.sub rfl⟩ ?_
 rintro j tm h' ⟨i,v',h1,rfl,o,x,hb,hs⟩;refine wpC.av hs zRr rfl rfl ⟨λc=>?_,λc=>hs.on λf a=>?_⟩
 .have hi:i<k:=oy
  have I:=x.top;have J:=x.le;obtain⟨u,w,y,s1,d⟩:=zMF (n:=0) (h:=h') oy;have K:=d.top;have z:=d.le;have A:=o.ext d;obtain⟨r,B,C,a1,a2,a3,a4,a5,a6,a7⟩:=Ow.append (c:=zB) (te:=yn) (m:=1) A s1 db z7 rfl zm rfl rfl (by show(l.length+i+1)*1<=_;omega) (by show(l.length+i+1)*8<=_;omega) oy;have e:zG ((i:Int)+1)=((i+1:Nat):Int):=by rw[zD oy oy];rfl
  refine⟨u,w,y,trivial,r,B,C,hs.on λf a=>⟨rfl,rfl,k-(i+1),oy,i+1,r,oy,rfl,?_,?_,λb g=>.inr ?_,?_⟩⟩
  .have:zV (l++List.replicate (i+1) 0)=zV (l++List.replicate i 0)++[dd 0]:=by
    rw[List.replicate_succ',<-List.append_assoc,xQ (l++List.replicate i 0)];rfl
   rw[this];exact a1
  .have D:=x.andThen (ExtX.of (S:=λ_=>False) d) (λ_ g=>g.elim);have E:=D.andThen (ExtX.append a2 a3 a4 a6 a7) (λb g=>hb b g);exact E.more oy
  .rw[a5]at g;cases g;omega
  rw[<-e];exact a.sub rfl
 have hi:i=k:=oy
 subst hi;refine thenC.left (wpS.av a zSn rfl rfl (a.on λF q=>?_));exact endW.r1 (q.get rfl) (t v' h' o x hb)
structure GD (log:Nat) (l:Ub):Prop where
 lg:log=5\/log=6
 pos:1<=l.length
 len:l.length<=12
 low:∀x∈l,-1<=x
 last:l.getLast?≠some 0
 pts:pts l=2^log
def XZ(log:Nat):Nat:=2^log/2+2^log/8+3
def nxt(log m:Nat):Nat->Nat->Nat
 | 0,p=>p
 | f+1,p=>if p<2^log-m then p else nxt log m f ((p+XZ log) % 2^log)
def plc(log m:Nat):Nat->Nat
 | 0=>0
 | k+1=>nxt log m 13 ((plc log m k+XZ log) % 2^log)
def JI:Ub->Nat->Nat->Ub->Ub
 | [],_,_,out=>out
 | p::l,s,n,out=>if p = -1 then JI l (s+1) (n-1) (out.set (n-1) s) else JI l (s+1) n out
def Jy(log m:Nat)(s:Nat):Nat->Nat->Ub->Ub
 | 0,_,out=>out
 | c+1,k,out=>Jy log m s c (k+1) (out.set (plc log m k) s)
def Jz(log m:Nat):Ub->Nat->Nat->Ub->Ub
 | [],_,_,out=>out
 | p::l,s,k,out=>Jz log m l (s+1) (k+p.toNat) (Jy log m s p.toNat k out)
def yQ(l:Ub):Nat:=(l.filter λx=>decide (x = -1)).length
def jS(log:Nat)(l:Ub):Ub:=Jz log (yQ l) l 0 0 (JI l 0 (2^log) (List.replicate (2^log) 0))
def Od(log m:Nat):Bool :=
 ((List.range 64).all λp=>decide (nxt log m 13 ((p+XZ log) % 2^log)<2^log-m)) &&
 ((List.range (2^log-m)).all λq=>(List.range (2^log-m)).any λk=>decide (plc log m k=q))
theorem zGu:((List.range 13).all λm=>Od 5 m && Od 6 m)=true:=by decide +kernel
theorem zBl(hl:log=5\/log=6)(hm:m<=12):Od log m=true:=by
 have h:=List.all_eq_true.1 zGu m (List.mem_range.2 oy);rw[oM]at h;rcases hl with rfl|rfl
 .exact h.1
 exact h.2
theorem yy(hl:log=5\/log=6):32<=2^log/\2^log<=64:=by rcases hl with rfl|rfl<;>decide
theorem zWX(hl:log=5\/log=6)(hm:m<=12)(a:p<2^log):nxt log m 13 ((p+XZ log) % 2^log)<2^log-m:=by have h:=zBl hl hm;unfold Od at h;rw[oM]at h;exact of_decide_eq_true (List.all_eq_true.1 h.1 p (List.mem_range.2 (by have:=yy hl;omega)))
theorem Jx(hl:log=5\/log=6)(hm:m<=12)(k:Nat):plc log m k<2^log-m:=by
 have a:=yy hl;cases k with
 | zero=>show 0<_;omega
 | succ k=>exact zWX hl hm (by have:=Jx hl hm k;omega)
theorem zRI{q:Nat}(hl:log=5\/log=6)(hm:m<=12)(a:q<2^log-m):∃k,k<2^log-m/\plc log m k=q:=by have h:=zBl hl hm;unfold Od at h;rw[oM]at h;obtain⟨k,h1,b⟩:=List.any_eq_true.1 (List.all_eq_true.1 h.2 q (List.mem_range.2 a));exact⟨k,List.mem_range.1 h1,of_decide_eq_true b⟩
theorem JJ:∀{l:Ub}{s n:Nat}{out:Ub},(JI l s n out).length=out.length
 | [],_,_,_=>rfl
 | p::l,s,n,out=>by
  unfold JI;split
  .rw[JJ,List.length_set]
  exact JJ
theorem zA1{s:Nat}:∀{c k:Nat}{out:Ub},(Jy log m s c k out).length=out.length
 | 0,_,_=>rfl
 | c+1,k,out=>by unfold Jy;rw[zA1,List.length_set]
theorem zF6:∀{l:Ub}{s k:Nat}{out:Ub},(Jz log m l s k out).length=out.length
 | [],_,_,_=>rfl
 | p::l,s,k,out=>by unfold Jz;rw[zF6,zA1]
theorem JR(log:Nat)(l:Ub):(jS log l).length=2^log:=by unfold jS;rw[zF6,JJ,List.length_replicate]
theorem XO(p:Int)(l:Ub):yQ (p::l)=(if p = -1 then 1 else 0)+yQ l:=by
 unfold yQ;rw[List.filter_cons];by_cases h:p = -1
 .rw[if_pos h,if_pos (by simp[h]),og];omega
 rw[if_neg h,if_neg (by simp[h])];omega
theorem zAN(l:Ub):yQ l<=l.length:=List.length_filter_le _ _
def zH1(l:Ub):Nat:=(l.map Int.toNat).sum
theorem zCF(p:Int)(l:Ub):zH1 (p::l)=p.toNat+zH1 l:=by simp[zH1]
theorem zAX(p:Int)(l:Ub):pts (p::l)=pt p+pts l:=by simp[pts]
theorem Xw:∀{l:Ub},(∀x∈l,-1<=x)->((zH1 l+yQ l:Nat):Int)=pts l
 | [],_=>rfl
 | p::l,h=>by
  have h1:=Xw (l:=l) λx a=>h x (oN _ a)
  have b:=h p (List.mem_cons_self ..);rw[zCF,XO,zAX];unfold pt;by_cases c:p = -1
  .rw[if_pos c,if_pos oy];have:p.toNat=0:=oy
   omega
  rw[if_neg c,if_neg oy];omega
theorem GD.cells(g:GD log l):zH1 l+yQ l=2^log:=by
 have h:=Xw g.low;rw[g.pts]at h;have:((2^log:Nat):Int)=2^log:=by simp
 omega
def Occ(l:Ub)(x:Int):Prop:=∃s:Nat,x=s/\∃p,l[s]? = some p/\p≠0
theorem zAb{all:Ub}:∀{l:Ub}{s n:Nat}{out:Ub},all.drop s=l->yQ l<=n->n<=out.length->(∀i x,n<=i->out[i]? = some x->Occ all x)->∀i x,n-yQ l<=i->(JI l s n out)[i]? = some x->Occ all x
 | [],s,n,out,_,_,_,h=>λi x hi a=>h i x (by have:yQ []=0:=rfl;omega) a
 | p::l,s,n,out,d,hr,f,h=>by
  have b:all.drop (s+1)=l:=by rw[<-List.drop_drop,d];rfl
  have hs:all[s]? = some p:=by have:=congrArg (λl:Ub=>l[0]?) d;rw[List.getElem?_drop]at this;simpa using this
  rw[XO]at hr ⊢;unfold JI;split
  .rename_i c;rw[if_pos c]at hr;refine λi x hi a=>zAb (n:=n-1) b oy (by rw[List.length_set];omega) (λi x hi a=>?_) i x oy a
   by_cases e:i=n-1
   .subst e;rw[List.getElem?_set_self oy]at a;cases a;exact⟨s,rfl,p,hs,oy⟩
   rw[om]at a;exact h i x oy a
  rename_i c;rw[if_neg c]at hr;exact λi x hi a=>zAb b oy f h i x oy a
theorem zF5{all:Ub}{log m s:Nat}{p:Int}(hl:log=5\/log=6)(hm:m<=12)(hs:all[s]? = some p)(d:p≠0):∀{c k:Nat}{out:Ub},out.length=2^log ->
  (∀i x,2^log-m<=i->out[i]? = some x->Occ all x)->(∀j x,j<k->out[plc log m j]? = some x->Occ all x) ->
  (∀i x,2^log-m<=i->(Jy log m s c k out)[i]? = some x->Occ all x)/\(∀j x,j<k+c->(Jy log m s c k out)[plc log m j]? = some x->Occ all x)
 | 0,k,out,_,h1,b=>⟨h1,b⟩
 | c+1,k,out,f,h1,b=>by
  unfold Jy;have t:=Jx hl hm k;have r:=zF5 hl hm hs d (c:=c) (k:=k+1) (out:=out.set (plc log m k) s) (by rw[List.length_set];exact f) (λi x hi a=>?_) (λj x g a=>?_)
  .exact⟨r.1,λj x g a=>r.2 j x oy a⟩
  .rw[om]at a;exact h1 i x hi a
  by_cases e:plc log m j=plc log m k
  .rw[e,List.getElem?_set_self oy]at a;cases a;exact⟨s,rfl,p,hs,d⟩
  rw[om (λq=>e q.symm)]at a;by_cases o:j=k
  .exact absurd (by rw[o]) e
  exact b j x oy a
theorem zA2{all:Ub}(hl:log=5\/log=6)(hm:m<=12):∀{l:Ub}{s k:Nat}{out:Ub},all.drop s=l->out.length=2^log ->
  (∀i x,2^log-m<=i->out[i]? = some x->Occ all x)->(∀j x,j<k->out[plc log m j]? = some x->Occ all x) ->
  (∀i x,2^log-m<=i->(Jz log m l s k out)[i]? = some x->Occ all x)/\(∀j x,j<k+zH1 l->(Jz log m l s k out)[plc log m j]? = some x->Occ all x)
 | [],s,k,out,_,_,h1,b=>⟨h1,b⟩
 | p::l,s,k,out,e,d,h1,b=>by
  have a:all.drop (s+1)=l:=by rw[<-List.drop_drop,e];rfl
  have hs:all[s]? = some p:=by have:=congrArg (λl:Ub=>l[0]?) e;rw[List.getElem?_drop]at this;simpa using this
  unfold Jz;rw[zCF];by_cases c:p=0
  .subst c;show(∀i x,_->(Jz log m l (s+1) (k+0) out)[i]? = some x->_)/\(∀j x,j<k+(0+zH1 l)->(Jz log m l (s+1) (k+0) out)[plc log m j]? = some x->_);rw[Nat.zero_add];exact zA2 hl hm a d h1 b
  obtain⟨r1,r2⟩:=zF5 hl hm hs c (c:=p.toNat) (k:=k) d h1 b;have r:=zA2 hl hm a (by rw[zA1];exact d) r1 r2;exact⟨r.1,λj x g f=>r.2 j x oy f⟩
theorem zAp(g:GD log l){i:Nat}{x:Int}(a:(jS log l)[i]? = some x):Occ l x:=by
 have hm:yQ l<=12:=oW (zAN l) g.len;have f:=yy g.lg;have o:=g.cells;have h1:=zAb (all:=l) (l:=l) (s:=0) (n:=2^log) (out:=List.replicate (2^log) 0) rfl oy (by rw[List.length_replicate];exact oV _) (λi x hi a=>by
  rw[ov (by rw[List.length_replicate];exact hi)]at a;cases a)
 obtain⟨b,d⟩:=zA2 (all:=l) (l:=l) (s:=0) (k:=0) g.lg hm rfl (by rw[JJ,List.length_replicate]) h1 (λj x e _=>absurd e (Nat.not_lt_zero _));by_cases c:i<2^log-yQ l
 .obtain⟨k,q,rfl⟩:=zRI g.lg hm c;exact d k x oy a
 exact b i x oy a
end Go.Proofs.YtnpeieeomokomaaGreat
