/- TE. No condition. -/
import Derived.Test.YtnpeieeomokomaaGreatZTC
import Derived.Test.YtnpeieeomokomaaGreatZTA
import Derived.Test.YtnpeieeomokomaaGreatZCF
import Derived.Test.YtnpeieeomokomaaGreatZW
noncomputable section
set_option maxRecDepth 100000
set_option maxHeartbeats 4000000
namespace Go.Proofs.YtnpeieeomokomaaGreat
open Go.Sim
variable {h:H}{Q:Uc}
variable{R:Ud}{hb:H}{l xs:Ub}{s:Ua}{a b c df i log n p p0 p12 pc:Nat}{S:Nat->Prop}{v:V}
abbrev Cl:=Int×Nat×Nat
def jL(log x:Nat):Nat:=log-(zQ x-1)
def tc(log x:Nat):Nat:=x*2^jL log x-2^log
def DI(log:Nat)(s:Int)(x:Nat):Cl:=(s,jL log x,tc log x)
def sE(log:Nat):(Int->Nat)->Ub->List Cl
 | _,[]=>[]
 | nx,s::l=>DI log s (nx s)::sE log (λj=>if j=s then nx s+1 else nx j) l
def qP(l:Ub)(s:Int):Nat:=(l[s.toNat]?.getD 0).natAbs
def wh(log:Nat)(l:Ub):List Cl:=sE log (qP l) (za log l)
theorem ay:∀{nx:Int->Nat}{l:Ub},(sE log nx l).length=l.length
 | _,[]=>rfl
 | nx,s::l=>by unfold sE;rw[oc,ay,oc]
theorem sP(log:Nat)(l:Ub):(wh log l).length=2^log:=by unfold wh;rw[ay,kC]
theorem pT{x:Nat}(h:1<=x):1<=zQ x:=by unfold zQ;rw[if_neg dd];omega
theorem tg{x:Nat}(h1:1<=x)(h2:x<2^(log+1)):zQ x-1<=log/\jL log x<=log/\2^log<=x*2^jL log x/\x*2^jL log x<=2^(log+1)/\tc log x+2^jL log x<=2^log:=by
 have a:=pT h1;have b:=WE (n:=x) dd;have c:=kh x;have d:zQ x<=log+1:=zo h2;have e:zQ x-1+jL log x=log:=by unfold jL;omega
 have f:2^log=2^(zQ x-1)*2^jL log x:=by rw[<-Nat.pow_add,e]
 have g:2^zQ x=2*2^(zQ x-1):=by rw[<-Nat.pow_succ'];congr 1;omega
 have f1:2^(zQ x-1)*2^jL log x<=x*2^jL log x:=Nat.mul_le_mul_right _ b;have j:(x+1)*2^jL log x<=2^zQ x*2^jL log x:=Nat.mul_le_mul_right _ c;rw[g,Nat.mul_assoc,<-f,Nat.add_mul,Nat.one_mul]at j;have k:2^(log+1)=2*2^log:=Nat.pow_succ';have m:0<2^jL log x:=Nat.pow_pos dg;refine⟨dd,by unfold jL;omega,dd,dd,?_⟩;unfold tc;omega
theorem sF{all:Ub}{log:Nat}:∀{nx:Int->Nat}{l:Ub}{k:Nat},(∀s∈l,Tl all s/\1<=nx s)->(∀s,nx s<=k)->k+l.length<=2^(log+1) ->
  ∀c∈sE log nx l,Tl all c.1/\c.2.1<=log/\c.2.2+2^c.2.1<=2^log
 | _,[],_,_,_,_=>λc e=>by cases e
 | nx,s::l,k,g,h2,h3=>λc e=>by
  rw[oc]at h3;have hs:=g s (List.mem_cons_self ..);have j:=h2 s;rcases oq.1 e with rfl|e
  .obtain⟨a1,a2,a3,a4,a5⟩:=tg (log:=log) hs.2 dd;exact⟨hs.1,a2,a5⟩
  refine sF (k:=k+1) (λd f=>⟨(g d (oJ _ f)).1,?_⟩) (λd=>?_) dd c e
  .have:=(g d (oJ _ f)).2;show 1<=(if d=s then nx s+1 else nx d);split<;>omega
  have:=h2 d;show(if d=s then nx s+1 else nx d)<=k+1;split<;>omega
theorem bG:∀{l:Ub}{x:Int},(∀y∈l,-1<=y)->x∈l->(x.natAbs:Int)<=pts l
 | y::l,x,h,d=>by
  have f:0<=pts l:=by
   have:=xr (l:=l) λz e=>h z (oJ _ e)
   omega
  have g:=h y (List.mem_cons_self ..);rw[xC];rcases oq.1 d with rfl|d
  .unfold pt;split<;>omega
  have:=bG (l:=l) (λz e=>h z (oJ _ e)) d;unfold pt;split<;>omega
theorem Qx(g:GD log l)(s:Int):qP l s<=2^log:=by
 unfold qP;rcases h:l[s.toNat]? with _|p
 .simp
 have:=bG g.low (List.mem_of_getElem? h);rw[g.pts]at this;have e:((2^log:Nat):Int)=2^log:=by simp
 simp only[Option.getD_some];omega
theorem WJ{s:Int}(h:Tl l s):1<=qP l s:=by obtain⟨n,rfl,p,d,h2⟩:=h;unfold qP;rw[oe,d];simp only[Option.getD_some];omega
theorem sO(g:GD log l):∀c∈wh log l,Tl l c.1/\c.2.1<=log/\c.2.2+2^c.2.1<=2^log:=by have hp:=xR g.lg;refine sF (k:=2^log) (λs hs=>?_) (Qx g) (by rw[kC,Nat.pow_succ];omega);obtain⟨i,hi⟩:=List.getElem?_of_mem hs;have:=Ki g hi;exact⟨this,WJ this⟩
def two(cs:List Cl)(s:Ua):Nat->Nat->Nat->Nat->Ub->Option Ub
 | 0,_,_,_,_=>none
 | f+1,left,a,b,out=>match cs[a]? with
  | none=>none
  | some c =>
   if left<c.2.1 then
    (if f=0\/0<left then none else match cs[b]? with|none=>none|some d=>some (out++[c.1,d.1]))
   else two cs s f (left-c.2.1) b (c.2.2+xH s left c.2.1) (out++[c.1])
def wg(log:Nat)(l:Ub)(s:Ua):Int×Ub :=
 if yH s<0 then (22,[])
 else if yH s<log then (21,[])
 else if yH s<2*log then (21,[])
 else match two (wh log l) s 255 ((yH s).toNat-log-log) (xH s (yH s).toNat log) (xH s ((yH s).toNat-log) log) []with
 | none=>(21,[])
 | some out=>(0,out)
theorem sQ(g:GD log l){c:Cl}(d:c∈wh log l):0<=c.1/\c.1<12:=by obtain⟨⟨s,e,p,h2,_⟩,_⟩:=sO g c d;have:=(List.getElem?_eq_some_iff.1 h2).1;have:=g.len;omega
theorem Fw(g:GD log l):∀{f left a b:Nat}{out r:Ub},two (wh log l) s f left a b out=some r->wO out=true->f+out.length=255->wO r=true/\r.length<=255
 | 0,_,_,_,_,_,h,_,_=>by cases h
 | f+1,left,a,b,out,r,h,j,m=>by
  unfold two at h;cases e:(wh log l)[a]? with
  | none=>rw[e]at h;cases h
  | some c =>
   rw[e]at h;have o:=sQ g (List.mem_of_getElem? e);have k:wO [c.1]=true:=by simp[wO];omega
   simp only at h;split at h
   .split at h
    .cases h
    rename_i q;cases hb:(wh log l)[b]? with
    | none=>rw[hb]at h;cases h
    | some d=>rw[hb]at h;have hd:=sQ g (List.mem_of_getElem? hb);cases h;refine⟨?_,by simp;omega⟩;rw[jw,j];simp[wO];omega
   exact Fw g h (by rw[jw,j,k];rfl) (by simp;omega)
theorem Wb(g:GD log l):wO (wg log l s).2=true/\(wg log l s).2.length<=255:=by
 unfold wg;split
 .exact⟨rfl,by simp⟩
 split
 .exact⟨rfl,by simp⟩
 split
 .exact⟨rfl,by simp⟩
 split
 .exact⟨rfl,by simp⟩
 rename_i h;exact Fw g h rfl rfl
theorem YX{s:Ua}{symbols log:Nat}:∀{f left p:Nat}{l r:Ub}{q:Nat},yn s symbols f left p l=some (r,q)->l.length<=symbols->(∀x∈l,-1<=x)->pts l+left=2^log->(left=0->l.getLast?≠some 0/\1<=l.length) ->
  (∀x∈r,-1<=x)/\pts r=2^log/\r.getLast?≠some 0/\1<=r.length/\r.length<=symbols
 | 0,_,_,_,_,_,h,_,_,_,_=>by cases h
 | f+1,left,p,l,r,q,h,w,e,h2,h3=>by
  unfold yn at h;split at h
  .rename_i c;cases h;exact⟨e,by rw[<-h2,c];omega,(h3 c).1,(h3 c).2,w⟩
  rename_i c;cases j:qw s left p with
  | none=>rw[j]at h;cases h
  | some x =>
   obtain⟨v,z⟩:=x;rw[j]at h;obtain⟨B,_⟩:=vo j;simp only at h;split at h
   .cases h
   rename_i A;split at h
   .rename_i o;cases t:yo s symbols (symbols+1) z (l.length+1)with
    | none=>rw[t]at h;cases h
    | some y =>
     obtain⟨n,C⟩:=y;rw[t]at h;simp only at h;have u:∀{f p n m q:Nat},yo s symbols f p n=some (m,q)->m<=symbols:=by
      intro f;induction f with
      | zero=>intro p n m q h;cases h
      | succ f ih =>
       intro p n m q h;unfold yo at h;split at h
       .cases h
       split at h
       .cases h
       split at h
       .exact ih h
       cases h;omega
     have hm:=u t;refine YX h (by simp;omega) (λx d=>?_) ?_ (λg=>absurd g c)
     .rcases List.mem_append.1 d with d|d
      .exact e x d
      rw[List.eq_of_mem_replicate d];decide
     rw[YW];have:∀k,pts (List.replicate k 0)=0:=λk=>by
      induction k with
      | zero=>rfl
      | succ k ih=>rw[List.replicate_succ,xC,ih];rfl
     rw[this];omega
   rename_i o;refine YX h (by simp;omega) (λx d=>?_) ?_ (λg=>?_)
   .rcases List.mem_append.1 d with d|d
    .exact e x d
    rw[List.mem_singleton.1 d];omega
   .rw[YW,cF];unfold pt;split<;>omega
   refine⟨?_,by simp⟩;rw[List.getLast?_append];simp;omega
theorem XF(h:xy s 6 12=some (log,l,p)):GD log l:=by
 unfold xy at h;split at h
 .cases h
 split at h
 .cases h
 rename_i e f;rcases hr:yn s 12 (12+2) (2^(yB s 0 4+5)) 4 [] with _|⟨r,q⟩
 .rw[hr]at h;cases h
 rw[hr]at h;simp only[ol,oA,oB]at h;obtain⟨rfl,rfl,rfl⟩:=h;have hp:0<2^(yB s 0 4+5):=Nat.pow_pos dg;obtain⟨a1,a2,a3,a4,a5⟩:=YX (log:=yB s 0 4+5) hr (by simp) (λx d=>by cases d) (by simp[pts]) (λg=>dd);exact⟨dd,a4,a5,a1,a3,a2⟩
def YR(s:Ua)(a:Nat)(n:Nat):Ub:=(List.range n).map λi=>((if i % 2=0 then (s[a+i/2]?.getD 0).toNat/16 else (s[a+i/2]?.getD 0).toNat % 16:Nat):Int)
structure Rd where
 l:Ub
 nx:Nat
 e:Int
 fat:Int
def xw(s:Ua)(a h:Nat):Rd :=
 if s.length<a+1+(h-127+1)/2 then ⟨[],0,5,s.length⟩
 else if qD (YR s (a+1) (h-127))=0 then ⟨YR s (a+1) (h-127),a+1+(h-127+1)/2,0,0⟩
 else ⟨[],0,21,a⟩
def W6(b:Ua)(a fin:Nat):Rd :=
 match xy b 6 12 with
 | none=>⟨[],0,if JB b 6 then 31 else 23,a+1⟩
 | some (log,l,p) =>
  if (wg log l (b.drop ((p+7)/8))).1≠0 then ⟨[],0,(wg log l (b.drop ((p+7)/8))).1,a+1+(p+7)/8⟩
  else if qD (wg log l (b.drop ((p+7)/8))).2=0 then ⟨(wg log l (b.drop ((p+7)/8))).2,fin,0,0⟩
  else ⟨[],0,21,a⟩
def yM(s:Ua)(at':Int):Rd :=
 if at'<0\/s.length<at' then ⟨[],0,2,0⟩
 else match s[at'.toNat]? with
 | none=>⟨[],0,5,at'⟩
 | some c =>
  if 127<c.toNat then xw s at'.toNat c.toNat
  else if s.length<at'.toNat+1+c.toNat then ⟨[],0,5,s.length⟩
  else W6 ((s.drop (at'.toNat+1)).take c.toNat) at'.toNat (at'.toNat+1+c.toNat)
def JJ(m:Nat)(l:Ub):Ub:=l.map λx=>if x≠0 then (m:Int)+1-x else 0
def lens(l:Ub):Ub:=JJ (zQ (yh l)) (l++[((zQ (xo l):Nat):Int)])
theorem vL(s:Ua)(a n:Nat):(YR s a n).length=n:=by simp[YR]
theorem Xk(m:Nat)(l:Ub):(JJ m l).length=l.length:=by simp[JJ]
theorem RD(s:Ua)(a:Int):(yM s a).l.length<=255:=by
 unfold yM;split
 .simp
 split
 .simp
 rename_i c d;have:=c.toNat_lt;split
 .unfold xw;split
  .simp
  split
  .simp only[vL];omega
  simp
 split
 .simp
 unfold W6;split
 .simp
 rename_i log l p hd;split
 .simp
 split
 .exact(Wb (XF hd)).2
 simp
theorem FS{k:Uc}(d:k (.tuple []) h):Xr zB 0 k (.tuple []) h:=⟨rfl,d⟩
theorem _root_.Go.Sim.Sl.at0{e:Nat}{xs:Ug}(s:Sl h v e n xs)(h0:0<n):∃b o c,v = .slice b o n c:=by
 obtain⟨_,⟨rfl,d⟩|⟨b,o,f,cs,kk,w,op,rfl,hb,g,j⟩⟩:=s
 .omega
 exact⟨_,_,_,rfl⟩
theorem xQ{e:Nat}{xs:Ug}(s:Sl h v e n xs){a:Int}{k:Cs->Prop}(d:k (.ls [dh a,v])):∃cs,cond (zU (V.cells (.agg [(dh a),v]))) (Cs.ofL (V.cells (.agg [(dh a),v]))) none=some cs/\k cs:=by
 obtain⟨_,⟨rfl,_⟩|⟨b,o,f,cs,k,w,op,rfl,_⟩⟩:=s
 .exact⟨_,rfl,d⟩
 exact⟨_,rfl,d⟩
theorem Sm{v:V}{l:Ub}{m:Int}(sl:Sl h v 1 l.length (zI l))(hl:l.length<=1000)(h0:1<=l.length)(w:∀x∈l,m<=x)(z:∀x,m<=x->Q (dh x) h):RF P zB 242 [v] h Q:=by
 refine zh zCX zET ⟨_,sl.len zM rfl,λc=>dd,λ_=>λtm hs=>?_⟩;have at':∀i,i<l.length->∃x b o,m<=x/\xK zB 23 v (dh (i:Nat))=some (.ptr b o)/\ye zB 3 h (.ptr b o)=some (dh x):=λi hi=>by obtain⟨b,o,f,g⟩:=sl.at1 (u:=dh l[i]) hi zM rfl zX rfl rfl (by rw[od,oQ hi];rfl);exact⟨_,b,o,w _ (oV hi),f,g⟩
 obtain⟨x,b,o,q,f,g⟩:=at' 0 dd;refine sg hs ⟨b,o,f,x,g,λj d=>?_⟩;clear hs;refine wpC.round (λk tm h'=>∃(i:Nat) (x:Int),i<=l.length/\k=l.length-i/\h'=h/\m<=x/\Has tm [(4,dh i),(0,v),(3,dh x)]) (l.length-1) ⟨1,x,dd,rfl,rfl,q,d.sub rfl⟩ ?_;rintro k tm h' ⟨i,x,D,rfl,rfl,h2,hs⟩;refine cg zCX hs ⟨_,sl.len zM rfl,λc=>?_,λc=>λj d=>?_⟩
 .obtain⟨y,b,o,A,f,g⟩:=at' i dd;have e:zb ((i:Int)+1)=((i+1:Nat):Int):=by rw[zD dd dd];rfl
  refine⟨b,o,f,y,g,λj d=>⟨rfl,rfl,l.length-(i+1),dd,i+1,min x y,dd,rfl,rfl,Int.le_min.2 ⟨h2,A⟩,?_⟩⟩;try dsimp only
  rw[<-e];exact d.sub rfl
 refine thenC.left (sg d (λB r=>r.slt λC t=>?_));exact endW.r1 (t.get rfl) (z x h2)
theorem ve(h:∀x∈l,-1<=x):0<=pts l:=by have:=xr h;omega
theorem Ka(h:∀x∈l,-1<=x)(i:Nat):0<=pts (l.take i)/\pts (l.take i)<=pts l:=by
 have e:=ve (l:=l.take i) λx d=>h x (List.mem_of_mem_take d)
 have h2:=ve (l:=l.drop i) λx d=>h x (List.mem_of_mem_drop d)
 have h3:=YW (l.take i) (l.drop i);rw[List.take_append_drop]at h3;omega
theorem LM{v:V}{log:Int}{l:Ub}(sl:Sl h v 1 l.length (zI l))(hl:l.length<=1000)(q:∀x∈l,-1<=x)(hp:pts l<=1048576)(X:h.nx+2<=T.top)(J:∀h',Ext h h' 2->Q (dh (pts l)) h'):RF P zB 243 [.agg [dh log,v]] h Q:=by
 refine zh zCY zEU (xQ sl ⟨dd,?_⟩);rintro p0 g rfl r;have E:=(Vw.nil (S:=zH) (h:=h)).new r dd;have Y:=E.top;refine⟨rfl,dd,?_⟩;rintro p3 h4 rfl K;have F:=E.new K dd;have Z:=F.top;obtain⟨L,G,m,M,_⟩:=F.st (cx:=zB) 0 (f:=0) (u:=dh 0) rfl dd zX rfl;refine⟨L,G,v,m.ld1 1 rfl zM rfl,_,(sl.ext m.ex0).len zM rfl,λtm hs=>?_⟩;refine wpC.round (λk tm h'=>∃i:Nat,i<=l.length/\k=l.length-i/\Vw zH h h' 2 [(g.nx,.cells (.ls [dh (pts (l.take i))]) ⟨0,3+1,0⟩ true false),(h.nx,.cells (.ls [dh log,v]) ⟨0,59+1,0⟩ true false)] /\
  Has tm [(11,dh i),(10,dh l.length),(9,v),(4,.func (.func 286) [] [.ptr g.nx 0]),(3,.ptr g.nx 0)]) l.length ⟨0,dd,dd,m,hs.sub rfl⟩ ?_
 clear hs m G M;rintro k tm h' ⟨i,N,rfl,w,hs⟩;have tw:=w.top;refine cg zCY hs ⟨λc=>?_,λc=>λj d=>?_⟩
 .have hi:i<l.length:=dd
  have t:l[i]? = some l[i]:=oQ hi;obtain⟨b,o,r,H⟩:=(sl.ext w.ex0).at1 (u:=dh l[i]) hi zM rfl zX rfl rfl (by rw[od,t];rfl);have I:l.take (i+1)=l.take i++[l[i]]:=by rw[List.take_add_one,t];rfl
  have hr:=q l[i] (oV hi);have hb:=Ka q i;have O:=Ka q (i+1);generalize l[i]=x at t H I hr;have e:zb ((i:Int)+1)=((i+1:Nat):Int):=by rw[zD dd dd];rfl
  have hw:pts (l.take (i+1))=pts (l.take i)+pt x:=by rw[I,YW,cF]
  refine⟨b,o,r,x,H,λy=>?_,λy=>?_⟩
  .show RF P zB 286 [dh 1,.ptr g.nx 0] h' _;have z:pt x=1:=by unfold pt;rw[if_pos y]
   have es:min (zb (pts (l.take i)+1)) 1048576=pts (l.take (i+1)):=by rw[zD dd dd];omega
   obtain⟨A,B,C,U,_⟩:=w.st (cx:=zB) 0 (f:=0) (u:=dh (pts (l.take (i+1)))) rfl dd zX rfl;refine zh zC5 Bo ⟨_,w.ld1 0 rfl zX rfl,A,by rw[es];exact B,?_⟩;refine⟨rfl,λj d=>⟨rfl,rfl,l.length-(i+1),dd,i+1,dd,rfl,C,?_⟩⟩;try dsimp only
   rw[<-e];exact d.sub rfl
  show RF P zB 286 [dh (min x 1048576),.ptr g.nx 0] h' _;have z:pt x=x:=by unfold pt;rw[if_neg y]
  have es:min (zb (pts (l.take i)+min x 1048576)) 1048576=pts (l.take (i+1)):=by rw[zD dd dd];omega
  obtain⟨A,B,C,U,_⟩:=w.st (cx:=zB) 0 (f:=0) (u:=dh (pts (l.take (i+1)))) rfl dd zX rfl;refine zh zC5 Bo ⟨_,w.ld1 0 rfl zX rfl,A,by rw[es];exact B,?_⟩;refine⟨rfl,λj d=>⟨rfl,rfl,l.length-(i+1),dd,i+1,dd,rfl,C,?_⟩⟩;try dsimp only
  rw[<-e];exact d.sub rfl
 have hi:i=l.length:=dd
 subst hi;rw[List.take_length]at w;refine thenC.left (sg d ⟨_,w.ld1 0 rfl zX rfl,λW D=>?_⟩);exact endW.r1 (D.get rfl) (J _ w.ex0)
theorem jB{v:V}{log:Nat}{l:Ub}{h:H}{Q:Uc}(sl:Sl h v 1 l.length (zI l))(g:GD log l)(A:Q (dh 0) h):RF P zB 173 [.agg [dh log,v]] h Q:=by
 show RF P zB 173 ((λv=>V.agg ([dh log]++[v])::[]) v) h Q;refine RF.ro (One.struct (zg rfl) (λa F=>(by cases F))) sl (plain_ints l) (zN _ _) (λv0 B C G I=>?_) A;clear sl A h Q v;have W:=zt;have j:=g.pos;have D:=g.len;have J:=g.lg;have hp:=g.pts;have K:=xR g.lg;have q:((2^log:Nat):Int)=2^log:=by simp
 show RF P zB 173 [.agg [dh log,v0]] B _;refine zh zHM zDf (xQ C ⟨dd,?_⟩);rintro p0 m rfl L;have d:=(Vw.nil (S:=zH) (h:=B)).new L dd;have X:=d.top;refine⟨_,d.ld1 0 rfl zX rfl,λc=>dd,λ_=>⟨_,d.ld1 0 rfl zX rfl,λc=>dd,λ_=>λtm hs=>?_⟩⟩;refine sg hs ?_;have s1:=C.ext d.ex0;refine⟨v0,d.ld1 0 rfl zM rfl,_,s1.len zM rfl,⟨dd,by have:=d.low;omega⟩,λc=>dd,λ_=>⟨λc=>dd,λ_=>?_⟩⟩;have f:l[l.length-1]? = some l[l.length-1]:=oQ dd;obtain⟨b,o,a1,a2⟩:=s1.at1 (u:=dh l[l.length-1]) (i:=l.length-1) dd zM rfl zX rfl rfl (by rw[od,f];rfl);have r:l[l.length-1]≠0:=λe=>g.last (by rw[List.getLast?_eq_getElem?,f,e])
 refine⟨v0,d.ld1 0 rfl zM rfl,b,o,?_,_,a2,λc=>absurd c r,λ_=>?_⟩
 .rw[zD dd dd,show((l.length:Nat):Int)-1=((l.length-1:Nat):Int)by omega];exact a1
 have E:Sl (z8 m) v0 1 l.length (zI l):=s1;refine⟨v0,d.ld1 0 rfl zM rfl,Sm E dd j g.low λx Y=>⟨x,rfl,nd dd (by have:=d.low;omega) ?_⟩⟩;refine⟨λc=>dd,λ_=>⟨_,_,d.ldA 0 rfl xE rfl,?_⟩⟩;refine LM E dd g.low dd (show m.nx+2<=T.top by omega) λt k=>⟨_,rfl,?_⟩
 have w:=Ext.drawn k dd;have M:=k.top;refine⟨⟨w.1,(show t.nx<=T.top by have:(z8 m).nx=m.nx:=rfl;omega)⟩,?_⟩;intro N y;rw[<-y]at w;have O:=d.ext w.2;refine⟨_,O.ld1 0 rfl zX rfl,((1*2^log:Nat):Int),zr (a:=1) dd dd,λc=>absurd ?_ c,λ_=>λU z=>?_⟩
 .rw[hp,Nat.one_mul,q]
 exact endW.r1 (z.get rfl) rfl
theorem PP(hl:log=5\/log=6){h:H}{Q:Uc}(d:Q (dh (RW log:Nat)) h):RF P zB 324 [dh log] h Q:=by
 have hp:=xR hl;refine zh zIH zFZ ⟨((1*2^log:Nat):Int),zr (a:=1) dd dd,((1*2^log/2^1:Nat):Int),jZ (n:=1) dg,((1*2^log/2^3:Nat):Int),jZ (n:=3) dg,?_⟩;have e:zb (zb (((1*2^log/2^1:Nat):Int)+((1*2^log/2^3:Nat):Int))+3)=((RW log:Nat):Int):=by rw[Nat.one_mul];unfold RW;rw[zD (n:=((2^log/2^1:Nat):Int)+((2^log/2^3:Nat):Int)) dd dd,zD dd dd];omega
 show Q (dh (zb (zb _+3))) h;rw[e];exact d
theorem JD{k:Uc}(d:k (.bool true) h):Xr zB 4 k (.bool true) h:=⟨true,rfl,λ_=>d,λg=>(by cases g)⟩
theorem zGr(i:Nat):exitB i .normal = .normal:=rfl
theorem thenC.left2{j:Nat}{K I:St->Prop}{s:St}(h:K s):thenC I (λe s1=>(λe s1=>(λe s1=>thenC K R (exitB j e) s1) (exitB i e) s1) e s1) (.exit i) s:=by show thenC K R (exitB j (exitB i (.exit i))) s;rw[xM];exact h
theorem thenC.out2{j:Nat}{K:St->Prop}{s:St}(h:K s):thenC K R (exitB j (exitB i (.exit i))) s:=by rw[xM];exact h
abbrev oLp(tm:Tm)(df:Nat):O:=.loop .ready none 26 tm #[19,20] Kw JY df
abbrev CZ(tm:Tm)(df:Nat):O:=.loop .busy none 26 tm #[19,20] Kw JY df
abbrev Ya(v:V):O:=.cells (.ls [v]) ⟨0,23+1,0⟩ true false
theorem xY(l:Ub)(j:Nat)(x:Int):zI (l.set j x)=(zI l).set j (dh x):=by simp[zI,List.map_set]
theorem qV(n:Nat):zI (List.replicate n 0)=List.replicate n (dh 0):=by simp[zI]
structure SpI (hb h:H) (c r l df pc p12 b p0 n:Nat) (tm:Tm) (dc:O) (f:Int->Ui) (xs:Ub):Prop where
 vw:∃o cs,Vw zH hb h c [(r,o),(l,oLp tm df),(df,.deferred true),(pc,dc),(p12,Ya (.slice b 0 n (.exact n))),(b,yV cs),(p0,dc)]/\Row cs n (zI xs)
 mp:MapI h r f
theorem SpI.round{hb h:H}{c r l df pc p12 b p0 n:Nat}{tm:Tm}{dc:O}{f:Int->Ui}{xs:Ub}{j:Nat}{s:Int}(i:SpI hb h c r l df pc p12 b p0 n tm dc f xs)(A:Has tm [(5,.ptr p12 0)])(t:j<n)(x:h.nx<=T.top)(B:∀h',SpI hb h' c r l df pc p12 b p0 n tm dc f (xs.set j s)->h'.nx=h.nx->Q (.bool true) h'):RR P l [dh j,dh s] h Q:=by obtain⟨⟨o,cs,w,row⟩,mp⟩:=i;have hl:l<T.top:=oL (w.lt 1 rfl) x;refine RR.intro hl (w.get 1 rfl) rfl (RC.of_wp xf Kw ?_);refine cg E6 (l:=[(20,dh s),(19,dh j),(5,.ptr p12 0)]) ⟨de,de,(show zq (Tb.set (Tb.set tm 19 _) 20 _) 5=zq tm 5 by kernel_rfl).trans (A.get rfl),trivial⟩ (λe g=>?_);refine⟨rfl,_,_,_,_,_,_,_,w.get 1 rfl,RC.of_wp xf JY ?_⟩;have k:=w.upd 1 (o':=CZ tm df) rfl x;show wpC P zB true (jm JY) ⟨26,e,[],h.upd l (some (CZ tm df))⟩ _;have n1:(h.upd l (some (CZ tm df))).nx=h.nx:=rfl;generalize h.upd l (some (CZ tm df))=h1 at k n1 ⊢;obtain⟨h2,m,C,d,y,F⟩:=k.set (cx:=zB) 5 (j:=j) (u:=dh s) row rfl dd t zX rfl rfl rfl rfl;refine cg E6 g ⟨_,k.ld1 4 rfl zM rfl,b,j,yp zM rfl zX rfl t,h2,C,λq D=>?_⟩;have E:=y.get 1 rfl;show(match yZ l .normal ⟨26,q,[],h2⟩with|some (.ret v h')=>Q v h'|_=>False);simp only[yZ,E];have z:=y.upd 1 (o':=oLp tm df) rfl dd;refine B _ ⟨⟨o,m,z,by rw[xY];exact d⟩,mp.mono ((z.get 0 rfl).trans (w.get 0 rfl).symm)⟩ ?_;show h2.nx=h.nx;omega
def PX(size n:Nat):Int->Ui:=λk=>if (n:Int)<=k/\k<size then some (.bool true) else none
theorem Fs(size:Nat):PX size size=λ_=>none:=by funext k;unfold PX;rw[if_neg dd]
theorem Fr{size:Nat}(h:n<=size)(h0:0<n):(λj=>if j=((n-1:Nat):Int) then some (.bool true) else PX size n j)=PX size (n-1):=by
 funext k;unfold PX;by_cases c:k=((n-1:Nat):Int)
 .rw[if_pos c,if_pos dd]
 rw[if_neg c];by_cases c2:(n:Int)<=k/\k<size
 .rw[if_pos c2,if_pos dd]
 rw[if_neg c2,if_neg dd]
theorem SpI.taken{h:H}{r l size m:Nat}{tm:Tm}{dc:O}(i:SpI hb h c r l df pc p12 b p0 n tm dc (PX size m) xs)(hp:p<size):
  Y1 zB 377 h (.map r) (dh p) false=some (.bool (decide (m<=p))):=by
 rw[i.mp.look A0 rfl zX rfl ty4 rfl];unfold PX;by_cases c:m<=p
 .rw[if_pos dd,decide_eq_true c];rfl
 rw[if_neg dd,decide_eq_false c];rfl
theorem SpI.top{h:H}{r l:Nat}{tm:Tm}{dc:O}{f:Int->Ui}(i:SpI hb h c r l df pc p12 b p0 n tm dc f xs):h.nx<=hb.nx+c:=by obtain⟨⟨o,cs,w,row⟩,mp⟩:=i;exact w.top
theorem SpI.ex{h:H}{r l:Nat}{tm:Tm}{dc:O}{f:Int->Ui}(i:SpI hb h c r l df pc p12 b p0 n tm dc f xs):Ext hb h c:=by obtain⟨⟨o,cs,w,row⟩,mp⟩:=i;exact w.ex0
theorem Rt(hl:log=5\/log=6)(hp:p<2^log):wI .and .i64 (zb ((p:Int)+(RW log:Nat))) (zb (((2^log:Nat):Int)-1))=some (dh (((p+RW log) % 2^log:Nat):Int)):=by
 have d:=xR hl;have h2:RW log<=2^log+3:=by unfold RW;omega
 rw[zD (n:=(p:Int)+(RW log:Nat)) dd dd,zD dd dd,show((2^log:Nat):Int)-1=((2^log-1:Nat):Int)by omega,show(p:Int)+(RW log:Nat)=((p+RW log:Nat):Int)from rfl,qf dd dd,jt]
theorem BQ{hb h:H}{c r l df pc p12 b p0 n m log:Nat}{y:Tm}{v:V}{xs:Ub}{f p tgt:Nat}{tm:Tm}{R:Ud}{y0 g j z q t u:V}(hl:log=5\/log=6)(i:SpI hb h c r l df pc p12 b p0 n y (oD log v) (PX (2^log) (2^log-m)) xs)(hp:p<2^log)(d:Ga log m f p=tgt)(B:tgt<2^log-m)(hs:Has tm [(4,.map r),(8,dh p),(1,.ptr pc 0),(3,dh (2^log:Nat)),(0,y0),(47,g),(46,j),(9,z),(40,q),(39,t),(38,u)])(A:∀e,Has e [(4,.map r),(8,dh tgt),(1,.ptr pc 0),(3,dh (2^log:Nat)),(0,y0),(47,g),(46,j),(9,z),(40,q),(39,t),(38,u)]->R (.exit 6) ⟨75,e,[],h⟩):
  wpC P zB false (.loop zAl) ⟨75,tm,[],h⟩ R:=by
 refine wpC.round (λk tm h'=>h'=h/\∃p,p<2^log/\Ga log m k p=tgt/\Has tm [(4,.map r),(8,dh p),(1,.ptr pc 0),(3,dh (2^log:Nat)),(0,y0),(47,g),(46,j),(9,z),(40,q),(39,t),(38,u)]) f ⟨rfl,p,hp,d,hs⟩ ?_;clear hs hp d;rintro k tm h' ⟨rfl,p,hp,d,hs⟩;refine cg Pd hs ⟨_,i.taken hp,λc=>?_,λc=>λe x=>?_⟩
 .have c:=of_decide_eq_true c;rcases k with _|k
  .have:p=tgt:=d;omega
  unfold Ga at d;rw[if_neg dd]at d;obtain⟨⟨o,cs,w,row⟩,mp⟩:=i;try dsimp only
  refine⟨_,w.ld1 3 rfl zX rfl,PP hl ⟨_,rfl,_,Rt hl hp,λe x=>⟨rfl,rfl,k,om k,rfl,(p+RW log) % 2^log,Nat.mod_lt _ (Nat.pow_pos dg),d,x.sub rfl⟩⟩⟩
 have c:=of_decide_eq_false c;have:p=tgt:=by
  rcases k with _|k
  .exact d
  unfold Ga at d;rw[if_pos dd]at d;exact d
 subst this;exact A e (x.sub rfl)
theorem qT(hi:i<l.length):l.drop i=l[i]::l.drop (i+1):=List.drop_eq_getElem_cons hi
theorem Sq(hi:i<l.length):yY (l.drop i)=(if l[i] = -1 then 1 else 0)+yY (l.drop (i+1)):=by rw[qT hi,ja]
theorem N4{hb h:H}{c l df pc p12 b p0 log:Nat}{t:Tm}{v:V}{d:Ub}{cs:Cs}{Q:Uc}(g:GD log d)(t5:Has t [(5,.ptr p12 0)])(w:Vw zH hb h c [(l,oLp t df),(df,.deferred true),(pc,oD log v),(p12,Ya (.slice b 0 (2^log) (.exact (2^log)))),(b,yV cs),(p0,oD log v)])(row:Row cs (2^log) (zI (List.replicate (2^log) 0)))(sl:Sl hb v 1 d.length (zI d))(hn:h.nx+1<=T.top)(hq:∀h' r f,SpI hb h' (c+1) r l df pc p12 b p0 (2^log) t (oD log v) f (za log d)->Q (.tuple []) h'):RF P zB 323 [.yield l,.ptr pc 0] h Q:=by
 have hl:=g.lg;have hlen:=g.len;have hpw:=xR g.lg;have hcells:=g.cells;have J:yY d<=12:=oS (K5 d) g.len;obtain⟨E,O⟩:∃E,E=h.new (.map [] 0):=⟨_,rfl⟩;have U:=w.new O dd;have m5:MapI E h.nx (λ_=>none):=by rw[O];exact MapI.new dd
 have t5':=U.top;have e1:zb (((1*2^log:Nat):Int)-1)=((2^log:Nat):Int)-1:=by rw[zD dd dd];omega
 refine zh Pd zFY ⟨_,w.ld1 2 rfl zX rfl,((1*2^log:Nat):Int),zr (a:=1) dd dd,.map h.nx,E,by rw[O];exact ZB rfl,_,U.ld1 3 rfl zM rfl,_,(sl.ext U.ex0).len zM rfl,λtm hs=>?_⟩;rw[e1,Nat.one_mul]at hs;have y:SpI hb E (c+1) h.nx l df pc p12 b p0 (2^log) t (oD log v) (PX (2^log) (2^log)) (List.replicate (2^log) 0):=⟨⟨_,cs,U,row⟩,by rw[Fs];exact m5⟩;have n5:E.nx<=T.top:=by rw[O,zC];omega
 clear U m5 O t5';generalize h.nx=r at hs y n5;refine wpC.round (λk tm h'=>∃(i n:Nat) (xs:Ub),i<=d.length/\k=d.length-i/\h'.nx=E.nx/\SpI hb h' (c+1) r l df pc p12 b p0 (2^log) t (oD log v) (PX (2^log) n) xs /\
  Z3 (d.drop i) i n xs=Z3 d 0 (2^log) (List.replicate (2^log) 0)/\n+yY d=2^log+yY (d.drop i)/\n<=2^log /\
  Has tm [(20,dh i),(19,dh d.length),(18,v),(4,.map r),(5,dh ((n:Int)-1)),(0,.yield l),(1,.ptr pc 0),(3,dh (2^log:Nat))]) d.length
  ⟨0,2^log,_,dd,dd,rfl,y,rfl,rfl,oR _,hs.sub rfl⟩ ?_
 clear hs y;rintro k tm h' ⟨i,n,xs,hi1,rfl,z,y,D,hN,L,hs⟩;have B:=sl.ext y.ex;refine cg Pd hs ⟨λW=>?_,λW C m=>?_⟩
 .have hi:i<d.length:=dd
  have hd:=qT hi;have X:=Sq hi;obtain⟨pb,po,a1,a2⟩:=B.at1 (u:=dh d[i]) hi zM rfl zX rfl rfl (by rw[od,oQ hi];rfl);have e:zb ((i:Int)+1)=((i+1:Nat):Int):=by rw[zD dd dd];rfl
  refine⟨pb,po,a1,_,a2,λY=>?_,λY=>λC m=>?_⟩
  .rw[if_pos Y]at X;have hn1:1<=n:=dd
   have en:(n:Int)-1=((n-1:Nat):Int):=dd
   obtain⟨⟨o,F,w',A⟩,mp⟩:=y;have hrt:r<T.top:=oL (w'.lt 0 rfl) dd;obtain⟨es,ck,eu,mu⟩:=mp.upd (c:=zB) A0 rfl zX rfl hrt ((n-1:Nat):Int) (.bool true);rw[Fr L dd]at mu;have w2:=w'.upd 0 (o':=.map es ck) rfl dd;try dsimp only
   rw[en];refine⟨_,eu,?_⟩;have n2:(h'.upd r (some (.map es ck))).nx=h'.nx:=rfl;generalize h'.upd r (some (.map es ck))=h2 at w2 mu n2 ⊢;have i2:SpI hb h2 (c+1) r l df pc p12 b p0 (2^log) t (oD log v) (PX (2^log) (n-1)) xs:=⟨⟨_,F,w2,A⟩,mu⟩;show RR P l [dh ((n-1:Nat):Int),dh (i:Nat)] h2 _;refine i2.round (s:=(i:Int)) t5 dd dd λh3 i3 n3=>JD ?_
   refine λC m=>⟨rfl,rfl,d.length-(i+1),dd,i+1,n-1,_,dd,rfl,(show h3.nx=E.nx by omega),i3,?_,dd,dd,?_⟩
   .rw[<-D,hd];exact(if_pos Y).symm
   have e2:zb ((n:Int)-1-1)=((n-1:Nat):Int)-1:=by rw[zD dd dd];omega
   have q:=m.sub (l':=[(20,dh (zb ((i:Int)+1))),(19,dh d.length),(18,v),(4,.map r),(5,dh (zb (((n-1:Nat):Int)-1))),(0,.yield l),(1,.ptr pc 0),(3,dh (2^log:Nat))]) rfl;rw[e,<-en,e2]at q;exact q
  rw[if_neg Y]at X;refine⟨rfl,rfl,d.length-(i+1),dd,i+1,n,xs,dd,rfl,z,y,?_,dd,L,?_⟩
  .rw[<-D,hd];exact(if_neg Y).symm
  rw[<-e];exact m.sub de
 have hi:i=d.length:=dd
 subst hi;rw[List.drop_length]at D hN;have hn9:n=2^log-yY d:=by have:yY []=0:=rfl;omega
 subst hn9;have hx0:xs=Z3 d 0 (2^log) (List.replicate (2^log) 0):=D;subst hx0;obtain⟨⟨o,F,w',A⟩,mp⟩:=y;refine thenC.left (sg m ⟨_,w'.ld1 3 rfl zM rfl,_,B.len zM rfl,λtm2 G=>?_⟩);have y:SpI hb h' (c+1) r l df pc p12 b p0 (2^log) t (oD log v) (PX (2^log) (2^log-yY d)) (Z3 d 0 (2^log) (List.replicate (2^log) 0)):=⟨⟨o,F,w',A⟩,mp⟩;refine wpC.round (λk tm h'=>∃(i n:Nat) (xs:Ub),i<=d.length/\k=d.length-i/\h'.nx=E.nx/\SpI hb h' (c+1) r l df pc p12 b p0 (2^log) t (oD log v) (PX (2^log) (2^log-yY d)) xs /\
  Yb log (yY d) (d.drop i) i n xs=za log d /\
  Has tm [(40,dh i),(39,dh d.length),(38,v),(4,.map r),(8,dh (Ku log (yY d) n:Nat)),(0,.yield l),(1,.ptr pc 0),(3,dh (2^log:Nat))]) d.length
  ⟨0,0,_,dd,dd,z,y,rfl,G.sub rfl⟩ ?_
 clear hs G m y w' mp A D hN L B z;rintro k tm h' ⟨i,n,xs,hi1,rfl,z,y,D,hs⟩;have B:=sl.ext y.ex;refine cg Pd hs ⟨λW=>?_,λW=>λC m=>?_⟩
 rotate_left
 .have hi:i=d.length:=dd
  subst hi;rw[List.drop_length]at D;have hx:xs=za log d:=D;subst hx;show yL Pd (endW zB ⟨75,[],bf 323⟩ Q) (exitB 2 (.exit 2)) _;rw[xM];exact m.slt λZ _=>hq h' _ _ y
 have hi:i<d.length:=dd
 have hd:=qT hi;obtain⟨pb,po,a1,a2⟩:=B.at1 (u:=dh d[i]) hi zM rfl zX rfl rfl (by rw[od,oQ hi];rfl);have e:zb ((i:Int)+1)=((i+1:Nat):Int):=by rw[zD dd dd];rfl
 have K:=bG g.low (oV hi);rw[g.pts]at K;have hpc:((2^log:Nat):Int)=2^log:=by simp
 rw[hd]at D;unfold Yb at D;generalize d[i]=x at a2 D K;have ex:max x 0=((x.toNat:Nat):Int):=dd
 refine⟨pb,po,a1,x,a2,λC m=>?_⟩;rw[ex]at m;refine wpC.round (λk tm h'=>∃(j:Nat) (I:Ub),j<=x.toNat/\k=x.toNat-j/\h'.nx=E.nx/\SpI hb h' (c+1) r l df pc p12 b p0 (2^log) t (oD log v) (PX (2^log) (2^log-yY d)) I /\
  XC log (yY d) i (x.toNat-j) (n+j) I=XC log (yY d) i x.toNat n xs /\
  Has tm [(47,dh j),(46,dh x.toNat),(9,dh i),(40,dh i),(39,dh d.length),(38,v),(4,.map r),(8,dh (Ku log (yY d) (n+j):Nat)),(0,.yield l),(1,.ptr pc 0),(3,dh (2^log:Nat))]) x.toNat
  ⟨0,xs,dd,dd,z,y,rfl,m.sub rfl⟩ ?_
 clear hs m y B a2 z;rintro k tm h' ⟨j,I,hj1,rfl,z,y,hP,hs⟩;refine cg Pd hs ⟨λW=>?_,λW C m=>?_⟩
 .have hj:j<x.toNat:=dd
  have hpl:=J5 hl J (n+j);have e2:zb ((j:Int)+1)=((j+1:Nat):Int):=by rw[zD dd dd];rfl
  show RR P l [dh (Ku log (yY d) (n+j):Nat),dh (i:Nat)] h' _;refine y.round (s:=(i:Int)) t5 dd dd λh3 i3 n3=>JD ?_
  have i3':=i3;obtain⟨⟨o,F,w',A⟩,mp⟩:=i3;refine⟨_,w'.ld1 3 rfl zX rfl,PP hl ⟨_,rfl,_,Rt hl dd,λC m=>?_⟩⟩;refine BQ (f:=13) (tgt:=Ku log (yY d) (n+(j+1))) hl i3' (Nat.mod_lt _ (Nat.pow_pos dg)) rfl (J5 hl J _) (m.sub rfl) λtm2 G=>?_
  refine thenC.out2 ?_;refine sg G (λZ M=>M.slt λtm4 N=>⟨rfl,rfl,x.toNat-(j+1),dd,j+1,_,dd,rfl,(show h3.nx=E.nx by omega),i3',?_,?_⟩)
  .rw[<-hP,show x.toNat-j=(x.toNat-(j+1))+1 by omega];rfl
  rw[<-e2];exact N.sub de
 have hj:j=x.toNat:=dd
 subst hj;rw[Nat.sub_self]at hP;have hx1:I=XC log (yY d) i x.toNat n xs:=hP;subst hx1;refine thenC.left2 ?_;refine sg m (λZ M=>M.slt λtm4 N=>⟨rfl,rfl,d.length-(i+1),dd,i+1,n+x.toNat,_,dd,rfl,z,y,D,?_⟩);try dsimp only
 rw[<-e];exact N.sub de
theorem _root_.Go.Sim.exitB_nm(i:Nat):exitB i .normal = .normal:=rfl
theorem pu{v:V}{log:Nat}{l:Ub}(sl:Sl h v 1 l.length (zI l))(g:GD log l)(hq:∀h' v',Ext h h' 7->Sl h' v' 1 (2^log) (zI (za log l))->Q (.tuple [v',.int .i64 0]) h')(hn:h.nx+10<=T.top:=by omega):RF P zB 274 [.agg [.int .i64 log,v]] h Q:=by
 have hpw:=xR g.lg;have hlg:=g.lg;refine zh E6 zEj (xQ sl ⟨dd,?_⟩);rintro p0 U rfl e1;have B:=(Vw.nil (S:=zH) (h:=h)).new e1 dd;have t1:=B.top;refine⟨_,_,B.ldA 0 rfl xE rfl,jB (sl.ext B.ex0) g ⟨0,rfl,λc=>absurd rfl c,λ_=>⟨_,B.ld1 0 rfl zX rfl,((1*2^log:Nat):Int),zr (a:=1) dd dd,?_⟩⟩⟩;try dsimp only
 rw[Nat.one_mul];obtain⟨cs,e2,row⟩:=Row.make (cx:=zB) (k:=2^log) (h:=U) zM rfl zX rfl rfl rfl dd (by show 8*2^log<=_;omega) dd;obtain⟨x,C⟩:∃x,x=U.new (yV cs):=⟨_,rfl⟩;rw[<-C]at e2;have D:=B.new C dd;have t11:=D.top;refine⟨_,x,e2,rfl,dd,?_⟩;rintro p12 h13 rfl W;have E:=D.new W dd;have t13:=E.top;obtain⟨y,X,m,n14,_⟩:=E.st (cx:=zB) 0 (f:=0) (u:=.slice U.nx 0 (2^log) (.exact (2^log))) rfl dd zM rfl;refine⟨y,X,_,_,m.ldA 2 rfl xE rfl,?_⟩;have F:=sl.ext m.ex0;have t14:=m.top;refine zh zHz zFJ (xQ F ⟨dd,?_⟩);rintro p18 d rfl Y;have G:=m.new Y dd;have t18:=G.top;refine⟨_,rfl,λtm hs=>?_⟩;refine RC.rangeFunc xf (g:=323) (first:=[]) (captured:=[.ptr y.nx 0]) (show yt tm (t 18)=_ from congrArg some (hs.get rfl)) (by show d.nx+1<_;omega) ?_;show RF P zB 323 [.yield (d.nx+1),.ptr y.nx 0] ((d.new (.deferred true)).new (oLp tm d.nx)) _;obtain⟨e,z⟩:∃e,e=d.new (.deferred true):=⟨_,rfl⟩;have H:=G.new z dd;have t19:=H.top;have Z:e.nx=d.nx+1:=by rw[z,zC]
 obtain⟨I,J⟩:∃I,I=e.new (oLp tm d.nx):=⟨_,rfl⟩;have K:=H.new J dd;have t20:=K.top;try dsimp only
 rw[<-z,<-J,<-Z];refine N4 g (hs.sub de) K (by rw[qV];exact row) sl dd λA r f i=>?_
 have t21:=i.top;obtain⟨⟨o,cs2,L,M⟩,_⟩:=i;have gl:=L.get 1 rfl;simp only[kl,gl];have q:=L.upd 1 (o':=.loop .exhausted none 26 tm #[19,20] Kw JY d.nx) rfl dd;have n22:(A.upd e.nx (some (.loop .exhausted none 26 tm #[19,20] Kw JY d.nx))).nx=A.nx:=rfl;generalize A.upd e.nx (some (.loop .exhausted none 26 tm #[19,20] Kw JY d.nx))=j at q n22 ⊢;show Wf E6 zBS ⟨26,tm,[.coll d.nx],j⟩ (endW zB ⟨26,[.tmp 2,.tmp 3],bf 274⟩ Q);refine sg hs ?_;refine⟨_,q.ld1 4 rfl zM rfl,λN O=>?_⟩;show Kr [.coll d.nx] j _;simp only[Kr,q.get 2 rfl];have w:=q.upd 2 (o':=.deferred false) rfl dd;have n23:(j.upd d.nx (some (.deferred false))).nx=j.nx:=rfl;generalize j.upd d.nx (some (.deferred false))=h23 at w n23 ⊢;show Q (.tuple [zq N 2,zq N 3]) h23;rw[O.get (t:=2) rfl,O.get (t:=3) rfl];exact hq h23 _ w.ex0 (M.sl (w.lt 5 rfl) (w.get 5 rfl))
abbrev Yk(c:Cl):Ug:=[dh c.1,dh (c.2.1:Nat),dh (c.2.2:Nat)]
def wY(l:List Cl):Ug:=l.flatMap Yk
theorem SM(l m:List Cl):wY (l++m)=wY l++wY m:=List.flatMap_append ..
theorem sD:∀{l:List Cl}{i:Nat}{c:Cl},l[i]? = some c->∀j,j<3->(wY l)[i*3+j]? = (Yk c)[j]?
 | [],_,_,h=>by cases h
 | d::l,0,c,h=>by cases h;intro j e;show(Yk d++wY l)[0*3+j]? = _;rw[Nat.zero_mul,Nat.zero_add,List.getElem?_append_left (by show j<3;exact e)]
 | d::l,i+1,c,h=>by intro j e;have:=sD (l:=l) (i:=i) h j e;show(Yk d++wY l)[(i+1)*3+j]? = _;rw[List.getElem?_append_right (by show 3<=_;omega),<-this];congr 1;show(i+1)*3+j-3=_;omega
theorem Nx{x:Int}(h : -1<=x){hp:H}{Q:Uc}(d:Q (dh (x.natAbs:Nat)) hp):RF P zB 277 [dh x] hp Q:=by
 refine zh zHn zEm ⟨λc=>?_,λc=>?_⟩
 .have:x = -1:=dd
  subst this;exact d
 rwa [show((x.natAbs:Nat):Int)=x by omega]at d
theorem Cf{d:Nat}{log:Int}{s:Int}(g:h.get d=some (oD log v))(sl:Sl h v 1 l.length (zI l))(j:∀x∈l,-1<=x)(k:Tl l s)(f:Q (dh (qP l s:Nat)) h):RF P zB 276 [dh s,.ptr d 0] h Q:=by
 obtain⟨n,rfl,p,hp,m⟩:=k;have q:=(List.getElem?_eq_some_iff.1 hp).1;obtain⟨b,o,a1,a2⟩:=sl.at1 (u:=dh p) q zM rfl zX rfl rfl (by rw[od,hp];rfl);have e:qP l (n:Int)=p.natAbs:=by unfold qP;rw[oe,hp];rfl
 rw[e]at f;refine zh zHm zEl ?_;try dsimp only
 exact⟨v,zJ zM rfl g rfl,b,o,a1,p,a2,Nx (j p (List.mem_of_getElem? hp)) ⟨_,rfl,f⟩⟩
theorem AQ{k:Uc}{x:Int}(d:k (dh x) h):Xr zB 3 k (dh x) h:=⟨x,rfl,d⟩
theorem Cn:∃cs,cond (zU (V.cells (.agg (List.replicate 1536 (dh (0:Int)))))) (Cs.ofL (V.cells (.agg (List.replicate 1536 (dh (0:Int)))))) none=some cs/\RowE cs 3 0 512 []:=by
 obtain⟨cs,d,h2⟩:=Cs.ofL_some (l:=List.replicate 1536 (dh (0:Int))) (by rw[List.length_replicate];decide);obtain⟨h3,_⟩:=Cs.ofL_eq d;have e:V.cells (.agg (List.replicate 1536 (dh (0:Int))))=List.replicate 1536 (dh (0:Int)):=de
 have f:zU (List.replicate 1536 (dh (0:Int)))=true:=de
 refine⟨cs,by rw[e,f,oN,d],h2,by rw[h3,List.length_replicate],rfl,dg,λi hi=>dd⟩
theorem zFn{x:Nat}(h:1<=x):hi (x:Int)=((zQ x-1:Nat):Int):=by have:=wq x;have:=pT h;omega
theorem VH{v vs:V}{log:Nat}{l:Ub}{G:Nat}(g:GD log l)(hg:h.get G=some (oD log v))(hpd:G<h.nx)(sl:Sl h v 1 l.length (zI l))(ss:Sl h vs 1 (2^log) (zI (za log l)))(hn:h.nx+70<=T.top)(hq:∀h' v',Ext h h' 66->Sl h' v' 3 (2^log) (wY (wh log l))->Q v' h'):RF P zB 275 [dh log,.func (.func 276) [] [.ptr G 0],vs] h Q:=by
 have hpw:=xR g.lg;have hlg:=g.lg;obtain⟨cs0,er,Z⟩:=Cn;refine zh Pc zEk ⟨_,er,dd,?_⟩;rintro p0 d rfl e1;have w1:=(Vw.nil (S:=zH) (h:=h)).new e1 dd;have t1:=w1.top;have esl:zw zB 356 d (.ptr h.nx 0) none (some (dh (0:Int))) (some (dh (512:Int)))=some (.slice h.nx 0 0 (.exact 512)):=de
 obtain⟨h5,e5⟩:∃h5,h5=d.new (.map [] 0):=⟨_,rfl⟩;have w5:=w1.new e5 dd;have m5:MapI h5 d.nx (λ_=>none):=by rw[e5];exact MapI.new dd
 refine⟨_,esl,.map d.nx,h5,by rw[e5];exact ZB rfl,_,(ss.ext w5.ex0).len zM rfl,λtm hs=>?_⟩;have hdl:=sP log l;refine wpC.round (λk tm h'=>∃(i:Nat) (nx:Int->Nat) (f:Int->Ui) (o:O) (cs:Cs),i<=2^log/\k=2^log-i/\Vw zH h h' (2+i) [(d.nx,o),(h.nx,.cells cs ⟨0,356+1,0⟩ true false)]/\MapI h' d.nx f/\RowE cs 3 i 512 (wY ((wh log l).take i)) /\
  sE log nx ((za log l).drop i)=(wh log l).drop i/\(∀s,f s=none/\nx s=qP l s\/f s=some (dh (nx s:Nat)))/\(∀s,qP l s<=nx s/\nx s<=2^log+i) /\
  Has tm [(20,dh i),(19,dh (2^log:Nat)),(18,vs),(9,.map d.nx),(0,dh log),(8,.slice h.nx 0 i (.exact 512)),(1,.func (.func 276) [] [.ptr G 0])]) (2^log)
  ⟨0,qP l,_,_,cs0,dd,dd,w5,m5,Z,rfl,λs=>.inl ⟨rfl,rfl⟩,λs=>⟨oR _,by have:=Qx g s;omega⟩,hs.sub de⟩ ?_
 clear hs m5 w5 e5 h5;rintro k tm h' ⟨i,nx,f,o,cs,hi1,rfl,w,mp,row,hce,hf,hnx,hs⟩;have tw:=w.top;have ssk:=ss.ext w.ex0;refine cg Pc hs ⟨λc1=>?_,λc1=>λtm' hs'=>?_⟩
 rotate_left
 .have I:i=2^log:=dd
  subst I;rw[List.take_of_length_le dd]at row;refine thenC.left (sg hs' (λr y=>endW.r1 (y.get rfl) ?_));exact hq h' _ (w.ex0.mono dd) (row.sl (w.lt 1 rfl) (w.get 1 rfl))
 have I:i<(za log l).length:=by rw[kC];omega
 have M:(za log l)[i]? = some (za log l)[i]:=oQ I;have B:=Ki g M;obtain⟨pb,po,a1,a2⟩:=ssk.at1 (i:=i) (u:=dh (za log l)[i]) (show i<2^log by omega) zM rfl zX rfl rfl (by rw[od,M];rfl);have C:=hce;rw[List.drop_eq_getElem_cons I]at C;unfold sE at C;have hid:i<(wh log l).length:=dd
 rw[List.drop_eq_getElem_cons hid]at C;obtain⟨hc1,hc2⟩:=List.cons.inj C;have htk:(wh log l).take (i+1)=(wh log l).take i++[DI log (za log l)[i] (nx (za log l)[i])]:=by rw[List.take_add_one,oQ hid,<-hc1];rfl
 clear C hce hc1 M;generalize (za log l)[i]=s at B a2 hc2 htk;have hx1:=WJ B;have hxs:=hnx s;have hxf:=hf s;obtain⟨b1,b2,b3,b4,b5⟩:=tg (log:=log) (x:=nx s) dd (by rw[Nat.pow_succ];omega);have e:zb ((i:Int)+1)=((i+1:Nat):Int):=by rw[zD dd dd];rfl
 have go:∀(h2:H) (A:Int->Ui) (o2:O) (r:Tm),Vw zH h h2 (2+i) [(d.nx,o2),(h.nx,.cells cs ⟨0,356+1,0⟩ true false)]->MapI h2 d.nx A->A s=some (dh (nx s:Nat))->(∀s,A s=none/\nx s=qP l s\/A s=some (dh (nx s:Nat))) ->
   Has r [(20,dh i),(19,dh (2^log:Nat)),(18,vs),(9,.map d.nx),(0,dh log),(8,.slice h.nx 0 i (.exact 512)),(1,.func (.func 276) [] [.ptr G 0]),(11,dh s)] ->
   ∀R:AX->St->Prop,(∀m h3 D J q,Vw zH h h3 (2+(i+1)) [(d.nx,J),(h.nx,.cells q ⟨0,356+1,0⟩ true false)]->MapI h3 d.nx D->RowE q 3 (i+1) 512 (wY ((wh log l).take (i+1)))->(∀j,D j=if j=s then some (dh (nx s+1:Nat)) else A j) ->
    Has m [(20,dh i),(19,dh (2^log:Nat)),(18,vs),(9,.map d.nx),(0,dh log),(8,.slice h.nx 0 (i+1) (.exact 512)),(1,.func (.func 276) [] [.ptr G 0])]->R .normal ⟨64,m,[],h3⟩) ->
   Wf Pc zBT ⟨64,r,[],h2⟩ R:=by
  intro h2 A o2 r w2 m2 z _ y R hR;have hrt:d.nx<T.top:=dd
  have tw2:=w2.top;have lk:Y1 zB 357 h2 (.map d.nx) (dh s) false=some (dh (nx s:Nat)):=by rw[m2.look P2 rfl zX rfl zX rfl,z];rfl
  obtain⟨es,Y,eu,mu⟩:=m2.upd (c:=zB) P2 rfl zX rfl hrt s (dh (nx s+1:Nat));have ex1:zb (((nx s:Nat):Int)+1)=((nx s+1:Nat):Int):=by rw[zD dd dd];rfl
  have N:=w2.upd 0 (o':=.map es Y) rfl dd;refine sg y ⟨_,lk,_,lk,h2.upd d.nx (some (.map es Y)),by rw[ex1];exact eu,?_⟩;have n3:(h2.upd d.nx (some (.map es Y))).nx=h2.nx:=rfl;generalize h2.upd d.nx (some (.map es Y))=h3 at N mu n3 ⊢;refine lM ⟨_,rfl,?_⟩;have eb:zb ((log:Int)-hi ((nx s:Nat):Int))=((jL log (nx s):Nat):Int):=by rw[zFn dd,zD dd dd];unfold jL;omega
  have e2p:2^(log+1)=2*2^log:=Nat.pow_succ';refine⟨((nx s*2^jL log (nx s):Nat):Int),by rw[eb,zV dd];exact zr dd dd,((1*2^log:Nat):Int),by rw[zV dd];exact zr (a:=1) dd dd,?_⟩;have eba:zb (((nx s*2^jL log (nx s):Nat):Int)-((1*2^log:Nat):Int))=((tc log (nx s):Nat):Int):=by rw[zD dd dd];unfold tc;omega
  obtain⟨v8,h9,e9,sl9,x9,_⟩:=xG (c:=zB) (h:=h3) (u:=.agg (Yk (DI log s (nx s)))) (ys:=Yk (DI log s (nx s))) T0 rfl PZ rfl rfl rfl rfl (oG rfl) rfl dd;have w9:=N.ext x9;have t9:=w9.top;obtain⟨h11,cs11,e11,U,w11,n11⟩:=w9.app (cx:=zB) 1 rfl row sl9 dg T0 rfl PZ rfl rfl dd rfl dd;refine⟨v8,h9,by rw[eb,eba];exact e9,trivial,_,h11,e11,λm W=>hR m h11 (λj=>if j=s then some (dh (nx s+1:Nat)) else A j) _ cs11 (w11.more dd) (mu.mono ?_) ?_ (λ_=>rfl) (W.sub de)⟩
  .exact(w11.get 0 rfl).trans (N.get 0 rfl).symm
  rw[htk,SM];have:wY [DI log s (nx s)]=Yk (DI log s (nx s)):=by simp[wY]
  rw[this];exact U
 have fin:∀(A:Int->Ui) (h3:H) (D:Int->Ui) (J:O) (q:Cs) (m:Tm) (R:Ud),(∀s,A s=none/\nx s=qP l s\/A s=some (dh (nx s:Nat)))->Vw zH h h3 (2+(i+1)) [(d.nx,J),(h.nx,.cells q ⟨0,356+1,0⟩ true false)]->MapI h3 d.nx D->RowE q 3 (i+1) 512 (wY ((wh log l).take (i+1)))->(∀j,D j=if j=s then some (dh (nx s+1:Nat)) else A j) ->
   Has m [(20,dh i),(19,dh (2^log:Nat)),(18,vs),(9,.map d.nx),(0,dh log),(8,.slice h.nx 0 (i+1) (.exact 512)),(1,.func (.func 276) [] [.ptr G 0])] ->
   (λe s1=>(thenC (λs1=>Wf Pc zBU s1 (yL Pc (thenC (λs1=>s1.n=64/\s1.dfr=[]/\∃j,j<2^log-i/\∃(i:Nat) (nx:Int->Nat) (f:Int->Ui) (o:O) (cs:Cs),i<=2^log/\j=2^log-i/\Vw zH h s1.heap (2+i) [(d.nx,o),(h.nx,.cells cs ⟨0,356+1,0⟩ true false)]/\MapI s1.heap d.nx f/\RowE cs 3 i 512 (wY ((wh log l).take i)) /\
  sE log nx ((za log l).drop i)=(wh log l).drop i/\(∀s,f s=none/\nx s=qP l s\/f s=some (dh (nx s:Nat)))/\(∀s,qP l s<=nx s/\nx s<=2^log+i) /\
  Has s1.tm [(20,dh i),(19,dh (2^log:Nat)),(18,vs),(9,.map d.nx),(0,dh log),(8,.slice h.nx 0 i (.exact 512)),(1,.func (.func 276) [] [.ptr G 0])]) R))) (yL Pc (thenC (λs1=>s1.n=64/\s1.dfr=[]/\∃j,j<2^log-i/\∃(i:Nat) (nx:Int->Nat) (f:Int->Ui) (o:O) (cs:Cs),i<=2^log/\j=2^log-i/\Vw zH h s1.heap (2+i) [(d.nx,o),(h.nx,.cells cs ⟨0,356+1,0⟩ true false)]/\MapI s1.heap d.nx f/\RowE cs 3 i 512 (wY ((wh log l).take i)) /\
  sE log nx ((za log l).drop i)=(wh log l).drop i/\(∀s,f s=none/\nx s=qP l s\/f s=some (dh (nx s:Nat)))/\(∀s,qP l s<=nx s/\nx s<=2^log+i) /\
  Has s1.tm [(20,dh i),(19,dh (2^log:Nat)),(18,vs),(9,.map d.nx),(0,dh log),(8,.slice h.nx 0 i (.exact 512)),(1,.func (.func 276) [] [.ptr G 0])]) R))) (exitB 1 e) s1) .normal ⟨64,m,[],h3⟩:=by
  intro A h3 D J q m R z N m3 row3 hf3 W;refine thenC.nx (sg W (λtm4 E=>E.slt λtm5 hs5=>⟨rfl,rfl,2^log-(i+1),dd,i+1,λj=>if j=s then nx s+1 else nx j,D,J,q,dd,rfl,N,m3,row3,hc2,λj=>?_,λj=>?_,?_⟩))
  .rw[hf3];by_cases c:j=s
   .right;simp only[if_pos c]
   simp only[if_neg c];exact z j
  .have:=hnx j;show qP l j<=(if j=s then nx s+1 else nx j)/\(if j=s then nx s+1 else nx j)<=_;by_cases c:j=s
   .subst c;rw[if_pos rfl];omega
   rw[if_neg c];omega
  rw[<-e];exact hs5.sub de
 refine⟨pb,po,a1,s,a2,?_⟩;have lk:=mp.look (c:=zB) (t:=357) P2 rfl zX rfl zX rfl s true;rcases hxf with⟨K,hn1⟩|K
 .rw[K]at lk;refine⟨0,false,lk,λc=>(by cases c),λ_=>?_⟩;show RF P zB 276 [dh s,.ptr G 0] h' _;refine Cf ((w.ex0.get _ hpd).trans hg) (sl.ext w.ex0) g.low B (AQ ?_);obtain⟨es,Y,eu,mu⟩:=mp.upd (c:=zB) P2 rfl zX rfl (show d.nx<T.top by omega) s (dh (qP l s:Nat));have N:=w.upd 0 (o':=.map es Y) rfl dd;refine⟨_,eu,λr y=>?_⟩;have z:∀L,(λj=>if j=s then some (dh (qP l s:Nat)) else f j) L=none/\nx L=qP l L\/(λj=>if j=s then some (dh (qP l s:Nat)) else f j) L=some (dh (nx L:Nat)):=λL=>by
   by_cases c:L=s
   .subst c;right;simp only[if_true];rw[hn1]
   simp only[if_neg c];exact hf L
  refine go _ _ _ r N mu (by simp only[if_true];rw[hn1]) z (y.sub de) _ λm h3 D J q w4 m4 F X E=>?_
  exact fin _ h3 D J q m _ z w4 m4 F X E
 rw[K]at lk;refine⟨_,true,lk,λ_=>λr y=>?_,λc=>(by cases c)⟩;refine go _ _ _ r w mp K hf (y.sub de) _ λm h3 D J q w4 m4 F X E=>?_
 exact fin _ h3 D J q m _ hf w4 m4 F X E
theorem VG(sl:Sl h v 1 l.length (zI l))(g:GD log l)(y:h.nx+90<=T.top)(r:∀h' v',Ext h h' 80->Sl h' v' 3 (2^log) (wY (wh log l))->Q (.tuple [v',dh 0]) h'):RF P zB 214 [.agg [dh log,v]] h Q:=by
 refine zh zH2 zEJ (xQ sl ⟨dd,?_⟩);rintro p0 z rfl t;have e:=(Vw.nil (S:=zH) (h:=h)).new t dd;have A:=e.top;have s1:=sl.ext e.ex0;refine⟨_,_,e.ldA 0 rfl xE rfl,jB s1 g ⟨0,rfl,λc=>absurd rfl c,λ_=>⟨_,_,e.ldA 0 rfl xE rfl,?_⟩⟩⟩;refine pu s1 g λu w f j=>⟨_,_,rfl,λc=>absurd rfl c,λ_=>?_⟩
 have d:=e.ext f;have x:=d.top;refine⟨_,d.ld1 0 rfl zX rfl,VH g (d.get 0 rfl) (d.lt 0 rfl) (sl.ext d.ex0) j dd λk m o q=>⟨_,rfl,?_⟩⟩;exact r k m ((d.ex0.trans o).mono dd) q
abbrev AA(s:Ua)(left:Nat)(v:V)(log:Nat):O:=.cells (.ls [.str s,dh left,v,dh log]) ⟨0,195+1,0⟩ true false
theorem LC(sl:Sl h v 1 l.length (zI l))(g:GD log l)(hs:s.length<=2000)(N:h.nx+100<=T.top)(r:yH s<0->∀h',Ext h h' 2->Q (.tuple [.nilptr,dh 22]) h')(m:¬yH s<0->∀h4 h' v',Ext h h4 90->Sl h4 v' 3 (2^log) (wY (wh log l))->Vw zH h4 h' 1 [(h4.nx,AA s (yH s).toNat v' log)]->Q (.tuple [.ptr h4.nx 0,dh 0]) h'):
  RF P zB 140 [.agg [dh log,v],.str s] h Q:=by
 refine zh zHG zD7 (xQ sl ⟨dd,?_⟩);rintro p0 O rfl G;have t:=(Vw.nil (S:=zH) (h:=h)).new G dd;have U:=t.top;have s1:=sl.ext t.ex0;refine⟨_,_,t.ldA 0 rfl xE rfl,jB s1 g ⟨0,rfl,λc=>absurd rfl c,λ_=>Wc hs ?_⟩⟩;unfold AO;by_cases c:yH s<0
 .rw[if_pos c];refine⟨_,_,_,rfl,dd,?_⟩;rintro z A rfl o;have e:=t.new o dd;have B:=e.top;obtain⟨j,q,d,C,_⟩:=e.st (cx:=zB) 0 (f:=0) (u:=.agg [.str [],dh 0]) rfl dd wK rfl;exact⟨j,q,λ_=>r c j d.ex0,λg=>absurd (show(22:Int)≠0 by decide) g⟩
 rw[if_neg c];refine⟨_,_,_,rfl,dd,?_⟩;rintro z A rfl o;have e:=t.new o dd;have B:=e.top;obtain⟨j,q,d,C,_⟩:=e.st (cx:=zB) 0 (f:=0) (u:=.agg [.str s,dh (yH s)]) rfl dd wK rfl;refine⟨j,q,λg=>absurd rfl g,λ_=>⟨_,_,d.ldA 1 rfl xE rfl,VG (sl.ext d.ex0) g (by have:=d.top;omega) λw v20 D x=>?_⟩⟩;have k:=d.ext D;have H:=k.top;obtain⟨I,J,K,rfl⟩:=x.at0 (Nat.two_pow_pos log);refine⟨_,_,rfl,_,_,k.ldA 0 rfl wK rfl,_,k.ld1 1 rfl zX rfl,_,rfl,dd,?_⟩;rintro L E rfl F;have M:yH s=((yH s).toNat:Nat):=dd
 have y:=(Vw.nil (S:=zH) (h:=w)).new F dd;rw[M]at y;exact m c w E _ (k.ex0.mono dd) x y
theorem JH{left:Nat}(C:h.get p=some (AA s left v log))(hp:p<h.nx)(hs:s.length<=2000)(hl:(left:Int)<=yH s)(hm:n<=32)(E:h.nx+1<=T.top)(r:n<=left->∀h',ExtX (· = p) h h' 1->h'.get p=some (AA s (left-n) v log)->Q (.tuple [dh (xH s left n:Nat),.bool true]) h')(t:¬n<=left->∀h',ExtX (· = p) h h' 1->h'.get p=some (AA s left v log)->Q (.tuple [dh 0,.bool false]) h'):RF P zB 141 [.ptr p 0,dh n] h Q:=by
 have w:=Vw.one (S:=(· = p)) C hp rfl;refine zh zHH zD8 ?_;refine⟨_,_,w.ldA 0 rfl wK rfl,TU hs hl hm ?_⟩;have hb:=XX s left n;have B:2^n<=2^32:=Nat.pow_le_pow_right dg hm;unfold BH;by_cases c:n<=left
 .rw[if_pos c];refine⟨_,_,_,_,rfl,dd,?_⟩;rintro p12 x rfl k;have d:=w.new k dd;have y:=d.top;obtain⟨j,m,e,z,_⟩:=d.st (cx:=zB) 0 (f:=0) (u:=.agg [.str s,dh ((left-n:Nat):Int)]) rfl dd wK rfl;refine⟨j,m,λg=>absurd rfl g,λ_=>⟨_,_,e.ldA 0 rfl wK rfl,?_⟩⟩;obtain⟨o,A,q,D,_⟩:=e.st (cx:=zB) 1 (f:=0) (u:=.agg [.str s,dh ((left-n:Nat):Int)]) rfl dd wK rfl;refine⟨o,A,?_⟩;show Q (.tuple [dh (zb _),.bool true]) o;rw[zD dd dd];exact r c o q.ex (q.get 1 rfl)
 rw[if_neg c];refine⟨_,_,_,_,rfl,dd,?_⟩;rintro p12 x rfl k;have d:=w.new k dd;have y:=d.top;obtain⟨j,m,e,z,_⟩:=d.st (cx:=zB) 0 (f:=0) (u:=.agg [.str [],dh 0]) rfl dd wK rfl;exact⟨j,m,λ_=>t c j e.ex (e.get 1 rfl),λg=>absurd (show(5:Int)≠0 by decide) g⟩
theorem _root_.Go.Sim.Sl.atA{cx:Ctx}{esz:Nat}{xs ys:Ug}(s:Sl h v esz n xs)(hi:i<n){t e:Nat}{ti te:TI}(z:cx.ty.get t=some ti)(hd:ti.desc = .slice e)(x:cx.ty.get e=some te)(hs:te.size=esz)(A:jx te.desc=true)(h0:0<esz)(B:ys.length=esz)(C:∀j,j<esz->xs[i*esz+j]? = ys[j]?):
  ∃b o,xK cx t v (dh i)=some (.ptr b o)/\ye cx e h (.ptr b o)=some (.agg ys)/\∀f m u,cx.ty.get f=some m->jx m.desc=false->∀j,j<esz->ys[j]? = some u->ye cx f h (.ptr b (o+j))=some u:=by
 obtain⟨b,o,D,cs,k,w,op,y,E⟩:=s.at hi z hd x hs;have d:∀j,j<esz->cs.get? (o+j)=ys[j]?:=λj g=>(E j g).trans (C j g)
 refine⟨b,o,D,zT x A y (by rw[hs];exact Cs.range_is h0 B d),λf m u F q j g r=>zJ F q y ?_⟩;try dsimp only
 rw[d j g,r]
abbrev Qz(x y:Int):O:=.cells (.ls [dh x,dh y]) ⟨0,126+1,0⟩ true false
theorem Z6{k:Nat}(d:k<2):xK zB 126 (.ptr p 0) (dh k)=some (.ptr p k):=by
 rcases k with _|_|k
 .kernel_rfl
 .kernel_rfl
 omega
def JM(i a b:Nat):Nat×Nat:=if i % 2=0 then (a,b) else (b,a)
theorem Il(i a b x:Nat):JM (i+1) b x=if i % 2=0 then (x,(JM i a b).2) else ((JM i a b).1,x):=by
 unfold JM;by_cases c:i % 2=0
 .rw[if_neg dd,if_pos c,if_pos c]
 rw[if_pos dd,if_neg c,if_neg c]
theorem X0(x:Int)(d:h.nx<T.top):∃v h',zO zB 23 1 [(0,dh x)] h=some (v,h')/\Sl h' v 1 1 [dh x]/\Ext h h' 1:=by obtain⟨v,h',e,s,x,_⟩:=xG (c:=zB) (h:=h) (u:=dh x) (ys:=[dh x]) zM rfl zX rfl rfl rfl rfl (oG rfl) rfl d;exact⟨v,h',e,s,x⟩
theorem _root_.Go.Sim.Sep.more{b0:Nat}{l:List (Nat×O)}(s:Sep S b0 l v){o:O}(h:∀b,z6 v=some b->b<p):Sep S b0 ((p,o)::l) v:=λb hb=>⟨(s b hb).1,λq d=>by
 rcases oq.1 d with rfl|d
 .exact Nat.ne_of_gt (h b hb)
 exact(s b hb).2 q d⟩
theorem _root_.Go.Sim.Sep.less{b0:Nat}{l l':List (Nat×O)}(s:Sep S b0 l v)(h:∀q∈l',∃d∈l,d.1=q.1):Sep S b0 l' v:=λb hb=>⟨(s b hb).1,λq e=>by
 obtain⟨d,f,h2⟩:=h q e;rw[<-h2];exact(s b hb).2 d f⟩
structure TwI (hb h:H) (c p9 ps:Nat) (s:Ua) (v8:V) (log left i a b:Nat) (v:V) (out:Ub):Prop where
 vw:Vw zH hb h c [(p9,Qz (JM i a b).1 (JM i a b).2),(ps,AA s left v8 log)]
 ow:Ow h v yg out.length (zI out)
 sp:Sep zH hb.nx [(p9,Qz (JM i a b).1 (JM i a b).2),(ps,AA s left v8 log)] v
theorem th{cs:List Cl}{c:Cl}(h:cs[a]? = some c){hp:H}(sl:Sl hp v 3 n (wY cs))(d:a<n):
  ∃b o,xK zB 123 v (dh a)=some (.ptr b o)/\ye zB 131 hp (.ptr b o)=some (.agg (Yk c))/\ye zB 3 hp (.ptr b (o+0))=some (dh c.1):=by
 obtain⟨b,o,e,h2,h3⟩:=sl.atA (cx:=zB) (i:=a) d T0 rfl PZ rfl rfl dg (ys:=Yk c) rfl (sD h);exact⟨b,o,e,h2,h3 _ _ _ zX rfl 0 dg rfl⟩
theorem Es(i a b:Nat):(Cs.ls [dh ((JM i a b).1:Nat),dh ((JM i a b).2:Nat)]).get? (i % 2)=some (dh a):=by
 unfold JM;by_cases c:i % 2=0
 .rw[c,if_pos rfl];rfl
 have:i % 2=1:=dd
 rw[this,if_neg dg];rfl
theorem Et(i a b:Nat):(Cs.ls [dh ((JM i a b).1:Nat),dh ((JM i a b).2:Nat)]).get? (1-i % 2)=some (dh b):=by
 unfold JM;by_cases c:i % 2=0
 .rw[c,if_pos rfl];rfl
 have:i % 2=1:=dd
 rw[this,if_neg dg];rfl
theorem Eu(i a b x:Nat):(Cs.ls [dh ((JM i a b).1:Nat),dh ((JM i a b).2:Nat)]).put (i % 2) [dh x]=some (Cs.ls [dh ((JM (i+1) b x).1:Nat),dh ((JM (i+1) b x).2:Nat)]):=by
 rw[Il];by_cases c:i % 2=0
 .rw[c,if_pos rfl];rfl
 have:i % 2=1:=dd
 rw[this,if_neg dg];rfl
theorem IB(h:n<9223372036854775808):zb (n:Int)=n:=zD dd dd
theorem R3{hb h:H}{c0 p9 ps:Nat}{s:Ua}{v8:V}{log left a b:Nat}{l:Ub}{tm:Tm}{R:Ud}(g:GD log l)(hs:s.length<=2000)(W:Sl hb v8 3 (2^log) (wY (wh log l)))(hl:(left:Int)<=yH s)(L:a<2^log/\b<2^log)(I:TwI hb h c0 p9 ps s v8 log left 0 a b .nilslice [])(hn:hb.nx+c0+1100<=T.top)(hlow:hb.low<=T.top)(ht:Has tm [(6,.ptr ps 0),(13,dh 0),(8,.ptr p9 0),(12,.nilslice)])(hex:∀t h' x i' a' D v' r,TwI hb h' (c0+1100) p9 ps s v8 log x i' a' D v' r->(255<r.length\/0<x->two (wh log l) s 255 left a b []=none)->(¬(255<r.length\/0<x)->two (wh log l) s 255 left a b []=some r) ->
   r.length<=300->Has t [(6,.ptr ps 0),(12,v')]->R (.exit 2) ⟨105,t,[],h'⟩):wpC P zB false (.loop zFr) ⟨105,tm,[],h⟩ R:=by
 generalize y:two (wh log l) s 255 left a b []=R0 at hex;have hpw:=xR g.lg;have hlg:=g.lg;have hbz:=Yi s;refine wpC.round (λk tm h=>∃(i f left a b:Nat) (v:V) (out:Ub),k=256-i/\i+f=255/\out.length=i/\(left:Int)<=yH s/\a<2^log/\b<2^log/\TwI hb h (c0+4*i) p9 ps s v8 log left i a b v out/\two (wh log l) s f left a b out=R0 /\
  Has tm [(6,.ptr ps 0),(13,dh i),(8,.ptr p9 0),(12,v)]) 256 ⟨0,255,left,a,b,.nilslice,[],rfl,rfl,rfl,hl,L.1,L.2,I,y,ht.sub de⟩ ?_
 clear I ht y hl L;rintro k tm h ⟨i,f,left,a,b,v,out,rfl,hif,hol,hl,ha,M,I,y,hs1⟩;obtain⟨w,ow,sp⟩:=I;have tw:=w.top;have lw:=w.low;have hle:=w.le;have X:i % 2<2:=Nat.mod_lt _ dg;obtain⟨c,Y⟩:∃c,(wh log l)[a]? = some c:=⟨_,oQ (by rw[sP];exact ha)⟩;have Z:=List.mem_of_getElem? Y;obtain⟨_,hcb,hcs⟩:=sO g c Z;have hsym:=sQ g Z;obtain⟨b1,o1,a1,a2,_⟩:=th Y (W.ext w.ex0) ha;have e13:Int.tmod (i:Int) 2=((i % 2:Nat):Int):=rfl;have ei:zb ((i:Int)+1)=((i+1:Nat):Int):=by rw[zD dd dd];rfl
 have hlid:=jz (h:=h) dd dd;refine cg L81 hs1 ⟨⟨dd,dd⟩,v8,w.ld1 1 rfl T0 rfl,dg,p9,i % 2,Z6 X,a,w.ld1 0 rfl zX (Es i a b),b1,o1,a1,_,_,_,a2,dd,?_⟩;rintro p14 h15 rfl e15;obtain⟨_,x15,_⟩:=zm e15;have w15:=w.new e15 dd;have t15:=w15.top;obtain⟨N,e16,w16,n16,k16⟩:=w15.st (cx:=zB) 0 (f:=0) (u:=.agg (Yk c)) rfl dd PZ rfl;have ow16:=(ow.ext x15).keep (h':=N) dd λD e=>k16 D (by have:=ow.blk e;omega)
 have sp16:Sep zH hb.nx [(h.nx,.cells (.ls (Yk c)) ⟨0,131+1,0⟩ true false),(p9,Qz (JM i a b).1 (JM i a b).2),(ps,AA s left v8 log)] v:=sp.more λD e=>ow.blk e
 obtain⟨v18,h19,e19,sl19,x19⟩:=X0 (h:=N) c.1 dd;have w19:=w16.ext x19;have t19:=w19.top;obtain⟨v20,h21,e21,A⟩:=Ow.append (c:=zB) (te:=yg) (m:=1) (ow16.ext x19) sl19 dg zM rfl zX rfl rfl (by show(out.length+1)*1<=_;omega) (by show(out.length+1)*8<=_;omega) dd;obtain⟨C,B,o⟩:=w19.grow (k:=(out++[c.1]).length) (xs:=zI (out++[c.1])) sp16 (by rw[kg,oW];exact A);have t21:=C.top;refine⟨N,e16,_,w16.ld1 0 rfl zX rfl,v18,h19,e19,trivial,v20,h21,e21,_,C.ld1 0 rfl zX rfl,?_⟩;refine JH (n:=c.2.1) (C.get 2 rfl) (C.lt 2 rfl) hs hl dd dd (λc1 E z O=>?_) (λc1 E z O=>?_)
 ·
  have j:=C.extX 2 rfl z O;have t24:=j.top;have F:=B.keep (h':=E) z.le λD e=>z.get _ (B.blk e) λq=>(o D e).2 _ (oJ _ (oJ _ (List.mem_cons_self ..))) q.symm
  have hbn:=XX s left c.2.1;have ex:zb (((c.2.2:Nat):Int)+((xH s left c.2.1:Nat):Int))=((c.2.2+xH s left c.2.1:Nat):Int):=IB (n:=c.2.2+xH s left c.2.1) dd;obtain⟨U,e30,w30,n30,k30⟩:=j.st (cx:=zB) 1 (f:=i % 2) (u:=dh (c.2.2+xH s left c.2.1:Nat)) rfl dd zX (Eu i a b _);have G:=F.keep (h':=U) dd λD e=>k30 D λq=>(o D e).2 _ (oJ _ (List.mem_cons_self ..)) q.symm
  refine⟨_,true,rfl,λ_=>⟨dg,_,j.ld1 0 rfl zX rfl,p9,i % 2,Z6 X,U,by rw[ex];exact e30,_,G.sl.len zM rfl,λc2=>?_,λc2=>?_⟩,λg=>(by cases g)⟩
  .have hf0:f=0:=by rw[oW]at c2;simp at c2;omega
   subst hf0;have hn:R0=none:=y.symm;refine λt J=>hex t U (left-c.2.1) (i+1) b (c.2.2+xH s left c.2.1) v20 (out++[c.1]) ⟨(w30.drop 1).more dd,G,?_⟩ (λ_=>hn) (λq=>absurd (.inl dd) q) (by rw[oW];simp;omega) (J.sub de)
   exact o.less λq K=>by
    simp only[oq,List.not_mem_nil,or_false]at K;rcases K with rfl|rfl
    .exact⟨_,oJ _ (List.mem_cons_self ..),rfl⟩
    exact⟨_,oJ _ (oJ _ (List.mem_cons_self ..)),rfl⟩
  obtain⟨f,rfl⟩:∃f',f=f'+1:=⟨f-1,by rw[oW]at c2;simp at c2;omega⟩
  refine λt J=>⟨rfl,rfl,256-(i+1),dd,i+1,f,left-c.2.1,b,c.2.2+xH s left c.2.1,v20,out++[c.1],rfl,dd,by rw[oW];simp;omega,dd,M,dd,⟨(w30.drop 1).more dd,G,?_⟩,?_,?_⟩
  .exact o.less λq K=>by
    simp only[oq,List.not_mem_nil,or_false]at K;rcases K with rfl|rfl
    .exact⟨_,oJ _ (List.mem_cons_self ..),rfl⟩
    exact⟨_,oJ _ (oJ _ (List.mem_cons_self ..)),rfl⟩
  .rw[<-y]
   conv=>rhs;unfold two
   rw[Y];simp only;rw[if_neg dd]
  rw[<-ei];exact J.sub de
 -- too few bits
 have j:=C.extX 2 rfl z O;have t24:=j.top;have l24:=j.low;have F:=B.keep (h':=E) z.le λD e=>z.get _ (B.blk e) λq=>(o D e).2 _ (oJ _ (oJ _ (List.mem_cons_self ..))) q.symm
 have hlid2:=jz (h:=E) dd dd;obtain⟨d,hd⟩:∃d,(wh log l)[b]? = some d:=⟨_,oQ (by rw[sP];exact M)⟩;obtain⟨b3,o3,a3,_,a5⟩:=th hd (W.ext j.ex0) M;have e1m:zb (1-((i % 2:Nat):Int))=((1-i % 2:Nat):Int):=by rw[zD dd dd];omega
 refine⟨_,false,rfl,λg=>(by cases g),λ_=>?_⟩;obtain⟨v44,h45,e45,sl45,x45⟩:=X0 (h:=E) d.1 dd;have w45:=j.ext x45;have t45:=w45.top;obtain⟨v46,h47,e47,A2⟩:=Ow.append (c:=zB) (te:=yg) (m:=1) (F.ext x45) sl45 dg zM rfl zX rfl rfl (by rw[oW];show(out.length+1+1)*1<=_;omega) (by rw[oW];show(out.length+1+1)*8<=_;omega) dd;obtain⟨w47,ow47,sp47⟩:=w45.grow (k:=(out++[c.1,d.1]).length) (xs:=zI (out++[c.1,d.1])) o (by
  have e1:out++[c.1,d.1]=(out++[c.1])++[d.1]:=by simp
  rw[e1,kg,oW];exact A2)
 have hol2:(out++[c.1,d.1]).length=i+2:=by rw[oW];simp;omega
 refine⟨⟨dd,dd⟩,v8,j.ld1 2 rfl T0 rfl,dg,p9,1-i % 2,(by rw[e13,e1m];exact Z6 dd),b,j.ld1 1 rfl zX (Et i a b),b3,o3,a3,d.1,a5,v44,h45,e45,trivial,v46,h47,e47,?_⟩;refine λt J=>hex t h47 left i a b v46 (out++[c.1,d.1]) ⟨(w47.drop 1).more dd,ow47,?_⟩ (λq=>?_) (λq=>?_) dd (J.sub de)
 .exact sp47.less λq K=>by
   simp only[oq,List.not_mem_nil,or_false]at K;rcases K with rfl|rfl
   .exact⟨_,oJ _ (List.mem_cons_self ..),rfl⟩
   exact⟨_,oJ _ (oJ _ (List.mem_cons_self ..)),rfl⟩
 .rw[<-y];rcases f with _|f
  .rfl
  unfold two;rw[Y];simp only;rw[if_pos dd,if_pos dd]
 rw[<-y];rcases f with _|f
 .exact absurd (.inl dd) q
 unfold two;rw[Y];simp only;rw[if_pos dd,if_neg dd,hd]
theorem RE{v:V}{log:Nat}{l:Ub}{s:Ua}(sl:Sl h v 1 l.length (zI l))(g:GD log l)(hs:s.length<=2000)(hn:h.nx+1300<=T.top)(hlow:h.low<=T.top)(hq:∀h' v',Ext h h' 1250->Ow h' v' yg (wg log l s).2.length (zI (wg log l s).2)->(∀b,z6 v'=some b->h.nx<=b)->Q (.tuple [v',dh (wg log l s).1]) h'):RF P zB 81 [.agg [dh log,v],.str s] h Q:=by
 have hpw:=xR g.lg;have hlg:=g.lg;have hbz:=Yi s;have y:∀e,wg log l s=(e,[])->∀h',Ext h h' 1250->Q (.tuple [.nilslice,dh e]) h':=λe he h' x=>by have:=hq h' .nilslice x;rw[he]at this;exact this (Ow.nil _ _) λb hb=>(by cases hb)
 refine zh L81 zJN (xQ sl ⟨dd,?_⟩);rintro p0 h1 rfl e1;have C:=(Vw.nil (S:=zH) (h:=h)).new e1 dd;have t1:=C.top;refine⟨_,_,C.ldA 0 rfl xE rfl,LC (sl.ext C.ex0) g hs dd (λc z x6=>?_) (λc h4 z v8 x4 s8 w6=>?_)⟩
 .refine⟨_,_,rfl,λ_=>y 22 ?_ z ((C.ex0.trans x6).mono dd),λq=>absurd (show(22:Int)≠0 by decide) q⟩;unfold wg;rw[if_pos c]
 have o:Ext h h4 91:=(C.ex0.trans x4).mono dd;have g0:h4.get h.nx=some (oD log v):=(x4.get _ (C.lt 0 rfl)).trans (C.get 0 rfl);have l0:h.nx<h4.nx:=oL (C.lt 0 rfl) x4.le;have t4:=o.top;have t6:=w6.top;have lo4:=o.low;obtain⟨B,hB⟩:∃B:Nat,yH s=B:=⟨(yH s).toNat,dd⟩;have r:wg log l s=if yH s<log then ((21:Int),[]) else if yH s<2*log then (21,[]) else match two (wh log l) s 255 (B-log-log) (xH s B log) (xH s (B-log) log) []with
   | none=>((21:Int),[])
   | some out=>((0:Int),out):=by
  conv=>lhs;unfold wg
  rw[if_neg c,hB,oe];try rfl
 rw[hB,oe]at w6;refine⟨_,_,rfl,λq=>absurd rfl q,λ_=>⟨dd,?_⟩⟩;rintro p9 h10 rfl J;have D:=w6.new J dd;have t10:=D.top;refine λtm A=>?_
 refine wpC.round (λk tm h'=>∃j:Nat,j<=2/\k=2-j/\j*log<=B/\Vw zH h4 h' (2+j) [(z.nx,Qz (if 0<j then ((xH s B log:Nat):Int) else 0) (if 1<j then ((xH s (B-log) log:Nat):Int) else 0)),(h4.nx,AA s (B-j*log) v8 log)] /\
  Has tm [(26,dh j),(6,.ptr h4.nx 0),(2,.ptr h.nx 0),(8,.ptr z.nx 0)]) 2 ⟨0,dd,rfl,dd,by rw[Nat.zero_mul];exact D,A.sub de⟩ ?_
 clear A D t10 J tm;rintro k tm h' ⟨j,hj2,rfl,hjl,w,A⟩;have tw:=w.top;refine cg L81 A ⟨λc1=>?_,λc1=>λE d=>?_⟩
 .try dsimp only
  refine⟨_,zJ zX rfl ((w.ex0.get _ l0).trans g0) rfl,JH (n:=log) (w.get 1 rfl) (w.lt 1 rfl) hs dd dd dd (λc2 K F G=>?_) (λc2 K F G=>?_)⟩
  .have H:=w.extX 1 rfl F G;have t2:=H.top;have ej:zb ((j:Int)+1)=((j+1:Nat):Int):=by rw[zD dd dd];rfl
   have e2:B-j*log-log=B-(j+1)*log:=by rw[Nat.add_mul];omega
   rw[e2]at H;have L:j=0\/j=1:=dd
   rcases L with rfl|rfl
   .obtain⟨h9,M,N,n9,_⟩:=H.st (cx:=zB) 0 (f:=0) (u:=dh (xH s (B-0*log) log:Nat)) rfl dd zX rfl;rw[Nat.zero_mul]at N M ⊢;refine⟨_,true,rfl,λ_=>⟨z.nx,0,Z6 (k:=0) dg,h9,M,λE d=>⟨rfl,rfl,1,dd,1,dd,rfl,dd,N,?_⟩⟩,λq=>(by cases q)⟩;have q:=d.sub (l':=[(26,dh (zb (((0:Nat):Int)+1))),(6,.ptr h4.nx 0),(2,.ptr h.nx 0),(8,.ptr z.nx 0)]) de;rw[ej]at q;exact q
   obtain⟨h9,M,N,n9,_⟩:=H.st (cx:=zB) 0 (f:=1) (u:=dh (xH s (B-1*log) log:Nat)) rfl dd zX rfl;rw[Nat.one_mul]at N M ⊢;refine⟨_,true,rfl,λ_=>⟨z.nx,1,Z6 (k:=1) dg,h9,M,λE d=>⟨rfl,rfl,0,dd,2,dd,rfl,dd,N,?_⟩⟩,λq=>(by cases q)⟩;have q:=d.sub (l':=[(26,dh (zb (((1:Nat):Int)+1))),(6,.ptr h4.nx 0),(2,.ptr h.nx 0),(8,.ptr z.nx 0)]) de;rw[ej]at q;exact q
  have H:=w.extX 1 rfl F G;refine⟨_,false,rfl,λq=>(by cases q),λ_=>λE d=>thenC.rt (thenC.rt (endW.r2 (d.get rfl) (d.get rfl) (y 21 ?_ K ((o.trans H.ex0).mono dd))))⟩;rw[r];have L:j=0\/j=1:=dd
  rcases L with rfl|rfl
  .rw[if_pos dd]
  rw[if_neg dd,if_pos dd]
 have L:j=2:=dd
 subst L;rw[if_neg dd,if_neg dd]at r;have e2:B-2*log=B-log-log:=dd
 rw[e2]at w;have hb1:=XX s B log;have hb2:=XX s (B-log) log;refine thenC.left (sg d (λtm2 hs2=>?_));have I:TwI h4 h' 4 z.nx h4.nx s v8 log (B-log-log) 0 (xH s B log) (xH s (B-log) log) .nilslice []:=⟨w,Ow.nil _ _,λb hb=>(by cases hb)⟩
 refine R3 g hs s8 dd ⟨hb1,hb2⟩ I dd dd (hs2.sub de) λtm3 h3 left i a b v' out I3 O U hlen hs3=>?_
 obtain⟨W,X,sp3⟩:=I3;have t3:=W.top;refine thenC.out (sg hs3 ⟨_,X.sl.len zM rfl,λc2=>?_,λc2=>?_⟩)
 .refine λY t=>t.slt λZ m=>endW.r2 (m.get rfl) (m.get rfl) (y 21 ?_ h3 ((o.trans W.ex0).mono dd))
  rw[r,O (.inl dd)]
 try dsimp only
 refine⟨_,W.ld1 1 rfl zX rfl,λc3=>?_,λc3=>?_⟩
 .refine λY t=>t.slt λZ m=>endW.r2 (m.get rfl) (m.get rfl) (y 21 ?_ h3 ((o.trans W.ex0).mono dd))
  rw[r,O (.inr dd)]
 refine λY t=>t.slt λZ m=>endW.r2 (m.get rfl) (m.get rfl) ?_
 have:=hq h3 v' ((o.trans W.ex0).mono dd);rw[r,U dd]at this;exact this X λb hb=>by
  rcases(sp3 b hb).1 with q|q
  .exact q.elim
  omega
section
variable {cx:Ctx}
theorem YG(n:Nat):ya (n:Int)=some n:=rfl
theorem _root_.Go.Sim.Ow.full{h:H}{te ti:TI}{t e:Nat}{xs:Ug}(s:Ow h v te n xs)(w:0<n)(f:cx.ty.get t=some ti)(hd:ti.desc = .slice e)(g:cx.ty.get e=some te)(h0:0<te.size):
  ∃b,zw cx t h v none (some (dh (n:Nat))) (some (dh (n:Nat)))=some (.slice b 0 n (.exact n))/\z6 v=some b/\Sl h (.slice b 0 n (.exact n)) te.size n xs:=by
 obtain⟨j,⟨rfl,x⟩|⟨b,cs,rfl,hb,d,hw,hl,k⟩⟩:=s
 .omega
 refine⟨b,?_,rfl,j,.inr ⟨b,0,_,cs,_,_,_,rfl,hb,d,λi hi=>by rw[Nat.zero_add];exact k i hi⟩⟩;unfold zw;simp only[f,hd,g,d];have m:Nat.beq (xD te).n te.size=true:=Nat.beq_refl _;have o:Nat.blt 0 (xD te).n=true:=(zW _ _).2 h0;have q:Nat.beq 0 (0*(xD te).n)=true:=by rw[Nat.zero_mul];rfl
 have r:Nat.ble (n*(xD te).n) cs.len=true:=oE (by rw[hl];exact oR _);have u:Nat.ble n n=true:=oE (oR _);simp only[m,o,r,Bool.and_self,oN,Option.isNone_some,oO,Go.Sim.bnd,YG,u,Nat.zero_mul,Nat.zero_add,Nat.sub_zero];cases Nat.beq n 0<;>rfl
theorem _root_.Go.Sim.Sl.appFull{h:H}{x:V}{te ti:TI}{m t e:Nat}{xs ys:Ug}(s:Sl h (.slice b 0 n (.exact n)) te.size n xs)(r:0<n)(j:Sl h x te.size m ys)(hm:0<m)(C:cx.ty.get t=some ti)(hd:ti.desc = .slice e)(D:cx.ty.get e=some te)(xI:jo te=true)(E:zU ys=true)(F:(n+m)*te.size<=262143)(u:(n+m)*te.bytes<=1099511627776)(y:h.nx<T.top):
  ∃v' h',zi cx t h (.slice b 0 n (.exact n)) x=some (v',h')/\Ow h' v' te (n+m) (xs++ys)/\Ext h h' 1/\z6 v'=some h.nx:=by
 have g:0<te.size:=by unfold jo at xI;simp only[oI]at xI;exact(zW _ _).1 xI.1.1
 have z:zi cx t h (.slice b 0 n (.exact n)) x=Go.Sim.appTo te h m ys (.slice b 0 n (.exact n)):=by unfold zi;rw[C];simp only[hd,D,xI,oN,j.src g hm]
 have d:(n+m)*te.size=n*te.size+m*te.size:=Nat.add_mul _ _ _;obtain⟨q,⟨A,_⟩|⟨L,o,M,cs,k,w,op,A,hb,G,I⟩⟩:=s
 .cases A
 cases A;obtain⟨f,B,h2⟩:=Cs.ofL_some (l:=xs++ys) (by rw[oW,q,j.1];omega);obtain⟨h3,h4⟩:=Cs.ofL_eq B;refine⟨.slice h.nx 0 (n+m) (.skip 0),h.new (.cells f (xD te) true true),?_,⟨by rw[oW,q,j.1,d],.inr ⟨h.nx,f,rfl,by rw[zC];omega,zK _ y,h2,by rw[h3,oW,q,j.1,d],λi _=>h4 i⟩⟩,Ext.new _ y,rfl⟩;rw[z];unfold Go.Sim.appTo;simp only[G];unfold jO;have J:Nat.ble (n+m) n=false:=by
  rcases hb:Nat.ble (n+m) n with _|_
  .rfl
  have:=oG hb;omega
 rw[J,oO];have K:Xo cs 0 (n*te.size) ys=some f:=by unfold Xo;rw[Cs.range_is (Nat.mul_pos r g) q (λi hi=>I i hi)];simp only[E,oN,B]
 rw[K];exact xg u y
end
theorem Jb(d:n<=256):zw zB 206 h (.ptr p 0) none (some (dh (n:Nat))) (some (dh (n:Nat)))=some (.slice p 0 n (.exact n)):=by unfold zw;have e:Nat.ble n n=true:=oE (oR _);have f:Nat.ble n 256=true:=oE d;simp only[Fz,zX,Go.Sim.bnd,YG,e,f,oN,Option.isNone_some,Bool.and_false,oO,Nat.zero_mul,Nat.zero_add,Nat.sub_zero];cases Nat.beq n 0<;>rfl
theorem J6:∃cs,cond (zU (V.cells (.agg (List.replicate 256 (dh (0:Int)))))) (Cs.ofL (V.cells (.agg (List.replicate 256 (dh (0:Int)))))) none=some cs/\Row cs 256 (zI (List.replicate 256 0)):=by
 obtain⟨cs,d,h2⟩:=Cs.ofL_some (l:=List.replicate 256 (dh (0:Int))) (by rw[List.length_replicate];decide);obtain⟨h3,h4⟩:=Cs.ofL_eq d;have e:V.cells (.agg (List.replicate 256 (dh (0:Int))))=List.replicate 256 (dh (0:Int)):=de
 have f:zU (List.replicate 256 (dh (0:Int)))=true:=de
 refine⟨cs,by rw[e,f,oN,d],h2,by rw[h3,List.length_replicate],by rw[qV,List.length_replicate],λi _=>by rw[h4,qV]⟩
theorem PJ(hl:l.length=i)(hi:i<n)(y:Int):(l++List.replicate (n-i) 0).set i y=(l++[y])++List.replicate (n-(i+1)) 0:=by obtain⟨k,d⟩:∃k,n-i=k+1:=⟨n-i-1,dd⟩;rw[d,show n-(i+1)=k by omega,List.replicate_succ,List.set_append_right i y dd,hl,Nat.sub_self];simp
theorem FR(hi:i<n):l++List.replicate (n-i) 0=(l++[0])++List.replicate (n-(i+1)) 0:=by obtain⟨k,d⟩:∃k,n-i=k+1:=⟨n-i-1,dd⟩;rw[d,show n-(i+1)=k by omega,List.replicate_succ];simp
theorem fP{v:V}{l:Ub}{m:Nat}(sl:Sl h v 1 l.length (zI l))(hl:l.length<=256)(G:∀x∈l,-1000000<=x/\x<=1000000)(hm:m<=1000000)(U:h.nx+1<=T.top)(H:∀h' v',Ext h h' 1->Sl h' v' 1 l.length (zI (JJ m l))->(∃b cs k op,v' = .slice b 0 l.length (.exact l.length)/\h.nx<=b/\h'.get b=some (.cells cs k true op))->Q v' h'):RF P zB 91 [v,dh m] h Q:=by
 obtain⟨z,I,r⟩:=J6;refine zh L91 zJP (⟨_,I,dd,?_⟩);rintro p0 J rfl E;have y:=(Vw.nil (S:=zH) (h:=h)).new E dd;have K:=y.top;have s1:=sl.ext y.ex0;refine⟨_,s1.len zM rfl,_,s1.len zM rfl,_,Jb hl,_,s1.len zM rfl,λtm hs=>?_⟩;refine wpC.round (λk tm h'=>∃(i:Nat) (cs:Cs),i<=l.length/\k=l.length-i/\Vw zH h h' 1 [(h.nx,.cells cs ⟨0,206+1,0⟩ true false)]/\Row cs 256 (zI (JJ m (l.take i)++List.replicate (256-i) 0)) /\
  Has tm [(16,dh i),(15,dh l.length),(14,v),(6,.slice h.nx 0 l.length (.exact l.length)),(1,dh m)]) l.length ⟨0,z,dd,dd,y,r,hs.sub de⟩ ?_
 clear hs s1 y K E J;rintro k tm h' ⟨i,cs,L,rfl,w,row,hs⟩;have W:=w.top;refine cg L91 hs ⟨λc=>?_,λc=>λt f=>?_⟩
 .have d:i<l.length:=dd
  have F:l[i]? = some l[i]:=oQ d;obtain⟨b,o,a1,a2⟩:=(sl.ext w.ex0).at1 (u:=dh l[i]) d zM rfl zX rfl rfl (by rw[od,F];rfl);have hb:=G l[i] (oV d);have g:JJ m (l.take (i+1))=JJ m (l.take i)++[if l[i]≠0 then (m:Int)+1-l[i] else 0]:=by rw[List.take_add_one,F];unfold JJ;rw[List.map_append];rfl
  have A:(JJ m (l.take i)).length=i:=by rw[Xk,List.length_take];omega
  generalize l[i]=x at a2 hb g;have e:zb ((i:Int)+1)=((i+1:Nat):Int):=by rw[zD dd dd];rfl
  refine⟨b,o,a1,x,a2,λB=>?_,λB=>λt f=>?_⟩
  .rw[if_pos B]at g;have ex:zb (zb ((m:Int)+1)-x)=(m:Int)+1-x:=by rw[zD (n:=(m:Int)+1) dd dd,zD dd dd]
   obtain⟨h2,C,M,q,N,X⟩:=w.set (cx:=zB) 0 (j:=i) (u:=dh ((m:Int)+1-x)) row rfl dd dd zX rfl rfl rfl rfl;rw[<-xY,PJ A dd,<-g]at q;refine⟨h.nx,i,yp zM rfl zX rfl d,h2,by rw[ex];exact M,λt f=>⟨rfl,rfl,l.length-(i+1),dd,i+1,C,dd,rfl,N,q,?_⟩⟩;try dsimp only
   rw[<-e];exact f.sub de
  rw[if_neg B]at g;rw[FR dd,<-g]at row;refine⟨rfl,rfl,l.length-(i+1),dd,i+1,cs,dd,rfl,w,row,?_⟩;try dsimp only
  rw[<-e];exact f.sub de
 have d:i=l.length:=dd
 subst d;rw[List.take_length]at row;refine thenC.left (sg f (λO D=>endW.r1 (D.get rfl) ?_));refine H h' _ w.ex0 ⟨by rw[jU,Xk,Nat.mul_one],.inr ⟨h.nx,0,_,cs,_,_,_,rfl,w.lt 0 rfl,w.get 0 rfl,λj Y=>?_⟩⟩ ⟨_,cs,_,_,rfl,oR _,w.get 0 rfl⟩;rw[Nat.zero_add,row.2.2.2 j dd,kg,List.getElem?_append_left (by rw[jU,Xk];omega)]
theorem Sf(ow:Ow h v yg l.length (zI l))(hr:qD l=0)(L:h.nx+4<=T.top)(D:∀h' v',Ext h h' 3->Sl h' v' 1 (l.length+1) (zI (lens l))->(∀b,z6 v'=some b->h.nx<=b)->Q (.tuple [v',dh 0]) h'):RF P zB 46 [v] h Q:=by
 unfold qD at hr;have C:¬(l.length<1\/255<l.length):=λg=>by rw[if_pos g]at hr;cases hr
 rw[if_neg C]at hr;have r:wO l=true:=by
  by_cases g:wO l=true
  .exact g
  rw[if_neg g]at hr;cases hr
 rw[if_pos r]at hr;have t:EZ l:=by
  by_cases g:EZ l
  .exact g
  rw[if_neg g]at hr;cases hr
 have hb:zQ (xo l)<=12:=by refine zo ?_;have h2:2^zQ (yh l)<=2^11:=Nat.pow_le_pow_right dg t.2.1;unfold xo;omega
 have u:∀x∈l,0<=x/\x<=11:=λx d=>by have:=List.all_eq_true.1 r x d;simpa using this
 refine zh L46 zIq (se ow.sl dd ?_);unfold N9;rw[if_neg C,if_pos r,if_pos t];obtain⟨b,E,_,F⟩:=ow.full (cx:=zB) dd zM rfl zX dg;obtain⟨v8,G,H,I,o⟩:=X0 (h:=h) ((zQ (xo l):Nat):Int) dd;have M:=o.top;obtain⟨v10,w,y,f,e,_⟩:=(F.ext o).appFull (cx:=zB) (m:=1) dd I dg zM rfl zX rfl rfl (by show(l.length+1)*1<=_;omega) (by show(l.length+1)*8<=_;omega) dd;have J:=e.top;refine⟨_,_,_,rfl,λq=>absurd rfl q,λ_=>⟨_,ow.sl.len zM rfl,_,ow.sl.len zM rfl,_,E,v8,G,H,trivial,v10,w,y,?_⟩⟩;have el:(l++[((zQ (xo l):Nat):Int)]).length=l.length+1:=by simp
 refine fP (l:=l++[((zQ (xo l):Nat):Int)]) (by rw[el,kg];exact f.sl) (by rw[el];omega) (λx d=>?_) (by have:=t.2.1;omega) dd λz A B j k=>⟨_,rfl,?_⟩
 .rcases List.mem_append.1 d with d|d
  .have:=u x d;omega
  rw[List.mem_singleton.1 d];omega
 rw[el]at j;refine D z A ((o.trans (e.trans B)).mono dd) j λb hb=>?_
 obtain⟨N,_,_,_,rfl,K,_⟩:=k;cases hb;have:=o.le;have:=e.le;omega
abbrev Ge(s:Ua)(a:Nat)(v:V):O:=.cells (.ls [.str s,dh a,v]) ⟨0,105+1,0⟩ true false
theorem zGD(e:h.nx<=T.top)(hl:h.low<=T.top){K:H->Prop}(f:K h):∀h2,h2=wW h (z8 h)->K h2:=by intro h2 d;rw[(jz e hl).2]at d;subst d;exact f
theorem K6(d:h.get p=some (Ge s a v))(hs:s.length<=1000000)(e:Q (dh (s.length-a:Nat)) h)(g:a<=s.length:=by omega)(f:h.nx<=T.top:=by omega)(hl:h.low<=T.top:=by omega):RF P zB 77 [.ptr p 0] h Q:=by refine zh L77 zJJ ⟨⟨f,hl⟩,?_⟩;refine⟨s,zJ xk rfl d rfl,?_⟩;refine⟨a,zJ zX rfl d rfl,?_⟩;show Q _ _;rw[show zb (Int.ofNat s.length-(a:Int))=((s.length-a:Nat):Int)by rw[show Int.ofNat s.length=(s.length:Int)from rfl,zD dd dd];omega];exact e
theorem K7{b:UInt8}(o:h.get p=some (Ge s a v))(hp:p<h.nx)(hs:s.length<=1000000)(m:s[a]? = some b)(q:∀h',ExtX (· = p) h h' 0->h'.get p=some (Ge s (a+1) v)->Q (dh (b.toNat:Nat)) h')(r:h.nx<=T.top:=by omega)(hl:h.low<=T.top:=by omega):RF P zB 78 [.ptr p 0] h Q:=by
 have t:=(List.getElem?_eq_some_iff.1 m).1;have w:=Vw.one (S:=(· = p)) o hp rfl;refine zh L78 zJK ?_;refine⟨a,w.ld1 0 rfl zX rfl,?_⟩;have e:zb ((a:Int)+1)=((a+1:Nat):Int):=by rw[zD dd dd];rfl
 obtain⟨d,x,g,y,_⟩:=w.st (cx:=zB) 0 (f:=0+1) (u:=dh (a+1:Nat)) rfl r zX rfl;have j:d.nx<=T.top:=dd
 have k:d.low<=T.top:=oS g.low hl;refine⟨d,by rw[e];exact x,⟨j,k⟩,?_⟩;refine⟨s,g.ld1 0 rfl xk rfl,?_⟩;refine⟨_,g.ld1 0 rfl zX rfl,(b.toNat:Nat),?_,?_⟩
 .rw[show zb (((a+1:Nat):Int)-1)=(a:Int)by rw[zD dd dd];omega];exact yj m
 have hb:=b.toNat_lt;show Q (dh _) d;rw[IB dd];exact q d g.ex (g.get 0 rfl)
theorem _root_.Go.Sim.Sep.head{b0:Nat}{o o':O}{l:List (Nat×O)}(s:Sep S b0 ((p,o)::l) v):Sep S b0 ((p,o')::l) v:=s.less λq d=>by
 rcases oq.1 d with rfl|d
 .exact⟨_,List.mem_cons_self ..,rfl⟩
 exact⟨q,oJ _ d,rfl⟩
theorem Dh{h:H}{d:List (Nat×O)}{b:UInt8}{many:Int}(w:Vw S hb h c ((p,Ge s a v)::d))(ow:Ow h v yg l.length (zI l))(sp:Sep S hb.nx ((p,Ge s a v)::d) v)(hs:s.length<=1000000)(ha:s[a]? = some b)(hl:l.length<=1000)(hn:hb.nx+c+5<=T.top)(hlow:hb.low<=T.top)(U:∀h' v',Vw S hb h' (c+4) ((p,Ge s (a+1) v')::d)->Ow h' v' yg (l++((b.toNat/16:Nat):Int)::(if 1<many then [((b.toNat % 16:Nat):Int)] else [])).length (zI (l++((b.toNat/16:Nat):Int)::(if 1<many then [((b.toNat % 16:Nat):Int)] else []))) ->
   Sep S hb.nx ((p,Ge s (a+1) v')::d) v'->Q (.tuple []) h'):RF P zB 79 [.ptr p 0,dh many] h Q:=by
 have hbt:=b.toNat_lt;have tw:=w.top;have lw:=w.low;refine zh L79 zJL ?_;try dsimp only
 refine K7 (w.get 0 rfl) (w.lt 0 rfl) hs ha λh5 V g5=>⟨_,rfl,?_⟩
 have W:=w.extX 0 rfl V g5;have X:=ow.keep (h':=h5) V.le λC o=>V.get _ (ow.blk o) λq=>(sp C o).2 _ (List.mem_cons_self ..) q.symm
 have Y:Sep S hb.nx ((p,Ge s (a+1) v)::d) v:=sp.head;have t5:=W.top;try dsimp only
 obtain⟨Z,h14,e13,E,F⟩:=X0 (h:=h5) ((b.toNat/16:Nat):Int) dd;have G:=W.ext F;have t14:=G.top;obtain⟨j,h16,e15,A⟩:=Ow.append (c:=zB) (te:=yg) (m:=1) (X.ext F) E dg zM rfl zX rfl rfl (by show(l.length+1)*1<=_;omega) (by show(l.length+1)*8<=_;omega) dd;obtain⟨I,e,x⟩:=G.grow (k:=(l++[((b.toNat/16:Nat):Int)]).length) (xs:=zI (l++[((b.toNat/16:Nat):Int)])) Y (by rw[kg,oW];exact A);have t16:=I.top;obtain⟨r,e21,t,n21,k21⟩:=I.st (cx:=zB) 0 (f:=0+2) (u:=j) (cs':=.ls [.str s,dh (a+1:Nat),j]) rfl dd zM (by rw[e.one1.1];rfl) (by rw[e.one1.1];rfl) (oM _) (by rw[e.one1.1];exact e.one1.2);have y:=e.keep (h':=r) dd λC o=>k21 C λq=>(x C o).2 _ (List.mem_cons_self ..) q.symm
 have z:Sep S hb.nx ((p,Ge s (a+1) j)::d) j:=x.head;refine⟨v,W.ld1 0 rfl zM rfl,((b.toNat/2^4:Nat):Int),jZ (n:=4) dg,Z,h14,e13,trivial,j,h16,e15,?_⟩;try dsimp only
 refine⟨r,e21,λc1=>?_,λc1=>?_⟩
 rotate_left
 .rw[if_neg dd]at U;exact U r j (t.more dd) y z
 rw[if_pos dd]at U;try dsimp only
 have t21:=t.top;obtain⟨v28,h29,e28,J,K⟩:=X0 (h:=r) ((b.toNat % 16:Nat):Int) dd;have L:=t.ext K;have t29:=L.top;have el:(l++[((b.toNat/16:Nat):Int)]).length=l.length+1:=by simp
 obtain⟨v30,h31,e30,A2⟩:=Ow.append (c:=zB) (te:=yg) (m:=1) (y.ext K) J dg zM rfl zX rfl rfl (by rw[el];show(l.length+1+1)*1<=_;omega) (by rw[el];show(l.length+1+1)*8<=_;omega) dd;obtain⟨M,g,B⟩:=L.grow (k:=(l++[((b.toNat/16:Nat):Int),((b.toNat % 16:Nat):Int)]).length) (xs:=zI (l++[((b.toNat/16:Nat):Int),((b.toNat % 16:Nat):Int)])) z (by
  have e1:l++[((b.toNat/16:Nat):Int),((b.toNat % 16:Nat):Int)]=(l++[((b.toNat/16:Nat):Int)])++[((b.toNat % 16:Nat):Int)]:=by simp
  rw[e1,kg,oW];exact A2)
 have t31:=M.top;obtain⟨D,e36,w36,n36,k36⟩:=M.st (cx:=zB) 0 (f:=0+2) (u:=v30) (cs':=.ls [.str s,dh (a+1:Nat),v30]) rfl dd zM (by rw[g.one1.1];rfl) (by rw[g.one1.1];rfl) (oM _) (by rw[g.one1.1];exact g.one1.2);have N:=g.keep (h':=D) dd λC o=>k36 C λq=>(B C o).2 _ (List.mem_cons_self ..) q.symm
 refine⟨j,t.ld1 0 rfl zM rfl,((b.toNat % 16:Nat):Int),?_,v28,h29,e28,trivial,v30,h31,e30,?_⟩
 .rw[show b.toNat % 16=b.toNat &&& 15 from(jt b.toNat 4).symm];exact qf (a:=b.toNat) (b:=15) dd dg
 try dsimp only
 exact⟨D,e36,U D v30 (w36.more dd) N B.head⟩
theorem gu(s:Ua)(a n:Nat):YR s a (n+1)=YR s a n++[((if n % 2=0 then (s[a+n/2]?.getD 0).toNat/16 else (s[a+n/2]?.getD 0).toNat % 16:Nat):Int)]:=by unfold YR;rw[List.range_succ,List.map_append];rfl
theorem Nu{j many:Nat}{b:UInt8}(hb:s[a+j]? = some b)(e:2*j<many):
  YR s a (min (2*(j+1)) many)=YR s a (min (2*j) many)++((b.toNat/16:Nat):Int)::(if (1:Int)<((many-2*j:Nat):Int) then [((b.toNat % 16:Nat):Int)] else []):=by
 rw[show min (2*j) many=2*j by omega];have d:YR s a (2*j+1)=YR s a (2*j)++[((b.toNat/16:Nat):Int)]:=by rw[gu,if_pos dd,show a+2*j/2=a+j by omega,hb];rfl
 by_cases c:1<many-2*j
 .rw[if_pos dd,show min (2*(j+1)) many=2*j+1+1 by omega,gu,d,if_neg dd,show a+(2*j+1)/2=a+j by omega,hb];simp
 rw[if_neg dd,show min (2*(j+1)) many=2*j+1 by omega,d]
abbrev IY(e a:Int):O:=.cells (.ls [dh e,dh a]) ⟨0,26+1,0⟩ true false
theorem tD{s:Ua}{a:Nat}{m:UInt8}(hs:s.length<=1000000)(W:s[a]? = some m)(hc:127<m.toNat)(hn:h.nx+400<=T.top)(X:h.low<=T.top)(I:∀h' v',Ext h h' 350->Ow h' v' yg (xw s a m.toNat).l.length (zI (xw s a m.toNat).l)->(∀b,z6 v'=some b->h.nx<=b) ->
   Q (.tuple [v',dh ((xw s a m.toNat).nx:Nat),NU (xw s a m.toNat).e (xw s a m.toNat).fat]) h'):
  RF P zB 39 [.str s,dh a] h Q:=by
 have hal:=(List.getElem?_eq_some_iff.1 W).1;have hch:=m.toNat_lt;generalize hR:xw s a m.toNat=R at I;unfold xw at hR;generalize hmany:m.toNat-127=many at hR;have E:∀e fat,R=⟨[],0,e,fat⟩->∀h',Ext h h' 350->Q (.tuple [.nilslice,dh 0,NU e fat]) h':=λe fat he h' x=>by subst he;exact I h' .nilslice x (Ow.nil _ _) λb hb=>(by cases hb)
 refine zh L39 zIn ⟨dd,?_⟩;rintro pf J rfl e1;have Y:=(Vw.nil (S:=zH) (h:=h)).new e1 dd;have t1:=Y.top;refine⟨λc=>dd,λ_=>⟨λc=>absurd c (by show ¬((s.length:Int)<a);omega),λ_=>λtm o=>?_⟩⟩;refine sg o (λtm1 F=>thenC.nx (F.sealK λtm2 G=>?_));clear o F;refine sg G ⟨_,rfl,dd,?_⟩;rintro p h3 rfl Z;have y:=Y.new Z dd;have t3:=y.top;have l3:=y.low;refine ?_;refine K6 (y.get 0 rfl) hs ⟨_,rfl,λc=>dd,λ_=>?_⟩;refine K7 (y.get 0 rfl) (y.lt 0 rfl) hs W λh5 x5 g5=>⟨_,rfl,?_⟩
 have D:=y.extX 0 rfl x5 g5;have t5:=D.top;have l5:=D.low;have em:zb (((m.toNat:Nat):Int)-127)=((many:Nat):Int):=by rw[zD dd dd];omega
 refine⟨λc=>by rw[em]at c;omega,λ_=>?_⟩;refine K6 (D.get 0 rfl) hs ⟨_,rfl,dg,?_⟩;have eh:zb (Int.tdiv (zb (((many:Nat):Int)+1)) 2)=(((many+1)/2:Nat):Int):=by rw[zD (n:=((many:Nat):Int)+1) dd dd,show((many:Nat):Int)+1=((many+1:Nat):Int)from rfl,show Int.tdiv ((many+1:Nat):Int) 2=(((many+1)/2:Nat):Int)from rfl,IB dd]
 refine⟨λc=>?_,λc=>λz d=>?_⟩<;>rw[em,eh]at c
 ·
  obtain⟨r,H,t,n9,_⟩:=D.st (cx:=zB) 1 (f:=0) (u:=.agg [dh 5,dh s.length]) rfl dd zp rfl;refine⟨r,H,λz d=>endW.ok (leave.tmp (d.get rfl) (leave.tmp (d.get rfl) (leave.cell (d.get rfl) (t.ldA 1 rfl zp rfl) rfl))) ?_⟩;refine E 5 s.length ?_ r (t.ex0.mono dd);rw[<-hR,if_pos dd]
 rw[if_neg dd]at hR;rw[em]at d;refine wpC.round (λk tm h'=>∃(j:Nat) (v':V),2*j<=many+1/\k=many+1-2*j/\Vw zH h h' (2+4*j) [(J.nx,Ge s (a+1+j) v'),(h.nx,IY 0 0)]/\Ow h' v' yg (YR s (a+1) (min (2*j) many)).length (zI (YR s (a+1) (min (2*j) many)))/\Sep zH h.nx [(J.nx,Ge s (a+1+j) v'),(h.nx,IY 0 0)] v' /\
  Has tm [(7,.ptr J.nx 0),(8,dh (many:Nat)),(1,dh a),(6,.ptr h.nx 0)]) (many+1) ⟨0,.nilslice,dd,rfl,D,by rw[show YR s (a+1) (min (2*0) many)=[]by rw[show min (2*0) many=0 by omega];rfl];exact Ow.nil _ _,λb hb=>(by cases hb),d.sub de⟩ ?_
 clear G d D t5 l5 g5 x5 Z y t3 l3;rintro k tm h' ⟨j,v',hj1,rfl,w,ow,sp,o⟩;have tw:=w.top;have lw:=w.low;have A:(YR s (a+1) (min (2*j) many)).length=min (2*j) many:=vL _ _ _;refine cg L39 o ?_;refine⟨v',w.ld1 0 rfl zM rfl,_,ow.sl.len zM rfl,λK=>?_,λK=>λL B=>?_⟩
 .rw[A]at K;have C:2*j<many:=dd
  have hb:s[a+1+j]? = some s[a+1+j]:=oQ dd;have ew:zb (((many:Nat):Int)-((YR s (a+1) (min (2*j) many)).length:Nat))=((many-2*j:Nat):Int):=by rw[A,zD dd dd];omega
  refine⟨v',w.ld1 0 rfl zM rfl,_,ow.sl.len zM rfl,?_⟩;show RF P zB _ [_,dh (zb _)] _ _;rw[ew];refine Dh w ow sp hs hb dd dd dd λh2 v2 w2 M N=>⟨rfl,λL B=>⟨rfl,rfl,many+1-2*(j+1),dd,j+1,v2,dd,rfl,w2.more dd,?_,N,B.sub de⟩⟩
  rw[Nu hb C];exact M
 rw[A]at K;have C:min (2*j) many=many:=dd
 rw[C]at ow;have O:j=(many+1)/2:=dd
 refine thenC.left (sg B ?_);refine⟨v',w.ld1 0 rfl zM rfl,vp ow.sl (by rw[vL];omega) ⟨_,rfl,λc2=>?_,λc2=>⟨de,⟨dd,dd⟩,?_⟩⟩⟩
 .rw[if_neg c2]at hR;obtain⟨r,H,t,n9,_⟩:=w.st (cx:=zB) 1 (f:=0) (u:=.agg [dh 21,dh a]) rfl dd zp rfl;refine⟨r,H,λz d=>d.slt λU g=>endW.ok (leave.tmp (g.get rfl) (leave.tmp (g.get rfl) (leave.cell (g.get rfl) (t.ldA 1 rfl zp rfl) rfl))) ?_⟩;exact E 21 a hR.symm r (t.ex0.mono dd)
 rw[if_pos dd]at hR;refine⟨v',w.ld1 0 rfl zM rfl,?_⟩;obtain⟨r,H,t,n9,k9⟩:=w.st (cx:=zB) 1 (f:=0) (u:=.agg [dh 0,dh 0]) rfl dd zp rfl;refine⟨_,w.ld1 0 rfl zX rfl,r,H,λz d=>d.slt λU g=>endW.ok (leave.tmp (g.get rfl) (leave.tmp (g.get rfl) (leave.cell (g.get rfl) (t.ldA 1 rfl zp rfl) rfl))) ?_⟩;have:=I r v' (t.ex0.mono dd);rw[<-hR,<-O]at this;exact this (ow.keep dd λb hb=>k9 b λq=>(sp b hb).2 _ (oJ _ (List.mem_cons_self ..)) q.symm) λb hb=>by
  rcases(sp b hb).1 with q|q
  .exact q.elim
  exact q
end Go.Proofs.YtnpeieeomokomaaGreat
