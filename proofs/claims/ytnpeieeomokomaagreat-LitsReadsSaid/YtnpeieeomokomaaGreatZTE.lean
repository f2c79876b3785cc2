/- TE. No condition. -/
import Derived.Test.YtnpeieeomokomaaGreatZTC
import Derived.Test.YtnpeieeomokomaaGreatZTA
import Derived.Test.YtnpeieeomokomaaGreatZCF
import Derived.Test.YtnpeieeomokomaaGreatZW
set_option maxRecDepth 100000
set_option maxHeartbeats 4000000
noncomputable section
namespace Go.Proofs.YtnpeieeomokomaaGreat
open Go.Sim
variable {h:H}{Q:Uc}
abbrev Cl:=Int×Nat×Nat
def wT(log x:Nat):Nat:=log-(zT x-1)
def O8(log x:Nat):Nat:=x*2^wT log x-2^log
def cel(log:Nat)(s:Int)(x:Nat):Cl:=(s,wT log x,O8 log x)
def Ob(log:Nat):(Int->Nat)->Ub->List Cl
 | _,[]=>[]
 | nx,s::l=>cel log s (nx s)::Ob log (λj=>if j=s then nx s+1 else nx j) l
def wx(l:Ub)(s:Int):Nat:=(l[s.toNat]?.getD 0).natAbs
def xI(log:Nat)(l:Ub):List Cl:=Ob log (wx l) (jS log l)
theorem zE3{log:Nat}:∀{nx:Int->Nat}{l:Ub},(Ob log nx l).length=l.length
 | _,[]=>rfl
 | nx,s::l=>by unfold Ob;rw[og,zE3,og]
theorem ZA(log:Nat)(l:Ub):(xI log l).length=2^log:=by unfold xI;rw[zE3,JR]
theorem qU{x:Nat}(h:1<=x):1<=zT x:=by unfold zT;rw[if_neg oy];omega
theorem Jd{log x:Nat}(h1:1<=x)(f:x<2^(log+1)):zT x-1<=log/\wT log x<=log/\2^log<=x*2^wT log x/\x*2^wT log x<=2^(log+1)/\O8 log x+2^wT log x<=2^log:=by
 have a:=qU h1;have b:=zAK (n:=x) oy;have c:=jB x;have d:zT x<=log+1:=yK f;have e:zT x-1+wT log x=log:=by unfold wT;omega
 have g:2^log=2^(zT x-1)*2^wT log x:=by rw[<-Nat.pow_add,e]
 have i:2^zT x=2*2^(zT x-1):=by rw[<-Nat.pow_succ'];congr 1;omega
 have k:2^(zT x-1)*2^wT log x<=x*2^wT log x:=Nat.mul_le_mul_right _ b;have j:(x+1)*2^wT log x<=2^zT x*2^wT log x:=Nat.mul_le_mul_right _ c;rw[i,Nat.mul_assoc,<-g,Nat.add_mul,Nat.one_mul]at j;have l:2^(log+1)=2*2^log:=Nat.pow_succ';have m:0<2^wT log x:=Nat.pow_pos db;refine⟨oy,by unfold wT;omega,oy,oy,?_⟩;unfold O8;omega
theorem Oc{all:Ub}{log:Nat}:∀{nx:Int->Nat}{l:Ub}{k:Nat},(∀s∈l,Occ all s/\1<=nx s)->(∀s,nx s<=k)->k+l.length<=2^(log+1) ->
  ∀c∈Ob log nx l,Occ all c.1/\c.2.1<=log/\c.2.2+2^c.2.1<=2^log
 | _,[],_,_,_,_=>λc b=>by cases b
 | nx,s::l,k,h1,e,f=>λc b=>by
  rw[og]at f;have hs:=h1 s (List.mem_cons_self ..);have g:=e s;rcases oq.1 b with rfl|b
  .obtain⟨a1,a2,a3,a4,a5⟩:=Jd (log:=log) hs.2 oy;exact⟨hs.1,a2,a5⟩
  refine Oc (k:=k+1) (λa d=>⟨(h1 a (oN _ d)).1,?_⟩) (λa=>?_) oy c b
  .have:=(h1 a (oN _ d)).2;show 1<=(if a=s then nx s+1 else nx a);split<;>omega
  have:=e a;show(if a=s then nx s+1 else nx a)<=k+1;split<;>omega
theorem ZX:∀{l:Ub}{x:Int},(∀y∈l,-1<=y)->x∈l->(x.natAbs:Int)<=pts l
 | y::l,x,h,a=>by
  have c:0<=pts l:=by
   have:=Xw (l:=l) λz b=>h z (oN _ b)
   omega
  have h1:=h y (List.mem_cons_self ..);rw[zAX];rcases oq.1 a with rfl|a
  .unfold pt;split<;>omega
  have:=ZX (l:=l) (λz b=>h z (oN _ b)) a;unfold pt;split<;>omega
theorem zD0{log:Nat}{l:Ub}(g:GD log l)(s:Int):wx l s<=2^log:=by
 unfold wx;rcases h:l[s.toNat]? with _|p
 .simp
 have:=ZX g.low (List.mem_of_getElem? h);rw[g.pts]at this;have e:((2^log:Nat):Int)=2^log:=by simp
 simp only[Option.getD_some];omega
theorem zAP{l:Ub}{s:Int}(h:Occ l s):1<=wx l s:=by obtain⟨n,rfl,p,h1,a⟩:=h;unfold wx;rw[ol,h1];simp only[Option.getD_some];omega
theorem XD{log:Nat}{l:Ub}(g:GD log l):∀c∈xI log l,Occ l c.1/\c.2.1<=log/\c.2.2+2^c.2.1<=2^log:=by have a:=yy g.lg;refine Oc (k:=2^log) (λs hs=>?_) (zD0 g) (by rw[JR,Nat.pow_succ];omega);obtain⟨i,hi⟩:=List.getElem?_of_mem hs;have:=zAp g hi;exact⟨this,zAP this⟩
def two(cs:List Cl)(s:Ua):Nat->Nat->Nat->Nat->Ub->Option Ub
 | 0,_,_,_,_=>none
 | f+1,left,a,b,out=>match cs[a]? with
  | none=>none
  | some c =>
   if left<c.2.1 then
    (if f=0\/0<left then none else match cs[b]? with|none=>none|some d=>some (out++[c.1,d.1]))
   else two cs s f (left-c.2.1) b (c.2.2+yI s left c.2.1) (out++[c.1])
def xW(log:Nat)(l:Ub)(s:Ua):Int×Ub :=
 if zf s<0 then (22,[])
 else if zf s<log then (21,[])
 else if zf s<2*log then (21,[])
 else match two (xI log l) s 255 ((zf s).toNat-log-log) (yI s (zf s).toNat log) (yI s ((zf s).toNat-log) log) []with
 | none=>(21,[])
 | some out=>(0,out)
theorem Xb{log:Nat}{l:Ub}(g:GD log l){c:Cl}(a:c∈xI log l):0<=c.1/\c.1<12:=by obtain⟨⟨s,h1,p,b,_⟩,_⟩:=XD g c a;have:=(List.getElem?_eq_some_iff.1 b).1;have:=g.len;omega
theorem zPo{log:Nat}{l:Ub}(g:GD log l){s:Ua}:∀{f left a b:Nat}{out r:Ub},two (xI log l) s f left a b out=some r->wg out=true->f+out.length=255->wg r=true/\r.length<=255
 | 0,_,_,_,_,_,h,_,_=>by cases h
 | f+1,left,a,b,out,r,h,i,j=>by
  unfold two at h;cases e:(xI log l)[a]? with
  | none=>rw[e]at h;cases h
  | some c =>
   rw[e]at h;have k:=Xb g (List.mem_of_getElem? e);have h1:wg [c.1]=true:=by simp[wg];omega
   simp only at h;split at h
   .split at h
    .cases h
    rename_i m;cases hb:(xI log l)[b]? with
    | none=>rw[hb]at h;cases h
    | some d=>rw[hb]at h;have n:=Xb g (List.mem_of_getElem? hb);cases h;refine⟨?_,by simp;omega⟩;rw[jF,i];simp[wg];omega
   exact zPo g h (by rw[jF,i,h1];rfl) (by simp;omega)
theorem zAd{log:Nat}{l:Ub}(g:GD log l){s:Ua}:wg (xW log l s).2=true/\(xW log l s).2.length<=255:=by
 unfold xW;split
 .exact⟨rfl,by simp⟩
 split
 .exact⟨rfl,by simp⟩
 split
 .exact⟨rfl,by simp⟩
 split
 .exact⟨rfl,by simp⟩
 rename_i h;exact zPo g h rfl rfl
theorem Z1{s:Ua}{symbols log:Nat}:∀{f left p:Nat}{l r:Ub}{q:Nat},yX s symbols f left p l=some (r,q)->l.length<=symbols->(∀x∈l,-1<=x)->pts l+left=2^log->(left=0->l.getLast?≠some 0/\1<=l.length) ->
  (∀x∈r,-1<=x)/\pts r=2^log/\r.getLast?≠some 0/\1<=r.length/\r.length<=symbols
 | 0,_,_,_,_,_,h,_,_,_,_=>by cases h
 | f+1,left,p,l,r,q,h,o,h1,t,j=>by
  unfold yX at h;split at h
  .rename_i c;cases h;exact⟨h1,by rw[<-t,c];omega,(j c).1,(j c).2,o⟩
  rename_i c;cases b:wp s left p with
  | none=>rw[b]at h;cases h
  | some x =>
   obtain⟨v,u⟩:=x;rw[b]at h;obtain⟨z,_⟩:=JK oy b;simp only at h;split at h
   .cases h
   rename_i w;split at h
   .rename_i d;cases e:ym s symbols (symbols+1) u (l.length+1)with
    | none=>rw[e]at h;cases h
    | some y =>
     obtain⟨n,A⟩:=y;rw[e]at h;simp only at h;have i:∀{f p n m q:Nat},ym s symbols f p n=some (m,q)->m<=symbols:=by
      intro f;induction f with
      | zero=>intro p n m q h;cases h
      | succ f ih =>
       intro p n m q h;unfold ym at h;split at h
       .cases h
       split at h
       .cases h
       split at h
       .exact ih h
       cases h;omega
     have hm:=i e;refine Z1 h (by simp;omega) (λx a=>?_) ?_ (λg=>absurd g c)
     .rcases List.mem_append.1 a with a|a
      .exact h1 x a
      rw[List.eq_of_mem_replicate a];decide
     rw[JF];have:∀k,pts (List.replicate k 0)=0:=λk=>by
      induction k with
      | zero=>rfl
      | succ k ih=>rw[List.replicate_succ,zAX,ih];rfl
     rw[this];omega
   rename_i d;refine Z1 h (by simp;omega) (λx a=>?_) ?_ (λg=>?_)
   .rcases List.mem_append.1 a with a|a
    .exact h1 x a
    rw[List.mem_singleton.1 a];omega
   .rw[JF,OM];unfold pt;split<;>omega
   refine⟨?_,by simp⟩;rw[List.getLast?_append];simp;omega
theorem qY{s:Ua}{log p:Nat}{l:Ub}(h:yl s 6 12=some (log,l,p)):GD log l:=by
 unfold yl at h;split at h
 .cases h
 split at h
 .cases h
 rename_i b c;rcases hr:yX s 12 (12+2) (2^(zu s 0 4+5)) 4 [] with _|⟨r,q⟩
 .rw[hr]at h;cases h
 rw[hr]at h;simp only[oo,oA,oB]at h;obtain⟨rfl,rfl,rfl⟩:=h;have d:0<2^(zu s 0 4+5):=Nat.pow_pos db;obtain⟨a1,a2,a3,a4,a5⟩:=Z1 (log:=zu s 0 4+5) hr (by simp) (λx a=>by cases a) (by simp[pts]) (λg=>oy);exact⟨oy,a4,a5,a1,a3,a2⟩
def kb(s:Ua)(a:Nat)(n:Nat):Ub:=(List.range n).map λi=>((if i % 2=0 then (s[a+i/2]?.getD 0).toNat/16 else (s[a+i/2]?.getD 0).toNat % 16:Nat):Int)
structure Rd where
 l:Ub
 nx:Nat
 e:Int
 fat:Int
def yd(s:Ua)(a h:Nat):Rd :=
 if s.length<a+1+(h-127+1)/2 then ⟨[],0,5,s.length⟩
 else if XS (kb s (a+1) (h-127))=0 then ⟨kb s (a+1) (h-127),a+1+(h-127+1)/2,0,0⟩
 else ⟨[],0,21,a⟩
def zFn(b:Ua)(a fin:Nat):Rd :=
 match yl b 6 12 with
 | none=>⟨[],0,if kG b 6 then 31 else 23,a+1⟩
 | some (log,l,p) =>
  if (xW log l (b.drop ((p+7)/8))).1≠0 then ⟨[],0,(xW log l (b.drop ((p+7)/8))).1,a+1+(p+7)/8⟩
  else if XS (xW log l (b.drop ((p+7)/8))).2=0 then ⟨(xW log l (b.drop ((p+7)/8))).2,fin,0,0⟩
  else ⟨[],0,21,a⟩
def yE(s:Ua)(at':Int):Rd :=
 if at'<0\/s.length<at' then ⟨[],0,2,0⟩
 else match s[at'.toNat]? with
 | none=>⟨[],0,5,at'⟩
 | some c =>
  if 127<c.toNat then yd s at'.toNat c.toNat
  else if s.length<at'.toNat+1+c.toNat then ⟨[],0,5,s.length⟩
  else zFn ((s.drop (at'.toNat+1)).take c.toNat) at'.toNat (at'.toNat+1+c.toNat)
def J3(m:Nat)(l:Ub):Ub:=l.map λx=>if x≠0 then (m:Int)+1-x else 0
def xb(l:Ub):Ub:=J3 (zT (yH l)) (l++[((zT (yM l):Nat):Int)])
theorem YA(s:Ua)(a n:Nat):(kb s a n).length=n:=by simp[kb]
theorem JU(m:Nat)(l:Ub):(J3 m l).length=l.length:=by simp[J3]
theorem zAc(s:Ua)(a:Int):(yE s a).l.length<=255:=by
 unfold yE;split
 .simp
 split
 .simp
 rename_i c d;have:=c.toNat_lt;split
 .unfold yd;split
  .simp
  split
  .simp only[YA];omega
  simp
 split
 .simp
 unfold zFn;split
 .simp
 rename_i log l p b;split
 .simp
 split
 .exact(zAd (qY b)).2
 simp
theorem wU{p o:Nat}{k:Uc}:zP zB 59 0 h (.ptr p o) k=k (.ptr p (o+0)) h:=da
theorem yO{p o:Nat}{k:Uc}:zP zB 59 1 h (.ptr p o) k=k (.ptr p (o+1)) h:=da
theorem zVG{k:Uc}(a:k (.tuple []) h):YH zB 0 k (.tuple []) h:=⟨rfl,a⟩
theorem wb{v:V}{e n:Nat}{xs:Ug}(s:Sl h v e n xs){a:Int}{k:Cs->Prop}(c:k (.ls [dd a,v])):ZN (cond (za (V.cells (.agg [(dd a),v]))) (Cs.ofL (V.cells (.agg [(dd a),v]))) none) k:=by
 obtain⟨_,⟨rfl,_⟩|⟨b,o,d,cs,k,w,op,rfl,_⟩⟩:=s
 .exact c
 exact c
theorem zHX{v:V}{l:Ub}{m:Int}(sl:Sl h v 1 l.length (zV l))(hl:l.length<=1000)(h0:1<=l.length)(s:∀x∈l,m<=x)(t:∀x,m<=x->Q (dd x) h):RF P zB 242 [v] h Q:=by
 refine yU z1B ⟨_,sl.len z7 rfl,λc=>oy,λ_=>Has.nil.on λtm hs=>?_⟩;have d:∀i,i<l.length->∃x b o,m<=x/\yo zB 23 v (dd (i:Nat))=some (.ptr b o)/\zo zB 3 h (.ptr b o)=some (dd x):=λi hi=>by obtain⟨b,o,f,g⟩:=sl.at1 (u:=dd l[i]) hi z7 rfl zm rfl rfl (by rw[oh,oU hi];rfl);exact⟨_,b,o,s _ (od hi),f,g⟩
 obtain⟨x,b,o,n,f,g⟩:=d 0 oy;refine wpS.av hs zTL rfl rfl ⟨b,o,f,x,g,hs.on λj a=>?_⟩;clear hs;refine wpC.round (λk tm h'=>∃(i:Nat) (x:Int),i<=l.length/\k=l.length-i/\h'=h/\m<=x/\Has tm [(4,dd i),(0,v),(3,dd x)]) (l.length-1) ⟨1,x,oy,rfl,rfl,n,a.sub rfl⟩ ?_;rintro k tm h' ⟨i,x,h1,rfl,rfl,r,hs⟩;refine wpC.av hs zSG rfl rfl ⟨_,sl.len z7 rfl,λc=>?_,λc=>hs.on λj a=>?_⟩
 .obtain⟨y,b,o,w,f,g⟩:=d i oy;have e:zG ((i:Int)+1)=((i+1:Nat):Int):=by rw[zD oy oy];rfl
  refine⟨b,o,f,y,g,hs.on λj a=>⟨rfl,rfl,l.length-(i+1),oy,i+1,min x y,oy,rfl,rfl,Int.le_min.2 ⟨r,w⟩,?_⟩⟩;try dsimp only
  rw[<-e];exact a.sub rfl
 refine thenC.left (wpS.av a zTK rfl rfl (a.on λz p=>p.slt λA q=>?_));exact endW.r1 (q.get rfl) (t x r)
theorem zAY{l:Ub}(h:∀x∈l,-1<=x):0<=pts l:=by have:=Xw h;omega
theorem zF2{l:Ub}(h:∀x∈l,-1<=x)(i:Nat):0<=pts (l.take i)/\pts (l.take i)<=pts l:=by
 have h1:=zAY (l:=l.take i) λx a=>h x (List.mem_of_mem_take a)
 have c:=zAY (l:=l.drop i) λx a=>h x (List.mem_of_mem_drop a)
 have b:=JF (l.take i) (l.drop i);rw[List.take_append_drop]at b;omega
theorem zKl{v:V}{log:Int}{l:Ub}(sl:Sl h v 1 l.length (zV l))(hl:l.length<=1000)(j:∀x∈l,-1<=x)(M:pts l<=1048576)(N:h.nx+2<=T.top)(E:∀h',Ext h h' 2->Q (dd (pts l)) h'):RF P zB 243 [.agg [dd log,v]] h Q:=by
 refine yU z1C (wb sl ⟨oy,?_⟩);rintro p0 h1 rfl m;have z:=(Vw.nil (S:=zN) (h:=h)).new m oy;have O:=z.top;refine⟨rfl,oy,?_⟩;rintro R U rfl F;have A:=z.new F oy;have W:=A.top;obtain⟨G,B,g,H,_⟩:=A.st (cx:=zB) 0 (f:=0) (u:=dd 0) rfl oy zm rfl;refine⟨G,B,v,g.ld1 1 rfl z7 rfl,_,(sl.ext g.ex0).len z7 rfl,Has.nil.on λtm hs=>?_⟩;refine wpC.round (λk tm h'=>∃i:Nat,i<=l.length/\k=l.length-i/\Vw zN h h' 2 [(h1.nx,.cells (.ls [dd (pts (l.take i))]) ⟨0,3+1,0⟩ true false),(h.nx,.cells (.ls [dd log,v]) ⟨0,59+1,0⟩ true false)] /\
  Has tm [(11,dd i),(10,dd l.length),(9,v),(4,.func (.func 286) [] [.ptr h1.nx 0]),(3,.ptr h1.nx 0)]) l.length ⟨0,oy,oy,g,hs.sub rfl⟩ ?_
 clear hs g B H;rintro k tm h' ⟨i,I,rfl,w,hs⟩;have X:=w.top;refine wpC.av hs zSH rfl rfl ⟨λc=>?_,λc=>hs.on λd a=>?_⟩
 .have hi:i<l.length:=oy
  have n:l[i]? = some l[i]:=oU hi;obtain⟨b,o,m,C⟩:=(sl.ext w.ex0).at1 (u:=dd l[i]) hi z7 rfl zm rfl rfl (by rw[oh,n];rfl);have D:l.take (i+1)=l.take i++[l[i]]:=by rw[List.take_add_one,n];rfl
  have hr:=j l[i] (od hi);have hb:=zF2 j i;have J:=zF2 j (i+1);generalize l[i]=x at n C D hr;have e:zG ((i:Int)+1)=((i+1:Nat):Int):=by rw[zD oy oy];rfl
  have Y:pts (l.take (i+1))=pts (l.take i)+pt x:=by rw[D,JF,OM]
  refine⟨b,o,m,x,C,λp=>?_,λp=>?_⟩
  .show RF P zB 286 [dd 1,.ptr h1.nx 0] h' _;have q:pt x=1:=by unfold pt;rw[if_pos p]
   have es:min (zG (pts (l.take i)+1)) 1048576=pts (l.take (i+1)):=by rw[zD oy oy];omega
   obtain⟨r,s,t,K,_⟩:=w.st (cx:=zB) 0 (f:=0) (u:=dd (pts (l.take (i+1)))) rfl oy zm rfl;refine yU zVR ⟨_,w.ld1 0 rfl zm rfl,r,by rw[es];exact s,?_⟩;refine zVG (hs.on λd a=>⟨rfl,rfl,l.length-(i+1),oy,i+1,oy,rfl,t,?_⟩);try dsimp only
   rw[<-e];exact a.sub rfl
  show RF P zB 286 [dd (min x 1048576),.ptr h1.nx 0] h' _;have q:pt x=x:=by unfold pt;rw[if_neg p]
  have es:min (zG (pts (l.take i)+min x 1048576)) 1048576=pts (l.take (i+1)):=by rw[zD oy oy];omega
  obtain⟨r,s,t,K,_⟩:=w.st (cx:=zB) 0 (f:=0) (u:=dd (pts (l.take (i+1)))) rfl oy zm rfl;refine yU zVR ⟨_,w.ld1 0 rfl zm rfl,r,by rw[es];exact s,?_⟩;refine zVG (hs.on λd a=>⟨rfl,rfl,l.length-(i+1),oy,i+1,oy,rfl,t,?_⟩);try dsimp only
  rw[<-e];exact a.sub rfl
 have hi:i=l.length:=oy
 subst hi;rw[List.take_length]at w;refine thenC.left (wpS.av a zTM rfl rfl ⟨_,w.ld1 0 rfl zm rfl,a.on λL y=>?_⟩);exact endW.r1 (y.get rfl) (E _ w.ex0)
theorem ZR{v:V}{log:Nat}{l:Ub}{h:H}{Q:Uc}(sl:Sl h v 1 l.length (zV l))(g:GD log l)(z:Q (dd 0) h):RF P zB 173 [.agg [dd log,v]] h Q:=by
 show RF P zB 173 ((λv=>V.agg ([dd log]++[v])::[]) v) h Q;refine RF.ro (One.struct (zk rfl) (λa E=>(by cases E))) sl (jI l) (zL _ _) (λv0 A B F G=>?_) z;clear sl z h Q v;have U:=zt;have j:=g.pos;have C:=g.len;have I:=g.lg;have J:=g.pts;have K:=yy g.lg;have m:((2^log:Nat):Int)=2^log:=by simp
 show RF P zB 173 [.agg [dd log,v0]] A _;refine yU z0e (wb B ⟨oy,?_⟩);rintro p0 h1 rfl L;have d:=(Vw.nil (S:=zN) (h:=A)).new L oy;have W:=d.top;refine⟨_,d.ld1 0 rfl zm rfl,λc=>oy,λ_=>⟨_,d.ld1 0 rfl zm rfl,λc=>oy,λ_=>Has.nil.on λtm hs=>?_⟩⟩;refine wpS.av hs zSw rfl rfl ?_;try dsimp only
 rw[yO];have s1:=B.ext d.ex0;refine⟨v0,d.ld1 0 rfl z7 rfl,_,s1.len z7 rfl,⟨oy,by have:=d.low;omega⟩,λc=>oy,λ_=>⟨λc=>oy,λ_=>?_⟩⟩;try dsimp only
 rw[yO];have f:l[l.length-1]? = some l[l.length-1]:=oU oy;obtain⟨b,o,a1,a2⟩:=s1.at1 (u:=dd l[l.length-1]) (i:=l.length-1) oy z7 rfl zm rfl rfl (by rw[oh,f];rfl);have n:l[l.length-1]≠0:=λe=>g.last (by rw[List.getLast?_eq_getElem?,f,e])
 refine⟨v0,d.ld1 0 rfl z7 rfl,b,o,?_,_,a2,λc=>absurd c n,λ_=>?_⟩
 .rw[zD oy oy,show((l.length:Nat):Int)-1=((l.length-1:Nat):Int)by omega];exact a1
 try dsimp only
 rw[yO];have D:Sl (zX h1) v0 1 l.length (zV l):=s1;refine⟨v0,d.ld1 0 rfl z7 rfl,zHX D oy j g.low λx X=>⟨x,rfl,(show h1.nx<=T.top by omega),?_⟩⟩;intro p q;have r:=xg (h:=h1) oy (by have:=d.low;omega);rw[r.2]at q;subst p;refine⟨λc=>oy,λ_=>⟨_,_,d.ldA 0 rfl xO rfl,?_⟩⟩;refine zKl D oy g.low oy (show h1.nx+2<=T.top by omega) λs k=>⟨_,rfl,?_⟩
 have t:=Ext.drawn k oy;have M:=k.top;refine⟨⟨t.1,(show s.nx<=T.top by have:(zX h1).nx=h1.nx:=rfl;omega)⟩,?_⟩;intro N w;rw[<-w]at t;have O:=d.ext t.2;try dsimp only
 rw[wU];refine⟨_,O.ld1 0 rfl zm rfl,((1*2^log:Nat):Int),zz (a:=1) oy oy,λc=>absurd ?_ c,λ_=>hs.on λR y=>?_⟩
 .rw[J,Nat.one_mul,m]
 exact endW.r1 (y.get rfl) rfl
theorem zJb{log:Nat}(hl:log=5\/log=6){h:H}{Q:Uc}(b:Q (dd (XZ log:Nat)) h):RF P zB 324 [dd log] h Q:=by
 have c:=yy hl;refine yU z17 ⟨((1*2^log:Nat):Int),zz (a:=1) oy oy,((1*2^log/2^1:Nat):Int),kJ (n:=1) db,((1*2^log/2^3:Nat):Int),kJ (n:=3) db,?_⟩;have e:zG (zG (((1*2^log/2^1:Nat):Int)+((1*2^log/2^3:Nat):Int))+3)=((XZ log:Nat):Int):=by rw[Nat.one_mul];unfold XZ;rw[zD (n:=((2^log/2^1:Nat):Int)+((2^log/2^3:Nat):Int)) oy oy,zD oy oy];omega
 rw[e];exact b
theorem zJ6{k:Uc}(a:k (.bool true) h):YH zB 4 k (.bool true) h:=⟨true,rfl,λ_=>a,λg=>(by cases g)⟩
theorem OI{k:Bool->Prop}(a:k false):zBG .not (.bool true) (λv=>wO v k):=a
theorem z1o(i:Nat):exitB i .normal = .normal:=rfl
theorem thenC.left2{i j:Nat}{K I:St->Prop}{R:Ud}{s:St}(h:K s):thenC I (λe s1=>(λe s1=>(λe s1=>thenC K R (exitB j e) s1) (exitB i e) s1) e s1) (.exit i) s:=by show thenC K R (exitB j (exitB i (.exit i))) s;rw[j5];exact h
theorem thenC.out2{i j:Nat}{K:St->Prop}{R:Ud}{s:St}(h:K s):thenC K R (exitB j (exitB i (.exit i))) s:=by rw[j5];exact h
abbrev oLp(tm:Tm)(df:Nat):O:=.loop .ready none 26 tm #[19,20] Yy Zv df
abbrev zQv(tm:Tm)(df:Nat):O:=.loop .busy none 26 tm #[19,20] Yy Zv df
abbrev qk(v:V):O:=.cells (.ls [v]) ⟨0,23+1,0⟩ true false
theorem Zx(l:Ub)(j:Nat)(x:Int):zV (l.set j x)=(zV l).set j (dd x):=by simp[zV,List.map_set]
theorem YZ(n:Nat):zV (List.replicate n 0)=List.replicate n (dd 0):=by simp[zV]
structure SpI (hb h:H) (c r l df pc p12 b p0 n:Nat) (tm:Tm) (dc:O) (f:Int->Ui) (xs:Ub):Prop where
 vw:∃o cs,Vw zN hb h c [(r,o),(l,oLp tm df),(df,.deferred true),(pc,dc),(p12,qk (.slice b 0 n (.exact n))),(b,Zf cs),(p0,dc)]/\Row cs n (zV xs)
 mp:MapI h r f
theorem SpI.round{hb h:H}{c r l df pc p12 b p0 n:Nat}{tm:Tm}{dc:O}{f:Int->Ui}{xs:Ub}{j:Nat}{s:Int}(i:SpI hb h c r l df pc p12 b p0 n tm dc f xs)(y:Has tm [(5,.ptr p12 0)])(p:j<n)(q:h.nx<=T.top)(z:∀h',SpI hb h' c r l df pc p12 b p0 n tm dc f (xs.set j s)->h'.nx=h.nx->Q (.bool true) h'):RR P l [dd j,dd s] h Q:=by obtain⟨⟨o,cs,w,row⟩,mp⟩:=i;have hl:l<T.top:=oO (w.lt 1 rfl) q;refine RR.intro hl (w.get 1 rfl) rfl (RC.of_wp yA Yy ?_);refine wpC.sealS zRa (y.on λqM a=>?_);refine⟨rfl,_,_,_,_,_,_,_,w.get 1 rfl,RC.of_wp yA Zv ?_⟩;have e:=w.upd 1 (o':=zQv tm df) rfl q;show wpC P zB true (jd Zv) ⟨26,qM,[],h.upd l (some (zQv tm df))⟩ _;have A:(h.upd l (some (zQv tm df))).nx=h.nx:=rfl;generalize h.upd l (some (zQv tm df))=h1 at e A ⊢;obtain⟨g,k,B,d,t,E⟩:=e.set (cx:=zB) 5 (j:=j) (u:=dd s) row rfl oy p zm rfl rfl rfl rfl;refine wpC.av a zRd rfl rfl ⟨_,e.ld1 4 rfl z7 rfl,b,j,jx z7 rfl zm rfl p,g,B,a.on λm C=>?_⟩;have D:=t.get 1 rfl;show(match wG l .normal ⟨26,m,[],g⟩with|some (.ret v h')=>Q v h'|_=>False);simp only[wG,D];have x:=t.upd 1 (o':=oLp tm df) rfl oy;refine z _ ⟨⟨o,k,x,by rw[Zx];exact d⟩,mp.mono ((x.get 0 rfl).trans (w.get 0 rfl).symm)⟩ ?_;show g.nx=h.nx;omega
def tkn(size n:Nat):Int->Ui:=λk=>if (n:Int)<=k/\k<size then some (.bool true) else none
theorem zPk(size:Nat):tkn size size=λ_=>none:=by funext k;unfold tkn;rw[if_neg oy]
theorem zPj{size n:Nat}(h:n<=size)(h0:0<n):(λj=>if j=((n-1:Nat):Int) then some (.bool true) else tkn size n j)=tkn size (n-1):=by
 funext k;unfold tkn;by_cases c:k=((n-1:Nat):Int)
 .rw[if_pos c,if_pos oy]
 rw[if_neg c];by_cases c2:(n:Int)<=k/\k<size
 .rw[if_pos c2,if_pos oy]
 rw[if_neg c2,if_neg oy]
theorem SpI.taken{hb h:H}{c r l df pc p12 b p0 n size m:Nat}{tm:Tm}{dc:O}{xs:Ub}{p:Nat}(i:SpI hb h c r l df pc p12 b p0 n tm dc (tkn size m) xs)(a:p<size):
  ke zB 377 h (.map r) (dd p) false=some (.bool (decide (m<=p))):=by
 rw[i.mp.look zVQ rfl zm rfl ty4 rfl];unfold tkn;by_cases c:m<=p
 .rw[if_pos oy,decide_eq_true c];rfl
 rw[if_neg oy,decide_eq_false c];rfl
theorem SpI.top{hb h:H}{c r l df pc p12 b p0 n:Nat}{tm:Tm}{dc:O}{f:Int->Ui}{xs:Ub}(i:SpI hb h c r l df pc p12 b p0 n tm dc f xs):h.nx<=hb.nx+c:=by obtain⟨⟨o,cs,w,row⟩,mp⟩:=i;exact w.top
theorem SpI.ex{hb h:H}{c r l df pc p12 b p0 n:Nat}{tm:Tm}{dc:O}{f:Int->Ui}{xs:Ub}(i:SpI hb h c r l df pc p12 b p0 n tm dc f xs):Ext hb h c:=by obtain⟨⟨o,cs,w,row⟩,mp⟩:=i;exact w.ex0
theorem zIZ{log p:Nat}(hl:log=5\/log=6)(a:p<2^log):zj .and .i64 (zG ((p:Int)+(XZ log:Nat))) (zG (((2^log:Nat):Int)-1))=some (dd (((p+XZ log) % 2^log:Nat):Int)):=by
 have h1:=yy hl;have b:XZ log<=2^log+3:=by unfold XZ;omega
 rw[zD (n:=(p:Int)+(XZ log:Nat)) oy oy,zD oy oy,show((2^log:Nat):Int)-1=((2^log-1:Nat):Int)by omega,show(p:Int)+(XZ log:Nat)=((p+XZ log:Nat):Int)from rfl,qt oy oy,wz]
theorem zTr{hb h:H}{c r l df pc p12 b p0 n m log:Nat}{x:Tm}{v:V}{xs:Ub}{f p tgt:Nat}{tm:Tm}{R:Ud}{y0 e g y j q s:V}(hl:log=5\/log=6)(i:SpI hb h c r l df pc p12 b p0 n x (oD log v) (tkn (2^log) (2^log-m)) xs)(u:p<2^log)(a:nxt log m f p=tgt)(A:tgt<2^log-m)(hs:Has tm [(4,.map r),(8,dd p),(1,.ptr pc 0),(3,dd (2^log:Nat)),(0,y0),(47,e),(46,g),(9,y),(40,j),(39,q),(38,s)])(z:∀d,Has d [(4,.map r),(8,dd tgt),(1,.ptr pc 0),(3,dd (2^log:Nat)),(0,y0),(47,e),(46,g),(9,y),(40,j),(39,q),(38,s)]->R (.exit 6) ⟨75,d,[],h⟩):
  wpC P zB false (.loop zHR) ⟨75,tm,[],h⟩ R:=by
 refine wpC.round (λk tm h'=>h'=h/\∃p,p<2^log/\nxt log m k p=tgt/\Has tm [(4,.map r),(8,dd p),(1,.ptr pc 0),(3,dd (2^log:Nat)),(0,y0),(47,e),(46,g),(9,y),(40,j),(39,q),(38,s)]) f ⟨rfl,p,u,a,hs⟩ ?_;clear hs u a;rintro k tm h' ⟨rfl,p,u,a,hs⟩;refine wpC.av hs zSY rfl rfl ⟨_,i.taken u,λc=>?_,λc=>hs.on λd t=>?_⟩
 .have c:=of_decide_eq_true c;rcases k with _|k
  .have:p=tgt:=a;omega
  unfold nxt at a;rw[if_neg oy]at a;obtain⟨⟨o,cs,w,row⟩,mp⟩:=i;try dsimp only
  rw[wU];refine⟨_,w.ld1 3 rfl zm rfl,zJb hl ⟨_,rfl,_,zIZ hl u,hs.on λd t=>⟨rfl,rfl,k,Nat.lt_succ_self k,rfl,(p+XZ log) % 2^log,Nat.mod_lt _ (Nat.pow_pos db),a,t.sub rfl⟩⟩⟩
 have c:=of_decide_eq_false c;have:p=tgt:=by
  rcases k with _|k
  .exact a
  unfold nxt at a;rw[if_pos oy]at a;exact a
 subst this;exact z d (t.sub rfl)
theorem qz{l:Ub}{i:Nat}(hi:i<l.length):l.drop i=l[i]::l.drop (i+1):=List.drop_eq_getElem_cons hi
theorem zAO{l:Ub}{i:Nat}(hi:i<l.length):yQ (l.drop i)=(if l[i] = -1 then 1 else 0)+yQ (l.drop (i+1)):=by rw[qz hi,XO]
theorem zKU{hb h:H}{c l df pc p12 b p0 log:Nat}{p:Tm}{v:V}{d:Ub}{cs:Cs}{Q:Uc}(g:GD log d)(t5:Has p [(5,.ptr p12 0)])(w:Vw zN hb h c [(l,oLp p df),(df,.deferred true),(pc,oD log v),(p12,qk (.slice b 0 (2^log) (.exact (2^log)))),(b,Zf cs),(p0,oD log v)])(row:Row cs (2^log) (zV (List.replicate (2^log) 0)))(sl:Sl hb v 1 d.length (zV d))(hn:h.nx+1<=T.top)(hq:∀h' r f,SpI hb h' (c+1) r l df pc p12 b p0 (2^log) p (oD log v) f (jS log d)->Q (.tuple []) h'):RF P zB 323 [.yield l,.ptr pc 0] h Q:=by
 have hl:=g.lg;have hlen:=g.len;have hpw:=yy g.lg;have Y:=g.cells;have I:yQ d<=12:=oW (zAN d) g.len;refine yU z16 ?_;try dsimp only
 rw[wU];obtain⟨D,N⟩:∃D,D=h.new (.map [] 0):=⟨_,rfl⟩;have O:=w.new N oy;have m5:MapI D h.nx (λ_=>none):=by rw[N];exact MapI.new oy
 have t5':=O.top;refine⟨_,w.ld1 2 rfl zm rfl,((1*2^log:Nat):Int),zz (a:=1) oy oy,.map h.nx,D,by rw[N];exact qN rfl,?_⟩;try dsimp only
 rw[yO];have e1:zG (((1*2^log:Nat):Int)-1)=((2^log:Nat):Int)-1:=by rw[zD oy oy];omega
 try dsimp only
 rw[e1,Nat.one_mul];refine⟨_,O.ld1 3 rfl z7 rfl,_,(sl.ext O.ex0).len z7 rfl,Has.nil.on λtm hs=>?_⟩;have t:SpI hb D (c+1) h.nx l df pc p12 b p0 (2^log) p (oD log v) (tkn (2^log) (2^log)) (List.replicate (2^log) 0):=⟨⟨_,cs,O,row⟩,by rw[zPk];exact m5⟩;have n5:D.nx<=T.top:=by rw[N,z8];omega
 clear O m5 N t5';generalize h.nx=r at hs t n5;refine wpC.round (λk tm h'=>∃(i n:Nat) (xs:Ub),i<=d.length/\k=d.length-i/\h'.nx=D.nx/\SpI hb h' (c+1) r l df pc p12 b p0 (2^log) p (oD log v) (tkn (2^log) n) xs /\
  JI (d.drop i) i n xs=JI d 0 (2^log) (List.replicate (2^log) 0)/\n+yQ d=2^log+yQ (d.drop i)/\n<=2^log /\
  Has tm [(20,dd i),(19,dd d.length),(18,v),(4,.map r),(5,dd ((n:Int)-1)),(0,.yield l),(1,.ptr pc 0),(3,dd (2^log:Nat))]) d.length
  ⟨0,2^log,_,oy,oy,rfl,t,rfl,rfl,oV _,hs.sub rfl⟩ ?_
 clear hs t;rintro k tm h' ⟨i,n,xs,hi1,rfl,y,t,C,hN,K,hs⟩;have A:=sl.ext t.ex;refine wpC.av hs zSX rfl rfl ⟨λR=>?_,λR=>hs.on λB m=>?_⟩
 .have hi:i<d.length:=oy
  have Z:=qz hi;have S:=zAO hi;obtain⟨pb,po,a1,a2⟩:=A.at1 (u:=dd d[i]) hi z7 rfl zm rfl rfl (by rw[oh,oU hi];rfl);have e:zG ((i:Int)+1)=((i+1:Nat):Int):=by rw[zD oy oy];rfl
  refine⟨pb,po,a1,_,a2,λU=>?_,λU=>hs.on λB m=>?_⟩
  .rw[if_pos U]at S;have hn1:1<=n:=oy
   have en:(n:Int)-1=((n-1:Nat):Int):=oy
   obtain⟨⟨o,F,w',z⟩,mp⟩:=t;have hrt:r<T.top:=oO (w'.lt 0 rfl) oy;obtain⟨es,ck,eu,mu⟩:=mp.upd (c:=zB) zVQ rfl zm rfl hrt ((n-1:Nat):Int) (.bool true);rw[zPj K oy]at mu;have w2:=w'.upd 0 (o':=.map es ck) rfl oy;try dsimp only
   rw[en];refine⟨_,eu,?_⟩;have n2:(h'.upd r (some (.map es ck))).nx=h'.nx:=rfl;generalize h'.upd r (some (.map es ck))=h2 at w2 mu n2 ⊢;have i2:SpI hb h2 (c+1) r l df pc p12 b p0 (2^log) p (oD log v) (tkn (2^log) (n-1)) xs:=⟨⟨_,F,w2,z⟩,mu⟩;show RR P l [dd ((n-1:Nat):Int),dd (i:Nat)] h2 _;refine i2.round (s:=(i:Int)) t5 oy oy λh3 i3 n3=>zJ6 (OI ?_)
   refine hs.on λB m=>⟨rfl,rfl,d.length-(i+1),oy,i+1,n-1,_,oy,rfl,(show h3.nx=D.nx by omega),i3,?_,oy,oy,?_⟩
   .rw[<-C,Z];exact(if_pos U).symm
   have e2:zG ((n:Int)-1-1)=((n-1:Nat):Int)-1:=by rw[zD oy oy];omega
   have q:=m.sub (l':=[(20,dd (zG ((i:Int)+1))),(19,dd d.length),(18,v),(4,.map r),(5,dd (zG (((n-1:Nat):Int)-1))),(0,.yield l),(1,.ptr pc 0),(3,dd (2^log:Nat))]) rfl;rw[e,<-en,e2]at q;exact q
  rw[if_neg U]at S;refine⟨rfl,rfl,d.length-(i+1),oy,i+1,n,xs,oy,rfl,y,t,?_,oy,K,?_⟩
  .rw[<-C,Z];exact(if_neg U).symm
  rw[<-e];exact m.sub da
 have hi:i=d.length:=oy
 subst hi;rw[List.drop_length]at C hN;have hn9:n=2^log-yQ d:=by have:yQ []=0:=rfl;omega
 subst hn9;have hx0:xs=JI d 0 (2^log) (List.replicate (2^log) 0):=C;subst hx0;refine thenC.left (wpS.av m zTi rfl rfl ?_);try dsimp only
 rw[yO];obtain⟨⟨o,F,w',z⟩,mp⟩:=t;refine⟨_,w'.ld1 3 rfl z7 rfl,_,A.len z7 rfl,m.on λtm2 E=>?_⟩;have t:SpI hb h' (c+1) r l df pc p12 b p0 (2^log) p (oD log v) (tkn (2^log) (2^log-yQ d)) (JI d 0 (2^log) (List.replicate (2^log) 0)):=⟨⟨o,F,w',z⟩,mp⟩;refine wpC.round (λk tm h'=>∃(i n:Nat) (xs:Ub),i<=d.length/\k=d.length-i/\h'.nx=D.nx/\SpI hb h' (c+1) r l df pc p12 b p0 (2^log) p (oD log v) (tkn (2^log) (2^log-yQ d)) xs /\
  Jz log (yQ d) (d.drop i) i n xs=jS log d /\
  Has tm [(40,dd i),(39,dd d.length),(38,v),(4,.map r),(8,dd (plc log (yQ d) n:Nat)),(0,.yield l),(1,.ptr pc 0),(3,dd (2^log:Nat))]) d.length
  ⟨0,0,_,oy,oy,y,t,rfl,E.sub rfl⟩ ?_
 clear hs E m t w' mp z C hN K A y;rintro k tm h' ⟨i,n,xs,hi1,rfl,y,t,C,hs⟩;have A:=sl.ext t.ex;refine wpC.av hs zS0 rfl rfl ⟨λR=>?_,λR=>hs.on λB m=>?_⟩
 rotate_left
 .have hi:i=d.length:=oy
  subst hi;rw[List.drop_length]at C;have hx:xs=jS log d:=C;subst hx;show zp J4 (endW zB ⟨75,[],bf 323⟩ Q) (exitB 2 (.exit 2)) _;rw[j5];exact m.slt λW _=>hq h' _ _ t
 have hi:i<d.length:=oy
 have Z:=qz hi;obtain⟨pb,po,a1,a2⟩:=A.at1 (u:=dd d[i]) hi z7 rfl zm rfl rfl (by rw[oh,oU hi];rfl);have e:zG ((i:Int)+1)=((i+1:Nat):Int):=by rw[zD oy oy];rfl
 have J:=ZX g.low (od hi);rw[g.pts]at J;have hpc:((2^log:Nat):Int)=2^log:=by simp
 rw[Z]at C;unfold Jz at C;generalize d[i]=x at a2 C J;have ex:max x 0=((x.toNat:Nat):Int):=oy
 refine⟨pb,po,a1,x,a2,hs.on λB m=>?_⟩;rw[ex]at m;refine wpC.round (λk tm h'=>∃(j:Nat) (G:Ub),j<=x.toNat/\k=x.toNat-j/\h'.nx=D.nx/\SpI hb h' (c+1) r l df pc p12 b p0 (2^log) p (oD log v) (tkn (2^log) (2^log-yQ d)) G /\
  Jy log (yQ d) i (x.toNat-j) (n+j) G=Jy log (yQ d) i x.toNat n xs /\
  Has tm [(47,dd j),(46,dd x.toNat),(9,dd i),(40,dd i),(39,dd d.length),(38,v),(4,.map r),(8,dd (plc log (yQ d) (n+j):Nat)),(0,.yield l),(1,.ptr pc 0),(3,dd (2^log:Nat))]) x.toNat
  ⟨0,xs,oy,oy,y,t,rfl,m.sub rfl⟩ ?_
 clear hs m t A a2 y;rintro k tm h' ⟨j,G,hj1,rfl,y,t,hP,hs⟩;refine wpC.av hs zSZ rfl rfl ⟨λR=>?_,λR=>hs.on λB m=>?_⟩
 .have hj:j<x.toNat:=oy
  have hpl:=Jx hl I (n+j);have e2:zG ((j:Int)+1)=((j+1:Nat):Int):=by rw[zD oy oy];rfl
  show RR P l [dd (plc log (yQ d) (n+j):Nat),dd (i:Nat)] h' _;refine t.round (s:=(i:Int)) t5 oy oy λh3 i3 n3=>zJ6 (OI ?_)
  show zP zB 59 0 h3 (.ptr pc 0) _;try dsimp only
  rw[wU];have X:=i3;obtain⟨⟨o,F,w',z⟩,mp⟩:=i3;refine⟨_,w'.ld1 3 rfl zm rfl,zJb hl ⟨_,rfl,_,zIZ hl oy,hs.on λB m=>?_⟩⟩;refine zTr (f:=13) (tgt:=plc log (yQ d) (n+(j+1))) hl X (Nat.mod_lt _ (Nat.pow_pos db)) rfl (Jx hl I _) (m.sub rfl) λtm2 E=>?_
  refine thenC.out2 ?_;refine wpS.av E zTg rfl rfl (E.on λW L=>L.slt λwH M=>⟨rfl,rfl,x.toNat-(j+1),oy,j+1,_,oy,rfl,(show h3.nx=D.nx by omega),X,?_,?_⟩)
  .rw[<-hP,show x.toNat-j=(x.toNat-(j+1))+1 by omega];rfl
  rw[<-e2];exact M.sub da
 have hj:j=x.toNat:=oy
 subst hj;rw[Nat.sub_self]at hP;have hx1:G=Jy log (yQ d) i x.toNat n xs:=hP;subst hx1;refine thenC.left2 ?_;refine wpS.av m zTh rfl rfl (m.on λW L=>L.slt λwH M=>⟨rfl,rfl,d.length-(i+1),oy,i+1,n+x.toNat,_,oy,rfl,y,t,C,?_⟩);try dsimp only
 rw[<-e];exact M.sub da
theorem _root_.Go.Sim.exitB_nm(i:Nat):exitB i .normal = .normal:=rfl
theorem zGJ{v:V}{log:Nat}{l:Ub}(sl:Sl h v 1 l.length (zV l))(g:GD log l)(hn:h.nx+10<=T.top)(X:∀h' v',Ext h h' 7->Sl h' v' 1 (2^log) (zV (jS log l))->Q (.tuple [v',.int .i64 0]) h'):RF P zB 274 [.agg [.int .i64 log,v]] h Q:=by
 have Y:=yy g.lg;have Z:=g.lg;refine yU z1M (wb sl ⟨oy,?_⟩);rintro p0 h1 rfl e1;have x:=(Vw.nil (S:=zN) (h:=h)).new e1 oy;have t1:=x.top;refine⟨_,_,x.ldA 0 rfl xO rfl,ZR (sl.ext x.ex0) g ⟨0,rfl,λc=>absurd rfl c,λ_=>⟨_,x.ld1 0 rfl zm rfl,((1*2^log:Nat):Int),zz (a:=1) oy oy,?_⟩⟩⟩;try dsimp only
 rw[Nat.one_mul];obtain⟨cs,W,row⟩:=Row.make (cx:=zB) (k:=2^log) (h:=h1) z7 rfl zm rfl rfl rfl oy (by show 8*2^log<=_;omega) oy;obtain⟨p,y⟩:∃p,p=h1.new (Zf cs):=⟨_,rfl⟩;rw[<-y]at W;have z:=x.new y oy;have t11:=z.top;refine⟨_,p,W,rfl,oy,?_⟩;rintro p12 h13 rfl L;have A:=z.new L oy;have t13:=A.top;obtain⟨q,M,j,n14,_⟩:=A.st (cx:=zB) 0 (f:=0) (u:=.slice h1.nx 0 (2^log) (.exact (2^log))) rfl oy z7 rfl;refine⟨q,M,_,_,j.ldA 2 rfl xO rfl,?_⟩;have B:=sl.ext j.ex0;have t14:=j.top;refine yU z1Z (wb B ⟨oy,?_⟩);rintro p18 b rfl N;have C:=j.new N oy;have t18:=C.top;refine⟨_,rfl,Has.nil.on λtm hs=>?_⟩;refine RC.rangeFunc yA (g:=323) (first:=[]) (captured:=[.ptr q.nx 0]) (show zx tm (t 18)=_ from congrArg some (hs.get rfl)) (by show b.nx+1<_;omega) ?_;show RF P zB 323 [.yield (b.nx+1),.ptr q.nx 0] ((b.new (.deferred true)).new (oLp tm b.nx)) _;obtain⟨d,s⟩:∃d,d=b.new (.deferred true):=⟨_,rfl⟩;have D:=C.new s oy;have t19:=D.top;have O:d.nx=b.nx+1:=by rw[s,z8]
 obtain⟨E,F⟩:∃E,E=d.new (oLp tm b.nx):=⟨_,rfl⟩;have G:=D.new F oy;have t20:=G.top;try dsimp only
 rw[<-s,<-F,<-O];refine zKU g (hs.sub da) G (by rw[YZ];exact row) sl oy λw r f i=>?_
 have t21:=i.top;obtain⟨⟨o,cs2,H,I⟩,_⟩:=i;have gl:=H.get 1 rfl;simp only[qI,gl];have m:=H.upd 1 (o':=.loop .exhausted none 26 tm #[19,20] Yy Zv b.nx) rfl oy;have R:(w.upd d.nx (some (.loop .exhausted none 26 tm #[19,20] Yy Zv b.nx))).nx=w.nx:=rfl;generalize w.upd d.nx (some (.loop .exhausted none 26 tm #[19,20] Yy Zv b.nx))=e at m R ⊢;show Wf zCr zHe ⟨26,tm,[.coll b.nx],e⟩ (endW zB ⟨26,[.tmp 2,.tmp 3],bf 274⟩ Q);refine wpS.av hs zTV rfl rfl ?_;refine⟨_,m.ld1 4 rfl z7 rfl,hs.on λJ K=>?_⟩;show wpD [.coll b.nx] e _;simp only[wpD,m.get 2 rfl];have n:=m.upd 2 (o':=.deferred false) rfl oy;have U:(e.upd b.nx (some (.deferred false))).nx=e.nx:=rfl;generalize e.upd b.nx (some (.deferred false))=h23 at n U ⊢;show Q (.tuple [zI J 2,zI J 3]) h23;rw[K.get (t:=2) rfl,K.get (t:=3) rfl];exact X h23 _ n.ex0 (I.sl (n.lt 5 rfl) (n.get 5 rfl))
abbrev kf(c:Cl):Ug:=[dd c.1,dd (c.2.1:Nat),dd (c.2.2:Nat)]
def xH(l:List Cl):Ug:=l.flatMap kf
theorem O9(l m:List Cl):xH (l++m)=xH l++xH m:=List.flatMap_append ..
theorem Oa:∀{l:List Cl}{i:Nat}{c:Cl},l[i]? = some c->∀j,j<3->(xH l)[i*3+j]? = (kf c)[j]?
 | [],_,_,h=>by cases h
 | d::l,0,c,h=>by cases h;intro j a;show(kf d++xH l)[0*3+j]? = _;rw[Nat.zero_mul,Nat.zero_add,List.getElem?_append_left (by show j<3;exact a)]
 | d::l,i+1,c,h=>by intro j a;have:=Oa (l:=l) (i:=i) h j a;show(kf d++xH l)[(i+1)*3+j]? = _;rw[List.getElem?_append_right (by show 3<=_;omega),<-this];congr 1;show(i+1)*3+j-3=_;omega
theorem zK8{x:Int}(h : -1<=x){a:H}{Q:Uc}(b:Q (dd (x.natAbs:Nat)) a):RF P zB 277 [dd x] a Q:=by
 refine yU z1P ⟨λc=>?_,λc=>?_⟩
 .have:x = -1:=oy
  subst this;exact b
 rwa [show((x.natAbs:Nat):Int)=x by omega]at b
theorem zRN{v:V}{c:Nat}{log:Int}{l:Ub}{s:Int}(f:h.get c=some (oD log v))(sl:Sl h v 1 l.length (zV l))(g:∀x∈l,-1<=x)(i:Occ l s)(d:Q (dd (wx l s:Nat)) h):RF P zB 276 [dd s,.ptr c 0] h Q:=by
 obtain⟨n,rfl,p,a,j⟩:=i;have k:=(List.getElem?_eq_some_iff.1 a).1;obtain⟨b,o,a1,a2⟩:=sl.at1 (u:=dd p) k z7 rfl zm rfl rfl (by rw[oh,a];rfl);have e:wx l (n:Int)=p.natAbs:=by unfold wx;rw[ol,a];rfl
 rw[e]at d;refine yU z1O ?_;try dsimp only
 rw[yO];exact⟨v,zK z7 rfl f rfl,b,o,a1,p,a2,zK8 (g p (List.mem_of_getElem? a)) ⟨_,rfl,d⟩⟩
theorem zZm{k:Uc}{x:Int}(a:k (dd x) h):YH zB 3 k (dd x) h:=⟨x,rfl,a⟩
theorem zRY:∃cs,cond (za (V.cells (.agg (List.replicate 1536 (dd (0:Int)))))) (Cs.ofL (V.cells (.agg (List.replicate 1536 (dd (0:Int)))))) none=some cs/\RowE cs 3 0 512 []:=by
 obtain⟨cs,h1,a⟩:=Cs.ofL_some (l:=List.replicate 1536 (dd (0:Int))) (by rw[List.length_replicate];decide);obtain⟨b,_⟩:=Cs.ofL_eq h1;have c:V.cells (.agg (List.replicate 1536 (dd (0:Int))))=List.replicate 1536 (dd (0:Int)):=da
 have d:za (List.replicate 1536 (dd (0:Int)))=true:=da
 refine⟨cs,by rw[c,d,oS,h1],a,by rw[b,List.length_replicate],rfl,db,λi hi=>oy⟩
theorem zCf{cs:Cs}{r:Option Cs}{k:Cs->Prop}(e:r=some cs)(a:k cs):ZN r k:=by subst e;exact a
theorem zZL{x:Nat}(h:1<=x):hi (x:Int)=((zT x-1:Nat):Int):=by have:=Zw x;have:=qU h;omega
theorem zE8{v vs:V}{log:Nat}{l:Ub}{D:Nat}(g:GD log l)(hg:h.get D=some (oD log v))(hpd:D<h.nx)(sl:Sl h v 1 l.length (zV l))(ss:Sl h vs 1 (2^log) (zV (jS log l)))(hn:h.nx+70<=T.top)(hq:∀h' v',Ext h h' 66->Sl h' v' 3 (2^log) (xH (xI log l))->Q v' h'):RF P zB 275 [dd log,.func (.func 276) [] [.ptr D 0],vs] h Q:=by
 have hpw:=yy g.lg;have hlg:=g.lg;obtain⟨cs0,er,X⟩:=zRY;refine yU z1N (zCf er ⟨oy,?_⟩);rintro p0 h1 rfl e1;have w1:=(Vw.nil (S:=zN) (h:=h)).new e1 oy;have t1:=w1.top;have esl:zy zB 356 h1 (.ptr h.nx 0) none (some (dd (0:Int))) (some (dd (512:Int)))=some (.slice h.nx 0 0 (.exact 512)):=da
 obtain⟨Y,e5⟩:∃Y,Y=h1.new (.map [] 0):=⟨_,rfl⟩;have w5:=w1.new e5 oy;have m5:MapI Y h1.nx (λ_=>none):=by rw[e5];exact MapI.new oy
 refine⟨_,esl,.map h1.nx,Y,by rw[e5];exact qN rfl,_,(ss.ext w5.ex0).len z7 rfl,Has.nil.on λtm hs=>?_⟩;have hdl:=ZA log l;refine wpC.round (λk tm h'=>∃(i:Nat) (nx:Int->Nat) (f:Int->Ui) (o:O) (cs:Cs),i<=2^log/\k=2^log-i/\Vw zN h h' (2+i) [(h1.nx,o),(h.nx,.cells cs ⟨0,356+1,0⟩ true false)]/\MapI h' h1.nx f/\RowE cs 3 i 512 (xH ((xI log l).take i)) /\
  Ob log nx ((jS log l).drop i)=(xI log l).drop i/\(∀s,f s=none/\nx s=wx l s\/f s=some (dd (nx s:Nat)))/\(∀s,wx l s<=nx s/\nx s<=2^log+i) /\
  Has tm [(20,dd i),(19,dd (2^log:Nat)),(18,vs),(9,.map h1.nx),(0,dd log),(8,.slice h.nx 0 i (.exact 512)),(1,.func (.func 276) [] [.ptr D 0])]) (2^log)
  ⟨0,wx l,_,_,cs0,oy,oy,w5,m5,X,rfl,λs=>.inl ⟨rfl,rfl⟩,λs=>⟨oV _,by have:=zD0 g s;omega⟩,hs.sub da⟩ ?_
 clear hs m5 w5 e5 Y;rintro k tm h' ⟨i,nx,f,o,cs,hi1,rfl,w,mp,row,Z,hf,hnx,hs⟩;have tw:=w.top;have ssk:=ss.ext w.ex0;refine wpC.av hs zSP rfl rfl ⟨λc1=>?_,λc1=>hs.on λtm' hs'=>?_⟩
 rotate_left
 .have E:i=2^log:=oy
  subst E;rw[List.take_of_length_le oy]at row;refine thenC.left (wpS.av hs' zTY rfl rfl (hs'.on λm n=>endW.r1 (n.get rfl) ?_));exact hq h' _ (w.ex0.mono oy) (row.sl (w.lt 1 rfl) (w.get 1 rfl))
 have E:i<(jS log l).length:=by rw[JR];omega
 have L:(jS log l)[i]? = some (jS log l)[i]:=oU E;have y:=zAp g L;obtain⟨pb,po,a1,a2⟩:=ssk.at1 (i:=i) (u:=dd (jS log l)[i]) (show i<2^log by omega) z7 rfl zm rfl rfl (by rw[oh,L];rfl);have z:=Z;rw[List.drop_eq_getElem_cons E]at z;unfold Ob at z;have hid:i<(xI log l).length:=oy
 rw[List.drop_eq_getElem_cons hid]at z;obtain⟨hc1,hc2⟩:=List.cons.inj z;have htk:(xI log l).take (i+1)=(xI log l).take i++[cel log (jS log l)[i] (nx (jS log l)[i])]:=by rw[List.take_add_one,oU hid,<-hc1];rfl
 clear z Z hc1 L;generalize (jS log l)[i]=s at y a2 hc2 htk;have hx1:=zAP y;have hxs:=hnx s;have hxf:=hf s;obtain⟨b1,b2,b3,b4,b5⟩:=Jd (log:=log) (x:=nx s) oy (by rw[Nat.pow_succ];omega);have e:zG ((i:Int)+1)=((i+1:Nat):Int):=by rw[zD oy oy];rfl
 have go:∀(F:H) (r:Int->Ui) (o2:O) (m:Tm),Vw zN h F (2+i) [(h1.nx,o2),(h.nx,.cells cs ⟨0,356+1,0⟩ true false)]->MapI F h1.nx r->r s=some (dd (nx s:Nat))->(∀s,r s=none/\nx s=wx l s\/r s=some (dd (nx s:Nat))) ->
   Has m [(20,dd i),(19,dd (2^log:Nat)),(18,vs),(9,.map h1.nx),(0,dd log),(8,.slice h.nx 0 i (.exact 512)),(1,.func (.func 276) [] [.ptr D 0]),(11,dd s)] ->
   ∀R:AX->St->Prop,(∀b p A G d,Vw zN h p (2+(i+1)) [(h1.nx,G),(h.nx,.cells d ⟨0,356+1,0⟩ true false)]->MapI p h1.nx A->RowE d 3 (i+1) 512 (xH ((xI log l).take (i+1)))->(∀j,A j=if j=s then some (dd (nx s+1:Nat)) else r j) ->
    Has b [(20,dd i),(19,dd (2^log:Nat)),(18,vs),(9,.map h1.nx),(0,dd log),(8,.slice h.nx 0 (i+1) (.exact 512)),(1,.func (.func 276) [] [.ptr D 0])]->R .normal ⟨64,b,[],p⟩) ->
   Wf Zh zDd ⟨64,m,[],F⟩ R:=by
  intro F r o2 m w2 m2 q _ n R hR;have hrt:h1.nx<T.top:=oy
  have tw2:=w2.top;have lk:ke zB 357 F (.map h1.nx) (dd s) false=some (dd (nx s:Nat)):=by rw[m2.look zJf rfl zm rfl zm rfl,q];rfl
  obtain⟨es,W,eu,mu⟩:=m2.upd (c:=zB) zJf rfl zm rfl hrt s (dd (nx s+1:Nat));have ex1:zG (((nx s:Nat):Int)+1)=((nx s+1:Nat):Int):=by rw[zD oy oy];rfl
  have M:=w2.upd 0 (o':=.map es W) rfl oy;refine wpS.av n zTW rfl rfl ⟨_,lk,_,lk,F.upd h1.nx (some (.map es W)),by rw[ex1];exact eu,?_⟩;have n3:(F.upd h1.nx (some (.map es W))).nx=F.nx:=rfl;generalize F.upd h1.nx (some (.map es W))=p at M mu n3 ⊢;refine zIn oy ⟨_,rfl,?_⟩;have eb:zG ((log:Int)-hi ((nx s:Nat):Int))=((wT log (nx s):Nat):Int):=by rw[zZL oy,zD oy oy];unfold wT;omega
  try dsimp only
  rw[eb];have e2p:2^(log+1)=2*2^log:=Nat.pow_succ';refine⟨((nx s*2^wT log (nx s):Nat):Int),by rw[zb oy];exact zz oy oy,((1*2^log:Nat):Int),by rw[zb oy];exact zz (a:=1) oy oy,?_⟩;have eba:zG (((nx s*2^wT log (nx s):Nat):Int)-((1*2^log:Nat):Int))=((O8 log (nx s):Nat):Int):=by rw[zD oy oy];unfold O8;omega
  rw[eba];obtain⟨v8,h9,e9,sl9,x9,_⟩:=jK (c:=zB) (h:=p) (u:=.agg (kf (cel log s (nx s)))) (ys:=kf (cel log s (nx s))) YO rfl Yv rfl rfl rfl rfl (oH rfl) rfl oy;have w9:=M.ext x9;have t9:=w9.top;obtain⟨h11,cs11,e11,N,w11,n11⟩:=w9.app (cx:=zB) 1 rfl row sl9 db YO rfl Yv rfl rfl oy rfl oy;refine⟨v8,h9,e9,trivial,_,h11,e11,n.on λb I=>hR b h11 (λj=>if j=s then some (dd (nx s+1:Nat)) else r j) _ cs11 (w11.more oy) (mu.mono ?_) ?_ (λ_=>rfl) (I.sub da)⟩
  .exact(w11.get 0 rfl).trans (M.get 0 rfl).symm
  rw[htk,O9];have:xH [cel log s (nx s)]=kf (cel log s (nx s)):=by simp[xH]
  rw[this];exact N
 have fin:∀(r:Int->Ui) (p:H) (A:Int->Ui) (G:O) (d:Cs) (b:Tm) (R:Ud),(∀s,r s=none/\nx s=wx l s\/r s=some (dd (nx s:Nat)))->Vw zN h p (2+(i+1)) [(h1.nx,G),(h.nx,.cells d ⟨0,356+1,0⟩ true false)]->MapI p h1.nx A->RowE d 3 (i+1) 512 (xH ((xI log l).take (i+1)))->(∀j,A j=if j=s then some (dd (nx s+1:Nat)) else r j) ->
   Has b [(20,dd i),(19,dd (2^log:Nat)),(18,vs),(9,.map h1.nx),(0,dd log),(8,.slice h.nx 0 (i+1) (.exact 512)),(1,.func (.func 276) [] [.ptr D 0])] ->
   (λe s1=>(thenC (λs1=>Wf Zh zDe s1 (zp Zh (thenC (λs1=>s1.n=64/\s1.dfr=[]/\∃j,j<2^log-i/\∃(i:Nat) (nx:Int->Nat) (f:Int->Ui) (o:O) (cs:Cs),i<=2^log/\j=2^log-i/\Vw zN h s1.heap (2+i) [(h1.nx,o),(h.nx,.cells cs ⟨0,356+1,0⟩ true false)]/\MapI s1.heap h1.nx f/\RowE cs 3 i 512 (xH ((xI log l).take i)) /\
  Ob log nx ((jS log l).drop i)=(xI log l).drop i/\(∀s,f s=none/\nx s=wx l s\/f s=some (dd (nx s:Nat)))/\(∀s,wx l s<=nx s/\nx s<=2^log+i) /\
  Has s1.tm [(20,dd i),(19,dd (2^log:Nat)),(18,vs),(9,.map h1.nx),(0,dd log),(8,.slice h.nx 0 i (.exact 512)),(1,.func (.func 276) [] [.ptr D 0])]) R))) (zp Zh (thenC (λs1=>s1.n=64/\s1.dfr=[]/\∃j,j<2^log-i/\∃(i:Nat) (nx:Int->Nat) (f:Int->Ui) (o:O) (cs:Cs),i<=2^log/\j=2^log-i/\Vw zN h s1.heap (2+i) [(h1.nx,o),(h.nx,.cells cs ⟨0,356+1,0⟩ true false)]/\MapI s1.heap h1.nx f/\RowE cs 3 i 512 (xH ((xI log l).take i)) /\
  Ob log nx ((jS log l).drop i)=(xI log l).drop i/\(∀s,f s=none/\nx s=wx l s\/f s=some (dd (nx s:Nat)))/\(∀s,wx l s<=nx s/\nx s<=2^log+i) /\
  Has s1.tm [(20,dd i),(19,dd (2^log:Nat)),(18,vs),(9,.map h1.nx),(0,dd log),(8,.slice h.nx 0 i (.exact 512)),(1,.func (.func 276) [] [.ptr D 0])]) R))) (exitB 1 e) s1) .normal ⟨64,b,[],p⟩:=by
  intro r p A G d b R q M m3 row3 hf3 I;refine thenC.nx (wpS.av I zTX rfl rfl (I.on λwH B=>B.slt λKm hs5=>⟨rfl,rfl,2^log-(i+1),oy,i+1,λj=>if j=s then nx s+1 else nx j,A,G,d,oy,rfl,M,m3,row3,hc2,λj=>?_,λj=>?_,?_⟩))
  .rw[hf3];by_cases c:j=s
   .right;simp only[if_pos c]
   simp only[if_neg c];exact q j
  .have:=hnx j;show wx l j<=(if j=s then nx s+1 else nx j)/\(if j=s then nx s+1 else nx j)<=_;by_cases c:j=s
   .subst c;rw[if_pos rfl];omega
   rw[if_neg c];omega
  rw[<-e];exact hs5.sub da
 refine⟨pb,po,a1,s,a2,?_⟩;have lk:=mp.look (c:=zB) (t:=357) zJf rfl zm rfl zm rfl s true;rcases hxf with⟨J,hn1⟩|J
 .rw[J]at lk;refine⟨0,false,lk,λc=>(by cases c),λ_=>?_⟩;show RF P zB 276 [dd s,.ptr D 0] h' _;refine zRN ((w.ex0.get _ hpd).trans hg) (sl.ext w.ex0) g.low y (zZm ?_);obtain⟨es,W,eu,mu⟩:=mp.upd (c:=zB) zJf rfl zm rfl (show h1.nx<T.top by omega) s (dd (wx l s:Nat));have M:=w.upd 0 (o':=.map es W) rfl oy;refine⟨_,eu,hs.on λm n=>?_⟩;have q:∀K,(λj=>if j=s then some (dd (wx l s:Nat)) else f j) K=none/\nx K=wx l K\/(λj=>if j=s then some (dd (wx l s:Nat)) else f j) K=some (dd (nx K:Nat)):=λK=>by
   by_cases c:K=s
   .subst c;right;simp only[if_true];rw[hn1]
   simp only[if_neg c];exact hf K
  refine go _ _ _ m M mu (by simp only[if_true];rw[hn1]) q (n.sub da) _ λb p A G d w4 m4 C U B=>?_
  exact fin _ p A G d b _ q w4 m4 C U B
 rw[J]at lk;refine⟨_,true,lk,λ_=>hs.on λm n=>?_,λc=>(by cases c)⟩;refine go _ _ _ m w mp J hf (n.sub da) _ λb p A G d w4 m4 C U B=>?_
 exact fin _ p A G d b _ hf w4 m4 C U B
theorem zE7{v:V}{log:Nat}{l:Ub}(sl:Sl h v 1 l.length (zV l))(g:GD log l)(r:h.nx+90<=T.top)(m:∀h' v',Ext h h' 80->Sl h' v' 3 (2^log) (xH (xI log l))->Q (.tuple [v',dd 0]) h'):RF P zB 214 [.agg [dd log,v]] h Q:=by
 refine yU z0v (wb sl ⟨oy,?_⟩);rintro p0 h1 rfl n;have b:=(Vw.nil (S:=zN) (h:=h)).new n oy;have s:=b.top;have s1:=sl.ext b.ex0;refine⟨_,_,b.ldA 0 rfl xO rfl,ZR s1 g ⟨0,rfl,λc=>absurd rfl c,λ_=>⟨_,_,b.ldA 0 rfl xO rfl,?_⟩⟩⟩;refine zGJ s1 g oy λo p d e=>⟨_,_,rfl,λc=>absurd rfl c,λ_=>?_⟩
 have a:=b.ext d;have q:=a.top;refine⟨_,a.ld1 0 rfl zm rfl,zE8 g (a.get 0 rfl) (a.lt 0 rfl) (sl.ext a.ex0) e oy λf i j k=>⟨_,rfl,?_⟩⟩;exact m f i ((a.ex0.trans j).mono oy) k
abbrev oSt(s:Ua)(left:Nat)(v:V)(log:Nat):O:=.cells (.ls [.str s,dd left,v,dd log]) ⟨0,195+1,0⟩ true false
theorem zDz{v:V}{e n:Nat}{xs:Ug}(sl:Sl h v e n xs){s:Ua}{left log:Int}{k:Cs->Prop}(a:k (.ls [.str s,dd left,v,dd log])):
  kh zB 195 (je zB 195 [(0,(.agg [(.str s),(dd left)])),(1,v),(2,(dd log))]) (λu=>ZN (cond (za (V.cells u)) (Cs.ofL (V.cells u)) none) k):=by
 have c:zBi zB 195=false:=da
 have h1:je zB 195 [(0,(.agg [(.str s),(dd left)])),(1,v),(2,(dd log))]=some (.agg [.str s,dd left,v,dd log]):=by
  obtain⟨_,⟨rfl,_⟩|⟨b,o,d,cs,k,w,op,rfl,_⟩⟩:=sl
  .kernel_rfl
  kernel_rfl
 unfold kh;rw[h1];simp only[c];obtain⟨_,⟨rfl,_⟩|⟨b,o,d,cs,k,w,op,rfl,_⟩⟩:=sl
 .exact a
 exact a
theorem zKe{v:V}{log:Nat}{l:Ub}{s:Ua}(sl:Sl h v 1 l.length (zV l))(g:GD log l)(hs:s.length<=2000)(G:h.nx+100<=T.top)(m:zf s<0->∀h',Ext h h' 2->Q (.tuple [.nilptr,dd 22]) h')(i:¬zf s<0->∀n h' v',Ext h n 90->Sl n v' 3 (2^log) (xH (xI log l))->Vw zN n h' 1 [(n.nx,oSt s (zf s).toNat v' log)]->Q (.tuple [.ptr n.nx 0,dd 0]) h'):
  RF P zB 140 [.agg [dd log,v],.str s] h Q:=by
 refine yU z0X (wb sl ⟨oy,?_⟩);rintro p0 h1 rfl C;have o:=(Vw.nil (S:=zN) (h:=h)).new C oy;have H:=o.top;have s1:=sl.ext o.ex0;refine⟨_,_,o.ldA 0 rfl xO rfl,ZR s1 g ⟨0,rfl,λc=>absurd rfl c,λ_=>zFq hs ?_⟩⟩;unfold rdB;by_cases c:zf s<0
 .rw[if_pos c];refine⟨_,_,_,rfl,oy,?_⟩;rintro t w rfl j;have b:=o.new j oy;have x:=b.top;obtain⟨d,k,a,y,_⟩:=b.st (cx:=zB) 0 (f:=0) (u:=.agg [.str [],dd 0]) rfl oy zw rfl;exact⟨d,k,λ_=>m c d a.ex0,λg=>absurd (show(22:Int)≠0 by decide) g⟩
 rw[if_neg c];refine⟨_,_,_,rfl,oy,?_⟩;rintro t w rfl j;have b:=o.new j oy;have x:=b.top;obtain⟨d,k,a,y,_⟩:=b.st (cx:=zB) 0 (f:=0) (u:=.agg [.str s,dd (zf s)]) rfl oy zw rfl;refine⟨d,k,λg=>absurd rfl g,λ_=>⟨_,_,a.ldA 1 rfl xO rfl,zE7 (sl.ext a.ex0) g (by have:=a.top;omega) λp v20 z q=>?_⟩⟩;have e:=a.ext z;have D:=e.top;refine⟨_,_,rfl,_,_,e.ldA 0 rfl zw rfl,_,e.ld1 1 rfl zm rfl,zDz q ⟨oy,?_⟩⟩;rintro E A rfl B;have F:zf s=((zf s).toNat:Nat):=oy
 have r:=(Vw.nil (S:=zN) (h:=p)).new B oy;rw[F]at r;exact i c p A v20 (e.ex0.mono oy) q r
theorem XE{p o:Nat}{k:Uc}:zP zB 195 0 h (.ptr p o) k=k (.ptr p (o+0)) h:=da
theorem On{p o:Nat}{k:Uc}:zP zB 195 1 h (.ptr p o) k=k (.ptr p (o+2)) h:=da
theorem Xc{p o:Nat}{k:Uc}:zP zB 120 1 h (.ptr p o) k=k (.ptr p (o+1)) h:=da
theorem Yt{s:Ua}{p left log n:Nat}{v:V}(y:h.get p=some (oSt s left v log))(z:p<h.nx)(hs:s.length<=2000)(hl:(left:Int)<=zf s)(hm:n<=32)(B:h.nx+1<=T.top)(l:n<=left->∀h',ExtX (· = p) h h' 1->h'.get p=some (oSt s (left-n) v log)->Q (.tuple [dd (yI s left n:Nat),.bool true]) h')(m:¬n<=left->∀h',ExtX (· = p) h h' 1->h'.get p=some (oSt s left v log)->Q (.tuple [dd 0,.bool false]) h'):RF P zB 141 [.ptr p 0,dd n] h Q:=by
 have w:=Vw.one (S:=(· = p)) y z rfl;refine yU z0Y ⟨.ptr p 0,h,rfl,?_⟩;try dsimp only
 rw[XE];refine⟨_,_,w.ldA 0 rfl zw rfl,zGT hs hl hm ?_⟩;have hb:=jX s left n;have x:2^n<=2^32:=Nat.pow_le_pow_right db hm;unfold tkB;by_cases c:n<=left
 .rw[if_pos c];refine⟨_,_,_,_,rfl,oy,?_⟩;rintro p12 o rfl e;have a:=w.new e oy;have q:=a.top;obtain⟨b,i,d,r,_⟩:=a.st (cx:=zB) 0 (f:=0) (u:=.agg [.str s,dd ((left-n:Nat):Int)]) rfl oy zw rfl;refine⟨b,i,λg=>absurd rfl g,λ_=>⟨_,_,d.ldA 0 rfl zw rfl,.ptr p 0,b,rfl,?_⟩⟩;try dsimp only
  rw[XE];obtain⟨j,t,k,A,_⟩:=d.st (cx:=zB) 1 (f:=0) (u:=.agg [.str s,dd ((left-n:Nat):Int)]) rfl oy zw rfl;refine⟨j,t,?_⟩;try dsimp only
  rw[zD oy oy];exact l c j k.ex (k.get 1 rfl)
 rw[if_neg c];refine⟨_,_,_,_,rfl,oy,?_⟩;rintro p12 o rfl e;have a:=w.new e oy;have q:=a.top;obtain⟨b,i,d,r,_⟩:=a.st (cx:=zB) 0 (f:=0) (u:=.agg [.str [],dd 0]) rfl oy zw rfl;exact⟨b,i,λ_=>m c b d.ex (d.get 1 rfl),λg=>absurd (show(5:Int)≠0 by decide) g⟩
theorem _root_.Go.Sim.Sl.atA{cx:Ctx}{v:V}{esz n i:Nat}{xs ys:Ug}(s:Sl h v esz n xs)(hi:i<n){t e:Nat}{ti te:TI}(q:cx.ty.get t=some ti)(r:ti.desc = .slice e)(m:cx.ty.get e=some te)(hs:te.size=esz)(x:jk te.desc=true)(h0:0<esz)(y:ys.length=esz)(z:∀j,j<esz->xs[i*esz+j]? = ys[j]?):
  ∃b o,yo cx t v (dd i)=some (.ptr b o)/\zo cx e h (.ptr b o)=some (.agg ys)/\∀f d u,cx.ty.get f=some d->jk d.desc=false->∀j,j<esz->ys[j]? = some u->zo cx f h (.ptr b (o+j))=some u:=by
 obtain⟨b,o,h1,cs,k,w,op,p,A⟩:=s.at hi q r m hs;have a:∀j,j<esz->cs.get? (o+j)=ys[j]?:=λj c=>(A j c).trans (z j c)
 refine⟨b,o,h1,zO m x p (by rw[hs];exact Cs.range_is h0 y a),λf d u B g j c l=>zK B g p ?_⟩;try dsimp only
 rw[a j c,l]
abbrev Yq(x y:Int):O:=.cells (.ls [dd x,dd y]) ⟨0,126+1,0⟩ true false
theorem wc{p k:Nat}(a:k<2):yo zB 126 (.ptr p 0) (dd k)=some (.ptr p k):=by
 rcases k with _|_|k
 .kernel_rfl
 .kernel_rfl
 omega
def qw(i a b:Nat):Nat×Nat:=if i % 2=0 then (a,b) else (b,a)
theorem zMA(i a b x:Nat):qw (i+1) b x=if i % 2=0 then (x,(qw i a b).2) else ((qw i a b).1,x):=by
 unfold qw;by_cases c:i % 2=0
 .rw[if_neg oy,if_pos c,if_pos c]
 rw[if_pos oy,if_neg c,if_neg c]
theorem we(x:Int)(a:h.nx<T.top):∃v h',zJ zB 23 1 [(0,dd x)] h=some (v,h')/\Sl h' v 1 1 [dd x]/\Ext h h' 1:=by obtain⟨v,h',e,s,x,_⟩:=jK (c:=zB) (h:=h) (u:=dd x) (ys:=[dd x]) z7 rfl zm rfl rfl rfl rfl (oH rfl) rfl a;exact⟨v,h',e,s,x⟩
theorem _root_.Go.Sim.Sep.more{S:Nat->Prop}{c:Nat}{l:List (Nat×O)}{v:V}(s:Sep S c l v){p:Nat}{o:O}(h:∀b,yG v=some b->b<p):Sep S c ((p,o)::l) v:=λb hb=>⟨(s b hb).1,λq a=>by
 rcases oq.1 a with rfl|a
 .exact Nat.ne_of_gt (h b hb)
 exact(s b hb).2 q a⟩
theorem _root_.Go.Sim.Sep.less{S:Nat->Prop}{c:Nat}{l l':List (Nat×O)}{v:V}(s:Sep S c l v)(h:∀q∈l',∃a∈l,a.1=q.1):Sep S c l' v:=λb hb=>⟨(s b hb).1,λq d=>by
 obtain⟨a,h1,e⟩:=h q d;rw[<-e];exact(s b hb).2 a h1⟩
structure TwI (hb h:H) (c p9 ps:Nat) (s:Ua) (v8:V) (log left i a b:Nat) (v:V) (out:Ub):Prop where
 vw:Vw zN hb h c [(p9,Yq (qw i a b).1 (qw i a b).2),(ps,oSt s left v8 log)]
 ow:Ow h v yn out.length (zV out)
 sp:Sep zN hb.nx [(p9,Yq (qw i a b).1 (qw i a b).2),(ps,oSt s left v8 log)] v
theorem YU{cs:List Cl}{a:Nat}{c:Cl}(h:cs[a]? = some c){d:H}{v:V}{n:Nat}(sl:Sl d v 3 n (xH cs))(e:a<n):
  ∃b o,yo zB 123 v (dd a)=some (.ptr b o)/\zo zB 131 d (.ptr b o)=some (.agg (kf c))/\zo zB 3 d (.ptr b (o+0))=some (dd c.1):=by
 obtain⟨b,o,h1,f,g⟩:=sl.atA (cx:=zB) (i:=a) e YO rfl Yv rfl rfl db (ys:=kf c) rfl (Oa h);exact⟨b,o,h1,f,g _ _ _ zm rfl 0 db rfl⟩
theorem zI4(i a b:Nat):(Cs.ls [dd ((qw i a b).1:Nat),dd ((qw i a b).2:Nat)]).get? (i % 2)=some (dd a):=by
 unfold qw;by_cases c:i % 2=0
 .rw[c,if_pos rfl];rfl
 have:i % 2=1:=oy
 rw[this,if_neg db];rfl
theorem zI5(i a b:Nat):(Cs.ls [dd ((qw i a b).1:Nat),dd ((qw i a b).2:Nat)]).get? (1-i % 2)=some (dd b):=by
 unfold qw;by_cases c:i % 2=0
 .rw[c,if_pos rfl];rfl
 have:i % 2=1:=oy
 rw[this,if_neg db];rfl
theorem zI6(i a b x:Nat):(Cs.ls [dd ((qw i a b).1:Nat),dd ((qw i a b).2:Nat)]).put (i % 2) [dd x]=some (Cs.ls [dd ((qw (i+1) b x).1:Nat),dd ((qw (i+1) b x).2:Nat)]):=by
 rw[zMA];by_cases c:i % 2=0
 .rw[c,if_pos rfl];rfl
 have:i % 2=1:=oy
 rw[this,if_neg db];rfl
theorem Z7{n:Nat}(h:n<9223372036854775808):zG (n:Int)=n:=zD oy oy
theorem zIH{hb h:H}{c0 p9 ps:Nat}{s:Ua}{v8:V}{log left a b:Nat}{l:Ub}{tm:Tm}{R:Ud}(g:GD log l)(hs:s.length<=2000)(X:Sl hb v8 3 (2^log) (xH (xI log l)))(hl:(left:Int)<=zf s)(N:a<2^log/\b<2^log)(I:TwI hb h c0 p9 ps s v8 log left 0 a b .nilslice [])(hn:hb.nx+c0+1100<=T.top)(hlow:hb.low<=T.top)(ht:Has tm [(6,.ptr ps 0),(13,dd 0),(8,.ptr p9 0),(12,.nilslice)])(hex:∀r h' t i' a' D v' p,TwI hb h' (c0+1100) p9 ps s v8 log t i' a' D v' p->(255<p.length\/0<t->two (xI log l) s 255 left a b []=none)->(¬(255<p.length\/0<t)->two (xI log l) s 255 left a b []=some p) ->
   p.length<=300->Has r [(6,.ptr ps 0),(12,v')]->R (.exit 2) ⟨105,r,[],h'⟩):wpC P zB false (.loop zN1) ⟨105,tm,[],h⟩ R:=by
 generalize x:two (xI log l) s 255 left a b []=R0 at hex;have hpw:=yy g.lg;have hlg:=g.lg;have hbz:=wS s;refine wpC.round (λk tm h=>∃(i f left a b:Nat) (v:V) (out:Ub),k=256-i/\i+f=255/\out.length=i/\(left:Int)<=zf s/\a<2^log/\b<2^log/\TwI hb h (c0+4*i) p9 ps s v8 log left i a b v out/\two (xI log l) s f left a b out=R0 /\
  Has tm [(6,.ptr ps 0),(13,dd i),(8,.ptr p9 0),(12,v)]) 256 ⟨0,255,left,a,b,.nilslice,[],rfl,rfl,rfl,hl,N.1,N.2,I,x,ht.sub da⟩ ?_
 clear I ht x hl N;rintro k tm h ⟨i,f,left,a,b,v,out,rfl,hif,hol,hl,ha,O,I,x,K⟩;obtain⟨w,ow,sp⟩:=I;have tw:=w.top;have lw:=w.low;have hle:=w.le;have Y:i % 2<2:=Nat.mod_lt _ db;obtain⟨c,Z⟩:∃c,(xI log l)[a]? = some c:=⟨_,oU (by rw[ZA];exact ha)⟩;have hcm:=List.mem_of_getElem? Z;obtain⟨_,hcb,hcs⟩:=XD g c hcm;have hsym:=Xb g hcm;obtain⟨b1,o1,a1,a2,_⟩:=YU Z (X.ext w.ex0) ha;have e13:Int.tmod (i:Int) 2=((i % 2:Nat):Int):=rfl;have ei:zG ((i:Int)+1)=((i+1:Nat):Int):=by rw[zD oy oy];rfl
 have L:=xg (h:=h) oy oy;refine wpC.av K zXB rfl rfl ⟨⟨oy,oy⟩,.ptr ps 0,zX h,rfl,L.1,?_⟩;intro h2 e2;rw[L.2]at e2;subst h2;try dsimp only
 rw[On,e13];refine⟨v8,w.ld1 1 rfl YO rfl,db,p9,i % 2,wc Y,a,w.ld1 0 rfl zm (zI4 i a b),b1,o1,a1,_,_,_,a2,oy,?_⟩;rintro p14 h15 rfl e15;obtain⟨_,x15,_⟩:=zq e15;have w15:=w.new e15 oy;have t15:=w15.top;obtain⟨S,e16,w16,n16,k16⟩:=w15.st (cx:=zB) 0 (f:=0) (u:=.agg (kf c)) rfl oy Yv rfl;have ow16:=(ow.ext x15).keep (h':=S) oy λD e=>k16 D (by have:=ow.blk e;omega)
 have sp16:Sep zN hb.nx [(h.nx,.cells (.ls (kf c)) ⟨0,131+1,0⟩ true false),(p9,Yq (qw i a b).1 (qw i a b).2),(ps,oSt s left v8 log)] v:=sp.more λD e=>ow.blk e
 obtain⟨v18,h19,e19,sl19,x19⟩:=we (h:=S) c.1 oy;have w19:=w16.ext x19;have t19:=w19.top;obtain⟨v20,h21,e21,A⟩:=Ow.append (c:=zB) (te:=yn) (m:=1) (ow16.ext x19) sl19 db z7 rfl zm rfl rfl (by show(out.length+1)*1<=_;omega) (by show(out.length+1)*8<=_;omega) oy;obtain⟨B,z,o⟩:=w19.grow (k:=(out++[c.1]).length) (xs:=zV (out++[c.1])) sp16 (by rw[xQ,oe];exact A);have t21:=B.top;refine⟨S,e16,_,w16.ld1 0 rfl zm rfl,v18,h19,e19,trivial,v20,h21,e21,_,B.ld1 0 rfl zm rfl,?_⟩;refine Yt (n:=c.2.1) (B.get 2 rfl) (B.lt 2 rfl) hs hl oy oy (λc1 C y U=>?_) (λc1 C y U=>?_)
 · -- bits enough
  have j:=B.extX 2 rfl y U;have t24:=j.top;have E:=z.keep (h':=C) y.le λD e=>y.get _ (z.blk e) λq=>(o D e).2 _ (oN _ (oN _ (List.mem_cons_self ..))) q.symm
  have hbn:=jX s left c.2.1;have ex:zG (((c.2.2:Nat):Int)+((yI s left c.2.1:Nat):Int))=((c.2.2+yI s left c.2.1:Nat):Int):=Z7 (n:=c.2.2+yI s left c.2.1) oy;obtain⟨W,e30,w30,n30,k30⟩:=j.st (cx:=zB) 1 (f:=i % 2) (u:=dd (c.2.2+yI s left c.2.1:Nat)) rfl oy zm (zI6 i a b _);have F:=E.keep (h':=W) oy λD e=>k30 D λq=>(o D e).2 _ (oN _ (List.mem_cons_self ..)) q.symm
  refine⟨_,true,rfl,λ_=>⟨db,_,j.ld1 0 rfl zm rfl,p9,i % 2,wc Y,W,by rw[ex];exact e30,_,F.sl.len z7 rfl,λc2=>?_,λc2=>?_⟩,λg=>(by cases g)⟩
  .have hf0:f=0:=by rw[oe]at c2;simp at c2;omega
   subst hf0;have hn:R0=none:=x.symm;refine K.on λr G=>hex r W (left-c.2.1) (i+1) b (c.2.2+yI s left c.2.1) v20 (out++[c.1]) ⟨(w30.drop 1).more oy,F,?_⟩ (λ_=>hn) (λq=>absurd (.inl oy) q) (by rw[oe];simp;omega) (G.sub da)
   exact o.less λq M=>by
    simp only[oq,List.not_mem_nil,or_false]at M;rcases M with rfl|rfl
    .exact⟨_,oN _ (List.mem_cons_self ..),rfl⟩
    exact⟨_,oN _ (oN _ (List.mem_cons_self ..)),rfl⟩
  obtain⟨f,rfl⟩:∃f',f=f'+1:=⟨f-1,by rw[oe]at c2;simp at c2;omega⟩
  refine K.on λr G=>⟨rfl,rfl,256-(i+1),oy,i+1,f,left-c.2.1,b,c.2.2+yI s left c.2.1,v20,out++[c.1],rfl,oy,by rw[oe];simp;omega,oy,O,oy,⟨(w30.drop 1).more oy,F,?_⟩,?_,?_⟩
  .exact o.less λq M=>by
    simp only[oq,List.not_mem_nil,or_false]at M;rcases M with rfl|rfl
    .exact⟨_,oN _ (List.mem_cons_self ..),rfl⟩
    exact⟨_,oN _ (oN _ (List.mem_cons_self ..)),rfl⟩
  .rw[<-x]
   conv=>rhs;unfold two
   rw[Z];simp only;rw[if_neg oy]
  rw[<-ei];exact G.sub da
 -- too few bits
 have j:=B.extX 2 rfl y U;have t24:=j.top;have l24:=j.low;have E:=z.keep (h':=C) y.le λD e=>y.get _ (z.blk e) λq=>(o D e).2 _ (oN _ (oN _ (List.mem_cons_self ..))) q.symm
 have J:=xg (h:=C) oy oy;obtain⟨d,hd⟩:∃d,(xI log l)[b]? = some d:=⟨_,oU (by rw[ZA];exact O)⟩;obtain⟨b3,o3,a3,_,a5⟩:=YU hd (X.ext j.ex0) O;have e1m:zG (1-((i % 2:Nat):Int))=((1-i % 2:Nat):Int):=by rw[zD oy oy];omega
 refine⟨_,false,rfl,λg=>(by cases g),λ_=>⟨⟨oy,oy⟩,.ptr ps 0,zX C,rfl,J.1,?_⟩⟩;intro h34 e34;rw[J.2]at e34;subst h34;try dsimp only
 rw[On,e1m];obtain⟨v44,h45,e45,sl45,x45⟩:=we (h:=C) d.1 oy;have w45:=j.ext x45;have t45:=w45.top;obtain⟨v46,h47,e47,A2⟩:=Ow.append (c:=zB) (te:=yn) (m:=1) (E.ext x45) sl45 db z7 rfl zm rfl rfl (by rw[oe];show(out.length+1+1)*1<=_;omega) (by rw[oe];show(out.length+1+1)*8<=_;omega) oy;obtain⟨w47,ow47,sp47⟩:=w45.grow (k:=(out++[c.1,d.1]).length) (xs:=zV (out++[c.1,d.1])) o (by
  have e1:out++[c.1,d.1]=(out++[c.1])++[d.1]:=by simp
  rw[e1,xQ,oe];exact A2)
 have hol2:(out++[c.1,d.1]).length=i+2:=by rw[oe];simp;omega
 refine⟨v8,j.ld1 2 rfl YO rfl,db,p9,1-i % 2,wc oy,b,j.ld1 1 rfl zm (zI5 i a b),b3,o3,a3,d.1,a5,v44,h45,e45,trivial,v46,h47,e47,?_⟩;refine K.on λr G=>hex r h47 left i a b v46 (out++[c.1,d.1]) ⟨(w47.drop 1).more oy,ow47,?_⟩ (λq=>?_) (λq=>?_) oy (G.sub da)
 .exact sp47.less λq M=>by
   simp only[oq,List.not_mem_nil,or_false]at M;rcases M with rfl|rfl
   .exact⟨_,oN _ (List.mem_cons_self ..),rfl⟩
   exact⟨_,oN _ (oN _ (List.mem_cons_self ..)),rfl⟩
 .rw[<-x];rcases f with _|f
  .rfl
  unfold two;rw[Z];simp only;rw[if_pos oy,if_pos oy]
 rw[<-x];rcases f with _|f
 .exact absurd (.inl oy) q
 unfold two;rw[Z];simp only;rw[if_pos oy,if_neg oy,hd]
theorem zHo{v:V}{log:Nat}{l:Ub}{s:Ua}(sl:Sl h v 1 l.length (zV l))(g:GD log l)(hs:s.length<=2000)(hn:h.nx+1300<=T.top)(hlow:h.low<=T.top)(hq:∀h' v',Ext h h' 1250->Ow h' v' yn (xW log l s).2.length (zV (xW log l s).2)->(∀b,yG v'=some b->h.nx<=b)->Q (.tuple [v',dd (xW log l s).1]) h'):RF P zB 81 [.agg [dd log,v],.str s] h Q:=by
 have hpw:=yy g.lg;have hlg:=g.lg;have hbz:=wS s;have z:∀e,xW log l s=(e,[])->∀h',Ext h h' 1250->Q (.tuple [.nilslice,dd e]) h':=λe he h' x=>by have:=hq h' .nilslice x;rw[he]at this;exact this (Ow.nil _ _) λb hb=>(by cases hb)
 refine yU z4S (wb sl ⟨oy,?_⟩);rintro p0 h1 rfl e1;have D:=(Vw.nil (S:=zN) (h:=h)).new e1 oy;have t1:=D.top;refine⟨_,_,D.ldA 0 rfl xO rfl,zKe (sl.ext D.ex0) g hs oy (λc A x6=>?_) (λc r A v8 Z s8 w6=>?_)⟩
 .refine⟨_,_,rfl,λ_=>z 22 ?_ A ((D.ex0.trans x6).mono oy),λq=>absurd (show(22:Int)≠0 by decide) q⟩;unfold xW;rw[if_pos c]
 have p:Ext h r 91:=(D.ex0.trans Z).mono oy;have g0:r.get h.nx=some (oD log v):=(Z.get _ (D.lt 0 rfl)).trans (D.get 0 rfl);have l0:h.nx<r.nx:=oO (D.lt 0 rfl) Z.le;have t4:=p.top;have t6:=w6.top;have lo4:=p.low;obtain⟨B,hB⟩:∃B:Nat,zf s=B:=⟨(zf s).toNat,oy⟩;have t:xW log l s=if zf s<log then ((21:Int),[]) else if zf s<2*log then (21,[]) else match two (xI log l) s 255 (B-log-log) (yI s B log) (yI s (B-log) log) []with
   | none=>((21:Int),[])
   | some out=>((0:Int),out):=by
  conv=>lhs;unfold xW
  rw[if_neg c,hB,ol];try rfl
 rw[hB,ol]at w6;refine⟨_,_,rfl,λq=>absurd rfl q,λ_=>⟨oy,?_⟩⟩;rintro p9 h10 rfl K;have E:=w6.new K oy;have t10:=E.top;refine Has.nil.on λtm m=>?_
 refine wpC.round (λk tm h'=>∃j:Nat,j<=2/\k=2-j/\j*log<=B/\Vw zN r h' (2+j) [(A.nx,Yq (if 0<j then ((yI s B log:Nat):Int) else 0) (if 1<j then ((yI s (B-log) log:Nat):Int) else 0)),(r.nx,oSt s (B-j*log) v8 log)] /\
  Has tm [(26,dd j),(6,.ptr r.nx 0),(2,.ptr h.nx 0),(8,.ptr A.nx 0)]) 2 ⟨0,oy,rfl,oy,by rw[Nat.zero_mul];exact E,m.sub da⟩ ?_
 clear m E t10 K tm;rintro k tm h' ⟨j,hj2,rfl,hjl,w,m⟩;have tw:=w.top;refine wpC.av m zXA rfl rfl ⟨λc1=>?_,λc1=>m.on λF d=>?_⟩
 .try dsimp only
  rw[wU];refine⟨_,zK zm rfl ((w.ex0.get _ l0).trans g0) rfl,Yt (n:=log) (w.get 1 rfl) (w.lt 1 rfl) hs oy oy oy (λc2 L G H=>?_) (λc2 L G H=>?_)⟩
  .have J:=w.extX 1 rfl G H;have t2:=J.top;have ej:zG ((j:Int)+1)=((j+1:Nat):Int):=by rw[zD oy oy];rfl
   have e2:B-j*log-log=B-(j+1)*log:=by rw[Nat.add_mul];omega
   rw[e2]at J;have M:j=0\/j=1:=oy
   rcases M with rfl|rfl
   .obtain⟨h9,N,O,n9,_⟩:=J.st (cx:=zB) 0 (f:=0) (u:=dd (yI s (B-0*log) log:Nat)) rfl oy zm rfl;rw[Nat.zero_mul]at O N ⊢;refine⟨_,true,rfl,λ_=>⟨A.nx,0,wc (k:=0) db,h9,N,m.on λF d=>⟨rfl,rfl,1,oy,1,oy,rfl,oy,O,?_⟩⟩,λq=>(by cases q)⟩;have q:=d.sub (l':=[(26,dd (zG (((0:Nat):Int)+1))),(6,.ptr r.nx 0),(2,.ptr h.nx 0),(8,.ptr A.nx 0)]) da;rw[ej]at q;exact q
   obtain⟨h9,N,O,n9,_⟩:=J.st (cx:=zB) 0 (f:=1) (u:=dd (yI s (B-1*log) log:Nat)) rfl oy zm rfl;rw[Nat.one_mul]at O N ⊢;refine⟨_,true,rfl,λ_=>⟨A.nx,1,wc (k:=1) db,h9,N,m.on λF d=>⟨rfl,rfl,0,oy,2,oy,rfl,oy,O,?_⟩⟩,λq=>(by cases q)⟩;have q:=d.sub (l':=[(26,dd (zG (((1:Nat):Int)+1))),(6,.ptr r.nx 0),(2,.ptr h.nx 0),(8,.ptr A.nx 0)]) da;rw[ej]at q;exact q
  have J:=w.extX 1 rfl G H;refine⟨_,false,rfl,λq=>(by cases q),λ_=>m.on λF d=>thenC.rt (thenC.rt (endW.r2 (d.get rfl) (d.get rfl) (z 21 ?_ L ((p.trans J.ex0).mono oy))))⟩;rw[t];have M:j=0\/j=1:=oy
  rcases M with rfl|rfl
  .rw[if_pos oy]
  rw[if_neg oy,if_pos oy]
 have M:j=2:=oy
 subst M;rw[if_neg oy,if_neg oy]at t;have e2:B-2*log=B-log-log:=oy
 rw[e2]at w;have hb1:=jX s B log;have hb2:=jX s (B-log) log;refine thenC.left (wpS.av d zXr rfl rfl (d.on λtm2 hs2=>?_));have I:TwI r h' 4 A.nx r.nx s v8 log (B-log-log) 0 (yI s B log) (yI s (B-log) log) .nilslice []:=⟨w,Ow.nil _ _,λb hb=>(by cases hb)⟩
 refine zIH g hs s8 oy ⟨hb1,hb2⟩ I oy oy (hs2.sub da) λtm3 Y left i a b v' out I3 R U hlen C=>?_
 obtain⟨W,X,sp3⟩:=I3;have t3:=W.top;refine thenC.out (wpS.av C zXq rfl rfl ⟨_,X.sl.len z7 rfl,λc2=>?_,λc2=>⟨.ptr r.nx 0,Y,rfl,?_⟩⟩)
 .refine C.on λwH y=>y.slt λKm o=>endW.r2 (o.get rfl) (o.get rfl) (z 21 ?_ Y ((p.trans W.ex0).mono oy))
  rw[t,R (.inl oy)]
 try dsimp only
 rw[XE,Xc];refine⟨_,W.ld1 1 rfl zm rfl,λc3=>?_,λc3=>?_⟩
 .refine C.on λwH y=>y.slt λKm o=>endW.r2 (o.get rfl) (o.get rfl) (z 21 ?_ Y ((p.trans W.ex0).mono oy))
  rw[t,R (.inr oy)]
 refine C.on λwH y=>y.slt λKm o=>endW.r2 (o.get rfl) (o.get rfl) ?_
 have:=hq Y v' ((p.trans W.ex0).mono oy);rw[t,U oy]at this;exact this X λb hb=>by
  rcases(sp3 b hb).1 with q|q
  .exact q.elim
  omega
section
variable {cx:Ctx}
theorem zI7(n:Nat):yj (n:Int)=some n:=rfl
theorem _root_.Go.Sim.Ow.full{h:H}{v:V}{te ti:TI}{n t e:Nat}{xs:Ug}(s:Ow h v te n xs)(p:0<n)(c:cx.ty.get t=some ti)(d:ti.desc = .slice e)(f:cx.ty.get e=some te)(h0:0<te.size):
  ∃b,zy cx t h v none (some (dd (n:Nat))) (some (dd (n:Nat)))=some (.slice b 0 n (.exact n))/\yG v=some b/\Sl h (.slice b 0 n (.exact n)) te.size n xs:=by
 obtain⟨h1,⟨rfl,q⟩|⟨b,cs,rfl,hb,a,r,hl,g⟩⟩:=s
 .omega
 refine⟨b,?_,rfl,h1,.inr ⟨b,0,_,cs,_,_,_,rfl,hb,a,λi hi=>by rw[Nat.zero_add];exact g i hi⟩⟩;unfold zy;simp only[c,d,f,a];have j:Nat.beq (jC te).n te.size=true:=Nat.beq_refl _;have k:Nat.blt 0 (jC te).n=true:=(zY _ _).2 h0;have l:Nat.beq 0 (0*(jC te).n)=true:=by rw[Nat.zero_mul];rfl
 have m:Nat.ble (n*(jC te).n) cs.len=true:=oG (by rw[hl];exact oV _);have o:Nat.ble n n=true:=oG (oV _);simp only[j,k,m,Bool.and_self,oS,Option.isNone_some,oT,Go.Sim.bnd,zI7,o,Nat.zero_mul,Nat.zero_add,Nat.sub_zero];cases Nat.beq n 0<;>rfl
theorem _root_.Go.Sim.Sl.appFull{h:H}{x:V}{te ti:TI}{b n m t e:Nat}{xs ys:Ug}(s:Sl h (.slice b 0 n (.exact n)) te.size n xs)(p:0<n)(g:Sl h x te.size m ys)(hm:0<m)(y:cx.ty.get t=some ti)(z:ti.desc = .slice e)(A:cx.ty.get e=some te)(a:qn te=true)(B:za ys=true)(C:(n+m)*te.size<=262143)(q:(n+m)*te.bytes<=1099511627776)(r:h.nx<T.top):
  ∃v' h',zn cx t h (.slice b 0 n (.exact n)) x=some (v',h')/\Ow h' v' te (n+m) (xs++ys)/\Ext h h' 1/\yG v'=some h.nx:=by
 have f:0<te.size:=by unfold qn at a;simp only[oM]at a;exact(zY _ _).1 a.1.1
 have u:zn cx t h (.slice b 0 n (.exact n)) x=Go.Sim.appTo te h m ys (.slice b 0 n (.exact n)):=by unfold zn;rw[y];simp only[z,A,a,oS,g.src f hm]
 have c:(n+m)*te.size=n*te.size+m*te.size:=Nat.add_mul _ _ _;obtain⟨j,⟨v,_⟩|⟨L,o,M,cs,k,w,op,v,hb,D,E⟩⟩:=s
 .cases v
 cases v;obtain⟨d,h1,F⟩:=Cs.ofL_some (l:=xs++ys) (by rw[oe,j,g.1];omega);obtain⟨G,I⟩:=Cs.ofL_eq h1;refine⟨.slice h.nx 0 (n+m) (.skip 0),h.new (.cells d (jC te) true true),?_,⟨by rw[oe,j,g.1,c],.inr ⟨h.nx,d,rfl,by rw[z8];omega,zM _ r,F,by rw[G,oe,j,g.1,c],λi _=>I i⟩⟩,Ext.new _ r,rfl⟩;rw[u];unfold Go.Sim.appTo;simp only[D];unfold qv;have J:Nat.ble (n+m) n=false:=by
  rcases hb:Nat.ble (n+m) n with _|_
  .rfl
  have:=oH hb;omega
 rw[J,oT];have K:zCx cs 0 (n*te.size) ys=some d:=by unfold zCx;rw[Cs.range_is (Nat.mul_pos p f) j (λi hi=>E i hi)];simp only[B,oS,h1]
 rw[K];exact ky q r
end
theorem zIA{p n:Nat}(a:n<=256):zy zB 206 h (.ptr p 0) none (some (dd (n:Nat))) (some (dd (n:Nat)))=some (.slice p 0 n (.exact n)):=by unfold zy;have b:Nat.ble n n=true:=oG (oV _);have c:Nat.ble n 256=true:=oG a;simp only[z0D,zm,Go.Sim.bnd,zI7,b,c,oS,Option.isNone_some,Bool.and_false,oT,Nat.zero_mul,Nat.zero_add,Nat.sub_zero];cases Nat.beq n 0<;>rfl
theorem zHq:∃cs,cond (za (V.cells (.agg (List.replicate 256 (dd (0:Int)))))) (Cs.ofL (V.cells (.agg (List.replicate 256 (dd (0:Int)))))) none=some cs/\Row cs 256 (zV (List.replicate 256 0)):=by
 obtain⟨cs,h1,a⟩:=Cs.ofL_some (l:=List.replicate 256 (dd (0:Int))) (by rw[List.length_replicate];decide);obtain⟨b,c⟩:=Cs.ofL_eq h1;have d:V.cells (.agg (List.replicate 256 (dd (0:Int))))=List.replicate 256 (dd (0:Int)):=da
 have e:za (List.replicate 256 (dd (0:Int)))=true:=da
 refine⟨cs,by rw[d,e,oS,h1],a,by rw[b,List.length_replicate],by rw[YZ,List.length_replicate],λi _=>by rw[c,YZ]⟩
theorem zR2{l:Ub}{i n:Nat}(hl:l.length=i)(hi:i<n)(y:Int):(l++List.replicate (n-i) 0).set i y=(l++[y])++List.replicate (n-(i+1)) 0:=by obtain⟨k,a⟩:∃k,n-i=k+1:=⟨n-i-1,oy⟩;rw[a,show n-(i+1)=k by omega,List.replicate_succ,List.set_append_right i y oy,hl,Nat.sub_self];simp
theorem zP0{l:Ub}{i n:Nat}(hi:i<n):l++List.replicate (n-i) 0=(l++[0])++List.replicate (n-(i+1)) 0:=by obtain⟨k,a⟩:∃k,n-i=k+1:=⟨n-i-1,oy⟩;rw[a,show n-(i+1)=k by omega,List.replicate_succ];simp
theorem zLO{v:V}{l:Ub}{m:Nat}(sl:Sl h v 1 l.length (zV l))(hl:l.length<=256)(D:∀x∈l,-1000000<=x/\x<=1000000)(hm:m<=1000000)(M:h.nx+1<=T.top)(E:∀h' v',Ext h h' 1->Sl h' v' 1 l.length (zV (J3 m l))->(∃b cs k op,v' = .slice b 0 l.length (.exact l.length)/\h.nx<=b/\h'.get b=some (.cells cs k true op))->Q v' h'):RF P zB 91 [v,dd m] h Q:=by
 obtain⟨s,F,p⟩:=zHq;refine yU z42 (zCf F ⟨oy,?_⟩);rintro p0 h1 rfl B;have r:=(Vw.nil (S:=zN) (h:=h)).new B oy;have G:=r.top;have s1:=sl.ext r.ex0;refine⟨_,s1.len z7 rfl,_,s1.len z7 rfl,_,zIA hl,_,s1.len z7 rfl,Has.nil.on λtm hs=>?_⟩;refine wpC.round (λk tm h'=>∃(i:Nat) (cs:Cs),i<=l.length/\k=l.length-i/\Vw zN h h' 1 [(h.nx,.cells cs ⟨0,206+1,0⟩ true false)]/\Row cs 256 (zV (J3 m (l.take i)++List.replicate (256-i) 0)) /\
  Has tm [(16,dd i),(15,dd l.length),(14,v),(6,.slice h.nx 0 l.length (.exact l.length)),(1,dd m)]) l.length ⟨0,s,oy,oy,r,p,hs.sub da⟩ ?_
 clear hs s1 r G B h1;rintro k tm h' ⟨i,cs,H,rfl,w,row,hs⟩;have N:=w.top;refine wpC.av hs zXH rfl rfl ⟨λc=>?_,λc=>hs.on λq a=>?_⟩
 .have d:i<l.length:=oy
  have C:l[i]? = some l[i]:=oU d;obtain⟨b,o,a1,a2⟩:=(sl.ext w.ex0).at1 (u:=dd l[i]) d z7 rfl zm rfl rfl (by rw[oh,C];rfl);have hb:=D l[i] (od d);have f:J3 m (l.take (i+1))=J3 m (l.take i)++[if l[i]≠0 then (m:Int)+1-l[i] else 0]:=by rw[List.take_add_one,C];unfold J3;rw[List.map_append];rfl
  have t:(J3 m (l.take i)).length=i:=by rw[JU,List.length_take];omega
  generalize l[i]=x at a2 hb f;have e:zG ((i:Int)+1)=((i+1:Nat):Int):=by rw[zD oy oy];rfl
  refine⟨b,o,a1,x,a2,λy=>?_,λy=>hs.on λq a=>?_⟩
  .rw[if_pos y]at f;have ex:zG (zG ((m:Int)+1)-x)=(m:Int)+1-x:=by rw[zD (n:=(m:Int)+1) oy oy,zD oy oy]
   obtain⟨I,z,J,g,K,O⟩:=w.set (cx:=zB) 0 (j:=i) (u:=dd ((m:Int)+1-x)) row rfl oy oy zm rfl rfl rfl rfl;rw[<-Zx,zR2 t oy,<-f]at g;refine⟨h.nx,i,jx z7 rfl zm rfl d,I,by rw[ex];exact J,hs.on λq a=>⟨rfl,rfl,l.length-(i+1),oy,i+1,z,oy,rfl,K,g,?_⟩⟩;try dsimp only
   rw[<-e];exact a.sub da
  rw[if_neg y]at f;rw[zP0 oy,<-f]at row;refine⟨rfl,rfl,l.length-(i+1),oy,i+1,cs,oy,rfl,w,row,?_⟩;try dsimp only
  rw[<-e];exact a.sub da
 have d:i=l.length:=oy
 subst d;rw[List.take_length]at row;refine thenC.left (wpS.av a zYD rfl rfl (a.on λL A=>endW.r1 (A.get rfl) ?_));refine E h' _ w.ex0 ⟨by rw[zFA,JU,Nat.mul_one],.inr ⟨h.nx,0,_,cs,_,_,_,rfl,w.lt 0 rfl,w.get 0 rfl,λj R=>?_⟩⟩ ⟨_,cs,_,_,rfl,oV _,w.get 0 rfl⟩;rw[Nat.zero_add,row.2.2.2 j oy,xQ,List.getElem?_append_left (by rw[zFA,JU];omega)]
theorem zHS{v:V}{l:Ub}(ow:Ow h v yn l.length (zV l))(hr:XS l=0)(F:h.nx+4<=T.top)(w:∀h' v',Ext h h' 3->Sl h' v' 1 (l.length+1) (zV (xb l))->(∀b,yG v'=some b->h.nx<=b)->Q (.tuple [v',dd 0]) h'):RF P zB 46 [v] h Q:=by
 unfold XS at hr;have u:¬(l.length<1\/255<l.length):=λg=>by rw[if_pos g]at hr;cases hr
 rw[if_neg u]at hr;have j:wg l=true:=by
  by_cases g:wg l=true
  .exact g
  rw[if_neg g]at hr;cases hr
 rw[if_pos j]at hr;have k:wok l:=by
  by_cases g:wok l
  .exact g
  rw[if_neg g]at hr;cases hr
 have hb:zT (yM l)<=12:=by refine yK ?_;have G:2^zT (yH l)<=2^11:=Nat.pow_le_pow_right db k.2.1;unfold yM;omega
 have n:∀x∈l,0<=x/\x<=11:=λx a=>by have:=List.all_eq_true.1 j x a;simpa using this
 refine yU z3z (Oy ow.sl oy ?_);unfold zKW;rw[if_neg u,if_pos j,if_pos k];obtain⟨b,y,_,z⟩:=ow.full (cx:=zB) oy z7 rfl zm db;obtain⟨v8,A,B,C,i⟩:=we (h:=h) ((zT (yM l):Nat):Int) oy;have H:=i.top;obtain⟨v10,o,p,d,c,_⟩:=(z.ext i).appFull (cx:=zB) (m:=1) oy C db z7 rfl zm rfl rfl (by show(l.length+1)*1<=_;omega) (by show(l.length+1)*8<=_;omega) oy;have D:=c.top;refine⟨_,_,_,rfl,λq=>absurd rfl q,λ_=>⟨_,ow.sl.len z7 rfl,_,ow.sl.len z7 rfl,_,y,v8,A,B,trivial,v10,o,p,?_⟩⟩;have el:(l++[((zT (yM l):Nat):Int)]).length=l.length+1:=by simp
 refine zLO (l:=l++[((zT (yM l):Nat):Int)]) (by rw[el,xQ];exact d.sl) (by rw[el];omega) (λx a=>?_) (by have:=k.2.1;omega) oy λr s t e f=>⟨_,rfl,?_⟩
 .rcases List.mem_append.1 a with a|a
  .have:=n x a;omega
  rw[List.mem_singleton.1 a];omega
 rw[el]at e;refine w r s ((i.trans (c.trans t)).mono oy) e λb hb=>?_
 obtain⟨I,_,_,_,rfl,E,_⟩:=f;cases hb;have:=i.le;have:=c.le;omega
end Go.Proofs.YtnpeieeomokomaaGreat
namespace Go.Proofs.YtnpeieeomokomaaGreat
open Go.Sim
variable {h:H}{Q:Uc}
theorem zBw{p o:Nat}{k:Uc}:zP zB 103 0 h (.ptr p o) k=k (.ptr p (o+0)) h:=da
theorem ZC{p o:Nat}{k:Uc}:zP zB 103 1 h (.ptr p o) k=k (.ptr p (o+1)) h:=da
theorem Zr{p o:Nat}{k:Uc}:zP zB 105 0 h (.ptr p o) k=k (.ptr p (o+0)) h:=da
theorem kA{p o:Nat}{k:Uc}:zP zB 105 1 h (.ptr p o) k=k (.ptr p (o+2)) h:=da
abbrev oRg(s:Ua)(a:Nat)(v:V):O:=.cells (.ls [.str s,dd a,v]) ⟨0,105+1,0⟩ true false
theorem qV(hl:h.low<=T.top){K:H->Prop}(c:K h)(d:h.nx<=T.top:=by omega):∀a,a=yN h (zX h)->K a:=by intro a b;rw[(xg d hl).2]at b;subst b;exact c
theorem JB{s:Ua}{p a:Nat}{v:V}(c:h.get p=some (oRg s a v))(hs:s.length<=1000000)(d:Q (dd (s.length-a:Nat)) h)(e:a<=s.length:=by omega)(b:h.nx<=T.top:=by omega)(hl:h.low<=T.top:=by omega):RF P zB 77 [.ptr p 0] h Q:=by
 refine yU z4O ⟨⟨b,hl⟩,.ptr p 0,zX h,rfl,(xg b hl).1,qV hl ?_ b⟩;try dsimp only
 rw[zBw];refine⟨s,zK kO rfl c rfl,.ptr p 0,zX h,rfl,(xg b hl).1,qV hl ?_ b⟩;try dsimp only
 rw[ZC];refine⟨a,zK zm rfl c rfl,?_⟩;try dsimp only
 rw[show zG (Int.ofNat s.length-(a:Int))=((s.length-a:Nat):Int)by rw[show Int.ofNat s.length=(s.length:Int)from rfl,zD oy oy];omega];exact d
theorem JC{s:Ua}{p a:Nat}{b:UInt8}{v:V}(k:h.get p=some (oRg s a v))(l:p<h.nx)(hs:s.length<=1000000)(j:s[a]? = some b)(m:∀h',ExtX (· = p) h h' 0->h'.get p=some (oRg s (a+1) v)->Q (dd (b.toNat:Nat)) h')(n:h.nx<=T.top:=by omega)(hl:h.low<=T.top:=by omega):RF P zB 78 [.ptr p 0] h Q:=by
 have o:=(List.getElem?_eq_some_iff.1 j).1;have w:=Vw.one (S:=(· = p)) k l rfl;refine yU z4P ⟨.ptr p 0,h,rfl,?_⟩;try dsimp only
 rw[ZC];refine⟨a,w.ld1 0 rfl zm rfl,.ptr p 0,h,rfl,?_⟩;try dsimp only
 rw[ZC];have e:zG ((a:Int)+1)=((a+1:Nat):Int):=by rw[zD oy oy];rfl
 obtain⟨g,q,i,r,_⟩:=w.st (cx:=zB) 0 (f:=0+1) (u:=dd (a+1:Nat)) rfl n zm rfl;have c:g.nx<=T.top:=oy
 have d:g.low<=T.top:=oW i.low hl;refine⟨g,by rw[e];exact q,⟨c,d⟩,.ptr p 0,zX g,rfl,(xg c d).1,qV d ?_ c⟩;try dsimp only
 rw[zBw];refine⟨s,i.ld1 0 rfl kO rfl,.ptr p 0,zX g,rfl,(xg c d).1,qV d ?_ c⟩;try dsimp only
 rw[ZC];refine⟨_,i.ld1 0 rfl zm rfl,(b.toNat:Nat),?_,?_⟩
 .rw[show zG (((a+1:Nat):Int)-1)=(a:Int)by rw[zD oy oy];omega];exact yR j
 have hb:=b.toNat_lt;rw[Z7 oy];exact m g i.ex (i.get 0 rfl)
theorem _root_.Go.Sim.Sep.head{S:Nat->Prop}{b p:Nat}{o o':O}{l:List (Nat×O)}{v:V}(s:Sep S b ((p,o)::l) v):Sep S b ((p,o')::l) v:=s.less λq a=>by
 rcases oq.1 a with rfl|a
 .exact⟨_,List.mem_cons_self ..,rfl⟩
 exact⟨q,oN _ a,rfl⟩
theorem zQg{S:Nat->Prop}{hb h:H}{c p a:Nat}{d:List (Nat×O)}{s:Ua}{b:UInt8}{v:V}{l:Ub}{many:Int}(w:Vw S hb h c ((p,oRg s a v)::d))(ow:Ow h v yn l.length (zV l))(sp:Sep S hb.nx ((p,oRg s a v)::d) v)(hs:s.length<=1000000)(ha:s[a]? = some b)(hl:l.length<=1000)(hn:hb.nx+c+5<=T.top)(hlow:hb.low<=T.top)(U:∀h' v',Vw S hb h' (c+4) ((p,oRg s (a+1) v')::d)->Ow h' v' yn (l++((b.toNat/16:Nat):Int)::(if 1<many then [((b.toNat % 16:Nat):Int)] else [])).length (zV (l++((b.toNat/16:Nat):Int)::(if 1<many then [((b.toNat % 16:Nat):Int)] else []))) ->
   Sep S hb.nx ((p,oRg s (a+1) v')::d) v'->Q (.tuple []) h'):RF P zB 79 [.ptr p 0,dd many] h Q:=by
 have hbt:=b.toNat_lt;have tw:=w.top;have lw:=w.low;refine yU z4Q ⟨.ptr p 0,h,rfl,?_⟩;try dsimp only
 rw[Zr];refine JC (w.get 0 rfl) (w.lt 0 rfl) hs ha λW X g5=>⟨_,rfl,.ptr p 0,W,rfl,?_⟩
 have Y:=w.extX 0 rfl X g5;have Z:=ow.keep (h':=W) X.le λB j=>X.get _ (ow.blk j) λq=>(sp B j).2 _ (List.mem_cons_self ..) q.symm
 have sp5:Sep S hb.nx ((p,oRg s (a+1) v)::d) v:=sp.head;have t5:=Y.top;try dsimp only
 rw[kA];obtain⟨v13,h14,e13,D,E⟩:=we (h:=W) ((b.toNat/16:Nat):Int) oy;have F:=Y.ext E;have t14:=F.top;obtain⟨i,G,e15,A⟩:=Ow.append (c:=zB) (te:=yn) (m:=1) (Z.ext E) D db z7 rfl zm rfl rfl (by show(l.length+1)*1<=_;omega) (by show(l.length+1)*8<=_;omega) oy;obtain⟨I,e,t⟩:=F.grow (k:=(l++[((b.toNat/16:Nat):Int)]).length) (xs:=zV (l++[((b.toNat/16:Nat):Int)])) sp5 (by rw[xQ,oe];exact A);have t16:=I.top;obtain⟨o,e21,r,n21,k21⟩:=I.st (cx:=zB) 0 (f:=0+2) (u:=i) (cs':=.ls [.str s,dd (a+1:Nat),i]) rfl oy z7 (by rw[e.one1.1];rfl) (by rw[e.one1.1];rfl) (oQ _) (by rw[e.one1.1];exact e.one1.2);have x:=e.keep (h':=o) oy λB j=>k21 B λq=>(t B j).2 _ (List.mem_cons_self ..) q.symm
 have y:Sep S hb.nx ((p,oRg s (a+1) i)::d) i:=t.head;refine⟨v,Y.ld1 0 rfl z7 rfl,((b.toNat/2^4:Nat):Int),kJ (n:=4) db,v13,h14,e13,trivial,i,G,e15,.ptr p 0,G,rfl,?_⟩;try dsimp only
 rw[kA];refine⟨o,e21,λc1=>⟨.ptr p 0,o,rfl,?_⟩,λc1=>?_⟩
 rotate_left
 .rw[if_neg oy]at U;exact U o i (r.more oy) x y
 rw[if_pos oy]at U;try dsimp only
 rw[kA];have t21:=r.top;obtain⟨v28,h29,e28,J,K⟩:=we (h:=o) ((b.toNat % 16:Nat):Int) oy;have L:=r.ext K;have t29:=L.top;have el:(l++[((b.toNat/16:Nat):Int)]).length=l.length+1:=by simp
 obtain⟨v30,M,e30,A2⟩:=Ow.append (c:=zB) (te:=yn) (m:=1) (x.ext K) J db z7 rfl zm rfl rfl (by rw[el];show(l.length+1+1)*1<=_;omega) (by rw[el];show(l.length+1+1)*8<=_;omega) oy;obtain⟨N,g,z⟩:=L.grow (k:=(l++[((b.toNat/16:Nat):Int),((b.toNat % 16:Nat):Int)]).length) (xs:=zV (l++[((b.toNat/16:Nat):Int),((b.toNat % 16:Nat):Int)])) y (by
  have e1:l++[((b.toNat/16:Nat):Int),((b.toNat % 16:Nat):Int)]=(l++[((b.toNat/16:Nat):Int)])++[((b.toNat % 16:Nat):Int)]:=by simp
  rw[e1,xQ,oe];exact A2)
 have t31:=N.top;obtain⟨C,e36,w36,n36,k36⟩:=N.st (cx:=zB) 0 (f:=0+2) (u:=v30) (cs':=.ls [.str s,dd (a+1:Nat),v30]) rfl oy z7 (by rw[g.one1.1];rfl) (by rw[g.one1.1];rfl) (oQ _) (by rw[g.one1.1];exact g.one1.2);have R:=g.keep (h':=C) oy λB j=>k36 B λq=>(z B j).2 _ (List.mem_cons_self ..) q.symm
 refine⟨i,r.ld1 0 rfl z7 rfl,((b.toNat % 16:Nat):Int),?_,v28,h29,e28,trivial,v30,M,e30,.ptr p 0,M,rfl,?_⟩
 .rw[show b.toNat % 16=b.toNat &&& 15 from(wz b.toNat 4).symm];exact qt (a:=b.toNat) (b:=15) oy db
 try dsimp only
 rw[kA];exact⟨C,e36,U C v30 (w36.more oy) R z.head⟩
theorem Js(s:Ua)(a n:Nat):kb s a (n+1)=kb s a n++[((if n % 2=0 then (s[a+n/2]?.getD 0).toNat/16 else (s[a+n/2]?.getD 0).toNat % 16:Nat):Int)]:=by unfold kb;rw[List.range_succ,List.map_append];rfl
theorem zK6{s:Ua}{a j many:Nat}{b:UInt8}(hb:s[a+j]? = some b)(e:2*j<many):
  kb s a (min (2*(j+1)) many)=kb s a (min (2*j) many)++((b.toNat/16:Nat):Int)::(if (1:Int)<((many-2*j:Nat):Int) then [((b.toNat % 16:Nat):Int)] else []):=by
 rw[show min (2*j) many=2*j by omega];have d:kb s a (2*j+1)=kb s a (2*j)++[((b.toNat/16:Nat):Int)]:=by rw[Js,if_pos oy,show a+2*j/2=a+j by omega,hb];rfl
 by_cases c:1<many-2*j
 .rw[if_pos oy,show min (2*(j+1)) many=2*j+1+1 by omega,Js,d,if_neg oy,show a+(2*j+1)/2=a+j by omega,hb];simp
 rw[if_neg oy,show min (2*(j+1)) many=2*j+1 by omega,d]
abbrev Xx(e a:Int):O:=.cells (.ls [dd e,dd a]) ⟨0,26+1,0⟩ true false
theorem zB6{s:Ua}{a:Nat}{ch:UInt8}(hs:s.length<=1000000)(K:s[a]? = some ch)(hc:127<ch.toNat)(hn:h.nx+400<=T.top)(L:h.low<=T.top)(E:∀h' v',Ext h h' 350->Ow h' v' yn (yd s a ch.toNat).l.length (zV (yd s a ch.toNat).l)->(∀b,yG v'=some b->h.nx<=b) ->
   Q (.tuple [v',dd ((yd s a ch.toNat).nx:Nat),flt (yd s a ch.toNat).e (yd s a ch.toNat).fat]) h'):
  RF P zB 39 [.str s,dd a] h Q:=by
 have Z:=(List.getElem?_eq_some_iff.1 K).1;have hch:=ch.toNat_lt;generalize hR:yd s a ch.toNat=R at E;unfold yd at hR;generalize hmany:ch.toNat-127=many at hR;have B:∀e fat,R=⟨[],0,e,fat⟩->∀h',Ext h h' 350->Q (.tuple [.nilslice,dd 0,flt e fat]) h':=λe fat he h' x=>by subst he;exact E h' .nilslice x (Ow.nil _ _) λb hb=>(by cases hb)
 refine yU z3s ⟨oy,?_⟩;rintro pf h1 rfl e1;have M:=(Vw.nil (S:=zN) (h:=h)).new e1 oy;have t1:=M.top;refine⟨λc=>oy,λ_=>⟨λc=>absurd c (by show ¬((s.length:Int)<a);omega),λ_=>Has.nil.on λtm g=>?_⟩⟩;refine wpS.av g zX6 rfl rfl (g.on λqM C=>thenC.nx (C.sealK λtm2 m=>?_));clear g C;refine wpS.av m zX8 rfl rfl ⟨oy,?_⟩;rintro p N rfl O;have t:=M.new O oy;have t3:=t.top;have l3:=t.low;refine⟨.ptr h1.nx 0,N,rfl,?_⟩;try dsimp only
 rw[Zr];refine JB (t.get 0 rfl) hs ⟨_,rfl,λc=>oy,λ_=>⟨.ptr h1.nx 0,N,rfl,?_⟩⟩;try dsimp only
 rw[Zr];refine JC (t.get 0 rfl) (t.lt 0 rfl) hs K λh5 U W=>⟨_,rfl,?_⟩
 have A:=t.extX 0 rfl U W;have t5:=A.top;have l5:=A.low;have em:zG (((ch.toNat:Nat):Int)-127)=((many:Nat):Int):=by rw[zD oy oy];omega
 try dsimp only
 rw[em];refine⟨λc=>oy,λ_=>⟨.ptr h1.nx 0,h5,rfl,?_⟩⟩;try dsimp only
 rw[Zr];refine JB (A.get 0 rfl) hs ⟨_,rfl,db,?_⟩;have eh:zG (Int.tdiv (zG (((many:Nat):Int)+1)) 2)=(((many+1)/2:Nat):Int):=by rw[zD (n:=((many:Nat):Int)+1) oy oy,show((many:Nat):Int)+1=((many+1:Nat):Int)from rfl,show Int.tdiv ((many+1:Nat):Int) 2=(((many+1)/2:Nat):Int)from rfl,Z7 oy]
 try dsimp only
 rw[eh];refine⟨λc=>?_,λc=>m.on λv d=>?_⟩
 · -- cut off
  obtain⟨o,D,r,X,_⟩:=A.st (cx:=zB) 1 (f:=0) (u:=.agg [dd 5,dd s.length]) rfl oy zd rfl;refine⟨o,D,m.on λv d=>endW.ok (leave.tmp (d.get rfl) (leave.tmp (d.get rfl) (leave.cell (d.get rfl) (r.ldA 1 rfl zd rfl) rfl))) ?_⟩;refine B 5 s.length ?_ o (r.ex0.mono oy);rw[<-hR,if_pos oy]
 rw[if_neg oy]at hR;refine wpC.round (λk tm h'=>∃(j:Nat) (v':V),2*j<=many+1/\k=many+1-2*j/\Vw zN h h' (2+4*j) [(h1.nx,oRg s (a+1+j) v'),(h.nx,Xx 0 0)]/\Ow h' v' yn (kb s (a+1) (min (2*j) many)).length (zV (kb s (a+1) (min (2*j) many)))/\Sep zN h.nx [(h1.nx,oRg s (a+1+j) v'),(h.nx,Xx 0 0)] v' /\
  Has tm [(7,.ptr h1.nx 0),(8,dd (many:Nat)),(1,dd a),(6,.ptr h.nx 0)]) (many+1) ⟨0,.nilslice,oy,rfl,A,by rw[show kb s (a+1) (min (2*0) many)=[]by rw[show min (2*0) many=0 by omega];rfl];exact Ow.nil _ _,λb hb=>(by cases hb),d.sub da⟩ ?_
 clear m d A t5 l5 W U O t t3 l3;rintro k tm h' ⟨j,v',hj1,rfl,w,ow,sp,g⟩;have tw:=w.top;have lw:=w.low;have y:(kb s (a+1) (min (2*j) many)).length=min (2*j) many:=YA _ _ _;refine wpC.av g zWr rfl rfl ⟨.ptr h1.nx 0,h',rfl,?_⟩;try dsimp only
 rw[kA];refine⟨v',w.ld1 0 rfl z7 rfl,_,ow.sl.len z7 rfl,λF=>⟨.ptr h1.nx 0,h',rfl,?_⟩,λF=>g.on λG l=>?_⟩
 .try dsimp only
  rw[kA];rw[y]at F;have z:2*j<many:=oy
  have hb:s[a+1+j]? = some s[a+1+j]:=oU oy;have ew:zG (((many:Nat):Int)-((kb s (a+1) (min (2*j) many)).length:Nat))=((many-2*j:Nat):Int):=by rw[y,zD oy oy];omega
  refine⟨v',w.ld1 0 rfl z7 rfl,_,ow.sl.len z7 rfl,?_⟩;try dsimp only
  rw[ew];refine zQg w ow sp hs hb oy oy oy λh2 v2 w2 H I=>⟨rfl,g.on λG l=>⟨rfl,rfl,many+1-2*(j+1),oy,j+1,v2,oy,rfl,w2.more oy,?_,I,l.sub da⟩⟩
  rw[zK6 hb z];exact H
 rw[y]at F;have z:min (2*j) many=many:=oy
 rw[z]at ow;have J:j=(many+1)/2:=oy
 refine thenC.left (wpS.av l zX7 rfl rfl ⟨.ptr h1.nx 0,h',rfl,?_⟩);try dsimp only
 rw[kA];refine⟨v',w.ld1 0 rfl z7 rfl,zFw ow.sl (by rw[YA];omega) ⟨_,rfl,λY=>?_,λY=>⟨⟨oy,oy⟩,.ptr h1.nx 0,zX h',rfl,(xg oy oy).1,qV oy ?_⟩⟩⟩
 .rw[if_neg Y]at hR;obtain⟨o,D,r,X,_⟩:=w.st (cx:=zB) 1 (f:=0) (u:=.agg [dd 21,dd a]) rfl oy zd rfl;refine⟨o,D,l.on λv d=>d.slt λwH i=>endW.ok (leave.tmp (i.get rfl) (leave.tmp (i.get rfl) (leave.cell (i.get rfl) (r.ldA 1 rfl zd rfl) rfl))) ?_⟩;exact B 21 a hR.symm o (r.ex0.mono oy)
 rw[if_pos oy]at hR;try dsimp only
 rw[kA];refine⟨v',w.ld1 0 rfl z7 rfl,.ptr h1.nx 0,zX h',rfl,(xg oy oy).1,qV oy ?_⟩;try dsimp only
 rw[Zr,ZC];obtain⟨o,D,r,X,k9⟩:=w.st (cx:=zB) 1 (f:=0) (u:=.agg [dd 0,dd 0]) rfl oy zd rfl;refine⟨_,w.ld1 0 rfl zm rfl,o,D,l.on λv d=>d.slt λwH i=>endW.ok (leave.tmp (i.get rfl) (leave.tmp (i.get rfl) (leave.cell (i.get rfl) (r.ldA 1 rfl zd rfl) rfl))) ?_⟩;have:=E o v' (r.ex0.mono oy);rw[<-hR,<-J]at this;exact this (ow.keep oy λb hb=>k9 b λq=>(sp b hb).2 _ (oN _ (List.mem_cons_self ..)) q.symm) λb hb=>by
  rcases(sp b hb).1 with q|q
  .exact q.elim
  exact q
end Go.Proofs.YtnpeieeomokomaaGreat
