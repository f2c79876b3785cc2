/- TJ. No condition. -/
import Derived.Test.YtnpeieeomokomaaGreatZTG
import Derived.Test.YtnpeieeomokomaaGreatZTA
import Derived.Test.YtnpeieeomokomaaGreatZCG
set_option maxRecDepth 100000
set_option maxHeartbeats 4000000
namespace Go.Proofs.YtnpeieeomokomaaGreat
open Go.Sim
variable {h:H}{Q:Uc}
variable{hb:H}{L:List (Nat×O)}{c l p:Ub}{xs:Ug}{b i m n tot:Nat}{S:Nat->Prop}{v:V}
theorem yS(sl:Sl h v 1 l.length (zI l))(hi:i<l.length):∃b o,xK zB 23 v (dh (i:Nat))=some (.ptr b o)/\ye zB 3 h (.ptr b o)=some (dh l[i]) :=
 sl.at1 (u:=dh l[i]) hi zM rfl zX rfl rfl (by rw[od,oQ hi];rfl)
theorem yN{α:Type}{l:List α}(hi:i<l.length):l.take (i+1)=l.take i++[l[i]]:=by rw[List.take_add_one,oQ hi];rfl
theorem zf(h:i<9223372036854775807:=by omega):zb ((i:Int)+1)=((i+1:Nat):Int):=by rw[zD dd dd];rfl
def Hl(l:Ub):Int:=l.foldl max 0
theorem Vc(l:Ub)(x:Int):Hl (l++[x])=max (Hl l) x:=by simp[Hl]
theorem yq(h:wO l=true){x:Int}(a:x∈l):0<=x/\x<=11:=by have:=List.all_eq_true.1 h x a;simpa using this
theorem KI{l:Ub}{a m:Int}(d:a<=m)(h:∀x∈l,x<=m):l.foldl max a<=m:=by
 induction l generalizing a with
 | nil=>exact d
 | cons x l ih=>exact ih (Int.max_le.2 ⟨d,h x (by simp)⟩) λy e=>h y (by simp[e])
theorem YJ{l:Ub}{a:Int}:a<=l.foldl max a/\∀x∈l,x<=l.foldl max a:=by
 induction l generalizing a with
 | nil=>exact⟨oU _,λx f=>by cases f⟩
 | cons x l ih =>
  have e:=(ih (a:=max a x)).1;refine⟨Int.le_trans (Int.le_max_left a x) e,λy d=>?_⟩;rcases oq.1 d with rfl|d
  .exact Int.le_trans (Int.le_max_right a y) e
  exact(ih (a:=max a x)).2 y d
def yQ(l:Ub):Nat:=(Hl l).toNat
theorem nr:Hl l=(yQ l:Nat):=by have d:=(YJ (l:=l) (a:=0)).1;unfold yQ Hl at *;omega
theorem ZY(h:wO l=true):yQ l<=11:=by
 have e:=KI (l:=l) (a:=0) (m:=11) dg λx d=>(yq h d).2
 unfold yQ Hl;omega
theorem ZX{x:Int}(d:x∈l):x<=(yQ l:Nat):=by have e:=(YJ (l:=l) (a:=0)).2 x d;rw[<-nr];exact e
theorem pL{v:V}{l:Ub}(sl:Sl h v 1 l.length (zI l))(hl:l.length<4611686018427387904)(f:Q (dh (yQ l:Nat)) h):RF P zB 108 [v] h Q:=by
 rw[<-nr]at f;refine zh zCF zDQ ⟨_,sl.len zM rfl,λtm hs=>?_⟩;refine wpC.round (λk tm h'=>∃i:Nat,i<=l.length/\k=l.length-i/\h'=h/\Has tm [(8,dh i),(7,dh l.length),(6,v),(3,dh (Hl (l.take i)))]) l.length ⟨0,dd,dd,rfl,hs.sub de⟩ ?_;clear hs;rintro k tm h' ⟨i,r,rfl,rfl,hs⟩;refine cg zCF hs ⟨λc=>?_,λc=>λd a=>?_⟩
 .have hi:i<l.length:=dd
  obtain⟨b,o,g,j⟩:=yS sl hi;refine⟨b,o,g,l[i],j,λd a=>⟨rfl,rfl,l.length-(i+1),dd,i+1,dd,rfl,rfl,?_⟩⟩;try dsimp only
  rw[yN hi,Vc,<-zf];exact a.sub de
 have hi:i=l.length:=dd
 subst hi;rw[List.take_length]at a;refine thenC.left (sg a (λq e=>?_));exact endW.r1 (e.get rfl) f
def lone(m:Nat)(x:Int):Nat:=if x≠0 then 2^(m-x.toNat) else 0
def ym(m:Nat)(l:Ub):Nat:=(l.map (lone m)).sum
theorem Qn(hm:m<=11)(x:Int):lone m x<=2048:=by
 unfold lone;split
 .exact oS (Nat.pow_le_pow_right dg (show m-x.toNat<=11 by omega)) dg
 omega
theorem lc{g:Int->Nat}(a:∀x,g x<=m):∀l:Ub,(l.map g).sum<=m*l.length
 | []=>by simp
 | x::l=>by have d:=a x;have h2:=lc a l;rw[List.map_cons,List.sum_cons,oc,Nat.mul_succ];omega
theorem Lx{v e:V}{l:Ub}{g:Int->Nat}(sl:Sl h v 1 l.length (zI l))(hl:l.length<=1000)(j:∀x,g x<=1048576)(h0:g 0=0)(s:∀x∈l,x≠0->∀k:V->H->Prop,k (dh (g x:Nat)) h->bP zB P 3 h k [dh x] e)(t:Q (dh ((l.map g).sum:Nat)) h):RF P zB 143 [v,e] h Q:=by
 refine zh E3 Bi ⟨_,sl.len zM rfl,λtm hs=>?_⟩;refine wpC.round (λk tm h'=>∃i:Nat,i<=l.length/\k=l.length-i/\h'=h/\Has tm [(9,dh i),(8,dh l.length),(7,v),(4,dh (((l.take i).map g).sum:Nat)),(1,e)]) l.length ⟨0,dd,dd,rfl,hs.sub de⟩ ?_;clear hs;rintro k tm h' ⟨i,A,rfl,rfl,hs⟩;refine cg E3 hs ⟨λc=>?_,λc=>λd a=>?_⟩
 .have hi:i<l.length:=dd
  obtain⟨b,o,u,q⟩:=yS sl hi;have hw:((l.take (i+1)).map g).sum=((l.take i).map g).sum+g l[i]:=by rw[yN hi,List.map_append,List.sum_append];simp
  have hb:=lc j (l.take i);rw[List.length_take]at hb;have w:=j l[i];have hm:=s l[i] (oV hi);generalize l[i]=x at q hw w hm;refine⟨b,o,u,x,q,λr=>?_,λr=>λd a=>⟨rfl,rfl,l.length-(i+1),dd,i+1,dd,rfl,rfl,?_⟩⟩
  .refine hm r _ (λd a=>⟨rfl,rfl,l.length-(i+1),dd,i+1,dd,rfl,rfl,?_⟩);have y:zb (((((l.take i).map g).sum:Nat):Int)+(g x:Nat))=((((l.take (i+1)).map g).sum:Nat):Int):=by rw[zD dd dd,hw];rfl
   rw[<-y,<-zf];exact a.sub de
  have:((l.take (i+1)).map g).sum=((l.take i).map g).sum:=by rw[hw,show x=0 by omega,h0,Nat.add_zero]
  rw[this,<-zf];exact a.sub de
 have hi:i=l.length:=dd
 subst hi;rw[List.take_length]at a;refine thenC.left (sg a (λz f=>?_));exact endW.r1 (f.get rfl) t
def rE(l:Ub):Int :=
 if l.length<2\/256<l.length then 4
 else if wO l=true then (if l.getLast?≠some 0/\2<=cnt l/\ym (yQ l) l=2^yQ l then 0 else 21)
 else 2
theorem Sg{h h':H}(e:Ext h h' n)(hl:h.low<=T.top):h'.low<=T.top:=oS e.low hl
theorem Vv(sl:Sl h v 1 l.length (zI l))(hl:l.length<4611686018427387904)(W:h.nx+1<=T.top)(z:h.low<=T.top)(w:∀h',Ext h h' 1->Q (dh (rE l)) h'):RF P zB 107 [v] h Q:=by
 have j:=w h ((Ext.refl h).mono dd);unfold rE at j w;refine zh zHB zDP ⟨_,sl.len zM rfl,λc=>?_,λc=>⟨_,sl.len zM rfl,λM=>?_,λM=>λtm hs=>?_⟩⟩
 .rw[if_pos (.inl dd)]at j;exact j
 .rw[if_pos (.inr dd)]at j;exact j
 rw[if_neg dd]at j;refine sg hs (gR sl hl ?_);unfold Nf;by_cases q:wO l=true
 .simp only[if_neg (show ¬(l.length<2\/256<l.length)by omega),if_pos q]at w;rw[if_pos q];have hm:=ZY q;refine⟨_,true,rfl,λ_=>pL sl hl ⟨_,rfl,rfl,dd,?_⟩,λg=>(by cases g)⟩;rintro X Y rfl N;have I:=(Vw.nil (S:=zH) (h:=h)).new N dd;have Z:=I.top;obtain⟨y,O,C,n9,_⟩:=I.st (cx:=zB) 0 (t:=3) (f:=0) (u:=dh (yQ l:Nat)) rfl dd zX rfl;have t9:=C.top;have A:=C.ex0;have l9:=Sg A z;have D:=sl.ext A;obtain⟨b,o,a1,a2⟩:=yS D (i:=l.length-1) dd;have r:l.getLast? = some l[l.length-1]:=by rw[List.getLast?_eq_getElem?,oQ dd]
  refine⟨y,O,⟨dd,l9⟩,_,D.len zM rfl,b,o,?_,_,a2,λE=>λs d=>?_,λE=>⟨λR=>λs d=>?_,λR=>?_⟩⟩
  .rw[zD dd dd,show((l.length:Nat):Int)-1=((l.length-1:Nat):Int)by omega];exact a1
  .have:=w y A;rw[if_neg (λg=>g.1 (by rw[r,E]))]at this;exact endW.r1 (d.get rfl) this
  .have:=w y A;rw[if_neg (λg=>by have:=g.2.1;omega)]at this;exact endW.r1 (d.get rfl) this
  have hp:2^yQ l<=2^11:=Nat.pow_le_pow_right dg hm;have J:=jz (h:=y) dd l9;refine Lx (g:=lone (yQ l)) (show Sl (z8 y) v 1 l.length (zI l)from D) dd (λx=>oS (Qn hm x) dg) rfl (λx K F k G=>?_) ⟨_,rfl,J.1,λH B=>?_⟩
  .show RF P zB 183 [dh x,.ptr h.nx 0] (z8 y) _;have hr:=yq q K;have U:=ZX K;have e:yD .u64 (zb (((yQ l:Nat):Int)-x))=((yQ l-x.toNat:Nat):Int):=by
    rw[zD dd dd,show((yQ l:Nat):Int)-x=((yQ l-x.toNat:Nat):Int)by omega,zV dd]
   have hp:2^(yQ l-x.toNat)<=2^11:=Nat.pow_le_pow_right dg dd;refine zh zHT zDo ⟨_,C.ld1 0 rfl zX rfl,((1*2^(yQ l-x.toNat):Nat):Int),by rw[e];exact zr (a:=1) dd dd,?_⟩;unfold lone at G;rw[if_pos F]at G;rw[Nat.one_mul];exact AQ G
  rw[J.2]at B;subst B;have:=w H A;refine⟨_,C.ld1 0 rfl zX rfl,((1*2^yQ l:Nat):Int),by rw[zV dd];exact zr (a:=1) dd dd,λV=>λs d=>?_,λV=>λs d=>?_⟩
  .rw[if_neg (λg=>by have:=g.2.2;unfold ym at this;omega)]at this;exact endW.r1 (d.get rfl) this
  rw[if_pos ⟨λg=>E (by rw[r]at g;exact Option.some.inj g),dd,by unfold ym;omega⟩]at this;exact endW.r1 (d.get rfl) this
 rw[if_neg q]at j;rw[if_neg q];exact⟨0,false,rfl,λg=>(by cases g),λ_=>λs d=>endW.r1 (d.get rfl) j⟩
theorem Cr{a:Nat}(d:n<=8)(h:a*2^n<256):wI .shl .u8 (a:Int) (n:Int)=some (.int .u8 ((a*2^n:Nat):Int)):=by
 show cond (lX (n:Int) 0) none (some (V.int .u8 (yD .u8 (Lh (a:Int) (cond (Nat.ble n 8) n 8)))))=_;rw[oE d,oN,xU,bK];have h3:decide ((n:Int)<0)=false:=by simp
 rw[h3,oO];have e:(a:Int)*2^n=((a*2^n:Nat):Int):=by rw[Int.natCast_mul,Int.natCast_pow];rfl
 rw[e,wy,ou h]
theorem zBA{a:Nat}(d:a<256)(hb:b<256):wI .or .u8 (a:Int) (b:Int)=some (.int .u8 ((a ||| b:Nat):Int)):=by show some (V.int .u8 (IntKind.u8.wrap (((BitVec.ofInt 8 (a:Int) ||| BitVec.ofInt 8 (b:Int)).toNat:Nat):Int)))=_;rw[BitVec.toNat_or,qY (show a<2^8 from d),qY (show b<2^8 from hb)];rw[Tg (show a ||| b<2^8 from Nat.or_lt_two_pow d hb)]
abbrev nB:TI:=⟨5,.int .u8,1,1,some (.int .u8 (.ofNat 0)),true,false,false,[]⟩
abbrev tY(b:UInt8):V:=.int .u8 ((b.toNat:Nat):Int)
abbrev Jh(l:Ua):Ug:=l.map tY
theorem Js(l m:Ua):Jh (l++m)=Jh l++Jh m:=List.map_append ..
theorem kY(l:Ua):(Jh l).length=l.length:=oy ..
theorem pH:∀l:Ua,wN (Jh l)=some l
 | []=>rfl
 | b::l=>by show(match wN (Jh l)with|some r=>some (UInt8.ofNat b.toNat::r)|none=>none)=_;rw[pH l];simp
theorem Kd(cs:Cs)(o:Nat)(h:cs.range o 0=some []\/True):cs.range 0 0=some []:=by
 cases cs with
 | ls l=>cases l<;>rfl
 | tb t n=>rfl
 | big d t n=>rfl
theorem Ze{l:Ua}(s:Sl h v 1 l.length (Jh l))(h0:0<l.length):wZ zB 71 9 h v=some (.str l,h):=by
 obtain⟨_,⟨rfl,e⟩|⟨b,o,f,cs,kk,w,op,rfl,hb,a,d⟩⟩:=s
 .omega
 unfold wZ;rw[Je,xk];have hr:cs.range o l.length=some (Jh l):=Cs.range_is h0 (kY l) λi hi=>d i dd
 simp only[EC,a,hr,pH]
theorem ZC(n:Int)(a:h.nx<T.top):∃h',zO zB 71 1 [(0,.int .u8 n)] h=some (.slice h.nx 0 1 (.exact 1),h')/\Sl h' (.slice h.nx 0 1 (.exact 1)) 1 1 [.int .u8 n]/\Ext h h' 1:=by
 have e:zO zB 71 1 [(0,.int .u8 n)] h=(match (cond (Nat.blt h.nx T.top) (some (h.nx,h.new (.cells (.ls [.int .u8 n]) ⟨0,5+1,0⟩ true false))) none:Option (Nat×H))with|some (b,h')=>some (.slice b 0 1 (.exact 1),h')|none=>none):=de
 rw[(zW _ _).2 a,oN]at e;exact⟨_,e,⟨rfl,.inr ⟨h.nx,0,_,_,_,_,_,rfl,by rw[zC];omega,zK _ a,λi hi=>by
  have:i=0:=dd
  subst this;rfl⟩⟩,Ext.new _ a⟩
def Gr(h:H)(v:V)(te:TI)(n:Nat)(xs:Ug):Prop:=Ow h v te n xs\/∃b,v = .slice b 0 n (.exact n)/\0<n/\Sl h v te.size n xs
theorem Gr.sl{te:TI}(g:Gr h v te n xs):Sl h v te.size n xs:=by
 rcases g with o|⟨_,_,_,s⟩
 .exact o.sl
 exact s
theorem Gr.ext{h h':H}{te:TI}(g:Gr h v te n xs)(e:Ext h h' m):Gr h' v te n xs:=by
 rcases g with o|⟨b,a,d,s⟩
 .exact .inl (o.ext e)
 exact .inr ⟨b,a,d,s.ext e⟩
theorem Gr.step{cx:Ctx}{S:Nat->Prop}{hb h:H}{c:Nat}{l:List (Nat×O)}{v x:V}{te ti:TI}{n t e:Nat}{xs ys:Ug}(w:Vw S hb h c l)(g:Gr h v te n xs)(sp:Sep S hb.nx l v)(u:Sl h x te.size 1 ys)(y:cx.ty.get t=some ti)(hd:ti.desc = .slice e)(z:cx.ty.get e=some te)(xI:jo te=true)(B:zU ys=true)(a:(n+1)*te.size<=262143)(d:(n+1)*te.bytes<=1099511627776)(C:h.nx<T.top):
  ∃v' h',zi cx t h v x=some (v',h')/\Vw S hb h' (c+1) l/\Ow h' v' te (n+1) (xs++ys)/\Sep S hb.nx l v':=by
 rcases g with o|⟨b,rfl,D,s⟩
 .obtain⟨v',h',j,A⟩:=o.append (c:=cx) u dg y hd z xI B a d C;obtain⟨w',o',k⟩:=w.grow sp A;exact⟨v',h',j,w',o',k⟩
 obtain⟨v',h',j,o',E,r⟩:=s.appFull (cx:=cx) D u dg y hd z xI B a d C;refine⟨v',h',j,w.ext E,o',λG f=>?_⟩;rw[r]at f;cases f;exact⟨.inr w.le,λq F=>Nat.ne_of_lt (w.bk.lt q F)⟩
theorem Lj{cx:Ctx}{t e:Nat}{ti te:TI}(a:cx.ty.get t=some ti)(hd:ti.desc = .slice e)(d:cx.ty.get e=some te)(hm:m<=n):zw cx t h (.slice b 0 n (.exact n)) none (some (dh (m:Nat))) (some (dh (m:Nat)))=some (.slice b 0 m (.exact m)):=by unfold zw;have f:Nat.ble m m=true:=oE (oR m);have g:Nat.ble m n=true:=oE hm;simp only[a,hd,d,Go.Sim.bnd,YG,f,g,oN,Option.isNone_some,Bool.and_false,oO,Nat.zero_mul,Nat.zero_add,Nat.sub_zero];cases Nat.beq m 0<;>rfl
def ku(l:Ub):Ub:=(JJ (yQ l) l).dropLast
theorem KX(l:Ub):(ku l).length=l.length-1:=by unfold ku;rw[List.length_dropLast,Xk]
theorem eV(h:rE l=0):2<=l.length/\l.length<=256/\wO l=true:=by
 unfold rE at h;by_cases c:l.length<2\/256<l.length
 .rw[if_pos c]at h;cases h
 rw[if_neg c]at h;by_cases g:wO l=true
 .exact⟨dd,dd,g⟩
 rw[if_neg g]at h;cases h
theorem Nn(sl:Sl h v 1 l.length (zI l))(hl:l.length<4611686018427387904)(F:h.nx+2<=T.top)(d:h.low<=T.top)(s:∀h' v',Ext h h' 2->(rE l=0->(∃b,v' = .slice b 0 (ku l).length (.exact (ku l).length)/\h.nx<=b)/\Sl h' v' 1 (ku l).length (zI (ku l)))->Q (.tuple [if rE l=0 then v' else .nilslice,dh (rE l)]) h'):RF P zB 25 [v] h Q:=by
 refine zh L25 zIc ?_;refine zh L56 zIv (Vv sl hl dd d λt e=>⟨_,rfl,λc=>?_,λc=>?_⟩)
 .have:=s t .nilslice (e.mono dd) λg=>absurd g c
  rw[if_neg c]at this;exact⟨_,_,rfl,λ_=>this,λg=>absurd c g⟩
 have c0:rE l=0:=dd
 have G:=e.top;obtain⟨H,l2,f⟩:=eV c0;have hm:=ZY f;have s1:=sl.ext e;refine pL s1 hl ⟨_,rfl,fP s1 l2 (λx u=>by have:=yq f u;omega) dd dd λh2 I w y z=>⟨_,rfl,_,_,rfl,λg=>absurd rfl g,λ_=>?_⟩⟩;obtain⟨b,cs,k,op,rfl,hb,_⟩:=z;have a:Sl h2 (.slice b 0 l.length (.exact l.length)) 1 l.length (zI (JJ (yQ l) l)):=y;have A:zb (((l.length:Nat):Int)-1)=((l.length-1:Nat):Int):=by rw[zD dd dd];omega
 refine⟨_,a.len zM rfl,_,a.len zM rfl,_,by rw[A];exact Lj zM rfl zX dd,?_⟩;have:=s h2 (.slice b 0 (l.length-1) (.exact (l.length-1))) (e.trans w) λ_=>⟨⟨b,by rw[KX],by have:=e.le;omega⟩,?_⟩
 .rw[c0,if_pos rfl]at this;exact this
 obtain⟨J,⟨j,_⟩|⟨K,o,M,q,B,w',r,j,C,D,E⟩⟩:=a
 .cases j
 cases j;refine⟨by rw[jU,Nat.mul_one],.inr ⟨b,0,_,q,B,w',r,by rw[KX],C,D,λi hi=>?_⟩⟩;rw[KX]at hi;rw[E i dd];unfold ku;rw[od,od,List.getElem?_dropLast,Xk,if_pos dd]
def kI:Ub->Ua
 | []=>[]
 | [a]=>[UInt8.ofNat (16*a.toNat)]
 | a::b::l=>UInt8.ofNat (16*a.toNat+b.toNat)::kI l
theorem KB(x y:Int):∀m:Ub,m.length % 2=0->kI (m++[x])=kI m++[UInt8.ofNat (16*x.toNat)]/\kI (m++[x,y])=kI m++[UInt8.ofNat (16*x.toNat+y.toNat)]
 | [],_=>⟨rfl,rfl⟩
 | [_],h=>by cases h
 | a::b::m,h=>by
  obtain⟨d,h2⟩:=KB x y m (by simp only[oc]at h;omega);refine⟨?_,?_⟩
  .show _::kI (m++[x])=_;rw[d];rfl
  show _::kI (m++[x,y])=_;rw[h2];rfl
theorem Yo:∀l:Ub,(kI l).length=(l.length+1)/2
 | []=>rfl
 | [_]=>by simp[kI]
 | a::b::l=>by show(kI l).length+1=_;rw[Yo l];simp only[oc];omega
def lA(l:Ub):Ua:=UInt8.ofNat (l.length+127)::kI l
def DX(l:Ub):V :=
 if qD l≠0 then .tuple [.str [],dh (qD l)]
 else if 128<l.length then .tuple [.str [],dh 4]
 else .tuple [.str (lA l),dh 0]
theorem JR(h:n<256:=by omega):tY (UInt8.ofNat n) = .int .u8 (n:Int):=by
 have:(UInt8.ofNat n).toNat=n:=by simp;omega
 show V.int .u8 (((UInt8.ofNat n).toNat:Nat):Int)=_;rw[this]
theorem cI{l:Ua}(sl:Sl h v 1 l.length (Jh l))(hi:i<l.length):∃b o,xK zB 71 v (dh (i:Nat))=some (.ptr b o)/\ye zB 5 h (.ptr b o)=some (tY l[i]) :=
 sl.at1 (u:=tY l[i]) hi Je rfl EC rfl rfl (by rw[od,oQ hi];rfl)
theorem F5{l:Ua}{b0 b1:UInt8}(o:Ow h v nB (l++[b0]).length (Jh (l++[b0])))(e:h.nx<=T.top):
  ∃b h',xK zB 71 v (dh (l.length:Nat))=some (.ptr b l.length)/\ye zB 5 h (.ptr b l.length)=some (tY b0)/\jP zB 5 h (.ptr b l.length) (tY b1)=some h'/\Ow h' v nB (l++[b1]).length (Jh (l++[b1]))/\ExtX (λi=>z6 v=some i) h h' 0:=by
 have a:l.length<(l++[b0]).length:=by simp
 obtain⟨b,h',_,d,f,o',k,g⟩:=o.set (cx:=zB) (u:=tY b1) a Je rfl EC rfl rfl rfl e;obtain⟨q,r,f1,j⟩:=cI o.sl a;rw[d]at f1;cases f1;refine⟨b,h',d,by simpa using j,f,?_,g⟩;have:(Jh (l++[b0])).set l.length (tY b1)=Jh (l++[b1]):=by rw[Js,Js,List.set_append_right _ _ (by rw[kY];exact oR _),kY,Nat.sub_self];rfl
 rw[this]at o';simpa using o'
theorem zAv(hi:i<l.length)(d:i % 2=1):∃x:Int,∃m:Ub,m=l.take (i-1)/\x∈l/\l.take i=m++[x]/\l.take (i+1)=m++[x,l[i]]:=by
 have a:i-1<l.length:=dd
 have h2:=yN a;have h3:=yN hi;rw[show i-1+1=i by omega]at h2;exact⟨l[i-1],_,rfl,oV a,h2,by rw[h3,h2,List.append_assoc];rfl⟩
structure DrI (hb h:H) (l:Ub) (i:Nat) (v:V):Prop where
 vw:Vw zH hb h (2*i+1) []
 gr:Gr h v nB (kI (l.take i)).length.succ (Jh (UInt8.ofNat (l.length+127)::kI (l.take i)))
 ow:0<i->Ow h v nB (kI (l.take i)).length.succ (Jh (UInt8.ofNat (l.length+127)::kI (l.take i)))
 sp:Sep zH hb.nx [] v
theorem DrI.even{h:H}(d:DrI hb h l i v)(hi:i<l.length)(hl:l.length<=128)(x:i % 2=0)(f:wO l=true)(y:hb.nx+400<=T.top):
  ∃v4 e,zO zB 71 1 [(0,.int .u8 ((l[i].toNat*2^4:Nat):Int))] h=some (v4,e)/\(True/\∃v6 a,zi zB 71 e v v4=some (v6,a)/\DrI hb a l (i+1) v6):=by
 have t:=d.vw.top;have hr:=yq f (oV hi);obtain⟨e,q,r,g⟩:=ZC (h:=h) ((l[i].toNat*2^4:Nat):Int) dd;have z:=g.top;have hd:=Yo (l.take i);rw[List.length_take]at hd;obtain⟨v6,a,s,u,w,j⟩:=(d.gr.ext g).step (cx:=zB) (d.vw.ext g) d.sp r Je rfl EC rfl rfl (by show(_+1)*1<=_;omega) (by show(_+1)*1<=_;omega) dd;refine⟨_,e,q,trivial,v6,a,s,?_⟩;have k:=(KB l[i] 0 (l.take i) (by rw[List.length_take];omega)).1;rw[<-yN hi]at k;have o:Ow a v6 nB (kI (l.take (i+1))).length.succ (Jh (UInt8.ofNat (l.length+127)::kI (l.take (i+1)))):=by
  rw[k,oW];have:Jh (UInt8.ofNat (l.length+127)::(kI (l.take i)++[UInt8.ofNat (16*l[i].toNat)]))=Jh (UInt8.ofNat (l.length+127)::kI (l.take i))++[.int .u8 ((l[i].toNat*2^4:Nat):Int)]:=by rw[<-List.cons_append,Js];congr 1;show[tY _]=_;rw[JR,show 16*l[i].toNat=l[i].toNat*2^4 by omega]
  rw[this];exact w
 exact⟨u.more dd,.inl o,λ_=>o,j⟩
theorem DrI.odd{h:H}(d:DrI hb h l i v)(hi:i<l.length)(r:i % 2=1)(a:wO l=true)(s:h.nx<=T.top):
  ∃(x:Int) (b j:Nat),0<=x/\x<=11/\Yg zB 71 h v=some (dh ((j+1:Nat):Int))/\j<=l.length/\xK zB 71 v (dh (j:Nat))=some (.ptr b j)/\ye zB 5 h (.ptr b j)=some (.int .u8 ((16*x.toNat:Nat):Int)) /\
   ∃h',jP zB 5 h (.ptr b j) (.int .u8 ((16*x.toNat+l[i].toNat:Nat):Int))=some h'/\DrI hb h' l (i+1) v:=by
 obtain⟨x,m,hm,u,w,h2⟩:=zAv hi r;have hr:=yq a u;have y:=yq a (oV hi);have e:m.length=i-1:=by rw[hm,List.length_take];omega
 obtain⟨a1,_⟩:=KB x 0 m (by rw[e];omega);obtain⟨_,a2⟩:=KB x l[i] m (by rw[e];omega);have hd:=Yo m;have ow:=d.ow dd;have g:=d.gr.sl.len (t:=71) Je rfl;rw[w,a1]at ow g;rw[<-h2]at a2;obtain⟨b,h',z,f,k,o',A⟩:=F5 (l:=UInt8.ofNat (l.length+127)::kI m) (b0:=UInt8.ofNat (16*x.toNat)) (b1:=UInt8.ofNat (16*x.toNat+l[i].toNat)) (by simpa using ow) s;rw[JR]at f k;refine⟨x,b,(kI m).length+1,hr.1,hr.2,by simpa using g,dd,by simpa using z,by simpa using f,h',by simpa using k,?_⟩;have o:Ow h' v nB (kI (l.take (i+1))).length.succ (Jh (UInt8.ofNat (l.length+127)::kI (l.take (i+1)))):=by rw[a2];simpa using o'
 exact⟨(d.vw.apart A (λb hb=>(d.sp b hb).1) λq B=>(by cases B)).more dd,.inl o,λ_=>o,d.sp⟩
theorem NH{v:V}{l:Ub}(sl:Sl h v 1 l.length (zI l))(hl:l.length<4611686018427387904)(I:h.nx+400<=T.top)(s:∀h',Ext h h' 300->Q (DX l) h'):RF P zB 26 [v] h Q:=by
 have e:=s h ((Ext.refl h).mono dd);unfold DX at s e;refine zh L26 zId (vp sl hl ⟨_,rfl,λc=>?_,λc=>⟨_,sl.len zM rfl,λJ=>?_,λJ=>⟨_,sl.len zM rfl,?_⟩⟩⟩)
 .rw[if_pos c]at e;exact e
 .rw[if_neg c,if_pos dd]at e;exact e
 have r:wO l=true:=by
  have c0:qD l=0:=dd
  unfold qD at c0;by_cases c1:l.length<1\/255<l.length
  .rw[if_pos c1]at c0;cases c0
  rw[if_neg c1]at c0;by_cases g:wO l=true
  .exact g
  rw[if_neg g]at c0;cases c0
 simp only[if_neg c,if_neg (show ¬128<l.length by omega)]at s;clear e;have K:yD .u8 (zb (((l.length:Nat):Int)+127))=((l.length+127:Nat):Int):=by rw[zD dd dd,show((l.length:Nat):Int)+127=((l.length+127:Nat):Int)by omega,wy,ou]
 obtain⟨C,D,y,z⟩:=ZC (h:=h) ((l.length+127:Nat):Int) dd;refine⟨_,C,by rw[K];exact D,_,(sl.ext z).len zM rfl,λtm hs=>?_⟩;refine wpC.round (λk tm h'=>∃(i:Nat) (w:V),i<=l.length/\k=l.length-i/\DrI h h' l i w/\Has tm [(23,dh i),(22,dh l.length),(21,v),(5,w)]) l.length ⟨0,_,dd,dd,⟨Vw.nil.ext z |>.more dd,.inr ⟨_,rfl,by simp,by rw[<-JR]at y;exact y⟩,λg=>dd,λb hb=>by cases hb;exact⟨.inr (oR _),λq s=>by cases s⟩⟩,hs.sub de⟩ ?_;clear hs y z D C;rintro k tm h' ⟨i,w,M,rfl,d,hs⟩;have tw:=d.vw.top;refine cg L26 hs ⟨λN=>?_,λN=>λt f=>?_⟩
 .have hi:i<l.length:=dd
  obtain⟨b,o,a1,a2⟩:=yS (sl.ext d.vw.ex0) hi;have hr:=yq r (oV hi);have E:yD .u8 l[i]=((l[i].toNat:Nat):Int):=by rw[show l[i]=((l[i].toNat:Nat):Int)by omega,wy,ou];simp
  refine⟨b,o,a1,_,a2,dg,λA=>?_,λA=>?_⟩
  .obtain⟨v4,O,R,_,v6,U,W,d7⟩:=d.even hi dd (by rw[<-Int.natCast_inj];exact A) r I;refine⟨_,by rw[E];exact Cr (a:=l[i].toNat) (n:=4) dd dd,v4,O,R,trivial,v6,U,W,λt f=>⟨rfl,rfl,l.length-(i+1),dd,i+1,v6,dd,rfl,d7,?_⟩⟩;rw[<-zf];exact f.sub de
  obtain⟨x,F,j,x1,x2,X,hj,G,Y,Z,e4,d8⟩:=d.odd hi (by
   have:¬i % 2=0:=λg=>A (by show((i % 2:Nat):Int)=0;omega)
   omega) r dd
  have H:zb (((j+1:Nat):Int)-1)=((j:Nat):Int):=by rw[zD dd dd];omega
  have eo:(16*x.toNat) ||| l[i].toNat=16*x.toNat+l[i].toNat:=by rw[Nat.or_comm,show 16*x.toNat=x.toNat*2^4 by omega,qC dd];omega
  refine⟨_,X,F,j,by rw[H];exact G,_,Y,_,by rw[E];exact zBA dd dd,F,j,by rw[H];exact G,Z,by rw[eo];exact e4,λt f=>⟨rfl,rfl,l.length-(i+1),dd,i+1,w,dd,rfl,d8,?_⟩⟩;rw[<-zf];exact f.sub de
 have hi:i=l.length:=dd
 subst hi;have B:=d.gr.sl;rw[List.take_length]at B;obtain⟨b,o,cp,rfl⟩:=B.at0 (Nat.succ_pos _);refine thenC.left (sg f ⟨_,_,Ze (l:=lA l) B (Nat.succ_pos _),λtm2 u=>?_⟩);exact endW.r2 (u.get rfl) (u.get rfl) (s h' (d.vw.ex0.mono dd))
theorem gk(m:Nat)(l:Ub)(x:Int):ym m (l++[x])=ym m l+lone m x:=by simp[ym]
theorem Ym(l:Ub)(x:Int):cnt (l++[x])=cnt l+(if x≠0 then 1 else 0):=by
 rw[j7];by_cases c:x≠0
 .rw[if_pos c];simp[cnt,c]
 rw[if_neg c];have:x=0:=dd
 subst this;rfl
theorem qM{tm:Tm}{a:Nat}(f:Nat.blt a 511=true):∀{l:Kn},Has tm l->(l.all λp=>!(Nat.beq p.1 a))=true->Has (Tb.set tm a v) l
 | [],_,_=>trivial
 | p::l,h,d=>by
  rw[List.all_cons,oI]at d;refine⟨?_,qM f h.2 d.2⟩;rw[xB _ _ _ _ (show a<Tb.top from(zW _ _).1 f),if_neg ?_]
  .exact h.1
  intro e;rw[e]at d;simp at d
theorem _root_.Go.Sim.Has.self{tm:Tm}{a:Nat}(d:Nat.blt a 511=true):zq (Tb.set tm a v) a=v:=by rw[xB _ _ _ _ (show a<Tb.top from(zW _ _).1 d),if_pos rfl]
theorem _root_.Go.Sim.Vw.round{h:H}{c c' il lp df d a:Nat}{tm:Tm}{f body:Code}{x y:V}{l:Kn}(w:Vw S hb h c L)(o:L[il]? = some (lp,.loop .ready none n tm #[d,a] f body df))(t:h.nx<=T.top)(D:Has tm l)(hp:(Nat.blt d n && Nat.blt a n && Nat.blt d 511 && Nat.blt a 511 && !(Nat.beq d a) && (l.all λp=>!(Nat.beq p.1 d)) && (l.all λp=>!(Nat.beq p.1 a)))=true)(E:∀j,Has j ((d,x)::(a,y)::l)->wpC P zB true (jm f) ⟨n,j,[],h⟩ λe s1=>e = .normal/\s1.n=n/\s1.dfr=[]/\s1.heap=h /\
   ∀h1,Vw S hb h1 c (L.set il (lp,.loop .busy none n tm #[d,a] f body df))->h1.nx=h.nx->wpC P zB true (jm body) ⟨n,s1.tm,[],h1⟩ λe2 g=>e2 = .normal/\g.dfr=[]/\∃L',Vw S hb g.heap c' L'/\g.heap.nx<=T.top/\L'[il]? = some (lp,.loop .busy none n tm #[d,a] f body df) /\
    ∀h',Vw S hb h' c' (L'.set il (lp,.loop .ready none n tm #[d,a] f body df))->h'.nx=g.heap.nx->(∀b,b≠lp->h'.get b=g.heap.get b)->Q (.bool true) h'):RR P lp [x,y] h Q:=by
 simp only[oI,Bool.not_eq_true']at hp;obtain⟨⟨⟨⟨⟨⟨F,G⟩,u⟩,q⟩,z⟩,I⟩,J⟩:=hp;have hl:lp<T.top:=oL (w.lt il o) t;have hs:xX (#[d,a]:Array Nat).toList [x,y] n tm=some (Tb.set (Tb.set tm d x) a y):=by show cond (Nat.blt d n) (cond (Nat.blt a n) (some (Tb.set (Tb.set tm d x) a y)) none) none=_;rw[F,G];rfl
 have r:Has (Tb.set (Tb.set tm d x) a y) ((d,x)::(a,y)::l):=by
  refine⟨?_,Has.self q,qM q (qM u D I) J⟩;rw[xB _ _ _ _ (show a<Tb.top from(zW _ _).1 q),if_neg (λe=>?_)]
  .exact Has.self u
  have e:d=a:=e;rw[e]at z;simp at z
 refine RR.intro hl (w.get il o) hs (RC.of_wp xf f (kF _ (λe s1 h1=>?_) (E _ r)));obtain⟨K,n1,d1,k,A⟩:=h1;obtain⟨sn,st,O,sh⟩:=s1;simp only at n1 d1 k A;subst n1 d1 k;refine⟨K,_,_,_,_,_,_,_,w.get il o,RC.of_wp xf body (kF _ (λe g h2=>?_) (A _ (w.upd il o t) rfl))⟩;obtain⟨rfl,d2,L',B,M,C,N⟩:=h2;have s:lp<T.top:=hl;show(match yZ lp .normal g with|some (.ret v h')=>Q v h'|_=>False);simp only[yZ,d2,B.get il C];exact N _ (B.upd il C M) rfl λb hb=>zL _ s hb
theorem _root_.Go.Sim.Vw.range{c:Nat}{f:Go.Operand}{ps:Array Nat}{a body:Code}{s:St}{Q:Ud}{g:Nat}{captured:Ug}(w:Vw S hb s.heap c L)(k:yt s.tm f=some (.func (.func g) [] captured))(x:s.heap.nx+2<=T.top)(q:∀h1,Vw S hb h1 (c+2) ((s.heap.nx+1,.loop .ready none s.n s.tm ps a body s.heap.nx)::(s.heap.nx,.deferred true)::L)->h1.nx=s.heap.nx+2 ->
   RF P zB g (.yield (s.heap.nx+1)::captured) h1 λ_ h3=>∃c' L',Vw S hb h3 c' ((s.heap.nx+1,.loop .ready none s.n s.tm ps a body s.heap.nx)::L')/\h3.nx<=T.top /\
    ∀h4 o,Vw S hb h4 c' ((s.heap.nx+1,o)::L')->h4.nx=h3.nx->(∀b,b≠s.heap.nx+1->h4.get b=h3.get b)->Q .normal ⟨s.n,s.tm,.coll s.heap.nx::s.dfr,h4⟩):RC P false (.rangeFunc f ps a body) s Q:=by
 refine RC.rangeFunc xf k dd ?_;have r:=w.new (h':=s.heap.new (.deferred true)) rfl dd;have n1:(s.heap.new (.deferred true)).nx=s.heap.nx+1:=zC _ _;have e:=r.new (h':=(s.heap.new (.deferred true)).new (.loop .ready none s.n s.tm ps a body s.heap.nx)) rfl dd;rw[n1]at e;have t:((s.heap.new (.deferred true)).new (.loop .ready none s.n s.tm ps a body s.heap.nx)).nx=s.heap.nx+2:=by rw[zC,n1]
 refine RF.mono (q _ e t) ?_;rintro v h3 ⟨c',L',d,j,u⟩;have hl:s.heap.nx+1<T.top:=oL (d.lt 0 rfl) j;simp only[kl,d.get 0 rfl];exact u _ _ (d.upd 0 rfl j) rfl λb hb=>zL _ hl hb
theorem _root_.Go.Sim.Vw.ends{h:H}{c d:Nat}(w:Vw S hb h c L)(a:L[i]? = some (d,.deferred true))(e:h.nx<=T.top){k:H->Prop}(f:∀h',Vw S hb h' c (L.set i (d,.deferred false))->h'.nx=h.nx->(∀b,b≠d->h'.get b=h.get b)->k h'):Kr [.coll d] h k:=by have hd:d<T.top:=oL (w.lt i a) e;simp only[Kr,w.get i a];exact f _ (w.upd i a e) rfl λb hb=>zL _ hd hb
structure GC (l:Ub):Prop where
 len:l.length<=256
 rng:∀x∈l,0<=x/\x<=1000
def yy(l:Ub):Nat:=(l.map Int.toNat).sum
theorem Ng(l:Ub)(x:Int):yy (l++[x])=yy l+x.toNat:=by simp[yy]
theorem Dz{l:Ub}(g:∀x∈l,0<=x/\x<=1000):yy l<=1000*l.length:=by
 induction l with
 | nil=>simp[yy]
 | cons x l ih =>
  have d:=g x (by simp);have h2:=ih λy a=>g y (by simp[a])
  have:yy (x::l)=x.toNat+yy l:=by simp[yy]
  rw[this,oc];omega
theorem GC.take(g:GC l)(i:Nat):∀x∈l.take i,0<=x/\x<=1000:=λx a=>g.rng x (List.mem_of_mem_take a)
theorem GC.at(g:GC l)(hi:i<l.length):0<=l[i]/\l[i]<=1000:=g.rng _ (oV hi)
theorem GC.sum(g:GC l)(i:Nat):yy (l.take i)<=256000:=by have:=Dz (g.take i);have:=g.len;rw[List.length_take]at *;omega
theorem Fj{v:V}{l:Ub}(sl:Sl h v 1 l.length (zI l))(g:GC l)(u:Q (.tuple [dh (yy l:Nat),.bool true]) h):RF P zB 234 [v] h Q:=by
 have hl:=g.len;refine zh zCU zEM ⟨_,sl.len zM rfl,λtm hs=>?_⟩;refine wpC.round (λk tm h'=>∃i:Nat,i<=l.length/\k=l.length-i/\h'=h/\Has tm [(8,dh i),(7,dh l.length),(6,v),(2,dh (yy (l.take i):Nat)),(3,.bool false)]) l.length ⟨0,dd,dd,rfl,hs.sub de⟩ ?_;clear hs;rintro k tm h' ⟨i,D,rfl,rfl,hs⟩;refine cg zCU hs ⟨λc=>?_,λc=>λe a=>?_⟩
 .have hi:i<l.length:=dd
  obtain⟨b,o,w,r⟩:=yS sl hi;have hr:=g.at hi;have hb:=g.sum i;have s:=yN hi;generalize l[i]=x at r hr s;have y:zb (((yy (l.take i):Nat):Int)+x)=((yy (l.take (i+1)):Nat):Int):=by rw[zD dd dd,s,Ng];omega
  refine⟨b,o,w,x,r,λz=>dd,λz=>⟨λA=>dd,λA=>⟨λt=>?_,λt=>λe a=>?_⟩⟩⟩
  .rw[zD dd dd]at t;omega
  refine sg a (λf d=>?_);refine thenC.nx (sg d (λB j=>j.slt λC q=>⟨rfl,rfl,l.length-(i+1),dd,i+1,dd,rfl,rfl,?_⟩));try dsimp only
  rw[<-zf,<-y];exact q.sub de
 have hi:i=l.length:=dd
 subst hi;rw[List.take_length]at a;refine thenC.left (sg a (λf d=>?_));exact endW.r2 (d.get rfl) (d.get rfl) u
theorem Zc(sl:Sl h v 1 l.length (zI l))(g:GC l)(a:Q (dh 0) h):RF P zB 169 [v] h Q:=by have hl:=g.len;exact zh zHK zDc ⟨_,sl.len zM rfl,λc=>dd,λc=>Fj sl g ⟨_,true,rfl,λ_=>a,λq=>(by cases q)⟩⟩
theorem Lw(sl:Sl h v 1 l.length (zI l))(g:GC l)(a:Q (.tuple [dh (yy l:Nat),dh 0]) h):RF P zB 284 [v] h Q :=
 zh zHp zEo (Zc sl g ⟨_,rfl,λq=>absurd rfl q,λ_=>Fj sl g ⟨_,true,rfl,λ_=>a,λq=>(by cases q)⟩⟩)
theorem WK{l:Ub}{v:V}{lp pc:Nat}(I:Nat->H->Prop)(hl:l.length<=1000)(h0:I 0 h)(j:ye zB 23 h (.ptr pc 0)=some v)(f:∀i h',I i h'->Sl h' v 1 l.length (zI l))(d:∀i h' (hi:i<l.length),¬0<l[i]->I i h'->I (i+1) h')(e:∀i h' (hi:i<l.length),0<l[i]->I i h'->RR P lp [dh i,dh l[i]] h' λr h2=>r = .bool true/\I (i+1) h2)(s:∀h',I l.length h'->Q (.tuple []) h'):RF P zB 235 [.yield lp,.ptr pc 0] h Q:=by
 refine zh zCV zEN ⟨v,j,_,(f 0 h h0).len zM rfl,λtm hs=>?_⟩;refine wpC.round (λk tm h'=>∃i:Nat,i<=l.length/\k=l.length-i/\I i h'/\Has tm [(7,dh i),(6,dh l.length),(5,v),(0,.yield lp)]) l.length ⟨0,dd,dd,h0,hs.sub de⟩ ?_;clear hs;rintro k tm h' ⟨i,x,rfl,ii,hs⟩;refine cg zCV hs ⟨λc=>?_,λc=>λg a=>?_⟩
 .have hi:i<l.length:=dd
  obtain⟨b,o,t,u⟩:=yS (f i h' ii) hi;refine⟨b,o,t,_,u,λq=>?_,λq=>λg a=>⟨rfl,rfl,l.length-(i+1),dd,i+1,dd,rfl,d i h' hi q ii,?_⟩⟩
  .show RR P lp [dh (i:Nat),dh l[i]] h' _;refine RR.mono (e i h' hi q ii) ?_;rintro r h2 ⟨rfl,w⟩;refine JD ((λg a=>⟨rfl,rfl,l.length-(i+1),dd,i+1,dd,rfl,w,?_⟩));try dsimp only
   rw[<-zf];exact a.sub de
  rw[<-zf];exact a.sub de
 have hi:i=l.length:=dd
 subst hi;show endW zB ⟨22,[],bf 235⟩ Q (exitB 0 (.exit 0)) _;rw[xM];exact s h' ii
theorem Sx{l:Ub}{v:V}{lp pc:Nat}(I:Nat->H->Prop)(hl:l.length<=1000)(h0:I 0 h)(j:ye zB 23 h (.ptr pc 0)=some v)(f:∀i h',I i h'->Sl h' v 1 l.length (zI l))(d:∀i h' (hi:i<l.length),¬0<l[i]->I i h'->I (i+1) h')(e:∀i h' (hi:i<l.length),0<l[i]->I i h'->RR P lp [dh i,dh l[i]] h' λr h2=>r = .bool true/\I (i+1) h2)(s:∀h',I l.length h'->Q (.tuple []) h'):RF P zB 285 [.yield lp,.ptr pc 0] h Q:=by
 refine zh zC4 zEp ⟨v,j,_,(f 0 h h0).len zM rfl,λtm hs=>?_⟩;refine wpC.round (λk tm h'=>∃i:Nat,i<=l.length/\k=l.length-i/\I i h'/\Has tm [(7,dh i),(6,dh l.length),(5,v),(0,.yield lp)]) l.length ⟨0,dd,dd,h0,hs.sub de⟩ ?_;clear hs;rintro k tm h' ⟨i,x,rfl,ii,hs⟩;refine cg zC4 hs ⟨λc=>?_,λc=>λg a=>?_⟩
 .have hi:i<l.length:=dd
  obtain⟨b,o,t,u⟩:=yS (f i h' ii) hi;refine⟨b,o,t,_,u,λq=>?_,λq=>λg a=>⟨rfl,rfl,l.length-(i+1),dd,i+1,dd,rfl,d i h' hi q ii,?_⟩⟩
  .show RR P lp [dh (i:Nat),dh l[i]] h' _;refine RR.mono (e i h' hi q ii) ?_;rintro r h2 ⟨rfl,w⟩;refine JD ((λg a=>⟨rfl,rfl,l.length-(i+1),dd,i+1,dd,rfl,w,?_⟩));try dsimp only
   rw[<-zf];exact a.sub de
  rw[<-zf];exact a.sub de
 have hi:i=l.length:=dd
 subst hi;show endW zB ⟨22,[],bf 285⟩ Q (exitB 0 (.exit 0)) _;rw[xM];exact s h' ii
theorem vR{k:Nat}(s:Sl h v k n xs):V.one v=true:=by have:=s.one1.2;simpa [zU]using this
theorem GC.cnt1(g:GC l)(hi:i<l.length)(h0:¬0<l[i]):cnt (l.take (i+1))=cnt (l.take i):=by have:=g.at hi;rw[yN hi,Ym,if_neg dd];rfl
theorem GC.cnt2(hi:i<l.length)(h0:0<l[i]):cnt (l.take (i+1))=cnt (l.take i)+1:=by rw[yN hi,Ym,if_pos dd]
theorem ZF{v:V}{l:Ub}{h:H}{Q:Uc}(sl:Sl h v 1 l.length (zI l))(g:GC l)(C:Q (.tuple [.int .i64 (cnt l:Nat),.int .i64 0]) h):RF P zB 101 [v] h Q:=by
 show RF P zB 101 ((λv=>[]++v::[]) v) h Q;refine RF.ro (One.list (λa r=>by cases r) (λa r=>by cases r)) sl (plain_ints l) (zk rfl) (λv0 k x N O=>?_) C;clear sl C h Q v;have ht:=zt;have D:=g.len;show RF P zB 101 [v0] k _;refine zh E1 zDK (Zc x g ⟨_,rfl,λq=>absurd rfl q,λ_=>⟨rfl,dd,?_⟩⟩);rintro p3 h4 rfl R;have E:=(Vw.nil (S:=zH) (h:=k)).new R dd;have t4:=E.top;obtain⟨y,T,F,n5,_⟩:=E.st (cx:=zB) 0 (t:=3) (f:=0) (u:=.int .i64 0) rfl dd zX rfl;have t5:=F.top;refine⟨y,T,zh zCK Bj ⟨vR x,dd,?_⟩⟩;rintro p6 d rfl U;have G:=F.new U dd;have t6:=G.top;refine⟨_,rfl,λtm hs=>?_⟩;refine Vw.range (s:=⟨_,tm,[],d⟩) G (captured:=[.ptr y.nx 0]) (show yt tm (t 12)=_ from congrArg some (hs.get rfl)) (by show d.nx+2<=_;omega) λh7 I n7=>?_
 refine WK (l:=l) (v:=v0) (λi h'=>Vw zH k h' 4 [(d.nx+1,.loop .ready none 18 tm #[13,14] Ai zAV d.nx),(d.nx,.deferred true),(y.nx,.cells (.ls [v0]) ⟨0,24,0⟩ true false),(k.nx,.cells (.ls [.int .i64 (cnt (l.take i):Nat)]) ⟨0,3+1,0⟩ true false)]) dd I (I.ld1 2 rfl zM rfl) (λi h' w=>x.ext w.ex0) (λi h' hi c w=>by rw[g.cnt1 hi c];exact w) (λi h' hi c w=>?_) λh8 z=>?_
 .have tw:=w.top;have W:=Yl (l.take i);rw[List.length_take]at W;refine w.round (il:=0) (c':=4) rfl dd (hs.sub (l':=[(5,.ptr k.nx 0)]) de) rfl λX A=>?_
  refine cg E1 A (λY B=>⟨rfl,rfl,rfl,rfl,λh1 J n1=>?_⟩);obtain⟨h2,Z,w2,n2,_⟩:=J.st (cx:=zB) 3 (t:=3) (f:=0) (u:=.int .i64 (zb ((cnt (l.take i):Nat)+1))) rfl dd zX rfl;refine cg E1 B ⟨_,J.ld1 3 rfl zX rfl,h2,Z,λe j=>⟨rfl,rfl,_,w2,by show h2.nx<=_;omega,rfl,λh3 w3 n3 _=>⟨rfl,?_⟩⟩⟩;try dsimp only
  rw[GC.cnt2 hi c,<-zf];exact w3
 have t8:=z.top;rw[List.take_length]at z;refine⟨4,_,z,dd,λK o M n9 _=>?_⟩;show Wf E1 zBI ⟨18,tm,[.coll d.nx],K⟩ (endW zB ⟨18,[.tmp 2,.tmp 3],bf 101⟩ _);refine sg hs ⟨_,M.ld1 3 rfl zX rfl,λe j=>?_⟩;show Kr [.coll d.nx] K _;refine M.ends (i:=1) rfl dd λh10 w10 n10 _=>?_
 show V.tuple [zq e 2,zq e 3]=_;rw[j.get (t:=2) rfl,j.get (t:=3) rfl]
def qG(l:Ub):Nat->Int
 | 0=>-1
 | n+1=>if 0<l[n]?.getD 0 then n else qG l n
theorem J3(hi:i<l.length):qG l (i+1)=if 0<l[i] then (i:Int) else qG l i:=by show(if 0<l[i]?.getD 0 then (i:Int) else qG l i)=_;rw[oQ hi];rfl
theorem rU(g:GC l):∀n,n<=l.length->(0<=qG l n↔cnt (l.take n)≠0)
 | 0,_=>by simp[qG,cnt]
 | n+1,h=>by
  have ih:=rU g n dd;rw[J3 dd];by_cases c:0<l[n]
  .rw[if_pos c,GC.cnt2 dd c];omega
  rw[if_neg c,g.cnt1 dd c];exact ih
theorem CC{v:V}{l:Ub}{h:H}{Q:Uc}(sl:Sl h v 1 l.length (zI l))(g:GC l)(M:cnt l≠0)(C:Q (.tuple [.int .i64 (qG l l.length),.int .i64 0]) h):RF P zB 237 [v] h Q:=by
 show RF P zB 237 ((λv=>[]++v::[]) v) h Q;refine RF.ro (One.list (λa r=>by cases r) (λa r=>by cases r)) sl (plain_ints l) (zk rfl) (λv0 k x N O=>?_) C;clear sl C h Q v;have ht:=zt;have D:=g.len;have R:=(rU g l.length (oR _)).2 (by rw[List.take_length];exact M);show RF P zB 237 [v0] k _;refine zh E4 zEP (Zc x g ⟨_,rfl,λq=>absurd rfl q,λ_=>⟨rfl,dd,?_⟩⟩);rintro p3 h4 rfl T;have E:=(Vw.nil (S:=zH) (h:=k)).new T dd;have t4:=E.top;obtain⟨y,U,F,n5,_⟩:=E.st (cx:=zB) 0 (t:=3) (f:=0) (u:=.int .i64 (-1)) rfl dd zX rfl;have t5:=F.top;refine⟨y,U,zh zCK Bj ⟨vR x,dd,?_⟩⟩;rintro p6 d rfl W;have G:=F.new W dd;have t6:=G.top;refine⟨_,rfl,λtm hs=>?_⟩;refine Vw.range (s:=⟨_,tm,[],d⟩) G (captured:=[.ptr y.nx 0]) (show yt tm (t 13)=_ from congrArg some (hs.get rfl)) (by show d.nx+2<=_;omega) λh7 I n7=>?_
 refine WK (l:=l) (v:=v0) (λi h'=>Vw zH k h' 4 [(d.nx+1,.loop .ready none 20 tm #[14,15] Ak zAX d.nx),(d.nx,.deferred true),(y.nx,.cells (.ls [v0]) ⟨0,24,0⟩ true false),(k.nx,.cells (.ls [.int .i64 (qG l i)]) ⟨0,3+1,0⟩ true false)]) dd I (I.ld1 2 rfl zM rfl) (λi h' w=>x.ext w.ex0) (λi h' hi c w=>by rw[J3 hi,if_neg c];exact w) (λi h' hi c w=>?_) λh8 J=>?_
 .have tw:=w.top;refine w.round (il:=0) (c':=4) rfl dd (hs.sub (l':=[(5,.ptr k.nx 0)]) de) rfl λX z=>?_
  refine cg E4 z (λY A=>⟨rfl,rfl,rfl,rfl,λh1 Z n1=>?_⟩);obtain⟨h2,e2,w2,n2,_⟩:=Z.st (cx:=zB) 3 (t:=3) (f:=0) (u:=.int .i64 (i:Nat)) rfl dd zX rfl;refine cg E4 A ⟨h2,e2,λe j=>⟨rfl,rfl,_,w2,by show h2.nx<=_;omega,rfl,λh3 w3 n3 _=>⟨rfl,?_⟩⟩⟩;try dsimp only
  rw[J3 hi,if_pos c];exact w3
 have t8:=J.top;refine⟨4,_,J,dd,λK o B n9 _=>?_⟩;show Wf E4 zBQ ⟨20,tm,[.coll d.nx],K⟩ (endW zB ⟨20,[.tmp 2,.tmp 3],bf 237⟩ _);refine sg hs ⟨_,B.ld1 3 rfl zX rfl,λq=>dd,λ_=>⟨_,B.ld1 3 rfl zX rfl,λe j=>?_⟩⟩;show Kr [.coll d.nx] K _;refine B.ends (i:=1) rfl dd λh10 w10 n10 _=>?_
 show V.tuple [zq e 2,zq e 3]=_;rw[j.get (t:=2) rfl,j.get (t:=3) rfl]
theorem sH(sl:Sl h v 1 l.length (zI l))(g:GC l)(a:cnt l≠0)(d:Q (.tuple [dh (yy l:Nat),dh (cnt l:Nat),dh 0]) h):RF P zB 236 [v] h Q :=
 zh zH4 zEO (Lw sl g ⟨_,_,rfl,λq=>absurd rfl q,λ_=>ZF sl g ⟨_,_,rfl,λq=>absurd dd a,λ_=>d⟩⟩)
theorem zAm(sl:Sl h v 1 l.length (zI l))(g:GC l)(w:cnt l≠0)(x:cnt l<=12)(hs:yy l<=255)(u:Q (.tuple [dh 5,dh 0]) h):RF P zB 171 [v,dh 6] h Q:=by
 refine zh zHL zDd (sH sl g w ⟨_,_,_,rfl,λq=>absurd rfl q,λ_=>⟨λq=>absurd q dg,λ_=>⟨λq=>absurd q dg,λ_=>λtm hs=>?_⟩⟩⟩);refine sg hs ?_;refine⟨((1*2^6:Nat):Int),zr (a:=1) (n:=6) dg dg,λq=>dd,λ_=>λy j=>?_⟩;refine thenC.nx (j.sealK λz k=>?_);have hb:zQ (cnt l)<=5:=zo;refine sg k (nZ ⟨_,rfl,λc=>?_,λc=>λo e=>?_⟩)
 .have B:zQ (yy l-1)<=8:=zo;have A:zb (((yy l:Nat):Int)-1)=((yy l-1:Nat):Int):=by rw[zD dd dd];omega
  have C:=wq (yy l-1);show RF P zB _ [dh (zb _)] _ _;rw[A];refine lM ⟨_,rfl,λo e=>?_⟩;refine sg e (λr f=>f.slt λs d=>?_);have t:min (6:Int) (max (max 5 (hi ((cnt l:Nat):Int)+1)) (zb (hi ((yy l-1:Nat):Int)-2)))=5:=by rw[wq,zD dd dd];omega
  rw[t]at d;exact endW.r2 (d.get rfl) (d.get rfl) u
 refine sg e (λr f=>f.slt λs d=>?_);have t:min (6:Int) (max 5 (hi ((cnt l:Nat):Int)+1))=5:=by rw[wq];omega
 rw[t]at d;exact endW.r2 (d.get rfl) (d.get rfl) u
section
open Go (Oper)
abbrev Be:V:=.func (.func 241) [] []
def yf(l:Ub):Nat->Nat
 | 0=>0
 | n+1=>if l[yf l n]?.getD 0<l[n]?.getD 0 then n else yf l n
theorem Q9(l:Ub)(n:Nat):yf l (n+1)<=n:=by
 induction n with
 | zero=>unfold yf;split<;>simp[yf]
 | succ n ih=>unfold yf;split<;>omega
theorem Dg(l:Ub)(n:Nat):yf l n<=n:=by
 rcases n with _|n
 .exact oR _
 have:=Q9 l n;omega
theorem N3(hi:i<l.length)(a:yf l i<l.length):yf l (i+1)=if l[yf l i]<l[i] then i else yf l i:=by show(if l[yf l i]?.getD 0<l[i]?.getD 0 then i else yf l i)=_;rw[oQ hi,oQ a];rfl
theorem Vd{v:V}{l:Ub}{h:H}{Q:Uc}(sl:Sl h v 1 l.length (zI l))(r:h.nx<=T.top)(d:h.low<=T.top)(w:Q (dh (yf l l.length:Nat)) h)(hl:l.length<=1000:=by omega):RF P zB 240 [v,Be] h Q:=by
 refine zh B3 zES ⟨_,sl.len zM rfl,λtm hs=>?_⟩;refine wpC.round (λk tm h'=>∃i:Nat,i<=l.length/\k=l.length-i/\h'=h/\Has tm [(10,dh i),(9,dh l.length),(8,v),(5,dh (yf l i:Nat)),(0,v),(1,Be)]) l.length ⟨0,dd,dd,rfl,hs.sub de⟩ ?_;clear hs;rintro k tm h' ⟨i,I,rfl,rfl,hs⟩;refine cg B3 hs ⟨λc=>?_,λc=>λy f=>?_⟩
 .have hi:i<l.length:=dd
  have s:yf l i<l.length:=by have:=Dg l i;omega
  obtain⟨b,o,A,t⟩:=yS sl hi;obtain⟨B,C,D,u⟩:=yS sl s;have a:=N3 hi s;generalize l[i]=x at t a;generalize l[yf l i]=z at u a;refine⟨b,o,A,x,t,⟨r,d⟩,zh zCW Bm ⟨_,rfl,nd r d ⟨B,C,D,z,u,zh zCW Bm ⟨_,rfl,λE F=>⟨by cases E;rfl,F⟩,λg=>λj e=>⟨rfl,rfl,l.length-(i+1),dd,i+1,dd,rfl,rfl,?_⟩,λg=>λj e=>⟨rfl,rfl,l.length-(i+1),dd,i+1,dd,rfl,rfl,?_⟩⟩⟩⟩⟩
  .rw[if_pos g]at a;rw[a,<-zf];exact e.sub de
  rw[if_neg g]at a;rw[a,<-zf];exact e.sub de
 have hi:i=l.length:=dd
 subst hi;refine thenC.left (sg f (λG q=>?_));exact endW.r1 (q.get rfl) w
end
def zz(l:Ub)(s:Nat):Nat:=(l.filter λx=>decide (x=(s:Int))).length
theorem Lo(l:Ub)(x:Int)(s:Nat):zz (l++[x]) s=zz l s+(if x=s then 1 else 0):=by unfold zz;rw[List.filter_append,oW];congr 1;by_cases c:x=(s:Int)<;>simp[c]
theorem qR(l:Ub)(s:Nat):zz l s<=l.length:=List.length_filter_le _ _
def JS(n:Nat)(l:Ub):Ub:=(List.range n).map λs=>((zz l s:Nat):Int)
abbrev yi(l:Ub):Ub:=JS 12 l
theorem xL(n:Nat)(l:Ub):(JS n l).length=n:=by simp[JS]
theorem jA{s:Nat}(h:s<n:=by omega):(JS n l)[s]? = some ((zz l s:Nat):Int):=by unfold JS;rw[od,List.getElem?_range h];rfl
theorem Jz{s:Nat}(h:s<n):(JS n l).set s ((zz l s+1:Nat):Int)=JS n (l++[(s:Int)]):=by
 apply List.ext_getElem?;intro i;by_cases c:i<n
 .rw[jA c,Lo];by_cases e:s=i
  .subst e;rw[List.getElem?_set_self (by rw[xL];exact h),if_pos rfl]
  rw[og e,jA c,if_neg dd];rfl
 rw[ov (by rw[ox,xL];omega),ov (by rw[xL];omega)]
theorem Yn(n:Nat):JS n []=List.replicate n 0:=by
 apply List.ext_getElem?;intro i;by_cases c:i<n
 .rw[jA c,List.getElem?_replicate,if_pos c];rfl
 rw[ov (by rw[xL];omega),ov (by simp;omega)]
theorem eW(hl:l.length<=255):GC (yi l):=⟨by rw[xL];decide,λx a=>by
 unfold yi JS at a;obtain⟨s,_,rfl⟩:=List.mem_map.1 a;have:=qR l s;omega⟩
theorem X9:∀{l:Ub},wO l=true->yy (yi l)=l.length
 | [],_=>by unfold yi;rw[Yn];rfl
 | x::l,h=>by
  have h2:wO l=true:=by have:wO ([x]++l)=true:=h;rw[jw,oI]at this;exact this.2
  have a:=yq h (List.mem_cons_self ..);have ih:=X9 h2;have e:∀s,zz (x::l) s=zz l s+(if x=(s:Int) then 1 else 0):=λs=>by
   unfold zz;by_cases c:x=(s:Int)
   .rw[List.filter_cons_of_pos (by simpa using c),if_pos c];rfl
   rw[List.filter_cons_of_neg (by simpa using c),if_neg c];rfl
  have f:∀m:Ub,yy (yi m)=zz m 0+(zz m 1+(zz m 2+(zz m 3+(zz m 4+(zz m 5+(zz m 6+(zz m 7+(zz m 8+(zz m 9+(zz m 10+(zz m 11+0))))))))))):=λm=>by
   have:List.range 12=[0,1,2,3,4,5,6,7,8,9,10,11]:=dg
   unfold yy yi JS;rw[this];simp
  rw[f,oc,<-ih,f];simp only[e];have:x=0\/x=1\/x=2\/x=3\/x=4\/x=5\/x=6\/x=7\/x=8\/x=9\/x=10\/x=11:=dd
  rcases this with rfl|rfl|rfl|rfl|rfl|rfl|rfl|rfl|rfl|rfl|rfl|rfl<;>simp<;>omega
theorem aR{p k:Nat}(a:k<256):xK zB 206 (.ptr p 0) (dh k)=some (.ptr p k):=by unfold xK;have d:ya (k:Int)=some k:=rfl;simp only[d,Fz,zX,(zW _ _).2 a,oN,Nat.mul_one,Nat.zero_add]
theorem R1{v:V}{l:Ub}(sl:Sl h v 1 l.length (zI l))(A:wO l=true)(hl:l.length<=255)(U:h.nx+1<=T.top)(J:∀h',Ext h h' 1->Sl h' (.slice h.nx 0 12 (.exact 12)) 1 12 (zI (yi l))->Q (.tuple [.slice h.nx 0 12 (.exact 12),dh 0]) h'):RF P zB 100 [v,dh 11] h Q:=by
 obtain⟨B,K,y⟩:=J6;refine zh zCD zDJ ⟨λc=>absurd c dg,λ_=>⟨λc=>absurd c dg,λ_=>λtm hs=>?_⟩⟩;refine sg hs ⟨_,sl.len zM rfl,λc=>dd,λ_=>⟨_,K,dd,?_⟩⟩;rintro W h2 rfl z;have t:=(Vw.nil (S:=zH) (h:=h)).new z dd;have M:=t.top;refine⟨_,(sl.ext t.ex0).len zM rfl,λC d=>?_⟩;refine wpC.round (λk tm h'=>∃(i:Nat) (cs:Cs),i<=l.length/\k=l.length-i/\Vw zH h h' 1 [(h.nx,.cells cs ⟨0,206+1,0⟩ true false)]/\Row cs 256 (zI (JS 256 (l.take i))) /\
  Has tm [(20,dh i),(19,dh l.length),(18,v),(1,dh 11),(6,.ptr h.nx 0)]) l.length ⟨0,B,dd,dd,t,by rw[List.take_zero,Yn];exact y,d.sub de⟩ ?_
 clear hs d t z M;rintro k tm h' ⟨i,cs,N,rfl,w,row,hs⟩;have X:=w.top;refine cg zCD hs ⟨λc=>?_,λc=>λO D=>?_⟩
 .have hi:i<l.length:=dd
  obtain⟨b,o,a1,a2⟩:=yS (sl.ext w.ex0) hi;have hr:=yq A (oV hi);have I:=yN hi;have g:=qR (l.take i) l[i].toNat;rw[List.length_take]at g;generalize l[i]=x at a2 hr I g;obtain⟨s,rfl⟩:∃s:Nat,x=s:=⟨x.toNat,dd⟩;rw[oe]at g;refine⟨b,o,a1,_,a2,λY=>dd,λ_=>⟨λZ=>dd,λ_=>λC d=>?_⟩⟩;have a:s<256:=dd
  have q:cs.get? s=some (dh (zz (l.take i) s:Nat)):=by rw[row.2.2.2 s a,od,jA a];rfl
  have ev:zb (((zz (l.take i) s:Nat):Int)+1)=((zz (l.take i) s+1:Nat):Int):=zf;obtain⟨h2,E,z,f,t,n2⟩:=w.set (cx:=zB) 0 (j:=s) (u:=dh ((zz (l.take i) s+1:Nat):Int)) row rfl dd a zX rfl rfl rfl rfl;rw[<-xY,Jz a,<-I]at f;refine sg d ⟨_,_,aR a,_,w.ld1 0 rfl zX q,_,_,aR a,h2,by rw[ev];exact z,λF r=>?_⟩;refine thenC.nx (sg r (λG e=>e.slt λR H=>⟨rfl,rfl,l.length-(i+1),dd,i+1,E,dd,rfl,t,f,?_⟩));try dsimp only
  rw[<-zf];exact H.sub de
 have hi:i=l.length:=dd
 subst hi;rw[List.take_length]at row;refine thenC.left (sg D ⟨_,Jb (n:=12) dg,λF r=>r.slt λG e=>endW.r2 (e.get rfl) (e.get rfl) (J h' w.ex0 ?_)⟩);refine⟨by rw[jU,xL],.inr ⟨h.nx,0,_,cs,_,_,_,rfl,w.lt 0 rfl,w.get 0 rfl,λj hj=>?_⟩⟩;rw[Nat.zero_add,row.2.2.2 j dd,od,od,jA,jA]
theorem Xf:∀{p:Ub}{i:Nat}{x:Int},(h:i<p.length)->pts (p.set i x)=pts p-pt p[i]+pt x
 | [],_,_,h=>by cases h
 | y::p,0,x,_=>by rw[List.set_cons_zero,xC,xC,List.getElem_cons_zero];omega
 | y::p,i+1,x,h=>by rw[List.set_cons_succ,xC,xC,List.getElem_cons_succ,Xf (p:=p) (by simpa using h)];omega
theorem qZ(x:Int):0<=pt x:=by unfold pt;split<;>omega
theorem fB:∀{p:Ub},(∀x∈p,x<=1)->pts p<=p.length
 | [],_=>by simp[pts]
 | x::p,h=>by
  have d:=h x (by simp);have h2:=fB (p:=p) λy a=>h y (by simp[a])
  rw[xC,oc];unfold pt;split<;>omega
theorem KN{l:Ub}:∀{n j:Nat},j<n->l[j]?.getD 0<=l[yf l n]?.getD 0
 | 0,_,h=>by cases h
 | n+1,j,h=>by
  unfold yf;by_cases c:l[yf l n]?.getD 0<l[n]?.getD 0
  .rw[if_pos c];by_cases e:j=n
   .rw[e];exact oU _
   have:=KN (l:=l) (n:=n) (j:=j) dd;omega
  rw[if_neg c];by_cases e:j=n
  .rw[e];omega
  exact KN dd
theorem wc(h:i<l.length):l[i]?.getD 0=l[i]:=by rw[oQ h];rfl
theorem Q8(h:0<l.length):yf l l.length<l.length:=by obtain⟨n,a⟩:∃n,l.length=n+1:=⟨l.length-1,dd⟩;rw[a];have:=Q9 l n;omega
def nL(p:Ub):Ub:=p.set (yf p p.length) (p[yf p p.length]?.getD 0-1)
theorem HW(p:Ub):(nL p).length=p.length:=by simp[nL]
structure PR (p:Ub):Prop where
 pos:1<=p.length
 len:p.length<=12
 low:∀x∈p,-1<=x
 last:p.getLast?≠some 0
theorem PR.big(g:PR p)(h:32<pts p:=by omega):2<=p[yf p p.length]?.getD 0:=by
 have d:=g.len;by_cases c:2<=p[yf p p.length]?.getD 0
 .exact c
 have:=fB (p:=p) λx a=>by obtain⟨i,hi,rfl⟩:=List.mem_iff_getElem.1 a;have:=KN (l:=p) hi;rw[wc hi]at this;omega
 omega
theorem Wn{x:Int}(a:x≠0)(h:p.getLast?≠some 0):(p.set i x).getLast?≠some 0:=by
 rw[List.getLast?_eq_getElem?]at h ⊢;rw[ox];by_cases e:i=p.length-1
 .by_cases hp:i<p.length
  .rw[<-e,List.getElem?_set_self hp];intro g;exact a (Option.some.inj g)
  rw[ov (by rw[ox];omega)];intro g;cases g
 rw[og e];exact h
theorem PR.set(g:PR p){x:Int}(hx:1<=x):PR (p.set i x) where
 pos:=by rw[ox];exact g.pos
 len:=by rw[ox];exact g.len
 low:=λy hy=>by
  rcases List.mem_or_eq_of_mem_set hy with h|rfl
  .exact g.low y h
  omega
 last:=Wn dd g.last
theorem PR.dec(g:PR p)(h:32<pts p:=by omega):PR (nL p)/\pts (nL p)=pts p-1:=by
 have hb:=g.big h;have hi:=Q8 (l:=p) g.pos;refine⟨g.set dd,?_⟩;unfold nL;rw[Xf hi];rw[wc hi]at hb ⊢;have a:pt p[yf p p.length]=p[yf p p.length]:=by unfold pt;rw[if_neg dd]
 have d:pt (p[yf p p.length]-1)=p[yf p p.length]-1:=by unfold pt;rw[if_neg dd]
 omega
def sN:Nat->Ub->Ub
 | 0,p=>p
 | k+1,p=>sN k (nL p)
theorem QV:∀{k:Nat}{p:Ub},PR p->pts p=32+k->GD 5 (sN k p)
 | 0,p,g,h=>⟨.inl rfl,g.pos,g.len,g.low,g.last,by show pts p=2^5;omega⟩
 | k+1,p,g,h=>by obtain⟨a,d⟩:=g.dec;exact QV (p:=nL p) a dd
def YT(tot:Nat)(n:Int):Int:=if 0<n then (if n.toNat*32/tot=0 then -1 else ((n.toNat*32/tot:Nat):Int)) else 0
theorem WP(tot:Nat)(n:Int): -1<=YT tot n:=by
 unfold YT;split
 .split
  .decide
  exact Int.le_trans dg (Int.natCast_nonneg _)
 decide
theorem PF{n:Int}(h:0<n):YT tot n≠0:=by unfold YT;rw[if_pos h];split<;>omega
theorem LN{n:Int}(h:¬0<n):YT tot n=0:=by unfold YT;rw[if_neg h]
theorem PE{n:Int}(h:n.toNat<=tot):YT tot n<=32:=by
 unfold YT;split
 .split
  .decide
  have:n.toNat*32/tot<=32:=by
   rcases Nat.eq_zero_or_pos tot with a|a
   .subst a;simp
   exact Nat.le_of_lt_succ ((Nat.div_lt_iff_lt_mul a).2 (by
    have:n.toNat*32<=tot*32:=Nat.mul_le_mul_right _ h;omega))
  omega
 decide
def shr(tot n:Nat)(c:Ub)(i:Nat):Ub:=(List.range n).map λs=>if s<i then YT tot (c[s]?.getD 0) else 0
theorem kb(tot n:Nat)(c:Ub)(i:Nat):(shr tot n c i).length=n:=by simp[shr]
theorem XL{s:Nat}(h:s<n):(shr tot n c i)[s]? = some (if s<i then YT tot (c[s]?.getD 0) else 0):=by unfold shr;rw[od,List.getElem?_range h];rfl
theorem F9(tot n:Nat)(c:Ub):shr tot n c 0=List.replicate n 0:=by
 apply List.ext_getElem?;intro i;by_cases h:i<n
 .rw[XL h,List.getElem?_replicate,if_pos h,if_neg dd]
 rw[ov (by rw[kb];omega),ov (by simp;omega)]
theorem Cu(h:i<n):(shr tot n c i).set i (YT tot (c[i]?.getD 0))=shr tot n c (i+1):=by
 apply List.ext_getElem?;intro j;by_cases a:j<n
 .rw[XL a];by_cases e:i=j
  .subst e;rw[List.getElem?_set_self (by rw[kb];exact h),if_pos dd]
  rw[og e,XL a];by_cases c1:j<i
  .rw[if_pos c1,if_pos dd]
  rw[if_neg c1,if_neg dd]
 rw[ov (by rw[ox,kb];omega),ov (by rw[kb];omega)]
theorem F8(h:i<n->¬0<c[i]?.getD 0):shr tot n c (i+1)=shr tot n c i:=by
 apply List.ext_getElem?;intro j;by_cases a:j<n
 .rw[XL a,XL a];by_cases e:i=j
  .subst e;rw[if_pos dd,if_neg dd,LN (h a)]
  by_cases c1:j<i
  .rw[if_pos c1,if_pos dd]
  rw[if_neg c1,if_neg dd]
 rw[ov (by rw[kb];omega),ov (by rw[kb];omega)]
theorem T8{x:Int}(a:Q (dh (pt x)) h):RF P zB 239 [dh x] h Q:=by
 unfold pt at a;refine zh zH6 zER ⟨λc=>?_,λc=>?_⟩
 .rw[if_pos c]at a;exact a
 rw[if_neg c]at a;exact a
theorem PR.rng(g:PR p):pts p<=100000->∀x∈p,x<=100000:=λh x a=>by
 obtain⟨i,hi,rfl⟩:=List.mem_iff_getElem.1 a;have e:=Xf (p:=p) (i:=i) (x:=0) hi;have h2:0<=pts (p.set i 0):=by
  have:=xr (l:=p.set i 0) λy d=>by
   rcases List.mem_or_eq_of_mem_set d with q|rfl
   .exact g.low y q
   decide
  omega
 have h3:pt 0=0:=rfl;have h4:p[i]<=pt p[i]:=by unfold pt;split<;>omega
 omega
theorem fW{hb h:H}{E lp df r e z b p9 x p0 m k:Nat}{F G I J:O}{cs:Cs}{p:Ub}{tm:Tm}{d:List AD}{R:Ud}(hs:Has tm [(4,.ptr x 0),(3,.ptr p0 0),(11,.ptr z 0),(12,.ptr e 0)])(w:Vw zH hb h E [(lp,F),(df,G),(r,I),(e,jb (-(k:Nat))),(z,Ya (.slice b 0 m (.exact m))),(b,yV cs),(p9,J),(x,oD 0 .nilslice),(p0,jb 5)])(row:Row cs m (zI p))(g:PR p)(hp:pts p=32+k)(hk:k<=1000)(hn:h.nx<=T.top)(X:hb.low<=T.top)(hR:∀h' A cs',Vw zH hb h' E [(lp,F),(df,G),(r,I),(e,jb 0),(z,Ya (.slice b 0 m (.exact m))),(b,yV cs'),(p9,J),(x,oD 5 (.slice b 0 m (.exact m))),(p0,jb 5)]->h'.nx=h.nx->Row cs' m (zI (sN k p))->Has A [(4,.ptr x 0),(5,dh 0)]->R .ret ⟨105,A,d,h'⟩):
  Wf eD zBM ⟨105,tm,d,h⟩ R:=by
 refine sg hs (λB a=>?_);refine wpC.round (λj tm h'=>∃(q:Ub) (cs:Cs),PR q/\pts q=32+j/\sN j q=sN k p/\j<=k/\h'.nx=h.nx/\Row cs m (zI q)/\Has tm [(4,.ptr x 0),(3,.ptr p0 0),(11,.ptr z 0),(12,.ptr e 0)] /\
  Vw zH hb h' E [(lp,F),(df,G),(r,I),(e,jb (-(j:Nat))),(z,Ya (.slice b 0 m (.exact m))),(b,yV cs),(p9,J),(x,oD 0 .nilslice),(p0,jb 5)]) k ⟨p,cs,g,hp,rfl,oR _,rfl,row,a.sub de,w⟩ ?_
 clear hs a w row g hp cs;rintro j tm h' ⟨q,cs,g,hp,hd,hjk,hnx,row,hs,w⟩;refine cg eD hs ⟨_,w.ld1 3 rfl zX rfl,λc=>?_,λc=>?_⟩
 .have hj:j=0:=dd
  subst hj;obtain⟨h2,K,D,n2,_⟩:=w.st (cx:=zB) 7 (t:=59) (f:=0) (u:=.agg [dh 5,.slice b 0 m (.exact m)]) rfl dd xE rfl;refine λB a=>thenC.left (sg a ⟨_,w.ld1 8 rfl zX rfl,_,w.ld1 4 rfl zM rfl,⟨h2,K,λtm2 M=>M.slt λN P=>?_⟩⟩)
  refine hR h2 N cs D dd ?_ (P.sub de);rw[<-hd];exact row
 obtain⟨y,rfl⟩:∃y,j=y+1:=⟨j-1,dd⟩
 have C:h'.low<=T.top:=by have:=w.low;omega
 have hi:=Q8 (l:=q) g.pos;have U:=g.big;rw[wc hi]at U;have Y:row.2.2.1=row.2.2.1:=rfl;have V:q.length=m:=by have:=row.2.2.1;rwa [jU]at this
 have sq:Sl h' (.slice b 0 m (.exact m)) 1 q.length (zI q):=by rw[V];exact row.sl (w.lt 5 rfl) (w.get 5 rfl)
 have g12:=g.len;have hrg:=g.rng dd _ (oV hi);obtain⟨g2,p2'⟩:=g.dec;have s:cs.get? (yf q q.length)=some (dh q[yf q q.length]):=by rw[row.2.2.2 _ dd,od,oQ hi];rfl
 obtain⟨h2,W,K,o,D,n2⟩:=w.set (cx:=zB) 5 (j:=yf q q.length) (u:=dh (q[yf q q.length]-1)) row rfl dd dd zX rfl rfl rfl rfl;have er:(zI q).set (yf q q.length) (dh (q[yf q q.length]-1))=zI (nL q):=by unfold nL;rw[xY,wc hi]
 rw[er]at o;obtain⟨h3,e3,w3,n3,_⟩:=D.st (cx:=zB) 3 (t:=3) (f:=0) (u:=dh (-((y:Nat):Int))) rfl dd zX rfl;have Z:=jz (h:=h') dd C;refine⟨⟨dd,C⟩,_,w.ld1 4 rfl zM rfl,_,w.ld1 4 rfl zM rfl,Vd (show Sl (z8 h') _ 1 q.length (zI q)from sq) (show h'.nx<=_ by omega) (oR _) ⟨_,rfl,Z.1,λh6 e6=>?_⟩⟩;rw[Z.2]at e6;subst e6;refine⟨b,_,yp zM rfl zX rfl,_,w.ld1 5 rfl zX s,b,_,yp zM rfl zX rfl,h2,by rw[zD dd dd];exact K,_,D.ld1 3 rfl zX rfl,h3,?_,λB a=>?_⟩
 .rw[zD dd dd,show -(((y+1:Nat):Int))+1 = -((y:Nat):Int)by omega];exact e3
 exact⟨rfl,rfl,y,dd,nL q,W,g2,dd,hd,dd,by show h3.nx=h.nx;omega,o,a.sub de,w3⟩
structure LP (c:Ub) (m:Nat):Prop where
 pos:1<=m
 le:m<=c.length
 at':0<c[m-1]?.getD 0
 hi:∀j,m<=j->¬0<c[j]?.getD 0
 is:qG c c.length=(m:Int)-1
theorem Vq(l:Ub):∀{n j:Nat},j<n->0<l[j]?.getD 0->(j:Int)<=qG l n
 | 0,_,h,_=>by cases h
 | n+1,j,h,a=>by
  unfold qG;by_cases c:0<l[n]?.getD 0
  .rw[if_pos c];omega
  rw[if_neg c];have:j≠n:=λe=>c (by rw[<-e];exact a)
  exact Vq l dd a
theorem Vp(l:Ub):∀{n:Nat},0<=qG l n->∃s:Nat,qG l n=s/\s<n/\0<l[s]?.getD 0
 | 0,h=>absurd (show(0:Int)<=-1 from h) dg
 | n+1,h=>by
  unfold qG at h ⊢;by_cases c:0<l[n]?.getD 0
  .rw[if_pos c];exact⟨n,rfl,dd,c⟩
  rw[if_neg c]at h ⊢;obtain⟨s,a,h2,h3⟩:=Vp l h;exact⟨s,a,dd,h3⟩
def Zl(c:Ub):Nat:=(qG c c.length+1).toNat
theorem gY(g:GC c)(a:cnt c≠0):LP c (Zl c):=by
 have d:=(rU g c.length (oR _)).2 (by rw[List.take_length];exact a);obtain⟨s,f,h2,h3⟩:=Vp c d;have hm:Zl c=s+1:=by unfold Zl;omega
 rw[hm];refine⟨dd,dd,by simpa using h3,λj k q=>?_,dd⟩;have hl:j<c.length:=by
  by_cases e:j<c.length
  .exact e
  rw[ov]at q;exact absurd q dg
 have:=Vq c hl q;omega
theorem zBG{p:Ub}{b:Nat}(h:∀x∈p,x<=b)(hb:1<=b):pts p<=((b*p.length:Nat):Int):=by
 induction p with
 | nil=>simp[pts]
 | cons x p ih =>
  have d:=h x (by simp);have h2:=ih λy a=>h y (by simp[a])
  rw[xC,oc,Nat.mul_succ];have:pt x<=b:=by unfold pt;split<;>omega
  omega
structure CD (c:Ub):Prop where
 gc:GC c
 len:c.length<=12
 ne:cnt c≠0
 sum:yy c<=255
 pos:0<yy c
 each:∀x∈c,x.toNat<=yy c
def jc(c:Ub)(i:Nat):Ub:=shr (yy c) (Zl c) c i
theorem CD.get(g:CD c)(j:Nat):(c[j]?.getD 0).toNat<=yy c:=by
 by_cases h:j<c.length
 .rw[wc h];exact g.each _ (oV h)
 rw[ov];exact oM _
theorem CD.mem(g:CD c){x:Int}(h:x∈jc c i): -1<=x/\x<=((32:Nat):Int):=by
 unfold jc shr at h;obtain⟨s,_,rfl⟩:=List.mem_map.1 h;split
 .exact⟨WP _ _,PE (g.get s)⟩
 omega
theorem CD.pb(g:CD c)(i:Nat):0<=pts (jc c i)/\pts (jc c i)<=384:=by
 have d:=zBG (p:=jc c i) (b:=32) (λx a=>(g.mem a).2) dg;have h2:=xr (l:=jc c i) λx a=>(g.mem a).1
 have h3:(jc c i).length=Zl c:=kb _ _ _ _;have h4:=(gY g.gc g.ne).le;have e:=g.len;rw[h3]at d;omega
theorem CD.pr(g:CD c):PR (jc c c.length):=by have l:=gY g.gc g.ne;have hl:(jc c c.length).length=Zl c:=kb _ _ _ _;refine⟨by rw[hl];exact l.pos,by rw[hl];have:=l.le;have:=g.len;omega,λx a=>(g.mem a).1,?_⟩;rw[List.getLast?_eq_getElem?,hl];unfold jc;have:=l.pos;have:=l.le;rw[XL dd,if_pos dd];intro q;exact PF l.at' (Option.some.inj q)
theorem CD.g_lt(g:CD c):yf c c.length<Zl c:=by
 have l:=gY g.gc g.ne;have a:=KN (l:=c) (n:=c.length) (j:=Zl c-1) (by have:=l.pos;have:=l.le;omega);have h2:=l.at';rcases Nat.lt_or_ge (yf c c.length) (Zl c)with h|h
 .exact h
 exact absurd (show 0<c[yf c c.length]?.getD 0 by omega) (l.hi _ h)
def YH(c:Ub):Ub :=
 if 0<32-pts (jc c c.length) then (jc c c.length).set (yf c c.length) (pt ((jc c c.length)[yf c c.length]?.getD 0)+(32-pts (jc c c.length))) else jc c c.length
def ZZ(c:Ub):Ub:=sN (pts (YH c)-32).toNat (YH c)
theorem CD.fix{c:Ub}(g:CD c):PR (YH c)/\32<=pts (YH c)/\pts (YH c)<=384/\(YH c).length=Zl c:=by
 have a:=g.pb c.length;have hl:(jc c c.length).length=Zl c:=kb _ _ _ _;unfold YH;split
 .rename_i h;have hi:yf c c.length<(jc c c.length).length:=by rw[hl];exact g.g_lt
  have:=qZ ((jc c c.length)[yf c c.length]?.getD 0);refine⟨g.pr.set dd,?_,?_,by rw[ox];exact hl⟩;all_goals
   rw[Xf hi,wc hi];rw[wc hi]at this;generalize pt (jc c c.length)[yf c c.length]=z at *;have:pt (z+(32-pts (jc c c.length)))=z+(32-pts (jc c c.length)):=by unfold pt;rw[if_neg dd]
   omega
 exact⟨g.pr,dd,dd,hl⟩
theorem CD.gd(g:CD c):GD 5 (ZZ c):=by obtain⟨a,h2,h3,_⟩:=g.fix;exact QV a dd
theorem VI:∀(k:Nat) (p:Ub),(sN k p).length=p.length
 | 0,_=>rfl
 | k+1,p=>by show(sN k (nL p)).length=_;rw[VI k,HW]
theorem CD.nlen(g:CD c):(ZZ c).length=Zl c:=by unfold ZZ;rw[VI,g.fix.2.2.2]
theorem QG(a:wO l=true)(hl:l.length<=255)(h2:cnt (yi l)≠0:=by omega):CD (yi l):=by
 have hs:=X9 a;refine⟨eW hl,by rw[xL];decide,h2,dd,?_,λx d=>?_⟩
 .rw[hs];rcases Nat.eq_zero_or_pos l.length with h|h
  .have:l=[]:=List.eq_nil_of_length_eq_zero h;subst this;exact absurd (by unfold yi;rw[Yn];rfl) h2
  exact h
 unfold yi JS at d;obtain⟨s,_,rfl⟩:=List.mem_map.1 d;have:=qR l s;omega
theorem Xe(c:Ub)(i:Nat):(jc c i).length=Zl c:=kb _ _ _ _
theorem WW(c:Ub):jc c 0=List.replicate (Zl c) 0:=F9 _ _ _
theorem CD.step{c:Ub}(g:CD c){i:Nat}(hi:i<c.length)(h0:0<c[i]):i<Zl c/\(jc c i).set i (YT (yy c) c[i])=jc c (i+1)/\pts (jc c (i+1))=pts (jc c i)+pt (YT (yy c) c[i]):=by
 have l:=gY g.gc g.ne;have a:i<Zl c:=by
  rcases Nat.lt_or_ge i (Zl c)with h|h
  .exact h
  exact absurd (show 0<c[i]?.getD 0 by rw[wc hi];exact h0) (l.hi _ h)
 have d:(jc c i).set i (YT (yy c) c[i])=jc c (i+1):=by have:=Cu (tot:=yy c) (n:=Zl c) (c:=c) a;rw[wc hi]at this;exact this
 have hl:i<(jc c i).length:=by rw[Xe];exact a
 refine⟨a,d,?_⟩;rw[<-d,Xf hl];have:(jc c i)[i]=0:=by have h2:(jc c i)[i]? = some (if i<i then YT (yy c) (c[i]?.getD 0) else 0):=XL a;rw[oQ hl,if_neg dd]at h2;exact Option.some.inj h2
 rw[this];have:pt 0=0:=rfl;omega
theorem CD.skip(_g:CD c)(hi:i<c.length)(h0:¬0<c[i]):jc c (i+1)=jc c i:=F8 λ_=>by rw[wc hi];exact h0
theorem CD.fix32{c:Ub}(g:CD c)(h:0<32-pts (jc c c.length)):pts (YH c)=32:=by
 have hi:yf c c.length<(jc c c.length).length:=by rw[Xe];exact g.g_lt
 unfold YH;rw[if_pos h,Xf hi,wc hi];have a:=qZ (jc c c.length)[yf c c.length];have:pt (pt (jc c c.length)[yf c c.length]+(32-pts (jc c c.length)))=pt (jc c c.length)[yf c c.length]+(32-pts (jc c c.length)):=by generalize pt (jc c c.length)[yf c c.length]=y at *;unfold pt;rw[if_neg dd]
 omega
theorem Ca(h:0<n):YT tot (n:Int)=if n*32/tot=0 then -1 else ((n*32/tot:Nat):Int):=by unfold YT;rw[if_pos dd,oe]
theorem BV{v:V}{c:Ub}(sl:Sl h v 1 c.length (zI c))(g:CD c)(hn:h.nx+20<=T.top)(hlow:h.low<=T.top)(hq:∀h' b,Ext h h' 9->h.nx<=b->Sl h' (.slice b 0 (ZZ c).length (.exact (ZZ c).length)) 1 (ZZ c).length (zI (ZZ c))->Q (.tuple [.agg [.int .i64 5,.slice b 0 (ZZ c).length (.exact (ZZ c).length)],.int .i64 0]) h'):RF P zB 172 [v,.int .i64 5] h Q:=by
 have hlen:=g.len;have l:=gY g.gc g.ne;have lp1:=l.pos;have lp2:=l.le;have hsum:=g.sum;have hpos:=g.pos;have hcl:=Yl c;refine zh eD zDe ⟨rfl,dd,?_⟩;rintro p0 h1 rfl e1;have w1:=(Vw.nil (S:=zH) (h:=h)).new e1 dd;have t1:=w1.top;refine⟨dd,?_⟩;rintro p2 h3 rfl e3;have w3:=w1.new e3 dd;have t3:=w3.top;refine sH (sl.ext w3.ex0) g.gc g.ne ⟨_,_,_,rfl,rfl,dd,?_⟩;rintro p9 h10 rfl e10;have w10:=w3.new e10 dd;have t10:=w10.top;obtain⟨r,e11,G,n11,_⟩:=w10.st (cx:=zB) 0 (t:=3) (f:=0) (u:=.int .i64 (yy c:Nat)) rfl dd zX rfl;have t11:=G.top;refine⟨r,e11,λq=>absurd rfl q,λ_=>⟨_,G.ld1 2 rfl zX rfl,λq=>absurd q dg,λ_=>⟨_,G.ld1 2 rfl zX rfl,λq=>absurd q dg,λ_=>λtm hs=>?_⟩⟩⟩;refine sg hs ?_;refine⟨_,G.ld1 2 rfl zX rfl,((1*2^5:Nat):Int),zr (a:=1) (n:=5) dg dg,λq=>dd,λ_=>λtm2 hs2=>?_⟩;refine thenC.nx (hs2.sealK λtm3 hs3=>?_);clear hs hs2 tm tm2;refine sg hs3 (CC (sl.ext G.ex0) g.gc g.ne ⟨_,_,rfl,?_⟩);have em:zb (qG c c.length+1)=((Zl c:Nat):Int):=by rw[l.is,zD dd dd];omega
 obtain⟨csp,emk,row0⟩:=Row.make (cx:=zB) (k:=Zl c) (h:=r) zM rfl zX rfl rfl rfl dd (by show 8*_<=_;omega) dd;obtain⟨h5,e5⟩:∃h5,h5=r.new (yV csp):=⟨_,rfl⟩;rw[<-e5]at emk;have w5:=G.new e5 dd;have t5:=w5.top;refine⟨_,h5,by rw[em];exact emk,rfl,dd,?_⟩;rintro p6 h7 rfl e7;have w7:=w5.new e7 dd;have t7:=w7.top;obtain⟨h8,e8,w8,n8,_⟩:=w7.st (cx:=zB) 0 (t:=23) (f:=0) (u:=.slice r.nx 0 (Zl c) (.exact (Zl c))) rfl dd zM rfl;have t8:=w8.top;refine⟨h8,e8,_,w8.ld1 4 rfl zX rfl,((1*2^5:Nat):Int),zr (a:=1) (n:=5) dg dg,rfl,dd,?_⟩;rintro p11 h12 rfl e12;have w12:=w8.new e12 dd;have t12:=w12.top;obtain⟨O,e13,w13,n13,_⟩:=w12.st (cx:=zB) 0 (t:=3) (f:=0) (u:=.int .i64 ((1*2^5:Nat):Int)) rfl dd zX rfl;have t13:=w13.top;refine⟨O,e13,zh zH5 zEQ ⟨vR sl,dd,?_⟩⟩;rintro p14 d rfl e15;have w15:=w13.new e15 dd;have t15:=w15.top;refine⟨_,rfl,λI hs4=>?_⟩;refine Vw.range (s:=⟨105,I,[],d⟩) w15 (captured:=[.ptr O.nx 0]) (show yt I (t 55)=_ from congrArg some (hs4.get rfl)) (by show d.nx+2<=_;omega) λh17 w17 n17=>?_
 refine Sx (l:=c) (v:=v) (λi h'=>∃cs,Vw zH h h' 9 [(d.nx+1,.loop .ready none 105 I #[56,57] eE lI d.nx),(d.nx,.deferred true),(O.nx,.cells (.ls [v]) ⟨0,24,0⟩ true false),(h8.nx,jb (32-pts (jc c i))),(h5.nx,Ya (.slice r.nx 0 (Zl c) (.exact (Zl c)))),(r.nx,yV cs),(h3.nx,jb (yy c:Nat)),(h1.nx,oD 0 .nilslice),(h.nx,jb 5)]/\Row cs (Zl c) (zI (jc c i))) dd
  ⟨csp,by rw[WW];have:pts (List.replicate (Zl c) 0)=0:=by { have:=xr (l:=List.replicate (Zl c) 0) (λx hx=>by rw[List.eq_of_mem_replicate hx];decide);have h3:rX (List.replicate (Zl c) 0)=0:=by { unfold rX;simp };have h4:yY (List.replicate (Zl c) 0)=0:=by { unfold yY;simp };omega };rw[this];exact w17,by rw[WW,qV];exact row0⟩ (w17.ld1 2 rfl zM rfl) (λi h' w=>sl.ext w.choose_spec.1.ex0) (λi h' hi q w=>by rw[g.skip hi q];exact w) (λi h' hi q w=>?_) λh8' w8'=>?_
 .obtain⟨cs,w,row⟩:=w;have tw:=w.top;obtain⟨him,es,ep⟩:=g.step hi q;have hrng:=g.gc.at hi;have J:=g.each _ (oV hi);have hpb:=g.pb i;have hpt:0<=pt (YT (yy c) c[i]):=qZ _;have hple:=PE J;have hplo:=WP (yy c) c[i];obtain⟨n,hnn⟩:∃n:Nat,c[i]=n:=⟨c[i].toNat,dd⟩;rw[hnn]at q hrng J es ep hpt hple hplo;rw[oe]at J;have W:=Ca (tot:=yy c) (n:=n) dd;refine w.round (il:=0) (c':=9) rfl dd (hs4.sub (l':=[(3,.ptr h.nx 0),(11,.ptr h5.nx 0),(12,.ptr h8.nx 0),(6,.ptr h3.nx 0)]) de) rfl λtm0 hs0=>?_
  rw[hnn]at hs0;refine cg eD hs0 (λtm1 hs1=>⟨rfl,rfl,rfl,rfl,λh1' X n1'=>?_⟩);have hdv:n*32/yy c<=n*32:=Nat.div_le_self _ _;have e1:yD .u64 (n:Int)=((n:Nat):Int):=zV dd;have e3:zb (yD .u64 (Int.tdiv ((n*2^5:Nat):Int) (yD .u64 ((yy c:Nat):Int))))=((n*32/yy c:Nat):Int):=by rw[zV dd,show Int.tdiv ((n*2^5:Nat):Int) ((yy c:Nat):Int)=((n*2^5/yy c:Nat):Int)from rfl,show n*2^5=n*32 from rfl,zV dd,zD dd dd]
  have keep:∀(x:Int) (C:Tm),x=YT (yy c) n->Has C [(11,.ptr h5.nx 0),(13,.int .i64 (i:Nat)),(15,.int .i64 x),(12,.ptr h8.nx 0)] ->
    Wt eD (jm zBL) ⟨105,C,[],h1'⟩ (λe s1=>yL eD (λe2 s2=>e2 = .normal/\s2.dfr=[]/\∃L',Vw zH h s2.heap 9 L'/\s2.heap.nx<=T.top/\L'[0]? = some (d.nx+1,.loop .busy none 105 I #[56,57] eE lI d.nx) /\
     ∀h',Vw zH h h' 9 (L'.set 0 (d.nx+1,.loop .ready none 105 I #[56,57] eE lI d.nx))->h'.nx=s2.heap.nx->(∀b,b≠d.nx+1->h'.get b=s2.heap.get b)->V.bool true=V.bool true/\∃cs,Vw zH h h' 9 [(d.nx+1,.loop .ready none 105 I #[56,57] eE lI d.nx),(d.nx,.deferred true),(O.nx,.cells (.ls [v]) ⟨0,24,0⟩ true false),(h8.nx,jb (32-pts (jc c (i+1)))),(h5.nx,Ya (.slice r.nx 0 (Zl c) (.exact (Zl c)))),(r.nx,yV cs),(h3.nx,jb (yy c:Nat)),(h1.nx,oD 0 .nilslice),(h.nx,jb 5)]/\Row cs (Zl c) (zI (jc c (i+1)))) (exitB 2 e) s1):=by
   intro x C hx D;obtain⟨h2',cs2,e2',E,w2',n2'⟩:=X.set (cx:=zB) 5 (j:=i) (u:=.int .i64 x) row rfl dd him zX rfl rfl rfl rfl;rw[<-xY,hx,es]at E;have l2:h2'.low<=T.top:=by have:=w2'.low;omega
   have i2:=jz (h:=h2') dd l2;obtain⟨h3',e3',w3',n3',_⟩:=w2'.st (cx:=zB) 3 (t:=3) (f:=0) (u:=.int .i64 (32-pts (jc c (i+1)))) rfl dd zX rfl;refine sg D ⟨_,X.ld1 4 rfl zM rfl,r.nx,i,yp zM rfl zX rfl him,h2',e2',⟨dd,l2⟩,_,w2'.ld1 3 rfl zX rfl,T8 ⟨_,rfl,i2.1,λh8'' e8''=>?_⟩⟩;rw[i2.2]at e8'';subst e8'';have ee:zb ((32-pts (jc c i))-pt x)=32-pts (jc c (i+1)):=by rw[ep,hx,zD (by unfold pt;split<;>omega) dd];omega
   refine⟨h3',by rw[ee];exact e3',λtm6 R=>R.slt λY Z=>⟨rfl,rfl,_,w3',by show h3'.nx<=_;omega,rfl,λh4' w4' n4' _=>⟨rfl,cs2,w4',E⟩⟩⟩
  refine cg eD hs1 ⟨_,X.ld1 8 rfl zX rfl,_,by rw[e1,show yD .u64 (5:Int)=((5:Nat):Int)from zV dg];exact wD (a:=n) (n:=5) dg dd,_,X.ld1 6 rfl zX rfl,by rw[zV dd];omega,λq2=>?_,λq2=>?_⟩
  .rw[e3]at q2;rw[if_pos dd]at W;exact λC D=>keep _ C W.symm (D.sub de)
  rw[e3]at q2 ⊢;rw[if_neg dd]at W;exact λC D=>keep _ C W.symm (D.sub de)
 obtain⟨cs,w18,row⟩:=w8';have t18:=w18.top;refine⟨9,_,w18,dd,λh19 o A n19 _=>?_⟩;show Wf eD zBN ⟨105,I,[.coll d.nx],h19⟩ (yL eD (endW zB ⟨105,[.cell 4 59,.tmp 5],bf 172⟩ Q));have hpb:=g.pb c.length;have l19:h19.low<=T.top:=by have:=A.low;omega
 obtain⟨f1,f2,f3,f4⟩:=g.fix;have fin:∀(h':H) (K:Tm) (M:Cs),Vw zH h h' 9 [(d.nx+1,o),(d.nx,.deferred true),(O.nx,.cells (.ls [v]) ⟨0,24,0⟩ true false),(h8.nx,jb 0),(h5.nx,Ya (.slice r.nx 0 (Zl c) (.exact (Zl c)))),(r.nx,yV M),(h3.nx,jb (yy c:Nat)),(h1.nx,oD 5 (.slice r.nx 0 (Zl c) (.exact (Zl c)))),(h.nx,jb 5)]->Row M (Zl c) (zI (ZZ c))->Has K [(4,.ptr h1.nx 0),(5,.int .i64 0)] ->
   endW zB ⟨105,[.cell 4 59,.tmp 5],bf 172⟩ Q .ret ⟨105,K,[.coll d.nx],h'⟩:=by
  intro h' K M w' y N;have tw':=w'.top;show Kr [.coll d.nx] h' _;refine w'.ends (i:=1) rfl dd λh'' w'' n'' _=>?_
  have el:leave zB [.cell 4 59,.tmp 5] K h'' [.cell 4 59,.tmp 5] []=some [.agg [.int .i64 5,.slice r.nx 0 (Zl c) (.exact (Zl c))],.int .i64 0]:=by refine leave.cell (N.get (t:=4) rfl) (w''.ldA 7 rfl xE rfl) ?_;exact leave.tmp (N.get (t:=5) rfl) rfl
  show(match leave zB [.cell 4 59,.tmp 5] K h'' [.cell 4 59,.tmp 5] []with|some vs=>Q (yC vs) h''|none=>False);rw[el];have hl2:=g.nlen;have:=hq h'' r.nx w''.ex0 (by have:=G.le;omega);rw[hl2]at this;exact this (y.sl (w''.lt 5 rfl) (w''.get 5 rfl))
 refine sg hs4 ⟨_,A.ld1 3 rfl zX rfl,λq=>?_,λq=>?_⟩
 .have F:=g.g_lt;have hgi:yf c c.length<(jc c c.length).length:=by rw[Xe];exact F
  have sv:=sl.ext A.ex0;have U:cs.get? (yf c c.length)=some (.int .i64 (jc c c.length)[yf c c.length]):=by rw[row.2.2.2 _ F,od,oQ (by rw[Xe];exact F)];rfl
  have hm:=g.mem (oV (l:=jc c c.length) (n:=yf c c.length) (by rw[Xe];exact F));have B:YH c=(jc c c.length).set (yf c c.length) (pt (jc c c.length)[yf c c.length]+(32-pts (jc c c.length))):=by unfold YH;rw[if_pos q,wc (by rw[Xe];exact F)]
  generalize (jc c c.length)[yf c c.length]=z at U hm B;have i1:=jz (h:=h19) dd l19;obtain⟨h20,cs2,e20,E,w20,n20⟩:=A.set (cx:=zB) 5 (j:=yf c c.length) (u:=.int .i64 (pt z+(32-pts (jc c c.length)))) row rfl dd F zX rfl rfl rfl rfl;rw[<-xY,<-B]at E;obtain⟨h21,e21,w21,n21,_⟩:=w20.st (cx:=zB) 3 (t:=3) (f:=0) (u:=.int .i64 0) rfl dd zX rfl;refine Vd sv dd l19 ⟨_,rfl,⟨dd,l19⟩,_,A.ld1 4 rfl zM rfl,_,A.ld1 4 rfl zM rfl,r.nx,_,yp zM rfl zX rfl F,_,A.ld1 5 rfl zX U,T8 ⟨_,rfl,i1.1,λh12' e12'=>?_⟩⟩;rw[i1.2]at e12';subst e12';have hz:0<=pt z/\pt z<=32:=by unfold pt;split<;>omega
  refine⟨_,A.ld1 3 rfl zX rfl,r.nx,_,yp zM rfl zX rfl F,h20,by rw[zD dd dd];exact e20,h21,e21,λC D=>?_⟩;have hz2:=g.fix32 q;refine fW (k:=0) (p:=YH c) (D.sub de) w21 E f1 dd dg dd hlow λh' K M w' n' y N=>?_
  have en:ZZ c=sN 0 (YH c):=by unfold ZZ;rw[hz2];rfl
  rw[<-en]at y;exact N.slt λtm6 R=>R.slt λY Z=>fin h' Y M w' y (Z.sub de)
 have B:YH c=jc c c.length:=by unfold YH;rw[if_neg dd]
 refine λC D=>?_
 obtain⟨k,hk⟩:∃k:Nat,pts (jc c c.length)=32+k:=⟨(pts (jc c c.length)-32).toNat,dd⟩;have e3:32-pts (jc c c.length) = -((k:Nat):Int):=dd
 rw[e3]at A;refine fW (k:=k) (p:=YH c) (D.sub de) A (by rw[B];exact row) f1 (by rw[B];exact hk) dd dd hlow λh' K M w' n' y N=>?_
 have en:ZZ c=sN k (YH c):=by unfold ZZ;rw[show(pts (YH c)-32).toNat=k by rw[B];omega]
 rw[<-en]at y;exact N.slt λtm6 R=>R.slt λY Z=>fin h' Y M w' y (Z.sub de)
theorem _root_.Go.Sim.Sl.kept{h h':H}{esz:Nat}(s:Sl h v esz n xs)(a:h.nx<=h'.nx)(d:∀b,z6 v=some b->h'.get b=h.get b):Sl h' v esz n xs:=by obtain⟨e,h2⟩:=s;refine⟨e,h2.imp id ?_⟩;rintro⟨b,o,f,cs,k,w,op,rfl,h3,h4,g⟩;exact⟨b,o,f,cs,k,w,op,rfl,oL h3 a,by rw[d b rfl];exact h4,g⟩
theorem Nv(sl:Sl h v 1 c.length (zI c))(g:CD c)(F:h.nx+30<=T.top)(a:h.low<=T.top)(x:∀h' b,Ext h h' 10->h.nx<=b->Sl h' (.slice b 0 (ZZ c).length (.exact (ZZ c).length)) 1 (ZZ c).length (zI (ZZ c))->Q (.tuple [.agg [dh 5,.slice b 0 (ZZ c).length (.exact (ZZ c).length)],dh 0]) h'):RF P zB 102 [v,dh 6] h Q:=by
 have G:=Yl c;have o:=g.len;refine zh zGy zDL ⟨dd,?_⟩;rintro p0 y rfl z;have d:=(Vw.nil (S:=zH) (h:=h)).new z dd;have H:=d.top;have s1:=sl.ext d.ex0;have A:y.low<=T.top:=Sg d.ex0 a;refine zAm s1 g.gc g.ne dd g.sum ⟨_,_,rfl,λq=>absurd rfl q,λ_=>BV s1 g dd A λr b B hb C=>⟨_,_,_,rfl,?_⟩⟩;have e:=d.ext B;have I:=e.top;obtain⟨s,j,w,J,_⟩:=e.st (cx:=zB) 0 (t:=59) (f:=0) (u:=.agg [dh 5,.slice b 0 (ZZ c).length (.exact (ZZ c).length)]) rfl dd xE rfl;refine⟨s,j,endL.ok (leaveL.cell (w.ldA 0 rfl xE rfl) rfl) ?_⟩;have D:h.nx<b:=by have:=d.lt 0 rfl;omega
 refine x s b (w.ex0.mono dd) dd ?_;have E:jP zB 59 r (.ptr h.nx 0) (.agg [dh 5,.slice b 0 (ZZ c).length (.exact (ZZ c).length)])=some (r.upd h.nx (some (oD 5 (.slice b 0 (ZZ c).length (.exact (ZZ c).length))))):=zY xE (e.get 0 rfl) rfl;rw[E]at j;cases j;exact C.kept (oR _) λK k=>by cases k;exact zL _ dd dd
structure Wr where
 s:Ua
 p:Nat
 n:Nat
def rx(w:Wr)(b:Nat):Wr:=if w.n=7 then ⟨w.s++[UInt8.ofNat (w.p+b*2^w.n)],0,0⟩ else ⟨w.s,w.p+b*2^w.n,w.n+1⟩
def zu(w:Wr)(v:Nat):Nat->Wr
 | 0=>w
 | k+1=>rx (zu w v k) (v/2^k % 2)
structure Wr.ok (w:Wr) (m:Nat):Prop where
 p:w.p<2^w.n
 n:w.n<=7
 s:8*w.s.length+w.n<=m
theorem BT{w:Wr}(h:w.ok m)(hb:b<2):(rx w b).ok (m+1):=by
 obtain⟨a,h2,h3⟩:=h;unfold rx;split
 .refine⟨?_,?_,?_⟩
  .grind
  .grind
  grind
 refine⟨?_,?_,?_⟩
 .show w.p+b*2^w.n<2^(w.n+1);have:b*2^w.n<=1*2^w.n:=Nat.mul_le_mul_right _ dd;omega
 .grind
 grind
theorem zj{w:Wr}{v:Nat}(h:w.ok m):∀k,(zu w v k).ok (m+k)
 | 0=>h
 | k+1=>BT (zj h k) (Nat.mod_lt _ dg)
theorem Wr.ok.up{w:Wr}{k:Nat}(h:w.ok m)(a:m<=k):w.ok k:=⟨h.p,h.n,oS h.s a⟩
abbrev Jf(w:Wr):V:=.agg [.str w.s,dh (w.p:Nat),dh (w.n:Nat)]
abbrev gx(w:Wr)(k:Nat):O:=.cells (.ls [.str w.s,dh (w.p:Nat),dh (w.n:Nat)]) ⟨0,k,0⟩ true false
theorem zBB{p:Nat}(hp:p<2^n):p ||| b*2^n=p+b*2^n:=qC hp
theorem BS{h:H}{c p:Nat}{w:Wr}(vw:Vw S hb h c L)(d:L[i]? = some (p,gx w (339+1)))(ok:w.ok m)(hm:m<=8388600)(R:b<2)(hn:h.nx+1<=T.top)(g:h.low<=T.top)(q:∀h',Vw S hb h' (c+1) (L.set i (p,gx (rx w b) (339+1)))->h'.nx<=h.nx+1->h'.low<=T.top->Q (.tuple []) h'):RF P zB 310 [.ptr p 0,dh b] h Q:=by
 obtain⟨s,a,n⟩:=w;obtain⟨hp,j,hs⟩:=ok;simp only at hp j hs;replace d:L[i]? = some (p,.cells (.ls [.str s,dh (a:Nat),dh (n:Nat)]) ⟨0,339+1,0⟩ true false):=d;have U:2^n<=2^7:=Nat.pow_le_pow_right dg j;have V:b*2^n<=1*2^n:=Nat.mul_le_mul_right _ dd;refine zh zIB zFM ⟨⟨dd,g⟩,?_⟩;refine⟨_,vw.ld1 i d zX rfl,?_⟩;refine⟨_,vw.ld1 i d zX rfl,((b*2^n:Nat):Int),by rw[zV dd];exact zr dd dd,((a+b*2^n:Nat):Int),by rw[<-zBB hp];exact lj,?_⟩;obtain⟨r,F,x,n1,_⟩:=vw.st (cx:=zB) i (t:=3) (f:=0+0+1) (u:=dh ((a+b*2^n:Nat):Int)) d dd zX rfl;refine⟨r,F,?_⟩;have hi:i<L.length:=(List.getElem?_eq_some_iff.1 d).1;have y:(L.set i (p,O.cells (.ls [.str s,dh ((a+b*2^n:Nat):Int),dh (n:Nat)]) ⟨0,339+1,0⟩ true false))[i]? = some (p,.cells (.ls [.str s,dh ((a+b*2^n:Nat):Int),dh (n:Nat)]) ⟨0,339+1,0⟩ true false):=List.getElem?_set_self hi;refine⟨_,x.ld1 i y zX rfl,?_⟩;obtain⟨h2,G,e,n2,_⟩:=x.st (cx:=zB) i (t:=3) (f:=0+0+2) (u:=dh ((n+1:Nat):Int)) y dd zX rfl;rw[List.set_set]at e;refine⟨h2,by rw[zf];exact G,?_⟩;have k:(L.set i (p,O.cells (.ls [.str s,dh ((a+b*2^n:Nat):Int),dh ((n+1:Nat):Int)]) ⟨0,339+1,0⟩ true false))[i]? = some (p,.cells (.ls [.str s,dh ((a+b*2^n:Nat):Int),dh ((n+1:Nat):Int)]) ⟨0,339+1,0⟩ true false):=List.getElem?_set_self hi;have l2:h2.low<=T.top:=by
  have a1:=e.low;have a2:=vw.low;have:h2.low<=h.low:=by have W:r=h.upd p (some (.cells (.ls [.str s,dh ((a+b*2^n:Nat):Int),dh (n:Nat)]) ⟨0,339+1,0⟩ true false)):=Option.some.inj (F.symm.trans (zY zX (vw.get i d) rfl));have X:h2=r.upd p (some (.cells (.ls [.str s,dh ((a+b*2^n:Nat):Int),dh ((n+1:Nat):Int)]) ⟨0,339+1,0⟩ true false)):=Option.some.inj (G.symm.trans (zY zX (x.get i y) rfl));rw[X,H.low_upd,W,H.low_upd];omega
  omega
 refine⟨_,e.ld1 i k zX rfl,λc=>?_,λc=>?_⟩
 .have Y:n=7:=dd
  subst Y;refine⟨⟨dd,l2⟩,?_⟩;refine⟨_,e.ld1 i k xk rfl,?_⟩;have o:a+b*2^7<256:=dd
  obtain⟨h3,Z,s3,z⟩:=ZC (h:=h2) ((a+b*2^7:Nat):Int) dd;have l3:h3.low<=T.top:=oS z.low l2;have t3:=z.top;have I:=e.ext z;refine⟨_,e.ld1 i k zX rfl,_,h3,by rw[wy,ou o];exact Z,?_⟩;have A:Sl (z8 h3) (.slice h2.nx 0 1 (.exact 1)) 1 [UInt8.ofNat (a+b*2^7)].length (Jh [UInt8.ofNat (a+b*2^7)]):=by show Sl (z8 h3) _ 1 1 [tY _];rw[JR o];exact s3
  refine⟨_,_,Ze A (by simp),nd dd l3 ?_⟩;refine⟨by show s.length+1<=_;omega,?_⟩;obtain⟨h4,J,B,n4,_⟩:=I.st (cx:=zB) i (t:=9) (f:=0+0+0) (u:=.str (s++[UInt8.ofNat (a+b*2^7)])) k dd xk rfl;rw[List.set_set]at B;refine⟨h4,J,?_⟩;obtain⟨C,K,D,n5,_⟩:=B.st (cx:=zB) i (t:=3) (f:=0+0+1) (u:=dh 0) (List.getElem?_set_self hi) dd zX rfl;rw[List.set_set]at D;refine⟨C,K,?_⟩;obtain⟨E,M,N,n6,_⟩:=D.st (cx:=zB) i (t:=3) (f:=0+0+2) (u:=dh 0) (List.getElem?_set_self hi) dd zX rfl;rw[List.set_set]at N;have x4:h4=h3.upd p (some (.cells (.ls [.str (s++[UInt8.ofNat (a+b*2^7)]),dh ((a+b*2^7:Nat):Int),dh ((7+1:Nat):Int)]) ⟨0,339+1,0⟩ true false)):=Option.some.inj (J.symm.trans (zY xk (I.get i k) rfl));have x5:C=h4.upd p (some (.cells (.ls [.str (s++[UInt8.ofNat (a+b*2^7)]),dh 0,dh ((7+1:Nat):Int)]) ⟨0,339+1,0⟩ true false)):=Option.some.inj (K.symm.trans (zY zX (B.get i (List.getElem?_set_self hi)) rfl));have x6:E=C.upd p (some (.cells (.ls [.str (s++[UInt8.ofNat (a+b*2^7)]),dh 0,dh 0]) ⟨0,339+1,0⟩ true false)):=Option.some.inj (M.symm.trans (zY zX (D.get i (List.getElem?_set_self hi)) rfl));refine⟨E,M,q E N dd ?_⟩;rw[x6,H.low_upd,x5,H.low_upd,x4,H.low_upd];omega
 have:rx ⟨s,a,n⟩ b=⟨s,a+b*2^n,n+1⟩:=by unfold rx;rw[if_neg (by show ¬n=7;omega)]
 rw[this]at q;exact q h2 (e.more dd) dd l2
def JP(v n:Nat):Ub:=(List.range n).map λi=>((v/2^i % 2:Nat):Int)
theorem Za(v n:Nat):(JP v n).length=n:=by simp[JP]
theorem Pt(v n:Nat):JP v (n+1)=JP v n++[((v/2^n % 2:Nat):Int)]:=by unfold JP;rw[List.range_succ,List.map_append];rfl
theorem Ey{v:Nat}(h:i<n):(JP v n)[i]'(by rw[Za];exact h)=((v/2^i % 2:Nat):Int):=by simp[JP]
theorem Ww{S:Nat->Prop}{hb h:H}{c:Nat}{L:List (Nat×O)}{v n:Nat}(vw:Vw S hb h c L)(D:v<4294967296)(E:n<=32)(F:h.nx+1<=T.top)(y:∀h' cs,Vw S hb h' (c+1) ((h.nx,yV cs)::L)->h'.nx=h.nx+1->Row cs n (zI (JP v n))->Q (.slice h.nx 0 n (.exact n)) h'):RF P zB 289 [dh v,dh n] h Q:=by
 obtain⟨cs,x,row⟩:=Row.make (cx:=zB) (k:=n) (h:=h) zM rfl zX rfl rfl rfl dd (by show 8*n<=_;omega) dd;have g:=vw.new (o:=yV cs) rfl dd;refine zh zC7 zEs ⟨_,_,x,λtm hs=>?_⟩;have a:(h.new (yV cs)).nx=h.nx+1:=zC _ _;generalize h.new (yV cs)=h1 at g hs a;refine wpC.round (λk tm h'=>∃(i:Nat) (cs:Cs),i<=n/\k=n-i/\h'.nx=h.nx+1/\Vw S hb h' (c+1) ((h.nx,yV cs)::L)/\Row cs n (zI (JP v i++List.replicate (n-i) 0))/\Has tm [(10,dh i),(9,dh n),(5,.slice h.nx 0 n (.exact n)),(0,dh v)]) n
  ⟨0,cs,dd,dd,a,g,by rw[show JP v 0=[]from rfl,List.nil_append,Nat.sub_zero,qV];exact row,hs.sub de⟩ ?_
 clear hs g row a x h1;rintro k tm h' ⟨i,cs,hi,rfl,a,w,row,hs⟩;refine cg zC7 hs ⟨λq=>?_,λq=>λr f=>?_⟩
 .have d:i<n:=dd
  have z:v/2^i<=v:=Nat.div_le_self _ _;obtain⟨h2,s,A,e,B,G⟩:=w.set (cx:=zB) 0 (j:=i) (u:=dh ((v/2^i % 2:Nat):Int)) row rfl dd d zX rfl rfl rfl rfl;rw[<-xY,PJ (Za v i) d,<-Pt]at e;refine⟨_,by rw[zV dd];exact jZ dd,((v/2^i % 2:Nat):Int),?_,h.nx,i,yp zM rfl zX rfl d,h2,A,λr f=>⟨rfl,rfl,n-(i+1),dd,i+1,s,dd,rfl,by show h2.nx=_;omega,B,e,?_⟩⟩
  .rw[<-Nat.and_one_is_mod];exact qf (b:=1) dd dg
  rw[<-zf];exact f.sub de
 have d:i=n:=dd
 subst d;rw[Nat.sub_self,List.replicate_zero,List.append_nil]at row;refine thenC.left (sg f (λC t=>endW.r1 (t.get rfl) (y h' cs w a row)))
theorem T6{S:Nat->Prop}{hb h:H}{c b p m v n:Nat}{L:List (Nat×O)}{cs:Cs}{w:Wr}(vw:Vw S hb h c ((b,yV cs)::(p,gx w (339+1))::L))(row:Row cs n (zI (JP v n)))(ok:w.ok m)(a:h.low<=T.top)(j:∀h',Vw S hb h' (c+n) ((b,yV cs)::(p,gx (zu w v n) (339+1))::L)->h'.low<=T.top->Q (.tuple []) h')(hm:m+n<=8388600:=by omega)(u:hb.nx+c+n+1<=T.top:=by omega):RF P zB 288 [.ptr p 0,.slice b 0 n (.exact n)] h Q:=by
 have e:Sl h (.slice b 0 n (.exact n)) 1 (JP v n).length (zI (JP v n)):=by rw[Za];exact row.sl (vw.lt 0 rfl) (vw.get 0 rfl)
 refine zh zC6 zEr ⟨_,by have:=e.len (t:=23) zM rfl;rwa [Za]at this,λtm hs=>?_⟩;refine wpC.round (λk tm h'=>∃i:Nat,i<=n/\k=n-i/\h'.low<=T.top/\Vw S hb h' (c+i) ((b,yV cs)::(p,gx (zu w v i) (339+1))::L)/\Has tm [(8,dh i),(7,dh n),(6,.slice b 0 n (.exact n)),(0,.ptr p 0)]) n ⟨0,dd,dd,a,vw,hs.sub de⟩ ?_;clear hs e vw a;rintro k tm h' ⟨i,hi,rfl,a,vw,hs⟩;have x:=vw.top;refine cg zC6 hs ⟨λq=>?_,λq=>λg f=>?_⟩
 .have d:i<n:=dd
  have sl:Sl h' (.slice b 0 n (.exact n)) 1 (JP v n).length (zI (JP v n)):=by rw[Za];exact row.sl (vw.lt 0 rfl) (vw.get 0 rfl)
  obtain⟨r,o,a1,a2⟩:=yS sl (i:=i) (by rw[Za];exact d);rw[Ey d]at a2;refine⟨r,o,a1,_,a2,BS vw (i:=1) rfl (zj ok i) dd (Nat.mod_lt _ dg) dd a λh2 s y l2=>⟨rfl,λg f=>⟨rfl,rfl,n-(i+1),dd,i+1,dd,rfl,l2,s,?_⟩⟩⟩;rw[<-zf];exact f.sub de
 have d:i=n:=dd
 subst d;show endW zB ⟨16,[],bf 288⟩ Q (exitB 0 (.exit 0)) _;rw[xM];exact j h' vw a
theorem Bt{h:H}{c p k:Nat}{w:Wr}(vw:Vw S hb h c L)(a:L[i]? = some (p,gx w k)):ye zB 209 h (.ptr p 0)=some (Jf w):=vw.ldA i a XQ rfl
theorem T7{h:H}{c p:Nat}{w:Wr}(vw:Vw S hb h c L)(d:L[i]? = some (p,gx w (339+1)))(ok:w.ok m)(hm:m<=8388600)(r:h.nx+1<=T.top)(j:∀h' o,Vw S hb h' (c+1) ((h.nx,o)::L)->h'.nx=h.nx+1->Q (.tuple [Jf w,dh 0]) h'):RF P zB 290 [.ptr p 0] h Q:=by
 have hs:=ok.s;refine zh zHr zEt ⟨dd,?_⟩;rintro p0 k rfl e;have a:=vw.new e dd;have n1:k.nx=h.nx+1:=by rw[e,zC]
 refine ?_;refine⟨_,a.ld1 (i+1) (by simpa using d) xk rfl,λc=>absurd (show(1048576:Int)<(w.s.length:Int)from c) dd,λ_=>?_⟩;obtain⟨h2,q,g,s,_⟩:=a.st (cx:=zB) 0 (t:=209) (f:=0) (u:=Jf w) rfl dd XQ rfl;refine⟨_,_,_,Bt a (i:=i+1) (by simpa using d),h2,q,endL.ok (leaveL.cell (g.ldA 0 rfl XQ rfl) rfl) (j h2 _ g dd)⟩
theorem fT{w:Wr}(ok:w.ok m)(d:Q (dh 0) h)(hm:m<=8388600:=by omega):RF P zB 287 [Jf w] h Q:=by
 refine RF.plain ?_ (zg rfl);have d:∀h':H,Plain (dh 0)/\Q (dh 0) h:=λ_=>⟨zN _ _,d⟩
 obtain⟨hp,g,hs⟩:=ok;have j:2^w.n<=2^7:=Nat.pow_le_pow_right dg g;refine zh zHq zEq ⟨dg,?_⟩;rintro p0 k rfl o;have a:=(Vw.nil (S:=zH) (h:=H0)).new o dg;refine⟨_,a.ld1 0 rfl zX rfl,λc=>dd,λ_=>⟨_,a.ld1 0 rfl zX rfl,λc=>dd,λ_=>⟨_,a.ld1 0 rfl zX rfl,λc=>dd,λ_=>⟨_,a.ld1 0 rfl zX rfl,_,a.ld1 0 rfl zX rfl,_,by rw[zV dd];exact jZ dd,λc=>?_,λ_=>λtm hs=>?_⟩⟩⟩⟩
 .exact absurd (by rw[Nat.div_eq_of_lt hp];rfl) c
 refine sg hs (?_);refine⟨_,a.ld1 0 rfl xk rfl,λc=>absurd (show(1048576:Int)<(w.s.length:Int)from c) dd,λ_=>λq e=>thenC.nx (sg e (λr f=>endW.r1 (f.get rfl) (d k)))⟩
theorem BO{w:Wr}{v:Nat}(ok:w.ok m)(hm:m+n<=8388600)(x:n<=32)(y:v<2^n)(g:Q (.tuple [Jf (zu w v n),dh 0]) h):RF P zB 246 [Jf w,dh n,dh v] h Q:=by
 refine RF.plain ?_ (zg rfl);have g:∀h':H,Plain (.tuple [Jf (zu w v n),dh 0])/\Q (.tuple [Jf (zu w v n),dh 0]) h:=λ_=>⟨zk rfl,g⟩
 have M:=zt;have j:v<4294967296:=oL y (show 2^n<=2^32 from Nat.pow_le_pow_right dg x);have N:H0.nx=0:=rfl;have O:H0.low<=T.top:=oG rfl;refine zh zH9 zEX ⟨dg,?_⟩;rintro p0 R rfl C;have z:=(Vw.nil (S:=zH) (h:=H0)).new (o:=gx w (209+1)) C dg;have U:=z.top;refine⟨dd,?_⟩;rintro V h3 rfl D;have e:=z.new (o:=gx ⟨[],0,0⟩ (209+1)) D dd;have W:=e.top;refine⟨_,_,_,Bt e (i:=1) rfl,fT ok ⟨_,rfl,λc=>absurd rfl c,λ_=>⟨λc=>dd,λ_=>⟨λc=>dd,λ_=>⟨λc=>dd,λ_=>⟨_,by rw[zV dd];exact jZ dd,λc=>?_,λ_=>λtm hs=>?_⟩⟩⟩⟩⟩⟩
 .exact absurd (by rw[Nat.div_eq_of_lt y];rfl) c
 refine sg hs ⟨_,_,_,Bt e (i:=1) rfl,dd,?_⟩;rintro X h4 rfl E;have k:=e.new (o:=gx w (339+1)) E dd;have Y:=k.top;have Z:h4.low<=T.top:=by have:=k.low;omega
 refine Ww k j x dd λF cs A n6 row=>⟨_,rfl,?_⟩
 have l6:F.low<=T.top:=by have:=A.low;omega
 refine T6 A row ok l6 λh9 B l9=>⟨rfl,?_⟩
 have t9:=B.top;refine T7 B (i:=1) rfl (zj ok n) dd dd λG o q I=>⟨_,_,_,_,rfl,?_⟩
 obtain⟨a,r,s,J,_⟩:=q.st (cx:=zB) 3 (t:=209) (f:=0) (u:=Jf (zu w v n)) rfl dd XQ rfl;refine⟨a,r,λK d=>endW.ok (leave.cell (d.get (t:=6) rfl) (s.ldA 3 rfl XQ rfl) (leave.tmp (d.get (t:=7) rfl) rfl)) (g a)⟩
theorem EG{w:Wr}{m:Nat}(ok:w.ok m)(hm:m+8<=8388600)(r:Q (.tuple [.str (zu w 0 ((8-w.n) % 8)).s,dh 0]) h):RF P zB 174 [Jf w] h Q:=by
 refine RF.plain ?_ (zg rfl);have r:∀h':H,Plain (.tuple [.str (zu w 0 ((8-w.n) % 8)).s,dh 0])/\Q (.tuple [.str (zu w 0 ((8-w.n) % 8)).s,dh 0]) h:=λ_=>⟨zk rfl,r⟩
 have Y:=zt;have G:=ok.n;have Z:H0.nx=0:=rfl;have zl:H0.low<=T.top:=oG rfl;refine zh zHN zDg ⟨dg,?_⟩;rintro q0 g1 rfl f1;have s:=(Vw.nil (S:=zH) (h:=H0)).new (o:=gx w (209+1)) f1 dg;have s1:=s.top;refine⟨_,_,_,Bt s (i:=0) rfl,zh zH7 zEV ⟨dd,?_⟩⟩;rintro p0 h1 rfl I;have D:=s.new (o:=gx w (209+1)) I dd;have t1:=D.top;refine⟨dd,?_⟩;rintro p2 h3 rfl J;have j:=D.new (o:=gx ⟨[],0,0⟩ (209+1)) J dd;have t3:=j.top;refine⟨_,_,_,Bt j (i:=1) rfl,fT ok ⟨_,rfl,λc=>absurd rfl c,λ_=>⟨_,_,_,Bt j (i:=1) rfl,dd,?_⟩⟩⟩;rintro p4 h4 rfl K;have q:=j.new (o:=gx w (339+1)) K dd;have t4:=q.top;have l4:h4.low<=T.top:=by have:=q.low;omega
 refine ?_;have M:Int.tmod (zb (8-((w.n:Nat):Int))) 8=(((8-w.n) % 8:Nat):Int):=by rw[zD dd dd,show(8:Int)-((w.n:Nat):Int)=((8-w.n:Nat):Int)by omega];rfl
 refine⟨_,q.ld1 0 rfl zX rfl,dg,?_⟩;rw[M];have hk:(8-w.n) % 8<8:=Nat.mod_lt _ dg;generalize (8-w.n) % 8=k at *;refine Ww (v:=0) q dg dd dd λN cs E n6 row=>⟨_,rfl,?_⟩
 have l6:N.low<=T.top:=by have:=E.low;omega
 refine T6 E row ok l6 λh9 F l9=>⟨rfl,?_⟩
 have t9:=F.top;refine T7 F (i:=1) rfl (zj ok k) dd dd λO o x R=>⟨_,_,_,_,rfl,?_⟩
 obtain⟨a,y,d,U,_⟩:=x.st (cx:=zB) 3 (t:=209) (f:=0) (u:=Jf (zu w 0 k)) rfl dd XQ rfl;refine⟨a,y,endL.ok (leaveL.cell (d.ldA 3 rfl XQ rfl) rfl) ⟨_,_,_,_,rfl,dd,?_⟩⟩;rintro V z rfl e;have A:=d.new (o:=gx ⟨[],0,0⟩ (209+1)) e dd;have W:z.nx=a.nx+1:=by rw[e,zC]
 obtain⟨g,B,C,X,_⟩:=A.st (cx:=zB) 0 (t:=209) (f:=0) (u:=Jf (zu w 0 k)) rfl dd XQ rfl;exact⟨g,B,_,C.ld1 0 rfl xk rfl,r g⟩
def xA:Ub->Nat
 | []=>0
 | x::l=>if x=0 then xA l+1 else 0
def wz:Nat->Wr->Nat->Wr
 | 0,w,z=>zu w z 2
 | f+1,w,z=>if 3<=z then wz f (zu w 3 2) (z-3) else zu w z 2
def jJ(left:Nat)(v:Nat):Nat×Nat:=if v<pn left then (xZ left-1,v) else if v<2^(xZ left-1) then (xZ left,v) else (xZ left,v+pn left)
def xV:Nat->Wr->Nat->Ub->Wr
 | 0,w,_,_=>w
 | _,w,_,[]=>w
 | f+1,w,left,p::l =>
  if p≠0 then xV f (zu w (jJ left (p+1).toNat).2 (jJ left (p+1).toNat).1) (left-(pt p).toNat) l
  else xV f (wz l.length (zu w (jJ left 1).2 (jJ left 1).1) (xA l)) left (l.drop (xA l))
def jN(log:Nat)(l:Ub):Wr:=xV l.length (zu ⟨[],0,0⟩ (log-5) 4) (2^log) l
def uj(log:Nat)(l:Ub):Ua:=(zu (jN log l) 0 ((8-(jN log l).n) % 8)).s
theorem bR:∀l:Ub,xA l<=l.length
 | []=>oR _
 | x::l=>by
  unfold xA;split
  .have:=bR l;simp;omega
  exact oM _
theorem aD{l:Ub}:∀{i:Nat},i<xA l->l[i]? = some 0:=by
 induction l with
 | nil=>intro i h;cases h
 | cons x l ih =>
  intro i h;unfold xA at h;split at h
  .rename_i a;rcases i with _|i
   .rw[a];rfl
   exact ih (i:=i) dd
  cases h
theorem ES{l:Ub}(h:xA l<l.length):l[xA l]≠0:=by
 induction l with
 | nil=>cases h
 | cons x l ih =>
  by_cases hx:x=0
  .have e:xA (x::l)=xA l+1:=by show(if x=0 then xA l+1 else 0)=_;rw[if_pos hx]
   have h2:xA l<l.length:=by rw[e]at h;simpa using h
   have:(x::l)[xA (x::l)]=l[xA l]:=by simp only[e,List.getElem_cons_succ]
   rw[this];exact ih h2
  have e:xA (x::l)=0:=by show(if x=0 then xA l+1 else 0)=_;rw[if_neg hx]
  have:(x::l)[xA (x::l)]=x:=by simp only[e,List.getElem_cons_zero]
  rw[this];exact hx
theorem vf:∀l:Ub,pts (l.drop (xA l))=pts l
 | []=>rfl
 | x::l=>by
  by_cases a:x=0
  .have e:xA (x::l)=xA l+1:=by show(if x=0 then xA l+1 else 0)=_;rw[if_pos a]
   rw[e,List.drop_succ_cons,vf l,xC,a];have:pt 0=0:=rfl;omega
  have e:xA (x::l)=0:=by show(if x=0 then xA l+1 else 0)=_;rw[if_neg a]
  rw[e];rfl
theorem pC:∀{f:Nat}{w:Wr}{m z:Nat},w.ok m->(wz f w z).ok (m+2*f+2)
 | 0,w,m,z,h=>(zj h 2).up dd
 | f+1,w,m,z,h=>by
  unfold wz;split
  .exact(pC (zj h 2)).up dd
  exact(zj h 2).up dd
theorem P9{left v:Nat}(h0:0<left)(hl:left<=64)(a:v<=left+1):(jJ left v).1<=7/\(jJ left v).2<2^(jJ left v).1:=by
 obtain⟨d,h2,h3⟩:=Zs left;have hb:xZ left<=7:=zo;have e:pn left=2^xZ left-2-left:=rfl;unfold jJ;split
 .exact⟨by show xZ left-1<=7;omega,by show v<2^(xZ left-1);omega⟩
 split
 .exact⟨hb,by show v<2^xZ left;omega⟩
 exact⟨hb,by show v+pn left<2^xZ left;omega⟩
abbrev EY{hb:H}(h:H)(c p5 p3 p0:Nat)(w:Wr)(log:Int)(v:V):Prop:=Vw zH hb h c [(p5,gx w (209+1)),(p3,gx ⟨[],0,0⟩ (209+1)),(p0,oD log v)]
abbrev zI0(p5:Nat):V:=.func (.func 245) [] [.ptr p5 0]
theorem nf{h:H}{c p5 p3 p0 v:Nat}{log:Int}{a:V}{w:Wr}(vw:EY (hb:=hb) h c p5 p3 p0 w log a)(ok:w.ok m)(hm:m+n<=8388600)(d:n<=32)(e:v<2^n)(g:h.nx<=T.top)(j:∀h',EY (hb:=hb) h' c p5 p3 p0 (zu w v n) log a->h'.nx=h.nx->Q (.tuple []) h'):RF P zB 245 [dh n,dh v,.ptr p5 0] h Q:=by obtain⟨h2,k,o,q,_⟩:=vw.st (cx:=zB) 0 (t:=209) (f:=0) (u:=Jf (zu w v n)) rfl g XQ rfl;exact zh zH8 zEW ⟨_,_,_,Bt vw (i:=0) rfl,BO ok hm d e ⟨_,_,_,_,rfl,h2,k,j h2 o q⟩⟩
abbrev CB(p5 p3 p0 i left:Nat):Kn:=[(6,dh i),(1,.ptr p0 0),(5,dh left),(4,zI0 p5),(3,.ptr p5 0),(2,.ptr p3 0)]
theorem B1{hb h:H}{c p5 p3 p0 m z f i left:Nat}{log:Int}{r:V}{w:Wr}{tm:Tm}{d:List AD}{R:Ud}(hs:Has tm ((11,dh z)::CB p5 p3 p0 i left))(vw:EY (hb:=hb) h c p5 p3 p0 w log r)(ok:w.ok m)(hm:m+2*f+2<=100000)(C:z<=f)(_:z<=1000)(N:hb.nx+c<=T.top)(D:∀a h',Has a (CB p5 p3 p0 i left)->EY (hb:=hb) h' c p5 p3 p0 (wz f w z) log r->R .normal ⟨100,a,d,h'⟩):Wf Yd FK ⟨100,tm,d,h⟩ R:=by
 refine sg hs (λE o=>?_);refine wpC.round (λk tm h'=>∃(e:Wr) (j f1:Nat),k=j/\j<=z/\j<=f1/\f1<=f/\e.ok (m+2*(f-f1))/\wz f1 e j=wz f w z/\EY (hb:=hb) h' c p5 p3 p0 e log r/\Has tm ((11,dh j)::CB p5 p3 p0 i left)) z
  ⟨w,z,f,rfl,oR _,C,oR _,ok.up dd,rfl,vw,o.sub de⟩ ?_
 clear hs o vw ok;rintro k tm h' ⟨e,j,f1,rfl,F,G,I,ok,B,vw,hs⟩;have O:=vw.top;refine cg Yd hs ⟨λq=>?_,λq=>λa g=>?_⟩
 .obtain⟨s,rfl⟩:∃s,f1=s+1:=⟨f1-1,dd⟩
  show RF P zB 245 [dh 2,dh 3,.ptr p5 0] h' _;refine nf (v:=3) (n:=2) vw ok dd dg dg dd λh2 t J=>FS (λa g=>⟨rfl,rfl,k-3,dd,zu e 3 2,k-3,s,rfl,dd,dd,dd,(zj ok 2).up dd,?_,t,?_⟩)
  .rw[<-B];show _=(if 3<=k then _ else _);rw[if_pos dd]
  have:zb (((k:Nat):Int)-3)=((k-3:Nat):Int):=by rw[zD dd dd];omega
  rw[<-this];exact g.sub de
 have u:wz f1 e k=zu e k 2:=by
  rcases f1 with _|f1
  .rfl
  unfold wz;rw[if_neg dd]
 refine thenC.left (sg g ?_);show RF P zB 245 [dh 2,dh (k:Nat),.ptr p5 0] h' _;refine nf (v:=k) (n:=2) vw ok dd dg (by show k<4;omega) dd λh2 t J=>FS (λK x=>x.slt λy A=>D y h2 (A.sub de) ?_)
 rw[<-B,u];exact t
end Go.Proofs.YtnpeieeomokomaaGreat
