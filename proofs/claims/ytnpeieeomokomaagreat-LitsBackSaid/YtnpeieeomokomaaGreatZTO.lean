/- TO. No condition. -/
import Derived.Test.YtnpeieeomokomaaGreatZTN
import Derived.Test.YtnpeieeomokomaaGreatZCH
import Derived.Test.YtnpeieeomokomaaGreatZTA
import Derived.Test.YtnpeieeomokomaaGreatZTG
import Derived.Test.YtnpeieeomokomaaGreatZTJ
import Derived.Test.YtnpeieeomokomaaGreatZTL
import Derived.Test.YtnpeieeomokomaaGreatZTM
set_option maxRecDepth 100000
set_option maxHeartbeats 4000000
namespace Go.Proofs.YtnpeieeomokomaaGreat
open Go.Sim
variable {h:H}{Q:Uc}
variable{l:Ub}{v:V}
theorem Vg{s:Ua}{y:Nat}(h2:y<=s.length):zw zB 9 h (.str s) none (some (dh y)) none=some (.str (zS s 0 y)):=by
 unfold zw;have a:ya (y:Int)=some y:=rfl;have b:YP s 0=s.length:=by rw[yl];omega
 simp only[xk,Go.Sim.bnd,a,b];rw[oE h2,oN];try rfl
theorem Nb{s:Ua}{x n:Nat}(E:x<=s.length)(hs:s.length<4611686018427387904)(F:n<4611686018427387904)(h1:x+n<=s.length->Q (.tuple [.agg (jT (zS s 0 (x+n)) x 0 0),.agg (jT s ((x+n:Nat):Int) 0 0)]) h)(h2:s.length<x+n->Q (.tuple [.agg (jT s x 5 s.length),.agg (jT s x 5 s.length)]) h):RF P zB 63 [.agg (jT s x 0 0),dh n] h Q:=by
 refine RF.plain ?_ (eI (xW _ _ _ _) (zN _ _));refine zh L63 zJC ⟨dg,?_⟩;have N:H0.nx=0:=rfl;have O:H0.low=T.top:=rfl;have zt:200000<T.top:=dg
 rintro p0 a rfl o;have n1:a.nx=1:=by rw[o,zC];omega
 have C:Ext H0 a 1:=by rw[o];exact Ext.new _ dd
 have G:a.get H0.nx=some (oC s x 0 0):=by rw[o];exact zK _ dd
 clear o;refine⟨dd,?_⟩;rintro R h3 rfl p;have S:h3.nx=2:=by rw[p,zC];omega
 have t:Ext a h3 1:=by rw[p];exact Ext.new _ dd
 have H:h3.get a.nx=some (oC [] 0 0 0):=by rw[p];exact zK _ dd
 clear p;refine⟨dd,?_⟩;rintro U g rfl q;have V:g.nx=3:=by rw[q,zC];omega
 have i:Ext h3 g 1:=by rw[q];exact Ext.new _ dd
 have I:g.get h3.nx=some (oC [] 0 0 0):=by rw[q];exact zK _ dd
 clear q;have J:g.get H0.nx=some (oC s x 0 0):=by rw[i.get _ dd,t.get _ dd];exact G
 have K:g.get a.nx=some (oC [] 0 0 0):=by rw[i.get _ dd];exact H
 refine⟨_,_,_,_,zT wQ rfl J rfl,Gg λL r f r1 r2 gr=>?_⟩;have W:=f.top;have l6:=f.le;refine⟨.ptr r 0,rfl,?_⟩;show ∃u,ye zB 3 L (.ptr r (0+0+1))=some (dh u)/\_;refine⟨x,zJ zX rfl gr rfl,bq gr r2 dd (by have:=f.low;have:=i.low;have:=t.low;have:=C.low;omega) E hs F λd j=>⟨λw e=>?_,λw e=>?_⟩⟩;all_goals
  have X:=j.top;have Y:=j.low;have k:d.get a.nx=some (oC [] 0 0 0):=by rw[j.get _ dd dd,f.get _ dd];exact K
  have m:d.get h3.nx=some (oC [] 0 0 0):=by rw[j.get _ dd dd,f.get _ dd];exact I
  have Z:=j.le;have D:d.low<=T.top:=by have:=f.low;have:=i.low;have:=t.low;have:=C.low;omega
  refine⟨_,rfl,rC e ⟨_,rfl,λc=>?_,λc=>?_⟩⟩
 .exact absurd c (by simp)
 .obtain⟨b,z,A,B,M⟩:∃b,jP zB 80 d (.ptr a.nx 0) (.agg (jT (zS s 0 (x+n)) x 0 0))=some b/\b.get a.nx=some (oC (zS s 0 (x+n)) x 0 0)/\b.get h3.nx=some (oC [] 0 0 0)/\b.nx=d.nx:=⟨_,zY wQ k rfl,zF _ dd,by rw[zL _ dd dd];exact m,rfl⟩
  have u5:=i.top;refine⟨de,⟨dd,D⟩,s,zJ xk rfl e rfl,_,zJ zX rfl e rfl,_,Vg (y:=x+n) dd,_,_,_,_,zT wQ rfl e rfl,dd,b,z,_,zY wQ B rfl,?_⟩;refine endL.ok (leaveL.cell (zT wQ rfl ((zL _ dd dd).trans A) rfl) (leaveL.cell (zT wQ rfl (zF _ dd) rfl) rfl)) ⟨Z0 (xW _ _ _ _) (xW _ _ _ _),h1 w⟩
 .obtain⟨b,z,A,B,M⟩:∃b,jP zB 80 d (.ptr a.nx 0) (.agg (jT s x 5 s.length))=some b/\b.get a.nx=some (oC s x 5 s.length)/\b.get h3.nx=some (oC [] 0 0 0)/\b.nx=d.nx:=⟨_,zY wQ k rfl,zF _ dd,by rw[zL _ dd dd];exact m,rfl⟩
  refine⟨de,⟨dd,D⟩,_,_,_,_,zT wQ rfl e rfl,_,_,_,_,zT wQ rfl e rfl,dd,b,z,_,zY wQ B rfl,?_⟩;refine endL.ok (leaveL.cell (zT wQ rfl ((zL _ dd dd).trans A) rfl) (leaveL.cell (zT wQ rfl (zF _ dd) rfl) rfl)) ⟨Z0 (xW _ _ _ _) (xW _ _ _ _),h2 w⟩
 exact absurd c (by simp)
def jE(l:Ub):Int:=if 256<l.length then 6 else if wO l=true then (if cnt l<2 then 7 else if ym 11 l=2048 then 0 else 21) else 2
theorem Hq{i:Nat}(hi:i<l.length)(h:¬(0<=l[i]/\l[i]<=11)):wO l=false:=by
 rcases g:wO l with _|_
 .rfl
 exact absurd (yq g (oV hi)) h
theorem Hr{x:Int}(h:wO l=true)(a:0<=x/\x<=11):wO (l++[x])=true:=by rw[jw,h];simp only[wO,List.all_cons,List.all_nil,Bool.and_true,Bool.true_and,oI,decide_eq_true_eq];omega
theorem gW(x:Int):lone 11 x<=2048:=Qn (oR 11) x
theorem zG8{x:Int}(h:0<x/\x<=11):wI .shl .i64 1 (zb ((11:Int)-x))=some (dh (lone 11 x:Nat)):=by rw[zD dd dd,show(11:Int)-x=((11-x.toNat:Nat):Int)by omega];have b:2^(11-x.toNat)<=2^11:=Nat.pow_le_pow_right dg dd;have e:=zr (a:=1) (n:=11-x.toNat) dd dd;rw[Nat.one_mul]at e;unfold lone;rw[if_pos dd];exact e
theorem FU{v:V}{l:Ub}(sl:Sl h v 1 l.length (zI l))(hl:l.length<=1000)(h1:256<l.length->Q (.tuple [dh 0,dh 6]) h)(h2:¬256<l.length->wO l=false->Q (.tuple [dh 0,dh 2]) h)(h3:¬256<l.length->wO l=true->Q (.tuple [dh (ym 11 l:Nat),dh 0]) h):RF P zB 112 [v] h Q:=by
 refine zh zCG zDT ⟨_,sl.len zM rfl,λc=>h1 dd,λc=>⟨_,sl.len zM rfl,λtm hs=>?_⟩⟩;have c0:¬256<l.length:=dd
 refine wpC.round (λk tm h'=>∃i:Nat,i<=l.length/\k=l.length-i/\h'=h/\wO (l.take i)=true/\Has tm [(12,dh i),(11,dh (Int.ofNat l.length)),(10,v),(4,dh (ym 11 (l.take i):Nat))]) l.length ⟨0,dd,dd,rfl,by simp[wO],hs.sub de⟩ ?_;clear hs;rintro k tm h' ⟨i,y,rfl,rfl,j,hs⟩;refine cg zCG hs ⟨λc=>?_,λc=>λm e=>?_⟩
 .have hi:i<l.length:=by have:(i:Int)<Int.ofNat l.length:=c;simp at this;omega
  obtain⟨b,o,z,w⟩:=yS sl hi;have f:¬(0<=l[i]/\l[i]<=11)->wO l=false:=Hq hi;have r:=yN hi;have hb:=lc (λx=>gW x) (l.take i);rw[List.length_take]at hb;generalize l[i]=x at w f r;refine⟨b,o,z,x,w,λA=>λm e=>?_,λA=>⟨λB=>λm e=>?_,λB=>λm e=>?_⟩⟩
  .have s:=h2 c0 (f dd);refine sg e (λg a=>?_);exact thenC.rt (a.slt λn d=>thenC.rt (thenC.rt (endW.r2 (d.get rfl) (d.get rfl) s)))
  .have s:=h2 c0 (f dd);refine sg e (λg a=>?_);exact thenC.rt (a.slt λn d=>thenC.rt (thenC.rt (endW.r2 (d.get rfl) (d.get rfl) s)))
  have D:=gW x;have q:wO (l.take (i+1))=true:=by rw[r];exact Hr j dd
  refine sg e ⟨λC=>⟨_,zG8 dd,λg a=>?_⟩,λC=>λg a=>?_⟩
  .refine thenC.nx (sg a (λt p=>p.slt λn d=>⟨rfl,rfl,l.length-(i+1),dd,i+1,dd,rfl,rfl,q,?_⟩));have u:zb (((ym 11 (l.take i):Nat):Int)+((lone 11 x:Nat):Int))=((ym 11 (l.take (i+1)):Nat):Int):=by
    rw[r,gk];unfold ym;rw[zD dd dd];rfl
   rw[<-u,<-zf];exact d.sub de
  refine thenC.nx (sg a (λt p=>p.slt λn d=>⟨rfl,rfl,l.length-(i+1),dd,i+1,dd,rfl,rfl,q,?_⟩));have u:ym 11 (l.take (i+1))=ym 11 (l.take i):=by rw[r,gk];unfold lone;rw[if_neg dd];rfl
  rw[u,<-zf];exact d.sub de
 have hi:i=l.length:=by have:¬(i:Int)<Int.ofNat l.length:=c;simp at this;omega
 subst hi;rw[List.take_length]at j e;exact thenC.left (sg e (λg a=>endW.r2 (a.get rfl) (a.get rfl) (h3 c0 j)))
def Xq(l:Ub):Nat:=(l.filter λx=>decide (0<x)).length
theorem fA(l:Ub)(x:Int):Xq (l++[x])=Xq l+(if 0<x then 1 else 0):=by unfold Xq;rw[List.filter_append,oW];congr 1;by_cases c:0<x<;>simp[c]
theorem Cc(l:Ub):Xq l<=l.length:=List.length_filter_le _ _
theorem K8:∀{l:Ub},wO l=true->Xq l=cnt l
 | [],_=>rfl
 | x::l,h=>by
  have h':wO ([x]++l)=true:=h;rw[jw,oI]at h';have a:=yq h (List.mem_cons_self ..);have ih:=K8 h'.2;unfold Xq cnt at ih ⊢;by_cases c:x=0
  .subst c;simpa using ih
  have:0<x:=dd
  simp[c,this];simpa using ih
theorem rG{v:V}{l:Ub}(sl:Sl h v 1 l.length (zI l))(hl:l.length<=1000)(p:∀m:Int,Q (.tuple [dh (Xq l:Nat),dh m]) h):RF P zB 113 [v] h Q:=by
 refine zh zCH zDU ⟨_,sl.len zM rfl,λtm hs=>?_⟩;refine wpC.round (λk tm h'=>∃(i:Nat) (m:Int),i<=l.length/\k=l.length-i/\h'=h/\Has tm [(8,dh i),(7,dh (Int.ofNat l.length)),(6,v),(2,dh (Xq (l.take i):Nat)),(3,dh m)]) l.length ⟨0,0,dd,dd,rfl,hs.sub de⟩ ?_;clear hs;rintro k tm h' ⟨i,m,q,rfl,rfl,hs⟩;refine cg zCH hs ⟨λc=>?_,λc=>λd a=>?_⟩
 .have hi:i<l.length:=by have:(i:Int)<Int.ofNat l.length:=c;simp at this;omega
  obtain⟨b,o,r,n⟩:=yS sl hi;have f:=yN hi;have hb:=Cc (l.take i);rw[List.length_take]at hb;generalize l[i]=x at n f;refine⟨b,o,r,x,n,λg=>λd a=>⟨rfl,rfl,l.length-(i+1),dd,i+1,max m x,dd,rfl,rfl,?_⟩,λg=>λd a=>⟨rfl,rfl,l.length-(i+1),dd,i+1,m,dd,rfl,rfl,?_⟩⟩
  .have j:zb (((Xq (l.take i):Nat):Int)+1)=((Xq (l.take (i+1)):Nat):Int):=by
    rw[f,fA,if_pos g,zD dd dd];rfl
   rw[<-j,<-zf];exact a.sub de
  have j:Xq (l.take (i+1))=Xq (l.take i):=by rw[f,fA,if_neg g];rfl
  rw[j,<-zf];exact a.sub de
 have hi:i=l.length:=by have:¬(i:Int)<Int.ofNat l.length:=c;simp at this;omega
 subst hi;rw[List.take_length]at a;exact thenC.left (sg a (λs e=>endW.r2 (e.get rfl) (e.get rfl) (p _)))
theorem bA(sl:Sl h v 1 l.length (zI l))(hl:l.length<=1000)(a:Q (dh (jE l)) h):RF P zB 61 [v] h Q:=by
 unfold jE at a;refine zh L61 zJA (FU sl hl (λc=>?_) (λc hb=>?_) (λc hb=>?_))
 .rw[if_pos c]at a;exact⟨_,_,rfl,rG sl hl λm=>⟨_,_,rfl,λ_=>a,λg=>absurd dg g⟩⟩
 .rw[if_neg c,hb,if_neg dg]at a;exact⟨_,_,rfl,rG sl hl λm=>⟨_,_,rfl,λ_=>a,λg=>absurd dg g⟩⟩
 rw[if_neg c,if_pos hb,<-K8 hb]at a;refine⟨_,_,rfl,rG sl hl λm=>⟨_,_,rfl,λg=>absurd rfl g,λ_=>⟨λb=>?_,λb=>?_⟩⟩⟩
 .rw[if_pos dd]at a;exact a
 rw[if_neg dd]at a;refine⟨λd=>?_,λd=>?_⟩
 .rw[if_neg dd]at a;exact a
 rw[if_pos dd]at a;exact a
theorem G2{v:V}{l:Ub}(sl:Sl h v 1 l.length (zI l))(hl:l.length<=1000)(n:Q (dh (cnt l:Nat)) h):RF P zB 200 [v] h Q:=by
 refine zh zCQ zDy (λtm hs=>?_);refine wpC.round (λk tm h'=>∃i:Nat,i<=l.length/\k=l.length-i/\h'=h/\Has tm [(4,dh i),(0,v),(3,dh (cnt (l.take i):Nat))]) l.length ⟨0,dd,dd,rfl,hs.sub de⟩ ?_;clear hs;rintro k tm h' ⟨i,p,rfl,rfl,hs⟩;refine cg zCQ hs ⟨_,sl.len zM rfl,λc=>?_,λc=>λd a=>?_⟩
 .have hi:i<l.length:=dd
  obtain⟨b,o,q,m⟩:=yS sl hi;have e:=yN hi;have hb:=Yl (l.take i);rw[List.length_take]at hb;generalize l[i]=x at m e;refine⟨b,o,q,x,m,λf=>λd a=>⟨rfl,rfl,l.length-(i+1),dd,i+1,dd,rfl,rfl,?_⟩,λf=>λd a=>⟨rfl,rfl,l.length-(i+1),dd,i+1,dd,rfl,rfl,?_⟩⟩
  .have g:zb (((cnt (l.take i):Nat):Int)+1)=((cnt (l.take (i+1)):Nat):Int):=by
    rw[e,Ym,if_pos f,zD dd dd];rfl
   rw[<-g,<-zf];exact a.sub de
  have g:cnt (l.take (i+1))=cnt (l.take i):=by rw[e,Ym,if_neg f];rfl
  rw[g,<-zf];exact a.sub de
 have hi:i=l.length:=dd
 subst hi;rw[List.take_length]at a;exact thenC.left (sg a (λr j=>endW.r1 (j.get rfl) n))
theorem _root_.Go.Sim.leaveL.tmp{c:Ctx}{a:Nat}{l:List (Go.ResultVar×V)}{acc:Ug}{r:Option Ug}(hr:leaveL c h l (v::acc)=r):leaveL c h ((.tmp a,v)::l) acc=r:=hr
def CY(l:Ub)(n:Int):Int:=if jE l=0 then (if n<0\/131072<n then 2 else 0) else jE l
theorem vP{n:Int}(sl:Sl h v 1 l.length (zI l))(hl:l.length<=1000)(a:Q (dh (CY l n)) h):RF P zB 194 [v,dh n] h Q:=by
 unfold CY at a;refine zh zHU zDu (bA sl hl ⟨_,rfl,λc=>?_,λc=>?_⟩)
 .rw[if_pos c]at a;refine⟨λb=>?_,λb=>⟨λd=>?_,λd=>?_⟩⟩
  .rw[if_pos (.inl b)]at a;exact a
  .rw[if_pos (.inr d)]at a;exact a
  rw[if_neg dd]at a;rw[c];exact a
 rw[if_neg c]at a;exact a
def PG(n:Nat):Ug:=[dh ((n+3)/4:Nat),dh ((n+3)/4:Nat),dh ((n+3)/4:Nat),dh (n-3*((n+3)/4):Nat)]
abbrev oP4(a b c d:Int):O:=.cells (.ls [dh a,dh b,dh c,dh d]) ⟨0,177,0⟩ true false
theorem zBF{n:Nat}(h:6<=n)(h2:n<=131072): [(dh (zb (Int.tdiv (zb (((n:Nat):Int)+3)) 4))),(dh (zb (Int.tdiv (zb (((n:Nat):Int)+3)) 4))),(dh (zb (Int.tdiv (zb (((n:Nat):Int)+3)) 4))),(dh (zb (((n:Nat):Int)-(zb ((3:Int)*(zb (Int.tdiv (zb (((n:Nat):Int)+3)) 4)))))))]=PG n:=by
 have a:zb (((n:Nat):Int)+3)=((n+3:Nat):Int):=by rw[zD dd dd];rfl
 have b:Int.tdiv ((n+3:Nat):Int) 4=(((n+3)/4:Nat):Int):=rfl;have c:zb (((n+3)/4:Nat):Int)=(((n+3)/4:Nat):Int):=zD dd dd;have d:zb ((3:Int)*(((n+3)/4:Nat):Int))=((3*((n+3)/4):Nat):Int):=by rw[zD dd dd];omega
 have e:zb (((n:Nat):Int)-((3*((n+3)/4):Nat):Int))=((n-3*((n+3)/4):Nat):Int):=by rw[zD dd dd];omega
 rw[a,b,c,d,e];rfl
theorem zBC{a b c d:Int}:∀v∈[dh a,dh b,dh c,dh d],Plain v:=λv e=>by simp only[oq,List.not_mem_nil,or_false]at e;rcases e with rfl|rfl|rfl|rfl<;>exact zN _ _
theorem WM{n:Nat}(h1:6<=n)(h2:n<=131072)(b:Q (.agg (PG n)) h):RF P zB 197 [dh n] h Q:=by
 refine RF.plain ?_ (Pe (zN _ _));refine zh zHV zDx ⟨dg,?_⟩;rintro p0 h3 rfl a;have c:h3.get H0.nx=some (oP4 0 0 0 0):=by rw[a];exact zK _ dg
 clear a;exact⟨dg,_,by rw[zBF h1 h2];exact zY fQ c rfl,endL.ok (leaveL.cell (zT fQ rfl (zF _ (show H0.nx<T.top by decide)) rfl) rfl) ⟨jg zBC,b⟩⟩
theorem _root_.Go.Sim.Row.list{l:Ug}{n:Nat}(h:l.length=n):Row (.ls l) n l:=⟨trivial,by show ws l 0=n;rw[yF];omega,h,λ_ _=>Cs.getL_eq _ _⟩
theorem eG{p k:Nat}(a:k<12):xK zB 381 (.ptr p 0) (dh k)=some (.ptr p k):=by rcases k with _|_|_|_|_|_|_|_|_|_|_|_|k;all_goals first|omega|kernel_rfl
abbrev oK(cs:Cs):O:=.cells cs ⟨0,382,0⟩ true false
theorem kx(l:Ub):zI (yi l)=[dh (zz l 0:Nat),dh (zz l 1:Nat),dh (zz l 2:Nat),dh (zz l 3:Nat),dh (zz l 4:Nat),dh (zz l 5:Nat),dh (zz l 6:Nat),dh (zz l 7:Nat),dh (zz l 8:Nat),dh (zz l 9:Nat),dh (zz l 10:Nat),dh (zz l 11:Nat)]:=by
 have:List.range 12=[0,1,2,3,4,5,6,7,8,9,10,11]:=dg
 unfold yi JS;rw[this];rfl
theorem _root_.Go.Sim.Row.all12{cs:Cs}{xs:Ug}(r:Row cs 12 xs):cs.range 0 12=some xs:=Cs.range_is dg r.2.2.1 λi hi=>by rw[Nat.zero_add];exact r.2.2.2 i hi
theorem G1{v:V}{l:Ub}(sl:Sl h v 1 l.length (zI l))(hl:l.length<=256)(hb:wO l=true)(hn:h.nx+1<=T.top)(N:∀h',Ext h h' 1->Q (.tuple [.agg (zI (yi l)),dh 0]) h'):RF P zB 330 [v] h Q:=by
 refine zh zCk zF3 ⟨dd,?_⟩;rintro p0 h1 rfl I;have z:=(Vw.nil (S:=zH) (h:=h)).new I dd;have O:=(zm I).2.1;have s1:=sl.ext O;rw[show([dh 0,dh 0,dh 0,dh 0,dh 0,dh 0,dh 0,dh 0,dh 0,dh 0,dh 0,dh 0]:Ug)=zI (yi [])from by rw[kx];rfl]at z;refine⟨_,s1.len zM rfl,λc=>absurd c dd,λ_=>⟨_,s1.len zM rfl,λtm hs=>?_⟩⟩;refine wpC.round (λk tm h'=>∃(i:Nat) (cs:Cs),i<=l.length/\k=l.length-i/\Vw zH h h' 1 [(h.nx,oK cs)]/\h'.nx<=T.top/\Row cs 12 (zI (yi (l.take i)))/\Has tm [(12,dh i),(11,dh (Int.ofNat l.length)),(10,v),(2,.ptr h.nx 0)]) l.length ⟨0,_,dd,dd,z,by have:=z.top;omega,(show Row (.ls (zI (yi []))) 12 (zI (yi []))from Row.list (by rw[kx];rfl)),hs.sub de⟩ ?_;clear hs;rintro k tm h' ⟨i,cs,R,rfl,w,p,r,hs⟩;have A:=sl.ext w.ex0;refine cg zCk hs ⟨λc=>?_,λc=>λB n=>?_⟩
 .have hi:i<l.length:=by have:(i:Int)<Int.ofNat l.length:=c;simp at this;omega
  obtain⟨b,o,U,J⟩:=yS A hi;have K:=yN hi;have W:=yq hb (oV hi);generalize l[i]=x at J K W;refine⟨b,o,U,x,J,λX=>absurd X dd,λ_=>⟨λY=>absurd Y dd,λ_=>λB n=>?_⟩⟩;obtain⟨s,rfl⟩:∃s:Nat,x=(s:Int):=⟨x.toNat,dd⟩;have d:s<12:=dd
  have C:=qR (l.take i) s;rw[List.length_take]at C;have D:(zI (yi (l.take i)))[s]? = some (dh (zz (l.take i) s:Nat)):=by unfold zI;rw[od,jA d];rfl
  obtain⟨h2,cs',E,r2,y,Z⟩:=w.set (cx:=zB) 0 (e:=3) (j:=s) (u:=dh (zz (l.take i) s+1:Nat)) r rfl p d zX rfl rfl rfl rfl;have ew:zb (((zz (l.take i) s:Nat):Int)+1)=((zz (l.take i) s+1:Nat):Int):=by rw[zD dd dd];rfl
  refine sg n ⟨_,_,eG d,_,w.ld1 0 rfl zX ((r.2.2.2 s d).trans D),_,_,eG d,h2,by rw[ew];exact E,λF g=>?_⟩;refine thenC.nx (sg g (λtm3 G=>G.slt λtm4 H=>⟨rfl,rfl,l.length-(i+1),dd,i+1,cs',dd,rfl,y,by show h2.nx<=_;omega,?_,?_⟩))
  .rw[<-xY,Jz d,<-K]at r2;exact r2
  rw[<-zf];exact H.sub de
 have hi:i=l.length:=by have:¬(i:Int)<Int.ofNat l.length:=c;simp at this;omega
 subst hi;rw[List.take_length]at r;have L:=r.all12;rw[kx]at L;have m:(zI (yi l)).length=12:=r.2.2.1;obtain⟨q,M,p2⟩:=Cs.put_some (cs:=cs) r.1 (o:=0) (vs:=zI (yi l)) (by rw[r.2.1,m];decide);obtain⟨_,p3,p4⟩:=Cs.put_eq M;have r2:Row q 12 (zI (yi l)):=⟨p2,by rw[p3,r.2.1],m,λa ha=>by rw[p4,if_pos ⟨oM _,dd⟩,Nat.sub_zero]⟩
 obtain⟨h2,E,y,Z,_⟩:=w.st (cx:=zB) 0 (t:=381) (f:=0) (u:=.agg (zI (yi l))) (cs':=q) rfl p P3 M (by rw[kx];rfl) (oM _) (by rw[kx];rfl);refine thenC.left (sg n ⟨_,_,_,_,_,_,_,_,_,_,_,_,w.ldA 0 rfl P3 L,h2,by rw[<-kx];exact E,λF g=>?_⟩);exact endW.ok (leave.cell (g.get rfl) (y.ldA 0 rfl P3 r2.all12) (leave.tmp (g.get rfl) rfl)) (N _ y.ex0)
def yk(l:Ub):Prop:=l.length<=256/\wO l=true/\2<=cnt l/\ym 11 l=2048
def cJ(l:Ub):Nat->Nat
 | 0=>0
 | j+1=>cJ l j+zz l (j+1)*2^(11-(j+1))
def eY(l:Ub):Nat->Nat
 | 0=>0
 | j+1=>eY l j+zz l (j+1)
theorem QT(l:Ub):∀j,eY l j<=l.length*j
 | 0=>oM _
 | j+1=>by have:=QT l j;have:=qR l (j+1);rw[eY,Nat.mul_succ];omega
theorem PI(l:Ub):∀j,cJ l j<=l.length*2048*j
 | 0=>oM _
 | j+1=>by have:=PI l j;have a:=qR l (j+1);have h2:2^(11-(j+1))<=2^11:=Nat.pow_le_pow_right dg dd;have h3:=Nat.mul_le_mul a h2;rw[cJ,Nat.mul_succ];omega
theorem R2(l:Ub)(x:Int)(s:Nat):zz (x::l) s=zz l s+(if x=(s:Int) then 1 else 0):=by
 unfold zz;by_cases c:x=(s:Int)
 .rw[List.filter_cons_of_pos (by simpa using c),if_pos c];rfl
 rw[List.filter_cons_of_neg (by simpa using c),if_neg c];rfl
theorem TH:∀{l:Ub},wO l=true->cJ l 11=ym 11 l/\eY l 11=cnt l
 | [],_=>⟨rfl,rfl⟩
 | x::l,h=>by
  have h2:wO l=true:=by have:wO ([x]++l)=true:=h;rw[jw,oI]at this;exact this.2
  have f:=yq h (List.mem_cons_self ..);obtain⟨a,b⟩:=TH h2;have d:ym 11 (x::l)=lone 11 x+ym 11 l:=by simp[ym]
  have e:cnt (x::l)=cnt l+(if x≠0 then 1 else 0):=by have:=j7 [x] l;rw[List.singleton_append]at this;rw[this,Nat.add_comm];congr 1;by_cases c:x=0<;>simp[cnt,c]
  rw[d,e,<-a,<-b];simp only[cJ,eY,R2];have:x=0\/x=1\/x=2\/x=3\/x=4\/x=5\/x=6\/x=7\/x=8\/x=9\/x=10\/x=11:=dd
  rcases this with rfl|rfl|rfl|rfl|rfl|rfl|rfl|rfl|rfl|rfl|rfl|rfl<;>(simp[lone];try omega)
theorem eX{v:V}{l:Ub}(sl:Sl h v 1 l.length (zI l))(w:yk l)(E:h.nx+2<=T.top)(x:Q (dh 0) h):RF P zB 317 [v] h Q:=by
 obtain⟨hl,hb,F,b⟩:=w;refine RF.forget (n:=2) (v:=dh 0) ?_ (zN _ _) x;refine zh zCi zFS (G1 sl hl hb dd λy m=>?_);have G:=m.top;rw[kx];refine⟨_,_,_,_,_,_,_,_,_,_,_,_,_,rfl,dd,?_⟩;rintro p h3 rfl z;have o:=((Vw.nil (S:=zH) (h:=h)).ext m).new z dd;have H:=o.top;obtain⟨h4,q,s,n4,_⟩:=o.st (cx:=zB) 0 (t:=381) (f:=0) (u:=.agg (zI (yi l))) (cs':=.ls (zI (yi l))) rfl dd P3 (by rw[kx];rfl) (by rw[kx];rfl) (oM _) (by rw[kx];rfl);rw[kx]at q;refine⟨h4,q,λc=>absurd rfl c,λ_=>λtm hs=>?_⟩;have r:Row (.ls (zI (yi l))) 12 (zI (yi l)):=Row.list (by rw[kx];rfl);refine wpC.round (λk tm h'=>∃j:Nat,j<=11/\k=11-j/\h'=h4/\Has tm [(7,dh (j+1:Nat)),(5,dh (cJ l j:Nat)),(3,.ptr y.nx 0),(6,dh (eY l j:Nat))]) 11 ⟨0,dd,dd,rfl,hs.sub de⟩ ?_;clear hs;rintro k tm h' ⟨j,d,rfl,rfl,hs⟩;refine cg zCi hs ⟨λc=>?_,λc=>λe a=>?_⟩
 .have d:j<11:=dd
  have I:=QT l j;have J:=PI l j;have K:=qR l (j+1);have L:l.length*j<=256*11:=Nat.mul_le_mul hl dd;have M:l.length*2048*j<=256*2048*11:=Nat.mul_le_mul (Nat.mul_le_mul_right _ hl) dd;have h2:2^(11-(j+1))<=2^11:=Nat.pow_le_pow_right dg dd;have h3:zz l (j+1)*2^(11-(j+1))<=256*2^11:=Nat.mul_le_mul dd h2;have g:(zI (yi l))[j+1]? = some (dh (zz l (j+1):Nat)):=by unfold zI;rw[od,jA];rfl
  have ld:=s.ld1 (cx:=zB) (t:=3) 0 rfl zX ((r.2.2.2 (j+1) dd).trans g);have sh:wI .shl .i64 ((zz l (j+1):Nat):Int) (zb ((11:Int)-((j+1:Nat):Int)))=some (dh ((zz l (j+1)*2^(11-(j+1)):Nat):Int)):=by rw[zD dd dd,show(11:Int)-((j+1:Nat):Int)=((11-(j+1):Nat):Int)by omega];exact zr dd dd
  refine⟨_,_,eG dd,_,ld,_,sh,_,_,eG dd,_,ld,λe a=>⟨rfl,rfl,11-(j+1),dd,j+1,dd,rfl,rfl,?_⟩⟩;have A:zb (((cJ l j:Nat):Int)+((zz l (j+1)*2^(11-(j+1)):Nat):Int))=((cJ l (j+1):Nat):Int):=by rw[zD dd dd,cJ];omega
  have i:zb (((eY l j:Nat):Int)+((zz l (j+1):Nat):Int))=((eY l (j+1):Nat):Int):=by rw[zD dd dd,eY];omega
  rw[<-A,<-i,show((j+1+1:Nat):Int)=zb (((j+1:Nat):Int)+1)from by rw[zD dd dd];rfl];exact a.sub de
 have d:j=11:=dd
 subst d;obtain⟨B,C⟩:=TH hb;rw[B,C,b]at a;refine thenC.left (sg a ⟨λc=>absurd c dd,λ_=>⟨λc=>absurd rfl c,λ_=>λD b=>?_⟩⟩);exact endW.r1 (b.get rfl) ⟨rfl,s.ex0.mono dd⟩
theorem CQ{v:V}{l:Ub}(sl:Sl h v 1 l.length (zI l))(hl:l.length<=256)(h1:0<l.length)(hb:wO l=true)(q:Q (dh (yQ l:Nat)) h):RF P zB 331 [v] h Q:=by
 refine zh zCl zF4 ⟨_,sl.len zM rfl,λc=>absurd c dd,λ_=>λtm hs=>?_⟩;obtain⟨b,o,g,e⟩:=yS sl h1;have r:=yq hb (oV h1);have f:=yN h1;rw[List.take_zero,List.nil_append]at f;have g0:Hl (l.take (0+1))=l[0]:=by rw[f];show max (0:Int) l[0]=l[0];omega
 generalize l[0]=s at e g0;refine sg hs ⟨b,o,g,s,e,λj a=>?_⟩;refine wpC.round (λk tm h'=>∃i:Nat,1<=i/\i<=l.length/\k=l.length-i/\h'=h/\Has tm [(4,dh i),(0,v),(3,dh (Hl (l.take i)))]) (l.length-1) ⟨1,dd,dd,dd,rfl,by rw[g0];exact a.sub de⟩ ?_;clear hs a;rintro k tm h' ⟨i,t,u,rfl,rfl,hs⟩;refine cg zCl hs ⟨_,sl.len zM rfl,λc=>?_,λc=>λm d=>?_⟩
 .have hi:i<l.length:=dd
  obtain⟨b,o,g,e⟩:=yS sl hi;have p:=yN hi;generalize l[i]=x at e p;refine⟨b,o,g,x,e,λm d=>⟨rfl,rfl,l.length-(i+1),dd,i+1,dd,dd,rfl,rfl,?_⟩⟩;rw[p,Vc,<-zf];exact d.sub de
 have hi:i=l.length:=dd
 subst hi;rw[List.take_length,nr]at d;exact thenC.left (sg d (λj a=>a.slt λw n=>endW.r1 (n.get rfl) q))
theorem KP(sl:Sl h v 1 l.length (zI l))(hl:l.length<=256)(h1:0<l.length)(hb:wO l=true)(a:Q (dh (yQ l:Nat)) h):RF P zB 318 [v] h Q :=
 zh zID zFT (CQ sl hl h1 hb ⟨_,rfl,a⟩)
def VA(a0 a1 b0 b1:Int):Int:=jC [jR b1 a1,jR a0 b0]
section
variable (a0 a1 b0 b1:Int)
abbrev sv(a b:Int):V:=.agg [dh a,dh b]
theorem DB{h:H}(a b:Int)(c:h.nx<T.top):∃h',zO zB 23 2 [(0,dh a),(1,dh b)] h=some (.slice h.nx 0 2 (.exact 2),h')/\Sl h' (.slice h.nx 0 2 (.exact 2)) 1 2 [dh a,dh b]/\Ext h h' 1:=by
 have e:zO zB 23 2 [(0,dh a),(1,dh b)] h=(match (cond (Nat.blt h.nx T.top) (some (h.nx,h.new ((.cells (.ls [dh a,dh b]) ⟨0,3+1,0⟩ true false)))) none:Option (Nat×H))with|some (b,h')=>some (.slice b 0 2 (.exact 2),h')|none=>none):=de
 rw[(zW _ _).2 c,oN]at e;exact⟨_,e,⟨rfl,.inr ⟨h.nx,0,_,_,_,_,_,rfl,by rw[zC];omega,zK _ c,λi hi=>by
  rcases i with _|_|i
  .rfl
  .rfl
  omega⟩⟩,Ext.new _ c⟩
theorem HL{h:H}{Q:Uc}(b:Q (dh (VA a0 a1 b0 b1)) h):RF P zB 333 [sv a0 a1,sv b0 b1] h Q:=by
 refine RF.plain ?_ (zg rfl);have b:∀h':H,Plain (dh (VA a0 a1 b0 b1))/\Q (dh (VA a0 a1 b0 b1)) h:=λ_=>⟨zk rfl,b⟩
 refine zh zIL zF5 ⟨of_decide_eq_true de,?_⟩;rintro p0 c rfl d;have k:=(Vw.nil (S:=zH) (h:=H0)).new (o:=.cells (.ls [dh a0,dh a1]) ⟨0,373,0⟩ true false) d dg;have n1:c.nx=H0.nx+1:=by rw[d,zC]
 have q:H0.nx=0:=rfl;have r:=zt;refine⟨dd,?_⟩;rintro s h3 rfl f;have a:=k.new (o:=.cells (.ls [dh b0,dh b1]) ⟨0,373,0⟩ true false) f dd;have t:h3.nx=c.nx+1:=by rw[f,zC]
 have g:h3.low<=T.top:=by have:=a.low;have:H0.low=T.top:=rfl;omega
 have i:h3.nx<=T.top:=dd
 refine⟨⟨i,g⟩,_,a.ld1 0 rfl zX rfl,_,a.ld1 1 rfl zX rfl,Jy ⟨_,rfl,nd i g ?_⟩⟩;refine⟨_,a.ld1 1 rfl zX rfl,_,a.ld1 0 rfl zX rfl,Jy ⟨_,rfl,λe m=>⟨by cases e;rfl,m⟩,?_⟩⟩;obtain⟨j,n,p,u⟩:=DB (h:=h3) (jR b1 a1) (jR a0 b0) dd;exact⟨_,j,n,AB (l:=[jR b1 a1,jR a0 b0]) p (by simp) ⟨_,rfl,b j⟩⟩
end
end Go.Proofs.YtnpeieeomokomaaGreat
