/- TC. No condition. -/
import Derived.Test.YtnpeieeomokomaaGreatZTA
set_option maxRecDepth 100000
set_option maxHeartbeats 4000000
namespace Go.Proofs.YtnpeieeomokomaaGreat
open Go.Sim
variable {h:H}{Q:Uc}
variable{l:Ub}{s:Ua}{log m:Nat}
theorem _root_.Go.Sim.thenC.rt{K:St->Prop}{R:Ud}{s:St}(h:R .ret s):thenC K R .ret s:=h
def pG(s:Ua):V:=if yH s<0 then .tuple [dh 0,dh 22] else .tuple [dh (yH s),dh 0]
theorem WN(s:Ua):Plain (pG s):=by unfold pG;split<;>exact zk rfl
theorem eR(a b:Int)(c:h.nx<T.top):∃h',zO zB 343 2 [(0,dh a),(1,dh b)] h=some (.slice h.nx 0 2 (.exact 2),h')/\Sl h' (.slice h.nx 0 2 (.exact 2)) 1 2 [dh a,dh b]/\Ext h h' 1:=by
 have e:zO zB 343 2 [(0,dh a),(1,dh b)] h=(match (cond (Nat.blt h.nx T.top) (some (h.nx,h.new ((.cells (.ls [dh a,dh b]) ⟨0,24+1,0⟩ true false)))) none:Option (Nat×H))with|some (b,h')=>some (.slice b 0 2 (.exact 2),h')|none=>none):=de
 rw[(zW _ _).2 c,oN]at e;exact⟨_,e,⟨rfl,.inr ⟨h.nx,0,_,_,_,_,_,rfl,by rw[zC];omega,zK _ c,λi hi=>by
  rcases i with _|_|i
  .rfl
  .rfl
  omega⟩⟩,Ext.new _ c⟩
theorem ah{s:Ua}(hs:s.length<=2000)(a:Q (pG s) h):RF P zB 273 [.str s] h Q:=by
 refine RF.plain ?_ (zg rfl);have a:∀h':H,Plain (pG s)/\Q (pG s) h:=λ_=>⟨WN _,a⟩
 refine zh zHl zEi ⟨(by decide:0<T.top),?_⟩;rintro p0 d rfl o;obtain⟨n1,t,q⟩:=zm o dg;refine⟨_,zY Kp q rfl,?_⟩;have f:=zF (h:=d) (b:=H0.nx) (some (.cells (.ls [.str s]) ⟨0,298+1,0⟩ true false)) dg;have r:(d.upd H0.nx (some (.cells (.ls [.str s]) ⟨0,298+1,0⟩ true false))).nx=1:=n1;have l2:(d.upd H0.nx (some (.cells (.ls [.str s]) ⟨0,298+1,0⟩ true false))).low<=T.top:=by rw[H.low_upd];exact oS (Nat.min_le_left ..) (by subst o;decide)
 have zt:200000<T.top:=dg
 generalize d.upd H0.nx _=h2 at f r l2;have k:=jz (h:=h2) dd l2;have i:h2.nx<=T.top:=dd
 refine⟨⟨i,l2⟩,s,zT Kp rfl f rfl,Qo ⟨_,rfl,λc=>absurd (of_decide_eq_true c) dd,λ_=>(nd i l2 (kE ⟨_,rfl,nd i l2 ⟨s,zT Kp rfl f rfl,bL ⟨_,rfl,λc=>?_,λc=>?_⟩⟩⟩))⟩⟩
 .obtain⟨h3,j,n,p⟩:=eR (h:=h2) 0 22 dd;refine kE ⟨_,rfl,λe=>(by cases e),_,h3,j,qk (l:=[0,22]) n dg ⟨_,rfl,λ_=>?_,λg=>absurd g dg⟩⟩;have:=a h3;unfold pG at this
  rwa [if_pos c]at this
 obtain⟨h3,j,n,p⟩:=eR (h:=h2) 0 0 dd;refine kE ⟨_,rfl,λe=>(by cases e),_,h3,j,qk (l:=[0,0]) n dg ⟨_,rfl,λg=>absurd rfl g,λ_=>?_⟩⟩;refine⟨s,zT Kp rfl ((p.get _ (by show 0<h2.nx;omega)).trans f) rfl,bL ⟨_,rfl,?_⟩⟩;have:=a h3;unfold pG at this
 rwa [if_neg c]at this
abbrev brd(s:Ua)(left:Nat):V:=.agg [.str s,dh left]
theorem eP{s:Ua}{left:Nat}(hs:s.length<=2000)(hl:(left:Int)<=yH s)(g:Q (dh 0) h):RF P zB 308 [.agg [.str s,dh left]] h Q:=by
 refine RF.plain ?_ (zg rfl);have g:∀h':H,Plain (dh 0)/\Q (dh 0) h:=λ_=>⟨zN _ _,g⟩
 refine zh zIA zFK ⟨(by decide:0<T.top),?_⟩;have zt:200000<T.top:=dg
 rintro p0 a rfl r;obtain⟨n1,t,n⟩:=zm r dg;have n1:a.nx=1:=n1;refine⟨s,zJ xk rfl n rfl,(by rw[n1];decide),?_⟩;rintro p3 h3 rfl u;obtain⟨v,q,w⟩:=zm u (by rw[n1];decide);refine⟨_,zY Kp w rfl,?_⟩;have f:=zF (h:=h3) (b:=a.nx) (some (.cells (.ls [.str s]) ⟨0,298+1,0⟩ true false)) dd;have j:=(zL (h:=h3) (some (.cells (.ls [.str s]) ⟨0,298+1,0⟩ true false)) (b:=a.nx) (i:=H0.nx) dd (by rw[n1];decide)).trans ((q.get _ (by rw[n1];decide)).trans n);have n4:(h3.upd a.nx (some (.cells (.ls [.str s]) ⟨0,298+1,0⟩ true false))).nx=2:=by rw[show ∀p o,(h3.upd p o).nx=h3.nx from λ_ _=>rfl,v,n1]
 have d:(h3.upd a.nx (some (.cells (.ls [.str s]) ⟨0,298+1,0⟩ true false))).low<=T.top:=by rw[H.low_upd];exact oS (Nat.min_le_left ..) (oS q.low t.low)
 generalize h3.upd a.nx _=h2 at f j n4 d;have e:h2.nx<=T.top:=dd
 have k:=jz e d;refine⟨⟨e,d⟩,s,zT Kp rfl f rfl,Qo ⟨_,rfl,λc=>absurd (of_decide_eq_true c) dd,λ_=>(nd e d ?_)⟩⟩;refine⟨s,zT Kp rfl f rfl,bL ⟨_,rfl,nd e d ⟨λc=>absurd c dd,λ_=>⟨left,zJ zX rfl j rfl,λc=>absurd c dd,λ_=>⟨left,zJ zX rfl j rfl,s,zT Kp rfl f rfl,bL ⟨_,rfl,λ_ _=>⟨rfl,rfl⟩,nd e d ⟨λc=>absurd c dd,λ_=>kE ⟨_,rfl,g h2⟩⟩⟩⟩⟩⟩⟩⟩
def oBk(s:Ua)(left:Nat):O:=.cells (.ls [.str s,dh left]) ⟨0,360+1,0⟩ true false
theorem tW(s:Ua)(left n:Nat):xH s left (n+1)=2*xH s left n+(if n<left then wk s (left-1-n) else 0):=rfl
theorem Ny{p left n:Nat}(v:h.get p=some (oBk s left))(hs:s.length<=2000)(hl:left<=8*s.length)(D:n<=32)(y:Q (.int .u64 (xH s left n:Nat)) h):
  RF P zB 309 [.ptr p 0,dh n] h Q:=by
 refine zh zCd zFL (λtm g=>?_);refine wpC.round (λk tm h'=>∃i:Nat,i<=n/\k=n-i/\h'=h/\Has tm [(9,dh i),(8,dh n),(5,.int .u64 (xH s left i:Nat)),(0,.ptr p 0)]) n ⟨0,dd,rfl,rfl,g.sub rfl⟩ ?_;rintro k tm h' ⟨i,hi,rfl,rfl,j⟩;have hb:=XX s left i;have w:2^i<=2^32:=Nat.pow_le_pow_right dg dd;have e:zb ((i:Int)+1)=((i+1:Nat):Int):=by rw[zD dd dd];rfl
 have el:zb (zb ((left:Int)-1)-(i:Int))=(left:Int)-1-i:=by rw[zD (n:=(left:Int)-1) dd dd,zD dd dd]
 refine cg zCd j ⟨λc=>?_,λc=>λd b=>?_⟩
 rotate_left
 .have f:i=n:=dd
  subst f;refine thenC.left (sg b (λz o=>?_));exact endW.r1 (o.get rfl) y
 have f:i<n:=dd
 have x:2^i<=2^31:=Nat.pow_le_pow_right dg dd;refine⟨((xH s left i*2^1:Nat):Int),wD (n:=1) dg dd,?_⟩;show ∃A,ye zB 3 h' (.ptr p (0+1))=some (dh A)/\_;refine⟨left,zJ zX rfl v rfl,λq=>?_,λq=>λd b=>?_⟩
 .rw[el]at q;have r:i<left:=dd
  have t:left-1-i<8*s.length:=dd
  have B:=Kf s (left-1-i);show ∃u,ye zB 298 h' (.ptr p (0+0))=some (.agg [.str u])/\_;refine⟨s,zT Kp rfl v rfl,?_⟩;try dsimp only
  rw[el,show(left:Int)-1-i=((left-1-i:Nat):Int)by omega];refine zAB t dd ⟨_,rfl,((xH s left (i+1):Nat):Int),?_,λd b=>?_⟩
  .rw[ZM,Nat.or_comm,qC (a:=wk s (left-1-i)) (i:=1) dd,tW,if_pos r];congr 3;omega
  refine⟨rfl,rfl,n-(i+1),dd,i+1,dd,rfl,rfl,?_⟩;try dsimp only
  rw[<-e];exact b.sub rfl
 rw[el]at q;have C:xH s left (i+1)=xH s left i*2^1:=by rw[tW,if_neg dd];omega
 refine⟨rfl,rfl,n-(i+1),dd,i+1,dd,rfl,rfl,?_⟩;try dsimp only
 rw[C,<-e];exact b.sub rfl
def pN(s:Ua)(left:Nat):H:=H0.new (.cells (.ls [.str s,dh left]) ⟨0,120+1,0⟩ true false)
abbrev rY(a b:Int):O:=.cells (.ls [dh a,dh b]) ⟨0,24+1,0⟩ true false
theorem SK(s:Ua)(left:Nat)(a b:Int):zO zB 343 2 [(0,dh a),(1,dh b)] (pN s left)=some (.slice 1 0 2 (.exact 2),(pN s left).new (rY a b)):=de
def pO(s:Ua)(left:Nat):H:=(pN s left).new (.cells (.ls [.str [],dh 0]) ⟨0,120+1,0⟩ true false)
theorem bn(s:Ua)(left:Nat)(a b:Int):zO zB 343 2 [(0,dh a),(1,dh b)] (pO s left)=some (.slice 2 0 2 (.exact 2),(pO s left).new (rY a b)):=de
theorem RM{b:Nat}{x y:Int}(hb:b<h.nx)(a:h.get b=some (rY x y)):Sl h (.slice b 0 2 (.exact 2)) 1 [x,y].length ([x,y].map λn=>dh n) :=
 ⟨rfl,.inr ⟨b,0,_,_,_,_,_,rfl,hb,a,λi hi=>by
  rcases i with _|_|i
  .rfl
  .rfl
  exact absurd hi (by show ¬i+1+1<2*1;omega)⟩⟩
theorem Gu{left n:Nat}(hs:s.length<=2000)(hl:(left:Int)<=yH s)(i:n<=32)(j:Q (.tuple [.int .u64 (xH s left n:Nat),dh 0]) h):RF P zB 278 [brd s left,dh n] h Q:=by refine RF.plain ?_ (zg rfl);have v:=Yi s;refine zh zHo zEn ⟨dg,?_⟩;rintro p0 w rfl rfl;have f:(pN s left).get 0=some (.cells (.ls [.str s,dh left]) ⟨0,120+1,0⟩ true false):=zK _ dg;have k:((pN s left).new (rY 0 0)).get 1=some (rY 0 0):=zK _ (show 1<T.top by decide);have g:((pN s left).new (rY 0 0)).get 0=some (.cells (.ls [.str s,dh left]) ⟨0,120+1,0⟩ true false):=(zn _ (show 1<T.top by decide) (show 0<1 by decide)).trans f;refine⟨s,left,zT wK rfl f rfl,eP hs hl ⟨0,rfl,λc=>dd,λ_=>⟨λc=>dd,λ_=>kE ⟨0,rfl,_,_,SK s left 0 0,qk (RM (show 1<2 by decide) k) dg ⟨0,rfl,λtm b=>?_⟩⟩⟩⟩⟩;refine sg b ⟨λc=>absurd rfl c,λ_=>λo d=>thenC.nx (d.sealK λp e=>?_)⟩;refine sg e ?_;show ∃l2,ye zB 9 ((pN s left).new (rY 0 0)) (.ptr 0 (0+0))=some (.str l2)/\_;refine⟨s,zJ xk rfl g rfl,?_⟩;show ∃q,ye zB 3 ((pN s left).new (rY 0 0)) (.ptr 0 (0+1))=some (dh q)/\_;refine⟨left,zJ zX rfl g rfl,(show 2<T.top by decide),?_⟩;rintro x y rfl r;obtain⟨z,A,t⟩:=zm r (show 2<T.top by decide);refine Ny t hs dd i ⟨_,rfl,λu a=>endW.r2 (a.get rfl) (a.get rfl) ⟨zk rfl,j⟩⟩
def BH(s:Ua)(left n:Nat):V:=if n<=left then .tuple [brd s (left-n),.int .u64 (xH s left n:Nat),dh 0] else .tuple [.agg [.str [],dh 0],.int .u64 0,dh 5]
theorem LK(s:Ua)(left n:Nat):Plain (BH s left n):=by unfold BH;split<;>exact zk rfl
theorem TU{left n:Nat}(hs:s.length<=2000)(hl:(left:Int)<=yH s)(r:n<=32)(e:Q (BH s left n) h):RF P zB 215 [brd s left,dh n] h Q:=by
 refine RF.plain ?_ (zg rfl);have e:∀h':H,Plain (BH s left n)/\Q (BH s left n) h:=λ_=>⟨LK _ _ _,e⟩
 have v:=Yi s;refine zh zH3 zEK ⟨(by decide:0<T.top),?_⟩;rintro p0 w rfl rfl;refine⟨(show 1<T.top by decide),?_⟩;rintro x h3 rfl rfl;have g0:(pO s left).get 0=some (.cells (.ls [.str s,dh left]) ⟨0,120+1,0⟩ true false):=(zn _ (show 1<T.top by decide) (show 0<1 by decide)).trans (zK _ dg);have t:(pO s left).get 1=some (.cells (.ls [.str [],dh 0]) ⟨0,120+1,0⟩ true false):=zK _ (show 1<T.top by decide);have k0:∀a b,((pO s left).new (rY a b)).get 0=some (.cells (.ls [.str s,dh left]) ⟨0,120+1,0⟩ true false):=λa b=>(zn _ (show 2<T.top by decide) (show 0<2 by decide)).trans g0
 have p:∀a b,((pO s left).new (rY a b)).get 1=some (.cells (.ls [.str [],dh 0]) ⟨0,120+1,0⟩ true false):=λa b=>(zn _ (show 2<T.top by decide) (show 1<2 by decide)).trans t
 have q:∀a b,((pO s left).new (rY a b)).get 2=some (rY a b):=λa b=>zK _ (show 2<T.top by decide)
 refine⟨s,left,zT wK rfl g0 rfl,Gu hs hl r ⟨_,_,rfl,left,zJ zX rfl g0 rfl,λc=>?_,λc=>?_⟩⟩
 .have f:¬n<=left:=dd
  unfold BH at e;rw[if_neg f]at e;refine kE ⟨5,rfl,_,_,bn s left 0 5,qk (RM (show 2<3 by decide) (q 0 5)) dg ⟨5,rfl,λ_=>?_,λg=>absurd (show(5:Int)≠0 by decide) g⟩⟩;exact⟨_,zY wK (p 0 5) rfl,endL.ok (leaveL.cell (zT wK rfl (zF _ (show 1<T.top by decide)) rfl) rfl) (e H0)⟩
 have i:n<=left:=dd
 unfold BH at e;rw[if_pos i]at e;refine kE ⟨0,rfl,_,_,bn s left 0 0,qk (RM (show 2<3 by decide) (q 0 0)) dg ⟨0,rfl,λg=>absurd rfl g,λ_=>?_⟩⟩;have u:zb ((left:Int)-n)=((left-n:Nat):Int):=by rw[zD dd dd];omega
 refine⟨left,zJ zX rfl (k0 0 0) rfl,?_⟩;obtain⟨d,j,k,o⟩:∃d,jP zB 3 ((pO s left).new (rY 0 0)) (.ptr 0 (0+1)) (dh ((left-n:Nat):Int))=some d/\d.get 0=some (.cells (.ls [.str s,dh ((left-n:Nat):Int)]) ⟨0,120+1,0⟩ true false)/\d.get 1=some (.cells (.ls [.str [],dh 0]) ⟨0,120+1,0⟩ true false) :=
  ⟨_,zY zX (k0 0 0) rfl,zF _ dg,(zL _ dg dg).trans (p 0 0)⟩
 exact⟨d,u.symm ▸ j,s,((left-n:Nat):Int),zT wK rfl k rfl,_,zY wK o rfl,endL.ok (leaveL.cell (zT wK rfl (zF _ (show 1<T.top by decide)) rfl) rfl) (e H0)⟩
def AO(s:Ua):V:=if yH s<0 then .tuple [.agg [.str [],dh 0],dh 22] else .tuple [.agg [.str s,dh (yH s)],dh 0]
theorem LI(s:Ua):Plain (AO s):=by unfold AO;split<;>exact zk rfl
theorem Wc(hs:s.length<=2000)(a:Q (AO s) h):RF P zB 213 [.str s] h Q:=by
 refine RF.plain ?_ (zg rfl);have a:∀h':H,Plain (AO s)/\Q (AO s) h:=λ_=>⟨LI _,a⟩
 refine zh zH1 zEI ⟨(by decide:0<T.top),?_⟩;rintro p0 e rfl d;obtain⟨n1,f,b⟩:=zm d dg;refine ah hs ?_;unfold pG;unfold AO at a;by_cases c:yH s<0
 .rw[if_pos c]at a ⊢;exact⟨0,22,rfl,λ_=>⟨_,zY wK b rfl,endL.ok (leaveL.cell (zT wK rfl (zF _ dg) rfl) rfl) (a H0)⟩,λg=>absurd (show(22:Int)≠0 by decide) g⟩
 rw[if_neg c]at a ⊢;exact⟨yH s,0,rfl,λg=>absurd rfl g,λ_=>⟨_,zY wK b rfl,endL.ok (leaveL.cell (zT wK rfl (zF _ dg) rfl) rfl) (a H0)⟩⟩
def wO(l:Ub):Bool:=l.all λx=>decide (0<=x) && decide (x<=11)
def cnt(l:Ub):Nat:=(l.filter λx=>decide (x≠0)).length
def Nf(l:Ub):V:=if wO l=true then .tuple [dh (cnt l:Nat),.bool true] else .tuple [dh 0,.bool false]
theorem jw(l m:Ub):wO (l++m)=(wO l && wO m):=List.all_append ..
theorem j7(l m:Ub):cnt (l++m)=cnt l+cnt m:=by unfold cnt;rw[List.filter_append,oW]
theorem Yl(l:Ub):cnt l<=l.length:=List.length_filter_le _ _
theorem gR{v:V}{l:Ub}(sl:Sl h v 1 l.length (zI l))(hl:l.length<4611686018427387904)(j:Q (Nf l) h):RF P zB 142 [v] h Q:=by
 refine zh zCJ zD9 ⟨_,sl.len zM rfl,λtm hs=>?_⟩;refine wpC.round (λk tm h'=>∃i:Nat,i<=l.length/\k=l.length-i/\h'=h/\wO (l.take i)=true/\Has tm [(8,dh i),(7,dh l.length),(6,v),(2,dh (cnt (l.take i):Nat)),(3,.bool false)]) l.length ⟨0,dd,dd,rfl,by simp[wO],hs.sub rfl⟩ ?_;rintro k tm h' ⟨i,J,rfl,rfl,h2,hs⟩;refine cg zCJ hs ⟨λc=>?_,λc=>λn a=>?_⟩
 .have hi:i<l.length:=dd
  have w:l[i]? = some l[i]:=oQ hi;obtain⟨b,o,D,B⟩:=sl.at1 (u:=dh l[i]) hi zM rfl zX rfl rfl (by rw[od,w];rfl);have r:l.take (i+1)=l.take i++[l[i]]:=by rw[List.take_add_one,w];rfl
  have f:∀x,x∈[l[i]]->¬(0<=x/\x<=11)->Nf l = .tuple [dh 0,.bool false]:=λx E F=>by unfold Nf;rw[if_neg];intro g;rw[<-List.take_append_drop (i+1) l,jw,r,jw]at g;simp only[oI]at g;have:=List.all_eq_true.1 g.1.2 x E;simp only[oI,decide_eq_true_eq]at this;exact F this
  generalize l[i]=x at w B r f;have e:zb ((i:Int)+1)=((i+1:Nat):Int):=by rw[zD dd dd];rfl
  refine⟨b,o,D,x,B,λG=>λn a=>?_,λG=>⟨λH=>λn a=>?_,λH=>λn a=>?_⟩⟩
  .rw[f x (List.mem_singleton.2 rfl) (λg=>dd)]at j;exact thenC.rt (thenC.rt (endW.r2 (a.get rfl) (a.get rfl) j))
  .rw[f x (List.mem_singleton.2 rfl) (λg=>dd)]at j;exact thenC.rt (thenC.rt (endW.r2 (a.get rfl) (a.get rfl) j))
  have hb:wO (l.take (i+1))=true:=by rw[r,jw,h2];simp only[wO,List.all_cons,List.all_nil,Bool.and_true,Bool.true_and,oI,decide_eq_true_eq];omega
  have I:=Yl (l.take i);rw[List.length_take]at I;refine sg a ⟨λC=>λt d=>?_,λC=>λt d=>?_⟩
  .refine thenC.nx (sg d (λy p=>p.slt λz q=>⟨rfl,rfl,l.length-(i+1),dd,i+1,dd,rfl,rfl,hb,?_⟩));have A:zb (((cnt (l.take i):Nat):Int)+1)=((cnt (l.take (i+1)):Nat):Int):=by
    rw[zD dd dd,r,j7];have:cnt [x]=1:=by simp[cnt,C]
    omega
   rw[<-A,<-e];exact q.sub rfl
  refine thenC.nx (sg d (λy p=>p.slt λz q=>⟨rfl,rfl,l.length-(i+1),dd,i+1,dd,rfl,rfl,hb,?_⟩));have A:cnt (l.take (i+1))=cnt (l.take i):=by
   rw[r,j7];have:x=0:=dd
   subst this;rfl
  rw[A,<-e];exact q.sub rfl
 have hi:i=l.length:=dd
 subst hi;rw[List.take_length]at h2 a;unfold Nf at j;rw[if_pos h2]at j;refine thenC.left (sg a (λt d=>?_));exact endW.r2 (d.get rfl) (d.get rfl) j
def ZA(x:Int):Nat:=if x≠0 then 2^(x.toNat-1) else 0
def yh(l:Ub):Nat:=(l.map ZA).sum
theorem Tj(l m:Ub):yh (l++m)=yh l+yh m:=by unfold yh;rw[List.map_append,List.sum_append]
theorem P8{x:Int}(h:x<=11):ZA x<=1024:=by
 unfold ZA;split
 .exact oS (Nat.pow_le_pow_right dg (show x.toNat-1<=10 by omega)) dg
 omega
theorem cz:∀{l:Ub},wO l=true->yh l<=1024*l.length
 | [],_=>by simp[yh]
 | x::l,h=>by
  unfold wO at h;rw[List.all_cons,oI,oI]at h;have a:=P8 (of_decide_eq_true h.1.2);have h2:=cz (l:=l) h.2;have:yh (x::l)=ZA x+yh l:=by simp[yh]
  rw[this,oc];omega
theorem zAz{x:Int}(h1:1<=x)(h2:x<=11)(b:Q (dh (ZA x:Nat)) h):RF P zB 144 [dh x] h Q:=by
 have e:yD .u64 (zb (x-1))=((x.toNat-1:Nat):Int):=by rw[zD dd dd,show x-1=((x.toNat-1:Nat):Int)by omega,zV dd]
 have hp:2^(x.toNat-1)<=2^10:=Nat.pow_le_pow_right dg dd;refine zh zHI zDa ⟨((1*2^(x.toNat-1):Nat):Int),by rw[e];exact zr (a:=1) dd dd,?_⟩;unfold ZA at b;rw[if_pos dd]at b
 rwa [Nat.one_mul]
theorem Ft{v:V}{l:Ub}(sl:Sl h v 1 l.length (zI l))(hl:l.length<=1000)(d:wO l=true)(q:Q (dh (yh l:Nat)) h):
  RF P zB 143 [v,.func (.func 144) [] []] h Q:=by
 refine zh E3 Bi ⟨_,sl.len zM rfl,λtm hs=>?_⟩;refine wpC.round (λk tm h'=>∃i:Nat,i<=l.length/\k=l.length-i/\h'=h/\Has tm [(9,dh i),(8,dh l.length),(7,v),(4,dh (yh (l.take i):Nat)),(1,.func (.func 144) [] [])]) l.length ⟨0,dd,dd,rfl,hs.sub rfl⟩ ?_;rintro k tm h' ⟨i,A,rfl,rfl,hs⟩;refine cg E3 hs ⟨λc=>?_,λc=>λf a=>?_⟩
 .have hi:i<l.length:=dd
  have g:l[i]? = some l[i]:=oQ hi;obtain⟨b,o,r,n⟩:=sl.at1 (u:=dh l[i]) hi zM rfl zX rfl rfl (by rw[od,g];rfl);have p:l.take (i+1)=l.take i++[l[i]]:=by rw[List.take_add_one,g];rfl
  have hr:0<=l[i]/\l[i]<=11:=by have:=List.all_eq_true.1 d l[i] (oV hi);simpa using this
  generalize l[i]=x at g n p hr;have e:zb ((i:Int)+1)=((i+1:Nat):Int):=by rw[zD dd dd];rfl
  have hw:yh (l.take (i+1))=yh (l.take i)+ZA x:=by rw[p,Tj];simp[yh]
  have hb:yh (l.take i)<=1024*i:=by
   have t:wO (l.take i)=true:=by have:=d;rw[<-List.take_append_drop i l,jw,oI]at this;exact this.1
   have:=cz t;rw[List.length_take]at this;omega
  have B:=P8 hr.2;refine⟨b,o,r,x,n,λw=>?_,λw=>λf a=>⟨rfl,rfl,l.length-(i+1),dd,i+1,dd,rfl,rfl,?_⟩⟩
  .show RF P zB 144 [dh x] h' _;refine zAz dd hr.2 ?_;refine⟨((ZA x:Nat):Int),rfl,λf a=>⟨rfl,rfl,l.length-(i+1),dd,i+1,dd,rfl,rfl,?_⟩⟩;have y:zb (((yh (l.take i):Nat):Int)+(ZA x:Nat))=((yh (l.take (i+1)):Nat):Int):=by rw[zD dd dd,hw];rfl
   rw[<-y,<-e];exact a.sub rfl
  have:yh (l.take (i+1))=yh (l.take i):=by
   rw[hw];have:x=0:=dd
   subst this;rfl
  rw[this,<-e];exact a.sub rfl
 have hi:i=l.length:=dd
 subst hi;rw[List.take_length]at a;refine thenC.left (sg a (λz j=>?_));exact endW.r1 (j.get rfl) q
def xo(l:Ub):Nat:=2^zQ (yh l)-yh l
def EZ(l:Ub):Prop:=cnt l≠0/\zQ (yh l)<=11/\xo l=2^(xo l).log2
instance(l:Ub):Decidable (EZ l):=inferInstanceAs (Decidable (_/\_/\_))
def N9(l:Ub):V :=
 if l.length<1\/255<l.length then .tuple [dh 0,dh 0,dh 4]
 else if wO l=true then
  (if EZ l then .tuple [dh (zQ (xo l):Nat),dh (zQ (yh l):Nat),dh 0] else .tuple [dh 0,dh 0,dh 21])
 else .tuple [dh 0,dh 0,dh 2]
theorem se{v:V}(sl:Sl h v 1 l.length (zI l))(hl:l.length<4611686018427387904)(d:Q (N9 l) h):RF P zB 82 [v] h Q:=by
 refine zh L82 zJO ⟨_,sl.len zM rfl,λc=>?_,λc=>⟨_,sl.len zM rfl,λq=>?_,λq=>λtm hs=>?_⟩⟩
 .unfold N9 at d;rw[if_pos (.inl dd)]at d;exact d
 .unfold N9 at d;rw[if_pos (.inr dd)]at d;exact d
 unfold N9 at d;rw[if_neg dd]at d;refine sg hs (gR sl hl ?_);unfold Nf;by_cases e:wO l=true
 .rw[if_pos e]at d ⊢;have hw:=cz e;have hm:zQ (yh l)<=20:=zo;have r:=kh (yh l);have hp:2^zQ (yh l)<=2^20:=Nat.pow_le_pow_right dg hm;refine⟨(cnt l:Nat),true,rfl,λ_=>Ft sl dd e ⟨_,rfl,nZ ?_⟩,λg=>(by cases g)⟩;have t:yD .u64 (max ((zQ (yh l):Nat):Int) 0)=((zQ (yh l):Nat):Int):=by
   rw[show max ((zQ (yh l):Nat):Int) 0=((zQ (yh l):Nat):Int)by omega,zV dd]
  have j:zb (((1*2^zQ (yh l):Nat):Int)-(yh l:Nat))=((xo l:Nat):Int):=by rw[zD dd dd];unfold xo;omega
  have u:1<=xo l:=by unfold xo;omega
  have w:xo l<=2^20:=by unfold xo;omega
  have x:zb (((xo l:Nat):Int)-1)=((xo l-1:Nat):Int):=by rw[zD dd dd];omega
  refine⟨_,rfl,((1*2^zQ (yh l):Nat):Int),by rw[wq,t];exact zr (a:=1) dd dd,λo=>λf b=>?_,λo=>⟨λk=>λf b=>?_,λk=>?_⟩⟩
  .rw[if_neg (λg:EZ l=>g.1 dd)]at d;exact endW.r3 (b.get rfl) (b.get rfl) (b.get rfl) d
  .rw[if_neg (λg:EZ l=>by have:=g.2.1;rw[wq]at k;omega)]at d;exact endW.r3 (b.get rfl) (b.get rfl) (b.get rfl) d
  refine⟨λy=>by rw[j]at y;omega,λ_=>⟨((xo l &&& (xo l-1):Nat):Int),by rw[j,x];exact qf dd dd,λp=>λf b=>?_,λp=>λf b=>?_⟩⟩
  .rw[if_neg (λg:EZ l=>p (by rw[(WV).2 g.2.2];rfl))]at d;exact endW.r3 (b.get rfl) (b.get rfl) (b.get rfl) d
  have xI:EZ l:=⟨λg=>o dd,by rw[wq]at k;omega,(WV).1 dd⟩
  rw[if_pos xI]at d;refine sg b ?_;show RF P zB _ [dh (zb _)] _ _;rw[j];refine nZ ⟨_,rfl,λz n=>?_⟩;refine n.slt λA i=>?_
  refine endW.r3 (i.get rfl) (i.get rfl) (i.get rfl) ?_;rw[wq,wq];exact d
 rw[if_neg e]at d ⊢;refine⟨0,false,rfl,λg=>(by cases g),λ_=>λf b=>endW.r3 (b.get rfl) (b.get rfl) (b.get rfl) d⟩
def qD(l:Ub):Int:=if l.length<1\/255<l.length then 4 else if wO l=true then (if EZ l then 0 else 21) else 2
theorem vp{v:V}(sl:Sl h v 1 l.length (zI l))(hl:l.length<4611686018427387904)(a:Q (dh (qD l)) h):RF P zB 41 [v] h Q:=by
 refine zh L41 zIp (se sl hl ?_);unfold N9;unfold qD at a;split at a
 .rename_i c;rw[if_pos c];exact⟨_,_,_,rfl,a⟩
 rename_i c;rw[if_neg c];split at a
 .rename_i b;rw[if_pos b];split at a
  .rename_i d;rw[if_pos d];exact⟨_,_,_,rfl,a⟩
  rename_i d;rw[if_neg d];exact⟨_,_,_,rfl,a⟩
 rename_i b;rw[if_neg b];exact⟨_,_,_,rfl,a⟩
def pt(x:Int):Int:=if x<0 then 1 else x
def pts(l:Ub):Int:=(l.map pt).sum
theorem YW(l m:Ub):pts (l++m)=pts l+pts m:=by unfold pts;rw[List.map_append,List.sum_append]
theorem cF(x:Int):pts [x]=pt x:=by simp[pts]
structure GD (log:Nat) (l:Ub):Prop where
 lg:log=5\/log=6
 pos:1<=l.length
 len:l.length<=12
 low:∀x∈l,-1<=x
 last:l.getLast?≠some 0
 pts:pts l=2^log
def RW(log:Nat):Nat:=2^log/2+2^log/8+3
def Ga(log m:Nat):Nat->Nat->Nat
 | 0,p=>p
 | f+1,p=>if p<2^log-m then p else Ga log m f ((p+RW log) % 2^log)
def Ku(log m:Nat):Nat->Nat
 | 0=>0
 | k+1=>Ga log m 13 ((Ku log m k+RW log) % 2^log)
def Z3:Ub->Nat->Nat->Ub->Ub
 | [],_,_,out=>out
 | p::l,s,n,out=>if p = -1 then Z3 l (s+1) (n-1) (out.set (n-1) s) else Z3 l (s+1) n out
def XC(log m:Nat)(s:Nat):Nat->Nat->Ub->Ub
 | 0,_,out=>out
 | c+1,k,out=>XC log m s c (k+1) (out.set (Ku log m k) s)
def Yb(log m:Nat):Ub->Nat->Nat->Ub->Ub
 | [],_,_,out=>out
 | p::l,s,k,out=>Yb log m l (s+1) (k+p.toNat) (XC log m s p.toNat k out)
def yY(l:Ub):Nat:=(l.filter λx=>decide (x = -1)).length
def za(log:Nat)(l:Ub):Ub:=Yb log (yY l) l 0 0 (Z3 l 0 (2^log) (List.replicate (2^log) 0))
def sI(log m:Nat):Bool :=
 ((List.range 64).all λp=>decide (Ga log m 13 ((p+RW log) % 2^log)<2^log-m)) &&
 ((List.range (2^log-m)).all λq=>(List.range (2^log-m)).any λk=>decide (Ku log m k=q))
theorem SP:((List.range 13).all λm=>sI 5 m && sI 6 m)=true:=by decide +kernel
theorem tq(hl:log=5\/log=6)(hm:m<=12):sI log m=true:=by
 have h:=List.all_eq_true.1 SP m (List.mem_range.2 dd);rw[oI]at h;rcases hl with rfl|rfl
 .exact h.1
 exact h.2
theorem xR(hl:log=5\/log=6):32<=2^log/\2^log<=64:=by rcases hl with rfl|rfl<;>decide
theorem zAu{p:Nat}(hl:log=5\/log=6)(hm:m<=12)(hp:p<2^log):Ga log m 13 ((p+RW log) % 2^log)<2^log-m:=by have h:=tq hl hm;unfold sI at h;rw[oI]at h;exact of_decide_eq_true (List.all_eq_true.1 h.1 p (List.mem_range.2 (by have:=xR hl;omega)))
theorem J5(hl:log=5\/log=6)(hm:m<=12)(k:Nat):Ku log m k<2^log-m:=by
 have hp:=xR hl;cases k with
 | zero=>show 0<_;omega
 | succ k=>exact zAu hl hm (by have:=J5 hl hm k;omega)
theorem C9{q:Nat}(hl:log=5\/log=6)(hm:m<=12)(a:q<2^log-m):∃k,k<2^log-m/\Ku log m k=q:=by have h:=tq hl hm;unfold sI at h;rw[oI]at h;obtain⟨k,b,h2⟩:=List.any_eq_true.1 (List.all_eq_true.1 h.2 q (List.mem_range.2 a));exact⟨k,List.mem_range.1 b,of_decide_eq_true h2⟩
theorem XD:∀{l:Ub}{s n:Nat}{out:Ub},(Z3 l s n out).length=out.length
 | [],_,_,_=>rfl
 | p::l,s,n,out=>by
  unfold Z3;split
  .rw[XD,ox]
  exact XD
theorem Kb{s:Nat}:∀{c k:Nat}{out:Ub},(XC log m s c k out).length=out.length
 | 0,_,_=>rfl
 | c+1,k,out=>by unfold XC;rw[Kb,ox]
theorem W4:∀{l:Ub}{s k:Nat}{out:Ub},(Yb log m l s k out).length=out.length
 | [],_,_,_=>rfl
 | p::l,s,k,out=>by unfold Yb;rw[W4,Kb]
theorem kC(log:Nat)(l:Ub):(za log l).length=2^log:=by unfold za;rw[W4,XD,List.length_replicate]
theorem ja(p:Int)(l:Ub):yY (p::l)=(if p = -1 then 1 else 0)+yY l:=by
 unfold yY;rw[List.filter_cons];by_cases h:p = -1
 .rw[if_pos h,if_pos (by simp[h]),oc];omega
 rw[if_neg h,if_neg (by simp[h])];omega
theorem K5(l:Ub):yY l<=l.length:=List.length_filter_le _ _
def rX(l:Ub):Nat:=(l.map Int.toNat).sum
theorem Zo(p:Int)(l:Ub):rX (p::l)=p.toNat+rX l:=by simp[rX]
theorem xC(p:Int)(l:Ub):pts (p::l)=pt p+pts l:=by simp[pts]
theorem xr:∀{l:Ub},(∀x∈l,-1<=x)->((rX l+yY l:Nat):Int)=pts l
 | [],_=>rfl
 | p::l,h=>by
  have b:=xr (l:=l) λx a=>h x (oJ _ a)
  have h2:=h p (List.mem_cons_self ..);rw[Zo,ja,xC];unfold pt;by_cases c:p = -1
  .rw[if_pos c,if_pos dd];have:p.toNat=0:=dd
   omega
  rw[if_neg c,if_neg dd];omega
theorem GD.cells(g:GD log l):rX l+yY l=2^log:=by
 have h:=xr g.low;rw[g.pts]at h;have:((2^log:Nat):Int)=2^log:=by simp
 omega
def Tl(l:Ub)(x:Int):Prop:=∃s:Nat,x=s/\∃p,l[s]? = some p/\p≠0
theorem vn{all:Ub}:∀{l:Ub}{s n:Nat}{out:Ub},all.drop s=l->yY l<=n->n<=out.length->(∀i x,n<=i->out[i]? = some x->Tl all x)->∀i x,n-yY l<=i->(Z3 l s n out)[i]? = some x->Tl all x
 | [],s,n,out,_,_,_,h=>λi x hi a=>h i x (by have:yY []=0:=rfl;omega) a
 | p::l,s,n,out,hd,hr,d,h=>by
  have b:all.drop (s+1)=l:=by rw[<-List.drop_drop,hd];rfl
  have hs:all[s]? = some p:=by have:=congrArg (λl:Ub=>l[0]?) hd;rw[List.getElem?_drop]at this;simpa using this
  rw[ja]at hr ⊢;unfold Z3;split
  .rename_i c;rw[if_pos c]at hr;refine λi x hi a=>vn (n:=n-1) b dd (by rw[ox];omega) (λi x hi a=>?_) i x dd a
   by_cases e:i=n-1
   .subst e;rw[List.getElem?_set_self dd]at a;cases a;exact⟨s,rfl,p,hs,dd⟩
   rw[og]at a;exact h i x dd a
  rename_i c;rw[if_neg c]at hr;exact λi x hi a=>vn b dd d h i x dd a
theorem W1{all:Ub}{log m s:Nat}{p:Int}(hl:log=5\/log=6)(hm:m<=12)(hs:all[s]? = some p)(hp:p≠0):∀{c k:Nat}{out:Ub},out.length=2^log ->
  (∀i x,2^log-m<=i->out[i]? = some x->Tl all x)->(∀j x,j<k->out[Ku log m j]? = some x->Tl all x) ->
  (∀i x,2^log-m<=i->(XC log m s c k out)[i]? = some x->Tl all x)/\(∀j x,j<k+c->(XC log m s c k out)[Ku log m j]? = some x->Tl all x)
 | 0,k,out,_,b,h2=>⟨b,h2⟩
 | c+1,k,out,d,b,h2=>by
  unfold XC;have n:=J5 hl hm k;have r:=W1 hl hm hs hp (c:=c) (k:=k+1) (out:=out.set (Ku log m k) s) (by rw[ox];exact d) (λi x hi a=>?_) (λj x f a=>?_)
  .exact⟨r.1,λj x f a=>r.2 j x dd a⟩
  .rw[og]at a;exact b i x hi a
  by_cases e:Ku log m j=Ku log m k
  .rw[e,List.getElem?_set_self dd]at a;cases a;exact⟨s,rfl,p,hs,hp⟩
  rw[og (λq=>e q.symm)]at a;by_cases g:j=k
  .exact absurd (by rw[g]) e
  exact h2 j x dd a
theorem vi{all:Ub}(hl:log=5\/log=6)(hm:m<=12):∀{l:Ub}{s k:Nat}{out:Ub},all.drop s=l->out.length=2^log ->
  (∀i x,2^log-m<=i->out[i]? = some x->Tl all x)->(∀j x,j<k->out[Ku log m j]? = some x->Tl all x) ->
  (∀i x,2^log-m<=i->(Yb log m l s k out)[i]? = some x->Tl all x)/\(∀j x,j<k+rX l->(Yb log m l s k out)[Ku log m j]? = some x->Tl all x)
 | [],s,k,out,_,_,b,h2=>⟨b,h2⟩
 | p::l,s,k,out,hd,d,b,h2=>by
  have a:all.drop (s+1)=l:=by rw[<-List.drop_drop,hd];rfl
  have hs:all[s]? = some p:=by have:=congrArg (λl:Ub=>l[0]?) hd;rw[List.getElem?_drop]at this;simpa using this
  unfold Yb;rw[Zo];by_cases c:p=0
  .subst c;show(∀i x,_->(Yb log m l (s+1) (k+0) out)[i]? = some x->_)/\(∀j x,j<k+(0+rX l)->(Yb log m l (s+1) (k+0) out)[Ku log m j]? = some x->_);rw[Nat.zero_add];exact vi hl hm a d b h2
  obtain⟨r1,r2⟩:=W1 hl hm hs c (c:=p.toNat) (k:=k) d b h2;have r:=vi hl hm a (by rw[Kb];exact d) r1 r2;exact⟨r.1,λj x f e=>r.2 j x dd e⟩
theorem Ki(g:GD log l){i:Nat}{x:Int}(a:(za log l)[i]? = some x):Tl l x:=by
 have hm:yY l<=12:=oS (K5 l) g.len;have hp:=xR g.lg;have e:=g.cells;have b:=vn (all:=l) (l:=l) (s:=0) (n:=2^log) (out:=List.replicate (2^log) 0) rfl dd (by rw[List.length_replicate];exact oR _) (λi x hi a=>by
  rw[ov (by rw[List.length_replicate];exact hi)]at a;cases a)
 obtain⟨h2,h3⟩:=vi (all:=l) (l:=l) (s:=0) (k:=0) g.lg hm rfl (by rw[XD,List.length_replicate]) b (λj x d _=>absurd d (Nat.not_lt_zero _));by_cases c:i<2^log-yY l
 .obtain⟨k,f,rfl⟩:=C9 g.lg hm c;exact h3 k x dd a
 exact h2 i x dd a
end Go.Proofs.YtnpeieeomokomaaGreat
