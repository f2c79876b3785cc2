/- TD. No condition. -/
import Derived.Test.YtnpeieeomokomaaGreatZTA
import Derived.Test.YtnpeieeomokomaaGreatZTB
set_option maxRecDepth 100000
namespace Go.Proofs.YtnpeieeomokomaaGreat
open Go.Sim
theorem zGR {m:Nat}(h:0<m):zT m=zT (m/2)+1:=by
 unfold zT;rw[if_neg (by omega)];by_cases h2:m/2=0
 ·have:m=1:=by omega
  subst this;rfl
 ·rw[if_neg h2,Nat.log2_def,if_pos (by omega)]
theorem OX {n:Nat}{h:H}{Q:V->H->Prop}(hn:n<9223372036854775808) (hq:Q (.int .i64 ((zT n:Nat)-1:Int)) h):RF P zA 153 [.int .i64 n] h Q:=by
 have hb:zT n<=63:=yE hn;refine RF.enterS zG zY1 (ble _ _ rfl) (ble _ _ rfl) z0e (Has.nil.on λtm hs=>?_);refine wpC.round (λk tm h'=>∃m:Nat,m<=n/\zT m<=zT n/\k=m/\h'=h/\Has tm [(0,.int .i64 m),(3,.int .i64 ((zT n:Nat)-(zT m:Nat)-1:Int))]) n ⟨n,oO _,oO _,rfl,rfl,by rw[show((zT n:Nat)-(zT n:Nat)-1:Int) = -1 by omega];exact hs.sub rfl⟩ ?_
 rintro k tm h' ⟨m,h1,h2,rfl,rfl,hs⟩;refine wpC.at hs zQi rfl rfl ⟨λc=>⟨by decide,hs.on λtm' hs'=>?_⟩,λc=>hs.on λtm' hs'=>?_⟩
 ·have hk:0<k:=by omega
  have hh:=zGR hk;refine⟨rfl,rfl,k/2,by omega,k/2,by omega,by omega,rfl,rfl,?_⟩;have e1:zL (Int.tdiv (k:Int) 2)=((k/2:Nat):Int):=by rw[show Int.tdiv (k:Int) 2=((k/2:Nat):Int)from rfl,zH (by omega) (by omega)]
  have e2:zL (((zT n:Nat)-(zT k:Nat)-1:Int)+1)=((zT n:Nat)-(zT (k/2):Nat)-1:Int):=by rw[zH (by omega) (by omega)];omega
  rw[<-e1,<-e2];exact hs'.sub rfl
 ·have h0:k=0:=by omega
  subst h0;have e0:((zT n:Nat)-(zT 0:Nat)-1:Int)=((zT n:Nat)-1:Int):=by rw[show zT 0=0 from rfl];omega
  rw[e0]at hs';refine thenC.left (wpS.at hs' zRk rfl rfl (hs'.on λtm2 hs2=>?_));exact endW.r1 (hs2.get rfl) hq
theorem JI {n:Nat}{h:H}{Q:V->H->Prop}(hn:n<9223372036854775808) (hq:Q (.int .i64 (zT n:Nat)) h):RF P zA 156 [.int .i64 n] h Q:=by
 have hb:zT n<=63:=yE hn;refine RF.enterS zG zY2 (ble _ _ rfl) (ble _ _ rfl) z0f (OX hn ⟨_,rfl,?_⟩);rw[show zL (((zT n:Nat)-1:Int)+1)=((zT n:Nat):Int)by rw[zH (by omega) (by omega)];omega];exact hq
def pt (x:Int):Int:=if x<0 then 1 else x
def pts (l:List Int):Int:=(l.map pt).sum
theorem kV (l m:List Int):pts (l++m)=pts l+pts m:=by unfold pts;rw[List.map_append,List.sum_append]
theorem zCM (x:Int):pts [x]=pt x:=by simp[pts]
theorem zES {x:Int}(h:x<=1048576):0<=pt x/\pt x<=1048576:=by unfold pt;split<;>omega
theorem zBI:∀{l:List Int},(∀x∈l,x<=1048576)->0<=pts l/\pts l<=1048576*l.length
 | [],_=>by simp[pts]
 | x::l,h=>by
  have h1:=zES (h x (List.mem_cons_self ..));have h2:=zBI (l:=l) λy hy=>h y (oH _ hy)
  have:pts (x::l)=pt x+pts l:=by simp[pts]
  rw[this,oS];omega
theorem O3 {v:V}{l:List Int}{h:H}{Q:V->H->Prop}(sl:Sl h v 1 l.length (zM l)) (hl:l.length<=1000) (hx:∀x∈l,x<=1048576) (hq:Q (.int .i64 (pts l)) h):RF P zA 148 [v] h Q:=by
 refine RF.enterS zG zYZ (ble _ _ rfl) (ble _ _ rfl) z0c (Has.nil.on λtm hs=>?_);refine wpC.round (λk tm h'=>∃i:Nat,i<=l.length/\k=l.length-i/\h'=h/\Has tm [(4,.int .i64 i),(0,v),(3,.int .i64 (pts (l.take i)))]) l.length ⟨0,by omega,by omega,rfl,hs.sub rfl⟩ ?_
 rintro k tm h' ⟨i,h1,rfl,rfl,hs⟩;refine wpC.at hs zQd rfl rfl ⟨_,sl.len zQ rfl,λc=>?_,λc=>hs.on λtm' hs'=>?_⟩
 ·have hi:i<l.length:=by omega
  have hg:l[i]? = some l[i]:=oM hi;obtain⟨b,o,e1,e2⟩:=sl.at1 (u:=.int .i64 l[i]) hi zQ rfl zi rfl rfl (by rw[oU,hg];rfl);have ht:l.take (i+1)=l.take i++[l[i]]:=by rw[List.take_add_one,hg];rfl
  have hr:=hx l[i] (oQ hi);generalize l[i]=x at hg e2 ht hr;have e:zL ((i:Int)+1)=((i+1:Nat):Int):=by rw[zH (by omega) (by omega)];rfl
  have hb:=zBI (l:=l.take i) λy hy=>hx y (List.mem_of_mem_take hy)
  rw[List.length_take]at hb;have hw:pts (l.take (i+1))=pts (l.take i)+pt x:=by rw[ht,kV,zCM]
  have hp:=zES hr;refine⟨b,o,e1,x,e2,λc2=>hs.on λtm' hs'=>⟨rfl,rfl,l.length-(i+1),by omega,i+1,by omega,rfl,rfl,?_⟩,λc2=>⟨b,o,e1,x,e2,hs.on λtm' hs'=>⟨rfl,rfl,l.length-(i+1),by omega,i+1,by omega,rfl,rfl,?_⟩⟩⟩
  ·have ew:zL (pts (l.take i)+1)=pts (l.take (i+1)):=by
    rw[zH (by omega) (by omega),hw];unfold pt;rw[if_pos c2]
   rw[<-ew,<-e];exact hs'.sub rfl
  ·have ew:zL (pts (l.take i)+x)=pts (l.take (i+1)):=by
    rw[zH (by omega) (by omega),hw];unfold pt;rw[if_neg c2]
   rw[<-ew,<-e];exact hs'.sub rfl
 ·have hi:i=l.length:=by omega
  subst hi;rw[List.take_length]at hs';refine thenC.left (wpS.at hs' zRf rfl rfl (hs'.on λtm2 hs2=>?_));exact endW.r1 (hs2.get rfl) hq
structure GD (log:Nat) (l:List Int):Prop where
 lg:log=5\/log=6
 pos:1<=l.length
 len:l.length<=12
 low:∀x∈l,-1<=x
 last:l.getLast?≠some 0
 pts:pts l=2^log
def Y2 (log:Nat):Nat:=2^log/2+2^log/8+3
def nxt (log m:Nat):Nat->Nat->Nat
 | 0,p=>p
 | f+1,p=>if p<2^log-m then p else nxt log m f ((p+Y2 log) % 2^log)
def YR (log m:Nat):Nat->Nat
 | 0=>0
 | k+1=>nxt log m 13 ((YR log m k+Y2 log) % 2^log)
def qX:List Int->Nat->Nat->List Int->List Int
 | [],_,_,out=>out
 | p::l,s,n,out=>if p = -1 then qX l (s+1) (n-1) (out.set (n-1) s) else qX l (s+1) n out
def ZD (log m:Nat) (s:Nat):Nat->Nat->List Int->List Int
 | 0,_,out=>out
 | c+1,k,out=>ZD log m s c (k+1) (out.set (YR log m k) s)
def ZE (log m:Nat):List Int->Nat->Nat->List Int->List Int
 | [],_,_,out=>out
 | p::l,s,k,out=>ZE log m l (s+1) (k+p.toNat) (ZD log m s p.toNat k out)
def zz (l:List Int):Nat:=(l.filter λx=>decide (x = -1)).length
def zh (log:Nat) (l:List Int):List Int:=ZE log (zz l) l 0 0 (qX l 0 (2^log) (List.replicate (2^log) 0))
def Kk (log m:Nat):Bool :=
 ((List.range 64).all λp=>decide (nxt log m 13 ((p+Y2 log) % 2^log)<2^log-m)) &&
 ((List.range (2^log-m)).all λq=>(List.range (2^log-m)).any λk=>decide (YR log m k=q))
theorem zFn:((List.range 13).all λm=>Kk 5 m && Kk 6 m)=true:=by decide +kernel
theorem zAp {log m:Nat}(hl:log=5\/log=6) (hm:m<=12):Kk log m=true:=by
 have h:=List.all_eq_true.1 zFn m (List.mem_range.2 (by omega));rw[oG]at h;rcases hl with rfl|rfl
 ·exact h.1
 ·exact h.2
theorem yc {log:Nat}(hl:log=5\/log=6):32<=2^log/\2^log<=64:=by rcases hl with rfl|rfl<;>decide
theorem zW1 {log m p:Nat}(hl:log=5\/log=6) (hm:m<=12) (hp:p<2^log):nxt log m 13 ((p+Y2 log) % 2^log)<2^log-m:=by
 have h:=zAp hl hm;unfold Kk at h;rw[oG]at h;exact of_decide_eq_true (List.all_eq_true.1 h.1 p (List.mem_range.2 (by have:=yc hl;omega)))
theorem ZB {log m:Nat}(hl:log=5\/log=6) (hm:m<=12) (k:Nat):YR log m k<2^log-m:=by
 have hp:=yc hl;cases k with
 | zero=>show 0<_;omega
 | succ k=>exact zW1 hl hm (by have:=ZB hl hm k;omega)
theorem zQK {log m q:Nat}(hl:log=5\/log=6) (hm:m<=12) (hq:q<2^log-m):∃k,k<2^log-m/\YR log m k=q:=by
 have h:=zAp hl hm;unfold Kk at h;rw[oG]at h;obtain⟨k,h1,h2⟩:=List.any_eq_true.1 (List.all_eq_true.1 h.2 q (List.mem_range.2 hq));exact⟨k,List.mem_range.1 h1,of_decide_eq_true h2⟩
theorem ZH:∀{l:List Int}{s n:Nat}{out:List Int},(qX l s n out).length=out.length
 | [],_,_,_=>rfl
 | p::l,s,n,out=>by
  unfold qX;split
  ·rw[ZH,oc]
  ·exact ZH
theorem XI {log m s:Nat}:∀{c k:Nat}{out:List Int},(ZD log m s c k out).length=out.length
 | 0,_,_=>rfl
 | c+1,k,out=>by unfold ZD;rw[XI,oc]
theorem zEX {log m:Nat}:∀{l:List Int}{s k:Nat}{out:List Int},(ZE log m l s k out).length=out.length
 | [],_,_,_=>rfl
 | p::l,s,k,out=>by unfold ZE;rw[zEX,XI]
theorem Oj (log:Nat) (l:List Int):(zh log l).length=2^log:=by unfold zh;rw[zEX,ZH,List.length_replicate]
theorem kK (p:Int) (l:List Int):zz (p::l)=(if p = -1 then 1 else 0)+zz l:=by
 unfold zz;rw[List.filter_cons];by_cases h:p = -1
 ·rw[if_pos h,if_pos (by simp[h]),oS];omega
 ·rw[if_neg h,if_neg (by simp[h])];omega
theorem XA (l:List Int):zz l<=l.length:=List.length_filter_le _ _
def OG (l:List Int):Nat:=(l.map Int.toNat).sum
theorem Z2 (p:Int) (l:List Int):OG (p::l)=p.toNat+OG l:=by simp[OG]
theorem xl (p:Int) (l:List Int):pts (p::l)=pt p+pts l:=by simp[pts]
theorem xF:∀{l:List Int},(∀x∈l,-1<=x)->((OG l+zz l:Nat):Int)=pts l
 | [],_=>rfl
 | p::l,h=>by
  have h1:=xF (l:=l) λx hx=>h x (oH _ hx)
  have h2:=h p (List.mem_cons_self ..);rw[Z2,kK,xl];unfold pt;by_cases c:p = -1
  ·rw[if_pos c,if_pos (by omega)]
   have:p.toNat=0:=by omega
   omega
  ·rw[if_neg c,if_neg (by omega)]
   omega
theorem GD.cells {log:Nat}{l:List Int}(g:GD log l):OG l+zz l=2^log:=by
 have h:=xF g.low;rw[g.pts]at h;have:((2^log:Nat):Int)=2^log:=by simp
 omega
def Occ (l:List Int) (x:Int):Prop:=∃s:Nat,x=s/\∃p,l[s]? = some p/\p≠0
theorem O5 {all:List Int}:∀{l:List Int}{s n:Nat}{out:List Int},all.drop s=l->zz l<=n->n<=out.length->(∀i x,n<=i->out[i]? = some x->Occ all x)->∀i x,n-zz l<=i->(qX l s n out)[i]? = some x->Occ all x
 | [],s,n,out,_,_,_,h=>λi x hi hx=>h i x (by have:zz []=0:=rfl;omega) hx
 | p::l,s,n,out,hd,hr,hn,h=>by
  have hd2:all.drop (s+1)=l:=by rw[<-List.drop_drop,hd];rfl
  have hs:all[s]? = some p:=by
   have:=congrArg (λl:List Int=>l[0]?) hd;rw[List.getElem?_drop]at this;simpa using this
  rw[kK]at hr ⊢;unfold qX;split
  ·rename_i c
   rw[if_pos c]at hr;refine λi x hi hx=>O5 (n:=n-1) hd2 (by omega) (by rw[oc];omega) (λi x hi hx=>?_) i x (by omega) hx
   by_cases e:i=n-1
   ·subst e
    rw[List.getElem?_set_self (by omega)]at hx;cases hx;exact⟨s,rfl,p,hs,by omega⟩
   ·rw[oW (by omega)]at hx
    exact h i x (by omega) hx
  ·rename_i c
   rw[if_neg c]at hr;exact λi x hi hx=>O5 hd2 (by omega) hn h i x (by omega) hx
theorem zEV {all:List Int}{log m s:Nat}{p:Int}(hl:log=5\/log=6) (hm:m<=12) (hs:all[s]? = some p) (hp:p≠0):∀{c k:Nat}{out:List Int},out.length=2^log ->
  (∀i x,2^log-m<=i->out[i]? = some x->Occ all x)->(∀j x,j<k->out[YR log m j]? = some x->Occ all x) ->
  (∀i x,2^log-m<=i->(ZD log m s c k out)[i]? = some x->Occ all x)/\(∀j x,j<k+c->(ZD log m s c k out)[YR log m j]? = some x->Occ all x)
 | 0,k,out,_,h1,h2=>⟨h1,h2⟩
 | c+1,k,out,ho,h1,h2=>by
  unfold ZD;have hk:=ZB hl hm k;have r:=zEV hl hm hs hp (c:=c) (k:=k+1) (out:=out.set (YR log m k) s) (by rw[oc];exact ho) (λi x hi hx=>?_) (λj x hj hx=>?_)
  ·exact⟨r.1,λj x hj hx=>r.2 j x (by omega) hx⟩
  ·rw[oW (by omega)]at hx
   exact h1 i x hi hx
  ·by_cases e:YR log m j=YR log m k
   ·rw[e,List.getElem?_set_self (by omega)]at hx
    cases hx;exact⟨s,rfl,p,hs,hp⟩
   ·rw[oW (λq=>e q.symm)]at hx
    by_cases e2:j=k
    ·exact absurd (by rw[e2]) e
    ·exact h2 j x (by omega) hx
theorem OR {all:List Int}{log m:Nat}(hl:log=5\/log=6) (hm:m<=12):∀{l:List Int}{s k:Nat}{out:List Int},all.drop s=l->out.length=2^log ->
  (∀i x,2^log-m<=i->out[i]? = some x->Occ all x)->(∀j x,j<k->out[YR log m j]? = some x->Occ all x) ->
  (∀i x,2^log-m<=i->(ZE log m l s k out)[i]? = some x->Occ all x)/\(∀j x,j<k+OG l->(ZE log m l s k out)[YR log m j]? = some x->Occ all x)
 | [],s,k,out,_,_,h1,h2=>⟨h1,h2⟩
 | p::l,s,k,out,hd,ho,h1,h2=>by
  have hd2:all.drop (s+1)=l:=by rw[<-List.drop_drop,hd];rfl
  have hs:all[s]? = some p:=by
   have:=congrArg (λl:List Int=>l[0]?) hd;rw[List.getElem?_drop]at this;simpa using this
  unfold ZE;rw[Z2];by_cases c:p=0
  ·subst c
   show(∀i x,_->(ZE log m l (s+1) (k+0) out)[i]? = some x->_)/\(∀j x,j<k+(0+OG l)->(ZE log m l (s+1) (k+0) out)[YR log m j]? = some x->_);rw[Nat.zero_add];exact OR hl hm hd2 ho h1 h2
  ·obtain⟨r1,r2⟩:=zEV hl hm hs c (c:=p.toNat) (k:=k) ho h1 h2
   have r:=OR hl hm hd2 (by rw[XI];exact ho) r1 r2;exact⟨r.1,λj x hj hx=>r.2 j x (by omega) hx⟩
theorem Ok {log:Nat}{l:List Int}(g:GD log l) {i:Nat}{x:Int}(hx:(zh log l)[i]? = some x):Occ l x:=by
 have hm:zz l<=12:=oP (XA l) g.len;have hp:=yc g.lg;have hc:=g.cells;have h1:=O5 (all:=l) (l:=l) (s:=0) (n:=2^log) (out:=List.replicate (2^log) 0) rfl (by omega) (by rw[List.length_replicate];exact oO _) (λi x hi hx=>by
  rw[oa (by rw[List.length_replicate];exact hi)]at hx;cases hx)
 obtain⟨h2,h3⟩:=OR (all:=l) (l:=l) (s:=0) (k:=0) g.lg hm rfl (by rw[ZH,List.length_replicate]) h1 (λj x hj _=>absurd hj (Nat.not_lt_zero _))
 by_cases c:i<2^log-zz l
 ·obtain⟨k,hk,rfl⟩:=zQK g.lg hm c
  exact h3 k x (by omega) hx
 ·exact h2 i x (by omega) hx
end Go.Proofs.YtnpeieeomokomaaGreat
