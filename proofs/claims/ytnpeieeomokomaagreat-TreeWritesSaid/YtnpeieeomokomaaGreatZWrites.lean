/- Writes. No condition. -/
import Derived.Test.YtnpeieeomokomaaGreatZTP
import Derived.Test.YtnpeieeomokomaaGreatZCk
import Derived.Test.YtnpeieeomokomaaGreatZX
import Derived.ProofKit
import Derived.Test.YtnpeieeomokomaaGreatZCtx
import Derived.Test.YtnpeieeomokomaaGreatZJn
set_option maxRecDepth 100000
set_option maxHeartbeats 4000000
namespace Go.Proofs.YtnpeieeomokomaaGreat
open Go.Sim
theorem OW {v:V}{log:Int}{m s:Nat}{row:Nat->List Int}{h:H}{Q:V->H->Prop}(t:ETab h v m row) (hs:s<m) (hm:m<=256) (h1:1<=(row s).length) (hn:h.next<T.top)
  (hq:∀h' u,Ext h h' 1->Ow h' u xn (row s).length (zM (row s))->Q (.tuple [u,.int .i64 0]) h'):RF P zA 231 [.agg [.int .i64 log,v],.int .i64 s] h Q:=by
 obtain⟨vs,sv,rows⟩:=t;obtain⟨u,hu,ow,_⟩:=rows s hs;refine RF.enterS zG zZD (ble _ _ rfl) (ble _ _ rfl) z1Q (wN sv ⟨hn,?_⟩);rintro p0 h1 rfl e1;have w1:=(Vw.nil (S:=zW) (h:=h)).new e1 hn;have s1:=sv.ext w1.ex0;have ow1:=ow.ext w1.ex0;obtain⟨b,o,a1,a2⟩:=s1.at1 (u:=u) hs yU rfl zQ rfl rfl hu;refine⟨λc=>by omega,λ_=>⟨v,w1.ld1 0 rfl yU rfl rfl,_,s1.len yU rfl,λc=>by omega,λ_=>⟨v,w1.ld1 0 rfl yU rfl rfl,b,o,a1,u,a2,_,ow1.sl.len zQ rfl,λc=>by omega,λ_=>Has.nil.on λtm hs2=>?_⟩⟩⟩
 refine wpS.at hs2 zSc rfl rfl ?_;rw[je];exact⟨v,w1.ld1 0 rfl yU rfl rfl,b,o,a1,u,a2,hs2.on λtm3 hs3=>endW.r2 (hs3.get rfl) (hs3.get rfl) (hq h1 u w1.ex0 ow1)⟩
theorem zLY {x n e p:Nat}(h:n+1<=e) (hp:p<=x/2^e):2*p<=x/2^n:=by
 have h1:x/2^e<=x/2^(n+1):=Nat.div_le_div_left (Nat.pow_le_pow_right (by decide) h) (Nat.two_pow_pos _);have h2:x/2^(n+1)=x/2^n/2:=by rw[Nat.pow_succ,Nat.div_div_eq_div_mul]
 omega
theorem zJe {v:V}{m s st:Nat}{sp:List Int}{h:H}{Q:V->H->Prop}(t:ET h v m sp) (hs:s<m) (hst:st<32) (hr1:1<=(zX sp 32 s).length) (hn:h.next+3<=T.top)
  (hq:∀h',Ext h h' 2->Q (.tuple [.int .i64 (wl (zX sp 32 s) st),.int .i64 (eN (st+32) (zX sp 32 s).length:Nat),.int .i64 (wB (zX sp 32 s) st:Nat),.int .i64 0]) h'):RF P zA 232 [.agg [.int .i64 (5:Nat),v],.int .i64 st,.int .i64 s] h Q:=by
 have hm:=t.hm;have hp32:=wK sp 32 s;obtain⟨q1,q2,q3,_,_⟩:=zAs hst hr1 hp32;obtain⟨vs,sv,_⟩:=t.tab;refine RF.enterS zG zZE (ble _ _ rfl) (ble _ _ rfl) z1R (wN sv ⟨by omega,?_⟩);rintro p0 h1 rfl e1;have w1:=(Vw.nil (S:=zW) (h:=h)).new (o:=oET (5:Nat) v) e1 (by omega);have n1:h1.next=h.next+1:=by rw[e1,zI]
 refine⟨_,w1.ld1 0 rfl zi rfl rfl,((1*2^5:Nat):Int),by rw[zP (by omega)];exact zb (a:=1) (by omega) (by omega),λc=>by omega,λ_=>⟨λc=>by omega,λ_=>Has.nil.on λtm hs0=>?_⟩⟩
 refine wpS.at hs0 zSd rfl rfl (ws (hs0.on λtm1 hs1=>thenC.nx (hs1.sealK λtm2 hs2=>?_)))
 refine wpS.at hs2 zSf rfl rfl ⟨_,_,w1.ldA 0 rfl xc rfl rfl,OW (t.ext w1.ex0).tab hs (by omega) hr1 (by omega) λh3 u x3 ow=>⟨_,_,rfl,λc=>absurd rfl c,λ_=>hs2.on λtm3 hs3=>?_⟩⟩
 have w3:=w1.ext x3;have ex:zL (((st:Nat):Int)+((1*2^5:Nat):Int))=((st+32:Nat):Int):=by rw[zH (by omega) (by omega)];omega
 rw[ex]at hs3;generalize hr:zX sp 32 s=r at *;generalize hpl:r.length=p at *;generalize he:eN (st+32) p=e at *;refine wpC.round (λj tm h'=>∃n:Nat,n<=e/\j=e-n/\h'=h3/\Has tm [(13,.int .i64 (st+32:Nat)),(14,.int .i64 n),(11,u)]) e ⟨0,by omega,by omega,rfl,hs3.sub (by kernel_rfl)⟩ ?_
 clear hs0 hs1 hs2 hs3;rintro j tm h' ⟨n,hne,rfl,rfl,hs0⟩;have hpw:2^n<=2^5:=Nat.pow_le_pow_right (by decide) (by omega);have hpp:=Nat.two_pow_pos n;have hd:=Nat.div_le_self (st+32) (2^n);have e2:zL (2*((p:Nat):Int))=((2*p:Nat):Int):=by rw[zH (by omega) (by omega)];omega
 refine wpC.at hs0 zRI rfl rfl ⟨_,by rw[zP (by omega)];exact j4 (by omega),_,ow.sl.len zQ rfl,λc=>?_,λc=>hs0.on λtm' hs'=>?_⟩
 ·rw[e2]at c
  have hne2:n<e:=by
   rcases Nat.lt_or_ge n e with q|q
   ·exact q
   ·have:n=e:=by omega
    subst this;omega
  refine hs0.on λtm' hs'=>⟨rfl,rfl,e-(n+1),by omega,n+1,by omega,rfl,rfl,?_⟩
  rw[<-zf (i:=n) (by omega)];exact hs'.sub (by kernel_rfl)
 ·rw[e2]at c
  have hne2:n=e:=by
   rcases Nat.lt_or_ge n e with q|q
   ·have:=zLY (x:=st+32) (n:=n) (e:=e) (p:=p) q q1
    omega
   ·omega
  subst hne2;have hi:(st+32)/2^n-p<r.length:=by omega
  obtain⟨b,o,a1,a2⟩:=zg (l:=r) (by rw[hpl];exact ow.sl) hi;have ei:zL ((((st+32)/2^n:Nat):Int)-((p:Nat):Int))=(((st+32)/2^n-p:Nat):Int):=by
   rw[zH (by omega) (by omega)];omega
  have em:zL (((1*2^n:Nat):Int)-1)=((2^n-1:Nat):Int):=by
   rw[zH (by omega) (by omega)];omega
  refine thenC.left (wpS.at hs' zSe rfl rfl ⟨_,by rw[zP (by omega)];exact j4 (by omega),_,ow.sl.len zQ rfl,b,o,by rw[ei];exact a1,_,a2,_,by rw[zP (by omega)];exact zb (a:=1) (by omega) (by omega),_,by rw[em];exact jx (by omega) (by omega),hs'.on λtm3 hs3=>hs3.slt λtm4 hs4=>?_⟩)
  have ha:(st+32) &&& (2^n-1)=wB r st:=by
   rw[jy];unfold wB;rw[hpl,he]
  have e1:r[(st+32)/2^n-p]=wl r st:=by
   unfold wl;rw[hpl,he,oM hi];rfl
  have:=hq h' ((w3.ex0).mono (by omega));rw[<-ha,<-e1]at this;exact endW.ok (leave.tmp (hs4.get (t:=6) rfl) (leave.tmp (hs4.get (t:=7) rfl) (leave.tmp (hs4.get (t:=8) rfl) (leave.tmp (hs4.get (t:=9) rfl) rfl)))) this
theorem XM {v:V}{m s:Nat}{sp:List Int}{h:H}{Q:V->H->Prop}(t:ET h v m sp) (hs:s<m) (hr1:1<=(zX sp 32 s).length) (hn:h.next+310<=T.top) (hlow:h.low<=T.top)
  (hq:Q (.tuple [.int .i64 ((zX sp 32 s)[0]?.getD 0),.int .i64 0]) h):RF P zA 165 [.agg [.int .i64 (5:Nat),v],.int .i64 s] h Q:=by
 refine RF.forget (n:=2) (v:=.tuple [.int .i64 ((zX sp 32 s)[0]?.getD 0),.int .i64 0]) ?_ (ze rfl) hq;have hm:=t.hm;obtain⟨vs,sv,_⟩:=t.tab;refine RF.enterS zG zYb (ble _ _ rfl) (ble _ _ rfl) z0o (wN sv ⟨by omega,?_⟩);rintro p0 h1 rfl e1;have w1:=(Vw.nil (S:=zW) (h:=h)).new (o:=oET (5:Nat) v) e1 (by omega);have n1:h1.next=h.next+1:=by rw[e1,zI]
 have l1:=w1.low;have t1:=t.ext w1.ex0;refine⟨_,_,w1.ldA 0 rfl xc rfl rfl,XL t1 (by omega) (by omega) ⟨_,rfl,λc=>absurd rfl c,λ_=>⟨_,_,w1.ldA 0 rfl xc rfl rfl,OW t1.tab hs (by omega) hr1 (by omega) λh6 u x6 ow=>⟨_,_,rfl,λc=>absurd rfl c,λ_=>?_⟩⟩⟩⟩
 obtain⟨b,o,a1,a2⟩:=zg ow.sl (i:=0) hr1;refine⟨b,o,a1,_,a2,?_,(w1.ext x6).ex0⟩;rw[oM hr1];rfl
theorem zGk {v:V}{m s st:Nat}{sp:List Int}{h:H}{Q:V->H->Prop}(t:ET h v m sp) (hs:s<m) (hst:st<32) (hr1:1<=(zX sp 32 s).length) (hn:h.next+310<=T.top) (hlow:h.low<=T.top)
  (hq:Q (.tuple [.int .i64 (wl (zX sp 32 s) st),.int .i64 (eN (st+32) (zX sp 32 s).length:Nat),.int .i64 (wB (zX sp 32 s) st:Nat),.int .i64 0]) h):RF P zA 166 [.agg [.int .i64 (5:Nat),v],.int .i64 st,.int .i64 s] h Q:=by
 refine RF.forget (n:=10) (v:=.tuple [.int .i64 (wl (zX sp 32 s) st),.int .i64 (eN (st+32) (zX sp 32 s).length:Nat),.int .i64 (wB (zX sp 32 s) st:Nat),.int .i64 0]) ?_ (ze rfl) hq;obtain⟨vs,sv,_⟩:=t.tab;refine RF.enterS zG zYc (ble _ _ rfl) (ble _ _ rfl) z0p (wN sv ⟨by omega,?_⟩);rintro p0 h1 rfl e1;have w1:=(Vw.nil (S:=zW) (h:=h)).new (o:=oET (5:Nat) v) e1 (by omega);have n1:h1.next=h.next+1:=by rw[e1,zI]
 have l1:=w1.low;have t1:=t.ext w1.ex0;exact⟨_,_,w1.ldA 0 rfl xc rfl rfl,XL t1 (by omega) (by omega) ⟨_,rfl,λc=>absurd rfl c,λ_=>⟨_,_,w1.ldA 0 rfl xc rfl rfl,zJe t1 hs hst hr1 (by omega) λh' x'=>⟨_,_,_,_,rfl,rfl,(w1.ext x').ex0.mono (by omega)⟩⟩⟩⟩
theorem zGj {v u:V}{log:Nat}{l w:List Int}{h:H}{Q:V->H->Prop}(sl:Sl h v 1 l.length (zM l)) (hl:l.length<=1000) (su:Sl h u 1 w.length (zM w)) (hw:w.length<=1000) (cv:Cov l w) (hn:h.next+1<=T.top) (hlow:h.low<=T.top) (hq:∀h',Ext h h' 1->Q (.bool true) h'):RF P zA 228 [.agg [.int .i64 log,v],u] h Q:=by
 refine RF.enterS zG zZA (ble _ _ rfl) (ble _ _ rfl) z1N (yM sl ⟨by omega,?_⟩);rintro p0 h1 rfl e1;have w1:=(Vw.nil (S:=zW) (h:=h)).new e1 (by omega);have n1:h1.next=h.next+1:=by rw[e1,zI]
 have l1:=w1.low;have s1:=sl.ext w1.ex0;have su1:=su.ext w1.ex0;refine Has.nil.on λtm hs=>?_
 refine wpC.round (λk tm h'=>∃i:Nat,i<=w.length/\k=w.length-i/\h'=h1/\Has tm [(5,.int .i64 i),(1,u),(2,.ptr h.next 0)]) w.length ⟨0,by omega,by omega,rfl,hs.sub (by kernel_rfl)⟩ ?_
 clear hs;rintro k tm h' ⟨i,hi1,rfl,rfl,hs⟩;refine wpC.at hs zRE rfl rfl ⟨_,su1.len zQ rfl,λc=>?_,λc=>hs.on λtm' hs'=>?_⟩
 ·have hi:i<w.length:=by omega
  obtain⟨b,o,e1',e2⟩:=zg su1 hi;obtain⟨j,ej,y,hy,hy0⟩:=cv w[i] (oQ hi);rw[ej]at e2;have hj:j<l.length:=(List.getElem?_eq_some_iff.1 hy).1;obtain⟨b2,o2,f1,f2⟩:=zg s1 hj;have hly:l[j]=y:=by rw[oM hj]at hy;exact Option.some.inj hy
  rw[hly]at f2;refine⟨⟨by omega,by omega⟩,b,o,e1',_,e2,λc2=>by omega,λ_=>⟨b,o,e1',_,e2,?_⟩⟩
  rw[zm];refine⟨v,w1.ld1 0 rfl zQ rfl rfl,_,s1.len zQ rfl,λc2=>by omega,λ_=>?_⟩
  rw[zm];refine⟨v,w1.ld1 0 rfl zQ rfl rfl,b,o,e1',_,e2,b2,o2,f1,_,f2,λc2=>absurd c2 hy0,λ_=>hs.on λtm' hs'=>⟨rfl,rfl,w.length-(i+1),by omega,i+1,by omega,rfl,rfl,?_⟩⟩
  rw[<-zf (by omega)];exact hs'.sub (by kernel_rfl)
 ·refine thenC.left (wpS.at hs' zS4 rfl rfl (hs'.on λtm2 hs2=>?_))
  exact endW.r1 (hs2.get rfl) (hq h' w1.ex0)
theorem zJ9 {v u:V}{log:Nat}{l w:List Int}{h:H}{Q:V->H->Prop}(sl:Sl h v 1 l.length (zM l)) (g:GD log l) (su:Sl h u 1 w.length (zM w)) (hw:w.length<=1000) (h2:2<=w.length) (cv:Cov l w) (hn:h.next+3<=T.top) (hlow:h.low<=T.top) (hq:∀h',Ext h h' 2->Q (.int .i64 0) h'):RF P zA 163 [.agg [.int .i64 log,v],u,.int .i64 (2:Nat)] h Q:=by
 have hlen:=g.len;refine RF.enterS zG zY9 (ble _ _ rfl) (ble _ _ rfl) z0m (yM sl ⟨by omega,?_⟩);rintro p0 h1 rfl e1;have w1:=(Vw.nil (S:=zW) (h:=h)).new e1 (by omega);have x1:=w1.ex0;have l1:=w1.low;have n1:h1.next=h.next+1:=by rw[e1,zI]
 have ee:zO zA 59 h1 (.ptr h.next 0)=some (.agg [.int .i64 log,v]):=w1.ldA 0 rfl xo rfl rfl;refine⟨_,_,ee,jV (sl.ext x1) g ⟨_,rfl,λc=>absurd rfl c,λ_=>⟨_,(su.ext x1).len zQ rfl,λc=>by omega,λ_=>⟨_,(su.ext x1).len zQ rfl,λc=>by omega,λ_=>⟨_,_,ee,zGj (sl.ext x1) (by omega) (su.ext x1) hw cv (by omega) (by omega) λh' x'=>⟨true,rfl,λ_=>hq h' (x1.trans x'),λc=>(by cases c)⟩⟩⟩⟩⟩⟩
theorem FTab.et5 {lo:Nat}{h:H}{v:V}{l:List Int}(g:GD 5 l) (f:FTab lo h v l.length (zX (zh 5 l) 32)):ET h v l.length (zh 5 l):=FTab.et g f
theorem zTW (sp w:List Int) (h:1<=w.length):Zr sp w 1=(⟨[],0,0⟩,[0,0].set ((w.length-1) % 2) ((zX sp 32 (w[w.length-1]?.getD 0).toNat)[0]?.getD 0),[false,false].set ((w.length-1) % 2) true):=by
 show wO sp (⟨[],0,0⟩,[0,0],[false,false]) ((w.length-1-0) % 2) (w[w.length-1-0]?.getD 0).toNat=_;rw[Nat.sub_zero];unfold wO;have hj:(w.length-1) % 2=0\/(w.length-1) % 2=1:=by omega
 rcases hj with e|e<;>rw[e]<;>rfl
theorem zIW (sp w:List Int) (h:2<=w.length):Zr sp w 2=(⟨[],0,0⟩,([0,0].set ((w.length-1) % 2) ((zX sp 32 (w[w.length-1]?.getD 0).toNat)[0]?.getD 0)).set ((w.length-2) % 2) ((zX sp 32 (w[w.length-2]?.getD 0).toNat)[0]?.getD 0),[true,true]):=by
 show wO sp (Zr sp w 1) ((w.length-1-1) % 2) (w[w.length-1-1]?.getD 0).toNat=_;rw[zTW sp w (by omega),show w.length-1-1=w.length-2 by omega];unfold wO;have hj:((w.length-1) % 2=0/\(w.length-2) % 2=1)\/((w.length-1) % 2=1/\(w.length-2) % 2=0):=by omega
 rcases hj with⟨e,e'⟩|⟨e,e'⟩<;>rw[e,e']<;>rfl
theorem zOk {sp w:List Int}(h:2<=w.length):∀{k:Nat},2<=k->(Zr sp w k).2.2=[true,true]
 | 0,h=>by omega
 | 1,h=>by omega
 | 2,_=>by rw[zIW sp w h]
 | k+3,_=>by
  have ih:=zOk (sp:=sp) (w:=w) h (k:=k+2) (by omega);show(wO sp (Zr sp w (k+2)) ((w.length-1-(k+2)) % 2) (w[w.length-1-(k+2)]?.getD 0).toNat).2.2=_;unfold wO;have hj:(w.length-1-(k+2)) % 2=0\/(w.length-1-(k+2)) % 2=1:=by omega
  rw[ih];rcases hj with e|e<;>rw[e]<;>rfl
theorem _root_.Go.Sim.Vw.setT {S:Nat->Prop}{hb h:H}{c p:Nat}{l:List (Nat×O)}{cx:Ctx}(v:Vw S hb h c l) (i:Nat) {e n j:Nat}{te:TI}{cs:Cs}{k:Rk}{op:Bool}{u:V}{xs:List V}(r:Row cs n xs) (hi:l[i]? = some (p,.cells cs k true op)) (hn:h.next<=T.top) (hj:j<n) (he:cx.ty.get e=some te) (hs:te.size=1) (hf:k.fz=0) (hu:u.cells=[u]) (ho:u.one=true) :
  ∃h2 cs',yA cx e (za h) (.ptr p j) u=some h2/\h2.next<=T.top/\∀h3,h3=yh h h2->Row cs' n (xs.set j u)/\Vw S hb h3 c (l.set i (p,.cells cs' k true op))/\h3.next=h.next:=by
 obtain⟨cs',p1,p2⟩:=Cs.put_some (cs:=cs) r.1 (o:=j) (vs:=[u]) (by rw[r.2.1];simp;omega);obtain⟨_,p3,p4⟩:=Cs.put_eq p1;have hp:p<T.top:=oI (v.lt i hi) hn;refine⟨(za h).upd p (some (.cells cs' k true op)),cs',k9 he (show(za h).get p=_ from v.get i hi) (yO.2 (by rw[hu,hs];rfl)) (by rw[hf];exact oJ _) (by rw[hu];simp[zU,ho]) (by rw[hu];exact p1),hn,λh3 e3=>?_⟩
 rw[zEE hp]at e3;subst e3;refine⟨⟨p2,by rw[p3,r.2.1],by rw[oc,r.2.2.1],λa ha=>?_⟩,v.upd i hi hn,rfl⟩
 rw[p4];by_cases c1:a=j
 ·subst c1
  rw[if_pos ⟨oO _,by simp⟩,Nat.sub_self,List.getElem?_set_self (by rw[r.2.2.1];exact hj)];rfl
 ·rw[if_neg (by simp;omega),oW (λq=>c1 q.symm)]
  exact r.2.2.2 a ha
abbrev wrR (p49 p19 p15 p0:Nat) (v vt:V) (cs:Cs) (w:Wr):List (Nat×O):=[(p49,oBW w),(p19,oI2 cs),(p15,oET 5 vt),(p0,oD 5 v)]
theorem zCb {u v:V}{l w:List Int}{h:H}{Q:V->H->Prop}(sl:Sl h v 1 l.length (zM l)) (g:GD 5 l) (su:Sl h u 1 w.length (zM w)) (hw:w.length<=1000) (h2:2<=w.length) (cv:Cov l w) (hn:h.next+2500<=T.top) (hlow:h.low<=T.top)
  (hq:Q (.tuple [.str (JY (zh 5 l) w),.int .i64 0]) h):RF P zA 99 [.agg [.int .i64 (5:Nat),v],u] h Q:=by
 refine RF.forget (n:=1300) (v:=.tuple [.str (JY (zh 5 l) w),.int .i64 0]) ?_ (ze rfl) hq;have ce:=cv.cells g;have okf:=KX ce;refine RF.enterS zG z4v (ble _ _ rfl) (ble _ _ rfl) z5j (yM sl ⟨by omega,?_⟩);rintro p0 h1 rfl e1;have w1:=(Vw.nil (S:=zW) (h:=h)).new (o:=oD (5:Nat) v) e1 (by omega);have n1:h1.next=h.next+1:=by rw[e1,zI]
 have l1:=w1.low;refine⟨_,_,w1.ldA 0 rfl xo rfl rfl,zJ9 (sl.ext w1.ex0) g (su.ext w1.ex0) hw h2 cv (by omega) (by omega) λh6 x6=>⟨_,rfl,λc=>absurd rfl c,λ_=>?_⟩⟩
 have w6:=w1.ext x6;have t6:=x6.top;have le6:=x6.le;have l6:=w6.low;refine⟨_,_,w6.ldA 0 rfl xo rfl rfl,zJd (sl.ext w6.ex0) g (by omega) (by omega) λh11 v13 x11 f11=>⟨_,_,_,rfl,?_⟩⟩
 have w11:=w6.ext x11;have t11:=x11.top;have le11:=x11.le;have l11:=w11.low;have hx11:Ext h h11 1203:=w11.ex0.mono (by omega);have wb:Vw (λb=>b=h.next) h11 h11 0 [(h.next,oD (5:Nat) v)]:=⟨ExtX.refl0 _ _,w11.bk.re λq hq=>by
  simp only[oY,List.not_mem_nil,or_false]at hq;rw[hq]⟩
 refine⟨by omega,?_⟩;rintro p15 h16 rfl e16;have w16:=wb.new e16 (by omega);have n16:h16.next=h11.next+1:=by rw[e16,zI]
 obtain⟨vs,sv12,_⟩:=f11.tab;obtain⟨h17,e17,w17,n17,_⟩:=w16.st (cx:=zA) 0 (t:=216) (f:=0) (u:=.agg [.int .i64 (5:Nat),v13]) (cs':=.ls [.int .i64 (5:Nat),v13]) rfl (by omega) xc (yO.2 (by rw[yq sv12];rfl)) (oJ _) (by rw[yq sv12];exact qJ sv12) (by rw[yq sv12];rfl);have hS:∀b,b=h.next->h.next<=b:=λb q=>by omega
 have sun:∀{h':H}{c:Nat},ExtX (λb=>b=h.next) h11 h' c->Sl h' u 1 w.length (zM w):=λxx=>su.ext (ExtX.ext hx11 xx hS)
 have hte:∀h',h11.next<=h'.next->(∀b,b<h11.next->¬b=h.next->h'.get b=h11.get b)->ET h' v13 l.length (zh 5 l):=λh' hn' hg=>(f11.keep hn' λb q1 q2=>hg b q2 (by omega)).et5 g
 refine⟨h17,e17,_,(sun w17.ex).len zQ rfl,by omega,?_⟩;rintro p19 h20 rfl e20;have w20:=w17.new (o:=oI2 (.ls [.int .i64 0,.int .i64 0])) e20 (by omega);have n20:h20.next=h17.next+1:=by rw[e20,zI]
 have l20:=w20.low;have ew1:zL (((w.length:Nat):Int)-1)=((w.length-1:Nat):Int):=by rw[zH (by omega) (by omega)];omega
 have ew2:zL (((w.length:Nat):Int)-2)=((w.length-2:Nat):Int):=by rw[zH (by omega) (by omega)];omega
 have ew3:zL (((w.length:Nat):Int)-3)=(w.length:Int)-3:=zH (by omega) (by omega);rw[ew1,ew2,ew3];obtain⟨b1,o1,a1,a2⟩:=zg (sun w20.ex) (i:=w.length-1) (by omega);obtain⟨s1,es1,hsm1,hr1⟩:=ce w[w.length-1] (oQ (by omega));obtain⟨s2,es2,hsm2,hr2⟩:=ce w[w.length-2] (oQ (by omega));have g1:(w[w.length-1]?.getD 0).toNat=s1:=by rw[oM (by omega),Option.getD_some,es1];rfl
 have g2:(w[w.length-2]?.getD 0).toNat=s2:=by rw[oM (by omega),Option.getD_some,es2];rfl
 rw[es1]at a2;have i20:=yb (h:=h20) (by omega) (by omega);have t20:ET (za h20) v13 l.length (zh 5 l):=by
  have t:=hte h20 w20.le w20.ex.get;exact⟨t.tab,t.hm,t.all⟩
 refine⟨⟨by omega,by omega⟩,by decide,_,_,w20.ldA 1 rfl xc rfl rfl,b1,o1,a1,_,a2,XM t20 hsm1 hr1 (show h20.next+310<=T.top by omega) (oO _) ⟨_,_,rfl,i20.1.2,λh30 e30=>?_⟩⟩
 rw[i20.2]at e30;subst h30;have etm1:Int.tmod ((w.length-1:Nat):Int) 2=(((w.length-1) % 2:Nat):Int):=rfl;have etm2:Int.tmod ((w.length-2:Nat):Int) 2=(((w.length-2) % 2:Nat):Int):=rfl;rw[etm1,etm2];have hj1:(w.length-1) % 2<2:=Nat.mod_lt _ (by decide);have hj2:(w.length-2) % 2<2:=Nat.mod_lt _ (by decide);obtain⟨h33,cs1,e33,t33,k33⟩:=w20.setT (cx:=zA) 0 (j:=(w.length-1) % 2) (u:=.int .i64 ((zX (zh 5 l) 32 s1)[0]?.getD 0)) zOR rfl (by omega) hj1 zi rfl rfl rfl rfl;refine⟨_,_,kO hj1,h33,e33,t33,λh34 e34=>?_⟩
 obtain⟨r34,w34,n34⟩:=k33 h34 e34;rw[<-yS]at r34;have l34:=w34.low;obtain⟨b2,o2,c1,c2⟩:=zg (sun w34.ex) (i:=w.length-2) (by omega);rw[es2]at c2;have i34:=yb (h:=h34) (by omega) (by omega);have t34:ET (za h34) v13 l.length (zh 5 l):=by
  have t:=hte h34 w34.le w34.ex.get;exact⟨t.tab,t.hm,t.all⟩
 refine⟨⟨by omega,by omega⟩,by decide,_,_,w34.ldA 1 rfl xc rfl rfl,b2,o2,c1,_,c2,XM t34 hsm2 hr2 (show h34.next+310<=T.top by omega) (oO _) ⟨_,_,rfl,i34.1.2,λh44 e44=>?_⟩⟩
 rw[i34.2]at e44;subst h44;obtain⟨h47,cs2,e47,t47,k47⟩:=w34.setT (cx:=zA) 0 (j:=(w.length-2) % 2) (u:=.int .i64 ((zX (zh 5 l) 32 s2)[0]?.getD 0)) r34 rfl (by omega) hj2 zi rfl rfl rfl rfl;refine⟨_,_,kO hj2,h47,e47,t47,λh48 e48=>?_⟩
 obtain⟨r48,w48,n48⟩:=k47 h48 e48;rw[<-yS]at r48;refine⟨by omega,?_⟩;rintro p49 h50 rfl e50;have w50:=w48.new (o:=oBW ⟨[],0,0⟩) e50 (by omega);have n50:h50.next=h48.next+1:=by rw[e50,zI]
 have ewt:=zIW (zh 5 l) w h2;rw[g1,g2]at ewt;have r50:Row cs2 2 (zM (Zr (zh 5 l) w 2).2.1):=by rw[ewt];exact r48
 have w50':Vw (λb=>b=h.next) h11 h50 3 (wrR h48.next h17.next h11.next h.next v v13 cs2 (Zr (zh 5 l) w 2).1):=by rw[ewt];exact w50
 clear r48 w48 w50 r34 w34 w20 w17 w16;refine Has.nil.on λtm hs=>?_
 refine wpC.round (λj tm h'=>∃(k:Nat) (cs:Cs),2<=k/\k<=w.length/\j=w.length-k/\h'.next=h50.next/\Vw (λb=>b=h.next) h11 h' 3 (wrR h48.next h17.next h11.next h.next v v13 cs (Zr (zh 5 l) w k).1)/\Row cs 2 (zM (Zr (zh 5 l) w k).2.1) /\
  Has tm [(12,.int .i64 ((w.length:Int)-1-k)),(7,.ptr h11.next 0),(10,.ptr h17.next 0),(1,u),(11,.ptr h48.next 0),(2,.ptr h.next 0)]) (w.length-2)
  ⟨2,cs2,by omega,h2,rfl,rfl,w50',r50,by
   have:(w.length:Int)-1-(2:Nat)=(w.length:Int)-3:=by omega
   rw[this];exact hs.sub (by kernel_rfl)⟩ ?_
 clear hs w50' r50;rintro j tm h' ⟨k,cs,hk2,hk,rfl,hnx,vw,row,hs⟩;have l':h'.low<=T.top:=by have:=vw.low;omega
 have gk:=Ov ce k hk;refine wpC.at hs zXD rfl rfl ⟨λc=>?_,λc=>hs.on λtm' hs'=>?_⟩
 ·have hkl:k<w.length:=by omega
  have e12:(w.length:Int)-1-k=((w.length-1-k:Nat):Int):=by omega
  rw[e12]at hs ⊢;have hj:(w.length-1-k) % 2<2:=Nat.mod_lt _ (by decide);obtain⟨st,est,hst⟩:=gk.at hj;obtain⟨b3,o3,d1,d2⟩:=zg (sun vw.ex) (i:=w.length-1-k) (by omega);obtain⟨s,es,hsm,hr⟩:=ce w[w.length-1-k] (oQ (by omega));have gs:(w[w.length-1-k]?.getD 0).toNat=s:=by rw[oM (by omega),Option.getD_some,es];rfl
  rw[es]at d2;have gcell:cs.get? ((w.length-1-k) % 2)=some (.int .i64 st):=by rw[row.2.2.2 _ hj,zM,oU,est];rfl
  have eg:Zr (zh 5 l) w (k+1)=(zn (Zr (zh 5 l) w k).1 (wB (zX (zh 5 l) 32 s) st) (eN (st+32) (zX (zh 5 l) 32 s).length),(Zr (zh 5 l) w k).2.1.set ((w.length-1-k) % 2) (wl (zX (zh 5 l) 32 s) st),(Zr (zh 5 l) w k).2.2):=by
   show wO (zh 5 l) (Zr (zh 5 l) w k) ((w.length-1-k) % 2) (w[w.length-1-k]?.getD 0).toNat=_;rw[gs];unfold wO;rw[est,zOk h2 hk2];have:([true,true]:List Bool)[(w.length-1-k) % 2]?.getD false=true:=by
    have:(w.length-1-k) % 2=0\/(w.length-1-k) % 2=1:=by omega
    rcases this with q|q<;>rw[q]<;>rfl
   rw[if_pos this];rfl
  obtain⟨q1,q2,q3,_⟩:=zAs hst hr (wK (zh 5 l) 32 s);have hbl:wB (zX (zh 5 l) 32 s) st<2^eN (st+32) (zX (zh 5 l) 32 s).length:=Nat.mod_lt _ (Nat.two_pow_pos _);have hb2:2^eN (st+32) (zX (zh 5 l) 32 s).length<=2^5:=Nat.pow_le_pow_right (by decide) q3;have i1:=yb (h:=h') (by omega) l';have eT:ET (za h') v13 l.length (zh 5 l):=by
   have t:=hte h' vw.le vw.ex.get;exact⟨t.tab,t.hm,t.all⟩
  have etm:Int.tmod ((w.length-1-k:Nat):Int) 2=(((w.length-1-k) % 2:Nat):Int):=rfl;rw[etm];refine⟨⟨by omega,l'⟩,_,_,vw.ldA 2 rfl xc rfl rfl,by decide,_,_,kO hj,_,vw.ld1 1 rfl zi rfl gcell,b3,o3,d1,_,d2,zGk eT hsm hst hr (show h'.next+310<=T.top by omega) (oO _) ⟨_,_,_,_,rfl,i1.1.2,λh14 e14=>?_⟩⟩
  rw[i1.2]at e14;subst h14;rw[zP (by omega)];have okw:=yK gk.ok (v:=wB (zX (zh 5 l) 32 s) st) (eN (st+32) (zX (zh 5 l) 32 s).length);obtain⟨h24,e24,w24,n24,_⟩:=vw.st (cx:=zA) 0 (t:=220) (f:=0) (u:=wH (zn (Zr (zh 5 l) w k).1 (wB (zX (zh 5 l) 32 s) st) (eN (st+32) (zX (zh 5 l) 32 s).length))) rfl (by omega) qc rfl (oJ _) rfl rfl;obtain⟨h27,cs3,e27,row3,w27,n27⟩:=w24.set (cx:=zA) 1 (j:=(w.length-1-k) % 2) (u:=.int .i64 (wl (zX (zh 5 l) 32 s) st)) row rfl (by omega) hj zi rfl rfl rfl rfl;rw[<-yS]at row3;refine⟨_,_,_,ldB vw (i:=0) rfl,OZ gk.ok (by omega) (by omega) hbl ⟨_,_,_,_,rfl,h24,e24,by decide,_,_,kO hj,h27,e27,hs.on λtm5 hs5=>⟨rfl,rfl,w.length-(k+1),by omega,k+1,cs3,by omega,by omega,rfl,(show h27.next=_ by omega),by rw[eg];exact w27,by rw[eg];exact row3,?_⟩⟩⟩
  have e13:zL (((w.length-1-k:Nat):Int)-1)=(w.length:Int)-1-(k+1:Nat):=by rw[zH (by omega) (by omega)];omega
  rw[<-e13];exact hs5.sub (by kernel_rfl)
 ·have hkl:k=w.length:=by omega
  subst hkl;obtain⟨st1,est1,hst1⟩:=gk.at (j:=1) (by decide);obtain⟨st0,est0,hst0⟩:=gk.at (j:=0) (by decide);have gc1:cs.get? 1=some (.int .i64 st1):=by rw[row.2.2.2 _ (by decide),zM,oU,est1];rfl
  have gc0:cs.get? 0=some (.int .i64 st0):=by rw[row.2.2.2 _ (by decide),zM,oU,est0];rfl
  have ef:zAf (zh 5 l) w=zn (zn (Zr (zh 5 l) w w.length).1 st1 5) st0 5:=by
   unfold zAf;rw[est1,est0];rfl
  have ok1:=yK gk.ok (v:=st1) 5;have ok2:=yK ok1 (v:=st0) 5;obtain⟨h15,e15,w15,n15,_⟩:=vw.st (cx:=zA) 0 (t:=220) (f:=0) (u:=wH (zn (Zr (zh 5 l) w w.length).1 st1 5)) rfl (by omega) qc rfl (oJ _) rfl rfl;obtain⟨h31,e31,w31,n31,_⟩:=w15.st (cx:=zA) 0 (t:=220) (f:=0) (u:=wH (zn (zn (Zr (zh 5 l) w w.length).1 st1 5) st0 5)) rfl (by omega) qc rfl (oJ _) rfl rfl;refine thenC.left (wpS.at hs' zX2 rfl rfl ⟨_,_,_,ldB vw (i:=0) rfl,?_⟩);rw[wo];refine⟨_,vw.ld1 3 rfl zi rfl rfl,_,_,zDK,_,vw.ld1 1 rfl zi rfl gc1,?_⟩;rw[zP (by omega)];refine OZ (k:=5) gk.ok (by omega) (by decide) (by omega) ⟨_,_,_,_,rfl,h15,e15,_,_,_,ldB w15 (i:=0) rfl,?_⟩;rw[wo];refine⟨_,w15.ld1 3 rfl zi rfl rfl,_,_,zDJ,_,w15.ld1 1 rfl zi rfl gc0,?_⟩;rw[zP (by omega)];refine OZ (k:=5) ok1 (by omega) (by decide) (by omega) ⟨_,_,_,_,rfl,h31,e31,_,_,_,ldB w31 (i:=0) rfl,?_⟩;refine zJf ok2 (by omega) ⟨_,_,rfl,hs'.on λtm3 hs3=>endW.r2 (hs3.get rfl) (hs3.get rfl) ⟨?_,(ExtX.ext hx11 w31.ex hS).mono (by omega)⟩⟩
  rw[<-ef];rfl
def zW5 (o:Option (List UInt8)):V:=match o with|some s=>.tuple [.str s,.bool true]|none=>.tuple [.str [],.bool false]
theorem zGZ (o:Option (List UInt8)):Plain (zW5 o):=by cases o<;>exact ze rfl
theorem XN {v:V}{l:List Int}{h:H}{Q:V->H->Prop}(sl:Sl h v 1 l.length (zM l)) (hin:jJ l=true) (hl:l.length<=255) (hn:h.next+2600<=T.top) (hlow:h.low<=T.top) (hq:Q (zW5 (xC l)) h):RF P zA 53 [v] h Q:=by
 refine RF.forget (n:=20) (v:=zW5 (xC l)) ?_ (zGZ _) hq;have hgc:=zBl hl;refine RF.enterS zG z4i (ble _ _ rfl) (ble _ _ rfl) z56 (zE1 sl hin hl (by omega) λh1 x1 s1=>⟨_,_,rfl,?_⟩)
 have t1:=x1.top;have s1':Sl h1 (.slice h.next 0 12 (.exact 12)) 1 (yi l).length (zM (yi l)):=by rw[wj];exact s1
 refine XK s1' hgc ⟨_,_,rfl,λc=>?_,λc=>?_⟩
 ·have:xC l=none:=by unfold xC;rw[if_neg (by omega)]
  exact⟨by rw[this];rfl,x1.mono (by omega)⟩
 ·have h2:2<=xM (yi l):=by omega
  have g:=zH2 hin hl (by omega);have gd:=g.gd;have l1:=x1.low;refine zOF s1' g (by omega) (by omega) λh9 b x9 hb s9=>⟨_,_,_,rfl,?_⟩
  have t9:=x9.top;have l9:=x9.low;have x19:=x1.trans x9;refine⟨by omega,?_⟩;rintro p13 h14 rfl e14;have w14:=(Vw.nil (S:=zW) (h:=h9)).new (o:=oD 0 .nilslice) e14 (by omega);have n14:h14.next=h9.next+1:=by rw[e14,zI]
  obtain⟨h15,e15,w15,n15,_⟩:=w14.st (cx:=zA) 0 (t:=59) (f:=0) (u:=.agg [.int .i64 5,.slice b 0 (wI (yi l)).length (.exact (wI (yi l)).length)]) rfl (by omega) xo rfl (oJ _) rfl rfl;have l15:=w15.low;have s15:=s9.ext w15.ex0;have sv:=sl.ext (x19.trans w15.ex0);have cv:=zD2 hin g;have hlen2:2<=l.length:=by
   have:=Km (c:=yi l) λx hx=>(hgc.rng x hx).1
   rw[Z0 hin]at this;omega
  have hd1:(Ju 5 (wI (yi l))).length<=10008:=by
   have:=X0 (v:=0) (k:=(8-(jA 5 (wI (yi l))).n) % 8) (kX gd);unfold Ju;omega
  have hd2:(JY (zh 5 (wI (yi l))) l).length<=2000:=by
   have:=X0 (v:=1) (k:=8-(zAf (zh 5 (wI (yi l))) l).n) (KX (cv.cells gd));unfold JY;omega
  have hxx:Ext h h15 19:=(x19.trans w15.ex0).mono (by omega);have ecs:jd l=Ju 5 (wI (yi l))++JY (zh 5 (wI (yi l))) l:=rfl;have el:zL (Int.ofNat (Ju 5 (wI (yi l))).length+Int.ofNat (JY (zh 5 (wI (yi l))) l).length)=(((jd l).length:Nat):Int):=by
   rw[ecs,oR];generalize (Ju 5 (wI (yi l))).length=x at hd1 ⊢;generalize (JY (zh 5 (wI (yi l))) l).length=y at hd2 ⊢;show zL ((x:Int)+(y:Int))=_;rw[zH (by omega) (by omega)];omega
  refine⟨h15,e15,_,_,w15.ldA 0 rfl xo rfl rfl,zJc rfl s15 gd (by omega) (by omega) ⟨_,_,rfl,_,_,w15.ldA 0 rfl xo rfl rfl,zCb s15 gd sv (by omega) hlen2 cv (by omega) (by omega) ⟨_,_,rfl,?_⟩⟩⟩;rw[el];refine⟨λc=>?_,λc=>?_⟩
  ·have hc:xC l=none:=by unfold xC;rw[if_neg (by omega)]
   exact⟨by rw[hc];rfl,hxx.mono (by omega)⟩
  ·have c':(jd l).length<=127:=by omega
   have hc:xC l=some (UInt8.ofNat (jd l).length::jd l):=by unfold xC;rw[if_pos ⟨h2,c'⟩]
   obtain⟨h29,e29,s29,x29⟩:=wh (h:=h15) ((jd l).length:Nat) (by omega);have hby:(.int .u8 (((jd l).length:Nat):Int):V)=byv (UInt8.ofNat (jd l).length):=(jb (by omega)).symm;rw[hby]at s29;refine⟨_,h29,by rw[yf,oZ (by omega)];exact e29,wk (l:=[UInt8.ofNat (jd l).length]) s29 (Nat.succ_pos _) (qI ?_ (qI ?_ ⟨by rw[hc];rfl,(hxx.trans x29).mono (by omega)⟩))⟩
   ·exact oP (Nat.add_le_add (oO _) hd1) (by rw[List.length_singleton];decide)
   ·rw[oR]
    exact oP (Nat.add_le_add (Nat.add_le_add (oO _) hd1) hd2) (by rw[List.length_singleton];decide)
theorem zE2 {v:V}{l:List Int}{h:H}{Q:V->H->Prop}(sl:Sl h v 1 l.length (zM l)) (hl:l.length<4611686018427387904) (hn:h.next+2700<=T.top) (hlow:h.low<=T.top) (hq:Q (Jv l) h):RF P zA 19 [v] h Q:=by
 refine RF.enterS zG z43 (ble _ _ rfl) (ble _ _ rfl) z5Q (zIA sl hl ⟨_,rfl,λc=>?_,λc=>?_⟩)
 ·unfold Jv at hq
  rw[if_neg c]at hq;exact hq
 ·have c0:ZK l=0:=by omega
  obtain⟨i1,i2,i3⟩:=zGp c0;unfold Jv at hq;rw[if_pos c0]at hq;refine XN sl i1 i3 (by omega) hlow ?_;cases hc:xC l with
  | some s=>rw[hc]at hq;exact⟨s,true,rfl,λ_=>hq,λq=>(by cases q)⟩
  | none=>rw[hc]at hq;exact⟨[],false,rfl,λq=>(by cases q),λ_=>hq⟩
theorem ZV (w:List Int):yz w 2=(kC w).toList++(xC w).toList:=by
 rw[qL,qL];show([]++(kC w).toList)++(xC w).toList=_;rw[List.nil_append]
theorem zPl {w:List Int}{d c:List UInt8}(hd:kC w=some d) (hc:xC w=some c):jo w = .tuple [.str (if c.length<d.length then c else d),.int .i64 0]:=by
 unfold jo;rw[ZV,hd,hc];rfl
theorem zPk {w:List Int}{d:List UInt8}(hd:kC w=some d) (hc:xC w=none):jo w = .tuple [.str d,.int .i64 0]:=by
 unfold jo;rw[ZV,hd,hc];rfl
theorem zPj {w:List Int}{c:List UInt8}(hd:kC w=none) (hc:xC w=some c):jo w = .tuple [.str c,.int .i64 0]:=by
 unfold jo;rw[ZV,hd,hc];rfl
theorem zPi {w:List Int}(hd:kC w=none) (hc:xC w=none):jo w = .tuple [.str [],.int .i64 7]:=by
 unfold jo;rw[ZV,hd,hc];rfl
theorem zD7 (w:List Int):(∃d,kC w=some d/\zD6 w = .tuple [.str d,.int .i64 0])\/(kC w=none/\∃e:Int,e≠0/\zD6 w = .tuple [.str [],.int .i64 e]):=by
 have h:=Kq w;cases hd:kC w with
 | some d=>rw[hd]at h;exact .inl ⟨d,rfl,h⟩
 | none=>rw[hd]at h;exact .inr ⟨rfl,h⟩
theorem Zn {v:V}{l:List Int}{h:H}{Q:V->H->Prop}(sl:Sl h v 1 l.length (zM l)) (hl:l.length<4611686018427387904) (hn:h.next+4000<=T.top) (hlow:h.low<=T.top) (hq:Q (Y1 l) h):RF P zA 17 [v] h Q:=by
 refine RF.forget (n:=900) (v:=Y1 l) ?_ (zAI l) hq;refine RF.enterS zG z41 (ble _ _ rfl) (ble _ _ rfl) z5O (O0 sl hl (by omega) λh1 v1 x1 hv=>⟨_,_,rfl,λc=>?_,λc=>?_⟩)
 ·exact⟨by unfold Y1;rw[if_neg c],x1.mono (by omega)⟩
 ·have c0:Kl l=0:=by omega
  obtain⟨_,s1⟩:=hv c0;rw[if_pos c0];obtain⟨i1,i2,i3⟩:=KO c0;have t1:=x1.top;have l1:=x1.low;have ew:Y1 l=jo (YM l):=by unfold Y1;rw[if_pos c0]
  rw[ew];generalize YM l=w at *;refine zEZ s1 (by omega) (by omega) (by omega) λh5 x5=>?_
  have t5:=x5.top;have l5:=x5.low;have s5:=s1.ext x5;have hx:Ext h h5 900:=(x1.trans x5).mono (by omega);have fin:∀(y28 y9:Bool) (d c:List UInt8) (tm:Tm),(y28=true->jo w = .tuple [.str d,.int .i64 0])->(y28=false->y9=true->jo w = .tuple [.str c,.int .i64 0])->(y28=false->y9=false->jo w = .tuple [.str [],.int .i64 7])->Has tm [(28,.bool y28),(6,.str d),(9,.bool y9),(8,.str c)] ->
    W17 false OT ⟨46,tm,[],h5⟩ (λe s1=>(thenC (λs1=>W17 false J9 s1 (endW zA ⟨46,[.tmp 2,.tmp 3],Yd⟩ λv' h'=>v'=jo w/\Ext h h' 900)) (endW zA ⟨46,[.tmp 2,.tmp 3],Yd⟩ λv' h'=>v'=jo w/\Ext h h' 900)) (zK 0 e) s1):=by
   intro y28 y9 d c tm k1 k2 k3 hs;have ret:∀tm2,endW zA ⟨46,[.tmp 2,.tmp 3],Yd⟩ (λv' h'=>v'=jo w/\Ext h h' 900) .ret ⟨46,tm2,[],h5⟩->(thenC (λs1=>W17 false J9 s1 (endW zA ⟨46,[.tmp 2,.tmp 3],Yd⟩ λv' h'=>v'=jo w/\Ext h h' 900)) (endW zA ⟨46,[.tmp 2,.tmp 3],Yd⟩ λv' h'=>v'=jo w/\Ext h h' 900)) (zK 0 .ret) ⟨46,tm2,[],h5⟩:=λtm2 g=>g
   cases y28 with
   | true=>exact wpS.at hs zHC rfl rfl (KS (hs.on λtm2 hs2=>ret tm2 (endW.r2 (hs2.get rfl) (hs2.get rfl) ⟨(k1 rfl).symm,hx⟩)))
   | false =>
    cases y9 with
    | true=>exact wpS.at hs zHC rfl rfl (ws (KS (hs.on λtm2 hs2=>ret tm2 (endW.r2 (hs2.get rfl) (hs2.get rfl) ⟨(k2 rfl rfl).symm,hx⟩))))
    | false=>exact wpS.at hs zHC rfl rfl (ws (ws (hs.on λtm2 hs2=>thenC.nx (wpS.at hs2 zXF rfl rfl (hs2.on λtm3 hs3=>endW.r2 (hs3.get rfl) (hs3.get rfl) ⟨(k3 rfl rfl).symm,hx⟩)))))
  rcases zD7 w with⟨d,hd,hdv⟩|⟨hd,e,he,hdv⟩
  ·rw[hdv]
   refine⟨_,_,rfl,XN s5 i1 i3 (by omega) (by omega) ?_⟩;cases hc:xC w with
   | some c =>
    have hs2:=zPl hd hc;refine⟨c,true,rfl,λ_=>⟨λ_=>⟨λq=>Has.nil.on λtm hs=>?_,λq=>Has.nil.on λtm hs=>?_⟩,λq=>absurd rfl q⟩,λq=>(by cases q)⟩
    ·have q':d.length<=c.length:=by have:(d.length:Int)<=(c.length:Int):=q;omega
     rw[if_neg (by omega)]at hs2;exact fin true true d c tm (λ_=>hs2) (λq=>(by cases q)) (λq=>(by cases q)) (hs.sub (by kernel_rfl))
    ·have q':¬d.length<=c.length:=by have:¬(d.length:Int)<=(c.length:Int):=q;omega
     rw[if_pos (by omega)]at hs2;exact fin false true d c tm (λq=>(by cases q)) (λ_ _=>hs2) (λ_ q=>(by cases q)) (hs.sub (by kernel_rfl))
   | none =>
    have hs2:=zPk hd hc;refine⟨[],false,rfl,λq=>(by cases q),λ_=>⟨λ_=>Has.nil.on λtm hs=>?_,λq=>absurd rfl q⟩⟩
    exact fin true false d [] tm (λ_=>hs2) (λq=>(by cases q)) (λq=>(by cases q)) (hs.sub (by kernel_rfl))
  ·rw[hdv]
   refine⟨_,_,rfl,XN s5 i1 i3 (by omega) (by omega) ?_⟩;cases hc:xC w with
   | some c =>
    have hs2:=zPj hd hc;refine⟨c,true,rfl,λ_=>⟨λq=>absurd q he,λ_=>Has.nil.on λtm hs=>?_⟩,λq=>(by cases q)⟩
    exact fin false true [] c tm (λq=>(by cases q)) (λ_ _=>hs2) (λ_ q=>(by cases q)) (hs.sub (by kernel_rfl))
   | none =>
    have hs2:=zPi hd hc;refine⟨[],false,rfl,λq=>(by cases q),λ_=>⟨λq=>absurd q he,λ_=>Has.nil.on λtm hs=>?_⟩⟩
    exact fin false false [] [] tm (λq=>(by cases q)) (λ_ q=>(by cases q)) (λ_ _=>hs2) (hs.sub (by kernel_rfl))
theorem zCa {v:V}{l:List Int}{h:H}{Q:V->H->Prop}(sl:Sl h v 1 l.length (zM l)) (hl:l.length<4611686018427387904) (hn:h.next+4000<=T.top) (hlow:h.low<=T.top) (hq:Q (zJo l) h):RF P zA 21 [v] h Q:=by
 refine RF.enterS zG z45 (ble _ _ rfl) (ble _ _ rfl) z5S (Zn sl hl hn hlow ?_);obtain⟨s,e,hw⟩:=X2 l;unfold zJo at hq;rw[hw]at hq ⊢;exact⟨s,e,rfl,hq⟩
theorem xu {v:V}{l:List Int}{h:H}{Q:V->H->Prop}(sl:Sl h v 1 l.length (zM l)) (hl:l.length<4611686018427387904) (hn:h.next+4000<=T.top) (hlow:h.low<=T.top) (hq:Q (XC l) h):RF P zA 23 [v] h Q:=by
 refine RF.forget (n:=900) (v:=XC l) ?_ (OM l) hq;refine RF.enterS zG z48 (ble _ _ rfl) (ble _ _ rfl) z5U (O0 sl hl (by omega) λh1 v1 x1 hv=>⟨_,_,rfl,λc=>?_,λc=>?_⟩)
 ·exact⟨by unfold XC;rw[if_neg c],x1.mono (by omega)⟩
 ·have c0:Kl l=0:=by omega
  obtain⟨_,s1⟩:=hv c0;rw[if_pos c0];obtain⟨i1,i2,i3⟩:=KO c0;have t1:=x1.top;have l1:=x1.low;have ep:XC l = .tuple [.bool (kC (YM l)).isSome,.bool (xC (YM l)).isSome,.int .i64 0]:=by unfold XC;rw[if_pos c0]
  rw[ep];clear ep;generalize YM l=w at *;refine zEZ s1 (by omega) (by omega) (by omega) λh5 x5=>?_
  have t5:=x5.top;have l5:=x5.low;have s5:=s1.ext x5;have hx:Ext h h5 900:=(x1.trans x5).mono (by omega);rcases zD7 w with⟨d,hd,hdv⟩|⟨hd,e,he,hdv⟩
  ·rw[hdv]
   refine⟨_,_,rfl,XN s5 i1 i3 (by omega) (by omega) ?_⟩;cases hc:xC w with
   | some c=>exact⟨c,true,rfl,λ_=>⟨λ_=>⟨by rw[hd];rfl,hx⟩,λq=>absurd rfl q⟩,λq=>(by cases q)⟩
   | none=>exact⟨[],false,rfl,λq=>(by cases q),λ_=>⟨λ_=>⟨by rw[hd];rfl,hx⟩,λq=>absurd rfl q⟩⟩
  ·rw[hdv]
   refine⟨_,_,rfl,XN s5 i1 i3 (by omega) (by omega) ?_⟩;cases hc:xC w with
   | some c=>exact⟨c,true,rfl,λ_=>⟨λq=>absurd q he,λ_=>⟨by rw[hd];rfl,hx⟩⟩,λq=>(by cases q)⟩
   | none=>exact⟨[],false,rfl,λq=>(by cases q),λ_=>⟨λq=>absurd q he,λ_=>⟨by rw[hd];rfl,hx⟩⟩⟩
theorem zKB:(zA.fn.get 9).isSome=true:=by kernel_rfl
theorem js {h:H}{Q:V->H->Prop}(hq:Q (.bool true) h):RF P zA 9 [] h Q:=by
 obtain⟨h',e⟩:=zCf zIi;have s:SimF P 9 [] H0 (.ret (.bool true) h'):=X.sound zG zG1 e;exact⟨_,h,⟨Option.isSome_iff_exists.1 zKB,s.frame⟩,hq⟩
theorem zWH {h:H}(hn:h.next<T.top):zS zA 23 0 [] h=some (.slice h.next 0 0 (.exact 0),h.new (.cells (.ls []) ⟨0,3+1,0⟩ true false)):=by
 have e1:zS zA 23 0 [] h=(match (cond (Nat.blt h.next T.top) (some (h.next,h.new (.cells (.ls []) ⟨0,3+1,0⟩ true false))) none:Option (Nat×H))with|some (b,h')=>some (.slice b 0 0 (.exact 0),h')|none=>none):=by kernel_rfl
 rw[(z8 _ _).2 hn,oK]at e1;exact e1
theorem zMj {v:V}{l:List Int}{h:H}{Q:V->H->Prop}(s:Sl h v 1 l.length (zM l)) (hz:l.length=0->yZ 1 h v=some (0,[])) (hlen:l.length<=262143) (hn:h.next+2<=T.top)
  (hq:∀h' w,Ext h h' 2->Sl h' w 1 l.length (zM l)->Q w h'):RF P zA 15 [v] h Q:=by
 refine RF.enterS zG z4Z (ble _ _ rfl) (ble _ _ rfl) z5M ⟨_,_,zWH (by omega),trivial,?_⟩;generalize e1:h.new (.cells (.ls []) ⟨0,3+1,0⟩ true false)=h1;have x1:Ext h h1 1:=by rw[<-e1];exact Ext.new _ (by omega)
 have g1:h1.get h.next=some (.cells (.ls []) ⟨0,3+1,0⟩ true false):=by rw[<-e1];exact zw _ (by omega)
 have u1:=x1.top;have n1:h.next<h1.next:=by rw[<-e1,zI];omega
 rcases Nat.eq_zero_or_pos l.length with h0|h0
 ·have hl:l=[]:=List.eq_nil_of_length_eq_zero h0
  have hsrc:yZ xn.size h1 v=some (0,[]):=by
   have hz0:=hz h0;obtain⟨_,⟨rfl,_⟩|⟨b,o,cp,cs,k,w,op,rfl,hb,hg,_⟩⟩:=s
   ·rfl
   ·refine Eq.trans ?_ hz0
    have e:=x1.get b hb;unfold yZ;simp only[e]
  refine⟨.slice h.next 0 0 (.exact 0),h1.upd h.next (some (.cells (.ls []) ⟨0,3+1,0⟩ true false)),?_,?_⟩
  ·unfold zo
   rw[zQ];simp only[zCk];have e3:kc xn=true:=by kernel_rfl
   rw[e3,oK,hsrc];show Go.Sim.appTo xn h1 0 [] (.slice h.next 0 0 (.exact 0))=_;unfold Go.Sim.appTo;simp only[g1];rfl
  ·subst hl
   exact hq _ _ ((x1.upd _ (by omega) (oO _)).mono (by omega)) ⟨rfl,.inr ⟨h.next,0,_,_,_,_,_,rfl,n1,xp _ (by omega),λi hi=>by simp at hi⟩⟩
 ·have hsl:=s.ext x1
  have hlen2:(zM l).length=l.length:=by simp[zM]
  obtain⟨cs,c1,c2⟩:=Cs.ofL_some (l:=zM l) (by rw[hlen2];omega);obtain⟨c3,c4⟩:=Cs.ofL_eq c1;refine⟨.slice h1.next 0 l.length (.skip 0),h1.new (.cells cs (wv xn) true true),?_,?_⟩
  ·unfold zo
   rw[zQ];simp only[zCk];have e3:kc xn=true:=by kernel_rfl
   rw[e3,oK,hsl.src (by decide) h0];show Go.Sim.appTo xn h1 l.length (zM l) (.slice h.next 0 0 (.exact 0))=_;unfold Go.Sim.appTo;simp only[g1];unfold qj;have e4:Nat.ble (0+l.length) 0=false:=by
    cases hb:Nat.ble (0+l.length) 0 with
    | false=>rfl
    | true=>have:=oE hb;omega
   rw[e4,oL];have e5:zBb (.ls []) 0 (0*xn.size) (zM l)=some cs:=by
    unfold zBb;rw[Nat.zero_mul,zCc (.ls []) 0 (.inr trivial)];simp only[zDt,oK,List.nil_append,c1]
   rw[e5,Nat.zero_add];exact jH (by show l.length*8<=_;omega) (by omega)
  ·exact hq _ _ (x1.trans (Ext.new _ (by omega))) ⟨by rw[hlen2,Nat.mul_one],.inr ⟨h1.next,0,_,cs,_,_,_,rfl,by rw[zI];omega,zw _ (by omega),λi _=>by rw[Nat.zero_add];exact c4 i⟩⟩
theorem zLP (l:List Int):∃(s:List UInt8) (e:Int),Jv l = .tuple [.str s,.int .i64 e]:=by
 unfold Jv;split
 ·cases xC l<;>exact⟨_,_,rfl⟩
 ·exact⟨_,_,rfl⟩
theorem zO0 (l:List Int):∃(n e:Int),zJo l = .tuple [.int .i64 n,.int .i64 e]:=by
 obtain⟨s,e,hw⟩:=X2 l;unfold zJo;rw[hw];exact⟨_,_,rfl⟩
theorem zG4 (l:List Int):∃(p q:Bool) (e:Int),XC l = .tuple [.bool p,.bool q,.int .i64 e]:=by
 unfold XC;split
 ·exact⟨_,_,_,rfl⟩
 ·exact⟨_,_,_,rfl⟩
theorem zBt (x y:Nat):yn zA .eql 4 (t x) (t y) (.bool true) (.bool true)=some (.bool true):=by kernel_rfl
theorem zBs (x y:Nat):yn zA .eql 4 (t x) (t y) (.bool false) (.bool false)=some (.bool true):=by kernel_rfl
theorem zHL {v0 v1:V}{l0 l1:List Int}{h:H}{Q:V->H->Prop}(s0:Sl h v0 1 l0.length (zM l0)) (s1:Sl h v1 1 l1.length (zM l1)) (z0:l0.length=0->yZ 1 h v0=some (0,[])) (z1:∀h',Ext h h' 2->l1.length=0->yZ 1 h' v1=some (0,[])) (hn:h.next+12000<=T.top) (hlow:h.low<=T.top) (hq:∀h',Q (.bool true) h'):RF P zA 4 [v0,v1] h Q:=by
 refine RF.enterS zG fn4 (ble _ _ rfl) (ble _ _ rfl) vb4 ⟨_,s0.len zQ rfl,λ_=>js ⟨true,rfl,λ_=>hq _,λg=>(by cases g)⟩,λc0=>⟨_,s1.len zQ rfl,λ_=>js ⟨true,rfl,λ_=>hq _,λg=>(by cases g)⟩,λc1=>Has.nil.on λtm hs=>?_⟩⟩
 have b0:l0.length<=300:=by omega
 have b1:l1.length<=300:=by omega
 refine wpS.at hs z2K rfl rfl (zMj s0 z0 (by omega) (by omega) λh1 v2 x1 s2=>⟨v2,rfl,zMj (s1.ext x1) (z1 h1 x1) (by omega) (by have:=x1.top;omega) λh4 v5 x4 s5=>⟨v5,rfl,?_⟩⟩)
 have x:=x1.trans x4;have tx:=x.top;have lx:=x.low;have r0:=s0.ext x;have r1:=s1.ext x;have r2:=s2.ext x4;obtain⟨sw,ew,hw⟩:=X2 l0;refine XW r2 (by omega) (by omega) (by omega) ⟨sw,ew,hw,Zn r0 (by omega) (by omega) (by omega) ⟨sw,ew,hw,λc=>absurd rfl c,λ_=>⟨λc=>absurd rfl c,λ_=>hs.on λtm1 hs1=>?_⟩⟩⟩
 obtain⟨sf,ef,hf⟩:=zLP l1;obtain⟨ns,es,hz⟩:=zO0 l0;refine wpS.at hs1 z2J rfl rfl (zHB s5 (by omega) (by omega) (by omega) ⟨sf,ef,hf,zE2 r1 (by omega) (by omega) (by omega) ⟨sf,ef,hf,zEn r2 (by omega) (by omega) (by omega) ⟨ns,es,hz,zCa r0 (by omega) (by omega) (by omega) ⟨ns,es,hz,λc=>absurd rfl c,λ_=>⟨λc=>absurd rfl c,λ_=>⟨λc=>absurd rfl c,λ_=>⟨λc=>absurd rfl c,λ_=>hs1.on λtm2 hs2=>?_⟩⟩⟩⟩⟩⟩⟩)
 obtain⟨p,q,ep,hp⟩:=zG4 l0;refine wpS.at hs2 z2I rfl rfl (Jz r2 (by omega) (by omega) (by omega) ⟨p,q,ep,hp,?_⟩);have n4:h4.next<=T.top:=by omega
 have l4:h4.low<=T.top:=by omega
 cases p<;>cases q
 ·refine⟨λc=>(by cases c),λ_=>⟨λc=>(by cases c),λ_=>xu r0 (by omega) (by omega) (by omega) ⟨_,_,ep,hp,λc=>(by cases c),λ_=>⟨λc=>(by cases c),λ_=>⟨true,zBs _ _,λ_=>⟨true,zBs _ _,λ_=>⟨λ_=>?_,λc=>absurd rfl c⟩,λc=>(by cases c)⟩,λc=>(by cases c)⟩⟩⟩⟩⟩
  exact xN r2 r0 (by omega) n4 l4 ⟨true,rfl,λ_=>xN s5 r1 (by omega) n4 l4 ⟨true,rfl,λ_=>js ⟨true,rfl,λ_=>hs2.on λtm3 hs3=>hs3.slt λtm4 hs4=>hs4.slt λtm5 hs5=>endW.r1 (hs5.get rfl) (hq _),λg=>(by cases g)⟩,λg=>(by cases g)⟩,λg=>(by cases g)⟩
 ·refine⟨λc=>(by cases c),λ_=>⟨λ_=>xu r0 (by omega) (by omega) (by omega) ⟨_,_,ep,hp,λc=>(by cases c),λ_=>⟨λ_=>⟨true,zBs _ _,λ_=>⟨true,zBt _ _,λ_=>⟨λ_=>?_,λc=>absurd rfl c⟩,λc=>(by cases c)⟩,λc=>(by cases c)⟩,λc=>(by cases c)⟩⟩,λc=>(by cases c)⟩⟩
  exact xN r2 r0 (by omega) n4 l4 ⟨true,rfl,λ_=>xN s5 r1 (by omega) n4 l4 ⟨true,rfl,λ_=>js ⟨true,rfl,λ_=>hs2.on λtm3 hs3=>hs3.slt λtm4 hs4=>hs4.slt λtm5 hs5=>endW.r1 (hs5.get rfl) (hq _),λg=>(by cases g)⟩,λg=>(by cases g)⟩,λg=>(by cases g)⟩
 ·refine⟨λ_=>⟨λc=>(by cases c),λ_=>xu r0 (by omega) (by omega) (by omega) ⟨_,_,ep,hp,λ_=>⟨λc=>(by cases c),λ_=>⟨true,zBt _ _,λ_=>⟨true,zBs _ _,λ_=>⟨λ_=>?_,λc=>absurd rfl c⟩,λc=>(by cases c)⟩,λc=>(by cases c)⟩⟩,λc=>(by cases c)⟩⟩,λc=>(by cases c)⟩
  exact xN r2 r0 (by omega) n4 l4 ⟨true,rfl,λ_=>xN s5 r1 (by omega) n4 l4 ⟨true,rfl,λ_=>js ⟨true,rfl,λ_=>hs2.on λtm3 hs3=>hs3.slt λtm4 hs4=>hs4.slt λtm5 hs5=>endW.r1 (hs5.get rfl) (hq _),λg=>(by cases g)⟩,λg=>(by cases g)⟩,λg=>(by cases g)⟩
 ·refine⟨λ_=>⟨λ_=>xu r0 (by omega) (by omega) (by omega) ⟨_,_,ep,hp,λ_=>⟨λ_=>⟨true,zBt _ _,λ_=>⟨true,zBt _ _,λ_=>⟨λ_=>?_,λc=>absurd rfl c⟩,λc=>(by cases c)⟩,λc=>(by cases c)⟩,λc=>(by cases c)⟩,λc=>(by cases c)⟩,λc=>(by cases c)⟩,λc=>(by cases c)⟩
  exact xN r2 r0 (by omega) n4 l4 ⟨true,rfl,λ_=>xN s5 r1 (by omega) n4 l4 ⟨true,rfl,λ_=>js ⟨true,rfl,λ_=>hs2.on λtm3 hs3=>hs3.slt λtm4 hs4=>hs4.slt λtm5 hs5=>endW.r1 (hs5.get rfl) (hq _),λg=>(by cases g)⟩,λg=>(by cases g)⟩,λg=>(by cases g)⟩
open Go.Sim Go.ChangeShapes Go.WideShapes Go.ChangeAt Go.RowKit
theorem zM1:laidOutB Tryz.prog=true:=by kernel_rfl
theorem Or {H:Type}{enc:TypeId×Value->H}{W:World}{base:Nat}{v0 v1:Value}{d0 d1:DataW H}{p0 p1:List MemPlace}(w0:Value.okWide Tryz.prog W .any base 23 v0) (w1:Value.okWide Tryz.prog W .any base 23 v1)
  (h0:DataW.Trod enc Tryz.prog W 0 (λ_=>true) true 23 v0 d0 p0) (h1:DataW.Trod enc Tryz.prog W 0 (λ_=>true) true 23 v1 d1 p1) :
  Calls Tryz.prog 4 #[v0,v1] W λe W'=>e = .returned (.bool true)/\Below W.heap.size W W':=by
 obtain⟨l0,r0,_⟩:=zID Tryz.underlying23 Tryz.underlying3 (by kernel_rfl) w0 h0;obtain⟨l1,r1,_⟩:=zID Tryz.underlying23 Tryz.underlying3 (by kernel_rfl) w1 h1;have s0:Sl (ji (zM l0) (zM l1)) (ab 0 l0.length v0) 1 l0.length (zM l0):=zVG r0 (zM l1);have s1:Sl (ji (zM l0) (zM l1)) (ab 1 l1.length v1) 1 l1.length (zM l1):=zVH r1 (zM l0);have z0:l0.length=0->yZ 1 (ji (zM l0) (zM l1)) (ab 0 l0.length v0)=some (0,[]):=by
  intro q0;have:l0=[]:=List.eq_nil_of_length_eq_zero q0;subst this;rcases zHR (i:=0) r0 with⟨e1,_⟩|⟨cap,_,e1⟩
  ·rw[e1];rfl
  ·rw[e1]
   have g:=kE (zM []) (zM l1);unfold yZ;simp only[g];rfl
 have z1:∀h',Ext (ji (zM l0) (zM l1)) h' 2->l1.length=0->yZ 1 h' (ab 1 l1.length v1)=some (0,[]):=by
  intro h' q q0;have:l1=[]:=List.eq_nil_of_length_eq_zero q0;subst this;rcases zHR (i:=1) r1 with⟨e1,_⟩|⟨cap,_,e1⟩
  ·rw[e1];rfl
  ·rw[e1]
   have g:=(q.get 1 (by rw[jI];decide)).trans (kF (zM l0) (zM []));unfold yZ;simp only[g];rfl
 obtain⟨r,h',⟨_,sf⟩,rfl⟩:=zHL (Q:=λr _=>r = .bool true) s0 s1 z0 z1 (by rw[jI];exact of_decide_eq_true (by kernel_rfl)) (oO _) λ_=>rfl
 have px:∀(l:List Int),∀q∈zM l,Plain q:=λl q hq=>by obtain⟨_,_,rfl⟩:=List.mem_map.1 hq;exact xG _ _
 have k:=sf.calls2 (zU8 r0 r1 (px l0) (px l1)) (λq hq=>by
  simp only[oY,List.not_mem_nil,or_false]at hq;rcases hq with rfl|rfl
  ·exact zVE r0
  ·exact zVF r1)
 simp only[List.map_cons,List.map_nil,zKY r0,zKZ r1]at k;simpa using k
theorem XY (os:Os) (started:os.Started) (H:Type) (enc:TypeId×Value->H) :
  ReturnsInHanded {} Tryz.checked os 4 .any (Rows.treeWritesSpec.pre6 enc Tryz.prog Tryz.f4 Rows.treeWritesRow.domain false) (Rows.treeWritesSpec.post enc Tryz.prog Tryz.f4 false true false false):=by
 refine returnsInHanded_of_change (C:=Tryz.checked) own started (by kernel_rfl) Tryz.func4
  (ChangeSpec.witness6 (enc:=enc) (C:=Tryz.checked) false ⟨#[],#[.slice none 0 0,.slice none 0 0],[]⟩ 8 (by kernel_rfl) (by kernel_rfl) (by kernel_rfl) (by kernel_rfl)) ?_
 intro W base args ds gs before hval0 hW _ _;have hval:∀(j:Nat) t v,Tryz.f4.params[j]? = some t->args[j]? = some v->Value.okWide Tryz.prog W .any base t v:=hval0;have hW':=hW;obtain⟨p,q,hA0,hV,rfl,_,_⟩:=hW;have hA:DataW.TrodAll enc Tryz.prog W 0 (λ_=>true) true Tryz.f4.params.toList args.toList ds p:=hA0;rw[Tryz.params4]at hA hval;obtain⟨v0,v1,d0,d1,p0,p1,rfl,rfl,rfl,h0,h1⟩:=trodAll_two hA;obtain⟨rfl,rfl⟩:=trodVars_none hV;refine(Or (hval 0 23 v0 rfl rfl) (hval 1 23 v1 rfl rfl) h0 h1).mono λe W' ⟨he,hb⟩=>⟨_,he,?_⟩
 exact zJ5 zM1 (by rw[Tryz.params4];kernel_rfl) hW' hb rfl Tryz.underlying4 rfl rfl (by exact(rfl:([]:List MemPlace)=[]))
theorem treeWrites_holds:Rows.TreeWritesSaid :=
 OpenClaim.holds_of_wide 4 Tryz.f4 rfl rfl rfl rfl rfl rfl rfl ⟨rfl,rfl,rfl,rfl,rfl⟩ rfl rfl rfl rfl rfl JU Tryz.func4 XX KA KB
  (λos started H enc _=>XY os started H enc)
end Go.Proofs.YtnpeieeomokomaaGreat
