/- TE. No condition. -/
import Derived.Test.YtnpeieeomokomaaGreatZTD
import Derived.Test.YtnpeieeomokomaaGreatZTA
import Derived.Test.YtnpeieeomokomaaGreatZTB
import Derived.Test.YtnpeieeomokomaaGreatZTC
import Derived.Test.YtnpeieeomokomaaGreatZCF
import Derived.Test.YtnpeieeomokomaaGreatZZ
set_option maxRecDepth 100000
set_option maxHeartbeats 4000000
noncomputable section
namespace Go.Proofs.YtnpeieeomokomaaGreat
open Go.Sim
theorem XG:∀{l:List Int}{x:Int},(∀y∈l,-1<=y)->x∈l->(x.natAbs:Int)<=pts l
 | y::l,x,h,hx=>by
  have h0:0<=pts l:=by
   have:=xF (l:=l) λz hz=>h z (oH _ hz)
   omega
  have h1:=h y (List.mem_cons_self ..);rw[xl];rcases oY.1 hx with rfl|hx
  ·unfold pt;split<;>omega
  ·have:=XG (l:=l) (λz hz=>h z (oH _ hz)) hx
   unfold pt;split<;>omega
def Ot (m:Nat) (l:List Int):List Int:=l.map λx=>if x≠0 then (m:Int)+1-x else 0
theorem q8 (m:Nat) (l:List Int):(Ot m l).length=l.length:=by simp[Ot]
theorem wo {p o:Nat}{h:H}{k:V->H->Prop}:zY zA 59 0 h (.ptr p o) k=k (.ptr p (o+0)) h:=by kernel_rfl
theorem zm {p o:Nat}{h:H}{k:V->H->Prop}:zY zA 59 1 h (.ptr p o) k=k (.ptr p (o+1)) h:=by kernel_rfl
theorem zE5 {k:V->H->Prop}{h:H}(hk:k (.tuple []) h):qA zA 0 k (.tuple []) h:=⟨rfl,hk⟩
theorem yM {h:H}{v:V}{e n:Nat}{xs:List V}(s:Sl h v e n xs) {a:Int}{k:Cs->Prop}(hk:k (.ls [.int .i64 a,v])):xV (cond (zU (V.cells (.agg [(.int .i64 a),v]))) (Cs.ofL (V.cells (.agg [(.int .i64 a),v]))) none) k:=by
 obtain⟨_,⟨rfl,_⟩|⟨b,o,cp,cs,k,w,op,rfl,_⟩⟩:=s
 ·exact hk
 ·exact hk
theorem zGQ {v:V}{l:List Int}{m:Int}{h:H}{Q:V->H->Prop}(sl:Sl h v 1 l.length (zM l)) (hl:l.length<=1000) (h0:1<=l.length) (hx:∀x∈l,m<=x) (hq:∀x,m<=x->Q (.int .i64 x) h):RF P zA 242 [v] h Q:=by
 refine RF.enterS zG zZO (ble _ _ rfl) (ble _ _ rfl) z10 ⟨_,sl.len zQ rfl,λc=>by omega,λ_=>Has.nil.on λtm hs=>?_⟩
 have at':∀i,i<l.length->∃x b o,m<=x/\zV zA 23 v (.int .i64 (i:Nat))=some (.ptr b o)/\zO zA 3 h (.ptr b o)=some (.int .i64 x):=λi hi=>by
  obtain⟨b,o,e1,e2⟩:=sl.at1 (u:=.int .i64 l[i]) hi zQ rfl zi rfl rfl (by rw[oU,oM hi];rfl);exact⟨_,b,o,hx _ (oQ hi),e1,e2⟩
 obtain⟨x,b,o,hx0,e1,e2⟩:=at' 0 (by omega);refine wpS.at hs zSl rfl rfl ⟨b,o,e1,x,e2,hs.on λtm' hs'=>?_⟩
 clear hs;refine wpC.round (λk tm h'=>∃(i:Nat) (x:Int),i<=l.length/\k=l.length-i/\h'=h/\m<=x/\Has tm [(4,.int .i64 i),(0,v),(3,.int .i64 x)]) (l.length-1) ⟨1,x,by omega,rfl,rfl,hx0,hs'.sub rfl⟩ ?_
 rintro k tm h' ⟨i,x,h1,rfl,rfl,h2,hs⟩;refine wpC.at hs zRL rfl rfl ⟨_,sl.len zQ rfl,λc=>?_,λc=>hs.on λtm' hs'=>?_⟩
 ·obtain⟨y,b,o,hy,e1,e2⟩:=at' i (by omega)
  have e:zL ((i:Int)+1)=((i+1:Nat):Int):=by rw[zH (by omega) (by omega)];rfl
  refine⟨b,o,e1,y,e2,hs.on λtm' hs'=>⟨rfl,rfl,l.length-(i+1),by omega,i+1,min x y,by omega,rfl,rfl,Int.le_min.2 ⟨h2,hy⟩,?_⟩⟩
  rw[<-e];exact hs'.sub rfl
 ·refine thenC.left (wpS.at hs' zSk rfl rfl (hs'.on λtm2 hs2=>hs2.slt λtm3 hs3=>?_))
  exact endW.r1 (hs3.get rfl) (hq x h2)
theorem OP {l:List Int}(h:∀x∈l,-1<=x):0<=pts l:=by
 have:=xF h;omega
theorem kz {l:List Int}(h:∀x∈l,-1<=x) (i:Nat):0<=pts (l.take i)/\pts (l.take i)<=pts l:=by
 have h1:=OP (l:=l.take i) λx hx=>h x (List.mem_of_mem_take hx)
 have h2:=OP (l:=l.drop i) λx hx=>h x (List.mem_of_mem_drop hx)
 have h3:=kV (l.take i) (l.drop i);rw[List.take_append_drop]at h3;omega
theorem zJ4 {v:V}{log:Int}{l:List Int}{h:H}{Q:V->H->Prop}(sl:Sl h v 1 l.length (zM l)) (hl:l.length<=1000) (hx:∀x∈l,-1<=x) (hp:pts l<=1048576) (hn:h.next+2<=T.top)
  (hq:∀h',Ext h h' 2->Q (.int .i64 (pts l)) h'):RF P zA 243 [.agg [.int .i64 log,v]] h Q:=by
 refine RF.enterS zG zZP (ble _ _ rfl) (ble _ _ rfl) z11 (yM sl ⟨by omega,?_⟩);rintro p0 h1 rfl e1;have w1:=(Vw.nil (S:=zW) (h:=h)).new e1 (by omega);have t1:=w1.top;refine⟨rfl,by omega,?_⟩;rintro p3 h4 rfl e4;have w4:=w1.new e4 (by omega);have t4:=w4.top;obtain⟨h5,e5,w5,n5,_⟩:=w4.st (cx:=zA) 0 (f:=0) (u:=.int .i64 0) rfl (by omega) zi rfl (oJ _) rfl rfl;refine⟨h5,e5,v,w5.ld1 1 rfl zQ rfl rfl,_,(sl.ext w5.ex0).len zQ rfl,Has.nil.on λtm hs=>?_⟩
 refine wpC.round (λk tm h'=>∃i:Nat,i<=l.length/\k=l.length-i/\Vw zW h h' 2 [(h1.next,.cells (.ls [.int .i64 (pts (l.take i))]) ⟨0,3+1,0⟩ true false),(h.next,.cells (.ls [.int .i64 log,v]) ⟨0,59+1,0⟩ true false)] /\
  Has tm [(11,.int .i64 i),(10,.int .i64 l.length),(9,v),(4,.func (.func 286) [] [.ptr h1.next 0]),(3,.ptr h1.next 0)]) l.length ⟨0,by omega,by omega,w5,hs.sub rfl⟩ ?_
 clear hs w5 e5 n5;rintro k tm h' ⟨i,hi1,rfl,w,hs⟩;have tw:=w.top;refine wpC.at hs zRM rfl rfl ⟨λc=>?_,λc=>hs.on λtm' hs'=>?_⟩
 ·have hi:i<l.length:=by omega
  have hg:l[i]? = some l[i]:=oM hi;obtain⟨b,o,e1,e2⟩:=(sl.ext w.ex0).at1 (u:=.int .i64 l[i]) hi zQ rfl zi rfl rfl (by rw[oU,hg];rfl);have ht:l.take (i+1)=l.take i++[l[i]]:=by rw[List.take_add_one,hg];rfl
  have hr:=hx l[i] (oQ hi);have hb:=kz hx i;have hb2:=kz hx (i+1);generalize l[i]=x at hg e2 ht hr;have e:zL ((i:Int)+1)=((i+1:Nat):Int):=by rw[zH (by omega) (by omega)];rfl
  have hw:pts (l.take (i+1))=pts (l.take i)+pt x:=by rw[ht,kV,zCM]
  refine⟨b,o,e1,x,e2,λc2=>?_,λc2=>?_⟩
  ·show RF P zA 286 [.int .i64 1,.ptr h1.next 0] h' _
   have hp1:pt x=1:=by unfold pt;rw[if_pos c2]
   have es:min (zL (pts (l.take i)+1)) 1048576=pts (l.take (i+1)):=by rw[zH (by omega) (by omega)];omega
   obtain⟨h6,e6,w6,n6,_⟩:=w.st (cx:=zA) 0 (f:=0) (u:=.int .i64 (pts (l.take (i+1)))) rfl (by omega) zi rfl (oJ _) rfl rfl;refine RF.enterS zG zTg (ble _ _ rfl) (ble _ _ rfl) zU5 ⟨_,w.ld1 0 rfl zi rfl rfl,h6,by rw[es];exact e6,?_⟩;refine zE5 (hs.on λtm' hs'=>⟨rfl,rfl,l.length-(i+1),by omega,i+1,by omega,rfl,w6,?_⟩)
   rw[<-e];exact hs'.sub rfl
  ·show RF P zA 286 [.int .i64 (min x 1048576),.ptr h1.next 0] h' _
   have hp1:pt x=x:=by unfold pt;rw[if_neg c2]
   have es:min (zL (pts (l.take i)+min x 1048576)) 1048576=pts (l.take (i+1)):=by rw[zH (by omega) (by omega)];omega
   obtain⟨h6,e6,w6,n6,_⟩:=w.st (cx:=zA) 0 (f:=0) (u:=.int .i64 (pts (l.take (i+1)))) rfl (by omega) zi rfl (oJ _) rfl rfl;refine RF.enterS zG zTg (ble _ _ rfl) (ble _ _ rfl) zU5 ⟨_,w.ld1 0 rfl zi rfl rfl,h6,by rw[es];exact e6,?_⟩;refine zE5 (hs.on λtm' hs'=>⟨rfl,rfl,l.length-(i+1),by omega,i+1,by omega,rfl,w6,?_⟩)
   rw[<-e];exact hs'.sub rfl
 ·have hi:i=l.length:=by omega
  subst hi;rw[List.take_length]at w;refine thenC.left (wpS.at hs' zSm rfl rfl ⟨_,w.ld1 0 rfl zi rfl rfl,hs'.on λtm2 hs2=>?_⟩);exact endW.r1 (hs2.get rfl) (hq _ w.ex0)
theorem jp {v:V}{log:Nat}{l:List Int}{h:H}{Q:V->H->Prop}(sl:Sl h v 1 l.length (zM l)) (g:GD log l) (hq:Q (.int .i64 0) h):RF P zA 173 [.agg [.int .i64 log,v]] h Q:=by
 show RF P zA 173 ((λv=>V.agg ([.int .i64 log]++[v])::[]) v) h Q
 refine RF.ro (One.struct (zy rfl) (λa ha=>(by cases ha))) sl (qS l) (xG _ _) (λv0 h0 s0 hn0 hl0=>?_) hq
 clear sl hq h Q v;have ht:=zt;have hpos:=g.pos;have hlen:=g.len;have hlg:=g.lg;have hp:=g.pts;have hpw:=yc g.lg;have hpc:((2^log:Nat):Int)=2^log:=by simp
 show RF P zA 173 [.agg [.int .i64 log,v0]] h0 _;refine RF.enterS zG zYi (ble _ _ rfl) (ble _ _ rfl) z0v (yM s0 ⟨by omega,?_⟩);rintro p0 h1 rfl e1;have w1:=(Vw.nil (S:=zW) (h:=h0)).new e1 (by omega);have t1:=w1.top;refine⟨_,w1.ld1 0 rfl zi rfl rfl,λc=>by omega,λ_=>⟨_,w1.ld1 0 rfl zi rfl rfl,λc=>by omega,λ_=>Has.nil.on λtm hs=>?_⟩⟩
 refine wpS.at hs zSN rfl rfl ?_;rw[zm];have s1:=s0.ext w1.ex0;refine⟨v0,w1.ld1 0 rfl zQ rfl rfl,_,s1.len zQ rfl,⟨by omega,by have:=w1.low;omega⟩,λc=>by omega,λ_=>⟨λc=>by omega,λ_=>?_⟩⟩
 rw[zm];have hlast:l[l.length-1]? = some l[l.length-1]:=oM (by omega);obtain⟨b,o,a1,a2⟩:=s1.at1 (u:=.int .i64 l[l.length-1]) (i:=l.length-1) (by omega) zQ rfl zi rfl rfl (by rw[oU,hlast];rfl);have hne:l[l.length-1]≠0:=λe=>g.last (by rw[List.getLast?_eq_getElem?,hlast,e])
 refine⟨v0,w1.ld1 0 rfl zQ rfl rfl,b,o,?_,_,a2,λc=>absurd c hne,λ_=>?_⟩
 ·rw[zH (by omega) (by omega),show((l.length:Nat):Int)-1=((l.length-1:Nat):Int)by omega];exact a1
 rw[zm];have sT:Sl (za h1) v0 1 l.length (zM l):=s1;refine⟨v0,w1.ld1 0 rfl zQ rfl rfl,zGQ sT (by omega) hpos g.low λx hx=>⟨x,rfl,(show h1.next<=T.top by omega),?_⟩⟩
 intro h16 e16;have hx2:=yb (h:=h1) (by omega) (by have:=w1.low;omega);rw[hx2.2]at e16;subst h16;refine⟨λc=>by omega,λ_=>⟨_,_,w1.ldA 0 rfl xo rfl rfl,?_⟩⟩
 refine zJ4 sT (by omega) g.low (by omega) (show h1.next+2<=T.top by omega) λh20 x20=>⟨_,rfl,?_⟩
 have xd:=Ext.drawn x20 (by omega);have t20:=x20.top;refine⟨⟨xd.1,(show h20.next<=T.top by have:(za h1).next=h1.next:=rfl;omega)⟩,?_⟩;intro h22 e22;rw[<-e22]at xd;have w2:=w1.ext xd.2;rw[wo];refine⟨_,w2.ld1 0 rfl zi rfl rfl,((1*2^log:Nat):Int),zb (a:=1) (by omega) (by omega),λc=>absurd ?_ c,λ_=>hs.on λtm2 hs2=>?_⟩
 ·rw[hp,Nat.one_mul,hpc]
 ·exact endW.r1 (hs2.get rfl) rfl
theorem zIJ {log:Nat}(hl:log=5\/log=6) {h:H}{Q:V->H->Prop}(hq:Q (.int .i64 (Y2 log:Nat)) h):RF P zA 324 [.int .i64 log] h Q:=by
 have hp:=yc hl;refine RF.enterS zG zZs (ble _ _ rfl) (ble _ _ rfl) z2E ⟨((1*2^log:Nat):Int),zb (a:=1) (by omega) (by omega),((1*2^log/2^1:Nat):Int),j4 (n:=1) (by decide),((1*2^log/2^3:Nat):Int),j4 (n:=3) (by decide),?_⟩;have e:zL (zL (((1*2^log/2^1:Nat):Int)+((1*2^log/2^3:Nat):Int))+3)=((Y2 log:Nat):Int):=by
  rw[Nat.one_mul];unfold Y2;rw[zH (n:=((2^log/2^1:Nat):Int)+((2^log/2^3:Nat):Int)) (by omega) (by omega),zH (by omega) (by omega)];omega
 rw[e];exact hq
theorem zE6 {k:V->H->Prop}{h:H}(hk:k (.bool true) h):qA zA 4 k (.bool true) h:=⟨true,rfl,λ_=>hk,λg=>(by cases g)⟩
theorem Yz {k:Bool->Prop}(hk:k false):zAG .not (.bool true) (λv=>wG v k):=hk
theorem z2Y (i:Nat):zK i .normal = .normal:=rfl
theorem thenC.left2 {i j:Nat}{K I:St->Prop}{R:AX->St->Prop}{s:St}(h:K s):thenC I (λe s1=>(λe s1=>(λe s1=>thenC K R (zK j e) s1) (zK i e) s1) e s1) (.exit i) s:=by
 show thenC K R (zK j (zK i (.exit i))) s;rw[xf];exact h
theorem thenC.out2 {i j:Nat}{K:St->Prop}{R:AX->St->Prop}{s:St}(h:K s):thenC K R (zK j (zK i (.exit i))) s:=by
 rw[xf];exact h
abbrev oLp (tm:Tm) (df:Nat):O:=.loop .ready none 26 tm #[19,20] Zu qv df
abbrev zQE (tm:Tm) (df:Nat):O:=.loop .busy none 26 tm #[19,20] Zu qv df
abbrev zEI (v:V):O:=.cells (.ls [v]) ⟨0,23+1,0⟩ true false
theorem yS (l:List Int) (j:Nat) (x:Int):zM (l.set j x)=(zM l).set j (.int .i64 x):=by simp[zM,List.map_set]
theorem wV (n:Nat):zM (List.replicate n 0)=List.replicate n (.int .i64 0):=by simp[zM]
structure SpI (hb h:H) (c r l df pc p12 b p0 n:Nat) (tm:Tm) (dc:O) (f:Int->Option V) (xs:List Int):Prop where
 vw:∃o cs,Vw zW hb h c [(r,o),(l,oLp tm df),(df,.deferred true),(pc,dc),(p12,zEI (.slice b 0 n (.exact n))),(b,yv cs),(p0,dc)]/\Row cs n (zM xs)
 mp:MapI h r f
theorem SpI.round {hb h:H}{c r l df pc p12 b p0 n:Nat}{tm:Tm}{dc:O}{f:Int->Option V}{xs:List Int}{j:Nat}{s:Int}{Q:V->H->Prop}(i:SpI hb h c r l df pc p12 b p0 n tm dc f xs) (ht:Has tm [(5,.ptr p12 0)]) (hj:j<n) (hn:h.next<=T.top)
  (hq:∀h',SpI hb h' c r l df pc p12 b p0 n tm dc f (xs.set j s)->h'.next=h.next->Q (.bool true) h'):RR P l [.int .i64 j,.int .i64 s] h Q:=by
 obtain⟨⟨o,cs,w,row⟩,mp⟩:=i;have hl:l<T.top:=oI (w.lt 1 rfl) hn;refine RR.intro hl (w.get 1 rfl) rfl (RC.of_wp zG Zu ?_);refine wpC.sealS zQ4 (ht.on λtm1 hs1=>?_);refine⟨rfl,_,_,_,_,_,_,_,w.get 1 rfl,RC.of_wp zG qv ?_⟩;have w1:=w.upd 1 (o':=zQE tm df) rfl hn;show wpC P zA true (wZ qv) ⟨26,tm1,[],h.upd l (some (zQE tm df))⟩ _;have n1:(h.upd l (some (zQE tm df))).next=h.next:=rfl;generalize h.upd l (some (zQE tm df))=h1 at w1 n1 ⊢;obtain⟨h2,cs2,e2,row2,w2,n2⟩:=w1.set (cx:=zA) 5 (j:=j) (u:=.int .i64 s) row rfl (by omega) hj zi rfl rfl rfl rfl;refine wpC.at hs1 zQ9 rfl rfl ⟨_,w1.ld1 4 rfl zQ rfl rfl,b,j,zr zQ rfl zi rfl hj,h2,e2,hs1.on λtm2 hs2=>?_⟩
 have g2:=w2.get 1 rfl;show(match j3 l .normal ⟨26,tm2,[],h2⟩with|some (.ret v h')=>Q v h'|_=>False)
 simp only[j3,g2];have w3:=w2.upd 1 (o':=oLp tm df) rfl (by omega);refine hq _ ⟨⟨o,cs2,w3,by rw[yS];exact row2⟩,mp.mono ((w3.get 0 rfl).trans (w.get 0 rfl).symm)⟩ ?_;show h2.next=h.next;omega
def tkn (size n:Nat):Int->Option V:=λk=>if (n:Int)<=k/\k<size then some (.bool true) else none
theorem zO9 (size:Nat):tkn size size=λ_=>none:=by
 funext k
 unfold tkn;rw[if_neg (by omega)]
theorem zO8 {size n:Nat}(h:n<=size) (h0:0<n):(λj=>if j=((n-1:Nat):Int) then some (.bool true) else tkn size n j)=tkn size (n-1):=by
 funext k
 unfold tkn;by_cases c:k=((n-1:Nat):Int)
 ·rw[if_pos c,if_pos (by omega)]
 ·rw[if_neg c]
  by_cases c2:(n:Int)<=k/\k<size
  ·rw[if_pos c2,if_pos (by omega)]
  ·rw[if_neg c2,if_neg (by omega)]
theorem SpI.taken {hb h:H}{c r l df pc p12 b p0 n size m:Nat}{tm:Tm}{dc:O}{xs:List Int}{p:Nat}(i:SpI hb h c r l df pc p12 b p0 n tm dc (tkn size m) xs) (hp:p<size) :
  JZ zA 377 h (.map r) (.int .i64 p) false=some (.bool (decide (m<=p))):=by
 rw[i.mp.look zU2 rfl zi rfl ty4 rfl];unfold tkn;by_cases c:m<=p
 ·rw[if_pos (by omega),decide_eq_true c];rfl
 ·rw[if_neg (by omega),decide_eq_false c];rfl
theorem SpI.top {hb h:H}{c r l df pc p12 b p0 n:Nat}{tm:Tm}{dc:O}{f:Int->Option V}{xs:List Int}(i:SpI hb h c r l df pc p12 b p0 n tm dc f xs):h.next<=hb.next+c:=by
 obtain⟨⟨o,cs,w,row⟩,mp⟩:=i;exact w.top
theorem SpI.ex {hb h:H}{c r l df pc p12 b p0 n:Nat}{tm:Tm}{dc:O}{f:Int->Option V}{xs:List Int}(i:SpI hb h c r l df pc p12 b p0 n tm dc f xs):Ext hb h c:=by
 obtain⟨⟨o,cs,w,row⟩,mp⟩:=i;exact w.ex0
theorem zHT {log p:Nat}(hl:log=5\/log=6) (hp:p<2^log):zj .and .i64 (zL ((p:Int)+(Y2 log:Nat))) (zL (((2^log:Nat):Int)-1))=some (.int .i64 (((p+Y2 log) % 2^log:Nat):Int)):=by
 have h1:=yc hl;have h2:Y2 log<=2^log+3:=by unfold Y2;omega
 rw[zH (n:=(p:Int)+(Y2 log:Nat)) (by omega) (by omega),zH (by omega) (by omega),show((2^log:Nat):Int)-1=((2^log-1:Nat):Int)by omega,show(p:Int)+(Y2 log:Nat)=((p+Y2 log:Nat):Int)from rfl,jx (by omega) (by omega),jy]
theorem zTT {hb h:H}{c r l df pc p12 b p0 n m log:Nat}{tm0:Tm}{v:V}{xs:List Int}{f p tgt:Nat}{tm:Tm}{R:AX->St->Prop}{y0 x47 x46 x9 x40 x39 x38:V}(hl:log=5\/log=6) (i:SpI hb h c r l df pc p12 b p0 n tm0 (oD log v) (tkn (2^log) (2^log-m)) xs) (hp:p<2^log) (hx:nxt log m f p=tgt) (ht:tgt<2^log-m)
  (hs:Has tm [(4,.map r),(8,.int .i64 p),(1,.ptr pc 0),(3,.int .i64 (2^log:Nat)),(0,y0),(47,x47),(46,x46),(9,x9),(40,x40),(39,x39),(38,x38)])
  (hq:∀tm',Has tm' [(4,.map r),(8,.int .i64 tgt),(1,.ptr pc 0),(3,.int .i64 (2^log:Nat)),(0,y0),(47,x47),(46,x46),(9,x9),(40,x40),(39,x39),(38,x38)]->R (.exit 6) ⟨75,tm',[],h⟩) :
  wpC P zA false (.loop zGL) ⟨75,tm,[],h⟩ R:=by
 refine wpC.round (λk tm h'=>h'=h/\∃p,p<2^log/\nxt log m k p=tgt/\Has tm [(4,.map r),(8,.int .i64 p),(1,.ptr pc 0),(3,.int .i64 (2^log:Nat)),(0,y0),(47,x47),(46,x46),(9,x9),(40,x40),(39,x39),(38,x38)]) f ⟨rfl,p,hp,hx,hs⟩ ?_
 clear hs hp hx;rintro k tm h' ⟨rfl,p,hp,hx,hs⟩;refine wpC.at hs zR3 rfl rfl ⟨_,i.taken hp,λc=>?_,λc=>hs.on λtm' hs'=>?_⟩
 ·have c:=of_decide_eq_true c
  cases k with
  | zero=>have:p=tgt:=hx;omega
  | succ k =>
   unfold nxt at hx;rw[if_neg (by omega)]at hx;obtain⟨⟨o,cs,w,row⟩,mp⟩:=i;rw[wo];refine⟨_,w.ld1 3 rfl zi rfl rfl,zIJ hl ⟨_,rfl,_,zHT hl hp,hs.on λtm' hs'=>⟨rfl,rfl,k,Nat.lt_succ_self k,rfl,(p+Y2 log) % 2^log,Nat.mod_lt _ (Nat.pow_pos (by decide)),hx,hs'.sub rfl⟩⟩⟩
 ·have c:=of_decide_eq_false c
  have:p=tgt:=by
   cases k with
   | zero=>exact hx
   | succ k =>
    unfold nxt at hx;rw[if_pos (by omega)]at hx;exact hx
  subst this;exact hq tm' (hs'.sub rfl)
theorem xW {l:List Int}{i:Nat}(hi:i<l.length):l.drop i=l[i]::l.drop (i+1):=List.drop_eq_getElem_cons hi
theorem OH {l:List Int}{i:Nat}(hi:i<l.length):zz (l.drop i)=(if l[i] = -1 then 1 else 0)+zz (l.drop (i+1)):=by rw[xW hi,kK]
theorem zJK {hb h:H}{c l df pc p12 b p0 log:Nat}{tm0:Tm}{v:V}{probs:List Int}{cs:Cs}{Q:V->H->Prop}(g:GD log probs) (t5:Has tm0 [(5,.ptr p12 0)])
  (w:Vw zW hb h c [(l,oLp tm0 df),(df,.deferred true),(pc,oD log v),(p12,zEI (.slice b 0 (2^log) (.exact (2^log)))),(b,yv cs),(p0,oD log v)])
  (row:Row cs (2^log) (zM (List.replicate (2^log) 0))) (sl:Sl hb v 1 probs.length (zM probs)) (hn:h.next+1<=T.top)
  (hq:∀h' r f,SpI hb h' (c+1) r l df pc p12 b p0 (2^log) tm0 (oD log v) f (zh log probs)->Q (.tuple []) h'):RF P zA 323 [.yield l,.ptr pc 0] h Q:=by
 have hl:=g.lg;have hlen:=g.len;have hpw:=yc g.lg;have hcells:=g.cells;have hr12:zz probs<=12:=oP (XA probs) g.len;refine RF.enterS zG zZr (ble _ _ rfl) (ble _ _ rfl) z2D ?_;rw[wo];obtain⟨h5,e5⟩:∃h5,h5=h.new (.map [] 0):=⟨_,rfl⟩;have w5:=w.new e5 (by omega);have m5:MapI h5 h.next (λ_=>none):=by rw[e5];exact MapI.new (by omega)
 have t5':=w5.top;refine⟨_,w.ld1 2 rfl zi rfl rfl,((1*2^log:Nat):Int),zb (a:=1) (by omega) (by omega),.map h.next,h5,by rw[e5];exact zDQ rfl (by omega),?_⟩;rw[zm];have e1:zL (((1*2^log:Nat):Int)-1)=((2^log:Nat):Int)-1:=by rw[zH (by omega) (by omega)];omega
 rw[e1,Nat.one_mul];refine⟨_,w5.ld1 3 rfl zQ rfl rfl,_,(sl.ext w5.ex0).len zQ rfl,Has.nil.on λtm hs=>?_⟩
 have ix:SpI hb h5 (c+1) h.next l df pc p12 b p0 (2^log) tm0 (oD log v) (tkn (2^log) (2^log)) (List.replicate (2^log) 0):=⟨⟨_,cs,w5,row⟩,by rw[zO9];exact m5⟩;have n5:h5.next<=T.top:=by rw[e5,zI];omega
 clear w5 m5 e5 t5';generalize h.next=r at hs ix n5;refine wpC.round (λk tm h'=>∃(i n:Nat) (xs:List Int),i<=probs.length/\k=probs.length-i/\h'.next=h5.next/\SpI hb h' (c+1) r l df pc p12 b p0 (2^log) tm0 (oD log v) (tkn (2^log) n) xs /\
  qX (probs.drop i) i n xs=qX probs 0 (2^log) (List.replicate (2^log) 0)/\n+zz probs=2^log+zz (probs.drop i)/\n<=2^log /\
  Has tm [(20,.int .i64 i),(19,.int .i64 probs.length),(18,v),(4,.map r),(5,.int .i64 ((n:Int)-1)),(0,.yield l),(1,.ptr pc 0),(3,.int .i64 (2^log:Nat))]) probs.length
  ⟨0,2^log,_,by omega,by omega,rfl,ix,rfl,rfl,oO _,hs.sub rfl⟩ ?_
 clear hs ix;rintro k tm h' ⟨i,n,xs,hi1,rfl,hnx,ix,hR,hN,hnl,hs⟩;have slk:=sl.ext ix.ex;refine wpC.at hs zR2 rfl rfl ⟨λc1=>?_,λc1=>hs.on λtm' hs'=>?_⟩
 ·have hi:i<probs.length:=by omega
  have hd:=xW hi;have hnr:=OH hi;obtain⟨pb,po,a1,a2⟩:=slk.at1 (u:=.int .i64 probs[i]) hi zQ rfl zi rfl rfl (by rw[oU,oM hi];rfl);have e:zL ((i:Int)+1)=((i+1:Nat):Int):=by rw[zH (by omega) (by omega)];rfl
  refine⟨pb,po,a1,_,a2,λc2=>?_,λc2=>hs.on λtm' hs'=>?_⟩
  ·rw[if_pos c2]at hnr
   have hn1:1<=n:=by omega
   have en:(n:Int)-1=((n-1:Nat):Int):=by omega
   obtain⟨⟨o,cs',w',row'⟩,mp⟩:=ix;have hrt:r<T.top:=oI (w'.lt 0 rfl) (by omega);obtain⟨es,ck,eu,mu⟩:=mp.upd (c:=zA) zU2 rfl zi rfl hrt ((n-1:Nat):Int) (.bool true);rw[zO8 hnl (by omega)]at mu;have w2:=w'.upd 0 (o':=.map es ck) rfl (by omega);rw[en];refine⟨_,eu,?_⟩;have n2:(h'.upd r (some (.map es ck))).next=h'.next:=rfl;generalize h'.upd r (some (.map es ck))=h2 at w2 mu n2 ⊢;have i2:SpI hb h2 (c+1) r l df pc p12 b p0 (2^log) tm0 (oD log v) (tkn (2^log) (n-1)) xs:=⟨⟨_,cs',w2,row'⟩,mu⟩;show RR P l [.int .i64 ((n-1:Nat):Int),.int .i64 (i:Nat)] h2 _;refine i2.round (s:=(i:Int)) t5 (by omega) (by omega) λh3 i3 n3=>zE6 (Yz ?_)
   refine hs.on λtm' hs'=>⟨rfl,rfl,probs.length-(i+1),by omega,i+1,n-1,_,by omega,rfl,(show h3.next=h5.next by omega),i3,?_,by omega,by omega,?_⟩
   ·rw[<-hR,hd]
    exact(if_pos c2).symm
   ·have e2:zL ((n:Int)-1-1)=((n-1:Nat):Int)-1:=by rw[zH (by omega) (by omega)];omega
    have q:=hs'.sub (l':=[(20,.int .i64 (zL ((i:Int)+1))),(19,.int .i64 probs.length),(18,v),(4,.map r),(5,.int .i64 (zL (((n-1:Nat):Int)-1))),(0,.yield l),(1,.ptr pc 0),(3,.int .i64 (2^log:Nat))]) rfl;rw[e,<-en,e2]at q;exact q
  ·rw[if_neg c2]at hnr
   refine⟨rfl,rfl,probs.length-(i+1),by omega,i+1,n,xs,by omega,rfl,hnx,ix,?_,by omega,hnl,?_⟩
   ·rw[<-hR,hd]
    exact(if_neg c2).symm
   ·rw[<-e];exact hs'.sub (by kernel_rfl)
 have hi:i=probs.length:=by omega
 subst hi;rw[List.drop_length]at hR hN;have hn9:n=2^log-zz probs:=by have:zz []=0:=rfl;omega
 subst hn9;have hx0:xs=qX probs 0 (2^log) (List.replicate (2^log) 0):=hR;subst hx0;refine thenC.left (wpS.at hs' zTN rfl rfl ?_);rw[zm];obtain⟨⟨o,cs',w',row'⟩,mp⟩:=ix;refine⟨_,w'.ld1 3 rfl zQ rfl rfl,_,slk.len zQ rfl,hs'.on λtm2 hs2=>?_⟩
 have ix:SpI hb h' (c+1) r l df pc p12 b p0 (2^log) tm0 (oD log v) (tkn (2^log) (2^log-zz probs)) (qX probs 0 (2^log) (List.replicate (2^log) 0)):=⟨⟨o,cs',w',row'⟩,mp⟩;refine wpC.round (λk tm h'=>∃(i n:Nat) (xs:List Int),i<=probs.length/\k=probs.length-i/\h'.next=h5.next/\SpI hb h' (c+1) r l df pc p12 b p0 (2^log) tm0 (oD log v) (tkn (2^log) (2^log-zz probs)) xs /\
  ZE log (zz probs) (probs.drop i) i n xs=zh log probs /\
  Has tm [(40,.int .i64 i),(39,.int .i64 probs.length),(38,v),(4,.map r),(8,.int .i64 (YR log (zz probs) n:Nat)),(0,.yield l),(1,.ptr pc 0),(3,.int .i64 (2^log:Nat))]) probs.length
  ⟨0,0,_,by omega,by omega,hnx,ix,rfl,hs2.sub rfl⟩ ?_
 clear hs hs2 hs' ix w' mp row' hR hN hnl slk hnx;rintro k tm h' ⟨i,n,xs,hi1,rfl,hnx,ix,hR,hs⟩;have slk:=sl.ext ix.ex;refine wpC.at hs zR5 rfl rfl ⟨λc1=>?_,λc1=>hs.on λtm' hs'=>?_⟩
 rotate_left
 ·have hi:i=probs.length:=by omega
  subst hi;rw[List.drop_length]at hR;have hx:xs=zh log probs:=hR;subst hx;show zD Y7 (endW zA ⟨75,[],Xk⟩ Q) (zK 2 (.exit 2)) _;rw[xf];exact hs'.slt λtm3 _=>hq h' _ _ ix
 have hi:i<probs.length:=by omega
 have hd:=xW hi;obtain⟨pb,po,a1,a2⟩:=slk.at1 (u:=.int .i64 probs[i]) hi zQ rfl zi rfl rfl (by rw[oU,oM hi];rfl);have e:zL ((i:Int)+1)=((i+1:Nat):Int):=by rw[zH (by omega) (by omega)];rfl
 have hb64:=XG g.low (oQ hi);rw[g.pts]at hb64;have hpc:((2^log:Nat):Int)=2^log:=by simp
 rw[hd]at hR;unfold ZE at hR;generalize probs[i]=x at a2 hR hb64;have ex:max x 0=((x.toNat:Nat):Int):=by omega
 refine⟨pb,po,a1,x,a2,hs.on λtm' hs'=>?_⟩
 rw[ex]at hs';refine wpC.round (λk tm h'=>∃(j:Nat) (xs1:List Int),j<=x.toNat/\k=x.toNat-j/\h'.next=h5.next/\SpI hb h' (c+1) r l df pc p12 b p0 (2^log) tm0 (oD log v) (tkn (2^log) (2^log-zz probs)) xs1 /\
  ZD log (zz probs) i (x.toNat-j) (n+j) xs1=ZD log (zz probs) i x.toNat n xs /\
  Has tm [(47,.int .i64 j),(46,.int .i64 x.toNat),(9,.int .i64 i),(40,.int .i64 i),(39,.int .i64 probs.length),(38,v),(4,.map r),(8,.int .i64 (YR log (zz probs) (n+j):Nat)),(0,.yield l),(1,.ptr pc 0),(3,.int .i64 (2^log:Nat))]) x.toNat
  ⟨0,xs,by omega,by omega,hnx,ix,rfl,hs'.sub rfl⟩ ?_
 clear hs hs' ix slk a2 hnx;rintro k tm h' ⟨j,xs1,hj1,rfl,hnx,ix,hP,hs⟩;refine wpC.at hs zR4 rfl rfl ⟨λc1=>?_,λc1=>hs.on λtm' hs'=>?_⟩
 ·have hj:j<x.toNat:=by omega
  have hpl:=ZB hl hr12 (n+j);have e2:zL ((j:Int)+1)=((j+1:Nat):Int):=by rw[zH (by omega) (by omega)];rfl
  show RR P l [.int .i64 (YR log (zz probs) (n+j):Nat),.int .i64 (i:Nat)] h' _;refine ix.round (s:=(i:Int)) t5 (by omega) (by omega) λh3 i3 n3=>zE6 (Yz ?_)
  show zY zA 59 0 h3 (.ptr pc 0) _;rw[wo];have i3':=i3;obtain⟨⟨o,cs',w',row'⟩,mp⟩:=i3;refine⟨_,w'.ld1 3 rfl zi rfl rfl,zIJ hl ⟨_,rfl,_,zHT hl (by omega),hs.on λtm' hs'=>?_⟩⟩
  refine zTT (f:=13) (tgt:=YR log (zz probs) (n+(j+1))) hl i3' (Nat.mod_lt _ (Nat.pow_pos (by decide))) rfl (ZB hl hr12 _) (hs'.sub rfl) λtm2 hs2=>?_
  refine thenC.out2 ?_;refine wpS.at hs2 zTL rfl rfl (hs2.on λtm3 hs3=>hs3.slt λtm4 hs4=>⟨rfl,rfl,x.toNat-(j+1),by omega,j+1,_,by omega,rfl,(show h3.next=h5.next by omega),i3',?_,?_⟩)
  ·rw[<-hP,show x.toNat-j=(x.toNat-(j+1))+1 by omega]
   rfl
  ·rw[<-e2];exact hs4.sub (by kernel_rfl)
 ·have hj:j=x.toNat:=by omega
  subst hj;rw[Nat.sub_self]at hP;have hx1:xs1=ZD log (zz probs) i x.toNat n xs:=hP;subst hx1;refine thenC.left2 ?_;refine wpS.at hs' zTM rfl rfl (hs'.on λtm3 hs3=>hs3.slt λtm4 hs4=>⟨rfl,rfl,probs.length-(i+1),by omega,i+1,n+x.toNat,_,by omega,rfl,hnx,ix,hR,?_⟩)
  rw[<-e];exact hs4.sub (by kernel_rfl)
theorem _root_.Go.Sim.exitB_nm (i:Nat):zK i .normal = .normal:=rfl
theorem zEi {v:V}{log:Nat}{l:List Int}{h:H}{Q:V->H->Prop}(sl:Sl h v 1 l.length (zM l)) (g:GD log l) (hn:h.next+10<=T.top)
  (hq:∀h' v',Ext h h' 7->Sl h' v' 1 (2^log) (zM (zh log l))->Q (.tuple [v',.int .i64 0]) h'):RF P zA 274 [.agg [.int .i64 log,v]] h Q:=by
 have hpw:=yc g.lg;have hlg:=g.lg;refine RF.enterS zG zZ4 (ble _ _ rfl) (ble _ _ rfl) z1g (yM sl ⟨by omega,?_⟩);rintro p0 h1 rfl e1;have w1:=(Vw.nil (S:=zW) (h:=h)).new e1 (by omega);have t1:=w1.top;refine⟨_,_,w1.ldA 0 rfl xo rfl rfl,jp (sl.ext w1.ex0) g ⟨0,rfl,λc=>absurd rfl c,λ_=>⟨_,w1.ld1 0 rfl zi rfl rfl,((1*2^log:Nat):Int),zb (a:=1) (by omega) (by omega),?_⟩⟩⟩
 rw[Nat.one_mul];obtain⟨cs,e2,row⟩:=Row.make (cx:=zA) (k:=2^log) (h:=h1) zQ rfl zi rfl rfl rfl (by omega) (by show 8*2^log<=_;omega) (by omega);obtain⟨h11,e11⟩:∃h11,h11=h1.new (yv cs):=⟨_,rfl⟩;rw[<-e11]at e2;have w11:=w1.new e11 (by omega);have t11:=w11.top;refine⟨_,h11,e2,rfl,by omega,?_⟩;rintro p12 h13 rfl e13;have w13:=w11.new e13 (by omega);have t13:=w13.top;obtain⟨h14,e14,w14,n14,_⟩:=w13.st (cx:=zA) 0 (f:=0) (u:=.slice h1.next 0 (2^log) (.exact (2^log))) rfl (by omega) zQ rfl (oJ _) rfl rfl;refine⟨h14,e14,_,_,w14.ldA 2 rfl xo rfl rfl,?_⟩;have sl14:=sl.ext w14.ex0;have t14:=w14.top;refine RF.enterS zG zZk (ble _ _ rfl) (ble _ _ rfl) z1w (yM sl14 ⟨by omega,?_⟩);rintro p18 h18 rfl e18;have w18:=w14.new e18 (by omega);have t18:=w18.top;refine⟨_,rfl,Has.nil.on λtm hs=>?_⟩
 refine RC.rangeFunc zG (g:=323) (first:=[]) (captured:=[.ptr h14.next 0]) (show yQ tm (t 18)=_ from congrArg some (hs.get rfl)) (by show h18.next+1<_;omega) ?_;show RF P zA 323 [.yield (h18.next+1),.ptr h14.next 0] ((h18.new (.deferred true)).new (oLp tm h18.next)) _;obtain⟨h19,e19⟩:∃h19,h19=h18.new (.deferred true):=⟨_,rfl⟩;have w19:=w18.new e19 (by omega);have t19:=w19.top;have n19:h19.next=h18.next+1:=by rw[e19,zI]
 obtain⟨h20,e20⟩:∃h20,h20=h19.new (oLp tm h18.next):=⟨_,rfl⟩;have w20:=w19.new e20 (by omega);have t20:=w20.top;rw[<-e19,<-e20,<-n19];refine zJK g (hs.sub (by kernel_rfl)) w20 (by rw[wV];exact row) sl (by omega) λh21 r f i=>?_
 have t21:=i.top;obtain⟨⟨o,cs2,w21,row2⟩,_⟩:=i;have gl:=w21.get 1 rfl;simp only[j2,gl];have w22:=w21.upd 1 (o':=.loop .exhausted none 26 tm #[19,20] Zu qv h18.next) rfl (by omega);have n22:(h21.upd h19.next (some (.loop .exhausted none 26 tm #[19,20] Zu qv h18.next))).next=h21.next:=rfl;generalize h21.upd h19.next (some (.loop .exhausted none 26 tm #[19,20] Zu qv h18.next))=h22 at w22 n22 ⊢;show zIc false zGe ⟨26,tm,[.coll h18.next],h22⟩ (endW zA ⟨26,[.tmp 2,.tmp 3],zA3⟩ Q);refine wpS.at hs zSv rfl rfl ?_;refine⟨_,w22.ld1 4 rfl zQ rfl rfl,hs.on λtm2 hs2=>?_⟩
 show wpD [.coll h18.next] h22 _;simp only[wpD,w22.get 2 rfl];have w23:=w22.upd 2 (o':=.deferred false) rfl (by omega);have n23:(h22.upd h18.next (some (.deferred false))).next=h22.next:=rfl;generalize h22.upd h18.next (some (.deferred false))=h23 at w23 n23 ⊢;show Q (.tuple [yB tm2 2,yB tm2 3]) h23;rw[hs2.get (t:=2) rfl,hs2.get (t:=3) rfl];exact hq h23 _ w23.ex0 (row2.sl (w23.lt 5 rfl) (w23.get 5 rfl))
theorem zON {k:V->H->Prop}{h:H}{x:Int}(hk:k (.int .i64 x) h):qA zA 3 k (.int .i64 x) h:=⟨x,rfl,hk⟩
theorem zBU {cs:Cs}{r:Option Cs}{k:Cs->Prop}(e:r=some cs) (hk:k cs):xV r k:=by subst e;exact hk
end Go.Proofs.YtnpeieeomokomaaGreat
