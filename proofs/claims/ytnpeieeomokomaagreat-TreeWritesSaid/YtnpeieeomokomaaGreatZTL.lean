/- TL. No condition. -/
import Derived.Test.YtnpeieeomokomaaGreatZTK
set_option maxRecDepth 100000
set_option maxHeartbeats 2000000
noncomputable section
namespace Go.Proofs.YtnpeieeomokomaaGreat
open Go.Sim
theorem qw {l:List Int}(hx:∀x∈l,-1<=x) (h0:l≠[]) (hl:l.getLast?≠some 0):1<=pts l:=by
 have h1:=xF (l:=l.dropLast) λx hx'=>hx x (by rw[List.dropLast_eq_take]at hx';exact List.mem_of_mem_take hx')
 have e:pts l=pts l.dropLast+pts [l.getLast h0]:=by rw[<-kV,List.dropLast_concat_getLast h0]
 rw[zCM]at e;have h2:l.getLast h0≠0:=λq=>hl (by rw[List.getLast?_eq_some_getLast h0,q])
 have h3:=hx _ (List.getLast_mem h0);have:1<=pt (l.getLast h0):=by unfold pt;split<;>omega
 omega
theorem kw {l:List Int}{i:Nat}(hi:i<l.length) (hl:l.getLast?≠some 0):(l.drop i).getLast?≠some 0:=by
 rw[List.getLast?_drop,if_neg (by omega)];exact hl
structure WI {hb:H}(tm:Tm) (h:H) (c p5 p3 p0 log:Nat) (l:List Int) (v:V) (i:Nat) (w:Wr) (f:Nat):Prop where
 hs:Has tm (knW p5 p3 p0 i (pts (l.drop i)).toNat)
 vw:vwW (hb:=hb) h c p5 p3 p0 w log v
 ok:w.ok (4+40*i)
 fl:l.length<=i+f
 il:i<=l.length
 is:wS f w (pts (l.drop i)).toNat (l.drop i)=jA log l
theorem XF {l:List Int}{i:Nat}(hi:i<l.length):pts (l.drop i)=pt l[i]+pts (l.drop (i+1)):=by rw[xW hi,xl]
theorem zOl {hb h:H}{c p5 p3 p0 log i f:Nat}{l:List Int}{v:V}{w:Wr}{tm:Tm}{d:List AD}{R:AX->St->Prop}(g:GD log l) (sl:Sl hb v 1 l.length (zM l)) (hi:i<l.length)
  (hs:Has tm ((7,.int .i64 l[i])::knW p5 p3 p0 i (pts (l.drop i)).toNat)) (vw:vwW (hb:=hb) h c p5 p3 p0 w log v) (ok:w.ok (4+40*i+7)) (hf:l.length<=i+1+f) (ht:hb.next+c<=T.top)
  (he:(if l[i]≠0 then wS f w ((pts (l.drop i)).toNat-(pt l[i]).toNat) (l.drop (i+1)) else wS f (xJ (l.drop (i+1)).length w (xK (l.drop (i+1)))) (pts (l.drop i)).toNat ((l.drop (i+1)).drop (xK (l.drop (i+1)))))=jA log l)
  (hR:∀tm' h' i' w' f',i<i'->WI (hb:=hb) tm' h' c p5 p3 p0 log l v i' w' f'->R .normal ⟨100,tm',d,h'⟩) :
  wY false JD ⟨100,tm,d,h⟩ (λe s1=>(thenC (λs1=>wY false ZG s1 R) R) (zK 1 e) s1):=by
 have hlen:=g.len;have hpd:=XF hi;have hlow:=g.low;have hp1:1<=pts (l.drop i):=qw (λx hx=>hlow x (List.mem_of_mem_drop hx)) (by intro q;have:=congrArg List.length q;simp at this;omega) (kw hi g.last)
 have hpt2:=kz hlow i;have hdr:0<=pts (l.drop (i+1))/\pts (l.drop i)<=pts l:=by
  have a:=xF (l:=l.drop (i+1)) λx hx=>hlow x (List.mem_of_mem_drop hx)
  have b:=kV (l.take i) (l.drop i);rw[List.take_append_drop]at b;omega
 have hpl:pts l<=64:=by
  have:=g.pts;have:=yc g.lg;have:((2^log:Nat):Int)=2^log:=by simp
  omega
 have nxt:∀(tm1:Tm) (h1:H) (i1:Nat) (w1:Wr),i<=i1->i1<l.length->Has tm1 (knW p5 p3 p0 i1 (pts (l.drop (i1+1))).toNat)->vwW (hb:=hb) h1 c p5 p3 p0 w1 log v->w1.ok (4+40*(i+1))->wS f w1 (pts (l.drop (i1+1))).toNat (l.drop (i1+1))=jA log l ->
   wY false ZG ⟨100,tm1,d,h1⟩ R:=λtm1 h1 i1 w1 q1 q2 hs1 v1 o1 e1=>by
  refine wpS.at hs1 zSS rfl rfl (hs1.on λtm2 hs2=>hR tm2 h1 (i1+1) w1 f (by omega) ⟨?_,v1,o1.up (by omega),by omega,by omega,e1⟩)
  rw[zf (by omega)]at hs2;exact hs2.sub (by kernel_rfl)
 have hx:=hlow _ (oQ hi);have hzl:=KZ (l.drop (i+1));rw[List.length_drop]at hzl;have hzat:∀j,j<xK (l.drop (i+1))->l[i+1+j]? = some 0:=λj hj=>by
  have:=X4 hj
  rwa [List.getElem?_drop]at this
 have hzend:i+1+xK (l.drop (i+1))<l.length->l[i+1+xK (l.drop (i+1))]?.getD 0≠0:=λq=>by
  have h2:xK (l.drop (i+1))<(l.drop (i+1)).length:=by rw[List.length_drop];omega
  have:=zFC h2;rw[List.getElem_drop]at this;rw[yY q];exact this
 have hpz:=XH (l.drop (i+1));rw[List.drop_drop]at hpz;rw[List.drop_drop,List.length_drop]at he;generalize xK (l.drop (i+1))=z at *;obtain⟨x,hxi⟩:∃x,x=l[i]:=⟨_,rfl⟩;rw[<-hxi]at hs he hx hpd;have hptn:=jL x;refine wpS.at hs zSR rfl rfl ⟨λq=>hs.on λtm1 hs1=>?_,λq=>hs.on λtm1 hs1=>?_⟩
 ·show thenC _ R (zK 1 (.exit 1)) _
  rw[xf];rw[if_pos q]at he;have e1:zL (((pts (l.drop i)).toNat:Int)-max x 1)=(((pts (l.drop (i+1))).toNat:Nat):Int):=by
   have:pt x=max x 1:=by unfold pt;split<;>omega
   rw[zH (by omega) (by omega)];omega
  rw[e1]at hs1;refine nxt tm1 h i w (oO _) hi (hs1.sub (by kernel_rfl)) vw (ok.up (by omega)) ?_;rw[<-he]
  congr 1
  omega
 ·have x0:x=0:=by omega
  subst x0;have hp0:pt 0=0:=rfl;rw[if_neg (by omega)]at he;refine wpC.round (λk tm h'=>∃j:Nat,j<=z/\k=z-j/\h'=h/\Has tm ((11,.int .i64 j)::knW p5 p3 p0 (i+j) (pts (l.drop i)).toNat)) z ⟨0,by omega,by omega,rfl,hs1.sub (by kernel_rfl)⟩ ?_
  clear hs hs1;rintro k tm h' ⟨j,hj,rfl,rfl,hs⟩;have slk:=sl.ext vw.ex0;refine wpC.at hs zQu rfl rfl ?_;rw[zm];have leave:j=z->∀tm1,Has tm1 (knW p5 p3 p0 (i+j) (pts (l.drop i)).toNat)->Has tm1 [(11,.int .i64 j)] ->
    wY false zCX ⟨100,tm1,d,h'⟩ (zD jl (λe s1=>(thenC (λs1=>wY false ZG s1 R) R) (zK 1 e) s1)):=λhjz tm1 hs1 hs2=>by
   subst hjz;refine zT0 (z:=j) (f:=l.length-(i+1)) (i:=i+j) (left:=(pts (l.drop i)).toNat) ⟨hs2.1,hs1⟩ vw ok (by omega) (by omega) (by omega) ht λtm2 h2 hs3 w3=>hs3.slt λtm3 hs4=>?_
   show thenC _ R (zK 1 .normal) _;rw[exitB_nm];have el:(pts (l.drop i)).toNat=(pts (l.drop (i+j+1))).toNat:=by
    rw[show i+j+1=i+1+j by omega,hpz];omega
   rw[el]at hs4 he;refine nxt tm3 h2 (i+j) _ (by omega) (by omega) (hs4.sub (by kernel_rfl)) w3 ((Z9 ok).up (by omega)) ?_;rw[<-he,show i+j+1=i+1+j by omega]
  have e1:zL (((i+j:Nat):Int)+1)=((i+j+1:Nat):Int):=zf (by omega);rw[e1];refine⟨v,vw.ld1 2 rfl zQ rfl rfl,_,slk.len zQ rfl,λc2=>?_,λc2=>hs.on λtm1 hs1=>thenC.left (leave (by omega) tm1 (hs1.sub (by kernel_rfl)) (hs1.sub (by kernel_rfl)))⟩
  rw[zm];have hin:i+j+1<l.length:=by omega
  obtain⟨b2,o2,a1,a2⟩:=zg slk hin;refine⟨v,vw.ld1 2 rfl zQ rfl rfl,b2,o2,a1,_,a2,λc3=>hs.on λtm1 hs1=>?_,λc3=>hs.on λtm1 hs1=>thenC.left (leave ?_ tm1 (hs1.sub (by kernel_rfl)) (hs1.sub (by kernel_rfl)))⟩
  ·have hjz:j<z:=by
    rcases Nat.lt_or_ge j z with q2|q2
    ·exact q2
    ·have:j=z:=by omega
     subst this;refine absurd ?_ (hzend (by omega));rw[yY (by omega)];simpa [show i+1+j=i+j+1 by omega]using c3
   refine wpS.at hs1 zSO rfl rfl (hs1.on λtm2 hs2=>hs2.slt λtm3 hs3=>⟨rfl,rfl,z-(j+1),by omega,j+1,by omega,rfl,rfl,?_⟩)
   rw[e1,zf (by omega)]at hs3;exact hs3.sub (by kernel_rfl)
  ·rcases Nat.lt_or_ge j z with q2|q2
   ·have:=hzat j q2
    rw[show i+1+j=i+j+1 by omega,oM hin]at this;exact absurd (Option.some.inj this) c3
   ·omega
theorem q9:∀{f:Nat}{w:Wr}{m left:Nat}{l:List Int},w.ok m->(∀x∈l,-1<=x)->pts l=left->(l≠[]->l.getLast?≠some 0)->left<=64->(wS f w left l).ok (m+40*l.length+40*l.length*l.length)
 | 0,w,m,left,l,h,_,_,_,_=>by
  cases l<;>exact h.up (by omega)
 | f+1,w,m,left,[],h,_,_,_,_=>h.up (by omega)
 | f+1,w,m,left,p::l,h,hx,hp,hl,h64=>by
  have hp1:1<=pts (p::l):=qw hx (by simp) (hl (by simp));have hx1:=hx p (by simp);have hpt:=jL p;have hl2:0<=pts l:=by
   have:=xF (l:=l) λx q=>hx x (by simp[q])
   omega
  rw[xl]at hp hp1;have hlast:∀k,l.drop k≠[]->(l.drop k).getLast?≠some 0:=λk q=>by
   have hk:k<l.length:=by
    rcases Nat.lt_or_ge k l.length with r|r
    ·exact r
    ·exact absurd (List.drop_eq_nil_of_le r) q
   refine kw hk ?_;have:=hl (by simp);rw[List.getLast?_cons]at this;intro r;rw[r]at this;exact this rfl
  have hv:(p+1).toNat<=left+1:=by
   have:p<=pt p:=by unfold pt;split<;>omega
   omega
  have hw:=zCr (left:=left) (v:=(p+1).toNat) (by omega) h64 hv;have hsq:40*(l.length+1)*(l.length+1)=40*l.length*l.length+80*l.length+40:=by
   simp only[Nat.mul_add,Nat.add_mul,Nat.mul_one];omega
  have hln:(p::l).length=l.length+1:=rfl;unfold wS;by_cases c:p≠0
  ·rw[if_pos c]
   refine(q9 (l:=l) (m:=m+7) ((yK h _).up (by omega)) (λx q=>hx x (by simp[q])) (by omega) (λq=>by have:=hlast 0;rw[List.drop_zero]at this;exact this q) (by omega)).up ?_
   rw[hln,hsq];omega
  ·rw[if_neg c]
   have c0:p=0:=by omega
   subst c0;have hz:=KZ l;have hw1:(jQ left 1).1<=7:=hw.1;refine(q9 (m:=m+7+2*l.length+2) ((Z9 (yK h _)).up (by omega)) (λx q=>hx x (by simp[List.mem_of_mem_drop q])) (by rw[XH];have:pt 0=0:=rfl;omega) (λq=>hlast _ q) h64).up ?_
   rw[List.length_drop,hln,hsq];have h1:40*(l.length-xK l)*(l.length-xK l)<=40*l.length*l.length:=Nat.mul_le_mul (Nat.mul_le_mul_left _ (by omega)) (by omega);omega
theorem kX {log:Nat}{l:List Int}(g:GD log l):(jA log l).ok 10000:=by
 have hpw:=yc g.lg;have hlen:=g.len;have hp:pts l=((2^log:Nat):Int):=by rw[g.pts];simp
 have h0:(zn ⟨[],0,0⟩ (log-5) 4).ok 4:=(yK (w:=⟨[],0,0⟩) (m:=0) ⟨by decide,by decide,by decide⟩ 4).up (by omega);refine(q9 h0 g.low hp (λ_=>g.last) (by omega)).up ?_;have:40*l.length*l.length<=40*12*12:=Nat.mul_le_mul (Nat.mul_le_mul_left _ hlen) hlen;omega
theorem zHM {v:V}{log:Nat}{l:List Int}{h:H}{Q:V->H->Prop}(sl:Sl h v 1 l.length (zM l)) (g:GD log l) (hn:h.next+10<=T.top) (hlow:h.low<=T.top) (hq:∀h',Ext h h' 3->Q (wH (jA log l)) h'):RF P zA 175 [.agg [.int .i64 log,v]] h Q:=by
 have hpw:=yc g.lg;have hlg:=g.lg;have hlen:=g.len;have hp:pts l=((2^log:Nat):Int):=by rw[g.pts];simp
 refine RF.enterS zG zYk (ble _ _ rfl) (ble _ _ rfl) z0x (yM sl ⟨by omega,?_⟩);rintro p0 h1 rfl e1;have w1:=(Vw.nil (S:=zW) (h:=h)).new e1 (by omega);have t1:=w1.top;refine⟨by omega,?_⟩;rintro p3 h4 rfl e4;have w4:=w1.new (o:=YP ⟨[],0,0⟩ (209+1)) e4 (by omega);have t4:=w4.top;refine⟨by omega,?_⟩;rintro p5 h6 rfl e6;have w6:=w4.new (o:=YP ⟨[],0,0⟩ (209+1)) e6 (by omega);have t6:=w6.top;have el:zL ((log:Int)-5)=((log-5:Nat):Int):=by rw[zH (by omega) (by omega)];omega
 refine⟨_,w6.ld1 2 rfl zi rfl rfl,?_⟩;rw[el];refine KL (v:=log-5) (n:=4) (m:=0) w6 ⟨by decide,by decide,by decide⟩ (by decide) (by decide) (by rcases hlg with rfl|rfl<;>decide) (by omega) λh9 w9 n9=>⟨rfl,_,w9.ld1 2 rfl zi rfl rfl,((1*2^log:Nat):Int),zb (a:=1) (by omega) (by omega),Has.nil.on λtm hs=>?_⟩
 refine wpC.round (λk tm h'=>∃i w f,k=l.length-i/\WI (hb:=h) tm h' 3 h4.next h1.next h.next log l v i w f) l.length
  ⟨0,_,l.length,by omega,⟨by rw[List.drop_zero,hp];rw[show(((2^log:Nat):Int)).toNat=1*2^log by omega];exact hs.sub (by kernel_rfl),w9,(yK (w:=⟨[],0,0⟩) (m:=0) ⟨by decide,by decide,by decide⟩ 4).up (by omega),by omega,by omega,by
   rw[List.drop_zero,hp,show(((2^log:Nat):Int)).toNat=2^log by omega];rfl⟩⟩ ?_
 clear hs w9 n9 h9;rintro k tm h' ⟨i,w,f,rfl,a⟩;have tv:=a.vw.top;have slk:=sl.ext a.vw.ex0;refine wpC.at a.hs zQw rfl rfl ?_;rw[zm];refine⟨v,a.vw.ld1 2 rfl zQ rfl rfl,_,slk.len zQ rfl,λc=>?_,λc=>a.hs.on λtm' hs'=>?_⟩
 ·rw[zm]
  have hi:i<l.length:=by omega
  have hlow2:=g.low;have hp1:1<=pts (l.drop i):=qw (λx hx=>hlow2 x (List.mem_of_mem_drop hx)) (by intro q;have:=congrArg List.length q;simp at this;omega) (kw hi g.last)
  have hpt2:=kz hlow2 i;have hple:pts (l.drop i)<=64:=by
   have b:=kV (l.take i) (l.drop i);rw[List.take_append_drop]at b;omega
  have hpd:=XF hi;have hnn:0<=pts (l.drop (i+1)):=by
   have a:=xF (l:=l.drop (i+1)) λx hx=>hlow2 x (List.mem_of_mem_drop hx)
   omega
  have hx:=hlow2 _ (oQ hi);obtain⟨b,o,a1,a2⟩:=zg slk hi;obtain⟨f1,rfl⟩:∃f1,f=f1+1:=⟨f-1,by have:=a.fl;omega⟩;have his:=a.is;rw[xW hi]at his;unfold wS at his;rw[<-xW hi]at his;have hxp:l[i]<=pt l[i]:=by unfold pt;split<;>omega
  have hl':h'.low<=T.top:=by have:=a.vw.low;omega
  obtain⟨left,hleft⟩:∃left:Nat,(pts (l.drop i)).toNat=left:=⟨_,rfl⟩;have hs:=a.hs;rw[hleft]at hs his;obtain⟨s1,s2,s3⟩:=Od left;have s4:shT left=2^qC left-2-left:=rfl;have hb7:qC left<=7:=yE (by omega);have hb1:=zCg left;have hp2:2^(qC left-1)<=2^6:=Nat.pow_le_pow_right (by decide) (by omega);have ev:zL (l[i]+1)=(((l[i]+1).toNat:Nat):Int):=by rw[zH (by omega) (by omega)];omega
  have hvl:(l[i]+1).toNat<=left+1:=by omega
  have hw:=zCr (left:=left) (v:=(l[i]+1).toNat) (by omega) (by omega) hvl;have put:∀n y:Nat,(n,y)=jQ left (l[i]+1).toNat->∀k:V->H->Prop,(∀h2,vwW (hb:=h) h2 3 h4.next h1.next h.next (zn w y n) log v->k (.tuple []) h2)->RF P zA 245 [.int .i64 n,.int .i64 y,.ptr h4.next 0] h' (qA zA 0 k):=λn y e k hk=>by
   have e1:n=(jQ left (l[i]+1).toNat).1:=congrArg Prod.fst e;have e2:y=(jQ left (l[i]+1).toNat).2:=congrArg Prod.snd e;exact KL a.vw a.ok (by have:=a.il;omega) (by omega) (by rw[e1,e2];exact hw.2) (by omega) λh2 w2 n2=>zE5 (hk h2 w2)
  have fin:∀(n y:Nat) (tm1:Tm) (h2:H),(n,y)=jQ left (l[i]+1).toNat->vwW (hb:=h) h2 3 h4.next h1.next h.next (zn w y n) log v->Has tm1 ((7,.int .i64 l[i])::knW h4.next h1.next h.next i left) ->
    wY false JD ⟨100,tm1,[],h2⟩ (λe s1=>(thenC (λs1=>wY false ZG s1 (zD jl (thenC (λs1=>s1.n=100/\s1.dfr=[]/\∃j,j<l.length-i/\∃i w f,j=l.length-i/\WI (hb:=h) s1.tm s1.heap 3 h4.next h1.next h.next log l v i w f) (λe s1=>(thenC (λs1=>wY false zCY s1 (endW zA ⟨100,[.cell 2 209],kN⟩ Q)) (endW zA ⟨100,[.cell 2 209],kN⟩ Q)) (zK 0 e) s1)))) (zD jl (thenC (λs1=>s1.n=100/\s1.dfr=[]/\∃j,j<l.length-i/\∃i w f,j=l.length-i/\WI (hb:=h) s1.tm s1.heap 3 h4.next h1.next h.next log l v i w f) (λe s1=>(thenC (λs1=>wY false zCY s1 (endW zA ⟨100,[.cell 2 209],kN⟩ Q)) (endW zA ⟨100,[.cell 2 209],kN⟩ Q)) (zK 0 e) s1)))) (zK 1 e) s1):=λn y tm1 h2 e w2 hs1=>by
   have e1:n=(jQ left (l[i]+1).toNat).1:=congrArg Prod.fst e;have e2:y=(jQ left (l[i]+1).toNat).2:=congrArg Prod.snd e;refine zOl (f:=f1) g sl hi (by rw[hleft];exact hs1) w2 (by rw[e1];exact(yK a.ok _).up (by omega)) (by have:=a.fl;omega) (by omega) ?_ λtm2 h3 i2 w3 f3 hi2 a3=>a3.hs.slt λtm3 hs3=>⟨rfl,rfl,l.length-i2,by have:=a3.il;omega,i2,w3,f3,rfl,⟨hs3.sub (by kernel_rfl),a3.vw,a3.ok,a3.fl,a3.il,a3.is⟩⟩
   rw[hleft,e1,e2];by_cases q:l[i]≠0
   ·rw[if_pos q]at his ⊢;exact his
   ·have q0:l[i]=0:=by omega
    rw[if_neg q]at his ⊢;rw[q0];exact his
  refine⟨v,a.vw.ld1 2 rfl zQ rfl rfl,b,o,a1,_,a2,?_⟩;rw[hleft];refine zOW (left:=left) (by omega) (by omega) hl' ⟨_,_,rfl,λc2=>?_,λc2=>⟨((1*2^(qC left-1):Nat):Int),?_,λc3=>?_,λc3=>?_⟩⟩
  ·rw[ev]at c2
   have c2':(l[i]+1).toNat<shT left:=by show _<2^zT (left+1)-2-left;omega
   have e0:(qC left-1,(l[i]+1).toNat)=jQ left (l[i]+1).toNat:=by unfold jQ;rw[if_pos c2']
   have en:zL (((zT (left+1):Nat):Int)-1)=((qC left-1:Nat):Int):=by
    have:zT (left+1)=qC left:=rfl;rw[this,zH (by omega) (by omega)];omega
   show RF P zA 245 [.int .i64 _,.int .i64 _,.ptr h4.next 0] h' _;rw[en,ev];exact put _ _ e0 _ λh2 w2=>hs.on λtm1 hs1=>fin _ _ tm1 h2 e0 w2 (hs1.sub (by kernel_rfl))
  ·have en:zL (((zT (left+1):Nat):Int)-1)=((qC left-1:Nat):Int):=by
    have:zT (left+1)=qC left:=rfl;rw[this,zH (by omega) (by omega)];omega
   rw[en];exact zb (a:=1) (by omega) (by omega)
  ·rw[ev]at c2 c3
   have c2':¬(l[i]+1).toNat<shT left:=by show ¬_<2^zT (left+1)-2-left;omega
   have e0:(qC left,(l[i]+1).toNat)=jQ left (l[i]+1).toNat:=by unfold jQ;rw[if_neg c2',if_pos (by omega)]
   show RF P zA 245 [.int .i64 _,.int .i64 _,.ptr h4.next 0] h' _;rw[ev];exact put _ _ e0 _ λh2 w2=>hs.on λtm1 hs1=>fin _ _ tm1 h2 e0 w2 (hs1.sub (by kernel_rfl))
  ·rw[ev]at c2 c3
   have c2':¬(l[i]+1).toNat<shT left:=by show ¬_<2^zT (left+1)-2-left;omega
   have e0:(qC left,(l[i]+1).toNat+shT left)=jQ left (l[i]+1).toNat:=by unfold jQ;rw[if_neg c2',if_neg (by omega)]
   have et:zL ((((l[i]+1).toNat:Nat):Int)+((2^zT (left+1)-2-left:Nat):Int))=(((l[i]+1).toNat+shT left:Nat):Int):=by
    have:(2^zT (left+1)-2-left:Nat)=shT left:=rfl;rw[this,zH (by omega) (by omega)];rfl
   show RF P zA 245 [.int .i64 _,.int .i64 _,.ptr h4.next 0] h' _;rw[ev,et];exact put _ _ e0 _ λh2 w2=>hs.on λtm1 hs1=>fin _ _ tm1 h2 e0 w2 (hs1.sub (by kernel_rfl))
 ·have hi:i=l.length:=by have:=a.il;omega
  subst hi;have hw:w=jA log l:=by
   have:=a.is;rw[List.drop_length]at this;rw[<-this];cases f<;>rfl
  subst hw;obtain⟨h2,e2,w2,n2,_⟩:=a.vw.st (cx:=zA) 1 (t:=209) (f:=0) (u:=wH (jA log l)) rfl (by omega) xH rfl (oJ _) rfl rfl;refine thenC.left (wpS.at hs' zST rfl rfl ⟨_,_,_,Kz a.vw (i:=0) rfl,h2,e2,hs'.on λtm2 hs2=>endW.ok (leave.cell (hs2.get (t:=2) rfl) (w2.ldA 1 rfl xH rfl rfl) rfl) (hq h2 w2.ex0)⟩)
theorem zBo {v:V}{log:Nat}{l:List Int}{h:H}{Q:V->H->Prop}(sl:Sl h v 1 l.length (zM l)) (g:GD log l) (hn:h.next+20<=T.top) (hlow:h.low<=T.top) (hq:∀h',Ext h h' 4->Q (.tuple [.str (Ju log l),.int .i64 0]) h'):RF P zA 103 [.agg [.int .i64 log,v]] h Q:=by
 refine RF.enterS zG zYS (ble _ _ rfl) (ble _ _ rfl) z05 (yM sl ⟨by omega,?_⟩);rintro p0 h1 rfl e1;have w1:=(Vw.nil (S:=zW) (h:=h)).new e1 (by omega);have t1:=w1.top;have l1:=zGM w1.ex0 hlow;refine⟨_,_,w1.ldA 0 rfl xo rfl rfl,jp (sl.ext w1.ex0) g ⟨0,rfl,λc=>absurd rfl c,λ_=>⟨_,_,w1.ldA 0 rfl xo rfl rfl,zHM (sl.ext w1.ex0) g (by omega) l1 λh2 x2=>⟨_,_,_,rfl,zOi (kX g) (by decide) ⟨_,_,rfl,hq h2 (w1.ex0.trans x2 |>.mono (by omega))⟩⟩⟩⟩⟩
def Zl (s:List UInt8) (p n:Nat):Wr:=if n<8 then ⟨s,p,n⟩ else Zl (s++[UInt8.ofNat (p % 256)]) (p/256) (n-8)
termination_by n
decreasing_by omega
theorem kD {s:List UInt8}{p n:Nat}(h:n<8):Zl s p n=⟨s,p,n⟩:=by rw[Zl,if_pos h]
theorem qu {s:List UInt8}{p n:Nat}(h:¬n<8):Zl s p n=Zl (s++[UInt8.ofNat (p % 256)]) (p/256) (n-8):=by rw[Zl,if_neg h]
theorem zJ7 {m:Nat}(h:8<=m):2^m=256*2^(m-8):=by
 rw[show(256:Nat)=2^8 from rfl,<-Nat.pow_add,show 8+(m-8)=m by omega]
theorem zAx:∀(k:Nat) {s:List UInt8}{p m b:Nat},m<=k->p<2^m->b<2->Zl s (p+b*2^m) (m+1)=kd (Zl s p m) b
 | k,s,p,m,b,hk,hp,hb=>by
  rcases Nat.lt_or_ge m 7 with h|h
  ·rw[kD (by omega),kD (by omega)]
   unfold kd;rw[if_neg (by show ¬m=7;omega)]
  ·rcases Nat.eq_or_lt_of_le h with h7|h8
   ·subst h7
    rw[qu (by omega),kD (by omega),kD (by omega)];unfold kd;rw[if_pos rfl];have hlt:p+b*2^7<256:=by omega
    rw[oZ hlt,Nat.div_eq_of_lt hlt]
   ·obtain⟨k',rfl⟩:∃k',k=k'+1:=⟨k-1,by omega⟩
    have hs:=zJ7 (show 8<=m by omega);have e1:(p+b*2^m) % 256=p % 256:=by
     rw[hs,show b*(256*2^(m-8))=256*(b*2^(m-8))by rw[<-Nat.mul_assoc,Nat.mul_comm b 256,Nat.mul_assoc],Nat.add_mul_mod_self_left]
    have e2:(p+b*2^m)/256=p/256+b*2^(m-8):=by
     rw[hs,show b*(256*2^(m-8))=256*(b*2^(m-8))by rw[<-Nat.mul_assoc,Nat.mul_comm b 256,Nat.mul_assoc],Nat.add_mul_div_left _ _ (by decide)]
    rw[qu (by omega),qu (show ¬m<8 by omega),e1,e2,show m+1-8=(m-8)+1 by omega];exact zAx k' (by omega) (by rw[hs]at hp;exact Nat.div_lt_of_lt_mul hp) hb
theorem zMb (v k:Nat):v % 2^(k+1)=v % 2^k+v/2^k % 2*2^k:=by
 rw[Nat.pow_succ,Nat.mod_mul,Nat.mul_comm (2^k)]
theorem Xu {w:Wr}{m v:Nat}(ok:w.ok m):∀k,Zl w.s (w.p+v % 2^k*2^w.n) (w.n+k)=zn w v k
 | 0=>by
  have:=ok.n;rw[Nat.pow_zero,Nat.mod_one,Nat.zero_mul,Nat.add_zero,Nat.add_zero,kD (by omega)];rfl
 | k+1=>by
  have ih:=Xu ok (v:=v) k;have hp:=ok.p;have hm:v % 2^k<2^k:=Nat.mod_lt _ (Nat.pow_pos (by decide));have e:w.p+v % 2^(k+1)*2^w.n=(w.p+v % 2^k*2^w.n)+(v/2^k % 2)*2^(w.n+k):=by
   rw[zMb,Nat.add_mul,Nat.mul_assoc,<-Nat.pow_add,Nat.add_comm k w.n];omega
  have hlt:w.p+v % 2^k*2^w.n<2^(w.n+k):=by
   have h1:(v % 2^k+1)*2^w.n<=2^k*2^w.n:=Nat.mul_le_mul_right _ (by omega);rw[Nat.add_mul,Nat.one_mul]at h1;rw[Nat.pow_add,Nat.mul_comm (2^w.n)];omega
  rw[e,show w.n+(k+1)=w.n+k+1 by omega,zAx _ (oO _) hlt (Nat.mod_lt _ (by decide)),ih];rfl
def OwB (h:H) (v:V) (l:List UInt8):Prop:=∃b cs,v = .slice b 0 l.length (.skip 0)/\b<h.next/\h.get b=some (.cells cs ⟨1,0,0⟩ true true)/\cs.wf/\cs.len=l.length/\∀i,i<l.length->cs.get? i=(Js l)[i]?
theorem OwB.sl {h:H}{v:V}{l:List UInt8}(o:OwB h v l):Sl h v 1 l.length (Js l):=by
 obtain⟨b,cs,rfl,h1,h2,h3,h4,h5⟩:=o;exact⟨by rw[jm,Nat.mul_one],.inr ⟨b,0,_,cs,_,_,_,rfl,h1,h2,λi hi=>by rw[Nat.zero_add];exact h5 i (by omega)⟩⟩
theorem OwB.ext {h h':H}{v:V}{l:List UInt8}{m:Nat}(o:OwB h v l) (e:Ext h h' m):OwB h' v l:=by
 obtain⟨b,cs,rfl,h1,h2,h3⟩:=o;exact⟨b,cs,rfl,oI h1 e.le,by rw[e.get b h1];exact h2,h3⟩
theorem OwB.kept {h h':H}{v:V}{l:List UInt8}(o:OwB h v l) (hn:h.next<=h'.next) (hg:∀b,ym v=some b->h'.get b=h.get b):OwB h' v l:=by
 obtain⟨b,cs,rfl,h1,h2,h3⟩:=o;exact⟨b,cs,rfl,oI h1 hn,by rw[hg b rfl];exact h2,h3⟩
theorem zAo:∀l:List UInt8,yG l=Js l
 | []=>rfl
 | b::l=>by show V.int .u8 (.ofNat b.toNat)::yG l=_;rw[zAo l];rfl
theorem K4:∀l:List UInt8,zU (Js l)=true
 | []=>rfl
 | _::l=>K4 l
theorem zKx {h:H}{l:List UInt8}(hl:l.length<=200000) (hn:h.next<T.top):∃v h',yt zA 9 71 h (.str l)=some (v,h')/\OwB h' v l/\Ext h h' 1/\ym v=some h.next:=by
 obtain⟨cs,h1,h2⟩:=Cs.ofL_some (l:=Js l) (by rw[jm];omega);obtain⟨h3,h4⟩:=Cs.ofL_eq h1;refine⟨.slice h.next 0 l.length (.skip 0),h.new (.cells cs ⟨1,0,0⟩ true true),?_,⟨h.next,cs,rfl,by rw[zI];omega,zw _ hn,h2,by rw[h3,jm],λi _=>h4 i⟩,Ext.new _ hn,rfl⟩
 unfold yt;simp only[Y3,zEp,ty5];unfold qi ky;rw[zAo,K4,oK,h1];simp only[(z8 _ _).2 hn,oK,yu,Nat.zero_add]
theorem OwB.app {h:H}{v x:V}{l:List UInt8}{b:UInt8}(o:OwB h v l) (hx:Sl h x 1 1 [byv b]) (hl:l.length<=200000) (hn:h.next<T.top) :
  ∃v' h',zo zA 71 h v x=some (v',h')/\OwB h' v' (l++[b])/\h.next<=h'.next/\h'.next<=h.next+1/\(∀i,i<h.next->ym v≠some i->h'.get i=h.get i)/\ym v'=some h.next/\h'.low<=h.low/\(∀m,m<=h.low->(∀i,ym v=some i->m<=i)->m<=h'.low):=by
 obtain⟨bk,cs,rfl,hb,hg,hw,hlen,hc⟩:=o;obtain⟨cs',h1,h2⟩:=Cs.app_some (cs:=cs) (vs:=[byv b]) (by rw[hlen];simp;omega);obtain⟨h3,h4⟩:=Cs.app_eq h1;have hbt:bk<T.top:=by omega
 have hn2:(kU h bk).next<T.top:=hn;refine⟨.slice (kU h bk).next 0 (l.length+1) (.skip 0),(kU h bk).new (.cells cs' ⟨1,0,0⟩ true true),?_,⟨(kU h bk).next,cs',by rw[oR];rfl,by rw[zI];exact Nat.lt_succ_self _,zw _ hn2,h2,by rw[h3,hlen,oR];rfl,λi hi=>?_⟩,by rw[zI];exact Nat.le_succ _,by rw[zI];exact oO _,λi hi hne=>?_,rfl,(by show(h.upd bk none).low<=_;rw[H.low_upd];exact Nat.min_le_left _ _),λm hm hb2=>(by show m<=(h.upd bk none).low;rw[H.low_upd];exact Nat.le_min.2 ⟨hm,hb2 bk rfl⟩)⟩
 ·unfold zo
  rw[zEp];simp only[ty5];have hok:kc Jk=true:=rfl;rw[show kc ⟨5,.int .u8,1,1,some (.int .u8 (.ofNat 0)),true,false,false,[]⟩=true from hok,oK];rw[hx.src (by decide) (by decide)];simp only;unfold Go.Sim.appTo;simp only[hg];unfold Yb;have e1:(true && true && Nat.beq 1 1 && Nat.beq 0 (0*1) && zU [byv b] && Nat.ble (0+l.length*1) cs.len)=true:=by
   have:Nat.ble (0+l.length*1) cs.len=true:=oC (by rw[hlen];omega);rw[this];rfl
  show cond (true && true && Nat.beq 1 1 && Nat.beq 0 (0*1) && zU [byv b] && Nat.ble (0+l.length*1) cs.len) _ _=_;rw[e1,oK];show(match Zg h bk 0 l.length (.skip 0) 1 (l.length+1) cs ⟨1,0,0⟩ true [byv b]with|some r=>some r|none=>K6 Jk h bk 0 l.length 0 (l.length+1) cs ⟨1,0,0⟩ [byv b])=_
  have e3:Zg h bk 0 l.length (.skip 0) 1 (l.length+1) cs ⟨1,0,0⟩ true [byv b]=none:=by
   unfold Zg;rw[zEU (by rw[hlen];simp)]
  rw[e3];simp only;unfold K6;have e4:(Nat.beq 0 0 && Nat.beq cs.len (0+l.length*1) && Nat.ble 0 (0+l.length*1) && (Nat.beq 0 0 || Nat.beq 0 (5+1)))=true:=by
   rw[hlen];simp
  show cond (Nat.beq 0 0 && Nat.beq cs.len (0+l.length*1) && Nat.ble 0 (0+l.length*1) && (Nat.beq 0 0 || Nat.beq 0 (5+1))) _ _=_;rw[e4,oK,h1];exact jH (by show(l.length+1)*1<=_;omega) hn2
 ·rw[h4,hlen,KJ]
  by_cases hi2:i<l.length
  ·rw[if_pos hi2,hc i hi2,List.getElem?_append_left (by rw[jm];exact hi2)]
  ·rw[if_neg hi2,List.getElem?_append_right (by rw[jm];omega),jm]
   rfl
 ·have hne:i≠bk:=λe=>hne (by rw[e];rfl)
  rw[xh _ hn2 (show i<(kU h bk).next from hi)];exact yy _ hbt hne
abbrev oBw (w:Wr):O:=.cells (.ls [.str w.s,.int .u64 (w.p:Nat),.int .i64 (w.n:Nat)]) ⟨0,300+1,0⟩ true false
theorem KM {p o:Nat}{h:H}{k:V->H->Prop}:zY zA 300 0 h (.ptr p o) k=k (.ptr p (o+0)) h:=by kernel_rfl
theorem ZZ {p o:Nat}{h:H}{k:V->H->Prop}:zY zA 300 1 h (.ptr p o) k=k (.ptr p (o+1)) h:=by kernel_rfl
theorem qM {p o:Nat}{h:H}{k:V->H->Prop}:zY zA 300 2 h (.ptr p o) k=k (.ptr p (o+2)) h:=by kernel_rfl
theorem Yh {p o:Nat}{h:H}{k:V->H->Prop}:zY zA 298 0 h (.ptr p o) k=k (.ptr p (o+0)) h:=by kernel_rfl
theorem zP2 {p:Nat}:zV zA 296 (.ptr p 0) (.int .i64 0)=some (.ptr p 0):=by kernel_rfl
theorem zP3 {p:Nat}:zV zA 296 (.ptr p 0) (.int .i64 1)=some (.ptr p 1):=by kernel_rfl
theorem zKw {h:H}{v:V}{l:List UInt8}{k:V->H->Prop}(o:OwB h v l) (hk:k (.str l) h):wF zA 71 9 h v k:=by
 rcases Nat.eq_zero_or_pos l.length with h0|h0
 ·obtain⟨b,cs,rfl,hb,hg,hw,hl,hc⟩:=o
  have hl0:l=[]:=List.eq_nil_of_length_eq_zero h0;subst hl0;have e:yt zA 71 9 h (.slice b 0 0 (.skip 0))=some (.str [],h):=by
   unfold yt;rw[zEp,Y3];simp only[ty5,hg,zCc cs 0 (.inr trivial)];rfl
  show ∃m h',yt zA 71 9 h (.slice b 0 0 (.skip 0))=some (.str m,h')/\k (.str m) h';exact⟨[],h,e,hk⟩
 ·exact wk o.sl h0 hk
theorem OwB.step {S:Nat->Prop}{hb h:H}{c:Nat}{L:List (Nat×O)}{v:V}{l:List UInt8}{x:Nat}(w:Vw S hb h c L) (o:OwB h v l) (sp:Sep S hb.next L v) (hx:x<256) (hl:l.length<=200000) (hn:h.next+2<=T.top) :
  ∃v1 h1,zS zA 71 1 [(0,.int .u8 (x:Nat))] h=some (v1,h1)/\∃v2 h2,zo zA 71 h1 v v1=some (v2,h2)/\Vw S hb h2 (c+2) L/\OwB h2 v2 (l++[UInt8.ofNat x])/\Sep S hb.next L v2:=by
 obtain⟨h1,e1,s1,x1⟩:=wh (h:=h) (x:Nat) (by omega);have t1:=x1.top;rw[<-jb hx]at s1;obtain⟨v2,h2,e2,o2,a1,a2,a3,a4,a5,a6⟩:=(o.ext x1).app s1 hl (by omega);have w1:=w.ext x1;refine⟨_,h1,e1,v2,h2,e2,w1.apart (ExtX.append a1 a2 a3 a5 a6) (λb g=>(sp b g).1) (λq hq g=>(sp _ g).2 q hq rfl),o2,λb g=>?_⟩
 rw[a4]at g;cases g;exact⟨.inr w1.le,λq hq=>Nat.ne_of_lt (w1.bk.lt q hq)⟩
theorem zH1 {S:Nat->Prop}{hb h:H}{c p m k v:Nat}{L:List (Nat×O)}{w:Wr}{v1:V}{Q:V->H->Prop}(vw:Vw S hb h c ((p,oBw w)::L)) (sv:Sl h v1 2 1 [.int .u64 (k:Nat),.int .u64 (v:Nat)]) (ok:w.ok m) (hm:m+100<=1000000) (hk:k<=32) (hv:v<2^k) (hn:h.next+100<=T.top) (hlow:hb.low<=T.top)
  (hsv:∀b,ym v1=some b->b≠p/\b<h.next)
  (hq:∀h',Vw S hb h' (c+30) ((p,oBw (zn w v k))::L)->h'.next<=h.next+30->Q (.tuple []) h'):RF P zA 252 [.ptr p 0,v1] h Q:=by
 obtain⟨s,pp,n⟩:=w;have hfl:=Xu ok (v:=v) k;rw[oZ hv]at hfl;obtain⟨hp,hn7,hs⟩:=ok;simp only at hp hn7 hs hfl
 replace vw:Vw S hb h c ((p,.cells (.ls [.str s,.int .u64 (pp:Nat),.int .i64 (n:Nat)]) ⟨0,300+1,0⟩ true false)::L):=vw
 have hpn:2^n<=2^7:=Nat.pow_le_pow_right (by decide) hn7;have hvk:2^k<=2^32:=Nat.pow_le_pow_right (by decide) hk;have hvn:v*2^n<=2^32*2^7:=Nat.mul_le_mul (by omega) hpn;refine RF.enterS zG zZY (ble _ _ rfl) (ble _ _ rfl) z1a ⟨_,sv.len zOc rfl,Has.nil.on λtm hs=>?_⟩
 refine wpC.round (λj tm h'=>∃i:Nat,j=1-i/\i<=1/\(i=0->h'=h)/\Has tm [(9,.int .i64 i),(8,.int .i64 (1:Nat)),(7,v1),(0,.ptr p 0)]/\h'.next<=h.next+1 /\
  Vw S hb h' (c+i) ((p,.cells (.ls [.str s,.int .u64 ((if i=0 then pp else pp+v*2^n:Nat):Int),.int .i64 ((if i=0 then n else n+k:Nat):Int)]) ⟨0,300+1,0⟩ true false)::L)) 1 ⟨0,rfl,by decide,λ_=>rfl,hs.sub (by kernel_rfl),by omega,vw⟩ ?_
 clear hs;rintro j tm h' ⟨i,rfl,hi1,hh,hs,hnx,w1⟩;refine wpC.at hs zRO rfl rfl ⟨λq=>?_,λq=>hs.on λtm' hs'=>?_⟩
 ·have i0:i=0:=by omega
  subst i0;have:=hh rfl;subst this;rw[if_pos rfl,if_pos rfl]at w1;obtain⟨b,o,a1,a2⟩:=sv.atA (cx:=zA) (i:=0) (ys:=[.int .u64 (k:Nat),.int .u64 (v:Nat)]) (by decide) zOc rfl zOb rfl rfl (by decide) rfl (λj hj=>by rw[Nat.zero_mul,Nat.zero_add]);refine⟨b,o,a1,_,_,a2.1,by omega,?_⟩;rintro p4 h5 rfl e5;have w5:=w1.new e5 (by omega);have t5:h5.next=h'.next+1:=by rw[e5,zI]
  obtain⟨h6,e6,w6,n6,_⟩:=w5.st (cx:=zA) 0 (t:=296) (f:=0) (u:=.agg [.int .u64 (k:Nat),.int .u64 (v:Nat)]) rfl (by omega) zOb rfl (oJ _) rfl rfl;have l6:h6.low<=T.top:=by have:=w6.low;omega
  refine⟨h6,e6,⟨by omega,l6⟩,.ptr p 0,za h6,rfl,(yb (by omega) l6).1,qb (by omega) l6 ?_⟩;rw[ZZ];refine⟨_,w6.ld1 1 rfl Jm rfl rfl,_,_,zP3,_,w6.ld1 0 rfl Jm rfl rfl,.ptr p 0,za h6,rfl,(yb (by omega) l6).1,qb (by omega) l6 ?_⟩;rw[qM];refine⟨_,w6.ld1 1 rfl zi rfl rfl,((v*2^n:Nat):Int),by rw[zP (by omega)];exact ZN (by omega) (by omega),((pp+v*2^n:Nat):Int),by rw[<-zG0 hp];exact zQH (by omega) (by omega),.ptr p 0,h6,rfl,?_⟩;rw[ZZ];obtain⟨h7,e7,w7,n7,_⟩:=w6.st (cx:=zA) 1 (t:=127) (f:=0+1) (u:=.int .u64 ((pp+v*2^n:Nat):Int)) rfl (by omega) Jm rfl (oJ _) rfl rfl;have l7:h7.low<=T.top:=by have:=w7.low;omega
  refine⟨h7,e7,⟨by omega,l7⟩,.ptr p 0,za h7,rfl,(yb (by omega) l7).1,qb (by omega) l7 ?_⟩;rw[qM];refine⟨_,w7.ld1 1 rfl zi rfl rfl,_,_,zP2,_,w7.ld1 0 rfl Jm rfl rfl,.ptr p 0,h7,rfl,?_⟩;rw[qM];have en:zL (((n:Nat):Int)+zL ((k:Nat):Int))=((n+k:Nat):Int):=by rw[zTR (by omega),zH (by omega) (by omega)];rfl
  obtain⟨h8,e8,w8,n8,_⟩:=w7.st (cx:=zA) 1 (t:=3) (f:=0+2) (u:=.int .i64 ((n+k:Nat):Int)) rfl (by omega) zi rfl (oJ _) rfl rfl;refine⟨h8,by rw[en];exact e8,hs.on λtm' hs'=>⟨rfl,rfl,0,by decide,1,rfl,by decide,λq=>absurd q (by decide),hs'.sub (by kernel_rfl),by show h8.next<=_;omega,w8.drop 1⟩⟩
 ·have i1:i=1:=by omega
  subst i1;rw[if_neg (by decide),if_neg (by decide)]at w1;refine thenC.left (wpS.at hs' zSp rfl rfl ⟨.ptr p 0,h',rfl,?_⟩);rw[KM,Yh];obtain⟨v8,h9,e9,o9,x9,b9⟩:=zKx (h:=h') (l:=s) (by omega) (by omega);have w9:=w1.ext x9;have t9:=x9.top;refine⟨s,w1.ld1 0 rfl Y3 rfl rfl,v8,h9,e9,hs'.on λtm2 hs2=>?_⟩
  refine wpC.round (λj tm h'=>∃(s1:List UInt8) (p1:Nat) (v6:V) (g:Nat),Zl s1 p1 j=zn ⟨s,pp,n⟩ v k/\p1<18446744073709551616/\j<=n+k/\s1.length<=s.length+g/\8*g+j<=n+k/\OwB h' v6 s1/\Sep S hb.next ((p,.cells (.ls [.str s,.int .u64 (p1:Nat),.int .i64 (j:Nat)]) ⟨0,300+1,0⟩ true false)::L) v6/\h'.next<=h.next+2+2*g /\
   Has tm [(0,.ptr p 0),(6,v6)]/\Vw S hb h' (c+2+2*g) ((p,.cells (.ls [.str s,.int .u64 (p1:Nat),.int .i64 (j:Nat)]) ⟨0,300+1,0⟩ true false)::L)) (n+k)
   ⟨s,pp+v*2^n,v8,0,hfl,by omega,oO _,by omega,by omega,o9,λb hb2=>by
    rw[b9]at hb2;cases hb2;exact⟨.inr (by have:=w1.le;omega),λq hq=>Nat.ne_of_lt (w1.bk.lt q hq)⟩,by omega,hs2.sub (by kernel_rfl),w9⟩ ?_
  clear hs2 o9 w9 w1 hs hs' b9 e9 x9 hh hnx t9;rintro j tm h3 ⟨s1,p1,v6,g,hfl,hp1,hjk,hsl,hg,o6,sp,hnx,hs,w2⟩;refine wpC.at hs zRP rfl rfl ⟨.ptr p 0,h3,rfl,?_⟩;rw[qM];refine⟨_,w2.ld1 0 rfl zi rfl rfl,λq=>⟨.ptr p 0,h3,rfl,?_⟩,λq=>hs.on λtm' hs'=>?_⟩
  ·rw[ZZ]
   rw[qu (by omega)]at hfl;obtain⟨v10,h11,e11,v12,h13,e13,w13,o13,sp13⟩:=o6.step w2 sp (x:=p1 % 256) (Nat.mod_lt _ (by decide)) (by omega) (by omega);have t13:h13.next<=h3.next+2:=by
    have a:=wh (h:=h3) ((p1 % 256:Nat):Int) (by omega);obtain⟨h1,e1,s1',x1⟩:=a;have:=x1.top;rw[e1]at e11;cases e11;obtain⟨v2,h2,e2,_,_,a2,_⟩:=(o6.ext x1).app (by rw[<-jb (Nat.mod_lt p1 (by decide))]at s1';exact s1') (by omega) (by omega);rw[e2]at e13;cases e13;omega
   refine⟨_,w2.ld1 0 rfl Jm rfl rfl,v10,h11,by rw[yf];exact e11,trivial,v12,h13,e13,.ptr p 0,h13,rfl,?_⟩;rw[ZZ];refine⟨_,w13.ld1 0 rfl Jm rfl rfl,((p1/2^8:Nat):Int),XU (n:=8) (by decide),.ptr p 0,h13,rfl,?_⟩;rw[ZZ];obtain⟨h14,e14,w14,n14,g14⟩:=w13.st (cx:=zA) 0 (t:=127) (f:=0+1) (u:=.int .u64 ((p1/2^8:Nat):Int)) rfl (by omega) Jm rfl (oJ _) rfl rfl;refine⟨h14,e14,.ptr p 0,h14,rfl,?_⟩;rw[qM];refine⟨_,w14.ld1 0 rfl zi rfl rfl,.ptr p 0,h14,rfl,?_⟩;rw[qM];have ej:zL (((j:Nat):Int)-8)=((j-8:Nat):Int):=by rw[zH (by omega) (by omega)];omega
   obtain⟨h15,e15,w15,n15,g15⟩:=w14.st (cx:=zA) 0 (t:=3) (f:=0+2) (u:=.int .i64 ((j-8:Nat):Int)) rfl (by omega) zi rfl (oJ _) rfl rfl;have o15:OwB h15 v12 (s1++[UInt8.ofNat (p1 % 256)]):=o13.kept (by omega) λb hb2=>by
    have hne:b≠p:=λe=>(sp13 b hb2).2 _ (List.mem_cons_self ..) e.symm
    rw[g15 b hne,g14 b hne]
   have hd:p1/2^8<=p1:=Nat.div_le_self _ _;refine⟨h15,by rw[ej];exact e15,hs.on λtm' hs'=>⟨rfl,rfl,j-8,by omega,s1++[UInt8.ofNat (p1 % 256)],p1/2^8,v12,g+1,hfl,by omega,by omega,by rw[oR];simp;omega,by omega,o15,sp13.head,by show h15.next<=_;omega,hs'.sub (by kernel_rfl),w15.more (by omega)⟩⟩
  ·rw[kD (by omega)]at hfl
   refine thenC.left (wpS.at hs' zSo rfl rfl (zKw o6 ⟨.ptr p 0,h3,rfl,?_⟩));rw[KM,Yh];obtain⟨h8,e8,w8,n8,_⟩:=w2.st (cx:=zA) 0 (t:=9) (f:=0+0+0) (u:=.str s1) rfl (by omega) Y3 rfl (oJ _) rfl rfl;refine⟨h8,e8,hs'.on λtm2 hs2=>hs2.slt λtm3 hs3=>?_⟩
   rw[<-hfl]at hq;exact hq h8 (w8.more (by omega)) (by omega)
abbrev oBW (w:Wr):O:=YP w (220+1)
def z0B (w:Wr):H:=(H0.new (oBW w)).new (oBW ⟨[],0,0⟩)
def z0Y (w:Wr) (k v:Nat):Tm:=Tb.set (Tb.set (Tb.set (Tb.set (Tb.set (Tb.set (Tb.leaf zC) 0 (wH w)) 1 (.int .i64 k)) 2 (.int .u64 v)) 3 (.ptr 0 0)) 6 (.ptr 1 0)) 7 (.int .i64 0)
def zWZ:Nat:=(xD z4U.toList).getD 0
def zOG (w:Wr) (k v:Nat):Option (List Qy×St) :=
 jZ zA z4U.toList (zp z4U.toList []) zWZ zWZ 0 z4U.toList ⟨68,z0Y w k v,[],z0B w⟩ [.int .i64 0,.int .i64 0,.int .i64 0,.int .i64 0]
theorem zQB:xD z4U.toList=some zWZ:=by kernel_rfl
def K0 (w:Wr) (k v:Nat):Prop :=
 (zOG w k v).isSome=true /\
 (zOG w k v).map (λx=>x.1.map λq=>(q.1,q.2.2)) =
  some [((249,[wH w]),.int .i64 0),((250,[.bool (!(eqF (zCi (v:Int) k) 0)),.int .i64 2]),.int .i64 0),((250,[.bool (Xz 1048576 (zL (zAU (Int.ofNat (qP w.s 0)) (zL (zLA (zL (zAU (w.n:Int) k)) 8))))),.int .i64 4]),.int .i64 0),((248,[.slice 2 0 3 (.exact 3)]),.int .i64 0)] /\
 ((zOG w k v).bind λx=>(x.1[3]?).map λq=>(q.2.1.next,q.2.1.get 2))=some (3,some (.cells (.ls [.int .i64 0,.int .i64 0,.int .i64 0]) ⟨0,24+1,0⟩ true false)) /\
 (zOG w k v).map (λx=>(x.2.n,x.2.dfr,yB x.2.tm 8,yB x.2.tm 6,yB x.2.tm 3,yB x.2.tm 1,yB x.2.tm 2))=some (68,[],.int .i64 0,.ptr 1 0,.ptr 0 0,.int .i64 k,.int .u64 v) /\
 (zOG w k v).map (λx=>(x.2.heap.get 0,x.2.heap.get 1,x.2.heap.next,x.2.heap.low))=some (some (oBW w),some (oBW ⟨[],0,0⟩),3,H0.low)
theorem zQM (w:Wr) (v:Nat):K0 w 0 v:=⟨by kernel_rfl,by kernel_rfl,by kernel_rfl,by kernel_rfl,by kernel_rfl⟩
theorem zQN (w:Wr) (v:Nat):K0 w 1 v:=⟨by kernel_rfl,by kernel_rfl,by kernel_rfl,by kernel_rfl,by kernel_rfl⟩
theorem zQO (w:Wr) (v:Nat):K0 w 2 v:=⟨by kernel_rfl,by kernel_rfl,by kernel_rfl,by kernel_rfl,by kernel_rfl⟩
theorem zQP (w:Wr) (v:Nat):K0 w 3 v:=⟨by kernel_rfl,by kernel_rfl,by kernel_rfl,by kernel_rfl,by kernel_rfl⟩
theorem zQQ (w:Wr) (v:Nat):K0 w 4 v:=⟨by kernel_rfl,by kernel_rfl,by kernel_rfl,by kernel_rfl,by kernel_rfl⟩
theorem zQR (w:Wr) (v:Nat):K0 w 5 v:=⟨by kernel_rfl,by kernel_rfl,by kernel_rfl,by kernel_rfl,by kernel_rfl⟩
theorem zWb {w:Wr}{k v:Nat}(hk:k<=5):K0 w k v:=by
 have:k=0\/k=1\/k=2\/k=3\/k=4\/k=5:=by omega
 rcases this with rfl|rfl|rfl|rfl|rfl|rfl
 ·exact zQM w v
 ·exact zQN w v
 ·exact zQO w v
 ·exact zQP w v
 ·exact zQQ w v
 ·exact zQR w v
theorem zLJ {p o:Nat}{h:H}{k:V->H->Prop}:zY zA 220 0 h (.ptr p o) k=k (.ptr p (o+0)) h:=by kernel_rfl
theorem ldB {S:Nat->Prop}{hb h:H}{c i p:Nat}{L:List (Nat×O)}{w:Wr}(vw:Vw S hb h c L) (hL:L[i]? = some (p,oBW w)):zO zA 220 h (.ptr p 0)=some (wH w):=vw.ldA i hL qc rfl rfl
theorem zAl {w:Wr}{m:Nat}{h:H}{Q:V->H->Prop}(ok:w.ok m) (hm:m<=8388600) (hq:Q (.int .i64 0) h):RF P zA 249 [wH w] h Q:=by
 refine RF.plain ?_ (zy rfl);have hq:∀h':H,Plain (.int .i64 0)/\Q (.int .i64 0) h:=λ_=>⟨xG _ _,hq⟩
 obtain⟨hp,hn,hs⟩:=ok;have hpn:2^w.n<=2^7:=Nat.pow_le_pow_right (by decide) hn;refine RF.enterS zG zZV (ble _ _ rfl) (ble _ _ rfl) z17 ⟨by decide,?_⟩;rintro p0 h1 rfl e1;have w1:=(Vw.nil (S:=zW) (h:=H0)).new e1 (by decide);have e7:w.n &&& 7=w.n:=by rw[show(7:Nat)=2^3-1 from rfl,jy,oZ (by omega)]
 refine⟨_,w1.ld1 0 rfl zi rfl rfl,λc=>by omega,λ_=>⟨_,w1.ld1 0 rfl zi rfl rfl,λc=>by omega,λ_=>⟨_,w1.ld1 0 rfl zi rfl rfl,λc=>by omega,λ_=>⟨_,w1.ld1 0 rfl zi rfl rfl,_,w1.ld1 0 rfl zi rfl rfl,((w.n:Nat):Int),?_,((1*2^w.n:Nat):Int),by rw[zP (by omega)];exact zb (a:=1) (by omega) (by omega),λc=>by omega,λ_=>⟨_,w1.ld1 0 rfl Y3 rfl rfl,λc=>absurd (show(1048576:Int)<(w.s.length:Int)from c) (by omega),λ_=>KY ⟨_,rfl,hq h1⟩⟩⟩⟩⟩⟩
 have:=jx (a:=w.n) (b:=7) (by omega) (by decide)
 rwa [e7]at this
theorem zBG {S:Nat->Prop}{hb h:H}{c:Nat}{L:List (Nat×O)}{w:Wr}{m:Nat}{Q:V->H->Prop}(vw:Vw S hb h c L) (ok:w.ok m) (hn:h.next+2<=T.top)
  (hq:∀h' p,Vw S hb h' (c+2) ((p,oBw w)::L)->h'.next=h.next+2->Q (.ptr p 0) h'):RF P zA 251 [wH w] h Q:=by
 have hpn:2^w.n<=2^7:=Nat.pow_le_pow_right (by decide) ok.n;have hp:=ok.p;refine RF.enterS zG zZX (ble _ _ rfl) (ble _ _ rfl) z19 ⟨by omega,?_⟩;rintro p0 h1 rfl e1;have w1:=vw.new (o:=oBW w) e1 (by omega);have n1:h1.next=h.next+1:=by rw[e1,zI]
 refine⟨_,w1.ld1 0 rfl Y3 rfl rfl,_,w1.ld1 0 rfl zi rfl rfl,_,w1.ld1 0 rfl zi rfl rfl,by omega,?_⟩;rintro p5 h6 rfl e6;rw[zP (by omega)]at e6;have w6:=w1.new (o:=oBw w) e6 (by omega);have w7:Vw S hb h6 (c+2) ((h1.next,oBw w)::L):=⟨w6.ex,w6.bk.1,w6.bk.2.1,w6.bk.2.2.1,w6.bk.2.2.2.2.2.2.up (Nat.le_of_lt w6.bk.2.2.2.1)⟩;exact hq h6 _ w7 (by rw[e6,zI,n1])
theorem zKn {h:H}(k v:Int) (hn:h.next<T.top):∃v1 h',zS zA 344 1 [(0,.agg [.int .u64 k,.int .u64 v])] h=some (v1,h')/\Sl h' v1 2 1 [.int .u64 k,.int .u64 v]/\Ext h h' 1/\ym v1=some h.next :=
 kP (c:=zA) (h:=h) (u:=.agg [.int .u64 k,.int .u64 v]) (ys:=[.int .u64 k,.int .u64 v]) zOc rfl zOb rfl rfl rfl rfl (by decide) rfl hn
theorem zHZ {w:Wr}{m k v:Nat}{h:H}{Q:V->H->Prop}(ok:w.ok m) (hm:m+100<=1000000) (hk:k<=5) (hv:v<2^k) (hq:Q (.tuple [wH (zn w v k),.int .i64 0]) h):RF P zA 257 [wH w,.int .i64 k,.int .u64 v] h Q:=by
 refine RF.plain ?_ (zy rfl);have hq:∀h':H,Plain (.tuple [wH (zn w v k),.int .i64 0])/\Q (.tuple [wH (zn w v k),.int .i64 0]) h:=λ_=>⟨ze rfl,hq⟩
 have ht:=zt;have hvk:2^k<=2^5:=Nat.pow_le_pow_right (by decide) hk;have hs:=ok.s;have hn7:=ok.n;have z0:H0.next=0:=rfl;have zl:H0.low<=T.top:=oE rfl;refine RF.enterS zG zZ3 (ble _ _ rfl) (ble _ _ rfl) z1f ⟨by decide,?_⟩;rintro p0 h1 rfl rfl;refine⟨by rw[zI];omega,?_⟩;rintro p2 h3 rfl rfl;obtain⟨k1,k2,k3,k4,k5⟩:=zWb (w:=w) (v:=v) hk;show wpDr P zA false z4U.toList ⟨68,z0Y w k v,[],z0B w⟩ _;obtain⟨⟨qs,s'⟩,e⟩:=Option.isSome_iff_exists.1 k1;have kk:=qs_at e k2;rw[e]at k3 k4 k5;obtain⟨q0,q1,q2,q3,rfl⟩:∃q0 q1 q2 q3,qs=[q0,q1,q2,q3]:=z5D (by have:=congrArg List.length kk;simpa using this);simp only[List.map_cons,List.map_nil,List.cons.injEq,oB,and_true]at kk;obtain⟨⟨k0,v0⟩,⟨k1,v1⟩,⟨k2,v2⟩,⟨k3',v3⟩⟩:=kk;obtain⟨⟨f0,a0⟩,⟨w0,x0⟩⟩:=q0;obtain⟨⟨f1,a1⟩,⟨w1,x1⟩⟩:=q1;obtain⟨⟨f2,a2⟩,⟨w2,x2⟩⟩:=q2;obtain⟨⟨f3,a3⟩,⟨w3,x3⟩⟩:=q3;simp only at k0 v0 k1 v1 k2 v2 k3' v3;obtain⟨rfl,rfl⟩:=k0;obtain⟨rfl,rfl⟩:=k1;obtain⟨rfl,rfl⟩:=k2;obtain⟨rfl,rfl⟩:=k3';subst v0 v1 v2 v3;refine wpDr.ans zQB e ?_ ?_ ?_
 ·intro q hq'
  simp only[oY,List.not_mem_nil,or_false]at hq';rcases hq' with rfl|rfl|rfl|rfl
  ·exact RF.same (zAl ok (by omega) ⟨rfl,rfl⟩)
  ·refine RF.same (KY ⟨?_,rfl⟩)
   have:(!(eqF (zCi (v:Int) k) 0))=false:=by
    rw[jF];have:zCi (v:Int) k=0:=by
     show Int.ofNat (Nat.shiftRight v k)=0;rw[show Nat.shiftRight v k=v >>> k from rfl,Nat.shiftRight_eq_div_pow,Nat.div_eq_of_lt hv];rfl
    rw[this];rfl
   rw[this];rfl
  ·refine RF.same (KY ⟨?_,rfl⟩)
   have e1:zL (zAU (w.n:Int) k)=((w.n+k:Nat):Int):=by rw[KE,zH (by omega) (by omega)];rfl
   have e2:zL (zLA (zL (zAU (w.n:Int) k)) 8)=(((w.n+k)/8:Nat):Int):=by
    rw[e1,zBp,show Int.tdiv ((w.n+k:Nat):Int) 8=(((w.n+k)/8:Nat):Int)from rfl,zH (by omega) (by omega)]
   have e3:Xz 1048576 (zL (zAU (Int.ofNat (qP w.s 0)) (zL (zLA (zL (zAU (w.n:Int) k)) 8))))=false:=by
    rw[e2,KE,yu,show Int.ofNat (0+w.s.length)=((0+w.s.length:Nat):Int)from rfl,zH (by omega) (by omega),yo,decide_eq_false_iff_not];omega
   rw[e3];rfl
  ·simp only[List.getElem?_cons_succ,List.getElem?_cons_zero,Option.bind_some,oX,oA,oB]at k3
   refine RF.same (zDj (l:=[0,0,0]) ⟨rfl,.inr ⟨2,0,_,_,_,_,_,rfl,by rw[k3.1];decide,k3.2,?_⟩⟩ (by simp) ⟨?_,rfl⟩)
   ·intro i hi
    rcases i with _|_|_|i
    ·rfl
    ·rfl
    ·rfl
    ·exact absurd hi (by show ¬i+1+1+1<3*1;omega)
   ·rfl
 ·intro a ha b hb _
  simp only[oY,List.not_mem_nil,or_false]at ha hb;rcases ha with rfl|rfl|rfl|rfl<;>rcases hb with rfl|rfl|rfl|rfl<;>rfl
 ·obtain⟨n,tm,d,hp⟩:=s'
  simp only[oX,oA,oB]at k4 k5;obtain⟨rfl,rfl,g8,g6,g3,g1,g2⟩:=k4;obtain⟨h0,h1,hnx,hlw⟩:=k5;have hs0:Has tm [(8,.int .i64 0),(6,.ptr 1 0),(3,.ptr 0 0),(1,.int .i64 k),(2,.int .u64 v)]:=⟨g8,g6,g3,g1,g2,trivial⟩;have vw:Vw zW H0 hp 3 [(1,oBW ⟨[],0,0⟩),(0,oBW w)]:=⟨⟨by omega,by omega,λb hb=>by omega,by rw[hlw];exact oO _,λm _ h2 _=>by omega⟩,by omega,.inr (by omega),h1,by decide,.inr (by omega),h0,trivial⟩
  refine thenC.nx (hs0.sealK λtm1 hs1=>wpS.at hs1 zSt rfl rfl ⟨λc=>absurd rfl c,λ_=>hs1.on λtm2 hs2=>thenC.nx (hs2.sealK λtm3 hs3=>?_)⟩)
  refine wpS.at hs3 zSu rfl rfl ⟨_,_,_,ldB vw (i:=1) rfl,zBG vw ok (by omega) λh4 p5 w4 n4=>⟨_,rfl,?_⟩⟩
  obtain⟨v6,h7,e7,s7,x7,b7⟩:=zKn (h:=h4) (k:Nat) (v:Nat) (by omega);have t7:=x7.top;have w7:=w4.ext x7;refine⟨v6,h7,by rw[zP (by omega)];exact e7,zH1 w7 s7 ok hm (by omega) hv (by omega) zl (λb hb=>?_) λh9 w9 t9=>⟨rfl,?_⟩⟩
  ·rw[b7]at hb
   cases hb;have:=w4.lt 0 rfl;have:=x7.le;have h10:h7.next=h4.next+1:=by
    have e8:h7=h4.new (.cells (.ls [.int .u64 (k:Nat),.int .u64 (v:Nat)]) ⟨0,296+1,0⟩ true false)\/True:=.inr trivial;obtain⟨_,⟨hv1,_⟩|⟨b',_,_,_,_,_,_,hv1,hlt,_⟩⟩:=s7
    ·rw[hv1]at b7;cases b7
    ·rw[hv1]at b7;cases b7;omega
   exact⟨by omega,by omega⟩
  ·have l9:h9.low<=T.top:=by have:=w9.low;omega
   have i9:h9.next<=T.top:=by omega
   refine⟨⟨i9,l9⟩,.ptr p5 0,za h9,rfl,(yb i9 l9).1,qb i9 l9 ?_⟩;rw[KM,Yh];refine⟨_,w9.ld1 0 rfl Y3 rfl rfl,.ptr p5 0,za h9,rfl,(yb i9 l9).1,qb i9 l9 ?_⟩;rw[ZZ];refine⟨_,w9.ld1 0 rfl Jm rfl rfl,.ptr p5 0,za h9,rfl,(yb i9 l9).1,qb i9 l9 ?_⟩;rw[qM];have ok2:=yK ok (v:=v) k;have hpn2:2^(zn w v k).n<=2^7:=Nat.pow_le_pow_right (by decide) ok2.n;have hp2:=ok2.p;obtain⟨h10,e10,w10,n10,_⟩:=w9.st (cx:=zA) 1 (t:=220) (f:=0) (u:=wH (zn w v k)) rfl i9 qc rfl (oJ _) rfl rfl;refine⟨_,w9.ld1 0 rfl zi rfl rfl,h10,by rw[zTR (by omega)];exact e10,hs3.on λtm4 hs4=>endW.ok (leave.cell (hs4.get (t:=6) rfl) (w10.ldA 1 rfl qc rfl rfl) (leave.tmp (hs4.get (t:=7) rfl) rfl)) (hq h10)⟩
open Go.Sim Go
theorem _root_.Go.Sim.ORel.back {ρ ρ':Env}{D D':Nat->Prop}{b:Nat}{o:O}{x0 x:Option Obj}(h0:ORel ρ D b o x0) (h:ORel ρ' D' b o x) (hb:D b) (ha:Agree D ρ ρ'):ORel ρ D b o x:=by
 obtain⟨_,ho,hc⟩:=ha b hb;cases o with
 | cells l esz wr op =>
  obtain⟨c,e,fz,h1,h2,h3,h4⟩:=h;obtain⟨_,_,_,_,_,g3,_⟩:=h0;refine⟨c,e,fz,h1,λi v hv=>?_,g3,λhw=>?_⟩
  ·have:=h2 i v hv
   rwa [V.conc_agree ha v (g3 i v hv),ho]at this
  ·have:=h4 hw
   rwa [ho,hc]at this
 | map es clock =>
  obtain⟨_,g2⟩:=h0;refine⟨?_,g2⟩;rw[h.1]
  congr 3
  exact List.map_congr_left λe he=>by
   unfold Ent.conc;rw[V.conc_agree ha _ (g2 e he).1,V.conc_agree ha _ (g2 e he).2]
 | loop st pending n tm params assign body dfr =>
  obtain⟨fn,tmps,h1,h2,h3⟩:=h;obtain⟨_,_,_,g2,g3⟩:=h0;refine⟨fn,tmps,?_,⟨h2.size,h2.cap,λt=>?_,g2.inn⟩,g3⟩
  ·rw[h1,(ha dfr g3).1]
  ·rw[h2.val t,V.conc_agree ha _ (g2.inn t)]
 | deferred there=>exact h
 | strIter l pos=>exact h
 | mapIter m since seen stepped =>
  obtain⟨h1,_⟩:=h;obtain⟨_,g2⟩:=h0;refine⟨?_,g2⟩;rw[h1];cases m with
  | none=>rfl
  | some r=>rw[oX,oX,(ha r (g2 r rfl)).1]
theorem _root_.Go.Sim.SimF.forget {P:Program}{f:Nat}{args:List V}{h h':H}{v:V}(s:SimF P f args h (.ret v h')) (hv:Plain v) (hg:∀b,b<h.next->h'.get b=h.get b):SimF P f args h (.ret v h):=by
 intro ρ D w hr hin;refine CallsIn.mono (s ρ D w hr hin) ?_;rintro e w' ⟨ρ',rfl,m,hr',_⟩;refine⟨ρ,by rw[hv.1 ρ',hv.1 ρ],⟨oO _,m.size,m.os,m.tape,m.output,Agree.refl _ _,λid o' _ g=>⟨o',g,rfl⟩,λid o' g1 g2 _=>by omega,m.frame,oO _,λ_ _ _=>rfl⟩,?_,hv.2 _⟩
 rw[zk];refine⟨hr.cap,hr.lt,λid o hd hgo=>?_,hr.inj⟩
 have h1:=hr.rel id o hd hgo;have h2:=hr'.rel id o (.inl hd) (by rw[hg id (hr.lt id hd)];exact hgo);rw[(m.agree id hd).1]at h2;exact h1.back h2 hd m.agree
theorem _root_.Go.Sim.RF.forget {P:Program}{c:Ctx}{f n:Nat}{args:List V}{h:H}{v:V}{Q:V->H->Prop}(r:RF P c f args h λv' h'=>v'=v/\Ext h h' n) (hv:Plain v) (hq:Q v h):RF P c f args h Q:=by
 obtain⟨v',h',⟨hf,s⟩,rfl,x⟩:=r;exact⟨v',h,⟨hf,s.forget hv λb hb=>x.get b hb⟩,hq⟩
theorem zPc {h:H}(a b:Int) (hn:h.next<T.top):∃h',zS zA 343 2 [(0,.int .i64 a),(1,.int .i64 b)] h=some (.slice h.next 0 2 (.exact 2),h')/\Sl h' (.slice h.next 0 2 (.exact 2)) 1 2 [.int .i64 a,.int .i64 b]/\Ext h h' 1:=by
 have e:zS zA 343 2 [(0,.int .i64 a),(1,.int .i64 b)] h=(match (cond (Nat.blt h.next T.top) (some (h.next,h.new (z5F a b))) none:Option (Nat×H))with|some (b,h')=>some (.slice b 0 2 (.exact 2),h')|none=>none):=by kernel_rfl
 rw[(z8 _ _).2 hn,oK]at e;exact⟨_,e,⟨rfl,.inr ⟨h.next,0,_,_,_,_,_,rfl,by rw[zI];omega,zw _ hn,λi hi=>by
  rcases i with _|_|i
  ·rfl
  ·rfl
  ·omega⟩⟩,Ext.new _ hn⟩
theorem zKh {w:Wr}{m:Nat}{h:H}{Q:V->H->Prop}(ok:w.ok m) (hm:m+100<=1000000) (hq:Q (.tuple [.str (zn w 1 (8-w.n)).s,.int .i64 0]) h):RF P zA 177 [wH w] h Q:=by
 refine RF.plain ?_ (zy rfl);have hq:∀h':H,Plain (.tuple [.str (zn w 1 (8-w.n)).s,.int .i64 0])/\Q (.tuple [.str (zn w 1 (8-w.n)).s,.int .i64 0]) h:=λ_=>⟨ze rfl,hq⟩
 have ht:=zt;have hs:=ok.s;have hn7:=ok.n;have z0:H0.next=0:=rfl;have zl:H0.low<=T.top:=oE rfl;refine RF.enterS zG zYm (ble _ _ rfl) (ble _ _ rfl) z0z ⟨by decide,?_⟩;rintro p0 h1 rfl e1;have w1:=(Vw.nil (S:=zW) (h:=H0)).new (o:=oBW w) e1 (by decide);have n1:h1.next=H0.next+1:=by rw[e1,zI]
 have l1:h1.low<=T.top:=by have:=w1.low;omega
 have i1:h1.next<=T.top:=by omega
 refine⟨⟨i1,l1⟩,_,_,_,ldB w1 (i:=0) rfl,zAl ok (by omega) ⟨_,rfl,(yb i1 l1).1,?_⟩⟩;rintro h8 rfl;rw[(yb i1 l1).2];refine⟨_,w1.ld1 0 rfl Y3 rfl rfl,λc=>absurd c ?_,λ_=>KY ⟨_,rfl,?_⟩⟩
 ·show ¬(1048576:Int)<zL ((w.s.length:Int)+1)
  rw[zH (by omega) (by omega)];omega
 obtain⟨h5,e5,s5,x5⟩:=zPc (h:=h1) 0 0 (by omega);have w5:=w1.ext x5;have t5:=x5.top;refine⟨_,h5,e5,zDj (l:=[0,0]) s5 (by simp) ⟨_,rfl,λc=>absurd rfl c,λ_=>⟨_,_,_,ldB w5 (i:=0) rfl,zBG w5 ok (by omega) λh4 p5 w4 n4=>⟨_,rfl,_,w4.ld1 1 rfl zi rfl rfl,?_⟩⟩⟩⟩
 obtain⟨v6,h7,e7,s7,x7,b7⟩:=zKn (h:=h4) ((8-w.n:Nat):Int) ((1:Nat):Int) (by omega);have t7:=x7.top;have w7:=w4.ext x7;have e8:zL (8-((w.n:Nat):Int))=((8-w.n:Nat):Int):=by rw[zH (by omega) (by omega)];omega
 refine⟨v6,h7,by rw[e8,zP (by omega)];exact e7,zH1 w7 s7 ok hm (by omega) (Nat.one_lt_two_pow (by omega)) (by omega) zl (λb hb=>?_) λh9 w9 t9=>⟨rfl,.ptr p5 0,h9,rfl,?_⟩⟩
 ·rw[b7]at hb
  cases hb;have:=w4.lt 0 rfl;have:=x7.le;obtain⟨_,⟨hv1,_⟩|⟨b',_,_,_,_,_,_,hv1,hlt,_⟩⟩:=s7
  ·rw[hv1]at b7;cases b7
  ·rw[hv1]at b7;cases b7;exact⟨by omega,by omega⟩
 ·rw[KM,Yh]
  exact⟨_,w9.ld1 0 rfl Y3 rfl rfl,hq h9⟩
end Go.Proofs.YtnpeieeomokomaaGreat
