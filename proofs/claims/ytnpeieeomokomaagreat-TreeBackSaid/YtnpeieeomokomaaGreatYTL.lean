/- TL. No condition. -/
import Derived.Test.YtnpeieeomokomaaGreatYTK
set_option maxRecDepth 100000
set_option maxHeartbeats 2000000
noncomputable section
namespace Go.Proofs.YtnpeieeomokomaaGreat
open Go.Sim
variable {h:H}{Q:V->H->Prop}
variable{L:List (Nat×O)}{l:List UInt8}{m p:Nat}{S:Nat->Prop}{v:V}{k:V->H->Prop}{w:Wr}
theorem zAR{l:List Int}(hx:∀x∈l,-1<=x)(h0:l≠[])(hl:l.getLast?≠some 0):1<=pts l:=by
 have h1:=xU (l:=l.dropLast) λx hx'=>hx x (by rw[List.dropLast_eq_take]at hx';exact List.mem_of_mem_take hx')
 have e:pts l=pts l.dropLast+pts [l.getLast h0]:=by rw[<-ZG,List.dropLast_concat_getLast h0]
 rw[zD4]at e;have h2:l.getLast h0≠0:=λq=>hl (by rw[List.getLast?_eq_some_getLast h0,q])
 have h3:=hx _ (List.getLast_mem h0);have:1<=pt (l.getLast h0):=by unfold pt;split<;>omega
 omega
theorem Jd{l:List Int}{i:Nat}(hi:i<l.length)(hl:l.getLast?≠some 0):(l.drop i).getLast?≠some 0:=by
 rw[List.getLast?_drop,if_neg (by omega)];exact hl
structure WI {hb:H}(tm:Tm) (h:H) (c p5 p3 p0 log:Nat) (l:List Int) (v:V) (i:Nat) (w:Wr) (f:Nat):Prop where
 hs:Has tm (knW p5 p3 p0 i (pts (l.drop i)).toNat)
 vw:vwW (hb:=hb) h c p5 p3 p0 w log v
 ok:w.ok (4+40*i)
 fl:l.length<=i+f
 il:i<=l.length
 is:xC f w (pts (l.drop i)).toNat (l.drop i)=wW log l
theorem zFt{l:List Int}{i:Nat}(hi:i<l.length):pts (l.drop i)=pt l[i]+pts (l.drop (i+1)):=by rw[kK hi,yr]
theorem zQQ{hb h:H}{c p5 p3 p0 log i f:Nat}{l:List Int}{v:V}{w:Wr}{tm:Tm}{d:List AD}{R:AX->St->Prop}(g:GD log l)(sl:Sl hb v 1 l.length (zJ l))(hi:i<l.length)(hs:Has tm ((7,.int .i64 l[i])::knW p5 p3 p0 i (pts (l.drop i)).toNat))(vw:vwW (hb:=hb) h c p5 p3 p0 w log v)(ok:w.ok (4+40*i+7))(hf:l.length<=i+1+f)(ht:hb.nx+c<=T.top)(he:(if l[i]≠0 then xC f w ((pts (l.drop i)).toNat-(pt l[i]).toNat) (l.drop (i+1)) else xC f (wL (l.drop (i+1)).length w (yq (l.drop (i+1)))) (pts (l.drop i)).toNat ((l.drop (i+1)).drop (yq (l.drop (i+1)))))=wW log l)(hR:∀tm' h' i' w' f',i<i'->WI (hb:=hb) tm' h' c p5 p3 p0 log l v i' w' f'->R .normal ⟨100,tm',d,h'⟩):
  jE false Jm ⟨100,tm,d,h⟩ (λe s1=>(thenC (λs1=>jE false Zp s1 R) R) (ze 1 e) s1):=by
 have hlen:=g.len;have hpd:=zFt hi;have hlow:=g.low;have hp1:1<=pts (l.drop i):=zAR (λx hx=>hlow x (List.mem_of_mem_drop hx)) (by intro q;have:=congrArg List.length q;simp at this;omega) (Jd hi g.last)
 have hpt2:=JE hlow i;have hdr:0<=pts (l.drop (i+1))/\pts (l.drop i)<=pts l:=by
  have a:=xU (l:=l.drop (i+1)) λx hx=>hlow x (List.mem_of_mem_drop hx)
  have b:=ZG (l.take i) (l.drop i);rw[List.take_append_drop]at b;omega
 have hpl:pts l<=64:=by
  have:=g.pts;have:=yz g.lg;have:((2^log:Nat):Int)=2^log:=by simp
  omega
 have nxt:∀(tm1:Tm) (h1:H) (i1:Nat) (w1:Wr),i<=i1->i1<l.length->Has tm1 (knW p5 p3 p0 i1 (pts (l.drop (i1+1))).toNat)->vwW (hb:=hb) h1 c p5 p3 p0 w1 log v->w1.ok (4+40*(i+1))->xC f w1 (pts (l.drop (i1+1))).toNat (l.drop (i1+1))=wW log l ->
   jE false Zp ⟨100,tm1,d,h1⟩ R:=λtm1 h1 i1 w1 q1 q2 hs1 v1 o1 e1=>by
  refine wpS.av hs1 zUA rfl rfl (hs1.on λtm2 hs2=>hR tm2 h1 (i1+1) w1 f (by omega) ⟨?_,v1,o1.up (by omega),by omega,by omega,e1⟩)
  rw[yQ (by omega)]at hs2;exact hs2.sub (by kernel_rfl)
 have hx:=hlow _ (oS hi);have hzl:=OV (l.drop (i+1));rw[List.length_drop]at hzl;have hzat:∀j,j<yq (l.drop (i+1))->l[i+1+j]? = some 0:=λj hj=>by
  have:=zEF hj
  rwa [List.getElem?_drop]at this
 have hzend:i+1+yq (l.drop (i+1))<l.length->l[i+1+yq (l.drop (i+1))]?.getD 0≠0:=λq=>by
  have h2:yq (l.drop (i+1))<(l.drop (i+1)).length:=by rw[List.length_drop];omega
  have:=zQ2 h2;rw[List.getElem_drop]at this;rw[xy q];exact this
 have hpz:=zA1 (l.drop (i+1));rw[List.drop_drop]at hpz;rw[List.drop_drop,List.length_drop]at he;generalize yq (l.drop (i+1))=z at *;obtain⟨x,hxi⟩:∃x,x=l[i]:=⟨_,rfl⟩;rw[<-hxi]at hs he hx hpd;have hptn:=kM x;refine wpS.av hs zTz rfl rfl ⟨λq=>hs.on λtm1 hs1=>?_,λq=>hs.on λtm1 hs1=>?_⟩
 ·show thenC _ R (ze 1 (.exit 1)) _
  rw[xG];rw[if_pos q]at he;have e1:zG (((pts (l.drop i)).toNat:Int)-max x 1)=(((pts (l.drop (i+1))).toNat:Nat):Int):=by
   have:pt x=max x 1:=by unfold pt;split<;>omega
   rw[zD (by omega) (by omega)];omega
  rw[e1]at hs1;refine nxt tm1 h i w (oP _) hi (hs1.sub (by kernel_rfl)) vw (ok.up (by omega)) ?_;rw[<-he]
  congr 1
  omega
 ·have x0:x=0:=by omega
  subst x0;have hp0:pt 0=0:=rfl;rw[if_neg (by omega)]at he;refine wpC.round (λk tm h'=>∃j:Nat,j<=z/\k=z-j/\h'=h/\Has tm ((11,.int .i64 j)::knW p5 p3 p0 (i+j) (pts (l.drop i)).toNat)) z ⟨0,by omega,by omega,rfl,hs1.sub (by kernel_rfl)⟩ ?_
  clear hs hs1;rintro k tm h' ⟨j,hj,rfl,rfl,hs⟩;have slk:=sl.ext vw.ex0;refine wpC.av hs zTC rfl rfl ?_;rw[xo];have leave:j=z->∀tm1,Has tm1 (knW p5 p3 p0 (i+j) (pts (l.drop i)).toNat)->Has tm1 [(11,.int .i64 j)] ->
    jE false zDb ⟨100,tm1,d,h'⟩ (yE ZX (λe s1=>(thenC (λs1=>jE false Zp s1 R) R) (ze 1 e) s1)):=λhjz tm1 hs1 hs2=>by
   subst hjz;refine zVI (z:=j) (f:=l.length-(i+1)) (i:=i+j) (left:=(pts (l.drop i)).toNat) ⟨hs2.1,hs1⟩ vw ok (by omega) (by omega) (by omega) ht λtm2 h2 hs3 w3=>hs3.slt λtm3 hs4=>?_
   show thenC _ R (ze 1 .normal) _;rw[exitB_nm];have el:(pts (l.drop i)).toNat=(pts (l.drop (i+j+1))).toNat:=by
    rw[show i+j+1=i+1+j by omega,hpz];omega
   rw[el]at hs4 he;refine nxt tm3 h2 (i+j) _ (by omega) (by omega) (hs4.sub (by kernel_rfl)) w3 ((KH ok).up (by omega)) ?_;rw[<-he,show i+j+1=i+1+j by omega]
  have e1:zG (((i+j:Nat):Int)+1)=((i+j+1:Nat):Int):=yQ (by omega);rw[e1];refine⟨v,vw.ld1 2 rfl zP rfl rfl,_,slk.len zP rfl,λc2=>?_,λc2=>hs.on λtm1 hs1=>thenC.left (leave (by omega) tm1 (hs1.sub (by kernel_rfl)) (hs1.sub (by kernel_rfl)))⟩
  rw[xo];have hin:i+j+1<l.length:=by omega
  obtain⟨b2,o2,a1,a2⟩:=yj slk hin;refine⟨v,vw.ld1 2 rfl zP rfl rfl,b2,o2,a1,_,a2,λc3=>hs.on λtm1 hs1=>?_,λc3=>hs.on λtm1 hs1=>thenC.left (leave ?_ tm1 (hs1.sub (by kernel_rfl)) (hs1.sub (by kernel_rfl)))⟩
  ·have hjz:j<z:=by
    rcases Nat.lt_or_ge j z with q2|q2
    ·exact q2
    ·have:j=z:=by omega
     subst this;refine absurd ?_ (hzend (by omega));rw[xy (by omega)];simpa [show i+1+j=i+j+1 by omega]using c3
   refine wpS.av hs1 zTw rfl rfl (hs1.on λtm2 hs2=>hs2.slt λtm3 hs3=>⟨rfl,rfl,z-(j+1),by omega,j+1,by omega,rfl,rfl,?_⟩)
   rw[e1,yQ (by omega)]at hs3;exact hs3.sub (by kernel_rfl)
  ·rcases Nat.lt_or_ge j z with q2|q2
   ·have:=hzat j q2
    rw[show i+1+j=i+j+1 by omega,oO hin]at this;exact absurd (Option.some.inj this) c3
   ·omega
theorem ZO:∀{f:Nat}{w:Wr}{m left:Nat}{l:List Int},w.ok m->(∀x∈l,-1<=x)->pts l=left->(l≠[]->l.getLast?≠some 0)->left<=64->(xC f w left l).ok (m+40*l.length+40*l.length*l.length)
 | 0,w,m,left,l,h,_,_,_,_=>by
  cases l<;>exact h.up (by omega)
 | f+1,w,m,left,[],h,_,_,_,_=>h.up (by omega)
 | f+1,w,m,left,p::l,h,hx,hp,hl,h64=>by
  have hp1:1<=pts (p::l):=zAR hx (by simp) (hl (by simp));have hx1:=hx p (by simp);have hpt:=kM p;have hl2:0<=pts l:=by
   have:=xU (l:=l) λx q=>hx x (by simp[q])
   omega
  rw[yr]at hp hp1;have hlast:∀k,l.drop k≠[]->(l.drop k).getLast?≠some 0:=λk q=>by
   have hk:k<l.length:=by
    rcases Nat.lt_or_ge k l.length with r|r
    ·exact r
    ·exact absurd (List.drop_eq_nil_of_le r) q
   refine Jd hk ?_;have:=hl (by simp);rw[List.getLast?_cons]at this;intro r;rw[r]at this;exact this rfl
  have hv:(p+1).toNat<=left+1:=by
   have:p<=pt p:=by unfold pt;split<;>omega
   omega
  have hw:=zJn (left:=left) (v:=(p+1).toNat) (by omega) h64 hv;have hsq:40*(l.length+1)*(l.length+1)=40*l.length*l.length+80*l.length+40:=by
   simp only[Nat.mul_add,Nat.add_mul,Nat.mul_one];omega
  have hln:(p::l).length=l.length+1:=rfl;unfold xC;by_cases c:p≠0
  ·rw[if_pos c]
   refine(ZO (l:=l) (m:=m+7) ((zj h _).up (by omega)) (λx q=>hx x (by simp[q])) (by omega) (λq=>by have:=hlast 0;rw[List.drop_zero]at this;exact this q) (by omega)).up ?_
   rw[hln,hsq];omega
  ·rw[if_neg c]
   have c0:p=0:=by omega
   subst c0;have hz:=OV l;have hw1:(wQ left 1).1<=7:=hw.1;refine(ZO (m:=m+7+2*l.length+2) ((KH (zj h _)).up (by omega)) (λx q=>hx x (by simp[List.mem_of_mem_drop q])) (by rw[zA1];have:pt 0=0:=rfl;omega) (λq=>hlast _ q) h64).up ?_
   rw[List.length_drop,hln,hsq];have h1:40*(l.length-yq l)*(l.length-yq l)<=40*l.length*l.length:=Nat.mul_le_mul (Nat.mul_le_mul_left _ (by omega)) (by omega);omega
theorem Kd{log:Nat}{l:List Int}(g:GD log l):(wW log l).ok 10000:=by
 have hpw:=yz g.lg;have hlen:=g.len;have hp:pts l=((2^log:Nat):Int):=by rw[g.pts];simp
 have h0:(yC ⟨[],0,0⟩ (log-5) 4).ok 4:=(zj (w:=⟨[],0,0⟩) (m:=0) ⟨by decide,by decide,by decide⟩ 4).up (by omega);refine(ZO h0 g.low hp (λ_=>g.last) (by omega)).up ?_;have:40*l.length*l.length<=40*12*12:=Nat.mul_le_mul (Nat.mul_le_mul_left _ hlen) hlen;omega
theorem zIW{v:V}{log:Nat}{l:List Int}(sl:Sl h v 1 l.length (zJ l))(g:GD log l)(hn:h.nx+10<=T.top)(hlow:h.low<=T.top)(hq:∀h',Ext h h' 3->Q (Ym (wW log l)) h'):RF P zA 175 [.agg [.int .i64 log,v]] h Q:=by
 have hpw:=yz g.lg;have hlg:=g.lg;have hlen:=g.len;have hp:pts l=((2^log:Nat):Int):=by rw[g.pts];simp
 refine yK z0U rfl rfl z23 (yy sl ⟨by omega,?_⟩);rintro p0 h1 rfl e1;have w1:=(Vw.nil (S:=zS) (h:=h)).new e1 (by omega);have t1:=w1.top;refine⟨by omega,?_⟩;rintro p3 h4 rfl e4;have w4:=w1.new (o:=oWr ⟨[],0,0⟩ (209+1)) e4 (by omega);have t4:=w4.top;refine⟨by omega,?_⟩;rintro p5 h6 rfl e6;have w6:=w4.new (o:=oWr ⟨[],0,0⟩ (209+1)) e6 (by omega);have t6:=w6.top;have el:zG ((log:Int)-5)=((log-5:Nat):Int):=by rw[zD (by omega) (by omega)];omega
 refine⟨_,w6.ld1 2 rfl zd rfl rfl,?_⟩;rw[el];refine OH (v:=log-5) (n:=4) (m:=0) w6 ⟨by decide,by decide,by decide⟩ (by decide) (by decide) (by rcases hlg with rfl|rfl<;>decide) (by omega) λh9 w9 n9=>⟨rfl,_,w9.ld1 2 rfl zd rfl rfl,((1*2^log:Nat):Int),yH (a:=1) (by omega) (by omega),Has.nil.on λtm hs=>?_⟩
 refine wpC.round (λk tm h'=>∃i w f,k=l.length-i/\WI (hb:=h) tm h' 3 h4.nx h1.nx h.nx log l v i w f) l.length
  ⟨0,_,l.length,by omega,⟨by rw[List.drop_zero,hp];rw[show(((2^log:Nat):Int)).toNat=1*2^log by omega];exact hs.sub (by kernel_rfl),w9,(zj (w:=⟨[],0,0⟩) (m:=0) ⟨by decide,by decide,by decide⟩ 4).up (by omega),by omega,by omega,by
   rw[List.drop_zero,hp,show(((2^log:Nat):Int)).toNat=2^log by omega];rfl⟩⟩ ?_
 clear hs w9 n9 h9;rintro k tm h' ⟨i,w,f,rfl,a⟩;have tv:=a.vw.top;have slk:=sl.ext a.vw.ex0;refine wpC.av a.hs zTE rfl rfl ?_;rw[xo];refine⟨v,a.vw.ld1 2 rfl zP rfl rfl,_,slk.len zP rfl,λc=>?_,λc=>a.hs.on λtm' hs'=>?_⟩
 ·rw[xo]
  have hi:i<l.length:=by omega
  have hlow2:=g.low;have hp1:1<=pts (l.drop i):=zAR (λx hx=>hlow2 x (List.mem_of_mem_drop hx)) (by intro q;have:=congrArg List.length q;simp at this;omega) (Jd hi g.last)
  have hpt2:=JE hlow2 i;have hple:pts (l.drop i)<=64:=by
   have b:=ZG (l.take i) (l.drop i);rw[List.take_append_drop]at b;omega
  have hpd:=zFt hi;have hnn:0<=pts (l.drop (i+1)):=by
   have a:=xU (l:=l.drop (i+1)) λx hx=>hlow2 x (List.mem_of_mem_drop hx)
   omega
  have hx:=hlow2 _ (oS hi);obtain⟨b,o,a1,a2⟩:=yj slk hi;obtain⟨f1,rfl⟩:∃f1,f=f1+1:=⟨f-1,by have:=a.fl;omega⟩;have his:=a.is;rw[kK hi]at his;unfold xC at his;rw[<-kK hi]at his;have hxp:l[i]<=pt l[i]:=by unfold pt;split<;>omega
  have hl':h'.low<=T.top:=by have:=a.vw.low;omega
  obtain⟨left,hleft⟩:∃left:Nat,(pts (l.drop i)).toNat=left:=⟨_,rfl⟩;have hs:=a.hs;rw[hleft]at hs his;obtain⟨s1,s2,s3⟩:=qm left;have s4:K2 left=2^xL left-2-left:=rfl;have hb7:xL left<=7:=zw (by omega);have hb1:=OR left;have hp2:2^(xL left-1)<=2^6:=Nat.pow_le_pow_right (by decide) (by omega);have ev:zG (l[i]+1)=(((l[i]+1).toNat:Nat):Int):=by rw[zD (by omega) (by omega)];omega
  have hvl:(l[i]+1).toNat<=left+1:=by omega
  have hw:=zJn (left:=left) (v:=(l[i]+1).toNat) (by omega) (by omega) hvl;have put:∀n y:Nat,(n,y)=wQ left (l[i]+1).toNat->∀k:V->H->Prop,(∀h2,vwW (hb:=h) h2 3 h4.nx h1.nx h.nx (yC w y n) log v->k (.tuple []) h2)->RF P zA 245 [.int .i64 n,.int .i64 y,.ptr h4.nx 0] h' (qk zA 0 k):=λn y e k hk=>by
   have e1:n=(wQ left (l[i]+1).toNat).1:=congrArg Prod.fst e;have e2:y=(wQ left (l[i]+1).toNat).2:=congrArg Prod.snd e;exact OH a.vw a.ok (by have:=a.il;omega) (by omega) (by rw[e1,e2];exact hw.2) (by omega) λh2 w2 n2=>zGG (hk h2 w2)
  have fin:∀(n y:Nat) (tm1:Tm) (h2:H),(n,y)=wQ left (l[i]+1).toNat->vwW (hb:=h) h2 3 h4.nx h1.nx h.nx (yC w y n) log v->Has tm1 ((7,.int .i64 l[i])::knW h4.nx h1.nx h.nx i left) ->
    jE false Jm ⟨100,tm1,[],h2⟩ (λe s1=>(thenC (λs1=>jE false Zp s1 (yE ZX (thenC (λs1=>s1.n=100/\s1.dfr=[]/\∃j,j<l.length-i/\∃i w f,j=l.length-i/\WI (hb:=h) s1.tm s1.heap 3 h4.nx h1.nx h.nx log l v i w f) (λe s1=>(thenC (λs1=>jE false zDc s1 (endW zA ⟨100,[.cell 2 209],Z3⟩ Q)) (endW zA ⟨100,[.cell 2 209],Z3⟩ Q)) (ze 0 e) s1)))) (yE ZX (thenC (λs1=>s1.n=100/\s1.dfr=[]/\∃j,j<l.length-i/\∃i w f,j=l.length-i/\WI (hb:=h) s1.tm s1.heap 3 h4.nx h1.nx h.nx log l v i w f) (λe s1=>(thenC (λs1=>jE false zDc s1 (endW zA ⟨100,[.cell 2 209],Z3⟩ Q)) (endW zA ⟨100,[.cell 2 209],Z3⟩ Q)) (ze 0 e) s1)))) (ze 1 e) s1):=λn y tm1 h2 e w2 hs1=>by
   have e1:n=(wQ left (l[i]+1).toNat).1:=congrArg Prod.fst e;have e2:y=(wQ left (l[i]+1).toNat).2:=congrArg Prod.snd e;refine zQQ (f:=f1) g sl hi (by rw[hleft];exact hs1) w2 (by rw[e1];exact(zj a.ok _).up (by omega)) (by have:=a.fl;omega) (by omega) ?_ λtm2 h3 i2 w3 f3 hi2 a3=>a3.hs.slt λtm3 hs3=>⟨rfl,rfl,l.length-i2,by have:=a3.il;omega,i2,w3,f3,rfl,⟨hs3.sub (by kernel_rfl),a3.vw,a3.ok,a3.fl,a3.il,a3.is⟩⟩
   rw[hleft,e1,e2];by_cases q:l[i]≠0
   ·rw[if_pos q]at his ⊢;exact his
   ·have q0:l[i]=0:=by omega
    rw[if_neg q]at his ⊢;rw[q0];exact his
  refine⟨v,a.vw.ld1 2 rfl zP rfl rfl,b,o,a1,_,a2,?_⟩;rw[hleft];refine zGO (left:=left) (by omega) (by omega) hl' ⟨_,_,rfl,λc2=>?_,λc2=>⟨((1*2^(xL left-1):Nat):Int),?_,λc3=>?_,λc3=>?_⟩⟩
  ·rw[ev]at c2
   have c2':(l[i]+1).toNat<K2 left:=by show _<2^zO (left+1)-2-left;omega
   have e0:(xL left-1,(l[i]+1).toNat)=wQ left (l[i]+1).toNat:=by unfold wQ;rw[if_pos c2']
   have en:zG (((zO (left+1):Nat):Int)-1)=((xL left-1:Nat):Int):=by
    have:zO (left+1)=xL left:=rfl;rw[this,zD (by omega) (by omega)];omega
   show RF P zA 245 [.int .i64 _,.int .i64 _,.ptr h4.nx 0] h' _;rw[en,ev];exact put _ _ e0 _ λh2 w2=>hs.on λtm1 hs1=>fin _ _ tm1 h2 e0 w2 (hs1.sub (by kernel_rfl))
  ·have en:zG (((zO (left+1):Nat):Int)-1)=((xL left-1:Nat):Int):=by
    have:zO (left+1)=xL left:=rfl;rw[this,zD (by omega) (by omega)];omega
   rw[en];exact yH (a:=1) (by omega) (by omega)
  ·rw[ev]at c2 c3
   have c2':¬(l[i]+1).toNat<K2 left:=by show ¬_<2^zO (left+1)-2-left;omega
   have e0:(xL left,(l[i]+1).toNat)=wQ left (l[i]+1).toNat:=by unfold wQ;rw[if_neg c2',if_pos (by omega)]
   show RF P zA 245 [.int .i64 _,.int .i64 _,.ptr h4.nx 0] h' _;rw[ev];exact put _ _ e0 _ λh2 w2=>hs.on λtm1 hs1=>fin _ _ tm1 h2 e0 w2 (hs1.sub (by kernel_rfl))
  ·rw[ev]at c2 c3
   have c2':¬(l[i]+1).toNat<K2 left:=by show ¬_<2^zO (left+1)-2-left;omega
   have e0:(xL left,(l[i]+1).toNat+K2 left)=wQ left (l[i]+1).toNat:=by unfold wQ;rw[if_neg c2',if_neg (by omega)]
   have et:zG ((((l[i]+1).toNat:Nat):Int)+((2^zO (left+1)-2-left:Nat):Int))=(((l[i]+1).toNat+K2 left:Nat):Int):=by
    have:(2^zO (left+1)-2-left:Nat)=K2 left:=rfl;rw[this,zD (by omega) (by omega)];rfl
   show RF P zA 245 [.int .i64 _,.int .i64 _,.ptr h4.nx 0] h' _;rw[ev,et];exact put _ _ e0 _ λh2 w2=>hs.on λtm1 hs1=>fin _ _ tm1 h2 e0 w2 (hs1.sub (by kernel_rfl))
 ·have hi:i=l.length:=by have:=a.il;omega
  subst hi;have hw:w=wW log l:=by
   have:=a.is;rw[List.drop_length]at this;rw[<-this];cases f<;>rfl
  subst hw;obtain⟨h2,e2,w2,n2,_⟩:=a.vw.st (cx:=zA) 1 (t:=209) (f:=0) (u:=Ym (wW log l)) rfl (by omega) YD rfl (oJ _) rfl rfl;refine thenC.left (wpS.av hs' zUB rfl rfl ⟨_,_,_,ldW a.vw (i:=0) rfl,h2,e2,hs'.on λtm2 hs2=>endW.ok (leave.cell (hs2.get (t:=2) rfl) (w2.ldA 1 rfl YD rfl rfl) rfl) (hq h2 w2.ex0)⟩)
theorem zDD{log:Nat}{l:List Int}(sl:Sl h v 1 l.length (zJ l))(g:GD log l)(hn:h.nx+20<=T.top)(hlow:h.low<=T.top)(hq:∀h',Ext h h' 4->Q (.tuple [.str (zBW log l),.int .i64 0]) h'):RF P zA 103 [.agg [.int .i64 log,v]] h Q:=by
 refine yK z0C rfl rfl z2L (yy sl ⟨by omega,?_⟩);rintro p0 h1 rfl e1;have w1:=(Vw.nil (S:=zS) (h:=h)).new e1 (by omega);have t1:=w1.top;have l1:=zHY w1.ex0 hlow;refine⟨_,_,w1.ldA 0 rfl yv rfl rfl,wM (sl.ext w1.ex0) g ⟨0,rfl,λc=>absurd rfl c,λ_=>⟨_,_,w1.ldA 0 rfl yv rfl rfl,zIW (sl.ext w1.ex0) g (by omega) l1 λh2 x2=>⟨_,_,_,rfl,zQP (Kd g) (by decide) ⟨_,_,rfl,hq h2 (w1.ex0.trans x2 |>.mono (by omega))⟩⟩⟩⟩⟩
def Ye(s:List UInt8)(p n:Nat):Wr:=if n<8 then ⟨s,p,n⟩ else Ye (s++[UInt8.ofNat (p % 256)]) (p/256) (n-8)
termination_by n
decreasing_by omega
theorem q7{s:List UInt8}{n:Nat}(h:n<8):Ye s p n=⟨s,p,n⟩:=by rw[Ye,if_pos h]
theorem Xd{s:List UInt8}{n:Nat}(h:¬n<8):Ye s p n=Ye (s++[UInt8.ofNat (p % 256)]) (p/256) (n-8):=by rw[Ye,if_neg h]
theorem zLV(h:8<=m):2^m=256*2^(m-8):=by
 rw[show(256:Nat)=2^8 from rfl,<-Nat.pow_add,show 8+(m-8)=m by omega]
theorem zBx:∀(k:Nat) {s:List UInt8}{p m b:Nat},m<=k->p<2^m->b<2->Ye s (p+b*2^m) (m+1)=KC (Ye s p m) b
 | k,s,p,m,b,hk,hp,hb=>by
  rcases Nat.lt_or_ge m 7 with h|h
  ·rw[q7 (by omega),q7 (by omega)]
   unfold KC;rw[if_neg (by show ¬m=7;omega)]
  ·rcases Nat.eq_or_lt_of_le h with h7|h8
   ·subst h7
    rw[Xd (by omega),q7 (by omega),q7 (by omega)];unfold KC;rw[if_pos rfl];have hlt:p+b*2^7<256:=by omega
    rw[oe hlt,Nat.div_eq_of_lt hlt]
   ·obtain⟨k',rfl⟩:∃k',k=k'+1:=⟨k-1,by omega⟩
    have hs:=zLV (show 8<=m by omega);have e1:(p+b*2^m) % 256=p % 256:=by
     rw[hs,show b*(256*2^(m-8))=256*(b*2^(m-8))by rw[<-Nat.mul_assoc,Nat.mul_comm b 256,Nat.mul_assoc],Nat.add_mul_mod_self_left]
    have e2:(p+b*2^m)/256=p/256+b*2^(m-8):=by
     rw[hs,show b*(256*2^(m-8))=256*(b*2^(m-8))by rw[<-Nat.mul_assoc,Nat.mul_comm b 256,Nat.mul_assoc],Nat.add_mul_div_left _ _ (by decide)]
    rw[Xd (by omega),Xd (show ¬m<8 by omega),e1,e2,show m+1-8=(m-8)+1 by omega];exact zBx k' (by omega) (by rw[hs]at hp;exact Nat.div_lt_of_lt_mul hp) hb
theorem zOU(v k:Nat):v % 2^(k+1)=v % 2^k+v/2^k % 2*2^k:=by
 rw[Nat.pow_succ,Nat.mod_mul,Nat.mul_comm (2^k)]
theorem zBy{w:Wr}{m v:Nat}(ok:w.ok m):∀k,Ye w.s (w.p+v % 2^k*2^w.n) (w.n+k)=yC w v k
 | 0=>by
  have:=ok.n;rw[Nat.pow_zero,Nat.mod_one,Nat.zero_mul,Nat.add_zero,Nat.add_zero,q7 (by omega)];rfl
 | k+1=>by
  have ih:=zBy ok (v:=v) k;have hp:=ok.p;have hm:v % 2^k<2^k:=Nat.mod_lt _ (Nat.pow_pos (by decide));have e:w.p+v % 2^(k+1)*2^w.n=(w.p+v % 2^k*2^w.n)+(v/2^k % 2)*2^(w.n+k):=by
   rw[zOU,Nat.add_mul,Nat.mul_assoc,<-Nat.pow_add,Nat.add_comm k w.n];omega
  have hlt:w.p+v % 2^k*2^w.n<2^(w.n+k):=by
   have h1:(v % 2^k+1)*2^w.n<=2^k*2^w.n:=Nat.mul_le_mul_right _ (by omega);rw[Nat.add_mul,Nat.one_mul]at h1;rw[Nat.pow_add,Nat.mul_comm (2^w.n)];omega
  rw[e,show w.n+(k+1)=w.n+k+1 by omega,zBx _ (oP _) hlt (Nat.mod_lt _ (by decide)),ih];rfl
def OwB(h:H)(v:V)(l:List UInt8):Prop:=∃b cs,v = .slice b 0 l.length (.skip 0)/\b<h.nx/\h.get b=some (.cells cs ⟨1,0,0⟩ true true)/\cs.wf/\cs.len=l.length/\∀i,i<l.length->cs.get? i=(Ko l)[i]?
theorem OwB.sl(o:OwB h v l):Sl h v 1 l.length (Ko l):=by
 obtain⟨b,cs,rfl,h1,h2,h3,h4,h5⟩:=o;exact⟨by rw[kD,Nat.mul_one],.inr ⟨b,0,_,cs,_,_,_,rfl,h1,h2,λi hi=>by rw[Nat.zero_add];exact h5 i (by omega)⟩⟩
theorem OwB.ext{h h':H}(o:OwB h v l)(e:Ext h h' m):OwB h' v l:=by
 obtain⟨b,cs,rfl,h1,h2,h3⟩:=o;exact⟨b,cs,rfl,oI h1 e.le,by rw[e.get b h1];exact h2,h3⟩
theorem OwB.kept{h h':H}(o:OwB h v l)(hn:h.nx<=h'.nx)(hg:∀b,zy v=some b->h'.get b=h.get b):OwB h' v l:=by
 obtain⟨b,cs,rfl,h1,h2,h3⟩:=o;exact⟨b,cs,rfl,oI h1 hn,by rw[hg b rfl];exact h2,h3⟩
theorem zBn:∀l:List UInt8,yM l=Ko l
 | []=>rfl
 | b::l=>by show V.int .u8 (.ofNat b.toNat)::yM l=_;rw[zBn l];rfl
theorem O4:∀l:List UInt8,zL (Ko l)=true
 | []=>rfl
 | _::l=>O4 l
theorem zMk(hl:l.length<=200000)(hn:h.nx<T.top):∃v h',xN zA 9 71 h (.str l)=some (v,h')/\OwB h' v l/\Ext h h' 1/\zy v=some h.nx:=by
 obtain⟨cs,h1,h2⟩:=Cs.ofL_some (l:=Ko l) (by rw[kD];omega);obtain⟨h3,h4⟩:=Cs.ofL_eq h1;refine⟨.slice h.nx 0 l.length (.skip 0),h.new (.cells cs ⟨1,0,0⟩ true true),?_,⟨h.nx,cs,rfl,by rw[zH];omega,zZ _ hn,h2,by rw[h3,kD],λi _=>h4 i⟩,Ext.new _ hn,rfl⟩
 unfold xN;simp only[ZN,zG2,ty5];unfold Z2 qg;rw[zBn,O4,oK,h1];simp only[(zY _ _).2 hn,oK,yt,Nat.zero_add]
theorem OwB.app{x:V}{b:UInt8}(o:OwB h v l)(hx:Sl h x 1 1 [byv b])(hl:l.length<=200000)(hn:h.nx<T.top):
  ∃v' h',zc zA 71 h v x=some (v',h')/\OwB h' v' (l++[b])/\h.nx<=h'.nx/\h'.nx<=h.nx+1/\(∀i,i<h.nx->zy v≠some i->h'.get i=h.get i)/\zy v'=some h.nx/\h'.low<=h.low/\(∀m,m<=h.low->(∀i,zy v=some i->m<=i)->m<=h'.low):=by
 obtain⟨bk,cs,rfl,hb,hg,hw,hlen,hc⟩:=o;obtain⟨cs',h1,h2⟩:=Cs.app_some (cs:=cs) (vs:=[byv b]) (by rw[hlen];simp;omega);obtain⟨h3,h4⟩:=Cs.app_eq h1;have hbt:bk<T.top:=by omega
 have hn2:(qB h bk).nx<T.top:=hn;refine⟨.slice (qB h bk).nx 0 (l.length+1) (.skip 0),(qB h bk).new (.cells cs' ⟨1,0,0⟩ true true),?_,⟨(qB h bk).nx,cs',by rw[oU];rfl,by rw[zH];exact oc _,zZ _ hn2,h2,by rw[h3,hlen,oU];rfl,λi hi=>?_⟩,by rw[zH];exact Nat.le_succ _,by rw[zH];exact oP _,λi hi hne=>?_,rfl,(by show(h.upd bk none).low<=_;rw[H.low_upd];exact Nat.min_le_left _ _),λm hm hb2=>(by show m<=(h.upd bk none).low;rw[H.low_upd];exact Nat.le_min.2 ⟨hm,hb2 bk rfl⟩)⟩
 ·unfold zc
  rw[zG2];simp only[ty5];have hok:kH Ka=true:=rfl;rw[show kH ⟨5,.int .u8,1,1,some (.int .u8 (.ofNat 0)),true,false,false,[]⟩=true from hok,oK];rw[hx.src (by decide) (by decide)];simp only;unfold Go.Sim.appTo;simp only[hg];unfold ko;have e1:(true && true && Nat.beq 1 1 && Nat.beq 0 (0*1) && zL [byv b] && Nat.ble (0+l.length*1) cs.len)=true:=by
   have:Nat.ble (0+l.length*1) cs.len=true:=oC (by rw[hlen];omega);rw[this];rfl
  show cond (true && true && Nat.beq 1 1 && Nat.beq 0 (0*1) && zL [byv b] && Nat.ble (0+l.length*1) cs.len) _ _=_;rw[e1,oK];show(match qQ h bk 0 l.length (.skip 0) 1 (l.length+1) cs ⟨1,0,0⟩ true [byv b]with|some r=>some r|none=>Yq Ka h bk 0 l.length 0 (l.length+1) cs ⟨1,0,0⟩ [byv b])=_
  have e3:qQ h bk 0 l.length (.skip 0) 1 (l.length+1) cs ⟨1,0,0⟩ true [byv b]=none:=by
   unfold qQ;rw[zA3 (by rw[hlen];simp)]
  rw[e3];simp only;unfold Yq;have e4:(Nat.beq 0 0 && Nat.beq cs.len (0+l.length*1) && Nat.ble 0 (0+l.length*1) && (Nat.beq 0 0 || Nat.beq 0 (5+1)))=true:=by
   rw[hlen];simp
  show cond (Nat.beq 0 0 && Nat.beq cs.len (0+l.length*1) && Nat.ble 0 (0+l.length*1) && (Nat.beq 0 0 || Nat.beq 0 (5+1))) _ _=_;rw[e4,oK,h1];exact wF (by show(l.length+1)*1<=_;omega) hn2
 ·rw[h4,hlen,OF]
  by_cases hi2:i<l.length
  ·rw[if_pos hi2,hc i hi2,List.getElem?_append_left (by rw[kD];exact hi2)]
  ·rw[if_neg hi2,List.getElem?_append_right (by rw[kD];omega),kD]
   rfl
 ·have hne:i≠bk:=λe=>hne (by rw[e];rfl)
  rw[yT _ hn2 (show i<(qB h bk).nx from hi)];exact zQ _ hbt hne
abbrev oBw(w:Wr):O:=.cells (.ls [.str w.s,.int .u64 (w.p:Nat),.int .i64 (w.n:Nat)]) ⟨0,300+1,0⟩ true false
theorem OI{o:Nat}:zR zA 300 0 h (.ptr p o) k=k (.ptr p (o+0)) h:=by kernel_rfl
theorem YR{o:Nat}:zR zA 300 1 h (.ptr p o) k=k (.ptr p (o+1)) h:=by kernel_rfl
theorem qu{o:Nat}:zR zA 300 2 h (.ptr p o) k=k (.ptr p (o+2)) h:=by kernel_rfl
theorem Xb{o:Nat}:zR zA 298 0 h (.ptr p o) k=k (.ptr p (o+0)) h:=by kernel_rfl
theorem zRM:z8 zA 296 (.ptr p 0) (.int .i64 0)=some (.ptr p 0):=by kernel_rfl
theorem zRN:z8 zA 296 (.ptr p 0) (.int .i64 1)=some (.ptr p 1):=by kernel_rfl
theorem zMj(o:OwB h v l)(hk:k (.str l) h):kh zA 71 9 h v k:=by
 rcases Nat.eq_zero_or_pos l.length with h0|h0
 ·obtain⟨b,cs,rfl,hb,hg,hw,hl,hc⟩:=o
  have hl0:l=[]:=List.eq_nil_of_length_eq_zero h0;subst hl0;have e:xN zA 71 9 h (.slice b 0 0 (.skip 0))=some (.str [],h):=by
   unfold xN;rw[zG2,ZN];simp only[ty5,hg,zDn cs 0 (.inr trivial)];rfl
  show ∃m h',xN zA 71 9 h (.slice b 0 0 (.skip 0))=some (.str m,h')/\k (.str m) h';exact⟨[],h,e,hk⟩
 ·exact X8 o.sl h0 hk
theorem OwB.step{S:Nat->Prop}{hb h:H}{c:Nat}{L:List (Nat×O)}{v:V}{l:List UInt8}{x:Nat}(w:Vw S hb h c L)(o:OwB h v l)(sp:Sep S hb.nx L v)(hx:x<256)(hl:l.length<=200000)(hn:h.nx+2<=T.top):
  ∃v1 h1,zF zA 71 1 [(0,.int .u8 (x:Nat))] h=some (v1,h1)/\∃v2 h2,zc zA 71 h1 v v1=some (v2,h2)/\Vw S hb h2 (c+2) L/\OwB h2 v2 (l++[UInt8.ofNat x])/\Sep S hb.nx L v2:=by
 obtain⟨h1,e1,s1,x1⟩:=YK (h:=h) (x:Nat) (by omega);have t1:=x1.top;rw[<-Yw hx]at s1;obtain⟨v2,h2,e2,o2,a1,a2,a3,a4,a5,a6⟩:=(o.ext x1).app s1 hl (by omega);have w1:=w.ext x1;refine⟨_,h1,e1,v2,h2,e2,w1.apart (ExtX.append a1 a2 a3 a5 a6) (λb g=>(sp b g).1) (λq hq g=>(sp _ g).2 q hq rfl),o2,λb g=>?_⟩
 rw[a4]at g;cases g;exact⟨.inr w1.le,λq hq=>Nat.ne_of_lt (w1.bk.lt q hq)⟩
theorem zIe{S:Nat->Prop}{hb h:H}{c p m k v:Nat}{L:List (Nat×O)}{w:Wr}{v1:V}(vw:Vw S hb h c ((p,oBw w)::L))(sv:Sl h v1 2 1 [.int .u64 (k:Nat),.int .u64 (v:Nat)])(ok:w.ok m)(hm:m+100<=1000000)(hk:k<=32)(hv:v<2^k)(hn:h.nx+100<=T.top)(hlow:hb.low<=T.top)(hsv:∀b,zy v1=some b->b≠p/\b<h.nx)(hq:∀h',Vw S hb h' (c+30) ((p,oBw (yC w v k))::L)->h'.nx<=h.nx+30->Q (.tuple []) h'):RF P zA 252 [.ptr p 0,v1] h Q:=by
 obtain⟨s,pp,n⟩:=w;have hfl:=zBy ok (v:=v) k;rw[oe hv]at hfl;obtain⟨hp,hn7,hs⟩:=ok;simp only at hp hn7 hs hfl
 replace vw:Vw S hb h c ((p,.cells (.ls [.str s,.int .u64 (pp:Nat),.int .i64 (n:Nat)]) ⟨0,300+1,0⟩ true false)::L):=vw
 have hpn:2^n<=2^7:=Nat.pow_le_pow_right (by decide) hn7;have hvk:2^k<=2^32:=Nat.pow_le_pow_right (by decide) hk;have hvn:v*2^n<=2^32*2^7:=Nat.mul_le_mul (by omega) hpn;refine yK z0r rfl rfl z3A ⟨_,sv.len zQJ rfl,Has.nil.on λtm hs=>?_⟩
 refine wpC.round (λj tm h'=>∃i:Nat,j=1-i/\i<=1/\(i=0->h'=h)/\Has tm [(9,.int .i64 i),(8,.int .i64 (1:Nat)),(7,v1),(0,.ptr p 0)]/\h'.nx<=h.nx+1 /\
  Vw S hb h' (c+i) ((p,.cells (.ls [.str s,.int .u64 ((if i=0 then pp else pp+v*2^n:Nat):Int),.int .i64 ((if i=0 then n else n+k:Nat):Int)]) ⟨0,300+1,0⟩ true false)::L)) 1 ⟨0,rfl,by decide,λ_=>rfl,hs.sub (by kernel_rfl),by omega,vw⟩ ?_
 clear hs;rintro j tm h' ⟨i,rfl,hi1,hh,hs,hnx,w1⟩;refine wpC.av hs zTM rfl rfl ⟨λq=>?_,λq=>hs.on λtm' hs'=>?_⟩
 ·have i0:i=0:=by omega
  subst i0;have:=hh rfl;subst this;rw[if_pos rfl,if_pos rfl]at w1;obtain⟨b,o,a1,a2⟩:=sv.atA (cx:=zA) (i:=0) (ys:=[.int .u64 (k:Nat),.int .u64 (v:Nat)]) (by decide) zQJ rfl zQI rfl rfl (by decide) rfl (λj hj=>by rw[Nat.zero_mul,Nat.zero_add]);refine⟨b,o,a1,_,_,a2.1,by omega,?_⟩;rintro p4 h5 rfl e5;have w5:=w1.new e5 (by omega);have t5:h5.nx=h'.nx+1:=by rw[e5,zH]
  obtain⟨h6,e6,w6,n6,_⟩:=w5.st (cx:=zA) 0 (t:=296) (f:=0) (u:=.agg [.int .u64 (k:Nat),.int .u64 (v:Nat)]) rfl (by omega) zQI rfl (oJ _) rfl rfl;have l6:h6.low<=T.top:=by have:=w6.low;omega
  refine⟨h6,e6,⟨by omega,l6⟩,.ptr p 0,zM h6,rfl,(yI (by omega) l6).1,jm (by omega) l6 ?_⟩;rw[YR];refine⟨_,w6.ld1 1 rfl Kc rfl rfl,_,_,zRN,_,w6.ld1 0 rfl Kc rfl rfl,.ptr p 0,zM h6,rfl,(yI (by omega) l6).1,jm (by omega) l6 ?_⟩;rw[qu];refine⟨_,w6.ld1 1 rfl zd rfl rfl,((v*2^n:Nat):Int),by rw[zW (by omega)];exact Zx (by omega) (by omega),((pp+v*2^n:Nat):Int),by rw[<-zAX hp];exact zJK (by omega) (by omega),.ptr p 0,h6,rfl,?_⟩;rw[YR];obtain⟨h7,e7,w7,n7,_⟩:=w6.st (cx:=zA) 1 (t:=127) (f:=0+1) (u:=.int .u64 ((pp+v*2^n:Nat):Int)) rfl (by omega) Kc rfl (oJ _) rfl rfl;have l7:h7.low<=T.top:=by have:=w7.low;omega
  refine⟨h7,e7,⟨by omega,l7⟩,.ptr p 0,zM h7,rfl,(yI (by omega) l7).1,jm (by omega) l7 ?_⟩;rw[qu];refine⟨_,w7.ld1 1 rfl zd rfl rfl,_,_,zRM,_,w7.ld1 0 rfl Kc rfl rfl,.ptr p 0,h7,rfl,?_⟩;rw[qu];have en:zG (((n:Nat):Int)+zG ((k:Nat):Int))=((n+k:Nat):Int):=by rw[zLj (by omega),zD (by omega) (by omega)];rfl
  obtain⟨h8,e8,w8,n8,_⟩:=w7.st (cx:=zA) 1 (t:=3) (f:=0+2) (u:=.int .i64 ((n+k:Nat):Int)) rfl (by omega) zd rfl (oJ _) rfl rfl;refine⟨h8,by rw[en];exact e8,hs.on λtm' hs'=>⟨rfl,rfl,0,by decide,1,rfl,by decide,λq=>absurd q (by decide),hs'.sub (by kernel_rfl),by show h8.nx<=_;omega,w8.drop 1⟩⟩
 ·have i1:i=1:=by omega
  subst i1;rw[if_neg (by decide),if_neg (by decide)]at w1;refine thenC.left (wpS.av hs' zUP rfl rfl ⟨.ptr p 0,h',rfl,?_⟩);rw[OI,Xb];obtain⟨v8,h9,e9,o9,x9,b9⟩:=zMk (h:=h') (l:=s) (by omega) (by omega);have w9:=w1.ext x9;have t9:=x9.top;refine⟨s,w1.ld1 0 rfl ZN rfl rfl,v8,h9,e9,hs'.on λtm2 hs2=>?_⟩
  refine wpC.round (λj tm h'=>∃(s1:List UInt8) (p1:Nat) (v6:V) (g:Nat),Ye s1 p1 j=yC ⟨s,pp,n⟩ v k/\p1<18446744073709551616/\j<=n+k/\s1.length<=s.length+g/\8*g+j<=n+k/\OwB h' v6 s1/\Sep S hb.nx ((p,.cells (.ls [.str s,.int .u64 (p1:Nat),.int .i64 (j:Nat)]) ⟨0,300+1,0⟩ true false)::L) v6/\h'.nx<=h.nx+2+2*g /\
   Has tm [(0,.ptr p 0),(6,v6)]/\Vw S hb h' (c+2+2*g) ((p,.cells (.ls [.str s,.int .u64 (p1:Nat),.int .i64 (j:Nat)]) ⟨0,300+1,0⟩ true false)::L)) (n+k)
   ⟨s,pp+v*2^n,v8,0,hfl,by omega,oP _,by omega,by omega,o9,λb hb2=>by
    rw[b9]at hb2;cases hb2;exact⟨.inr (by have:=w1.le;omega),λq hq=>Nat.ne_of_lt (w1.bk.lt q hq)⟩,by omega,hs2.sub (by kernel_rfl),w9⟩ ?_
  clear hs2 o9 w9 w1 hs hs' b9 e9 x9 hh hnx t9;rintro j tm h3 ⟨s1,p1,v6,g,hfl,hp1,hjk,hsl,hg,o6,sp,hnx,hs,w2⟩;refine wpC.av hs zTN rfl rfl ⟨.ptr p 0,h3,rfl,?_⟩;rw[qu];refine⟨_,w2.ld1 0 rfl zd rfl rfl,λq=>⟨.ptr p 0,h3,rfl,?_⟩,λq=>hs.on λtm' hs'=>?_⟩
  ·rw[YR]
   rw[Xd (by omega)]at hfl;obtain⟨v10,h11,e11,v12,h13,e13,w13,o13,sp13⟩:=o6.step w2 sp (x:=p1 % 256) (Nat.mod_lt _ (by decide)) (by omega) (by omega);have t13:h13.nx<=h3.nx+2:=by
    have a:=YK (h:=h3) ((p1 % 256:Nat):Int) (by omega);obtain⟨h1,e1,s1',x1⟩:=a;have:=x1.top;rw[e1]at e11;cases e11;obtain⟨v2,h2,e2,_,_,a2,_⟩:=(o6.ext x1).app (by rw[<-Yw (Nat.mod_lt p1 (by decide))]at s1';exact s1') (by omega) (by omega);rw[e2]at e13;cases e13;omega
   refine⟨_,w2.ld1 0 rfl Kc rfl rfl,v10,h11,by rw[jr];exact e11,trivial,v12,h13,e13,.ptr p 0,h13,rfl,?_⟩;rw[YR];refine⟨_,w13.ld1 0 rfl Kc rfl rfl,((p1/2^8:Nat):Int),JM (n:=8) (by decide),.ptr p 0,h13,rfl,?_⟩;rw[YR];obtain⟨h14,e14,w14,n14,g14⟩:=w13.st (cx:=zA) 0 (t:=127) (f:=0+1) (u:=.int .u64 ((p1/2^8:Nat):Int)) rfl (by omega) Kc rfl (oJ _) rfl rfl;refine⟨h14,e14,.ptr p 0,h14,rfl,?_⟩;rw[qu];refine⟨_,w14.ld1 0 rfl zd rfl rfl,.ptr p 0,h14,rfl,?_⟩;rw[qu];have ej:zG (((j:Nat):Int)-8)=((j-8:Nat):Int):=by rw[zD (by omega) (by omega)];omega
   obtain⟨h15,e15,w15,n15,g15⟩:=w14.st (cx:=zA) 0 (t:=3) (f:=0+2) (u:=.int .i64 ((j-8:Nat):Int)) rfl (by omega) zd rfl (oJ _) rfl rfl;have o15:OwB h15 v12 (s1++[UInt8.ofNat (p1 % 256)]):=o13.kept (by omega) λb hb2=>by
    have hne:b≠p:=λe=>(sp13 b hb2).2 _ (List.mem_cons_self ..) e.symm
    rw[g15 b hne,g14 b hne]
   have hd:p1/2^8<=p1:=Nat.div_le_self _ _;refine⟨h15,by rw[ej];exact e15,hs.on λtm' hs'=>⟨rfl,rfl,j-8,by omega,s1++[UInt8.ofNat (p1 % 256)],p1/2^8,v12,g+1,hfl,by omega,by omega,by rw[oU];simp;omega,by omega,o15,sp13.head,by show h15.nx<=_;omega,hs'.sub (by kernel_rfl),w15.more (by omega)⟩⟩
  ·rw[q7 (by omega)]at hfl
   refine thenC.left (wpS.av hs' zUO rfl rfl (zMj o6 ⟨.ptr p 0,h3,rfl,?_⟩));rw[OI,Xb];obtain⟨h8,e8,w8,n8,_⟩:=w2.st (cx:=zA) 0 (t:=9) (f:=0+0+0) (u:=.str s1) rfl (by omega) ZN rfl (oJ _) rfl rfl;refine⟨h8,e8,hs'.on λtm2 hs2=>hs2.slt λtm3 hs3=>?_⟩
   rw[<-hfl]at hq;exact hq h8 (w8.more (by omega)) (by omega)
abbrev oBW(w:Wr):O:=oWr w (220+1)
def z1k(w:Wr):H:=(H0.new (oBW w)).new (oBW ⟨[],0,0⟩)
def z2D(w:Wr)(k v:Nat):Tm:=Tb.set (Tb.set (Tb.set (Tb.set (Tb.set (Tb.set (Tb.leaf zB) 0 (Ym w)) 1 (.int .i64 k)) 2 (.int .u64 v)) 3 (.ptr 0 0)) 6 (.ptr 1 0)) 7 (.int .i64 0)
def zXq:Nat:=(yb z6h.toList).getD 0
def zPf(w:Wr)(k v:Nat):Option (List Qy×St) :=
 wT zA z6h.toList (za z6h.toList []) zXq zXq 0 z6h.toList ⟨68,z2D w k v,[],z1k w⟩ [.int .i64 0,.int .i64 0,.int .i64 0,.int .i64 0]
theorem zSD:yb z6h.toList=some zXq:=by kernel_rfl
def OW(w:Wr)(k v:Nat):Prop :=
 (zPf w k v).isSome=true /\
 (zPf w k v).map (λx=>x.1.map λq=>(q.1,q.2.2)) =
  some [((249,[Ym w]),.int .i64 0),((250,[.bool (!(eqF (zB6 (v:Int) k) 0)),.int .i64 2]),.int .i64 0),((250,[.bool (JU 1048576 (zG (Yp (Int.ofNat (qI w.s 0)) (zG (zMp (zG (Yp (w.n:Int) k)) 8))))),.int .i64 4]),.int .i64 0),((248,[.slice 2 0 3 (.exact 3)]),.int .i64 0)] /\
 ((zPf w k v).bind λx=>(x.1[3]?).map λq=>(q.2.1.nx,q.2.1.get 2))=some (3,some (.cells (.ls [.int .i64 0,.int .i64 0,.int .i64 0]) ⟨0,24+1,0⟩ true false)) /\
 (zPf w k v).map (λx=>(x.2.n,x.2.dfr,zk x.2.tm 8,zk x.2.tm 6,zk x.2.tm 3,zk x.2.tm 1,zk x.2.tm 2))=some (68,[],.int .i64 0,.ptr 1 0,.ptr 0 0,.int .i64 k,.int .u64 v) /\
 (zPf w k v).map (λx=>(x.2.heap.get 0,x.2.heap.get 1,x.2.heap.nx,x.2.heap.low))=some (some (oBW w),some (oBW ⟨[],0,0⟩),3,H0.low)
theorem zSV(w:Wr)(v:Nat):OW w 0 v:=⟨by kernel_rfl,by kernel_rfl,by kernel_rfl,by kernel_rfl,by kernel_rfl⟩
theorem zSW(w:Wr)(v:Nat):OW w 1 v:=⟨by kernel_rfl,by kernel_rfl,by kernel_rfl,by kernel_rfl,by kernel_rfl⟩
theorem zSX(w:Wr)(v:Nat):OW w 2 v:=⟨by kernel_rfl,by kernel_rfl,by kernel_rfl,by kernel_rfl,by kernel_rfl⟩
theorem zSY(w:Wr)(v:Nat):OW w 3 v:=⟨by kernel_rfl,by kernel_rfl,by kernel_rfl,by kernel_rfl,by kernel_rfl⟩
theorem zSZ(w:Wr)(v:Nat):OW w 4 v:=⟨by kernel_rfl,by kernel_rfl,by kernel_rfl,by kernel_rfl,by kernel_rfl⟩
theorem zS0(w:Wr)(v:Nat):OW w 5 v:=⟨by kernel_rfl,by kernel_rfl,by kernel_rfl,by kernel_rfl,by kernel_rfl⟩
theorem zYD{k v:Nat}(hk:k<=5):OW w k v:=by
 have:k=0\/k=1\/k=2\/k=3\/k=4\/k=5:=by omega
 rcases this with rfl|rfl|rfl|rfl|rfl|rfl
 ·exact zSV w v
 ·exact zSW w v
 ·exact zSX w v
 ·exact zSY w v
 ·exact zSZ w v
 ·exact zS0 w v
theorem ldB{hb h:H}{c i:Nat}(vw:Vw S hb h c L)(hL:L[i]? = some (p,oBW w)):zK zA 220 h (.ptr p 0)=some (Ym w):=vw.ldA i hL zCY rfl rfl
theorem zBg(ok:w.ok m)(hm:m<=8388600)(hq:Q (.int .i64 0) h):RF P zA 249 [Ym w] h Q:=by
 refine RF.plain ?_ (zn rfl);have hq:∀h':H,Plain (.int .i64 0)/\Q (.int .i64 0) h:=λ_=>⟨ym _ _,hq⟩
 obtain⟨hp,hn,hs⟩:=ok;have hpn:2^w.n<=2^7:=Nat.pow_le_pow_right (by decide) hn;refine yK z0o rfl rfl z2x ⟨by decide,?_⟩;rintro p0 h1 rfl e1;have w1:=(Vw.nil (S:=zS) (h:=H0)).new e1 (by decide);have e7:w.n &&& 7=w.n:=by rw[show(7:Nat)=2^3-1 from rfl,qP,oe (by omega)]
 refine⟨_,w1.ld1 0 rfl zd rfl rfl,λc=>by omega,λ_=>⟨_,w1.ld1 0 rfl zd rfl rfl,λc=>by omega,λ_=>⟨_,w1.ld1 0 rfl zd rfl rfl,λc=>by omega,λ_=>⟨_,w1.ld1 0 rfl zd rfl rfl,_,w1.ld1 0 rfl zd rfl rfl,((w.n:Nat):Int),?_,((1*2^w.n:Nat):Int),by rw[zW (by omega)];exact yH (a:=1) (by omega) (by omega),λc=>by omega,λ_=>⟨_,w1.ld1 0 rfl ZN rfl rfl,λc=>absurd (show(1048576:Int)<(w.s.length:Int)from c) (by omega),λ_=>jd ⟨_,rfl,hq h1⟩⟩⟩⟩⟩⟩
 have:=Z1 (a:=w.n) (b:=7) (by omega) (by decide)
 rwa [e7]at this
theorem zCL{hb h:H}{c:Nat}(vw:Vw S hb h c L)(ok:w.ok m)(hn:h.nx+2<=T.top)(hq:∀h' p,Vw S hb h' (c+2) ((p,oBw w)::L)->h'.nx=h.nx+2->Q (.ptr p 0) h'):RF P zA 251 [Ym w] h Q:=by
 have hpn:2^w.n<=2^7:=Nat.pow_le_pow_right (by decide) ok.n;have hp:=ok.p;refine yK z0q rfl rfl z2z ⟨by omega,?_⟩;rintro p0 h1 rfl e1;have w1:=vw.new (o:=oBW w) e1 (by omega);have n1:h1.nx=h.nx+1:=by rw[e1,zH]
 refine⟨_,w1.ld1 0 rfl ZN rfl rfl,_,w1.ld1 0 rfl zd rfl rfl,_,w1.ld1 0 rfl zd rfl rfl,by omega,?_⟩;rintro p5 h6 rfl e6;rw[zW (by omega)]at e6;have w6:=w1.new (o:=oBw w) e6 (by omega);have w7:Vw S hb h6 (c+2) ((h1.nx,oBw w)::L):=⟨w6.ex,w6.bk.1,w6.bk.2.1,w6.bk.2.2.1,w6.bk.2.2.2.2.2.2.up (Nat.le_of_lt w6.bk.2.2.2.1)⟩;exact hq h6 _ w7 (by rw[e6,zH,n1])
theorem zMd(k v:Int)(hn:h.nx<T.top):∃v1 h',zF zA 344 1 [(0,.agg [.int .u64 k,.int .u64 v])] h=some (v1,h')/\Sl h' v1 2 1 [.int .u64 k,.int .u64 v]/\Ext h h' 1/\zy v1=some h.nx :=
 jf (c:=zA) (h:=h) (u:=.agg [.int .u64 k,.int .u64 v]) (ys:=[.int .u64 k,.int .u64 v]) zQJ rfl zQI rfl rfl rfl rfl (by decide) rfl hn
theorem zIa{k v:Nat}(ok:w.ok m)(hm:m+100<=1000000)(hk:k<=5)(hv:v<2^k)(hq:Q (.tuple [Ym (yC w v k),.int .i64 0]) h):RF P zA 257 [Ym w,.int .i64 k,.int .u64 v] h Q:=by
 refine RF.plain ?_ (zn rfl);have hq:∀h':H,Plain (.tuple [Ym (yC w v k),.int .i64 0])/\Q (.tuple [Ym (yC w v k),.int .i64 0]) h:=λ_=>⟨zm rfl,hq⟩
 have ht:=zt;have hvk:2^k<=2^5:=Nat.pow_le_pow_right (by decide) hk;have hs:=ok.s;have hn7:=ok.n;have z0:H0.nx=0:=rfl;have zl:H0.low<=T.top:=oE rfl;refine yK z0w rfl rfl z3F ⟨by decide,?_⟩;rintro p0 h1 rfl rfl;refine⟨by rw[zH];omega,?_⟩;rintro p2 h3 rfl rfl;obtain⟨k1,k2,k3,k4,k5⟩:=zYD (w:=w) (v:=v) hk;show wpDr P zA false z6h.toList ⟨68,z2D w k v,[],z1k w⟩ _;obtain⟨⟨qs,s'⟩,e⟩:=Option.isSome_iff_exists.1 k1;have kk:=qs_at e k2;rw[e]at k3 k4 k5;obtain⟨q0,q1,q2,q3,rfl⟩:∃q0 q1 q2 q3,qs=[q0,q1,q2,q3]:=zXn (by have:=congrArg List.length kk;simpa using this);simp only[List.map_cons,List.map_nil,List.cons.injEq,oB,and_true]at kk;obtain⟨⟨k0,v0⟩,⟨k1,v1⟩,⟨k2,v2⟩,⟨k3',v3⟩⟩:=kk;obtain⟨⟨f0,a0⟩,⟨w0,x0⟩⟩:=q0;obtain⟨⟨f1,a1⟩,⟨w1,x1⟩⟩:=q1;obtain⟨⟨f2,a2⟩,⟨w2,x2⟩⟩:=q2;obtain⟨⟨f3,a3⟩,⟨w3,x3⟩⟩:=q3;simp only at k0 v0 k1 v1 k2 v2 k3' v3;obtain⟨rfl,rfl⟩:=k0;obtain⟨rfl,rfl⟩:=k1;obtain⟨rfl,rfl⟩:=k2;obtain⟨rfl,rfl⟩:=k3';subst v0 v1 v2 v3;refine wpDr.ans zSD e ?_ ?_ ?_
 ·intro q hq'
  simp only[od,List.not_mem_nil,or_false]at hq';rcases hq' with rfl|rfl|rfl|rfl
  ·exact RF.same (zBg ok (by omega) ⟨rfl,rfl⟩)
  ·refine RF.same (jd ⟨?_,rfl⟩)
   have:(!(eqF (zB6 (v:Int) k) 0))=false:=by
    rw[jX];have:zB6 (v:Int) k=0:=by
     show Int.ofNat (Nat.shiftRight v k)=0;rw[show Nat.shiftRight v k=v >>> k from rfl,Nat.shiftRight_eq_div_pow,Nat.div_eq_of_lt hv];rfl
    rw[this];rfl
   rw[this];rfl
  ·refine RF.same (jd ⟨?_,rfl⟩)
   have e1:zG (Yp (w.n:Int) k)=((w.n+k:Nat):Int):=by rw[YI,zD (by omega) (by omega)];rfl
   have e2:zG (zMp (zG (Yp (w.n:Int) k)) 8)=(((w.n+k)/8:Nat):Int):=by
    rw[e1,zDE,show Int.tdiv ((w.n+k:Nat):Int) 8=(((w.n+k)/8:Nat):Int)from rfl,zD (by omega) (by omega)]
   have e3:JU 1048576 (zG (Yp (Int.ofNat (qI w.s 0)) (zG (zMp (zG (Yp (w.n:Int) k)) 8))))=false:=by
    rw[e2,YI,yt,show Int.ofNat (0+w.s.length)=((0+w.s.length:Nat):Int)from rfl,zD (by omega) (by omega),yi,decide_eq_false_iff_not];omega
   rw[e3];rfl
  ·simp only[List.getElem?_cons_succ,List.getElem?_cons_zero,Option.bind_some,oZ,oA,oB]at k3
   refine RF.same (qZ (l:=[0,0,0]) ⟨rfl,.inr ⟨2,0,_,_,_,_,_,rfl,by rw[k3.1];decide,k3.2,?_⟩⟩ (by simp) ⟨?_,rfl⟩)
   ·intro i hi
    rcases i with _|_|_|i
    ·rfl
    ·rfl
    ·rfl
    ·exact absurd hi (by show ¬i+1+1+1<3*1;omega)
   ·rfl
 ·intro a ha b hb _
  simp only[od,List.not_mem_nil,or_false]at ha hb;rcases ha with rfl|rfl|rfl|rfl<;>rcases hb with rfl|rfl|rfl|rfl<;>rfl
 ·obtain⟨n,tm,d,hp⟩:=s'
  simp only[oZ,oA,oB]at k4 k5;obtain⟨rfl,rfl,g8,g6,g3,g1,g2⟩:=k4;obtain⟨h0,h1,hnx,hlw⟩:=k5;have hs0:Has tm [(8,.int .i64 0),(6,.ptr 1 0),(3,.ptr 0 0),(1,.int .i64 k),(2,.int .u64 v)]:=⟨g8,g6,g3,g1,g2,trivial⟩;have vw:Vw zS H0 hp 3 [(1,oBW ⟨[],0,0⟩),(0,oBW w)]:=⟨⟨by omega,by omega,λb hb=>by omega,by rw[hlw];exact oP _,λm _ h2 _=>by omega⟩,by omega,.inr (by omega),h1,by decide,.inr (by omega),h0,trivial⟩
  refine thenC.nx (hs0.sealK λtm1 hs1=>wpS.av hs1 zUT rfl rfl ⟨λc=>absurd rfl c,λ_=>hs1.on λtm2 hs2=>thenC.nx (hs2.sealK λtm3 hs3=>?_)⟩)
  refine wpS.av hs3 zUU rfl rfl ⟨_,_,_,ldB vw (i:=1) rfl,zCL vw ok (by omega) λh4 p5 w4 n4=>⟨_,rfl,?_⟩⟩
  obtain⟨v6,h7,e7,s7,x7,b7⟩:=zMd (h:=h4) (k:Nat) (v:Nat) (by omega);have t7:=x7.top;have w7:=w4.ext x7;refine⟨v6,h7,by rw[zW (by omega)];exact e7,zIe w7 s7 ok hm (by omega) hv (by omega) zl (λb hb=>?_) λh9 w9 t9=>⟨rfl,?_⟩⟩
  ·rw[b7]at hb
   cases hb;have:=w4.lt 0 rfl;have:=x7.le;have h10:h7.nx=h4.nx+1:=by
    have e8:h7=h4.new (.cells (.ls [.int .u64 (k:Nat),.int .u64 (v:Nat)]) ⟨0,296+1,0⟩ true false)\/True:=.inr trivial;obtain⟨_,⟨hv1,_⟩|⟨b',_,_,_,_,_,_,hv1,hlt,_⟩⟩:=s7
    ·rw[hv1]at b7;cases b7
    ·rw[hv1]at b7;cases b7;omega
   exact⟨by omega,by omega⟩
  ·have l9:h9.low<=T.top:=by have:=w9.low;omega
   have i9:h9.nx<=T.top:=by omega
   refine⟨⟨i9,l9⟩,.ptr p5 0,zM h9,rfl,(yI i9 l9).1,jm i9 l9 ?_⟩;rw[OI,Xb];refine⟨_,w9.ld1 0 rfl ZN rfl rfl,.ptr p5 0,zM h9,rfl,(yI i9 l9).1,jm i9 l9 ?_⟩;rw[YR];refine⟨_,w9.ld1 0 rfl Kc rfl rfl,.ptr p5 0,zM h9,rfl,(yI i9 l9).1,jm i9 l9 ?_⟩;rw[qu];have ok2:=zj ok (v:=v) k;have hpn2:2^(yC w v k).n<=2^7:=Nat.pow_le_pow_right (by decide) ok2.n;have hp2:=ok2.p;obtain⟨h10,e10,w10,n10,_⟩:=w9.st (cx:=zA) 1 (t:=220) (f:=0) (u:=Ym (yC w v k)) rfl i9 zCY rfl (oJ _) rfl rfl;refine⟨_,w9.ld1 0 rfl zd rfl rfl,h10,by rw[zLj (by omega)];exact e10,hs3.on λtm4 hs4=>endW.ok (leave.cell (hs4.get (t:=6) rfl) (w10.ldA 1 rfl zCY rfl rfl) (leave.tmp (hs4.get (t:=7) rfl) rfl)) (hq h10)⟩
open Go.Sim Go
theorem _root_.Go.Sim.ORel.back{ρ ρ':Env}{D D':Nat->Prop}{b:Nat}{o:O}{x0 x:Option Obj}(h0:ORel ρ D b o x0)(h:ORel ρ' D' b o x)(hb:D b)(ha:Agree D ρ ρ'):ORel ρ D b o x:=by
 obtain⟨_,ho,hc⟩:=ha b hb;cases o with
 | cells l esz wr op =>
  obtain⟨c,e,fz,h1,h2,h3,h4⟩:=h;obtain⟨_,_,_,_,_,g3,_⟩:=h0;refine⟨c,e,fz,h1,λi v hv=>?_,g3,λhw=>?_⟩
  ·have:=h2 i v hv
   rwa [V.conc_agree ha v (g3 i v hv),ho]at this
  ·have:=h4 hw
   rwa [ho,hc]at this
 | map es clock =>
  obtain⟨_,g2⟩:=h0;refine⟨?_,g2⟩;rw[h.1]
  congr 3
  exact List.map_congr_left λe he=>by
   unfold Ent.conc;rw[V.conc_agree ha _ (g2 e he).1,V.conc_agree ha _ (g2 e he).2]
 | loop st pending n tm params assign body dfr =>
  obtain⟨fn,tmps,h1,h2,h3⟩:=h;obtain⟨_,_,_,g2,g3⟩:=h0;refine⟨fn,tmps,?_,⟨h2.size,h2.cap,λt=>?_,g2.inn⟩,g3⟩
  ·rw[h1,(ha dfr g3).1]
  ·rw[h2.val t,V.conc_agree ha _ (g2.inn t)]
 | deferred there=>exact h
 | strIter l pos=>exact h
 | mapIter m since seen stepped =>
  obtain⟨h1,_⟩:=h;obtain⟨_,g2⟩:=h0;refine⟨?_,g2⟩;rw[h1];cases m with
  | none=>rfl
  | some r=>rw[oZ,oZ,(ha r (g2 r rfl)).1]
theorem _root_.Go.Sim.SimF.forget{P:Program}{f:Nat}{args:List V}{h h':H}(s:SimF P f args h (.ret v h'))(hv:Plain v)(hg:∀b,b<h.nx->h'.get b=h.get b):SimF P f args h (.ret v h):=by
 intro ρ D w hr hin;refine CallsIn.mono (s ρ D w hr hin) ?_;rintro e w' ⟨ρ',rfl,m,hr',_⟩;refine⟨ρ,by rw[hv.1 ρ',hv.1 ρ],⟨oP _,m.size,m.os,m.tape,m.output,Agree.refl _ _,λid o' _ g=>⟨o',g,rfl⟩,λid o' g1 g2 _=>by omega,m.frame,oP _,λ_ _ _=>rfl⟩,?_,hv.2 _⟩
 rw[zf];refine⟨hr.cap,hr.lt,λid o hd hgo=>?_,hr.inj⟩
 have h1:=hr.rel id o hd hgo;have h2:=hr'.rel id o (.inl hd) (by rw[hg id (hr.lt id hd)];exact hgo);rw[(m.agree id hd).1]at h2;exact h1.back h2 hd m.agree
theorem _root_.Go.Sim.RF.forget{P:Program}{c:Ctx}{f n:Nat}{args:List V}(r:RF P c f args h λv' h'=>v'=v/\Ext h h' n)(hv:Plain v)(hq:Q v h):RF P c f args h Q:=by
 obtain⟨v',h',⟨hf,s⟩,rfl,x⟩:=r;exact⟨v',h,⟨hf,s.forget hv λb hb=>x.get b hb⟩,hq⟩
theorem zR0(a b:Int)(hn:h.nx<T.top):∃h',zF zA 343 2 [(0,.int .i64 a),(1,.int .i64 b)] h=some (.slice h.nx 0 2 (.exact 2),h')/\Sl h' (.slice h.nx 0 2 (.exact 2)) 1 2 [.int .i64 a,.int .i64 b]/\Ext h h' 1:=by
 have e:zF zA 343 2 [(0,.int .i64 a),(1,.int .i64 b)] h=(match (cond (Nat.blt h.nx T.top) (some (h.nx,h.new (Xw a b))) none:Option (Nat×H))with|some (b,h')=>some (.slice b 0 2 (.exact 2),h')|none=>none):=by kernel_rfl
 rw[(zY _ _).2 hn,oK]at e;exact⟨_,e,⟨rfl,.inr ⟨h.nx,0,_,_,_,_,_,rfl,by rw[zH];omega,zZ _ hn,λi hi=>by
  rcases i with _|_|i
  ·rfl
  ·rfl
  ·omega⟩⟩,Ext.new _ hn⟩
theorem zM7(ok:w.ok m)(hm:m+100<=1000000)(hq:Q (.tuple [.str (yC w 1 (8-w.n)).s,.int .i64 0]) h):RF P zA 177 [Ym w] h Q:=by
 refine RF.plain ?_ (zn rfl);have hq:∀h':H,Plain (.tuple [.str (yC w 1 (8-w.n)).s,.int .i64 0])/\Q (.tuple [.str (yC w 1 (8-w.n)).s,.int .i64 0]) h:=λ_=>⟨zm rfl,hq⟩
 have ht:=zt;have hs:=ok.s;have hn7:=ok.n;have z0:H0.nx=0:=rfl;have zl:H0.low<=T.top:=oE rfl;refine yK z0W rfl rfl z25 ⟨by decide,?_⟩;rintro p0 h1 rfl e1;have w1:=(Vw.nil (S:=zS) (h:=H0)).new (o:=oBW w) e1 (by decide);have n1:h1.nx=H0.nx+1:=by rw[e1,zH]
 have l1:h1.low<=T.top:=by have:=w1.low;omega
 have i1:h1.nx<=T.top:=by omega
 refine⟨⟨i1,l1⟩,_,_,_,ldB w1 (i:=0) rfl,zBg ok (by omega) ⟨_,rfl,(yI i1 l1).1,?_⟩⟩;rintro h8 rfl;rw[(yI i1 l1).2];refine⟨_,w1.ld1 0 rfl ZN rfl rfl,λc=>absurd c ?_,λ_=>jd ⟨_,rfl,?_⟩⟩
 ·show ¬(1048576:Int)<zG ((w.s.length:Int)+1)
  rw[zD (by omega) (by omega)];omega
 obtain⟨h5,e5,s5,x5⟩:=zR0 (h:=h1) 0 0 (by omega);have w5:=w1.ext x5;have t5:=x5.top;refine⟨_,h5,e5,qZ (l:=[0,0]) s5 (by simp) ⟨_,rfl,λc=>absurd rfl c,λ_=>⟨_,_,_,ldB w5 (i:=0) rfl,zCL w5 ok (by omega) λh4 p5 w4 n4=>⟨_,rfl,_,w4.ld1 1 rfl zd rfl rfl,?_⟩⟩⟩⟩
 obtain⟨v6,h7,e7,s7,x7,b7⟩:=zMd (h:=h4) ((8-w.n:Nat):Int) ((1:Nat):Int) (by omega);have t7:=x7.top;have w7:=w4.ext x7;have e8:zG (8-((w.n:Nat):Int))=((8-w.n:Nat):Int):=by rw[zD (by omega) (by omega)];omega
 refine⟨v6,h7,by rw[e8,zW (by omega)];exact e7,zIe w7 s7 ok hm (by omega) (Nat.one_lt_two_pow (by omega)) (by omega) zl (λb hb=>?_) λh9 w9 t9=>⟨rfl,.ptr p5 0,h9,rfl,?_⟩⟩
 ·rw[b7]at hb
  cases hb;have:=w4.lt 0 rfl;have:=x7.le;obtain⟨_,⟨hv1,_⟩|⟨b',_,_,_,_,_,_,hv1,hlt,_⟩⟩:=s7
  ·rw[hv1]at b7;cases b7
  ·rw[hv1]at b7;cases b7;exact⟨by omega,by omega⟩
 ·rw[OI,Xb]
  exact⟨_,w9.ld1 0 rfl ZN rfl rfl,hq h9⟩
end Go.Proofs.YtnpeieeomokomaaGreat
