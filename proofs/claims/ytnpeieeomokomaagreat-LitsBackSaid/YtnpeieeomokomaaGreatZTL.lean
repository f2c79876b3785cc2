/- TL. No condition. -/
import Derived.Test.YtnpeieeomokomaaGreatZTJ
import Derived.Test.YtnpeieeomokomaaGreatZTA
import Derived.Shelf.Lays
import Derived.Shelf.Sort.Plain
import Derived.Lib.SortBridge
set_option maxRecDepth 100000
set_option maxHeartbeats 4000000
namespace Go.Proofs.YtnpeieeomokomaaGreat
open Go.Sim
variable {h:H}{Q:Uc}
variable{L:List (Nat×O)}{l sp w:Ub}{log m n p:Nat}{row:Nat->Ub}{S:Nat->Prop}{v:V}
theorem sr(b:∀x∈l,-1<=x)(h0:l≠[])(hl:l.getLast?≠some 0):1<=pts l:=by
 have c:=xr (l:=l.dropLast) λx a=>b x (by rw[List.dropLast_eq_take]at a;exact List.mem_of_mem_take a)
 have e:pts l=pts l.dropLast+pts [l.getLast h0]:=by rw[<-YW,List.dropLast_concat_getLast h0]
 rw[cF]at e;have h2:l.getLast h0≠0:=λq=>hl (by rw[List.getLast?_eq_some_getLast h0,q])
 have h3:=b _ (List.getLast_mem h0);have:1<=pt (l.getLast h0):=by unfold pt;split<;>omega
 omega
theorem rT{i:Nat}(hi:i<l.length)(hl:l.getLast?≠some 0):(l.drop i).getLast?≠some 0:=by rw[List.getLast?_drop,if_neg dd];exact hl
structure WI {hb:H}(tm:Tm) (h:H) (c p5 p3 p0 log:Nat) (l:Ub) (v:V) (i:Nat) (w:Wr) (f:Nat):Prop where
 hs:Has tm (CB p5 p3 p0 i (pts (l.drop i)).toNat)
 vw:EY (hb:=hb) h c p5 p3 p0 w log v
 ok:w.ok (4+40*i)
 fl:l.length<=i+f
 il:i<=l.length
 is:xV f w (pts (l.drop i)).toNat (l.drop i)=jN log l
theorem WX{i:Nat}(hi:i<l.length):pts (l.drop i)=pt l[i]+pts (l.drop (i+1)):=by rw[qT hi,xC]
theorem EH{hb h:H}{c p5 p3 p0 log i f:Nat}{l:Ub}{v:V}{w:Wr}{tm:Tm}{d:List AD}{R:Ud}(g:GD log l)(sl:Sl hb v 1 l.length (zI l))(hi:i<l.length)(hs:Has tm ((7,dh l[i])::CB p5 p3 p0 i (pts (l.drop i)).toNat))(vw:EY (hb:=hb) h c p5 p3 p0 w log v)(ok:w.ok (4+40*i+7))(hf:l.length<=i+1+f)(ht:hb.nx+c<=T.top)(A:(if l[i]≠0 then xV f w ((pts (l.drop i)).toNat-(pt l[i]).toNat) (l.drop (i+1)) else xV f (wz (l.drop (i+1)).length w (xA (l.drop (i+1)))) (pts (l.drop i)).toNat ((l.drop (i+1)).drop (xA (l.drop (i+1)))))=jN log l)(hR:∀F h' i' w' f',i<i'->WI (hb:=hb) F h' c p5 p3 p0 log l v i' w' f'->R .normal ⟨100,F,d,h'⟩):
  Wf Yd FL ⟨100,tm,d,h⟩ (λe s1=>(thenC (λs1=>Wf Yd cG s1 R) R) (exitB 1 e) s1):=by
 have hlen:=g.len;have X:=WX hi;have s:=g.low;have hp1:1<=pts (l.drop i):=sr (λx G=>s x (List.mem_of_mem_drop G)) (by intro q;have:=congrArg List.length q;simp at this;omega) (rT hi g.last);have hpt2:=Ka s i;have hdr:0<=pts (l.drop (i+1))/\pts (l.drop i)<=pts l:=by
  have a:=xr (l:=l.drop (i+1)) λx G=>s x (List.mem_of_mem_drop G)
  have b:=YW (l.take i) (l.drop i);rw[List.take_append_drop]at b;omega
 have hpl:pts l<=64:=by
  have:=g.pts;have:=xR g.lg;have:((2^log:Nat):Int)=2^log:=by simp
  omega
 have Ga:∀(r:Tm) (W:H) (y:Nat) (I:Wr),i<=y->y<l.length->Has r (CB p5 p3 p0 y (pts (l.drop (y+1))).toNat)->EY (hb:=hb) W c p5 p3 p0 I log v->I.ok (4+40*(i+1))->xV f I (pts (l.drop (y+1))).toNat (l.drop (y+1))=jN log l ->
   Wf Yd cG ⟨100,r,d,W⟩ R:=λr W y I q1 D o v1 o1 E=>by
  refine sg o (λB t=>hR B W (y+1) I f dd ⟨?_,v1,o1.up dd,dd,dd,E⟩);rw[zf]at t;exact t.sub de
 have G:=s _ (oV hi);have Y:=bR (l.drop (i+1));rw[List.length_drop]at Y;have J:∀j,j<xA (l.drop (i+1))->l[i+1+j]? = some 0:=λj hj=>by
  have:=aD hj
  rwa [List.getElem?_drop]at this
 have C:i+1+xA (l.drop (i+1))<l.length->l[i+1+xA (l.drop (i+1))]?.getD 0≠0:=λq=>by
  have h2:xA (l.drop (i+1))<(l.drop (i+1)).length:=by rw[List.length_drop];omega
  have:=ES h2;rw[List.getElem_drop]at this;rw[wc q];exact this
 have K:=vf (l.drop (i+1));rw[List.drop_drop]at K;rw[List.drop_drop,List.length_drop]at A;generalize xA (l.drop (i+1))=z at *;obtain⟨x,Z⟩:∃x,x=l[i]:=⟨_,rfl⟩;rw[<-Z]at hs A G X;have hptn:=qZ x;refine sg hs ⟨λq=>λr o=>?_,λq=>λr o=>?_⟩
 .show thenC _ R (exitB 1 (.exit 1)) _;rw[xM];rw[if_pos q]at A;have E:zb (((pts (l.drop i)).toNat:Int)-max x 1)=(((pts (l.drop (i+1))).toNat:Nat):Int):=by
   have:pt x=max x 1:=by unfold pt;split<;>omega
   rw[zD dd dd];omega
  rw[E]at o;refine Ga r h i w (oR _) hi (o.sub de) vw (ok.up dd) ?_;rw[<-A];congr 1;omega
 have x0:x=0:=dd
 subst x0;have hp0:pt 0=0:=rfl;rw[if_neg dd]at A;refine wpC.round (λk tm h'=>∃j:Nat,j<=z/\k=z-j/\h'=h/\Has tm ((11,dh j)::CB p5 p3 p0 (i+j) (pts (l.drop i)).toNat)) z ⟨0,dd,dd,rfl,o.sub de⟩ ?_;clear hs o;rintro k tm h' ⟨j,hj,rfl,rfl,hs⟩;have M:=sl.ext vw.ex0;refine cg Yd hs ?_;have leave:j=z->∀r,Has r (CB p5 p3 p0 (i+j) (pts (l.drop i)).toNat)->Has r [(11,dh j)] ->
   Wf Yd FK ⟨100,r,d,h'⟩ (yL Yd (λe s1=>(thenC (λs1=>Wf Yd cG s1 R) R) (exitB 1 e) s1)):=λN r o t=>by
  subst N;refine B1 (z:=j) (f:=l.length-(i+1)) (i:=i+j) (left:=(pts (l.drop i)).toNat) ⟨t.1,o⟩ vw ok dd dd dd ht λB h2 u w3=>u.slt λO P=>?_
  show thenC _ R (exitB 1 .normal) _;rw[exitB_nm];have el:(pts (l.drop i)).toNat=(pts (l.drop (i+j+1))).toNat:=by rw[show i+j+1=i+1+j by omega,K];omega
  rw[el]at P A;refine Ga O h2 (i+j) _ dd dd (P.sub de) w3 ((pC ok).up dd) ?_;rw[<-A,show i+j+1=i+1+j by omega]
 have E:zb (((i+j:Nat):Int)+1)=((i+j+1:Nat):Int):=zf;refine⟨v,vw.ld1 2 rfl zM rfl,_,M.len zM rfl,λc2=>?_,λc2=>λr o=>thenC.left (leave dd r (o.sub de) (o.sub de))⟩;have U:i+j+1<l.length:=dd
 obtain⟨b2,o2,a1,a2⟩:=yS M U;refine⟨v,vw.ld1 2 rfl zM rfl,b2,o2,by rw[E];exact a1,_,a2,λc3=>λr o=>?_,λc3=>λr o=>thenC.left (leave ?_ r (o.sub de) (o.sub de))⟩
 .have N:j<z:=by
   rcases Nat.lt_or_ge j z with D|D
   .exact D
   have:j=z:=dd
   subst this;refine absurd ?_ (C dd);rw[wc dd];simpa [show i+1+j=i+j+1 by omega]using c3
  refine sg o (λB t=>t.slt λO u=>⟨rfl,rfl,z-(j+1),dd,j+1,dd,rfl,rfl,?_⟩);rw[E,zf]at u;exact u.sub de
 rcases Nat.lt_or_ge j z with D|D
 .have:=J j D;rw[show i+1+j=i+j+1 by omega,oQ U]at this;exact absurd (Option.some.inj this) c3
 omega
theorem YZ:∀{f:Nat}{w:Wr}{m left:Nat}{l:Ub},w.ok m->(∀x∈l,-1<=x)->pts l=left->(l≠[]->l.getLast?≠some 0)->left<=64->(xV f w left l).ok (m+40*l.length+40*l.length*l.length)
 | 0,w,m,left,l,h,_,_,_,_=>by cases l<;>exact h.up dd
 | f+1,w,m,left,[],h,_,_,_,_=>h.up dd
 | f+1,w,m,left,p::l,h,b,hp,hl,d=>by
  have i:1<=pts (p::l):=sr b (by simp) (hl (by simp));have j:=b p (by simp);have o:=qZ p;have s:0<=pts l:=by
   have:=xr (l:=l) λx q=>b x (by simp[q])
   omega
  rw[xC]at hp i;have a:∀k,l.drop k≠[]->(l.drop k).getLast?≠some 0:=λk q=>by
   have t:k<l.length:=by
    rcases Nat.lt_or_ge k l.length with r|r
    .exact r
    exact absurd (List.drop_eq_nil_of_le r) q
   refine rT t ?_;have:=hl (by simp);rw[List.getLast?_cons]at this;intro r;rw[r]at this;exact this rfl
  have u:(p+1).toNat<=left+1:=by
   have:p<=pt p:=by unfold pt;split<;>omega
   omega
  have hw:=P9 (left:=left) (v:=(p+1).toNat) dd d u;have e:40*(l.length+1)*(l.length+1)=40*l.length*l.length+80*l.length+40:=by simp only[Nat.mul_add,Nat.add_mul,Nat.mul_one];omega
  have g:(p::l).length=l.length+1:=rfl;unfold xV;by_cases c:p≠0
  .rw[if_pos c];refine(YZ (l:=l) (m:=m+7) ((zj h _).up dd) (λx q=>b x (by simp[q])) dd (λq=>by have:=a 0;rw[List.drop_zero]at this;exact this q) dd).up ?_;rw[g,e];omega
  rw[if_neg c];have c0:p=0:=dd
  subst c0;have z:=bR l;have y:(jJ left 1).1<=7:=hw.1;refine(YZ (m:=m+7+2*l.length+2) ((pC (zj h _)).up dd) (λx q=>b x (by simp[List.mem_of_mem_drop q])) (by rw[vf];have:pt 0=0:=rfl;omega) (λq=>a _ q) d).up ?_;rw[List.length_drop,g,e];have A:40*(l.length-xA l)*(l.length-xA l)<=40*l.length*l.length:=Nat.mul_le_mul (Nat.mul_le_mul_left _ dd) dd;omega
theorem nG(g:GD log l):(jN log l).ok 10000:=by
 have b:=xR g.lg;have a:=g.len;have hp:pts l=((2^log:Nat):Int):=by rw[g.pts];simp
 have c:(zu ⟨[],0,0⟩ (log-5) 4).ok 4:=(zj (w:=⟨[],0,0⟩) (m:=0) ⟨dg,dg,dg⟩ 4).up dd;refine(YZ c g.low hp (λ_=>g.last) dd).up ?_;have:40*l.length*l.length<=40*12*12:=Nat.mul_le_mul (Nat.mul_le_mul_left _ a) a;omega
theorem Re{v:V}{log:Nat}{l:Ub}(sl:Sl h v 1 l.length (zI l))(g:GD log l)(hn:h.nx+10<=T.top)(hlow:h.low<=T.top)(hq:∀h',Ext h h' 3->Q (Jf (jN log l)) h'):RF P zB 175 [.agg [dh log,v]] h Q:=by
 have hpw:=xR g.lg;have M:=g.lg;have hlen:=g.len;have hp:pts l=((2^log:Nat):Int):=by rw[g.pts];simp
 refine zh Yd zDh (xQ sl ⟨dd,?_⟩);rintro p0 E rfl F;have w1:=(Vw.nil (S:=zH) (h:=h)).new F dd;have t1:=w1.top;refine⟨dd,?_⟩;rintro p3 h4 rfl e4;have w4:=w1.new (o:=gx ⟨[],0,0⟩ (209+1)) e4 dd;have t4:=w4.top;refine⟨dd,?_⟩;rintro p5 h6 rfl e6;have N:=w4.new (o:=gx ⟨[],0,0⟩ (209+1)) e6 dd;have t6:=N.top;have el:zb ((log:Int)-5)=((log-5:Nat):Int):=by rw[zD dd dd];omega
 refine⟨_,N.ld1 2 rfl zX rfl,?_⟩;show RF P zB _ [_,dh (zb _),_] _ _;rw[el];refine nf (v:=log-5) (n:=4) (m:=0) N ⟨dg,dg,dg⟩ dg dg (by rcases M with rfl|rfl<;>decide) dd λh9 O n9=>⟨rfl,_,O.ld1 2 rfl zX rfl,((1*2^log:Nat):Int),zr (a:=1) dd dd,λtm hs=>?_⟩
 refine wpC.round (λk tm h'=>∃i w f,k=l.length-i/\WI (hb:=h) tm h' 3 h4.nx E.nx h.nx log l v i w f) l.length
  ⟨0,_,l.length,dd,⟨by rw[List.drop_zero,hp];rw[show(((2^log:Nat):Int)).toNat=1*2^log by omega];exact hs.sub de,O,(zj (w:=⟨[],0,0⟩) (m:=0) ⟨dg,dg,dg⟩ 4).up dd,dd,dd,by
   rw[List.drop_zero,hp,show(((2^log:Nat):Int)).toNat=2^log by omega];rfl⟩⟩ ?_
 clear hs O n9 h9;rintro k tm h' ⟨i,w,f,rfl,a⟩;have tv:=a.vw.top;have G:=sl.ext a.vw.ex0;refine cg Yd a.hs ?_;refine⟨v,a.vw.ld1 2 rfl zM rfl,_,G.len zM rfl,λc=>?_,λc=>λtm' R=>?_⟩
 .try dsimp only
  have hi:i<l.length:=dd
  have d:=g.low;have hp1:1<=pts (l.drop i):=sr (λx J=>d x (List.mem_of_mem_drop J)) (by intro q;have:=congrArg List.length q;simp at this;omega) (rT hi g.last);have hpt2:=Ka d i;have hple:pts (l.drop i)<=64:=by have b:=YW (l.take i) (l.drop i);rw[List.take_append_drop]at b;omega
  have hpd:=WX hi;have hnn:0<=pts (l.drop (i+1)):=by
   have a:=xr (l:=l.drop (i+1)) λx J=>d x (List.mem_of_mem_drop J)
   omega
  have J:=d _ (oV hi);obtain⟨b,o,a1,a2⟩:=yS G hi;obtain⟨f1,rfl⟩:∃f1,f=f1+1:=⟨f-1,by have:=a.fl;omega⟩;have z:=a.is;rw[qT hi]at z;unfold xV at z;rw[<-qT hi]at z;have hxp:l[i]<=pt l[i]:=by unfold pt;split<;>omega
  have U:h'.low<=T.top:=by have:=a.vw.low;omega
  obtain⟨left,r⟩:∃left:Nat,(pts (l.drop i)).toNat=left:=⟨_,rfl⟩;have hs:=a.hs;rw[r]at hs z;obtain⟨s1,s2,s3⟩:=Zs left;have s4:pn left=2^xZ left-2-left:=rfl;have hb7:xZ left<=7:=zo;have hb1:=bJ left;have hp2:2^(xZ left-1)<=2^6:=Nat.pow_le_pow_right dg dd;have ev:zb (l[i]+1)=(((l[i]+1).toNat:Nat):Int):=by rw[zD dd dd];omega
  have W:(l[i]+1).toNat<=left+1:=dd
  have hw:=P9 (left:=left) (v:=(l[i]+1).toNat) dd dd W;have put:∀n y:Nat,(n,y)=jJ left (l[i]+1).toNat->∀k:V->H->Prop,(∀h2,EY (hb:=h) h2 3 h4.nx E.nx h.nx (zu w y n) log v->k (.tuple []) h2)->RF P zB 245 [dh n,dh y,.ptr h4.nx 0] h' (Xr zB 0 k):=λn y e k hk=>by have F:n=(jJ left (l[i]+1).toNat).1:=congrArg Prod.fst e;have I:y=(jJ left (l[i]+1).toNat).2:=congrArg Prod.snd e;exact nf a.vw a.ok (by have:=a.il;omega) dd (by rw[F,I];exact hw.2) dd λh2 B n2=>FS (hk h2 B)
  have fin:∀(n y:Nat) (s:Tm) (h2:H),(n,y)=jJ left (l[i]+1).toNat->EY (hb:=h) h2 3 h4.nx E.nx h.nx (zu w y n) log v->Has s ((7,dh l[i])::CB h4.nx E.nx h.nx i left) ->
    Wf Yd FL ⟨100,s,[],h2⟩ (λe s1=>(thenC (λs1=>Wf Yd cG s1 (yL Yd (thenC (λs1=>s1.n=100/\s1.dfr=[]/\∃j,j<l.length-i/\∃i w f,j=l.length-i/\WI (hb:=h) s1.tm s1.heap 3 h4.nx E.nx h.nx log l v i w f) (λe s1=>(thenC (λs1=>Wf Yd FM s1 (endW zB ⟨100,[.cell 2 209],bf 175⟩ Q)) (endW zB ⟨100,[.cell 2 209],bf 175⟩ Q)) (exitB 0 e) s1)))) (yL Yd (thenC (λs1=>s1.n=100/\s1.dfr=[]/\∃j,j<l.length-i/\∃i w f,j=l.length-i/\WI (hb:=h) s1.tm s1.heap 3 h4.nx E.nx h.nx log l v i w f) (λe s1=>(thenC (λs1=>Wf Yd FM s1 (endW zB ⟨100,[.cell 2 209],bf 175⟩ Q)) (endW zB ⟨100,[.cell 2 209],bf 175⟩ Q)) (exitB 0 e) s1)))) (exitB 1 e) s1):=λn y s h2 e B A=>by
   have F:n=(jJ left (l[i]+1).toNat).1:=congrArg Prod.fst e;have I:y=(jJ left (l[i]+1).toNat).2:=congrArg Prod.snd e;refine EH (f:=f1) g sl hi (by rw[r];exact A) B (by rw[F];exact(zj a.ok _).up dd) (by have:=a.fl;omega) dd ?_ λX h3 i2 w3 f3 hi2 a3=>a3.hs.slt λtm3 Y=>⟨rfl,rfl,l.length-i2,by have:=a3.il;omega,i2,w3,f3,rfl,⟨Y.sub de,a3.vw,a3.ok,a3.fl,a3.il,a3.is⟩⟩
   rw[r,F,I];by_cases q:l[i]≠0
   .rw[if_pos q]at z ⊢;exact z
   have q0:l[i]=0:=dd
   rw[if_neg q]at z ⊢;rw[q0];exact z
  refine⟨v,a.vw.ld1 2 rfl zM rfl,b,o,a1,_,a2,?_⟩;rw[r];refine Wo (left:=left) dd dd U ⟨_,_,rfl,λK=>?_,λK=>⟨((1*2^(xZ left-1):Nat):Int),?_,λZ=>?_,λZ=>?_⟩⟩
  .rw[ev]at K;have C:(l[i]+1).toNat<pn left:=by show _<2^zQ (left+1)-2-left;omega
   have D:(xZ left-1,(l[i]+1).toNat)=jJ left (l[i]+1).toNat:=by unfold jJ;rw[if_pos C]
   have en:zb (((zQ (left+1):Nat):Int)-1)=((xZ left-1:Nat):Int):=by have:zQ (left+1)=xZ left:=rfl;rw[this,zD dd dd];omega
   show RF P zB 245 [dh _,dh _,.ptr h4.nx 0] h' _;rw[en,ev];exact put _ _ D _ λh2 B=>λs A=>fin _ _ s h2 D B (A.sub de)
  .have en:zb (((zQ (left+1):Nat):Int)-1)=((xZ left-1:Nat):Int):=by
    have:zQ (left+1)=xZ left:=rfl;rw[this,zD dd dd];omega
   rw[en];exact zr (a:=1) dd dd
  .rw[ev]at K Z;have C:¬(l[i]+1).toNat<pn left:=by show ¬_<2^zQ (left+1)-2-left;omega
   have D:(xZ left,(l[i]+1).toNat)=jJ left (l[i]+1).toNat:=by unfold jJ;rw[if_neg C,if_pos dd]
   show RF P zB 245 [dh _,dh _,.ptr h4.nx 0] h' _;rw[ev];exact put _ _ D _ λh2 B=>λs A=>fin _ _ s h2 D B (A.sub de)
  rw[ev]at K Z;have C:¬(l[i]+1).toNat<pn left:=by show ¬_<2^zQ (left+1)-2-left;omega
  have D:(xZ left,(l[i]+1).toNat+pn left)=jJ left (l[i]+1).toNat:=by unfold jJ;rw[if_neg C,if_neg dd]
  have et:zb ((((l[i]+1).toNat:Nat):Int)+((2^zQ (left+1)-2-left:Nat):Int))=(((l[i]+1).toNat+pn left:Nat):Int):=by have:(2^zQ (left+1)-2-left:Nat)=pn left:=rfl;rw[this,zD dd dd];rfl
  show RF P zB 245 [dh _,dh _,.ptr h4.nx 0] h' _;rw[ev,et];exact put _ _ D _ λh2 B=>λs A=>fin _ _ s h2 D B (A.sub de)
 have hi:i=l.length:=by have:=a.il;omega
 subst hi;have hw:w=jN log l:=by have:=a.is;rw[List.drop_length]at this;rw[<-this];cases f<;>rfl
 subst hw;obtain⟨h2,I,B,n2,_⟩:=a.vw.st (cx:=zB) 1 (t:=209) (f:=0) (u:=Jf (jN log l)) rfl dd XQ rfl;refine thenC.left (sg R ⟨_,_,_,Bt a.vw (i:=0) rfl,h2,I,λX hs2=>endW.ok (leave.cell (hs2.get (t:=2) rfl) (B.ldA 1 rfl XQ rfl) rfl) (hq h2 B.ex0)⟩)
theorem lC(sl:Sl h v 1 l.length (zI l))(g:GD log l)(j:h.nx+20<=T.top)(b:h.low<=T.top)(d:∀h',Ext h h' 4->Q (.tuple [.str (uj log l),dh 0]) h'):RF P zB 103 [.agg [dh log,v]] h Q:=by refine zh zGz zDM (xQ sl ⟨dd,?_⟩);rintro p0 k rfl e;have a:=(Vw.nil (S:=zH) (h:=h)).new e dd;have o:=a.top;have f:=Sg a.ex0 b;refine⟨_,_,a.ldA 0 rfl xE rfl,jB (sl.ext a.ex0) g ⟨0,rfl,λc=>absurd rfl c,λ_=>⟨_,_,a.ldA 0 rfl xE rfl,Re (sl.ext a.ex0) g dd f λh2 i=>⟨_,_,_,rfl,EG (nG g) dg ⟨_,_,rfl,d h2 (a.ex0.trans i |>.mono dd)⟩⟩⟩⟩⟩
def Xx(s:Ua)(p n:Nat):Wr:=if n<8 then ⟨s,p,n⟩ else Xx (s++[UInt8.ofNat (p % 256)]) (p/256) (n-8)
termination_by n
decreasing_by omega
theorem Zh{s:Ua}(h:n<8:=by omega):Xx s p n=⟨s,p,n⟩:=by rw[Xx,if_pos h]
theorem KG{s:Ua}(h:¬n<8:=by omega):Xx s p n=Xx (s++[UInt8.ofNat (p % 256)]) (p/256) (n-8):=by rw[Xx,if_neg h]
theorem LU(h:8<=m):2^m=256*2^(m-8):=by rw[show(256:Nat)=2^8 from rfl,<-Nat.pow_add,show 8+(m-8)=m by omega]
theorem gK:∀(k:Nat) {s:Ua}{p m b:Nat},m<=k->p<2^m->b<2->Xx s (p+b*2^m) (m+1)=rx (Xx s p m) b
 | k,s,p,m,b,g,hp,hb=>by
  rcases Nat.lt_or_ge m 7 with h|h
  .rw[Zh,Zh];unfold rx;rw[if_neg (by show ¬m=7;omega)]
  rcases Nat.eq_or_lt_of_le h with d|i
  .subst d;rw[KG,Zh,Zh];unfold rx;rw[if_pos rfl];have a:p+b*2^7<256:=dd
   rw[ou a,Nat.div_eq_of_lt a]
  obtain⟨c,rfl⟩:∃c,k=c+1:=⟨k-1,dd⟩
  have hs:=LU (show 8<=m by omega);have e:(p+b*2^m) % 256=p % 256:=by rw[hs,show b*(256*2^(m-8))=256*(b*2^(m-8))by rw[<-Nat.mul_assoc,Nat.mul_comm b 256,Nat.mul_assoc],Nat.add_mul_mod_self_left]
  have f:(p+b*2^m)/256=p/256+b*2^(m-8):=by rw[hs,show b*(256*2^(m-8))=256*(b*2^(m-8))by rw[<-Nat.mul_assoc,Nat.mul_comm b 256,Nat.mul_assoc],Nat.add_mul_div_left _ _ dg]
  rw[KG,KG (show ¬m<8 by omega),e,f,show m+1-8=(m-8)+1 by omega];exact gK c dd (by rw[hs]at hp;exact Nat.div_lt_of_lt_mul hp) hb
theorem G5(v k:Nat):v % 2^(k+1)=v % 2^k+v/2^k % 2*2^k:=by rw[Nat.pow_succ,Nat.mod_mul,Nat.mul_comm (2^k)]
theorem gL{w:Wr}{m v:Nat}(ok:w.ok m):∀k,Xx w.s (w.p+v % 2^k*2^w.n) (w.n+k)=zu w v k
 | 0=>by have:=ok.n;rw[Nat.pow_zero,Nat.mod_one,Nat.zero_mul,Nat.add_zero,Nat.add_zero,Zh];rfl
 | k+1=>by
  have ih:=gL ok (v:=v) k;have hp:=ok.p;have hm:v % 2^k<2^k:=Nat.mod_lt _ (Nat.pow_pos dg);have e:w.p+v % 2^(k+1)*2^w.n=(w.p+v % 2^k*2^w.n)+(v/2^k % 2)*2^(w.n+k):=by rw[G5,Nat.add_mul,Nat.mul_assoc,<-Nat.pow_add,Nat.add_comm k w.n];omega
  have a:w.p+v % 2^k*2^w.n<2^(w.n+k):=by have b:(v % 2^k+1)*2^w.n<=2^k*2^w.n:=Nat.mul_le_mul_right _ dd;rw[Nat.add_mul,Nat.one_mul]at b;rw[Nat.pow_add,Nat.mul_comm (2^w.n)];omega
  rw[e,show w.n+(k+1)=w.n+k+1 by omega,gK _ (oR _) a (Nat.mod_lt _ dg),ih];rfl
def OwB(h:H)(v:V)(l:Ua):Prop:=∃b cs,v = .slice b 0 l.length (.skip 0)/\b<h.nx/\h.get b=some (.cells cs ⟨1,0,0⟩ true true)/\cs.wf/\cs.len=l.length/\∀i,i<l.length->cs.get? i=(Jh l)[i]?
theorem OwB.sl{l:Ua}(o:OwB h v l):Sl h v 1 l.length (Jh l):=by obtain⟨b,cs,rfl,a,h2,h3,h4,c⟩:=o;exact⟨by rw[kY,Nat.mul_one],.inr ⟨b,0,_,cs,_,_,_,rfl,a,h2,λi hi=>by rw[Nat.zero_add];exact c i dd⟩⟩
theorem OwB.ext{h h':H}{l:Ua}(o:OwB h v l)(e:Ext h h' m):OwB h' v l:=by obtain⟨b,cs,rfl,a,h2,h3⟩:=o;exact⟨b,cs,rfl,oL a e.le,by rw[e.get b a];exact h2,h3⟩
theorem OwB.kept{h h':H}{l:Ua}(o:OwB h v l)(a:h.nx<=h'.nx)(c:∀b,z6 v=some b->h'.get b=h.get b):OwB h' v l:=by obtain⟨b,cs,rfl,d,h2,h3⟩:=o;exact⟨b,cs,rfl,oL d a,by rw[c b rfl];exact h2,h3⟩
theorem tn:∀l:Ua,yU l=Jh l
 | []=>rfl
 | b::l=>by show V.int .u8 (.ofNat b.toNat)::yU l=_;rw[tn l];rfl
theorem bX:∀l:Ua,zU (Jh l)=true
 | []=>rfl
 | _::l=>bX l
theorem sL{l:Ua}(hl:l.length<=200000)(a:h.nx<T.top):∃v h',wZ zB 9 71 h (.str l)=some (v,h')/\OwB h' v l/\Ext h h' 1/\z6 v=some h.nx:=by obtain⟨cs,b,h2⟩:=Cs.ofL_some (l:=Jh l) (by rw[kY];omega);obtain⟨h3,h4⟩:=Cs.ofL_eq b;refine⟨.slice h.nx 0 l.length (.skip 0),h.new (.cells cs ⟨1,0,0⟩ true true),?_,⟨h.nx,cs,rfl,by rw[zC];omega,zK _ a,h2,by rw[h3,kY],λi _=>h4 i⟩,Ext.new _ a,rfl⟩;unfold wZ;simp only[xk,Je,EC];unfold qg kJ;rw[tn,bX,oN,b];simp only[(zW _ _).2 a,oN,yl,Nat.zero_add]
theorem OwB.app{x:V}{l:Ua}{b:UInt8}(o:OwB h v l)(s:Sl h x 1 1 [tY b])(hl:l.length<=200000)(t:h.nx<T.top):
  ∃v' h',zi zB 71 h v x=some (v',h')/\OwB h' v' (l++[b])/\h.nx<=h'.nx/\h'.nx<=h.nx+1/\(∀i,i<h.nx->z6 v≠some i->h'.get i=h.get i)/\z6 v'=some h.nx/\h'.low<=h.low/\(∀m,m<=h.low->(∀i,z6 v=some i->m<=i)->m<=h'.low):=by
 obtain⟨bk,cs,rfl,hb,u,hw,a,y⟩:=o;obtain⟨g,q,h2⟩:=Cs.app_some (cs:=cs) (vs:=[tY b]) (by rw[a];simp;omega);obtain⟨h3,h4⟩:=Cs.app_eq q;have j:bk<T.top:=dd
 have d:(qq h bk).nx<T.top:=t;refine⟨.slice (qq h bk).nx 0 (l.length+1) (.skip 0),(qq h bk).new (.cells g ⟨1,0,0⟩ true true),?_,⟨(qq h bk).nx,g,by rw[oW];rfl,by rw[zC];exact om _,zK _ d,h2,by rw[h3,a,oW];rfl,λi hi=>?_⟩,by rw[zC];exact Nat.le_succ _,by rw[zC];exact oR _,λi hi f=>?_,rfl,(by show(h.upd bk none).low<=_;rw[H.low_upd];exact Nat.min_le_left _ _),λm hm k=>(by show m<=(h.upd bk none).low;rw[H.low_upd];exact Nat.le_min.2 ⟨hm,k bk rfl⟩)⟩
 .unfold zi;rw[Je];simp only[EC];have xI:jo nB=true:=rfl;rw[show jo ⟨5,.int .u8,1,1,some (.int .u8 (.ofNat 0)),true,false,false,[]⟩=true from xI,oN];rw[s.src dg dg];simp only;unfold Go.Sim.appTo;simp only[u];unfold kX;have z:(true && true && Nat.beq 1 1 && Nat.beq 0 (0*1) && zU [tY b] && Nat.ble (0+l.length*1) cs.len)=true:=by
   have:Nat.ble (0+l.length*1) cs.len=true:=oE (by rw[a];omega);rw[this];rfl
  show cond (true && true && Nat.beq 1 1 && Nat.beq 0 (0*1) && zU [tY b] && Nat.ble (0+l.length*1) cs.len) _ _=_;rw[z,oN];show(match qh h bk 0 l.length (.skip 0) 1 (l.length+1) cs ⟨1,0,0⟩ true [tY b]with|some r=>some r|none=>Yh nB h bk 0 l.length 0 (l.length+1) cs ⟨1,0,0⟩ [tY b])=_;have A:qh h bk 0 l.length (.skip 0) 1 (l.length+1) cs ⟨1,0,0⟩ true [tY b]=none:=by unfold qh;rw[vg (by rw[a];simp)]
  rw[A];simp only;unfold Yh;have B:(Nat.beq 0 0 && Nat.beq cs.len (0+l.length*1) && Nat.ble 0 (0+l.length*1) && (Nat.beq 0 0 || Nat.beq 0 (5+1)))=true:=by rw[a];simp
  show cond (Nat.beq 0 0 && Nat.beq cs.len (0+l.length*1) && Nat.ble 0 (0+l.length*1) && (Nat.beq 0 0 || Nat.beq 0 (5+1))) _ _=_;rw[B,oN,q];exact xg (by show(l.length+1)*1<=_;omega) d
 .rw[h4,a,Js];by_cases c:i<l.length
  .rw[if_pos c,y i c,List.getElem?_append_left (by rw[kY];exact c)]
  rw[if_neg c,List.getElem?_append_right (by rw[kY];omega),kY];rfl
 have f:i≠bk:=λe=>f (by rw[e];rfl)
 rw[zn _ d (show i<(qq h bk).nx from hi)];exact zL _ j f
abbrev oBw(w:Wr):O:=.cells (.ls [.str w.s,.int .u64 (w.p:Nat),dh (w.n:Nat)]) ⟨0,300+1,0⟩ true false
theorem Ed:xK zB 296 (.ptr p 0) (dh 0)=some (.ptr p 0):=de
theorem Ee:xK zB 296 (.ptr p 0) (dh 1)=some (.ptr p 1):=de
theorem HU{l:Ua}(o:OwB h v l):wZ zB 71 9 h v=some (.str l,h):=by
 rcases Nat.eq_zero_or_pos l.length with a|a
 .obtain⟨b,cs,rfl,hb,d,hw,hl,e⟩:=o;have c:l=[]:=List.eq_nil_of_length_eq_zero a;subst c;show wZ zB 71 9 h (.slice b 0 0 (.skip 0))=some (.str [],h);unfold wZ;rw[Je,xk];simp only[EC,d,Kd cs 0 (.inr trivial)];rfl
 exact Ze o.sl a
theorem OwB.step{S:Nat->Prop}{hb h:H}{c:Nat}{L:List (Nat×O)}{v:V}{l:Ua}{x:Nat}(w:Vw S hb h c L)(o:OwB h v l)(sp:Sep S hb.nx L v)(i:x<256)(hl:l.length<=200000)(s:h.nx+2<=T.top):
  ∃v1 h1,zO zB 71 1 [(0,.int .u8 (x:Nat))] h=some (v1,h1)/\∃a h2,zi zB 71 h1 v v1=some (a,h2)/\Vw S hb h2 (c+2) L/\OwB h2 a (l++[UInt8.ofNat x])/\Sep S hb.nx L a:=by
 obtain⟨h1,j,s1,d⟩:=ZC (h:=h) (x:Nat) dd;have t:=d.top;rw[<-JR i]at s1;obtain⟨a,h2,k,r,a1,a2,a3,a4,a5,a6⟩:=(o.ext d).app s1 hl dd;have e:=w.ext d;refine⟨_,h1,j,a,h2,k,e.apart (ExtX.append a1 a2 a3 a5 a6) (λb g=>(sp b g).1) (λq f g=>(sp _ g).2 q f rfl),r,λb g=>?_⟩;rw[a4]at g;cases g;exact⟨.inr e.le,λq f=>Nat.ne_of_lt (e.bk.lt q f)⟩
theorem QC{S:Nat->Prop}{hb h:H}{c p m k v:Nat}{L:List (Nat×O)}{w:Wr}{v1:V}(vw:Vw S hb h c ((p,oBw w)::L))(sv:Sl h v1 2 1 [.int .u64 (k:Nat),.int .u64 (v:Nat)])(ok:w.ok m)(hm:m+100<=1000000)(hv:v<2^k)(hlow:hb.low<=T.top)(hsv:∀b,z6 v1=some b->b≠p/\b<h.nx)(hq:∀h',Vw S hb h' (c+30) ((p,oBw (zu w v k))::L)->h'.nx<=h.nx+30->Q (.tuple []) h')(hk:k<=32:=by omega)(hn:h.nx+100<=T.top:=by omega):RF P zB 252 [.ptr p 0,v1] h Q:=by
 obtain⟨s,D,n⟩:=w;have d:=gL ok (v:=v) k;rw[ou hv]at d;obtain⟨hp,K,hs⟩:=ok;simp only at hp K hs d;replace vw:Vw S hb h c ((p,.cells (.ls [.str s,.int .u64 (D:Nat),dh (n:Nat)]) ⟨0,300+1,0⟩ true false)::L):=vw;have hpn:2^n<=2^7:=Nat.pow_le_pow_right dg K;have hvk:2^k<=2^32:=Nat.pow_le_pow_right dg hk;have hvn:v*2^n<=2^32*2^7:=Nat.mul_le_mul dd hpn;refine zh Ad zE3 ⟨_,sv.len EB rfl,λtm hs=>?_⟩;refine wpC.round (λj tm h'=>∃i:Nat,j=1-i/\i<=1/\(i=0->h'=h)/\Has tm [(9,dh i),(8,dh (1:Nat)),(7,v1),(0,.ptr p 0)]/\h'.nx<=h.nx+1 /\
  Vw S hb h' (c+i) ((p,.cells (.ls [.str s,.int .u64 ((if i=0 then D else D+v*2^n:Nat):Int),dh ((if i=0 then n else n+k:Nat):Int)]) ⟨0,300+1,0⟩ true false)::L)) 1 ⟨0,rfl,dg,λ_=>rfl,hs.sub de,dd,vw⟩ ?_
 clear hs;rintro j tm h' ⟨i,rfl,hi1,hh,hs,M,B⟩;refine cg Ad hs ⟨λq=>?_,λq=>λE r=>?_⟩
 .have i0:i=0:=dd
  subst i0;have:=hh rfl;subst this;rw[if_pos rfl,if_pos rfl]at B;obtain⟨b,o,a1,a2⟩:=sv.atA (cx:=zB) (i:=0) (ys:=[.int .u64 (k:Nat),.int .u64 (v:Nat)]) dg EB rfl EA rfl rfl dg rfl (λj hj=>by rw[Nat.zero_mul,Nat.zero_add]);refine⟨b,o,a1,_,_,a2.1,dd,?_⟩;rintro p4 h5 rfl e5;have w5:=B.new e5 dd;have t5:h5.nx=h'.nx+1:=by rw[e5,zC]
  obtain⟨h6,e6,N,n6,_⟩:=w5.st (cx:=zB) 0 (t:=296) (f:=0) (u:=.agg [.int .u64 (k:Nat),.int .u64 (v:Nat)]) rfl dd EA rfl;have l6:h6.low<=T.top:=by have:=N.low;omega
  refine⟨h6,e6,⟨dd,l6⟩,?_⟩;refine⟨_,N.ld1 1 rfl nD rfl,_,_,Ee,_,N.ld1 0 rfl nD rfl,?_⟩;refine⟨_,N.ld1 1 rfl zX rfl,((v*2^n:Nat):Int),by rw[zV dd];exact wD dd dd,((D+v*2^n:Nat):Int),by rw[<-qC hp];exact ZM,?_⟩;obtain⟨h7,e7,w7,n7,_⟩:=N.st (cx:=zB) 1 (t:=127) (f:=0+1) (u:=.int .u64 ((D+v*2^n:Nat):Int)) rfl dd nD rfl;have l7:h7.low<=T.top:=by have:=w7.low;omega
  refine⟨h7,e7,⟨dd,l7⟩,?_⟩;refine⟨_,w7.ld1 1 rfl zX rfl,_,_,Ed,_,w7.ld1 0 rfl nD rfl,?_⟩;have en:zb (((n:Nat):Int)+zb ((k:Nat):Int))=((n+k:Nat):Int):=by rw[IB dd,zD dd dd];rfl
  obtain⟨R,e8,w8,n8,_⟩:=w7.st (cx:=zB) 1 (t:=3) (f:=0+2) (u:=dh ((n+k:Nat):Int)) rfl dd zX rfl;refine⟨R,by rw[en];exact e8,λE r=>⟨rfl,rfl,0,dg,1,rfl,dg,λq=>absurd q dg,r.sub de,by show R.nx<=_;omega,w8.drop 1⟩⟩
 have i1:i=1:=dd
 subst i1;rw[if_neg dg,if_neg dg]at B;refine thenC.left (sg r ?_);obtain⟨v8,h9,e9,o9,x9,b9⟩:=sL (h:=h') (l:=s) dd dd;have w9:=B.ext x9;have t9:=x9.top;refine⟨s,B.ld1 0 rfl xk rfl,v8,h9,e9,λtm2 z=>?_⟩;refine wpC.round (λj tm h'=>∃(s1:Ua) (y:Nat) (v6:V) (g:Nat),Xx s1 y j=zu ⟨s,D,n⟩ v k/\y<18446744073709551616/\j<=n+k/\s1.length<=s.length+g/\8*g+j<=n+k/\OwB h' v6 s1/\Sep S hb.nx ((p,.cells (.ls [.str s,.int .u64 (y:Nat),dh (j:Nat)]) ⟨0,300+1,0⟩ true false)::L) v6/\h'.nx<=h.nx+2+2*g /\
  Has tm [(0,.ptr p 0),(6,v6)]/\Vw S hb h' (c+2+2*g) ((p,.cells (.ls [.str s,.int .u64 (y:Nat),dh (j:Nat)]) ⟨0,300+1,0⟩ true false)::L)) (n+k)
  ⟨s,D+v*2^n,v8,0,d,dd,oR _,dd,dd,o9,λb A=>by
   rw[b9]at A;cases A;exact⟨.inr (by have:=B.le;omega),λq hq=>Nat.ne_of_lt (B.bk.lt q hq)⟩,dd,z.sub de,w9⟩ ?_
 clear z o9 w9 B hs r b9 e9 x9 hh M t9;rintro j tm h3 ⟨s1,y,v6,g,d,hp1,hjk,hsl,hg,o6,sp,M,hs,w2⟩;refine cg Ad hs ?_;refine⟨_,w2.ld1 0 rfl zX rfl,λq=>?_,λq=>λE r=>?_⟩
 .try dsimp only
  rw[KG]at d;obtain⟨v10,h11,F,G,U,I,W,o13,C⟩:=o6.step w2 sp (x:=y % 256) (Nat.mod_lt _ dg) dd dd;have t13:U.nx<=h3.nx+2:=by have a:=ZC (h:=h3) ((y % 256:Nat):Int) dd;obtain⟨h1,e1,X,x1⟩:=a;have:=x1.top;rw[e1]at F;cases F;obtain⟨v2,h2,e2,_,_,a2,_⟩:=(o6.ext x1).app (by rw[<-JR (Nat.mod_lt y dg)]at X;exact X) dd dd;rw[e2]at I;cases I;omega
  refine⟨_,w2.ld1 0 rfl nD rfl,v10,h11,by rw[wy];exact F,trivial,G,U,I,?_⟩;refine⟨_,W.ld1 0 rfl nD rfl,((y/2^8:Nat):Int),ko (n:=8) dg,?_⟩;obtain⟨h14,e14,Y,n14,g14⟩:=W.st (cx:=zB) 0 (t:=127) (f:=0+1) (u:=.int .u64 ((y/2^8:Nat):Int)) rfl dd nD rfl;refine⟨h14,e14,?_⟩;refine⟨_,Y.ld1 0 rfl zX rfl,?_⟩;have ej:zb (((j:Nat):Int)-8)=((j-8:Nat):Int):=by rw[zD dd dd];omega
  obtain⟨J,e15,w15,n15,g15⟩:=Y.st (cx:=zB) 0 (t:=3) (f:=0+2) (u:=dh ((j-8:Nat):Int)) rfl dd zX rfl;have o15:OwB J G (s1++[UInt8.ofNat (y % 256)]):=o13.kept dd λb A=>by
   have Z:b≠p:=λe=>(C b A).2 _ (List.mem_cons_self ..) e.symm
   rw[g15 b Z,g14 b Z]
  have hd:y/2^8<=y:=Nat.div_le_self _ _;refine⟨J,by rw[ej];exact e15,λE r=>⟨rfl,rfl,j-8,dd,s1++[UInt8.ofNat (y % 256)],y/2^8,G,g+1,d,dd,dd,by rw[oW];simp;omega,dd,o15,C.head,by show J.nx<=_;omega,r.sub de,w15.more dd⟩⟩
 rw[Zh]at d;obtain⟨b6,c6,e6⟩:∃b c,v6 = .slice b 0 s1.length c:=by obtain⟨b,cs,rfl,_⟩:=o6;exact⟨_,_,rfl⟩
 subst e6;refine thenC.left (sg r ⟨_,_,HU o6,?_⟩);obtain⟨R,e8,w8,n8,_⟩:=w2.st (cx:=zB) 0 (t:=9) (f:=0+0+0) (u:=.str s1) rfl dd xk rfl;refine⟨R,e8,λtm2 z=>z.slt λtm3 hs3=>?_⟩;rw[<-d]at hq;exact hq R (w8.more dd) dd
abbrev Qy(w:Wr):O:=gx w (220+1)
theorem EW{hb h:H}{c i:Nat}{w:Wr}(vw:Vw S hb h c L)(a:L[i]? = some (p,Qy w)):ye zB 220 h (.ptr p 0)=some (Jf w):=vw.ldA i a uM rfl
theorem tR{w:Wr}(ok:w.ok m)(e:Q (dh 0) h)(hm:m<=8388600:=by omega):RF P zB 249 [Jf w] h Q:=by
 refine RF.plain ?_ (zg rfl);have e:∀h':H,Plain (dh 0)/\Q (dh 0) h:=λ_=>⟨zN _ _,e⟩
 obtain⟨hp,f,hs⟩:=ok;have g:2^w.n<=2^7:=Nat.pow_le_pow_right dg f;refine zh zHb zE0 ⟨dg,?_⟩;rintro p0 i rfl j;have d:=(Vw.nil (S:=zH) (h:=H0)).new (o:=Qy w) j dg;have k:w.n &&& 7=w.n:=by rw[show(7:Nat)=2^3-1 from rfl,jt,ou]
 refine⟨_,d.ld1 0 rfl zX rfl,λc=>dd,λ_=>⟨_,d.ld1 0 rfl zX rfl,λc=>dd,λ_=>⟨_,d.ld1 0 rfl zX rfl,λc=>dd,λ_=>⟨_,d.ld1 0 rfl zX rfl,_,d.ld1 0 rfl zX rfl,((w.n:Nat):Int),?_,((1*2^w.n:Nat):Int),by rw[zV dd];exact zr (a:=1) dd dd,λc=>dd,λ_=>⟨_,d.ld1 0 rfl xk rfl,λc=>absurd (show(1048576:Int)<(w.s.length:Int)from c) dd,λ_=>kE ⟨_,rfl,e i⟩⟩⟩⟩⟩⟩;have:=qf (a:=w.n) (b:=7) dd dg
 rwa [k]at this
theorem gy{hb h:H}{c:Nat}{w:Wr}(vw:Vw S hb h c L)(ok:w.ok m)(i:∀h' p,Vw S hb h' (c+2) ((p,oBw w)::L)->h'.nx=h.nx+2->Q (.ptr p 0) h')(q:h.nx+2<=T.top:=by omega):RF P zB 251 [Jf w] h Q:=by
 have j:2^w.n<=2^7:=Nat.pow_le_pow_right dg ok.n;have hp:=ok.p;refine zh zHd zE2 ⟨dd,?_⟩;rintro p0 e rfl f;have b:=vw.new (o:=Qy w) f dd;have n1:e.nx=h.nx+1:=by rw[f,zC]
 refine⟨_,b.ld1 0 rfl xk rfl,_,b.ld1 0 rfl zX rfl,_,b.ld1 0 rfl zX rfl,dd,?_⟩;rintro p5 g rfl d;rw[zV dd]at d;have a:=b.new (o:=oBw w) d dd;have k:Vw S hb g (c+2) ((e.nx,oBw w)::L):=⟨a.ex,a.bk.1,a.bk.2.1,a.bk.2.2.1,a.bk.2.2.2.2.2.2.up (Nat.le_of_lt a.bk.2.2.2.1)⟩;exact i g _ k (by rw[d,zC,n1])
theorem DD(a b c:Int)(d:h.nx<T.top):∃h',zO zB 343 3 [(0,dh a),(1,dh b),(2,dh c)] h=some (.slice h.nx 0 3 (.exact 3),h')/\Sl h' (.slice h.nx 0 3 (.exact 3)) 1 3 [dh a,dh b,dh c]/\Ext h h' 1:=by
 have e:zO zB 343 3 [(0,dh a),(1,dh b),(2,dh c)] h=(match (cond (Nat.blt h.nx T.top) (some (h.nx,h.new ((.cells (.ls [dh a,dh b,dh c]) ⟨0,24+1,0⟩ true false)))) none:Option (Nat×H))with|some (b,h')=>some (.slice b 0 3 (.exact 3),h')|none=>none):=de
 rw[(zW _ _).2 d,oN]at e;exact⟨_,e,⟨rfl,.inr ⟨h.nx,0,_,_,_,_,_,rfl,by rw[zC];omega,zK _ d,λi hi=>by
  rcases i with _|_|_|i
  .rfl
  .rfl
  .rfl
  omega⟩⟩,Ext.new _ d⟩
theorem HB(k v:Int)(a:h.nx<T.top):∃v1 h',zO zB 344 1 [(0,.agg [.int .u64 k,.int .u64 v])] h=some (v1,h')/\Sl h' v1 2 1 [.int .u64 k,.int .u64 v]/\Ext h h' 1/\z6 v1=some h.nx :=
 xG (c:=zB) (h:=h) (u:=.agg [.int .u64 k,.int .u64 v]) (ys:=[.int .u64 k,.int .u64 v]) EB rfl EA rfl rfl rfl rfl dg rfl a
theorem eO{w:Wr}{k v:Nat}(ok:w.ok m)(hm:m+100<=1000000)(hk:k<=11)(N:v<2^k)(z:Q (.tuple [Jf (zu w v k),dh 0]) h):RF P zB 257 [Jf w,dh k,.int .u64 v] h Q:=by
 refine RF.plain ?_ (zg rfl);have z:∀h':H,Plain (.tuple [Jf (zu w v k),dh 0])/\Q (.tuple [Jf (zu w v k),dh 0]) h:=λ_=>⟨zk rfl,z⟩
 have ht:=zt;have hvk:2^k<=2^11:=Nat.pow_le_pow_right dg hk;have hs:=ok.s;have A:=ok.n;have z0:H0.nx=0:=rfl;have zl:H0.low<=T.top:=oG rfl;have hn:2^w.n<=2^7:=Nat.pow_le_pow_right dg A;have hp:=ok.p;refine zh zHh zE8 ⟨dg,?_⟩;rintro p0 O rfl y;have w1:=(Vw.nil (S:=zH) (h:=H0)).new (o:=Qy w) y dg;have n1:O.nx=H0.nx+1:=by rw[y,zC]
 refine⟨dd,?_⟩;rintro p2 h3 rfl R;have j:=w1.new (o:=Qy ⟨[],0,0⟩) R dd;have n3:h3.nx=O.nx+1:=by rw[R,zC]
 have B:h3.low<=T.top:=by have:=j.low;omega
 have C:h3.nx<=T.top:=dd
 refine⟨⟨C,B⟩,_,_,_,EW j (i:=1) rfl,tR ok ⟨_,rfl,nd C B ?_⟩⟩;have D:k &&& 63=k:=by rw[show(63:Nat)=2^6-1 from rfl,jt,ou]
 have U:=qf (a:=k) (b:=63) dd dg;rw[D]at U;have ev:v/2^k=0:=Nat.div_eq_of_lt N;refine⟨λc=>dd,λ_=>⟨λc=>dd,λ_=>⟨_,U,_,by rw[zV dd];exact ko dd,λc=>absurd (by rw[ev];rfl) c,λ_=>kE ⟨_,rfl,nd C B ?_⟩⟩⟩⟩;have y:zb ((w.n:Int)+k)=((w.n+k:Nat):Int):=by rw[zD dd dd];rfl
 have e2:zb (Int.tdiv (zb ((w.n:Int)+k)) 8)=(((w.n+k)/8:Nat):Int):=by rw[y,show Int.tdiv ((w.n+k:Nat):Int) 8=(((w.n+k)/8:Nat):Int)from rfl,zD dd dd]
 refine⟨_,j.ld1 1 rfl xk rfl,_,j.ld1 1 rfl zX rfl,dg,λc=>absurd (show(1048576:Int)<zb ((w.s.length:Int)+zb (Int.tdiv (zb ((w.n:Int)+k)) 8))from c) (by rw[e2,zD dd dd];omega),λ_=>kE ⟨_,rfl,λe=>(by cases e),?_⟩⟩;obtain⟨h5,x5,s5,V⟩:=DD (h:=h3) 0 0 0 dd;have W:=j.ext V;have t5:=V.top;refine⟨_,h5,x5,qk (l:=[0,0,0]) s5 (by simp) ⟨_,rfl,λtm1 E=>sg E ⟨λc=>absurd rfl c,λ_=>λtm2 F=>thenC.nx (F.sealK λtm3 G=>?_)⟩⟩⟩;refine sg G ⟨_,_,_,EW W (i:=1) rfl,gy W ok λh4 p5 X n4=>⟨_,rfl,?_⟩⟩;obtain⟨v6,I,e7,Y,J,q⟩:=HB (h:=h4) (k:Nat) (v:Nat) dd;have t7:=J.top;have w7:=X.ext J;refine⟨v6,I,by rw[zV dd];exact e7,QC w7 Y ok hm N zl (λb hb=>?_) λZ r t9=>⟨rfl,?_⟩⟩
 .rw[q]at hb;cases hb;have:=X.lt 0 rfl;have:=J.le;have d:I.nx=h4.nx+1:=by
   have e8:I=h4.new (.cells (.ls [.int .u64 (k:Nat),.int .u64 (v:Nat)]) ⟨0,296+1,0⟩ true false)\/True:=.inr trivial;obtain⟨_,⟨g,_⟩|⟨b',_,_,_,_,_,_,g,hlt,_⟩⟩:=Y
   .rw[g]at q;cases q
   rw[g]at q;cases q;omega
  exact⟨dd,dd⟩
 have l9:Z.low<=T.top:=by have:=r.low;omega
 have i9:Z.nx<=T.top:=dd
 refine⟨⟨i9,l9⟩,?_⟩;refine⟨_,r.ld1 0 rfl xk rfl,?_⟩;refine⟨_,r.ld1 0 rfl nD rfl,?_⟩;have s:=zj ok (v:=v) k;have hpn2:2^(zu w v k).n<=2^7:=Nat.pow_le_pow_right dg s.n;have hp2:=s.p;obtain⟨d,K,M,n10,_⟩:=r.st (cx:=zB) 1 (t:=220) (f:=0) (u:=Jf (zu w v k)) rfl i9 uM rfl;refine⟨_,r.ld1 0 rfl zX rfl,d,by rw[IB dd];exact K,λtm4 x=>endW.ok (leave.cell (x.get (t:=6) rfl) (M.ldA 1 rfl uM rfl) (leave.tmp (x.get (t:=7) rfl) rfl)) (z d)⟩
section
open Go.Sim Go
theorem _root_.Go.Sim.ORel.back{ρ ρ':Env}{D D':Nat->Prop}{b:Nat}{o:O}{s x:Option Obj}(h0:ORel ρ D b o s)(h:ORel ρ' D' b o x)(hb:D b)(d:Agree D ρ ρ'):ORel ρ D b o x:=by
 obtain⟨_,j,u⟩:=d b hb;cases o with
 | cells l esz wr op =>
  obtain⟨c,e,fz,f,h2,h3,h4⟩:=h;obtain⟨_,_,_,_,_,g,_⟩:=h0;refine⟨c,e,fz,f,λi v k=>?_,g,λhw=>?_⟩
  .have:=h2 i v k
   rwa [V.conc_agree d v (g i v k),j]at this
  have:=h4 hw
  rwa [j,u]at this
 | map es clock=>obtain⟨_,a⟩:=h0;refine⟨?_,a⟩;rw[h.1];congr 3;exact List.map_congr_left λe q=>by unfold Ent.conc;rw[V.conc_agree d _ (a e q).1,V.conc_agree d _ (a e q).2]
 | loop st pending n tm params assign body dfr =>
  obtain⟨fn,tmps,f,h2,h3⟩:=h;obtain⟨_,_,_,a,g⟩:=h0;refine⟨fn,tmps,?_,⟨h2.size,h2.cap,λt=>?_,a.inn⟩,g⟩
  .rw[f,(d dfr g).1]
  rw[h2.val t,V.conc_agree d _ (a.inn t)]
 | deferred there=>exact h
 | strIter l pos=>exact h
 | mapIter m since seen stepped =>
  obtain⟨f,_⟩:=h;obtain⟨_,a⟩:=h0;refine⟨?_,a⟩;rw[f];rcases m with _|r
  .rfl
  rw[ol,ol,(d r (a r rfl)).1]
theorem _root_.Go.Sim.SimF.forget{P:Program}{f:Nat}{args:Ug}{h h':H}(s:SimF P f args h (.ret v h'))(c:Plain v)(j:∀b,b<h.nx->h'.get b=h.get b):SimF P f args h (.ret v h):=by intro ρ D w hr d;refine CallsIn.mono (s ρ D w hr d) ?_;rintro e w' ⟨ρ',rfl,m,i,_⟩;refine⟨ρ,by rw[c.1 ρ',c.1 ρ],⟨oR _,m.size,m.os,m.tape,m.output,Agree.refl _ _,λid o' _ g=>⟨o',g,rfl⟩,λid o' q r _=>dd,m.frame,oR _,λ_ _ _=>rfl⟩,?_,c.2 _⟩;rw[zd];refine⟨hr.cap,hr.lt,λid o hd a=>?_,hr.inj⟩;have k:=hr.rel id o hd a;have h2:=i.rel id o (.inl hd) (by rw[j id (hr.lt id hd)];exact a);rw[(m.agree id hd).1]at h2;exact k.back h2 hd m.agree
theorem _root_.Go.Sim.RF.forget{P:Program}{c:Ctx}{f:Nat}{args:Ug}{h:H}{Q:Uc}(r:RF P c f args h λv' h'=>v'=v/\Ext h h' n)(a:Plain v)(d:Q v h):RF P c f args h Q:=by obtain⟨v',h',⟨e,s⟩,rfl,x⟩:=r;exact⟨v',h,⟨e,s.forget a λb hb=>x.get b hb⟩,d⟩
end
theorem ae{w:Wr}(ok:w.ok m)(g:Q (.tuple [.str (zu w 1 (8-w.n)).s,dh 0]) h)(hm:m+100<=1000000:=by omega):RF P zB 177 [Jf w] h Q:=by
 refine RF.plain ?_ (zg rfl);have g:∀h':H,Plain (.tuple [.str (zu w 1 (8-w.n)).s,dh 0])/\Q (.tuple [.str (zu w 1 (8-w.n)).s,dh 0]) h:=λ_=>⟨zk rfl,g⟩
 have M:=zt;have hs:=ok.s;have y:=ok.n;have N:H0.nx=0:=rfl;have z:H0.low<=T.top:=oG rfl;refine zh zHP zDj ⟨dg,?_⟩;rintro p0 e rfl q;have f:=(Vw.nil (S:=zH) (h:=H0)).new (o:=Qy w) q dg;have n1:e.nx=H0.nx+1:=by rw[q,zC]
 have r:e.low<=T.top:=by have:=f.low;omega
 have s:e.nx<=T.top:=dd
 refine⟨⟨s,r⟩,_,_,_,EW f (i:=0) rfl,tR ok ⟨_,rfl,nd s r ?_⟩⟩;refine⟨_,f.ld1 0 rfl xk rfl,λc=>absurd c ?_,λ_=>kE ⟨_,rfl,?_⟩⟩
 .show ¬(1048576:Int)<zb ((w.s.length:Int)+1);rw[zD dd dd];omega
 obtain⟨A,B,C,t⟩:=eR (h:=e) 0 0 dd;have u:=f.ext t;have O:=t.top;refine⟨_,A,B,qk (l:=[0,0]) C (by simp) ⟨_,rfl,λc=>absurd rfl c,λ_=>⟨_,_,_,EW u (i:=0) rfl,gy u ok λh4 p5 j n4=>⟨_,rfl,_,j.ld1 1 rfl zX rfl,?_⟩⟩⟩⟩;obtain⟨v6,D,E,x,k,d⟩:=HB (h:=h4) ((8-w.n:Nat):Int) ((1:Nat):Int) dd;have R:=k.top;have F:=j.ext k;have G:zb (8-((w.n:Nat):Int))=((8-w.n:Nat):Int):=by rw[zD dd dd];omega
 refine⟨v6,D,by rw[G,zV dd];exact E,QC F x ok hm (Nat.one_lt_two_pow dd) z (λb hb=>?_) λI J U=>⟨rfl,?_⟩⟩
 .rw[d]at hb;cases hb;have:=j.lt 0 rfl;have:=k.le;obtain⟨_,⟨a,_⟩|⟨V,_,_,_,_,_,_,a,K,_⟩⟩:=x
  .rw[a]at d;cases d
  rw[a]at d;cases d;exact⟨dd,dd⟩
 try dsimp only
 exact⟨_,J.ld1 0 rfl xk rfl,g I⟩
theorem zG3{k:Uc}(a:k (.bool false) h):Xr zB 4 k (.bool false) h:=⟨false,rfl,λg=>(by cases g),λ_=>a⟩
def Cov(l w:Ub):Prop:=∀x∈w,∃i:Nat,x=(i:Int)/\∃y,l[i]? = some y/\y≠0
theorem DT{i:Nat}{y:Int}(hp:ye zB 23 h (.ptr p 1)=some v)(sl:Sl h v 1 l.length (zI l))(_:l.length<=1000)(a:l[i]? = some y)(d:y≠0)(e:Q (.bool false) h):RF P zB 292 [dh i,.ptr p 0] h Q:=by have hi:i<l.length:=(List.getElem?_eq_some_iff.1 a).1;refine zh zHt zEv ⟨λc=>dd,λ_=>?_⟩;refine⟨v,hp,_,sl.len zM rfl,λc=>dd,λ_=>?_⟩;obtain⟨b,o,f,g⟩:=yS sl hi;refine⟨v,hp,b,o,f,_,g,λc=>absurd c ?_,λ_=>e⟩;rw[oQ hi]at a;cases a;exact d
theorem NE{p:Nat}{v u:V}{l w:Ub}(hp:ye zB 23 h (.ptr p 1)=some v)(sl:Sl h v 1 l.length (zI l))(hl:l.length<=1000)(g:Sl h u 1 w.length (zI w))(hw:w.length<=1000)(q:Cov l w)(r:Q (dh (-1)) h):RF P zB 311 [u,.func (.func 292) [] [.ptr p 0]] h Q:=by
 refine zh zCe zFN ⟨_,g.len zM rfl,λtm hs=>?_⟩;refine wpC.round (λk tm h'=>∃i:Nat,i<=w.length/\k=w.length-i/\h'=h/\Has tm [(8,dh i),(7,dh w.length),(1,.func (.func 292) [] [.ptr p 0]),(0,u)]) w.length ⟨0,dd,dd,rfl,hs.sub de⟩ ?_;clear hs;rintro k tm h' ⟨i,B,rfl,rfl,hs⟩;refine cg zCe hs ⟨λc=>?_,λc=>λd a=>?_⟩
 .have hi:i<w.length:=dd
  obtain⟨b,o,s,t⟩:=yS g hi;obtain⟨j,x,y,z,e⟩:=q w[i] (oV hi);refine⟨b,o,s,_,t,?_⟩;show RF P zB 292 [dh w[i],.ptr p 0] h' _;rw[x];refine DT hp sl hl z e ?_;refine zG3 (λd a=>⟨rfl,rfl,w.length-(i+1),dd,i+1,dd,rfl,rfl,?_⟩);rw[<-zf];exact a.sub de
 refine thenC.left (sg a (λA f=>?_));exact endW.r1 (f.get rfl) r
theorem VE{u:V}(hp:ye zB 23 h (.ptr p 1)=some v)(sl:Sl h v 1 l.length (zI l))(hl:l.length<=1000)(a:Sl h u 1 w.length (zI w))(hw:w.length<=1000)(b:Cov l w)(d:Q (.bool false) h):RF P zB 291 [u,.func (.func 292) [] [.ptr p 0]] h Q :=
 zh zHs zEu (NE hp sl hl a hw b ⟨_,rfl,λc=>absurd c dg,λ_=>d⟩)
theorem S0{u:V}(sl:Sl h v 1 l.length (zI l))(hl:l.length<=1000)(d:Sl h u 1 w.length (zI w))(hw:w.length<=1000)(e:Cov l w)(f:h.nx<T.top)(g:∀h',Ext h h' 1->Q (.bool true) h'):RF P zB 247 [.agg [dh log,v],u] h Q:=by refine zh zHa zEY (xQ sl ⟨f,?_⟩);rintro p0 j rfl i;have b:=(Vw.nil (S:=zH) (h:=h)).new i dd;have a:=b.ex0;exact VE (b.ld1 0 rfl zM rfl) (sl.ext a) hl (d.ext a) hw e ⟨false,rfl,λc=>(by cases c),λ_=>g _ a⟩
theorem V3{u:V}(sl:Sl h v 1 l.length (zI l))(g:GD log l)(b:Sl h u 1 w.length (zI w))(hw:w.length<=1000)(h2:2<=w.length)(k:Cov l w)(r:h.nx+2<=T.top)(o:∀h',Ext h h' 2->Q (dh 0) h'):RF P zB 176 [.agg [dh log,v],u,dh (2:Nat)] h Q:=by
 have e:=g.len;refine zh zHO zDi (xQ sl ⟨dd,?_⟩);rintro p0 f rfl i;have d:=(Vw.nil (S:=zH) (h:=h)).new i dd;have a:=d.ex0;have s:=d.top;have n1:f.nx=h.nx+1:=by rw[i,zC]
 have j:ye zB 59 f (.ptr h.nx 0)=some (.agg [dh log,v]):=d.ldA 0 rfl xE rfl;refine⟨_,_,j,jB (sl.ext a) g ⟨_,rfl,λc=>absurd rfl c,λ_=>⟨_,(b.ext a).len zM rfl,λc=>dd,λ_=>⟨_,(b.ext a).len zM rfl,λc=>dd,λ_=>⟨_,_,j,S0 (sl.ext a) dd (b.ext a) hw k dd λh' q=>⟨true,rfl,λ_=>o h' (a.trans q),λc=>(by cases c)⟩⟩⟩⟩⟩⟩
theorem Pp{w:Ub}{u:V}{lp pc:Nat}(I:Nat->H->Prop)(hw:w.length<=1000)(h0:I 0 h)(g:ye zB 23 h (.ptr pc 0)=some u)(d:∀i h',I i h'->ye zB 23 h' (.ptr pc 0)=some u)(e:∀i h',I i h'->Sl h' u 1 w.length (zI w))(a:∀i h' (hi:i<w.length),I i h'->RR P lp [dh (w.length-1-i:Nat),dh w[w.length-1-i]] h' λr h2=>r = .bool true/\I (i+1) h2)(s:∀h',I w.length h'->Q (.tuple []) h'):RF P zB 293 [.yield lp,.ptr pc 0] h Q:=by
 refine zh zC8 zEw ⟨u,g,_,(e 0 h h0).len zM rfl,λtm hs=>?_⟩;refine wpC.round (λk tm h'=>∃i:Nat,i<=w.length/\k=w.length-i/\I i h'/\Has tm [(3,dh ((w.length:Int)-1-i)),(0,.yield lp),(1,.ptr pc 0)]) w.length ⟨0,dd,dd,h0,?_⟩ ?_
 .have:zb ((w.length:Int)-1)=(w.length:Int)-1-(0:Nat):=by rw[zD dd dd];omega
  rw[<-this];exact hs.sub de
 clear hs;rintro k tm h' ⟨i,z,rfl,ii,hs⟩;refine cg zC8 hs ⟨λc=>?_,λc=>λj f=>?_⟩
 .have hi:i<w.length:=dd
  have q:(w.length:Int)-1-i=((w.length-1-i:Nat):Int):=dd
  obtain⟨b,o,t,x⟩:=yS (i:=w.length-1-i) (e i h' ii) dd;refine⟨u,d i h' ii,b,o,by rw[q];exact t,_,x,?_⟩;show RR P lp [dh ((w.length:Int)-1-i),dh w[w.length-1-i]] h' _;rw[q];refine RR.mono (a i h' hi ii) ?_;rintro r h2 ⟨rfl,y⟩;refine JD ((λj f=>⟨rfl,rfl,w.length-(i+1),dd,i+1,dd,rfl,y,?_⟩));have:zb (((w.length-1-i:Nat):Int)-1)=(w.length:Int)-1-(i+1:Nat):=by rw[zD dd dd];omega
  rw[<-this];exact f.sub de
 have hi:i=w.length:=dd
 subst hi;show endW zB ⟨19,[],bf 293⟩ Q (exitB 0 (.exit 0)) _;rw[xM];exact s h' ii
section
open Go.Shelf Go.Sort Go.RowKit
def Vr:Go.Shelf.Ren:=⟨λ|189=>315|125=>316|257=>327|128=>328|129=>329|294=>339|295=>340|296=>341|297=>342|298=>343|299=>344|216=>326|300=>345|301=>346|328=>348|329=>349|330=>350|331=>351|332=>352|215=>338|343=>361|n=>n,λ|28=>23|3=>3|46=>72|0=>0|51=>243|53=>127|4=>4|183=>392|182=>391|131=>192|5=>5|9=>9|218=>397|222=>401|228=>408|229=>132|n=>n,λn=>n⟩
theorem CE:Lays.n189 Tryz.prog Vr where
 mixed:=de
 f125:=Tryz.func316.trans (congrArg some de)
 f128:=Tryz.func328.trans (congrArg some de)
 f129:=Tryz.func329.trans (congrArg some de)
 f189:=Tryz.func315.trans (congrArg some de)
 f215:=Tryz.func338.trans (congrArg some de)
 f216:=Tryz.func326.trans (congrArg some de)
 f257:=Tryz.func327.trans (congrArg some de)
 f294:=Tryz.func339.trans (congrArg some de)
 f295:=Tryz.func340.trans (congrArg some de)
 f296:=Tryz.func341.trans (congrArg some de)
 f297:=Tryz.func342.trans (congrArg some de)
 f298:=Tryz.func343.trans (congrArg some de)
 f299:=Tryz.func344.trans (congrArg some de)
 f300:=Tryz.func345.trans (congrArg some de)
 f301:=Tryz.func346.trans (congrArg some de)
 f328:=Tryz.func348.trans (congrArg some de)
 f329:=Tryz.func349.trans (congrArg some de)
 f330:=Tryz.func350.trans (congrArg some de)
 f331:=Tryz.func351.trans (congrArg some de)
 f332:=Tryz.func352.trans (congrArg some de)
 f343:=Tryz.func361.trans (congrArg some de)
 t0:=Tryz.underlying0
 a0:=Tryz.isAgg0
 z0:=Tryz.sizeOf0
 v0:=Tryz.zeroValue0
 t3:=Tryz.underlying3
 a3:=Tryz.isAgg3
 z3:=Tryz.sizeOf3
 v3:=Tryz.zeroValue3
 t4:=Tryz.underlying4
 a4:=Tryz.isAgg4
 z4:=Tryz.sizeOf4
 v4:=Tryz.zeroValue4
 t5:=Tryz.underlying5
 a5:=Tryz.isAgg5
 z5:=Tryz.sizeOf5
 v5:=Tryz.zeroValue5
 t9:=Tryz.underlying9
 a9:=Tryz.isAgg9
 z9:=Tryz.sizeOf9
 v9:=Tryz.zeroValue9
 t28:=Tryz.underlying23
 a28:=Tryz.isAgg23
 z28:=Tryz.sizeOf23
 v28:=Tryz.zeroValue23
 t46:=Tryz.underlying72
 a46:=Tryz.isAgg72
 z46:=Tryz.sizeOf72
 v46:=Tryz.zeroValue72
 t51:=Tryz.underlying243
 a51:=Tryz.isAgg243
 z51:=Tryz.sizeOf243
 v51:=Tryz.zeroValue243
 t53:=Tryz.underlying127
 a53:=Tryz.isAgg127
 z53:=Tryz.sizeOf127
 v53:=Tryz.zeroValue127
 t131:=Tryz.underlying192
 a131:=Tryz.isAgg192
 z131:=Tryz.sizeOf192
 v131:=Tryz.zeroValue192
 t182:=Tryz.underlying391
 a182:=Tryz.isAgg391
 z182:=Tryz.sizeOf391
 v182:=Tryz.zeroValue391
 t183:=Tryz.underlying392
 a183:=Tryz.isAgg392
 z183:=Tryz.sizeOf392
 v183:=Tryz.zeroValue392
 t218:=Tryz.underlying397
 a218:=Tryz.isAgg397
 z218:=Tryz.sizeOf397
 v218:=Tryz.zeroValue397
 t222:=Tryz.underlying401
 a222:=Tryz.isAgg401
 z222:=Tryz.sizeOf401
 v222:=Tryz.zeroValue401
 t228:=Tryz.underlying408
 a228:=Tryz.isAgg408
 z228:=Tryz.sizeOf408
 v228:=Tryz.zeroValue408
 t229:=Tryz.underlying132
 a229:=Tryz.isAgg132
 z229:=Tryz.sizeOf132
 v229:=Tryz.zeroValue132
end
section
open Go.Sim Go Go.Sort
theorem _root_.Go.Sim.HR.grown{ρ:Env}{D:Nat->Prop}{h:H}{w:World}(r:HR ρ D h w)(q:Nat)(os:Array Obj):HR ρ D h (grow (w.drewN q) os) where
 cap:=r.cap
 lt:=r.lt
 rel:=λid o d g=>by rw[heap_grow_old _ _ (show ρ.blk id<(w.drewN q).heap.size from r.lt_size d g)];exact r.rel id o d g
 inj:=r.inj
theorem _root_.Go.Sim.Mv.grown{ρ ρ':Env}{D:Nat->Prop}{h h':H}{w w':World}(m:Mv ρ D h w ρ' h' w')(q:Nat)(os:Array Obj):Mv ρ D h w ρ' h' (grow (w'.drewN q) os) where
 nx:=m.nx
 size:=by rw[size_grow];exact oS m.size (Nat.le_add_right _ _)
 os:=m.os
 tape:=⟨m.tape.1,oS m.tape.2 (Nat.le_add_right _ _)⟩
 output:=m.output
 agree:=m.agree
 old:=m.old
 img:=m.img
 frame:=λk hk hf=>by rw[heap_grow_old _ _ (show k<(w'.drewN q).heap.size from oL hk m.size)];exact m.frame k hk hf
 low:=m.low
 kept:=m.kept
theorem zFo(ρ:Env)(l:Ub):(zI l).map (V.conc ρ)=l.map (Value.int .i64):=by unfold zI;rw[List.map_map];rfl
def B6(P:Program)(f:Nat)(a ys:Ub):Prop:=∀(blk off cap:Nat) (w:World),Holds (Value.int .i64) w blk off a.toArray->blk<w.heap.size ->
 Calls P f #[.slice (some ⟨blk,off,none⟩) a.length cap] w λe w'=>e = .returned (.tuple #[])/\∃n os,w'=grow (putRow (Value.int .i64) (Sort.ahead w n) blk off ys.toArray) os
theorem _root_.Go.Sim.SimF.of_sort{P:Program}{f b:Nat}{h:H}{l l':Cs}{esz:Rk}{op:Bool}{c:Cap}{g ys:Ub}(F:B6 P f g ys)(k:ys.length=g.length)(u:h.get b=some (.cells l esz true op))(G:∀i,i<g.length->l.get? i=(zI g)[i]?)(hp:l.put 0 (zI ys)=some l')(I:esz.fz=0):SimF P f [.slice b 0 g.length c] h (.ret (.tuple []) (h.upd b (some (.cells l' esz true op)))):=by
 intro ρ D w r y;have hd:D b:=by simpa [V.InL,V.In]using y
 have t:zU (zI ys)=true:=yP.2 λv z=>by obtain⟨x,_,rfl⟩:=List.mem_map.1 z;rfl
 have o:∀v∈zI ys,v.In D:=λv z=>by obtain⟨x,_,rfl⟩:=List.mem_map.1 z;trivial
 have A:(zI ys).length=g.length:=by rw[zI,oy,k]
 obtain⟨_,_,_,_,B⟩:=wx (P:=P) r hd u o t hp dd;rw[A]at B;rw[Nat.add_zero]at B;have C:Holds (Value.int .i64) w (ρ.blk b) (ρ.off b) g.toArray:=λj s=>by
  have s:j<g.length:=by simpa using s
  have e:l.get? j=some (.int .i64 g[j]):=by rw[G j s,zI,od,oQ s];rfl
  have:=vD r hd u e;refine⟨?_,B j s⟩;rw[this.1];simp[V.conc,s]
 refine callsIn_wide.2 ((F (ρ.blk b) (ρ.off b) (c.val ρ b) w C (r.lt_size hd u)).mono ?_);rintro x w' ⟨rfl,q,os,rfl⟩;rw[Lib.sorted_world _ w (ρ.blk b) (ρ.off b) q _ _ os C (by simpa using k)];have r2:HR ρ D h (w.drewN q):=⟨r.cap,r.lt,r.rel,r.inj⟩;obtain⟨_,E,a,_,_⟩:=wx (P:=P) r2 hd u o t hp dd;rw[Nat.add_zero,zFo]at E a;have s4:Mv ρ D h w ρ (h.upd b (some (.cells l' esz true op))) ((w.drewN q).setCells (ρ.blk b) (ρ.off b) (ys.map (Value.int .i64))) :=
  ⟨a.nx,a.size,a.os,⟨a.tape.1,oS (Nat.le_add_right _ _) a.tape.2⟩,a.output,a.agree,a.old,a.img,a.frame,a.low,a.kept⟩
 refine⟨ρ,rfl,s4.grown 0 os,?_,trivial⟩;have:Dx D h (h.upd b (some (.cells l' esz true op)))=D:=by
  funext id;simp only[Dx,eq_iff_iff];constructor
  .rintro(d|⟨d1,d2⟩)
   .exact d
   have:(h.upd b (some (.cells l' esz true op))).nx=h.nx:=rfl;omega
  exact .inl
 rw[this];exact E.grown 0 os
theorem zG9(a:Ub)(b:a.length<4611686018427387904):B6 P 315 a (a.mergeSort λx y=>decide (x<=y)):=λblk off cap w c hb=>Any.slices_Sort_int CE blk off cap a w c hb b
end
def ze(sp:Ub)(k s:Nat):Ub:=((List.range k).filter λi=>decide (sp[i]? = some (s:Int))).map Int.ofNat
theorem qj(sp:Ub)(k s:Nat):(ze sp k s).length<=k:=by unfold ze;rw[oy];refine oS (List.length_filter_le _ _) ?_;rw[List.length_range];exact oR _
theorem qU(sp:Ub)(k s:Nat):ze sp (k+1) s=ze sp k s++if sp[k]? = some (s:Int) then [(k:Int)] else []:=by
 unfold ze;rw[List.range_succ,List.filter_append,List.map_append];congr 1;by_cases h:sp[k]? = some (s:Int)
 .rw[if_pos h];simp[h]
 rw[if_neg h];simp[h]
theorem VY{k s:Nat}{x:Int}:x∈ze sp k s↔∃i:Nat,x=i/\i<k/\sp[i]? = some (s:Int):=by unfold ze;simp only[List.mem_map,List.mem_filter,List.mem_range,decide_eq_true_eq];exact⟨λ⟨i,⟨a,b⟩,e⟩=>⟨i,e.symm,a,b⟩,λ⟨i,e,a,b⟩=>⟨i,⟨a,b⟩,e.symm⟩⟩
def ETab(h:H)(v:V)(m:Nat)(row:Nat->Ub):Prop:=∃a,Sl h v 1 m a/\∀s,s<m->∃u,a[s]? = some u/\Ow h u yg (row s).length (zI (row s))/\((row s).length=0->u = .nilslice)
theorem ETab.ext{h h':H}(t:ETab h v m row)(e:Ext h h' n):ETab h' v m row:=by
 obtain⟨a,s,r⟩:=t;exact⟨a,s.ext e,λi hi=>by
  obtain⟨u,b,c,d⟩:=r i hi;exact⟨u,b,c.ext e,d⟩⟩
def FTab(lo:Nat)(h:H)(v:V)(m:Nat)(row:Nat->Ub):Prop:=∃a,Sl h v 1 m a/\(∀b,z6 v=some b->lo<=b/\b<h.nx)/\∀s,s<m->∃u,a[s]? = some u/\Ow h u yg (row s).length (zI (row s))/\((row s).length=0->u = .nilslice)/\∀b,z6 u=some b->lo<=b
theorem FTab.tab{lo:Nat}(t:FTab lo h v m row):ETab h v m row:=by
 obtain⟨a,s,_,r⟩:=t;exact⟨a,s,λi hi=>by
  obtain⟨u,b,c,d,_⟩:=r i hi;exact⟨u,b,c,d⟩⟩
theorem FTab.keep{lo:Nat}{h h':H}(t:FTab lo h v m row)(a:h.nx<=h'.nx)(c:∀b,lo<=b->b<h.nx->h'.get b=h.get b):FTab lo h' v m row:=by obtain⟨e,s,f,r⟩:=t;refine⟨e,s.kept a λb hb=>c b (f b hb).1 (f b hb).2,λb hb=>⟨(f b hb).1,oL (f b hb).2 a⟩,λi hi=>?_⟩;obtain⟨u,g,ow,j,d⟩:=r i hi;exact⟨u,g,ow.keep a λb hb=>c b (d b hb) (ow.blk hb),j,d⟩
abbrev oET(log:Int)(v:V):O:=.cells (.ls [dh log,v]) ⟨0,216+1,0⟩ true false
theorem _root_.Go.Sim.Vw.set2{hb h:H}{c:Nat}{l:List (Nat×O)}{cx:Ctx}(v:Vw S hb h c l)(i:Nat){e j:Nat}{te:TI}{cs:Cs}{k:Rk}{op:Bool}{u:V}{xs:Ug}(r:Row cs n xs)(hi:l[i]? = some (p,.cells cs k true op))(g:h.nx<=T.top)(A:j<n)(q:cx.ty.get e=some te)(hs:te.size=1)(s:k.fz=0)(a:u.cells=[u])(x:u.one=true):
  ∃h' cs',jP cx e h (.ptr p j) u=some h'/\Row cs' n (xs.set j u)/\Vw S hb h' c (l.set i (p,.cells cs' k true op))/\h'.nx=h.nx/\∀b,b≠p->h'.get b=h.get b:=by
 obtain⟨h',cs',y,r1,B,n1⟩:=v.set (cx:=cx) i r hi g A q hs s a x;obtain⟨d,C,_⟩:=Cs.put_some (cs:=cs) r.1 (o:=j) (vs:=[u]) (by rw[r.2.1];simp;omega);obtain⟨h2,z,_,_,D⟩:=v.st (cx:=cx) i (t:=e) (f:=j) (u:=u) (cs':=d) hi g q (by rw[a];exact C) (zx.2 (by rw[a,hs];rfl)) (by rw[s];exact oM _) (by rw[a];simp[zU,x]);rw[y]at z;cases z;exact⟨h',cs',y,r1,B,n1,D⟩
theorem Pz{u:V}{xs:Ub}(ow:Ow h u yg n (zI xs))(o:n=0->u = .nilslice)(x:Int)(F:n<=1000)(O:h.nx+3<=T.top):
  ∃q,zw zB 23 h u none (some (dh (n:Nat))) (some (dh (n:Nat)))=some q/\∃d a,zO zB 23 1 [(0,dh x)] h=some (d,a) /\
   ∃j i,zi zB 23 (z8 a) q d=some (j,i)/\(a.nx<=i.low/\i.nx<=T.top)/\∀e,e=wW a i->Ext h e 2/\Ow e j yg (n+1) (zI (xs++[x]))/\∃b,z6 j=some b/\h.nx<=b:=by
 obtain⟨d,a,r,z,f⟩:=X0 (h:=h) x dd;have G:=f.top;have s:=f.le;have C:Sl (z8 a) d 1 1 [dh x]:=z;have D:zI (xs++[x])=zI xs++[dh x]:=by unfold zI;rw[List.map_append];rfl
 rcases Nat.eq_zero_or_pos n with y|y
 .subst y;have:=o rfl;subst this;have H:Ow (z8 a) .nilslice yg 0 (zI xs):=⟨ow.1,.inl ⟨rfl,rfl⟩⟩;obtain⟨v',h',A,I,a1,a2,a3,a4,a5,a6⟩:=H.append (c:=zB) C dg zM rfl zX rfl rfl dg dg (show a.nx<T.top by omega);have J:Ext (z8 a) h' 1:=⟨a1,a2,λb hb=>a3 b hb (λg=>by cases g),a5,a6 _ (Nat.min_le_left _ _) (λb g=>by cases g)⟩
  have t:=J.drawn dd;refine⟨.nilslice,de,d,a,r,v',h',A,⟨t.1,by have:(z8 a).nx=a.nx:=rfl;omega⟩,λe k=>?_⟩;subst k;rw[D];exact⟨f.trans t.2,I.keep (oR _) λ_ _=>rfl,_,a4,s⟩
 obtain⟨b,A,_,s1⟩:=ow.full (cx:=zB) y zM rfl zX dg;have B:Sl a (.slice b 0 n (.exact n)) 1 n (zI xs):=s1.ext f;have B:Sl (z8 a) (.slice b 0 n (.exact n)) 1 n (zI xs):=B;obtain⟨v',h',K,M,E,N⟩:=B.appFull (cx:=zB) (te:=yg) y C dg zM rfl zX rfl rfl (by show(n+1)*1<=_;omega) (by show(n+1)*8<=_;omega) (show a.nx<T.top by omega);have t:=E.drawn dd;have P:=E.top;refine⟨_,A,d,a,r,v',h',K,⟨t.1,by have:(z8 a).nx=a.nx:=rfl;omega⟩,λe k=>?_⟩;subst k;rw[D];exact⟨f.trans t.2,M.keep (oR _) λ_ _=>rfl,_,N,s⟩
def zCB(hb h:H)(L:List (Nat×O))(sp:Ub)(k m:Nat)(vs:Ug):Prop:=∀s,s<m->∃u,vs[s]? = some u/\Ow h u yg (ze sp k s).length (zI (ze sp k s))/\((ze sp k s).length=0->u = .nilslice)/\Sep zH hb.nx L u
theorem VV{v:V}{log:Nat}{l:Ub}(sl:Sl h v 1 l.length (zI l))(g:GD log l)(hn:h.nx+200<=T.top)(hlow:h.low<=T.top)(R:∀h' v',Ext h h' 150->FTab h.nx h' v' l.length (ze (za log l) (2^log))->Q (.tuple [.agg [dh log,v'],dh 0]) h'):RF P zB 253 [.agg [dh log,v]] h Q:=by
 have hpw:=xR g.lg;have hlen:=g.len;have hsl:=kC log l;refine zh zC0 zE4 (xQ sl ⟨dd,?_⟩);rintro p0 U rfl e1;have w1:=(Vw.nil (S:=zH) (h:=h)).new e1 dd;have n1:U.nx=h.nx+1:=by rw[e1,zC]
 refine⟨dd,?_⟩;rintro p3 h4 rfl e4;have w4:=w1.new e4 dd;have n4:h4.nx=U.nx+1:=by rw[e4,zC]
 have s4:=sl.ext w4.ex0;refine⟨_,_,w4.ldA 1 rfl xE rfl,jB s4 g ⟨_,rfl,λc=>absurd rfl c,λ_=>⟨_,_,w4.ldA 1 rfl xE rfl,pu s4 g λa H W z=>⟨_,_,rfl,λc=>absurd rfl c,λ_=>?_⟩⟩⟩⟩;have A:=w4.ext W;have t14:=W.top;have s14:=sl.ext A.ex0;have le14:=W.le;refine⟨⟨dd,by have:=A.low;omega⟩,_,A.ld1 1 rfl zX rfl,_,A.ld1 1 rfl zM rfl,_,s14.len zM rfl,?_⟩;obtain⟨cs,em,row⟩:=Row.make (cx:=zB) (h:=a) (t:=214) (k:=l.length) jM rfl zM rfl rfl rfl dd (by show 24*l.length<=_;omega) dd;obtain⟨r,B⟩:∃r,r=a.new (yV cs):=⟨_,rfl⟩;have w22:=A.new B dd;have n22:r.nx=a.nx+1:=by rw[B,zC]
 refine⟨.slice a.nx 0 l.length (.exact l.length),r,by rw[B];exact em,⟨dd,?_⟩⟩;rintro p24 h25 rfl I;have w25:=w22.new I dd;have n25:h25.nx=r.nx+1:=by rw[I,zC]
 obtain⟨C,e26,w26,n26,g26⟩:=w25.st (cx:=zB) 0 (t:=216) (f:=0) (u:=.agg [dh log,.slice a.nx 0 l.length (.exact l.length)]) rfl dd XR rfl;have M:∀b,z6 H=some b->b<a.nx:=λb hb=>by
  obtain⟨_,⟨rfl,_⟩|⟨b',_,_,_,_,_,_,rfl,hlt,_⟩⟩:=z
  .cases hb
  cases hb;exact hlt
 have X:Sl C H 1 (2^log) (zI (za log l)):=by
  refine z.kept dd λb hb=>?_
  have hb':=M b hb;rw[g26 b dd,I,zn _ dd dd,B,zn _ dd dd]
 refine⟨C,e26,_,X.len zM rfl,λtm hs=>?_⟩;refine wpC.round (λj tm h'=>∃(k:Nat) (cs:Cs) (vs:Ug),k<=2^log/\j=2^log-k/\C.nx<=h'.nx/\h'.nx<=C.nx+2*k/\Row cs l.length vs /\
  Vw zH h h' (11+2*k) [(r.nx,oET log (.slice a.nx 0 l.length (.exact l.length))),(a.nx,yV cs),(U.nx,oET 0 .nilslice),(h.nx,oD log v)]/\Sl h' H 1 (2^log) (zI (za log l)) /\
  zCB h h' [(r.nx,oET log (.slice a.nx 0 l.length (.exact l.length))),(a.nx,yV cs),(U.nx,oET 0 .nilslice),(h.nx,oD log v)] (za log l) k l.length vs /\
  Has tm [(35,dh k),(34,dh (2^log:Nat)),(33,H),(7,.ptr r.nx 0),(2,.ptr U.nx 0)]) (2^log)
  ⟨0,cs,_,dd,dd,dd,dd,row,w26.more dd,X,λs hs=>⟨.nilslice,by rw[List.getElem?_replicate,if_pos hs],⟨by rw[jU,Nat.mul_one],.inl ⟨rfl,rfl⟩⟩,λ_=>rfl,λb hb=>by cases hb⟩,hs.sub de⟩ ?_
 clear hs X w26 w25 g26 e26 row em B I w22;rintro j tm h' ⟨k,cs,vs,hk1,rfl,hnx0,hnx,row,w,z,er,hs⟩;refine cg zC0 hs ⟨λc=>?_,λc=>λtm' Y=>?_⟩
 .have hk:k<2^log:=dd
  have hki:k<(za log l).length:=dd
  obtain⟨b,o,a1,a2⟩:=yS (l:=za log l) (by rw[hsl];exact z) hki;have D:(za log l)[k]? = some (za log l)[k]:=oQ hki;obtain⟨s,es,y,hy,_⟩:=Ki g D;have x:s<l.length:=(List.getElem?_eq_some_iff.1 hy).1;refine⟨b,o,a1,_,a2,?_⟩;rw[es]at D ⊢;obtain⟨u,hu,ow,E,sep⟩:=er s x;have hel:=qj (za log l) k s;have hget:cs.get? s=some u:=by rw[row.2.2.2 s x];exact hu
  have lw:=w.low;refine⟨_,w.ld1 0 rfl jM rfl,_,_,yp jM rfl zM rfl x,u,w.ld1 1 rfl zM hget,⟨dd,dd⟩,?_⟩;obtain⟨v14,q1,v15',h16,q2,v17,h18,q3,q4,q5⟩:=Pz ow E (k:Int) dd dd;refine⟨_,w.ld1 0 rfl jM rfl,_,ow.sl.len zM rfl,_,ow.sl.len zM rfl,v14,q1,v15',h16,q2,trivial,v17,h18,q3,q4,λJ e19=>?_⟩;obtain⟨F,N,b17,O,hbl⟩:=q5 J e19;have w19:=w.ext F;have t19:=F.top;have le19:=F.le;obtain⟨u1,u2⟩:=N.one1;obtain⟨d,cs',e22',row',w22',n22',G⟩:=w19.set2 (cx:=zB) 1 (e:=23) (j:=s) row rfl dd x zM rfl rfl u1 (by simpa [zU]using u2);have hBlt:=w.lt 1 rfl;refine⟨_,_,yp jM rfl zM rfl x,d,e22',λtm' Y=>⟨rfl,rfl,2^log-(k+1),dd,k+1,cs',_,dd,rfl,(show C.nx<=d.nx by omega),(show d.nx<=_ by omega),row',w22'.more dd,?_,?_,?_⟩⟩
  .refine(z.ext F).kept (show J.nx<=d.nx by omega) λb hb=>G b (Nat.ne_of_lt (M b hb))
  .intro s2 K;by_cases e:s2=s
   .subst e;refine⟨v17,List.getElem?_set_self (by rw[row.2.2.1];exact x),?_,λq=>?_,?_⟩
    .rw[qU,if_pos D,oW];exact N.keep (show J.nx<=d.nx by omega) λb hb=>G b (by rw[O]at hb;cases hb;omega)
    .rw[qU,if_pos D,oW]at q;simp at q
    intro b hb;rw[O]at hb;cases hb;refine⟨.inr (by have:=w.le;omega),λq R=>Nat.ne_of_lt (oL ?_ hbl)⟩;simp only[oq,List.not_mem_nil,or_false]at R;rcases R with rfl|rfl|rfl|rfl
    .exact w.lt 0 rfl
    .exact w.lt 1 rfl
    .exact w.lt 2 rfl
    exact w.lt 3 rfl
   obtain⟨u',hu',ow',Z,i⟩:=er s2 K;have ee:ze (za log l) (k+1) s2=ze (za log l) k s2:=by rw[qU,if_neg (by rw[D];intro q;cases q;exact e rfl),List.append_nil]
   rw[ee];refine⟨u',by rw[og (λq=>e q.symm)];exact hu',(ow'.ext F).keep (show J.nx<=d.nx by omega) λb hb=>G b λq=>(i b hb).2 (a.nx,yV cs) (by simp) q.symm,Z,λb hb=>⟨(i b hb).1,λq R=>?_⟩⟩;simp only[oq,List.not_mem_nil,or_false]at R;rcases R with rfl|rfl|rfl|rfl
   .exact(i b hb).2 (r.nx,_) (List.mem_cons_self ..)
   .exact(i b hb).2 (a.nx,yV cs) (by simp)
   .exact(i b hb).2 (U.nx,_) (by simp)
   exact(i b hb).2 (h.nx,_) (by simp)
  rw[<-zf];exact Y.sub de
 have hk:k=2^log:=dd
 subst hk;have lw:=w.low;refine thenC.left (sg Y ?_);obtain⟨h2,e2,w2,n2,g2⟩:=w.st (cx:=zB) 2 (t:=216) (f:=0) (u:=.agg [dh log,.slice a.nx 0 l.length (.exact l.length)]) rfl dd XR rfl;refine⟨_,_,w.ldA 0 rfl XR rfl,h2,e2,λtm2 K=>endW.ok (leave.cell (K.get (t:=2) rfl) (w2.ldA 2 rfl XR rfl) (leave.tmp (K.get (t:=3) rfl) rfl)) (R h2 _ (w2.ex0.mono dd) ⟨vs,row.sl (w2.lt 1 rfl) (w2.get 1 rfl),λb hb=>(by cases hb;exact⟨dd,w2.lt 1 rfl⟩),λs hs=>?_⟩)⟩;obtain⟨u,hu,ow,E,sep⟩:=er s hs;exact⟨u,hu,ow.keep dd λb hb=>g2 b λq=>(sep b hb).2 (U.nx,oET 0 .nilslice) (by simp) q.symm,E,λb hb=>(sep b hb).1.elim (λg=>g.elim) id⟩
theorem uO:zB.ty.get 3=some yg:=zX
theorem HV{u:V}{xs:Ub}(ow:Ow h u yg n (zI xs))(c:n=0->u = .nilslice)(o:n<=1000)(E:h.nx+1<=T.top):
  ∃g,zw zB 23 h u none (some (dh 0)) (some (dh 0))=some g/\∃v4 e,zi zB 23 h g u=some (v4,e)/\Ext h e 1/\Ow e v4 yg n (zI xs)/\(n=0->v4 = .nilslice)/\∀b,z6 v4=some b->h.nx<=b:=by
 rcases Nat.eq_zero_or_pos n with d|d
 .have:=c d;subst this d;exact⟨.nilslice,de,.nilslice,h,de,(Ext.refl h).mono dd,ow,λ_=>rfl,λb hb=>by cases hb⟩
 have sl:=ow.sl;obtain⟨f,⟨rfl,F⟩|⟨b,cs,rfl,hb,j,hw,hl,G⟩⟩:=ow
 .omega
 obtain⟨a,k,r⟩:=Cs.ofL_some (l:=zI xs) (by rw[f];show n*1<=_;omega);obtain⟨p3,s⟩:=Cs.ofL_eq k;have t:zU (zI xs)=true:=yP.2 λv y=>by obtain⟨x,_,rfl⟩:=List.mem_map.1 y;rfl
 refine⟨.slice b 0 0 (.exact 0),?_,.slice h.nx 0 n (.skip 0),h.new (.cells a (xD yg) true true),?_,Ext.new _ dd,⟨f,.inr ⟨h.nx,a,rfl,by rw[zC];omega,zK _ dd,r,by rw[p3,f],λi _=>s i⟩⟩,λq=>dd,λb hb=>by cases hb;exact oR _⟩
 .unfold zw;simp only[zM,zX,j];have z:Nat.ble (0+n*(xD yg).n) cs.len=true:=oE (by rw[hl];show 0+n*1<=n*1;omega);have A:Nat.ble 0 n=true:=oE dd;rw[z];show(match Go.Sim.bnd (some (dh 0)) 0 n with|none=>none|some m=>_)=_;unfold Go.Sim.bnd;simp only[ya,A];rfl
 unfold zi;rw[zM];simp only[uO];have B:jo yg=true:=de
 rw[B,oN,sl.src dg d];simp only;unfold Go.Sim.appTo;simp only[j];unfold jO;have C:Nat.ble (0+n) 0=false:=by
  rcases hb:Nat.ble (0+n) 0 with _|_
  .rfl
  have:=oG hb;omega
 rw[C,oO];have D:Xo cs 0 (0*yg.size) (zI xs)=some a:=by unfold Xo;rw[Nat.zero_mul,Kd cs 0 (.inr trivial)];simp only[t,oN,List.nil_append,k]
 rw[D,Nat.zero_add];exact xg (by show n*8<=_;omega) dd
theorem Er{xs:Ug}(ow:Ow h v yg n xs):zi zB 23 h v .nilslice=some (v,h):=by
 obtain⟨e,⟨rfl,f⟩|⟨b,cs,rfl,hb,a,hw,hl,g⟩⟩:=ow
 .kernel_rfl
 unfold zi;rw[zM];simp only[uO];have c:jo yg=true:=de
 rw[c,oN];show Go.Sim.appTo yg h 0 [] (.slice b 0 n (.skip 0))=_;unfold Go.Sim.appTo;simp only[a];unfold kX;have d:Nat.ble (0+n*yg.size) cs.len=true:=oE (by rw[hl];show 0+n*1<=n*1;omega);rw[d];rfl
theorem zAK{v:V}{m:Nat}{row:Nat->Ub}(t:ETab h v m row)(hm:m<=256)(hr:∀s,s<m->(row s).length<=1000)(hn:h.nx+m+5<=T.top)(i:∀h' v',Ext h h' (m+1)->ETab h' v' m row->Q v' h'):RF P zB 314 [v] h Q:=by
 obtain⟨vs,sv,rows⟩:=t;refine zh zCh zFQ ⟨_,sv.len jM rfl,?_⟩;obtain⟨cs,em,g⟩:=Row.make (cx:=zB) (h:=h) (t:=214) (k:=m) jM rfl zM rfl rfl rfl dd (by show 24*m<=_;omega) dd;obtain⟨h2,D⟩:∃h2,h2=h.new (yV cs):=⟨_,rfl⟩;have H:=(Vw.nil (S:=zH) (h:=h)).new D dd;have n2:h2.nx=h.nx+1:=by rw[D,zC]
 refine⟨_,h2,by rw[D];exact em,_,(sv.ext H.ex0).len jM rfl,λtm hs=>?_⟩;refine wpC.round (λj tm h'=>∃(k:Nat) (cs:Cs) (E:Ug),k<=m/\j=m-k/\h'.nx<=h2.nx+k/\Row cs m E/\Vw zH h h' (1+k) [(h.nx,yV cs)] /\
  (∀s,s<k->∃u,E[s]? = some u/\Ow h' u yg (row s).length (zI (row s))/\((row s).length=0->u = .nilslice)/\Sep zH h.nx [(h.nx,yV cs)] u) /\
  Has tm [(11,dh k),(10,dh m),(9,v),(3,.slice h.nx 0 m (.exact m))]) m
  ⟨0,cs,_,dd,dd,dd,g,H,λs hs=>dd,hs.sub de⟩ ?_
 clear hs H g em D;rintro j tm h' ⟨k,cs,E,X,rfl,hnx,r,w,Y,hs⟩;have I:=sv.ext w.ex0;refine cg zCh hs ⟨λc=>?_,λc=>λJ x=>?_⟩
 .have a:k<m:=dd
  obtain⟨u,K,ow,d⟩:=rows k a;obtain⟨b,o,a1,a2⟩:=I.at1 (u:=u) a jM rfl zM rfl rfl K;have M:=ow.ext w.ex0;obtain⟨v3,q1,v4,N,q2,F,z,A,y⟩:=HV M d (hr k a) dd;have w5:=w.ext F;have t5:=F.top;have le5:=F.le;obtain⟨u1,u2⟩:=z.one1;obtain⟨G,O,e8,B,w8,n8,Z⟩:=w5.set2 (cx:=zB) 0 (e:=23) (j:=k) r rfl dd a zM rfl rfl u1 (by simpa [zU]using u2);have hB:=w.lt 0 rfl;refine⟨b,o,a1,u,a2,v3,q1,trivial,v4,N,q2,_,_,yp jM rfl zM rfl a,G,e8,λJ x=>⟨rfl,rfl,m-(k+1),dd,k+1,O,_,dd,rfl,(show G.nx<=_ by omega),B,w8.more dd,λs hsk=>?_,?_⟩⟩
  .by_cases e:s=k
   .subst e;refine⟨v4,List.getElem?_set_self (by rw[r.2.2.1];exact a),z.keep (show N.nx<=G.nx by omega) λb hb=>Z b (by have:=y b hb;omega),A,λb hb=>⟨.inr (by have:=y b hb;have:=w.le;omega),λq i=>?_⟩⟩;simp only[oq,List.not_mem_nil,or_false]at i;subst i;have:=y b hb;show h.nx≠b;omega
   obtain⟨u',R,U,C,f⟩:=Y s dd;refine⟨u',by rw[og (λq=>e q.symm)];exact R,(U.ext F).keep (show N.nx<=G.nx by omega) λb hb=>Z b λq=>(f b hb).2 (h.nx,yV cs) (by simp) q.symm,C,λb hb=>⟨(f b hb).1,λq i=>?_⟩⟩;simp only[oq,List.not_mem_nil,or_false]at i;subst i;exact(f b hb).2 (h.nx,yV cs) (by simp)
  rw[<-zf];exact x.sub de
 have X:k=m:=dd
 subst X;refine thenC.left (sg x (λtm2 W=>?_));refine endW.r1 (W.get rfl) (i h' _ (w.ex0.mono dd) ⟨E,r.sl (w.lt 0 rfl) (w.get 0 rfl),λs hs=>?_⟩);obtain⟨u,K,ow,d,_⟩:=Y s hs;exact⟨u,K,ow,d⟩
def aw(row:Nat->Ub)(m:Nat):Ub:=(List.range m).flatMap row
theorem Jw(row:Nat->Ub)(m:Nat):aw row (m+1)=aw row m++row m:=by unfold aw;rw[List.range_succ,List.flatMap_append];simp
theorem si(a:Ub):zU (zI a)=true:=yP.2 λv b=>by obtain⟨x,_,rfl⟩:=List.mem_map.1 b;rfl
theorem N2{v:V}{m:Nat}{row:Nat->Ub}(t:ETab h v m row)(hm:m<=256)(hr:∀s,s<m->(row s).length<=100)(O:h.nx+m+5<=T.top)(G:∀h' v',Ext h h' m->Ow h' v' yg (aw row m).length (zI (aw row m))->(∀b,z6 v'=some b->h.nx<=b)->Q v' h'):RF P zB 313 [v] h Q:=by
 obtain⟨R,sv,rows⟩:=t;refine zh zCg zFP ⟨_,sv.len jM rfl,λtm hs=>?_⟩;refine wpC.round (λj tm h'=>∃(k:Nat) (y:V),k<=m/\j=m-k/\h'.nx<=h.nx+k/\Vw zH h h' k []/\Ow h' y yg (aw row k).length (zI (aw row k))/\(aw row k).length<=100*k/\Sep zH h.nx [] y /\
  Has tm [(8,dh k),(7,dh m),(6,v),(3,y)]) m
  ⟨0,.nilslice,dd,dd,dd,Vw.nil,⟨rfl,.inl ⟨rfl,rfl⟩⟩,oR _,(λb hb=>by cases hb),hs.sub de⟩ ?_
 clear hs;rintro j tm h' ⟨k,y,D,rfl,H,w,ow,U,sp,hs⟩;have q:=sv.ext w.ex0;refine cg zCg hs ⟨λc=>?_,λc=>λe a=>?_⟩
 .have d:k<m:=dd
  obtain⟨u,I,r,f⟩:=rows k d;obtain⟨b,o,a1,a2⟩:=q.at1 (u:=u) d jM rfl zM rfl rfl I;have x:=r.ext w.ex0;have J:=hr k d;rcases Nat.eq_zero_or_pos (row k).length with i|i
  .have:=f i;subst this;have E:row k=[]:=List.eq_nil_of_length_eq_zero i;refine⟨b,o,a1,_,a2,trivial,y,h',Er ow,λe a=>⟨rfl,rfl,m-(k+1),dd,k+1,y,dd,rfl,(show h'.nx<=_ by omega),w.more dd,?_,?_,sp,?_⟩⟩
   .rw[Jw,E,List.append_nil];exact ow
   .rw[Jw,E,List.append_nil];omega
   rw[<-zf];exact a.sub de
  obtain⟨F,h4,K,A⟩:=ow.append (c:=zB) x.sl i zM rfl zX rfl (si _) (by show((aw row k).length+(row k).length)*1<=_;omega) (by show((aw row k).length+(row k).length)*8<=_;omega) dd;obtain⟨M,z,B⟩:=w.grow sp A;have W:=A.2.2.1;refine⟨b,o,a1,_,a2,trivial,F,h4,K,λe a=>⟨rfl,rfl,m-(k+1),dd,k+1,F,dd,rfl,(show h4.nx<=_ by omega),M,?_,?_,B,?_⟩⟩
  .rw[Jw,kg,oW];exact z
  .rw[Jw,oW];omega
  rw[<-zf];exact a.sub de
 have D:k=m:=dd
 subst D;refine thenC.left (sg a (λN C=>?_));exact endW.r1 (C.get rfl) (G h' _ w.ex0 ow λb hb=>(sp b hb).1.elim (λg=>g.elim) id)
theorem Hv:∃fi,zB.fn.get 315=some fi:=Option.isSome_iff_exists.1 de
theorem Wv{v:V}{a ys:Ub}{h0 h:H}{n:Nat}(ow:Ow h v yg a.length (zI a))(B:0<a.length)(hl:a.length<=100000)(hs:a.mergeSort (λx y=>decide (x<=y))=ys)(x:Ext h0 h n)(hb:∀b,z6 v=some b->h0.nx<=b)(r:h.nx<=T.top)(k:∀h',Ext h0 h' n->h'.nx=h.nx->Sl h' v 1 ys.length (zI ys)->Q (.tuple []) h'):RF P zB 315 [v] h Q:=by
 subst hs;have c:(a.mergeSort λx y=>decide (x<=y)).length=a.length:=List.length_mergeSort a;generalize s:a.mergeSort (λx y=>decide (x<=y))=ys at k c ⊢;obtain⟨C,⟨rfl,t⟩|⟨b,cs,rfl,d,j,hw,e,u⟩⟩:=ow
 .omega
 have f:(zI ys).length=a.length:=by rw[jU,c]
 have g:b<T.top:=oL d r;obtain⟨z,q,D⟩:=Cs.put_some (cs:=cs) hw (o:=0) (vs:=zI ys) (by rw[e,f];show 0+a.length<=a.length*1;omega);obtain⟨_,p3,A⟩:=Cs.put_eq q;refine⟨_,_,⟨Hv,SimF.of_sort (by rw[<-s];exact zG9 a dd) c j (λi hi=>u i (by show i<a.length*1;omega)) q rfl⟩,k _ (x.upd _ g (hb b rfl)) rfl ⟨by rw[jU,Nat.mul_one],.inr ⟨b,0,_,_,_,_,_,by rw[c],d,zF _ g,λi hi=>?_⟩⟩⟩;rw[A,if_pos ⟨oM _,by rw[f];omega⟩,Nat.zero_add,Nat.sub_zero]
theorem NS(f d:Nat->Ub)(m:Nat):((List.range m).flatMap λs=>f s++d s).Perm ((List.range m).flatMap f++(List.range m).flatMap d):=by
 induction m with
 | zero=>exact .refl _
 | succ m ih=>rw[List.perm_iff_count]at ih ⊢;intro a;have:=ih a;simp only[List.range_succ,List.flatMap_append,List.flatMap_cons,List.flatMap_nil,List.append_nil,List.count_append]at this ⊢;omega
theorem He{x:Option Int}{k:Int}(m:Nat):((List.range m).flatMap λs:Nat=>if x=some (s:Int) then [k] else [])=if ∃s:Nat,s<m/\x=some (s:Int) then [k] else []:=by
 induction m with
 | zero=>rw[if_neg (by rintro⟨s,h,_⟩;omega)];rfl
 | succ m ih =>
  rw[List.range_succ,List.flatMap_append,ih];simp only[List.flatMap_cons,List.flatMap_nil,List.append_nil];by_cases c:∃s:Nat,s<m/\x=some (s:Int)
  .rw[if_pos c];obtain⟨s,b,h2⟩:=c;rw[if_neg (by rw[h2];simp;omega),if_pos ⟨s,dd,h2⟩,List.append_nil]
  rw[if_neg c];by_cases a:x=some (m:Int)
  .rw[if_pos a,if_pos ⟨m,dd,a⟩,List.nil_append]
  rw[if_neg a,if_neg,List.nil_append];rintro⟨s,b,h2⟩;by_cases e:s=m
  .subst e;exact a h2
  exact c ⟨s,dd,h2⟩
theorem bx{sp:Ub}{m:Nat}:∀{n:Nat},(∀i,i<n->∃s:Nat,s<m/\sp[i]? = some (s:Int))->(aw (ze sp n) m).Perm ((List.range n).map Int.ofNat)
 | 0,_=>by
  have:aw (ze sp 0) m=[]:=by
   unfold aw;have:ze sp 0=λ_=>[]:=by funext s;rfl
   rw[this];simp
  rw[this];exact .refl _
 | n+1,h=>by
  have ih:=bx (sp:=sp) (m:=m) (n:=n) λi hi=>h i dd
  have e:ze sp (n+1)=λs=>ze sp n s++if sp[n]? = some (s:Int) then [(n:Int)] else []:=by funext s;exact qU sp n s
  unfold aw;rw[e];refine(NS _ _ _).trans ?_;try dsimp only
  rw[He,if_pos (h n dd),List.range_succ,List.map_append];exact ih.append_right _
theorem SL(h:∀i,i<n->∃s:Nat,s<m/\sp[i]? = some (s:Int)):(aw (ze sp n) m).mergeSort (λx y=>decide (x<=y))=(List.range n).map Int.ofNat:=by
 refine List.Perm.eq_of_pairwise (le:=λx y:Int=>x<=y) (λa b _ _ d h2=>dd) ?_ ?_ ((List.mergeSort_perm _ _).trans (bx h))
 .have:=List.pairwise_mergeSort (le:=λx y:Int=>decide (x<=y)) (λa b c d h2=>by simp at *;omega) (λa b=>by simp;omega) (aw (ze sp n) m);exact this.imp λh=>by simpa using h
 rw[List.pairwise_map];exact List.pairwise_lt_range.imp λ{a b} h=>by show(a:Int)<=b;omega
theorem V0(sp:Ub)(n s:Nat):(ze sp n s).Pairwise (· < ·):=by unfold ze;rw[List.pairwise_map];exact(List.pairwise_lt_range.filter _).imp λ{a b} h=>by show(a:Int)<b;omega
theorem sj{a:Int}(b:Q (.bool false) h):RF P zB 338 [dh a] h Q :=
 zh zIN zFa ⟨λc=>absurd rfl c,λ_=>b⟩
theorem HF{a b:Int}(d:Q (.bool (decide (a<b))) h):RF P zB 326 [dh a,dh b] h Q:=by
 refine zh zIJ zF1 (sj ⟨false,rfl,λc=>(by cases c),λ_=>⟨λc=>?_,λc=>?_⟩⟩)
 .rw[decide_eq_true c]at d;exact d
 rw[decide_eq_false c]at d;exact d
theorem Vm{v:V}{xs:Ub}(sl:Sl h v 1 xs.length (zI xs))(hl:xs.length<=1000)(hs:xs.Pairwise (· < ·))(g:h.nx<=T.top)(d:h.low<=T.top)(q:Q (.bool true) h):RF P zB 312 [v] h Q:=by
 refine zh zCf zFO ⟨_,sl.len zM rfl,λtm hs=>?_⟩;refine wpC.round (λk tm h'=>∃i:Nat,i<=xs.length/\k=i/\h'=h/\Has tm [(3,dh ((i:Int)-1)),(0,v)]) xs.length ⟨xs.length,oR _,rfl,rfl,?_⟩ ?_
 .have:zb ((xs.length:Int)-1)=(xs.length:Int)-1:=zD dd dd;rw[<-this];exact hs.sub de
 clear hs;rintro k tm h' ⟨i,B,rfl,rfl,a⟩;refine cg zCf a ⟨λc=>?_,λc=>λe a=>?_⟩
 .obtain⟨j,rfl⟩:∃j,k=j+2:=⟨k-2,dd⟩
  have r:((j+2:Nat):Int)-1=((j+1:Nat):Int):=dd
  have s:zb (((j+1:Nat):Int)-1)=((j:Nat):Int):=by rw[zD dd dd];omega
  rw[r]at a ⊢;obtain⟨b,o,a1,a2⟩:=yS sl (i:=j+1) dd;obtain⟨t,o',u,x⟩:=yS sl (i:=j) dd;have y:xs[j]<xs[j+1]:=List.pairwise_iff_getElem.1 hs j (j+1) dd dd dd;refine⟨⟨g,d⟩,b,o,a1,_,a2,t,o',by rw[s];exact u,_,x,?_⟩;refine HF ⟨_,rfl,λc=>?_,λ_=>λe a=>⟨rfl,rfl,j+1,dd,j+1,dd,rfl,rfl,?_⟩⟩
  .have:=of_decide_eq_true c;omega
  have z:zb (((j+1:Nat):Int)-1)=((j+1:Nat):Int)-1:=zD dd dd;rw[<-z];exact a.sub de
 refine thenC.left (sg a (λA f=>?_));exact endW.r1 (f.get rfl) q
theorem XS{e:Nat}{xs:Ug}(s:Sl h v e n xs){a:Int}{k:Cs->Prop}(b:k (.ls [dh a,v])):∃cs,cond (zU (V.cells (.agg [(dh a),v]))) (Cs.ofL (V.cells (.agg [(dh a),v]))) none=some cs/\k cs:=xQ s b
theorem VT{v:V}{log m:Nat}{sp:Ub}(t:ETab h v m (ze sp (2^log)))(x:log<=6)(hm:m<=100)(y:∀i,i<2^log->∃s:Nat,s<m/\sp[i]? = some (s:Int))(hn:h.nx+300<=T.top)(H:h.low<=T.top)(O:Q (dh 0) h):RF P zB 294 [.agg [dh log,v]] h Q:=by
 refine RF.forget (n:=300) (v:=dh 0) ?_ (zN _ _) O;have R:2^log<=2^6:=Nat.pow_le_pow_right dg x;have U:0<2^log:=Nat.two_pow_pos log;have f:∀s,s<m->(ze sp (2^log) s).length<=100:=λs _=>by have:=qj sp (2^log) s;omega
 have W:=t;obtain⟨X,q,_⟩:=t;refine zh Ae zEx (XS q ⟨dd,?_⟩);rintro p0 B rfl I;have g:=(Vw.nil (S:=zH) (h:=h)).new I dd;have n1:B.nx=h.nx+1:=by rw[I,zC]
 have l1:=g.low;have J:ETab B v m (ze sp (2^log)):=W.ext g.ex0;refine⟨_,g.ld1 0 rfl zX rfl,λc=>dd,λ_=>⟨_,g.ld1 0 rfl zX rfl,λc=>dd,λ_=>⟨v,g.ld1 0 rfl jM rfl,_,(q.ext g.ex0).len jM rfl,λc=>dd,λ_=>λtm hs=>?_⟩⟩⟩;refine sg hs ?_;refine⟨v,g.ld1 0 rfl jM rfl,_,(q.ext g.ex0).len jM rfl,λz e=>?_⟩;refine wpC.round (λj tm h'=>∃k:Nat,k<=m/\j=m-k/\h'=B/\Has tm [(25,dh k),(24,dh m),(23,v),(1,.ptr h.nx 0)]) m ⟨0,dd,dd,rfl,e.sub de⟩ ?_;clear hs e;rintro j tm h' ⟨k,Y,rfl,rfl,hs⟩;refine cg Ae hs ⟨λc=>?_,λc=>λr d=>?_⟩
 .obtain⟨vs,sv,rows⟩:=J;obtain⟨u,Z,ow,_⟩:=rows k dd;obtain⟨b,o,a1,a2⟩:=sv.at1 (u:=u) (i:=k) dd jM rfl zM rfl rfl Z;refine⟨b,o,a1,u,a2,Vm ow.sl (by have:=f k dd;omega) (V0 _ _ _) dd dd ⟨true,rfl,λ_=>λr d=>⟨rfl,rfl,m-(k+1),dd,k+1,dd,rfl,rfl,?_⟩,λc=>(by cases c)⟩⟩;rw[<-zf];exact d.sub de
 refine thenC.left (sg d ?_);have K:(aw (ze sp (2^log)) m).length=2^log:=by rw[(bx y).length_eq,oy,List.length_range]
 refine⟨v,g.ld1 0 rfl jM rfl,zAK J dd (λs hs=>by have:=f s hs;omega) dd λh2 v2 A t2=>⟨_,rfl,N2 t2 dd f (by have:=A.top;omega) λh3 v3 M C D=>⟨_,rfl,?_⟩⟩⟩;have tt2:=A.top;have tt3:=M.top;refine Wv C dd dd (SL y) (A.trans M) (λb hb=>by have:=D b hb;have:=A.le;omega) dd λh4 x4 n4 s4=>⟨rfl,?_⟩
 have N:=g.ext x4;rw[oy,List.length_range]at s4;refine⟨_,s4.len zM rfl,?_⟩;refine⟨_,N.ld1 0 rfl zX rfl,((1*2^log:Nat):Int),?_,λc=>absurd (by rw[Nat.one_mul]) c,λ_=>⟨_,s4.len zM rfl,λz e=>?_⟩⟩
 .rw[zV dd];exact zr (a:=1) dd dd
 refine wpC.round (λj tm h'=>∃k:Nat,k<=2^log/\j=2^log-k/\h'=h4/\Has tm [(48,dh k),(47,dh (2^log:Nat)),(46,v3)]) (2^log) ⟨0,dd,dd,rfl,e.sub de⟩ ?_;clear hs e d;rintro j tm h' ⟨k,Y,rfl,rfl,hs⟩;refine cg Ae hs ⟨λc=>?_,λc=>λr d=>?_⟩
 .have E:k<2^log:=dd
  obtain⟨b,o,a1,a2⟩:=yS (l:=(List.range (2^log)).map Int.ofNat) (i:=k) (by rw[oy,List.length_range];exact s4) (by rw[oy,List.length_range];exact E);refine⟨b,o,a1,_,a2,λc2=>absurd ?_ c2,λ_=>λr d=>⟨rfl,rfl,2^log-(k+1),dd,k+1,dd,rfl,rfl,?_⟩⟩
  .rw[List.getElem_map,List.getElem_range];rfl
  rw[<-zf];exact d.sub de
 refine thenC.left (sg d (λz e=>e.slt λtm3 F=>F.slt λtm4 G=>?_));exact endW.r1 (G.get rfl) ⟨rfl,N.ex0.mono dd⟩
end Go.Proofs.YtnpeieeomokomaaGreat
