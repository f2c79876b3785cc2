/- BB. No condition. -/
import Derived.Test.YtnpeieeomokomaaGreatZBA
import Derived.Test.YtnpeieeomokomaaGreatZTV
import Derived.Test.YtnpeieeomokomaaGreatZCI
import Derived.Test.YtnpeieeomokomaaGreatZTA
set_option maxRecDepth 100000
set_option maxHeartbeats 4000000
namespace Go.Proofs.YtnpeieeomokomaaGreat
open Go.Sim
variable{i:Nat}
theorem Xj(a b c:Ua):zS (a++(b++c)) a.length (a.length+b.length)=b:=by
 grind[zS]
theorem KV{l:Ub}(h:yk l):jE l=0:=by obtain⟨a,h2,h3,h4⟩:=h<;>grind[jE]
def yI(s:Ua)(i:Nat):Ua:=zS s (i*((s.length+3)/4)) (i*((s.length+3)/4)+K1 s.length i)
def um(l:Ub)(s:Ua):Ua :=
 le (Z5 l (yI s 0)).length 2++le (Z5 l (yI s 1)).length 2++le (Z5 l (yI s 2)).length 2++(Z5 l (yI s 0)++Z5 l (yI s 1)++Z5 l (yI s 2)++Z5 l (yI s 3))
theorem Xc{s:Ua}(h:6<=s.length)(hi:i<4):(yI s i).length=K1 s.length i:=by
 unfold yI zS;rw[List.length_take,List.length_drop];rcases i with _|_|_|_|i
 .show min (0*_+(s.length+3)/4-0*_) _=(s.length+3)/4;omega
 .show min (1*_+(s.length+3)/4-1*_) _=(s.length+3)/4;omega
 .show min (2*_+(s.length+3)/4-2*_) _=(s.length+3)/4;omega
 .show min (3*_+(s.length-3*_)-3*_) _=s.length-3*((s.length+3)/4);omega
 omega
theorem LH{s:Ua}(h:6<=s.length):yI s 0++yI s 1++yI s 2++yI s 3=s:=by
 have a:3*((s.length+3)/4)<=s.length:=dd
 unfold yI zS K1;generalize (s.length+3)/4=k at a;simp only[Nat.zero_mul,List.drop_zero,Nat.zero_add,Nat.sub_zero,if_pos (show 0<3 by decide),if_pos (show 1<3 by decide),if_pos (show 2<3 by decide),if_neg (show ¬3<3 by decide),Nat.one_mul,Nat.add_sub_cancel_left];have b:(s.drop (3*k)).take (s.length-3*k)=s.drop (3*k):=List.take_of_length_le (by grind)
 grind[List.drop_drop,List.take_append_drop]
theorem Tx.part{l:Ub}{s:Ua}(h:Tx l s)(i:Nat):Tx l (yI s i):=λb hb=>h b (List.mem_of_mem_drop (List.mem_of_mem_take hb))
theorem R4{x:Ua}(h:x.length=2):∃a b,x=[a,b]:=by
 match x,h with
 | [a,b],_=>grind
theorem NZ{l:Ub}{s:Ua}(p:yk l)(q:Tx l s)(r:6<=s.length)(C:s.length<=1000):wT (um l s) l s.length=(s,0,0):=by
 have hb:∀i,i<4->qn (Z5 l (yI s i)) l (K1 s.length i)=(yI s i,0):=λi hi=>by rw[<-Xc r hi];exact Vk p (q.part i)
 have hl:∀i,i<4->(Z5 l (yI s i)).length<256^2:=λi hi=>by
  have:=KR p (q.part i)
  grind[Xc,K1]
 have t:=LH r;unfold um;obtain⟨h,j,u⟩:=R4 (qr (Z5 l (yI s 0)).length 2);obtain⟨k,m,v⟩:=R4 (qr (Z5 l (yI s 1)).length 2);obtain⟨n,o,w⟩:=R4 (qr (Z5 l (yI s 2)).length 2);have x:=bN (Z5 l (yI s 0)).length 2;have y:=bN (Z5 l (yI s 1)).length 2;have z:=bN (Z5 l (yI s 2)).length 2;rw[ou (hl 0 dg),u]at x;rw[ou (hl 1 dg),v]at y;rw[ou (hl 2 dg),w]at z;rw[u,v,w];have D:=hb 0 dg;have E:=hb 1 dg;have F:=hb 2 dg;have G:=hb 3 dg;generalize Z5 l (yI s 0)=c0 at *;generalize Z5 l (yI s 1)=d at *;generalize Z5 l (yI s 2)=f at *;generalize Z5 l (yI s 3)=g at *;have l0:l2 ([h,j]++[k,m]++[n,o]++(c0++d++f++g)) 0=c0.length:=x;have A:l2 ([h,j]++[k,m]++[n,o]++(c0++d++f++g)) 2=d.length:=y;have B:l2 ([h,j]++[k,m]++[n,o]++(c0++d++f++g)) 4=f.length:=z;have len:([h,j]++[k,m]++[n,o]++(c0++d++f++g)).length=6+c0.length+d.length+f.length+g.length:=by
  grind
 unfold wT;rw[if_neg (by grind[KV]),if_neg dd,if_neg dd];unfold l6;rw[l0,A,B,len,if_neg dd,show 6+c0.length+d.length+f.length+g.length-(6+c0.length+d.length+f.length)=g.length by omega];have sl:∀(a b c:Ua) i,[h,j]++[k,m]++[n,o]++(c0++d++f++g)=a++(b++c)->s4 c0.length d.length f.length g.length i=a.length->s4 c0.length d.length f.length g.length (i+1)=a.length+b.length->zS ([h,j]++[k,m]++[n,o]++(c0++d++f++g)) (s4 c0.length d.length f.length g.length i) (s4 c0.length d.length f.length g.length (i+1))=b:=λa b c i e H h2=>by
  grind[Xj]
 have k0:=sl ([h,j]++[k,m]++[n,o]) c0 (d++f++g) 0 (by simp) rfl rfl;have I:=sl ([h,j]++[k,m]++[n,o]++c0) d (f++g) 1 (by simp) (by grind[s4]) (by simp[s4];omega);have J:=sl ([h,j]++[k,m]++[n,o]++c0++d) f g 2 (by simp) (by grind[s4]) (by grind[s4]);have K:=sl ([h,j]++[k,m]++[n,o]++c0++d++f) g [] 3 (by simp) (by grind[s4]) (by grind[s4])
 simp_all[qB]
def XM:Ua->Bool
 | []=>false
 | b::s=>s.all λc=>decide (c=b)
theorem PM{s:Ua}{b:UInt8}(h0:s[0]? = some b)(h:∀j,j<s.length->s[j]? = s[0]?):XM s=true:=by
 rcases s with _|⟨a,s⟩
 .cases h0
 show(s.all λc=>decide (c=a))=true;rw[List.all_eq_true];intro c e;obtain⟨j,d,rfl⟩:=List.getElem_of_mem e;have:=h (j+1) (by simpa using d);rw[List.getElem?_cons_succ,List.getElem?_cons_zero,oQ d]at this;simpa using this
theorem zB5{s:Ua}(hi:i<s.length)(h:s[i]?≠s[0]?):XM s=false:=by
 rcases s with _|⟨a,s⟩
 .rfl
 show(s.all λc=>decide (c=a))=false;rcases i with _|i
 .exact absurd rfl h
 have b:i<s.length:=by simpa using hi
 rw[List.getElem?_cons_succ,List.getElem?_cons_zero,oQ b]at h;rw[List.all_eq_false];exact⟨s[i],oV b,by simpa using λe=>h (by rw[e])⟩
theorem FY{s:Ua}{h:H}{Q:Uc}(hs:s.length<4611686018427387904)(f:Q (.bool (XM s)) h):RF P zB 135 [.str s] h Q:=by
 refine RF.plain ?_ (zg rfl);have f:∀h':H,Plain (.bool (XM s))/\Q (.bool (XM s)) h:=λ_=>⟨xh _,f⟩
 refine zh zCI zD3 (λtm d=>?_);refine wpC.round (λk tm h'=>∃i:Nat,i<=s.length/\k=s.length-i/\h'=H0/\(∀j,j<i->s[j]? = s[0]?)/\Has tm [(6,.int .i64 i),(5,.int .i64 s.length),(0,.str s)]) s.length ⟨0,dd,dd,rfl,λj q=>dd,d.sub de⟩ ?_;clear d;rintro k tm h' ⟨i,r,rfl,rfl,l,d⟩;refine cg zCI d ⟨λc=>?_,λc=>λo a=>?_⟩
 .have hi:i<s.length:=dd
  have g:s[i]? = some s[i]:=oQ hi;have g0:s[0]? = some s[0]:=oQ dd;generalize s[i]=b at g;generalize s[0]=b0 at g0;refine⟨⟨oM _,oG rfl⟩,_,yj (k:=.i64) g,_,yj (k:=.i64) (i:=0) g0,λn=>λo a=>?_,λn=>λo a=>?_⟩
  .have e:XM s=false:=zB5 hi λe=>n (by rw[g,g0]at e;rw[Option.some.inj e])
   rw[e]at f;exact thenC.rt (thenC.rt (endW.r1 (a.get rfl) (f H0)))
  refine⟨rfl,rfl,s.length-(i+1),dd,i+1,dd,rfl,rfl,λj q=>?_,?_⟩
  .by_cases c3:j=i
   .subst c3;have:b.toNat=b0.toNat:=dd
    rw[g,g0,UInt8.toNat_inj.1 this]
   exact l j dd
  rw[<-zf];exact a.sub de
 have hi:i=s.length:=dd
 subst hi;refine thenC.left (sg a ⟨λn=>λp m=>?_,λn=>λp m=>?_⟩)
 .have hl:=List.length_pos_iff.2 n;rw[PM (oQ hl) l]at f;exact endW.r1 (m.get rfl) (f H0)
 have e:s=[]:=Classical.not_not.1 n;rw[show XM s=false by rw[e];rfl]at f;exact endW.r1 (m.get rfl) (f H0)
abbrev Jr(s:Ua):Ub:=s.map λb=>((b.toNat:Nat):Int)
abbrev jk(s:Ua):Ub:=JS 256 (Jr s)
theorem tM{p k:Nat}(a:k<256):xK zB 206 (.ptr p 0) (.int .u8 k)=some (.ptr p k):=by unfold xK;have b:ya (k:Int)=some k:=rfl;simp only[b,Fz,zX,(zW _ _).2 a,oN,Nat.mul_one,Nat.zero_add]
theorem Pv{s:Ua}{h:H}{Q:Uc}(hl:s.length<=100000)(D:h.nx+1<=T.top)(y:∀h',Ext h h' 1->Sl h' (.slice h.nx 0 256 (.exact 256)) 1 256 (zI (jk s))->Q (.tuple [.slice h.nx 0 256 (.exact 256),.int .i64 0]) h'):RF P zB 207 [.str s] h Q:=by
 obtain⟨p,z,l⟩:=J6;refine zh zCS zEE ⟨λc=>absurd (show(1048576:Int)<(s.length:Int)from c) dd,λ_=>⟨_,z,dd,?_⟩⟩;rintro E h2 rfl o;have m:=(Vw.nil (S:=zH) (h:=h)).new o dd;have A:=m.top;refine λtm hs=>?_
 refine wpC.round (λk tm h'=>∃(i:Nat) (cs:Cs),i<=s.length/\k=s.length-i/\Vw zH h h' 1 [(h.nx,.cells cs ⟨0,206+1,0⟩ true false)]/\Row cs 256 (zI (jk (s.take i))) /\
  Has tm [(11,.int .i64 i),(10,.int .i64 s.length),(0,.str s),(4,.ptr h.nx 0)]) s.length ⟨0,p,dd,dd,m,by rw[List.take_zero,show jk []=_ from Yn 256];exact l,hs.sub de⟩ ?_
 clear hs m o A;rintro k tm h' ⟨i,cs,B,rfl,w,row,hs⟩;have F:=w.top;refine cg zCS hs ⟨λc=>?_,λc=>λC q=>?_⟩
 .have hi:i<s.length:=dd
  have g:s[i]? = some s[i]:=oQ hi;have x:Jr (s.take (i+1))=Jr (s.take i)++[((s[i].toNat:Nat):Int)]:=by rw[Jr,List.take_add_one,g,List.map_append];rfl
  generalize s[i]=b at g x;have hb:=b.toNat_lt;have a:b.toNat<256:=hb;have r:=qR (Jr (s.take i)) b.toNat;rw[oy,List.length_take]at r;have f:cs.get? b.toNat=some (.int .i64 (zz (Jr (s.take i)) b.toNat:Nat)):=by rw[row.2.2.2 _ a,od,jA a];rfl
  have ev:zb (((zz (Jr (s.take i)) b.toNat:Nat):Int)+1)=((zz (Jr (s.take i)) b.toNat+1:Nat):Int):=zf;obtain⟨h2,t,o,e,m,G⟩:=w.set (cx:=zB) 0 (j:=b.toNat) (u:=.int .i64 ((zz (Jr (s.take i)) b.toNat+1:Nat):Int)) row rfl dd a zX rfl rfl rfl rfl;rw[<-xY,Jz a,<-x]at e;refine⟨_,yj (k:=.i64) g,_,_,tM a,_,w.ld1 0 rfl zX f,_,_,tM a,h2,by rw[ev];exact o,λv d=>⟨rfl,rfl,s.length-(i+1),dd,i+1,t,dd,rfl,m,e,?_⟩⟩;rw[<-zf];exact d.sub de
 have hi:i=s.length:=dd
 subst hi;rw[List.take_length]at row;refine thenC.left (sg q ⟨_,Jb (n:=256) dg,λv d=>endW.r2 (d.get rfl) (d.get rfl) (y h' w.ex0 ?_)⟩);exact row.sl (w.lt 0 rfl) (w.get 0 rfl)
theorem pS{s:Ua}{v:V}{l:Ub}{h:H}{Q:Uc}(sl:Sl h v 1 l.length (zI l))(hl:l.length<=1000)(b:0<l.length->jE l=0)(a:Q (.int .i64 0) h)(hs:s.length<=131072:=by omega):RF P zB 75 [.str s,v] h Q:=by refine zh L75 zJH ⟨λc=>absurd (show(131072:Int)<(s.length:Int)from c) dd,λ_=>⟨_,sl.len zM rfl,λc=>bA sl hl ⟨_,rfl,?_⟩,λ_=>a⟩⟩;rw[b dd];exact a
def xI(k i n m:Nat):Prop:=n<2^fx k i/\m<2^fy k i/\(2<=k->(fz k i=1↔n<256))
instance(k i n m:Nat):Decidable (xI k i n m):=by unfold xI;infer_instance
def xN(k i n m:Nat):Nat:=if ff k i=3 then k+n*8 else k+4*i+n*2^ff k i+m*2^(ff k i+fx k i)
def ZW(k n m:Nat):Option Nat :=
 if k<2 then (if n<32 then some 0 else if n<4096 then some 1 else some 3)
 else if n<256 then (if m<1024 then some 0 else none)
 else if n<1024/\m<1024 then some 1 else if n<16384/\m<16384 then some 2 else some 3
def XY(k n m:Nat):Nat->Option Nat
 | 0=>none
 | i+1=>match XY k n m i with
  | none=>if xI k i n m then some i else none
  | some j=>if xI k i n m/\fw k i<fw k j then some i else some j
theorem ak{k n m:Nat}(c:k<4)(d:n<=131072)(hm:m<=131072)(h:k<2->m=0):XY k n m 4=ZW k n m:=by
 have e:(2:Nat)^5=32/\(2:Nat)^12=4096/\(2:Nat)^20=1048576/\(2:Nat)^0=1/\(2:Nat)^10=1024/\(2:Nat)^14=16384/\(2:Nat)^18=262144:=dg
 obtain⟨f,g,j,l,o,p,q⟩:=e;by_cases hk2:k<2
 .have a:=h hk2;subst a;have b:¬2<=k:=dd
  by_cases h1:n<32
  .have:n<4096:=dd
   have:n<1048576:=dd
   simp[XY,ZW,xI,fx,fy,fz,fw, *]
  by_cases h2:n<4096
  .have:n<1048576:=dd
   simp[XY,ZW,xI,fx,fy,fz,fw, *]
  have:n<1048576:=dd
  simp[XY,ZW,xI,fx,fy,fz, *]
 have b:2<=k:=dd
 have:n<262144:=dd
 have:m<262144:=dd
 by_cases h1:n<256
 .have:n<1024:=dd
  by_cases h2:m<1024
  .have:m<16384:=dd
   simp[XY,ZW,xI,fx,fy,fz,fw, *]
  simp[XY,ZW,xI,fx,fy,fz, *]
 by_cases h2:n<1024
 .have:n<16384:=dd
  by_cases h3:m<1024
  .have:m<16384:=dd
   simp[XY,ZW,xI,fx,fy,fz,fw, *]
  by_cases h4:m<16384
  .simp[XY,ZW,xI,fx,fy,fz,fw, *]
  simp[XY,ZW,xI,fx,fy,fz, *]
 by_cases h3:n<16384
 .by_cases h4:m<16384
  .simp[XY,ZW,xI,fx,fy,fz,fw, *]
  simp[XY,ZW,xI,fx,fy,fz, *]
 simp[XY,ZW,xI,fx,fy,fz, *]
theorem gM:∀k,k<4->∀i,i<4->ff k i+fx k i+fy k i=8*fw k i/\(k<2/\i=2\/k+4*i<2^ff k i)/\(ff k i=3->k<2/\(i=0\/i=2))/\3<=ff k i:=dg
theorem zB8{c n m a b d:Nat}(g:c<2^a)(f:n<2^b)(hm:m<2^d):c+n*2^a+m*2^(a+b)<2^(a+b+d):=by have e:(n+1)*2^a<=2^b*2^a:=Nat.mul_le_mul_right _ f;have h2:(m+1)*2^(a+b)<=2^d*2^(a+b):=Nat.mul_le_mul_right _ hm;rw[Nat.add_mul,Nat.one_mul]at e h2;rw[<-Nat.pow_add,Nat.add_comm b a]at e;rw[<-Nat.pow_add,Nat.add_comm d (a+b)]at h2;omega
theorem lO{k n m:Nat}(e:k<4)(hi:i<4)(h2:k<2->m=0)(a:¬(k<2/\i=2))(c:xI k i n m):xN k i n m=k+4*i+n*2^ff k i+m*2^(ff k i+fx k i)/\xN k i n m<256^fw k i:=by
 obtain⟨a1,a2,a3,a4⟩:=gM k e i hi;have f:k+4*i<2^ff k i:=a2.resolve_left a;have hs:=zB8 f c.1 c.2.1;rw[a1,tB]at hs;have d:xN k i n m=k+4*i+n*2^ff k i+m*2^(ff k i+fx k i):=by
  unfold xN;split
  .rename_i h3;obtain⟨b,g⟩:=a3 h3;have:m=0:=h2 b;have:i=0:=dd
   subst i;rw[h3,show m=0 by omega];omega
  rfl
 exact⟨d,by rw[d];exact hs⟩
theorem Dq{k n m:Nat}(g:k<4)(hi:i<4)(c:n<2^fx k i)(a:ff k i≠3):((k ||| i*2^2) ||| n*2^ff k i) ||| m*2^(ff k i+fx k i)=xN k i n m:=by
 have h4:ff k i=3\/ff k i=4:=by
  unfold ff;repeat' split
  all_goals simp
 have h4:ff k i=4:=h4.resolve_left a;have d:k ||| i*2^2=k+i*2^2:=qC dd;have e:(k+i*2^2) ||| n*2^ff k i=(k+i*2^2)+n*2^ff k i:=qC (by rw[h4];omega);have f:((k+i*2^2)+n*2^ff k i) ||| m*2^(ff k i+fx k i)=((k+i*2^2)+n*2^ff k i)+m*2^(ff k i+fx k i):=by refine qC ?_;have b:(n+1)*2^ff k i<=2^fx k i*2^ff k i:=Nat.mul_le_mul_right _ c;rw[Nat.add_mul,Nat.one_mul,<-Nat.pow_add,Nat.add_comm (fx k i)]at b;rw[h4]at b ⊢;omega
 rw[d,e,f];unfold xN;rw[if_neg a];omega
theorem zA9{k n m:Nat}(b:k<4)(a:ff k i=3):k ||| n*2^3=xN k i n m:=by unfold xN;rw[if_pos a,qC dd]
theorem Dp{k n m:Nat}(d:k<4)(hi:i<4)(h2:k<2->m=0)(b:xI k i n m):xN k i n m<256^fw k i:=by
 by_cases c:k<2/\i=2
 .obtain⟨a,rfl⟩:=c;have e:ff k 2=3:=by simp[ff,a]
  have f:fx k 2=5:=by simp[fx,a]
  have g:fw k 2=1:=by simp[fw,a]
  have:=b.1;unfold xN;rw[if_pos e,g];rw[f]at this;omega
 exact(lO d hi h2 c b).2
theorem Vl{k i n m:Nat}(c:k<4)(hi:i<4)(h2:k<2->m=0)(a:¬(k<2/\i=2))(b:xI k i n m):
  xN k i n m/2^ff k i % 2^fx k i=n/\xN k i n m/2^ff k i/2^fx k i % 2^fy k i=m/\xN k i n m % 4=k/\(∃j,j<4/\xN k i n m/4 % 4=j/\fw k j=fw k i/\ff k j=ff k i/\fx k j=fx k i/\fy k j=fy k i/\fz k j=fz k i):=by
 obtain⟨e,_⟩:=lO c hi h2 a b;obtain⟨a1,a2,a3,a4⟩:=gM k c i hi;have f:k+4*i<2^ff k i:=a2.resolve_left a;have hp:0<2^ff k i:=Nat.pow_pos dg;have d:=b.1;have hm:=b.2.1;have d1:xN k i n m/2^ff k i=n+m*2^fx k i:=by rw[e,Nat.pow_add,show k+4*i+n*2^ff k i+m*(2^ff k i*2^fx k i)=(k+4*i)+2^ff k i*(n+m*2^fx k i)by rw[Nat.mul_add,Nat.mul_comm n,Nat.mul_left_comm m,Nat.add_assoc],Nat.add_mul_div_left _ _ hp,Nat.div_eq_of_lt f,Nat.zero_add]
 have d2:(n+m*2^fx k i) % 2^fx k i=n:=by rw[Nat.add_mul_mod_self_right,ou d]
 have d3:(n+m*2^fx k i)/2^fx k i=m:=by rw[Nat.add_mul_div_right _ _ (Nat.pow_pos dg),Nat.div_eq_of_lt d,Nat.zero_add]
 refine⟨by rw[d1,d2],by rw[d1,d3,ou hm],?_,?_⟩
 .unfold xN;split
  .omega
  have:ff k i=4:=by
   have:ff k i=3\/ff k i=4:=by
    unfold ff;repeat' split
    all_goals simp
   omega
  rw[this,Nat.pow_add,Nat.mul_left_comm m,show(2:Nat)^4=16 from rfl];generalize m*2^fx k i=z;omega
 unfold xN;split
 .rename_i h3;obtain⟨h,o⟩:=a3 h3;refine⟨(k+n*8)/4 % 4,Nat.mod_lt _ dg,rfl,?_⟩;have:(k+n*8)/4 % 4=0\/(k+n*8)/4 % 4=2:=dd
  have l:i=0:=dd
  subst l;rcases this with g|g<;>rw[g]<;>simp[fw,ff,fx,fy,fz,h]
 have:ff k i=4:=by
  have:ff k i=3\/ff k i=4:=by
   unfold ff;repeat' split
   all_goals simp
  omega
 refine⟨i,hi,?_,rfl,rfl,rfl,rfl,rfl⟩;rw[this,Nat.pow_add,Nat.mul_left_comm m,show(2:Nat)^4=16 from rfl];generalize m*2^fx k i=z;omega
def ZU(k n m i:Nat):Ua:=match XY k n m i with
 | none=>[]
 | some j=>le (xN k j n m) (fw k j)
def wR(k n m i:Nat):Nat:=match XY k n m i with
 | none=>0
 | some j=>fw k j
theorem ao{k n m j:Nat}:∀{i},XY k n m i=some j->j<i
 | 0,h=>by cases h
 | i+1,h=>by
  unfold XY at h;cases e:XY k n m i with
  | none=>rw[e]at h;simp only at h;split at h<;>cases h;omega
  | some z=>rw[e]at h;simp only at h;have:=ao e;split at h<;>cases h<;>omega
theorem XZ{k n m:Nat}:wR k n m i=0↔XY k n m i=none:=by
 unfold wR;rcases XY k n m i with _|j
 .simp
 have:=uq k j;simp;omega
theorem Ez{k n m x:Nat}(a:xI k x n m)(hb:wR k n m x=0\/fw k x<wR k n m x):XY k n m (x+1)=some x:=by
 show(match XY k n m x with|none=>if xI k x n m then some x else none|some j=>if xI k x n m/\fw k x<fw k j then some x else some j)=some x;unfold wR at hb;rcases e:XY k n m x with _|j
 .simp only;rw[if_pos a]
 rw[e]at hb;simp only at hb ⊢;have:=uq k j;rw[if_pos ⟨a,dd⟩]
theorem zAD{k n m x:Nat}(h:¬(xI k x n m/\(wR k n m x=0\/fw k x<wR k n m x))):XY k n m (x+1)=XY k n m x:=by
 show(match XY k n m x with|none=>if xI k x n m then some x else none|some j=>if xI k x n m/\fw k x<fw k j then some x else some j)=XY k n m x;unfold wR at h;rcases e:XY k n m x with _|j
 .rw[e]at h;simp only at h ⊢;rw[if_neg (λg=>h ⟨g,.inl trivial⟩)]
 rw[e]at h;simp only at h ⊢;rw[if_neg (λg=>h ⟨g.1,.inr g.2⟩)]
theorem Zb{k n m j:Nat}(h:XY k n m i=some j):ZU k n m i=le (xN k j n m) (fw k j)/\wR k n m i=fw k j:=by unfold ZU wR;rw[h];exact⟨rfl,rfl⟩
theorem Ix{k n m j:Nat}(h:XY k n m i=XY k n m j):ZU k n m i=ZU k n m j/\wR k n m i=wR k n m j:=by unfold ZU wR;rw[h];exact⟨rfl,rfl⟩
theorem Ho{x k:Nat}(r:Ua)(h:0<k):hb (le x k++r) 0=x % 256:=by obtain⟨k,rfl⟩:∃j,k=j+1:=⟨k-1,dd⟩;simp[hb,le]
theorem CN{k n m:Nat}(b:k<4)(hi:i<4)(h2:k<2->m=0)(a:¬(k<2/\i=2))(c:xI k i n m)(r:Ua)(last:Ub)(most:Int):
  lW (le (xN k i n m) (fw k i)++r) 0 last most=lrB (le (xN k i n m) (fw k i)++r) 0 last most k (fz k i) n m (fw k i):=by
 obtain⟨q,s⟩:=uq k i;obtain⟨d,e,t,j,u,v,f,g,h,l,o⟩:=Vl b hi h2 a c;have hl:=(lO b hi h2 a c).2;have p:=qr (xN k i n m) (fw k i);unfold lW;rw[if_neg dd,show Int.toNat 0=0 from rfl,Ho r dd,show xN k i n m % 256 % 4=k by omega,show xN k i n m % 256/4 % 4=j by omega,f,g,h,l,o,
  if_neg (by rw[oW];omega),show zS (le (xN k i n m) (fw k i)++r) 0 (0+fw k i)=le (xN k i n m) (fw k i)from by unfold zS;rw[List.drop_zero,Nat.sub_zero,Nat.zero_add];exact List.take_left' p,bN,ou hl,d,e,Nat.zero_add]
theorem Do{k n m:Nat}(j:k<4)(l:n<=131072)(hm:m<=131072)(h2:k<2->m=0)(f:2<=k->n<256->m<1024):∃i,ZW k n m=some i/\i<4/\¬(k<2/\i=2)/\xI k i n m:=by
 have e:(2:Nat)^5=32/\(2:Nat)^12=4096/\(2:Nat)^20=1048576/\(2:Nat)^0=1/\(2:Nat)^10=1024/\(2:Nat)^14=16384/\(2:Nat)^18=262144:=dg
 obtain⟨o,p,q,r,s,t,u⟩:=e;by_cases hk2:k<2
 .have d:=h2 hk2;subst d;have c:¬2<=k:=dd
  by_cases h1:n<32
  .exact⟨0,by simp[ZW, *],dd,dd,by simp[xI,fx,fy, *]⟩
  by_cases h3:n<4096
  .exact⟨1,by simp[ZW, *],dd,dd,by simp[xI,fx,fy, *]⟩
  have:n<1048576:=dd
  exact⟨3,by simp[ZW, *],dd,dd,by simp[xI,fx,fy, *]⟩
 have c:2<=k:=dd
 have:n<262144:=dd
 have:m<262144:=dd
 by_cases h1:n<256
 .have h3:=f c h1;have:n<1024:=dd
  exact⟨0,by simp[ZW, *],dd,dd,by simp[xI,fx,fy,fz, *]⟩
 by_cases h3:n<1024/\m<1024
 .have:=h3.1;have:=h3.2;exact⟨1,by simp[ZW, *],dd,dd,by simp[xI,fx,fy,fz, *]⟩
 have g:n<1024->¬m<1024:=λa b=>h3 ⟨a,b⟩
 by_cases h4:n<16384/\m<16384
 .have:=h4.1;have:=h4.2;exact⟨2,by simp[ZW, *],dd,dd,by simp[xI,fx,fy,fz, *]⟩
 have h:n<16384->¬m<16384:=λa b=>h4 ⟨a,b⟩
 exact⟨3,by simp[ZW, *],dd,dd,by simp[xI,fx,fy,fz, *]⟩
abbrev Gc(l:Ug):O:=.cells (.ls l) ⟨0,148,0⟩ true false
abbrev kB(tb:Bool)(k n m x b p:Nat)(s:Ua)(l:V):Kn:=[(24,.bool tb),(11,.ptr p 0),(10,.int .i64 x),(0,.int .i64 k),(1,.int .i64 n),(2,.int .i64 m),(8,.str s),(9,.int .i64 b),(15,.int .i64 x),(14,l)]
theorem CS(x y:Nat)(a b:Bool):Yf zB .neq 4 (t x) (t y) (.bool a) (.bool b)=some (.bool (a != b)):=by cases a<;>cases b<;>kernel_rfl
def fl(x:Nat):Nat->Ua
 | 0=>[]
 | k+1=>UInt8.ofNat (yD .u8 (Int.ofNat x)).toNat::fl (Nat.shiftRight x 8) k
theorem zAQ(x:Nat):nP (run zB Yz 100 267 [.int .u64 (Int.ofNat x),.int .i64 1] H0)=some (.str (fl x 1)):=de
theorem zAR(x:Nat):nP (run zB Yz 100 267 [.int .u64 (Int.ofNat x),.int .i64 2] H0)=some (.str (fl x 2)):=de
theorem zAS(x:Nat):nP (run zB Yz 100 267 [.int .u64 (Int.ofNat x),.int .i64 3] H0)=some (.str (fl x 3)):=de
theorem zAT(x:Nat):nP (run zB Yz 100 267 [.int .u64 (Int.ofNat x),.int .i64 4] H0)=some (.str (fl x 4)):=de
theorem zAU(x:Nat):nP (run zB Yz 100 267 [.int .u64 (Int.ofNat x),.int .i64 5] H0)=some (.str (fl x 5)):=de
theorem zDI(x k:Nat):fl x k=le x k:=by
 induction k generalizing x with
 | zero=>rfl
 | succ k ih=>have h:(Int.ofNat x)=(x:Int):=rfl;rw[fl,le,ih,h,wy,oe,show Nat.shiftRight x 8=x >>> 8 from rfl,Nat.shiftRight_eq_div_pow]
theorem Hc{x k:Nat}{h:H}{Q:Uc}(b:1<=k/\k<=5)(a:Q (.str (le x k)) h):RF P zB 267 [.int .u64 x,.int .i64 k] h Q:=by
 rw[<-zDI]at a;have a2:∀v∈[V.int .u64 x,.int .i64 k],Plain v:=eI (zN _ _) (zN _ _);obtain rfl|rfl|rfl|rfl|rfl:k=1\/k=2\/k=3\/k=4\/k=5:=dd
 .exact RF.closed de (zAQ x) a2 (yR _) a
 .exact RF.closed de (zAR x) a2 (yR _) a
 .exact RF.closed de (zAS x) a2 (yR _) a
 .exact RF.closed de (zAT x) a2 (yR _) a
 exact RF.closed de (zAU x) a2 (yR _) a
theorem vC{x k:Nat}{h:H}{Q:Uc}(b:1<=k/\k<=5)(d:x<256^k)(e:Q (.tuple [.str (le x k),.int .i64 0]) h):RF P zB 202 [.int .u64 x,.int .i64 k] h Q:=by
 refine zh [0,1,4,5] zDz ⟨λc=>absurd c dd,λ_=>⟨λc=>absurd c dd,λ_=>⟨λ_=>?_,λc=>absurd c dd⟩⟩⟩;have hw:zb ((8:Int)*(k:Int))=((8*k:Nat):Int):=by rw[zD dd dd];omega
 refine⟨((x/2^(8*k):Nat):Int),by rw[hw];exact ko dd,λc=>?_,λ_=>λtm hs=>sg hs (Hc b ⟨_,rfl,λf a=>endW.r2 (a.get rfl) (a.get rfl) e⟩)⟩;rw[tB,Nat.div_eq_of_lt d]at c;exact absurd rfl c
section
variable {tb:Bool}{k n m x b p:Nat}{s:Ua}{l:V}{tm:Tm}{h:H}{Q:Ud}
theorem zA3(hs:Has tm (kB tb k n m x b p s l))(e:tb=true↔2<=k)(r:h.get p=some (Gc (EU k x)))(q:¬(2<=k->(fz k x=1↔n<256))->∀a,Has a (kB tb k n m x b p s l)->Q (.exit 1) ⟨98,a,[],h⟩)(j:(2<=k->(fz k x=1↔n<256))->∀a,Has a (kB tb k n m x b p s l)->Q .normal ⟨98,a,[],h⟩):Wf nJ FF ⟨98,tm,[],h⟩ Q:=by
 refine sg hs ?_;rcases tb with _|_
 .exact λa d=>j (λc=>absurd (e.2 c) dg) a (d.sub de)
 have f:=e.1 rfl;refine⟨fz k x,zJ zX rfl r rfl,λt=>⟨λo=>⟨_,CS _ _ _ _,λg=>(by cases g),λ_=>λa d=>j (λ_=>dd) a (d.sub de)⟩,
  λo=>⟨_,CS _ _ _ _,λ_=>λa d=>q (λg=>by have:=g f;omega) a (d.sub de),λg=>(by cases g)⟩⟩,
  λt=>⟨λo=>⟨_,CS _ _ _ _,λ_=>λa d=>q (λg=>by have:=g f;omega) a (d.sub de),λg=>(by cases g)⟩,
  λo=>⟨_,CS _ _ _ _,λg=>(by cases g),λ_=>λa d=>j (λ_=>dd) a (d.sub de)⟩⟩⟩
theorem Cv{n a:Nat}:((n/2^a:Nat):Int)≠0↔¬n<2^a:=by
 have h:0<2^a:=Nat.pow_pos dg;constructor
 .intro c h2;rw[Nat.div_eq_of_lt h2]at c;exact c rfl
 intro c h2;have h3:n/2^a=0:=dd
 rcases Nat.div_eq_zero_iff.1 h3 with h4|h4<;>omega
theorem zA4(hs:Has tm (kB tb k n m x b p s l))(f:h.get p=some (Gc (EU k x)))(o:k<4)(u:x<4)(y:n<=131072)(hm:m<=131072)(h2:k<2->m=0)(v:xI k x n m)(q:h.nx<=T.top)(j:h.low<=T.top)(z:∀a,Has a (kB tb k n m x (fw k x) p (le (xN k x n m) (fw k x)) l)->Q .normal ⟨98,a,[],h⟩):Wf nJ FG ⟨98,tm,[],h⟩ Q:=by
 have f1:=zDH k x;have C:=De k x;have D:=Df k x;have E:n*2^ff k x<=131072*2^4:=Nat.mul_le_mul y (Nat.pow_le_pow_right dg f1);have F:m*2^(ff k x+fx k x)<=131072*2^24:=Nat.mul_le_mul hm (Nat.pow_le_pow_right dg dd);have A:k ||| x*2^2<2^60:=Nat.or_lt_two_pow dd dd;have G:(k ||| x*2^2) ||| n*2^ff k x<2^60:=Nat.or_lt_two_pow A dd;have B:=Dp o u h2 v;have fin:∀a,Has a ((12,.int .u64 (xN k x n m:Nat))::kB tb k n m x b p s l)->Wf nJ zBK ⟨98,a,[],h⟩ (yL nJ Q):=by intro a hs;refine sg hs ?_;refine⟨fw k x,zJ zX rfl f rfl,vC (uq k x) B ⟨_,_,rfl,?_⟩⟩;exact⟨fw k x,zJ zX rfl f rfl,λe d=>d.slt λr t=>z r (t.sub de)⟩
 refine sg hs ⟨⟨q,j⟩,((x*2^2:Nat):Int),?_,((k ||| x*2^2:Nat):Int),?_,?_⟩
 .rw[zV dd];exact wD (n:=2) dg dd
 .rw[zV dd];exact ZM
 refine⟨ff k x,zJ zX rfl f rfl,((n*2^ff k x:Nat):Int),?_,(((k ||| x*2^2) ||| n*2^ff k x:Nat):Int),ZM,?_⟩
 .rw[zV dd];exact wD dd dd
 refine⟨ff k x,zJ zX rfl f rfl,?_⟩;refine⟨fx k x,zJ zX rfl f rfl,((m*2^(ff k x+fx k x):Nat):Int),?_,((((k ||| x*2^2) ||| n*2^ff k x) ||| m*2^(ff k x+fx k x):Nat):Int),ZM,?_⟩
 .rw[zV dd,zD dd dd];exact wD (n:=ff k x+fx k x) dd dd
 refine⟨ff k x,zJ zX rfl f rfl,λc=>?_,λc=>λe d=>fin e ?_⟩
 .have w:ff k x=3:=dd
  refine⟨ff k x,zJ zX rfl f rfl,((n*2^ff k x:Nat):Int),?_,(xN k x n m:Nat),?_,λe d=>fin e (d.sub de)⟩
  .rw[zV dd];exact wD dd dd
  rw[zV dd,ZM,w,zA9 (m:=m) o w]
 rw[<-Dq o u v.1 (λg=>c dd)];exact d.sub de
theorem zA2(hs:Has tm (kB tb k n m x b p s l))(o:h.get p=some (Gc (EU k x)))(q:¬(n<2^fx k x/\m<2^fy k x/\(b=0\/fw k x<b))->∀d,Has d (kB tb k n m x b p s l)->Q (.exit 1) ⟨98,d,[],h⟩)(r:(n<2^fx k x/\m<2^fy k x/\(b=0\/fw k x<b))->∀d,Has d (kB tb k n m x b p s l)->Wf nJ FG ⟨98,d,[],h⟩ (yL nJ Q)):Wf nJ FH ⟨98,tm,[],h⟩ Q:=by
 refine sg hs ?_;have w:=De k x;have y:=Df k x;refine⟨fx k x,zJ zX rfl o rfl,((n/2^fx k x:Nat):Int),jZ dd,λe=>λa c=>q (λg=>Cv.1 e g.1) a (c.sub de),λe=>?_⟩;have f:n<2^fx k x:=Classical.not_not.1 λg=>e (Cv.2 g)
 refine⟨fy k x,zJ zX rfl o rfl,((m/2^fy k x:Nat):Int),jZ dd,λe=>λa c=>q (λg=>Cv.1 e g.2.1) a (c.sub de),λt=>?_⟩;have j:m<2^fy k x:=Classical.not_not.1 λg=>t (Cv.2 g)
 refine⟨λu=>?_,λu=>λa c=>r ⟨f,j,.inl dd⟩ a (c.sub de)⟩;exact⟨fw k x,zJ zX rfl o rfl,λv=>λa c=>q (λg=>by have:=g.2.2;omega) a (c.sub de),λv=>λa c=>r ⟨f,j,.inr dd⟩ a (c.sub de)⟩
theorem S7(hs:Has tm (kB tb k n m x (wR k n m x) p (ZU k n m x) l))(r:tb=true↔2<=k)(t:h.get p=some (Gc (EU k x)))(D:k<4)(E:x<4)(F:n<=131072)(hm:m<=131072)(h2:k<2->m=0)(u:h.nx<=T.top)(o:h.low<=T.top)(C:∀e,e = .normal\/e = .exit 1->∀a,Has a (kB tb k n m x (wR k n m (x+1)) p (ZU k n m (x+1)) l)->Q e ⟨98,a,[],h⟩):
  Wf nJ FF ⟨98,tm,[],h⟩ (thenC (sealK nJ λs1=>Wf nJ FH s1 Q) Q):=by
 have no:¬(xI k x n m/\(wR k n m x=0\/fw k x<wR k n m x))->∀a,Has a (kB tb k n m x (wR k n m x) p (ZU k n m x) l)->Q (.exit 1) ⟨98,a,[],h⟩:=λc a d=>by obtain⟨v,w⟩:=Ix (zAD c);rw[<-v,<-w]at d;exact C _ (.inr rfl) a d
 have yes:xI k x n m/\(wR k n m x=0\/fw k x<wR k n m x)->∀a,Has a (kB tb k n m x (fw k x) p (le (xN k x n m) (fw k x)) l)->Q .normal ⟨98,a,[],h⟩:=λc a d=>by obtain⟨v,w⟩:=Zb (Ez c.1 c.2);rw[<-v,<-w]at d;exact C _ (.inl rfl) a d
 refine zA3 hs r t (λc a d=>no (λg=>c g.1.2.2) a d) (λc a d=>thenC.nx (d.sealK λG y=>?_));exact zA2 (y.sub (l':=kB tb k n m x (wR k n m x) p (ZU k n m x) l) de) t (λf q j=>no (λg=>f ⟨g.1.1,g.1.2.1,g.2⟩) q j)
  λf q j=>zA4 j t D E F hm h2 ⟨f.1,f.2.1,c⟩ u o λH z=>z.slt λA B=>yes ⟨⟨f.1,f.2.1,c⟩,f.2.2⟩ A (B.sub de)
end
theorem Ys{k n m:Nat}{h:H}{Q:Uc}(V:k<4)(X:n<=131072)(hm:m<=131072)(h2:k<2->m=0)(W:Q (.tuple [.str (ZU k n m 4),.bool (decide (0<wR k n m 4))]) h):RF P zB 132 [.int .i64 k,.int .i64 n,.int .i64 m] h Q:=by
 refine RF.plain ?_ (zg rfl);have W:∀h':H,Plain (.tuple [.str (ZU k n m 4),.bool (decide (0<wR k n m 4))])/\Q (.tuple [.str (ZU k n m 4),.bool (decide (0<wR k n m 4))]) h:=λ_=>⟨Z0 (yR _) (xh _),W⟩
 have z0:H0.nx=0:=rfl;have zl:H0.low<=T.top:=oG rfl;have zt:=zt;obtain⟨I,J,K,L,M,N,O,R,S,U,g,j,o,q,r,s,t,u,v,w,Y⟩:=Q6 k;refine zh nJ zD0 (sW V ⟨I,J,K,L,M,N,O,R,S,U,g,j,o,q,r,s,t,u,v,w,by rw[Y],λtm hs=>?_⟩);have ea:=λ{x:Nat}(E:x<4)=>Bg (k:=k) E;rw[Y]at ea;clear Y;refine wpC.round (λz tm h'=>∃x:Nat,x<=4/\z=4-x/\Ext H0 h' x/\Has tm [(15,.int .i64 x),(14,.agg [.int .i64 I,.int .i64 J,.int .i64 K,.int .i64 L,.int .i64 M,.int .i64 N,.int .i64 O,.int .i64 R,.int .i64 S,.int .i64 U,.int .i64 g,.int .i64 j,.int .i64 o,.int .i64 q,.int .i64 r,.int .i64 s,.int .i64 t,.int .i64 u,.int .i64 v,.int .i64 w]),(0,.int .i64 k),(1,.int .i64 n),(2,.int .i64 m),(8,.str (ZU k n m x)),(9,.int .i64 (wR k n m x))]) 4
  ⟨0,dd,dd,Ext.refl _,hs.sub de⟩ ?_
 clear hs;rintro z tm h' ⟨x,x1,rfl,ex,hs⟩;have et:=ex.top;have el:=ex.le;have elow:=ex.low;refine cg nJ hs ⟨λc=>?_,λc=>λtm' Z=>?_⟩
 .have E:x<4:=dd
  refine⟨_,_,_,_,_,ea E,dd,?_⟩;rintro p h6 rfl e6;obtain⟨n6,x6,g6⟩:=zm e6;obtain⟨F,e7,g7,G,n7⟩:∃F,jP zB 147 h6 (.ptr h'.nx 0) (.agg (EU k x))=some F/\F.get h'.nx=some (Gc (EU k x))/\Ext h' F 1/\F.nx=h6.nx :=
   ⟨_,zY AW g6 rfl,zF _ dd,x6.upd _ dd (oR _),rfl⟩
  have l7:=G.low;have y:F.nx<=T.top:=dd
  have A:F.low<=T.top:=dd
  refine⟨F,e7,λc2=>λD a=>?_,λc2=>⟨λc3=>λD a=>?_,λc3=>λD a=>?_⟩⟩
  .refine S7 (tb:=true) (x:=x) (p:=h'.nx) (l:=.agg [.int .i64 I,.int .i64 J,.int .i64 K,.int .i64 L,.int .i64 M,.int .i64 N,.int .i64 O,.int .i64 R,.int .i64 S,.int .i64 U,.int .i64 g,.int .i64 j,.int .i64 o,.int .i64 q,.int .i64 r,.int .i64 s,.int .i64 t,.int .i64 u,.int .i64 v,.int .i64 w]) (a.sub de) (by simp;omega) g7 V E X hm h2 y A ?_;rintro e (rfl|rfl) tm3 f
   .exact thenC.nx (sg f (λB b=>b.slt λC d=>⟨rfl,rfl,4-(x+1),dd,x+1,dd,rfl,ex.trans G,by rw[<-zf];exact d.sub de⟩))
   exact thenC.out (sg f (λB b=>b.slt λC d=>⟨rfl,rfl,4-(x+1),dd,x+1,dd,rfl,ex.trans G,by rw[<-zf];exact d.sub de⟩))
  .refine S7 (tb:=true) (x:=x) (p:=h'.nx) (l:=.agg [.int .i64 I,.int .i64 J,.int .i64 K,.int .i64 L,.int .i64 M,.int .i64 N,.int .i64 O,.int .i64 R,.int .i64 S,.int .i64 U,.int .i64 g,.int .i64 j,.int .i64 o,.int .i64 q,.int .i64 r,.int .i64 s,.int .i64 t,.int .i64 u,.int .i64 v,.int .i64 w]) (a.sub de) (by simp;omega) g7 V E X hm h2 y A ?_;rintro e (rfl|rfl) tm3 f
   .exact thenC.nx (sg f (λB b=>b.slt λC d=>⟨rfl,rfl,4-(x+1),dd,x+1,dd,rfl,ex.trans G,by rw[<-zf];exact d.sub de⟩))
   exact thenC.out (sg f (λB b=>b.slt λC d=>⟨rfl,rfl,4-(x+1),dd,x+1,dd,rfl,ex.trans G,by rw[<-zf];exact d.sub de⟩))
  refine S7 (tb:=false) (x:=x) (p:=h'.nx) (l:=.agg [.int .i64 I,.int .i64 J,.int .i64 K,.int .i64 L,.int .i64 M,.int .i64 N,.int .i64 O,.int .i64 R,.int .i64 S,.int .i64 U,.int .i64 g,.int .i64 j,.int .i64 o,.int .i64 q,.int .i64 r,.int .i64 s,.int .i64 t,.int .i64 u,.int .i64 v,.int .i64 w]) (a.sub de) (by simp;omega) g7 V E X hm h2 y A ?_;rintro e (rfl|rfl) tm3 f
  .exact thenC.nx (sg f (λB b=>b.slt λC d=>⟨rfl,rfl,4-(x+1),dd,x+1,dd,rfl,ex.trans G,by rw[<-zf];exact d.sub de⟩))
  exact thenC.out (sg f (λB b=>b.slt λC d=>⟨rfl,rfl,4-(x+1),dd,x+1,dd,rfl,ex.trans G,by rw[<-zf];exact d.sub de⟩))
 have E:x=4:=dd
 subst E;refine thenC.left (sg Z ⟨λc2=>λD a=>endW.r2 (a.get rfl) (a.get rfl) ?_,λc2=>λD a=>endW.r2 (a.get rfl) (a.get rfl) ?_⟩)
 .have:=W H0
  rwa [decide_eq_true (show 0<wR k n m 4 by omega)]at this
 have:=W H0
 rwa [decide_eq_false (show ¬0<wR k n m 4 by omega)]at this
theorem aq(l:Ub)(b:Nat):∀n,Tn (IU l n) (b:Int)=if b<n then (match (Yc l)[b]? with|some p=>if 0<p.1 then some (aH p) else none|none=>none) else none
 | 0=>by rw[if_neg dd];rfl
 | n+1=>by
  have ih:=aq l b n;unfold IU;by_cases e:b=n
  .subst e;rw[if_neg dd]at ih;rw[if_pos dd];cases a:(Yc l)[b]? with
   | none=>exact ih
   | some p =>
    dsimp only;by_cases c:0<p.1
    .rw[if_pos c,if_pos c,bB,if_pos rfl];rfl
    rw[if_neg c,if_neg c];exact ih
  have d:(if b<n+1 then (match (Yc l)[b]? with|some p=>if 0<p.1 then some (aH p) else none|none=>none) else none)=(if b<n then (match (Yc l)[b]? with|some p=>if 0<p.1 then some (aH p) else none|none=>none) else none):=by
   by_cases c:b<n
   .rw[if_pos c,if_pos dd]
   rw[if_neg c,if_neg dd]
  rw[d,<-ih];cases a:(Yc l)[n]? with
  | none=>rfl
  | some p =>
   dsimp only;by_cases c:0<p.1
   .rw[if_pos c,bB,if_neg dd]
   rw[if_neg c]
theorem zAE{l:Ub}{b:UInt8}{x:Int}(a:yk l)(h:l[b.toNat]? = some x)(c:0<x):Tn (IU l l.length) ((b.toNat:Nat):Int)=some (.agg [.int .i64 ((nK l b).1:Nat),.int .i64 ((nK l b).2:Nat)]):=by obtain⟨d,e,_⟩:=eU a h c;rw[aq,if_pos (List.getElem?_eq_some_iff.1 h).1,d];dsimp only;rw[if_pos dd];rfl
def tH(l:Ub)(s:Ua):Bool:=s.all λb=>match l[b.toNat]? with|some x=>decide (x≠0)|none=>false
theorem uL{l:Ub}{s:Ua}(a:yk l)(h:tH l s=true):Tx l s:=λb hb=>by
 have:=List.all_eq_true.1 h b hb;rcases e:l[b.toNat]? with _|x
 .rw[e]at this;cases this
 rw[e]at this;have c:=(yq a.2.1 (List.mem_of_getElem? e)).1;have d:x≠0:=of_decide_eq_true this;exact⟨x,rfl,dd⟩
theorem zBc{l:Ub}{s:Ua}(h:Tx l s):tH l s=true:=List.all_eq_true.2 λb hb=>by obtain⟨x,e,a⟩:=h b hb;rw[e];exact decide_eq_true dd
theorem zGo{t:Nat}{v:V}{n:Int}:xK zB t v (.int .u8 n)=xK zB t v (.int .i64 n):=by cases v<;>rfl
theorem TW{v:V}{l:Ub}{s:Ua}{h:H}{Q:Uc}(sl:Sl h v 1 l.length (zI l))(D:yk l)(_:h.low<=T.top)(F:Q (.int .i64 (if tH l s=true then 0 else 7)) h)(hs:s.length<=100000:=by omega)(N:h.nx+1<=T.top:=by omega):RF P zB 300 [v,.str s] h Q:=by
 refine RF.forget (n:=1) (v:=.int .i64 (if tH l s=true then 0 else 7)) ?_ (zN _ _) F;clear F;have hl:=D.1;obtain⟨v4,h3,I,G,w,_⟩:=sL (h:=h) (l:=s) dd dd;refine zh zCa zFC (bA sl dd ⟨_,rfl,λc=>absurd (KV D) c,λ_=>⟨λc=>absurd (show(131072:Int)<(s.length:Int)from c) dd,λ_=>⟨v4,h3,I,_,G.sl.len Je rfl,λtm f=>?_⟩⟩⟩);have r:=sl.ext w;refine wpC.round (λk tm h'=>∃i:Nat,i<=s.length/\k=s.length-i/\h'=h3/\(∀j,j<i->∀b,s[j]? = some b->(match l[b.toNat]? with|some x=>decide (x≠0)|none=>false)=true)/\Has tm [(21,.int .i64 i),(20,.int .i64 s.length),(19,v4),(0,v)]) s.length ⟨0,dd,dd,rfl,λj y=>dd,f.sub de⟩ ?_;clear f;rintro k tm h' ⟨i,O,rfl,rfl,m,f⟩;refine cg zCa f ⟨λc=>?_,λc=>λq a=>?_⟩
 .have hi:i<s.length:=dd
  obtain⟨b,o,a1,a2⟩:=cI G.sl hi;have g:s[i]? = some s[i]:=oQ hi;have p:s[i]∈s:=oV hi;generalize s[i]=c0 at a2 g p;have R:=c0.toNat_lt;have t:(match l[c0.toNat]? with|some x=>decide (x≠0)|none=>false)=false->tH l s=false:=λe=>by rw[<-Bool.not_eq_true];intro J;have:=List.all_eq_true.1 J c0 p;rw[e]at this;cases this
  refine⟨b,o,a1,(c0.toNat:Nat),a2,_,r.len zM rfl,λz=>λq a=>?_,λz=>?_⟩
  .rw[zD dd dd]at z;have e:tH l s=false:=t (by rw[ov]);rw[e];exact thenC.rt (thenC.rt (endW.r1 (a.get rfl) ⟨rfl,w⟩))
  rw[zD dd dd]at z;have u:c0.toNat<l.length:=dd
  obtain⟨K,L,a3,a4⟩:=yS r u;have A:l[c0.toNat]? = some l[c0.toNat]:=oQ u;generalize l[c0.toNat]=x at a4 A;refine⟨K,L,zGo.trans a3,x,a4,λB=>λq a=>?_,λB=>λq a=>?_⟩
  .have e:tH l s=false:=t (by rw[A,B];rfl);rw[e];exact thenC.rt (thenC.rt (endW.r1 (a.get rfl) ⟨rfl,w⟩))
  refine⟨rfl,rfl,s.length-(i+1),dd,i+1,dd,rfl,rfl,λj y d hd=>?_,?_⟩
  .by_cases c4:j=i
   .subst c4;rw[g]at hd;cases hd;rw[A];exact decide_eq_true B
   exact m j dd d hd
  rw[<-zf];exact a.sub de
 have hi:i=s.length:=dd
 subst hi;have e:tH l s=true:=List.all_eq_true.2 λb hb=>by obtain⟨j,y,rfl⟩:=List.getElem_of_mem hb;exact m j y _ (oQ y)
 rw[e];exact thenC.left (sg a (λM C=>endW.r1 (C.get rfl) ⟨rfl,w⟩))
theorem SH{w:Ua}{u:V}{lp pc:Nat}{h:H}{Q:Uc}(I:Nat->H->Prop)(hw:w.length<=100000)(h0:I 0 h)(d:∀i h',I i h'->ye zB 71 h' (.ptr pc 0)=some u)(e:∀i h',I i h'->Sl h' u 1 w.length (Jh w))(a:∀i h' (hi:i<w.length),I i h'->RR P lp [.int .i64 (w.length-1-i:Nat),tY w[w.length-1-i]] h' λr h2=>r = .bool true/\I (i+1) h2)(l:∀h',I w.length h'->Q (.tuple []) h'):RF P zB 337 [.yield lp,.ptr pc 0] h Q:=by
 refine zh zCo zF9 ⟨u,d 0 h h0,_,(e 0 h h0).len Je rfl,λtm hs=>?_⟩;refine wpC.round (λk tm h'=>∃i:Nat,i<=w.length/\k=w.length-i/\I i h'/\Has tm [(3,.int .i64 ((w.length:Int)-1-i)),(0,.yield lp),(1,.ptr pc 0)]) w.length ⟨0,dd,dd,h0,?_⟩ ?_
 .have:zb ((w.length:Int)-1)=(w.length:Int)-1-(0:Nat):=by rw[zD dd dd];omega
  rw[<-this];exact hs.sub de
 clear hs;rintro k tm h' ⟨i,q,rfl,ii,hs⟩;refine cg zCo hs ⟨λc=>?_,λc=>λg f=>?_⟩
 .have hi:i<w.length:=dd
  have j:(w.length:Int)-1-i=((w.length-1-i:Nat):Int):=dd
  obtain⟨b,o,m,n⟩:=cI (i:=w.length-1-i) (e i h' ii) dd;refine⟨u,d i h' ii,b,o,by rw[j];exact m,_,n,?_⟩;show RR P lp [.int .i64 ((w.length:Int)-1-i),tY w[w.length-1-i]] h' _;rw[j];refine RR.mono (a i h' hi ii) ?_;rintro r h2 ⟨rfl,p⟩;refine JD ((λg f=>⟨rfl,rfl,w.length-(i+1),dd,i+1,dd,rfl,p,?_⟩));have:zb (((w.length-1-i:Nat):Int)-1)=(w.length:Int)-1-(i+1:Nat):=by rw[zD dd dd];omega
  rw[<-this];exact f.sub de
 have hi:i=w.length:=dd
 subst hi;show endW zB ⟨19,[],bf 337⟩ Q (exitB 0 (.exit 0)) _;rw[xM];exact l h' ii
theorem Dt(l:Ub)(w:Wr)(s:Ua)(hi:i<s.length):hw l w (s.drop (s.length-(i+1)))=zu (hw l w (s.drop (s.length-i))) (nK l s[s.length-1-i]).2 (nK l s[s.length-1-i]).1:=by simp only[show s.length-1-i=s.length-(i+1)by omega];have:=List.drop_eq_getElem_cons (l:=s) (i:=s.length-(i+1)) dd;rw[this,show s.length-(i+1)+1=s.length-i by omega];rfl
noncomputable abbrev lpH(st:LoopState)(tm:Tm)(df:Nat):O:=.loop st none 42 tm #[20,21] An zA0 df
abbrev oMp(r:Nat):O:=.cells (.ls [.map r]) ⟨0,312,0⟩ true false
theorem pR{v:V}{l:Ub}{s:Ua}{h:H}{Q:Uc}(sl:Sl h v 1 l.length (zI l))(B:yk l)(U:Tx l s)(hs:s.length<=2000)(hn:h.nx+3000<=T.top)(C:h.low<=T.top)(z:Q (.str (Z5 l s)) h):RF P zB 301 [v,.str s] h Q:=by
 refine RF.forget (n:=1600) (v:=.str (Z5 l s)) ?_ (yR _) z;clear z;refine zh E8 zFD (uH sl B dd C λM e r7 W q1 q2 q3 m6 m7=>⟨_,_,rfl,rfl,by have:=W.top;omega,?_⟩);have t1:=W.top;obtain⟨es,N,g6,D⟩:=m6;rintro p4 h5 rfl e5;have w1:Vw zH h M 1400 [(e,.map es N)]:=((Vw.nil (S:=zH) (h:=h)).ext W).push (p:=e) (o:=.map es N) (λq z=>by cases z) dd q1 g6;have w5:=w1.new e5 dd;have n5:h5.nx=M.nx+1:=by rw[e5,zC]
 obtain⟨O,e6,w6,n6,_⟩:=w5.st (cx:=zB) 0 (t:=311) (f:=0) (u:=.map e) (cs':=.ls [.map e]) rfl dd T1 rfl;refine⟨O,e6,dd,?_⟩;rintro p7 X rfl e8;have Y:=w6.new (o:=Qy w0) e8 dd;have n8:X.nx=O.nx+1:=by rw[e8,zC]
 obtain⟨v10,R,e9,ob,x9,Z⟩:=sL (h:=X) (l:=s) dd dd;have t9:=x9.top;obtain⟨A,g,rfl,o1,o2,o3,o4,o5⟩:=ob;have hb9:A=X.nx:=by cases Z;rfl
 have w9:=(Y.ext x9).push (p:=A) (o:=.cells g ⟨1,0,0⟩ true true) (λq z=>by rw[hb9];exact Y.bk.lt q z) o1 (by have:=Y.le;omega) o2;refine⟨_,R,e9,?_⟩;refine zh zIF zFW ⟨rfl,dd,?_⟩;rintro pc a rfl E;have w12:=w9.new E dd;have n12:a.nx=R.nx+1:=by rw[E,zC]
 refine⟨_,rfl,λtm m=>?_⟩;refine Vw.range (s:=⟨42,tm,[],a⟩) w12 (captured:=[.ptr R.nx 0]) (show yt tm (t 19)=_ from congrArg some (m.get rfl)) (by show a.nx+2<=_;omega) λF w14 G=>?_
 replace G:F.nx=a.nx+2:=G;refine SH (w:=s) (u:=.slice A 0 s.length (.skip 0)) (λk h'=>h'.nx=F.nx/\Vw zH h h' 1406 ((a.nx+1,lpH .ready tm a.nx)::(a.nx,.deferred true)::(R.nx,.cells (.ls [.slice A 0 s.length (.skip 0)]) ⟨0,72,0⟩ true false)::(A,.cells g ⟨1,0,0⟩ true true)::(O.nx,Qy (hw l w0 (s.drop (s.length-k))))::(M.nx,oMp e)::[(e,.map es N)])) dd
  ⟨rfl,by rw[Nat.sub_zero,List.drop_length];exact w14.more dd⟩ (λk h' i=>i.2.ld1 2 rfl Je rfl) (λk h' i=>⟨by rw[kY,Nat.mul_one],.inr ⟨A,0,_,g,_,_,_,rfl,i.2.lt 3 rfl,i.2.get 3 rfl,λj hj=>by rw[Nat.zero_add];exact o5 j dd⟩⟩) (λk h' hk i=>?_) λh' i=>?_
 .obtain⟨nx,w'⟩:=i;refine w'.round (il:=0) (c':=1406) rfl dd (l:=[(7,.ptr O.nx 0),(5,.ptr M.nx 0)]) (m.sub de) rfl λtm0 hs1=>?_
  refine cg E8 hs1 (λtm1 I=>⟨rfl,rfl,rfl,rfl,λJ d n1'=>?_⟩);have hi:s.length-1-k<s.length:=dd
  have eb:=Dt l w0 s hk;obtain⟨x,r,K⟩:=U _ (oV hi);generalize s[s.length-1-k]=b at eb r I ⊢;obtain⟨c1,c2,c3,c4,_⟩:=eU B r K;have hp:2^(nK l b).1<=2^11:=Nat.pow_le_pow_right dg c3;have lk:Y1 zB 311 J (.map e) (lQ ((b.toNat:Nat):Int)) false=_:=(MapG.look ⟨es,N,d.get 6 rfl,D⟩ (t:=311) GF Qi T1 rfl Y6 rfl _ false);rw[zAE B r K]at lk;have ok:=gQ B T3 (s:=s.drop (s.length-k)) λc hc=>U c (List.mem_of_mem_drop hc)
  rw[List.length_drop]at ok;refine cg E8 I ⟨_,_,_,EW d (i:=4) rfl,_,d.ld1 5 rfl T1 rfl,_,_,lk,_,d.ld1 5 rfl T1 rfl,_,_,lk,?_⟩;show RF P zB 257 [_,_,.int .u64 (yD _ _)] J _;rw[zV dd];refine eO ok dd c3 c4 ⟨_,_,_,_,rfl,?_⟩;obtain⟨h2,e2,w2,n2,_⟩:=d.st (cx:=zB) 4 (t:=220) (f:=0) (u:=Jf (zu (hw l w0 (s.drop (s.length-k))) (nK l b).2 (nK l b).1)) rfl dd uM rfl;rw[<-eb]at w2;exact⟨h2,e2,λtm5 hs5=>⟨rfl,rfl,_,w2,(show h2.nx<=_ by omega),rfl,λh4 w4 n4 _=>⟨rfl,by rw[n4];show h2.nx=_;omega,w4⟩⟩⟩
 obtain⟨nx,w'⟩:=i;refine⟨1406,_,w',dd,λh19 o y n19 _=>?_⟩;rw[Nat.sub_self,List.drop_zero]at y;have ok:=gQ B T3 U;refine sg (live:=E8) m ⟨_,_,_,EW y (i:=4) rfl,ae ok ⟨_,_,rfl,λL hs3=>?_⟩⟩;show Kr [.coll a.nx] h19 _;refine y.ends (i:=1) rfl dd λh4 w4 n4 _=>?_
 have el:leave zB [.tmp 4] L h4 [.tmp 4] []=some [V.str (Z5 l s)]:=leave.tmp (hs3.get (t:=4) rfl) rfl;show(match leave zB [.tmp 4] L h4 [.tmp 4] []with|some vs=>(λv' h'=>v'=V.str (Z5 l s)/\Ext h h' 1600) (yC vs) h4|none=>False);rw[el];exact⟨rfl,w4.ex0.mono dd⟩
theorem N6{v:V}{l:Ub}{s:Ua}{h:H}{Q:Uc}(sl:Sl h v 1 l.length (zI l))(d:yk l)(hs:s.length<=2000)(f:h.nx+3000<=T.top)(a:h.low<=T.top)(b:Q (if tH l s=true then .tuple [.str (Z5 l s),.int .i64 0] else .tuple [.str [],.int .i64 7]) h):RF P zB 270 [v,.str s] h Q:=by
 refine zh zHj zEf (TW sl d a ⟨_,rfl,λc=>?_,λc=>?_⟩)
 .by_cases e:tH l s=true
  .rw[if_pos e]at c;exact absurd rfl c
  rw[if_neg e]at b ⊢;exact b
 by_cases e:tH l s=true
 .rw[if_pos e]at b;exact pR sl d (uL d e) hs f a ⟨_,rfl,b⟩
 rw[if_neg e]at c;exact absurd (show(7:Int)≠0 by decide) c
end Go.Proofs.YtnpeieeomokomaaGreat
