/- TR. No condition. -/
import Derived.Test.YtnpeieeomokomaaGreatYTP
import Derived.Test.YtnpeieeomokomaaGreatYTG
import Derived.Test.YtnpeieeomokomaaGreatYTO
set_option maxRecDepth 100000
set_option maxHeartbeats 1000000
namespace Go.Proofs.YtnpeieeomokomaaGreat
open Go.Sim
variable {h:H}{Q:V->H->Prop}
variable{cur own:List Int}
theorem zD2(h:∀x∈own,0<=x):∀k,k<=own.length->(pos own k).length=cnt (own.take k)
 | 0,_=>by simp[pos,cnt]
 | k+1,hk=>by
  have hk':k<own.length:=by omega
  rw[zFq,oU,zD2 h k (by omega),xY hk',kq,oO hk',Option.getD_some]
  congr 1
  have:=h _ (oS hk');by_cases c:0<own[k]
  ·rw[if_pos c]
   have e:cnt [own[k]]=1:=by unfold cnt;rw[List.filter_cons_of_pos (by simp;omega)];rfl
   rw[e];rfl
  ·rw[if_neg c]
   have:own[k]=0:=by omega
   rw[this];rfl
theorem GL.gc(g:GL own):GC own:=⟨g.len,g.rng⟩
theorem GL.cnt2(g:GL own):2<=cnt own:=by
 have:=zD2 (λx hx=>(g.rng x hx).1) own.length (oP _)
 rw[List.take_length]at this;have:=g.two;omega
theorem zBZ{v:V}(sl:Sl h v 1 own.length (zJ own))(g:GL own)(hq:Q (.int .i64 0) h):RF P zA 105 [v] h Q :=
 yK z0E rfl rfl z2N (YM sl g.gc ⟨_,rfl,λc=>absurd rfl c,λ_=>Zb sl g.gc ⟨_,_,rfl,λc=>by have:=g.cnt2;omega,λ_=>hq⟩⟩)
def hvs(l:List Int)(i:Nat):List Int:=(qA l).take i++l.drop i
theorem zRr(l:List Int):hvs l l.length=qA l:=by
 unfold hvs;rw[List.drop_length,List.append_nil,<-q8 l,List.take_length]
theorem zXi{l:List Int}{i:Nat}(h:i<l.length):(hvs l i)[i]? = some l[i]:=by
 unfold hvs;have e:((qA l).take i).length=i:=by rw[List.length_take,q8];omega
 rw[List.getElem?_append_right (by omega),e,Nat.sub_self,List.getElem?_drop,Nat.add_zero,oO h]
theorem zRs{l:List Int}{i:Nat}(h:i<l.length):(hvs l i).set i (l[i]-l[i]/2)=hvs l (i+1):=by
 unfold hvs;have e:((qA l).take i).length=i:=by rw[List.length_take,q8];omega
 rw[List.set_append_right _ _ (by omega),e,Nat.sub_self,List.drop_eq_getElem_cons h,List.set_cons_zero,xY (by rw[q8];exact h),List.append_assoc]
 congr 1
 simp[qA]
abbrev oOw(cs:Cs):O:=.cells cs (j7 yw) true true
theorem zHS{hb h:H}{c b n:Nat}{cs:Cs}{cur:List Int}{tm:Tm}{d:List AD}{Q:AX->St->Prop}(w:Vw zS hb h c [(b,oOw cs)])(row:Row cs n (zJ cur))(hln:cur.length=n)(hn:n<=256)(hx:∀x∈cur,0<=x/\x<=1000)(ht:h.nx<=T.top)(lb:hb.low<=T.top)(hs:Has tm [(30,.int .i64 (0:Nat)),(29,.int .i64 (n:Nat)),(5,.slice b 0 n (.skip 0))])(hq:∀tm' h' cs',Has tm' [(5,.slice b 0 n (.skip 0))]->Vw zS hb h' c [(b,oOw cs')]->Row cs' n (zJ (qA cur))->h'.nx=h.nx->Q (.exit 4) ⟨47,tm',d,h'⟩):wpC P zA false (.loop zOD) ⟨47,tm,d,h⟩ Q:=by
 refine wpC.round (λk tm h'=>∃(i:Nat) (cs:Cs),i<=n/\k=n-i/\Vw zS hb h' c [(b,oOw cs)]/\Row cs n (zJ (hvs cur i))/\h'.nx=h.nx/\Has tm [(30,.int .i64 (i:Nat)),(29,.int .i64 (n:Nat)),(5,.slice b 0 n (.skip 0))]) n ⟨0,cs,by omega,by omega,w,row,rfl,hs⟩ ?_
 clear hs row w tm cs;rintro k tm h' ⟨i,cs,hi,rfl,w,row,hnx,hs⟩;have lo:=oQ w.low lb;refine wpC.av hs zY3 rfl rfl ⟨λq=>?_,λq=>hs.on λtm' hs'=>?_⟩
 ·have hin:i<n:=by omega
  have hil:i<cur.length:=by omega
  have hcell:cs.get? i=some (.int .i64 cur[i]):=by rw[row.2.2.2 i hin,oW,zXi hil];rfl
  have hr:=hx _ (oS hil);have hset:=zRs hil;generalize cur[i]=x at hcell hr hset;have e1:z8 zA 23 (.slice b 0 n (.skip 0)) (.int .i64 (i:Nat))=some (.ptr b i):=yd zP rfl zd rfl hin;have e2:zK zA 3 h' (.ptr b i)=some (.int .i64 x):=w.ld1 0 rfl zd rfl hcell;have e3:zG (x-x/2)=x-x/2:=zD (by omega) (by omega);obtain⟨h2,cs2,e4,row2,w2,n2⟩:=w.set (cx:=zA) 0 (j:=i) (u:=.int .i64 (x-x/2)) row rfl (by omega) hin zd rfl rfl rfl rfl;refine⟨⟨by omega,lo⟩,b,i,e1,x,e2,b,i,e1,x,e2,x/2,zGP (n:=1) (by decide),b,i,e1,h2,by rw[e3];exact e4,hs.on λtm' hs'=>⟨rfl,rfl,n-(i+1),by omega,i+1,cs2,by omega,rfl,w2,?_,by show h2.nx=_;omega,?_⟩⟩
  ·rw[<-xH,hset]at row2;exact row2
  ·rw[<-yQ (by omega)];exact hs'.sub (by kernel_rfl)
 ·have hi:i=cur.length:=by omega
  subst hi;rw[zRr]at row;exact hq tm' h' cs (hs'.sub (by kernel_rfl)) w row hnx
theorem Dep.len{h h':H}{w:V}{t:HT}(d:Dep own h h' w t):Sl h' w 1 own.length (zJ (km own t)):=by
 obtain⟨b,cs,rfl,h1,h2,h3,h4⟩:=d;exact h4.sl h2 h3
theorem Dep.same{h h':H}{w:V}{t:HT}(d:Dep cur h h' w t)(e:cur.length=own.length):Dep own h h' w t:=by
 have e2:km cur t=km own t:=by unfold km;rw[e]
 unfold Dep at d ⊢
 rwa [e,e2]at d
theorem Dep.old{h0 h h':H}{w:V}{t:HT}(d:Dep own h h' w t)(e:h0.nx<=h.nx):Dep own h0 h' w t:=by
 obtain⟨b,cs,rfl,h1,h2,h3,h4⟩:=d;exact⟨b,cs,rfl,oQ e h1,h2,h3,h4⟩
theorem zR1(hn:h.nx<T.top):zF zA 23 0 [] h=some (.slice h.nx 0 0 (.exact 0),h.new (.cells (.ls []) ⟨0,3+1,0⟩ true false)):=by
 have e1:zF zA 23 0 [] h=(match (cond (Nat.blt h.nx T.top) (some (h.nx,h.new (.cells (.ls []) ⟨0,3+1,0⟩ true false))) none:Option (Nat×H))with|some (b,h')=>some (.slice b 0 0 (.exact 0),h')|none=>none):=by kernel_rfl
 rw[(zY _ _).2 hn,oK]at e1;exact e1
theorem zR8{v:V}{l:List Int}(s:Sl h v 1 l.length (zJ l))(h0:0<l.length)(hlen:l.length<=100000)(hn:h.nx+2<=T.top):
  ∃b h' cs,zc zA 23 (h.new (.cells (.ls []) ⟨0,3+1,0⟩ true false)) (.slice h.nx 0 0 (.exact 0)) v=some (.slice b 0 l.length (.skip 0),h')/\Vw zS h h' 2 [(b,oOw cs)]/\Row cs l.length (zJ l)/\h'.nx=h.nx+2:=by
 have w1:=(Vw.nil (S:=zS) (h:=h)).new (o:=.cells (.ls []) ⟨0,3+1,0⟩ true false) rfl (by omega);have n1:=zH h (.cells (.ls []) ⟨0,3+1,0⟩ true false);generalize h.new (.cells (.ls []) ⟨0,3+1,0⟩ true false)=h1 at w1 n1;have g1:=w1.get 0 rfl;have hlen2:(zJ l).length=l.length:=by simp[zJ]
 obtain⟨cs,c1,c2⟩:=Cs.ofL_some (l:=zJ l) (by rw[hlen2];omega);obtain⟨c3,c4⟩:=Cs.ofL_eq c1;have w2:=w1.new (o:=oOw cs) rfl (by omega);refine⟨h1.nx,h1.new (oOw cs),cs,?_,⟨w2.ex,w2.bk.1,w2.bk.2.1,w2.bk.2.2.1,trivial⟩,⟨c2,by rw[c3,hlen2],hlen2,λi _=>c4 i⟩,by rw[zH];omega⟩
 unfold zc;rw[zP];simp only[zIK];have e3:kH yw=true:=by kernel_rfl
 rw[e3,oK,(s.ext w1.ex0).src (by decide) h0];show Go.Sim.appTo yw h1 l.length (zJ l) (.slice h.nx 0 0 (.exact 0))=_;unfold Go.Sim.appTo;simp only[g1];unfold kR;have e4:Nat.ble (0+l.length) 0=false:=by
  cases hb:Nat.ble (0+l.length) 0 with
  | false=>rfl
  | true=>have:=oE hb;omega
 rw[e4,oM];have e5:Ki (.ls []) 0 (0*yw.size) (zJ l)=some cs:=by
  unfold Ki;rw[Nat.zero_mul,zDn (.ls []) 0 (.inr trivial)];simp only[zFW,oK,List.nil_append,c1]
 rw[e5,Nat.zero_add];exact wF (by show l.length*8<=_;omega) (by omega)
theorem zOI{v:V}{own:List Int}(sl:Sl h v 1 own.length (zJ own))(g:GL own)(hn:h.nx+20000<=T.top)(lo:h.low<=T.top)(hq:∀h' w t,Ext h h' 17700->Good own t->t.hgt<=11->Dep own h h' w t->Q (.tuple [w,.int .i64 0]) h'):RF P zA 55 [v] h Q:=by
 have hlen:=g.len;have h2l:0<own.length:=by have:=g.cnt2;have:=J6 own;omega
 obtain⟨b,h6,cs,e6,w6,row6,n6⟩:=zR8 sl h2l (by omega) (by omega);refine yK z7I rfl rfl z7r (zBZ sl g ⟨_,rfl,λc=>absurd rfl c,λ_=>⟨_,_,zR1 (by omega),trivial,_,h6,e6,Has.nil.on λtm hs=>?_⟩⟩)
 refine wpC.round (λk tm h'=>∃(cs:Cs) (cur:List Int) (c:Nat),Vw zS h h' c [(b,oOw cs)]/\Row cs own.length (zJ cur)/\GL cur/\cur.length=own.length/\(∀x∈cur,x<=2^k)/\k<=10/\c<=2+1600*(10-k)/\(pos cur own.length).map (·.1)=(pos own own.length).map (·.1)/\Has tm [(5,.slice b 0 own.length (.skip 0))]) 10
  ⟨cs,own,2,w6,row6,g,rfl,λx hx=>by have:=(g.rng x hx).2;show x<=1024;omega,by decide,by decide,rfl,hs.sub (by kernel_rfl)⟩ ?_
 clear hs w6 row6 n6 e6 cs tm h6;rintro k tm h' ⟨cs,cur,c,w,row,gl,hcl,hpw,hk,hc,hsp,hs⟩;have tw:=w.top;have lo':=oQ w.low lo;have slc:Sl h' (.slice b 0 own.length (.skip 0)) 1 cur.length (zJ cur):=by rw[hcl];exact row.sl (w.lt 0 rfl) (w.get 0 rfl)
 refine wpC.av hs zY5 rfl rfl (zK9 slc gl (by omega) lo' λh1 dw p t x1 hp dep=>⟨_,rfl,_,dep.len.len zP rfl,hs.on λtm1 hs1=>?_⟩)
 have gdc:=Good.of hp;have gd:Good own t:=by
  unfold Good at gdc ⊢;rw[hcl]at gdc;rw[<-hsp];exact gdc
 have w1:=w.ext x1;have t1:=w1.top;have sd:=dep.len;have hol:=zFl cur t;refine wpC.round (λk tm h'=>∃(i:Nat),i<=cur.length/\k=cur.length-i/\h'=h1/\(∀j,j<i->∀x,(km cur t)[j]? = some x->x<=11)/\Has tm [(22,.int .i64 (i:Nat)),(21,.int .i64 (cur.length:Nat)),(20,dw),(6,dw),(5,.slice b 0 own.length (.skip 0))]) cur.length ⟨0,by omega,by omega,rfl,λj hj=>absurd hj (Nat.not_lt_zero _),hs1.sub (by kernel_rfl)⟩ ?_
 clear hs1 tm1;rintro k2 tm2 h2 ⟨i,hi,rfl,rfl,hall,hs2⟩;refine wpC.av hs2 zY4 rfl rfl ⟨λq=>?_,λq=>hs2.on λtm3 hs3=>?_⟩
 ·have hil:i<(km cur t).length:=by omega
  obtain⟨b2,o2,a1,a2⟩:=yj (by rw[hol];exact sd:Sl h2 dw 1 (km cur t).length (zJ (km cur t))) hil;have hmem:(km cur t)[i]∈km cur t:=oS hil;have hat:(km cur t)[i]? = some (km cur t)[i]:=oO hil;generalize (km cur t)[i]=x at a2 hmem hat;refine⟨b2,o2,a1,x,a2,λq2=>⟨_,(slc.ext x1).len zP rfl,hs2.on λtm3 hs3=>?_⟩,λq2=>hs2.on λtm3 hs3=>⟨rfl,rfl,cur.length-(i+1),by omega,i+1,by omega,rfl,rfl,λj hj y hy=>?_,?_⟩⟩
  ·have hk1:1<=k:=by
    by_cases c0:k=0
    ·subst c0
     have hh:=(zFk gdc).1 ⟨x,hmem,by omega⟩;have:=zRp hp (λx hx=>(gl.rng x hx).1) hh
     have:=zPw (l:=cur) (m:=1) (by decide) λx hx=>by simpa using hpw x hx
     have:=gl.len;omega
    ·omega
   obtain⟨k,rfl⟩:∃k',k=k'+1:=⟨k-1,by omega⟩;have hs3':Has tm3 [(30,.int .i64 (0:Nat)),(29,.int .i64 (own.length:Nat)),(5,.slice b 0 own.length (.skip 0))]:=by
    have z:Has tm3 [(30,.int .i64 (0:Nat)),(29,.int .i64 (cur.length:Nat)),(5,.slice b 0 own.length (.skip 0))]:=hs3.sub (by kernel_rfl)
    rwa [hcl]at z
   refine zHS w1 row hcl hlen gl.rng (by omega) lo hs3' λtm4 h4 cs4 hs4 w4 row4 n4=>?_
   refine thenC.out (wpS.av hs4 zYm rfl rfl (hs4.on λtm5 hs5=>?_));show yE L55 _ (AX.exit 1) _;refine hs5.slt λtm6 hs6=>?_
   show yE L55 _ AX.normal _;have hln:=q8 cur;refine hs6.slt λtm7 hs7=>⟨rfl,rfl,k,by omega,cs4,qA cur,c+1600,w4,row4,⟨by rw[hln];exact gl.len,λy hy=>?_,?_⟩,by rw[hln,hcl],zNO hpw,by omega,by omega,?_,hs7.sub (by kernel_rfl)⟩
   ·obtain⟨z,hz,rfl⟩:=List.mem_map.1 hy
    have:=gl.rng z hz;show 0<=z-z/2/\z-z/2<=1000;omega
   ·have:=congrArg List.length (Ji cur cur.length)
    simp only[ol]at this;rw[hln,this];exact gl.two
   ·rw[Ji];exact hsp
  ·by_cases e:j=i
   ·subst e
    rw[hat]at hy;cases hy;omega
   ·exact hall j (by omega) y hy
  ·rw[<-yQ (by omega)];exact hs3.sub (by kernel_rfl)
 ·have hi:i=cur.length:=by omega
  subst hi;have hh:t.hgt<=11:=by
   by_cases c0:t.hgt<=11
   ·exact c0
   ·obtain⟨x,hx,h11⟩:=(zFk gdc).2 (by omega)
    obtain⟨j,hj,e⟩:=List.mem_iff_getElem.1 hx;have:=hall j (by omega) x (by rw[oO hj,e]);omega
  refine thenC.left (wpS.av hs3 zYn rfl rfl (hs3.on λtm4 hs4=>?_));have fin:=hq h2 dw t ((w1.ex0).mono (by omega)) gd hh ((dep.same hcl).old w.le);show yE L55 _ AX.ret _;exact hs4.slt λtm5 hs5=>thenC.rt (show endW zA ⟨47,[.tmp 2,.tmp 3],b55⟩ Q AX.ret _ from endW.r2 (hs5.get rfl) (hs5.get rfl) fin)
theorem zJC{n m:Int}(h1:0<m)(h2:m<=4611686018427387904)(hq:Q (.int .i64 (n % m)) h):RF P zA 27 [.int .i64 n,.int .i64 m] h Q:=by
 refine yK z6x rfl rfl z7h ?_;have hb:=Int.tmod_lt_of_pos n h1;have hb2:=Int.lt_tmod_of_pos n h1;have h4:n % m=n.tmod m % m:=by
  have:=Int.tmod_add_mul_tdiv n m;rw[<-Int.add_mul_emod_self_left (n.tmod m) m (n.tdiv m),this]
 refine⟨λh=>by omega,λ_=>⟨by omega,λh3=>?_,λh3=>?_⟩⟩
 ·rw[zD (by omega) (by omega)]
  have:n.tmod m+m=n % m:=by
   rw[h4,<-Int.emod_eq_of_lt (a:=n.tmod m+m) (b:=m) (by omega) (by omega),Int.add_emod_right]
  rwa [this]
 ·have:n.tmod m=n % m:=by rw[h4,Int.emod_eq_of_lt (by omega) hb]
  rwa [this]
theorem zPu{b n m:Nat}(hm:m<=n):yB zA 23 h (.slice b 0 n (.exact n)) none (some (.int .i64 (m:Nat))) none=some (.slice b 0 m (.exact n)):=by
 unfold yB;have e6:Nat.ble m n=true:=oC hm;simp only[zP,zd,Go.Sim.bnd,OD,e6,oK,Option.isSome_none,Bool.false_and,oM,Nat.zero_mul,Nat.zero_add,Nat.sub_zero];cases Nat.beq n 0<;>rfl
theorem Row.take{cs:Cs}{n m:Nat}{l:List Int}{b:Nat}{k:Rk}{w op:Bool}(r:Row cs n (zJ l))(hm:m<=n)(hb:b<h.nx)(hg:h.get b=some (.cells cs k w op))(cp:Cap):Sl h (.slice b 0 m cp) 1 m (zJ (l.take m)):=by
 have hl:l.length=n:=by have:=r.2.2.1;simpa [zJ]using this
 refine⟨by rw[jM,List.length_take];omega,.inr ⟨b,0,cp,cs,k,w,op,rfl,hb,hg,λi hi=>?_⟩⟩
 rw[Nat.zero_add,r.2.2.2 i (by omega),oW,oW,List.getElem?_take,if_pos (by omega)]
theorem zEg:∀{l:List Int}{i:Nat},l[i]?.getD 0≠0->1<=cnt l
 | [],_,h=>absurd rfl h
 | x::l,0,h=>by
  have hx:x≠0:=h;simp[cnt,hx]
 | x::l,i+1,h=>by
  have:=zEg (l:=l) (i:=i) h;have e:cnt (x::l)=cnt [x]+cnt l:=kq [x] l;omega
theorem zEh:∀{l:List Int}{i j:Nat},i<j->l[i]?.getD 0≠0->l[j]?.getD 0≠0->2<=cnt l
 | [],_,_,_,h,_=>absurd rfl h
 | x::l,0,j+1,_,h,h2=>by
  have hx:x≠0:=h;have:=zEg (l:=l) (i:=j) h2;have e:cnt (x::l)=cnt [x]+cnt l:=kq [x] l;have:cnt [x]=1:=by simp[cnt,hx]
  omega
 | x::l,i+1,j+1,q,h,h2=>by
  have:=zEh (l:=l) (i:=i) (j:=j) (by omega) h h2;have e:cnt (x::l)=cnt [x]+cnt l:=kq [x] l;omega
structure MkI (n:Nat) (cur:List Int):Prop where
 len:cur.length=n
 rng:∀x∈cur,0<=x/\x<=1000
 lo:(1:Int)<=cur[0]?.getD 0
 hi:(1:Int)<=cur[n-1]?.getD 0
theorem MkI.gl{n:Nat}(m:MkI n cur)(h2:2<=n)(hn:n<=256):GL cur:=by
 have hl:=m.len;have:=m.lo;have:=m.hi;have c2:2<=cnt cur:=zEh (i:=0) (j:=n-1) (by omega) (by omega) (by omega);have hp:=zD2 (λx hx=>(m.rng x hx).1) cur.length (oP _)
 rw[List.take_length]at hp;exact⟨by omega,m.rng,by omega⟩
theorem MkI.set{n i:Nat}{x:Int}(m:MkI n cur)(hi:i<n)(h1:1<=x)(h2:x<=1000):MkI n (cur.set i x):=by
 have hl:=m.len;have key:∀j:Nat,(1:Int)<=cur[j]?.getD 0->(1:Int)<=(cur.set i x)[j]?.getD 0:=λj hj=>by
  by_cases e:i=j
  ·subst e
   rw[List.getElem?_set_self (by omega)];exact h1
  ·rw[oY e];exact hj
 refine⟨by rw[oh,hl],λy hy=>?_,key 0 m.lo,key (n-1) m.hi⟩
 rcases List.mem_or_eq_of_mem_set hy with h|rfl
 ·exact m.rng y h
 ·omega
theorem zOX{v:V}{nums:List Int}{many:Int}(sl:Sl h v 1 nums.length (zJ nums))(hn:h.nx+21000<=T.top)(lo:h.low<=T.top)(hq:∀h' w l,Ext h h' 17701->OG l=0->Sl h' w 1 l.length (zJ l)->Q (.tuple [w,.bool true]) h'):RF P zA 24 [v,.int .i64 many] h Q:=by
 refine yK z6u rfl rfl z7e (zJC (by decide) (by decide) ⟨_,rfl,?_⟩);have hm0:=Int.emod_nonneg many (b:=255) (by decide);have hm1:=Int.emod_lt_of_pos many (b:=255) (by decide);obtain⟨n,en⟩:∃n:Nat,zG (2+many % 255)=(n:Int)/\2<=n/\n<=256:=⟨(2+many % 255).toNat,by rw[zD (by omega) (by omega)];omega,by omega,by omega⟩;obtain⟨en,n2,n256⟩:=en;have en1:zG ((n:Int)-1)=((n-1:Nat):Int):=by rw[zD (by omega) (by omega)];omega
 rw[en,en1];obtain⟨cs,mk1,mk2⟩:=Row.make (cx:=zA) (k:=n) (h:=h) zP rfl zd rfl rfl rfl (by omega) (by show 8*n<=_;omega) (by omega);have w1:=(Vw.nil (S:=zS) (h:=h)).new (o:=xu cs) rfl (by omega);have nx1:=zH h (xu cs);rw[show(List.replicate n (ip 0))=zJ (List.replicate n 0)by rw[jY];rfl]at mk2;generalize h.new (xu cs)=h1 at w1 nx1 mk1;obtain⟨h2,cs2,e2,row2,w2,nx2⟩:=w1.set (cx:=zA) 0 (j:=0) (u:=.int .i64 1) mk2 rfl (by omega) (by omega) zd rfl rfl rfl rfl;rw[<-xH]at row2;obtain⟨h3,cs3,e3,row3,w3,nx3⟩:=w2.set (cx:=zA) 0 (j:=n-1) (u:=.int .i64 1) row2 rfl (by omega) (by omega) zd rfl rfl rfl rfl;rw[<-xH]at row3;have mki:MkI n (((List.replicate n (0:Int)).set 0 1).set (n-1) 1):=by
  refine⟨by simp,λx hx=>?_,?_,?_⟩
  ·rcases List.mem_or_eq_of_mem_set hx with hx|rfl
   ·rcases List.mem_or_eq_of_mem_set hx with hx|rfl
    ·have:=List.eq_of_mem_replicate hx;omega
    ·omega
   ·omega
  ·rw[oY (by omega),List.getElem?_set_self (by simp;omega)];decide
  ·rw[List.getElem?_set_self (by simp;omega)];decide
 generalize ((List.replicate n (0:Int)).set 0 1).set (n-1) 1=cur at row3 mki;refine⟨_,_,mk1,h.nx,0,yd (j:=0) zP rfl zd rfl (by omega),h2,e2,h.nx,n-1,yd zP rfl zd rfl (by omega),h3,e3,Has.nil.on λtm hs=>?_⟩
 refine wpC.round (λk tm h'=>∃(i:Nat) (cs:Cs) (cur:List Int),i<=nums.length/\i<=60/\k=60-i/\Vw zS h h' 1 [(h.nx,xu cs)]/\Row cs n (zJ cur)/\MkI n cur/\Has tm [(0,v),(8,.int .i64 (i:Nat)),(7,.slice h.nx 0 n (.exact n)),(6,.int .i64 (n:Nat))]) 60
  ⟨0,cs3,cur,by omega,by omega,by omega,w3,row3,mki,hs.sub (by kernel_rfl)⟩ ?_
 clear hs w3 row3 mki e3 e2 w2 row2 w1 mk1 mk2 cur nx3 nx2 nx1 h1 h2 h3 tm cs cs2 cs3;rintro k tm h' ⟨i,cs,cur,hi1,hi2,rfl,w,row,mk,hs⟩;have tw:=w.top;have lo':=oQ w.low lo;have done:∀tm':Tm,Has tm' [(7,.slice h.nx 0 n (.exact n))]->thenC (λs1=>W24 false zPL s1 (endW zA ⟨79,[.tmp 4,.tmp 5],b24⟩ Q)) (endW zA ⟨79,[.tmp 4,.tmp 5],b24⟩ Q) (ze 0 (.exit 0)) ⟨79,tm',[],h'⟩:=λtm' hs'=>by
  have gl:=mk.gl n2 n256;have hcl:=mk.len;have slc:Sl h' (.slice h.nx 0 n (.exact n)) 1 cur.length (zJ cur):=by rw[hcl];exact row.sl (w.lt 0 rfl) (w.get 0 rfl)
  refine thenC.out (wpS.av hs' zYf rfl rfl (zOI slc gl (by omega) lo' λh4 dw t x4 gd hh dep=>⟨dw,0,rfl,λc=>absurd rfl c,λ_=>hs'.on λtm2 hs2=>?_⟩))
  obtain⟨b,cs4,rfl,d1,d2,d3,d4⟩:=dep;rw[hcl]at d4;have ck:=zSg (own:=cur) (t:=t) (by omega) gd hh gl.two;have hol:(km cur t).length=n:=by rw[zFl,hcl]
  have x04:=w.ex0.trans x4;have t4:=x04.top;have sd:Sl h4 (.slice b 0 n (.exact n)) 1 (km cur t).length (zJ (km cur t)):=by rw[hol];exact d4.sl d2 d3
  have ck':OG (yk (km cur t))=0:=ck;generalize km cur t=o at d4 ck' hol sd;subst hol;rw[hcl]at hs2;refine wpC.round (λk tm h'=>∃(i:Nat),i<=o.length/\k=o.length-i/\h'=h4/\Has tm [(13,.int .i64 (i:Nat)),(10,.slice b 0 o.length (.exact o.length)),(12,.int .i64 (lz o i:Nat))]) o.length ⟨0,by omega,by omega,rfl,hs2.sub (by kernel_rfl)⟩ ?_
  clear hs2 tm2;rintro k tm h' ⟨i,hi,rfl,rfl,hs⟩;refine wpC.av hs zYY rfl rfl ⟨_,sd.len zP rfl,λq=>?_,λq=>hs.on λtm' hs'=>?_⟩
  ·have hil:i<o.length:=by omega
   obtain⟨b2,o2,a1,a2⟩:=yj sd hil;have hlz:lz o (i+1)=if o[i]≠0 then i else lz o i:=by
    show(if o[i]?.getD 0≠0 then i else lz o i)=_;rw[oO hil];rfl
   generalize o[i]=x at a2 hlz;refine⟨b2,o2,a1,x,a2,λq2=>hs.on λtm' hs'=>⟨rfl,rfl,o.length-(i+1),by omega,i+1,by omega,rfl,rfl,?_⟩,λq2=>hs.on λtm' hs'=>⟨rfl,rfl,o.length-(i+1),by omega,i+1,by omega,rfl,rfl,?_⟩⟩
   ·rw[<-yQ (by omega),hlz,if_pos q2];exact hs'.sub (by kernel_rfl)
   ·rw[<-yQ (by omega),hlz,if_neg q2];exact hs'.sub (by kernel_rfl)
  ·have hi:i=o.length:=by omega
   subst hi;have hz:=(zF7 o o.length).1;have hlen2:2<=(yk o).length:=(J5 ck').1;have hm:min (zG (((lz o o.length:Nat):Int)+1)) (o.length:Int)=((lz o o.length+1:Nat):Int):=by
    rw[yQ (by omega)];have:(yk o).length<=o.length:=by unfold yk;rw[List.length_take];omega
    omega
   have hle:lz o o.length+1<=o.length:=by
    have:(yk o).length<=o.length:=by unfold yk;rw[List.length_take];omega
    omega
   have hmm:(yk o).length=lz o o.length+1:=by unfold yk;rw[List.length_take];omega
   have sres:Sl h' (.slice b 0 (yk o).length (.exact o.length)) 1 (yk o).length (zJ (yk o)):=by
    rw[hmm];exact Row.take d4 hle d2 d3 _
   rw[hmm]at sres;refine thenC.left (wpS.av hs' zYe rfl rfl ⟨_,sd.len zP rfl,_,by rw[hm];exact zPu hle,hs'.on λtm3 hs3=>?_⟩);rw[<-hmm]at sres;have fin:=hq h' _ (yk o) (x04.mono (by omega)) ck' sres;rw[hmm]at fin;exact hs3.slt λtm4 hs4=>endW.r2 (hs4.get rfl) (hs4.get rfl) fin
 refine wpC.av hs zYX rfl rfl ⟨_,(sl.ext w.ex0).len zP rfl,λq=>⟨λq2=>hs.on λtm' hs'=>?_,λq2=>hs.on λtm' hs'=>done tm' (hs'.sub (by kernel_rfl))⟩,λq=>hs.on λtm' hs'=>done tm' (hs'.sub (by kernel_rfl))⟩
 have hil:i<nums.length:=by omega
 obtain⟨b,o,a1,a2⟩:=yj (sl.ext w.ex0) hil;generalize nums[i]=x at a2;have hx0:=Int.emod_nonneg x (b:=1048576) (by decide);have hx1:=Int.emod_lt_of_pos x (b:=1048576) (by decide);refine wpS.av hs' zYd rfl rfl ⟨b,o,a1,x,a2,zJC (by decide) (by decide) ⟨_,rfl,?_⟩⟩;generalize hk:x % 1048576=kk at hx0 hx1;obtain⟨m,rfl⟩:∃m:Nat,kk=m:=⟨kk.toNat,by omega⟩;have t1:Int.tmod ((m:Nat):Int) ((n:Nat):Int)=((m % n:Nat):Int):=rfl;have t2:Int.tdiv ((m:Nat):Int) ((n:Nat):Int)=((m/n:Nat):Int):=rfl;have t3:Int.tmod ((m:Nat):Int) 977=((m % 977:Nat):Int):=rfl;have b1:m % n<n:=Nat.mod_lt _ (by omega);have b2:m/n<=m:=Nat.div_le_self _ _;generalize m/n=dq at t2 b2;have b3:m % 977<977:=Nat.mod_lt _ (by decide);have t4:zG (1+((m % 977:Nat):Int))=((1+m % 977:Nat):Int):=by rw[zD (by omega) (by omega)];omega
 have t5:zG ((dq:Nat):Int)=((dq:Nat):Int):=zD (by omega) (by omega);have t6:Int.tmod ((dq:Nat):Int) ((1+m % 977:Nat):Int)=((dq % (1+m % 977):Nat):Int):=rfl;have b4:dq % (1+m % 977)<1+m % 977:=Nat.mod_lt _ (by omega);generalize dq % (1+m % 977)=z at t6 b4;have t7:zG (1+((z:Nat):Int))=((1+z:Nat):Int):=by rw[zD (by omega) (by omega)];omega
 rw[t1,t2,t3,t4,t5,t6,t7];obtain⟨h2,cs2,e2,row2,w2,nx2⟩:=w.set (cx:=zA) 0 (j:=m % n) (u:=.int .i64 ((1+z:Nat):Int)) row rfl (by omega) b1 zd rfl rfl rfl rfl;rw[<-xH]at row2;refine⟨⟨by omega,lo'⟩,by omega,by omega,by decide,by omega,h.nx,m % n,yd zP rfl zd rfl b1,h2,e2,hs'.on λtm2 hs2=>hs2.slt λtm3 hs3=>⟨rfl,rfl,60-(i+1),by omega,i+1,cs2,_,by omega,by omega,rfl,w2,row2,mk.set b1 (by omega) (by omega),?_⟩⟩
 rw[<-yQ (by omega)];exact hs3.sub (by kernel_rfl)
theorem X6(w:List Int):xO w 2=(Za w).toList++(jt w).toList:=by
 show(([0,1]:List Nat).filterMap (zCx w))=_;unfold zCx;cases hd:Za w<;>cases hc:jt w<;>simp
theorem lb1(a:List UInt8):jV [a] 1=a:=rfl
theorem lb2(a b:List UInt8):(jV [a,b] 2=a\/jV [a,b] 2=b)/\(jV [a,b] 2).length<=a.length/\(jV [a,b] 2).length<=b.length:=by
 have e:jV [a,b] 2=if b.length<a.length then b else a:=rfl
 rw[e];split
 ·exact⟨.inr rfl,by omega,by omega⟩
 ·exact⟨.inl rfl,by omega,by omega⟩
section
variable {l:List Int}{c d:List UInt8}(ck:OG l=0)
include ck
theorem zZD(hd:Za (kZ l)=some d)(hc:jt (kZ l)=some c):∃s,kl l = .tuple [.str s,.int .i64 0]/\(s=d\/s=c)/\s.length<=d.length/\s.length<=c.length:=by
 refine⟨jV [d,c] 2,?_,lb2 d c⟩;unfold kl Ox;rw[if_pos ck,X6,hd,hc];rfl
theorem zZC(hd:Za (kZ l)=some d)(hc:jt (kZ l)=none):kl l = .tuple [.str d,.int .i64 0]:=by
 unfold kl Ox;rw[if_pos ck,X6,hd,hc];rfl
theorem zZB(hd:Za (kZ l)=none)(hc:jt (kZ l)=some c):kl l = .tuple [.str c,.int .i64 0]:=by
 unfold kl Ox;rw[if_pos ck,X6,hd,hc];rfl
theorem zZA(hd:Za (kZ l)=none)(hc:jt (kZ l)=none):kl l = .tuple [.str [],.int .i64 7]:=by
 unfold kl Ox;rw[if_pos ck,X6,hd,hc];rfl
end
end Go.Proofs.YtnpeieeomokomaaGreat
