/- TR. No condition. -/
import Derived.Test.YtnpeieeomokomaaGreatZTP
import Derived.Test.YtnpeieeomokomaaGreatZTG
import Derived.Test.YtnpeieeomokomaaGreatZTO
set_option maxRecDepth 100000
set_option maxHeartbeats 4000000
namespace Go.Proofs.YtnpeieeomokomaaGreat
open Go.Sim
variable {h:H}{Q:V->H->Prop}
theorem zDS {own:List Int}(h:∀x∈own,0<=x):∀k,k<=own.length->(pos own k).length=cnt (own.take k)
 | 0,_=>by simp[pos,cnt]
 | k+1,hk=>by
  have hk':k<own.length:=by omega
  rw[zFg,oU,zDS h k (by omega),xR hk',kb,oO hk',Option.getD_some]
  congr 1
  have:=h _ (oS hk');by_cases c:0<own[k]
  ·rw[if_pos c]
   have e:cnt [own[k]]=1:=by unfold cnt;rw[List.filter_cons_of_pos (by simp;omega)];rfl
   rw[e];rfl
  ·rw[if_neg c]
   have:own[k]=0:=by omega
   rw[this];rfl
theorem GL.gc {own:List Int}(g:GL own):GC own:=⟨g.len,g.rng⟩
theorem GL.cnt2 {own:List Int}(g:GL own):2<=cnt own:=by
 have:=zDS (λx hx=>(g.rng x hx).1) own.length (oP _)
 rw[List.take_length]at this;have:=g.two;omega
theorem zBS {v:V}{own:List Int}(sl:Sl h v 1 own.length (zJ own)) (g:GL own) (hq:Q (.int .i64 0) h):RF P zA 105 [v] h Q :=
 yD zZ1 rfl rfl z18 (YE sl g.gc ⟨_,rfl,λc=>absurd rfl c,λ_=>Z3 sl g.gc ⟨_,_,rfl,λc=>by have:=g.cnt2;omega,λ_=>hq⟩⟩)
def hvs (l:List Int) (i:Nat):List Int:=(kf l).take i++l.drop i
theorem zRM (l:List Int):hvs l l.length=kf l:=by
 unfold hvs;rw[List.drop_length,List.append_nil,<-qR l,List.take_length]
theorem zXH {l:List Int}{i:Nat}(h:i<l.length):(hvs l i)[i]? = some l[i]:=by
 unfold hvs;have e:((kf l).take i).length=i:=by rw[List.length_take,qR];omega
 rw[List.getElem?_append_right (by omega),e,Nat.sub_self,List.getElem?_drop,Nat.add_zero,oO h]
theorem zRN {l:List Int}{i:Nat}(h:i<l.length):(hvs l i).set i (l[i]-l[i]/2)=hvs l (i+1):=by
 unfold hvs;have e:((kf l).take i).length=i:=by rw[List.length_take,qR];omega
 rw[List.set_append_right _ _ (by omega),e,Nat.sub_self,List.drop_eq_getElem_cons h,List.set_cons_zero,xR (by rw[qR];exact h),List.append_assoc]
 congr 1
 simp[kf]
abbrev oOw (cs:Cs):O:=.cells cs (jU yt) true true
theorem zHE {hb h:H}{c b n:Nat}{cs:Cs}{cur:List Int}{tm:Tm}{d:List AD}{Q:AX->St->Prop}(w:Vw zR hb h c [(b,oOw cs)]) (row:Row cs n (zJ cur)) (hln:cur.length=n) (hn:n<=256) (hx:∀x∈cur,0<=x/\x<=1000) (ht:h.nx<=T.top) (lb:hb.low<=T.top)
  (hs:Has tm [(30,.int .i64 (0:Nat)),(29,.int .i64 (n:Nat)),(5,.slice b 0 n (.skip 0))])
  (hq:∀tm' h' cs',Has tm' [(5,.slice b 0 n (.skip 0))]->Vw zR hb h' c [(b,oOw cs')]->Row cs' n (zJ (kf cur))->h'.nx=h.nx->Q (.exit 4) ⟨47,tm',d,h'⟩):wpC P zA false (.loop zN8) ⟨47,tm,d,h⟩ Q:=by
 refine wpC.round (λk tm h'=>∃(i:Nat) (cs:Cs),i<=n/\k=n-i/\Vw zR hb h' c [(b,oOw cs)]/\Row cs n (zJ (hvs cur i))/\h'.nx=h.nx/\Has tm [(30,.int .i64 (i:Nat)),(29,.int .i64 (n:Nat)),(5,.slice b 0 n (.skip 0))]) n ⟨0,cs,by omega,by omega,w,row,rfl,hs⟩ ?_
 clear hs row w tm cs;rintro k tm h' ⟨i,cs,hi,rfl,w,row,hnx,hs⟩;have lo:=oQ w.low lb;refine wpC.av hs zXr rfl rfl ⟨λq=>?_,λq=>hs.on λtm' hs'=>?_⟩
 ·have hin:i<n:=by omega
  have hil:i<cur.length:=by omega
  have hcell:cs.get? i=some (.int .i64 cur[i]):=by rw[row.2.2.2 i hin,oW,zXH hil];rfl
  have hr:=hx _ (oS hil);have hset:=zRN hil;generalize cur[i]=x at hcell hr hset;have e1:z7 zA 23 (.slice b 0 n (.skip 0)) (.int .i64 (i:Nat))=some (.ptr b i):=yb zO rfl zb rfl hin;have e2:zK zA 3 h' (.ptr b i)=some (.int .i64 x):=w.ld1 0 rfl zb rfl hcell;have e3:zH (x-x/2)=x-x/2:=zD (by omega) (by omega);obtain⟨h2,cs2,e4,row2,w2,n2⟩:=w.set (cx:=zA) 0 (j:=i) (u:=.int .i64 (x-x/2)) row rfl (by omega) hin zb rfl rfl rfl rfl;refine⟨⟨by omega,lo⟩,b,i,e1,x,e2,b,i,e1,x,e2,x/2,zGE (n:=1) (by decide),b,i,e1,h2,by rw[e3];exact e4,hs.on λtm' hs'=>⟨rfl,rfl,n-(i+1),by omega,i+1,cs2,by omega,rfl,w2,?_,by show h2.nx=_;omega,?_⟩⟩
  ·rw[<-xC,hset]at row2;exact row2
  ·rw[<-yR (by omega)];exact hs'.sub (by kernel_rfl)
 ·have hi:i=cur.length:=by omega
  subst hi;rw[zRM]at row;exact hq tm' h' cs (hs'.sub (by kernel_rfl)) w row hnx
theorem Dep.len {own:List Int}{h h':H}{w:V}{t:HT}(d:Dep own h h' w t):Sl h' w 1 own.length (zJ (kZ own t)):=by
 obtain⟨b,cs,rfl,h1,h2,h3,h4⟩:=d;exact h4.sl h2 h3
theorem Dep.same {own cur:List Int}{h h':H}{w:V}{t:HT}(d:Dep cur h h' w t) (e:cur.length=own.length):Dep own h h' w t:=by
 have e2:kZ cur t=kZ own t:=by unfold kZ;rw[e]
 unfold Dep at d ⊢
 rwa [e,e2]at d
theorem Dep.old {own:List Int}{h0 h h':H}{w:V}{t:HT}(d:Dep own h h' w t) (e:h0.nx<=h.nx):Dep own h0 h' w t:=by
 obtain⟨b,cs,rfl,h1,h2,h3,h4⟩:=d;exact⟨b,cs,rfl,oQ e h1,h2,h3,h4⟩
theorem zQo (hn:h.nx<T.top):zF zA 23 0 [] h=some (.slice h.nx 0 0 (.exact 0),h.new (.cells (.ls []) ⟨0,3+1,0⟩ true false)):=by
 have e1:zF zA 23 0 [] h=(match (cond (Nat.blt h.nx T.top) (some (h.nx,h.new (.cells (.ls []) ⟨0,3+1,0⟩ true false))) none:Option (Nat×H))with|some (b,h')=>some (.slice b 0 0 (.exact 0),h')|none=>none):=by kernel_rfl
 rw[(zY _ _).2 hn,oK]at e1;exact e1
theorem zQu {v:V}{l:List Int}(s:Sl h v 1 l.length (zJ l)) (h0:0<l.length) (hlen:l.length<=100000) (hn:h.nx+2<=T.top) :
  ∃b h' cs,za zA 23 (h.new (.cells (.ls []) ⟨0,3+1,0⟩ true false)) (.slice h.nx 0 0 (.exact 0)) v=some (.slice b 0 l.length (.skip 0),h')/\Vw zR h h' 2 [(b,oOw cs)]/\Row cs l.length (zJ l)/\h'.nx=h.nx+2:=by
 have w1:=(Vw.nil (S:=zR) (h:=h)).new (o:=.cells (.ls []) ⟨0,3+1,0⟩ true false) rfl (by omega);have n1:=zG h (.cells (.ls []) ⟨0,3+1,0⟩ true false);generalize h.new (.cells (.ls []) ⟨0,3+1,0⟩ true false)=h1 at w1 n1;have g1:=w1.get 0 rfl;have hlen2:(zJ l).length=l.length:=by simp[zJ]
 obtain⟨cs,c1,c2⟩:=Cs.ofL_some (l:=zJ l) (by rw[hlen2];omega);obtain⟨c3,c4⟩:=Cs.ofL_eq c1;have w2:=w1.new (o:=oOw cs) rfl (by omega);refine⟨h1.nx,h1.new (oOw cs),cs,?_,⟨w2.ex,w2.bk.1,w2.bk.2.1,w2.bk.2.2.1,trivial⟩,⟨c2,by rw[c3,hlen2],hlen2,λi _=>c4 i⟩,by rw[zG];omega⟩
 unfold za;rw[zO];simp only[zHw];have e3:kB yt=true:=by kernel_rfl
 rw[e3,oK,(s.ext w1.ex0).src (by decide) h0];show Go.Sim.appTo yt h1 l.length (zJ l) (.slice h.nx 0 0 (.exact 0))=_;unfold Go.Sim.appTo;simp only[g1];unfold kH;have e4:Nat.ble (0+l.length) 0=false:=by
  cases hb:Nat.ble (0+l.length) 0 with
  | false=>rfl
  | true=>have:=oE hb;omega
 rw[e4,oM];have e5:Kf (.ls []) 0 (0*yt.size) (zJ l)=some cs:=by
  unfold Kf;rw[Nat.zero_mul,zDe (.ls []) 0 (.inr trivial)];simp only[zFM,oK,List.nil_append,c1]
 rw[e5,Nat.zero_add];exact xv (by show l.length*8<=_;omega) (by omega)
theorem zNd {v:V}{own:List Int}(sl:Sl h v 1 own.length (zJ own)) (g:GL own) (hn:h.nx+20000<=T.top) (lo:h.low<=T.top)
  (hq:∀h' w t,Ext h h' 17700->Good own t->t.hgt<=11->Dep own h h' w t->Q (.tuple [w,.int .i64 0]) h'):RF P zA 55 [v] h Q:=by
 have hlen:=g.len;have h2l:0<own.length:=by have:=g.cnt2;have:=JZ own;omega
 obtain⟨b,h6,cs,e6,w6,row6,n6⟩:=zQu sl h2l (by omega) (by omega);refine yD z6Z rfl rfl z7J (zBS sl g ⟨_,rfl,λc=>absurd rfl c,λ_=>⟨_,_,zQo (by omega),trivial,_,h6,e6,Has.nil.on λtm hs=>?_⟩⟩)
 refine wpC.round (λk tm h'=>∃(cs:Cs) (cur:List Int) (c:Nat),Vw zR h h' c [(b,oOw cs)]/\Row cs own.length (zJ cur)/\GL cur/\cur.length=own.length/\(∀x∈cur,x<=2^k)/\k<=10/\c<=2+1600*(10-k)/\(pos cur own.length).map (·.1)=(pos own own.length).map (·.1)/\Has tm [(5,.slice b 0 own.length (.skip 0))]) 10
  ⟨cs,own,2,w6,row6,g,rfl,λx hx=>by have:=(g.rng x hx).2;show x<=1024;omega,by decide,by decide,rfl,hs.sub (by kernel_rfl)⟩ ?_
 clear hs w6 row6 n6 e6 cs tm h6;rintro k tm h' ⟨cs,cur,c,w,row,gl,hcl,hpw,hk,hc,hsp,hs⟩;have tw:=w.top;have lo':=oQ w.low lo;have slc:Sl h' (.slice b 0 own.length (.skip 0)) 1 cur.length (zJ cur):=by rw[hcl];exact row.sl (w.lt 0 rfl) (w.get 0 rfl)
 refine wpC.av hs zXt rfl rfl (zKR slc gl (by omega) lo' λh1 dw p t x1 hp dep=>⟨_,rfl,_,dep.len.len zO rfl,hs.on λtm1 hs1=>?_⟩)
 have gdc:=Good.of hp;have gd:Good own t:=by
  unfold Good at gdc ⊢;rw[hcl]at gdc;rw[<-hsp];exact gdc
 have w1:=w.ext x1;have t1:=w1.top;have sd:=dep.len;have hol:=zFb cur t;refine wpC.round (λk tm h'=>∃(i:Nat),i<=cur.length/\k=cur.length-i/\h'=h1/\(∀j,j<i->∀x,(kZ cur t)[j]? = some x->x<=11)/\Has tm [(22,.int .i64 (i:Nat)),(21,.int .i64 (cur.length:Nat)),(20,dw),(6,dw),(5,.slice b 0 own.length (.skip 0))]) cur.length ⟨0,by omega,by omega,rfl,λj hj=>absurd hj (Nat.not_lt_zero _),hs1.sub (by kernel_rfl)⟩ ?_
 clear hs1 tm1;rintro k2 tm2 h2 ⟨i,hi,rfl,rfl,hall,hs2⟩;refine wpC.av hs2 zXs rfl rfl ⟨λq=>?_,λq=>hs2.on λtm3 hs3=>?_⟩
 ·have hil:i<(kZ cur t).length:=by omega
  obtain⟨b2,o2,a1,a2⟩:=yh (by rw[hol];exact sd:Sl h2 dw 1 (kZ cur t).length (zJ (kZ cur t))) hil;have hmem:(kZ cur t)[i]∈kZ cur t:=oS hil;have hat:(kZ cur t)[i]? = some (kZ cur t)[i]:=oO hil;generalize (kZ cur t)[i]=x at a2 hmem hat;refine⟨b2,o2,a1,x,a2,λq2=>⟨_,(slc.ext x1).len zO rfl,hs2.on λtm3 hs3=>?_⟩,λq2=>hs2.on λtm3 hs3=>⟨rfl,rfl,cur.length-(i+1),by omega,i+1,by omega,rfl,rfl,λj hj y hy=>?_,?_⟩⟩
  ·have hk1:1<=k:=by
    by_cases c0:k=0
    ·subst c0
     have hh:=(zFa gdc).1 ⟨x,hmem,by omega⟩;have:=zRK hp (λx hx=>(gl.rng x hx).1) hh
     have:=zPX (l:=cur) (m:=1) (by decide) λx hx=>by simpa using hpw x hx
     have:=gl.len;omega
    ·omega
   obtain⟨k,rfl⟩:∃k',k=k'+1:=⟨k-1,by omega⟩;have hs3':Has tm3 [(30,.int .i64 (0:Nat)),(29,.int .i64 (own.length:Nat)),(5,.slice b 0 own.length (.skip 0))]:=by
    have z:Has tm3 [(30,.int .i64 (0:Nat)),(29,.int .i64 (cur.length:Nat)),(5,.slice b 0 own.length (.skip 0))]:=hs3.sub (by kernel_rfl)
    rwa [hcl]at z
   refine zHE w1 row hcl hlen gl.rng (by omega) lo hs3' λtm4 h4 cs4 hs4 w4 row4 n4=>?_
   refine thenC.out (wpS.av hs4 zYK rfl rfl (hs4.on λtm5 hs5=>?_));show zy L55 _ (AX.exit 1) _;refine hs5.slt λtm6 hs6=>?_
   show zy L55 _ AX.normal _;have hln:=qR cur;refine hs6.slt λtm7 hs7=>⟨rfl,rfl,k,by omega,cs4,kf cur,c+1600,w4,row4,⟨by rw[hln];exact gl.len,λy hy=>?_,?_⟩,by rw[hln,hcl],zMj hpw,by omega,by omega,?_,hs7.sub (by kernel_rfl)⟩
   ·obtain⟨z,hz,rfl⟩:=List.mem_map.1 hy
    have:=gl.rng z hz;show 0<=z-z/2/\z-z/2<=1000;omega
   ·have:=congrArg List.length (Je cur cur.length)
    simp only[ol]at this;rw[hln,this];exact gl.two
   ·rw[Je];exact hsp
  ·by_cases e:j=i
   ·subst e
    rw[hat]at hy;cases hy;omega
   ·exact hall j (by omega) y hy
  ·rw[<-yR (by omega)];exact hs3.sub (by kernel_rfl)
 ·have hi:i=cur.length:=by omega
  subst hi;have hh:t.hgt<=11:=by
   by_cases c0:t.hgt<=11
   ·exact c0
   ·obtain⟨x,hx,h11⟩:=(zFa gdc).2 (by omega)
    obtain⟨j,hj,e⟩:=List.mem_iff_getElem.1 hx;have:=hall j (by omega) x (by rw[oO hj,e]);omega
  refine thenC.left (wpS.av hs3 zYL rfl rfl (hs3.on λtm4 hs4=>?_));have fin:=hq h2 dw t ((w1.ex0).mono (by omega)) gd hh ((dep.same hcl).old w.le);show zy L55 _ AX.ret _;exact hs4.slt λtm5 hs5=>thenC.rt (show endW zA ⟨47,[.tmp 2,.tmp 3],b55⟩ Q AX.ret _ from endW.r2 (hs5.get rfl) (hs5.get rfl) fin)
theorem zDG {n m:Int}(h1:0<m) (h2:m<=4611686018427387904) (hq:Q (.int .i64 (n % m)) h):RF P zA 27 [.int .i64 n,.int .i64 m] h Q:=by
 refine yD z6O rfl rfl z6z ?_;have hb:=Int.tmod_lt_of_pos n h1;have hb2:=Int.lt_tmod_of_pos n h1;have h4:n % m=n.tmod m % m:=by
  have:=Int.tmod_add_mul_tdiv n m;rw[<-Int.add_mul_emod_self_left (n.tmod m) m (n.tdiv m),this]
 refine⟨λh=>by omega,λ_=>⟨by omega,λh3=>?_,λh3=>?_⟩⟩
 ·rw[zD (by omega) (by omega)]
  have:n.tmod m+m=n % m:=by
   rw[h4,<-Int.emod_eq_of_lt (a:=n.tmod m+m) (b:=m) (by omega) (by omega),Int.add_emod_right]
  rwa [this]
 ·have:n.tmod m=n % m:=by rw[h4,Int.emod_eq_of_lt (by omega) hb]
  rwa [this]
theorem zPV {b n m:Nat}(hm:m<=n):zq zA 23 h (.slice b 0 n (.exact n)) none (some (.int .i64 (m:Nat))) none=some (.slice b 0 m (.exact n)):=by
 unfold zq;have e6:Nat.ble m n=true:=oC hm;simp only[zO,zb,Go.Sim.bnd,Kz,e6,oK,Option.isSome_none,Bool.false_and,oM,Nat.zero_mul,Nat.zero_add,Nat.sub_zero];cases Nat.beq n 0<;>rfl
theorem Row.take {cs:Cs}{n m:Nat}{l:List Int}{b:Nat}{k:Rk}{w op:Bool}(r:Row cs n (zJ l)) (hm:m<=n) (hb:b<h.nx) (hg:h.get b=some (.cells cs k w op)) (cp:Cap):Sl h (.slice b 0 m cp) 1 m (zJ (l.take m)):=by
 have hl:l.length=n:=by have:=r.2.2.1;simpa [zJ]using this
 refine⟨by rw[jE,List.length_take];omega,.inr ⟨b,0,cp,cs,k,w,op,rfl,hb,hg,λi hi=>?_⟩⟩
 rw[Nat.zero_add,r.2.2.2 i (by omega),oW,oW,List.getElem?_take,if_pos (by omega)]
theorem zE9:∀{l:List Int}{i:Nat},l[i]?.getD 0≠0->1<=cnt l
 | [],_,h=>absurd rfl h
 | x::l,0,h=>by
  have hx:x≠0:=h;simp[cnt,hx]
 | x::l,i+1,h=>by
  have:=zE9 (l:=l) (i:=i) h;have e:cnt (x::l)=cnt [x]+cnt l:=kb [x] l;omega
theorem zEa:∀{l:List Int}{i j:Nat},i<j->l[i]?.getD 0≠0->l[j]?.getD 0≠0->2<=cnt l
 | [],_,_,_,h,_=>absurd rfl h
 | x::l,0,j+1,_,h,h2=>by
  have hx:x≠0:=h;have:=zE9 (l:=l) (i:=j) h2;have e:cnt (x::l)=cnt [x]+cnt l:=kb [x] l;have:cnt [x]=1:=by simp[cnt,hx]
  omega
 | x::l,i+1,j+1,q,h,h2=>by
  have:=zEa (l:=l) (i:=i) (j:=j) (by omega) h h2;have e:cnt (x::l)=cnt [x]+cnt l:=kb [x] l;omega
structure MkI (n:Nat) (cur:List Int):Prop where
 len:cur.length=n
 rng:∀x∈cur,0<=x/\x<=1000
 lo:(1:Int)<=cur[0]?.getD 0
 hi:(1:Int)<=cur[n-1]?.getD 0
theorem MkI.gl {n:Nat}{cur:List Int}(m:MkI n cur) (h2:2<=n) (hn:n<=256):GL cur:=by
 have hl:=m.len;have:=m.lo;have:=m.hi;have c2:2<=cnt cur:=zEa (i:=0) (j:=n-1) (by omega) (by omega) (by omega);have hp:=zDS (λx hx=>(m.rng x hx).1) cur.length (oP _)
 rw[List.take_length]at hp;exact⟨by omega,m.rng,by omega⟩
theorem MkI.set {n i:Nat}{cur:List Int}{x:Int}(m:MkI n cur) (hi:i<n) (h1:1<=x) (h2:x<=1000):MkI n (cur.set i x):=by
 have hl:=m.len;have key:∀j:Nat,(1:Int)<=cur[j]?.getD 0->(1:Int)<=(cur.set i x)[j]?.getD 0:=λj hj=>by
  by_cases e:i=j
  ·subst e
   rw[List.getElem?_set_self (by omega)];exact h1
  ·rw[oY e];exact hj
 refine⟨by rw[oh,hl],λy hy=>?_,key 0 m.lo,key (n-1) m.hi⟩
 rcases List.mem_or_eq_of_mem_set hy with h|rfl
 ·exact m.rng y h
 ·omega
theorem zNp {v:V}{nums:List Int}{many:Int}(sl:Sl h v 1 nums.length (zJ nums)) (hn:h.nx+21000<=T.top) (lo:h.low<=T.top)
  (hq:∀h' w l,Ext h h' 17701->OC l=0->Sl h' w 1 l.length (zJ l)->Q (.tuple [w,.bool true]) h'):RF P zA 24 [v,.int .i64 many] h Q:=by
 refine yD z6L rfl rfl z6w (zDG (by decide) (by decide) ⟨_,rfl,?_⟩);have hm0:=Int.emod_nonneg many (b:=255) (by decide);have hm1:=Int.emod_lt_of_pos many (b:=255) (by decide);obtain⟨n,en⟩:∃n:Nat,zH (2+many % 255)=(n:Int)/\2<=n/\n<=256:=⟨(2+many % 255).toNat,by rw[zD (by omega) (by omega)];omega,by omega,by omega⟩;obtain⟨en,n2,n256⟩:=en;have en1:zH ((n:Int)-1)=((n-1:Nat):Int):=by rw[zD (by omega) (by omega)];omega
 rw[en,en1];obtain⟨cs,mk1,mk2⟩:=Row.make (cx:=zA) (k:=n) (h:=h) zO rfl zb rfl rfl rfl (by omega) (by show 8*n<=_;omega) (by omega);have w1:=(Vw.nil (S:=zR) (h:=h)).new (o:=xn cs) rfl (by omega);have nx1:=zG h (xn cs);rw[show(List.replicate n (ip 0))=zJ (List.replicate n 0)by rw[jQ];rfl]at mk2;generalize h.new (xn cs)=h1 at w1 nx1 mk1;obtain⟨h2,cs2,e2,row2,w2,nx2⟩:=w1.set (cx:=zA) 0 (j:=0) (u:=.int .i64 1) mk2 rfl (by omega) (by omega) zb rfl rfl rfl rfl;rw[<-xC]at row2;obtain⟨h3,cs3,e3,row3,w3,nx3⟩:=w2.set (cx:=zA) 0 (j:=n-1) (u:=.int .i64 1) row2 rfl (by omega) (by omega) zb rfl rfl rfl rfl;rw[<-xC]at row3;have mki:MkI n (((List.replicate n (0:Int)).set 0 1).set (n-1) 1):=by
  refine⟨by simp,λx hx=>?_,?_,?_⟩
  ·rcases List.mem_or_eq_of_mem_set hx with hx|rfl
   ·rcases List.mem_or_eq_of_mem_set hx with hx|rfl
    ·have:=List.eq_of_mem_replicate hx;omega
    ·omega
   ·omega
  ·rw[oY (by omega),List.getElem?_set_self (by simp;omega)];decide
  ·rw[List.getElem?_set_self (by simp;omega)];decide
 generalize ((List.replicate n (0:Int)).set 0 1).set (n-1) 1=cur at row3 mki;refine⟨_,_,mk1,h.nx,0,yb (j:=0) zO rfl zb rfl (by omega),h2,e2,h.nx,n-1,yb zO rfl zb rfl (by omega),h3,e3,Has.nil.on λtm hs=>?_⟩
 refine wpC.round (λk tm h'=>∃(i:Nat) (cs:Cs) (cur:List Int),i<=nums.length/\i<=60/\k=60-i/\Vw zR h h' 1 [(h.nx,xn cs)]/\Row cs n (zJ cur)/\MkI n cur/\Has tm [(0,v),(8,.int .i64 (i:Nat)),(7,.slice h.nx 0 n (.exact n)),(6,.int .i64 (n:Nat))]) 60
  ⟨0,cs3,cur,by omega,by omega,by omega,w3,row3,mki,hs.sub (by kernel_rfl)⟩ ?_
 clear hs w3 row3 mki e3 e2 w2 row2 w1 mk1 mk2 cur nx3 nx2 nx1 h1 h2 h3 tm cs cs2 cs3;rintro k tm h' ⟨i,cs,cur,hi1,hi2,rfl,w,row,mk,hs⟩;have tw:=w.top;have lo':=oQ w.low lo;have done:∀tm':Tm,Has tm' [(7,.slice h.nx 0 n (.exact n))]->thenC (λs1=>W24 false zOc s1 (endW zA ⟨79,[.tmp 4,.tmp 5],JW⟩ Q)) (endW zA ⟨79,[.tmp 4,.tmp 5],JW⟩ Q) (zc 0 (.exit 0)) ⟨79,tm',[],h'⟩:=λtm' hs'=>by
  have gl:=mk.gl n2 n256;have hcl:=mk.len;have slc:Sl h' (.slice h.nx 0 n (.exact n)) 1 cur.length (zJ cur):=by rw[hcl];exact row.sl (w.lt 0 rfl) (w.get 0 rfl)
  refine thenC.out (wpS.av hs' zYD rfl rfl (zNd slc gl (by omega) lo' λh4 dw t x4 gd hh dep=>⟨dw,0,rfl,λc=>absurd rfl c,λ_=>hs'.on λtm2 hs2=>?_⟩))
  obtain⟨b,cs4,rfl,d1,d2,d3,d4⟩:=dep;rw[hcl]at d4;have ck:=zRz (own:=cur) (t:=t) (by omega) gd hh gl.two;have hol:(kZ cur t).length=n:=by rw[zFb,hcl]
  have x04:=w.ex0.trans x4;have t4:=x04.top;have sd:Sl h4 (.slice b 0 n (.exact n)) 1 (kZ cur t).length (zJ (kZ cur t)):=by rw[hol];exact d4.sl d2 d3
  have ck':OC (yj (kZ cur t))=0:=ck;generalize kZ cur t=o at d4 ck' hol sd;subst hol;rw[hcl]at hs2;refine wpC.round (λk tm h'=>∃(i:Nat),i<=o.length/\k=o.length-i/\h'=h4/\Has tm [(13,.int .i64 (i:Nat)),(10,.slice b 0 o.length (.exact o.length)),(12,.int .i64 (lz o i:Nat))]) o.length ⟨0,by omega,by omega,rfl,hs2.sub (by kernel_rfl)⟩ ?_
  clear hs2 tm2;rintro k tm h' ⟨i,hi,rfl,rfl,hs⟩;refine wpC.av hs zXm rfl rfl ⟨_,sd.len zO rfl,λq=>?_,λq=>hs.on λtm' hs'=>?_⟩
  ·have hil:i<o.length:=by omega
   obtain⟨b2,o2,a1,a2⟩:=yh sd hil;have hlz:lz o (i+1)=if o[i]≠0 then i else lz o i:=by
    show(if o[i]?.getD 0≠0 then i else lz o i)=_;rw[oO hil];rfl
   generalize o[i]=x at a2 hlz;refine⟨b2,o2,a1,x,a2,λq2=>hs.on λtm' hs'=>⟨rfl,rfl,o.length-(i+1),by omega,i+1,by omega,rfl,rfl,?_⟩,λq2=>hs.on λtm' hs'=>⟨rfl,rfl,o.length-(i+1),by omega,i+1,by omega,rfl,rfl,?_⟩⟩
   ·rw[<-yR (by omega),hlz,if_pos q2];exact hs'.sub (by kernel_rfl)
   ·rw[<-yR (by omega),hlz,if_neg q2];exact hs'.sub (by kernel_rfl)
  ·have hi:i=o.length:=by omega
   subst hi;have hz:=(zFY o o.length).1;have hlen2:2<=(yj o).length:=(JY ck').1;have hm:min (zH (((lz o o.length:Nat):Int)+1)) (o.length:Int)=((lz o o.length+1:Nat):Int):=by
    rw[yR (by omega)];have:(yj o).length<=o.length:=by unfold yj;rw[List.length_take];omega
    omega
   have hle:lz o o.length+1<=o.length:=by
    have:(yj o).length<=o.length:=by unfold yj;rw[List.length_take];omega
    omega
   have hmm:(yj o).length=lz o o.length+1:=by unfold yj;rw[List.length_take];omega
   have sres:Sl h' (.slice b 0 (yj o).length (.exact o.length)) 1 (yj o).length (zJ (yj o)):=by
    rw[hmm];exact Row.take d4 hle d2 d3 _
   rw[hmm]at sres;refine thenC.left (wpS.av hs' zYC rfl rfl ⟨_,sd.len zO rfl,_,by rw[hm];exact zPV hle,hs'.on λtm3 hs3=>?_⟩);rw[<-hmm]at sres;have fin:=hq h' _ (yj o) (x04.mono (by omega)) ck' sres;rw[hmm]at fin;exact hs3.slt λtm4 hs4=>endW.r2 (hs4.get rfl) (hs4.get rfl) fin
 refine wpC.av hs zXl rfl rfl ⟨_,(sl.ext w.ex0).len zO rfl,λq=>⟨λq2=>hs.on λtm' hs'=>?_,λq2=>hs.on λtm' hs'=>done tm' (hs'.sub (by kernel_rfl))⟩,λq=>hs.on λtm' hs'=>done tm' (hs'.sub (by kernel_rfl))⟩
 have hil:i<nums.length:=by omega
 obtain⟨b,o,a1,a2⟩:=yh (sl.ext w.ex0) hil;generalize nums[i]=x at a2;have hx0:=Int.emod_nonneg x (b:=1048576) (by decide);have hx1:=Int.emod_lt_of_pos x (b:=1048576) (by decide);refine wpS.av hs' zYB rfl rfl ⟨b,o,a1,x,a2,zDG (by decide) (by decide) ⟨_,rfl,?_⟩⟩;generalize hk:x % 1048576=kk at hx0 hx1;obtain⟨m,rfl⟩:∃m:Nat,kk=m:=⟨kk.toNat,by omega⟩;have t1:Int.tmod ((m:Nat):Int) ((n:Nat):Int)=((m % n:Nat):Int):=rfl;have t2:Int.tdiv ((m:Nat):Int) ((n:Nat):Int)=((m/n:Nat):Int):=rfl;have t3:Int.tmod ((m:Nat):Int) 977=((m % 977:Nat):Int):=rfl;have b1:m % n<n:=Nat.mod_lt _ (by omega);have b2:m/n<=m:=Nat.div_le_self _ _;generalize m/n=dq at t2 b2;have b3:m % 977<977:=Nat.mod_lt _ (by decide);have t4:zH (1+((m % 977:Nat):Int))=((1+m % 977:Nat):Int):=by rw[zD (by omega) (by omega)];omega
 have t5:zH ((dq:Nat):Int)=((dq:Nat):Int):=zD (by omega) (by omega);have t6:Int.tmod ((dq:Nat):Int) ((1+m % 977:Nat):Int)=((dq % (1+m % 977):Nat):Int):=rfl;have b4:dq % (1+m % 977)<1+m % 977:=Nat.mod_lt _ (by omega);generalize dq % (1+m % 977)=z at t6 b4;have t7:zH (1+((z:Nat):Int))=((1+z:Nat):Int):=by rw[zD (by omega) (by omega)];omega
 rw[t1,t2,t3,t4,t5,t6,t7];obtain⟨h2,cs2,e2,row2,w2,nx2⟩:=w.set (cx:=zA) 0 (j:=m % n) (u:=.int .i64 ((1+z:Nat):Int)) row rfl (by omega) b1 zb rfl rfl rfl rfl;rw[<-xC]at row2;refine⟨⟨by omega,lo'⟩,by omega,by omega,by decide,by omega,h.nx,m % n,yb zO rfl zb rfl b1,h2,e2,hs'.on λtm2 hs2=>hs2.slt λtm3 hs3=>⟨rfl,rfl,60-(i+1),by omega,i+1,cs2,_,by omega,by omega,rfl,w2,row2,mk.set b1 (by omega) (by omega),?_⟩⟩
 rw[<-yR (by omega)];exact hs3.sub (by kernel_rfl)
theorem zKi {s:List UInt8}{y:Nat}(h2:y<=s.length):zq zA 9 h (.str s) none (some (.int .i64 y)) none=some (.str (s.take y)):=by
 unfold zq;have e2:yp (y:Int)=some y:=rfl;have e3:kX s 0=s.length:=by rw[yk];omega
 simp only[qh,Go.Sim.bnd,e2,e3];rw[oC h2,oK];simp only;unfold ZD;rw[List.drop_zero,Nat.sub_zero]
theorem xg (x y:Nat) (b:Bool):yH zA .neq 4 (t x) (t y) (.bool b) (.bool b)=some (.bool false):=by cases b<;>kernel_rfl
theorem zI8 {w:List Int}(h:jz w=0):zEj w=match jN w with|some d=>.tuple [.str d,.int .i64 0]|none=>.tuple [.str [],.int .i64 4]:=by
 unfold zEj jN;rw[if_neg (by omega)];by_cases c:w.length<=128
 ·rw[if_neg (by omega),if_pos ⟨h,c⟩]
 ·rw[if_pos (by omega),if_neg (λq=>c q.2)]
theorem OF {w:List Int}(h:jz w=0):J5 w=zHY (wF w):=by unfold J5;rw[if_pos h]
theorem XZ (w:List Int):xL w 2=(jN w).toList++(wF w).toList:=by
 show(([0,1]:List Nat).filterMap (Ob w))=_;unfold Ob;cases hd:jN w<;>cases hc:wF w<;>simp
theorem qS {s:List UInt8}{cut:Int}{tm:Tm}{Q:AX->St->Prop}(hs:Has tm [(2,.int .i64 cut),(14,.str s)]) (h1:1<=s.length) (h2:s.length<=128) (hc:∀k,k<s.length->yU (s.take k) (0:Nat)=⟨[],0,5,(k:Nat)⟩) (hn:h.nx+3000<=T.top) (lo:h.low<=T.top)
  (hq:∀tm' h',zi tm' 6 = .bool true->Q .ret ⟨154,tm',[],h'⟩):W6 false zBX ⟨154,tm,[],h⟩ (zy L6 Q):=by
 refine wpS.av hs z3O rfl rfl (zDG (by show(0:Int)<(s.length:Nat);omega) (by show((s.length:Nat):Int)<=_;omega) ⟨_,rfl,?_⟩);have b0:=Int.emod_nonneg cut (b:=((s.length:Nat):Int)) (by omega);have b1:=Int.emod_lt_of_pos cut (b:=((s.length:Nat):Int)) (by omega);obtain⟨k,ek⟩:∃k:Nat,cut % ((s.length:Nat):Int)=k:=⟨(cut % ((s.length:Nat):Int)).toNat,by omega⟩;have ek':cut % (Int.ofNat s.length)=k:=ek;rw[ek'] ;rw[ek]at b1;have hk:k<s.length:=by omega
 have hr:=hc k hk;have hr':yU (s.take k) 0=⟨[],0,5,(k:Nat)⟩:=hr;refine⟨_,zKi (y:=k) (by omega),K8 (by rw[List.length_take];omega) (by omega) lo λh5 v6 x5 ow hv=>?_⟩
 rw[hr']at ow ⊢;have t5:=x5.top;have l5:=x5.low;refine⟨_,_,_,_,rfl,by omega,?_⟩;rintro p10 h11 rfl e11;have w11:=(Vw.nil (S:=zR) (h:=h5)).new e11 (by omega);have n11:h11.nx=h5.nx+1:=by rw[e11,zG]
 obtain⟨h12,e12,w12,n12,k12⟩:=w11.st (cx:=zA) 0 (f:=0) (u:=flt 5 (k:Nat)) rfl (by omega) xU rfl (oJ _) rfl rfl;have sv:Sl h12 v6 1 ([]:List Int).length (zJ []):=ow.sl.ext w12.ex0;refine⟨h12,e12,_,sv.len zO rfl,λ_=>⟨λ_=>⟨_,_,w12.ldA 0 rfl xU rfl rfl,true,by rw[zFU,Ja,Ja],λ_=>zBu ⟨true,rfl,λ_=>hs.on λtm' hs'=>hs'.slt λtm2 hs2=>hq tm2 h12 (hs2.get rfl),λg=>(by cases g)⟩,λg=>(by cases g)⟩,λc=>absurd rfl c⟩,λc=>absurd rfl c⟩
theorem lb1 (a:List UInt8):jL [a] 1=a:=rfl
theorem lb2 (a b:List UInt8):(jL [a,b] 2=a\/jL [a,b] 2=b)/\(jL [a,b] 2).length<=a.length/\(jL [a,b] 2).length<=b.length:=by
 have e:jL [a,b] 2=if b.length<a.length then b else a:=rfl
 rw[e];split
 ·exact⟨.inr rfl,by omega,by omega⟩
 ·exact⟨.inl rfl,by omega,by omega⟩
section
variable {l:List Int}{c d:List UInt8}(ck:OC l=0)
include ck
theorem zY1 (hd:jN (jj l)=some d) (hc:wF (jj l)=some c):∃s,ZO l = .tuple [.str s,.int .i64 0]/\(s=d\/s=c)/\s.length<=d.length/\s.length<=c.length:=by
 refine⟨jL [d,c] 2,?_,lb2 d c⟩;unfold ZO zBO;rw[if_pos ck,XZ,hd,hc];rfl
theorem zY0 (hd:jN (jj l)=some d) (hc:wF (jj l)=none):ZO l = .tuple [.str d,.int .i64 0]:=by
 unfold ZO zBO;rw[if_pos ck,XZ,hd,hc];rfl
theorem zYZ (hd:jN (jj l)=none) (hc:wF (jj l)=some c):ZO l = .tuple [.str c,.int .i64 0]:=by
 unfold ZO zBO;rw[if_pos ck,XZ,hd,hc];rfl
theorem zYY (hd:jN (jj l)=none) (hc:wF (jj l)=none):ZO l = .tuple [.str [],.int .i64 7]:=by
 unfold ZO zBO;rw[if_pos ck,XZ,hd,hc];rfl
end
theorem zKh {v:V}{nums:List Int}{many cut:Int}(sl:Sl h v 1 nums.length (zJ nums)) (hn:h.nx+40000<=T.top) (lo:h.low<=T.top) (hq:∀h',Q (.bool true) h'):RF P zA 6 [v,.int .i64 many,.int .i64 cut] h Q:=by
 refine yD fn6 rfl rfl vb6 (zNp sl (by omega) lo λh1 w l x1 ck sw=>⟨_,_,rfl,λ_=>?_,λc=>(by cases c)⟩)
 obtain⟨l1,l2,hin⟩:=JY ck;obtain⟨i1,i2,i3⟩:=OH ck;have rg:=zRt ck;have t1:=x1.top;refine Jb sw (by omega) (by omega) (oQ x1.low lo) λh5 v6 x5 hv=>?_
 obtain⟨_,s6⟩:=hv ck;rw[if_pos ck,ck];have x15:=x1.trans x5;have t5:=x15.top;have l5:h5.low<=T.top:=oQ x15.low lo;have sw5:=sw.ext x5;have hpos:zDR l = .tuple [.bool (jN (jj l)).isSome,.bool (wF (jj l)).isSome,.int .i64 0]:=by unfold zDR;rw[if_pos ck]
 refine⟨_,_,rfl,Kq sw5 (by omega) (by omega) l5 ⟨_,_,_,hpos,?_⟩⟩;have fin:∀(tm':Tm) (h':H),zi tm' 6 = .bool true->zy L6 (endW zA ⟨154,[.tmp 6],b6⟩ Q) .ret ⟨154,tm',[],h'⟩:=λtm' h' g=>by
  have hs:Has tm' [(6,.bool true)]:=⟨g,trivial⟩;exact hs.slt λtm3 hs3=>endW.r1 (hs3.get rfl) (hq h')
 cases hd:jN (jj l)with
 | none =>
  have ed:zEj (jj l) = .tuple [.str [],.int .i64 4]:=by rw[zI8 rg,hd]
  cases hc:wF (jj l)with
  | none =>
   have ef:J5 (jj l) = .tuple [.str [],.int .i64 7]:=by rw[OF rg,hc];rfl
   refine⟨λc=>(by cases c),λ_=>⟨λc=>(by cases c),λ_=>⟨λc=>absurd rfl c,λ_=>⟨λc=>absurd rfl c,λ_=>Has.nil.on λtm hs=>?_⟩⟩⟩⟩
   refine wpS.av hs zUS rfl rfl (jH sw5 (by omega) (by omega) l5 ⟨_,_,zYY ck hd hc,qJ s6 (by omega) (by omega) λh7 x7=>⟨_,_,ed,ZE (s6.ext x7) (by omega) (by have:=x7.top;omega) (oQ x7.low l5) ⟨_,_,ef,?_⟩⟩⟩)
   refine⟨λc=>absurd c (by decide),λ_=>⟨_,xg _ _ _,λg=>(by cases g),λ_=>⟨λc=>absurd c (by decide),λ_=>⟨_,xg _ _ _,λg=>(by cases g),λ_=>⟨λc=>absurd c (by decide),λ_=>⟨_,xg _ _ _,λg=>(by cases g),λ_=>⟨λ_=>⟨λc=>absurd rfl c,λ_=>hs.on λtm2 hs2=>?_⟩,λc=>absurd (show(7:Int)≠0 by decide) c⟩⟩⟩⟩⟩⟩⟩
   exact wpS.av hs2 zUO rfl rfl ⟨λ_=>zBu ⟨true,rfl,λ_=>hs2.on λtm3 hs3=>hs3.slt λtm4 hs4=>endW.r1 (hs4.get rfl) (hq _),λg=>(by cases g)⟩,λc=>absurd (show(7:Int)≠0 by decide) c⟩
  | some c =>
   have ef:J5 (jj l) = .tuple [.str c,.int .i64 0]:=by rw[OF rg,hc];rfl
   obtain⟨c1,c2⟩:=zI3 hc;refine⟨λc=>(by cases c),λ_=>⟨λ_=>⟨λc=>absurd rfl c,λ_=>⟨λc=>absurd rfl c,λ_=>Has.nil.on λtm hs=>?_⟩⟩,λc=>(by cases c)⟩⟩
   refine wpS.av hs zUT rfl rfl (jH sw5 (by omega) (by omega) l5 ⟨_,_,zYZ ck hd hc,qJ s6 (by omega) (by omega) λh7 x7=>⟨_,_,ed,ZE (s6.ext x7) (by omega) (by have:=x7.top;omega) (oQ x7.low l5) ⟨_,_,ef,?_⟩⟩⟩)
   refine⟨λc=>absurd c (by decide),λ_=>⟨_,xg _ _ _,λg=>(by cases g),λ_=>⟨λ_=>⟨_,xg _ _ _,λg=>(by cases g),λ_=>⟨λ_=>⟨_,xg _ _ _,λg=>(by cases g),λ_=>⟨λc=>absurd rfl c,λ_=>hs.on λtm2 hs2=>?_⟩⟩,λc=>absurd rfl c⟩⟩,λc=>absurd rfl c⟩⟩⟩
   refine wpS.av hs2 zUP rfl rfl ⟨λc=>absurd rfl c,λ_=>⟨λq=>absurd q (Int.lt_irrefl _),λ_=>⟨λ_=>⟨λq=>absurd rfl q,λ_=>⟨λq=>?_,λ_=>hs2.on λtm3 hs3=>?_⟩⟩,λ_=>⟨λq=>?_,λ_=>hs2.on λtm3 hs3=>?_⟩⟩⟩⟩
   ·exfalso;have:((c.length:Nat):Int)=0:=q;omega
   ·exact qS (cut:=cut) (hs3.sub (by kernel_rfl)) c1 c2 (λk hk=>zCq hc hk) (by have:=x7.top;omega) (oQ x7.low l5) fin
   ·exfalso;have:((c.length:Nat):Int)=0:=q;omega
   ·exact qS (cut:=cut) (hs3.sub (by kernel_rfl)) c1 c2 (λk hk=>zCq hc hk) (by have:=x7.top;omega) (oQ x7.low l5) fin
 | some d =>
  have ed:zEj (jj l) = .tuple [.str d,.int .i64 0]:=by rw[zI8 rg,hd]
  obtain⟨d1,d2⟩:=zQw hd;cases hc:wF (jj l)with
  | none =>
   have ef:J5 (jj l) = .tuple [.str [],.int .i64 7]:=by rw[OF rg,hc];rfl
   refine⟨λ_=>⟨λc=>(by cases c),λ_=>⟨λc=>absurd rfl c,λ_=>⟨λc=>absurd rfl c,λ_=>Has.nil.on λtm hs=>?_⟩⟩⟩,λc=>(by cases c)⟩
   refine wpS.av hs zUU rfl rfl (jH sw5 (by omega) (by omega) l5 ⟨_,_,zY0 ck hd hc,qJ s6 (by omega) (by omega) λh7 x7=>⟨_,_,ed,ZE (s6.ext x7) (by omega) (by have:=x7.top;omega) (oQ x7.low l5) ⟨_,_,ef,?_⟩⟩⟩)
   refine⟨λ_=>⟨_,xg _ _ _,λg=>(by cases g),λ_=>⟨λc=>absurd c (by decide),λ_=>⟨_,xg _ _ _,λg=>(by cases g),λ_=>⟨λ_=>⟨_,xg _ _ _,λg=>(by cases g),λ_=>⟨λc=>absurd rfl c,λ_=>hs.on λtm2 hs2=>?_⟩⟩,λc=>absurd rfl c⟩⟩⟩⟩,λc=>absurd rfl c⟩
   refine wpS.av hs2 zUQ rfl rfl ⟨λc=>absurd rfl c,λ_=>⟨λq=>absurd q (Int.lt_irrefl _),λ_=>⟨λq=>absurd rfl q,λ_=>⟨λq=>?_,λ_=>hs2.on λtm3 hs3=>?_⟩⟩⟩⟩
   ·exfalso;have:((d.length:Nat):Int)=0:=q;omega
   ·exact qS (cut:=cut) (hs3.sub (by kernel_rfl)) d1 (by omega) (λk hk=>zI9 hd hk) (by have:=x7.top;omega) (oQ x7.low l5) fin
  | some c =>
   have ef:J5 (jj l) = .tuple [.str c,.int .i64 0]:=by rw[OF rg,hc];rfl
   obtain⟨c1,c2⟩:=zI3 hc;obtain⟨s,ew,hsd,s1,s2⟩:=zY1 ck hd hc;have sl1:1<=s.length:=by rcases hsd with rfl|rfl<;>assumption
   have scut:∀k,k<s.length->yU (s.take k) (0:Nat)=⟨[],0,5,(k:Nat)⟩:=λk hk=>by
    rcases hsd with rfl|rfl
    ·exact zI9 hd hk
    ·exact zCq hc hk
   refine⟨λ_=>⟨λ_=>⟨λc=>absurd rfl c,λ_=>⟨λc=>absurd rfl c,λ_=>Has.nil.on λtm hs=>?_⟩⟩,λc=>(by cases c)⟩,λc=>(by cases c)⟩
   refine wpS.av hs zUV rfl rfl (jH sw5 (by omega) (by omega) l5 ⟨_,_,ew,qJ s6 (by omega) (by omega) λh7 x7=>⟨_,_,ed,ZE (s6.ext x7) (by omega) (by have:=x7.top;omega) (oQ x7.low l5) ⟨_,_,ef,?_⟩⟩⟩)
   refine⟨λ_=>⟨_,xg _ _ _,λg=>(by cases g),λ_=>⟨λ_=>⟨_,xg _ _ _,λg=>(by cases g),λ_=>⟨λ_=>⟨_,xg _ _ _,λg=>(by cases g),λ_=>⟨λc=>absurd rfl c,λ_=>hs.on λtm2 hs2=>?_⟩⟩,λc=>absurd rfl c⟩⟩,λc=>absurd rfl c⟩⟩,λc=>absurd rfl c⟩
   refine wpS.av hs2 zUR rfl rfl ⟨λc=>absurd rfl c,λ_=>⟨λq=>?_,λ_=>⟨λq=>?_,λ_=>⟨λq1=>⟨λq2=>?_,λ_=>⟨λq=>?_,λ_=>hs2.on λtm3 hs3=>?_⟩⟩,λ_=>⟨λq=>?_,λ_=>hs2.on λtm3 hs3=>?_⟩⟩⟩⟩⟩
   ·exfalso;have:((d.length:Nat):Int)<(s.length:Nat):=q;omega
   ·exfalso;have:((c.length:Nat):Int)<(s.length:Nat):=q;omega
   ·exact hsd.elim (λe=>absurd e q1) (λe=>absurd e q2)
   ·exfalso;have:((s.length:Nat):Int)=0:=q;omega
   ·exact qS (cut:=cut) (hs3.sub (by kernel_rfl)) sl1 (by omega) scut (by have:=x7.top;omega) (oQ x7.low l5) fin
   ·exfalso;have:((s.length:Nat):Int)=0:=q;omega
   ·exact qS (cut:=cut) (hs3.sub (by kernel_rfl)) sl1 (by omega) scut (by have:=x7.top;omega) (oQ x7.low l5) fin
end Go.Proofs.YtnpeieeomokomaaGreat
