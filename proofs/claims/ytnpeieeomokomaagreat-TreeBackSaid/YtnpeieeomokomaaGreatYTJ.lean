/- TJ. No condition. -/
import Derived.Test.YtnpeieeomokomaaGreatYTG
import Derived.Test.YtnpeieeomokomaaGreatYCG
set_option maxRecDepth 100000
noncomputable section
namespace Go.Proofs.YtnpeieeomokomaaGreat
open Go.Sim
variable {h:H}{Q:V->H->Prop}
variable{d:List AD}{l:List Int}{ops:List Oper}{m n:Nat}{S:Nat->Prop}
theorem yj{v:V}{i:Nat}(sl:Sl h v 1 l.length (zJ l))(hi:i<l.length):∃b o,z8 zA 23 v (.int .i64 (i:Nat))=some (.ptr b o)/\zK zA 3 h (.ptr b o)=some (.int .i64 l[i]) :=
 sl.at1 (u:=.int .i64 l[i]) hi zP rfl zd rfl rfl (by rw[oW,oO hi];rfl)
theorem xY{α:Type}{l:List α}{i:Nat}(hi:i<l.length):l.take (i+1)=l.take i++[l[i]]:=by rw[List.take_add_one,oO hi];rfl
theorem yQ{i:Nat}(h:i<9223372036854775807):zG ((i:Int)+1)=((i+1:Nat):Int):=by rw[zD (by omega) (by omega)];rfl
def grt(l:List Int):Int:=l.foldl max 0
theorem zNL(l:List Int)(x:Int):grt (l++[x])=max (grt l) x:=by simp[grt]
theorem wk(h:jk l=true){x:Int}(hx:x∈l):0<=x/\x<=11:=by
 have:=List.all_eq_true.1 h x hx;simpa using this
theorem Xf{l:List Int}{a m:Int}(ha:a<=m)(h:∀x∈l,x<=m):l.foldl max a<=m:=by
 induction l generalizing a with
 | nil=>exact ha
 | cons x l ih=>exact ih (Int.max_le.2 ⟨ha,h x (by simp)⟩) λy hy=>h y (by simp[hy])
theorem qx{l:List Int}{a:Int}:a<=l.foldl max a/\∀x∈l,x<=l.foldl max a:=by
 induction l generalizing a with
 | nil=>exact⟨Int.le_refl _,λx hx=>by cases hx⟩
 | cons x l ih =>
  have h1:=(ih (a:=max a x)).1;refine⟨Int.le_trans (Int.le_max_left a x) h1,λy hy=>?_⟩
  rcases od.1 hy with rfl|hy
  ·exact Int.le_trans (Int.le_max_right a y) h1
  ·exact(ih (a:=max a x)).2 y hy
def jT(l:List Int):Nat:=(grt l).toNat
theorem zDM:grt l=(jT l:Nat):=by
 have h1:=(qx (l:=l) (a:=0)).1;unfold jT grt at *;omega
theorem zDU(h:jk l=true):jT l<=11:=by
 have h1:=Xf (l:=l) (a:=0) (m:=11) (by decide) λx hx=>(wk h hx).2
 unfold jT grt;omega
theorem zHW{x:Int}(hx:x∈l):x<=(jT l:Nat):=by
 have h1:=(qx (l:=l) (a:=0)).2 x hx;rw[<-zDM];exact h1
theorem KO{v:V}{l:List Int}(sl:Sl h v 1 l.length (zJ l))(hl:l.length<4611686018427387904)(hq:Q (.int .i64 (jT l:Nat)) h):RF P zA 108 [v] h Q:=by
 rw[<-zDM]at hq;refine yK z0H rfl rfl z2Q ⟨_,sl.len zP rfl,Has.nil.on λtm hs=>?_⟩
 refine wpC.round (λk tm h'=>∃i:Nat,i<=l.length/\k=l.length-i/\h'=h/\Has tm [(8,.int .i64 i),(7,.int .i64 l.length),(6,v),(3,.int .i64 (grt (l.take i)))]) l.length ⟨0,by omega,by omega,rfl,hs.sub (by kernel_rfl)⟩ ?_
 clear hs;rintro k tm h' ⟨i,h1,rfl,rfl,hs⟩;refine wpC.av hs zSy rfl rfl ⟨λc=>?_,λc=>hs.on λtm' hs'=>?_⟩
 ·have hi:i<l.length:=by omega
  obtain⟨b,o,e1,e2⟩:=yj sl hi;refine⟨b,o,e1,l[i],e2,hs.on λtm' hs'=>⟨rfl,rfl,l.length-(i+1),by omega,i+1,by omega,rfl,rfl,?_⟩⟩
  rw[xY hi,zNL,<-yQ (by omega)];exact hs'.sub (by kernel_rfl)
 ·have hi:i=l.length:=by omega
  subst hi;rw[List.take_length]at hs';refine thenC.left (wpS.av hs' zTi rfl rfl (hs'.on λtm2 hs2=>?_));exact endW.r1 (hs2.get rfl) hq
def lone(m:Nat)(x:Int):Nat:=if x≠0 then 2^(m-x.toNat) else 0
def Zi(m:Nat)(l:List Int):Nat:=(l.map (lone m)).sum
theorem zSB(hm:m<=11)(x:Int):lone m x<=2048:=by
 unfold lone;split
 ·exact oQ (Nat.pow_le_pow_right (by decide) (show m-x.toNat<=11 by omega)) (by decide)
 ·omega
theorem zJF{g:Int->Nat}(hg:∀x,g x<=m):∀l:List Int,(l.map g).sum<=m*l.length
 | []=>by simp
 | x::l=>by
  have h1:=hg x;have h2:=zJF hg l;rw[List.map_cons,List.sum_cons,oV,Nat.mul_succ];omega
theorem zLh{v fv:V}{l:List Int}{g:Int->Nat}(sl:Sl h v 1 l.length (zJ l))(hl:l.length<=1000)(hg:∀x,g x<=1048576)(h0:g 0=0)(hf:∀x∈l,x≠0->∀k:V->H->Prop,k (.int .i64 (g x:Nat)) h->yW zA P 3 h k [.int .i64 x] fv)(hq:Q (.int .i64 ((l.map g).sum:Nat)) h):RF P zA 143 [v,fv] h Q:=by
 refine yK zVM rfl rfl zVv ⟨_,sl.len zP rfl,Has.nil.on λtm hs=>?_⟩
 refine wpC.round (λk tm h'=>∃i:Nat,i<=l.length/\k=l.length-i/\h'=h/\Has tm [(9,.int .i64 i),(8,.int .i64 l.length),(7,v),(4,.int .i64 (((l.take i).map g).sum:Nat)),(1,fv)]) l.length ⟨0,by omega,by omega,rfl,hs.sub (by kernel_rfl)⟩ ?_
 clear hs;rintro k tm h' ⟨i,h1,rfl,rfl,hs⟩;refine wpC.av hs zJc rfl rfl ⟨λc=>?_,λc=>hs.on λtm' hs'=>?_⟩
 ·have hi:i<l.length:=by omega
  obtain⟨b,o,e1,e2⟩:=yj sl hi;have hw:((l.take (i+1)).map g).sum=((l.take i).map g).sum+g l[i]:=by rw[xY hi,List.map_append,List.sum_append];simp
  have hb:=zJF hg (l.take i);rw[List.length_take]at hb;have hx:=hg l[i];have hm:=hf l[i] (oS hi);generalize l[i]=x at e2 hw hx hm;refine⟨b,o,e1,x,e2,λc2=>?_,λc2=>hs.on λtm' hs'=>⟨rfl,rfl,l.length-(i+1),by omega,i+1,by omega,rfl,rfl,?_⟩⟩
  ·refine hm c2 _ (hs.on λtm' hs'=>⟨rfl,rfl,l.length-(i+1),by omega,i+1,by omega,rfl,rfl,?_⟩)
   have ew:zG (((((l.take i).map g).sum:Nat):Int)+(g x:Nat))=((((l.take (i+1)).map g).sum:Nat):Int):=by rw[zD (by omega) (by omega),hw];rfl
   rw[<-ew,<-yQ (by omega)];exact hs'.sub (by kernel_rfl)
  ·have:((l.take (i+1)).map g).sum=((l.take i).map g).sum:=by
    rw[hw,show x=0 by omega,h0,Nat.add_zero]
   rw[this,<-yQ (by omega)];exact hs'.sub (by kernel_rfl)
 ·have hi:i=l.length:=by omega
  subst hi;rw[List.take_length]at hs';refine thenC.left (wpS.av hs' zJe rfl rfl (hs'.on λtm2 hs2=>?_));exact endW.r1 (hs2.get rfl) hq
def OG(l:List Int):Int :=
 if l.length<2\/256<l.length then 4
 else if jk l=true then (if l.getLast?≠some 0/\2<=cnt l/\Zi (jT l) l=2^jT l then 0 else 21)
 else 2
theorem zHY{h h':H}(e:Ext h h' n)(hl:h.low<=T.top):h'.low<=T.top:=oQ e.low hl
theorem zF3{v:V}(sl:Sl h v 1 l.length (zJ l))(hl:l.length<4611686018427387904)(hn:h.nx+1<=T.top)(hlow:h.low<=T.top)(hq:∀h',Ext h h' 1->Q (.int .i64 (OG l)) h'):RF P zA 107 [v] h Q:=by
 have hq0:=hq h ((Ext.refl h).mono (by omega));unfold OG at hq0 hq;refine yK z0G rfl rfl z2P ⟨_,sl.len zP rfl,λc=>?_,λc=>⟨_,sl.len zP rfl,λc2=>?_,λc2=>Has.nil.on λtm hs=>?_⟩⟩
 ·rw[if_pos (.inl (by omega))]at hq0
  exact hq0
 ·rw[if_pos (.inr (by omega))]at hq0
  exact hq0
 rw[if_neg (by omega)]at hq0;refine wpS.av hs zTh rfl rfl (zCA sl hl ?_);unfold zKu;by_cases hin:jk l=true
 ·simp only[if_neg (show ¬(l.length<2\/256<l.length)by omega),if_pos hin]at hq
  rw[if_pos hin];have hm:=zDU hin;refine⟨_,true,rfl,λ_=>KO sl hl ⟨_,rfl,rfl,by omega,?_⟩,λg=>(by cases g)⟩
  rintro p7 h8 rfl e8;have w8:=(Vw.nil (S:=zS) (h:=h)).new e8 (by omega);have t8:=w8.top;obtain⟨h9,e9,w9,n9,_⟩:=w8.st (cx:=zA) 0 (t:=3) (f:=0) (u:=.int .i64 (jT l:Nat)) rfl (by omega) zd rfl (oJ _) rfl rfl;have t9:=w9.top;have x9:=w9.ex0;have l9:=zHY x9 hlow;have s9:=sl.ext x9;obtain⟨b,o,a1,a2⟩:=yj s9 (i:=l.length-1) (by omega);have hlast:l.getLast? = some l[l.length-1]:=by rw[List.getLast?_eq_getElem?,oO (by omega)]
  refine⟨h9,e9,⟨by omega,l9⟩,_,s9.len zP rfl,b,o,?_,_,a2,λc3=>hs.on λtm2 hs2=>?_,λc3=>⟨λc4=>hs.on λtm2 hs2=>?_,λc4=>?_⟩⟩
  ·rw[zD (by omega) (by omega),show((l.length:Nat):Int)-1=((l.length-1:Nat):Int)by omega];exact a1
  ·have:=hq h9 x9
   rw[if_neg (λg=>g.1 (by rw[hlast,c3]))]at this
   exact endW.r1 (hs2.get rfl) this
  ·have:=hq h9 x9
   rw[if_neg (λg=>by have:=g.2.1;omega)]at this;exact endW.r1 (hs2.get rfl) this
  have hp:2^jT l<=2^11:=Nat.pow_le_pow_right (by decide) hm;have i9:=yI (h:=h9) (by omega) l9;refine zLh (g:=lone (jT l)) (show Sl (zM h9) v 1 l.length (zJ l)from s9) (by omega) (λx=>oQ (zSB hm x) (by decide)) rfl (λx hx hx0 k hk=>?_) ⟨_,rfl,i9.1,λh17 e17=>?_⟩
  ·show RF P zA 183 [.int .i64 x,.ptr h.nx 0] (zM h9) _
   have hr:=wk hin hx;have hr2:=zHW hx;have e:zT .u64 (zG (((jT l:Nat):Int)-x))=((jT l-x.toNat:Nat):Int):=by
    rw[zD (by omega) (by omega),show((jT l:Nat):Int)-x=((jT l-x.toNat:Nat):Int)by omega,zW (by omega)]
   have hp:2^(jT l-x.toNat)<=2^11:=Nat.pow_le_pow_right (by decide) (by omega);refine yK z01 rfl rfl z2b ⟨_,w9.ld1 0 rfl zd rfl rfl,((1*2^(jT l-x.toNat):Nat):Int),by rw[e];exact yH (a:=1) (by omega) (by omega),?_⟩;unfold lone at hk;rw[if_pos hx0]at hk;rw[Nat.one_mul];exact zJW hk
  ·rw[i9.2]at e17
   subst e17;have:=hq h17 x9;refine⟨_,w9.ld1 0 rfl zd rfl rfl,((1*2^jT l:Nat):Int),by rw[zW (by omega)];exact yH (a:=1) (by omega) (by omega),λc5=>hs.on λtm2 hs2=>?_,λc5=>hs.on λtm2 hs2=>?_⟩
   ·rw[if_neg (λg=>by have:=g.2.2;unfold Zi at this;omega)]at this
    exact endW.r1 (hs2.get rfl) this
   ·rw[if_pos ⟨λg=>c3 (by rw[hlast]at g;exact Option.some.inj g),by omega,by unfold Zi;omega⟩]at this
    exact endW.r1 (hs2.get rfl) this
 ·rw[if_neg hin]at hq0
  rw[if_neg hin];exact⟨0,false,rfl,λg=>(by cases g),λ_=>hs.on λtm2 hs2=>endW.r1 (hs2.get rfl) hq0⟩
theorem zSb{a:Nat}(hn:n<=8)(h:a*2^n<256):zq .shl .u8 (a:Int) (n:Int)=some (.int .u8 ((a*2^n:Nat):Int)):=by
 show cond (JU (n:Int) 0) none (some (V.int .u8 (zT .u8 (zL8 (a:Int) (cond (Nat.ble n 8) n 8)))))=_;rw[oC hn,oK,yi,OS];have h3:decide ((n:Int)<0)=false:=by simp
 rw[h3,oM];have e:(a:Int)*2^n=((a*2^n:Nat):Int):=by rw[Int.natCast_mul,Int.natCast_pow];rfl
 rw[e,jr,oe h]
theorem zXx{a b:Nat}(ha:a<256)(hb:b<256):zq .or .u8 (a:Int) (b:Int)=some (.int .u8 ((a ||| b:Nat):Int)):=by
 show some (V.int .u8 (IntKind.u8.wrap (((BitVec.ofInt 8 (a:Int) ||| BitVec.ofInt 8 (b:Int)).toNat:Nat):Int)))=_;rw[BitVec.toNat_or,xE (show a<2^8 from ha),xE (show b<2^8 from hb)];rw[zGc (show a ||| b<2^8 from Nat.or_lt_two_pow ha hb)]
abbrev Ka:TI:=⟨5,.int .u8,1,1,some (.int .u8 (.ofNat 0)),true,false,false,[]⟩
abbrev byv(b:UInt8):V:=.int .u8 ((b.toNat:Nat):Int)
abbrev Ko(l:List UInt8):List V:=l.map byv
theorem OF(l m:List UInt8):Ko (l++m)=Ko l++Ko m:=List.map_append ..
theorem kD(l:List UInt8):(Ko l).length=l.length:=ol ..
theorem KM:∀l:List UInt8,xg (Ko l)=some l
 | []=>rfl
 | b::l=>by
  show(match xg (Ko l)with|some r=>some (UInt8.ofNat b.toNat::r)|none=>none)=_
  rw[KM l];simp
theorem zDn(cs:Cs)(o:Nat)(h:cs.range o 0=some []\/True):cs.range 0 0=some []:=by
 cases cs with
 | ls l=>cases l<;>rfl
 | tb t n=>rfl
 | big d t n=>rfl
theorem X8{v:V}{l:List UInt8}{k:V->H->Prop}(s:Sl h v 1 l.length (Ko l))(h0:0<l.length)(hk:k (.str l) h):kh zA 71 9 h v k:=by
 obtain⟨_,⟨rfl,hz⟩|⟨b,o,cp,cs,kk,w,op,rfl,hb,hg,hc⟩⟩:=s
 ·omega
 have e:xN zA 71 9 h (.slice b o l.length cp)=some (.str l,h):=by
  unfold xN;rw[zG2,ZN];have hr:cs.range o l.length=some (Ko l):=Cs.range_is h0 (kD l) λi hi=>hc i (by omega)
  simp only[ty5,hg,hr,KM]
 show ∃m h',xN zA 71 9 h (.slice b o l.length cp)=some (.str m,h')/\k (.str m) h';exact⟨l,h,e,hk⟩
theorem YK(n:Int)(hn:h.nx<T.top):∃h',zF zA 71 1 [(0,.int .u8 n)] h=some (.slice h.nx 0 1 (.exact 1),h')/\Sl h' (.slice h.nx 0 1 (.exact 1)) 1 1 [.int .u8 n]/\Ext h h' 1:=by
 have e:zF zA 71 1 [(0,.int .u8 n)] h=(match (cond (Nat.blt h.nx T.top) (some (h.nx,h.new (.cells (.ls [.int .u8 n]) ⟨0,5+1,0⟩ true false))) none:Option (Nat×H))with|some (b,h')=>some (.slice b 0 1 (.exact 1),h')|none=>none):=by kernel_rfl
 rw[(zY _ _).2 hn,oK]at e;exact⟨_,e,⟨rfl,.inr ⟨h.nx,0,_,_,_,_,_,rfl,by rw[zH];omega,zZ _ hn,λi hi=>by
  have:i=0:=by omega
  subst this;rfl⟩⟩,Ext.new _ hn⟩
def Gr(h:H)(v:V)(te:TI)(n:Nat)(xs:List V):Prop:=Ow h v te n xs\/∃b,v = .slice b 0 n (.exact n)/\0<n/\Sl h v te.size n xs
theorem Gr.sl{v:V}{te:TI}{xs:List V}(g:Gr h v te n xs):Sl h v te.size n xs:=by
 rcases g with o|⟨_,_,_,s⟩
 ·exact o.sl
 ·exact s
theorem Gr.ext{h h':H}{v:V}{te:TI}{xs:List V}(g:Gr h v te n xs)(e:Ext h h' m):Gr h' v te n xs:=by
 rcases g with o|⟨b,hv,hn,s⟩
 ·exact .inl (o.ext e)
 ·exact .inr ⟨b,hv,hn,s.ext e⟩
theorem Gr.step{cx:Ctx}{S:Nat->Prop}{hb h:H}{c:Nat}{l:List (Nat×O)}{v x:V}{te ti:TI}{n t e:Nat}{xs ys:List V}(w:Vw S hb h c l)(g:Gr h v te n xs)(sp:Sep S hb.nx l v)(hx:Sl h x te.size 1 ys)(ht:cx.ty.get t=some ti)(hd:ti.desc = .slice e)(he:cx.ty.get e=some te)(hok:kH te=true)(ho:zL ys=true)(hsz:(n+1)*te.size<=262143)(hby:(n+1)*te.bytes<=1099511627776)(hn:h.nx<T.top):
  ∃v' h',zc cx t h v x=some (v',h')/\Vw S hb h' (c+1) l/\Ow h' v' te (n+1) (xs++ys)/\Sep S hb.nx l v':=by
 rcases g with o|⟨b,rfl,h0,s⟩
 ·obtain⟨v',h',e1,A⟩:=o.append (c:=cx) hx (by decide) ht hd he hok ho hsz hby hn
  obtain⟨w',o',sp'⟩:=w.grow sp A;exact⟨v',h',e1,w',o',sp'⟩
 ·obtain⟨v',h',e1,o',x',hv'⟩:=s.appFull (cx:=cx) h0 hx (by decide) ht hd he hok ho hsz hby hn
  refine⟨v',h',e1,w.ext x',o',λb' hb'=>?_⟩
  rw[hv']at hb';cases hb';exact⟨.inr w.le,λq hq=>Nat.ne_of_lt (w.bk.lt q hq)⟩
theorem zL9{cx:Ctx}{b t e:Nat}{ti te:TI}(ht:cx.ty.get t=some ti)(hd:ti.desc = .slice e)(he:cx.ty.get e=some te)(hm:m<=n):yB cx t h (.slice b 0 n (.exact n)) none (some (.int .i64 (m:Nat))) (some (.int .i64 (m:Nat)))=some (.slice b 0 m (.exact m)):=by
 unfold yB;have e5:Nat.ble m m=true:=oC (oP m);have e6:Nat.ble m n=true:=oC hm;simp only[ht,hd,he,Go.Sim.bnd,OD,e5,e6,oK,Option.isNone_some,Bool.and_false,oM,Nat.zero_mul,Nat.zero_add,Nat.sub_zero];cases Nat.beq m 0<;>rfl
def kZ(l:List Int):List Int:=(Ku (jT l) l).dropLast
theorem Xp(l:List Int):(kZ l).length=l.length-1:=by unfold kZ;rw[List.length_dropLast,Y2]
theorem J5(h:OG l=0):2<=l.length/\l.length<=256/\jk l=true:=by
 unfold OG at h;by_cases c:l.length<2\/256<l.length
 ·rw[if_pos c]at h;cases h
 ·rw[if_neg c]at h
  by_cases g:jk l=true
  ·exact⟨by omega,by omega,g⟩
  ·rw[if_neg g]at h;cases h
theorem zLA{v:V}(sl:Sl h v 1 l.length (zJ l))(hl:l.length<4611686018427387904)(hn:h.nx+2<=T.top)(hlow:h.low<=T.top)(hq:∀h' v',Ext h h' 2->(OG l=0->(∃b,v' = .slice b 0 (kZ l).length (.exact (kZ l).length)/\h.nx<=b)/\Sl h' v' 1 (kZ l).length (zJ (kZ l)))->Q (.tuple [if OG l=0 then v' else .nilslice,.int .i64 (OG l)]) h'):RF P zA 25 [v] h Q:=by
 refine yK z6v rfl rfl z7f ?_;refine yK z7J rfl rfl z7s (zF3 sl hl (by omega) hlow λh1 x1=>⟨_,rfl,λc=>?_,λc=>?_⟩)
 ·have:=hq h1 .nilslice (x1.mono (by omega)) λg=>absurd g c
  rw[if_neg c]at this;exact⟨_,_,rfl,λ_=>this,λg=>absurd c g⟩
 ·have c0:OG l=0:=by omega
  have t1:=x1.top;obtain⟨l1,l2,hin⟩:=J5 c0;have hm:=zDU hin;have s1:=sl.ext x1;refine KO s1 hl ⟨_,rfl,zCX s1 l2 (λx hx=>by have:=wk hin hx;omega) (by omega) (by omega) λh2 v2 x2 s2 b2=>⟨_,rfl,_,_,rfl,λg=>absurd rfl g,λ_=>?_⟩⟩
  obtain⟨b,cs,k,op,rfl,hb,_⟩:=b2;have s2':Sl h2 (.slice b 0 l.length (.exact l.length)) 1 l.length (zJ (Ku (jT l) l)):=s2;have e1:zG (((l.length:Nat):Int)-1)=((l.length-1:Nat):Int):=by rw[zD (by omega) (by omega)];omega
  refine⟨_,s2'.len zP rfl,_,s2'.len zP rfl,_,by rw[e1];exact zL9 zP rfl zd (by omega),?_⟩;have:=hq h2 (.slice b 0 (l.length-1) (.exact (l.length-1))) (x1.trans x2) λ_=>⟨⟨b,by rw[Xp],by have:=x1.le;omega⟩,?_⟩
  ·rw[c0,if_pos rfl]at this
   exact this
  ·obtain⟨g1,⟨hv,_⟩|⟨b',o,cp,cs',k',w',op',hv,g3,g4,g5⟩⟩:=s2'
   ·cases hv
   ·cases hv
    refine⟨by rw[jM,Nat.mul_one],.inr ⟨b,0,_,cs',k',w',op',by rw[Xp],g3,g4,λi hi=>?_⟩⟩
    rw[Xp]at hi;rw[g5 i (by omega)];unfold kZ;rw[oW,oW,List.getElem?_dropLast,Y2,if_pos (by omega)]
def jS:List Int->List UInt8
 | []=>[]
 | [a]=>[UInt8.ofNat (16*a.toNat)]
 | a::b::l=>UInt8.ofNat (16*a.toNat+b.toNat)::jS l
theorem X9(x y:Int):∀m:List Int,m.length % 2=0->jS (m++[x])=jS m++[UInt8.ofNat (16*x.toNat)]/\jS (m++[x,y])=jS m++[UInt8.ofNat (16*x.toNat+y.toNat)]
 | [],_=>⟨rfl,rfl⟩
 | [_],h=>by cases h
 | a::b::m,h=>by
  obtain⟨h1,h2⟩:=X9 x y m (by simp only[oV]at h;omega);refine⟨?_,?_⟩
  ·show _::jS (m++[x])=_
   rw[h1];rfl
  ·show _::jS (m++[x,y])=_
   rw[h2];rfl
theorem Z9:∀l:List Int,(jS l).length=(l.length+1)/2
 | []=>rfl
 | [_]=>by simp[jS]
 | a::b::l=>by
  show(jS l).length+1=_;rw[Z9 l];simp only[oV];omega
def zDC(l:List Int):List UInt8:=UInt8.ofNat (l.length+127)::jS l
def zRb(l:List Int):V :=
 if jw l≠0 then .tuple [.str [],.int .i64 (jw l)]
 else if 128<l.length then .tuple [.str [],.int .i64 4]
 else .tuple [.str (zDC l),.int .i64 0]
theorem Yw(h:n<256):byv (UInt8.ofNat n) = .int .u8 (n:Int):=by
 have:(UInt8.ofNat n).toNat=n:=by simp;omega
 show V.int .u8 (((UInt8.ofNat n).toNat:Nat):Int)=_;rw[this]
theorem zS6{v:V}{l:List UInt8}{i:Nat}(sl:Sl h v 1 l.length (Ko l))(hi:i<l.length):∃b o,z8 zA 71 v (.int .i64 (i:Nat))=some (.ptr b o)/\zK zA 5 h (.ptr b o)=some (byv l[i]) :=
 sl.at1 (u:=byv l[i]) hi zG2 rfl ty5 rfl rfl (by rw[oW,oO hi];rfl)
theorem zPp{v:V}{l:List UInt8}{b0 b1:UInt8}(o:Ow h v Ka (l++[b0]).length (Ko (l++[b0])))(hn:h.nx<=T.top):
  ∃b h',z8 zA 71 v (.int .i64 (l.length:Nat))=some (.ptr b l.length)/\zK zA 5 h (.ptr b l.length)=some (byv b0)/\zg zA 5 h (.ptr b l.length) (byv b1)=some h'/\Ow h' v Ka (l++[b1]).length (Ko (l++[b1]))/\ExtX (λi=>zy v=some i) h h' 0:=by
 have hlen:l.length<(l++[b0]).length:=by simp
 obtain⟨b,h',_,e1,e2,o',n',x'⟩:=o.set (cx:=zA) (u:=byv b1) hlen zG2 rfl ty5 rfl rfl rfl hn;obtain⟨b',o2,f1,f2⟩:=zS6 o.sl hlen;rw[e1]at f1;cases f1;refine⟨b,h',e1,by simpa using f2,e2,?_,x'⟩;have:(Ko (l++[b0])).set l.length (byv b1)=Ko (l++[b1]):=by
  rw[OF,OF,List.set_append_right _ _ (by rw[kD];exact oP _),kD,Nat.sub_self];rfl
 rw[this]at o';simpa using o'
theorem zXu{i:Nat}(hi:i<l.length)(ho:i % 2=1):∃x:Int,∃m:List Int,m=l.take (i-1)/\x∈l/\l.take i=m++[x]/\l.take (i+1)=m++[x,l[i]]:=by
 have h1:i-1<l.length:=by omega
 have h2:=xY h1;have h3:=xY hi;rw[show i-1+1=i by omega]at h2;exact⟨l[i-1],_,rfl,oS h1,h2,by rw[h3,h2,List.append_assoc];rfl⟩
structure DrI (hb h:H) (l:List Int) (i:Nat) (v:V):Prop where
 vw:Vw zS hb h (2*i+1) []
 gr:Gr h v Ka (jS (l.take i)).length.succ (Ko (UInt8.ofNat (l.length+127)::jS (l.take i)))
 ow:0<i->Ow h v Ka (jS (l.take i)).length.succ (Ko (UInt8.ofNat (l.length+127)::jS (l.take i)))
 sp:Sep zS hb.nx [] v
theorem DrI.even{hb h:H}{i:Nat}{v:V}(d:DrI hb h l i v)(hi:i<l.length)(hl:l.length<=128)(he:i % 2=0)(hin:jk l=true)(hn:hb.nx+400<=T.top):
  ∃v4 h5,zF zA 71 1 [(0,.int .u8 ((l[i].toNat*2^4:Nat):Int))] h=some (v4,h5)/\(True/\∃v6 h7,zc zA 71 h5 v v4=some (v6,h7)/\DrI hb h7 l (i+1) v6):=by
 have t:=d.vw.top;have hr:=wk hin (oS hi);obtain⟨h5,e5,s5,x5⟩:=YK (h:=h) ((l[i].toNat*2^4:Nat):Int) (by omega);have t5:=x5.top;have hd:=Z9 (l.take i);rw[List.length_take]at hd;obtain⟨v6,h7,e7,w7,o7,sp7⟩:=(d.gr.ext x5).step (cx:=zA) (d.vw.ext x5) d.sp s5 zG2 rfl ty5 rfl rfl (by show(_+1)*1<=_;omega) (by show(_+1)*1<=_;omega) (by omega);refine⟨_,h5,e5,trivial,v6,h7,e7,?_⟩;have ed:=(X9 l[i] 0 (l.take i) (by rw[List.length_take];omega)).1;rw[<-xY hi]at ed;have o8:Ow h7 v6 Ka (jS (l.take (i+1))).length.succ (Ko (UInt8.ofNat (l.length+127)::jS (l.take (i+1)))):=by
  rw[ed,oU];have:Ko (UInt8.ofNat (l.length+127)::(jS (l.take i)++[UInt8.ofNat (16*l[i].toNat)]))=Ko (UInt8.ofNat (l.length+127)::jS (l.take i))++[.int .u8 ((l[i].toNat*2^4:Nat):Int)]:=by
   rw[<-List.cons_append,OF]
   congr 1
   show[byv _]=_;rw[Yw (by omega),show 16*l[i].toNat=l[i].toNat*2^4 by omega]
  rw[this];exact o7
 exact⟨w7.more (by omega),.inl o8,λ_=>o8,sp7⟩
theorem DrI.odd{hb h:H}{i:Nat}{v:V}(d:DrI hb h l i v)(hi:i<l.length)(he:i % 2=1)(hin:jk l=true)(hn:h.nx<=T.top):
  ∃(x:Int) (b j:Nat),0<=x/\x<=11/\zp zA 71 h v=some (.int .i64 ((j+1:Nat):Int))/\j<=l.length/\z8 zA 71 v (.int .i64 (j:Nat))=some (.ptr b j)/\zK zA 5 h (.ptr b j)=some (.int .u8 ((16*x.toNat:Nat):Int)) /\
   ∃h',zg zA 5 h (.ptr b j) (.int .u8 ((16*x.toNat+l[i].toNat:Nat):Int))=some h'/\DrI hb h' l (i+1) v:=by
 obtain⟨x,m,hm,hx,h1,h2⟩:=zXu hi he;have hr:=wk hin hx;have hr2:=wk hin (oS hi);have hml:m.length=i-1:=by rw[hm,List.length_take];omega
 obtain⟨a1,_⟩:=X9 x 0 m (by rw[hml];omega);obtain⟨_,a2⟩:=X9 x l[i] m (by rw[hml];omega);have hd:=Z9 m;have ow:=d.ow (by omega);have g:=d.gr.sl.len (t:=71) zG2 rfl;rw[h1,a1]at ow g;rw[<-h2]at a2;obtain⟨b,h',e1,e2,e3,o',x'⟩:=zPp (l:=UInt8.ofNat (l.length+127)::jS m) (b0:=UInt8.ofNat (16*x.toNat)) (b1:=UInt8.ofNat (16*x.toNat+l[i].toNat)) (by simpa using ow) hn;rw[Yw (by omega)]at e2 e3;refine⟨x,b,(jS m).length+1,hr.1,hr.2,by simpa using g,by omega,by simpa using e1,by simpa using e2,h',by simpa using e3,?_⟩;have o8:Ow h' v Ka (jS (l.take (i+1))).length.succ (Ko (UInt8.ofNat (l.length+127)::jS (l.take (i+1)))):=by
  rw[a2];simpa using o'
 exact⟨(d.vw.apart x' (λb hb=>(d.sp b hb).1) λq hq=>(by cases hq)).more (by omega),.inl o8,λ_=>o8,d.sp⟩
theorem zKa{v:V}{l:List Int}(sl:Sl h v 1 l.length (zJ l))(hl:l.length<4611686018427387904)(hn:h.nx+400<=T.top)(hq:∀h',Ext h h' 300->Q (zRb l) h'):RF P zA 26 [v] h Q:=by
 have hq0:=hq h ((Ext.refl h).mono (by omega));unfold zRb at hq hq0;refine yK z6w rfl rfl z7g (zAa sl hl ⟨_,rfl,λc=>?_,λc=>⟨_,sl.len zP rfl,λc2=>?_,λc2=>⟨_,sl.len zP rfl,?_⟩⟩⟩)
 ·rw[if_pos c]at hq0
  exact hq0
 ·rw[if_neg c,if_pos (by omega)]at hq0
  exact hq0
 have hin:jk l=true:=by
  have c0:jw l=0:=by omega
  unfold jw at c0;by_cases c1:l.length<1\/255<l.length
  ·rw[if_pos c1]at c0;cases c0
  ·rw[if_neg c1]at c0
   by_cases g:jk l=true
   ·exact g
   ·rw[if_neg g]at c0;cases c0
 simp only[if_neg c,if_neg (show ¬128<l.length by omega)]at hq;clear hq0;have e0:zT .u8 (zG (((l.length:Nat):Int)+127))=((l.length+127:Nat):Int):=by
  rw[zD (by omega) (by omega),show((l.length:Nat):Int)+127=((l.length+127:Nat):Int)by omega,jr,oe (by omega)]
 obtain⟨h6,e6,s6,x6⟩:=YK (h:=h) ((l.length+127:Nat):Int) (by omega);refine⟨_,h6,by rw[e0];exact e6,_,(sl.ext x6).len zP rfl,Has.nil.on λtm hs=>?_⟩
 refine wpC.round (λk tm h'=>∃(i:Nat) (v5:V),i<=l.length/\k=l.length-i/\DrI h h' l i v5/\Has tm [(23,.int .i64 i),(22,.int .i64 l.length),(21,v),(5,v5)]) l.length ⟨0,_,by omega,by omega,⟨Vw.nil.ext x6 |>.more (by omega),.inr ⟨_,rfl,by simp,by rw[<-Yw (by omega)]at s6;exact s6⟩,λg=>by omega,λb hb=>by cases hb;exact⟨.inr (oP _),λq hq=>by cases hq⟩⟩,hs.sub (by kernel_rfl)⟩ ?_
 clear hs s6 x6 e6 h6;rintro k tm h' ⟨i,v5,hi1,rfl,d,hs⟩;have tw:=d.vw.top;refine wpC.av hs zYZ rfl rfl ⟨λc3=>?_,λc3=>hs.on λtm' hs'=>?_⟩
 ·have hi:i<l.length:=by omega
  obtain⟨b,o,a1,a2⟩:=yj (sl.ext d.vw.ex0) hi;have hr:=wk hin (oS hi);have ew:zT .u8 l[i]=((l[i].toNat:Nat):Int):=by
   rw[show l[i]=((l[i].toNat:Nat):Int)by omega,jr,oe (by omega)];simp
  refine⟨b,o,a1,_,a2,by decide,λc4=>?_,λc4=>?_⟩
  ·obtain⟨v4,h5,e5,_,v6,h7,e7,d7⟩:=d.even hi (by omega) (by rw[<-Int.natCast_inj];exact c4) hin hn
   refine⟨_,by rw[ew];exact zSb (a:=l[i].toNat) (n:=4) (by omega) (by omega),v4,h5,e5,trivial,v6,h7,e7,hs.on λtm' hs'=>⟨rfl,rfl,l.length-(i+1),by omega,i+1,v6,by omega,rfl,d7,?_⟩⟩
   rw[<-yQ (by omega)];exact hs'.sub (by kernel_rfl)
  ·obtain⟨x,b2,j,x1,x2,e1,hj,e2,e3,h8,e4,d8⟩:=d.odd hi (by
    have:¬i % 2=0:=λg=>c4 (by show((i % 2:Nat):Int)=0;omega)
    omega) hin (by omega)
   have ej:zG (((j+1:Nat):Int)-1)=((j:Nat):Int):=by rw[zD (by omega) (by omega)];omega
   have eo:(16*x.toNat) ||| l[i].toNat=16*x.toNat+l[i].toNat:=by
    rw[Nat.or_comm,show 16*x.toNat=x.toNat*2^4 by omega,zAX (by omega)];omega
   refine⟨_,e1,b2,j,by rw[ej];exact e2,_,e3,_,by rw[ew];exact zXx (by omega) (by omega),b2,j,by rw[ej];exact e2,h8,by rw[eo];exact e4,hs.on λtm' hs'=>⟨rfl,rfl,l.length-(i+1),by omega,i+1,v5,by omega,rfl,d8,?_⟩⟩
   rw[<-yQ (by omega)];exact hs'.sub (by kernel_rfl)
 ·have hi:i=l.length:=by omega
  subst hi;have gs:=d.gr.sl;rw[List.take_length]at gs;refine thenC.left (wpS.av hs' zYg rfl rfl (X8 (l:=zDC l) gs (Nat.succ_pos _) (hs'.on λtm2 hs2=>?_)));exact endW.r2 (hs2.get rfl) (hs2.get rfl) (hq h' (d.vw.ex0.mono (by omega)))
theorem zEi(l:List Int)(x:Int):cnt (l++[x])=cnt l+(if x≠0 then 1 else 0):=by
 rw[kq];by_cases c:x≠0
 ·rw[if_pos c];simp[cnt,c]
 ·rw[if_neg c];have:x=0:=by omega
  subst this;rfl
theorem zDN{tm:Tm}{a:Nat}{v:V}(ha:Nat.blt a 511=true):∀{l:Kn},Has tm l->(l.all λp=>!(Nat.beq p.1 a))=true->Has (Tb.set tm a v) l
 | [],_,_=>trivial
 | p::l,h,hk=>by
  rw[List.all_cons,oG]at hk;refine⟨?_,zDN ha h.2 hk.2⟩;rw[wD _ _ _ _ (show a<Tb.top from(zY _ _).1 ha),if_neg ?_]
  ·exact h.1
  ·intro e
   rw[e]at hk;simp at hk
theorem _root_.Go.Sim.Has.self{tm:Tm}{a:Nat}{v:V}(ha:Nat.blt a 511=true):zk (Tb.set tm a v) a=v:=by
 rw[wD _ _ _ _ (show a<Tb.top from(zY _ _).1 ha),if_pos rfl]
theorem _root_.Go.Sim.Vw.round{hb h:H}{c c' il lp df p1 p2:Nat}{L:List (Nat×O)}{tm:Tm}{asg body:Code}{x y:V}{l:Kn}(w:Vw S hb h c L)(hL:L[il]? = some (lp,.loop .ready none n tm #[p1,p2] asg body df))(hn:h.nx<=T.top)(ht:Has tm l)(hp:(Nat.blt p1 n && Nat.blt p2 n && Nat.blt p1 511 && Nat.blt p2 511 && !(Nat.beq p1 p2) && (l.all λp=>!(Nat.beq p.1 p1)) && (l.all λp=>!(Nat.beq p.1 p2)))=true)(ha:∀tm',Has tm' ((p1,x)::(p2,y)::l)->wpC P zA true (jB asg) ⟨n,tm',[],h⟩ λe s1=>e = .normal/\s1.n=n/\s1.dfr=[]/\s1.heap=h /\
   ∀h1,Vw S hb h1 c (L.set il (lp,.loop .busy none n tm #[p1,p2] asg body df))->h1.nx=h.nx->wpC P zA true (jB body) ⟨n,s1.tm,[],h1⟩ λe2 s2=>e2 = .normal/\s2.dfr=[]/\∃L',Vw S hb s2.heap c' L'/\s2.heap.nx<=T.top/\L'[il]? = some (lp,.loop .busy none n tm #[p1,p2] asg body df) /\
    ∀h',Vw S hb h' c' (L'.set il (lp,.loop .ready none n tm #[p1,p2] asg body df))->h'.nx=s2.heap.nx->(∀b,b≠lp->h'.get b=s2.heap.get b)->Q (.bool true) h'):RR P lp [x,y] h Q:=by
 simp only[oG,Bool.not_eq_true']at hp;obtain⟨⟨⟨⟨⟨⟨k1,k2⟩,k3⟩,k4⟩,k5⟩,k6⟩,k7⟩:=hp;have hl:lp<T.top:=oI (w.lt il hL) hn;have hs:wN (#[p1,p2]:Array Nat).toList [x,y] n tm=some (Tb.set (Tb.set tm p1 x) p2 y):=by
  show cond (Nat.blt p1 n) (cond (Nat.blt p2 n) (some (Tb.set (Tb.set tm p1 x) p2 y)) none) none=_;rw[k1,k2];rfl
 have ht':Has (Tb.set (Tb.set tm p1 x) p2 y) ((p1,x)::(p2,y)::l):=by
  refine⟨?_,Has.self k4,zDN k4 (zDN k3 ht k6) k7⟩;rw[wD _ _ _ _ (show p2<Tb.top from(zY _ _).1 k4),if_neg (λe=>?_)]
  ·exact Has.self k3
  ·have e:p1=p2:=e
   rw[e]at k5;simp at k5
 refine RR.intro hl (w.get il hL) hs (RC.of_wp kU asg (YF _ (λe s1 h1=>?_) (ha _ ht')));obtain⟨e1,n1,d1,hp1,hk⟩:=h1;obtain⟨sn,st,sd,sh⟩:=s1;simp only at n1 d1 hp1 hk;subst n1 d1 hp1;refine⟨e1,_,_,_,_,_,_,_,w.get il hL,RC.of_wp kU body (YF _ (λe s2 h2=>?_) (hk _ (w.upd il hL hn) rfl))⟩;obtain⟨rfl,d2,L',w2,t2,g2,hq⟩:=h2;have hl2:lp<T.top:=hl;show(match jo lp .normal s2 with|some (.ret v h')=>Q v h'|_=>False)
 simp only[jo,d2,w2.get il g2];exact hq _ (w2.upd il g2 t2) rfl λb hb=>zQ _ hl2 hb
theorem _root_.Go.Sim.Vw.range{hb:H}{c:Nat}{L:List (Nat×O)}{f:Go.Operand}{ps:Array Nat}{asg body:Code}{s:St}{Q:AX->St->Prop}{g:Nat}{captured:List V}(w:Vw S hb s.heap c L)(hf:yF s.tm f=some (.func (.func g) [] captured))(hn:s.heap.nx+2<=T.top)(hk:∀h1,Vw S hb h1 (c+2) ((s.heap.nx+1,.loop .ready none s.n s.tm ps asg body s.heap.nx)::(s.heap.nx,.deferred true)::L)->h1.nx=s.heap.nx+2 ->
   RF P zA g (.yield (s.heap.nx+1)::captured) h1 λ_ h3=>∃c' L',Vw S hb h3 c' ((s.heap.nx+1,.loop .ready none s.n s.tm ps asg body s.heap.nx)::L')/\h3.nx<=T.top /\
    ∀h4 o,Vw S hb h4 c' ((s.heap.nx+1,o)::L')->h4.nx=h3.nx->(∀b,b≠s.heap.nx+1->h4.get b=h3.get b)->Q .normal ⟨s.n,s.tm,.coll s.heap.nx::s.dfr,h4⟩):RC P false (.rangeFunc f ps asg body) s Q:=by
 refine RC.rangeFunc kU hf (by omega) ?_;have w1:=w.new (h':=s.heap.new (.deferred true)) rfl (by omega);have n1:(s.heap.new (.deferred true)).nx=s.heap.nx+1:=zH _ _;have w2:=w1.new (h':=(s.heap.new (.deferred true)).new (.loop .ready none s.n s.tm ps asg body s.heap.nx)) rfl (by omega);rw[n1]at w2;have n2:((s.heap.new (.deferred true)).new (.loop .ready none s.n s.tm ps asg body s.heap.nx)).nx=s.heap.nx+2:=by rw[zH,n1]
 refine RF.mono (hk _ w2 n2) ?_;rintro v h3 ⟨c',L',w3,t3,hq⟩;have hl:s.heap.nx+1<T.top:=oI (w3.lt 0 rfl) t3;simp only[qj,w3.get 0 rfl];exact hq _ _ (w3.upd 0 rfl t3) rfl λb hb=>zQ _ hl hb
theorem _root_.Go.Sim.Vw.ends{hb h:H}{c i d:Nat}{L:List (Nat×O)}(w:Vw S hb h c L)(hL:L[i]? = some (d,.deferred true))(hn:h.nx<=T.top){k:H->Prop}(hk:∀h',Vw S hb h' c (L.set i (d,.deferred false))->h'.nx=h.nx->(∀b,b≠d->h'.get b=h.get b)->k h'):wpD [.coll d] h k:=by
 have hd:d<T.top:=oI (w.lt i hL) hn;simp only[wpD,w.get i hL];exact hk _ (w.upd i hL hn) rfl λb hb=>zQ _ hd hb
structure GC (l:List Int):Prop where
 len:l.length<=256
 rng:∀x∈l,0<=x/\x<=1000
def yo(l:List Int):Nat:=(l.map Int.toNat).sum
theorem zKw(l:List Int)(x:Int):yo (l++[x])=yo l+x.toNat:=by simp[yo]
theorem zRv{l:List Int}(g:∀x∈l,0<=x/\x<=1000):yo l<=1000*l.length:=by
 induction l with
 | nil=>simp[yo]
 | cons x l ih =>
  have h1:=g x (by simp);have h2:=ih λy hy=>g y (by simp[hy])
  have:yo (x::l)=x.toNat+yo l:=by simp[yo]
  rw[this,oV];omega
theorem GC.take(g:GC l)(i:Nat):∀x∈l.take i,0<=x/\x<=1000:=λx hx=>g.rng x (List.mem_of_mem_take hx)
theorem GC.at(g:GC l){i:Nat}(hi:i<l.length):0<=l[i]/\l[i]<=1000:=g.rng _ (oS hi)
theorem GC.sum(g:GC l)(i:Nat):yo (l.take i)<=256000:=by
 have:=zRv (g.take i);have:=g.len;rw[List.length_take]at *;omega
theorem zPx{v:V}{l:List Int}(sl:Sl h v 1 l.length (zJ l))(g:GC l)(hq:Q (.tuple [.int .i64 (yo l:Nat),.bool true]) h):RF P zA 234 [v] h Q:=by
 have hl:=g.len;refine yK z09 rfl rfl z2j ⟨_,sl.len zP rfl,Has.nil.on λtm hs=>?_⟩
 refine wpC.round (λk tm h'=>∃i:Nat,i<=l.length/\k=l.length-i/\h'=h/\Has tm [(8,.int .i64 i),(7,.int .i64 l.length),(6,v),(2,.int .i64 (yo (l.take i):Nat)),(3,.bool false)]) l.length ⟨0,by omega,by omega,rfl,hs.sub (by kernel_rfl)⟩ ?_
 clear hs;rintro k tm h' ⟨i,h1,rfl,rfl,hs⟩;refine wpC.av hs zTH rfl rfl ⟨λc=>?_,λc=>hs.on λtm' hs'=>?_⟩
 ·have hi:i<l.length:=by omega
  obtain⟨b,o,e1,e2⟩:=yj sl hi;have hr:=g.at hi;have hb:=g.sum i;have ht:=xY hi;generalize l[i]=x at e2 hr ht;have ew:zG (((yo (l.take i):Nat):Int)+x)=((yo (l.take (i+1)):Nat):Int):=by
   rw[zD (by omega) (by omega),ht,zKw];omega
  refine⟨b,o,e1,x,e2,λc2=>by omega,λc2=>⟨λc3=>by omega,λc3=>⟨λc4=>?_,λc4=>hs.on λtm' hs'=>?_⟩⟩⟩
  ·rw[zD (by omega) (by omega)]at c4;omega
  ·refine wpS.av hs' zUG rfl rfl (hs'.on λtm2 hs2=>?_)
   refine thenC.nx (wpS.av hs2 zUH rfl rfl (hs2.on λtm3 hs3=>hs3.slt λtm4 hs4=>⟨rfl,rfl,l.length-(i+1),by omega,i+1,by omega,rfl,rfl,?_⟩))
   rw[<-yQ (by omega),<-ew];exact hs4.sub (by kernel_rfl)
 ·have hi:i=l.length:=by omega
  subst hi;rw[List.take_length]at hs';refine thenC.left (wpS.av hs' zUI rfl rfl (hs'.on λtm2 hs2=>?_));exact endW.r2 (hs2.get rfl) (hs2.get rfl) hq
theorem YM{v:V}(sl:Sl h v 1 l.length (zJ l))(g:GC l)(hq:Q (.int .i64 0) h):RF P zA 169 [v] h Q:=by
 have hl:=g.len;exact yK z0P rfl rfl z2Y ⟨_,sl.len zP rfl,λc=>by omega,λc=>zPx sl g ⟨_,true,rfl,λ_=>hq,λq=>(by cases q)⟩⟩
theorem zLg{v:V}(sl:Sl h v 1 l.length (zJ l))(g:GC l)(hq:Q (.tuple [.int .i64 (yo l:Nat),.int .i64 0]) h):RF P zA 284 [v] h Q :=
 yK z1G rfl rfl z3P (YM sl g ⟨_,rfl,λq=>absurd rfl q,λ_=>zPx sl g ⟨_,true,rfl,λ_=>hq,λq=>(by cases q)⟩⟩)
theorem zFg{l:List Int}{v:V}{lp pc:Nat}(I:Nat->H->Prop)(hl:l.length<=1000)(h0:I 0 h)(hpc:zK zA 23 h (.ptr pc 0)=some v)(hsl:∀i h',I i h'->Sl h' v 1 l.length (zJ l))(hskip:∀i h' (hi:i<l.length),¬0<l[i]->I i h'->I (i+1) h')(hstep:∀i h' (hi:i<l.length),0<l[i]->I i h'->RR P lp [.int .i64 i,.int .i64 l[i]] h' λr h2=>r = .bool true/\I (i+1) h2)(hq:∀h',I l.length h'->Q (.tuple []) h'):RF P zA 235 [.yield lp,.ptr pc 0] h Q:=by
 refine yK z0a rfl rfl z2k ⟨v,hpc,_,(hsl 0 h h0).len zP rfl,Has.nil.on λtm hs=>?_⟩
 refine wpC.round (λk tm h'=>∃i:Nat,i<=l.length/\k=l.length-i/\I i h'/\Has tm [(7,.int .i64 i),(6,.int .i64 l.length),(5,v),(0,.yield lp)]) l.length ⟨0,by omega,by omega,h0,hs.sub (by kernel_rfl)⟩ ?_
 clear hs;rintro k tm h' ⟨i,h1,rfl,ii,hs⟩;refine wpC.av hs zTI rfl rfl ⟨λc=>?_,λc=>hs.on λtm' hs'=>?_⟩
 ·have hi:i<l.length:=by omega
  obtain⟨b,o,e1,e2⟩:=yj (hsl i h' ii) hi;refine⟨b,o,e1,_,e2,λc2=>?_,λc2=>hs.on λtm' hs'=>⟨rfl,rfl,l.length-(i+1),by omega,i+1,by omega,rfl,hskip i h' hi c2 ii,?_⟩⟩
  ·show RR P lp [.int .i64 (i:Nat),.int .i64 l[i]] h' _
   refine RR.mono (hstep i h' hi c2 ii) ?_;rintro r h2 ⟨rfl,i2⟩;refine zGH (Xu (hs.on λtm' hs'=>⟨rfl,rfl,l.length-(i+1),by omega,i+1,by omega,rfl,i2,?_⟩))
   rw[<-yQ (by omega)];exact hs'.sub (by kernel_rfl)
  ·rw[<-yQ (by omega)]
   exact hs'.sub (by kernel_rfl)
 ·have hi:i=l.length:=by omega
  subst hi;show endW zA ⟨22,[],zKK⟩ Q (ze 0 (.exit 0)) _;rw[xG];exact hq h' ii
theorem zHc{l:List Int}{v:V}{lp pc:Nat}(I:Nat->H->Prop)(hl:l.length<=1000)(h0:I 0 h)(hpc:zK zA 23 h (.ptr pc 0)=some v)(hsl:∀i h',I i h'->Sl h' v 1 l.length (zJ l))(hskip:∀i h' (hi:i<l.length),¬0<l[i]->I i h'->I (i+1) h')(hstep:∀i h' (hi:i<l.length),0<l[i]->I i h'->RR P lp [.int .i64 i,.int .i64 l[i]] h' λr h2=>r = .bool true/\I (i+1) h2)(hq:∀h',I l.length h'->Q (.tuple []) h'):RF P zA 285 [.yield lp,.ptr pc 0] h Q:=by
 refine yK z1H rfl rfl z3Q ⟨v,hpc,_,(hsl 0 h h0).len zP rfl,Has.nil.on λtm hs=>?_⟩
 refine wpC.round (λk tm h'=>∃i:Nat,i<=l.length/\k=l.length-i/\I i h'/\Has tm [(7,.int .i64 i),(6,.int .i64 l.length),(5,v),(0,.yield lp)]) l.length ⟨0,by omega,by omega,h0,hs.sub (by kernel_rfl)⟩ ?_
 clear hs;rintro k tm h' ⟨i,h1,rfl,ii,hs⟩;refine wpC.av hs zTS rfl rfl ⟨λc=>?_,λc=>hs.on λtm' hs'=>?_⟩
 ·have hi:i<l.length:=by omega
  obtain⟨b,o,e1,e2⟩:=yj (hsl i h' ii) hi;refine⟨b,o,e1,_,e2,λc2=>?_,λc2=>hs.on λtm' hs'=>⟨rfl,rfl,l.length-(i+1),by omega,i+1,by omega,rfl,hskip i h' hi c2 ii,?_⟩⟩
  ·show RR P lp [.int .i64 (i:Nat),.int .i64 l[i]] h' _
   refine RR.mono (hstep i h' hi c2 ii) ?_;rintro r h2 ⟨rfl,i2⟩;refine zGH (Xu (hs.on λtm' hs'=>⟨rfl,rfl,l.length-(i+1),by omega,i+1,by omega,rfl,i2,?_⟩))
   rw[<-yQ (by omega)];exact hs'.sub (by kernel_rfl)
  ·rw[<-yQ (by omega)]
   exact hs'.sub (by kernel_rfl)
 ·have hi:i=l.length:=by omega
  subst hi;show endW zA ⟨22,[],zKO⟩ Q (ze 0 (.exit 0)) _;rw[xG];exact hq h' ii
theorem zDW{v:V}{k:Nat}{xs:List V}(s:Sl h v k n xs):V.one v=true:=by
 have:=s.one1.2;simpa [zL]using this
theorem GC.cnt1(g:GC l){i:Nat}(hi:i<l.length)(h0:¬0<l[i]):cnt (l.take (i+1))=cnt (l.take i):=by
 have:=g.at hi;rw[xY hi,zEi,if_neg (by omega)];rfl
theorem GC.cnt2{i:Nat}(hi:i<l.length)(h0:0<l[i]):cnt (l.take (i+1))=cnt (l.take i)+1:=by
 rw[xY hi,zEi,if_pos (by omega)]
theorem Zb{v:V}{l:List Int}{h:H}{Q:V->H->Prop}(sl:Sl h v 1 l.length (zJ l))(g:GC l)(hq:Q (.tuple [.int .i64 (cnt l:Nat),.int .i64 0]) h):RF P zA 101 [v] h Q:=by
 show RF P zA 101 ((λv=>[]++v::[]) v) h Q;refine RF.ro (One.list (λa ha=>by cases ha) (λa ha=>by cases ha)) sl (XO l) (zm rfl) (λv0 h0 s0 hn0 hl0=>?_) hq;clear sl hq h Q v;have ht:=zt;have hlen:=g.len;show RF P zA 101 [v0] h0 _;refine yK z0A rfl rfl z2J (YM s0 g ⟨_,rfl,λq=>absurd rfl q,λ_=>⟨rfl,by omega,?_⟩⟩);rintro p3 h4 rfl e4;have w4:=(Vw.nil (S:=zS) (h:=h0)).new e4 (by omega);have t4:=w4.top;obtain⟨h5,e5,w5,n5,_⟩:=w4.st (cx:=zA) 0 (t:=3) (f:=0) (u:=.int .i64 0) rfl (by omega) zd rfl (oJ _) rfl rfl;have t5:=w5.top;refine⟨h5,e5,yK zVN rfl rfl zVw ⟨zDW s0,by omega,?_⟩⟩;rintro p6 h6 rfl e6;have w6:=w5.new e6 (by omega);have t6:=w6.top;refine⟨_,rfl,Has.nil.on λtm hs=>?_⟩
 refine Vw.range (s:=⟨_,tm,[],h6⟩) w6 (captured:=[.ptr h5.nx 0]) (show yF tm (t 12)=_ from congrArg some (hs.get rfl)) (by show h6.nx+2<=_;omega) λh7 w7 n7=>?_
 refine zFg (l:=l) (v:=v0) (λi h'=>Vw zS h0 h' 4 [(h6.nx+1,.loop .ready none 18 tm #[13,14] zMI zNI h6.nx),(h6.nx,.deferred true),(h5.nx,.cells (.ls [v0]) ⟨0,24,0⟩ true false),(h0.nx,.cells (.ls [.int .i64 (cnt (l.take i):Nat)]) ⟨0,3+1,0⟩ true false)]) (by omega) w7 (w7.ld1 2 rfl zP rfl rfl) (λi h' w=>s0.ext w.ex0) (λi h' hi c w=>by rw[g.cnt1 hi c];exact w) (λi h' hi c w=>?_) λh8 w8=>?_
 ·have tw:=w.top
  have hc:=J6 (l.take i);rw[List.length_take]at hc;refine w.round (il:=0) (c':=4) rfl (by omega) (hs.sub (l':=[(5,.ptr h0.nx 0)]) (by kernel_rfl)) rfl λtm0 hs0=>?_
  refine wpC.av hs0 zSl rfl rfl (hs0.on λtm1 hs1=>⟨rfl,rfl,rfl,rfl,λh1 w1 n1=>?_⟩);obtain⟨h2,e2,w2,n2,_⟩:=w1.st (cx:=zA) 3 (t:=3) (f:=0) (u:=.int .i64 (zG ((cnt (l.take i):Nat)+1))) rfl (by omega) zd rfl (oJ _) rfl rfl;refine wpC.av hs1 zSq rfl rfl ⟨_,w1.ld1 3 rfl zd rfl rfl,h2,e2,hs1.on λtm2 hs2=>⟨rfl,rfl,_,w2,by show h2.nx<=_;omega,rfl,λh3 w3 n3 _=>⟨rfl,?_⟩⟩⟩
  rw[GC.cnt2 hi c,<-yQ (by omega)];exact w3
 ·have t8:=w8.top
  rw[List.take_length]at w8;refine⟨4,_,w8,by omega,λh9 o w9 n9 _=>?_⟩
  show zJt false zHe ⟨18,tm,[.coll h6.nx],h9⟩ (endW zA ⟨18,[.tmp 2,.tmp 3],zCo⟩ _);refine wpS.av hs zTd rfl rfl ⟨_,w9.ld1 3 rfl zd rfl rfl,hs.on λtm2 hs2=>?_⟩
  show wpD [.coll h6.nx] h9 _;refine w9.ends (i:=1) rfl (by omega) λh10 w10 n10 _=>?_
  show V.tuple [zk tm2 2,zk tm2 3]=_;rw[hs2.get (t:=2) rfl,hs2.get (t:=3) rfl]
def kA(l:List Int):Nat->Int
 | 0=>-1
 | n+1=>if 0<l[n]?.getD 0 then n else kA l n
theorem XI{i:Nat}(hi:i<l.length):kA l (i+1)=if 0<l[i] then (i:Int) else kA l i:=by
 show(if 0<l[i]?.getD 0 then (i:Int) else kA l i)=_;rw[oO hi];rfl
theorem Je(g:GC l):∀n,n<=l.length->(0<=kA l n↔cnt (l.take n)≠0)
 | 0,_=>by simp[kA,cnt]
 | n+1,h=>by
  have ih:=Je g n (by omega);rw[XI (by omega)];by_cases c:0<l[n]
  ·rw[if_pos c,GC.cnt2 (by omega) c];omega
  ·rw[if_neg c,g.cnt1 (by omega) c];exact ih
theorem zRx{v:V}{l:List Int}{h:H}{Q:V->H->Prop}(sl:Sl h v 1 l.length (zJ l))(g:GC l)(hc:cnt l≠0)(hq:Q (.tuple [.int .i64 (kA l l.length),.int .i64 0]) h):RF P zA 237 [v] h Q:=by
 show RF P zA 237 ((λv=>[]++v::[]) v) h Q;refine RF.ro (One.list (λa ha=>by cases ha) (λa ha=>by cases ha)) sl (XO l) (zm rfl) (λv0 h0 s0 hn0 hl0=>?_) hq;clear sl hq h Q v;have ht:=zt;have hlen:=g.len;have hlp:=(Je g l.length (oP _)).2 (by rw[List.take_length];exact hc);show RF P zA 237 [v0] h0 _;refine yK z0c rfl rfl z2m (YM s0 g ⟨_,rfl,λq=>absurd rfl q,λ_=>⟨rfl,by omega,?_⟩⟩);rintro p3 h4 rfl e4;have w4:=(Vw.nil (S:=zS) (h:=h0)).new e4 (by omega);have t4:=w4.top;obtain⟨h5,e5,w5,n5,_⟩:=w4.st (cx:=zA) 0 (t:=3) (f:=0) (u:=.int .i64 (-1)) rfl (by omega) zd rfl (oJ _) rfl rfl;have t5:=w5.top;refine⟨h5,e5,yK zVN rfl rfl zVw ⟨zDW s0,by omega,?_⟩⟩;rintro p6 h6 rfl e6;have w6:=w5.new e6 (by omega);have t6:=w6.top;refine⟨_,rfl,Has.nil.on λtm hs=>?_⟩
 refine Vw.range (s:=⟨_,tm,[],h6⟩) w6 (captured:=[.ptr h5.nx 0]) (show yF tm (t 13)=_ from congrArg some (hs.get rfl)) (by show h6.nx+2<=_;omega) λh7 w7 n7=>?_
 refine zFg (l:=l) (v:=v0) (λi h'=>Vw zS h0 h' 4 [(h6.nx+1,.loop .ready none 20 tm #[14,15] zMK zNK h6.nx),(h6.nx,.deferred true),(h5.nx,.cells (.ls [v0]) ⟨0,24,0⟩ true false),(h0.nx,.cells (.ls [.int .i64 (kA l i)]) ⟨0,3+1,0⟩ true false)]) (by omega) w7 (w7.ld1 2 rfl zP rfl rfl) (λi h' w=>s0.ext w.ex0) (λi h' hi c w=>by rw[XI hi,if_neg c];exact w) (λi h' hi c w=>?_) λh8 w8=>?_
 ·have tw:=w.top
  refine w.round (il:=0) (c':=4) rfl (by omega) (hs.sub (l':=[(5,.ptr h0.nx 0)]) (by kernel_rfl)) rfl λtm0 hs0=>?_
  refine wpC.av hs0 zSo rfl rfl (hs0.on λtm1 hs1=>⟨rfl,rfl,rfl,rfl,λh1 w1 n1=>?_⟩);obtain⟨h2,e2,w2,n2,_⟩:=w1.st (cx:=zA) 3 (t:=3) (f:=0) (u:=.int .i64 (i:Nat)) rfl (by omega) zd rfl (oJ _) rfl rfl;refine wpC.av hs1 zSt rfl rfl ⟨h2,e2,hs1.on λtm2 hs2=>⟨rfl,rfl,_,w2,by show h2.nx<=_;omega,rfl,λh3 w3 n3 _=>⟨rfl,?_⟩⟩⟩
  rw[XI hi,if_pos c];exact w3
 ·have t8:=w8.top
  refine⟨4,_,w8,by omega,λh9 o w9 n9 _=>?_⟩
  show zJu false zHi ⟨20,tm,[.coll h6.nx],h9⟩ (endW zA ⟨20,[.tmp 2,.tmp 3],zCp⟩ _);refine wpS.av hs zUJ rfl rfl ⟨_,w9.ld1 3 rfl zd rfl rfl,λq=>by omega,λ_=>⟨_,w9.ld1 3 rfl zd rfl rfl,hs.on λtm2 hs2=>?_⟩⟩
  show wpD [.coll h6.nx] h9 _;refine w9.ends (i:=1) rfl (by omega) λh10 w10 n10 _=>?_
  show V.tuple [zk tm2 2,zk tm2 3]=_;rw[hs2.get (t:=2) rfl,hs2.get (t:=3) rfl]
theorem On{v:V}(sl:Sl h v 1 l.length (zJ l))(g:GC l)(hc:cnt l≠0)(hq:Q (.tuple [.int .i64 (yo l:Nat),.int .i64 (cnt l:Nat),.int .i64 0]) h):RF P zA 236 [v] h Q :=
 yK z0b rfl rfl z2l (zLg sl g ⟨_,_,rfl,λq=>absurd rfl q,λ_=>Zb sl g ⟨_,_,rfl,λq=>absurd (by omega) hc,λ_=>hq⟩⟩)
theorem zXo{v:V}(sl:Sl h v 1 l.length (zJ l))(g:GC l)(hc:cnt l≠0)(h12:cnt l<=12)(hs:yo l<=255)(hq:Q (.tuple [.int .i64 5,.int .i64 0]) h):RF P zA 171 [v,.int .i64 6] h Q:=by
 refine yK z0Q rfl rfl z2Z (On sl g hc ⟨_,_,_,rfl,λq=>absurd rfl q,λ_=>⟨λq=>absurd q (by decide),λ_=>⟨λq=>absurd q (by decide),λ_=>Has.nil.on λtm hs=>?_⟩⟩⟩)
 refine wpS.av hs zTn rfl rfl ?_;refine⟨((1*2^6:Nat):Int),yH (a:=1) (n:=6) (by decide) (by decide),λq=>by omega,λ_=>hs.on λtm2 hs2=>?_⟩
 refine thenC.nx (hs2.sealK λtm3 hs3=>?_);have hb:zO (cnt l)<=5:=zw (by omega);refine wpS.av hs3 zTo rfl rfl (OE (by omega) ⟨_,rfl,λc=>?_,λc=>hs3.on λtm4 hs4=>?_⟩)
 ·have h8:zO (yo l-1)<=8:=zw (by omega)
  have e1:zG (((yo l:Nat):Int)-1)=((yo l-1:Nat):Int):=by rw[zD (by omega) (by omega)];omega
  have e2:=jj (yo l-1);rw[e1];refine zDO (by omega) ⟨_,rfl,hs3.on λtm4 hs4=>?_⟩
  refine wpS.av hs4 zJf rfl rfl (hs4.on λtm5 hs5=>hs5.slt λtm7 hs7=>?_);have e3:min (6:Int) (max (max 5 (hi ((cnt l:Nat):Int)+1)) (zG (hi ((yo l-1:Nat):Int)-2)))=5:=by
   rw[jj,zD (by omega) (by omega)];omega
  rw[e3]at hs7;exact endW.r2 (hs7.get rfl) (hs7.get rfl) hq
 ·refine wpS.av hs4 zJf rfl rfl (hs4.on λtm5 hs5=>hs5.slt λtm7 hs7=>?_)
  have e3:min (6:Int) (max 5 (hi ((cnt l:Nat):Int)+1))=5:=by rw[jj];omega
  rw[e3]at hs7;exact endW.r2 (hs7.get rfl) (hs7.get rfl) hq
open Go (Oper)
section
variable {c:Ctx}
theorem yf{o:Oper}{l:List Oper}{bs:List Nat}{r k t:Nat}{tm:Tm}{h:H}{v:V}{vals:List V}{res:List Qy×St}(hg:o.guard=none)(ha:zh c o (yF tm) (zM h)=some (.val v (zM h)))(hd:o.dst=some t)(ht:Nat.blt t n=true)(hn:h.nx<=T.top)(hl:h.low<=T.top)(e:wT c ops bs m r (k+1) l ⟨n,Tb.set tm t v,d,h⟩ vals=some res):wT c ops bs m (r+1) k (o::l) ⟨n,tm,d,h⟩ vals=some res:=by
 have hw:zU ops tm o=true:=by unfold zU;rw[hg]
 have hst:Go.Sim.stepG c o ⟨n,tm,d,zM h⟩ vals=some ([],⟨n,Tb.set tm t v,d,zM h⟩,vals):=by
  unfold Go.Sim.stepG;simp only[ha];unfold yY;simp only[hd,ht,oK]
 show cond (zU ops tm o) (match Go.Sim.stepG c o ⟨n,tm,d,zM h⟩ vals with|some (qs,s',vals')=>_|none=>none) _=_
 rw[hw,oK,hst];show cond (Nat.ble h.nx T.top || _) (cond (xI d d) (match wT c ops bs m r (k+1) l ⟨n,Tb.set tm t v,d,yL h (zM h)⟩ vals with|some (qs2,s2)=>some ([]++qs2,s2)|none=>none) none) none=_
 rw[oC hn,Bool.true_or,oK,xJ,oK,Xo hl,e];rfl
theorem Oy{o:Oper}{l:List Oper}{bs:List Nat}{r k t:Nat}{tm:Tm}{h:H}{v:V}{f:Nat}{args vals:List V}{qs:List Qy}{s':St}(hg:o.guard=none)(ha:zh c o (yF tm) (zM h)=some (.call f args))(hd:o.dst=some t)(ht:Nat.blt t n=true)(hn:h.nx<=T.top)(hl:h.low<=T.top)(e:wT c ops bs m r (k+1) l ⟨n,Tb.set tm t v,d,h⟩ vals=some (qs,s')):wT c ops bs m (r+1) k (o::l) ⟨n,tm,d,h⟩ (v::vals)=some (((f,args),(zM h,v))::qs,s'):=by
 have hw:zU ops tm o=true:=by unfold zU;rw[hg]
 have hst:Go.Sim.stepG c o ⟨n,tm,d,zM h⟩ (v::vals)=some ([((f,args),(zM h,v))],⟨n,Tb.set tm t v,d,zM h⟩,vals):=by
  unfold Go.Sim.stepG;simp only[ha];unfold yY;simp only[hd,ht,oK]
 show cond (zU ops tm o) (match Go.Sim.stepG c o ⟨n,tm,d,zM h⟩ (v::vals)with|some (qs,s',vals')=>_|none=>none) _=_
 rw[hw,oK,hst];show cond (Nat.ble h.nx T.top || _) (cond (xI d d) (match wT c ops bs m r (k+1) l ⟨n,Tb.set tm t v,d,yL h (zM h)⟩ vals with|some (qs2,s2)=>some ([((f,args),(zM h,v))]++qs2,s2)|none=>none) none) none=_
 rw[oC hn,Bool.true_or,oK,xJ,oK,Xo hl,e];rfl
theorem zFi{o:Oper}{l:List Oper}{t:Nat}{tm:Tm}{h:H}{v:V}{vals:List V}{res:List Qy×St}(hg:o.guard=none)(ha:zh c o (yF tm) h=some (.val v h))(hd:o.dst=some t)(ht:Nat.blt t n=true)(e:Xx c ops l ⟨n,Tb.set tm t v,d,h⟩ vals=some res):Xx c ops (o::l) ⟨n,tm,d,h⟩ vals=some res:=by
 have hw:zU ops tm o=true:=by unfold zU;rw[hg]
 have hst:Go.Sim.stepG c o ⟨n,tm,d,h⟩ vals=some ([],⟨n,Tb.set tm t v,d,h⟩,vals):=by
  unfold Go.Sim.stepG;simp only[ha];unfold yY;simp only[hd,ht,oK]
 show cond (zU ops tm o) (match Go.Sim.stepG c o ⟨n,tm,d,h⟩ vals with|some (qs,s',vals')=>(match Xx c ops l s' vals' with|some (qs2,s2)=>some (qs++qs2,s2)|none=>none)|none=>none) _=_
 rw[hw,oK,hst];simp only[e,List.nil_append]
theorem Jg{o:Oper}{l:List Oper}{t:Nat}{tm:Tm}{h:H}{v:V}{f:Nat}{args vals:List V}{qs:List Qy}{s':St}(hg:o.guard=none)(ha:zh c o (yF tm) h=some (.call f args))(hd:o.dst=some t)(ht:Nat.blt t n=true)(e:Xx c ops l ⟨n,Tb.set tm t v,d,h⟩ vals=some (qs,s')):Xx c ops (o::l) ⟨n,tm,d,h⟩ (v::vals)=some (((f,args),(h,v))::qs,s'):=by
 have hw:zU ops tm o=true:=by unfold zU;rw[hg]
 have hst:Go.Sim.stepG c o ⟨n,tm,d,h⟩ (v::vals)=some ([((f,args),(h,v))],⟨n,Tb.set tm t v,d,h⟩,vals):=by
  unfold Go.Sim.stepG;simp only[ha];unfold yY;simp only[hd,ht,oK]
 show cond (zU ops tm o) (match Go.Sim.stepG c o ⟨n,tm,d,h⟩ (v::vals)with|some (qs,s',vals')=>(match Xx c ops l s' vals' with|some (qs2,s2)=>some (qs++qs2,s2)|none=>none)|none=>none) _=_
 rw[hw,oK,hst];simp only[e,List.cons_append,List.nil_append]
theorem zBq{l:List Oper}{bs:List Nat}{k:Nat}{s:St}{vals:List V}{res:List Qy×St}(e:Xx c ops l s vals=some res):wT c ops bs m 0 k l s vals=some res:=by
 cases l with
 | nil=>exact e
 | cons o l=>exact e
end
def zDZ:List Oper:=z6g.toList
def oN(i:Nat):Oper:=(zDZ[i]?).getD default
theorem zSK:zDZ=[oN 0,oN 1,oN 2,oN 3,oN 4,oN 5,oN 6,oN 7,oN 8,oN 9]:=by kernel_rfl
theorem okN:yb zDZ=some 8:=by kernel_rfl
abbrev Yd:V:=.func (.func 241) [] []
section
variable (tm:Tm) (v:V) (b:Int) (x y i:Int) (p q o:Nat)
abbrev TN:Tm:=Tb.set (Tb.set (Tb.set (Tb.set (Tb.set (Tb.set (yu (yu tm [(0,v),(1,Yd),(5,.int .i64 b)]) [(10,(.int .i64 i)),(9,(.int .i64 y)),(8,v)]) 11 (.bool true)) 12 (.int .i64 i)) 13 (.ptr p o)) 14 (.int .i64 x)) 6 (.int .i64 i)) 7 (.int .i64 x)
def TN0:Tm:=TN tm v b x y i p o
def TN1:Tm:=Tb.set (TN0 tm v b x y i p o) 15 Yd
def TN2:Tm:=Tb.set (TN1 tm v b x y i p o) 16 (.int .i64 x)
def TN3:Tm:=Tb.set (TN2 tm v b x y i p o) 17 (.int .i64 x)
def TN4:Tm:=Tb.set (TN3 tm v b x y i p o) 18 Yd
def TN5:Tm:=Tb.set (TN4 tm v b x y i p o) 19 v
def TN6:Tm:=Tb.set (TN5 tm v b x y i p o) 20 (.int .i64 b)
def TN7(a:V):Tm:=Tb.set (TN6 tm v b x y i p o) 21 a
def TN8(a:V)(z:Int):Tm:=Tb.set (TN7 tm v b x y i p o a) 22 (.int .i64 z)
def TN9(a:V)(z:Int):Tm:=Tb.set (TN8 tm v b x y i p o a z) 23 (.int .i64 z)
def TNX(a:V)(z:Int):Tm:=Tb.set (TN9 tm v b x y i p o a z) 24 (.bool (JU z x))
variable (h:H) (a:V) (z:Int)
theorem aN0:zh zA (oN 0) (yF (TN0 tm v b x y i p o)) h=some (.val Yd h):=by kernel_rfl
theorem aN1:zh zA (oN 1) (yF (TN1 tm v b x y i p o)) h=some (.val (.int .i64 x) h):=by kernel_rfl
theorem aN2:zh zA (oN 2) (yF (TN2 tm v b x y i p o)) h=some (.call 241 [.int .i64 x]):=by kernel_rfl
theorem aN3:zh zA (oN 3) (yF (TN3 tm v b x y i p o)) h=some (.val Yd h):=by kernel_rfl
theorem aN4:zh zA (oN 4) (yF (TN4 tm v b x y i p o)) h=some (.val v h):=by kernel_rfl
theorem aN5:zh zA (oN 5) (yF (TN5 tm v b x y i p o)) h=some (.val (.int .i64 b) h):=by kernel_rfl
theorem eN6:(oN 6).op = .indexAddr 23 (t 19) (t 20)/\yF (TN6 tm v b x y i p o) (t 19)=some v/\yF (TN6 tm v b x y i p o) (t 20)=some (.int .i64 b):=⟨by kernel_rfl,by kernel_rfl,by kernel_rfl⟩
theorem eN7:(oN 7).op = .load 3 (t 21)/\yF (TN7 tm v b x y i p o a) (t 21)=some a:=⟨by kernel_rfl,by kernel_rfl⟩
theorem aN8:zh zA (oN 8) (yF (TN8 tm v b x y i p o a z)) h=some (.call 241 [.int .i64 z]):=by kernel_rfl
theorem aN9:zh zA (oN 9) (yF (TN9 tm v b x y i p o a z)) h=some (.val (.bool (JU z x)) h):=by kernel_rfl
theorem gN:zk (TNX tm v b x y i p o a z) 24 = .bool (JU z x)/\zk (TNX tm v b x y i p o a z) 6 = .int .i64 i/\zk (TNX tm v b x y i p o a z) 10 = .int .i64 i/\zk (TNX tm v b x y i p o a z) 9 = .int .i64 y/\zk (TNX tm v b x y i p o a z) 8=v/\zk (TNX tm v b x y i p o a z) 5 = .int .i64 b/\zk (TNX tm v b x y i p o a z) 1=Yd/\zk (TNX tm v b x y i p o a z) 0=v :=
 ⟨by kernel_rfl,by kernel_rfl,by kernel_rfl,by kernel_rfl,by kernel_rfl,by kernel_rfl,by kernel_rfl,by kernel_rfl⟩
end
theorem dN:(oN 0).dst=some 15/\(oN 1).dst=some 16/\(oN 2).dst=some 17/\(oN 3).dst=some 18/\(oN 4).dst=some 19/\(oN 5).dst=some 20/\(oN 6).dst=some 21/\(oN 7).dst=some 22/\(oN 8).dst=some 23/\(oN 9).dst=some 24 :=
 ⟨by kernel_rfl,by kernel_rfl,by kernel_rfl,by kernel_rfl,by kernel_rfl,by kernel_rfl,by kernel_rfl,by kernel_rfl,by kernel_rfl,by kernel_rfl⟩
theorem guN:(oN 0).guard=none/\(oN 1).guard=none/\(oN 2).guard=none/\(oN 3).guard=none/\(oN 4).guard=none/\(oN 5).guard=none/\(oN 6).guard=none/\(oN 7).guard=none/\(oN 8).guard=none/\(oN 9).guard=none :=
 ⟨by kernel_rfl,by kernel_rfl,by kernel_rfl,by kernel_rfl,by kernel_rfl,by kernel_rfl,by kernel_rfl,by kernel_rfl,by kernel_rfl,by kernel_rfl⟩
theorem z4S{x:Int}:RF P zA 241 [.int .i64 x] h λv' h'=>v' = .int .i64 x/\h'=h :=
 yK z0g rfl rfl z2p ⟨rfl,rfl⟩
theorem zXd{tm:Tm}{v:V}{b x y i z:Int}{p o pb ob:Nat}{d:List AD}{Q:AX->St->Prop}(hs:Has tm [(0,v),(1,Yd),(5,.int .i64 b)])(hn:h.nx<=T.top)(hl:h.low<=T.top)(e1:z8 zA 23 v (.int .i64 b)=some (.ptr pb ob))(e2:zK zA 3 h (.ptr pb ob)=some (.int .i64 z))(hq:∀tm',Has tm' [(24,.bool (JU z x)),(6,.int .i64 i),(10,.int .i64 i),(9,.int .i64 y),(8,v),(5,.int .i64 b),(1,Yd),(0,v)]->Q .normal ⟨28,tm',d,h⟩):
  wpDr P zA false z6g.toList ⟨28,Tb.set (Tb.set (Tb.set (Tb.set (Tb.set (Tb.set (yu tm [(10,(.int .i64 i)),(9,(.int .i64 y)),(8,v)]) 11 (.bool true)) 12 (.int .i64 i)) 13 (.ptr p o)) 14 (.int .i64 x)) 6 (.int .i64 i)) 7 (.int .i64 x),d,h⟩ Q:=by
 rw[<-xc hs rfl];show wpDr P zA false zDZ ⟨28,TN0 tm v b x y i p o,d,h⟩ Q;obtain⟨d0,d1,d2,d3,d4,d5,d6,d7,d8,d9⟩:=dN;obtain⟨u0,u1,u2,u3,u4,u5,u6,u7,u8,u9⟩:=guN;have main:wT zA zDZ (za zDZ []) 8 8 0 zDZ ⟨28,TN0 tm v b x y i p o,d,h⟩ [.int .i64 x,.int .i64 z]=some ([((241,[.int .i64 x]),(zM h,.int .i64 x)),((241,[.int .i64 z]),(h,.int .i64 z))],⟨28,TNX tm v b x y i p o (.ptr pb ob) z,d,h⟩):=by
  generalize za zDZ []=bs;generalize hops:zDZ=ops;have hl6:ops=[oN 0,oN 1,oN 2,oN 3,oN 4,oN 5,oN 6,oN 7,oN 8,oN 9]:=by rw[<-hops];exact zSK
  have main:wT zA ops bs 8 8 0 [oN 0,oN 1,oN 2,oN 3,oN 4,oN 5,oN 6,oN 7,oN 8,oN 9] ⟨28,TN0 tm v b x y i p o,d,h⟩ [.int .i64 x,.int .i64 z]=some ([((241,[.int .i64 x]),(zM h,.int .i64 x)),((241,[.int .i64 z]),(h,.int .i64 z))],⟨28,TNX tm v b x y i p o (.ptr pb ob) z,d,h⟩):=by
   refine yf u0 (aN0 tm v b x y i p o _) d0 rfl hn hl ?_;refine yf u1 (aN1 tm v b x y i p o _) d1 rfl hn hl ?_;refine Oy u2 (aN2 tm v b x y i p o _) d2 rfl hn hl ?_;refine yf u3 (aN3 tm v b x y i p o _) d3 rfl hn hl ?_;refine yf u4 (aN4 tm v b x y i p o _) d4 rfl hn hl ?_;refine yf u5 (aN5 tm v b x y i p o _) d5 rfl hn hl ?_;refine yf u6 (aop_idx (eN6 tm v b x y i p o).1 (eN6 tm v b x y i p o).2.1 (eN6 tm v b x y i p o).2.2 e1) d6 rfl hn hl ?_;refine yf u7 (xS (eN7 tm v b x y i p o (.ptr pb ob)).1 (eN7 tm v b x y i p o (.ptr pb ob)).2 (show zK zA 3 (zM h) (.ptr pb ob)=_ from e2)) d7 rfl hn hl ?_;refine zBq (Jg u8 (aN8 tm v b x y i p o _ _ _) d8 rfl (zFi u9 (aN9 tm v b x y i p o _ _ _) d9 rfl ?_));rfl
  rw[<-hl6]at main;exact main
 have g:=gN tm v b x y i p o (.ptr pb ob) z;refine wpDr.ans okN main (λq hq=>?_) (λa ha b hb hab=>?_) (hq _ ⟨g.1,g.2.1,g.2.2.1,g.2.2.2.1,g.2.2.2.2.1,g.2.2.2.2.2.1,g.2.2.2.2.2.2.1,g.2.2.2.2.2.2.2,trivial⟩)
 ·rcases od.1 hq with rfl|hq
  ·exact z4S.same
  ·rw[List.mem_singleton.1 hq];exact z4S.same
 ·have:∀q∈[((241,[V.int .i64 x]),(zM h,V.int .i64 x)),((241,[V.int .i64 z]),(h,V.int .i64 z))],q.1.2=[q.2.2]:=λq hq=>by
   rcases od.1 hq with rfl|hq
   ·rfl
   ·rw[List.mem_singleton.1 hq]
  have h1:=this a ha;have h2:=this b hb;rw[hab,h2]at h1;exact(List.cons.inj h1).1.symm
def yc(l:List Int):Nat->Nat
 | 0=>0
 | n+1=>if l[yc l n]?.getD 0<l[n]?.getD 0 then n else yc l n
theorem zIu(l:List Int)(n:Nat):yc l (n+1)<=n:=by
 induction n with
 | zero=>unfold yc;split<;>simp[yc]
 | succ n ih=>unfold yc;split<;>omega
theorem zRl(l:List Int)(n:Nat):yc l n<=n:=by
 cases n with
 | zero=>exact oP _
 | succ n=>have:=zIu l n;omega
theorem zKp{i:Nat}(hi:i<l.length)(hg:yc l i<l.length):yc l (i+1)=if l[yc l i]<l[i] then i else yc l i:=by
 show(if l[yc l i]?.getD 0<l[i]?.getD 0 then i else yc l i)=_;rw[oO hi,oO hg];rfl
theorem zFR{v:V}{l:List Int}(sl:Sl h v 1 l.length (zJ l))(hl:l.length<=1000)(hn:h.nx<=T.top)(hlow:h.low<=T.top)(hq:Q (.int .i64 (yc l l.length:Nat)) h):RF P zA 240 [v,Yd] h Q:=by
 refine yK z0f rfl rfl zYV ⟨_,sl.len zP rfl,Has.nil.on λtm hs=>?_⟩
 refine wpC.round (λk tm h'=>∃i:Nat,i<=l.length/\k=l.length-i/\h'=h/\Has tm [(10,.int .i64 i),(9,.int .i64 l.length),(8,v),(5,.int .i64 (yc l i:Nat)),(0,v),(1,Yd)]) l.length ⟨0,by omega,by omega,rfl,hs.sub (by kernel_rfl)⟩ ?_
 clear hs;rintro k tm h' ⟨i,h1,rfl,rfl,hs⟩;refine wpC.at hs zQL rfl rfl ⟨λc=>?_,λc=>hs.on λtm' hs'=>?_⟩
 ·have hi:i<l.length:=by omega
  have hg:yc l i<l.length:=by have:=zRl l i;omega
  obtain⟨b,o,e1,e2⟩:=yj sl hi;obtain⟨b2,o2,e3,e4⟩:=yj sl hg;have hsu:=zKp hi hg;generalize l[i]=x at e2 hsu;generalize l[yc l i]=z at e4 hsu;refine⟨b,o,e1,x,e2,zXd (hs.sub (by kernel_rfl)) hn hlow e3 e4 λtm1 hs1=>thenC.nx (wpS.av hs1 zQN rfl rfl ?_)⟩
  cases hb:JU z x with
  | true =>
   rw[hb]at hs1;rw[yi,decide_eq_true_iff]at hb;rw[if_pos hb]at hsu;refine hs1.on λtm2 hs2=>thenC.nx (wpS.av hs2 zG4 rfl rfl (hs2.on λtm3 hs3=>hs3.slt λtm4 hs4=>⟨rfl,rfl,l.length-(i+1),by omega,i+1,by omega,rfl,rfl,?_⟩))
   rw[hsu,<-yQ (by omega)];exact hs4.sub (by kernel_rfl)
  | false =>
   rw[hb]at hs1;rw[yi,decide_eq_false_iff_not]at hb;rw[if_neg hb]at hsu;refine hs1.on λtm2 hs2=>thenC.nx (wpS.av hs2 zG4 rfl rfl (hs2.on λtm3 hs3=>hs3.slt λtm4 hs4=>⟨rfl,rfl,l.length-(i+1),by omega,i+1,by omega,rfl,rfl,?_⟩))
   rw[hsu,<-yQ (by omega)];exact hs4.sub (by kernel_rfl)
 ·have hi:i=l.length:=by omega
  subst hi;refine thenC.left (wpS.av hs' zQO rfl rfl (hs'.on λtm2 hs2=>?_));exact endW.r1 (hs2.get rfl) hq
end Go.Proofs.YtnpeieeomokomaaGreat
