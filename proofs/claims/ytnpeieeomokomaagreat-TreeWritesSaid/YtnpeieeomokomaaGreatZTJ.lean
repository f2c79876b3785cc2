/- TJ. No condition. -/
import Derived.Test.YtnpeieeomokomaaGreatZTI
import Derived.Test.YtnpeieeomokomaaGreatZCG
set_option maxRecDepth 100000
set_option maxHeartbeats 1000000
noncomputable section
namespace Go.Proofs.YtnpeieeomokomaaGreat
open Go.Sim
theorem zg {h:H}{v:V}{l:List Int}{i:Nat}(sl:Sl h v 1 l.length (zM l)) (hi:i<l.length):∃b o,zV zA 23 v (.int .i64 (i:Nat))=some (.ptr b o)/\zO zA 3 h (.ptr b o)=some (.int .i64 l[i]) :=
 sl.at1 (u:=.int .i64 l[i]) hi zQ rfl zi rfl rfl (by rw[oU,oM hi];rfl)
theorem yH {α:Type}{l:List α}{i:Nat}(hi:i<l.length):l.take (i+1)=l.take i++[l[i]]:=by rw[List.take_add_one,oM hi];rfl
theorem zf {i:Nat}(h:i<9223372036854775807):zL ((i:Int)+1)=((i+1:Nat):Int):=by rw[zH (by omega) (by omega)];rfl
def grt (l:List Int):Int:=l.foldl max 0
theorem Yr (l:List Int) (x:Int):grt (l++[x])=max (grt l) x:=by simp[grt]
theorem wC {l:List Int}(h:jJ l=true) {x:Int}(hx:x∈l):0<=x/\x<=11:=by
 have:=List.all_eq_true.1 h x hx;simpa using this
theorem zBx {l:List Int}{a m:Int}(ha:a<=m) (h:∀x∈l,x<=m):l.foldl max a<=m:=by
 induction l generalizing a with
 | nil=>exact ha
 | cons x l ih=>exact ih (Int.max_le.2 ⟨ha,h x (by simp)⟩) λy hy=>h y (by simp[hy])
theorem qN {l:List Int}{a:Int}:a<=l.foldl max a/\∀x∈l,x<=l.foldl max a:=by
 induction l generalizing a with
 | nil=>exact⟨Int.le_refl _,λx hx=>by cases hx⟩
 | cons x l ih =>
  have h1:=(ih (a:=max a x)).1;refine⟨Int.le_trans (Int.le_max_left a x) h1,λy hy=>?_⟩
  rcases oY.1 hy with rfl|hy
  ·exact Int.le_trans (Int.le_max_right a y) h1
  ·exact(ih (a:=max a x)).2 y hy
def qG (l:List Int):Nat:=(grt l).toNat
theorem Yq {l:List Int}:grt l=(qG l:Nat):=by
 have h1:=(qN (l:=l) (a:=0)).1;unfold qG grt at *;omega
theorem OD {l:List Int}(h:jJ l=true):qG l<=11:=by
 have h1:=zBx (l:=l) (a:=0) (m:=11) (by decide) λx hx=>(wC h hx).2
 unfold qG grt;omega
theorem zM2 {l:List Int}{x:Int}(hx:x∈l):x<=(qG l:Nat):=by
 have h1:=(qN (l:=l) (a:=0)).2 x hx;rw[<-Yq];exact h1
theorem J7 {v:V}{l:List Int}{h:H}{Q:V->H->Prop}(sl:Sl h v 1 l.length (zM l)) (hl:l.length<4611686018427387904) (hq:Q (.int .i64 (qG l:Nat)) h):RF P zA 108 [v] h Q:=by
 rw[<-Yq]at hq;refine RF.enterS zG zYV (ble _ _ rfl) (ble _ _ rfl) z08 ⟨_,sl.len zQ rfl,Has.nil.on λtm hs=>?_⟩
 refine wpC.round (λk tm h'=>∃i:Nat,i<=l.length/\k=l.length-i/\h'=h/\Has tm [(8,.int .i64 i),(7,.int .i64 l.length),(6,v),(3,.int .i64 (grt (l.take i)))]) l.length ⟨0,by omega,by omega,rfl,hs.sub (by kernel_rfl)⟩ ?_
 clear hs;rintro k tm h' ⟨i,h1,rfl,rfl,hs⟩;refine wpC.at hs zQb rfl rfl ⟨λc=>?_,λc=>hs.on λtm' hs'=>?_⟩
 ·have hi:i<l.length:=by omega
  obtain⟨b,o,e1,e2⟩:=zg sl hi;refine⟨b,o,e1,l[i],e2,hs.on λtm' hs'=>⟨rfl,rfl,l.length-(i+1),by omega,i+1,by omega,rfl,rfl,?_⟩⟩
  rw[yH hi,Yr,<-zf (by omega)];exact hs'.sub (by kernel_rfl)
 ·have hi:i=l.length:=by omega
  subst hi;rw[List.take_length]at hs';refine thenC.left (wpS.at hs' zRc rfl rfl (hs'.on λtm2 hs2=>?_));exact endW.r1 (hs2.get rfl) hq
def lone (m:Nat) (x:Int):Nat:=if x≠0 then 2^(m-x.toNat) else 0
def Jw (m:Nat) (l:List Int):Nat:=(l.map (lone m)).sum
theorem zCE {m:Nat}(hm:m<=11) (x:Int):lone m x<=2048:=by
 unfold lone;split
 ·exact oP (Nat.pow_le_pow_right (by decide) (show m-x.toNat<=11 by omega)) (by decide)
 ·omega
theorem zCG {g:Int->Nat}{m:Nat}(hg:∀x,g x<=m):∀l:List Int,(l.map g).sum<=m*l.length
 | []=>by simp
 | x::l=>by
  have h1:=hg x;have h2:=zCG hg l;rw[List.map_cons,List.sum_cons,oS,Nat.mul_succ];omega
theorem zJy {v fv:V}{l:List Int}{g:Int->Nat}{h:H}{Q:V->H->Prop}(sl:Sl h v 1 l.length (zM l)) (hl:l.length<=1000) (hg:∀x,g x<=1048576) (h0:g 0=0)
  (hf:∀x∈l,x≠0->∀k:V->H->Prop,k (.int .i64 (g x:Nat)) h->yV zA P 3 h k [.int .i64 x] fv) (hq:Q (.int .i64 ((l.map g).sum:Nat)) h):RF P zA 143 [v,fv] h Q:=by
 refine RF.enterS zG zTe (ble _ _ rfl) (ble _ _ rfl) zU3 ⟨_,sl.len zQ rfl,Has.nil.on λtm hs=>?_⟩
 refine wpC.round (λk tm h'=>∃i:Nat,i<=l.length/\k=l.length-i/\h'=h/\Has tm [(9,.int .i64 i),(8,.int .i64 l.length),(7,v),(4,.int .i64 (((l.take i).map g).sum:Nat)),(1,fv)]) l.length ⟨0,by omega,by omega,rfl,hs.sub (by kernel_rfl)⟩ ?_
 clear hs;rintro k tm h' ⟨i,h1,rfl,rfl,hs⟩;refine wpC.at hs zIM rfl rfl ⟨λc=>?_,λc=>hs.on λtm' hs'=>?_⟩
 ·have hi:i<l.length:=by omega
  obtain⟨b,o,e1,e2⟩:=zg sl hi;have hw:((l.take (i+1)).map g).sum=((l.take i).map g).sum+g l[i]:=by rw[yH hi,List.map_append,List.sum_append];simp
  have hb:=zCG hg (l.take i);rw[List.length_take]at hb;have hx:=hg l[i];have hm:=hf l[i] (oQ hi);generalize l[i]=x at e2 hw hx hm;refine⟨b,o,e1,x,e2,λc2=>?_,λc2=>hs.on λtm' hs'=>⟨rfl,rfl,l.length-(i+1),by omega,i+1,by omega,rfl,rfl,?_⟩⟩
  ·refine hm c2 _ (hs.on λtm' hs'=>⟨rfl,rfl,l.length-(i+1),by omega,i+1,by omega,rfl,rfl,?_⟩)
   have ew:zL (((((l.take i).map g).sum:Nat):Int)+(g x:Nat))=((((l.take (i+1)).map g).sum:Nat):Int):=by rw[zH (by omega) (by omega),hw];rfl
   rw[<-ew,<-zf (by omega)];exact hs'.sub (by kernel_rfl)
  ·have:((l.take (i+1)).map g).sum=((l.take i).map g).sum:=by
    rw[hw,show x=0 by omega,h0,Nat.add_zero]
   rw[this,<-zf (by omega)];exact hs'.sub (by kernel_rfl)
 ·have hi:i=l.length:=by omega
  subst hi;rw[List.take_length]at hs';refine thenC.left (wpS.at hs' zIP rfl rfl (hs'.on λtm2 hs2=>?_));exact endW.r1 (hs2.get rfl) hq
def Kl (l:List Int):Int :=
 if l.length<2\/256<l.length then 4
 else if jJ l=true then (if l.getLast?≠some 0/\2<=xM l/\Jw (qG l) l=2^qG l then 0 else 21)
 else 2
theorem zGM {h h':H}{n:Nat}(e:Ext h h' n) (hl:h.low<=T.top):h'.low<=T.top:=oP e.low hl
theorem zEA {v:V}{l:List Int}{h:H}{Q:V->H->Prop}(sl:Sl h v 1 l.length (zM l)) (hl:l.length<4611686018427387904) (hn:h.next+1<=T.top) (hlow:h.low<=T.top) (hq:∀h',Ext h h' 1->Q (.int .i64 (Kl l)) h'):RF P zA 107 [v] h Q:=by
 have hq0:=hq h ((Ext.refl h).mono (by omega));unfold Kl at hq0 hq;refine RF.enterS zG zYU (ble _ _ rfl) (ble _ _ rfl) z07 ⟨_,sl.len zQ rfl,λc=>?_,λc=>⟨_,sl.len zQ rfl,λc2=>?_,λc2=>Has.nil.on λtm hs=>?_⟩⟩
 ·rw[if_pos (.inl (by omega))]at hq0
  exact hq0
 ·rw[if_pos (.inr (by omega))]at hq0
  exact hq0
 rw[if_neg (by omega)]at hq0;refine wpS.at hs zRb rfl rfl (zAy sl hl ?_);unfold zJN;by_cases hin:jJ l=true
 ·simp only[if_neg (show ¬(l.length<2\/256<l.length)by omega),if_pos hin]at hq
  rw[if_pos hin];have hm:=OD hin;refine⟨_,true,rfl,λ_=>J7 sl hl ⟨_,rfl,rfl,by omega,?_⟩,λg=>(by cases g)⟩
  rintro p7 h8 rfl e8;have w8:=(Vw.nil (S:=zW) (h:=h)).new e8 (by omega);have t8:=w8.top;obtain⟨h9,e9,w9,n9,_⟩:=w8.st (cx:=zA) 0 (t:=3) (f:=0) (u:=.int .i64 (qG l:Nat)) rfl (by omega) zi rfl (oJ _) rfl rfl;have t9:=w9.top;have x9:=w9.ex0;have l9:=zGM x9 hlow;have s9:=sl.ext x9;obtain⟨b,o,a1,a2⟩:=zg s9 (i:=l.length-1) (by omega);have hlast:l.getLast? = some l[l.length-1]:=by rw[List.getLast?_eq_getElem?,oM (by omega)]
  refine⟨h9,e9,⟨by omega,l9⟩,_,s9.len zQ rfl,b,o,?_,_,a2,λc3=>hs.on λtm2 hs2=>?_,λc3=>⟨λc4=>hs.on λtm2 hs2=>?_,λc4=>?_⟩⟩
  ·rw[zH (by omega) (by omega),show((l.length:Nat):Int)-1=((l.length-1:Nat):Int)by omega];exact a1
  ·have:=hq h9 x9
   rw[if_neg (λg=>g.1 (by rw[hlast,c3]))]at this
   exact endW.r1 (hs2.get rfl) this
  ·have:=hq h9 x9
   rw[if_neg (λg=>by have:=g.2.1;omega)]at this;exact endW.r1 (hs2.get rfl) this
  have hp:2^qG l<=2^11:=Nat.pow_le_pow_right (by decide) hm;have i9:=yb (h:=h9) (by omega) l9;refine zJy (g:=lone (qG l)) (show Sl (za h9) v 1 l.length (zM l)from s9) (by omega) (λx=>oP (zCE hm x) (by decide)) rfl (λx hx hx0 k hk=>?_) ⟨_,rfl,i9.1,λh17 e17=>?_⟩
  ·show RF P zA 183 [.int .i64 x,.ptr h.next 0] (za h9) _
   have hr:=wC hin hx;have hr2:=zM2 hx;have e:zN .u64 (zL (((qG l:Nat):Int)-x))=((qG l-x.toNat:Nat):Int):=by
    rw[zH (by omega) (by omega),show((qG l:Nat):Int)-x=((qG l-x.toNat:Nat):Int)by omega,zP (by omega)]
   have hp:2^(qG l-x.toNat)<=2^11:=Nat.pow_le_pow_right (by decide) (by omega);refine RF.enterS zG zYo (ble _ _ rfl) (ble _ _ rfl) z1B ⟨_,w9.ld1 0 rfl zi rfl rfl,((1*2^(qG l-x.toNat):Nat):Int),by rw[e];exact zb (a:=1) (by omega) (by omega),?_⟩;unfold lone at hk;rw[if_pos hx0]at hk;rw[Nat.one_mul];exact zON hk
  ·rw[i9.2]at e17
   subst e17;have:=hq h17 x9;refine⟨_,w9.ld1 0 rfl zi rfl rfl,((1*2^qG l:Nat):Int),by rw[zP (by omega)];exact zb (a:=1) (by omega) (by omega),λc5=>hs.on λtm2 hs2=>?_,λc5=>hs.on λtm2 hs2=>?_⟩
   ·rw[if_neg (λg=>by have:=g.2.2;unfold Jw at this;omega)]at this
    exact endW.r1 (hs2.get rfl) this
   ·rw[if_pos ⟨λg=>c3 (by rw[hlast]at g;exact Option.some.inj g),by omega,by unfold Jw;omega⟩]at this
    exact endW.r1 (hs2.get rfl) this
 ·rw[if_neg hin]at hq0
  rw[if_neg hin];exact⟨0,false,rfl,λg=>(by cases g),λ_=>hs.on λtm2 hs2=>endW.r1 (hs2.get rfl) hq0⟩
theorem zQW {a n:Nat}(hn:n<=8) (h:a*2^n<256):zj .shl .u8 (a:Int) (n:Int)=some (.int .u8 ((a*2^n:Nat):Int)):=by
 show cond (Xz (n:Int) 0) none (some (V.int .u8 (zN .u8 (zJn (a:Int) (cond (Nat.ble n 8) n 8)))))=_;rw[oC hn,oK,yo,KU];have h3:decide ((n:Int)<0)=false:=by simp
 rw[h3,oL];have e:(a:Int)*2^n=((a*2^n:Nat):Int):=by rw[Int.natCast_mul,Int.natCast_pow];rfl
 rw[e,yf,oZ h]
theorem zW6 {a b:Nat}(ha:a<256) (hb:b<256):zj .or .u8 (a:Int) (b:Int)=some (.int .u8 ((a ||| b:Nat):Int)):=by
 show some (V.int .u8 (IntKind.u8.wrap (((BitVec.ofInt 8 (a:Int) ||| BitVec.ofInt 8 (b:Int)).toNat:Nat):Int)))=_;rw[BitVec.toNat_or,xX (show a<2^8 from ha),xX (show b<2^8 from hb)];rw[zOt (show a ||| b<2^8 from Nat.or_lt_two_pow ha hb)]
abbrev Jk:TI:=⟨5,.int .u8,1,1,some (.int .u8 (.ofNat 0)),true,false,false,[]⟩
abbrev byv (b:UInt8):V:=.int .u8 ((b.toNat:Nat):Int)
abbrev Js (l:List UInt8):List V:=l.map byv
theorem KJ (l m:List UInt8):Js (l++m)=Js l++Js m:=List.map_append ..
theorem jm (l:List UInt8):(Js l).length=l.length:=od ..
theorem J2:∀l:List UInt8,xQ (Js l)=some l
 | []=>rfl
 | b::l=>by
  show(match xQ (Js l)with|some r=>some (UInt8.ofNat b.toNat::r)|none=>none)=_
  rw[J2 l];simp
theorem zCc (cs:Cs) (o:Nat) (h:cs.range o 0=some []\/True):cs.range 0 0=some []:=by
 cases cs with
 | ls l=>cases l<;>rfl
 | tb t n=>rfl
 | big d t n=>rfl
theorem wk {h:H}{v:V}{l:List UInt8}{k:V->H->Prop}(s:Sl h v 1 l.length (Js l)) (h0:0<l.length) (hk:k (.str l) h):wF zA 71 9 h v k:=by
 obtain⟨_,⟨rfl,hz⟩|⟨b,o,cp,cs,kk,w,op,rfl,hb,hg,hc⟩⟩:=s
 ·omega
 have e:yt zA 71 9 h (.slice b o l.length cp)=some (.str l,h):=by
  unfold yt;rw[zEp,Y3];have hr:cs.range o l.length=some (Js l):=Cs.range_is h0 (jm l) λi hi=>hc i (by omega)
  simp only[ty5,hg,hr,J2]
 show ∃m h',yt zA 71 9 h (.slice b o l.length cp)=some (.str m,h')/\k (.str m) h';exact⟨l,h,e,hk⟩
theorem wh {h:H}(n:Int) (hn:h.next<T.top):∃h',zS zA 71 1 [(0,.int .u8 n)] h=some (.slice h.next 0 1 (.exact 1),h')/\Sl h' (.slice h.next 0 1 (.exact 1)) 1 1 [.int .u8 n]/\Ext h h' 1:=by
 have e:zS zA 71 1 [(0,.int .u8 n)] h=(match (cond (Nat.blt h.next T.top) (some (h.next,h.new (.cells (.ls [.int .u8 n]) ⟨0,5+1,0⟩ true false))) none:Option (Nat×H))with|some (b,h')=>some (.slice b 0 1 (.exact 1),h')|none=>none):=by kernel_rfl
 rw[(z8 _ _).2 hn,oK]at e;exact⟨_,e,⟨rfl,.inr ⟨h.next,0,_,_,_,_,_,rfl,by rw[zI];omega,zw _ hn,λi hi=>by
  have:i=0:=by omega
  subst this;rfl⟩⟩,Ext.new _ hn⟩
def Gr (h:H) (v:V) (te:TI) (n:Nat) (xs:List V):Prop:=Ow h v te n xs\/∃b,v = .slice b 0 n (.exact n)/\0<n/\Sl h v te.size n xs
theorem Gr.sl {h:H}{v:V}{te:TI}{n:Nat}{xs:List V}(g:Gr h v te n xs):Sl h v te.size n xs:=by
 rcases g with o|⟨_,_,_,s⟩
 ·exact o.sl
 ·exact s
theorem Gr.ext {h h':H}{v:V}{te:TI}{n m:Nat}{xs:List V}(g:Gr h v te n xs) (e:Ext h h' m):Gr h' v te n xs:=by
 rcases g with o|⟨b,hv,hn,s⟩
 ·exact .inl (o.ext e)
 ·exact .inr ⟨b,hv,hn,s.ext e⟩
theorem Gr.step {cx:Ctx}{S:Nat->Prop}{hb h:H}{c:Nat}{l:List (Nat×O)}{v x:V}{te ti:TI}{n t e:Nat}{xs ys:List V}(w:Vw S hb h c l) (g:Gr h v te n xs) (sp:Sep S hb.next l v) (hx:Sl h x te.size 1 ys) (ht:cx.ty.get t=some ti) (hd:ti.desc = .slice e) (he:cx.ty.get e=some te) (hok:kc te=true)
  (ho:zU ys=true) (hsz:(n+1)*te.size<=262143) (hby:(n+1)*te.bytes<=1099511627776) (hn:h.next<T.top) :
  ∃v' h',zo cx t h v x=some (v',h')/\Vw S hb h' (c+1) l/\Ow h' v' te (n+1) (xs++ys)/\Sep S hb.next l v':=by
 rcases g with o|⟨b,rfl,h0,s⟩
 ·obtain⟨v',h',e1,A⟩:=o.append (c:=cx) hx (by decide) ht hd he hok ho hsz hby hn
  obtain⟨w',o',sp'⟩:=w.grow sp A;exact⟨v',h',e1,w',o',sp'⟩
 ·obtain⟨v',h',e1,o',x',hv'⟩:=s.appFull (cx:=cx) h0 hx (by decide) ht hd he hok ho hsz hby hn
  refine⟨v',h',e1,w.ext x',o',λb' hb'=>?_⟩
  rw[hv']at hb';cases hb';exact⟨.inr w.le,λq hq=>Nat.ne_of_lt (w.bk.lt q hq)⟩
theorem zJp {cx:Ctx}{h:H}{b n m t e:Nat}{ti te:TI}(ht:cx.ty.get t=some ti) (hd:ti.desc = .slice e) (he:cx.ty.get e=some te) (hm:m<=n):yP cx t h (.slice b 0 n (.exact n)) none (some (.int .i64 (m:Nat))) (some (.int .i64 (m:Nat)))=some (.slice b 0 m (.exact m)):=by
 unfold yP;have e5:Nat.ble m m=true:=oC (oO m);have e6:Nat.ble m n=true:=oC hm;simp only[ht,hd,he,Go.Sim.bnd,Yc,e5,e6,oK,Option.isNone_some,Bool.and_false,oL,Nat.zero_mul,Nat.zero_add,Nat.sub_zero];cases Nat.beq m 0<;>rfl
def YM (l:List Int):List Int:=(Ot (qG l) l).dropLast
theorem Z1 (l:List Int):(YM l).length=l.length-1:=by unfold YM;rw[List.length_dropLast,q8]
theorem zFo {l:List Int}(h:Kl l=0):2<=l.length/\l.length<=256/\jJ l=true:=by
 unfold Kl at h;by_cases c:l.length<2\/256<l.length
 ·rw[if_pos c]at h;cases h
 ·rw[if_neg c]at h
  by_cases g:jJ l=true
  ·exact⟨by omega,by omega,g⟩
  ·rw[if_neg g]at h;cases h
theorem zBB {v:V}{l:List Int}{h:H}{Q:V->H->Prop}(sl:Sl h v 1 l.length (zM l)) (hl:l.length<4611686018427387904) (hn:h.next+2<=T.top) (hlow:h.low<=T.top)
  (hq:∀h' v',Ext h h' 2->(Kl l=0->(∃b,v' = .slice b 0 (YM l).length (.exact (YM l).length)/\h.next<=b)/\Sl h' v' 1 (YM l).length (zM (YM l)))->Q (.tuple [if Kl l=0 then v' else .nilslice,.int .i64 (Kl l)]) h'):RF P zA 25 [v] h Q:=by
 refine RF.enterS zG z49 (ble _ _ rfl) (ble _ _ rfl) z5V ?_;refine RF.enterS zG z4k (ble _ _ rfl) (ble _ _ rfl) z58 (zEA sl hl (by omega) hlow λh1 x1=>⟨_,rfl,λc=>?_,λc=>?_⟩)
 ·have:=hq h1 .nilslice (x1.mono (by omega)) λg=>absurd g c
  rw[if_neg c]at this;exact⟨_,_,rfl,λ_=>this,λg=>absurd c g⟩
 ·have c0:Kl l=0:=by omega
  have t1:=x1.top;obtain⟨l1,l2,hin⟩:=zFo c0;have hm:=OD hin;have s1:=sl.ext x1;refine J7 s1 hl ⟨_,rfl,zJz s1 l2 (λx hx=>by have:=wC hin hx;omega) (by omega) (by omega) λh2 v2 x2 s2 b2=>⟨_,rfl,_,_,rfl,λg=>absurd rfl g,λ_=>?_⟩⟩
  obtain⟨b,cs,k,op,rfl,hb,_⟩:=b2;have s2':Sl h2 (.slice b 0 l.length (.exact l.length)) 1 l.length (zM (Ot (qG l) l)):=s2;have e1:zL (((l.length:Nat):Int)-1)=((l.length-1:Nat):Int):=by rw[zH (by omega) (by omega)];omega
  refine⟨_,s2'.len zQ rfl,_,s2'.len zQ rfl,_,by rw[e1];exact zJp zQ rfl zi (by omega),?_⟩;have:=hq h2 (.slice b 0 (l.length-1) (.exact (l.length-1))) (x1.trans x2) λ_=>⟨⟨b,by rw[Z1],by have:=x1.le;omega⟩,?_⟩
  ·rw[c0,if_pos rfl]at this
   exact this
  ·obtain⟨g1,⟨hv,_⟩|⟨b',o,cp,cs',k',w',op',hv,g3,g4,g5⟩⟩:=s2'
   ·cases hv
   ·cases hv
    refine⟨by rw[wq,Nat.mul_one],.inr ⟨b,0,_,cs',k',w',op',by rw[Z1],g3,g4,λi hi=>?_⟩⟩
    rw[Z1]at hi;rw[g5 i (by omega)];unfold YM;rw[oU,oU,List.getElem?_dropLast,q8,if_pos (by omega)]
def kB:List Int->List UInt8
 | []=>[]
 | [a]=>[UInt8.ofNat (16*a.toNat)]
 | a::b::l=>UInt8.ofNat (16*a.toNat+b.toNat)::kB l
theorem Yg (x y:Int):∀m:List Int,m.length % 2=0->kB (m++[x])=kB m++[UInt8.ofNat (16*x.toNat)]/\kB (m++[x,y])=kB m++[UInt8.ofNat (16*x.toNat+y.toNat)]
 | [],_=>⟨rfl,rfl⟩
 | [_],h=>by cases h
 | a::b::m,h=>by
  obtain⟨h1,h2⟩:=Yg x y m (by simp only[oS]at h;omega);refine⟨?_,?_⟩
  ·show _::kB (m++[x])=_
   rw[h1];rfl
  ·show _::kB (m++[x,y])=_
   rw[h2];rfl
theorem Kp:∀l:List Int,(kB l).length=(l.length+1)/2
 | []=>rfl
 | [_]=>by simp[kB]
 | a::b::l=>by
  show(kB l).length+1=_;rw[Kp l];simp only[oS];omega
def zPm (l:List Int):List UInt8:=UInt8.ofNat (l.length+127)::kB l
def zD6 (l:List Int):V :=
 if ZK l≠0 then .tuple [.str [],.int .i64 (ZK l)]
 else if 128<l.length then .tuple [.str [],.int .i64 4]
 else .tuple [.str (zPm l),.int .i64 0]
theorem jb {n:Nat}(h:n<256):byv (UInt8.ofNat n) = .int .u8 (n:Int):=by
 have:(UInt8.ofNat n).toNat=n:=by simp;omega
 show V.int .u8 (((UInt8.ofNat n).toNat:Nat):Int)=_;rw[this]
theorem zQV {h:H}{v:V}{l:List UInt8}{i:Nat}(sl:Sl h v 1 l.length (Js l)) (hi:i<l.length):∃b o,zV zA 71 v (.int .i64 (i:Nat))=some (.ptr b o)/\zO zA 5 h (.ptr b o)=some (byv l[i]) :=
 sl.at1 (u:=byv l[i]) hi zEp rfl ty5 rfl rfl (by rw[oU,oM hi];rfl)
theorem zOU {h:H}{v:V}{l:List UInt8}{b0 b1:UInt8}(o:Ow h v Jk (l++[b0]).length (Js (l++[b0]))) (hn:h.next<=T.top) :
  ∃b h',zV zA 71 v (.int .i64 (l.length:Nat))=some (.ptr b l.length)/\zO zA 5 h (.ptr b l.length)=some (byv b0)/\yA zA 5 h (.ptr b l.length) (byv b1)=some h'/\Ow h' v Jk (l++[b1]).length (Js (l++[b1]))/\ExtX (λi=>ym v=some i) h h' 0:=by
 have hlen:l.length<(l++[b0]).length:=by simp
 obtain⟨b,h',_,e1,e2,o',n',x'⟩:=o.set (cx:=zA) (u:=byv b1) hlen zEp rfl ty5 rfl rfl rfl hn;obtain⟨b',o2,f1,f2⟩:=zQV o.sl hlen;rw[e1]at f1;cases f1;refine⟨b,h',e1,by simpa using f2,e2,?_,x'⟩;have:(Js (l++[b0])).set l.length (byv b1)=Js (l++[b1]):=by
  rw[KJ,KJ,List.set_append_right _ _ (by rw[jm];exact oO _),jm,Nat.sub_self];rfl
 rw[this]at o';simpa using o'
theorem zW2 {l:List Int}{i:Nat}(hi:i<l.length) (ho:i % 2=1):∃x:Int,∃m:List Int,m=l.take (i-1)/\x∈l/\l.take i=m++[x]/\l.take (i+1)=m++[x,l[i]]:=by
 have h1:i-1<l.length:=by omega
 have h2:=yH h1;have h3:=yH hi;rw[show i-1+1=i by omega]at h2;exact⟨l[i-1],_,rfl,oQ h1,h2,by rw[h3,h2,List.append_assoc];rfl⟩
structure DrI (hb h:H) (l:List Int) (i:Nat) (v:V):Prop where
 vw:Vw zW hb h (2*i+1) []
 gr:Gr h v Jk (kB (l.take i)).length.succ (Js (UInt8.ofNat (l.length+127)::kB (l.take i)))
 ow:0<i->Ow h v Jk (kB (l.take i)).length.succ (Js (UInt8.ofNat (l.length+127)::kB (l.take i)))
 sp:Sep zW hb.next [] v
theorem DrI.even {hb h:H}{l:List Int}{i:Nat}{v:V}(d:DrI hb h l i v) (hi:i<l.length) (hl:l.length<=128) (he:i % 2=0) (hin:jJ l=true) (hn:hb.next+400<=T.top) :
  ∃v4 h5,zS zA 71 1 [(0,.int .u8 ((l[i].toNat*2^4:Nat):Int))] h=some (v4,h5)/\(True/\∃v6 h7,zo zA 71 h5 v v4=some (v6,h7)/\DrI hb h7 l (i+1) v6):=by
 have t:=d.vw.top;have hr:=wC hin (oQ hi);obtain⟨h5,e5,s5,x5⟩:=wh (h:=h) ((l[i].toNat*2^4:Nat):Int) (by omega);have t5:=x5.top;have hd:=Kp (l.take i);rw[List.length_take]at hd;obtain⟨v6,h7,e7,w7,o7,sp7⟩:=(d.gr.ext x5).step (cx:=zA) (d.vw.ext x5) d.sp s5 zEp rfl ty5 rfl rfl (by show(_+1)*1<=_;omega) (by show(_+1)*1<=_;omega) (by omega);refine⟨_,h5,e5,trivial,v6,h7,e7,?_⟩;have ed:=(Yg l[i] 0 (l.take i) (by rw[List.length_take];omega)).1;rw[<-yH hi]at ed;have o8:Ow h7 v6 Jk (kB (l.take (i+1))).length.succ (Js (UInt8.ofNat (l.length+127)::kB (l.take (i+1)))):=by
  rw[ed,oR];have:Js (UInt8.ofNat (l.length+127)::(kB (l.take i)++[UInt8.ofNat (16*l[i].toNat)]))=Js (UInt8.ofNat (l.length+127)::kB (l.take i))++[.int .u8 ((l[i].toNat*2^4:Nat):Int)]:=by
   rw[<-List.cons_append,KJ]
   congr 1
   show[byv _]=_;rw[jb (by omega),show 16*l[i].toNat=l[i].toNat*2^4 by omega]
  rw[this];exact o7
 exact⟨w7.more (by omega),.inl o8,λ_=>o8,sp7⟩
theorem DrI.odd {hb h:H}{l:List Int}{i:Nat}{v:V}(d:DrI hb h l i v) (hi:i<l.length) (he:i % 2=1) (hin:jJ l=true) (hn:h.next<=T.top) :
  ∃(x:Int) (b j:Nat),0<=x/\x<=11/\zc zA 71 h v=some (.int .i64 ((j+1:Nat):Int))/\j<=l.length/\zV zA 71 v (.int .i64 (j:Nat))=some (.ptr b j)/\zO zA 5 h (.ptr b j)=some (.int .u8 ((16*x.toNat:Nat):Int)) /\
   ∃h',yA zA 5 h (.ptr b j) (.int .u8 ((16*x.toNat+l[i].toNat:Nat):Int))=some h'/\DrI hb h' l (i+1) v:=by
 obtain⟨x,m,hm,hx,h1,h2⟩:=zW2 hi he;have hr:=wC hin hx;have hr2:=wC hin (oQ hi);have hml:m.length=i-1:=by rw[hm,List.length_take];omega
 obtain⟨a1,_⟩:=Yg x 0 m (by rw[hml];omega);obtain⟨_,a2⟩:=Yg x l[i] m (by rw[hml];omega);have hd:=Kp m;have ow:=d.ow (by omega);have g:=d.gr.sl.len (t:=71) zEp rfl;rw[h1,a1]at ow g;rw[<-h2]at a2;obtain⟨b,h',e1,e2,e3,o',x'⟩:=zOU (l:=UInt8.ofNat (l.length+127)::kB m) (b0:=UInt8.ofNat (16*x.toNat)) (b1:=UInt8.ofNat (16*x.toNat+l[i].toNat)) (by simpa using ow) hn;rw[jb (by omega)]at e2 e3;refine⟨x,b,(kB m).length+1,hr.1,hr.2,by simpa using g,by omega,by simpa using e1,by simpa using e2,h',by simpa using e3,?_⟩;have o8:Ow h' v Jk (kB (l.take (i+1))).length.succ (Js (UInt8.ofNat (l.length+127)::kB (l.take (i+1)))):=by
  rw[a2];simpa using o'
 exact⟨(d.vw.apart x' (λb hb=>(d.sp b hb).1) λq hq=>(by cases hq)).more (by omega),.inl o8,λ_=>o8,d.sp⟩
theorem zIw {v:V}{l:List Int}{h:H}{Q:V->H->Prop}(sl:Sl h v 1 l.length (zM l)) (hl:l.length<4611686018427387904) (hn:h.next+400<=T.top) (hq:∀h',Ext h h' 300->Q (zD6 l) h'):RF P zA 26 [v] h Q:=by
 have hq0:=hq h ((Ext.refl h).mono (by omega));unfold zD6 at hq hq0;refine RF.enterS zG z4a (ble _ _ rfl) (ble _ _ rfl) z5W (zE7 sl hl ⟨_,rfl,λc=>?_,λc=>⟨_,sl.len zQ rfl,λc2=>?_,λc2=>⟨_,sl.len zQ rfl,?_⟩⟩⟩)
 ·rw[if_pos c]at hq0
  exact hq0
 ·rw[if_neg c,if_pos (by omega)]at hq0
  exact hq0
 have hin:jJ l=true:=by
  have c0:ZK l=0:=by omega
  unfold ZK at c0;by_cases c1:l.length<1\/255<l.length
  ·rw[if_pos c1]at c0;cases c0
  ·rw[if_neg c1]at c0
   by_cases g:jJ l=true
   ·exact g
   ·rw[if_neg g]at c0;cases c0
 simp only[if_neg c,if_neg (show ¬128<l.length by omega)]at hq;clear hq0;have e0:zN .u8 (zL (((l.length:Nat):Int)+127))=((l.length+127:Nat):Int):=by
  rw[zH (by omega) (by omega),show((l.length:Nat):Int)+127=((l.length+127:Nat):Int)by omega,yf,oZ (by omega)]
 obtain⟨h6,e6,s6,x6⟩:=wh (h:=h) ((l.length+127:Nat):Int) (by omega);refine⟨_,h6,by rw[e0];exact e6,_,(sl.ext x6).len zQ rfl,Has.nil.on λtm hs=>?_⟩
 refine wpC.round (λk tm h'=>∃(i:Nat) (v5:V),i<=l.length/\k=l.length-i/\DrI h h' l i v5/\Has tm [(23,.int .i64 i),(22,.int .i64 l.length),(21,v),(5,v5)]) l.length ⟨0,_,by omega,by omega,⟨Vw.nil.ext x6 |>.more (by omega),.inr ⟨_,rfl,by simp,by rw[<-jb (by omega)]at s6;exact s6⟩,λg=>by omega,λb hb=>by cases hb;exact⟨.inr (oO _),λq hq=>by cases hq⟩⟩,hs.sub (by kernel_rfl)⟩ ?_
 clear hs s6 x6 e6 h6;rintro k tm h' ⟨i,v5,hi1,rfl,d,hs⟩;have tw:=d.vw.top;refine wpC.at hs zWr rfl rfl ⟨λc3=>?_,λc3=>hs.on λtm' hs'=>?_⟩
 ·have hi:i<l.length:=by omega
  obtain⟨b,o,a1,a2⟩:=zg (sl.ext d.vw.ex0) hi;have hr:=wC hin (oQ hi);have ew:zN .u8 l[i]=((l[i].toNat:Nat):Int):=by
   rw[show l[i]=((l[i].toNat:Nat):Int)by omega,yf,oZ (by omega)];simp
  refine⟨b,o,a1,_,a2,by decide,λc4=>?_,λc4=>?_⟩
  ·obtain⟨v4,h5,e5,_,v6,h7,e7,d7⟩:=d.even hi (by omega) (by rw[<-Int.natCast_inj];exact c4) hin hn
   refine⟨_,by rw[ew];exact zQW (a:=l[i].toNat) (n:=4) (by omega) (by omega),v4,h5,e5,trivial,v6,h7,e7,hs.on λtm' hs'=>⟨rfl,rfl,l.length-(i+1),by omega,i+1,v6,by omega,rfl,d7,?_⟩⟩
   rw[<-zf (by omega)];exact hs'.sub (by kernel_rfl)
  ·obtain⟨x,b2,j,x1,x2,e1,hj,e2,e3,h8,e4,d8⟩:=d.odd hi (by
    have:¬i % 2=0:=λg=>c4 (by show((i % 2:Nat):Int)=0;omega)
    omega) hin (by omega)
   have ej:zL (((j+1:Nat):Int)-1)=((j:Nat):Int):=by rw[zH (by omega) (by omega)];omega
   have eo:(16*x.toNat) ||| l[i].toNat=16*x.toNat+l[i].toNat:=by
    rw[Nat.or_comm,show 16*x.toNat=x.toNat*2^4 by omega,zG0 (by omega)];omega
   refine⟨_,e1,b2,j,by rw[ej];exact e2,_,e3,_,by rw[ew];exact zW6 (by omega) (by omega),b2,j,by rw[ej];exact e2,h8,by rw[eo];exact e4,hs.on λtm' hs'=>⟨rfl,rfl,l.length-(i+1),by omega,i+1,v5,by omega,rfl,d8,?_⟩⟩
   rw[<-zf (by omega)];exact hs'.sub (by kernel_rfl)
 ·have hi:i=l.length:=by omega
  subst hi;have gs:=d.gr.sl;rw[List.take_length]at gs;refine thenC.left (wpS.at hs' zXG rfl rfl (wk (l:=zPm l) gs (Nat.succ_pos _) (hs'.on λtm2 hs2=>?_)));exact endW.r2 (hs2.get rfl) (hs2.get rfl) (hq h' (d.vw.ex0.mono (by omega)))
theorem zBC (m:Nat) (l:List Int) (x:Int):Jw m (l++[x])=Jw m l+lone m x:=by simp[Jw]
theorem qn (l:List Int) (x:Int):xM (l++[x])=xM l+(if x≠0 then 1 else 0):=by
 rw[KK];by_cases c:x≠0
 ·rw[if_pos c];simp[xM,c]
 ·rw[if_neg c];have:x=0:=by omega
  subst this;rfl
theorem zC9 {v:V}{l:List Int}{h:H}{Q:V->H->Prop}(sl:Sl h v 1 l.length (zM l)) (hl:l.length<4611686018427387904) (hq:Q (.int .i64 (Kl l)) h):RF P zA 157 [v] h Q:=by
 unfold Kl at hq;refine RF.enterS zG zY3 (ble _ _ rfl) (ble _ _ rfl) z0g ⟨_,sl.len zQ rfl,λc=>?_,λc=>⟨_,sl.len zQ rfl,λc2=>?_,λc2=>Has.nil.on λtm hs=>?_⟩⟩
 ·rw[if_pos (.inl (by omega))]at hq
  exact hq
 ·rw[if_pos (.inr (by omega))]at hq
  exact hq
 rw[if_neg (by omega)]at hq;refine wpS.at hs zRo rfl rfl (hs.on λtm2 hs2=>?_);refine wpC.round (λk tm h'=>∃i:Nat,i<=l.length/\k=l.length-i/\h'=h/\jJ (l.take i)=true/\Has tm [(5,.int .i64 i),(0,v),(3,.int .i64 (grt (l.take i))),(4,.int .i64 (xM (l.take i):Nat))]) l.length ⟨0,by omega,by omega,rfl,by simp[jJ],hs2.sub (by kernel_rfl)⟩ ?_
 clear hs hs2;rintro k tm h' ⟨i,h1,rfl,rfl,h2,hs⟩;refine wpC.at hs zQj rfl rfl ⟨_,sl.len zQ rfl,λc=>?_,λc=>hs.on λtm' hs'=>?_⟩
 ·have hi:i<l.length:=by omega
  obtain⟨b,o,e1,e2⟩:=zg sl hi;have hall:¬(0<=l[i]/\l[i]<=11)->jJ l=false:=λhn=>by
   cases g:jJ l with
   | false=>rfl
   | true=>exact absurd (wC g (oQ hi)) hn
  have hc:=qm (l.take i);rw[List.length_take]at hc;have ht:=yH hi;generalize l[i]=x at e2 hall ht;refine⟨b,o,e1,x,e2,λc2=>hs.on λtm' hs'=>?_,λc2=>⟨b,o,e1,x,e2,λc3=>hs.on λtm' hs'=>?_,λc3=>hs.on λtm' hs'=>?_⟩⟩
  ·rw[hall (by omega)]at hq
   exact thenC.rt (thenC.rt (hs'.slt λtm4 hs4=>endW.r1 (hs4.get rfl) hq))
  ·rw[hall (by omega)]at hq
   exact thenC.rt (thenC.rt (hs'.slt λtm4 hs4=>endW.r1 (hs4.get rfl) hq))
  have hb:jJ (l.take (i+1))=true:=by
   rw[ht,jq,h2];simp only[jJ,List.all_cons,List.all_nil,Bool.and_true,Bool.true_and,oG,decide_eq_true_eq];omega
  refine wpS.at hs' zRl rfl rfl ⟨b,o,e1,x,e2,b,o,e1,x,e2,λc4=>hs'.on λtm2 hs2=>?_,λc4=>hs'.on λtm2 hs2=>?_⟩
  ·refine thenC.nx (wpS.at hs2 zIQ rfl rfl (hs2.on λtm3 hs3=>hs3.slt λtm4 hs4=>⟨rfl,rfl,l.length-(i+1),by omega,i+1,by omega,rfl,rfl,hb,?_⟩))
   have ec:zL (((xM (l.take i):Nat):Int)+1)=((xM (l.take (i+1)):Nat):Int):=by
    rw[zH (by omega) (by omega),ht,qn,if_pos (by omega)];rfl
   rw[<-ec,<-zf (by omega),ht,Yr];exact hs4.sub (by kernel_rfl)
  ·refine thenC.nx (wpS.at hs2 zIQ rfl rfl (hs2.on λtm3 hs3=>hs3.slt λtm4 hs4=>⟨rfl,rfl,l.length-(i+1),by omega,i+1,by omega,rfl,rfl,hb,?_⟩))
   have ec:xM (l.take (i+1))=xM (l.take i):=by rw[ht,qn,if_neg (by omega)];rfl
   rw[ec,<-zf (by omega),ht,Yr];exact hs4.sub (by kernel_rfl)
 have hi:i=l.length:=by omega
 subst hi;rw[List.take_length]at h2 hs';rw[if_pos h2]at hq;rw[Yq]at hs';have hm:=OD h2;have hp:2^qG l<=2^11:=Nat.pow_le_pow_right (by decide) hm;refine thenC.left (wpS.at hs' zRn rfl rfl (hs'.on λtm2 hs2=>?_));refine wpC.round (λk tm h2=>∃i:Nat,i<=l.length/\k=l.length-i/\h2=h'/\Has tm [(7,.int .i64 i),(0,v),(6,.int .i64 (Jw (qG l) (l.take i):Nat)),(3,.int .i64 (qG l:Nat)),(4,.int .i64 (xM l:Nat))]) l.length ⟨0,by omega,by omega,rfl,hs2.sub (by kernel_rfl)⟩ ?_
 clear hs hs2 hs';rintro k tm h' ⟨i,h1,rfl,rfl,hs⟩;refine wpC.at hs zQk rfl rfl ⟨_,sl.len zQ rfl,λc=>?_,λc=>hs.on λtm' hs'=>?_⟩
 ·have hi:i<l.length:=by omega
  obtain⟨b,o,e1,e2⟩:=zg sl hi;have hr:=wC h2 (oQ hi);have hr2:=zM2 (oQ hi);have hb:=zCG (λx=>zCE hm x) (l.take i);rw[List.length_take]at hb;have ht:=yH hi;generalize l[i]=x at e2 hr hr2 ht;have hx:=zCE hm x;refine⟨b,o,e1,x,e2,λc2=>⟨b,o,e1,x,e2,((1*2^(qG l-x.toNat):Nat):Int),?_,hs.on λtm' hs'=>⟨rfl,rfl,l.length-(i+1),by omega,i+1,by omega,rfl,rfl,?_⟩⟩,λc2=>hs.on λtm' hs'=>⟨rfl,rfl,l.length-(i+1),by omega,i+1,by omega,rfl,rfl,?_⟩⟩
  ·rw[show zN .u64 (zL (((qG l:Nat):Int)-x))=((qG l-x.toNat:Nat):Int)by
    rw[zH (by omega) (by omega),show((qG l:Nat):Int)-x=((qG l-x.toNat:Nat):Int)by omega,zP (by omega)]]
   have hp2:2^(qG l-x.toNat)<=2^11:=Nat.pow_le_pow_right (by decide) (by omega);exact zb (a:=1) (by omega) (by omega)
  ·have ew:zL (((Jw (qG l) (l.take i):Nat):Int)+((1*2^(qG l-x.toNat):Nat):Int))=((Jw (qG l) (l.take (i+1)):Nat):Int):=by
    have hx2:lone (qG l) x=1*2^(qG l-x.toNat):=by unfold lone;rw[if_pos (by omega),Nat.one_mul]
    rw[<-hx2,ht,zBC];unfold Jw;rw[zH (by omega) (by omega)];rfl
   rw[<-ew,<-zf (by omega)];exact hs'.sub (by kernel_rfl)
  ·have:Jw (qG l) (l.take (i+1))=Jw (qG l) (l.take i):=by
    rw[ht,zBC,show x=0 by omega];rfl
   rw[this,<-zf (by omega)];exact hs'.sub (by kernel_rfl)
 have hi:i=l.length:=by omega
 subst hi;rw[List.take_length]at hs';have hlast:l.getLast? = some l[l.length-1]:=by rw[List.getLast?_eq_getElem?,oM (by omega)]
 refine thenC.left (wpS.at hs' zRm rfl rfl ⟨λc3=>hs'.on λtm2 hs2=>?_,λc3=>?_⟩)
 ·rw[if_neg (λg=>by have:=g.2.1;omega)]at hq
  exact hs2.slt λtm4 hs4=>hs4.slt λtm5 hs5=>endW.r1 (hs5.get rfl) hq
 obtain⟨b,o,a1,a2⟩:=zg sl (i:=l.length-1) (by omega);refine⟨_,sl.len zQ rfl,b,o,?_,_,a2,λc4=>hs'.on λtm2 hs2=>?_,λc4=>⟨((1*2^qG l:Nat):Int),by rw[zP (by omega)];exact zb (a:=1) (by omega) (by omega),λc5=>hs'.on λtm2 hs2=>?_,λc5=>hs'.on λtm2 hs2=>?_⟩⟩
 ·rw[zH (by omega) (by omega),show((l.length:Nat):Int)-1=((l.length-1:Nat):Int)by omega];exact a1
 ·rw[if_neg (λg=>g.1 (by rw[hlast,c4]))]at hq
  exact hs2.slt λtm4 hs4=>hs4.slt λtm5 hs5=>endW.r1 (hs5.get rfl) hq
 ·rw[if_neg (λg=>by have:=g.2.2;omega)]at hq
  exact hs2.slt λtm4 hs4=>hs4.slt λtm5 hs5=>endW.r1 (hs5.get rfl) hq
 ·rw[if_pos ⟨λg=>c4 (by rw[hlast]at g;exact Option.some.inj g),by omega,by omega⟩]at hq
  exact hs2.slt λtm4 hs4=>hs4.slt λtm5 hs5=>endW.r1 (hs5.get rfl) hq
theorem _root_.Go.Sim.Ow.cut {cx:Ctx}{h:H}{v:V}{te ti:TI}{n m t e:Nat}{xs:List V}(s:Ow h v te n xs) (hm:m<=n) (hn:0<n) (ht:cx.ty.get t=some ti) (hd:ti.desc = .slice e) (he:cx.ty.get e=some te) (h0:te.size=1) :
  ∃b,yP cx t h v none (some (.int .i64 (m:Nat))) none=some (.slice b 0 m (.skip 0))/\ym v=some b/\Sl h (.slice b 0 m (.skip 0)) 1 m (xs.take m):=by
 obtain⟨h1,⟨rfl,hz⟩|⟨b,cs,rfl,hb,hg,hw,hl,hc⟩⟩:=s
 ·omega
 rw[h0]at h1 hl hc;refine⟨b,?_,rfl,by rw[List.length_take];omega,.inr ⟨b,0,_,cs,_,_,_,rfl,hb,hg,λi hi=>by rw[Nat.zero_add,hc i (by omega),List.getElem?_take_of_lt (by omega)]⟩⟩
 unfold yP;simp only[ht,hd,he,hg];have e1:Nat.beq (wv te).n te.size=true:=Nat.beq_refl _;have e2:Nat.blt 0 (wv te).n=true:=(z8 _ _).2 (by show 0<te.size;omega);have e3:Nat.beq 0 (0*(wv te).n)=true:=by rw[Nat.zero_mul];rfl
 have e4:Nat.ble (n*(wv te).n) cs.len=true:=oC (by show n*te.size<=_;rw[hl,h0];exact oO _);have e5:Nat.ble m n=true:=oC hm;have e6:Nat.beq 0 0=true:=rfl;simp only[e1,e2,e3,e4,e5,e6,Bool.and_self,oK,Go.Sim.bnd,Yc,Nat.zero_add]
theorem O0 {v:V}{l:List Int}{h:H}{Q:V->H->Prop}(sl:Sl h v 1 l.length (zM l)) (hl:l.length<4611686018427387904) (hn:h.next+600<=T.top)
  (hq:∀h' v',Ext h h' 520->(Kl l=0->(∀b,ym v'=some b->h.next<=b)/\Sl h' v' 1 (YM l).length (zM (YM l)))->Q (.tuple [if Kl l=0 then v' else .nilslice,.int .i64 (Kl l)]) h'):RF P zA 51 [v] h Q:=by
 refine RF.enterS zG z4g (ble _ _ rfl) (ble _ _ rfl) z54 ?_;refine RF.enterS zG z4q (ble _ _ rfl) (ble _ _ rfl) z5e (zC9 sl hl ⟨_,rfl,λc=>?_,λc=>Has.nil.on λtm hs=>?_⟩)
 ·have:=hq h .nilslice ((Ext.refl h).mono (by omega)) λg=>absurd g c
  rw[if_neg c]at this;exact⟨_,_,rfl,λ_=>this,λg=>absurd c g⟩
 have c0:Kl l=0:=by omega
 rw[c0]at hq;simp only[if_true]at hq;obtain⟨l1,l2,hin⟩:=zFo c0;have hm:=OD hin;refine wpC.round (λk tm h'=>∃i:Nat,i<=l.length/\k=l.length-i/\h'=h/\Has tm [(6,.int .i64 i),(0,v),(5,.int .i64 (grt (l.take i)))]) l.length ⟨0,by omega,by omega,rfl,hs.sub (by kernel_rfl)⟩ ?_
 clear hs;rintro k tm h' ⟨i,h1,rfl,rfl,hs⟩;refine wpC.at hs zWz rfl rfl ⟨_,sl.len zQ rfl,λc=>?_,λc=>hs.on λtm' hs'=>?_⟩
 ·have hi:i<l.length:=by omega
  obtain⟨b,o,e1,e2⟩:=zg sl hi;refine⟨b,o,e1,l[i],e2,hs.on λtm' hs'=>⟨rfl,rfl,l.length-(i+1),by omega,i+1,by omega,rfl,rfl,?_⟩⟩
  rw[yH hi,Yr,<-zf (by omega)];exact hs'.sub (by kernel_rfl)
 have hi:i=l.length:=by omega
 subst hi;rw[List.take_length,Yq]at hs';refine thenC.left (wpS.at hs' zXV rfl rfl (hs'.on λtm2 hs2=>?_));clear hs hs';generalize hmm:qG l=m at hm hs2;have em:zL ((m:Int)+1)=(m:Int)+1:=zH (by omega) (by omega);refine wpC.round (λk tm h2=>∃(i:Nat) (v7:V),i<=l.length/\k=l.length-i/\Vw zW h' h2 (2*i) []/\Ow h2 v7 xn (Ot m (l.take i)).length (zM (Ot m (l.take i)))/\Sep zW h'.next [] v7 /\
  Has tm [(8,.int .i64 i),(0,v),(7,v7),(5,.int .i64 m)]) l.length ⟨0,.nilslice,by omega,by omega,Vw.nil,Ow.nil _ _,λb hb=>(by cases hb),hs2.sub (by kernel_rfl)⟩ ?_
 clear hs2;rintro k tm h2 ⟨i,v7,hi1,rfl,w,ow,sp,hs⟩;have tw:=w.top;have htl:(Ot m (l.take i)).length=i:=by rw[q8,List.length_take];omega
 have slk:=sl.ext w.ex0;refine wpC.at hs zXA rfl rfl ⟨_,slk.len zQ rfl,λc=>?_,λc=>hs.on λtm' hs'=>?_⟩
 ·have hil:i<l.length:=by omega
  obtain⟨b,o,a1,a2⟩:=zg slk hil;have hb:=wC hin (oQ hil);have htk:Ot m (l.take (i+1))=Ot m (l.take i)++[if l[i]≠0 then (m:Int)+1-l[i] else 0]:=by
   rw[yH hil];unfold Ot;rw[List.map_append];rfl
  generalize l[i]=x at a2 hb htk;have step:∀y:Int,y=(if x≠0 then (m:Int)+1-x else 0)->∃v4 h5,zS zA 23 1 [(0,.int .i64 y)] h2=some (v4,h5)/\(True/\∃v6 h7,zo zA 23 h5 v7 v4=some (v6,h7)/\Vw zW h' h7 (2*(i+1)) []/\Ow h7 v6 xn (Ot m (l.take (i+1))).length (zM (Ot m (l.take (i+1))))/\Sep zW h'.next [] v6):=λy hy=>by
   rw[<-hy]at htk;obtain⟨v4,h5,e5,sl5,x5⟩:=zBi (h:=h2) y (by omega);have t5:=x5.top;obtain⟨v6,h7,e7,A⟩:=Ow.append (c:=zA) (te:=xn) (m:=1) (ow.ext x5) sl5 (by decide) zQ rfl zi rfl rfl (by rw[htl];show(i+1)*1<=_;omega) (by rw[htl];show(i+1)*8<=_;omega) (by omega);obtain⟨w7,ow7,sp7⟩:=(w.ext x5).grow (k:=(Ot m (l.take (i+1))).length) (xs:=zM (Ot m (l.take (i+1)))) sp (by rw[htk,Yt,oR];exact A);exact⟨v4,h5,e5,trivial,v6,h7,e7,w7.more (by omega),ow7,sp7⟩
  refine⟨b,o,a1,x,a2,λc2=>?_,λc2=>⟨b,o,a1,x,a2,?_⟩⟩
  ·obtain⟨v4,h5,e5,_,v6,h7,e7,w7,ow7,sp7⟩:=step 0 (by rw[if_neg (by omega)])
   refine⟨v4,h5,e5,trivial,v6,h7,e7,hs.on λtm' hs'=>⟨rfl,rfl,l.length-(i+1),by omega,i+1,v6,by omega,rfl,w7,ow7,sp7,?_⟩⟩
   rw[<-zf (by omega)];exact hs'.sub (by kernel_rfl)
  ·obtain⟨v4,h5,e5,_,v6,h7,e7,w7,ow7,sp7⟩:=step ((m:Int)+1-x) (by rw[if_pos c2])
   refine⟨v4,h5,by rw[em,zH (by omega) (by omega)];exact e5,trivial,v6,h7,e7,hs.on λtm' hs'=>⟨rfl,rfl,l.length-(i+1),by omega,i+1,v6,by omega,rfl,w7,ow7,sp7,?_⟩⟩
   rw[<-zf (by omega)];exact hs'.sub (by kernel_rfl)
 have hil:i=l.length:=by omega
 subst hil;rw[List.take_length]at ow htl;rw[htl]at ow;obtain⟨b,e9,hvb,s9⟩:=ow.cut (cx:=zA) (m:=l.length-1) (by omega) (by omega) zQ rfl zi rfl;refine thenC.left (wpS.at hs' zXU rfl rfl (hs'.on λtm2 hs2=>hs2.slt λtm3 hs3=>endW.r2 (hs3.get rfl) (hs3.get rfl) ?_))
 have e1:zL (((l.length:Nat):Int)-1)=((l.length-1:Nat):Int):=by rw[zH (by omega) (by omega)];omega
 refine⟨_,_,rfl,λg=>absurd rfl g,λ_=>⟨_,ow.sl.len zQ rfl,_,by rw[e1];exact e9,hq h2 _ (w.ex0.mono (by omega)) λ_=>⟨λb' hb'=>?_,?_⟩⟩⟩
 ·cases hb'
  rcases(sp b hvb).1 with g|g
  ·exact g.elim
  ·exact g
 ·have:(zM (Ot m l)).take (l.length-1)=zM (YM l):=by
   unfold YM;rw[hmm,<-List.map_take,List.dropLast_eq_take,q8]
  rw[this]at s9;rw[Z1];exact s9
theorem zCB {tm:Tm}{a:Nat}{v:V}(ha:Nat.blt a 511=true):∀{l:Kn},Has tm l->(l.all λp=>!(Nat.beq p.1 a))=true->Has (Tb.set tm a v) l
 | [],_,_=>trivial
 | p::l,h,hk=>by
  rw[List.all_cons,oG]at hk;refine⟨?_,zCB ha h.2 hk.2⟩;rw[xg _ _ _ _ (show a<Tb.top from(z8 _ _).1 ha),if_neg ?_]
  ·exact h.1
  ·intro e
   rw[e]at hk;simp at hk
theorem _root_.Go.Sim.Has.self {tm:Tm}{a:Nat}{v:V}(ha:Nat.blt a 511=true):yB (Tb.set tm a v) a=v:=by
 rw[xg _ _ _ _ (show a<Tb.top from(z8 _ _).1 ha),if_pos rfl]
theorem _root_.Go.Sim.Vw.round {S:Nat->Prop}{hb h:H}{c c' il lp n df p1 p2:Nat}{L:List (Nat×O)}{tm:Tm}{asg body:Code}{x y:V}{l:Kn}{Q:V->H->Prop}(w:Vw S hb h c L) (hL:L[il]? = some (lp,.loop .ready none n tm #[p1,p2] asg body df)) (hn:h.next<=T.top) (ht:Has tm l)
  (hp:(Nat.blt p1 n && Nat.blt p2 n && Nat.blt p1 511 && Nat.blt p2 511 && !(Nat.beq p1 p2) && (l.all λp=>!(Nat.beq p.1 p1)) && (l.all λp=>!(Nat.beq p.1 p2)))=true)
  (ha:∀tm',Has tm' ((p1,x)::(p2,y)::l)->wpC P zA true (wZ asg) ⟨n,tm',[],h⟩ λe s1=>e = .normal/\s1.n=n/\s1.dfr=[]/\s1.heap=h /\
   ∀h1,Vw S hb h1 c (L.set il (lp,.loop .busy none n tm #[p1,p2] asg body df))->h1.next=h.next->wpC P zA true (wZ body) ⟨n,s1.tm,[],h1⟩ λe2 s2=>e2 = .normal/\s2.dfr=[]/\∃L',Vw S hb s2.heap c' L'/\s2.heap.next<=T.top/\L'[il]? = some (lp,.loop .busy none n tm #[p1,p2] asg body df) /\
    ∀h',Vw S hb h' c' (L'.set il (lp,.loop .ready none n tm #[p1,p2] asg body df))->h'.next=s2.heap.next->(∀b,b≠lp->h'.get b=s2.heap.get b)->Q (.bool true) h'):RR P lp [x,y] h Q:=by
 simp only[oG,Bool.not_eq_true']at hp;obtain⟨⟨⟨⟨⟨⟨k1,k2⟩,k3⟩,k4⟩,k5⟩,k6⟩,k7⟩:=hp;have hl:lp<T.top:=oI (w.lt il hL) hn;have hs:xy (#[p1,p2]:Array Nat).toList [x,y] n tm=some (Tb.set (Tb.set tm p1 x) p2 y):=by
  show cond (Nat.blt p1 n) (cond (Nat.blt p2 n) (some (Tb.set (Tb.set tm p1 x) p2 y)) none) none=_;rw[k1,k2];rfl
 have ht':Has (Tb.set (Tb.set tm p1 x) p2 y) ((p1,x)::(p2,y)::l):=by
  refine⟨?_,Has.self k4,zCB k4 (zCB k3 ht k6) k7⟩;rw[xg _ _ _ _ (show p2<Tb.top from(z8 _ _).1 k4),if_neg (λe=>?_)]
  ·exact Has.self k3
  ·have e:p1=p2:=e
   rw[e]at k5;simp at k5
 refine RR.intro hl (w.get il hL) hs (RC.of_wp zG asg (ZR _ (λe s1 h1=>?_) (ha _ ht')));obtain⟨e1,n1,d1,hp1,hk⟩:=h1;obtain⟨sn,st,sd,sh⟩:=s1;simp only at n1 d1 hp1 hk;subst n1 d1 hp1;refine⟨e1,_,_,_,_,_,_,_,w.get il hL,RC.of_wp zG body (ZR _ (λe s2 h2=>?_) (hk _ (w.upd il hL hn) rfl))⟩;obtain⟨rfl,d2,L',w2,t2,g2,hq⟩:=h2;have hl2:lp<T.top:=hl;show(match j3 lp .normal s2 with|some (.ret v h')=>Q v h'|_=>False)
 simp only[j3,d2,w2.get il g2];exact hq _ (w2.upd il g2 t2) rfl λb hb=>yy _ hl2 hb
theorem _root_.Go.Sim.Vw.range {S:Nat->Prop}{hb:H}{c:Nat}{L:List (Nat×O)}{f:Go.Operand}{ps:Array Nat}{asg body:Code}{s:St}{Q:AX->St->Prop}{g:Nat}{captured:List V}(w:Vw S hb s.heap c L)
  (hf:yQ s.tm f=some (.func (.func g) [] captured)) (hn:s.heap.next+2<=T.top)
  (hk:∀h1,Vw S hb h1 (c+2) ((s.heap.next+1,.loop .ready none s.n s.tm ps asg body s.heap.next)::(s.heap.next,.deferred true)::L)->h1.next=s.heap.next+2 ->
   RF P zA g (.yield (s.heap.next+1)::captured) h1 λ_ h3=>∃c' L',Vw S hb h3 c' ((s.heap.next+1,.loop .ready none s.n s.tm ps asg body s.heap.next)::L')/\h3.next<=T.top /\
    ∀h4 o,Vw S hb h4 c' ((s.heap.next+1,o)::L')->h4.next=h3.next->(∀b,b≠s.heap.next+1->h4.get b=h3.get b)->Q .normal ⟨s.n,s.tm,.coll s.heap.next::s.dfr,h4⟩):RC P false (.rangeFunc f ps asg body) s Q:=by
 refine RC.rangeFunc zG hf (by omega) ?_;have w1:=w.new (h':=s.heap.new (.deferred true)) rfl (by omega);have n1:(s.heap.new (.deferred true)).next=s.heap.next+1:=zI _ _;have w2:=w1.new (h':=(s.heap.new (.deferred true)).new (.loop .ready none s.n s.tm ps asg body s.heap.next)) rfl (by omega);rw[n1]at w2;have n2:((s.heap.new (.deferred true)).new (.loop .ready none s.n s.tm ps asg body s.heap.next)).next=s.heap.next+2:=by rw[zI,n1]
 refine RF.mono (hk _ w2 n2) ?_;rintro v h3 ⟨c',L',w3,t3,hq⟩;have hl:s.heap.next+1<T.top:=oI (w3.lt 0 rfl) t3;simp only[j2,w3.get 0 rfl];exact hq _ _ (w3.upd 0 rfl t3) rfl λb hb=>yy _ hl hb
theorem _root_.Go.Sim.Vw.ends {S:Nat->Prop}{hb h:H}{c i d:Nat}{L:List (Nat×O)}(w:Vw S hb h c L) (hL:L[i]? = some (d,.deferred true)) (hn:h.next<=T.top) {k:H->Prop}(hk:∀h',Vw S hb h' c (L.set i (d,.deferred false))->h'.next=h.next->(∀b,b≠d->h'.get b=h.get b)->k h'):wpD [.coll d] h k:=by
 have hd:d<T.top:=oI (w.lt i hL) hn;simp only[wpD,w.get i hL];exact hk _ (w.upd i hL hn) rfl λb hb=>yy _ hd hb
structure GC (l:List Int):Prop where
 len:l.length<=256
 rng:∀x∈l,0<=x/\x<=1000
def zu (l:List Int):Nat:=(l.map Int.toNat).sum
theorem Xx (l:List Int) (x:Int):zu (l++[x])=zu l+x.toNat:=by simp[zu]
theorem zPw {l:List Int}(g:∀x∈l,0<=x/\x<=1000):zu l<=1000*l.length:=by
 induction l with
 | nil=>simp[zu]
 | cons x l ih =>
  have h1:=g x (by simp);have h2:=ih λy hy=>g y (by simp[hy])
  have:zu (x::l)=x.toNat+zu l:=by simp[zu]
  rw[this,oS];omega
theorem GC.take {l:List Int}(g:GC l) (i:Nat):∀x∈l.take i,0<=x/\x<=1000:=λx hx=>g.rng x (List.mem_of_mem_take hx)
theorem GC.at {l:List Int}(g:GC l) {i:Nat}(hi:i<l.length):0<=l[i]/\l[i]<=1000:=g.rng _ (oQ hi)
theorem GC.sum {l:List Int}(g:GC l) (i:Nat):zu (l.take i)<=256000:=by
 have:=zPw (g.take i);have:=g.len;rw[List.length_take]at *;omega
theorem zO4 {v:V}{l:List Int}{h:H}{Q:V->H->Prop}(sl:Sl h v 1 l.length (zM l)) (g:GC l) (hq:Q (.tuple [.int .i64 (zu l:Nat),.bool true]) h):RF P zA 234 [v] h Q:=by
 have hl:=g.len;refine RF.enterS zG zZG (ble _ _ rfl) (ble _ _ rfl) z1T ⟨_,sl.len zQ rfl,Has.nil.on λtm hs=>?_⟩
 refine wpC.round (λk tm h'=>∃i:Nat,i<=l.length/\k=l.length-i/\h'=h/\Has tm [(8,.int .i64 i),(7,.int .i64 l.length),(6,v),(2,.int .i64 (zu (l.take i):Nat)),(3,.bool false)]) l.length ⟨0,by omega,by omega,rfl,hs.sub (by kernel_rfl)⟩ ?_
 clear hs;rintro k tm h' ⟨i,h1,rfl,rfl,hs⟩;refine wpC.at hs zRJ rfl rfl ⟨λc=>?_,λc=>hs.on λtm' hs'=>?_⟩
 ·have hi:i<l.length:=by omega
  obtain⟨b,o,e1,e2⟩:=zg sl hi;have hr:=g.at hi;have hb:=g.sum i;have ht:=yH hi;generalize l[i]=x at e2 hr ht;have ew:zL (((zu (l.take i):Nat):Int)+x)=((zu (l.take (i+1)):Nat):Int):=by
   rw[zH (by omega) (by omega),ht,Xx];omega
  refine⟨b,o,e1,x,e2,λc2=>by omega,λc2=>⟨λc3=>by omega,λc3=>⟨λc4=>?_,λc4=>hs.on λtm' hs'=>?_⟩⟩⟩
  ·rw[zH (by omega) (by omega)]at c4;omega
  ·refine wpS.at hs' zSg rfl rfl (hs'.on λtm2 hs2=>?_)
   refine thenC.nx (wpS.at hs2 zSh rfl rfl (hs2.on λtm3 hs3=>hs3.slt λtm4 hs4=>⟨rfl,rfl,l.length-(i+1),by omega,i+1,by omega,rfl,rfl,?_⟩))
   rw[<-zf (by omega),<-ew];exact hs4.sub (by kernel_rfl)
 ·have hi:i=l.length:=by omega
  subst hi;rw[List.take_length]at hs';refine thenC.left (wpS.at hs' zSi rfl rfl (hs'.on λtm2 hs2=>?_));exact endW.r2 (hs2.get rfl) (hs2.get rfl) hq
theorem Xm {v:V}{l:List Int}{h:H}{Q:V->H->Prop}(sl:Sl h v 1 l.length (zM l)) (g:GC l) (hq:Q (.int .i64 0) h):RF P zA 169 [v] h Q:=by
 have hl:=g.len;exact RF.enterS zG zYf (ble _ _ rfl) (ble _ _ rfl) z0s ⟨_,sl.len zQ rfl,λc=>by omega,λc=>zO4 sl g ⟨_,true,rfl,λ_=>hq,λq=>(by cases q)⟩⟩
theorem zJx {v:V}{l:List Int}{h:H}{Q:V->H->Prop}(sl:Sl h v 1 l.length (zM l)) (g:GC l) (hq:Q (.tuple [.int .i64 (zu l:Nat),.int .i64 0]) h):RF P zA 284 [v] h Q :=
 RF.enterS zG zZ8 (ble _ _ rfl) (ble _ _ rfl) z1k (Xm sl g ⟨_,rfl,λq=>absurd rfl q,λ_=>zO4 sl g ⟨_,true,rfl,λ_=>hq,λq=>(by cases q)⟩⟩)
theorem zEJ {l:List Int}{v:V}{lp pc:Nat}{h:H}{Q:V->H->Prop}(I:Nat->H->Prop) (hl:l.length<=1000) (h0:I 0 h) (hpc:zO zA 23 h (.ptr pc 0)=some v)
  (hsl:∀i h',I i h'->Sl h' v 1 l.length (zM l)) (hskip:∀i h' (hi:i<l.length),¬0<l[i]->I i h'->I (i+1) h')
  (hstep:∀i h' (hi:i<l.length),0<l[i]->I i h'->RR P lp [.int .i64 i,.int .i64 l[i]] h' λr h2=>r = .bool true/\I (i+1) h2)
  (hq:∀h',I l.length h'->Q (.tuple []) h'):RF P zA 235 [.yield lp,.ptr pc 0] h Q:=by
 refine RF.enterS zG zZH (ble _ _ rfl) (ble _ _ rfl) z1U ⟨v,hpc,_,(hsl 0 h h0).len zQ rfl,Has.nil.on λtm hs=>?_⟩
 refine wpC.round (λk tm h'=>∃i:Nat,i<=l.length/\k=l.length-i/\I i h'/\Has tm [(7,.int .i64 i),(6,.int .i64 l.length),(5,v),(0,.yield lp)]) l.length ⟨0,by omega,by omega,h0,hs.sub (by kernel_rfl)⟩ ?_
 clear hs;rintro k tm h' ⟨i,h1,rfl,ii,hs⟩;refine wpC.at hs zRK rfl rfl ⟨λc=>?_,λc=>hs.on λtm' hs'=>?_⟩
 ·have hi:i<l.length:=by omega
  obtain⟨b,o,e1,e2⟩:=zg (hsl i h' ii) hi;refine⟨b,o,e1,_,e2,λc2=>?_,λc2=>hs.on λtm' hs'=>⟨rfl,rfl,l.length-(i+1),by omega,i+1,by omega,rfl,hskip i h' hi c2 ii,?_⟩⟩
  ·show RR P lp [.int .i64 (i:Nat),.int .i64 l[i]] h' _
   refine RR.mono (hstep i h' hi c2 ii) ?_;rintro r h2 ⟨rfl,i2⟩;refine zE6 (Yz (hs.on λtm' hs'=>⟨rfl,rfl,l.length-(i+1),by omega,i+1,by omega,rfl,i2,?_⟩))
   rw[<-zf (by omega)];exact hs'.sub (by kernel_rfl)
  ·rw[<-zf (by omega)]
   exact hs'.sub (by kernel_rfl)
 ·have hi:i=l.length:=by omega
  subst hi;show endW zA ⟨22,[],zIk⟩ Q (zK 0 (.exit 0)) _;rw[xf];exact hq h' ii
theorem zG2 {l:List Int}{v:V}{lp pc:Nat}{h:H}{Q:V->H->Prop}(I:Nat->H->Prop) (hl:l.length<=1000) (h0:I 0 h) (hpc:zO zA 23 h (.ptr pc 0)=some v)
  (hsl:∀i h',I i h'->Sl h' v 1 l.length (zM l)) (hskip:∀i h' (hi:i<l.length),¬0<l[i]->I i h'->I (i+1) h')
  (hstep:∀i h' (hi:i<l.length),0<l[i]->I i h'->RR P lp [.int .i64 i,.int .i64 l[i]] h' λr h2=>r = .bool true/\I (i+1) h2)
  (hq:∀h',I l.length h'->Q (.tuple []) h'):RF P zA 285 [.yield lp,.ptr pc 0] h Q:=by
 refine RF.enterS zG zZ9 (ble _ _ rfl) (ble _ _ rfl) z1l ⟨v,hpc,_,(hsl 0 h h0).len zQ rfl,Has.nil.on λtm hs=>?_⟩
 refine wpC.round (λk tm h'=>∃i:Nat,i<=l.length/\k=l.length-i/\I i h'/\Has tm [(7,.int .i64 i),(6,.int .i64 l.length),(5,v),(0,.yield lp)]) l.length ⟨0,by omega,by omega,h0,hs.sub (by kernel_rfl)⟩ ?_
 clear hs;rintro k tm h' ⟨i,h1,rfl,ii,hs⟩;refine wpC.at hs zRS rfl rfl ⟨λc=>?_,λc=>hs.on λtm' hs'=>?_⟩
 ·have hi:i<l.length:=by omega
  obtain⟨b,o,e1,e2⟩:=zg (hsl i h' ii) hi;refine⟨b,o,e1,_,e2,λc2=>?_,λc2=>hs.on λtm' hs'=>⟨rfl,rfl,l.length-(i+1),by omega,i+1,by omega,rfl,hskip i h' hi c2 ii,?_⟩⟩
  ·show RR P lp [.int .i64 (i:Nat),.int .i64 l[i]] h' _
   refine RR.mono (hstep i h' hi c2 ii) ?_;rintro r h2 ⟨rfl,i2⟩;refine zE6 (Yz (hs.on λtm' hs'=>⟨rfl,rfl,l.length-(i+1),by omega,i+1,by omega,rfl,i2,?_⟩))
   rw[<-zf (by omega)];exact hs'.sub (by kernel_rfl)
  ·rw[<-zf (by omega)]
   exact hs'.sub (by kernel_rfl)
 ·have hi:i=l.length:=by omega
  subst hi;show endW zA ⟨22,[],zIl⟩ Q (zK 0 (.exit 0)) _;rw[xf];exact hq h' ii
theorem zCI {h:H}{v:V}{k n:Nat}{xs:List V}(s:Sl h v k n xs):V.one v=true:=by
 have:=s.one1.2;simpa [zU]using this
theorem GC.cnt1 {l:List Int}(g:GC l) {i:Nat}(hi:i<l.length) (h0:¬0<l[i]):xM (l.take (i+1))=xM (l.take i):=by
 have:=g.at hi;rw[yH hi,qn,if_neg (by omega)];rfl
theorem GC.cnt2 {l:List Int}{i:Nat}(hi:i<l.length) (h0:0<l[i]):xM (l.take (i+1))=xM (l.take i)+1:=by
 rw[yH hi,qn,if_pos (by omega)]
theorem J4 {v:V}{l:List Int}{h:H}{Q:V->H->Prop}(sl:Sl h v 1 l.length (zM l)) (g:GC l) (hq:Q (.tuple [.int .i64 (xM l:Nat),.int .i64 0]) h):RF P zA 101 [v] h Q:=by
 show RF P zA 101 ((λv=>[]++v::[]) v) h Q;refine RF.ro (One.list (λa ha=>by cases ha) (λa ha=>by cases ha)) sl (qS l) (ze rfl) (λv0 h0 s0 hn0 hl0=>?_) hq;clear sl hq h Q v;have ht:=zt;have hlen:=g.len;show RF P zA 101 [v0] h0 _;refine RF.enterS zG zYQ (ble _ _ rfl) (ble _ _ rfl) z03 (Xm s0 g ⟨_,rfl,λq=>absurd rfl q,λ_=>⟨rfl,by omega,?_⟩⟩);rintro p3 h4 rfl e4;have w4:=(Vw.nil (S:=zW) (h:=h0)).new e4 (by omega);have t4:=w4.top;obtain⟨h5,e5,w5,n5,_⟩:=w4.st (cx:=zA) 0 (t:=3) (f:=0) (u:=.int .i64 0) rfl (by omega) zi rfl (oJ _) rfl rfl;have t5:=w5.top;refine⟨h5,e5,RF.enterS zG zTf (ble _ _ rfl) (ble _ _ rfl) zU4 ⟨zCI s0,by omega,?_⟩⟩;rintro p6 h6 rfl e6;have w6:=w5.new e6 (by omega);have t6:=w6.top;refine⟨_,rfl,Has.nil.on λtm hs=>?_⟩
 refine Vw.range (s:=⟨_,tm,[],h6⟩) w6 (captured:=[.ptr h5.next 0]) (show yQ tm (t 12)=_ from congrArg some (hs.get rfl)) (by show h6.next+2<=_;omega) λh7 w7 n7=>?_
 refine zEJ (l:=l) (v:=v0) (λi h'=>Vw zW h0 h' 4 [(h6.next+1,.loop .ready none 18 tm #[13,14] zKU zLQ h6.next),(h6.next,.deferred true),(h5.next,.cells (.ls [v0]) ⟨0,24,0⟩ true false),(h0.next,.cells (.ls [.int .i64 (xM (l.take i):Nat)]) ⟨0,3+1,0⟩ true false)]) (by omega) w7 (w7.ld1 2 rfl zQ rfl rfl) (λi h' w=>s0.ext w.ex0) (λi h' hi c w=>by rw[g.cnt1 hi c];exact w) (λi h' hi c w=>?_) λh8 w8=>?_
 ·have tw:=w.top
  have hc:=qm (l.take i);rw[List.length_take]at hc;refine w.round (il:=0) (c':=4) rfl (by omega) (hs.sub (l':=[(5,.ptr h0.next 0)]) (by kernel_rfl)) rfl λtm0 hs0=>?_
  refine wpC.at hs0 zQ0 rfl rfl (hs0.on λtm1 hs1=>⟨rfl,rfl,rfl,rfl,λh1 w1 n1=>?_⟩);obtain⟨h2,e2,w2,n2,_⟩:=w1.st (cx:=zA) 3 (t:=3) (f:=0) (u:=.int .i64 (zL ((xM (l.take i):Nat)+1))) rfl (by omega) zi rfl (oJ _) rfl rfl;refine wpC.at hs1 zQ5 rfl rfl ⟨_,w1.ld1 3 rfl zi rfl rfl,h2,e2,hs1.on λtm2 hs2=>⟨rfl,rfl,_,w2,by show h2.next<=_;omega,rfl,λh3 w3 n3 _=>⟨rfl,?_⟩⟩⟩
  rw[GC.cnt2 hi c,<-zf (by omega)];exact w3
 ·have t8:=w8.top
  rw[List.take_length]at w8;refine⟨4,_,w8,by omega,λh9 o w9 n9 _=>?_⟩
  show zI6 false zG6 ⟨18,tm,[.coll h6.next],h9⟩ (endW zA ⟨18,[.tmp 2,.tmp 3],zAZ⟩ _);refine wpS.at hs zRa rfl rfl ⟨_,w9.ld1 3 rfl zi rfl rfl,hs.on λtm2 hs2=>?_⟩
  show wpD [.coll h6.next] h9 _;refine w9.ends (i:=1) rfl (by omega) λh10 w10 n10 _=>?_
  show V.tuple [yB tm2 2,yB tm2 3]=_;rw[hs2.get (t:=2) rfl,hs2.get (t:=3) rfl]
def jj (l:List Int):Nat->Int
 | 0=>-1
 | n+1=>if 0<l[n]?.getD 0 then n else jj l n
theorem YL {l:List Int}{i:Nat}(hi:i<l.length):jj l (i+1)=if 0<l[i] then (i:Int) else jj l i:=by
 show(if 0<l[i]?.getD 0 then (i:Int) else jj l i)=_;rw[oM hi];rfl
theorem Xy {l:List Int}(g:GC l):∀n,n<=l.length->(0<=jj l n↔xM (l.take n)≠0)
 | 0,_=>by simp[jj,xM]
 | n+1,h=>by
  have ih:=Xy g n (by omega);rw[YL (by omega)];by_cases c:0<l[n]
  ·rw[if_pos c,GC.cnt2 (by omega) c];omega
  ·rw[if_neg c,g.cnt1 (by omega) c];exact ih
theorem zPz {v:V}{l:List Int}{h:H}{Q:V->H->Prop}(sl:Sl h v 1 l.length (zM l)) (g:GC l) (hc:xM l≠0) (hq:Q (.tuple [.int .i64 (jj l l.length),.int .i64 0]) h):RF P zA 237 [v] h Q:=by
 show RF P zA 237 ((λv=>[]++v::[]) v) h Q;refine RF.ro (One.list (λa ha=>by cases ha) (λa ha=>by cases ha)) sl (qS l) (ze rfl) (λv0 h0 s0 hn0 hl0=>?_) hq;clear sl hq h Q v;have ht:=zt;have hlen:=g.len;have hlp:=(Xy g l.length (oO _)).2 (by rw[List.take_length];exact hc);show RF P zA 237 [v0] h0 _;refine RF.enterS zG zZJ (ble _ _ rfl) (ble _ _ rfl) z1W (Xm s0 g ⟨_,rfl,λq=>absurd rfl q,λ_=>⟨rfl,by omega,?_⟩⟩);rintro p3 h4 rfl e4;have w4:=(Vw.nil (S:=zW) (h:=h0)).new e4 (by omega);have t4:=w4.top;obtain⟨h5,e5,w5,n5,_⟩:=w4.st (cx:=zA) 0 (t:=3) (f:=0) (u:=.int .i64 (-1)) rfl (by omega) zi rfl (oJ _) rfl rfl;have t5:=w5.top;refine⟨h5,e5,RF.enterS zG zTf (ble _ _ rfl) (ble _ _ rfl) zU4 ⟨zCI s0,by omega,?_⟩⟩;rintro p6 h6 rfl e6;have w6:=w5.new e6 (by omega);have t6:=w6.top;refine⟨_,rfl,Has.nil.on λtm hs=>?_⟩
 refine Vw.range (s:=⟨_,tm,[],h6⟩) w6 (captured:=[.ptr h5.next 0]) (show yQ tm (t 13)=_ from congrArg some (hs.get rfl)) (by show h6.next+2<=_;omega) λh7 w7 n7=>?_
 refine zEJ (l:=l) (v:=v0) (λi h'=>Vw zW h0 h' 4 [(h6.next+1,.loop .ready none 20 tm #[14,15] zKW zLS h6.next),(h6.next,.deferred true),(h5.next,.cells (.ls [v0]) ⟨0,24,0⟩ true false),(h0.next,.cells (.ls [.int .i64 (jj l i)]) ⟨0,3+1,0⟩ true false)]) (by omega) w7 (w7.ld1 2 rfl zQ rfl rfl) (λi h' w=>s0.ext w.ex0) (λi h' hi c w=>by rw[YL hi,if_neg c];exact w) (λi h' hi c w=>?_) λh8 w8=>?_
 ·have tw:=w.top
  refine w.round (il:=0) (c':=4) rfl (by omega) (hs.sub (l':=[(5,.ptr h0.next 0)]) (by kernel_rfl)) rfl λtm0 hs0=>?_
  refine wpC.at hs0 zQ3 rfl rfl (hs0.on λtm1 hs1=>⟨rfl,rfl,rfl,rfl,λh1 w1 n1=>?_⟩);obtain⟨h2,e2,w2,n2,_⟩:=w1.st (cx:=zA) 3 (t:=3) (f:=0) (u:=.int .i64 (i:Nat)) rfl (by omega) zi rfl (oJ _) rfl rfl;refine wpC.at hs1 zQ8 rfl rfl ⟨h2,e2,hs1.on λtm2 hs2=>⟨rfl,rfl,_,w2,by show h2.next<=_;omega,rfl,λh3 w3 n3 _=>⟨rfl,?_⟩⟩⟩
  rw[YL hi,if_pos c];exact w3
 ·have t8:=w8.top
  refine⟨4,_,w8,by omega,λh9 o w9 n9 _=>?_⟩
  show zI9 false zGb ⟨20,tm,[.coll h6.next],h9⟩ (endW zA ⟨20,[.tmp 2,.tmp 3],zA0⟩ _);refine wpS.at hs zSj rfl rfl ⟨_,w9.ld1 3 rfl zi rfl rfl,λq=>by omega,λ_=>⟨_,w9.ld1 3 rfl zi rfl rfl,hs.on λtm2 hs2=>?_⟩⟩
  show wpD [.coll h6.next] h9 _;refine w9.ends (i:=1) rfl (by omega) λh10 w10 n10 _=>?_
  show V.tuple [yB tm2 2,yB tm2 3]=_;rw[hs2.get (t:=2) rfl,hs2.get (t:=3) rfl]
theorem Kj {v:V}{l:List Int}{h:H}{Q:V->H->Prop}(sl:Sl h v 1 l.length (zM l)) (g:GC l) (hc:xM l≠0) (hq:Q (.tuple [.int .i64 (zu l:Nat),.int .i64 (xM l:Nat),.int .i64 0]) h):RF P zA 236 [v] h Q :=
 RF.enterS zG zZI (ble _ _ rfl) (ble _ _ rfl) z1V (zJx sl g ⟨_,_,rfl,λq=>absurd rfl q,λ_=>J4 sl g ⟨_,_,rfl,λq=>absurd (by omega) hc,λ_=>hq⟩⟩)
theorem zWY {v:V}{l:List Int}{h:H}{Q:V->H->Prop}(sl:Sl h v 1 l.length (zM l)) (g:GC l) (hc:xM l≠0) (h12:xM l<=12) (hs:zu l<=255) (hq:Q (.tuple [.int .i64 5,.int .i64 0]) h):RF P zA 171 [v,.int .i64 6] h Q:=by
 refine RF.enterS zG zYg (ble _ _ rfl) (ble _ _ rfl) z0t (Kj sl g hc ⟨_,_,_,rfl,λq=>absurd rfl q,λ_=>⟨λq=>absurd q (by decide),λ_=>⟨λq=>absurd q (by decide),λ_=>Has.nil.on λtm hs=>?_⟩⟩⟩)
 refine wpS.at hs zSF rfl rfl ?_;refine⟨((1*2^6:Nat):Int),zb (a:=1) (n:=6) (by decide) (by decide),λq=>by omega,λ_=>hs.on λtm2 hs2=>?_⟩
 refine thenC.nx (hs2.sealK λtm3 hs3=>?_);have hb:zT (xM l)<=5:=yE (by omega);refine wpS.at hs3 zSG rfl rfl (KI (by omega) ⟨_,rfl,λc=>?_,λc=>hs3.on λtm4 hs4=>?_⟩)
 ·have h8:zT (zu l-1)<=8:=yE (by omega)
  have e1:zL (((zu l:Nat):Int)-1)=((zu l-1:Nat):Int):=by rw[zH (by omega) (by omega)];omega
  have e2:=kG (zu l-1);rw[e1];refine zHe (by omega) ⟨_,rfl,hs3.on λtm4 hs4=>?_⟩
  refine wpS.at hs4 zIS rfl rfl (hs4.on λtm5 hs5=>hs5.slt λtm7 hs7=>?_);have e3:min (6:Int) (max (max 5 (hi ((xM l:Nat):Int)+1)) (zL (hi ((zu l-1:Nat):Int)-2)))=5:=by
   rw[kG,zH (by omega) (by omega)];omega
  rw[e3]at hs7;exact endW.r2 (hs7.get rfl) (hs7.get rfl) hq
 ·refine wpS.at hs4 zIS rfl rfl (hs4.on λtm5 hs5=>hs5.slt λtm7 hs7=>?_)
  have e3:min (6:Int) (max 5 (hi ((xM l:Nat):Int)+1))=5:=by rw[kG];omega
  rw[e3]at hs7;exact endW.r2 (hs7.get rfl) (hs7.get rfl) hq
open Go (Oper)
section
variable {c:Ctx}
theorem jE {o:Oper}{l ops:List Oper}{bs:List Nat}{m r k n t:Nat}{tm:Tm}{d:List AD}{h:H}{v:V}{vals:List V}{res:List Qy×St}(hg:o.guard=none) (ha:yD c o (yQ tm) (za h)=some (.val v (za h))) (hd:o.dst=some t) (ht:Nat.blt t n=true) (hn:h.next<=T.top) (hl:h.low<=T.top)
  (e:jZ c ops bs m r (k+1) l ⟨n,Tb.set tm t v,d,h⟩ vals=some res):jZ c ops bs m (r+1) k (o::l) ⟨n,tm,d,h⟩ vals=some res:=by
 have hw:zZ ops tm o=true:=by unfold zZ;rw[hg]
 have hst:Go.Sim.stepG c o ⟨n,tm,d,za h⟩ vals=some ([],⟨n,Tb.set tm t v,d,za h⟩,vals):=by
  unfold Go.Sim.stepG;simp only[ha];unfold yF;simp only[hd,ht,oK]
 show cond (zZ ops tm o) (match Go.Sim.stepG c o ⟨n,tm,d,za h⟩ vals with|some (qs,s',vals')=>_|none=>none) _=_
 rw[hw,oK,hst];show cond (Nat.ble h.next T.top || _) (cond (yl d d) (match jZ c ops bs m r (k+1) l ⟨n,Tb.set tm t v,d,yh h (za h)⟩ vals with|some (qs2,s2)=>some ([]++qs2,s2)|none=>none) none) none=_
 rw[oC hn,Bool.true_or,oK,xw,oK,zED hl,e];rfl
theorem zFs {o:Oper}{l ops:List Oper}{bs:List Nat}{m r k n t:Nat}{tm:Tm}{d:List AD}{h:H}{v:V}{f:Nat}{args vals:List V}{qs:List Qy}{s':St}(hg:o.guard=none) (ha:yD c o (yQ tm) (za h)=some (.call f args)) (hd:o.dst=some t) (ht:Nat.blt t n=true) (hn:h.next<=T.top) (hl:h.low<=T.top)
  (e:jZ c ops bs m r (k+1) l ⟨n,Tb.set tm t v,d,h⟩ vals=some (qs,s')):jZ c ops bs m (r+1) k (o::l) ⟨n,tm,d,h⟩ (v::vals)=some (((f,args),(za h,v))::qs,s'):=by
 have hw:zZ ops tm o=true:=by unfold zZ;rw[hg]
 have hst:Go.Sim.stepG c o ⟨n,tm,d,za h⟩ (v::vals)=some ([((f,args),(za h,v))],⟨n,Tb.set tm t v,d,za h⟩,vals):=by
  unfold Go.Sim.stepG;simp only[ha];unfold yF;simp only[hd,ht,oK]
 show cond (zZ ops tm o) (match Go.Sim.stepG c o ⟨n,tm,d,za h⟩ (v::vals)with|some (qs,s',vals')=>_|none=>none) _=_
 rw[hw,oK,hst];show cond (Nat.ble h.next T.top || _) (cond (yl d d) (match jZ c ops bs m r (k+1) l ⟨n,Tb.set tm t v,d,yh h (za h)⟩ vals with|some (qs2,s2)=>some ([((f,args),(za h,v))]++qs2,s2)|none=>none) none) none=_
 rw[oC hn,Bool.true_or,oK,xw,oK,zED hl,e];rfl
theorem zMg {o:Oper}{l ops:List Oper}{n t:Nat}{tm:Tm}{d:List AD}{h:H}{v:V}{vals:List V}{res:List Qy×St}(hg:o.guard=none) (ha:yD c o (yQ tm) h=some (.val v h)) (hd:o.dst=some t) (ht:Nat.blt t n=true)
  (e:XB c ops l ⟨n,Tb.set tm t v,d,h⟩ vals=some res):XB c ops (o::l) ⟨n,tm,d,h⟩ vals=some res:=by
 have hw:zZ ops tm o=true:=by unfold zZ;rw[hg]
 have hst:Go.Sim.stepG c o ⟨n,tm,d,h⟩ vals=some ([],⟨n,Tb.set tm t v,d,h⟩,vals):=by
  unfold Go.Sim.stepG;simp only[ha];unfold yF;simp only[hd,ht,oK]
 show cond (zZ ops tm o) (match Go.Sim.stepG c o ⟨n,tm,d,h⟩ vals with|some (qs,s',vals')=>(match XB c ops l s' vals' with|some (qs2,s2)=>some (qs++qs2,s2)|none=>none)|none=>none) _=_
 rw[hw,oK,hst];simp only[e,List.nil_append]
theorem zJY {o:Oper}{l ops:List Oper}{n t:Nat}{tm:Tm}{d:List AD}{h:H}{v:V}{f:Nat}{args vals:List V}{qs:List Qy}{s':St}(hg:o.guard=none) (ha:yD c o (yQ tm) h=some (.call f args)) (hd:o.dst=some t) (ht:Nat.blt t n=true)
  (e:XB c ops l ⟨n,Tb.set tm t v,d,h⟩ vals=some (qs,s')):XB c ops (o::l) ⟨n,tm,d,h⟩ (v::vals)=some (((f,args),(h,v))::qs,s'):=by
 have hw:zZ ops tm o=true:=by unfold zZ;rw[hg]
 have hst:Go.Sim.stepG c o ⟨n,tm,d,h⟩ (v::vals)=some ([((f,args),(h,v))],⟨n,Tb.set tm t v,d,h⟩,vals):=by
  unfold Go.Sim.stepG;simp only[ha];unfold yF;simp only[hd,ht,oK]
 show cond (zZ ops tm o) (match Go.Sim.stepG c o ⟨n,tm,d,h⟩ (v::vals)with|some (qs,s',vals')=>(match XB c ops l s' vals' with|some (qs2,s2)=>some (qs++qs2,s2)|none=>none)|none=>none) _=_
 rw[hw,oK,hst];simp only[e,List.cons_append,List.nil_append]
theorem zIy {l ops:List Oper}{bs:List Nat}{m k:Nat}{s:St}{vals:List V}{res:List Qy×St}(e:XB c ops l s vals=some res):jZ c ops bs m 0 k l s vals=some res:=by
 cases l with
 | nil=>exact e
 | cons o l=>exact e
end
def zCJ:List Oper:=z4T.toList
def oN (i:Nat):Oper:=(zCJ[i]?).getD default
theorem zQF:zCJ=[oN 0,oN 1,oN 2,oN 3,oN 4,oN 5,oN 6,oN 7,oN 8,oN 9]:=by kernel_rfl
theorem okN:xD zCJ=some 8:=by kernel_rfl
abbrev Zk:V:=.func (.func 241) [] []
section
variable (tm:Tm) (v:V) (b:Int) (x y i:Int) (p q o:Nat)
abbrev TN:Tm:=Tb.set (Tb.set (Tb.set (Tb.set (Tb.set (Tb.set (zE (zE tm [(0,v),(1,Zk),(5,.int .i64 b)]) [(10,(.int .i64 i)),(9,(.int .i64 y)),(8,v)]) 11 (.bool true)) 12 (.int .i64 i)) 13 (.ptr p o)) 14 (.int .i64 x)) 6 (.int .i64 i)) 7 (.int .i64 x)
def TN0:Tm:=TN tm v b x y i p o
def TN1:Tm:=Tb.set (TN0 tm v b x y i p o) 15 Zk
def TN2:Tm:=Tb.set (TN1 tm v b x y i p o) 16 (.int .i64 x)
def TN3:Tm:=Tb.set (TN2 tm v b x y i p o) 17 (.int .i64 x)
def TN4:Tm:=Tb.set (TN3 tm v b x y i p o) 18 Zk
def TN5:Tm:=Tb.set (TN4 tm v b x y i p o) 19 v
def TN6:Tm:=Tb.set (TN5 tm v b x y i p o) 20 (.int .i64 b)
def TN7 (a:V):Tm:=Tb.set (TN6 tm v b x y i p o) 21 a
def TN8 (a:V) (z:Int):Tm:=Tb.set (TN7 tm v b x y i p o a) 22 (.int .i64 z)
def TN9 (a:V) (z:Int):Tm:=Tb.set (TN8 tm v b x y i p o a z) 23 (.int .i64 z)
def TNX (a:V) (z:Int):Tm:=Tb.set (TN9 tm v b x y i p o a z) 24 (.bool (Xz z x))
variable (h:H) (a:V) (z:Int)
theorem aN0:yD zA (oN 0) (yQ (TN0 tm v b x y i p o)) h=some (.val Zk h):=by kernel_rfl
theorem aN1:yD zA (oN 1) (yQ (TN1 tm v b x y i p o)) h=some (.val (.int .i64 x) h):=by kernel_rfl
theorem aN2:yD zA (oN 2) (yQ (TN2 tm v b x y i p o)) h=some (.call 241 [.int .i64 x]):=by kernel_rfl
theorem aN3:yD zA (oN 3) (yQ (TN3 tm v b x y i p o)) h=some (.val Zk h):=by kernel_rfl
theorem aN4:yD zA (oN 4) (yQ (TN4 tm v b x y i p o)) h=some (.val v h):=by kernel_rfl
theorem aN5:yD zA (oN 5) (yQ (TN5 tm v b x y i p o)) h=some (.val (.int .i64 b) h):=by kernel_rfl
theorem eN6:(oN 6).op = .indexAddr 23 (t 19) (t 20)/\yQ (TN6 tm v b x y i p o) (t 19)=some v/\yQ (TN6 tm v b x y i p o) (t 20)=some (.int .i64 b):=⟨by kernel_rfl,by kernel_rfl,by kernel_rfl⟩
theorem eN7:(oN 7).op = .load 3 (t 21)/\yQ (TN7 tm v b x y i p o a) (t 21)=some a:=⟨by kernel_rfl,by kernel_rfl⟩
theorem aN8:yD zA (oN 8) (yQ (TN8 tm v b x y i p o a z)) h=some (.call 241 [.int .i64 z]):=by kernel_rfl
theorem aN9:yD zA (oN 9) (yQ (TN9 tm v b x y i p o a z)) h=some (.val (.bool (Xz z x)) h):=by kernel_rfl
theorem gN:yB (TNX tm v b x y i p o a z) 24 = .bool (Xz z x)/\yB (TNX tm v b x y i p o a z) 6 = .int .i64 i/\yB (TNX tm v b x y i p o a z) 10 = .int .i64 i/\yB (TNX tm v b x y i p o a z) 9 = .int .i64 y/\yB (TNX tm v b x y i p o a z) 8=v/\yB (TNX tm v b x y i p o a z) 5 = .int .i64 b/\yB (TNX tm v b x y i p o a z) 1=Zk/\yB (TNX tm v b x y i p o a z) 0=v :=
 ⟨by kernel_rfl,by kernel_rfl,by kernel_rfl,by kernel_rfl,by kernel_rfl,by kernel_rfl,by kernel_rfl,by kernel_rfl⟩
end
theorem dN:(oN 0).dst=some 15/\(oN 1).dst=some 16/\(oN 2).dst=some 17/\(oN 3).dst=some 18/\(oN 4).dst=some 19/\(oN 5).dst=some 20/\(oN 6).dst=some 21/\(oN 7).dst=some 22/\(oN 8).dst=some 23/\(oN 9).dst=some 24 :=
 ⟨by kernel_rfl,by kernel_rfl,by kernel_rfl,by kernel_rfl,by kernel_rfl,by kernel_rfl,by kernel_rfl,by kernel_rfl,by kernel_rfl,by kernel_rfl⟩
theorem guN:(oN 0).guard=none/\(oN 1).guard=none/\(oN 2).guard=none/\(oN 3).guard=none/\(oN 4).guard=none/\(oN 5).guard=none/\(oN 6).guard=none/\(oN 7).guard=none/\(oN 8).guard=none/\(oN 9).guard=none :=
 ⟨by kernel_rfl,by kernel_rfl,by kernel_rfl,by kernel_rfl,by kernel_rfl,by kernel_rfl,by kernel_rfl,by kernel_rfl,by kernel_rfl,by kernel_rfl⟩
theorem z21 {x:Int}{h:H}:RF P zA 241 [.int .i64 x] h λv' h'=>v' = .int .i64 x/\h'=h :=
 RF.enterS zG zZN (ble _ _ rfl) (ble _ _ rfl) z1Z ⟨rfl,rfl⟩
theorem zWT {tm:Tm}{v:V}{b x y i z:Int}{p o pb ob:Nat}{d:List AD}{h:H}{Q:AX->St->Prop}(hs:Has tm [(0,v),(1,Zk),(5,.int .i64 b)]) (hn:h.next<=T.top) (hl:h.low<=T.top) (e1:zV zA 23 v (.int .i64 b)=some (.ptr pb ob)) (e2:zO zA 3 h (.ptr pb ob)=some (.int .i64 z))
  (hq:∀tm',Has tm' [(24,.bool (Xz z x)),(6,.int .i64 i),(10,.int .i64 i),(9,.int .i64 y),(8,v),(5,.int .i64 b),(1,Zk),(0,v)]->Q .normal ⟨28,tm',d,h⟩) :
  wpDr P zA false z4T.toList ⟨28,Tb.set (Tb.set (Tb.set (Tb.set (Tb.set (Tb.set (zE tm [(10,(.int .i64 i)),(9,(.int .i64 y)),(8,v)]) 11 (.bool true)) 12 (.int .i64 i)) 13 (.ptr p o)) 14 (.int .i64 x)) 6 (.int .i64 i)) 7 (.int .i64 x),d,h⟩ Q:=by
 rw[<-ZC hs rfl];show wpDr P zA false zCJ ⟨28,TN0 tm v b x y i p o,d,h⟩ Q;obtain⟨d0,d1,d2,d3,d4,d5,d6,d7,d8,d9⟩:=dN;obtain⟨u0,u1,u2,u3,u4,u5,u6,u7,u8,u9⟩:=guN;have main:jZ zA zCJ (zp zCJ []) 8 8 0 zCJ ⟨28,TN0 tm v b x y i p o,d,h⟩ [.int .i64 x,.int .i64 z]=some ([((241,[.int .i64 x]),(za h,.int .i64 x)),((241,[.int .i64 z]),(h,.int .i64 z))],⟨28,TNX tm v b x y i p o (.ptr pb ob) z,d,h⟩):=by
  generalize zp zCJ []=bs;generalize hops:zCJ=ops;have hl6:ops=[oN 0,oN 1,oN 2,oN 3,oN 4,oN 5,oN 6,oN 7,oN 8,oN 9]:=by rw[<-hops];exact zQF
  have main:jZ zA ops bs 8 8 0 [oN 0,oN 1,oN 2,oN 3,oN 4,oN 5,oN 6,oN 7,oN 8,oN 9] ⟨28,TN0 tm v b x y i p o,d,h⟩ [.int .i64 x,.int .i64 z]=some ([((241,[.int .i64 x]),(za h,.int .i64 x)),((241,[.int .i64 z]),(h,.int .i64 z))],⟨28,TNX tm v b x y i p o (.ptr pb ob) z,d,h⟩):=by
   refine jE u0 (aN0 tm v b x y i p o _) d0 rfl hn hl ?_;refine jE u1 (aN1 tm v b x y i p o _) d1 rfl hn hl ?_;refine zFs u2 (aN2 tm v b x y i p o _) d2 rfl hn hl ?_;refine jE u3 (aN3 tm v b x y i p o _) d3 rfl hn hl ?_;refine jE u4 (aN4 tm v b x y i p o _) d4 rfl hn hl ?_;refine jE u5 (aN5 tm v b x y i p o _) d5 rfl hn hl ?_;refine jE u6 (aop_idx (eN6 tm v b x y i p o).1 (eN6 tm v b x y i p o).2.1 (eN6 tm v b x y i p o).2.2 e1) d6 rfl hn hl ?_;refine jE u7 (zK5 (eN7 tm v b x y i p o (.ptr pb ob)).1 (eN7 tm v b x y i p o (.ptr pb ob)).2 (show zO zA 3 (za h) (.ptr pb ob)=_ from e2)) d7 rfl hn hl ?_;refine zIy (zJY u8 (aN8 tm v b x y i p o _ _ _) d8 rfl (zMg u9 (aN9 tm v b x y i p o _ _ _) d9 rfl ?_));rfl
  rw[<-hl6]at main;exact main
 have g:=gN tm v b x y i p o (.ptr pb ob) z;refine wpDr.ans okN main (λq hq=>?_) (λa ha b hb hab=>?_) (hq _ ⟨g.1,g.2.1,g.2.2.1,g.2.2.2.1,g.2.2.2.2.1,g.2.2.2.2.2.1,g.2.2.2.2.2.2.1,g.2.2.2.2.2.2.2,trivial⟩)
 ·rcases oY.1 hq with rfl|hq
  ·exact z21.same
  ·rw[List.mem_singleton.1 hq];exact z21.same
 ·have:∀q∈[((241,[V.int .i64 x]),(za h,V.int .i64 x)),((241,[V.int .i64 z]),(h,V.int .i64 z))],q.1.2=[q.2.2]:=λq hq=>by
   rcases oY.1 hq with rfl|hq
   ·rfl
   ·rw[List.mem_singleton.1 hq]
  have h1:=this a ha;have h2:=this b hb;rw[hab,h2]at h1;exact(List.cons.inj h1).1.symm
def zx (l:List Int):Nat->Nat
 | 0=>0
 | n+1=>if l[zx l n]?.getD 0<l[n]?.getD 0 then n else zx l n
theorem Yo (l:List Int) (n:Nat):zx l (n+1)<=n:=by
 induction n with
 | zero=>unfold zx;split<;>simp[zx]
 | succ n ih=>unfold zx;split<;>omega
theorem zPu (l:List Int) (n:Nat):zx l n<=n:=by
 cases n with
 | zero=>exact oO _
 | succ n=>have:=Yo l n;omega
theorem Xv {l:List Int}{i:Nat}(hi:i<l.length) (hg:zx l i<l.length):zx l (i+1)=if l[zx l i]<l[i] then i else zx l i:=by
 show(if l[zx l i]?.getD 0<l[i]?.getD 0 then i else zx l i)=_;rw[oM hi,oM hg];rfl
theorem zDp {v:V}{l:List Int}{h:H}{Q:V->H->Prop}(sl:Sl h v 1 l.length (zM l)) (hl:l.length<=1000) (hn:h.next<=T.top) (hlow:h.low<=T.top) (hq:Q (.int .i64 (zx l l.length:Nat)) h):RF P zA 240 [v,Zk] h Q:=by
 refine RF.enterS zG zZM (ble _ _ rfl) (ble _ _ rfl) zWo ⟨_,sl.len zQ rfl,Has.nil.on λtm hs=>?_⟩
 refine wpC.round (λk tm h'=>∃i:Nat,i<=l.length/\k=l.length-i/\h'=h/\Has tm [(10,.int .i64 i),(9,.int .i64 l.length),(8,v),(5,.int .i64 (zx l i:Nat)),(0,v),(1,Zk)]) l.length ⟨0,by omega,by omega,rfl,hs.sub (by kernel_rfl)⟩ ?_
 clear hs;rintro k tm h' ⟨i,h1,rfl,rfl,hs⟩;refine wpC.at hs zOe rfl rfl ⟨λc=>?_,λc=>hs.on λtm' hs'=>?_⟩
 ·have hi:i<l.length:=by omega
  have hg:zx l i<l.length:=by have:=zPu l i;omega
  obtain⟨b,o,e1,e2⟩:=zg sl hi;obtain⟨b2,o2,e3,e4⟩:=zg sl hg;have hsu:=Xv hi hg;generalize l[i]=x at e2 hsu;generalize l[zx l i]=z at e4 hsu;refine⟨b,o,e1,x,e2,zWT (hs.sub (by kernel_rfl)) hn hlow e3 e4 λtm1 hs1=>thenC.nx (wpS.at hs1 zOf rfl rfl ?_)⟩
  cases hb:Xz z x with
  | true =>
   rw[hb]at hs1;rw[yo,decide_eq_true_iff]at hb;rw[if_pos hb]at hsu;refine hs1.on λtm2 hs2=>thenC.nx (wpS.at hs2 zEr rfl rfl (hs2.on λtm3 hs3=>hs3.slt λtm4 hs4=>⟨rfl,rfl,l.length-(i+1),by omega,i+1,by omega,rfl,rfl,?_⟩))
   rw[hsu,<-zf (by omega)];exact hs4.sub (by kernel_rfl)
  | false =>
   rw[hb]at hs1;rw[yo,decide_eq_false_iff_not]at hb;rw[if_neg hb]at hsu;refine hs1.on λtm2 hs2=>thenC.nx (wpS.at hs2 zEr rfl rfl (hs2.on λtm3 hs3=>hs3.slt λtm4 hs4=>⟨rfl,rfl,l.length-(i+1),by omega,i+1,by omega,rfl,rfl,?_⟩))
   rw[hsu,<-zf (by omega)];exact hs4.sub (by kernel_rfl)
 ·have hi:i=l.length:=by omega
  subst hi;refine thenC.left (wpS.at hs' zOg rfl rfl (hs'.on λtm2 hs2=>?_));exact endW.r1 (hs2.get rfl) hq
end Go.Proofs.YtnpeieeomokomaaGreat
