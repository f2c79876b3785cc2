/- TA. No condition. -/
import Derived.Test.YtnpeieeomokomaaGreatZCD
import Derived.Test.YtnpeieeomokomaaGreatZW
import Derived.WalkKit
import Derived.LaidEql
import Derived.Stop.Asserts
import Derived.RowKitTokens
import Derived.Below
set_option maxRecDepth 100000
set_option maxHeartbeats 2000000
namespace Go.Proofs.YtnpeieeomokomaaGreat
open Go.Sim
variable {h:H}{Q:V->H->Prop}
noncomputable abbrev P:=Tryz.prog
theorem ble (a b:Nat) (h:Nat.ble a b=true):a<=b:=oE h
theorem yD {live:List Nat}{jn f:Nat}{fi:FI}{args:List V}{w:Prop}(hf:(zA.fn.get f).map zI=some fi) (ha:Nat.ble args.length fi.n=true) (hn:Nat.ble fi.n 511=true) (e:wpS P zA live jn false fi.body ⟨fi.n,zC args 0 (Tb.leaf zB),[],h⟩ (endW zA fi Q)=w) (hw:w):RF P zA f args h Q:=RF.enterS kJ hf (ble _ _ ha) (ble _ _ hn) e hw
theorem yE (hn:h.nx<=T.top) (hl:h.low<=T.top):(h.nx<=(zM h).low/\(zM h).nx<=T.top)/\yG h (zM h)=h:=by
 refine⟨⟨hn,hn⟩,?_⟩;show(⟨h.tbl,h.nx,cond (Nat.ble h.low T.top) h.low T.top⟩:H)=h;rw[oC hl,oK]
theorem O8:∀(l:List UInt8) (i:Nat),Yo l i=l[i]?
 | [],_=>rfl
 | _::_,0=>rfl
 | _::l,i+1=>by rw[Yo,O8 l i];rfl
theorem jP {k:IntKind}{l:List UInt8}{i:Nat}{b:UInt8}(h:l[i]? = some b):xl zA 9 (.str l) (.int k (i:Int))=some (.int .u8 ((b.toNat:Nat):Int)):=by
 unfold xl;have e1:yp (i:Int)=some i:=rfl;simp only[e1,qh,O8,h];rfl
theorem yk:∀(l:List UInt8) (n:Nat),kX l n=n+l.length
 | [],n=>by simp[kX]
 | _::l,n=>by rw[kX,yk l];simp;omega
theorem Jx {s:List UInt8}{x y:Nat}(h1:x<=y) (h2:y<=s.length) :
  zq zA 9 h (.str s) (some (.int .i64 x)) (some (.int .i64 y)) none=some (.str (ZD s x y)):=by
 unfold zq;have e1:yp (x:Int)=some x:=rfl;have e2:yp (y:Int)=some y:=rfl;have e3:kX s 0=s.length:=by rw[yk];omega
 simp only[qh,Go.Sim.bnd,e1,e2,e3];rw[oC h2,oK];simp only;rw[oC h1,oK]
theorem zt:200000<T.top:=by decide
theorem zDD {n:Int}(hn:n<9223372036854775808) (hq:Q (.int .i64 (hi n)) h):RF P zA 216 [.int .i64 n] h Q:=by
 refine yD zZv rfl rfl z2C (Has.nil.on λtm hs=>?_);refine wpC.round (λk tm h'=>∃i:Nat,i<=63/\k=63-i/\h'=h/\Has tm [(5,.int .i64 i),(0,.int .i64 n),(3,.int .i64 (hiU n i))]) 63 ⟨0,by omega,rfl,rfl,by rw[show hiU n 0 = -1 by unfold hiU;rw[if_neg (by omega)]];exact hs.sub rfl⟩ ?_
 rintro k tm h' ⟨i,h1,rfl,rfl,hs⟩;refine wpC.av hs zSY rfl rfl ⟨λc=>⟨_,zGE (by omega),λc2=>hs.on λtm' hs'=>?_,λc2=>hs.on λtm' hs'=>?_⟩,λc=>hs.on λtm' hs'=>?_⟩
 ·have c3:=(KL (Xv i)).1 c2
  have e:zH ((i:Int)+1)=((i+1:Nat):Int):=by rw[zD (by omega) (by omega)];rfl
  refine⟨rfl,rfl,63-(i+1),by omega,i+1,by omega,rfl,rfl,?_⟩;rw[zFK,if_pos c3,<-e];exact hs'.sub rfl
 ·have c3:¬((2^i:Nat):Int)<=n:=λg=>c2 ((KL (Xv i)).2 g)
  have e:zH ((i:Int)+1)=((i+1:Nat):Int):=by rw[zD (by omega) (by omega)];rfl
  refine⟨rfl,rfl,63-(i+1),by omega,i+1,by omega,rfl,rfl,?_⟩;rw[zFK,if_neg c3,<-e];exact hs'.sub rfl
 ·have hi63:i=63:=by omega
  subst hi63;rw[zXD hn]at hs';refine thenC.left (wpS.av hs' zTX rfl rfl (hs'.on λtm2 hs2=>?_));exact endW.r1 (hs2.get rfl) hq
theorem OA {n:Int}(hn:n<9223372036854775808) (hq:Q (.int .i64 (hi n+1)) h):RF P zA 145 [.int .i64 n] h Q:=by
 have h1 : -1<=hi n/\hi n<63:=by
  unfold hi;split
  ·rename_i h0
   have:n.toNat.log2<63:=(Nat.log2_lt (by omega)).2 (by omega);omega
  ·omega
 refine yD zZb rfl rfl z1i (zDD hn ⟨_,rfl,?_⟩)
 rwa [zD (by omega) (by omega)]
theorem j5 {b:Bool}{e:Int}(hq:Q (.int .i64 (if b=true then e else 0)) h):RF P zA 250 [.bool b,.int .i64 e] h Q:=by
 refine yD z0M rfl rfl z2S ?_;cases b
 ·exact hq
 ·exact hq
def wT:List Int->Int
 | []=>0
 | x::l=>if x≠0 then x else wT l
theorem zBq {l:List Int}{i:Nat}(h:wT (l.take i)=0):wT l=wT (l.drop i):=by
 induction l generalizing i with
 | nil=>simp
 | cons x l ih =>
  cases i with
  | zero=>rfl
  | succ i =>
   simp only[List.take_succ_cons,wT]at h;split at h
   ·rename_i hx;exact absurd h hx
   ·rename_i hx
    show(if x≠0 then x else wT l)=wT (l.drop i);rw[if_neg hx];exact ih h
theorem qP {v:V}{l:List Int}(sl:Sl h v 1 l.length (l.map λn=>V.int .i64 n)) (hl:l.length<4611686018427387904) (hq:Q (.int .i64 (wT l)) h):RF P zA 248 [v] h Q:=by
 refine yD z0K rfl rfl z2Q ⟨_,sl.len zVQ rfl,Has.nil.on λtm hs=>?_⟩
 refine wpC.round (λk tm h'=>∃i:Nat,i<=l.length/\k=l.length-i/\h'=h/\wT (l.take i)=0/\Has tm [(8,.int .i64 i),(7,.int .i64 l.length),(6,v),(3,.int .i64 0)]) l.length ⟨0,by omega,by omega,rfl,by simp[wT],hs.sub rfl⟩ ?_
 rintro k tm h' ⟨i,h1,rfl,rfl,h2,hs⟩;refine wpC.av hs zS3 rfl rfl ⟨λc=>?_,λc=>hs.on λtm' hs'=>?_⟩
 ·have hi:i<l.length:=by omega
  have hg:l[i]? = some l[i]:=oO hi;obtain⟨b,o,e1,e2⟩:=sl.at1 (u:=.int .i64 l[i]) hi zVQ rfl zLX rfl rfl (by rw[oW,hg];rfl);have ed:wT l=if l[i]≠0 then l[i] else wT (l.drop (i+1)):=by
   rw[zBq h2,List.drop_eq_getElem_cons hi];rfl
  refine⟨b,o,e1,l[i],e2,λc2=>hs.on λtm' hs'=>?_,λc2=>hs.on λtm' hs'=>?_⟩
  ·rw[ed,if_pos c2]at hq
   refine thenC.left (wpS.av hs' zJ0 rfl rfl (hs'.on λtm2 hs2=>?_));exact endW.r1 (hs2.get rfl) hq
  ·have e:zH ((i:Int)+1)=((i+1:Nat):Int):=by rw[zD (by omega) (by omega)];rfl
   refine⟨rfl,rfl,l.length-(i+1),by omega,i+1,by omega,rfl,rfl,?_,?_⟩
   ·rw[List.take_add_one,hg]
    clear ed hq hs sl;generalize l.take i=z at h2 ⊢
    induction z with
    | nil=>simp only[List.nil_append,Option.toList_some,wT];rw[if_neg c2]
    | cons x z ih =>
     simp only[List.cons_append,wT]at h2 ⊢;split at h2
     ·rename_i hx;exact absurd h2 hx
     ·rename_i hx;rw[if_neg hx];exact ih h2
   ·rw[<-e];exact hs'.sub rfl
 ·have hi:i=l.length:=by omega
  subst hi;rw[List.take_length]at h2;rw[h2]at hq;refine thenC.left (wpS.av hs' zJ0 rfl rfl (hs'.on λtm2 hs2=>?_));exact endW.r1 (hs2.get rfl) hq
theorem zGD {left:Nat}(hl:left<=1048576) (hn:h.nx<=T.top) (hw:h.low<=T.top) (hq:Q (.tuple [.int .i64 (zQ (left+1):Nat),.int .i64 ((2^zQ (left+1)-2-left:Nat):Int)]) h):RF P zA 209 [.int .i64 left] h Q:=by
 have hb:zQ (left+1)<=21:=yA (by omega);have h2:=Zb (left+1);have hp:2^zQ (left+1)<=2^21:=Nat.pow_le_pow_right (by decide) hb;have e1:zH ((left:Int)+1)=((left+1:Nat):Int):=by rw[zD (by omega) (by omega)];rfl
 refine yD zZq rfl rfl z1x ?_;rw[e1];refine OA (by omega) ⟨_,rfl,⟨hn,hw⟩,((1*2^zQ (left+1):Nat):Int),?_,?_⟩
 ·rw[jc];exact yC (a:=1) (by omega) (by omega)
 ·rw[jc]
  have e2:zH (zH (((1*2^zQ (left+1):Nat):Int)-1)-((left+1:Nat):Int))=((2^zQ (left+1)-2-left:Nat):Int):=by
   rw[zD (n:=((1*2^zQ (left+1):Nat):Int)-1) (by omega) (by omega),zD (by omega) (by omega)];omega
  rw[e2];exact hq
def zp (s:List UInt8):Int:=match s.getLast? with
 | none=>-1
 | some b=>if b.toNat=0 then -1 else ((8*(s.length-1)+zQ b.toNat-1:Nat):Int)
theorem XY (s:List UInt8):zp s<8*s.length:=by
 unfold zp;cases h:s.getLast? with
 | none=>simp only;omega
 | some b =>
  simp only;have hl:s≠[]:=λg=>by rw[g]at h;cases h
  have:0<s.length:=List.length_pos_iff.2 hl;have hb:zQ b.toNat<=8:=yA (by have:=b.toNat_lt;omega);split<;>omega
theorem zIo {s:List UInt8}(hq:Q (.bool (decide (1048576<s.length))) h):RF P zA 305 [.agg [.str s]] h Q:=by
 refine RF.plain ?_ (zj rfl);refine yD z0h rfl rfl z2o ⟨by decide,?_⟩;rintro p h1 rfl e1;obtain⟨n1,x1,g1⟩:=zx e1 (by decide);refine⟨s,zX qh rfl g1 rfl,λc=>⟨XF _,?_⟩,λc=>⟨XF _,?_⟩⟩
 ·have c':(1048576:Int)<(s.length:Int):=c
  rwa [decide_eq_true (by omega)]at hq
 ·have c':¬(1048576:Int)<(s.length:Int):=c
  rwa [decide_eq_false (by omega)]at hq
theorem zRT {b:Nat}{h:H}{Q:V->H->Prop}(hb:b<256) (hq:Q (.int .i64 (zQ b:Nat)) h):RF P zA 322 [.int .u8 b] h Q:=by
 refine yD z0s rfl rfl z2z ⟨(zQ b:Nat),?_,?_⟩
 ·have hn:zQ b<=8:=yA (by omega)
  have e:(UInt8.ofNat (zQ b)).toNat=zQ b:=by rw[UInt8.toNat_ofNat'];omega
  rw[<-e];refine jP ?_;clear hq e hn Q h;revert b;decide +kernel
 ·have hn:zQ b<=8:=yA (by omega)
  rwa [zD (by omega) (by omega)]
theorem OM {s:List UInt8}(hs:s.length<=4611686018427387) (hq:Q (.int .i64 (zp s)) h):RF P zA 306 [.agg [.str s]] h Q:=by
 refine RF.plain ?_ (zj rfl);have hq:∀h':H,Plain (.int .i64 (zp s))/\Q (.int .i64 (zp s)) h:=λ_=>⟨ye _ _,hq⟩
 refine yD z0i rfl rfl z2p ⟨by decide,?_⟩;rintro p h1 rfl e1;obtain⟨n1,x1,g1⟩:=zx e1 (by decide);have hz:H0.nx=0:=rfl;have nn1:h1.nx<=T.top:=by have:=zt;omega
 have l1:h1.low<=T.top:=oQ x1.low (oP _);obtain⟨k1,k2⟩:=yE nn1 l1;refine⟨s,zX qh rfl g1 rfl,λc=>?_,λc=>?_⟩
 ·have:=hq H0
  rwa [show zp s = -1 by rw[c];rfl]at this
 obtain⟨b,hb⟩:∃b,s.getLast? = some b:=by
  cases hg:s.getLast? with
  | none=>exact absurd (List.getLast?_eq_none_iff.1 hg) c
  | some b=>exact⟨b,rfl⟩
 have hp:0<s.length:=List.length_pos_iff.2 c;have hi:s[s.length-1]? = some b:=by rw[<-List.getLast?_eq_getElem?];exact hb
 have ew:zH (Int.ofNat s.length-1)=((s.length-1:Nat):Int):=by
  show zH ((s.length:Int)-1)=_;rw[zD (by omega) (by omega)];omega
 have hx:xl zA 9 (.str s) (.int .i64 (zH (Int.ofNat s.length-1)))=some (.int .u8 ((b.toNat:Nat):Int)):=by rw[ew];exact jP hi
 refine⟨s,zX qh rfl g1 rfl,s,zX qh rfl g1 rfl,_,hx,λc2=>?_,λc2=>Has.nil.on λtm hs=>?_⟩
 ·have:=hq H0
  rwa [show zp s = -1 by unfold zp;rw[hb];simp only;rw[if_pos (by omega)]]at this
 have hb8:=b.toNat_lt;have hn8:zQ b.toNat<=8:=yA (by omega);have hn1:0<zQ b.toNat:=by
  unfold zQ;rw[if_neg (by omega)];omega
 have eb:zp s=((8*(s.length-1)+zQ b.toNat-1:Nat):Int):=by unfold zp;rw[hb];simp only;rw[if_neg (by omega)]
 refine wpS.av hs zTy rfl rfl ⟨⟨nn1,l1⟩,?_⟩;refine⟨s,zX qh rfl g1 rfl,s,zX qh rfl g1 rfl,s,zX qh rfl g1 rfl,_,hx,zRT hb8 ⟨_,rfl,k1,?_⟩⟩;rw[k2];rintro h13 rfl;refine hs.on λtm' hs'=>endW.r1 (hs'.get rfl) ?_
 have ev:zH (zH (zH (8*zH (Int.ofNat s.length-1))+(zQ b.toNat:Nat))-1)=zp s:=by
  rw[ew,eb,zD (n:=8*((s.length-1:Nat):Int)) (by omega) (by omega),zD (n:=8*((s.length-1:Nat):Int)+(zQ b.toNat:Nat)) (by omega) (by omega),zD (by omega) (by omega)];omega
 have:=hq H0
 rwa [<-ev]at this
theorem zWt {s:List UInt8}{i:Nat}(hi:i<8*s.length) (hs:s.length<=1048576) (hq:Q (.int .u64 (jq s i:Nat)) h):RF P zA 325 [.agg [.str s],.int .i64 i] h Q:=by
 refine RF.plain ?_ (zj rfl);refine yD z0v rfl rfl z3C ⟨by decide,?_⟩;rintro p h1 rfl e1;obtain⟨n1,x1,g1⟩:=zx e1 (by decide);have hg:s[i/8]? = some s[i/8]:=oO (by omega);have hb8:=(s[i/8]'(by omega)).toNat_lt;generalize s[i/8]'(by omega)=b at hg hb8;have e1:zH (Int.tdiv (i:Int) 8)=((i/8:Nat):Int):=by
  rw[show Int.tdiv (i:Int) 8=((i/8:Nat):Int)from rfl,zD (by omega) (by omega)]
 have e2:Int.tmod (i:Int) 8=((i % 8:Nat):Int):=rfl;have hd:b.toNat/2^(i % 8)<=b.toNat:=Nat.div_le_self _ _;refine⟨s,zX qh rfl g1 rfl,by decide,(b.toNat:Int),by rw[e1];exact jP hg,by decide,((b.toNat/2^(i % 8):Nat):Int),?_,((jq s i:Nat):Int),?_,ye _ _,hq⟩
 ·rw[e2,zW (by omega),zW (by omega)]
  exact JG (by omega)
 ·rw[zCH hg,<-qD _ 1]
  exact zET (b:=1) (by omega) (by decide)
abbrev rdr (s:List UInt8) (p:Nat):V:=.agg [.str s,.int .i64 p]
def oRd (s:List UInt8) (p:Nat):O:=.cells (.ls [.str s,.int .i64 p]) ⟨0,112+1,0⟩ true false
theorem zCG {s:List UInt8}{p:Nat}(hs:s.length<=1048576) (hp:p<=8*s.length) (hq:Q (.int .i64 0) h):RF P zA 212 [rdr s p] h Q:=by
 refine RF.plain ?_ (zj rfl);refine yD zZr rfl rfl z1y ⟨by decide,?_⟩;rintro q h1 rfl e1;obtain⟨n1,x1,g1⟩:=zx e1 (by decide);refine⟨s,zX qh rfl g1 rfl,λc=>?_,λc=>⟨p,zX zb rfl g1 rfl,λc=>?_,λc=>⟨p,zX zb rfl g1 rfl,s,zX qh rfl g1 rfl,λc=>?_,λc=>⟨ye _ _,hq⟩⟩⟩⟩
 ·have c':(1048576:Int)<(s.length:Int):=c
  omega
 ·omega
 ·have c':zH (8*(s.length:Int))<(p:Int):=c
  rw[zD (by omega) (by omega)]at c';omega
theorem zNo {s:List UInt8}{p:Nat}(hs:s.length<=1048576) (hp:p<=8*s.length) (hq:Q (.tuple [.int .i64 ((p+7)/8:Nat),.int .i64 0]) h):RF P zA 139 [rdr s p] h Q:=by
 refine RF.plain ?_ (zj rfl);refine yD zZ6 rfl rfl z1d ⟨by decide,?_⟩;rintro q h1 rfl e1;obtain⟨n1,x1,g1⟩:=zx e1 (by decide);refine⟨s,p,zo jv rfl g1 rfl,zCG hs hp ⟨0,rfl,λc=>absurd rfl c,λ_=>⟨p,zX zb rfl g1 rfl,by decide,zd rfl,?_⟩⟩⟩
 have e:zH (Int.tdiv (zH ((p:Int)+7)) 8)=(((p+7)/8:Nat):Int):=by
  rw[zD (n:=(p:Int)+7) (by omega) (by omega),show(p:Int)+7=((p+7:Nat):Int)from rfl,show Int.tdiv ((p+7:Nat):Int) 8=(((p+7)/8:Nat):Int)from rfl,zD (by omega) (by omega)]
 rw[e];exact hq
theorem zJp {s:List UInt8}{p n:Nat}(hs:s.length<=1048576) (hp:p<=8*s.length) (hn:n<=32) (hq:Q (.int .i64 0) h):RF P zA 303 [rdr s p,.int .i64 n] h Q:=by
 refine RF.plain ?_ (zj rfl);refine yD z0f rfl rfl z2m ⟨by decide,?_⟩;rintro q h1 rfl e1;obtain⟨n1,x1,g1⟩:=zx e1 (by decide);exact⟨s,p,zo jv rfl g1 rfl,zCG hs hp ⟨0,rfl,λ_=>⟨λc=>by omega,λ_=>⟨λc=>by omega,λ_=>⟨ye _ _,hq⟩⟩⟩,λc=>absurd rfl c⟩⟩
theorem zOB {s:List UInt8}{p n:Nat}(hs:s.length<=1048576) (hp:p<=8*s.length) (hn:n<=32) (hq:Q (.int .i64 (yO s p n:Nat)) h):RF P zA 304 [rdr s p,.int .i64 n] h Q:=by
 refine RF.plain ?_ (zj rfl);refine yD z0g rfl rfl z2n ⟨by decide,?_⟩;rintro q h1 rfl e1;obtain⟨n1,x1,g1⟩:=zx e1 (by decide);refine Has.nil.on λtm hs0=>?_
 refine wpC.round (λk tm h'=>∃i:Nat,i<=n/\k=n-i/\h'=h1/\Has tm [(9,.int .i64 i),(8,.int .i64 n),(2,.ptr H0.nx 0),(5,.int .i64 (yO s p i:Nat))]) n ⟨0,by omega,rfl,rfl,hs0.sub rfl⟩ ?_
 rintro k tm h' ⟨i,hi,rfl,rfl,hs1⟩;have hf:=qm s p i;have hp32:2^i<=2^32:=Nat.pow_le_pow_right (by decide) (by omega);have e:zH ((i:Int)+1)=((i+1:Nat):Int):=by rw[zD (by omega) (by omega)];rfl
 have e8:zH ((p:Int)+(i:Int))=((p+i:Nat):Int):=by rw[zD (by omega) (by omega)];rfl
 have el:zH (8*Int.ofNat s.length)=((8*s.length:Nat):Int):=by
  show zH (8*(s.length:Int))=_;rw[zD (by omega) (by omega)];omega
 refine wpC.av hs1 zSg rfl rfl ⟨λc=>?_,λc=>hs1.on λtm' hs'=>?_⟩
 rotate_left
 ·have hin:i=n:=by omega
  subst hin;refine thenC.left (wpS.av hs' zTx rfl rfl (hs'.on λtm2 hs2=>?_));exact endW.r1 (hs2.get rfl) ⟨ye _ _,hq⟩
 show ∃x2,zK zA 3 h' (.ptr H0.nx (0+1))=some (.int .i64 x2)/\_;refine⟨p,zX zb rfl g1 rfl,?_⟩;show ∃l5,zK zA 9 h' (.ptr H0.nx (0+0))=some (.str l5)/\_;refine⟨s,zX qh rfl g1 rfl,λc2=>?_,λc2=>hs1.on λtm' hs'=>?_⟩
 ·rw[e8,el]at c2
  have hlt:p+i<8*s.length:=by omega
  have hg:s[(p+i)/8]? = some s[(p+i)/8]:=oO (by omega);have hb8:=(s[(p+i)/8]'(by omega)).toNat_lt;generalize s[(p+i)/8]'(by omega)=b at hg hb8;have hd:b.toNat/2^((p+i) % 8)<=b.toNat:=Nat.div_le_self _ _;have hsb:=zCH hg;have hs1':=JB s (p+i);have e1:zH (Int.tdiv (zH ((p:Int)+(i:Int))) 8)=(((p+i)/8:Nat):Int):=by
   rw[e8,show Int.tdiv ((p+i:Nat):Int) 8=(((p+i)/8:Nat):Int)from rfl,zD (by omega) (by omega)]
  have e2:Int.tmod (zH ((p:Int)+(i:Int))) 8=(((p+i) % 8:Nat):Int):=by rw[e8];rfl
  have hm:jq s (p+i)*2^i<=1*2^i:=Nat.mul_le_mul_right _ (by omega);show ∃l8,zK zA 9 h' (.ptr H0.nx (0+0))=some (.str l8)/\_;refine⟨s,zX qh rfl g1 rfl,by decide,(b.toNat:Int),by rw[e1];exact jP hg,by decide,((b.toNat/2^((p+i) % 8):Nat):Int),?_,((jq s (p+i):Nat):Int),?_,((jq s (p+i)*2^i:Nat):Int),?_,((yO s p (i+1):Nat):Int),?_,hs1.on λtm' hs'=>?_⟩
  ·rw[e2,zW (by omega)]
   exact zRw (by omega)
  ·rw[hsb,<-qD _ 1]
   exact zQd (b:=1) (by omega) (by decide)
  ·rw[zD (by omega) (by omega),zW (by omega)]
   exact yC (by omega) (by omega)
  ·rw[zIu (by omega) (by omega),zAR hf]
   rfl
  ·refine⟨rfl,rfl,n-(i+1),by omega,i+1,by omega,rfl,rfl,?_⟩
   rw[<-e];exact hs'.sub rfl
 ·rw[e8,el]at c2
  have hz:yO s p (i+1)=yO s p i:=by
   show yO s p i+jq s (p+i)*2^i=_;rw[zLL (by omega)];omega
  refine⟨rfl,rfl,n-(i+1),by omega,i+1,by omega,rfl,rfl,?_⟩;rw[hz,<-e];exact hs'.sub rfl
def tkF (s:List UInt8) (p n:Nat):V:=if p+n<=8*s.length then .tuple [rdr s (p+n),.int .i64 (yO s p n:Nat),.int .i64 0] else .tuple [rdr [] 0,.int .i64 0,.int .i64 5]
theorem zLA (s:List UInt8) (p n:Nat):Plain (tkF s p n):=by
 unfold tkF;split<;>exact zd rfl
theorem zP2 {s:List UInt8}{p n:Nat}(hs:s.length<=1048576) (hp:p<=8*s.length) (hn:n<=32) (hq:Q (tkF s p n) h):RF P zA 272 [rdr s p,.int .i64 n] h Q:=by
 refine RF.plain ?_ (zj rfl);have hq:∀h':H,Plain (tkF s p n)/\Q (tkF s p n) h:=λ_=>⟨zLA _ _ _,hq⟩
 have hz:H0.nx=0:=rfl;have ht:=zt;refine yD z0W rfl rfl z22 ⟨by decide,?_⟩;rintro q0 h1 rfl e1;obtain⟨n1,x1,g1⟩:=zx e1 (by decide);refine⟨by omega,?_⟩;rintro q2 h3 rfl e3;obtain⟨n3,x3,g3⟩:=zx e3 (by omega);have g1':h3.get H0.nx=some (.cells (.ls [.str s,.int .i64 p]) ⟨0,112+1,0⟩ true false):=by rw[x3.get _ (by omega)];exact g1
 have el:zH (zH (8*Int.ofNat s.length)-(p:Int))=((8*s.length-p:Nat):Int):=by
  show zH (zH (8*(s.length:Int))-(p:Int))=_;rw[zD (n:=8*(s.length:Int)) (by omega) (by omega),zD (by omega) (by omega)];omega
 refine⟨s,p,zo jv rfl g1' rfl,zJp hs hp hn ⟨0,rfl,λ_=>⟨s,zX qh rfl g1' rfl,p,zX zb rfl g1' rfl,λc=>Has.nil.on λtm hs0=>?_,λc=>Has.nil.on λtm hs0=>?_⟩,λc=>absurd rfl c⟩⟩
 ·rw[el]at c
  have hlt:¬p+n<=8*s.length:=by omega
  unfold tkF at hq;rw[if_neg hlt]at hq;refine wpS.av hs0 zJ1 rfl rfl ⟨λ_=>⟨_,zk jv g3 rfl (oJ _) rfl rfl,hs0.on λtm' hs'=>?_⟩,λg=>absurd g (by decide)⟩
  refine endW.ok (leave.cell (hs'.get rfl) (zo jv rfl (zN _ (by omega)) rfl) (leave.tmp (hs'.get rfl) (leave.tmp (hs'.get rfl) rfl))) (hq H0)
 ·rw[el]at c
  have hle:p+n<=8*s.length:=by omega
  unfold tkF at hq;rw[if_pos hle]at hq;refine wpS.av hs0 zJ1 rfl rfl ⟨λg=>absurd rfl g,λ_=>⟨s,p,zo jv rfl g1' rfl,zOB hs hp hn ⟨_,rfl,?_⟩⟩⟩
  show ∃x8,zK zA 3 h3 (.ptr H0.nx (0+1))=some (.int .i64 x8)/\_;refine⟨p,zX zb rfl g1' rfl,?_⟩;have ep:zH ((p:Int)+(n:Int))=((p+n:Nat):Int):=by rw[zD (by omega) (by omega)];rfl
  show ∃h11,zf zA 3 h3 (.ptr H0.nx (0+1)) (.int .i64 (zH ((p:Int)+(n:Int))))=some h11/\_;rw[ep];obtain⟨h11,e11,g11,k11,n11⟩:∃h11,zf zA 3 h3 (.ptr H0.nx (0+1)) (.int .i64 ((p+n:Nat):Int))=some h11/\h11.get H0.nx=some (.cells (.ls [.str s,.int .i64 ((p+n:Nat):Int)]) ⟨0,112+1,0⟩ true false)/\h11.get h1.nx=h3.get h1.nx/\h11.nx=h3.nx :=
   ⟨_,zk zb g1' rfl (oJ _) rfl rfl,zN _ (by omega),zP _ (by omega) (by omega),rfl⟩
  refine⟨h11,e11,s,((p+n:Nat):Int),zo jv rfl g11 rfl,_,zk jv (k11.trans g3) rfl (oJ _) rfl rfl,hs0.on λtm' hs'=>?_⟩
  exact endW.ok (leave.cell (hs'.get rfl) (zo jv rfl (zN _ (by omega)) rfl) (leave.tmp (hs'.get rfl) (leave.tmp (hs'.get rfl) rfl))) (hq H0)
def xX (left:Nat):Nat:=zQ (left+1)
def shT (left:Nat):Nat:=2^xX left-2-left
theorem zDh (left:Nat):0<xX left:=by unfold xX zQ;rw[if_neg (by omega)];omega
theorem Zo (left:Nat):2^(xX left-1)<=left+1/\left+1<2^xX left/\2^xX left=2*2^(xX left-1):=by
 have h1:=zDh left;refine⟨zF1 (by omega),Zb _,?_⟩;rw[<-Nat.pow_succ']
 congr 1
theorem zPS {left:Nat}(_:0<left):shT left<=left:=by
 obtain⟨h1,h2,h3⟩:=Zo left;unfold shT;omega
def qY (s:List UInt8) (left p:Nat):Option (Nat×Nat) :=
 if 8*s.length<p+(xX left-1) then none
 else if yO s p (xX left-1)<shT left then some (yO s p (xX left-1),p+(xX left-1))
 else if 8*s.length<p+xX left then none
 else some (if 2^(xX left-1)<=yO s p (xX left) then yO s p (xX left)-shT left else yO s p (xX left),p+xX left)
theorem zK4 (s:List UInt8) (p:Nat) {n:Nat}(h:0<n):yO s p n=yO s p (n-1)+jq s (p+(n-1))*2^(n-1):=by
 obtain⟨m,rfl⟩:∃m,n=m+1:=⟨n-1,by omega⟩;rfl
theorem zA1 {s:List UInt8}{left p v q:Nat}(hl:0<left) (h:qY s left p=some (v,q)):v<=left+1/\q<=8*s.length:=by
 obtain⟨h1,h2,h3⟩:=Zo left;have h4:=zPS hl;have h5:=qm s p (xX left);unfold qY at h;split at h
 ·cases h
 ·split at h
  ·cases h;exact⟨by omega,by omega⟩
  ·split at h
   ·cases h
   ·cases h
    refine⟨?_,by omega⟩;split
    ·unfold shT;omega
    ·omega
def xF (s:List UInt8) (symbols:Nat):Nat->Nat->Nat->Option (Nat×Nat)
 | 0,_,_=>none
 | f+1,p,n =>
  if 8*s.length<p+2 then none
  else if symbols<n+yO s p 2 then none
  else if yO s p 2=3 then xF s symbols f (p+2) (n+3)
  else some (n+yO s p 2,p+2)
def xE (s:List UInt8) (symbols:Nat):Nat->Nat->Nat->List Int->Option (List Int×Nat)
 | 0,_,_,_=>none
 | f+1,left,p,l =>
  if left=0 then some (l,p)
  else match qY s left p with
  | none=>none
  | some (v,q) =>
   if l.length=symbols then none
   else if v=1 then
    match xF s symbols (symbols+1) q (l.length+1)with
    | none=>none
    | some (n,r)=>xE s symbols f left r (l++List.replicate (n-l.length) 0)
   else xE s symbols f (left-max (v-1) 1) q (l++[(v:Int)-1])
abbrev brk (e:Int):V:=.iface 269 (.agg [.iface 24 (.int .i64 e)])
theorem YX {e:Int}{k:V->Prop}(hk:k (.agg [.iface 24 (.int .i64 e)])):xk zA 269 (yx zA 269 [(0,.iface 24 (.int .i64 e))]) k:=by
 have h1:yx zA 269 [(0,.iface 24 (.int .i64 e))]=some (.agg [.iface 24 (.int .i64 e)]):=by kernel_rfl
 have h2:qI zA 269=false:=by kernel_rfl
 unfold xk;rw[h1];simp only[h2];exact hk
theorem kc {s:List UInt8}{r p n:Nat}(hg:h.get r=some (oRd s p)) (hr:r<h.nx) (hnx:h.nx+1<=T.top) (hs:s.length<=1048576) (hp:p<=8*s.length) (hn:n<=32)
  (hq1:p+n<=8*s.length->∀h',ExtX (· = r) h h' 1->h'.get r=some (oRd s (p+n))->Q (.tuple [.int .i64 (yO s p n:Nat),.nilIface]) h')
  (hq2:¬p+n<=8*s.length->∀h',Ext h h' 1->Q (.tuple [.int .i64 0,brk 5]) h'):RF P zA 208 [.ptr r 0,.int .i64 n] h Q:=by
 refine yD zZp rfl rfl z1w ⟨.ptr r 0,h,rfl,s,p,zo jv rfl hg rfl,zP2 hs hp hn ?_⟩;unfold tkF;by_cases c:p+n<=8*s.length
 ·rw[if_pos c]
  refine⟨s,((p+n:Nat):Int),_,_,rfl,by omega,?_⟩;rintro q h1 rfl e1;obtain⟨n1,x1,g1⟩:=zx e1 (by omega);obtain⟨h2,e2,g2,k2,x2,n2⟩:∃h2,zf zA 112 h1 (.ptr h.nx 0) (.agg [.str s,.int .i64 ((p+n:Nat):Int)])=some h2/\h2.get h.nx=some (oRd s (p+n))/\h2.get r=some (oRd s p)/\Ext h h2 1/\h2.nx=h1.nx :=
   ⟨_,zk jv g1 rfl (oJ _) rfl rfl,zN _ (by omega),by rw[zP _ (by omega) (by omega),x1.get _ hr];exact hg,x1.upd _ (by omega) (oP _),rfl⟩
  refine⟨h2,e2,λg=>absurd rfl g,λ_=>⟨s,((p+n:Nat):Int),zo jv rfl g2 rfl,.ptr r 0,h2,rfl,?_⟩⟩
  exact⟨_,zk jv k2 rfl (oJ _) rfl rfl,hq1 c _ ((ExtX.of x2).upd _ (by omega) (.inl rfl)) (zN _ (by omega))⟩
 ·rw[if_neg c]
  refine⟨[],0,_,_,rfl,by omega,?_⟩;rintro q h1 rfl e1;obtain⟨n1,x1,g1⟩:=zx e1 (by omega);obtain⟨h2,e2,x2⟩:∃h2,zf zA 112 h1 (.ptr h.nx 0) (.agg [.str [],.int .i64 0])=some h2/\Ext h h2 1 :=
   ⟨_,zk jv g1 rfl (oJ _) rfl rfl,x1.upd _ (by omega) (oP _)⟩
  exact⟨h2,e2,λ_=>YX (hq2 c _ x2),λg=>absurd (show(5:Int)≠0 by decide) g⟩
abbrev yt:TI:=⟨3,.int .i64,1,8,some (.int .i64 0),true,false,false,[]⟩
abbrev zJ (l:List Int):List V:=l.map λn=>V.int .i64 n
theorem jd (l m:List Int):zJ (l++m)=zJ l++zJ m:=List.map_append ..
theorem jE (l:List Int):(zJ l).length=l.length:=ol ..
theorem zMm (n:Nat):zJ (List.replicate n 0)=List.replicate n (.int .i64 0):=by simp[zJ]
def oD (log:Int) (v:V):O:=.cells (.ls [.int .i64 log,v]) ⟨0,59+1,0⟩ true false
theorem qU {n:Nat}{k:V->Prop}(hk:k (.bool false)):wY zA .neq 163 (t n) (.const .nilIface) 4 .nilIface .nilIface k:=by
 have e:yH zA .neq 163 (t n) (.const .nilIface) .nilIface .nilIface=some (.bool false):=by kernel_rfl
 exact⟨false,e,λg=>(by cases g),λ_=>hk⟩
theorem kQ {n:Nat}{e:Int}{k:V->Prop}(hk:k (.bool true)):wY zA .neq 163 (t n) (.const .nilIface) 4 (brk e) .nilIface k:=by
 have e:yH zA .neq 163 (t n) (.const .nilIface) (brk e) .nilIface=some (.bool true):=by kernel_rfl
 exact⟨true,e,λ_=>hk,λg=>(by cases g)⟩
structure HD (hb h:H) (c r p0 p9:Nat) (s:List UInt8) (p:Nat) (log:Int) (v:V) (l:List Int):Prop where
 ex:ExtX (· = r) hb h c
 gr:h.get r=some (oRd s p)
 g0:h.get p0=some (oD 0 .nilslice)
 g9:h.get p9=some (oD log v)
 ow:Ow h v yt l.length (zJ l)
 vb:∀b,zu v=some b->hb.nx<=b/\b≠p0/\b≠p9
 r1:r<hb.nx
 q0:hb.nx<=p0
 l0:p0<h.nx
 q9:hb.nx<=p9
 l9:p9<h.nx
 ne:p0≠p9
theorem HD.bound {hb h:H}{c r p0 p9:Nat}{s:List UInt8}{p:Nat}{log:Int}{v:V}{l:List Int}(d:HD hb h c r p0 p9 s p log v l):h.nx<=hb.nx+c:=d.ex.top
theorem _root_.Go.Sim.Ow.blk_lt {v:V}{te:TI}{n:Nat}{xs:List V}(s:Ow h v te n xs) {b:Nat}(hb:zu v=some b):b<h.nx:=by
 obtain⟨_,⟨rfl,_⟩|⟨b',cs,rfl,h3,_⟩⟩:=s
 ·cases hb
 ·cases hb;exact h3
theorem _root_.Go.Sim.Ow.cells {v:V}{te:TI}{n:Nat}{xs:List V}(s:Ow h v te n xs):v.cells=[v]/\zL [v]=true:=by
 obtain⟨_,⟨rfl,_⟩|⟨b',cs,rfl,h3,_⟩⟩:=s
 ·exact⟨rfl,rfl⟩
 ·exact⟨rfl,rfl⟩
theorem HD.take {hb h h':H}{c r p0 p9:Nat}{s:List UInt8}{p q:Nat}{log:Int}{v:V}{l:List Int}(d:HD hb h c r p0 p9 s p log v l) (x:ExtX (· = r) h h' 1) (g:h'.get r=some (oRd s q)):HD hb h' (c+1) r p0 p9 s q log v l:=by
 have h1:=d.q0;have h2:=d.q9;have h3:=d.r1;exact⟨d.ex.trans x,g,(x.get _ d.l0 (by omega)).trans d.g0,(x.get _ d.l9 (by omega)).trans d.g9,d.ow.keep x.le λb e=>x.get _ (d.ow.blk_lt e) (by have:=(d.vb b e).1;omega),d.vb,d.r1,d.q0,oI d.l0 x.le,d.q9,oI d.l9 x.le,d.ne⟩
theorem HD.grow {hb h h1:H}{c r p0 p9:Nat}{s:List UInt8}{p:Nat}{log:Int}{v v':V}{l m:List Int}(d:HD hb h c r p0 p9 s p log v l) (hn:h.nx<T.top)
  (a:Ow h1 v' yt (l.length+m.length) (zJ l++zJ m)/\h.nx<=h1.nx/\h1.nx<=h.nx+1/\(∀b,b<h.nx->zu v≠some b->h1.get b=h.get b)/\zu v'=some h.nx/\h1.low<=h.low/\(∀m,m<=h.low->(∀b,zu v=some b->m<=b)->m<=h1.low)) :
  ∃h2,zf zA 23 h1 (.ptr p9 (0+1)) v'=some h2/\HD hb h2 (c+1) r p0 p9 s p log v' (l++m):=by
 obtain⟨a1,a2,a3,a4,a5,a6,a7⟩:=a;have x1:=ExtX.append a2 a3 a4 a6 a7;have h1':=d.q0;have h2':=d.q9;have h3':=d.r1;have e1:=d.ex.le;have e2:=d.l0;have e3:=d.l9;have k:∀b,b<h.nx->(∀b',zu v=some b'->b'≠b)->h1.get b=h.get b:=λb hb hv=>a4 b hb λe=>hv b e rfl
 have g9:h1.get p9=some (oD log v):=(k p9 d.l9 λb e=>(d.vb b e).2.2).trans d.g9
 obtain⟨c1,c2⟩:=a1.cells;refine⟨_,zk zO g9 (by rw[c1];rfl) (oJ _) (by rw[c1];exact c2) (by rw[c1];rfl),?_⟩;have hp9:p9<T.top:=by omega
 have y:ExtX (· = r) hb h1 (c+1):=d.ex.andThen x1 λb hb=>.inr (d.vb b hb).1
 exact⟨y.upd _ hp9 (.inr d.q9),by rw[zP _ hp9 (by omega),k r (by omega) (λb e=>by have:=(d.vb b e).1;omega)];exact d.gr,
  by rw[zP _ hp9 d.ne,k p0 d.l0 (λb e=>(d.vb b e).2.1)];exact d.g0,
  zN _ hp9,
  by
   rw[oU,jd];exact a1.keep (oP _) λb e=>zP _ hp9 (by rw[a5]at e;cases e;omega),
  λb e=>by rw[a5]at e;cases e;omega,d.r1,d.q0,by show p0<h1.nx;omega,d.q9,by show p9<h1.nx;omega,d.ne⟩
theorem HD.put0 {hb h:H}{c r p0 p9:Nat}{s:List UInt8}{p:Nat}{log:Int}{v:V}{l:List Int}(d:HD hb h c r p0 p9 s p log v l) (hn:h.nx<=T.top) :
  ∃h2,zf zA 23 h (.ptr p9 (0+1)) v=some h2/\HD hb h2 c r p0 p9 s p log v l:=by
 have h1':=d.q0;have h2':=d.q9;have h3':=d.r1;have h4':=d.l9;obtain⟨c1,c2⟩:=d.ow.cells;refine⟨_,zk zO d.g9 (by rw[c1];rfl) (oJ _) (by rw[c1];exact c2) (by rw[c1];rfl),?_⟩;have hp9:p9<T.top:=by omega
 exact⟨d.ex.upd _ hp9 (.inr d.q9),by rw[zP _ hp9 (by omega)];exact d.gr,by rw[zP _ hp9 d.ne];exact d.g0,zN _ hp9,
  d.ow.keep (oP _) λb e=>zP _ hp9 (d.vb b e).2.2,d.vb,d.r1,d.q0,d.l0,d.q9,d.l9,d.ne⟩
theorem zNz {v:V}{l:List Int}(o:Ow h v yt l.length (zJ l)):zm zA 23 h v=some (.int .i64 l.length):=o.sl.len zO rfl
theorem zIL {hb h:H}{c c0 r p0 p9:Nat}{s:List UInt8}{p:Nat}{log:Int}{v:V}{l0:List Int}{symbols f:Nat}{left:Int}{tm:Tm}{R:AX->St->Prop}(d:HD hb h c r p0 p9 s p log v l0)
    (hs:Has tm [(18,.int .i64 3),(0,.ptr r 0),(6,.ptr p0 0),(10,.ptr p9 0),(2,.int .i64 symbols),(11,.int .i64 left)])
    (hlen:s.length<=1048576) (hp:p<=8*s.length) (hl:l0.length<=symbols) (hsy:symbols<=256) (hf:symbols+1<=f+l0.length) (hc:c+4<=8*l0.length+c0) (hnx:hb.nx+8*symbols+c0+10<=T.top)
    (hret:xF s symbols f p l0.length=none->∀e tm' h',e=5\/e=23->Has tm' [(6,.ptr p0 0),(7,brk e)]->ExtX (· = r) hb h' (8*symbols+c0+10)->h'.get p0=some (oD 0 .nilslice)->R .ret ⟨137,tm',[],h'⟩)
    (hexit:∀tm' h' c' v' l' p',xF s symbols f p l0.length=some (l'.length,p')->l'=l0++List.replicate (l'.length-l0.length) 0->l0.length<=l'.length->c'<=8*l'.length+c0->HD hb h' c' r p0 p9 s p' log v' l'->p'<=8*s.length->l'.length<=symbols ->
      Has tm' [(0,.ptr r 0),(6,.ptr p0 0),(10,.ptr p9 0),(2,.int .i64 symbols),(11,.int .i64 left)]->R (.exit 2) ⟨137,tm',[],h'⟩) :
    wpC P zA false (.loop zHG) ⟨137,tm,[],h⟩ R:=by
  generalize hR0:xF s symbols f p l0.length=R0 at hret hexit;refine wpC.round (λk tm h=>∃c p v l,HD hb h c r p0 p9 s p log v l/\l=l0++List.replicate (l.length-l0.length) 0/\l0.length<=l.length/\l.length<=symbols/\p<=8*s.length /\
      ((∃f,k=f+1/\xF s symbols f p l.length=R0/\symbols+1<=f+l.length/\c+4<=8*l.length+c0/\Has tm [(18,.int .i64 3),(0,.ptr r 0),(6,.ptr p0 0),(10,.ptr p9 0),(2,.int .i64 symbols),(11,.int .i64 left)]) \/
       (∃x:Nat,k=0/\x≠3/\R0=some (l.length,p)/\c<=8*l.length+c0/\Has tm [(18,.int .i64 x),(0,.ptr r 0),(6,.ptr p0 0),(10,.ptr p9 0),(2,.int .i64 symbols),(11,.int .i64 left)]))) (f+1)
    ⟨c,p,v,l0,d,by simp,oP _,hl,hp,.inl ⟨f,rfl,hR0,hf,hc,hs⟩⟩ ?_
  clear d hs hl hf hc hR0 hp;rintro k tm h ⟨c,p,v,l,d,hl1,hl2,hl3,hp,⟨f,rfl,hR0,hf,hc,hs⟩|⟨x,rfl,hx,hR0,hc,hs⟩⟩
  rotate_left
  · -- no zeros follow
    exact wpC.av hs zJV rfl rfl ⟨λc1=>absurd c1 (by omega),λ_=>hs.on λtm' hs'=>hexit tm' h c v l p hR0 hl1 hl2 hc d hp hl3 (hs'.sub rfl)⟩
  obtain⟨f,rfl⟩:∃g,f=g+1:=⟨f-1,by omega⟩;have hb1:=d.bound;have e0:=d.ex.le;have hr1:=d.r1;refine wpC.av hs zJV rfl rfl ⟨λ_=>kc (n:=2) d.gr (by omega) (by omega) hlen hp (by decide) (λc2 h1 x1 g1=>?_) (λc2 h1 x1=>?_),λc1=>absurd rfl c1⟩
  rotate_left
  · -- bits are missing
    have hn:R0=none:=by
      rw[<-hR0];show(if 8*s.length<p+2 then none else _)=none;rw[if_pos (by omega)]
    have y:ExtX (· = r) hb h1 (c+1):=d.ex.trans (ExtX.of x1);have g0:h1.get p0=some (oD 0 .nilslice):=(x1.get _ d.l0).trans d.g0;have:=x1.top;have:=d.l0;have:=x1.le;refine⟨0,brk 5,rfl,kQ ⟨_,zk yr g0 rfl (oJ _) rfl rfl,hs.on λtm' hs'=>hret hn 5 tm' _ (.inl rfl) (hs'.sub rfl) ?_ (zN _ (by omega))⟩⟩
    have z:=y.upd (some (oD 0 .nilslice)) (b:=p0) (by omega) (.inr d.q0);exact⟨z.le,oQ z.top (by omega),z.get,z.low,z.lo⟩
  have d1:=d.take x1 g1;have hb2:=d1.bound;have e1:=d1.ex.le;have hd0:=d1.l0;refine⟨_,.nilIface,rfl,qU ?_⟩;show ∃v8,zK zA 23 h1 (.ptr p9 (0+1))=some v8/\_;have hw:zH ((l.length:Int)+(yO s p 2:Nat))=((l.length+yO s p 2:Nat):Int):=by
    have:=qm s p 2;rw[zD (by omega) (by omega)];rfl
  have hf4:=qm s p 2;refine⟨v,zX zO rfl d1.g9 rfl,_,zNz d1.ow,λc3=>?_,λc3=>?_⟩
  · -- too many
    rw[hw]at c3;have hn:R0=none:=by
      rw[<-hR0];show(if 8*s.length<p+2 then none else if symbols<l.length+yO s p 2 then none else _)=none;rw[if_neg (by omega),if_pos (by omega)]
    refine YX ⟨_,zk yr d1.g0 rfl (oJ _) rfl rfl,hs.on λtm' hs'=>hret hn 23 tm' _ (.inr rfl) (hs'.sub rfl) ?_ (zN _ (by omega))⟩
    have z:=d1.ex.upd (some (oD 0 .nilslice)) (b:=p0) (by omega) (.inr d1.q0);exact⟨z.le,oQ z.top (by omega),z.get,z.low,z.lo⟩
  rw[hw]at c3;have hfit:l.length+yO s p 2<=symbols:=by omega
  have hun:R0=(if yO s p 2=3 then xF s symbols f (p+2) (l.length+3) else some (l.length+yO s p 2,p+2)):=by
    rw[<-hR0];show(if 8*s.length<p+2 then none else if symbols<l.length+yO s p 2 then none else _)=_;rw[if_neg (by omega),if_neg (by omega)]
  show ∃v14,zK zA 23 h1 (.ptr p9 (0+1))=some v14/\_;refine⟨v,zX zO rfl d1.g9 rfl,trivial,?_⟩;generalize yO s p 2=x at *;have fin:∀c' v' h',HD hb h' c' r p0 p9 s (p+2) log v' (l++List.replicate x 0)->c'<=c+2 ->
      (∀tm',Has tm' [(18,.int .i64 (x:Nat)),(0,.ptr r 0),(6,.ptr p0 0),(10,.ptr p9 0),(2,.int .i64 symbols),(11,.int .i64 left)] ->
        ∃j,j<f+1+1/\∃c p v l,HD hb h' c r p0 p9 s p log v l/\l=l0++List.replicate (l.length-l0.length) 0/\l0.length<=l.length/\l.length<=symbols/\p<=8*s.length /\
      ((∃f,j=f+1/\xF s symbols f p l.length=R0/\symbols+1<=f+l.length/\c+4<=8*l.length+c0/\Has tm' [(18,.int .i64 3),(0,.ptr r 0),(6,.ptr p0 0),(10,.ptr p9 0),(2,.int .i64 symbols),(11,.int .i64 left)]) \/
       (∃x:Nat,j=0/\x≠3/\R0=some (l.length,p)/\c<=8*l.length+c0/\Has tm' [(18,.int .i64 x),(0,.ptr r 0),(6,.ptr p0 0),(10,.ptr p9 0),(2,.int .i64 symbols),(11,.int .i64 left)]))):=by
    intro c' v' h' d2 hc' tm' hs';have ll:(l++List.replicate x 0:List Int).length=l.length+x:=by rw[oU,List.length_replicate]
    have hl':(l++List.replicate x 0:List Int)=l0++List.replicate ((l++List.replicate x 0:List Int).length-l0.length) 0:=by
      rw[ll]
      conv=>lhs;rw[hl1]
      rw[List.append_assoc,List.replicate_append_replicate]
      congr 2
      omega
    by_cases hx3:x=3
    · subst hx3
      rw[if_pos rfl]at hun;exact⟨f+1,by omega,c',p+2,v',_,d2,hl',by omega,by omega,c2,.inl ⟨f,rfl,by rw[ll];exact hun.symm,by omega,by omega,hs'⟩⟩
    · rw[if_neg hx3]at hun
      exact⟨0,by omega,c',p+2,v',_,d2,hl',by omega,by omega,c2,.inr ⟨x,rfl,hx3,by rw[ll];exact hun,by omega,hs'⟩⟩
  rcases Nat.eq_zero_or_pos x with hx0|hx0
  · subst hx0
    obtain⟨h2,e2,d2⟩:=d1.put0 (by omega);refine⟨v,h1,Ow.zeros0 (u:=.int .i64 0) d1.ow zO rfl zb rfl rfl rfl rfl,?_⟩;show ∃h19,zf zA 23 h1 (.ptr p9 (0+1)) v=some h19/\_;refine⟨h2,e2,hs.on λtm' hs'=>⟨rfl,rfl,fin (c+1) v h2 (by simpa using d2) (by omega) tm' (hs'.sub rfl)⟩⟩
  · obtain⟨v',h2,e2,a⟩:=Ow.zeros (m:=x) (u:=.int .i64 0) d1.ow hx0 zO rfl zb rfl rfl rfl rfl rfl (by omega) (by show(l.length+x)*8<=_;omega) (by omega)
    obtain⟨h3,e3,d3⟩:=d1.grow (m:=List.replicate x 0) (by omega) (by rw[List.length_replicate,zMm];exact a);refine⟨v',h2,e2,?_⟩;show ∃h19,zf zA 23 h2 (.ptr p9 (0+1)) v'=some h19/\_;exact⟨h3,e3,hs.on λtm' hs'=>⟨rfl,rfl,fin (c+1+1) v' h3 d3 (by omega) tm' (hs'.sub rfl)⟩⟩
theorem _root_.Go.Sim.ExtX.more {S:Nat->Prop}{h h':H}{m n:Nat}(a:ExtX S h h' m) (hm:m<=n):ExtX S h h' n:=⟨a.le,oQ a.top (Nat.add_le_add_left hm _),a.get,a.low,a.lo⟩
theorem zWu {n:Int}(hn:h.nx<T.top):∃v h',zF zA 23 1 [(0,.int .i64 n)] h=some (v,h')/\Sl h' v 1 1 [.int .i64 n]/\Ext h h' 1:=by
 obtain⟨v,h',e,s,x,_⟩:=j7 (c:=zA) (h:=h) (u:=.int .i64 n) (ys:=[.int .i64 n]) (te:=yt) zO rfl zb rfl rfl rfl rfl (by decide) rfl hn;exact⟨v,h',e,s,x⟩
theorem zHx {hb h:H}{c c0 r p0 p9:Nat}{s:List UInt8}{q:Nat}{log:Int}{v:V}{l:List Int}{symbols x left:Nat}{tm:Tm}{R:AX->St->Prop}(d:HD hb h c r p0 p9 s q log v l)
  (hs:Has tm [(0,.ptr r 0),(6,.ptr p0 0),(10,.ptr p9 0),(2,.int .i64 symbols),(14,.int .i64 x),(11,.int .i64 left)])
  (hlen:s.length<=1048576) (hq:q<=8*s.length) (hl:l.length<=symbols) (hsy:symbols<=256) (hx:x<=left+1) (hlf:left<=1048576) (hleft:0<left) (hc:c<=8*l.length+c0+2) (hnx:hb.nx+8*symbols+c0+20<=T.top)
  (hret:(l.length=symbols\/x=1/\xF s symbols (symbols+1) q (l.length+1)=none)->∀e tm' h',e=5\/e=23->Has tm' [(6,.ptr p0 0),(7,brk e)]->ExtX (· = r) hb h' (8*symbols+c0+20)->h'.get p0=some (oD 0 .nilslice)->R .ret ⟨137,tm',[],h'⟩)
  (hgo:x≠1->l.length≠symbols->∀tm' h' c' v',c'<=8*(l.length+1)+c0->HD hb h' c' r p0 p9 s q log v' (l++[(x:Int)-1])->Has tm' [(0,.ptr r 0),(6,.ptr p0 0),(10,.ptr p9 0),(2,.int .i64 symbols),(11,.int .i64 (left-max (x-1) 1:Nat))]->R (.exit 1) ⟨137,tm',[],h'⟩)
  (hz:x=1->l.length≠symbols->∀tm' h' c' v' l' q',xF s symbols (symbols+1) q (l.length+1)=some (l'.length,q')->l'=l++List.replicate (l'.length-l.length) 0->l.length<l'.length->c'<=8*l'.length+c0->HD hb h' c' r p0 p9 s q' log v' l'->q'<=8*s.length->l'.length<=symbols ->
   Has tm' [(0,.ptr r 0),(6,.ptr p0 0),(10,.ptr p9 0),(2,.int .i64 symbols),(11,.int .i64 left)]->R .normal ⟨137,tm',[],h'⟩) :
  OP false Ji ⟨137,tm,[],h⟩ R:=by
 have hb1:=d.bound;have e0:=d.ex.le;have hl0:=d.l0;refine wpS.av hs zTB rfl rfl ?_;show ∃v2,zK zA 23 h (.ptr p9 (0+1))=some v2/\_;refine⟨v,zX zO rfl d.g9 rfl,_,zNz d.ow,λc1=>?_,λc1=>?_⟩
 ·refine YX ⟨_,zk yr d.g0 rfl (oJ _) rfl rfl,hs.on λtm' hs'=>hret (.inl (by omega)) 23 tm' _ (.inr rfl) (hs'.sub rfl) ?_ (zN _ (by omega))⟩
  exact(d.ex.upd (some (oD 0 .nilslice)) (b:=p0) (by omega) (.inr d.q0)).more (by omega)
 have hll:l.length<symbols:=by omega
 have ex:zH ((x:Int)-1)=(x:Int)-1:=zD (by omega) (by omega);show ∃v8,zK zA 23 h (.ptr p9 (0+1))=some v8/\_;rw[ex];obtain⟨v9,h1,e1,s1,x1⟩:=zWu (n:=(x:Int)-1) (h:=h) (by omega);have t1:=x1.top;have t1':=x1.le;have o1:=d.ow.ext x1;obtain⟨v',h2,e2,a⟩:=Ow.append (c:=zA) (te:=yt) (m:=1) o1 s1 (by decide) zO rfl zb rfl rfl (by show(l.length+1)*1<=_;omega) (by show(l.length+1)*8<=_;omega) (by omega);have d1:HD hb h1 (c+1) r p0 p9 s q log v l:=⟨d.ex.andThen (ExtX.of (S:=λ_=>False) x1) (λ_ g=>g.elim),(x1.get _ (by have:=d.r1;omega)).trans d.gr,(x1.get _ d.l0).trans d.g0,(x1.get _ d.l9).trans d.g9,o1,d.vb,d.r1,d.q0,oI d.l0 x1.le,d.q9,oI d.l9 x1.le,d.ne⟩;obtain⟨h3,e3,d3⟩:=d1.grow (m:=[(x:Int)-1]) (by omega) a;refine⟨v,zX zO rfl d.g9 rfl,v9,h1,e1,trivial,v',h2,e2,?_⟩;show ∃h15,zf zA 23 h2 (.ptr p9 (0+1)) v'=some h15/\_;have l1:(l++[(x:Int)-1]).length=l.length+1:=by simp
 refine⟨h3,e3,λc2=>hs.on λtm' hs'=>hgo (by omega) (by omega) tm' h3 _ v' (by omega) d3 ?_,λc2=>hs.on λtm' hs'=>?_⟩
 ·have:zH ((left:Int)-max ((x:Int)-1) 1)=((left-max (x-1) 1:Nat):Int):=by
   have hx1:x≠1:=by omega
   rw[zD (by omega) (by omega)];omega
  rw[<-this];exact hs'.sub rfl
 ·have hx1:x=1:=by omega
  subst hx1;refine zIL (c0:=c0) (f:=symbols+1) (left:=left) d3 (hs'.sub rfl) hlen hq (by omega) hsy (by omega) (by omega) (by omega) (λhn e tm2 h4 he g1 g2 g3=>?_) (λtm2 h4 c4 v4 l4 q4 hz4 hl4 hle hc4 d4 hq4 hs4 g1=>?_)
  ·refine g1.slt λtm3 g4=>?_
   exact hret (.inr ⟨rfl,by rw[l1]at hn;exact hn⟩) e tm3 h4 he (g4.sub rfl) (g2.more (by omega)) g3
  ·show zy Kc R (zc 2 (.exit 2)) _
   rw[xB];refine g1.slt λtm3 g4=>?_
   rw[l1]at hz4 hl4 hle;exact hz rfl (by omega) tm3 h4 c4 v4 l4 q4 hz4 (by
    conv=>lhs;rw[hl4]
    rw[List.append_assoc]
    congr 1
    show[((1:Nat):Int)-1]++_=_;rw[show[((1:Nat):Int)-1]=List.replicate 1 (0:Int)from rfl,List.replicate_append_replicate]
    congr 1
    omega) (by omega) hc4 d4 hq4 hs4 (g4.sub rfl)
theorem zLJ {hb h:H}{c c0 r p0 p9:Nat}{s:List UInt8}{p:Nat}{log:Int}{v:V}{l0:List Int}{symbols f left:Nat}{tm:Tm}{R:AX->St->Prop}(d:HD hb h c r p0 p9 s p log v l0)
  (hs:Has tm [(11,.int .i64 left),(0,.ptr r 0),(6,.ptr p0 0),(10,.ptr p9 0),(2,.int .i64 symbols),(7,.nilIface)])
  (hlen:s.length<=1048576) (hp:p<=8*s.length) (hl:l0.length<=symbols) (hsy:symbols<=256) (hlf:left<=1048576) (hf:symbols+2<=f+l0.length) (hc:c<=8*l0.length+c0) (hnx:hb.nx+8*symbols+c0+20<=T.top) (hlow:hb.low<=T.top)
  (hret:xE s symbols f left p l0=none->∀e tm' h',e=5\/e=23->Has tm' [(6,.ptr p0 0),(7,brk e)]->ExtX (· = r) hb h' (8*symbols+c0+20)->h'.get p0=some (oD 0 .nilslice)->R .ret ⟨137,tm',[],h'⟩)
  (hexit:∀tm' h' c' v' l' p',xE s symbols f left p l0=some (l',p')->c'<=8*symbols+c0->HD hb h' c' r p0 p9 s p' log v' l'->p'<=8*s.length->l'.length<=symbols->Has tm' [(6,.ptr p0 0),(10,.ptr p9 0)]->R (.exit 0) ⟨137,tm',[],h'⟩) :
  wpC P zA false (.loop zHH) ⟨137,tm,[],h⟩ R:=by
 generalize hR0:xE s symbols f left p l0=R0 at hret hexit;refine wpC.round (λk tm h=>∃c p v l left,HD hb h c r p0 p9 s p log v l/\xE s symbols k left p l=R0/\symbols+2<=k+l.length/\l.length<=symbols/\p<=8*s.length/\left<=1048576/\c<=8*l.length+c0 /\
  Has tm [(11,.int .i64 (left:Nat)),(0,.ptr r 0),(6,.ptr p0 0),(10,.ptr p9 0),(2,.int .i64 symbols)]) f
  ⟨c,p,v,l0,left,d,hR0,hf,hl,hp,hlf,hc,hs.sub rfl⟩ ?_
 clear d hs hl hf hc hR0 hp hlf;rintro k tm h ⟨c,p,v,l,left,d,hR0,hf,hl,hp,hlf,hc,hs⟩;obtain⟨k,rfl⟩:∃g,k=g+1:=⟨k-1,by omega⟩;have hb1:=d.bound;have e0:=d.ex.le;have hr1:=d.r1;have hl0':=d.l0;have hlow1:h.low<=T.top:=oQ d.ex.low hlow;refine wpC.av hs zSR rfl rfl ⟨λc1=>?_,λc1=>hs.on λtm' hs'=>?_⟩
 rotate_left
 ·have:left=0:=by omega
  subst this;have hn:R0=some (l,p):=by rw[<-hR0];rfl
  exact hexit tm' h c v l p hn (by omega) d hp hl (hs'.sub rfl)
 have hleft:0<left:=by omega
 have hun:R0=match qY s left p with
  | none=>none
  | some (v,q) =>
   if l.length=symbols then none
   else if v=1 then
    match xF s symbols (symbols+1) q (l.length+1)with
    | none=>none
    | some (n,r)=>xE s symbols k left r (l++List.replicate (n-l.length) 0)
   else xE s symbols k (left-max (v-1) 1) q (l++[(v:Int)-1]):=by
  rw[<-hR0];show(if left=0 then some (l,p) else _)=_;rw[if_neg (by omega)]
  try rfl
 have next:∀x q,qY s left p=some (x,q)->∀h' c' tm',HD hb h' c' r p0 p9 s q log v l->c'<=c+2->Has tm' [(0,.ptr r 0),(6,.ptr p0 0),(10,.ptr p9 0),(2,.int .i64 symbols),(14,.int .i64 (x:Nat)),(11,.int .i64 (left:Nat))] ->
   OP false Ji ⟨137,tm',[],h'⟩ (λe s1=>(zy Kc (thenC (λs1=>s1.n=137/\s1.dfr=[]/\∃j,j<k+1/\∃c p v l left,HD hb s1.heap c r p0 p9 s p log v l/\xE s symbols j left p l=R0/\symbols+2<=j+l.length/\l.length<=symbols/\p<=8*s.length/\left<=1048576/\c<=8*l.length+c0 /\
    Has s1.tm [(11,.int .i64 (left:Nat)),(0,.ptr r 0),(6,.ptr p0 0),(10,.ptr p9 0),(2,.int .i64 symbols)]) R)) (zc 1 e) s1):=by
  intro x q hx h' c' tm' d' hc' hs';obtain⟨hx1,hq⟩:=zA1 hleft hx;rw[hx]at hun;simp only at hun;refine zHx (c0:=c0) d' hs' hlen hq hl hsy hx1 hlf hleft (by omega) (by omega) (λhn e tm2 h2 he g1 g2 g3=>?_) (λhx1 hls tm2 h2 c2 v2 hc2 d2 g1=>?_) (λhx1 hls tm2 h2 c2 v2 l2 q2 hz hl2 hlt hc2 d2 hq2 hs2 g1=>?_)
  ·refine g1.slt λtm3 g4=>?_
   refine hret ?_ e tm3 h2 he (g4.sub rfl) g2 g3;rw[hun];rcases hn with hn|⟨hn,hn2⟩
   ·rw[if_pos hn]
   ·by_cases hls:l.length=symbols
    ·rw[if_pos hls]
    ·rw[if_neg hls,if_pos hn,hn2]
  ·rw[if_neg hls,if_neg hx1]at hun
   show zy Kc _ (zc 1 (.exit 1)) _;rw[xB];refine g1.slt λtm3 g4=>?_
   exact⟨rfl,rfl,k,by omega,c2,q,v2,_,_,d2,hun.symm,by simp;omega,by simp;omega,hq,by omega,by simp;omega,g4.sub rfl⟩
  ·rw[if_neg hls,if_pos hx1,hz]at hun
   simp only at hun;refine g1.slt λtm3 g4=>?_
   exact⟨rfl,rfl,k,by omega,c2,q2,v2,l2,left,d2,by rw[hun];congr 1,by omega,hs2,hq2,hlf,hc2,g4.sub rfl⟩
 have hsb:=Zo left;have hB:xX left<=21:=yA (by omega);have hB0:=zDh left;have hT:=zPS hleft;have eb:zH ((xX left:Nat)-1:Int)=((xX left-1:Nat):Int):=by rw[zD (by omega) (by omega)];omega
 have fl:=qm s p (xX left-1);have pw:2^(xX left-1)<=2^20:=Nat.pow_le_pow_right (by decide) (by omega);have bad:qY s left p=none->R0=none:=λhn=>by rw[hun,hn]
 refine zGD hlf (by omega) hlow1 ⟨(xX left:Nat),(shT left:Nat),rfl,?_⟩;rw[eb];refine kc (n:=xX left-1) d.gr (by omega) (by omega) hlen hp (by omega) (λc2 h1 x1 g1=>?_) (λc2 h1 x1=>?_)
 rotate_left
 ·have y:ExtX (· = r) hb h1 (c+1):=d.ex.trans (ExtX.of x1)
  have g0:h1.get p0=some (oD 0 .nilslice):=(x1.get _ d.l0).trans d.g0;have:=x1.le;refine⟨0,brk 5,rfl,kQ ⟨_,zk yr g0 rfl (oJ _) rfl rfl,hs.on λtm' hs'=>hret (bad ?_) 5 tm' _ (.inl rfl) (hs'.sub rfl) ((y.upd _ (by omega) (.inr d.q0)).more (by omega)) (zN _ (by omega))⟩⟩
  unfold qY;rw[if_pos (by omega)]
 have d1:=d.take x1 g1;have hb2:=d1.bound;have e1:=d1.ex.le;have hl1':=d1.l0;refine⟨_,.nilIface,rfl,qU ⟨λc3=>?_,λc3=>hs.on λtm' hs'=>?_⟩⟩
 rotate_left
 · -- a bit less is enough
  refine next (yO s p (xX left-1)) (p+(xX left-1)) ?_ h1 (c+1) tm' d1 (by omega) (hs'.sub rfl);unfold qY;rw[if_neg (by omega),if_pos (by omega)]
 refine kc (n:=1) d1.gr (by omega) (by omega) hlen (by omega) (by decide) (λc4 h2 x2 g2=>?_) (λc4 h2 x2=>?_)
 rotate_left
 ·have y:ExtX (· = r) hb h2 (c+1+1):=d1.ex.trans (ExtX.of x2)
  have g0:h2.get p0=some (oD 0 .nilslice):=(x2.get _ d1.l0).trans d1.g0;have:=x2.le;refine⟨0,brk 5,rfl,kQ ⟨_,zk yr g0 rfl (oJ _) rfl rfl,hs.on λtm' hs'=>hret (bad ?_) 5 tm' _ (.inl rfl) (hs'.sub rfl) ((y.upd _ (by omega) (.inr d.q0)).more (by omega)) (zN _ (by omega))⟩⟩
  unfold qY;rw[if_neg (by omega),if_neg (by omega),if_pos (by omega)]
 have d2:=d1.take x2 g2;have ep:p+(xX left-1)+1=p+xX left:=by omega
 rw[ep]at d2;have hsl:=zK4 s p hB0;have hs2:=JB s (p+(xX left-1));have f1:yO s (p+(xX left-1)) 1=jq s (p+(xX left-1)):=by simp[yO]
 have mm:jq s (p+(xX left-1))*2^(xX left-1)<=1*2^(xX left-1):=Nat.mul_le_mul_right _ (by omega);have hfull:qY s left p=some (if 2^(xX left-1)<=yO s p (xX left) then yO s p (xX left)-shT left else yO s p (xX left),p+xX left):=by
  unfold qY;rw[if_neg (by omega),if_neg (by omega),if_neg (by omega)]
 have ev:zH (((yO s p (xX left-1):Nat):Int)+((jq s (p+(xX left-1))*2^(xX left-1):Nat):Int))=((yO s p (xX left):Nat):Int):=by
  rw[zD (by omega) (by omega),hsl];rfl
 rw[f1];refine⟨_,.nilIface,rfl,qU ⟨((jq s (p+(xX left-1))*2^(xX left-1):Nat):Int),yC (n:=xX left-1) (by omega) (by omega),((1*2^(xX left-1):Nat):Int),yC (a:=1) (n:=xX left-1) (by omega) (by omega),λc5=>hs.on λtm' hs'=>?_,λc5=>hs.on λtm' hs'=>?_⟩⟩
 ·rw[ev]at c5
  have c6:2^(xX left-1)<=yO s p (xX left):=by omega
  rw[if_pos c6]at hfull;have fu:=qm s p (xX left);have e2:zH (zH (((yO s p (xX left-1):Nat):Int)+((jq s (p+(xX left-1))*2^(xX left-1):Nat):Int))-(shT left:Nat))=((yO s p (xX left)-shT left:Nat):Int):=by
   have:shT left<=yO s p (xX left):=by unfold shT at *;omega
   rw[ev,zD (by omega) (by omega)];omega
  refine next _ _ hfull h2 (c+1+1) tm' d2 (by omega) ?_;rw[<-e2];exact hs'.sub rfl
 ·rw[ev]at c5
  have c6:¬2^(xX left-1)<=yO s p (xX left):=by omega
  rw[if_neg c6]at hfull;refine next _ _ hfull h2 (c+1+1) tm' d2 (by omega) ?_;rw[<-ev];exact hs'.sub rfl
def Ya (s:List UInt8) (most:Nat):Prop:=4<=8*s.length/\most<yO s 0 4+5
instance (s:List UInt8) (most:Nat):Decidable (Ya s most):=inferInstanceAs (Decidable (_/\_))
def wA (s:List UInt8) (most symbols:Nat):Option (Nat×List Int×Nat) :=
 if 8*s.length<4 then none
 else if most<yO s 0 4+5 then none
 else (xE s symbols (symbols+2) (2^(yO s 0 4+5)) 4 []).map λx=>(yO s 0 4+5,x.1,x.2)
theorem zRs {s:List UInt8}{r most symbols:Nat}(hg:h.get r=some (oRd s 0)) (hr:r<h.nx) (hlen:s.length<=1048576) (hsy:symbols<=256) (hnx:h.nx+8*symbols+30<=T.top) (hlow:h.low<=T.top) (_:most<=15)
  (hbad:wA s most symbols=none->∀e h',(e=31↔Ya s most)->e=5\/e=23\/e=31->ExtX (· = r) h h' (8*symbols+30)->Q (.tuple [.agg [.int .i64 0,.nilslice],brk e]) h')
  (hgood:∀log l p v h',wA s most symbols=some (log,l,p)->ExtX (· = r) h h' (8*symbols+30)->h'.get r=some (oRd s p)->Ow h' v yt l.length (zJ l)->(∀b,zu v=some b->h.nx<=b)->p<=8*s.length->l.length<=symbols->Q (.tuple [.agg [.int .i64 (log:Nat),v],.nilIface]) h') :
  RF P zA 137 [.ptr r 0,.int .i64 most,.int .i64 symbols] h Q:=by
 refine yD zZ5 rfl rfl z1c ⟨by omega,?_⟩;rintro p0 h1 rfl e1;obtain⟨n1,x1,g1⟩:=zx e1 (by omega);have gr1:h1.get r=some (oRd s 0):=(x1.get _ hr).trans hg;refine kc (n:=4) gr1 (by omega) (by omega) hlen (by omega) (by decide) (λc2 h3 x3 g3=>?_) (λc2 h3 x3=>?_)
 rotate_left
 · -- bits are missing
  have g0:h3.get h.nx=some (oD 0 .nilslice):=(x3.get _ (by omega)).trans g1;have:=x3.le;have y:ExtX (· = r) h h3 (1+1):=(ExtX.of x1).trans (ExtX.of x3);have hn:wA s most symbols=none:=by unfold wA;rw[if_pos (by omega)]
  refine⟨0,brk 5,rfl,kQ ⟨_,zk yr g0 rfl (oJ _) rfl rfl,endL.ok (leaveL.cell (zo yr rfl (zN _ (by omega)) rfl) rfl) ?_⟩⟩;refine hbad hn 5 _ ⟨λg=>absurd g (by decide),λg=>absurd g.1 (by omega)⟩ (.inl rfl) ((y.upd _ (by omega) (.inr (oP _))).more (by omega))
 have t3:=x3.top;have t3':=x3.le;refine⟨_,.nilIface,rfl,qU ⟨by omega,?_⟩⟩;rintro p8 h9 rfl e9;obtain⟨n9,x9,g9⟩:=zx e9 (by omega);have f4:=qm s 0 4;have el:zH (((yO s 0 4:Nat):Int)+5)=((yO s 0 4+5:Nat):Int):=by rw[zD (by omega) (by omega)];rfl
 rw[el];obtain⟨h10,e10,g10,k10,x10,n10⟩:∃h10,zf zA 59 h9 (.ptr h3.nx 0) (.agg [.int .i64 ((yO s 0 4+5:Nat):Int),.nilslice])=some h10/\h10.get h3.nx=some (oD ((yO s 0 4+5:Nat):Int) .nilslice)/\(∀b,b<h3.nx->h10.get b=h3.get b)/\Ext h3 h10 1/\h10.nx=h9.nx :=
  ⟨_,zk yr g9 rfl (oJ _) rfl rfl,zN _ (by omega),λb hb=>by rw[zP _ (by omega) (by omega),x9.get _ hb],x9.upd _ (by omega) (oP _),rfl⟩
 have y:ExtX (· = r) h h10 (1+1+1):=((ExtX.of x1).trans x3).trans (ExtX.of x10);have g0:h10.get h.nx=some (oD 0 .nilslice):=(k10 _ (by omega)).trans ((x3.get _ (by omega) (by omega)).trans g1);refine⟨h10,e10,_,zX zb rfl g10 rfl,λc=>?_,λc=>⟨_,zX zb rfl g10 rfl,((1*2^(yO s 0 4+5):Nat):Int),yC (a:=1) (by omega) ?_,Has.nil.on λtm hs=>?_⟩⟩
 · -- too accurate
  have hn:wA s most symbols=none:=by unfold wA;rw[if_neg (by omega),if_pos (by omega)]
  refine YX ⟨_,zk yr g0 rfl (oJ _) rfl rfl,endL.ok (leaveL.cell (zo yr rfl (zN _ (by omega)) rfl) rfl) ?_⟩;refine hbad hn 31 _ ⟨λ_=>⟨by omega,by omega⟩,λ_=>rfl⟩ (.inr (.inr rfl)) ((y.upd _ (by omega) (.inr (oP _))).more (by omega))
 ·have:2^(yO s 0 4+5)<=2^20:=Nat.pow_le_pow_right (by decide) (by omega)
  omega
 have pw:2^(yO s 0 4+5)<=2^20:=Nat.pow_le_pow_right (by decide) (by omega);have hun:wA s most symbols=(xE s symbols (symbols+2) (2^(yO s 0 4+5)) 4 []).map λx=>(yO s 0 4+5,x.1,x.2):=by
  unfold wA;rw[if_neg (by omega),if_neg (by omega)]
 have d:HD h h10 3 r h.nx h3.nx s 4 ((yO s 0 4+5:Nat):Int) .nilslice [] :=
  ⟨y,(k10 _ (by omega)).trans g3,g0,g10,Ow.nil _ _,λb e=>(by cases e),hr,oP _,by omega,by omega,by omega,by omega⟩
 have hs1:=hs.sub (l':=[(11,.int .i64 ((1*2^(yO s 0 4+5):Nat):Int)),(0,.ptr r 0),(6,.ptr h.nx 0),(10,.ptr h3.nx 0),(2,.int .i64 symbols),(7,.nilIface)]) rfl;rw[Nat.one_mul]at hs1;refine zLJ (c0:=3) (f:=symbols+2) d hs1 hlen (by omega) (by simp) hsy (by omega) (by simp) (by simp) (by omega) hlow (λhn e tm2 h2 he hs2 y2 g2=>?_) (λtm2 h2 c2 v2 l2 p2 hz hc2 d2 hp2 hl2 hs2=>?_)
 ·have y2':=y2.le
  refine endW.ok (leave.cell (hs2.get rfl) (zo yr rfl g2 rfl) (leave.tmp (hs2.get rfl) rfl)) ?_;refine hbad (by rw[hun,hn];rfl) e h2 ⟨λg=>by omega,λg=>absurd g.2 (by omega)⟩ (by omega) (y2.more (by omega))
 ·have b2:=d2.bound
  have l0:=d2.l0;have hnx2:=d2.ex.le;refine thenC.out ?_;refine wpS.av hs2 zTC rfl rfl ⟨_,_,zo yr rfl d2.g9 rfl,_,zk yr d2.g0 (by rfl) (oJ _) ?_ (by rfl),hs2.on λtm3 hs3=>?_⟩
  ·show zL [.int .i64 ((yO s 0 4+5:Nat):Int),v2]=true
   exact yc.2 λu hu=>by
    rcases od.1 hu with rfl|hu
    ·rfl
    ·exact yc.1 d2.ow.cells.2 u hu
  ·refine endW.ok (leave.cell (hs3.get rfl) (zo yr rfl (zN _ (by omega)) rfl) (leave.tmp (hs3.get rfl) rfl)) ?_
   refine hgood _ l2 p2 v2 _ (by rw[hun,hz];rfl) ((d2.ex.upd _ (by omega) (.inr d2.q0)).more (by omega)) ?_ ?_ (λb e=>(d2.vb b e).1) hp2 hl2
   ·rw[zP _ (by omega) (by omega)];exact d2.gr
   ·exact d2.ow.keep (oP _) λb e=>zP _ (by omega) (by have:=(d2.vb b e).2.1;omega)
open Go.RowKit Go.Extern.Stop Go.Stop Go.Extern
section
set_option maxRecDepth 100000
theorem Xf (w:World):(callFunc 394 #[.agg #[.pointer (some ⟨1,24,none⟩)]]).run Tryz.prog w = .ok (.value (.bool true)) w:=by kernel_rfl
theorem zBt (v:Value) (w:World):(callFunc 210 #[.iface 24 v]).run Tryz.prog w = .ok (.value (.iface 322 (.agg #[.pointer (some ⟨1,24,none⟩)]))) w:=by kernel_rfl
theorem kL (v:Value) (w:World):(Go.method 545 322 v "Comparable").run Tryz.prog w = .ok (394,v) w:=by kernel_rfl
theorem zUu (v:Value) (xT:TypeId) (w:World):(Instr.typeAssert (.iface 24 v) xT 324 true).run Tryz.prog w = .ok (.tuple #[.nilIface,.bool false]) w:=run_typeAssert_lacksB Tryz.underlying324 (by kernel_rfl) (by kernel_rfl) v xT w
theorem zBz (v:Value) (xT:TypeId) (w:World):(Instr.typeAssert (.iface 24 v) xT 327 true).run Tryz.prog w = .ok (.tuple #[.nilIface,.bool false]) w:=run_typeAssert_lacksB Tryz.underlying327 (by kernel_rfl) (by kernel_rfl) v xT w
theorem zAM (v:Value) (xT:TypeId) (w:World):(Instr.typeAssert (.iface 24 v) xT 329 true).run Tryz.prog w = .ok (.tuple #[.nilIface,.bool false]) w:=run_typeAssert_lacksB Tryz.underlying329 (by kernel_rfl) (by kernel_rfl) v xT w
theorem zUv (v:Value) (xT:TypeId) (w:World):(Instr.typeAssert (.iface 269 v) xT 324 true).run Tryz.prog w = .ok (.tuple #[.nilIface,.bool false]) w:=run_typeAssert_lacksB Tryz.underlying324 (by kernel_rfl) (by kernel_rfl) v xT w
theorem Oz (v:Value) (xT:TypeId) (w:World):(Instr.typeAssert (.iface 269 v) xT 327 true).run Tryz.prog w = .ok (.tuple #[.iface 269 v,.bool true]) w:=run_typeAssert_hasB Tryz.underlying327 (by kernel_rfl) v xT w
theorem Xk (v:Value) (w:World):(Go.method 545 269 v "Unwrap").run Tryz.prog w = .ok (390,v) w:=by kernel_rfl
theorem eqE (e:Int) (w:World):(binOp .eql 163 (.iface 24 (.int .i64 e)) (.iface 24 (.int .i64 31))).run Tryz.prog w = .ok (.bool (decide (e=31))) w:=by kernel_rfl
theorem zMo (w:World) :
  Calls Tryz.prog 138 #[.iface 269 (.agg #[.iface 24 (.int .i64 31)]),.iface 24 (.int .i64 31)] w λx w'=>x = .returned (.bool true)/\w'=w.alloc (.cells #[.iface 24 (.int .i64 31)] 269):=by
 have tT:=zBt;have cT:=Xf;have mR:=kL;have nE:=zUu;have uE:=zBz;have vE:=zAM;have nW:=zUv;have uW:=Oz;have mU:=Xk;have hty:=run_eql_iface_types (P:=Tryz.prog) 269 24 (.agg #[.iface 24 (.int .i64 31)]) (.int .i64 31) Tryz.underlying163 (by decide);have heq:∀w,(binOp .eql 163 (.iface 24 (.int .i64 31)) (.iface 24 (.int .i64 31))).run Tryz.prog w = .ok (.bool true) w:=λw=>eqE 31 w
 go_enter Tryz.func138,Tryz.ntmps138
 go_wp2
 refine wp_loop_rounds 2 ?_;rw[rounds_succ]
 go_wp2
 simp only[Array.getD,List.size_toArray,oV,List.length_nil,Nat.reduceAdd,Nat.reduceLT,dite_true,Array.getInternal];rw[rounds_succ]
 go_wp2
 go_ret
 refine⟨rfl,?_⟩;rfl
theorem zMp (e:Int) (he:e≠31) (w:World) :
  Calls Tryz.prog 138 #[.iface 269 (.agg #[.iface 24 (.int .i64 e)]),.iface 24 (.int .i64 31)] w λx w'=>x = .returned (.bool false)/\w'=w.alloc (.cells #[.iface 24 (.int .i64 e)] 269):=by
 have tT:=zBt;have cT:=Xf;have mR:=kL;have nE:=zUu;have uE:=zBz;have vE:=zAM;have nW:=zUv;have uW:=Oz;have mU:=Xk;have hty:=run_eql_iface_types (P:=Tryz.prog) 269 24 (.agg #[.iface 24 (.int .i64 e)]) (.int .i64 31) Tryz.underlying163 (by decide);have heq:∀w,(binOp .eql 163 (.iface 24 (.int .i64 e)) (.iface 24 (.int .i64 31))).run Tryz.prog w = .ok (.bool false) w:=λw=>by rw[eqE e w,decide_eq_false he]
 go_enter Tryz.func138,Tryz.ntmps138
 go_wp2
 refine wp_loop_rounds 2 ?_;rw[rounds_succ]
 go_wp2
 simp only[Array.getD,List.size_toArray,oV,List.length_nil,Nat.reduceAdd,Nat.reduceLT,dite_true,Array.getInternal];rw[rounds_succ]
 go_wp2
 go_ret
 refine⟨rfl,?_⟩;rfl
theorem zXK (w:World) :
  Calls Tryz.prog 138 #[.nilIface,.iface 24 (.int .i64 31)] w λx w'=>x = .returned (.bool false)/\w'=w:=by
 have hn:=run_eql_iface_nil_left (P:=Tryz.prog) w 24 (.int .i64 31) Tryz.underlying163
 go_enter Tryz.func138,Tryz.ntmps138
 go_wp2
 go_ret
 exact⟨rfl,rfl⟩
end
theorem _root_.Go.Sim.HR.alloc {ρ:Env}{D:Nat->Prop}{w:World}(r:HR ρ D h w) (x:Obj):HR ρ D h (w.alloc x) where
 cap:=r.cap
 lt:=r.lt
 rel:=λid o d g=>by rw[Go.RowKit.Below.heap_alloc w x _ (r.lt_size d g)];exact r.rel id o d g
 inj:=r.inj
theorem _root_.Go.Sim.Mv.alloc (ρ:Env) (D:Nat->Prop) (h:H) (w:World) (x:Obj):Mv ρ D h w ρ h (w.alloc x) where
 nx:=oP _
 size:=by show w.heap.size<=(w.heap.push x).size;simp
 os:=rfl
 tape:=rfl
 output:=rfl
 agree:=Agree.refl _ _
 old:=λid o _ g=>⟨o,g,rfl⟩
 img:=λid o h1 h2 _=>absurd h2 (by omega)
 frame:=λr hr _=>Go.RowKit.Below.heap_alloc w x r hr
 low:=oP _
 kept:=λ_ _ _=>rfl
theorem _root_.Go.Sim.SimF.of_calls {P:Program}{f:Nat}{args:List V}{b:Bool}
  (hc:∀ρ w,Calls P f (args.map (V.conc ρ)).toArray w λx w'=>x = .returned (.bool b)/\(w'=w\/∃o,w'=w.alloc o)):SimF P f args h (.ret (.bool b) h):=by
 intro ρ D w r _;refine callsIn_wide.2 ((hc ρ w).mono ?_);rintro x w' ⟨rfl,rfl|⟨o,rfl⟩⟩
 ·exact⟨ρ,rfl,Mv.refl _ _ _ _,by rw[ze];exact r,trivial⟩
 ·exact⟨ρ,rfl,Mv.alloc _ _ _ _ _,by rw[ze];exact r.alloc o,trivial⟩
theorem z1K:∃fi,zA.fn.get 138=some fi:=Option.isSome_iff_exists.1 (by kernel_rfl)
theorem zM3 {e:Int}(hq:Q (.bool (decide (e=31))) h):RF P zA 138 [brk e,.iface 24 (.int .i64 31)] h Q:=by
 refine⟨_,h,⟨z1K,SimF.of_calls λρ w=>?_⟩,hq⟩
 by_cases he:e=31
 ·subst he
  exact(zMo w).mono λx w' g=>⟨g.1,.inr ⟨_,g.2⟩⟩
 ·rw[decide_eq_false he]
  exact(zMp e he w).mono λx w' g=>⟨g.1,.inr ⟨_,g.2⟩⟩
theorem zEz (hq:Q (.bool false) h):RF P zA 138 [.nilIface,.iface 24 (.int .i64 31)] h Q :=
 ⟨_,h,⟨z1K,SimF.of_calls λ_ w=>(zXK w).mono λ_ _ g=>⟨g.1,.inl g.2⟩⟩,hq⟩
theorem _root_.Go.Sim.thenC.nx {K:St->Prop}{R:AX->St->Prop}{s:St}(h:K s):thenC K R .normal s:=h
theorem zHm (s:List UInt8):ZD s 0 s.length=s:=by simp[ZD]
abbrev flt (e at':Int):V:=.agg [.int .i64 e,.int .i64 at']
theorem zEl {s:List UInt8}(hlen:s.length<=2000) (hnx:h.nx+200<=T.top) (hlow:h.low<=T.top)
  (hbad:wA s 6 12=none->∀h',Ext h h' 150->Q (.tuple [.agg [.int .i64 0,.nilslice],.int .i64 0,flt (if Ya s 6 then 31 else 23) 0]) h')
  (hgood:∀log l p v h',wA s 6 12=some (log,l,p)->Ext h h' 150->Ow h' v yt l.length (zJ l)->(∀b,zu v=some b->h.nx<=b)->p<=8*s.length->l.length<=12->Q (.tuple [.agg [.int .i64 (log:Nat),v],.int .i64 ((p+7)/8:Nat),flt 0 0]) h') :
  RF P zA 80 [.str s,.int .i64 0,.int .i64 6,.int .i64 12] h Q:=by
 refine yD z64 rfl rfl z7O ⟨by omega,?_⟩;rintro p0 h1 rfl e1;obtain⟨n1,x1,g1⟩:=zx e1 (by omega);refine⟨by omega,?_⟩;rintro p2 h3 rfl e3;obtain⟨n3,x3,g3⟩:=zx e3 (by omega);refine⟨λc=>absurd c (by decide),λ_=>⟨λc=>absurd c (by show ¬((s.length:Int)<0);omega),λ_=>⟨λc=>absurd c (by decide),λ_=>⟨λc=>absurd c (by decide),λ_=>⟨λc=>absurd c (by decide),λ_=>⟨λc=>absurd c (by decide),λ_=>Has.nil.on λtm hs=>?_⟩⟩⟩⟩⟩⟩
 refine wpS.av hs zYM rfl rfl (hs.on λtm1 hs1=>?_);refine thenC.nx (hs1.sealK λtm2 hs2=>?_);have em:min (Int.ofNat s.length) (zH (0+2000))=(s.length:Int):=by
  show min (s.length:Int) (zH 2000)=_;rw[zD (by omega) (by omega)];omega
 refine wpS.av hs2 zYN rfl rfl ⟨s,by rw[em];have:=Jx (s:=s) (h:=h3) (oJ s.length) (oP _);rwa [zHm]at this,by omega,?_⟩;rintro p1 h4 rfl e4;obtain⟨n4,x4,g4⟩:=zx e4 (by omega);obtain⟨h5,e5,g5,x5,n5⟩:∃h5,zf zA 112 h4 (.ptr h3.nx 0) (.agg [.str s,.int .i64 0])=some h5/\h5.get h3.nx=some (oRd s 0)/\Ext h3 h5 1/\h5.nx=h4.nx :=
  ⟨_,zk jv g4 rfl (oJ _) rfl rfl,zN _ (by omega),x4.upd _ (by omega) (oP _),rfl⟩
 have x35:Ext h h5 (1+1+1):=(x1.trans x3).trans x5;have g15:h5.get h.nx=some (oD 0 .nilslice):=by rw[x5.get _ (by omega),x3.get _ (by omega)];exact g1
 have g35:h5.get h1.nx=some (.cells (.ls [.int .i64 0,.int .i64 0]) ⟨0,26+1,0⟩ true false):=by rw[x5.get _ (by omega)];exact g3
 have hl5:h5.low<=T.top:=oQ x35.low hlow;refine⟨h5,e5,zRs (most:=6) (symbols:=12) g5 (by omega) (by omega) (by decide) (by omega) hl5 (by decide) (λhn e h6 he1 he2 y6=>?_) (λlog l p v h6 hz y6 gr ow hv hp hl=>?_)⟩
 · -- an error
  have x6:=ExtX.ext x35 y6 (λb hb=>by omega);have l6:=y6.le;have g16:h6.get h.nx=some (oD 0 .nilslice):=(y6.get _ (by omega) (by omega)).trans g15;have g36:h6.get h1.nx=some (.cells (.ls [.int .i64 0,.int .i64 0]) ⟨0,26+1,0⟩ true false):=(y6.get _ (by omega) (by omega)).trans g35;have t6:=x6.top;refine⟨0,.nilslice,brk e,rfl,?_⟩;obtain⟨h7,e7,g17,g37,x7,n7⟩:∃h7,zf zA 59 h6 (.ptr h.nx 0) (.agg [.int .i64 0,.nilslice])=some h7/\h7.get h.nx=some (oD 0 .nilslice)/\h7.get h1.nx=some (.cells (.ls [.int .i64 0,.int .i64 0]) ⟨0,26+1,0⟩ true false)/\Ext h h7 (1+1+1+(8*12+30))/\h7.nx=h6.nx :=
   ⟨_,zk yr g16 rfl (oJ _) rfl rfl,zN _ (by omega),by rw[zP _ (by omega) (by omega)];exact g36,x6.upd _ (by omega) (oP _),rfl⟩
  obtain⟨h8,e8,g18,g38,x8,n8⟩:∃h8,zf zA 59 h7 (.ptr h.nx 0) (.agg [.int .i64 0,.nilslice])=some h8/\h8.get h.nx=some (oD 0 .nilslice)/\h8.get h1.nx=some (.cells (.ls [.int .i64 0,.int .i64 0]) ⟨0,26+1,0⟩ true false)/\Ext h h8 (1+1+1+(8*12+30))/\h8.nx=h7.nx :=
   ⟨_,zk yr g17 rfl (oJ _) rfl rfl,zN _ (by omega),by rw[zP _ (by omega) (by omega)];exact g37,x7.upd _ (by omega) (oP _),rfl⟩
  refine⟨h7,e7,zM3 ⟨_,rfl,λc=>?_,λc=>?_⟩⟩
  ·have he:e=31:=of_decide_eq_true c
   have hacc:=he1.1 he;refine⟨h8,e8,_,zk xU g38 rfl (oJ _) rfl rfl,hs2.on λtm3 hs3=>endW.ok (leave.cell (hs3.get rfl) (zo yr rfl ((zP _ (by omega) (by omega)).trans g18) rfl) (leave.tmp (hs3.get rfl) (leave.cell (hs3.get rfl) (zo xU rfl (zN _ (by omega)) rfl) rfl))) ?_⟩
   have:=hbad hn (h8.upd h1.nx (some (.cells (.ls [.int .i64 31,.int .i64 0]) ⟨0,26+1,0⟩ true false))) ((x8.upd _ (by omega) (by omega)).mono (by omega));rw[if_pos hacc]at this;exact this
  ·have he:e≠31:=of_decide_eq_false c
   have hacc:¬Ya s 6:=λg=>he (he1.2 g)
   refine kQ ⟨h8,e8,_,zk xU g38 rfl (oJ _) rfl rfl,hs2.on λtm3 hs3=>endW.ok (leave.cell (hs3.get rfl) (zo yr rfl ((zP _ (by omega) (by omega)).trans g18) rfl) (leave.tmp (hs3.get rfl) (leave.cell (hs3.get rfl) (zo xU rfl (zN _ (by omega)) rfl) rfl))) ?_⟩
   have:=hbad hn (h8.upd h1.nx (some (.cells (.ls [.int .i64 23,.int .i64 0]) ⟨0,26+1,0⟩ true false))) ((x8.upd _ (by omega) (by omega)).mono (by omega));rw[if_neg hacc]at this;exact this
 · -- the distribution
  have x6:=ExtX.ext x35 y6 (λb hb=>by omega);have l6:=y6.le;have g16:h6.get h.nx=some (oD 0 .nilslice):=(y6.get _ (by omega) (by omega)).trans g15;have g36:h6.get h1.nx=some (.cells (.ls [.int .i64 0,.int .i64 0]) ⟨0,26+1,0⟩ true false):=(y6.get _ (by omega) (by omega)).trans g35;have t6:=x6.top;obtain⟨c1,c2⟩:=ow.cells;have ho:zL [.int .i64 ((log:Nat):Int),v]=true:=yc.2 λu hu=>by
   rcases od.1 hu with rfl|hu
   ·rfl
   ·exact yc.1 c2 u hu
  refine⟨_,v,.nilIface,rfl,?_⟩;obtain⟨h7,e7,g17,g37,x7,n7,k7⟩:∃h7,zf zA 59 h6 (.ptr h.nx 0) (.agg [.int .i64 ((log:Nat):Int),v])=some h7/\h7.get h.nx=some (oD ((log:Nat):Int) v)/\h7.get h1.nx=some (.cells (.ls [.int .i64 0,.int .i64 0]) ⟨0,26+1,0⟩ true false)/\Ext h h7 (1+1+1+(8*12+30))/\h7.nx=h6.nx/\∀b,b≠h.nx->h7.get b=h6.get b :=
   ⟨_,zk yr g16 rfl (oJ _) ho rfl,zN _ (by omega),by rw[zP _ (by omega) (by omega)];exact g36,x6.upd _ (by omega) (oP _),rfl,λb hb=>zP _ (by omega) hb⟩
  refine⟨h7,e7,zEz ⟨_,rfl,λc=>(by cases c),λ_=>qU ?_⟩⟩
  have gr7:h7.get h3.nx=some (oRd s p):=(k7 _ (by omega)).trans gr;refine⟨s,(p:Nat),zo jv rfl gr7 rfl,zNo (by omega) hp ⟨_,_,rfl,_,v,zo yr rfl g17 rfl,?_⟩⟩;obtain⟨h8,e8,g18,g38,x8,n8,k8⟩:∃h8,zf zA 59 h7 (.ptr h.nx 0) (.agg [.int .i64 ((log:Nat):Int),v])=some h8/\h8.get h.nx=some (oD ((log:Nat):Int) v)/\h8.get h1.nx=some (.cells (.ls [.int .i64 0,.int .i64 0]) ⟨0,26+1,0⟩ true false)/\Ext h h8 (1+1+1+(8*12+30))/\h8.nx=h7.nx/\∀b,b≠h.nx->h8.get b=h7.get b :=
   ⟨_,zk yr g17 rfl (oJ _) ho rfl,zN _ (by omega),by rw[zP _ (by omega) (by omega)];exact g37,x7.upd _ (by omega) (oP _),rfl,λb hb=>zP _ (by omega) hb⟩
  have ew:zH (0+(((p+7)/8:Nat):Int))=(((p+7)/8:Nat):Int):=by rw[zD (by omega) (by omega)];omega
  refine⟨h8,e8,_,zk xU g38 rfl (oJ _) rfl rfl,hs2.on λtm3 hs3=>endW.ok (leave.cell (hs3.get rfl) (zo yr rfl ((zP _ (by omega) (by omega)).trans g18) rfl) (leave.tmp (hs3.get rfl) (leave.cell (hs3.get rfl) (zo xU rfl (zN _ (by omega)) rfl) rfl))) ?_⟩
  rw[ew];refine hgood log l p v _ hz ((x8.upd _ (by omega) (by omega)).mono (by omega)) (ow.keep ?_ λb e=>?_) (λb e=>oQ x35.le (hv b e)) hp hl
  ·show h6.nx<=h8.nx;omega
  ·have:=hv b e
   rw[zP _ (by omega) (by omega),k8 _ (by omega),k7 _ (by omega)]
end Go.Proofs.YtnpeieeomokomaaGreat
