/- TP. No condition. -/
import Derived.Test.YtnpeieeomokomaaGreatZTO
set_option maxRecDepth 100000
set_option maxHeartbeats 4000000
namespace Go.Proofs.YtnpeieeomokomaaGreat
open Go.Sim
theorem OV {w:Wr}{m:Nat}{h:H}{Q:V->H->Prop}(ok:w.ok m) (hm:m<=8388600) (hq:Q (.int .i64 0) h):RF P zA 282 [wH w] h Q:=by
 refine RF.plain ?_ (zy rfl);have hq:∀h':H,Plain (.int .i64 0)/\Q (.int .i64 0) h:=λ_=>⟨xG _ _,hq⟩
 obtain⟨s,p,n⟩:=w;obtain⟨hp,hn,hs⟩:=ok;simp only at hp hn hs;have hpn:2^n<=2^7:=Nat.pow_le_pow_right (by decide) hn;show RF P zA 282 [.agg [.str s,.int .i64 (p:Nat),.int .i64 (n:Nat)]] H0 _;refine RF.enterS zG zZ6 (ble _ _ rfl) (ble _ _ rfl) z1i ⟨by decide,?_⟩;rintro p0 h1 rfl e1;have w1:=(Vw.nil (S:=zW) (h:=H0)).new e1 (by decide);refine⟨_,w1.ld1 0 rfl zi rfl rfl,λc=>by omega,λ_=>⟨_,w1.ld1 0 rfl zi rfl rfl,λc=>by omega,λ_=>⟨_,w1.ld1 0 rfl zi rfl rfl,λc=>by omega,λ_=>⟨_,w1.ld1 0 rfl zi rfl rfl,_,w1.ld1 0 rfl zi rfl rfl,((1*2^n:Nat):Int),by rw[zP (by omega)];exact zb (a:=1) (by omega) (by omega),λc=>by omega,λ_=>Has.nil.on λtm hs2=>?_⟩⟩⟩⟩
 refine wpS.at hs2 zSx rfl rfl (ws ?_);rw[Xs];refine⟨_,w1.ld1 0 rfl Y3 rfl rfl,λc=>?_,λ_=>hs2.on λtm3 hs3=>thenC.nx (wpS.at hs3 zSy rfl rfl (hs3.on λtm4 hs4=>endW.r1 (hs4.get rfl) (hq h1)))⟩
 have:(1048576:Int)<(s.length:Int):=c;omega
theorem zQS {w:Wr}{m b:Nat}{h:H}{Q:V->H->Prop}(ok:w.ok m) (hm:m<=8388600) (hb:b<2) (hq:Q (wH (kd w b)) h):RF P zA 283 [wH w,.int .i64 b] h Q:=by
 refine RF.plain ?_ (zy rfl);have hq:∀h':H,Plain (wH (kd w b))/\Q (wH (kd w b)) h:=λ_=>⟨ze rfl,hq⟩
 obtain⟨s,p,n⟩:=w;obtain⟨hp,hn,hs⟩:=ok;simp only at hp hn hs;have hpn:2^n<=2^7:=Nat.pow_le_pow_right (by decide) hn;have hbn:b*2^n<=1*2^n:=Nat.mul_le_mul_right _ (by omega);show RF P zA 283 [.agg [.str s,.int .i64 (p:Nat),.int .i64 (n:Nat)],.int .i64 b] H0 _;refine RF.enterS zG zZ7 (ble _ _ rfl) (ble _ _ rfl) z1j ⟨by decide,?_⟩;rintro p0 h1 rfl e1;have w1:=(Vw.nil (S:=zW) (h:=H0)).new e1 (by decide);have n1:h1.next=H0.next+1:=by rw[e1,zI]
 have z0:H0.next=0:=rfl;have ht:=zt;refine⟨by omega,?_⟩;rintro p2 h3 rfl e3;have w3:=w1.new e3 (by omega);have n3:h3.next=h1.next+1:=by rw[e3,zI]
 have ex:zL (((p:Nat):Int)+((b*2^n:Nat):Int))=((p+b*2^n:Nat):Int):=by rw[zH (by omega) (by omega)];rfl
 have en:zL (((n:Nat):Int)+1)=((n+1:Nat):Int):=zf (by omega);refine⟨_,w3.ld1 1 rfl zi rfl rfl,_,w3.ld1 1 rfl zi rfl rfl,((b*2^n:Nat):Int),by rw[zP (by omega)];exact zb (by omega) (by omega),?_⟩;rw[ex];obtain⟨h7,e7,w7,n7,_⟩:=w3.st (cx:=zA) 1 (t:=3) (f:=0+1) (u:=.int .i64 ((p+b*2^n:Nat):Int)) rfl (by omega) zi rfl (oJ _) rfl rfl;refine⟨h7,e7,_,w7.ld1 1 rfl zi rfl rfl,?_⟩;rw[en];obtain⟨h9,e9,w9,n9,_⟩:=w7.st (cx:=zA) 1 (t:=3) (f:=0+2) (u:=.int .i64 ((n+1:Nat):Int)) rfl (by omega) zi rfl (oJ _) rfl rfl;refine⟨h9,e9,_,w9.ld1 1 rfl zi rfl rfl,λc=>?_,λc=>?_⟩
 ·have hw:kd ⟨s,p,n⟩ b=⟨s++[UInt8.ofNat (p+b*2^n)],0,0⟩:=by
   unfold kd;rw[if_pos (by show n=7;omega)]
  rw[hw]at hq;have h256:p+b*2^n<256:=by
   have:n=7:=by omega
   subst this;omega
  obtain⟨h14,e14,s14,x14⟩:=wh (h:=h9) ((p+b*2^n:Nat):Int) (by omega);rw[<-jb h256]at s14;have w14:=w9.ext x14;have t14:=x14.top;obtain⟨h18,e18,w18,n18,_⟩:=w14.st (cx:=zA) 1 (t:=9) (f:=0+0) (u:=.str (s++[UInt8.ofNat (p+b*2^n)])) rfl (by omega) Y3 rfl (oJ _) rfl rfl;obtain⟨h19,e19,w19,n19,_⟩:=w18.st (cx:=zA) 1 (t:=3) (f:=0+1) (u:=.int .i64 0) rfl (by omega) zi rfl (oJ _) rfl rfl;obtain⟨h20,e20,w20,n20,_⟩:=w19.st (cx:=zA) 1 (t:=3) (f:=0+2) (u:=.int .i64 0) rfl (by omega) zi rfl (oJ _) rfl rfl;obtain⟨h24,e24,w24,n24,_⟩:=w20.st (cx:=zA) 0 (t:=209) (f:=0) (u:=.agg [.str (s++[UInt8.ofNat (p+b*2^n)]),.int .i64 0,.int .i64 0]) rfl (by omega) xH rfl (oJ _) rfl rfl;exact⟨_,w9.ld1 1 rfl Y3 rfl rfl,_,w9.ld1 1 rfl zi rfl rfl,_,h14,by rw[yf,oZ h256];exact e14,wk (l:=[UInt8.ofNat (p+b*2^n)]) s14 (Nat.succ_pos _) (qI (by rw[List.length_singleton];omega) ⟨h18,e18,h19,e19,h20,e20,_,_,_,w20.ldA 1 rfl xH rfl rfl,h24,e24,endL.ok (leaveL.cell (w24.ldA 0 rfl xH rfl rfl) rfl) (hq h24)⟩)⟩
 ·have hw:kd ⟨s,p,n⟩ b=⟨s,p+b*2^n,n+1⟩:=by
   unfold kd;rw[if_neg (by show ¬n=7;omega)]
  rw[hw]at hq;obtain⟨h28,e28,w28,n28,_⟩:=w9.st (cx:=zA) 0 (t:=209) (f:=0) (u:=.agg [.str s,.int .i64 ((p+b*2^n:Nat):Int),.int .i64 ((n+1:Nat):Int)]) rfl (by omega) xH rfl (oJ _) rfl rfl;exact⟨_,_,_,w9.ldA 1 rfl xH rfl rfl,h28,e28,endL.ok (leaveL.cell (w28.ldA 0 rfl xH rfl rfl) rfl) (hq h28)⟩
theorem XJ {w:Wr}{m v k:Nat}{h:H}{Q:V->H->Prop}(ok:w.ok m) (hm:m+40<=1000000) (hk:k<=32) (hv:v<2^k) (hq:Q (.tuple [wH (zn w v k),.int .i64 0]) h):RF P zA 226 [wH w,.int .i64 k,.int .i64 v] h Q:=by
 refine RF.plain ?_ (zy rfl);have hq:∀h':H,Plain (.tuple [wH (zn w v k),.int .i64 0])/\Q (.tuple [wH (zn w v k),.int .i64 0]) h:=λ_=>⟨ze rfl,hq⟩
 have hvk:2^k<=2^32:=Nat.pow_le_pow_right (by decide) hk;have hpk:=Nat.two_pow_pos k;have ht:=zt;have z0:H0.next=0:=rfl;have hs:=ok.s;have hn7:=ok.n;refine RF.enterS zG zYy (ble _ _ rfl) (ble _ _ rfl) z1L ⟨by decide,?_⟩;rintro p0 h1 rfl e1;have w1:=(Vw.nil (S:=zW) (h:=H0)).new (o:=YP w (209+1)) e1 (by decide);have n1:h1.next=H0.next+1:=by rw[e1,zI]
 refine⟨by omega,?_⟩;rintro p2 h3 rfl e3;have w3:=w1.new (o:=YP ⟨[],0,0⟩ (209+1)) e3 (by omega);have n3:h3.next=h1.next+1:=by rw[e3,zI]
 refine⟨_,_,_,Kz w3 (i:=1) rfl,OV ok (by omega) ⟨_,rfl,λ_=>⟨λc=>by omega,λ_=>⟨λc=>by omega,λ_=>⟨λc=>by omega,λ_=>⟨((1*2^k:Nat):Int),by rw[zP (by omega)];exact zb (a:=1) (by omega) (by omega),λc=>by omega,λ_=>Has.nil.on λtm hs0=>?_⟩⟩⟩⟩,λc=>absurd rfl c⟩⟩
 refine wpS.at hs0 zS3 rfl rfl ⟨λ_=>?_,λc=>absurd rfl c⟩
 rw[Xs];refine⟨_,w3.ld1 1 rfl Y3 rfl rfl,?_⟩;rw[YE];have e5:zL (((w.n:Nat):Int)+((k:Nat):Int))=((w.n+k:Nat):Int):=by rw[zH (by omega) (by omega)];rfl
 have e6:zL (Int.tdiv ((w.n+k:Nat):Int) 8)=(((w.n+k)/8:Nat):Int):=by
  rw[show Int.tdiv ((w.n+k:Nat):Int) 8=(((w.n+k)/8:Nat):Int)from rfl,zH (by omega) (by omega)]
 have e7:¬(1048576:Int)<zL (Int.ofNat w.s.length+(((w.n+k)/8:Nat):Int)):=by
  show ¬(1048576:Int)<zL (((w.s.length:Nat):Int)+(((w.n+k)/8:Nat):Int));rw[zH (by omega) (by omega)];omega
 refine⟨_,w3.ld1 1 rfl zi rfl rfl,by decide,λc=>absurd c (by rw[e5,e6];exact e7),λ_=>hs0.on λtm1 hs1=>?_⟩
 refine wpS.at hs1 zS2 rfl rfl ⟨λc=>absurd rfl c,λ_=>hs1.on λtm2 hs2=>?_⟩
 refine wpC.round (λj tm h'=>∃i:Nat,i<=k/\j=k-i/\h'.next=h3.next/\Vw zW H0 h' 2 [(h1.next,YP ⟨[],0,0⟩ (209+1)),(H0.next,YP (zn w v i) (209+1))] /\
  Has tm [(9,.int .i64 i),(1,.int .i64 k),(3,.ptr H0.next 0),(2,.int .i64 v),(6,.ptr h1.next 0)]) k ⟨0,by omega,by omega,rfl,w3,hs2.sub (by kernel_rfl)⟩ ?_
 clear hs0 hs1 hs2 w3;rintro j tm h' ⟨i,hi,rfl,hnx,vw,hs⟩;refine wpC.at hs zRD rfl rfl ⟨λc=>?_,λc=>hs.on λtm' hs'=>?_⟩
 ·have hik:i<k:=by omega
  have hdv:v/2^i<=v:=Nat.div_le_self _ _;have e8:v/2^i &&& 1=v/2^i % 2:=by
   rw[show(1:Nat)=2^1-1 from rfl,jy]
  have hb2:v/2^i % 2<2:=Nat.mod_lt _ (by decide);have oki:=yK ok (v:=v) i;obtain⟨h10,e10,w10,n10,_⟩:=vw.st (cx:=zA) 1 (t:=209) (f:=0) (u:=wH (zn w v (i+1))) rfl (by omega) xH rfl (oJ _) rfl rfl;refine⟨_,_,_,Kz vw (i:=1) rfl,_,by rw[zP (by omega)];exact j4 (by omega),_,by exact jx (a:=v/2^i) (b:=1) (by omega) (by decide),?_⟩;rw[e8];refine zQS oki (by omega) hb2 ⟨_,_,_,rfl,h10,e10,hs.on λtm' hs'=>⟨rfl,rfl,k-(i+1),by omega,i+1,by omega,rfl,(show h10.next=h3.next by omega),w10,?_⟩⟩
  rw[<-zf (by omega)];exact hs'.sub (by kernel_rfl)
 ·have hik:i=k:=by omega
  subst hik;obtain⟨h10,e10,w10,n10,_⟩:=vw.st (cx:=zA) 0 (t:=209) (f:=0) (u:=wH (zn w v i)) rfl (by omega) xH rfl (oJ _) rfl rfl;refine thenC.left (wpS.at hs' zS1 rfl rfl ⟨_,_,_,Kz vw (i:=1) rfl,h10,e10,hs'.on λtm3 hs3=>hs3.slt λtm4 hs4=>hs4.slt λtm5 hs5=>?_⟩)
  exact endW.ok (leave.cell (hs5.get (t:=6) rfl) (Kz w10 (i:=0) rfl) (leave.tmp (hs5.get (t:=7) rfl) rfl)) (hq h10)
theorem zGi {w:Wr}{m:Nat}{h:H}{Q:V->H->Prop}(ok:w.ok m) (hm:m+100<=1000000) (hq:Q (.tuple [wH (zn w 0 ((8-w.n) % 8)),.int .i64 0]) h):RF P zA 227 [wH w] h Q:=by
 refine RF.plain ?_ (zy rfl);have hq:∀h':H,Plain (.tuple [wH (zn w 0 ((8-w.n) % 8)),.int .i64 0])/\Q (.tuple [wH (zn w 0 ((8-w.n) % 8)),.int .i64 0]) h:=λ_=>⟨ze rfl,hq⟩
 have ht:=zt;have z0:H0.next=0:=rfl;have hn7:=ok.n;refine RF.enterS zG zYz (ble _ _ rfl) (ble _ _ rfl) z1M ⟨by decide,?_⟩;rintro p0 h1 rfl e1;have w1:=(Vw.nil (S:=zW) (h:=H0)).new (o:=YP w (209+1)) e1 (by decide);have n1:h1.next=H0.next+1:=by rw[e1,zI]
 refine⟨by omega,?_⟩;rintro p2 h3 rfl e3;have w3:=w1.new (o:=YP ⟨[],0,0⟩ (209+1)) e3 (by omega);have n3:h3.next=h1.next+1:=by rw[e3,zI]
 refine⟨_,_,_,Kz w3 (i:=1) rfl,OV ok (by omega) ⟨_,rfl,λc=>absurd rfl c,λ_=>⟨_,w3.ld1 1 rfl zi rfl rfl,λc=>?_,λc=>?_⟩⟩⟩
 ·have hw:zn w 0 ((8-w.n) % 8)=w:=by rw[show w.n=0 by omega];rfl
  rw[hw]at hq;obtain⟨h10,e10,w10,n10,_⟩:=w3.st (cx:=zA) 0 (t:=209) (f:=0) (u:=wH w) rfl (by omega) xH rfl (oJ _) rfl rfl;exact⟨_,_,_,Kz w3 (i:=1) rfl,h10,e10,endL.ok (leaveL.cell (Kz w10 (i:=0) rfl) rfl) (hq h10)⟩
 ·have e8:zL (8-((w.n:Nat):Int))=((8-w.n:Nat):Int):=by rw[zH (by omega) (by omega)];omega
  have hw:(8-w.n) % 8=8-w.n:=oZ (by omega);rw[hw]at hq;obtain⟨h10,e10,w10,n10,_⟩:=w3.st (cx:=zA) 0 (t:=209) (f:=0) (u:=wH (zn w 0 (8-w.n))) rfl (by omega) xH rfl (oJ _) rfl rfl;refine⟨_,_,_,Kz w3 (i:=1) rfl,_,w3.ld1 1 rfl zi rfl rfl,?_⟩;rw[e8];exact XJ (v:=0) ok (by omega) (by omega) (Nat.two_pow_pos _) ⟨_,_,_,_,rfl,h10,e10,endL.ok (leaveL.cell (Kz w10 (i:=0) rfl) rfl) (hq h10)⟩
theorem zJa {w:Wr}{m:Nat}{h:H}{Q:V->H->Prop}(ok:w.ok m) (hm:m+100<=1000000) (hq:Q (.tuple [.str (zn w 0 ((8-w.n) % 8)).s,.int .i64 0]) h):RF P zA 162 [wH w] h Q:=by
 refine RF.plain ?_ (zy rfl);have hq:∀h':H,Plain (.tuple [.str (zn w 0 ((8-w.n) % 8)).s,.int .i64 0])/\Q (.tuple [.str (zn w 0 ((8-w.n) % 8)).s,.int .i64 0]) h:=λ_=>⟨ze rfl,hq⟩
 have ht:=zt;have z0:H0.next=0:=rfl;refine RF.enterS zG zY8 (ble _ _ rfl) (ble _ _ rfl) z0l ⟨by decide,?_⟩;rintro p0 h1 rfl e1;have w1:=(Vw.nil (S:=zW) (h:=H0)).new (o:=YP w (209+1)) e1 (by decide);have n1:h1.next=H0.next+1:=by rw[e1,zI]
 refine⟨_,_,_,Kz w1 (i:=0) rfl,zGi ok hm ⟨_,_,_,_,rfl,by omega,?_⟩⟩;rintro p11 h12 rfl e12;have w12:=w1.new (o:=YP ⟨[],0,0⟩ (209+1)) e12 (by omega);have n12:h12.next=h1.next+1:=by rw[e12,zI]
 obtain⟨h13,e13,w13,n13,_⟩:=w12.st (cx:=zA) 0 (t:=209) (f:=0) (u:=wH (zn w 0 ((8-w.n) % 8))) rfl (by omega) xH rfl (oJ _) rfl rfl;exact⟨h13,e13,_,w13.ld1 0 rfl Y3 rfl rfl,hq h13⟩
theorem zJq {h:H}{b n i:Nat}(hi:i<n):yP zA 23 h (.slice b 0 n (.exact n)) (some (.int .i64 (i:Nat))) (some (.int .i64 ((i+1:Nat):Int))) none=some (.slice b i 1 (.exact (n-i))):=by
 unfold yP;have e5:Nat.ble (i+1) n=true:=oC hi;have e6:Nat.ble i (i+1)=true:=oC (by omega);have e7:Nat.beq n i=false:=by
  cases hb:Nat.beq n i with
  | false=>rfl
  | true=>have:=oF hb;omega
 simp only[zQ,zi,Go.Sim.bnd,Yc,e5,e6,e7,oK,Option.isSome_none,Bool.false_and,oL,Nat.zero_add,Nat.mul_one];rw[show i+1-i=1 by omega]
theorem zWk {h:H}{b n i:Nat}{cp:Cap}{l:List Int}(s:Sl h (.slice b 0 n (.exact n)) 1 l.length (zM l)) (hi:i<l.length):Sl h (.slice b i 1 cp) 1 1 (zM [l[i]]):=by
 obtain⟨_,⟨hv,_⟩|⟨b',o,cp',cs,k,w,op,hv,h1,h2,h3⟩⟩:=s
 ·cases hv
 ·cases hv
  refine⟨rfl,.inr ⟨b,i,cp,cs,k,w,op,rfl,h1,h2,λj hj=>?_⟩⟩
  have j0:j=0:=by omega
  subst j0;have:=h3 i (by omega);rw[Nat.zero_add]at this;rw[Nat.add_zero,this,zM,oU,oM hi];rfl
theorem z2N {f z:Nat}{w:Wr}(h:z<3):xJ f w z=zn w z 2:=by
 cases f with
 | zero=>rfl
 | succ f=>unfold xJ;rw[if_neg (by omega)]
theorem z2M {f z:Nat}{w:Wr}(h:3<=z):xJ (f+1) w z=xJ f (zn w 3 2) (z-3):=by
 show(if 3<=z then xJ f (zn w 3 2) (z-3) else zn w z 2)=_;rw[if_pos h]
abbrev knR (p12 p3 p0 i left:Nat):Kn:=[(8,.int .i64 i),(1,.ptr p0 0),(7,.int .i64 left),(4,.ptr p12 0),(2,.ptr p3 0)]
structure RI {hb:H}(tm:Tm) (h:H) (c p5 p3 p0 log:Nat) (l:List Int) (v:V) (i:Nat) (w:Wr) (f:Nat):Prop where
 hs:∃y6:Int,Has tm ((6,.int .i64 y6)::knR p5 p3 p0 i (pts (l.drop i)).toNat)
 vw:vwW (hb:=hb) h c p5 p3 p0 w log v
 ok:w.ok (4+40*i)
 fl:l.length<=i+f
 il:i<=l.length
 is:wS f w (pts (l.drop i)).toNat (l.drop i)=jA log l
theorem zOS {hb h:H}{c p5 p3 p0 m z f i left j0:Nat}{y6:Int}{log:Int}{vd:V}{w:Wr}{tm:Tm}{R:AX->St->Prop}(hs:Has tm ((12,.int .i64 z)::(6,.int .i64 y6)::knR p5 p3 p0 j0 left)) (hi:i=j0+z) (vw:vwW (hb:=hb) h c p5 p3 p0 w log vd) (ok:w.ok m) (hm:m+2*f+2<=100000) (hf:z<=f) (hz:z<=1000) (hj0:j0<=1000) (ht:hb.next+c<=T.top)
  (hR:∀tm' h' y6',Has tm' ((6,.int .i64 y6')::knR p5 p3 p0 i left)->vwW (hb:=hb) h' c p5 p3 p0 (xJ f w z) log vd->R .normal ⟨133,tm',[],h'⟩):jX false zCP ⟨133,tm,[],h⟩ R:=by
 refine wpS.at hs zRy rfl rfl (hs.on λtm1 hs1=>?_);have ei:zL (((j0:Nat):Int)+((z:Nat):Int))=((i:Nat):Int):=by rw[zH (by omega) (by omega)];omega
 rw[ei]at hs1;refine wpC.round (λk tm h'=>∃(y:Bool) (w1:Wr) (z1:Nat) (y6:Int),((y=true/\k=z1+1/\∃f1,z1<=z/\z1<=f1/\f1<=f/\w1.ok (m+2*(f-f1))/\xJ f1 w1 z1=xJ f w z)\/(y=false/\k=0/\w1=xJ f w z)) /\
  vwW (hb:=hb) h' c p5 p3 p0 w1 log vd/\Has tm ((13,.bool y)::(12,.int .i64 z1)::(6,.int .i64 y6)::knR p5 p3 p0 i left)) (z+1)
  ⟨true,w,z,y6,.inl ⟨rfl,rfl,f,oO _,hf,oO _,ok.up (by omega),rfl⟩,vw,hs1.sub (by kernel_rfl)⟩ ?_
 clear hs hs1 vw ok ei;rintro k tm h' ⟨y,w1,z1,y6,st,vw,hs⟩;have tv:=vw.top;rcases st with⟨rfl,rfl,f1,hz1,hzf,hff,ok,he⟩|⟨rfl,rfl,rfl⟩
 ·have e1:min (z1:Int) 3=((min z1 3:Nat):Int):=by omega
  have e2:zL (((z1:Nat):Int)-min (z1:Int) 3)=((z1-3:Nat):Int):=by rw[zH (by omega) (by omega)];omega
  obtain⟨h9,e9,w9,n9,_⟩:=vw.st (cx:=zA) 0 (t:=209) (f:=0) (u:=wH (zn w1 (min z1 3) 2)) rfl (by omega) xH rfl (oJ _) rfl rfl;refine wpC.at hs zIN rfl rfl (KS ⟨_,_,_,Kz vw (i:=0) rfl,?_⟩);rw[e1];refine XJ (k:=2) ok (by omega) (by decide) (by omega) ⟨_,_,_,_,rfl,h9,e9,λc=>hs.on λtm2 hs2=>?_,λc=>hs.on λtm2 hs2=>?_⟩
  ·have h3:3<=z1:=by omega
   obtain⟨f2,rfl⟩:∃f2,f1=f2+1:=⟨f1-1,by omega⟩;rw[<-e1,e2]at hs2;rw[z2M h3]at he;rw[show min z1 3=3 by omega]at w9;exact⟨rfl,rfl,z1-3+1,by omega,true,zn w1 3 2,z1-3,zL (y6+2),.inl ⟨rfl,rfl,f2,by omega,by omega,by omega,(yK ok 2).up (by omega),he⟩,w9,hs2.sub (by kernel_rfl)⟩
  ·have h3:z1<3:=by omega
   rw[<-e1,e2]at hs2;rw[z2N h3]at he;rw[show min z1 3=z1 by omega]at w9;exact⟨rfl,rfl,0,by omega,false,zn w1 z1 2,z1-3,zL (y6+2),.inr ⟨rfl,rfl,he⟩,w9,hs2.sub (by kernel_rfl)⟩
 ·refine wpC.at hs zIN rfl rfl (ws (hs.on λtm2 hs2=>?_))
  show zD kZ R (zK 5 (.exit 5)) _;rw[xf];exact hs2.slt λtm3 hs3=>hR tm3 h' y6 (hs3.sub (by kernel_rfl)) vw
theorem zOO {hb h:H}{c p5 p3 p0 log i f m bv n y:Nat}{y6:Int}{l:List Int}{v:V}{w:Wr}{tm:Tm}{R:AX->St->Prop}(g:GD log l) (ev:v = .slice bv 0 l.length (.exact l.length)) (sl:Sl hb v 1 l.length (zM l)) (hi:i<l.length)
  (hs:Has tm ((10,.int .i64 n)::(9,.int .i64 y)::(6,.int .i64 y6)::knR p5 p3 p0 i (pts (l.drop i)).toNat)) (vw:vwW (hb:=hb) h c p5 p3 p0 w log v) (ok:w.ok (4+40*i)) (hny:n<=7/\y<2^n) (hf:l.length<=i+1+f) (ht:hb.next+c<=T.top) (hm:m=m)
  (he:(if l[i]≠0 then wS f (zn w y n) ((pts (l.drop i)).toNat-(pt l[i]).toNat) (l.drop (i+1)) else wS f (xJ (l.drop (i+1)).length (zn w y n) (xK (l.drop (i+1)))) (pts (l.drop i)).toNat ((l.drop (i+1)).drop (xK (l.drop (i+1)))))=jA log l)
  (hR:∀tm' h' i' w' f',i<i'->RI (hb:=hb) tm' h' c p5 p3 p0 log l v i' w' f'->R .normal ⟨133,tm',[],h'⟩) :
  jX false JC ⟨133,tm,[],h⟩ (λe s1=>(thenC (λs1=>jX false ZF s1 R) R) (zK 1 e) s1):=by
 have hlen:=g.len;have hpd:=XF hi;have hlow:=g.low;have hp1:1<=pts (l.drop i):=qw (λx hx=>hlow x (List.mem_of_mem_drop hx)) (by intro q;have:=congrArg List.length q;simp at this;omega) (kw hi g.last)
 have hpt2:=kz hlow i;have hdr:0<=pts (l.drop (i+1))/\pts (l.drop i)<=pts l:=by
  have a:=xF (l:=l.drop (i+1)) λx hx=>hlow x (List.mem_of_mem_drop hx)
  have b:=kV (l.take i) (l.drop i);rw[List.take_append_drop]at b;omega
 have hpl:pts l<=64:=by
  have:=g.pts;have:=yc g.lg;have:((2^log:Nat):Int)=2^log:=by simp
  omega
 have okn:(zn w y n).ok (4+40*i+7):=(yK ok n).up (by omega);have nxt:∀(tm1:Tm) (h1:H) (i1:Nat) (w1:Wr) (y6:Int),i<=i1->i1<l.length->Has tm1 ((6,.int .i64 y6)::knR p5 p3 p0 i1 (pts (l.drop (i1+1))).toNat)->vwW (hb:=hb) h1 c p5 p3 p0 w1 log v->w1.ok (4+40*(i+1))->wS f w1 (pts (l.drop (i1+1))).toNat (l.drop (i1+1))=jA log l ->
   jX false ZF ⟨133,tm1,[],h1⟩ R:=λtm1 h1 i1 w1 y6 q1 q2 hs1 v1 o1 e1=>by
  refine wpS.at hs1 zSA rfl rfl (hs1.on λtm2 hs2=>hR tm2 h1 (i1+1) w1 f (by omega) ⟨⟨y6,?_⟩,v1,o1.up (by omega),by omega,by omega,e1⟩)
  rw[zf (by omega)]at hs2;exact hs2.sub (by kernel_rfl)
 have hx:=hlow _ (oQ hi);have hzl:=KZ (l.drop (i+1));rw[List.length_drop]at hzl;have hzat:∀j,j<xK (l.drop (i+1))->l[i+1+j]? = some 0:=λj hj=>by
  have:=X4 hj
  rwa [List.getElem?_drop]at this
 have hzend:i+1+xK (l.drop (i+1))<l.length->l[i+1+xK (l.drop (i+1))]?.getD 0≠0:=λq=>by
  have h2:xK (l.drop (i+1))<(l.drop (i+1)).length:=by rw[List.length_drop];omega
  have:=zFC h2;rw[List.getElem_drop]at this;rw[yY q];exact this
 have hpz:=XH (l.drop (i+1));rw[List.drop_drop]at hpz;rw[List.drop_drop,List.length_drop]at he;generalize xK (l.drop (i+1))=z at *;have hptn:=jL l[i];obtain⟨h9,e9,w9,n9,_⟩:=vw.st (cx:=zA) 0 (t:=209) (f:=0) (u:=wH (zn w y n)) rfl (by have:=vw.top;omega) xH rfl (oJ _) rfl rfl;have s9:=sl.ext w9.ex0;have s9':Sl h9 (.slice bv 0 l.length (.exact l.length)) 1 l.length (zM l):=by rw[<-ev];exact s9
 obtain⟨b,o,a1,a2⟩:=zg s9 hi;have hpx:l[i]<=pt l[i]:=by unfold pt;split<;>omega
 refine wpS.at hs zRz rfl rfl ⟨_,_,_,Kz vw (i:=0) rfl,XJ ok (by omega) (by omega) hny.2 ⟨_,_,_,_,rfl,h9,e9,?_⟩⟩;rw[zm];refine⟨v,w9.ld1 2 rfl zQ rfl rfl,_,by rw[zf (by omega),ev];exact zJq hi,O3 (l:=[l[i]]) (zWk s9' hi) (show 1<=1000 by decide) (λx hx=>by have:=List.mem_singleton.1 hx;omega) ⟨_,rfl,?_⟩⟩;rw[zm];have ept:pts [l[i]]=pt l[i]:=by simp[pts]
 have e1:zL (((pts (l.drop i)).toNat:Int)-pts [l[i]])=(((pts (l.drop (i+1))).toNat:Nat):Int):=by
  rw[ept,zH (by omega) (by omega)];omega
 rw[e1];refine⟨v,w9.ld1 2 rfl zQ rfl rfl,b,o,a1,_,a2,λq=>hs.on λtm1 hs1=>?_,λq=>hs.on λtm1 hs1=>?_⟩
 ·show thenC _ R (zK 1 (.exit 1)) _
  rw[xf];rw[if_pos q]at he;refine nxt tm1 h9 i _ (zL (y6+(n:Int))) (oO _) hi (hs1.sub (by kernel_rfl)) w9 (okn.up (by omega)) ?_;rw[<-he]
  congr 1
  omega
 ·have x0:l[i]=0:=by omega
  rw[x0]at hpd hptn;have hp0:pt 0=0:=rfl;rw[if_neg q]at he;have el0:(pts (l.drop (i+1))).toNat=(pts (l.drop i)).toNat:=by omega
  rw[el0]at hs1;refine wpC.round (λk tm h'=>∃(j:Nat) (y6:Int),j<=z/\k=z-j/\h'=h9/\Has tm ((12,.int .i64 j)::(6,.int .i64 y6)::knR p5 p3 p0 i (pts (l.drop i)).toNat)) z ⟨0,zL (y6+(n:Int)),by omega,by omega,rfl,hs1.sub (by kernel_rfl)⟩ ?_
  clear hs hs1;rintro k tm h' ⟨j,y6,hj,rfl,rfl,hs⟩;have e2:zL (zL (((i:Nat):Int)+1)+((j:Nat):Int))=((i+1+j:Nat):Int):=by rw[zf (by omega),zH (by omega) (by omega)];rfl
  have leave:j=z->∀tm1,Has tm1 ((12,.int .i64 j)::(6,.int .i64 y6)::knR p5 p3 p0 i (pts (l.drop i)).toNat) ->
    jX false zCP ⟨133,tm1,[],h'⟩ (zD kZ (λe s1=>(thenC (λs1=>jX false ZF s1 R) R) (zK 1 e) s1)):=λhjz tm1 hs1=>by
   subst hjz;refine zOS (f:=l.length-(i+1)) (i:=i+j) hs1 rfl w9 okn (by omega) (by omega) (by omega) (by omega) ht λtm2 h2 y6' hs3 w3=>hs3.slt λtm3 hs4=>?_
   show thenC _ R (zK 1 .normal) _;rw[exitB_nm];have el:(pts (l.drop i)).toNat=(pts (l.drop (i+j+1))).toNat:=by
    rw[show i+j+1=i+1+j by omega,hpz];omega
   rw[el]at hs4 he;refine nxt tm3 h2 (i+j) _ y6' (by omega) (by omega) (hs4.sub (by kernel_rfl)) w3 ((Z9 okn).up (by omega)) ?_;rw[<-he,show i+j+1=i+1+j by omega]
  refine wpC.at hs zQp rfl rfl ?_;rw[zm];rw[e2];refine⟨v,w9.ld1 2 rfl zQ rfl rfl,_,s9.len zQ rfl,λc2=>?_,λc2=>hs.on λtm1 hs1=>thenC.left (leave (by omega) tm1 (hs1.sub (by kernel_rfl)))⟩
  rw[zm];have hin:i+1+j<l.length:=by omega
  obtain⟨b2,o2,a1',a2'⟩:=zg s9 hin;refine⟨v,w9.ld1 2 rfl zQ rfl rfl,b2,o2,a1',_,a2',λc3=>hs.on λtm1 hs1=>?_,λc3=>hs.on λtm1 hs1=>thenC.left (leave ?_ tm1 (hs1.sub (by kernel_rfl)))⟩
  ·have hjz:j<z:=by
    rcases Nat.lt_or_ge j z with q2|q2
    ·exact q2
    ·have:j=z:=by omega
     subst this;refine absurd ?_ (hzend hin);rw[yY hin];exact c3
   refine⟨rfl,rfl,z-(j+1),by omega,j+1,y6,by omega,rfl,rfl,?_⟩;rw[<-zf (i:=j) (by omega)];exact hs1.sub (by kernel_rfl)
  ·rcases Nat.lt_or_ge j z with q2|q2
   ·have:=hzat j q2
    rw[oM hin]at this;exact absurd (Option.some.inj this) c3
   ·omega
theorem zE3 {v:V}{bv log:Nat}{l:List Int}{h:H}{Q:V->H->Prop}(ev:v = .slice bv 0 l.length (.exact l.length)) (sl:Sl h v 1 l.length (zM l)) (g:GD log l) (hn:h.next+10<=T.top) (hlow:h.low<=T.top) (hq:∀h' (x:Int),Ext h h' 3->Q (.tuple [wH (jA log l),.int .i64 x]) h'):RF P zA 161 [.agg [.int .i64 log,v]] h Q:=by
 have hpw:=yc g.lg;have hlg:=g.lg;have hlen:=g.len;have hp:pts l=((2^log:Nat):Int):=by rw[g.pts];simp
 refine RF.enterS zG zY7 (ble _ _ rfl) (ble _ _ rfl) z0k (yM sl ⟨by omega,?_⟩);rintro p0 h1 rfl e1;have w1:=(Vw.nil (S:=zW) (h:=h)).new e1 (by omega);have n1:h1.next=h.next+1:=by rw[e1,zI]
 refine⟨by omega,?_⟩;rintro p3 h4 rfl e4;have w4:=w1.new (o:=YP ⟨[],0,0⟩ (209+1)) e4 (by omega);have n4:h4.next=h1.next+1:=by rw[e4,zI]
 have el:zL ((log:Int)-5)=((log-5:Nat):Int):=by rw[zH (by omega) (by omega)];omega
 have ok0:Wr.ok ⟨[],0,0⟩ 0:=⟨by decide,by decide,by decide⟩;refine⟨_,w4.ld1 1 rfl zi rfl rfl,?_⟩;rw[el];refine XJ (w:=⟨[],0,0⟩) (k:=4) ok0 (by decide) (by decide) (by rcases hlg with rfl|rfl<;>decide) ⟨_,_,_,_,rfl,by omega,?_⟩;rintro p12 h13 rfl e13;have w13:=w4.new (o:=YP ⟨[],0,0⟩ (209+1)) e13 (by omega);have n13:h13.next=h4.next+1:=by rw[e13,zI]
 obtain⟨h14,e14,w14,n14,_⟩:=w13.st (cx:=zA) 0 (t:=209) (f:=0) (u:=wH (zn ⟨[],0,0⟩ (log-5) 4)) rfl (by omega) xH rfl (oJ _) rfl rfl;refine⟨h14,e14,_,w14.ld1 2 rfl zi rfl rfl,((1*2^log:Nat):Int),by rw[zP (by omega)];exact zb (a:=1) (by omega) (by omega),Has.nil.on λtm hs=>?_⟩
 refine wpC.round (λk tm h'=>∃i w f,k=l.length-i/\RI (hb:=h) tm h' 3 h4.next h1.next h.next log l v i w f) l.length
  ⟨0,_,l.length,by omega,⟨⟨4,by rw[List.drop_zero,hp];rw[show(((2^log:Nat):Int)).toNat=1*2^log by omega];exact hs.sub (by kernel_rfl)⟩,w14,(yK ok0 4).up (by omega),by omega,by omega,by
   rw[List.drop_zero,hp,show(((2^log:Nat):Int)).toNat=2^log by omega];rfl⟩⟩ ?_
 clear hs w14 n14 e14 w13;rintro k tm h' ⟨i,w,f,rfl,a⟩;obtain⟨y6,hs⟩:=a.hs;have tv:=a.vw.top;have slk:=sl.ext a.vw.ex0;refine wpC.at hs zQq rfl rfl ?_;rw[zm];refine⟨v,a.vw.ld1 2 rfl zQ rfl rfl,_,slk.len zQ rfl,λc=>?_,λc=>hs.on λtm' hs'=>?_⟩
 ·rw[zm]
  have hi:i<l.length:=by omega
  have hlow2:=g.low;have hp1:1<=pts (l.drop i):=qw (λx hx=>hlow2 x (List.mem_of_mem_drop hx)) (by intro q;have:=congrArg List.length q;simp at this;omega) (kw hi g.last)
  have hpt2:=kz hlow2 i;have hple:pts (l.drop i)<=64:=by
   have b:=kV (l.take i) (l.drop i);rw[List.take_append_drop]at b;omega
  have hpd:=XF hi;have hnn:0<=pts (l.drop (i+1)):=by
   have a:=xF (l:=l.drop (i+1)) λx hx=>hlow2 x (List.mem_of_mem_drop hx)
   omega
  have hx:=hlow2 _ (oQ hi);obtain⟨b,o,a1,a2⟩:=zg slk hi;obtain⟨f1,rfl⟩:∃f1,f=f1+1:=⟨f-1,by have:=a.fl;omega⟩;have his:=a.is;rw[xW hi]at his;unfold wS at his;rw[<-xW hi]at his;have hxp:l[i]<=pt l[i]:=by unfold pt;split<;>omega
  have hl':h'.low<=T.top:=by have:=a.vw.low;omega
  obtain⟨left,hleft⟩:∃left:Nat,(pts (l.drop i)).toNat=left:=⟨_,rfl⟩;rw[hleft]at hs his;obtain⟨s1,s2,s3⟩:=Od left;have s4:shT left=2^qC left-2-left:=rfl;have hb7:qC left<=7:=yE (by omega);have hb1:=zCg left;have hp2:2^(qC left-1)<=2^6:=Nat.pow_le_pow_right (by decide) (by omega);have ev2:zL (l[i]+1)=(((l[i]+1).toNat:Nat):Int):=by rw[zH (by omega) (by omega)];omega
  have hvl:(l[i]+1).toNat<=left+1:=by omega
  have hw:=zCr (left:=left) (v:=(l[i]+1).toNat) (by omega) (by omega) hvl;have el1:zL (((left:Nat):Int)+1)=((left+1:Nat):Int):=zf (by omega);have eb:((zT (left+1):Nat):Int)=((qC left:Nat):Int):=rfl;have eth:zL (zL (((1*2^qC left:Nat):Int)-1)-((left+1:Nat):Int))=((shT left:Nat):Int):=by
   rw[zH (n:=((1*2^qC left:Nat):Int)-1) (by omega) (by omega),zH (by omega) (by omega)];omega
  have eb1:zL (((qC left:Nat):Int)-1)=((qC left-1:Nat):Int):=by rw[zH (by omega) (by omega)];omega
  have fin:∀(n y:Nat) (tm1:Tm),(n,y)=jQ left (l[i]+1).toNat->Has tm1 ((10,.int .i64 n)::(9,.int .i64 y)::(6,.int .i64 y6)::knR h4.next h1.next h.next i left) ->
    jX false JC ⟨133,tm1,[],h'⟩ (λe s1=>(thenC (λs1=>jX false ZF s1 (zD kZ (thenC (λs1=>s1.n=133/\s1.dfr=[]/\∃j,j<l.length-i/\∃i w f,j=l.length-i/\RI (hb:=h) s1.tm s1.heap 3 h4.next h1.next h.next log l v i w f) (λe s1=>(thenC (λs1=>jX false zCQ s1 (endW zA ⟨133,[.cell 2 209,.tmp 3],km⟩ Q)) (endW zA ⟨133,[.cell 2 209,.tmp 3],km⟩ Q)) (zK 0 e) s1)))) (zD kZ (thenC (λs1=>s1.n=133/\s1.dfr=[]/\∃j,j<l.length-i/\∃i w f,j=l.length-i/\RI (hb:=h) s1.tm s1.heap 3 h4.next h1.next h.next log l v i w f) (λe s1=>(thenC (λs1=>jX false zCQ s1 (endW zA ⟨133,[.cell 2 209,.tmp 3],km⟩ Q)) (endW zA ⟨133,[.cell 2 209,.tmp 3],km⟩ Q)) (zK 0 e) s1)))) (zK 1 e) s1):=λn y tm1 e hs1=>by
   have e1:n=(jQ left (l[i]+1).toNat).1:=congrArg Prod.fst e;have e2:y=(jQ left (l[i]+1).toNat).2:=congrArg Prod.snd e;refine zOO (f:=f1) (m:=0) g ev sl hi (by rw[hleft];exact hs1) a.vw a.ok (by rw[e1,e2];exact hw) (by have:=a.fl;omega) (by omega) rfl ?_ λtm2 h3 i2 w3 f3 hi2 a3=>?_
   ·rw[hleft,e1,e2]
    by_cases q:l[i]≠0
    ·rw[if_pos q]at his ⊢;exact his
    ·have q0:l[i]=0:=by omega
     rw[if_neg q]at his ⊢;rw[q0];exact his
   ·obtain⟨y7,hs7⟩:=a3.hs
    exact hs7.slt λtm3 hs3=>⟨rfl,rfl,l.length-i2,by have:=a3.il;omega,i2,w3,f3,rfl,⟨⟨y7,hs3.sub (by kernel_rfl)⟩,a3.vw,a3.ok,a3.fl,a3.il,a3.is⟩⟩
  rw[hleft];refine⟨v,a.vw.ld1 2 rfl zQ rfl rfl,b,o,a1,_,a2,?_⟩;rw[el1];refine JI (by omega) ⟨_,rfl,((1*2^qC left:Nat):Int),by rw[eb,zP (by omega)];exact zb (a:=1) (by omega) (by omega),?_⟩;rw[eb,eth,eb1,ev2];refine⟨λc2=>hs.on λtm1 hs1=>?_,λc2=>⟨((1*2^(qC left-1):Nat):Int),by rw[zP (by omega)];exact zb (a:=1) (by omega) (by omega),λc3=>hs.on λtm1 hs1=>?_,λc3=>hs.on λtm1 hs1=>?_⟩⟩
  ·exact fin (qC left-1) (l[i]+1).toNat tm1 (by unfold jQ;rw[if_pos (by omega)]) (hs1.sub (by kernel_rfl))
  ·have et:zL ((((l[i]+1).toNat:Nat):Int)+((shT left:Nat):Int))=(((l[i]+1).toNat+shT left:Nat):Int):=by rw[zH (by omega) (by omega)];rfl
   rw[et]at hs1;exact fin (qC left) ((l[i]+1).toNat+shT left) tm1 (by unfold jQ;rw[if_neg (by omega),if_neg (by omega)]) (hs1.sub (by kernel_rfl))
  ·exact fin (qC left) (l[i]+1).toNat tm1 (by unfold jQ;rw[if_neg (by omega),if_pos (by omega)]) (hs1.sub (by kernel_rfl))
 ·have hi:i=l.length:=by have:=a.il;omega
  subst hi;have hw:w=jA log l:=by
   have:=a.is;rw[List.drop_length]at this;rw[<-this];cases f<;>rfl
  subst hw;obtain⟨h2,e2,w2,n2,_⟩:=a.vw.st (cx:=zA) 1 (t:=209) (f:=0) (u:=wH (jA log l)) rfl (by omega) xH rfl (oJ _) rfl rfl;refine thenC.left (wpS.at hs' zSB rfl rfl ⟨_,_,_,Kz a.vw (i:=0) rfl,h2,e2,hs'.on λtm2 hs2=>endW.ok (leave.cell (hs2.get (t:=2) rfl) (Kz w2 (i:=1) rfl) (leave.tmp (hs2.get (t:=3) rfl) rfl)) (hq h2 y6 w2.ex0)⟩)
theorem zJc {v:V}{bv log:Nat}{l:List Int}{h:H}{Q:V->H->Prop}(ev:v = .slice bv 0 l.length (.exact l.length)) (sl:Sl h v 1 l.length (zM l)) (g:GD log l) (hn:h.next+20<=T.top) (hlow:h.low<=T.top) (hq:Q (.tuple [.str (Ju log l),.int .i64 0]) h):RF P zA 98 [.agg [.int .i64 log,v]] h Q:=by
 refine RF.forget (n:=10) (v:=.tuple [.str (Ju log l),.int .i64 0]) ?_ (ze rfl) hq;refine RF.enterS zG z4u (ble _ _ rfl) (ble _ _ rfl) z5i (yM sl ⟨by omega,?_⟩);rintro p0 h1 rfl e1;have w1:=(Vw.nil (S:=zW) (h:=h)).new e1 (by omega);have n1:h1.next=h.next+1:=by rw[e1,zI]
 have l1:=w1.low;have s1:=sl.ext w1.ex0;refine⟨_,_,w1.ldA 0 rfl xo rfl rfl,jV s1 g ⟨_,rfl,λc=>absurd rfl c,λ_=>⟨_,_,w1.ldA 0 rfl xo rfl rfl,zE3 ev s1 g (by omega) (by omega) λh11 x x11=>⟨_,_,_,_,rfl,by have:=x11.top;omega,?_⟩⟩⟩⟩
 rintro p16 h17 rfl e17;have w11:=w1.ext x11;have t11:=x11.top;have w17:=w11.new (o:=YP ⟨[],0,0⟩ (209+1)) e17 (by omega);have n17:h17.next=h11.next+1:=by rw[e17,zI]
 obtain⟨h18,e18,w18,n18,_⟩:=w17.st (cx:=zA) 0 (t:=209) (f:=0) (u:=wH (jA log l)) rfl (by omega) xH rfl (oJ _) rfl rfl;exact⟨h18,e18,_,_,_,Kz w18 (i:=0) rfl,zJa (kX g) (by decide) ⟨_,_,rfl,rfl,w18.ex0.mono (by omega)⟩⟩
theorem zFx {p o:Nat}{h:H}{k:V->H->Prop}:zY zA 220 1 h (.ptr p o) k=k (.ptr p (o+1)) h:=by kernel_rfl
theorem zBu {p o:Nat}{h:H}{k:V->H->Prop}:zY zA 220 2 h (.ptr p o) k=k (.ptr p (o+2)) h:=by kernel_rfl
theorem zOp {s:List UInt8}{k:V->Prop}(hk:k (.agg [.str s,.int .i64 0,.int .i64 0])):j7 zA 220 (wc zA 220 [(0,.str s)]) k:=by
 have h1:wc zA 220 [(0,.str s)]=some (.agg [.str s,.int .i64 0,.int .i64 0]):=by kernel_rfl
 have h2:qk zA 220=false:=by kernel_rfl
 unfold j7;rw[h1];simp only[h2];exact hk
theorem OY {w:Wr}{m:Nat}{h:H}{Q:V->H->Prop}(ok:w.ok m) (hm:m<=8388600) (hq:Q (.int .i64 0) h):RF P zA 233 [wH w] h Q:=by
 refine RF.plain ?_ (zy rfl);have hq:∀h':H,Plain (.int .i64 0)/\Q (.int .i64 0) h:=λ_=>⟨xG _ _,hq⟩
 obtain⟨s,p,n⟩:=w;obtain⟨hp,hn,hs⟩:=ok;simp only at hp hn hs;have hpn:2^n<=2^7:=Nat.pow_le_pow_right (by decide) hn;have e7:n &&& 7=n:=by rw[show(7:Nat)=2^3-1 from rfl,jy,oZ (by omega)]
 show RF P zA 233 [.agg [.str s,.int .i64 (p:Nat),.int .i64 (n:Nat)]] H0 _;refine RF.enterS zG zZF (ble _ _ rfl) (ble _ _ rfl) z1S ⟨by decide,?_⟩;rintro p0 h1 rfl e1;have w1:=(Vw.nil (S:=zW) (h:=H0)).new e1 (by decide);have ea:=jx (a:=n) (b:=7) (by omega) (by decide);rw[e7]at ea;refine⟨_,w1.ld1 0 rfl zi rfl rfl,λc=>by omega,λ_=>⟨_,w1.ld1 0 rfl zi rfl rfl,λc=>by omega,λ_=>⟨_,w1.ld1 0 rfl zi rfl rfl,λc=>by omega,λ_=>⟨_,w1.ld1 0 rfl zi rfl rfl,_,w1.ld1 0 rfl zi rfl rfl,((n:Nat):Int),ea,((1*2^n:Nat):Int),by rw[zP (by omega)];exact zb (a:=1) (by omega) (by omega),λc=>by omega,λ_=>⟨_,w1.ld1 0 rfl Y3 rfl rfl,λc=>?_,λ_=>hq h1⟩⟩⟩⟩⟩
 have:(1048576:Int)<(s.length:Int):=c;omega
theorem OZ {w:Wr}{m v k:Nat}{h:H}{Q:V->H->Prop}(ok:w.ok m) (hm:m+40<=1000000) (hk:k<=32) (hv:v<2^k) (hq:Q (.tuple [wH (zn w v k),.int .i64 0]) h):RF P zA 167 [wH w,.int .i64 k,.int .u64 v] h Q:=by
 refine RF.plain ?_ (zy rfl);have hq:∀h':H,Plain (.tuple [wH (zn w v k),.int .i64 0])/\Q (.tuple [wH (zn w v k),.int .i64 0]) h:=λ_=>⟨ze rfl,hq⟩
 have hvk:2^k<=2^32:=Nat.pow_le_pow_right (by decide) hk;have hpk:=Nat.two_pow_pos k;have ht:=zt;have z0:H0.next=0:=rfl;refine RF.enterS zG zYd (ble _ _ rfl) (ble _ _ rfl) z0q ⟨by decide,?_⟩;rintro p0 h1 rfl e1;have w1:=(Vw.nil (S:=zW) (h:=H0)).new (o:=oBW w) e1 (by decide);have n1:h1.next=H0.next+1:=by rw[e1,zI]
 refine⟨by omega,?_⟩;rintro p2 h3 rfl e3;have w3:=w1.new (o:=oBW ⟨[],0,0⟩) e3 (by omega);have n3:h3.next=h1.next+1:=by rw[e3,zI]
 refine⟨_,_,_,ldB w3 (i:=1) rfl,OY ok (by omega) ⟨_,rfl,λc=>absurd rfl c,λ_=>⟨λc=>by omega,λ_=>⟨λc=>by omega,λ_=>⟨((1*2^k:Nat):Int),by rw[zP (by omega)];exact ZN (a:=1) (by omega) (by omega),λc=>by omega,λ_=>Has.nil.on λtm hs0=>?_⟩⟩⟩⟩⟩
 refine wpS.at hs0 zSE rfl rfl (hs0.on λtm2 hs2=>?_);refine wpC.round (λj tm h'=>∃(i c:Nat),i<=k/\j=k-i/\c<=i/\h'.next<=h3.next+c/\Vw zW H0 h' (2+c) [(h1.next,oBW ⟨[],0,0⟩),(H0.next,oBW (zn w v i))] /\
  Has tm [(9,.int .i64 i),(1,.int .i64 k),(3,.ptr H0.next 0),(2,.int .u64 v),(6,.ptr h1.next 0)]) k ⟨0,0,by omega,by omega,by omega,by omega,w3,hs2.sub (by kernel_rfl)⟩ ?_
 clear hs0 hs2 w3;rintro j tm h' ⟨i,c,hi,rfl,hc,hnx,vw,hs⟩;have oki:=yK ok (v:=v) i;refine wpC.at hs zQs rfl rfl ⟨λq=>?_,λq=>hs.on λtm' hs'=>?_⟩
 ·have hik:i<k:=by omega
  have hdv:v/2^i<=v:=Nat.div_le_self _ _;have e8:v/2^i &&& 1=v/2^i % 2:=by
   rw[show(1:Nat)=2^1-1 from rfl,jy]
  have hb2:v/2^i % 2<2:=Nat.mod_lt _ (by decide);have ew:zn w v (i+1)=kd (zn w v i) (v/2^i % 2):=rfl;rcases hwp:zn w v i with⟨s,p,n⟩
  rw[hwp]at oki ew vw;obtain⟨hp,hn,hs8⟩:=oki;simp only at hp hn hs8
  replace vw:Vw zW H0 h' (2+c) [(h1.next,oBW ⟨[],0,0⟩),(H0.next,.cells (.ls [.str s,.int .i64 (p:Nat),.int .i64 (n:Nat)]) ⟨0,220+1,0⟩ true false)]:=vw
  have hpn:2^n<=2^7:=Nat.pow_le_pow_right (by decide) hn;generalize v/2^i % 2=b at e8 hb2 ew;have hbn:b*2^n<=1*2^n:=Nat.mul_le_mul_right _ (by omega);have ex:zL (((p:Nat):Int)+((b*2^n:Nat):Int))=((p+b*2^n:Nat):Int):=by rw[zH (by omega) (by omega)];rfl
  have en:zL (((n:Nat):Int)+1)=((n+1:Nat):Int):=zf (by omega);rw[zFx];refine⟨_,vw.ld1 1 rfl zi rfl rfl,_,by rw[zP (by omega)];exact XU (by omega),((b:Nat):Int),by rw[<-e8];exact zDP (a:=v/2^i) (b:=1) (by omega) (by decide),?_⟩;rw[zBu];refine⟨_,vw.ld1 1 rfl zi rfl rfl,((b*2^n:Nat):Int),by rw[zH (by omega) (by omega),zP (by omega)];exact zb (by omega) (by omega),?_⟩;rw[zFx,ex];obtain⟨h11,e11,w11,n11,_⟩:=vw.st (cx:=zA) 1 (t:=3) (f:=0+1) (u:=.int .i64 ((p+b*2^n:Nat):Int)) rfl (by omega) zi rfl (oJ _) rfl rfl;refine⟨h11,e11,?_⟩;rw[zBu];refine⟨_,w11.ld1 1 rfl zi rfl rfl,?_⟩;rw[zBu,en];obtain⟨h17,e17,w17,n17,_⟩:=w11.st (cx:=zA) 1 (t:=3) (f:=0+2) (u:=.int .i64 ((n+1:Nat):Int)) rfl (by omega) zi rfl (oJ _) rfl rfl;refine⟨h17,e17,?_⟩;rw[zBu];refine⟨_,w17.ld1 1 rfl zi rfl rfl,λq2=>?_,λq2=>hs.on λtm' hs'=>?_⟩
  ·have hw:kd ⟨s,p,n⟩ b=⟨s++[UInt8.ofNat (p+b*2^n)],0,0⟩:=by
    unfold kd;rw[if_pos (by show n=7;omega)]
   rw[hw]at ew;have h256:p+b*2^n<256:=by omega
   obtain⟨h28,e28,s28,x28⟩:=wh (h:=h17) ((p+b*2^n:Nat):Int) (by omega);rw[<-jb h256]at s28;have w28:=w17.ext x28;have t28:=x28.top;obtain⟨h33,e33,w33,n33,_⟩:=w28.st (cx:=zA) 1 (t:=220) (f:=0) (u:=.agg [.str (s++[UInt8.ofNat (p+b*2^n)]),.int .i64 0,.int .i64 0]) rfl (by omega) qc rfl (oJ _) rfl rfl;rw[zLJ];refine⟨_,w17.ld1 1 rfl Y3 rfl rfl,?_⟩;rw[zFx];refine⟨_,w17.ld1 1 rfl zi rfl rfl,_,h28,by rw[yf,oZ h256];exact e28,wk (l:=[UInt8.ofNat (p+b*2^n)]) s28 (Nat.succ_pos _) (qI (by rw[List.length_singleton];omega) (zOp ⟨h33,e33,hs.on λtm' hs'=>⟨rfl,rfl,k-(i+1),by omega,i+1,c+1,by omega,rfl,by omega,(show h33.next<=_ by omega),?_,?_⟩⟩))⟩
   ·rw[ew]
    exact w33
   ·rw[<-zf (by omega)]
    exact hs'.sub (by kernel_rfl)
  ·have hw:kd ⟨s,p,n⟩ b=⟨s,p+b*2^n,n+1⟩:=by
    unfold kd;rw[if_neg (by show ¬n=7;omega)]
   rw[hw]at ew;refine⟨rfl,rfl,k-(i+1),by omega,i+1,c,by omega,rfl,by omega,(show h17.next<=_ by omega),?_,?_⟩
   ·rw[ew]
    exact w17
   ·rw[<-zf (by omega)]
    exact hs'.sub (by kernel_rfl)
 ·have hik:i=k:=by omega
  subst hik;have hs8:=oki.s;obtain⟨h10,e10,w10,n10,_⟩:=vw.st (cx:=zA) 0 (t:=220) (f:=0) (u:=wH (zn w v i)) rfl (by omega) qc rfl (oJ _) rfl rfl;refine thenC.left (wpS.at hs' zSD rfl rfl ?_);rw[zLJ];refine⟨_,vw.ld1 1 rfl Y3 rfl rfl,λq2=>?_,λ_=>⟨_,_,_,ldB vw (i:=1) rfl,h10,e10,hs'.on λtm3 hs3=>hs3.slt λtm4 hs4=>?_⟩⟩
  ·have:(1048576:Int)<((zn w v i).s.length:Int):=q2
   omega
  ·exact endW.ok (leave.cell (hs4.get (t:=6) rfl) (ldB w10 (i:=0) rfl) (leave.tmp (hs4.get (t:=7) rfl) rfl)) (hq h10)
theorem zJf {w:Wr}{m:Nat}{h:H}{Q:V->H->Prop}(ok:w.ok m) (hm:m+100<=1000000) (hq:Q (.tuple [.str (zn w 1 (8-w.n)).s,.int .i64 0]) h):RF P zA 168 [wH w] h Q:=by
 refine RF.plain ?_ (zy rfl);have hq:∀h':H,Plain (.tuple [.str (zn w 1 (8-w.n)).s,.int .i64 0])/\Q (.tuple [.str (zn w 1 (8-w.n)).s,.int .i64 0]) h:=λ_=>⟨ze rfl,hq⟩
 have ht:=zt;have z0:H0.next=0:=rfl;have hfl:=Xu ok (v:=1) (8-w.n);obtain⟨s,p,n⟩:=w;have ok0:=ok;obtain⟨hp,hn,hs⟩:=ok;simp only at hp hn hs hfl hq;have hpn:2^n<=2^7:=Nat.pow_le_pow_right (by decide) hn;have h1m:1 % 2^(8-n)=1:=oZ (Nat.one_lt_two_pow (by omega));rw[h1m,show n+(8-n)=8 by omega,qu (by decide),kD (by decide),oZ (show p+1*2^n<256 by omega),Nat.one_mul]at hfl;rw[<-hfl]at hq;show RF P zA 168 [.agg [.str s,.int .i64 (p:Nat),.int .i64 (n:Nat)]] H0 _;refine RF.enterS zG zYe (ble _ _ rfl) (ble _ _ rfl) z0r ⟨by decide,?_⟩;rintro p0 h1 rfl e1;have w1:=(Vw.nil (S:=zW) (h:=H0)).new e1 (by decide);have n1:h1.next=H0.next+1:=by rw[e1,zI]
 have e2:zL (((p:Nat):Int)+((1*2^n:Nat):Int))=((p+2^n:Nat):Int):=by rw[zH (by omega) (by omega)];omega
 obtain⟨h14,e14,s14,x14⟩:=wh (h:=h1) ((p+2^n:Nat):Int) (by omega);rw[<-jb (by omega)]at s14;refine⟨_,_,_,w1.ldA 0 rfl qc rfl rfl,OY ok0 (by omega) ⟨_,rfl,λc=>absurd rfl c,λ_=>⟨_,w1.ld1 0 rfl Y3 rfl rfl,λc=>?_,λ_=>⟨_,w1.ld1 0 rfl Y3 rfl rfl,_,w1.ld1 0 rfl zi rfl rfl,_,w1.ld1 0 rfl zi rfl rfl,((1*2^n:Nat):Int),by rw[zP (by omega)];exact zb (a:=1) (by omega) (by omega),_,h14,by rw[e2,yf,oZ (by omega)];exact e14,wk (l:=[UInt8.ofNat (p+2^n)]) s14 (Nat.succ_pos _) (qI (by rw[List.length_singleton];omega) (hq h14))⟩⟩⟩⟩
 have:(s.length:Int)=1048576:=c;omega
theorem zJE {log:Nat}{l:List Int}(g:GD log l) {s k:Nat}(h:l[s]? = some 0):zX (zh log l) k s=[]:=by
 have:∀x,x∉zX (zh log l) k s:=λx hx=>by
  obtain⟨i,_,_,h2⟩:=Kt.1 hx;obtain⟨s',e,p,h3,h4⟩:=Ok g h2;have:s'=s:=by omega
  subst this;rw[h]at h3;exact h4 (Option.some.inj h3).symm
 exact List.eq_nil_iff_forall_not_mem.2 this
theorem zJb {v:V}{s:Nat}{l:List Int}{h:H}{Q:V->H->Prop}(sl:Sl h v 1 l.length (zM l)) (g:GD 5 l) (hs:s<l.length) (hn:h.next+200<=T.top) (hlow:h.low<=T.top)
  (hq:∀h' u (e:Int),Ext h h' 90->Ow h' u xn (zX (zh 5 l) 32 s).length (zM (zX (zh 5 l) 32 s))->((zX (zh 5 l) 32 s).length=0->u = .nilslice)->(∀b,ym u=some b->h.next<=b)->Q (.tuple [u,.int .i64 e]) h') :
  RF P zA 229 [.agg [.int .i64 (5:Nat),v],.int .i64 s] h Q:=by
 have hsl:=Oj 5 l;have hlen:=g.len;refine RF.enterS zG zZB (ble _ _ rfl) (ble _ _ rfl) z1O (yM sl ⟨by omega,?_⟩);rintro p0 h1 rfl e1;have w1:=(Vw.nil (S:=zW) (h:=h)).new e1 (by omega);have n1:h1.next=h.next+1:=by rw[e1,zI]
 refine⟨_,_,w1.ldA 0 rfl xo rfl rfl,zGl (sl.ext w1.ex0) g (by omega) λh6 v7 x6 s6=>⟨_,_,rfl,λ_=>⟨λc=>by omega,λ_=>?_⟩,λc=>absurd rfl c⟩⟩
 have w6:=w1.ext x6;have t6:=x6.top;have sv6:=sl.ext w6.ex0;obtain⟨b,o,a1,a2⟩:=zg sv6 hs;refine⟨v,w6.ld1 0 rfl zQ rfl rfl,_,sv6.len zQ rfl,λc=>by omega,λ_=>Has.nil.on λtm hs0=>?_⟩
 refine wpS.at hs0 zS6 rfl rfl ⟨λ_=>?_,λc=>absurd rfl c⟩
 rw[zm];refine⟨v,w6.ld1 0 rfl zQ rfl rfl,b,o,a1,_,a2,λc=>hs0.on λtm1 hs1=>?_,λc=>hs0.on λtm1 hs1=>?_⟩
 ·have e0:zX (zh 5 l) 32 s=[]:=zJE g (by rw[oM hs,c])
  refine wpS.at hs1 zIT rfl rfl ⟨λ_=>hs1.on λtm2 hs2=>hs2.slt λtm3 hs3=>?_,λc2=>absurd (by decide) c2⟩
  rw[e0]at hq;exact endW.r2 (hs3.get rfl) (hs3.get rfl) (hq h6 _ 7 (w6.ex0.mono (by omega)) ⟨rfl,.inl ⟨rfl,rfl⟩⟩ (λ_=>rfl) λb hb=>by cases hb)
 ·refine wpS.at hs1 zIT rfl rfl ⟨λc2=>absurd rfl c2,λ_=>hs1.on λtm2 hs2=>?_⟩
  refine wpC.round (λj tm h'=>∃(k:Nat) (y:V),k<=32/\j=32-k/\h6.next<=h'.next/\h'.next<=h6.next+2*k/\Vw zW h6 h' (2*k) []/\Ow h' y xn (zX (zh 5 l) k s).length (zM (zX (zh 5 l) k s))/\((zX (zh 5 l) k s).length=0->y = .nilslice)/\Sep zW h6.next [] y /\
   Has tm [(9,.int .i64 k),(6,v7),(1,.int .i64 s),(8,y)]) 32 ⟨0,.nilslice,by omega,by omega,by omega,by omega,Vw.nil,⟨rfl,.inl ⟨rfl,rfl⟩⟩,λ_=>rfl,(λb hb=>by cases hb),hs2.sub (by kernel_rfl)⟩ ?_
  clear hs0 hs1 hs2;rintro j tm h' ⟨k,y,hk,rfl,hnx0,hnx,w,ow,hnil,sp,hs0⟩;have s7:=s6.ext w.ex0;refine wpC.at hs0 zRF rfl rfl ⟨_,s7.len zQ rfl,λc2=>?_,λc2=>hs0.on λtm' hs'=>?_⟩
  ·have hkl:k<(zh 5 l).length:=by rw[hsl];have:((2^5:Nat):Int)=32:=rfl;omega
   obtain⟨b',o',f1,f2⟩:=zg (l:=zh 5 l) (by rw[hsl];exact s7) hkl;have hgk:(zh 5 l)[k]? = some (zh 5 l)[k]:=oM hkl;have hk32:k<32:=by rw[hsl]at hkl;exact hkl
   have hel:=wK (zh 5 l) k s;refine⟨b',o',f1,_,f2,λc3=>?_,λc3=>hs0.on λtm' hs'=>?_⟩
   ·have er:zX (zh 5 l) (k+1) s=zX (zh 5 l) k s++[(k:Int)]:=by rw[jr,if_pos (by rw[hgk,c3])]
    obtain⟨v4,h5,e5,s5,x5⟩:=zBi (h:=h') (k:Int) (by omega);have t5:=x5.top;have le5:=x5.le;obtain⟨y',h8,e8,A⟩:=(ow.ext x5).append (c:=zA) s5 (by decide) zQ rfl zi rfl rfl (by show((zX (zh 5 l) k s).length+1)*1<=_;omega) (by show((zX (zh 5 l) k s).length+1)*8<=_;omega) (by omega);obtain⟨w8,ow8,sp8⟩:=(w.ext x5).grow sp A;have t8:=A.2.2.1;have le8:=A.2.1;refine⟨v4,h5,e5,trivial,y',h8,e8,hs0.on λtm' hs'=>⟨rfl,rfl,32-(k+1),by omega,k+1,y',by omega,rfl,(show h6.next<=h8.next by omega),(show h8.next<=_ by omega),w8.more (by omega),?_,λq=>?_,sp8,?_⟩⟩
    ·rw[er,Yt,oR];exact ow8
    ·rw[er,oR]at q;simp at q
    ·rw[<-zf (by omega)]
     exact hs'.sub (by kernel_rfl)
   ·have er:zX (zh 5 l) (k+1) s=zX (zh 5 l) k s:=by rw[jr,if_neg (by rw[hgk];intro q;exact c3 (Option.some.inj q)),List.append_nil]
    refine⟨rfl,rfl,32-(k+1),by omega,k+1,y,by omega,rfl,hnx0,(show h'.next<=_ by omega),w.more (by omega),by rw[er];exact ow,by rw[er];exact hnil,sp,?_⟩;rw[<-zf (by omega)];exact hs'.sub (by kernel_rfl)
  ·have hk32:k=32:=by have:((2^5:Nat):Int)=32:=rfl;omega
   subst hk32;refine thenC.left (wpS.at hs' zS5 rfl rfl (hs'.on λtm2 hs2=>hs2.slt λtm3 hs3=>hs3.slt λtm4 hs4=>?_));have hx:Ext h h' 90:=(w6.ex0.trans w.ex0).mono (by omega);have le6:=x6.le;exact endW.r2 (hs4.get rfl) (hs4.get rfl) (hq h' y 0 hx ow hnil λb hb=>(sp b hb).1.elim (λg=>g.elim) λg=>by omega)
abbrev tsl:TI:=⟨23,.slice 3,1,24,some .nilslice,false,false,false,[]⟩
theorem zJd {v:V}{l:List Int}{h:H}{Q:V->H->Prop}(sl:Sl h v 1 l.length (zM l)) (g:GD 5 l) (hn:h.next+1500<=T.top) (hlow:h.low<=T.top)
  (hq:∀h' v',Ext h h' 1200->FTab h.next h' v' l.length (zX (zh 5 l) 32)->Q (.tuple [.agg [.int .i64 (5:Nat),v'],.int .i64 0]) h'):RF P zA 164 [.agg [.int .i64 (5:Nat),v]] h Q:=by
 have hlen:=g.len;refine RF.enterS zG zYa (ble _ _ rfl) (ble _ _ rfl) z0n (yM sl ⟨by omega,?_⟩);rintro p0 h1 rfl e1;have w1:=(Vw.nil (S:=zW) (h:=h)).new e1 (by omega);have n1:h1.next=h.next+1:=by rw[e1,zI]
 refine⟨by omega,?_⟩;rintro p3 h4 rfl e4;have w4:=w1.new e4 (by omega);have n4:h4.next=h1.next+1:=by rw[e4,zI]
 have s4:=sl.ext w4.ex0;refine⟨_,_,w4.ldA 1 rfl xo rfl rfl,jV s4 g ⟨_,rfl,λc=>absurd rfl c,λ_=>⟨_,w4.ld1 1 rfl zi rfl rfl,by omega,?_⟩⟩⟩
 rintro p12 h13 rfl e13;have w13:=w4.new e13 (by omega);have n13:h13.next=h4.next+1:=by rw[e13,zI]
 obtain⟨h14,e14,w14,n14,_⟩:=w13.st (cx:=zA) 0 (t:=216) (f:=0) (u:=.agg [.int .i64 (5:Nat),.nilslice]) rfl (by omega) xc rfl (oJ _) rfl rfl;refine⟨h14,e14,Has.nil.on λtm hs=>?_⟩
 refine wpC.round (λj tm h'=>∃(k:Nat) (y:V) (vs:List V),k<=l.length/\j=l.length-k/\h'.next<=h14.next+92*k /\
  Vw zW h h' (3+92*k) [(h4.next,oET (5:Nat) y),(h1.next,oET 0 .nilslice),(h.next,oD (5:Nat) v)]/\Ow h' y tsl k vs/\Sep zW h.next [(h4.next,oET (5:Nat) y),(h1.next,oET 0 .nilslice),(h.next,oD (5:Nat) v)] y /\
  (∀s,s<k->∃u,vs[s]? = some u/\Ow h' u xn (zX (zh 5 l) 32 s).length (zM (zX (zh 5 l) 32 s))/\((zX (zh 5 l) 32 s).length=0->u = .nilslice)/\∀b,ym u=some b->h14.next<=b/\ym y≠some b) /\
  Has tm [(6,.int .i64 k),(1,.ptr h.next 0),(5,.ptr h4.next 0),(2,.ptr h1.next 0)]) l.length
  ⟨0,.nilslice,[],by omega,by omega,by omega,w14,⟨rfl,.inl ⟨rfl,rfl⟩⟩,(λb hb=>by cases hb),(λs hs=>absurd hs (Nat.not_lt_zero s)),hs.sub (by kernel_rfl)⟩ ?_
 clear hs w14 e14 w13;rintro j tm h' ⟨k,y,vs,hk,rfl,hnx,w,ow,sp,er,hs⟩;have l':h'.low<=T.top:=by have:=w.low;omega
 have sv:=sl.ext w.ex0;refine wpC.at hs zQr rfl rfl ?_;rw[zm];refine⟨v,w.ld1 2 rfl zQ rfl rfl,_,sv.len zQ rfl,λc=>?_,λc=>hs.on λtm' hs'=>?_⟩
 ·have hkl:k<l.length:=by omega
  refine⟨_,_,w.ldA 2 rfl xo rfl rfl,zJb sv g hkl (by omega) l' λh7 u e x7 owu nilu blu=>⟨_,_,rfl,?_⟩⟩
  have w7:=w.ext x7;have t7:=x7.top;have le7:=x7.le;rw[je];obtain⟨u1,u2⟩:=owu.one1;obtain⟨v13,h14',e14,s14,x14,_⟩:=kP (c:=zA) (h:=h7) (t:=214) (u:=u) (ys:=[u]) yU rfl zQ rfl rfl u1 rfl (by decide) u2 (by omega);have w14:=w7.ext x14;have t14:=x14.top;have le14:=x14.le;have x714:=x7.trans x14;have ow14:=ow.ext x714;have hyb:∀b,ym y=some b->b<h'.next:=λb hb=>ow.blk hb
  obtain⟨y',h16,e16,A⟩:=ow14.append (c:=zA) s14 (by decide) yU rfl zQ rfl u2 (by show(k+1)*1<=_;omega) (by show(k+1)*24<=_;omega) (by omega);obtain⟨w16,ow16,sp16⟩:=w14.grow sp A;obtain⟨_,le16,t16,keep16,by16,_,_⟩:=A;obtain⟨y1,y2⟩:=ow16.one1;refine⟨y,w7.ld1 0 rfl yU rfl rfl,v13,h14',e14,trivial,y',h16,e16,?_⟩;rw[je];obtain⟨h19,e19,w19,n19,g19⟩:=w16.st (cx:=zA) 0 (t:=214) (f:=0+1) (u:=y') (cs':=.ls [.int .i64 (5:Nat),y']) rfl (by omega) yU (yO.2 (by rw[y1];rfl)) (oJ _) (by rw[y1];exact y2) (by rw[y1];rfl);have hp12:h4.next<h14.next:=by omega
  have keep:∀(z:V) (n:Nat) (xs:List V),Ow h14' z xn n xs->(∀b,ym z=some b->h14.next<=b/\ym y≠some b)->Ow h19 z xn n xs:=λz n xs oz hz =>
   oz.keep (by omega) λb hb=>by
    have hb1:=oz.blk hb;have hb2:=hz b hb;rw[g19 b (by omega),keep16 b hb1 hb2.2]
  refine⟨h19,e19,hs.on λtm' hs'=>⟨rfl,rfl,l.length-(k+1),by omega,k+1,y',vs++[u],by omega,rfl,(show h19.next<=_ by omega),w19.more (by omega),?_,?_,λs hs2=>?_,?_⟩⟩
  ·exact ow16.keep (show h16.next<=h19.next by omega) λb hb=>g19 b λq=>(sp16 b hb).2 (h4.next,oET (5:Nat) y) (List.mem_cons_self ..) q.symm
  ·intro b hb
   refine⟨(sp16 b hb).1,λq hq=>?_⟩
   simp only[oY,List.not_mem_nil,or_false]at hq;rcases hq with rfl|rfl|rfl
   ·exact(sp16 b hb).2 (h4.next,oET (5:Nat) y) (List.mem_cons_self ..)
   ·exact(sp16 b hb).2 (h1.next,_) (by simp)
   ·exact(sp16 b hb).2 (h.next,_) (by simp)
  ·have hvl:vs.length=k:=by have:=ow.1;simpa using this
   by_cases e:s=k
   ·subst e
    have hfresh:∀b,ym u=some b->h14.next<=b/\ym y≠some b:=λb hb=>by
     have:=blu b hb;have h14le:h14.next<=h'.next:=by
      have:=w.lt 0 rfl;omega
     exact⟨by omega,λq=>by have:=hyb b q;omega⟩
    refine⟨u,by rw[<-hvl];simp,keep u _ _ (owu.ext x14) hfresh,nilu,λb hb=>⟨(hfresh b hb).1,λq=>?_⟩⟩
    rw[by16]at q;have:=(owu.ext x14).blk hb;cases q;omega
   ·obtain⟨u',hu',ow',nil',bl'⟩:=er s (by omega)
    refine⟨u',by rw[List.getElem?_append_left (by omega)];exact hu',keep u' _ _ (ow'.ext x714) bl',nil',λb hb=>⟨(bl' b hb).1,λq=>?_⟩⟩
    rw[by16]at q;have:=(ow'.ext x714).blk hb;cases q;omega
  ·rw[<-zf (by omega)]
   exact hs'.sub (by kernel_rfl)
 ·have hk:k=l.length:=by omega
  subst hk;obtain⟨y1,y2⟩:=ow.one1;refine thenC.left (wpS.at hs' zSC rfl rfl ?_);obtain⟨h2,e2,w2,n2,g2⟩:=w.st (cx:=zA) 1 (t:=216) (f:=0) (u:=.agg [.int .i64 (5:Nat),y]) (cs':=.ls [.int .i64 (5:Nat),y]) rfl (by omega) xc (yO.2 (by rw[yq ow.sl];rfl)) (oJ _) (by rw[yq ow.sl];exact qJ ow.sl) (by rw[yq ow.sl];rfl);refine⟨_,_,w.ldA 0 rfl xc rfl rfl,h2,e2,hs'.on λtm2 hs2=>endW.ok (leave.cell (hs2.get (t:=2) rfl) (w2.ldA 1 rfl xc rfl rfl) (leave.tmp (hs2.get (t:=3) rfl) rfl)) (hq h2 _ (w2.ex0.mono (by omega)) ⟨vs,?_,λb hb=>?_,λs hs=>?_⟩)⟩
  ·exact(ow.keep (by omega) λb hb=>g2 b λq=>(sp b hb).2 (h1.next,oET 0 .nilslice) (by simp) q.symm).sl
  ·have:=ow.blk hb
   exact⟨(sp b hb).1.elim (λg=>g.elim) id,by omega⟩
  ·obtain⟨u,hu,owu,nilu,bl⟩:=er s hs
   exact⟨u,hu,owu.keep (by omega) λb hb=>g2 b (by have:=(bl b hb).1;omega),nilu,λb hb=>by have:=(bl b hb).1;omega⟩
def kM (D:List Int):List Bool:=(List.range 32).map λi:Nat=>decide ((i:Int)∈D)
theorem YW (D:List Int):(kM D).length=32:=by simp[kM]
theorem JN {D:List Int}{i:Nat}(h:i<32):(kM D)[i]? = some (decide ((i:Int)∈D)):=by
 unfold kM;rw[oU,List.getElem?_range h];rfl
theorem zGs:kM []=List.replicate 32 false:=by decide
theorem zEc {D:List Int}{i:Nat}(h:i<32):(kM D).set i true=kM (D++[(i:Int)]):=by
 apply List.ext_getElem?;intro j;by_cases c:j<32
 ·rw[JN c]
  by_cases e:i=j
  ·subst e
   rw[List.getElem?_set_self (by rw[YW];exact h)];simp
  ·rw[oW e,JN c]
   congr 1
   have:((j:Int)∈D++[(i:Int)])↔(j:Int)∈D:=by
    rw[List.mem_append,List.mem_singleton];exact⟨λq=>q.elim id λq=>by omega,.inl⟩
   exact decide_eq_decide.2 this.symm
 ·rw[oa (by rw[oc,YW];omega),oa (by rw[YW];omega)]
theorem Xn {row:Nat->List Int}{s:Nat}:∀{m:Nat},s<m->∃r,kg row m=kg row s++(row s++r)
 | 0,h=>by cases h
 | m+1,h=>by
  rw[kA];by_cases e:s=m
  ·subst e
   exact⟨[],by rw[List.append_nil]⟩
  ·obtain⟨r,hr⟩:=Xn (row:=row) (show s<m by omega)
   exact⟨r++row m,by rw[hr];simp⟩
theorem zPd {row:Nat->List Int}{s m j:Nat}(hn:(kg row m).Nodup) (hs:s<m) (hj:j<(row s).length):(row s)[j]∉kg row s++(row s).take j:=by
 obtain⟨r,hr⟩:=Xn (row:=row) hs;rw[hr]at hn;have e:kg row s++(row s++r)=(kg row s++(row s).take j)++((row s)[j]::((row s).drop (j+1)++r)):=by
  have h2:(row s).take j++((row s)[j]::((row s).drop (j+1)++r))=row s++r:=by
   rw[<-List.cons_append,<-List.append_assoc,<-List.drop_eq_getElem_cons hj,List.take_append_drop]
  rw[List.append_assoc,h2]
 rw[e]at hn;intro q;exact(List.nodup_append.1 hn).2.2 _ q _ (List.mem_cons_self ..) rfl
theorem zIs {sp:List Int}{m n:Nat}(h:∀i,i<n->∃s:Nat,s<m/\sp[i]? = some (s:Int)):(kg (zX sp n) m).Nodup:=by
 refine(ql h).nodup_iff.2 ?_;show List.Pairwise (·≠·) _;rw[List.pairwise_map];exact List.pairwise_lt_range.imp λ{a b} h=>by show(a:Int)≠b;omega
theorem XL {v:V}{m:Nat}{sp:List Int}{h:H}{Q:V->H->Prop}(t:ET h v m sp) (hn:h.next+300<=T.top) (hlow:h.low<=T.top) (hq:Q (.int .i64 0) h):RF P zA 230 [.agg [.int .i64 (5:Nat),v]] h Q:=by
 refine RF.forget (n:=300) (v:=.int .i64 0) ?_ (xG _ _) hq;have hm:=t.hm;have hnd:=zIs t.all;have hall:(kg (zX sp 32) m).length=32:=by rw[(ql t.all).length_eq,od,List.length_range]
 obtain⟨vs,sv,rows⟩:=t.tab;refine RF.enterS zG zZC (ble _ _ rfl) (ble _ _ rfl) z1P (wN sv ⟨by omega,?_⟩);rintro p0 h1 rfl e1;have w1:=(Vw.nil (S:=zW) (h:=h)).new (o:=oET (5:Nat) v) e1 (by omega);have n1:h1.next=h.next+1:=by rw[e1,zI]
 refine⟨_,w1.ld1 0 rfl zi rfl rfl,λc=>by omega,λ_=>⟨_,w1.ld1 0 rfl zi rfl rfl,λc=>by omega,λ_=>⟨v,w1.ld1 0 rfl yU rfl rfl,_,(sv.ext w1.ex0).len yU rfl,λc=>by omega,λ_=>Has.nil.on λtm hs=>?_⟩⟩⟩
 refine wpS.at hs zSb rfl rfl ?_;rw[zLK];obtain⟨cs0,em,row0⟩:=Row.make (cx:=zA) (h:=h1) (t:=277) (k:=32) zBR rfl ty4 rfl rfl rfl (by decide) (by decide) (by omega);obtain⟨h5,e5⟩:∃h5,h5=h1.new (yv cs0):=⟨_,rfl⟩;have w5:=w1.new e5 (by omega);have n5:h5.next=h1.next+1:=by rw[e5,zI]
 refine⟨_,w1.ld1 0 rfl zi rfl rfl,((1*2^5:Nat):Int),by rw[zP (by omega)];exact zb (a:=1) (by omega) (by omega),_,h5,by rw[e5];exact em,hs.on λtm2 hs2=>?_⟩
 refine wpC.round (λj tm h'=>∃(s:Nat) (cs:Cs),s<=m/\j=m-s/\h'.next=h5.next/\Vw zW h h' 2 [(h1.next,yv cs),(h.next,oET (5:Nat) v)]/\Row cs 32 (wz (kM (kg (zX sp 32) s))) /\
  Has tm [(6,.int .i64 s),(5,.int .i64 ((kg (zX sp 32) s).length:Nat)),(1,.ptr h.next 0),(3,.int .i64 32),(4,.slice h1.next 0 32 (.exact 32))]) m
  ⟨0,cs0,by omega,by omega,rfl,w5,by
   have e:kg (zX sp 32) 0=[]:=rfl;rw[e,zGs];exact row0,hs2.sub (by kernel_rfl)⟩ ?_
 clear hs hs2 w5 em e5 row0;rintro j tm h' ⟨s,cs,hs1,rfl,hnx,w,row,hs⟩;have sv':=sv.ext w.ex0;refine wpC.at hs zRH rfl rfl ?_;rw[je];refine⟨v,w.ld1 1 rfl yU rfl rfl,_,sv'.len yU rfl,λc=>hs.on λtm2 hs2=>?_,λc=>hs.on λtm' hs'=>?_⟩
 ·have hsm:s<m:=by omega
  obtain⟨u,hu,ow0,_⟩:=rows s hsm;have hel:=wK sp 32 s;have hcl:(kg (zX sp 32) s).length+(zX sp 32 s).length<=32:=by
   obtain⟨r,hr⟩:=Xn (row:=zX sp 32) hsm;rw[hr,oR,oR]at hall;omega
  refine wpC.round (λj tm h'=>∃(k:Nat) (cs:Cs),k<=(zX sp 32 s).length/\j=(zX sp 32 s).length-k/\h'.next=h5.next/\Vw zW h h' 2 [(h1.next,yv cs),(h.next,oET (5:Nat) v)]/\Row cs 32 (wz (kM (kg (zX sp 32) s++(zX sp 32 s).take k))) /\
   Has tm [(7,.int .i64 k),(6,.int .i64 s),(5,.int .i64 ((kg (zX sp 32) s).length+k:Nat)),(1,.ptr h.next 0),(3,.int .i64 32),(4,.slice h1.next 0 32 (.exact 32))]) (zX sp 32 s).length
   ⟨0,cs,by omega,by omega,hnx,w,by rw[List.take_zero,List.append_nil];exact row,hs2.sub (by kernel_rfl)⟩ ?_
  clear hs hs2 w row cs sv' hnx;rintro j tm h' ⟨k,cs,hk,rfl,hnx,w,row,hs⟩;have sv':=sv.ext w.ex0;have ow:=ow0.ext w.ex0;have l':h'.low<=T.top:=by have:=w.low;omega
  obtain⟨b,o,a1,a2⟩:=sv'.at1 (u:=u) hsm yU rfl zQ rfl rfl hu;refine wpC.at hs zRG rfl rfl ?_;rw[je];refine⟨v,w.ld1 1 rfl yU rfl rfl,b,o,a1,u,a2,_,ow.sl.len zQ rfl,λc2=>?_,λc2=>hs.on λtm' hs'=>?_⟩
  ·have hkl:k<(zX sp 32 s).length:=by omega
   rw[je];obtain⟨b2,o2,f1,f2⟩:=zg ow.sl hkl;obtain⟨x,ex,hx⟩:=Ku (oQ hkl);have hnew:=zPd hnd hsm hkl;have hsorted:=J6 sp 32 s;have htk:=yH hkl;have hprev:∀h0:0<k,(zX sp 32 s)[k-1]'(by omega)<(zX sp 32 s)[k]:=λh0=>List.pairwise_iff_getElem.1 hsorted (k-1) k (by omega) hkl (by omega)
   have hrd1:0<k->∃b3 o3,zV zA 23 u (.int .i64 ((k-1:Nat):Int))=some (.ptr b3 o3)/\zO zA 3 h' (.ptr b3 o3)=some (.int .i64 ((zX sp 32 s)[k-1]'(by omega))):=λh0=>zg ow.sl (i:=k-1) (by omega)
   have hpv:∀h0:0<k,(zX sp 32 s)[k-1]'(by omega)<(x:Int):=λh0=>by rw[<-ex];exact hprev h0
   rw[ex]at f2 hnew htk;have hcell:cs.get? x=some (.bool false):=by
    rw[row.2.2.2 x hx];unfold wz;rw[oU,JN hx,decide_eq_false hnew];rfl
   obtain⟨h2,cs2,e2,row2,w2,n2⟩:=w.set (cx:=zA) 0 (j:=x) (u:=.bool true) row rfl (by omega) hx ty4 rfl rfl rfl rfl;have erow2:(wz (kM (kg (zX sp 32) s++(zX sp 32 s).take k))).set x (.bool true)=wz (kM (kg (zX sp 32) s++(zX sp 32 s).take (k+1))):=by
    unfold wz;rw[<-List.map_set,zEc hx,htk,List.append_assoc]
   rw[erow2]at row2;have fin:∀tm5,Has tm5 [(8,.int .i64 x),(7,.int .i64 k),(6,.int .i64 s),(5,.int .i64 ((kg (zX sp 32) s).length+k:Nat)),(1,.ptr h.next 0),(3,.int .i64 32),(4,.slice h1.next 0 32 (.exact 32))]->∀K:St->Prop,
     (∀tm6,Has tm6 [(7,.int .i64 (k+1:Nat)),(6,.int .i64 s),(5,.int .i64 ((kg (zX sp 32) s).length+(k+1):Nat)),(1,.ptr h.next 0),(3,.int .i64 32),(4,.slice h1.next 0 32 (.exact 32))]->K ⟨92,tm6,[],h2⟩)->∀R:AX->St->Prop,(∀s1,K s1->R .normal s1) ->
     qg false zC1 ⟨92,tm5,[],h'⟩ (λe s1=>(thenC (λs1=>qg false zC2 s1 (zD qd R)) (zD qd R)) (zK 3 e) s1):=λtm5 hs5 K hK R hR=>by
    refine wpS.at hs5 zS7 rfl rfl ⟨h1.next,x,zr zBR rfl ty4 rfl hx,h2,e2,hs5.on λtm6 hs6=>thenC.nx (wpS.at hs6 zS8 rfl rfl (hs6.on λtm7 hs7=>hs7.slt λtm8 hs8=>hR _ (hK tm8 ?_)))⟩
    rw[<-zf (i:=k) (by omega),show(((kg (zX sp 32) s).length+(k+1):Nat):Int)=(((kg (zX sp 32) s).length+k+1:Nat):Int)by omega,<-zf (i:=(kg (zX sp 32) s).length+k) (by omega)];exact hs8.sub (by kernel_rfl)
   refine⟨v,w.ld1 1 rfl yU rfl rfl,b,o,a1,u,a2,b2,o2,f1,_,f2,λc3=>by omega,λ_=>⟨λc3=>by omega,λ_=>⟨h1.next,x,zr zBR rfl ty4 rfl hx,_,w.ld1 0 rfl ty4 rfl hcell,λc3=>(by cases c3),λ_=>⟨λc4=>?_,λc4=>hs.on λtm5 hs5=>?_⟩⟩⟩⟩
   ·have h0:0<k:=by omega
    rw[je];obtain⟨b3,o3,g1,g2⟩:=hrd1 h0;have ek:zL (((k:Nat):Int)-1)=((k-1:Nat):Int):=by rw[zH (by omega) (by omega)];omega
    have hp:=hpv h0;refine⟨v,w.ld1 1 rfl yU rfl rfl,b,o,a1,u,a2,b3,o3,by rw[ek];exact g1,_,g2,λc5=>by omega,λ_=>hs.on λtm5 hs5=>?_⟩
    refine fin tm5 (hs5.sub (by kernel_rfl)) (λs1=>s1.n=92/\s1.dfr=[]/\∃tm6,s1=⟨92,tm6,[],h2⟩/\Has tm6 [(7,.int .i64 (k+1:Nat)),(6,.int .i64 s),(5,.int .i64 ((kg (zX sp 32) s).length+(k+1):Nat)),(1,.ptr h.next 0),(3,.int .i64 32),(4,.slice h1.next 0 32 (.exact 32))]) (λtm6 hs6=>⟨rfl,rfl,tm6,rfl,hs6⟩) _ ?_
    rintro s1 ⟨_,_,tm6,rfl,hs6⟩;exact⟨rfl,rfl,(zX sp 32 s).length-(k+1),by omega,k+1,cs2,by omega,rfl,by show h2.next=_;omega,w2,row2,hs6⟩
   ·refine fin tm5 (hs5.sub (by kernel_rfl)) (λs1=>s1.n=92/\s1.dfr=[]/\∃tm6,s1=⟨92,tm6,[],h2⟩/\Has tm6 [(7,.int .i64 (k+1:Nat)),(6,.int .i64 s),(5,.int .i64 ((kg (zX sp 32) s).length+(k+1):Nat)),(1,.ptr h.next 0),(3,.int .i64 32),(4,.slice h1.next 0 32 (.exact 32))]) (λtm6 hs6=>⟨rfl,rfl,tm6,rfl,hs6⟩) _ ?_
    rintro s1 ⟨_,_,tm6,rfl,hs6⟩;exact⟨rfl,rfl,(zX sp 32 s).length-(k+1),by omega,k+1,cs2,by omega,rfl,by show h2.next=_;omega,w2,row2,hs6⟩
  ·have hkl:k=(zX sp 32 s).length:=by omega
   subst hkl;rw[List.take_length,<-kA]at row;have el:(kg (zX sp 32) s).length+(zX sp 32 s).length=(kg (zX sp 32) (s+1)).length:=by rw[kA,oR]
   refine thenC.left2 (wpS.at hs' zS9 rfl rfl (hs'.on λtm7 hs7=>hs7.slt λtm8 hs8=>⟨rfl,rfl,m-(s+1),by omega,s+1,cs,by omega,rfl,hnx,w,row,?_⟩))
   rw[<-el,<-zf (i:=s) (by omega)];exact hs8.sub (by kernel_rfl)
 ·have hsm:s=m:=by omega
  subst hsm;rw[hall]at hs';refine thenC.left (wpS.at hs' zSa rfl rfl ⟨λc2=>absurd rfl c2,λ_=>hs'.on λtm3 hs3=>hs3.slt λtm4 hs4=>?_⟩);exact endW.r1 (hs4.get rfl) ⟨rfl,w.ex0.mono (by omega)⟩
end Go.Proofs.YtnpeieeomokomaaGreat
