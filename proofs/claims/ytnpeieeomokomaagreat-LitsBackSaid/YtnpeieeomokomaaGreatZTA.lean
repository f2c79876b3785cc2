/- TA. No condition. -/
import Derived.Test.YtnpeieeomokomaaGreatZCD
import Derived.Test.YtnpeieeomokomaaGreatZW
import Derived.WalkKit
import Derived.LaidEql
import Derived.Stop.Asserts
import Derived.RowKitTokens
import Derived.Below
set_option maxRecDepth 100000
set_option maxHeartbeats 4000000
namespace Go.Proofs.YtnpeieeomokomaaGreat
open Go.Sim
variable {h:H}{Q:Uc}
variable{log:Int}{l:Ub}{s:Ua}{n p p0 p9 r:Nat}{tm:Tm}{v:V}
noncomputable abbrev P:=Tryz.prog
theorem ble(a b:Nat)(h:Nat.ble a b=true):a<=b:=oG h
theorem jz(a:h.nx<=T.top)(hl:h.low<=T.top):(h.nx<=(z8 h).low/\(z8 h).nx<=T.top)/\wW h (z8 h)=h:=by refine⟨⟨a,a⟩,?_⟩;show(⟨h.tbl,h.nx,cond (Nat.ble h.low T.top) h.low T.top⟩:H)=h;rw[oE hl,oN]
theorem bp:∀(l:Ua) (i:Nat),JQ l i=l[i]?
 | [],_=>rfl
 | _::_,0=>rfl
 | _::l,i+1=>by rw[JQ,bp l i];rfl
theorem yj{k:IntKind}{l:Ua}{i:Nat}{b:UInt8}(h:l[i]? = some b):wM zB 9 (.str l) (.int k (i:Int))=some (.int .u8 ((b.toNat:Nat):Int)):=by
 unfold wM;have a:ya (i:Int)=some i:=rfl
 grind[xk,bp]
theorem yl:∀(l:Ua) (n:Nat),YP l n=n+l.length
 | [],n=>by simp[YP]
 | _::l,n=>by rw[YP,yl l];grind
theorem kV{x y:Nat}(h1:x<=y)(h2:y<=s.length):
  zw zB 9 h (.str s) (some (dh x)) (some (dh y)) none=some (.str (zS s x y)):=by
 unfold zw;have a:ya (x:Int)=some x:=rfl;have b:ya (y:Int)=some y:=rfl;have c:YP s 0=s.length:=by rw[yl];omega
 simp only[xk,Go.Sim.bnd,a,b,c];rw[oE h2,oN];simp only;rw[oE h1,oN]
theorem zt:200000<T.top:=dg
theorem zh(L:Uf){f:Nat}{fi:FI}{args:Ug}{h:H}{Q:Uc}(a:(zB.fn.get f).map zG=some fi)(hw:XV Tryz.prog zB false fi.n (Tb.leaf zZ) L 4 fi.body (SC args 0 []) [] h (endW zB fi Q) (zDF zB fi (Tb.leaf zZ) Q))(b:args.length<=fi.n:=by exact ble _ _ rfl)(c:fi.n<=511:=by exact ble _ _ rfl):RF Tryz.prog zB f args h Q:=RF.go xf L 4 a b c hw
theorem sg{live:Uf}{b:Bool}{code:Go.Code}{d:List AD}{Q:Ud}{l:Kn}(hs:Has tm l)(hw:XV Tryz.prog zB b n tm live 4 code l d h (yL live Q) (NN live n Q))(a:(l.all λp=>Nat.blt p.1 511)=true:=by rfl):wpS Tryz.prog zB live 4 b code ⟨n,tm,d,h⟩ Q:=wpS.go hs a hw
theorem cg(L:Uf){b:Bool}{code:Go.Code}{d:List AD}{h:H}{Q:Ud}{l:Kn}(hs:Has tm l)(hw:XV Tryz.prog zB b n tm L 4 code l d h (yL L Q) (NN L n Q))(a:(l.all λp=>Nat.blt p.1 511)=true:=by rfl):wpC Tryz.prog zB b code ⟨n,tm,d,h⟩ Q:=wpC.go L 4 hs a hw
theorem zG5(L:Uf){f:Nat}{fi:FI}{args:Ug}{h:H}{Q:Uc}(a:(zB.fn.get f).map zG=some fi)(hw:XV Tryz.prog zB false fi.n (Tb.leaf zZ) L 4 fi.body (SC args 0 []) [] h (endW1 Tryz.prog zB fi Q) (NN L fi.n (endW1 Tryz.prog zB fi Q)))(b:args.length<=fi.n:=by exact ble _ _ rfl)(c:fi.n<=511:=by exact ble _ _ rfl):RF Tryz.prog zB f args h Q:=RF.goD xf L 4 a b c hw
theorem nd{ops:List Go.Oper}{bs:Uf}{m k:Nat}(a:h.nx<=T.top)(hl:h.low<=T.top){K:H->Prop}(b:K h):lowOk ops bs m k h (z8 h)/\∀h2,h2=wW h (z8 h)->K h2:=by
 have g:=jz a hl;refine⟨?_,by rintro h2 rfl;rw[g.2];exact b⟩;unfold lowOk;split
 .exact a
 exact g.1
section
variable {P:Program}{c:Ctx}
theorem _root_.Go.Sim.endQ.ok{m:Nat}{rs:List Go.ResultVar}{body:Go.Code}{d:List AD}{h0 h:H}{vs:Ug}{Q:Uc}(e:leave c rs tm h rs []=some vs)(a:Q (yC vs) h):endQ c ⟨n,rs,body⟩ Q ⟨m,tm,d,h0⟩ h:=by unfold endQ;rw[e];exact a
theorem _root_.Go.Sim.endW1.nd{m:Nat}{rs:List Go.ResultVar}{body:Go.Code}{h:H}{vs:Ug}{Q:Uc}(e:leave c rs tm h rs []=some vs)(a:Q (yC vs) h):endW1 P c ⟨n,rs,body⟩ Q .ret ⟨m,tm,[],h⟩:=endQ.ok e a
theorem _root_.Go.Sim.endW1.df{fi:FI}{m f:Nat}{cap:Ug}{h:H}{Q:Uc}(r:RV P c fi.n f cap h (endQ c fi Q ⟨m,tm,[.fn f cap []],h⟩)):endW1 P c fi Q .ret ⟨m,tm,[.fn f cap []],h⟩:=r
end
theorem nx{ops:List Go.Oper}{bs:Uf}{m k:Nat}{h h':H}{K:H->Prop}(x:Ext (z8 h) h' n)(b:h.nx+n<=T.top)(a:∀h2,h2=wW h h'->Ext h h2 n->K h2):lowOk ops bs m k h h'/\∀h2,h2=wW h h'->K h2:=by
 have d:=x.drawn dd;have:h'.nx<=h.nx+n:=x.top;refine⟨?_,λh2 e=>a h2 e (e ▸ d.2)⟩;unfold lowOk;split
 .omega
 exact⟨d.1,dd⟩
theorem lM{n:Int}(o:Q (dh (hi n)) h)(q:n<9223372036854775808:=by omega):RF P zB 216 [dh n] h Q:=by
 refine zh zCT zEL (λtm hs=>?_);refine wpC.round (λk tm h'=>∃i:Nat,i<=63/\k=63-i/\h'=h/\Has tm [(5,dh i),(0,dh n),(3,dh (Bp n i))]) 63 ⟨0,dd,rfl,rfl,by rw[show Bp n 0 = -1 by unfold Bp;rw[if_neg dd]];exact hs.sub rfl⟩ ?_;rintro k tm h' ⟨i,u,rfl,rfl,hs⟩;refine cg zCT hs ⟨λc=>⟨_,Wp dd,λf=>λb a=>?_,λf=>λb a=>?_⟩,λc=>λb a=>?_⟩
 .have j:=(pJ (vZ i)).1 f;have e:zb ((i:Int)+1)=((i+1:Nat):Int):=by rw[zD dd dd];rfl
  refine⟨rfl,rfl,63-(i+1),dd,i+1,dd,rfl,rfl,?_⟩;try dsimp only
  rw[Vh,if_pos j,<-e];exact a.sub rfl
 .have j:¬((2^i:Nat):Int)<=n:=λg=>f ((pJ (vZ i)).2 g)
  have e:zb ((i:Int)+1)=((i+1:Nat):Int):=by rw[zD dd dd];rfl
  refine⟨rfl,rfl,63-(i+1),dd,i+1,dd,rfl,rfl,?_⟩;try dsimp only
  rw[Vh,if_neg j,<-e];exact a.sub rfl
 have d:i=63:=dd
 subst d;rw[zA5 q]at a;refine thenC.left (sg a (λt m=>?_));exact endW.r1 (m.get rfl) o
theorem nZ{n:Int}(b:Q (dh (hi n+1)) h)(a:n<9223372036854775808:=by omega):RF P zB 145 [dh n] h Q:=by
 have c : -1<=hi n/\hi n<63:=by
  unfold hi;split
  .rename_i d;have:n.toNat.log2<63:=(Nat.log2_lt dd).2 dd;omega
  omega
 refine zh zHJ zDb (lM ⟨_,rfl,?_⟩ a);show Q (dh (zb (hi n+1))) h
 rwa [zD dd dd]
theorem kE{b:Bool}{e:Int}(a:Q (dh (if b=true then e else 0)) h):RF P zB 250 [.bool b,dh e] h Q:=by
 refine zh zHc zE1 ?_;cases b
 .exact a
 exact a
def jC:Ub->Int
 | []=>0
 | x::l=>if x≠0 then x else jC l
theorem gO{l:Ub}{i:Nat}(h:jC (l.take i)=0):jC l=jC (l.drop i):=by
 induction l generalizing i with
 | nil=>simp
 | cons x l ih =>
  rcases i with _|i
  .rfl
  simp only[List.take_succ_cons,jC]at h;split at h
  .rename_i a;exact absurd h a
  rename_i a;show(if x≠0 then x else jC l)=jC (l.drop i);rw[if_neg a];exact ih h
theorem qk{v:V}{l:Ub}(sl:Sl h v 1 l.length (l.map λn=>dh n))(hl:l.length<4611686018427387904)(f:Q (dh (jC l)) h):RF P zB 248 [v] h Q:=by
 refine zh zCZ zEZ ⟨_,sl.len AZ rfl,λtm hs=>?_⟩;refine wpC.round (λk tm h'=>∃i:Nat,i<=l.length/\k=l.length-i/\h'=h/\jC (l.take i)=0/\Has tm [(8,dh i),(7,dh l.length),(6,v),(3,dh 0)]) l.length ⟨0,dd,dd,rfl,by simp[jC],hs.sub rfl⟩ ?_;rintro k tm h' ⟨i,B,rfl,rfl,h2,hs⟩;refine cg zCZ hs ⟨λc=>?_,λc=>λg a=>?_⟩
 .have hi:i<l.length:=dd
  have t:l[i]? = some l[i]:=oQ hi;obtain⟨b,o,y,A⟩:=sl.at1 (u:=dh l[i]) hi AZ rfl kK rfl rfl (by rw[od,t];rfl);have w:jC l=if l[i]≠0 then l[i] else jC (l.drop (i+1)):=by rw[gO h2,List.drop_eq_getElem_cons hi];rfl
  refine⟨b,o,y,l[i],A,λj=>λg a=>?_,λj=>λg a=>?_⟩
  .rw[w,if_pos j]at f;refine thenC.left (sg a (λm d=>?_));exact endW.r1 (d.get rfl) f
  have e:zb ((i:Int)+1)=((i+1:Nat):Int):=by rw[zD dd dd];rfl
  refine⟨rfl,rfl,l.length-(i+1),dd,i+1,dd,rfl,rfl,?_,?_⟩
  .rw[List.take_add_one,t];clear w f hs sl;generalize l.take i=z at h2 ⊢;induction z with
   | nil=>simp only[List.nil_append,Option.toList_some,jC];rw[if_neg j]
   | cons x z ih =>
    simp only[List.cons_append,jC]at h2 ⊢;split at h2
    .rename_i q;exact absurd h2 q
    rename_i q;rw[if_neg q];exact ih h2
  rw[<-e];exact a.sub rfl
 have hi:i=l.length:=dd
 subst hi;rw[List.take_length]at h2;rw[h2]at f;refine thenC.left (sg a (λm d=>?_));exact endW.r1 (d.get rfl) f
theorem Wo{left:Nat}(hl:left<=1048576)(c:h.nx<=T.top)(hw:h.low<=T.top)(d:Q (.tuple [dh (zQ (left+1):Nat),dh ((2^zQ (left+1)-2-left:Nat):Int)]) h):RF P zB 209 [dh left] h Q:=by
 have hb:zQ (left+1)<=21:=zo;have h2:=kh (left+1);have hp:2^zQ (left+1)<=2^21:=Nat.pow_le_pow_right dg hb;have b:zb ((left:Int)+1)=((left+1:Nat):Int):=by rw[zD dd dd];rfl
 refine zh zHZ zEG ?_;show RF P zB _ [dh (zb _)] h _;rw[b];refine nZ ⟨_,rfl,de,⟨c,hw⟩,((1*2^zQ (left+1):Nat):Int),?_,?_⟩
 .rw[wq];exact zr (a:=1) dd dd
 rw[wq];have e:zb (zb (((1*2^zQ (left+1):Nat):Int)-1)-((left+1:Nat):Int))=((2^zQ (left+1)-2-left:Nat):Int):=by rw[zD (n:=((1*2^zQ (left+1):Nat):Int)-1) dd dd,zD dd dd];omega
 show Q (.tuple [_,dh (zb (zb _-zb _))]) h;rw[b,e];exact d
def yH(s:Ua):Int:=match s.getLast? with
 | none=>-1
 | some b=>if b.toNat=0 then -1 else ((8*(s.length-1)+zQ b.toNat-1:Nat):Int)
theorem Yi(s:Ua):yH s<8*s.length:=by
 unfold yH;rcases h:s.getLast? with _|b
 .simp only;omega
 simp only;have hl:s≠[]:=λg=>by rw[g]at h;cases h
 have:0<s.length:=List.length_pos_iff.2 hl;have hb:zQ b.toNat<=8:=zo (by have:=b.toNat_lt;omega);split<;>omega
theorem Qo(a:Q (.bool (decide (1048576<s.length))) h):RF P zB 305 [.agg [.str s]] h Q:=by
 refine RF.plain ?_ (zg rfl);refine zh zHx zFH ⟨dg,?_⟩;rintro p f rfl b;obtain⟨n1,g,d⟩:=zm b dg;refine⟨s,zJ xk rfl d rfl,λc=>⟨xh _,?_⟩,λc=>⟨xh _,?_⟩⟩
 .have e:(1048576:Int)<(s.length:Int):=c
  rwa [decide_eq_true dd]at a
 have e:¬(1048576:Int)<(s.length:Int):=c
 rwa [decide_eq_false dd]at a
theorem CK{b:Nat}{h:H}{Q:Uc}(hb:b<256)(c:Q (dh (zQ b:Nat)) h):RF P zB 322 [.int .u8 b] h Q:=by
 refine zh zIG zFX ⟨(zQ b:Nat),?_,?_⟩
 .have a:zQ b<=8:=zo;have e:(UInt8.ofNat (zQ b)).toNat=zQ b:=by rw[UInt8.toNat_ofNat'];omega
  rw[<-e];refine yj ?_;clear c e a Q h;revert b;decide +kernel
 have a:zQ b<=8:=zo;show Q (dh (zb _)) h
 rwa [zD dd dd]
theorem bL(d:Q (dh (yH s)) h)(hs:s.length<=4611686018427387:=by omega):RF P zB 306 [.agg [.str s]] h Q:=by
 refine RF.plain ?_ (zg rfl);have d:∀h':H,Plain (dh (yH s))/\Q (dh (yH s)) h:=λ_=>⟨zN _ _,d⟩
 refine zh zHy zFI ⟨dg,?_⟩;rintro p i rfl o;obtain⟨n1,q,a⟩:=zm o dg;have D:H0.nx=0:=rfl;have e:i.nx<=T.top:=by have:=zt;omega
 have j:i.low<=T.top:=oS q.low (oR _);obtain⟨t,u⟩:=jz e j;refine⟨s,zJ xk rfl a rfl,λc=>?_,λc=>?_⟩
 .have:=d H0
  rwa [show yH s = -1 by rw[c];rfl]at this
 obtain⟨b,hb⟩:∃b,s.getLast? = some b:=by
  rcases w:s.getLast? with _|b
  .exact absurd (List.getLast?_eq_none_iff.1 w) c
  exact⟨b,rfl⟩
 have hp:0<s.length:=List.length_pos_iff.2 c;have hi:s[s.length-1]? = some b:=by rw[<-List.getLast?_eq_getElem?];exact hb
 have k:zb (Int.ofNat s.length-1)=((s.length-1:Nat):Int):=by show zb ((s.length:Int)-1)=_;rw[zD dd dd];omega
 have m:wM zB 9 (.str s) (dh (zb (Int.ofNat s.length-1)))=some (.int .u8 ((b.toNat:Nat):Int)):=by rw[k];exact yj hi
 refine⟨s,zJ xk rfl a rfl,s,zJ xk rfl a rfl,_,m,λx=>?_,λx=>λtm hs=>?_⟩
 .have:=d H0
  rwa [show yH s = -1 by unfold yH;rw[hb];simp only;rw[if_pos dd]]at this
 have f:=b.toNat_lt;have y:zQ b.toNat<=8:=zo;have z:0<zQ b.toNat:=by unfold zQ;rw[if_neg dd];omega
 have A:yH s=((8*(s.length-1)+zQ b.toNat-1:Nat):Int):=by unfold yH;rw[hb];simp only;rw[if_neg dd]
 refine sg hs ⟨⟨e,j⟩,?_⟩;refine⟨s,zJ xk rfl a rfl,s,zJ xk rfl a rfl,s,zJ xk rfl a rfl,_,m,CK f ⟨_,rfl,t,?_⟩⟩;try dsimp only
 rw[u];rintro B rfl;refine λC g=>endW.r1 (g.get rfl) ?_
 have ev:zb (zb (zb (8*zb (Int.ofNat s.length-1))+(zQ b.toNat:Nat))-1)=yH s:=by rw[k,A,zD (n:=8*((s.length-1:Nat):Int)) dd dd,zD (n:=8*((s.length-1:Nat):Int)+(zQ b.toNat:Nat)) dd dd,zD dd dd];omega
 have:=d H0
 rwa [<-ev]at this
theorem zAB{s:Ua}{i:Nat}(hi:i<8*s.length)(hs:s.length<=1048576)(e:Q (.int .u64 (wk s i:Nat)) h):RF P zB 325 [.agg [.str s],dh i] h Q:=by
 refine RF.plain ?_ (zg rfl);refine zh zII zF0 ⟨dg,?_⟩;rintro p j rfl a;obtain⟨n1,k,f⟩:=zm a dg;have c:s[i/8]? = some s[i/8]:=oQ dd;have d:=(s[i/8]'dd).toNat_lt;generalize s[i/8]'dd=b at c d;have a:zb (Int.tdiv (i:Int) 8)=((i/8:Nat):Int):=by rw[show Int.tdiv (i:Int) 8=((i/8:Nat):Int)from rfl,zD dd dd]
 have g:Int.tmod (i:Int) 8=((i % 8:Nat):Int):=rfl;have hd:b.toNat/2^(i % 8)<=b.toNat:=Nat.div_le_self _ _;refine⟨s,zJ xk rfl f rfl,dg,(b.toNat:Int),by rw[a];exact yj c,dg,((b.toNat/2^(i % 8):Nat):Int),?_,((wk s i:Nat):Int),?_,zN _ _,e⟩
 .rw[g,zV dd,zV dd];exact ko dd
 rw[Xi c,<-jt _ 1];exact bZ (b:=1) dd dg
abbrev rdr(s:Ua)(p:Nat):V:=.agg [.str s,dh p]
def Gd(s:Ua)(p:Nat):O:=.cells (.ls [.str s,dh p]) ⟨0,112+1,0⟩ true false
theorem fH(hs:s.length<=1048576)(hp:p<=8*s.length)(d:Q (dh 0) h):RF P zB 212 [rdr s p] h Q:=by
 refine RF.plain ?_ (zg rfl);refine zh zH0 zEH ⟨dg,?_⟩;rintro q f rfl e;obtain⟨n1,g,a⟩:=zm e dg;refine⟨s,zJ xk rfl a rfl,λc=>?_,λc=>⟨p,zJ zX rfl a rfl,λc=>?_,λc=>⟨p,zJ zX rfl a rfl,s,zJ xk rfl a rfl,λc=>?_,λc=>⟨zN _ _,d⟩⟩⟩⟩
 .have b:(1048576:Int)<(s.length:Int):=c;omega
 .omega
 have b:zb (8*(s.length:Int))<(p:Int):=c;rw[zD dd dd]at b;omega
theorem G7(hs:s.length<=1048576)(hp:p<=8*s.length)(b:Q (.tuple [dh ((p+7)/8:Nat),dh 0]) h):RF P zB 139 [rdr s p] h Q:=by
 refine RF.plain ?_ (zg rfl);refine zh zHF zD6 ⟨dg,?_⟩;rintro q f rfl d;obtain⟨n1,g,a⟩:=zm d dg;refine⟨s,p,zT qH rfl a rfl,fH hs hp ⟨0,rfl,λc=>absurd rfl c,λ_=>⟨p,zJ zX rfl a rfl,dg,zk rfl,?_⟩⟩⟩;have e:zb (Int.tdiv (zb ((p:Int)+7)) 8)=(((p+7)/8:Nat):Int):=by rw[zD (n:=(p:Int)+7) dd dd,show(p:Int)+7=((p+7:Nat):Int)from rfl,show Int.tdiv ((p+7:Nat):Int) 8=(((p+7)/8:Nat):Int)from rfl,zD dd dd]
 rw[e];exact b
theorem Pm(hs:s.length<=1048576)(hp:p<=8*s.length)(e:n<=32)(a:Q (dh 0) h):RF P zB 303 [rdr s p,dh n] h Q:=by refine RF.plain ?_ (zg rfl);refine zh zHw zFF ⟨dg,?_⟩;rintro q f rfl b;obtain⟨n1,g,d⟩:=zm b dg;exact⟨s,p,zT qH rfl d rfl,fH hs hp ⟨0,rfl,λ_=>⟨λc=>dd,λ_=>⟨λc=>dd,λ_=>⟨zN _ _,a⟩⟩⟩,λc=>absurd rfl c⟩⟩
theorem Gv{s:Ua}{p n:Nat}(hs:s.length<=1048576)(hp:p<=8*s.length)(M:n<=32)(C:Q (dh (yB s p n:Nat)) h):RF P zB 304 [rdr s p,dh n] h Q:=by
 refine RF.plain ?_ (zg rfl);refine zh zCc zFG ⟨dg,?_⟩;rintro q D rfl g;obtain⟨n1,N,j⟩:=zm g dg;refine λtm m=>?_
 refine wpC.round (λk tm h'=>∃i:Nat,i<=n/\k=n-i/\h'=D/\Has tm [(9,dh i),(8,dh n),(2,.ptr H0.nx 0),(5,dh (yB s p i:Nat))]) n ⟨0,dd,rfl,rfl,m.sub rfl⟩ ?_;rintro k tm h' ⟨i,hi,rfl,rfl,o⟩;have E:=YI s p i;have A:2^i<=2^32:=Nat.pow_le_pow_right dg dd;have e:zb ((i:Int)+1)=((i+1:Nat):Int):=by rw[zD dd dd];rfl
 have f:zb ((p:Int)+(i:Int))=((p+i:Nat):Int):=by rw[zD dd dd];rfl
 have el:zb (8*Int.ofNat s.length)=((8*s.length:Nat):Int):=by show zb (8*(s.length:Int))=_;rw[zD dd dd];omega
 refine cg zCc o ⟨λc=>?_,λc=>λd a=>?_⟩
 rotate_left
 .have t:i=n:=dd
  subst t;refine thenC.left (sg a (λF u=>?_));exact endW.r1 (u.get rfl) ⟨zN _ _,C⟩
 show ∃G,ye zB 3 h' (.ptr H0.nx (0+1))=some (dh G)/\_;refine⟨p,zJ zX rfl j rfl,?_⟩;show ∃H,ye zB 9 h' (.ptr H0.nx (0+0))=some (.str H)/\_;refine⟨s,zJ xk rfl j rfl,λw=>?_,λw=>λd a=>?_⟩
 .rw[f,el]at w;have I:p+i<8*s.length:=dd
  have x:s[(p+i)/8]? = some s[(p+i)/8]:=oQ dd;have y:=(s[(p+i)/8]'dd).toNat_lt;generalize s[(p+i)/8]'dd=b at x y;have hd:b.toNat/2^((p+i) % 8)<=b.toNat:=Nat.div_le_self _ _;have z:=Xi x;have B:=Kf s (p+i);have g:zb (Int.tdiv (zb ((p:Int)+(i:Int))) 8)=(((p+i)/8:Nat):Int):=by rw[f,show Int.tdiv ((p+i:Nat):Int) 8=(((p+i)/8:Nat):Int)from rfl,zD dd dd]
  have J:Int.tmod (zb ((p:Int)+(i:Int))) 8=(((p+i) % 8:Nat):Int):=by rw[f];rfl
  have hm:wk s (p+i)*2^i<=1*2^i:=Nat.mul_le_mul_right _ dd;show ∃K,ye zB 9 h' (.ptr H0.nx (0+0))=some (.str K)/\_;refine⟨s,zJ xk rfl j rfl,dg,(b.toNat:Int),by rw[g];exact yj x,dg,((b.toNat/2^((p+i) % 8):Nat):Int),?_,((wk s (p+i):Nat):Int),?_,((wk s (p+i)*2^i:Nat):Int),?_,((yB s p (i+1):Nat):Int),?_,λd a=>?_⟩
  .rw[J,zV dd];exact Ct dd
  .rw[z,<-jt _ 1];exact Ek (b:=1) dd dg
  .rw[zD dd dd,zV dd];exact zr dd dd
  .rw[lj,qC E];rfl
  refine⟨rfl,rfl,n-(i+1),dd,i+1,dd,rfl,rfl,?_⟩;try dsimp only
  rw[<-e];exact a.sub rfl
 rw[f,el]at w;have L:yB s p (i+1)=yB s p i:=by show yB s p i+wk s (p+i)*2^i=_;rw[La dd];omega
 refine⟨rfl,rfl,n-(i+1),dd,i+1,dd,rfl,rfl,?_⟩;try dsimp only
 rw[L,<-e];exact a.sub rfl
def AT(s:Ua)(p n:Nat):V:=if p+n<=8*s.length then .tuple [rdr s (p+n),dh (yB s p n:Nat),dh 0] else .tuple [rdr [] 0,dh 0,dh 5]
theorem LL(s:Ua)(p n:Nat):Plain (AT s p n):=by unfold AT;split<;>exact zk rfl
theorem Fo(hs:s.length<=1048576)(hp:p<=8*s.length)(t:n<=32)(e:Q (AT s p n) h):RF P zB 272 [rdr s p,dh n] h Q:=by
 refine RF.plain ?_ (zg rfl);have e:∀h':H,Plain (AT s p n)/\Q (AT s p n) h:=λ_=>⟨LL _ _ _,e⟩
 have E:H0.nx=0:=rfl;have F:=zt;refine zh zHk zEh ⟨dg,?_⟩;rintro q0 u rfl x;obtain⟨n1,G,y⟩:=zm x dg;refine⟨dd,?_⟩;rintro I h3 rfl z;obtain⟨J,A,w⟩:=zm z;have d:h3.get H0.nx=some (.cells (.ls [.str s,dh p]) ⟨0,112+1,0⟩ true false):=by rw[A.get _ dd];exact y
 have el:zb (zb (8*Int.ofNat s.length)-(p:Int))=((8*s.length-p:Nat):Int):=by show zb (zb (8*(s.length:Int))-(p:Int))=_;rw[zD (n:=8*(s.length:Int)) dd dd,zD dd dd];omega
 refine⟨s,p,zT qH rfl d rfl,Pm hs hp t ⟨0,rfl,λ_=>⟨s,zJ xk rfl d rfl,p,zJ zX rfl d rfl,λc=>λtm f=>?_,λc=>λtm f=>?_⟩,λc=>absurd rfl c⟩⟩
 .rw[el]at c;have i:¬p+n<=8*s.length:=dd
  unfold AT at e;rw[if_neg i]at e;refine sg f ⟨λ_=>⟨_,zY qH w rfl,λj b=>?_⟩,λg=>absurd g dg⟩;refine endW.ok (leave.cell (b.get rfl) (zT qH rfl (zF _ dd) rfl) (leave.tmp (b.get rfl) (leave.tmp (b.get rfl) rfl))) (e H0)
 rw[el]at c;have k:p+n<=8*s.length:=dd
 unfold AT at e;rw[if_pos k]at e;refine sg f ⟨λg=>absurd rfl g,λ_=>⟨s,p,zT qH rfl d rfl,Gv hs hp t ⟨_,rfl,?_⟩⟩⟩;show ∃B,ye zB 3 h3 (.ptr H0.nx (0+1))=some (dh B)/\_;refine⟨p,zJ zX rfl d rfl,?_⟩;have C:zb ((p:Int)+(n:Int))=((p+n:Nat):Int):=by rw[zD dd dd];rfl
 show ∃a,jP zB 3 h3 (.ptr H0.nx (0+1)) (dh (zb ((p:Int)+(n:Int))))=some a/\_;rw[C];obtain⟨a,m,o,q,D⟩:∃a,jP zB 3 h3 (.ptr H0.nx (0+1)) (dh ((p+n:Nat):Int))=some a/\a.get H0.nx=some (.cells (.ls [.str s,dh ((p+n:Nat):Int)]) ⟨0,112+1,0⟩ true false)/\a.get u.nx=h3.get u.nx/\a.nx=h3.nx :=
  ⟨_,zY zX d rfl,zF _ dd,zL _ dd dd,rfl⟩
 refine⟨a,m,s,((p+n:Nat):Int),zT qH rfl o rfl,_,zY qH (q.trans w) rfl,λj b=>?_⟩;exact endW.ok (leave.cell (b.get rfl) (zT qH rfl (zF _ dd) rfl) (leave.tmp (b.get rfl) (leave.tmp (b.get rfl) rfl))) (e H0)
def xZ(left:Nat):Nat:=zQ (left+1)
def pn(left:Nat):Nat:=2^xZ left-2-left
theorem bJ(left:Nat):0<xZ left:=by simp_all[xZ,zQ]
theorem Zs(left:Nat):2^(xZ left-1)<=left+1/\left+1<2^xZ left/\2^xZ left=2*2^(xZ left-1):=by
 have a:=bJ left;refine⟨WE dd,kh _,?_⟩;try dsimp only
 rw[<-Nat.pow_succ'];congr 1
theorem F7{left:Nat}(_:0<left):pn left<=left:=by
 obtain⟨a,h2,h3⟩:=Zs left
 grind[pn]
def qw(s:Ua)(left p:Nat):Option (Nat×Nat) :=
 if 8*s.length<p+(xZ left-1) then none
 else if yB s p (xZ left-1)<pn left then some (yB s p (xZ left-1),p+(xZ left-1))
 else if 8*s.length<p+xZ left then none
 else some (if 2^(xZ left-1)<=yB s p (xZ left) then yB s p (xZ left)-pn left else yB s p (xZ left),p+xZ left)
theorem NX(s:Ua)(p:Nat)(h:0<n):yB s p n=yB s p (n-1)+wk s (p+(n-1))*2^(n-1):=by obtain⟨m,rfl⟩:∃m,n=m+1:=⟨n-1,dd⟩;rfl
theorem vo{left v q:Nat}(h:qw s left p=some (v,q))(hl:0<left:=by omega):v<=left+1/\q<=8*s.length:=by
 obtain⟨a,h2,h3⟩:=Zs left;have h4:=F7 hl;have b:=YI s p (xZ left)
 grind[qw,pn]
def yo(s:Ua)(symbols:Nat):Nat->Nat->Nat->Option (Nat×Nat)
 | 0,_,_=>none
 | f+1,p,n =>
  if 8*s.length<p+2 then none
  else if symbols<n+yB s p 2 then none
  else if yB s p 2=3 then yo s symbols f (p+2) (n+3)
  else some (n+yB s p 2,p+2)
def yn(s:Ua)(symbols:Nat):Nat->Nat->Nat->Ub->Option (List Int×Nat)
 | 0,_,_,_=>none
 | f+1,left,p,l =>
  if left=0 then some (l,p)
  else match qw s left p with
  | none=>none
  | some (v,q) =>
   if l.length=symbols then none
   else if v=1 then
    match yo s symbols (symbols+1) q (l.length+1)with
    | none=>none
    | some (n,r)=>yn s symbols f left r (l++List.replicate (n-l.length) 0)
   else yn s symbols f (left-max (v-1) 1) q (l++[(v:Int)-1])
abbrev Pu(e:Int):V:=.iface 269 (.agg [.iface 24 (dh e)])
theorem ZE(m:h.get r=some (Gd s p))(hr:r<h.nx)(o:h.nx+1<=T.top)(hs:s.length<=1048576)(hp:p<=8*s.length)(t:n<=32)(d:p+n<=8*s.length->∀h',ExtX (· = r) h h' 1->h'.get r=some (Gd s (p+n))->Q (.tuple [dh (yB s p n:Nat),.nilIface]) h')(e:¬p+n<=8*s.length->∀h',Ext h h' 1->Q (.tuple [dh 0,Pu 5]) h'):RF P zB 208 [.ptr r 0,dh n] h Q:=by
 refine zh zHY zEF ⟨s,p,zT qH rfl m rfl,Fo hs hp t ?_⟩;unfold AT;by_cases c:p+n<=8*s.length
 .rw[if_pos c];refine⟨s,((p+n:Nat):Int),_,_,rfl,dd,?_⟩;rintro q a rfl f;obtain⟨n1,b,i⟩:=zm f;obtain⟨h2,j,u,w,k,x⟩:∃h2,jP zB 112 a (.ptr h.nx 0) (.agg [.str s,dh ((p+n:Nat):Int)])=some h2/\h2.get h.nx=some (Gd s (p+n))/\h2.get r=some (Gd s p)/\Ext h h2 1/\h2.nx=a.nx :=
   ⟨_,zY qH i rfl,zF _ dd,by rw[zL _ dd dd,b.get _ hr];exact m,b.upd _ dd (oR _),rfl⟩
  refine⟨h2,j,λg=>absurd rfl g,λ_=>⟨s,((p+n:Nat):Int),zT qH rfl u rfl,?_⟩⟩;exact⟨_,zY qH w rfl,d c _ ((ExtX.of k).upd _ dd (.inl rfl)) (zF _ dd)⟩
 rw[if_neg c];refine⟨[],0,_,_,rfl,dd,?_⟩;rintro q a rfl f;obtain⟨n1,b,i⟩:=zm f;obtain⟨h2,j,k⟩:∃h2,jP zB 112 a (.ptr h.nx 0) (.agg [.str [],dh 0])=some h2/\Ext h h2 1 :=
  ⟨_,zY qH i rfl,b.upd _ dd (oR _)⟩
 exact⟨h2,j,λ_=>(e c _ k),λg=>absurd (show(5:Int)≠0 by decide) g⟩
abbrev yg:TI:=⟨3,.int .i64,1,8,some (dh 0),true,false,false,[]⟩
abbrev zI(l:Ub):Ug:=l.map λn=>dh n
theorem kg(l m:Ub):zI (l++m)=zI l++zI m:=List.map_append ..
theorem jU(l:Ub):(zI l).length=l.length:=oy ..
theorem Hu(n:Nat):zI (List.replicate n 0)=List.replicate n (dh 0):=by simp[zI]
def oD(log:Int)(v:V):O:=.cells (.ls [dh log,v]) ⟨0,59+1,0⟩ true false
theorem Zn{k:V->Prop}(a:k (.bool false)):JK zB .neq 163 (t n) (.const .nilIface) 4 .nilIface .nilIface k:=by
 have e:Yf zB .neq 163 (t n) (.const .nilIface) .nilIface .nilIface=some (.bool false):=de
 exact⟨false,e,λg=>(by cases g),λ_=>a⟩
theorem qv{e:Int}{k:V->Prop}(a:k (.bool true)):JK zB .neq 163 (t n) (.const .nilIface) 4 (Pu e) .nilIface k:=by
 have e:Yf zB .neq 163 (t n) (.const .nilIface) (Pu e) .nilIface=some (.bool true):=de
 exact⟨true,e,λ_=>a,λg=>(by cases g)⟩
structure HD (hb h:H) (c r p0 p9:Nat) (s:Ua) (p:Nat) (log:Int) (v:V) (l:Ub):Prop where
 ex:ExtX (· = r) hb h c
 gr:h.get r=some (Gd s p)
 g0:h.get p0=some (oD 0 .nilslice)
 g9:h.get p9=some (oD log v)
 ow:Ow h v yg l.length (zI l)
 vb:∀b,z6 v=some b->hb.nx<=b/\b≠p0/\b≠p9
 r1:r<hb.nx
 q0:hb.nx<=p0
 l0:p0<h.nx
 q9:hb.nx<=p9
 l9:p9<h.nx
 ne:p0≠p9
theorem HD.bound{hb h:H}{c:Nat}(d:HD hb h c r p0 p9 s p log v l):h.nx<=hb.nx+c:=d.ex.top
theorem _root_.Go.Sim.Ow.blk_lt{te:TI}{xs:Ug}(s:Ow h v te n xs){b:Nat}(hb:z6 v=some b):b<h.nx:=by
 obtain⟨_,⟨rfl,_⟩|⟨a,cs,rfl,h3,_⟩⟩:=s
 .cases hb
 cases hb;exact h3
theorem _root_.Go.Sim.Ow.cells{te:TI}{xs:Ug}(s:Ow h v te n xs):v.cells=[v]/\zU [v]=true:=by
 obtain⟨_,⟨rfl,_⟩|⟨a,cs,rfl,h3,_⟩⟩:=s
 .exact⟨rfl,rfl⟩
 exact⟨rfl,rfl⟩
theorem HD.take{hb h h':H}{c:Nat}{q:Nat}(d:HD hb h c r p0 p9 s p log v l)(x:ExtX (· = r) h h' 1)(g:h'.get r=some (Gd s q)):HD hb h' (c+1) r p0 p9 s q log v l:=by have a:=d.q0;have h2:=d.q9;have h3:=d.r1;exact⟨d.ex.trans x,g,(x.get _ d.l0 dd).trans d.g0,(x.get _ d.l9 dd).trans d.g9,d.ow.keep x.le λb e=>x.get _ (d.ow.blk_lt e) (by have:=(d.vb b e).1;omega),d.vb,d.r1,d.q0,oL d.l0 x.le,d.q9,oL d.l9 x.le,d.ne⟩
theorem HD.grow{hb h h1:H}{c:Nat}{v':V}{m:Ub}(d:HD hb h c r p0 p9 s p log v l)(x:h.nx<T.top)(a:Ow h1 v' yg (l.length+m.length) (zI l++zI m)/\h.nx<=h1.nx/\h1.nx<=h.nx+1/\(∀b,b<h.nx->z6 v≠some b->h1.get b=h.get b)/\z6 v'=some h.nx/\h1.low<=h.low/\(∀m,m<=h.low->(∀b,z6 v=some b->m<=b)->m<=h1.low)):
  ∃h2,jP zB 23 h1 (.ptr p9 (0+1)) v'=some h2/\HD hb h2 (c+1) r p0 p9 s p log v' (l++m):=by
 obtain⟨a1,a2,a3,a4,a5,a6,a7⟩:=a;have j:=ExtX.append a2 a3 a4 a6 a7;have o:=d.q0;have q:=d.q9;have t:=d.r1;have z:=d.ex.le;have A:=d.l0;have B:=d.l9;have k:∀b,b<h.nx->(∀i,z6 v=some i->i≠b)->h1.get b=h.get b:=λb hb u=>a4 b hb λe=>u b e rfl
 have g9:h1.get p9=some (oD log v):=(k p9 d.l9 λb e=>(d.vb b e).2.2).trans d.g9;obtain⟨g,w⟩:=a1.cells;refine⟨_,zY zM g9 (by rw[g];rfl) (by rw[g];rfl) (oM _) (by rw[g];exact w),?_⟩;have f:p9<T.top:=dd
 have y:ExtX (· = r) hb h1 (c+1):=d.ex.andThen j λb hb=>.inr (d.vb b hb).1
 exact⟨y.upd _ f (.inr d.q9),by rw[zL _ f dd,k r dd (λb e=>by have:=(d.vb b e).1;omega)];exact d.gr,
  by rw[zL _ f d.ne,k p0 d.l0 (λb e=>(d.vb b e).2.1)];exact d.g0,
  zF _ f,
  by rw[oW,kg];exact a1.keep (oR _) λb e=>zL _ f (by rw[a5]at e;cases e;omega),
  λb e=>by rw[a5]at e;cases e;omega,d.r1,d.q0,by show p0<h1.nx;omega,d.q9,by show p9<h1.nx;omega,d.ne⟩
theorem HD.put0{hb h:H}{c:Nat}(d:HD hb h c r p0 p9 s p log v l)(o:h.nx<=T.top):
  ∃h2,jP zB 23 h (.ptr p9 (0+1)) v=some h2/\HD hb h2 c r p0 p9 s p log v l:=by
 have g:=d.q0;have i:=d.q9;have j:=d.r1;have k:=d.l9;obtain⟨f,m⟩:=d.ow.cells;refine⟨_,zY zM d.g9 (by rw[f];rfl) (by rw[f];rfl) (oM _) (by rw[f];exact m),?_⟩;have a:p9<T.top:=dd
 exact⟨d.ex.upd _ a (.inr d.q9),by rw[zL _ a dd];exact d.gr,by rw[zL _ a d.ne];exact d.g0,zF _ a,
  d.ow.keep (oR _) λb e=>zL _ a (d.vb b e).2.2,d.vb,d.r1,d.q0,d.l0,d.q9,d.l9,d.ne⟩
theorem Gm(o:Ow h v yg l.length (zI l)):Yg zB 23 h v=some (dh l.length):=o.sl.len zM rfl
theorem Rm{hb h : H}{c c0 r p0 p9 : Nat}{s : Ua}{p : Nat}{log : Int}{v : V}{l0 : Ub}{symbols f : Nat}{left : Int}{tm : Tm}{R : AX -> St -> Prop}(d : HD hb h c r p0 p9 s p log v l0)(hs : Has tm [(18, dh 3), (0, .ptr r 0), (6, .ptr p0 0), (10, .ptr p9 0), (2, dh symbols), (11, dh left)])(hlen : s.length <= 1048576)(hp : p <= 8 * s.length)(hl : l0.length <= symbols)(hsy : symbols <= 256)(hf : symbols + 1 <= f + l0.length)(hc : c + 4 <= 8 * l0.length + c0)(hnx : hb.nx + 8 * symbols + c0 + 10 <= T.top)(hret : yo s symbols f p l0.length = none -> ∀e tm' h', e = 5 \/ e = 23 -> Has tm' [(6, .ptr p0 0), (7, Pu e)] -> ExtX (· = r) hb h' (8 * symbols + c0 + 10) -> h'.get p0 = some (oD 0 .nilslice) -> R .ret ⟨137, tm', [], h'⟩)(hexit : ∀tm' h' c' v' l' p', yo s symbols f p l0.length = some (l'.length, p') -> l' = l0 ++ List.replicate (l'.length - l0.length) 0 -> l0.length <= l'.length -> c' <= 8 * l'.length + c0 -> HD hb h' c' r p0 p9 s p' log v' l' -> p' <= 8 * s.length -> l'.length <= symbols ->
      Has tm' [(0, .ptr r 0), (6, .ptr p0 0), (10, .ptr p9 0), (2, dh symbols), (11, dh left)] -> R (.exit 2) ⟨137, tm', [], h'⟩):
    wpC P zB false (.loop zAj) ⟨137, tm, [], h⟩ R := by
  generalize hR0 : yo s symbols f p l0.length = R0 at hret hexit;refine wpC.round (λk tm h => ∃c p v l, HD hb h c r p0 p9 s p log v l /\ l = l0 ++ List.replicate (l.length - l0.length) 0 /\ l0.length <= l.length /\ l.length <= symbols /\ p <= 8 * s.length /\
      ((∃f, k = f + 1 /\ yo s symbols f p l.length = R0 /\ symbols + 1 <= f + l.length /\ c + 4 <= 8 * l.length + c0 /\ Has tm [(18, dh 3), (0, .ptr r 0), (6, .ptr p0 0), (10, .ptr p9 0), (2, dh symbols), (11, dh left)]) \/
        (∃x : Nat, k = 0 /\ x ≠ 3 /\ R0 = some (l.length, p) /\ c <= 8 * l.length + c0 /\ Has tm [(18, dh x), (0, .ptr r 0), (6, .ptr p0 0), (10, .ptr p9 0), (2, dh symbols), (11, dh left)]))) (f + 1)
    ⟨c, p, v, l0, d, by simp, oR _, hl, hp, .inl ⟨f, rfl, hR0, hf, hc, hs⟩⟩ ?_
  clear d hs hl hf hc hR0 hp;rintro k tm h ⟨c, p, v, l, d, hl1, hl2, hl3, hp, ⟨f, rfl, hR0, hf, hc, hs⟩|⟨x, rfl, hx, hR0, hc, hs⟩⟩
  rotate_left
  · -- no zeros follow
    exact cg ft hs ⟨λc1 => absurd c1 (by omega), λ_ => λtm' hs' => hexit tm' h c v l p hR0 hl1 hl2 hc d hp hl3 (hs'.sub rfl)⟩
  obtain⟨f, rfl⟩ : ∃g, f = g + 1 := ⟨f - 1, by omega⟩;have hb1 := d.bound;have e0 := d.ex.le;have hr1 := d.r1;refine cg ft hs ⟨λ_ => ZE (n := 2) d.gr (by omega) (by omega) hlen hp (by decide) (λc2 h1 x1 g1 => ?_) (λc2 h1 x1 => ?_), λc1 => absurd rfl c1⟩
  rotate_left
  · -- bits are missing
    have hn : R0 = none := by rw[<-hR0];show(if 8 * s.length < p + 2 then none else _) = none;rw[if_pos (by omega)]
    have y : ExtX (· = r) hb h1 (c + 1) := d.ex.trans (ExtX.of x1);have g0 : h1.get p0 = some (oD 0 .nilslice) := (x1.get _ d.l0).trans d.g0;have := x1.top;have := d.l0;have := x1.le;refine⟨0, Pu 5, rfl, qv ⟨_, zY xE g0 rfl, λtm' hs' => hret hn 5 tm' _ (.inl rfl) (hs'.sub rfl) ?_ (zF _ (by omega))⟩⟩;have z := y.upd (some (oD 0 .nilslice)) (b := p0) (by omega) (.inr d.q0);exact⟨z.le, oS z.top (by omega), z.get, z.low, z.lo⟩
  have d1 := d.take x1 g1;have hb2 := d1.bound;have e1 := d1.ex.le;have hd0 := d1.l0;refine⟨_, .nilIface, rfl, Zn ?_⟩;show ∃v8, ye zB 23 h1 (.ptr p9 (0 + 1)) = some v8 /\ _;have hw : zb ((l.length : Int) + (yB s p 2 : Nat)) = ((l.length + yB s p 2 : Nat) : Int) := by have := YI s p 2;rw[zD (by omega) (by omega)];rfl
  have hf4 := YI s p 2;refine⟨v, zJ zM rfl d1.g9 rfl, _, Gm d1.ow, λc3 => ?_, λc3 => ?_⟩
  · -- too many
    rw[hw]at c3;have hn : R0 = none := by rw[<-hR0];show(if 8 * s.length < p + 2 then none else if symbols < l.length + yB s p 2 then none else _) = none;rw[if_neg (by omega), if_pos (by omega)]
    refine⟨_, zY xE d1.g0 rfl, λtm' hs' => hret hn 23 tm' _ (.inr rfl) (hs'.sub rfl) ?_ (zF _ (by omega))⟩;have z := d1.ex.upd (some (oD 0 .nilslice)) (b := p0) (by omega) (.inr d1.q0);exact⟨z.le, oS z.top (by omega), z.get, z.low, z.lo⟩
  rw[hw]at c3;have hfit : l.length + yB s p 2 <= symbols := by omega
  have hun : R0 = (if yB s p 2 = 3 then yo s symbols f (p + 2) (l.length + 3) else some (l.length + yB s p 2, p + 2)) := by rw[<-hR0];show(if 8 * s.length < p + 2 then none else if symbols < l.length + yB s p 2 then none else _) = _;rw[if_neg (by omega), if_neg (by omega)]
  show ∃v14, ye zB 23 h1 (.ptr p9 (0 + 1)) = some v14 /\ _;refine⟨v, zJ zM rfl d1.g9 rfl, trivial, ?_⟩;generalize yB s p 2 = x at *;have fin : ∀c' v' h', HD hb h' c' r p0 p9 s (p + 2) log v' (l ++ List.replicate x 0) -> c' <= c + 2 ->
      (∀tm', Has tm' [(18, dh (x : Nat)), (0, .ptr r 0), (6, .ptr p0 0), (10, .ptr p9 0), (2, dh symbols), (11, dh left)] ->
        ∃j, j < f + 1 + 1 /\ ∃c p v l, HD hb h' c r p0 p9 s p log v l /\ l = l0 ++ List.replicate (l.length - l0.length) 0 /\ l0.length <= l.length /\ l.length <= symbols /\ p <= 8 * s.length /\
      ((∃f, j = f + 1 /\ yo s symbols f p l.length = R0 /\ symbols + 1 <= f + l.length /\ c + 4 <= 8 * l.length + c0 /\ Has tm' [(18, dh 3), (0, .ptr r 0), (6, .ptr p0 0), (10, .ptr p9 0), (2, dh symbols), (11, dh left)]) \/
        (∃x : Nat, j = 0 /\ x ≠ 3 /\ R0 = some (l.length, p) /\ c <= 8 * l.length + c0 /\ Has tm' [(18, dh x), (0, .ptr r 0), (6, .ptr p0 0), (10, .ptr p9 0), (2, dh symbols), (11, dh left)]))) := by
    intro c' v' h' d2 hc' tm' hs';have ll : (l ++ List.replicate x 0 : Ub).length = l.length + x := by rw[oW, List.length_replicate]
    have hl' : (l ++ List.replicate x 0 : Ub) = l0 ++ List.replicate ((l ++ List.replicate x 0 : Ub).length - l0.length) 0 := by
      rw[ll]
      conv => lhs;rw[hl1]
      rw[List.append_assoc, List.replicate_append_replicate];congr 2;omega
    by_cases hx3 : x = 3
    · subst hx3
      rw[if_pos rfl]at hun;exact⟨f + 1, by omega, c', p + 2, v', _, d2, hl', by omega, by omega, c2, .inl ⟨f, rfl, by rw[ll];exact hun.symm, by omega, by omega, hs'⟩⟩
    · rw[if_neg hx3]at hun
      exact⟨0, by omega, c', p + 2, v', _, d2, hl', by omega, by omega, c2, .inr ⟨x, rfl, hx3, by rw[ll];exact hun, by omega, hs'⟩⟩
  rcases Nat.eq_zero_or_pos x with hx0|hx0
  · subst hx0
    obtain⟨h2, e2, d2⟩ := d1.put0 (by omega);refine⟨v, h1, Ow.zeros0 (u := dh 0) d1.ow zM rfl zX rfl rfl rfl rfl, ?_⟩;show ∃h19, jP zB 23 h1 (.ptr p9 (0 + 1)) v = some h19 /\ _;refine⟨h2, e2, λtm' hs' => ⟨rfl, rfl, fin (c + 1) v h2 (by simpa using d2) (by omega) tm' (hs'.sub rfl)⟩⟩
  · obtain⟨v', h2, e2, a⟩ := Ow.zeros (m := x) (u := dh 0) d1.ow hx0 zM rfl zX rfl rfl rfl rfl rfl (by omega) (by show(l.length + x) * 8 <= _;omega) (by omega)
    obtain⟨h3, e3, d3⟩ := d1.grow (m := List.replicate x 0) (by omega) (by rw[List.length_replicate, Hu];exact a);refine⟨v', h2, e2, ?_⟩;show ∃h19, jP zB 23 h2 (.ptr p9 (0 + 1)) v' = some h19 /\ _;exact⟨h3, e3, λtm' hs' => ⟨rfl, rfl, fin (c + 1 + 1) v' h3 d3 (by omega) tm' (hs'.sub rfl)⟩⟩
theorem _root_.Go.Sim.ExtX.more{S:Nat->Prop}{h h':H}{m:Nat}(a:ExtX S h h' m)(hm:m<=n):ExtX S h h' n:=⟨a.le,oS a.top (Nat.add_le_add_left hm _),a.get,a.low,a.lo⟩
theorem zAG{n:Int}(a:h.nx<T.top):∃v h',zO zB 23 1 [(0,dh n)] h=some (v,h')/\Sl h' v 1 1 [dh n]/\Ext h h' 1:=by obtain⟨v,h',e,s,x,_⟩:=xG (c:=zB) (h:=h) (u:=dh n) (ys:=[dh n]) (te:=yg) zM rfl zX rfl rfl rfl rfl dg rfl a;exact⟨v,h',e,s,x⟩
theorem R5{hb h:H}{c c0:Nat}{q:Nat}{symbols x left:Nat}{R:Ud}(d:HD hb h c r p0 p9 s q log v l)(hs:Has tm [(0,.ptr r 0),(6,.ptr p0 0),(10,.ptr p9 0),(2,dh symbols),(14,dh x),(11,dh left)])(u:s.length<=1048576)(U:q<=8*s.length)(hl:l.length<=symbols)(A:symbols<=256)(hx:x<=left+1)(V:left<=1048576)(B:0<left)(hc:c<=8*l.length+c0+2)(W:hb.nx+8*symbols+c0+20<=T.top)(o:(l.length=symbols\/x=1/\yo s symbols (symbols+1) q (l.length+1)=none)->∀e i h',e=5\/e=23->Has i [(6,.ptr p0 0),(7,Pu e)]->ExtX (· = r) hb h' (8*symbols+c0+20)->h'.get p0=some (oD 0 .nilslice)->R .ret ⟨137,i,[],h'⟩)(C:x≠1->l.length≠symbols->∀i h' c' v',c'<=8*(l.length+1)+c0->HD hb h' c' r p0 p9 s q log v' (l++[(x:Int)-1])->Has i [(0,.ptr r 0),(6,.ptr p0 0),(10,.ptr p9 0),(2,dh symbols),(11,dh (left-max (x-1) 1:Nat))]->R (.exit 1) ⟨137,i,[],h'⟩)(X:x=1->l.length≠symbols->∀i h' c' v' l' D,yo s symbols (symbols+1) q (l.length+1)=some (l'.length,D)->l'=l++List.replicate (l'.length-l.length) 0->l.length<l'.length->c'<=8*l'.length+c0->HD hb h' c' r p0 p9 s D log v' l'->D<=8*s.length->l'.length<=symbols ->
   Has i [(0,.ptr r 0),(6,.ptr p0 0),(10,.ptr p9 0),(2,dh symbols),(11,dh left)]->R .normal ⟨137,i,[],h'⟩):
  Wf ft FJ ⟨137,tm,[],h⟩ R:=by
 have Y:=d.bound;have e0:=d.ex.le;have Z:=d.l0;refine sg hs ⟨v,zJ zM rfl d.g9 rfl,_,Gm d.ow,λc1=>?_,λc1=>?_⟩
 .refine⟨_,zY xE d.g0 rfl,λi j=>o (.inl dd) 23 i _ (.inr rfl) (j.sub rfl) ?_ (zF _ dd)⟩;exact(d.ex.upd (some (oD 0 .nilslice)) (b:=p0) dd (.inr d.q0)).more dd
 have hll:l.length<symbols:=dd
 have ex:zb ((x:Int)-1)=(x:Int)-1:=zD dd dd;obtain⟨v9,M,e1,s1,k⟩:=zAG (n:=(x:Int)-1) (h:=h) dd;have t1:=k.top;have t1':=k.le;have N:=d.ow.ext k;obtain⟨v',h2,e2,a⟩:=Ow.append (c:=zB) (te:=yg) (m:=1) N s1 dg zM rfl zX rfl rfl (by show(l.length+1)*1<=_;omega) (by show(l.length+1)*8<=_;omega) dd;have d1:HD hb M (c+1) r p0 p9 s q log v l:=⟨d.ex.andThen (ExtX.of (S:=λ_=>False) k) (λ_ g=>g.elim),(k.get _ (by have:=d.r1;omega)).trans d.gr,(k.get _ d.l0).trans d.g0,(k.get _ d.l9).trans d.g9,N,d.vb,d.r1,d.q0,oL d.l0 k.le,d.q9,oL d.l9 k.le,d.ne⟩;obtain⟨h3,e3,d3⟩:=d1.grow (m:=[(x:Int)-1]) dd a;refine⟨v,zJ zM rfl d.g9 rfl,v9,M,ex.symm ▸ e1,trivial,v',h2,e2,?_⟩;have O:(l++[(x:Int)-1]).length=l.length+1:=by simp
 refine⟨h3,e3,λc2=>λi j=>C dd dd i h3 _ v' dd d3 ?_,λc2=>λi j=>?_⟩
 .have:zb ((left:Int)-max (zb ((x:Int)-1)) 1)=((left-max (x-1) 1:Nat):Int):=by
   have w:x≠1:=dd
   rw[ex,zD dd dd];omega
  rw[<-this];exact j.sub de
 have w:x=1:=dd
 subst w;refine Rm (c0:=c0) (f:=symbols+1) (left:=left) d3 (j.sub rfl) u U dd A dd dd dd (λP e E h4 he F g2 g3=>?_) (λE h4 c4 v4 l4 q4 y z G I d4 J K F=>?_)
 .refine F.slt λt L=>?_
  exact o (.inr ⟨rfl,by rw[O]at P;exact P⟩) e t h4 he (L.sub rfl) (g2.more dd) g3
 show yL ft R (exitB 2 (.exit 2)) _;rw[xM];refine F.slt λt L=>?_
 rw[O]at y z G;exact X rfl dd t h4 c4 v4 l4 q4 y (by
  conv=>lhs;rw[z]
  rw[List.append_assoc];congr 1;show[((1:Nat):Int)-1]++_=_;rw[show[((1:Nat):Int)-1]=List.replicate 1 (0:Int)from rfl,List.replicate_append_replicate];congr 1;omega) dd I d4 J K (L.sub rfl)
theorem L3{hb h:H}{c c0 r p0 p9:Nat}{s:Ua}{p:Nat}{log:Int}{v:V}{l0:Ub}{symbols f left:Nat}{tm:Tm}{R:Ud}(d:HD hb h c r p0 p9 s p log v l0)(hs:Has tm [(11,dh left),(0,.ptr r 0),(6,.ptr p0 0),(10,.ptr p9 0),(2,dh symbols),(7,.nilIface)])(A:s.length<=1048576)(hp:p<=8*s.length)(hl:l0.length<=symbols)(Y:symbols<=256)(w:left<=1048576)(Z:symbols+2<=f+l0.length)(hc:c<=8*l0.length+c0)(hnx:hb.nx+8*symbols+c0+20<=T.top)(J:hb.low<=T.top)(u:yn s symbols f left p l0=none->∀e b h',e=5\/e=23->Has b [(6,.ptr p0 0),(7,Pu e)]->ExtX (· = r) hb h' (8*symbols+c0+20)->h'.get p0=some (oD 0 .nilslice)->R .ret ⟨137,b,[],h'⟩)(B:∀b h' c' v' l' p',yn s symbols f left p l0=some (l',p')->c'<=8*symbols+c0->HD hb h' c' r p0 p9 s p' log v' l'->p'<=8*s.length->l'.length<=symbols->Has b [(6,.ptr p0 0),(10,.ptr p9 0)]->R (.exit 0) ⟨137,b,[],h'⟩):
  wpC P zB false (.loop zAk) ⟨137,tm,[],h⟩ R:=by
 generalize C:yn s symbols f left p l0=R0 at u B;refine wpC.round (λk tm h=>∃c p v l left,HD hb h c r p0 p9 s p log v l/\yn s symbols k left p l=R0/\symbols+2<=k+l.length/\l.length<=symbols/\p<=8*s.length/\left<=1048576/\c<=8*l.length+c0 /\
  Has tm [(11,dh (left:Nat)),(0,.ptr r 0),(6,.ptr p0 0),(10,.ptr p9 0),(2,dh symbols)]) f
  ⟨c,p,v,l0,left,d,C,Z,hl,hp,w,hc,hs.sub rfl⟩ ?_
 clear d hs hl Z hc C hp w;rintro k tm h ⟨c,p,v,l,left,d,C,Z,hl,hp,w,hc,hs⟩;obtain⟨k,rfl⟩:∃g,k=g+1:=⟨k-1,dd⟩;have hb1:=d.bound;have e0:=d.ex.le;have hr1:=d.r1;have hl0':=d.l0;have F:h.low<=T.top:=oS d.ex.low J;refine cg ft hs ⟨λc1=>?_,λc1 b i=>?_⟩
 rotate_left
 .have:left=0:=dd
  subst this;have E:R0=some (l,p):=by rw[<-C];rfl
  exact B b h c v l p E dd d hp hl (i.sub rfl)
 have t:0<left:=dd
 have m:R0=match qw s left p with
  | none=>none
  | some (v,q) =>
   if l.length=symbols then none
   else if v=1 then
    match yo s symbols (symbols+1) q (l.length+1)with
    | none=>none
    | some (n,r)=>yn s symbols k left r (l++List.replicate (n-l.length) 0)
   else yn s symbols k (left-max (v-1) 1) q (l++[(v:Int)-1]):=by
  rw[<-C];show(if left=0 then some (l,p) else _)=_;rw[if_neg dd];try rfl
 have next:∀x q,qw s left p=some (x,q)->∀h' c' b,HD hb h' c' r p0 p9 s q log v l->c'<=c+2->Has b [(0,.ptr r 0),(6,.ptr p0 0),(10,.ptr p9 0),(2,dh symbols),(14,dh (x:Nat)),(11,dh (left:Nat))] ->
   Wf ft FJ ⟨137,b,[],h'⟩ (λe s1=>(yL ft (thenC (λs1=>s1.n=137/\s1.dfr=[]/\∃j,j<k+1/\∃c p v l left,HD hb s1.heap c r p0 p9 s p log v l/\yn s symbols j left p l=R0/\symbols+2<=j+l.length/\l.length<=symbols/\p<=8*s.length/\left<=1048576/\c<=8*l.length+c0 /\
    Has s1.tm [(11,dh (left:Nat)),(0,.ptr r 0),(6,.ptr p0 0),(10,.ptr p9 0),(2,dh symbols)]) R)) (exitB 1 e) s1):=by
  intro x q hx h' c' b d' hc' i;obtain⟨D,hq⟩:=vo hx t;rw[hx]at m;simp only at m;refine R5 (c0:=c0) d' i A hq hl Y D w t dd dd (λE e K h2 he G g2 g3=>?_) (λD z K h2 L v2 M d2 G=>?_) (λD z K h2 L v2 l2 q2 hz hl2 hlt M d2 hq2 N G=>?_)
  .refine G.slt λI O=>?_
   refine u ?_ e I h2 he (O.sub rfl) g2 g3;rw[m];rcases E with E|⟨E,hn2⟩
   .rw[if_pos E]
   by_cases z:l.length=symbols
   .rw[if_pos z]
   rw[if_neg z,if_pos E,hn2]
  .rw[if_neg z,if_neg D]at m;show yL ft _ (exitB 1 (.exit 1)) _;rw[xM];refine G.slt λI O=>?_
   exact⟨rfl,rfl,k,dd,L,q,v2,_,_,d2,m.symm,by simp;omega,by simp;omega,hq,dd,by simp;omega,O.sub rfl⟩
  rw[if_neg z,if_pos D,hz]at m;simp only at m;refine G.slt λI O=>?_
  exact⟨rfl,rfl,k,dd,L,q2,v2,l2,left,d2,by rw[m];congr 1,dd,N,hq2,w,M,O.sub rfl⟩
 have hsb:=Zs left;have hB:xZ left<=21:=zo;have hB0:=bJ left;have hT:=F7 t;have eb:zb ((xZ left:Nat)-1:Int)=((xZ left-1:Nat):Int):=by rw[zD dd dd];omega
 have fl:=YI s p (xZ left-1);have pw:2^(xZ left-1)<=2^20:=Nat.pow_le_pow_right dg dd;have S:qw s left p=none->R0=none:=λE=>by rw[m,E]
 refine Wo w dd F ⟨(xZ left:Nat),(pn left:Nat),rfl,?_⟩;show RF P zB _ [_,dh (zb _)] _ _;rw[eb];refine ZE (n:=xZ left-1) d.gr dd dd A hp dd (λL X U G=>?_) (λL X U=>?_)
 rotate_left
 .have y:ExtX (· = r) hb X (c+1):=d.ex.trans (ExtX.of U);have g0:X.get p0=some (oD 0 .nilslice):=(U.get _ d.l0).trans d.g0;have:=U.le;refine⟨0,Pu 5,rfl,qv ⟨_,zY xE g0 rfl,λb i=>u (S ?_) 5 b _ (.inl rfl) (i.sub rfl) ((y.upd _ dd (.inr d.q0)).more dd) (zF _ dd)⟩⟩;unfold qw;rw[if_pos dd]
 have d1:=d.take U G;have hb2:=d1.bound;have e1:=d1.ex.le;have hl1':=d1.l0;refine⟨_,.nilIface,rfl,Zn ⟨λc3=>?_,λc3=>λb i=>?_⟩⟩
 rotate_left
 ·
  refine next (yB s p (xZ left-1)) (p+(xZ left-1)) ?_ X (c+1) b d1 dd (i.sub rfl);unfold qw;rw[if_neg dd,if_pos dd]
 refine ZE (n:=1) d1.gr dd dd A dd dg (λc4 h2 W g2=>?_) (λc4 h2 W=>?_)
 rotate_left
 .have y:ExtX (· = r) hb h2 (c+1+1):=d1.ex.trans (ExtX.of W);have g0:h2.get p0=some (oD 0 .nilslice):=(W.get _ d1.l0).trans d1.g0;have:=W.le;refine⟨0,Pu 5,rfl,qv ⟨_,zY xE g0 rfl,λb i=>u (S ?_) 5 b _ (.inl rfl) (i.sub rfl) ((y.upd _ dd (.inr d.q0)).more dd) (zF _ dd)⟩⟩;unfold qw;rw[if_neg dd,if_neg dd,if_pos dd]
 have d2:=d1.take W g2;have ep:p+(xZ left-1)+1=p+xZ left:=dd
 rw[ep]at d2;have hsl:=NX s p hB0;have N:=Kf s (p+(xZ left-1));have f1:yB s (p+(xZ left-1)) 1=wk s (p+(xZ left-1)):=by simp[yB]
 have mm:wk s (p+(xZ left-1))*2^(xZ left-1)<=1*2^(xZ left-1):=Nat.mul_le_mul_right _ dd;have o:qw s left p=some (if 2^(xZ left-1)<=yB s p (xZ left) then yB s p (xZ left)-pn left else yB s p (xZ left),p+xZ left):=by unfold qw;rw[if_neg dd,if_neg dd,if_neg dd]
 have ev:zb (((yB s p (xZ left-1):Nat):Int)+((wk s (p+(xZ left-1))*2^(xZ left-1):Nat):Int))=((yB s p (xZ left):Nat):Int):=by rw[zD dd dd,hsl];rfl
 rw[f1];refine⟨_,.nilIface,rfl,Zn ⟨((wk s (p+(xZ left-1))*2^(xZ left-1):Nat):Int),(by rw[eb];exact zr (n:=xZ left-1) dd dd),((1*2^(xZ left-1):Nat):Int),(by rw[eb];exact zr (a:=1) (n:=xZ left-1) dd dd),λc5=>λb i=>?_,λc5=>λb i=>?_⟩⟩
 .rw[ev]at c5;have c6:2^(xZ left-1)<=yB s p (xZ left):=dd
  rw[if_pos c6]at o;have fu:=YI s p (xZ left);have e2:zb (zb (((yB s p (xZ left-1):Nat):Int)+((wk s (p+(xZ left-1))*2^(xZ left-1):Nat):Int))-(pn left:Nat))=((yB s p (xZ left)-pn left:Nat):Int):=by
   have:pn left<=yB s p (xZ left):=by unfold pn at *;omega
   try dsimp only
   rw[ev,zD dd dd];omega
  refine next _ _ o h2 (c+1+1) b d2 dd ?_;rw[<-e2];exact i.sub rfl
 rw[ev]at c5;have c6:¬2^(xZ left-1)<=yB s p (xZ left):=dd
 rw[if_neg c6]at o;refine next _ _ o h2 (c+1+1) b d2 dd ?_;rw[<-ev];exact i.sub rfl
def JB(s:Ua)(most:Nat):Prop:=4<=8*s.length/\most<yB s 0 4+5
instance(s:Ua)(most:Nat):Decidable (JB s most):=inferInstanceAs (Decidable (_/\_))
def xy(s:Ua)(most symbols:Nat):Option (Nat×List Int×Nat) :=
 if 8*s.length<4 then none
 else if most<yB s 0 4+5 then none
 else (yn s symbols (symbols+2) (2^(yB s 0 4+5)) 4 []).map λx=>(yB s 0 4+5,x.1,x.2)
theorem Cj{most symbols:Nat}(X:h.get r=some (Gd s 0))(hr:r<h.nx)(m:s.length<=1048576)(E:symbols<=256)(Y:h.nx+8*symbols+30<=T.top)(w:h.low<=T.top)(_:most<=15)(j:xy s most symbols=none->∀e h',(e=31↔JB s most)->e=5\/e=23\/e=31->ExtX (· = r) h h' (8*symbols+30)->Q (.tuple [.agg [dh 0,.nilslice],Pu e]) h')(q:∀log l p v h',xy s most symbols=some (log,l,p)->ExtX (· = r) h h' (8*symbols+30)->h'.get r=some (Gd s p)->Ow h' v yg l.length (zI l)->(∀b,z6 v=some b->h.nx<=b)->p<=8*s.length->l.length<=symbols->Q (.tuple [.agg [dh (log:Nat),v],.nilIface]) h'):
  RF P zB 137 [.ptr r 0,dh most,dh symbols] h Q:=by
 refine zh ft zD5 ⟨dd,?_⟩;rintro p0 Z rfl e1;obtain⟨n1,F,N⟩:=zm e1;have G:Z.get r=some (Gd s 0):=(F.get _ hr).trans X;refine ZE (n:=4) G dd dd m dd dg (λO h3 o g3=>?_) (λO h3 o=>?_)
 rotate_left
 ·
  have g0:h3.get h.nx=some (oD 0 .nilslice):=(o.get _ dd).trans N;have:=o.le;have y:ExtX (· = r) h h3 (1+1):=(ExtX.of F).trans (ExtX.of o);have z:xy s most symbols=none:=by unfold xy;rw[if_pos dd]
  refine⟨0,Pu 5,rfl,qv ⟨_,zY xE g0 rfl,endL.ok (leaveL.cell (zT xE rfl (zF _ dd) rfl) rfl) ?_⟩⟩;refine j z 5 _ ⟨λg=>absurd g dg,λg=>absurd g.1 dd⟩ (.inl rfl) ((y.upd _ dd (.inr (oR _))).more dd)
 have t3:=o.top;have t3':=o.le;refine⟨_,.nilIface,rfl,Zn ⟨dd,?_⟩⟩;rintro p8 R rfl e9;obtain⟨n9,S,g9⟩:=zm e9;have f4:=YI s 0 4;have el:zb (((yB s 0 4:Nat):Int)+5)=((yB s 0 4+5:Nat):Int):=by rw[zD dd dd];rfl
 rw[el];obtain⟨i,H,t,A,I,n10⟩:∃i,jP zB 59 R (.ptr h3.nx 0) (.agg [dh ((yB s 0 4+5:Nat):Int),.nilslice])=some i/\i.get h3.nx=some (oD ((yB s 0 4+5:Nat):Int) .nilslice)/\(∀b,b<h3.nx->i.get b=h3.get b)/\Ext h3 i 1/\i.nx=R.nx :=
  ⟨_,zY xE g9 rfl,zF _ dd,λb hb=>by rw[zL _ dd dd,S.get _ hb],S.upd _ dd (oR _),rfl⟩
 have y:ExtX (· = r) h i (1+1+1):=((ExtX.of F).trans o).trans (ExtX.of I);have g0:i.get h.nx=some (oD 0 .nilslice):=(A _ dd).trans ((o.get _ dd dd).trans N);refine⟨i,H,_,zJ zX rfl t rfl,λc=>?_,λc=>⟨_,zJ zX rfl t rfl,((1*2^(yB s 0 4+5):Nat):Int),zr (a:=1) dd ?_,λtm hs=>?_⟩⟩
 ·
  have z:xy s most symbols=none:=by unfold xy;rw[if_neg dd,if_pos dd]
  refine⟨_,zY xE g0 rfl,endL.ok (leaveL.cell (zT xE rfl (zF _ dd) rfl) rfl) ?_⟩;refine j z 31 _ ⟨λ_=>⟨dd,dd⟩,λ_=>rfl⟩ (.inr (.inr rfl)) ((y.upd _ dd (.inr (oR _))).more dd)
 .have:2^(yB s 0 4+5)<=2^20:=Nat.pow_le_pow_right dg dd;omega
 have pw:2^(yB s 0 4+5)<=2^20:=Nat.pow_le_pow_right dg dd;have B:xy s most symbols=(yn s symbols (symbols+2) (2^(yB s 0 4+5)) 4 []).map λx=>(yB s 0 4+5,x.1,x.2):=by unfold xy;rw[if_neg dd,if_neg dd]
 have d:HD h i 3 r h.nx h3.nx s 4 ((yB s 0 4+5:Nat):Int) .nilslice [] :=
  ⟨y,(A _ dd).trans g3,g0,t,Ow.nil _ _,λb e=>(by cases e),hr,oR _,dd,dd,dd,dd⟩
 have C:=hs.sub (l':=[(11,dh ((1*2^(yB s 0 4+5):Nat):Int)),(0,.ptr r 0),(6,.ptr h.nx 0),(10,.ptr h3.nx 0),(2,dh symbols),(7,.nilIface)]) rfl;rw[Nat.one_mul]at C;refine L3 (c0:=3) (f:=symbols+2) d C m dd (by simp) E dd (by simp) (by simp) dd w (λz e J h2 he k U g2=>?_) (λJ h2 O V l2 p2 hz hc2 d2 K L k=>?_)
 .have y2':=U.le;refine endW.ok (leave.cell (k.get rfl) (zT xE rfl g2 rfl) (leave.tmp (k.get rfl) rfl)) ?_;refine j (by rw[B,z];rfl) e h2 ⟨λg=>dd,λg=>absurd g.2 dd⟩ dd (U.more dd)
 have b2:=d2.bound;have l0:=d2.l0;have W:=d2.ex.le;refine thenC.out ?_;refine sg k ⟨_,_,zT xE rfl d2.g9 rfl,_,zY xE d2.g0 (by rfl) (by rfl) (oM _) ?_,λtm3 D=>?_⟩
 .show zU [dh ((yB s 0 4+5:Nat):Int),V]=true;exact yP.2 λu M=>by
   rcases oq.1 M with rfl|M
   .rfl
   exact yP.1 d2.ow.cells.2 u M
 refine endW.ok (leave.cell (D.get rfl) (zT xE rfl (zF _ dd) rfl) (leave.tmp (D.get rfl) rfl)) ?_;refine q _ l2 p2 V _ (by rw[B,hz];rfl) ((d2.ex.upd _ dd (.inr d2.q0)).more dd) ?_ ?_ (λb e=>(d2.vb b e).1) K L
 .rw[zL _ dd dd];exact d2.gr
 exact d2.ow.keep (oR _) λb e=>zL _ dd (by have:=(d2.vb b e).2.1;omega)
section
open Go.RowKit Go.Extern.Stop Go.Stop Go.Extern
section
theorem KS(w:World):(callFunc 394 #[.agg #[.pointer (some ⟨1,24,none⟩)]]).run Tryz.prog w = .ok (.value (.bool true)) w:=de
theorem gT(v:Value)(w:World):(callFunc 210 #[.iface 24 v]).run Tryz.prog w = .ok (.value (.iface 322 (.agg #[.pointer (some ⟨1,24,none⟩)]))) w:=de
theorem qp(v:Value)(w:World):(Go.method 545 322 v "Comparable").run Tryz.prog w = .ok (394,v) w:=de
theorem Bx(v:Value)(a:TypeId)(w:World):(Instr.typeAssert (.iface 24 v) a 324 true).run Tryz.prog w = .ok (.tuple #[.nilIface,.bool false]) w:=run_typeAssert_lacksB Tryz.underlying324 de de v a w
theorem gv(v:Value)(a:TypeId)(w:World):(Instr.typeAssert (.iface 24 v) a 327 true).run Tryz.prog w = .ok (.tuple #[.nilIface,.bool false]) w:=run_typeAssert_lacksB Tryz.underlying327 de de v a w
theorem vM(v:Value)(a:TypeId)(w:World):(Instr.typeAssert (.iface 24 v) a 329 true).run Tryz.prog w = .ok (.tuple #[.nilIface,.bool false]) w:=run_typeAssert_lacksB Tryz.underlying329 de de v a w
theorem By(v:Value)(a:TypeId)(w:World):(Instr.typeAssert (.iface 269 v) a 324 true).run Tryz.prog w = .ok (.tuple #[.nilIface,.bool false]) w:=run_typeAssert_lacksB Tryz.underlying324 de de v a w
theorem sX(v:Value)(a:TypeId)(w:World):(Instr.typeAssert (.iface 269 v) a 327 true).run Tryz.prog w = .ok (.tuple #[.iface 269 v,.bool true]) w:=run_typeAssert_hasB Tryz.underlying327 de v a w
theorem KZ(v:Value)(w:World):(Go.method 545 269 v "Unwrap").run Tryz.prog w = .ok (390,v) w:=de
theorem eqE(e:Int)(w:World):(binOp .eql 163 (.iface 24 (.int .i64 e)) (.iface 24 (.int .i64 31))).run Tryz.prog w = .ok (.bool (decide (e=31))) w:=de
theorem Hw(w:World):
  Calls Tryz.prog 138 #[.iface 269 (.agg #[.iface 24 (.int .i64 31)]),.iface 24 (.int .i64 31)] w λx w'=>x = .returned (.bool true)/\w'=w.alloc (.cells #[.iface 24 (.int .i64 31)] 269):=by
 have b:=gT;have c:=KS;have d:=qp;have e:=Bx;have f:=gv;have g:=vM;have i:=By;have j:=sX;have k:=KZ;have a:=run_eql_iface_types (P:=Tryz.prog) 269 24 (.agg #[.iface 24 (.int .i64 31)]) (.int .i64 31) Tryz.underlying163 dg;have heq:∀w,(binOp .eql 163 (.iface 24 (.int .i64 31)) (.iface 24 (.int .i64 31))).run Tryz.prog w = .ok (.bool true) w:=λw=>eqE 31 w
 go_enter Tryz.func138,Tryz.ntmps138
 go_wp2
 refine wp_loop_rounds 2 ?_;try dsimp only
 rw[rounds_succ]
 go_wp2
 simp only[Array.getD,List.size_toArray,oc,List.length_nil,Nat.reduceAdd,Nat.reduceLT,dite_true,Array.getInternal];rw[rounds_succ]
 go_wp2
 go_ret
 simp_all
theorem Hx(e:Int)(b:e≠31)(w:World):
  Calls Tryz.prog 138 #[.iface 269 (.agg #[.iface 24 (.int .i64 e)]),.iface 24 (.int .i64 31)] w λx w'=>x = .returned (.bool false)/\w'=w.alloc (.cells #[.iface 24 (.int .i64 e)] 269):=by
 have c:=gT;have d:=KS;have f:=qp;have g:=Bx;have i:=gv;have j:=vM;have k:=By;have m:=sX;have o:=KZ;have a:=run_eql_iface_types (P:=Tryz.prog) 269 24 (.agg #[.iface 24 (.int .i64 e)]) (.int .i64 31) Tryz.underlying163 dg;have heq:∀w,(binOp .eql 163 (.iface 24 (.int .i64 e)) (.iface 24 (.int .i64 31))).run Tryz.prog w = .ok (.bool false) w:=λw=>by grind[eqE]
 go_enter Tryz.func138,Tryz.ntmps138
 go_wp2
 refine wp_loop_rounds 2 ?_;try dsimp only
 rw[rounds_succ]
 go_wp2
 simp only[Array.getD,List.size_toArray,oc,List.length_nil,Nat.reduceAdd,Nat.reduceLT,dite_true,Array.getInternal];rw[rounds_succ]
 go_wp2
 go_ret
 simp_all
theorem zAe(w:World):
  Calls Tryz.prog 138 #[.nilIface,.iface 24 (.int .i64 31)] w λx w'=>x = .returned (.bool false)/\w'=w:=by
 have a:=run_eql_iface_nil_left (P:=Tryz.prog) w 24 (.int .i64 31) Tryz.underlying163
 go_enter Tryz.func138,Tryz.ntmps138
 go_wp2
 go_ret
 simp_all
end
end
theorem _root_.Go.Sim.HR.alloc{ρ:Env}{D:Nat->Prop}{w:World}(r:HR ρ D h w)(x:Obj):HR ρ D h (w.alloc x) where
 cap:=r.cap
 lt:=r.lt
 rel:=λid o d g=>by rw[Go.RowKit.Below.heap_alloc w x _ (r.lt_size d g)];exact r.rel id o d g
 inj:=r.inj
theorem _root_.Go.Sim.Mv.alloc(ρ:Env)(D:Nat->Prop)(h:H)(w:World)(x:Obj):Mv ρ D h w ρ h (w.alloc x) where
 nx:=oR _
 size:=by simp_all
 os:=rfl
 tape:=⟨rfl,oR _⟩
 output:=rfl
 agree:=Agree.refl _ _
 old:=λid o _ g=>⟨o,g,rfl⟩
 img:=λid o h1 h2 _=>absurd h2 dd
 frame:=λr hr _=>Go.RowKit.Below.heap_alloc w x r hr
 low:=oR _
 kept:=λ_ _ _=>rfl
theorem _root_.Go.Sim.SimF.of_calls{P:Program}{f:Nat}{args:Ug}{b:Bool}(a:∀ρ w,Calls P f (args.map (V.conc ρ)).toArray w λx w'=>x = .returned (.bool b)/\(w'=w\/∃o,w'=w.alloc o)):SimF P f args h (.ret (.bool b) h):=by
 intro ρ D w r _;refine callsIn_wide.2 ((a ρ w).mono ?_);rintro x w' ⟨rfl,rfl|⟨o,rfl⟩⟩
 .exact⟨ρ,rfl,Mv.refl _ _ _ _,by grind[zd],trivial⟩
 exact⟨ρ,rfl,Mv.alloc _ _ _ _ _,by rw[zd];exact r.alloc o,trivial⟩
theorem zFp:∃fi,zB.fn.get 138=some fi:=Option.isSome_iff_exists.1 de
theorem Ha{e:Int}(b:Q (.bool (decide (e=31))) h):RF P zB 138 [Pu e,.iface 24 (dh 31)] h Q:=by
 refine⟨_,h,⟨zFp,SimF.of_calls λρ w=>?_⟩,b⟩;by_cases a:e=31
 .subst a;exact(Hw w).mono λx w' g=>⟨g.1,.inr ⟨_,g.2⟩⟩
 rw[decide_eq_false a];exact(Hx e a w).mono λx w' g=>⟨g.1,.inr ⟨_,g.2⟩⟩
theorem V1(a:Q (.bool false) h):RF P zB 138 [.nilIface,.iface 24 (dh 31)] h Q :=
 ⟨_,h,⟨zFp,SimF.of_calls λ_ w=>(zAe w).mono λ_ _ g=>⟨g.1,.inl g.2⟩⟩,a⟩
theorem _root_.Go.Sim.thenC.nx{K:St->Prop}{R:Ud}{s:St}(h:K s):thenC K R .normal s:=h
theorem RN(s:Ua):zS s 0 s.length=s:=by simp[zS]
abbrev NU(e at':Int):V:=.agg [dh e,dh at']
theorem VN(X:s.length<=2000)(hnx:h.nx+200<=T.top)(D:h.low<=T.top)(y:xy s 6 12=none->∀h',Ext h h' 150->Q (.tuple [.agg [dh 0,.nilslice],dh 0,NU (if JB s 6 then 31 else 23) 0]) h')(z:∀log l p v h',xy s 6 12=some (log,l,p)->Ext h h' 150->Ow h' v yg l.length (zI l)->(∀b,z6 v=some b->h.nx<=b)->p<=8*s.length->l.length<=12->Q (.tuple [.agg [dh (log:Nat),v],dh ((p+7)/8:Nat),NU 0 0]) h'):
  RF P zB 80 [.str s,dh 0,dh 6,dh 12] h Q:=by
 refine zh L80 zJM ⟨dd,?_⟩;rintro p0 m rfl e1;obtain⟨n1,x1,g1⟩:=zm e1;refine⟨dd,?_⟩;rintro p2 h3 rfl e3;obtain⟨n3,Y,g3⟩:=zm e3;refine⟨λc=>absurd c dg,λ_=>⟨λc=>absurd c (by show ¬((s.length:Int)<0);omega),λ_=>⟨λc=>absurd c dg,λ_=>⟨λc=>absurd c dg,λ_=>⟨λc=>absurd c dg,λ_=>⟨λc=>absurd c dg,λ_=>λtm hs=>?_⟩⟩⟩⟩⟩⟩;refine sg hs (λtm1 L=>?_);refine thenC.nx (L.sealK λtm2 M=>?_);have em:min (Int.ofNat s.length) (zb (0+2000))=(s.length:Int):=by show min (s.length:Int) (zb 2000)=_;rw[zD dd dd];omega
 refine sg M ⟨s,by rw[em];have:=kV (s:=s) (h:=h3) (oM s.length) (oR _);rwa [RN]at this,dd,?_⟩;rintro p1 h4 rfl e4;obtain⟨n4,x4,g4⟩:=zm e4;obtain⟨k,e5,g5,N,n5⟩:∃k,jP zB 112 h4 (.ptr h3.nx 0) (.agg [.str s,dh 0])=some k/\k.get h3.nx=some (Gd s 0)/\Ext h3 k 1/\k.nx=h4.nx :=
  ⟨_,zY qH g4 rfl,zF _ dd,x4.upd _ dd (oR _),rfl⟩
 have o:Ext h k (1+1+1):=(x1.trans Y).trans N;have E:k.get h.nx=some (oD 0 .nilslice):=by rw[N.get _ dd,Y.get _ dd];exact g1
 have F:k.get m.nx=some (.cells (.ls [dh 0,dh 0]) ⟨0,26+1,0⟩ true false):=by rw[N.get _ dd];exact g3
 have O:k.low<=T.top:=oS o.low D;refine⟨k,e5,Cj (most:=6) (symbols:=12) g5 dd dd dg dd O dg (λZ e i G he2 q=>?_) (λlog l p v i hz q gr ow hv hp hl=>?_)⟩
 ·
  have H:=ExtX.ext o q (λb hb=>dd);have l6:=q.le;have A:i.get h.nx=some (oD 0 .nilslice):=(q.get _ dd dd).trans E;have B:i.get m.nx=some (.cells (.ls [dh 0,dh 0]) ⟨0,26+1,0⟩ true false):=(q.get _ dd dd).trans F;have t6:=H.top;refine⟨0,.nilslice,Pu e,rfl,?_⟩;obtain⟨d,R,t,C,S,n7⟩:∃d,jP zB 59 i (.ptr h.nx 0) (.agg [dh 0,.nilslice])=some d/\d.get h.nx=some (oD 0 .nilslice)/\d.get m.nx=some (.cells (.ls [dh 0,dh 0]) ⟨0,26+1,0⟩ true false)/\Ext h d (1+1+1+(8*12+30))/\d.nx=i.nx :=
   ⟨_,zY xE A rfl,zF _ dd,by rw[zL _ dd dd];exact B,H.upd _ dd (oR _),rfl⟩
  obtain⟨f,J,w,x,K,n8⟩:∃f,jP zB 59 d (.ptr h.nx 0) (.agg [dh 0,.nilslice])=some f/\f.get h.nx=some (oD 0 .nilslice)/\f.get m.nx=some (.cells (.ls [dh 0,dh 0]) ⟨0,26+1,0⟩ true false)/\Ext h f (1+1+1+(8*12+30))/\f.nx=d.nx :=
   ⟨_,zY xE t rfl,zF _ dd,by rw[zL _ dd dd];exact C,S.upd _ dd (oR _),rfl⟩
  refine⟨d,R,Ha ⟨_,rfl,λc=>?_,λc=>?_⟩⟩
  .have U:e=31:=of_decide_eq_true c;have j:=G.1 U;refine⟨f,J,_,zY zp x rfl,λI a=>endW.ok (leave.cell (a.get rfl) (zT xE rfl ((zL _ dd dd).trans w) rfl) (leave.tmp (a.get rfl) (leave.cell (a.get rfl) (zT zp rfl (zF _ dd) rfl) rfl))) ?_⟩;have:=y Z (f.upd m.nx (some (.cells (.ls [dh 31,dh 0]) ⟨0,26+1,0⟩ true false))) ((K.upd _ dd dd).mono dd);rw[if_pos j]at this;exact this
  have U:e≠31:=of_decide_eq_false c;have j:¬JB s 6:=λg=>U (G.2 g)
  refine qv ⟨f,J,_,zY zp x rfl,λI a=>endW.ok (leave.cell (a.get rfl) (zT xE rfl ((zL _ dd dd).trans w) rfl) (leave.tmp (a.get rfl) (leave.cell (a.get rfl) (zT zp rfl (zF _ dd) rfl) rfl))) ?_⟩;have:=y Z (f.upd m.nx (some (.cells (.ls [dh 23,dh 0]) ⟨0,26+1,0⟩ true false))) ((K.upd _ dd dd).mono dd);rw[if_neg j]at this;exact this
 -- the distribution
 have H:=ExtX.ext o q (λb hb=>dd);have l6:=q.le;have A:i.get h.nx=some (oD 0 .nilslice):=(q.get _ dd dd).trans E;have B:i.get m.nx=some (.cells (.ls [dh 0,dh 0]) ⟨0,26+1,0⟩ true false):=(q.get _ dd dd).trans F;have t6:=H.top;obtain⟨c1,c2⟩:=ow.cells;have ho:zU [dh ((log:Nat):Int),v]=true:=yP.2 λu V=>by
  rcases oq.1 V with rfl|V
  .rfl
  exact yP.1 c2 u V
 refine⟨_,v,.nilIface,rfl,?_⟩;obtain⟨d,R,t,C,S,n7,k7⟩:∃d,jP zB 59 i (.ptr h.nx 0) (.agg [dh ((log:Nat):Int),v])=some d/\d.get h.nx=some (oD ((log:Nat):Int) v)/\d.get m.nx=some (.cells (.ls [dh 0,dh 0]) ⟨0,26+1,0⟩ true false)/\Ext h d (1+1+1+(8*12+30))/\d.nx=i.nx/\∀b,b≠h.nx->d.get b=i.get b :=
  ⟨_,zY xE A rfl rfl (oM _) ho,zF _ dd,by rw[zL _ dd dd];exact B,H.upd _ dd (oR _),rfl,λb hb=>zL _ dd hb⟩
 refine⟨d,R,V1 ⟨_,rfl,λc=>(by cases c),λ_=>Zn ?_⟩⟩;have W:d.get h3.nx=some (Gd s p):=(k7 _ dd).trans gr;refine⟨s,(p:Nat),zT qH rfl W rfl,G7 dd hp ⟨_,_,rfl,_,v,zT xE rfl t rfl,?_⟩⟩;obtain⟨f,J,w,x,K,n8,k8⟩:∃f,jP zB 59 d (.ptr h.nx 0) (.agg [dh ((log:Nat):Int),v])=some f/\f.get h.nx=some (oD ((log:Nat):Int) v)/\f.get m.nx=some (.cells (.ls [dh 0,dh 0]) ⟨0,26+1,0⟩ true false)/\Ext h f (1+1+1+(8*12+30))/\f.nx=d.nx/\∀b,b≠h.nx->f.get b=d.get b :=
  ⟨_,zY xE t rfl rfl (oM _) ho,zF _ dd,by rw[zL _ dd dd];exact C,S.upd _ dd (oR _),rfl,λb hb=>zL _ dd hb⟩
 have ew:zb (0+(((p+7)/8:Nat):Int))=(((p+7)/8:Nat):Int):=by rw[zD dd dd];omega
 refine⟨f,J,_,zY zp x rfl,λI a=>endW.ok (leave.cell (a.get rfl) (zT xE rfl ((zL _ dd dd).trans w) rfl) (leave.tmp (a.get rfl) (leave.cell (a.get rfl) (zT zp rfl (zF _ dd) rfl) rfl))) ?_⟩;try dsimp only
 rw[ew];refine z log l p v _ hz ((K.upd _ dd dd).mono dd) (ow.keep ?_ λb e=>?_) (λb e=>oS o.le (hv b e)) hp hl
 .show i.nx<=f.nx;omega
 have:=hv b e;rw[zL _ dd dd,k8 _ dd,k7 _ dd]
end Go.Proofs.YtnpeieeomokomaaGreat
