/- TA. No condition. -/
import Derived.Test.YtnpeieeomokomaaGreatZCD
import Derived.Test.YtnpeieeomokomaaGreatZW
import Derived.WalkKit
import Derived.LaidEql
import Derived.Stop.Asserts
import Derived.RowKitTokens
import Derived.Below
set_option maxRecDepth 100000
set_option maxHeartbeats 2000000
namespace Go.Proofs.YtnpeieeomokomaaGreat
open Go.Sim
variable {h:H}{Q:Uc}
variable{R:Ud}{log:Int}{l:Ub}{s:Ua}{c n p p0 p9 r:Nat}{v:V}
noncomputable abbrev P:=Tryz.prog
theorem ble(a b:Nat)(h:Nat.ble a b=true):a<=b:=oH h
theorem enO{a:Uf}{b f:Nat}{fi:FI}{args:Ug}{w:Prop}(d:(zB.fn.get f).map xG=some fi)(g:Nat.ble args.length fi.n=true)(i:Nat.ble fi.n 511=true)(e:wpS P zB a b false fi.body ⟨fi.n,ze args 0 (Tb.leaf zC),[],h⟩ (endW zB fi Q)=w)(j:w):RF P zB f args h Q:=RF.enterS yA d (ble _ _ g) (ble _ _ i) e j
theorem yU{k:Nat}{rs:List ResultVar}{L:Uf}{args:Ug}{B:H->Uc->Ud->Prop}(e:Vb k n rs L args B)(b:B h Q (endW zB ⟨n,rs,bf k⟩ Q)):RF P zB k args h Q:=by have q:=congrFun (congrFun e h) Q;have d:=congrArg Prod.fst q;have a:=congrArg (λx=>x.2.1) q;have f:=congrArg (λx=>x.2.2) q;rw[oM]at a;exact RF.enterS yA d (ble _ _ a.1) (ble _ _ a.2) f b
theorem xg(a:h.nx<=T.top)(hl:h.low<=T.top):(h.nx<=(zX h).low/\(zX h).nx<=T.top)/\yN h (zX h)=h:=by refine⟨⟨a,a⟩,?_⟩;show(⟨h.tbl,h.nx,cond (Nat.ble h.low T.top) h.low T.top⟩:H)=h;rw[oG hl,oS]
theorem O4:∀(l:Ua) (i:Nat),XB l i=l[i]?
 | [],_=>rfl
 | _::_,0=>rfl
 | _::l,i+1=>by rw[XB,O4 l i];rfl
theorem yR{k:IntKind}{l:Ua}{i:Nat}{b:UInt8}(h:l[i]? = some b):yC zB 9 (.str l) (.int k (i:Int))=some (.int .u8 ((b.toNat:Nat):Int)):=by unfold yC;have a:yj (i:Int)=some i:=rfl;simp only[a,kO,O4,h];rfl
theorem yb:∀(l:Ua) (n:Nat),jO l n=n+l.length
 | [],n=>by simp[jO]
 | _::l,n=>by rw[jO,yb l];simp;omega
theorem xN{x y:Nat}(h1:x<=y)(a:y<=s.length):
  zy zB 9 h (.str s) (some (dd x)) (some (dd y)) none=some (.str (zH s x y)):=by
 unfold zy;have b:yj (x:Int)=some x:=rfl;have d:yj (y:Int)=some y:=rfl;have e:jO s 0=s.length:=by rw[yb];omega
 simp only[kO,Go.Sim.bnd,b,d,e];rw[oG a,oS];simp only;rw[oG h1,oS]
theorem zt:200000<T.top:=db
theorem zIn{n:Int}(o:n<9223372036854775808)(q:Q (dd (hi n)) h):RF P zB 216 [dd n] h Q:=by
 refine yU z0x (Has.nil.on λtm hs=>?_);refine wpC.round (λk tm h'=>∃i:Nat,i<=63/\k=63-i/\h'=h/\Has tm [(5,dd i),(0,dd n),(3,dd (hiU n i))]) 63 ⟨0,oy,rfl,rfl,by rw[show hiU n 0 = -1 by unfold hiU;rw[if_neg oy]];exact hs.sub rfl⟩ ?_;rintro k tm h' ⟨i,h1,rfl,rfl,hs⟩;refine wpC.av hs zSF rfl rfl ⟨λc=>⟨_,zPa oy,λf=>hs.on λb a=>?_,λf=>hs.on λb a=>?_⟩,λc=>hs.on λb a=>?_⟩
 .have j:=(KY (JE i)).1 f;have e:zG ((i:Int)+1)=((i+1:Nat):Int):=by rw[zD oy oy];rfl
  refine⟨rfl,rfl,63-(i+1),oy,i+1,oy,rfl,rfl,?_⟩;try dsimp only
  rw[zEx,if_pos j,<-e];exact a.sub rfl
 .have j:¬((2^i:Nat):Int)<=n:=λg=>f ((KY (JE i)).2 g)
  have e:zG ((i:Int)+1)=((i+1:Nat):Int):=by rw[zD oy oy];rfl
  refine⟨rfl,rfl,63-(i+1),oy,i+1,oy,rfl,rfl,?_⟩;try dsimp only
  rw[zEx,if_neg j,<-e];exact a.sub rfl
 have d:i=63:=oy
 subst d;rw[zWH o]at a;refine thenC.left (wpS.av a zTH rfl rfl (a.on λt m=>?_));exact endW.r1 (m.get rfl) q
theorem zDA{n:Int}(b:Q (dd (hi n+1)) h)(a:n<9223372036854775808:=by omega):RF P zB 145 [dd n] h Q:=by
 have h1 : -1<=hi n/\hi n<63:=by
  unfold hi;split
  .rename_i d;have:n.toNat.log2<63:=(Nat.log2_lt oy).2 oy;omega
  omega
 refine yU z02 (zIn a ⟨_,rfl,?_⟩);show Q (dd (zG (hi n+1))) h
 rwa [zD oy oy]
theorem Y9{b:Bool}{e:Int}(a:Q (dd (if b=true then e else 0)) h):RF P zB 250 [.bool b,dd e] h Q:=by
 refine yU z1E ?_;cases b
 .exact a
 exact a
def wu:Ub->Int
 | []=>0
 | x::l=>if x≠0 then x else wu l
theorem zBz{l:Ub}{i:Nat}(h:wu (l.take i)=0):wu l=wu (l.drop i):=by
 induction l generalizing i with
 | nil=>simp
 | cons x l ih =>
  rcases i with _|i
  .rfl
  simp only[List.take_succ_cons,wu]at h;split at h
  .rename_i a;exact absurd h a
  rename_i a;show(if x≠0 then x else wu l)=wu (l.drop i);rw[if_neg a];exact ih h
theorem Xd{v:V}{l:Ub}(sl:Sl h v 1 l.length (l.map λn=>dd n))(hl:l.length<4611686018427387904)(g:Q (dd (wu l)) h):RF P zB 248 [v] h Q:=by
 refine yU z1D ⟨_,sl.len zVP rfl,Has.nil.on λtm hs=>?_⟩;refine wpC.round (λk tm h'=>∃i:Nat,i<=l.length/\k=l.length-i/\h'=h/\wu (l.take i)=0/\Has tm [(8,dd i),(7,dd l.length),(6,v),(3,dd 0)]) l.length ⟨0,oy,oy,rfl,by simp[wu],hs.sub rfl⟩ ?_;rintro k tm h' ⟨i,h1,rfl,rfl,d,hs⟩;refine wpC.av hs zSI rfl rfl ⟨λc=>?_,λc=>hs.on λj a=>?_⟩
 .have hi:i<l.length:=oy
  have w:l[i]? = some l[i]:=oU hi;obtain⟨b,o,A,B⟩:=sl.at1 (u:=dd l[i]) hi zVP rfl yh rfl rfl (by rw[oh,w];rfl);have y:wu l=if l[i]≠0 then l[i] else wu (l.drop (i+1)):=by rw[zBz d,List.drop_eq_getElem_cons hi];rfl
  refine⟨b,o,A,l[i],B,λm=>hs.on λj a=>?_,λm=>hs.on λj a=>?_⟩
  .rw[y,if_pos m]at g;refine thenC.left (wpS.av a zJo rfl rfl (a.on λq f=>?_));exact endW.r1 (f.get rfl) g
  have e:zG ((i:Int)+1)=((i+1:Nat):Int):=by rw[zD oy oy];rfl
  refine⟨rfl,rfl,l.length-(i+1),oy,i+1,oy,rfl,rfl,?_,?_⟩
  .rw[List.take_add_one,w];clear y g hs sl;generalize l.take i=z at d ⊢;induction z with
   | nil=>simp only[List.nil_append,Option.toList_some,wu];rw[if_neg m]
   | cons x z ih =>
    simp only[List.cons_append,wu]at d ⊢;split at d
    .rename_i t;exact absurd d t
    rename_i t;rw[if_neg t];exact ih d
  rw[<-e];exact a.sub rfl
 have hi:i=l.length:=oy
 subst hi;rw[List.take_length]at d;rw[d]at g;refine thenC.left (wpS.av a zJo rfl rfl (a.on λq f=>?_));exact endW.r1 (f.get rfl) g
theorem zP8{left:Nat}(hl:left<=1048576)(b:h.nx<=T.top)(d:h.low<=T.top)(e:Q (.tuple [dd (zT (left+1):Nat),dd ((2^zT (left+1)-2-left:Nat):Int)]) h):RF P zB 209 [dd left] h Q:=by
 have hb:zT (left+1)<=21:=yK;have i:=jB (left+1);have j:2^zT (left+1)<=2^21:=Nat.pow_le_pow_right db hb;have f:zG ((left:Int)+1)=((left+1:Nat):Int):=by rw[zD oy oy];rfl
 refine yU z0s ?_;try dsimp only
 rw[f];refine zDA ⟨_,rfl,⟨b,d⟩,((1*2^zT (left+1):Nat):Int),?_,?_⟩
 .rw[Zw];exact zz (a:=1) oy oy
 rw[Zw];have g:zG (zG (((1*2^zT (left+1):Nat):Int)-1)-((left+1:Nat):Int))=((2^zT (left+1)-2-left:Nat):Int):=by rw[zD (n:=((1*2^zT (left+1):Nat):Int)-1) oy oy,zD oy oy];omega
 rw[g];exact e
def zf(s:Ua):Int:=match s.getLast? with
 | none=>-1
 | some b=>if b.toNat=0 then -1 else ((8*(s.length-1)+zT b.toNat-1:Nat):Int)
theorem wS(s:Ua):zf s<8*s.length:=by
 unfold zf;rcases h:s.getLast? with _|b
 .simp only;omega
 simp only;have hl:s≠[]:=λg=>by rw[g]at h;cases h
 have:0<s.length:=List.length_pos_iff.2 hl;have hb:zT b.toNat<=8:=yK (by have:=b.toNat_lt;omega);split<;>omega
theorem zIy(a:Q (.bool (decide (1048576<s.length))) h):RF P zB 305 [.agg [.str s]] h Q:=by
 refine RF.plain ?_ (zk rfl);refine yU z1X ⟨db,?_⟩;rintro p h1 rfl b;obtain⟨f,g,d⟩:=zq b db;refine⟨s,zK kO rfl d rfl,λc=>⟨XQ _,?_⟩,λc=>⟨XQ _,?_⟩⟩
 .have e:(1048576:Int)<(s.length:Int):=c
  rwa [decide_eq_true oy]at a
 have e:¬(1048576:Int)<(s.length:Int):=c
 rwa [decide_eq_false oy]at a
theorem zQo{b:Nat}{h:H}{Q:Uc}(hb:b<256)(d:Q (dd (zT b:Nat)) h):RF P zB 322 [.int .u8 b] h Q:=by
 refine yU z15 ⟨(zT b:Nat),?_,?_⟩
 .have a:zT b<=8:=yK;have e:(UInt8.ofNat (zT b)).toNat=zT b:=by rw[UInt8.toNat_ofNat'];omega
  rw[<-e];refine yR ?_;clear d e a Q h;revert b;decide +kernel
 have a:zT b<=8:=yK
 rwa [zD oy oy]
theorem OO(d:Q (dd (zf s)) h)(hs:s.length<=4611686018427387:=by omega):RF P zB 306 [.agg [.str s]] h Q:=by
 refine RF.plain ?_ (zk rfl);have d:∀h':H,Plain (dd (zf s))/\Q (dd (zf s)) h:=λ_=>⟨zL _ _,d⟩
 refine yU z1Y ⟨db,?_⟩;rintro p h1 rfl m;obtain⟨C,o,a⟩:=zq m db;have D:H0.nx=0:=rfl;have e:h1.nx<=T.top:=by have:=zt;omega
 have i:h1.low<=T.top:=oW o.low (oV _);obtain⟨q,t⟩:=xg e i;refine⟨s,zK kO rfl a rfl,λc=>?_,λc=>?_⟩
 .have:=d H0
  rwa [show zf s = -1 by rw[c];rfl]at this
 obtain⟨b,hb⟩:∃b,s.getLast? = some b:=by
  rcases u:s.getLast? with _|b
  .exact absurd (List.getLast?_eq_none_iff.1 u) c
  exact⟨b,rfl⟩
 have E:0<s.length:=List.length_pos_iff.2 c;have hi:s[s.length-1]? = some b:=by rw[<-List.getLast?_eq_getElem?];exact hb
 have j:zG (Int.ofNat s.length-1)=((s.length-1:Nat):Int):=by show zG ((s.length:Int)-1)=_;rw[zD oy oy];omega
 have k:yC zB 9 (.str s) (dd (zG (Int.ofNat s.length-1)))=some (.int .u8 ((b.toNat:Nat):Int)):=by rw[j];exact yR hi
 refine⟨s,zK kO rfl a rfl,s,zK kO rfl a rfl,_,k,λw=>?_,λw=>Has.nil.on λtm hs=>?_⟩
 .have:=d H0
  rwa [show zf s = -1 by unfold zf;rw[hb];simp only;rw[if_pos oy]]at this
 have f:=b.toNat_lt;have x:zT b.toNat<=8:=yK;have y:0<zT b.toNat:=by unfold zT;rw[if_neg oy];omega
 have z:zf s=((8*(s.length-1)+zT b.toNat-1:Nat):Int):=by unfold zf;rw[hb];simp only;rw[if_neg oy]
 refine wpS.av hs zT6 rfl rfl ⟨⟨e,i⟩,?_⟩;refine⟨s,zK kO rfl a rfl,s,zK kO rfl a rfl,s,zK kO rfl a rfl,_,k,zQo f ⟨_,rfl,q,?_⟩⟩;try dsimp only
 rw[t];rintro A rfl;refine hs.on λB g=>endW.r1 (g.get rfl) ?_
 have ev:zG (zG (zG (8*zG (Int.ofNat s.length-1))+(zT b.toNat:Nat))-1)=zf s:=by rw[j,z,zD (n:=8*((s.length-1:Nat):Int)) oy oy,zD (n:=8*((s.length-1:Nat):Int)+(zT b.toNat:Nat)) oy oy,zD oy oy];omega
 have:=d H0
 rwa [<-ev]at this
theorem zVj{s:Ua}{i:Nat}(hi:i<8*s.length)(hs:s.length<=1048576)(f:Q (.int .u64 (wY s i:Nat)) h):RF P zB 325 [.agg [.str s],dd i] h Q:=by
 refine RF.plain ?_ (zk rfl);refine yU z18 ⟨db,?_⟩;rintro p h1 rfl a;obtain⟨k,m,g⟩:=zq a db;have d:s[i/8]? = some s[i/8]:=oU oy;have e:=(s[i/8]'oy).toNat_lt;generalize s[i/8]'oy=b at d e;have a:zG (Int.tdiv (i:Int) 8)=((i/8:Nat):Int):=by rw[show Int.tdiv (i:Int) 8=((i/8:Nat):Int)from rfl,zD oy oy]
 have j:Int.tmod (i:Int) 8=((i % 8:Nat):Int):=rfl;have o:b.toNat/2^(i % 8)<=b.toNat:=Nat.div_le_self _ _;refine⟨s,zK kO rfl g rfl,db,(b.toNat:Int),by rw[a];exact yR d,db,((b.toNat/2^(i % 8):Nat):Int),?_,((wY s i:Nat):Int),?_,zL _ _,f⟩
 .rw[j,zb oy,zb oy];exact YL
 rw[Y7 d,<-wz _ 1];exact zEV (b:=1) oy db
abbrev rdr(s:Ua)(p:Nat):V:=.agg [.str s,dd p]
def oRd(s:Ua)(p:Nat):O:=.cells (.ls [.str s,dd p]) ⟨0,112+1,0⟩ true false
theorem zC2(hs:s.length<=1048576)(f:p<=8*s.length)(d:Q (dd 0) h):RF P zB 212 [rdr s p] h Q:=by
 refine RF.plain ?_ (zk rfl);refine yU z0t ⟨db,?_⟩;rintro q h1 rfl e;obtain⟨g,i,a⟩:=zq e db;refine⟨s,zK kO rfl a rfl,λc=>?_,λc=>⟨p,zK zm rfl a rfl,λc=>?_,λc=>⟨p,zK zm rfl a rfl,s,zK kO rfl a rfl,λc=>?_,λc=>⟨zL _ _,d⟩⟩⟩⟩
 .have b:(1048576:Int)<(s.length:Int):=c;omega
 .omega
 have b:zG (8*(s.length:Int))<(p:Int):=c;rw[zD oy oy]at b;omega
theorem zNh(hs:s.length<=1048576)(b:p<=8*s.length)(d:Q (.tuple [dd ((p+7)/8:Nat),dd 0]) h):RF P zB 139 [rdr s p] h Q:=by
 refine RF.plain ?_ (zk rfl);refine yU z0W ⟨db,?_⟩;rintro q h1 rfl f;obtain⟨g,i,a⟩:=zq f db;refine⟨s,p,zO yt rfl a rfl,zC2 hs b ⟨0,rfl,λc=>absurd rfl c,λ_=>⟨p,zK zm rfl a rfl,db,yc rfl,?_⟩⟩⟩;have e:zG (Int.tdiv (zG ((p:Int)+7)) 8)=(((p+7)/8:Nat):Int):=by rw[zD (n:=(p:Int)+7) oy oy,show(p:Int)+7=((p+7:Nat):Int)from rfl,show Int.tdiv ((p+7:Nat):Int) 8=(((p+7)/8:Nat):Int)from rfl,zD oy oy]
 rw[e];exact d
theorem zKA(hs:s.length<=1048576)(a:p<=8*s.length)(f:n<=32)(b:Q (dd 0) h):RF P zB 303 [rdr s p,dd n] h Q:=by refine RF.plain ?_ (zk rfl);refine yU z1V ⟨db,?_⟩;rintro q h1 rfl d;obtain⟨g,i,e⟩:=zq d db;exact⟨s,p,zO yt rfl e rfl,zC2 hs a ⟨0,rfl,λ_=>⟨λc=>oy,λ_=>⟨λc=>oy,λ_=>⟨zL _ _,b⟩⟩⟩,λc=>absurd rfl c⟩⟩
theorem zOE{s:Ua}{p n:Nat}(hs:s.length<=1048576)(L:p<=8*s.length)(M:n<=32)(C:Q (dd (zu s p n:Nat)) h):RF P zB 304 [rdr s p,dd n] h Q:=by
 refine RF.plain ?_ (zk rfl);refine yU z1W ⟨db,?_⟩;rintro q h1 rfl j;obtain⟨N,O,m⟩:=zq j db;refine Has.nil.on λtm o=>?_
 refine wpC.round (λk tm h'=>∃i:Nat,i<=n/\k=n-i/\h'=h1/\Has tm [(9,dd i),(8,dd n),(2,.ptr H0.nx 0),(5,dd (zu s p i:Nat))]) n ⟨0,oy,rfl,rfl,o.sub rfl⟩ ?_;rintro k tm h' ⟨i,hi,rfl,rfl,d⟩;have D:=jE s p i;have A:2^i<=2^32:=Nat.pow_le_pow_right db oy;have e:zG ((i:Int)+1)=((i+1:Nat):Int):=by rw[zD oy oy];rfl
 have g:zG ((p:Int)+(i:Int))=((p+i:Nat):Int):=by rw[zD oy oy];rfl
 have el:zG (8*Int.ofNat s.length)=((8*s.length:Nat):Int):=by show zG (8*(s.length:Int))=_;rw[zD oy oy];omega
 refine wpC.av d zST rfl rfl ⟨λc=>?_,λc=>d.on λf a=>?_⟩
 rotate_left
 .have t:i=n:=oy
  subst t;refine thenC.left (wpS.av a zT5 rfl rfl (a.on λE u=>?_));exact endW.r1 (u.get rfl) ⟨zL _ _,C⟩
 show ∃F,zo zB 3 h' (.ptr H0.nx (0+1))=some (dd F)/\_;refine⟨p,zK zm rfl m rfl,?_⟩;show ∃G,zo zB 9 h' (.ptr H0.nx (0+0))=some (.str G)/\_;refine⟨s,zK kO rfl m rfl,λw=>?_,λw=>d.on λf a=>?_⟩
 .rw[g,el]at w;have H:p+i<8*s.length:=oy
  have x:s[(p+i)/8]? = some s[(p+i)/8]:=oU oy;have y:=(s[(p+i)/8]'oy).toNat_lt;generalize s[(p+i)/8]'oy=b at x y;have S:b.toNat/2^((p+i) % 8)<=b.toNat:=Nat.div_le_self _ _;have z:=Y7 x;have B:=Z5 s (p+i);have j:zG (Int.tdiv (zG ((p:Int)+(i:Int))) 8)=(((p+i)/8:Nat):Int):=by rw[g,show Int.tdiv ((p+i:Nat):Int) 8=(((p+i)/8:Nat):Int)from rfl,zD oy oy]
  have I:Int.tmod (zG ((p:Int)+(i:Int))) 8=(((p+i) % 8:Nat):Int):=by rw[g];rfl
  have hm:wY s (p+i)*2^i<=1*2^i:=Nat.mul_le_mul_right _ oy;show ∃J,zo zB 9 h' (.ptr H0.nx (0+0))=some (.str J)/\_;refine⟨s,zK kO rfl m rfl,db,(b.toNat:Int),by rw[j];exact yR x,db,((b.toNat/2^((p+i) % 8):Nat):Int),?_,((wY s (p+i):Nat):Int),?_,((wY s (p+i)*2^i:Nat):Int),?_,((zu s p (i+1):Nat):Int),?_,d.on λf a=>?_⟩
  .rw[I,zb oy];exact zDs
  .rw[z,<-wz _ 1];exact zCw (b:=1) oy db
  .rw[zD oy oy,zb oy];exact zz oy oy
  .rw[zJH,zAS D];rfl
  refine⟨rfl,rfl,n-(i+1),oy,i+1,oy,rfl,rfl,?_⟩;try dsimp only
  rw[<-e];exact a.sub rfl
 rw[g,el]at w;have K:zu s p (i+1)=zu s p i:=by show zu s p i+wY s (p+i)*2^i=_;rw[zC4];omega
 refine⟨rfl,rfl,n-(i+1),oy,i+1,oy,rfl,rfl,?_⟩;try dsimp only
 rw[K,<-e];exact a.sub rfl
def tkF(s:Ua)(p n:Nat):V:=if p+n<=8*s.length then .tuple [rdr s (p+n),dd (zu s p n:Nat),dd 0] else .tuple [rdr [] 0,dd 0,dd 5]
theorem zCI(s:Ua)(p n:Nat):Plain (tkF s p n):=by unfold tkF;split<;>exact yc rfl
theorem zPf(hs:s.length<=1048576)(u:p<=8*s.length)(w:n<=32)(f:Q (tkF s p n) h):RF P zB 272 [rdr s p,dd n] h Q:=by
 refine RF.plain ?_ (zk rfl);have f:∀h':H,Plain (tkF s p n)/\Q (tkF s p n) h:=λ_=>⟨zCI _ _ _,f⟩
 have F:H0.nx=0:=rfl;have G:=zt;refine yU z1K ⟨db,?_⟩;rintro q0 h1 rfl y;obtain⟨I,J,z⟩:=zq y db;refine⟨oy,?_⟩;rintro K i rfl A;obtain⟨L,B,x⟩:=zq A;have d:i.get H0.nx=some (.cells (.ls [.str s,dd p]) ⟨0,112+1,0⟩ true false):=by rw[B.get _ oy];exact z
 have el:zG (zG (8*Int.ofNat s.length)-(p:Int))=((8*s.length-p:Nat):Int):=by show zG (zG (8*(s.length:Int))-(p:Int))=_;rw[zD (n:=8*(s.length:Int)) oy oy,zD oy oy];omega
 refine⟨s,p,zO yt rfl d rfl,zKA hs u w ⟨0,rfl,λ_=>⟨s,zK kO rfl d rfl,p,zK zm rfl d rfl,λc=>Has.nil.on λtm e=>?_,λc=>Has.nil.on λtm e=>?_⟩,λc=>absurd rfl c⟩⟩
 .rw[el]at c;have j:¬p+n<=8*s.length:=oy
  unfold tkF at f;rw[if_neg j]at f;refine wpS.av e zJp rfl rfl ⟨λ_=>⟨_,z6 yt x rfl,e.on λk b=>?_⟩,λg=>absurd g db⟩;refine endW.ok (leave.cell (b.get rfl) (zO yt rfl (zF _) rfl) (leave.tmp (b.get rfl) (leave.tmp (b.get rfl) rfl))) (f H0)
 rw[el]at c;have m:p+n<=8*s.length:=oy
 unfold tkF at f;rw[if_pos m]at f;refine wpS.av e zJp rfl rfl ⟨λg=>absurd rfl g,λ_=>⟨s,p,zO yt rfl d rfl,zOE hs u w ⟨_,rfl,?_⟩⟩⟩;show ∃C,zo zB 3 i (.ptr H0.nx (0+1))=some (dd C)/\_;refine⟨p,zK zm rfl d rfl,?_⟩;have D:zG ((p:Int)+(n:Int))=((p+n:Nat):Int):=by rw[zD oy oy];rfl
 show ∃a,zZ zB 3 i (.ptr H0.nx (0+1)) (dd (zG ((p:Int)+(n:Int))))=some a/\_;rw[D];obtain⟨a,o,q,t,E⟩:∃a,zZ zB 3 i (.ptr H0.nx (0+1)) (dd ((p+n:Nat):Int))=some a/\a.get H0.nx=some (.cells (.ls [.str s,dd ((p+n:Nat):Int)]) ⟨0,112+1,0⟩ true false)/\a.get h1.nx=i.get h1.nx/\a.nx=i.nx :=
  ⟨_,z6 zm d rfl,zF _,zS _,rfl⟩
 refine⟨a,o,s,((p+n:Nat):Int),zO yt rfl q rfl,_,z6 yt (t.trans x) rfl,e.on λk b=>?_⟩;exact endW.ok (leave.cell (b.get rfl) (zO yt rfl (zF _) rfl) (leave.tmp (b.get rfl) (leave.tmp (b.get rfl) rfl))) (f H0)
def xX(left:Nat):Nat:=zT (left+1)
def shT(left:Nat):Nat:=2^xX left-2-left
theorem zDp(left:Nat):0<xX left:=by unfold xX zT;rw[if_neg oy];omega
theorem JN(left:Nat):2^(xX left-1)<=left+1/\left+1<2^xX left/\2^xX left=2*2^(xX left-1):=by
 have h1:=zDp left;refine⟨zAK oy,jB _,?_⟩;try dsimp only
 rw[<-Nat.pow_succ'];congr 1
theorem zHt{left:Nat}(_:0<left):shT left<=left:=by obtain⟨h1,a,b⟩:=JN left;unfold shT;omega
def wp(s:Ua)(left p:Nat):Option (Nat×Nat) :=
 if 8*s.length<p+(xX left-1) then none
 else if zu s p (xX left-1)<shT left then some (zu s p (xX left-1),p+(xX left-1))
 else if 8*s.length<p+xX left then none
 else some (if 2^(xX left-1)<=zu s p (xX left) then zu s p (xX left)-shT left else zu s p (xX left),p+xX left)
theorem zKR(s:Ua)(p:Nat)(h:0<n):zu s p n=zu s p (n-1)+wY s (p+(n-1))*2^(n-1):=by obtain⟨m,rfl⟩:∃m,n=m+1:=⟨n-1,oy⟩;rfl
theorem JK{left v q:Nat}(hl:0<left)(h:wp s left p=some (v,q)):v<=left+1/\q<=8*s.length:=by
 obtain⟨h1,a,b⟩:=JN left;have d:=zHt hl;have e:=jE s p (xX left);unfold wp at h;split at h
 .cases h
 split at h
 .cases h;exact⟨oy,oy⟩
 split at h
 .cases h
 cases h;refine⟨?_,oy⟩;split
 .unfold shT;omega
 omega
def ym(s:Ua)(symbols:Nat):Nat->Nat->Nat->Option (Nat×Nat)
 | 0,_,_=>none
 | f+1,p,n =>
  if 8*s.length<p+2 then none
  else if symbols<n+zu s p 2 then none
  else if zu s p 2=3 then ym s symbols f (p+2) (n+3)
  else some (n+zu s p 2,p+2)
def yX(s:Ua)(symbols:Nat):Nat->Nat->Nat->Ub->Option (List Int×Nat)
 | 0,_,_,_=>none
 | f+1,left,p,l =>
  if left=0 then some (l,p)
  else match wp s left p with
  | none=>none
  | some (v,q) =>
   if l.length=symbols then none
   else if v=1 then
    match ym s symbols (symbols+1) q (l.length+1)with
    | none=>none
    | some (n,r)=>yX s symbols f left r (l++List.replicate (n-l.length) 0)
   else yX s symbols f (left-max (v-1) 1) q (l++[(v:Int)-1])
abbrev brk(e:Int):V:=.iface 269 (.agg [.iface 24 (dd e)])
theorem Yb{e:Int}{k:V->Prop}(a:k (.agg [.iface 24 (dd e)])):kh zB 269 (je zB 269 [(0,.iface 24 (dd e))]) k:=by
 have h1:je zB 269 [(0,.iface 24 (dd e))]=some (.agg [.iface 24 (dd e)]):=da
 have b:zBi zB 269=false:=da
 unfold kh;rw[h1];simp only[b];exact a
theorem qR(m:h.get r=some (oRd s p))(hr:r<h.nx)(o:h.nx+1<=T.top)(hs:s.length<=1048576)(t:p<=8*s.length)(u:n<=32)(d:p+n<=8*s.length->∀h',ExtX (· = r) h h' 1->h'.get r=some (oRd s (p+n))->Q (.tuple [dd (zu s p n:Nat),.nilIface]) h')(e:¬p+n<=8*s.length->∀h',Ext h h' 1->Q (.tuple [dd 0,brk 5]) h'):RF P zB 208 [.ptr r 0,dd n] h Q:=by
 refine yU z0r ⟨.ptr r 0,h,rfl,s,p,zO yt rfl m rfl,zPf hs t u ?_⟩;unfold tkF;by_cases c:p+n<=8*s.length
 .rw[if_pos c];refine⟨s,((p+n:Nat):Int),_,_,rfl,oy,?_⟩;rintro q h1 rfl f;obtain⟨w,b,i⟩:=zq f;obtain⟨a,j,x,y,k,z⟩:∃a,zZ zB 112 h1 (.ptr h.nx 0) (.agg [.str s,dd ((p+n:Nat):Int)])=some a/\a.get h.nx=some (oRd s (p+n))/\a.get r=some (oRd s p)/\Ext h a 1/\a.nx=h1.nx :=
   ⟨_,z6 yt i rfl,zF _,by rw[zS _,b.get _ hr];exact m,b.upd _ oy (oV _),rfl⟩
  refine⟨a,j,λg=>absurd rfl g,λ_=>⟨s,((p+n:Nat):Int),zO yt rfl x rfl,.ptr r 0,a,rfl,?_⟩⟩;exact⟨_,z6 yt y rfl,d c _ ((ExtX.of k).upd _ oy (.inl rfl)) (zF _)⟩
 rw[if_neg c];refine⟨[],0,_,_,rfl,oy,?_⟩;rintro q h1 rfl f;obtain⟨w,b,i⟩:=zq f;obtain⟨a,j,k⟩:∃a,zZ zB 112 h1 (.ptr h.nx 0) (.agg [.str [],dd 0])=some a/\Ext h a 1 :=
  ⟨_,z6 yt i rfl,b.upd _ oy (oV _)⟩
 exact⟨a,j,λ_=>Yb (e c _ k),λg=>absurd (show(5:Int)≠0 by decide) g⟩
abbrev yn:TI:=⟨3,.int .i64,1,8,some (dd 0),true,false,false,[]⟩
abbrev zV(l:Ub):Ug:=l.map λn=>dd n
theorem xQ(l m:Ub):zV (l++m)=zV l++zV m:=List.map_append ..
theorem zFA(l:Ub):(zV l).length=l.length:=ox ..
theorem zMb(n:Nat):zV (List.replicate n 0)=List.replicate n (dd 0):=by simp[zV]
def oD(log:Int)(v:V):O:=.cells (.ls [dd log,v]) ⟨0,59+1,0⟩ true false
theorem ZH{k:V->Prop}(a:k (.bool false)):qc zB .neq 163 (t n) (.const .nilIface) 4 .nilIface .nilIface k:=by
 have e:ZQ zB .neq 163 (t n) (.const .nilIface) .nilIface .nilIface=some (.bool false):=da
 exact⟨false,e,λg=>(by cases g),λ_=>a⟩
theorem qF{e:Int}{k:V->Prop}(a:k (.bool true)):qc zB .neq 163 (t n) (.const .nilIface) 4 (brk e) .nilIface k:=by
 have e:ZQ zB .neq 163 (t n) (.const .nilIface) (brk e) .nilIface=some (.bool true):=da
 exact⟨true,e,λ_=>a,λg=>(by cases g)⟩
structure HD (hb h:H) (c r p0 p9:Nat) (s:Ua) (p:Nat) (log:Int) (v:V) (l:Ub):Prop where
 ex:ExtX (· = r) hb h c
 gr:h.get r=some (oRd s p)
 g0:h.get p0=some (oD 0 .nilslice)
 g9:h.get p9=some (oD log v)
 ow:Ow h v yn l.length (zV l)
 vb:∀b,yG v=some b->hb.nx<=b/\b≠p0/\b≠p9
 r1:r<hb.nx
 q0:hb.nx<=p0
 l0:p0<h.nx
 q9:hb.nx<=p9
 l9:p9<h.nx
 ne:p0≠p9
theorem HD.bound{hb h:H}(d:HD hb h c r p0 p9 s p log v l):h.nx<=hb.nx+c:=d.ex.top
theorem _root_.Go.Sim.Ow.blk_lt{te:TI}{xs:Ug}(s:Ow h v te n xs){b:Nat}(hb:yG v=some b):b<h.nx:=by
 obtain⟨_,⟨rfl,_⟩|⟨d,cs,rfl,a,_⟩⟩:=s
 .cases hb
 cases hb;exact a
theorem _root_.Go.Sim.Ow.cells{te:TI}{xs:Ug}(s:Ow h v te n xs):v.cells=[v]/\za [v]=true:=by
 obtain⟨_,⟨rfl,_⟩|⟨a,cs,rfl,b,_⟩⟩:=s
 .exact⟨rfl,rfl⟩
 exact⟨rfl,rfl⟩
theorem HD.take{hb h h':H}{q:Nat}(d:HD hb h c r p0 p9 s p log v l)(x:ExtX (· = r) h h' 1)(g:h'.get r=some (oRd s q)):HD hb h' (c+1) r p0 p9 s q log v l:=by have h1:=d.q0;have a:=d.q9;have f:=d.r1;exact⟨d.ex.trans x,g,(x.get _ d.l0 oy).trans d.g0,(x.get _ d.l9 oy).trans d.g9,d.ow.keep x.le λb e=>x.get _ (d.ow.blk_lt e) (by have:=(d.vb b e).1;omega),d.vb,d.r1,d.q0,oO d.l0 x.le,d.q9,oO d.l9 x.le,d.ne⟩
theorem HD.grow{hb h h1:H}{v':V}{m:Ub}(d:HD hb h c r p0 p9 s p log v l)(z:h.nx<T.top)(a:Ow h1 v' yn (l.length+m.length) (zV l++zV m)/\h.nx<=h1.nx/\h1.nx<=h.nx+1/\(∀b,b<h.nx->yG v≠some b->h1.get b=h.get b)/\yG v'=some h.nx/\h1.low<=h.low/\(∀m,m<=h.low->(∀b,yG v=some b->m<=b)->m<=h1.low)):
  ∃i,zZ zB 23 h1 (.ptr p9 (0+1)) v'=some i/\HD hb i (c+1) r p0 p9 s p log v' (l++m):=by
 obtain⟨a1,a2,a3,a4,a5,a6,a7⟩:=a;have o:=ExtX.append a2 a3 a4 a6 a7;have q:=d.q0;have t:=d.q9;have u:=d.r1;have A:=d.ex.le;have B:=d.l0;have C:=d.l9;have k:∀b,b<h.nx->(∀j,yG v=some j->j≠b)->h1.get b=h.get b:=λb hb w=>a4 b hb λe=>w b e rfl
 have g9:h1.get p9=some (oD log v):=(k p9 d.l9 λb e=>(d.vb b e).2.2).trans d.g9;obtain⟨g,x⟩:=a1.cells;refine⟨_,z6 z7 g9 (by rw[g];rfl) (by rw[g];rfl) (oQ _) (by rw[g];exact x),?_⟩;have f:p9<T.top:=oy
 have y:ExtX (· = r) hb h1 (c+1):=d.ex.andThen o λb hb=>.inr (d.vb b hb).1
 exact⟨y.upd _ f (.inr d.q9),by rw[zS _ oy f,k r oy (λb e=>by have:=(d.vb b e).1;omega)];exact d.gr,
  by rw[zS _ d.ne f,k p0 d.l0 (λb e=>(d.vb b e).2.1)];exact d.g0,
  zF _ f,
  by rw[oe,xQ];exact a1.keep (oV _) λb e=>zS _ (by rw[a5]at e;cases e;omega) f,
  λb e=>by rw[a5]at e;cases e;omega,d.r1,d.q0,by show p0<h1.nx;omega,d.q9,by show p9<h1.nx;omega,d.ne⟩
theorem HD.put0{hb h:H}(d:HD hb h c r p0 p9 s p log v l)(q:h.nx<=T.top):
  ∃g,zZ zB 23 h (.ptr p9 (0+1)) v=some g/\HD hb g c r p0 p9 s p log v l:=by
 have i:=d.q0;have j:=d.q9;have k:=d.r1;have m:=d.l9;obtain⟨f,o⟩:=d.ow.cells;refine⟨_,z6 z7 d.g9 (by rw[f];rfl) (by rw[f];rfl) (oQ _) (by rw[f];exact o),?_⟩;have a:p9<T.top:=oy
 exact⟨d.ex.upd _ a (.inr d.q9),by rw[zS _ oy a];exact d.gr,by rw[zS _ d.ne a];exact d.g0,zF _ a,
  d.ow.keep (oV _) λb e=>zS _ (d.vb b e).2.2 a,d.vb,d.r1,d.q0,d.l0,d.q9,d.l9,d.ne⟩
theorem zNv(o:Ow h v yn l.length (zV l)):Yf zB 23 h v=some (dd l.length):=o.sl.len z7 rfl
theorem zIV{hb h:H}{c c0 r p0 p9:Nat}{s:Ua}{p:Nat}{log:Int}{v:V}{l0:Ub}{symbols f:Nat}{left:Int}{tm:Tm}{R:Ud}(d:HD hb h c r p0 p9 s p log v l0)(hs:Has tm [(18,dd 3),(0,.ptr r 0),(6,.ptr p0 0),(10,.ptr p9 0),(2,dd symbols),(11,dd left)])(F:s.length<=1048576)(G:p<=8*s.length)(hl:l0.length<=symbols)(hsy:symbols<=256)(M:symbols+1<=f+l0.length)(I:c+4<=8*l0.length+c0)(hnx:hb.nx+8*symbols+c0+10<=T.top)(t:ym s symbols f p l0.length=none->∀e i h',e=5\/e=23->Has i [(6,.ptr p0 0),(7,brk e)]->ExtX (· = r) hb h' (8*symbols+c0+10)->h'.get p0=some (oD 0 .nilslice)->R .ret ⟨137,i,[],h'⟩)(w:∀i h' c' v' l' N,ym s symbols f p l0.length=some (l'.length,N)->l'=l0++List.replicate (l'.length-l0.length) 0->l0.length<=l'.length->c'<=8*l'.length+c0->HD hb h' c' r p0 p9 s N log v' l'->N<=8*s.length->l'.length<=symbols ->
      Has i [(0,.ptr r 0),(6,.ptr p0 0),(10,.ptr p9 0),(2,dd symbols),(11,dd left)]->R (.exit 2) ⟨137,i,[],h'⟩):
    wpC P zB false (.loop zHM) ⟨137,tm,[],h⟩ R:=by
  generalize q:ym s symbols f p l0.length=R0 at t w;refine wpC.round (λk tm h=>∃c p v l,HD hb h c r p0 p9 s p log v l/\l=l0++List.replicate (l.length-l0.length) 0/\l0.length<=l.length/\l.length<=symbols/\p<=8*s.length /\
      ((∃f,k=f+1/\ym s symbols f p l.length=R0/\symbols+1<=f+l.length/\c+4<=8*l.length+c0/\Has tm [(18,dd 3),(0,.ptr r 0),(6,.ptr p0 0),(10,.ptr p9 0),(2,dd symbols),(11,dd left)]) \/
       (∃x:Nat,k=0/\x≠3/\R0=some (l.length,p)/\c<=8*l.length+c0/\Has tm [(18,dd x),(0,.ptr r 0),(6,.ptr p0 0),(10,.ptr p9 0),(2,dd symbols),(11,dd left)]))) (f+1)
    ⟨c,p,v,l0,d,by simp,oV _,hl,G,.inl ⟨f,rfl,q,M,I,hs⟩⟩ ?_
  clear d hs hl M I q G;rintro k tm h ⟨c,p,v,l,d,J,O,S,G,⟨f,rfl,q,M,I,hs⟩|⟨x,rfl,hx,q,I,hs⟩⟩
  rotate_left
  · -- no zeros follow
    exact wpC.av hs zJi rfl rfl ⟨λU=>absurd U oy,λ_=>hs.on λi o=>w i h c v l p q J O I d G S (o.sub rfl)⟩
  obtain⟨f,rfl⟩:∃g,f=g+1:=⟨f-1,oy⟩;have hb1:=d.bound;have e0:=d.ex.le;have hr1:=d.r1;refine wpC.av hs zJi rfl rfl ⟨λ_=>qR (n:=2) d.gr oy oy F G db (λW h1 E g1=>?_) (λW h1 E=>?_),λU=>absurd rfl U⟩
  rotate_left
  · -- bits are missing
    have X:R0=none:=by rw[<-q];show(if 8*s.length<p+2 then none else _)=none;rw[if_pos oy]
    have y:ExtX (· = r) hb h1 (c+1):=d.ex.trans (ExtX.of E);have g0:h1.get p0=some (oD 0 .nilslice):=(E.get _ d.l0).trans d.g0;have:=E.top;have:=d.l0;have:=E.le;refine⟨0,brk 5,rfl,qF ⟨_,z6 xO g0 rfl,hs.on λi o=>t X 5 i _ (.inl rfl) (o.sub rfl) ?_ (zF _)⟩⟩;have z:=y.upd (some (oD 0 .nilslice)) (b:=p0) oy (.inr d.q0);exact⟨z.le,oW z.top oy,z.get,z.low,z.lo⟩
  have d1:=d.take E g1;have hb2:=d1.bound;have e1:=d1.ex.le;have hd0:=d1.l0;refine⟨_,.nilIface,rfl,ZH ?_⟩;show ∃v8,zo zB 23 h1 (.ptr p9 (0+1))=some v8/\_;have hw:zG ((l.length:Int)+(zu s p 2:Nat))=((l.length+zu s p 2:Nat):Int):=by have:=jE s p 2;rw[zD oy oy];rfl
  have hf4:=jE s p 2;refine⟨v,zK z7 rfl d1.g9 rfl,_,zNv d1.ow,λY=>?_,λY=>?_⟩
  · -- too many
    rw[hw]at Y;have X:R0=none:=by rw[<-q];show(if 8*s.length<p+2 then none else if symbols<l.length+zu s p 2 then none else _)=none;rw[if_neg oy,if_pos oy]
    refine Yb ⟨_,z6 xO d1.g0 rfl,hs.on λi o=>t X 23 i _ (.inr rfl) (o.sub rfl) ?_ (zF _)⟩;have z:=d1.ex.upd (some (oD 0 .nilslice)) (b:=p0) oy (.inr d1.q0);exact⟨z.le,oW z.top oy,z.get,z.low,z.lo⟩
  rw[hw]at Y;have hfit:l.length+zu s p 2<=symbols:=oy
  have A:R0=(if zu s p 2=3 then ym s symbols f (p+2) (l.length+3) else some (l.length+zu s p 2,p+2)):=by rw[<-q];show(if 8*s.length<p+2 then none else if symbols<l.length+zu s p 2 then none else _)=_;rw[if_neg oy,if_neg oy]
  show ∃Z,zo zB 23 h1 (.ptr p9 (0+1))=some Z/\_;refine⟨v,zK z7 rfl d1.g9 rfl,trivial,?_⟩;generalize zu s p 2=x at *;have fin:∀c' v' h',HD hb h' c' r p0 p9 s (p+2) log v' (l++List.replicate x 0)->c'<=c+2 ->
      (∀i,Has i [(18,dd (x:Nat)),(0,.ptr r 0),(6,.ptr p0 0),(10,.ptr p9 0),(2,dd symbols),(11,dd left)] ->
        ∃j,j<f+1+1/\∃c p v l,HD hb h' c r p0 p9 s p log v l/\l=l0++List.replicate (l.length-l0.length) 0/\l0.length<=l.length/\l.length<=symbols/\p<=8*s.length /\
      ((∃f,j=f+1/\ym s symbols f p l.length=R0/\symbols+1<=f+l.length/\c+4<=8*l.length+c0/\Has i [(18,dd 3),(0,.ptr r 0),(6,.ptr p0 0),(10,.ptr p9 0),(2,dd symbols),(11,dd left)]) \/
       (∃x:Nat,j=0/\x≠3/\R0=some (l.length,p)/\c<=8*l.length+c0/\Has i [(18,dd x),(0,.ptr r 0),(6,.ptr p0 0),(10,.ptr p9 0),(2,dd symbols),(11,dd left)]))):=by
    intro c' v' h' d2 hc' i o;have ll:(l++List.replicate x 0:Ub).length=l.length+x:=by rw[oe,List.length_replicate]
    have K:(l++List.replicate x 0:Ub)=l0++List.replicate ((l++List.replicate x 0:Ub).length-l0.length) 0:=by
      rw[ll]
      conv=>lhs;rw[J]
      rw[List.append_assoc,List.replicate_append_replicate];congr 2;omega
    by_cases B:x=3
    · subst B
      rw[if_pos rfl]at A;exact⟨f+1,oy,c',p+2,v',_,d2,K,oy,oy,W,.inl ⟨f,rfl,by rw[ll];exact A.symm,oy,oy,o⟩⟩
    · rw[if_neg B]at A
      exact⟨0,oy,c',p+2,v',_,d2,K,oy,oy,W,.inr ⟨x,rfl,B,by rw[ll];exact A,oy,o⟩⟩
  rcases Nat.eq_zero_or_pos x with C|C
  · subst C
    obtain⟨L,e2,d2⟩:=d1.put0 oy;refine⟨v,h1,Ow.zeros0 (u:=dd 0) d1.ow z7 rfl zm rfl rfl rfl rfl,?_⟩;show ∃D,zZ zB 23 h1 (.ptr p9 (0+1)) v=some D/\_;refine⟨L,e2,hs.on λi o=>⟨rfl,rfl,fin (c+1) v L (by simpa using d2) oy i (o.sub rfl)⟩⟩
  · obtain⟨v',L,e2,a⟩:=Ow.zeros (m:=x) (u:=dd 0) d1.ow C z7 rfl zm rfl rfl rfl rfl rfl oy (by show(l.length+x)*8<=_;omega) oy
    obtain⟨h3,e3,d3⟩:=d1.grow (m:=List.replicate x 0) oy (by rw[List.length_replicate,zMb];exact a);refine⟨v',L,e2,?_⟩;show ∃D,zZ zB 23 L (.ptr p9 (0+1)) v'=some D/\_;exact⟨h3,e3,hs.on λi o=>⟨rfl,rfl,fin (c+1+1) v' h3 d3 oy i (o.sub rfl)⟩⟩
theorem _root_.Go.Sim.ExtX.more{S:Nat->Prop}{h h':H}{m:Nat}(a:ExtX S h h' m)(hm:m<=n):ExtX S h h' n:=⟨a.le,oW a.top (Nat.add_le_add_left hm _),a.get,a.low,a.lo⟩
theorem zMF{n:Int}(a:h.nx<T.top):∃v h',zJ zB 23 1 [(0,dd n)] h=some (v,h')/\Sl h' v 1 1 [dd n]/\Ext h h' 1:=by obtain⟨v,h',e,s,x,_⟩:=jK (c:=zB) (h:=h) (u:=dd n) (ys:=[dd n]) (te:=yn) z7 rfl zm rfl rfl rfl rfl db rfl a;exact⟨v,h',e,s,x⟩
theorem zII{hb h:H}{c0:Nat}{q:Nat}{symbols x left:Nat}{tm:Tm}(d:HD hb h c r p0 p9 s q log v l)(hs:Has tm [(0,.ptr r 0),(6,.ptr p0 0),(10,.ptr p9 0),(2,dd symbols),(14,dd x),(11,dd left)])(u:s.length<=1048576)(X:q<=8*s.length)(hl:l.length<=symbols)(A:symbols<=256)(hx:x<=left+1)(Y:left<=1048576)(B:0<left)(hc:c<=8*l.length+c0+2)(Z:hb.nx+8*symbols+c0+20<=T.top)(o:(l.length=symbols\/x=1/\ym s symbols (symbols+1) q (l.length+1)=none)->∀e i h',e=5\/e=23->Has i [(6,.ptr p0 0),(7,brk e)]->ExtX (· = r) hb h' (8*symbols+c0+20)->h'.get p0=some (oD 0 .nilslice)->R .ret ⟨137,i,[],h'⟩)(C:x≠1->l.length≠symbols->∀i h' c' v',c'<=8*(l.length+1)+c0->HD hb h' c' r p0 p9 s q log v' (l++[(x:Int)-1])->Has i [(0,.ptr r 0),(6,.ptr p0 0),(10,.ptr p9 0),(2,dd symbols),(11,dd (left-max (x-1) 1:Nat))]->R (.exit 1) ⟨137,i,[],h'⟩)(hz:x=1->l.length≠symbols->∀i h' c' v' l' D,ym s symbols (symbols+1) q (l.length+1)=some (l'.length,D)->l'=l++List.replicate (l'.length-l.length) 0->l.length<l'.length->c'<=8*l'.length+c0->HD hb h' c' r p0 p9 s D log v' l'->D<=8*s.length->l'.length<=symbols ->
   Has i [(0,.ptr r 0),(6,.ptr p0 0),(10,.ptr p9 0),(2,dd symbols),(11,dd left)]->R .normal ⟨137,i,[],h'⟩):
  Wf Zd KA ⟨137,tm,[],h⟩ R:=by
 have hb1:=d.bound;have e0:=d.ex.le;have hl0:=d.l0;refine wpS.av hs zSg rfl rfl ?_;show ∃v2,zo zB 23 h (.ptr p9 (0+1))=some v2/\_;refine⟨v,zK z7 rfl d.g9 rfl,_,zNv d.ow,λc1=>?_,λc1=>?_⟩
 .refine Yb ⟨_,z6 xO d.g0 rfl,hs.on λi j=>o (.inl oy) 23 i _ (.inr rfl) (j.sub rfl) ?_ (zF _)⟩;exact(d.ex.upd (some (oD 0 .nilslice)) (b:=p0) oy (.inr d.q0)).more oy
 have hll:l.length<symbols:=oy
 have ex:zG ((x:Int)-1)=(x:Int)-1:=zD oy oy;show ∃v8,zo zB 23 h (.ptr p9 (0+1))=some v8/\_;rw[ex];obtain⟨v9,h1,e1,s1,k⟩:=zMF (n:=(x:Int)-1) (h:=h) oy;have t1:=k.top;have t1':=k.le;have O:=d.ow.ext k;obtain⟨v',P,e2,a⟩:=Ow.append (c:=zB) (te:=yn) (m:=1) O s1 db z7 rfl zm rfl rfl (by show(l.length+1)*1<=_;omega) (by show(l.length+1)*8<=_;omega) oy;have d1:HD hb h1 (c+1) r p0 p9 s q log v l:=⟨d.ex.andThen (ExtX.of (S:=λ_=>False) k) (λ_ g=>g.elim),(k.get _ (by have:=d.r1;omega)).trans d.gr,(k.get _ d.l0).trans d.g0,(k.get _ d.l9).trans d.g9,O,d.vb,d.r1,d.q0,oO d.l0 k.le,d.q9,oO d.l9 k.le,d.ne⟩;obtain⟨U,e3,d3⟩:=d1.grow (m:=[(x:Int)-1]) oy a;refine⟨v,zK z7 rfl d.g9 rfl,v9,h1,e1,trivial,v',P,e2,?_⟩;show ∃E,zZ zB 23 P (.ptr p9 (0+1)) v'=some E/\_;have V:(l++[(x:Int)-1]).length=l.length+1:=by simp
 refine⟨U,e3,λc2=>hs.on λi j=>C oy oy i U _ v' oy d3 ?_,λc2=>hs.on λi j=>?_⟩
 .have:zG ((left:Int)-max ((x:Int)-1) 1)=((left-max (x-1) 1:Nat):Int):=by
   have w:x≠1:=oy
   rw[zD oy oy];omega
  rw[<-this];exact j.sub rfl
 have w:x=1:=oy
 subst w;refine zIV (c0:=c0) (f:=symbols+1) (left:=left) d3 (j.sub rfl) u X oy A oy oy oy (λW e F G he I g2 g3=>?_) (λF G c4 v4 l4 q4 y z J K d4 L M I=>?_)
 .refine I.slt λt N=>?_
  exact o (.inr ⟨rfl,by rw[V]at W;exact W⟩) e t G he (N.sub rfl) (g2.more oy) g3
 show zp Zd R (exitB 2 (.exit 2)) _;rw[j5];refine I.slt λt N=>?_
 rw[V]at y z J;exact hz rfl oy t G c4 v4 l4 q4 y (by
  conv=>lhs;rw[z]
  rw[List.append_assoc];congr 1;show[((1:Nat):Int)-1]++_=_;rw[show[((1:Nat):Int)-1]=List.replicate 1 (0:Int)from rfl,List.replicate_append_replicate];congr 1;omega) oy K d4 L M (N.sub rfl)
theorem zLA{hb h:H}{c c0 r p0 p9:Nat}{s:Ua}{p:Nat}{log:Int}{v:V}{l0:Ub}{symbols f left:Nat}{tm:Tm}{R:Ud}(d:HD hb h c r p0 p9 s p log v l0)(hs:Has tm [(11,dd left),(0,.ptr r 0),(6,.ptr p0 0),(10,.ptr p9 0),(2,dd symbols),(7,.nilIface)])(A:s.length<=1048576)(K:p<=8*s.length)(hl:l0.length<=symbols)(Z:symbols<=256)(w:left<=1048576)(hf:symbols+2<=f+l0.length)(hc:c<=8*l0.length+c0)(hnx:hb.nx+8*symbols+c0+20<=T.top)(L:hb.low<=T.top)(u:yX s symbols f left p l0=none->∀e b h',e=5\/e=23->Has b [(6,.ptr p0 0),(7,brk e)]->ExtX (· = r) hb h' (8*symbols+c0+20)->h'.get p0=some (oD 0 .nilslice)->R .ret ⟨137,b,[],h'⟩)(B:∀b h' c' v' l' p',yX s symbols f left p l0=some (l',p')->c'<=8*symbols+c0->HD hb h' c' r p0 p9 s p' log v' l'->p'<=8*s.length->l'.length<=symbols->Has b [(6,.ptr p0 0),(10,.ptr p9 0)]->R (.exit 0) ⟨137,b,[],h'⟩):
  wpC P zB false (.loop zHN) ⟨137,tm,[],h⟩ R:=by
 generalize C:yX s symbols f left p l0=R0 at u B;refine wpC.round (λk tm h=>∃c p v l left,HD hb h c r p0 p9 s p log v l/\yX s symbols k left p l=R0/\symbols+2<=k+l.length/\l.length<=symbols/\p<=8*s.length/\left<=1048576/\c<=8*l.length+c0 /\
  Has tm [(11,dd (left:Nat)),(0,.ptr r 0),(6,.ptr p0 0),(10,.ptr p9 0),(2,dd symbols)]) f
  ⟨c,p,v,l0,left,d,C,hf,hl,K,w,hc,hs.sub rfl⟩ ?_
 clear d hs hl hf hc C K w;rintro k tm h ⟨c,p,v,l,left,d,C,hf,hl,K,w,hc,hs⟩;obtain⟨k,rfl⟩:∃g,k=g+1:=⟨k-1,oy⟩;have hb1:=d.bound;have e0:=d.ex.le;have hr1:=d.r1;have hl0':=d.l0;have G:h.low<=T.top:=oW d.ex.low L;refine wpC.av hs zRn rfl rfl ⟨λc1=>?_,λc1=>hs.on λb i=>?_⟩
 rotate_left
 .have:left=0:=oy
  subst this;have E:R0=some (l,p):=by rw[<-C];rfl
  exact B b h c v l p E oy d K hl (i.sub rfl)
 have t:0<left:=oy
 have m:R0=match wp s left p with
  | none=>none
  | some (v,q) =>
   if l.length=symbols then none
   else if v=1 then
    match ym s symbols (symbols+1) q (l.length+1)with
    | none=>none
    | some (n,r)=>yX s symbols k left r (l++List.replicate (n-l.length) 0)
   else yX s symbols k (left-max (v-1) 1) q (l++[(v:Int)-1]):=by
  rw[<-C];show(if left=0 then some (l,p) else _)=_;rw[if_neg oy];try rfl
 have next:∀x q,wp s left p=some (x,q)->∀h' c' b,HD hb h' c' r p0 p9 s q log v l->c'<=c+2->Has b [(0,.ptr r 0),(6,.ptr p0 0),(10,.ptr p9 0),(2,dd symbols),(14,dd (x:Nat)),(11,dd (left:Nat))] ->
   Wf Zd KA ⟨137,b,[],h'⟩ (λe s1=>(zp Zd (thenC (λs1=>s1.n=137/\s1.dfr=[]/\∃j,j<k+1/\∃c p v l left,HD hb s1.heap c r p0 p9 s p log v l/\yX s symbols j left p l=R0/\symbols+2<=j+l.length/\l.length<=symbols/\p<=8*s.length/\left<=1048576/\c<=8*l.length+c0 /\
    Has s1.tm [(11,dd (left:Nat)),(0,.ptr r 0),(6,.ptr p0 0),(10,.ptr p9 0),(2,dd symbols)]) R)) (exitB 1 e) s1):=by
  intro x q hx h' c' b d' hc' i;obtain⟨D,hq⟩:=JK t hx;rw[hx]at m;simp only at m;refine zII (c0:=c0) d' i A hq hl Z D w t oy oy (λE e M F he I g2 g3=>?_) (λD z M F N v2 O d2 I=>?_) (λD z M F N v2 l2 q2 hz hl2 hlt O d2 hq2 S I=>?_)
  .refine I.slt λJ U=>?_
   refine u ?_ e J F he (U.sub rfl) g2 g3;rw[m];rcases E with E|⟨E,hn2⟩
   .rw[if_pos E]
   by_cases z:l.length=symbols
   .rw[if_pos z]
   rw[if_neg z,if_pos E,hn2]
  .rw[if_neg z,if_neg D]at m;show zp Zd _ (exitB 1 (.exit 1)) _;rw[j5];refine I.slt λJ U=>?_
   exact⟨rfl,rfl,k,oy,N,q,v2,_,_,d2,m.symm,by simp;omega,by simp;omega,hq,oy,by simp;omega,U.sub rfl⟩
  rw[if_neg z,if_pos D,hz]at m;simp only at m;refine I.slt λJ U=>?_
  exact⟨rfl,rfl,k,oy,N,q2,v2,l2,left,d2,by rw[m];congr 1,oy,S,hq2,w,O,U.sub rfl⟩
 have hsb:=JN left;have hB:xX left<=21:=yK;have hB0:=zDp left;have hT:=zHt t;have eb:zG ((xX left:Nat)-1:Int)=((xX left-1:Nat):Int):=by rw[zD oy oy];omega
 have fl:=jE s p (xX left-1);have pw:2^(xX left-1)<=2^20:=Nat.pow_le_pow_right db oy;have W:wp s left p=none->R0=none:=λE=>by rw[m,E]
 refine zP8 w oy G ⟨(xX left:Nat),(shT left:Nat),rfl,?_⟩;try dsimp only
 rw[eb];refine qR (n:=xX left-1) d.gr oy oy A K oy (λN h1 X I=>?_) (λN h1 X=>?_)
 rotate_left
 .have y:ExtX (· = r) hb h1 (c+1):=d.ex.trans (ExtX.of X);have g0:h1.get p0=some (oD 0 .nilslice):=(X.get _ d.l0).trans d.g0;have:=X.le;refine⟨0,brk 5,rfl,qF ⟨_,z6 xO g0 rfl,hs.on λb i=>u (W ?_) 5 b _ (.inl rfl) (i.sub rfl) ((y.upd _ oy (.inr d.q0)).more oy) (zF _)⟩⟩;unfold wp;rw[if_pos oy]
 have d1:=d.take X I;have hb2:=d1.bound;have e1:=d1.ex.le;have hl1':=d1.l0;refine⟨_,.nilIface,rfl,ZH ⟨λc3=>?_,λc3=>hs.on λb i=>?_⟩⟩
 rotate_left
 · -- a bit less is enough
  refine next (zu s p (xX left-1)) (p+(xX left-1)) ?_ h1 (c+1) b d1 oy (i.sub rfl);unfold wp;rw[if_neg oy,if_pos oy]
 refine qR (n:=1) d1.gr oy oy A oy db (λc4 F Y g2=>?_) (λc4 F Y=>?_)
 rotate_left
 .have y:ExtX (· = r) hb F (c+1+1):=d1.ex.trans (ExtX.of Y);have g0:F.get p0=some (oD 0 .nilslice):=(Y.get _ d1.l0).trans d1.g0;have:=Y.le;refine⟨0,brk 5,rfl,qF ⟨_,z6 xO g0 rfl,hs.on λb i=>u (W ?_) 5 b _ (.inl rfl) (i.sub rfl) ((y.upd _ oy (.inr d.q0)).more oy) (zF _)⟩⟩;unfold wp;rw[if_neg oy,if_neg oy,if_pos oy]
 have d2:=d1.take Y g2;have ep:p+(xX left-1)+1=p+xX left:=oy
 rw[ep]at d2;have hsl:=zKR s p hB0;have S:=Z5 s (p+(xX left-1));have f1:zu s (p+(xX left-1)) 1=wY s (p+(xX left-1)):=by simp[zu]
 have mm:wY s (p+(xX left-1))*2^(xX left-1)<=1*2^(xX left-1):=Nat.mul_le_mul_right _ oy;have o:wp s left p=some (if 2^(xX left-1)<=zu s p (xX left) then zu s p (xX left)-shT left else zu s p (xX left),p+xX left):=by unfold wp;rw[if_neg oy,if_neg oy,if_neg oy]
 have ev:zG (((zu s p (xX left-1):Nat):Int)+((wY s (p+(xX left-1))*2^(xX left-1):Nat):Int))=((zu s p (xX left):Nat):Int):=by rw[zD oy oy,hsl];rfl
 rw[f1];refine⟨_,.nilIface,rfl,ZH ⟨((wY s (p+(xX left-1))*2^(xX left-1):Nat):Int),zz (n:=xX left-1) oy oy,((1*2^(xX left-1):Nat):Int),zz (a:=1) (n:=xX left-1) oy oy,λc5=>hs.on λb i=>?_,λc5=>hs.on λb i=>?_⟩⟩
 .rw[ev]at c5;have c6:2^(xX left-1)<=zu s p (xX left):=oy
  rw[if_pos c6]at o;have fu:=jE s p (xX left);have e2:zG (zG (((zu s p (xX left-1):Nat):Int)+((wY s (p+(xX left-1))*2^(xX left-1):Nat):Int))-(shT left:Nat))=((zu s p (xX left)-shT left:Nat):Int):=by
   have:shT left<=zu s p (xX left):=by unfold shT at *;omega
   try dsimp only
   rw[ev,zD oy oy];omega
  refine next _ _ o F (c+1+1) b d2 oy ?_
  try dsimp only
  rw[<-e2];exact i.sub rfl
 rw[ev]at c5;have c6:¬2^(xX left-1)<=zu s p (xX left):=oy
 rw[if_neg c6]at o;refine next _ _ o F (c+1+1) b d2 oy ?_
 try dsimp only
 rw[<-ev];exact i.sub rfl
def kG(s:Ua)(most:Nat):Prop:=4<=8*s.length/\most<zu s 0 4+5
instance(s:Ua)(most:Nat):Decidable (kG s most):=inferInstanceAs (Decidable (_/\_))
def yl(s:Ua)(most symbols:Nat):Option (Nat×List Int×Nat) :=
 if 8*s.length<4 then none
 else if most<zu s 0 4+5 then none
 else (yX s symbols (symbols+2) (2^(zu s 0 4+5)) 4 []).map λx=>(zu s 0 4+5,x.1,x.2)
theorem zRV{most symbols:Nat}(hg:h.get r=some (oRd s 0))(hr:r<h.nx)(o:s.length<=1048576)(F:symbols<=256)(hnx:h.nx+8*symbols+30<=T.top)(z:h.low<=T.top)(_:most<=15)(j:yl s most symbols=none->∀e h',(e=31↔kG s most)->e=5\/e=23\/e=31->ExtX (· = r) h h' (8*symbols+30)->Q (.tuple [.agg [dd 0,.nilslice],brk e]) h')(t:∀log l p v h',yl s most symbols=some (log,l,p)->ExtX (· = r) h h' (8*symbols+30)->h'.get r=some (oRd s p)->Ow h' v yn l.length (zV l)->(∀b,yG v=some b->h.nx<=b)->p<=8*s.length->l.length<=symbols->Q (.tuple [.agg [dd (log:Nat),v],.nilIface]) h'):
  RF P zB 137 [.ptr r 0,dd most,dd symbols] h Q:=by
 refine yU z0V ⟨oy,?_⟩;rintro p0 h1 rfl e1;obtain⟨n1,G,O⟩:=zq e1;have H:h1.get r=some (oRd s 0):=(G.get _ hr).trans hg;refine qR (n:=4) H oy oy o oy db (λS m q g3=>?_) (λS m q=>?_)
 rotate_left
 · -- bits are missing
  have g0:m.get h.nx=some (oD 0 .nilslice):=(q.get _ oy).trans O;have:=q.le;have y:ExtX (· = r) h m (1+1):=(ExtX.of G).trans (ExtX.of q);have A:yl s most symbols=none:=by unfold yl;rw[if_pos oy]
  refine⟨0,brk 5,rfl,qF ⟨_,z6 xO g0 rfl,endL.ok (leaveL.cell (zO xO rfl (zF _) rfl) rfl) ?_⟩⟩;refine j A 5 _ ⟨λg=>absurd g db,λg=>absurd g.1 oy⟩ (.inl rfl) ((y.upd _ oy (.inr (oV _))).more oy)
 have t3:=q.top;have t3':=q.le;refine⟨_,.nilIface,rfl,ZH ⟨oy,?_⟩⟩;rintro p8 U rfl e9;obtain⟨n9,V,g9⟩:=zq e9;have f4:=jE s 0 4;have el:zG (((zu s 0 4:Nat):Int)+5)=((zu s 0 4+5:Nat):Int):=by rw[zD oy oy];rfl
 rw[el];obtain⟨i,I,w,B,J,n10⟩:∃i,zZ zB 59 U (.ptr m.nx 0) (.agg [dd ((zu s 0 4+5:Nat):Int),.nilslice])=some i/\i.get m.nx=some (oD ((zu s 0 4+5:Nat):Int) .nilslice)/\(∀b,b<m.nx->i.get b=m.get b)/\Ext m i 1/\i.nx=U.nx :=
  ⟨_,z6 xO g9 rfl,zF _,λb hb=>by rw[zS _,V.get _ hb],V.upd _ oy (oV _),rfl⟩
 have y:ExtX (· = r) h i (1+1+1):=((ExtX.of G).trans q).trans (ExtX.of J);have g0:i.get h.nx=some (oD 0 .nilslice):=(B _ oy).trans ((q.get _ oy oy).trans O);refine⟨i,I,_,zK zm rfl w rfl,λc=>?_,λc=>⟨_,zK zm rfl w rfl,((1*2^(zu s 0 4+5):Nat):Int),zz (a:=1) oy ?_,Has.nil.on λtm hs=>?_⟩⟩
 · -- too accurate
  have A:yl s most symbols=none:=by unfold yl;rw[if_neg oy,if_pos oy]
  refine Yb ⟨_,z6 xO g0 rfl,endL.ok (leaveL.cell (zO xO rfl (zF _) rfl) rfl) ?_⟩;refine j A 31 _ ⟨λ_=>⟨oy,oy⟩,λ_=>rfl⟩ (.inr (.inr rfl)) ((y.upd _ oy (.inr (oV _))).more oy)
 .have:2^(zu s 0 4+5)<=2^20:=Nat.pow_le_pow_right db oy;omega
 have pw:2^(zu s 0 4+5)<=2^20:=Nat.pow_le_pow_right db oy;have C:yl s most symbols=(yX s symbols (symbols+2) (2^(zu s 0 4+5)) 4 []).map λx=>(zu s 0 4+5,x.1,x.2):=by unfold yl;rw[if_neg oy,if_neg oy]
 have d:HD h i 3 r h.nx m.nx s 4 ((zu s 0 4+5:Nat):Int) .nilslice [] :=
  ⟨y,(B _ oy).trans g3,g0,w,Ow.nil _ _,λb e=>(by cases e),hr,oV _,oy,oy,oy,oy⟩
 have D:=hs.sub (l':=[(11,dd ((1*2^(zu s 0 4+5):Nat):Int)),(0,.ptr r 0),(6,.ptr h.nx 0),(10,.ptr m.nx 0),(2,dd symbols),(7,.nilIface)]) rfl;rw[Nat.one_mul]at D;refine zLA (c0:=3) (f:=symbols+2) d D o oy (by simp) F oy (by simp) (by simp) oy z (λA e K W he k X g2=>?_) (λK W S Y l2 p2 hz hc2 d2 L M k=>?_)
 .have y2':=X.le;refine endW.ok (leave.cell (k.get rfl) (zO xO rfl g2 rfl) (leave.tmp (k.get rfl) rfl)) ?_;refine j (by rw[C,A];rfl) e W ⟨λg=>oy,λg=>absurd g.2 oy⟩ oy (X.more oy)
 have b2:=d2.bound;have l0:=d2.l0;have Z:=d2.ex.le;refine thenC.out ?_;refine wpS.av k zSh rfl rfl ⟨_,_,zO xO rfl d2.g9 rfl,_,z6 xO d2.g0 (by rfl) (by rfl) (oQ _) ?_,k.on λtm3 E=>?_⟩
 .show za [dd ((zu s 0 4+5:Nat):Int),Y]=true;exact yY.2 λu N=>by
   rcases oq.1 N with rfl|N
   .rfl
   exact yY.1 d2.ow.cells.2 u N
 refine endW.ok (leave.cell (E.get rfl) (zO xO rfl (zF _) rfl) (leave.tmp (E.get rfl) rfl)) ?_;refine t _ l2 p2 Y _ (by rw[C,hz];rfl) ((d2.ex.upd _ oy (.inr d2.q0)).more oy) ?_ ?_ (λb e=>(d2.vb b e).1) L M
 .rw[zS _];exact d2.gr
 exact d2.ow.keep (oV _) λb e=>zS _ (by have:=(d2.vb b e).2.1;omega)
open Go.RowKit Go.Extern.Stop Go.Stop Go.Extern
section
set_option maxRecDepth 100000
theorem Xn(w:World):(callFunc 394 #[.agg #[.pointer (some ⟨1,24,none⟩)]]).run Tryz.prog w = .ok (.value (.bool true)) w:=da
theorem zCB(v:Value)(w:World):(callFunc 210 #[.iface 24 v]).run Tryz.prog w = .ok (.value (.iface 322 (.agg #[.pointer (some ⟨1,24,none⟩)]))) w:=da
theorem qB(v:Value)(w:World):(Go.method 545 322 v "Comparable").run Tryz.prog w = .ok (394,v) w:=da
theorem zU1(v:Value)(a:TypeId)(w:World):(Instr.typeAssert (.iface 24 v) a 324 true).run Tryz.prog w = .ok (.tuple #[.nilIface,.bool false]) w:=run_typeAssert_lacksB Tryz.underlying324 da da v a w
theorem zCE(v:Value)(a:TypeId)(w:World):(Instr.typeAssert (.iface 24 v) a 327 true).run Tryz.prog w = .ok (.tuple #[.nilIface,.bool false]) w:=run_typeAssert_lacksB Tryz.underlying327 da da v a w
theorem zAL(v:Value)(a:TypeId)(w:World):(Instr.typeAssert (.iface 24 v) a 329 true).run Tryz.prog w = .ok (.tuple #[.nilIface,.bool false]) w:=run_typeAssert_lacksB Tryz.underlying329 da da v a w
theorem zU2(v:Value)(a:TypeId)(w:World):(Instr.typeAssert (.iface 269 v) a 324 true).run Tryz.prog w = .ok (.tuple #[.nilIface,.bool false]) w:=run_typeAssert_lacksB Tryz.underlying324 da da v a w
theorem Oq(v:Value)(a:TypeId)(w:World):(Instr.typeAssert (.iface 269 v) a 327 true).run Tryz.prog w = .ok (.tuple #[.iface 269 v,.bool true]) w:=run_typeAssert_hasB Tryz.underlying327 da v a w
theorem Xt(v:Value)(w:World):(Go.method 545 269 v "Unwrap").run Tryz.prog w = .ok (390,v) w:=da
theorem eqE(e:Int)(w:World):(binOp .eql 163 (.iface 24 (.int .i64 e)) (.iface 24 (.int .i64 31))).run Tryz.prog w = .ok (.bool (decide (e=31))) w:=da
theorem zMc(w:World):
  Calls Tryz.prog 138 #[.iface 269 (.agg #[.iface 24 (.int .i64 31)]),.iface 24 (.int .i64 31)] w λx w'=>x = .returned (.bool true)/\w'=w.alloc (.cells #[.iface 24 (.int .i64 31)] 269):=by
 have b:=zCB;have d:=Xn;have e:=qB;have f:=zU1;have g:=zCE;have i:=zAL;have j:=zU2;have k:=Oq;have m:=Xt;have a:=run_eql_iface_types (P:=Tryz.prog) 269 24 (.agg #[.iface 24 (.int .i64 31)]) (.int .i64 31) Tryz.underlying163 db;have heq:∀w,(binOp .eql 163 (.iface 24 (.int .i64 31)) (.iface 24 (.int .i64 31))).run Tryz.prog w = .ok (.bool true) w:=λw=>eqE 31 w
 go_enter Tryz.func138,Tryz.ntmps138
 go_wp2
 refine wp_loop_rounds 2 ?_;try dsimp only
 rw[rounds_succ]
 go_wp2
 simp only[Array.getD,List.size_toArray,og,List.length_nil,Nat.reduceAdd,Nat.reduceLT,dite_true,Array.getInternal];rw[rounds_succ]
 go_wp2
 go_ret
 refine⟨rfl,?_⟩;rfl
theorem zMd(e:Int)(a:e≠31)(w:World):
  Calls Tryz.prog 138 #[.iface 269 (.agg #[.iface 24 (.int .i64 e)]),.iface 24 (.int .i64 31)] w λx w'=>x = .returned (.bool false)/\w'=w.alloc (.cells #[.iface 24 (.int .i64 e)] 269):=by
 have d:=zCB;have f:=Xn;have g:=qB;have i:=zU1;have j:=zCE;have k:=zAL;have m:=zU2;have o:=Oq;have q:=Xt;have b:=run_eql_iface_types (P:=Tryz.prog) 269 24 (.agg #[.iface 24 (.int .i64 e)]) (.int .i64 31) Tryz.underlying163 db;have heq:∀w,(binOp .eql 163 (.iface 24 (.int .i64 e)) (.iface 24 (.int .i64 31))).run Tryz.prog w = .ok (.bool false) w:=λw=>by rw[eqE e w,decide_eq_false a]
 go_enter Tryz.func138,Tryz.ntmps138
 go_wp2
 refine wp_loop_rounds 2 ?_;try dsimp only
 rw[rounds_succ]
 go_wp2
 simp only[Array.getD,List.size_toArray,og,List.length_nil,Nat.reduceAdd,Nat.reduceLT,dite_true,Array.getInternal];rw[rounds_succ]
 go_wp2
 go_ret
 refine⟨rfl,?_⟩;rfl
theorem zWP(w:World):
  Calls Tryz.prog 138 #[.nilIface,.iface 24 (.int .i64 31)] w λx w'=>x = .returned (.bool false)/\w'=w:=by
 have a:=run_eql_iface_nil_left (P:=Tryz.prog) w 24 (.int .i64 31) Tryz.underlying163
 go_enter Tryz.func138,Tryz.ntmps138
 go_wp2
 go_ret
 exact⟨rfl,rfl⟩
end
theorem _root_.Go.Sim.HR.alloc{ρ:Env}{D:Nat->Prop}{w:World}(r:HR ρ D h w)(x:Obj):HR ρ D h (w.alloc x) where
 cap:=r.cap
 lt:=r.lt
 rel:=λid o d g=>by rw[Go.RowKit.Below.heap_alloc w x _ (r.lt_size d g)];exact r.rel id o d g
 inj:=r.inj
theorem _root_.Go.Sim.Mv.alloc(ρ:Env)(D:Nat->Prop)(h:H)(w:World)(x:Obj):Mv ρ D h w ρ h (w.alloc x) where
 nx:=oV _
 size:=by show w.heap.size<=(w.heap.push x).size;simp
 os:=rfl
 tape:=⟨rfl,oV _⟩
 output:=rfl
 agree:=Agree.refl _ _
 old:=λid o _ g=>⟨o,g,rfl⟩
 img:=λid o h1 h2 _=>absurd h2 oy
 frame:=λr hr _=>Go.RowKit.Below.heap_alloc w x r hr
 low:=oV _
 kept:=λ_ _ _=>rfl
theorem _root_.Go.Sim.SimF.of_calls{P:Program}{f:Nat}{args:Ug}{b:Bool}(a:∀ρ w,Calls P f (args.map (V.conc ρ)).toArray w λx w'=>x = .returned (.bool b)/\(w'=w\/∃o,w'=w.alloc o)):SimF P f args h (.ret (.bool b) h):=by
 intro ρ D w r _;refine callsIn_wide.2 ((a ρ w).mono ?_);rintro x w' ⟨rfl,rfl|⟨o,rfl⟩⟩
 .exact⟨ρ,rfl,Mv.refl _ _ _ _,by rw[zr];exact r,trivial⟩
 exact⟨ρ,rfl,Mv.alloc _ _ _ _ _,by rw[zr];exact r.alloc o,trivial⟩
theorem zZO:∃fi,zB.fn.get 138=some fi:=Option.isSome_iff_exists.1 da
theorem zMT{e:Int}(b:Q (.bool (decide (e=31))) h):RF P zB 138 [brk e,.iface 24 (dd 31)] h Q:=by
 refine⟨_,h,⟨zZO,SimF.of_calls λρ w=>?_⟩,b⟩;by_cases a:e=31
 .subst a;exact(zMc w).mono λx w' g=>⟨g.1,.inr ⟨_,g.2⟩⟩
 rw[decide_eq_false a];exact(zMd e a w).mono λx w' g=>⟨g.1,.inr ⟨_,g.2⟩⟩
theorem zEj(a:Q (.bool false) h):RF P zB 138 [.nilIface,.iface 24 (dd 31)] h Q :=
 ⟨_,h,⟨zZO,SimF.of_calls λ_ w=>(zWP w).mono λ_ _ g=>⟨g.1,.inl g.2⟩⟩,a⟩
theorem _root_.Go.Sim.thenC.nx{K:St->Prop}{s:St}(h:K s):thenC K R .normal s:=h
theorem zHx(s:Ua):zH s 0 s.length=s:=by simp[zH]
abbrev flt(e at':Int):V:=.agg [dd e,dd at']
theorem zEc(Y:s.length<=2000)(hnx:h.nx+200<=T.top)(D:h.low<=T.top)(y:yl s 6 12=none->∀h',Ext h h' 150->Q (.tuple [.agg [dd 0,.nilslice],dd 0,flt (if kG s 6 then 31 else 23) 0]) h')(z:∀log l p v h',yl s 6 12=some (log,l,p)->Ext h h' 150->Ow h' v yn l.length (zV l)->(∀b,yG v=some b->h.nx<=b)->p<=8*s.length->l.length<=12->Q (.tuple [.agg [dd (log:Nat),v],dd ((p+7)/8:Nat),flt 0 0]) h'):
  RF P zB 80 [.str s,dd 0,dd 6,dd 12] h Q:=by
 refine yU z4R ⟨oy,?_⟩;rintro p0 h1 rfl e1;obtain⟨n1,x1,g1⟩:=zq e1;refine⟨oy,?_⟩;rintro p2 E rfl e3;obtain⟨n3,Z,g3⟩:=zq e3;refine⟨λc=>absurd c db,λ_=>⟨λc=>absurd c (by show ¬((s.length:Int)<0);omega),λ_=>⟨λc=>absurd c db,λ_=>⟨λc=>absurd c db,λ_=>⟨λc=>absurd c db,λ_=>⟨λc=>absurd c db,λ_=>Has.nil.on λtm hs=>?_⟩⟩⟩⟩⟩⟩;refine wpS.av hs zXo rfl rfl (hs.on λqM M=>?_);refine thenC.nx (M.sealK λtm2 m=>?_);have em:min (Int.ofNat s.length) (zG (0+2000))=(s.length:Int):=by show min (s.length:Int) (zG 2000)=_;rw[zD oy oy];omega
 refine wpS.av m zXp rfl rfl ⟨s,by rw[em];have:=xN (s:=s) (h:=E) (oQ s.length) (oV _);rwa [zHx]at this,oy,?_⟩;rintro p1 h4 rfl e4;obtain⟨n4,x4,g4⟩:=zq e4;obtain⟨k,e5,g5,N,n5⟩:∃k,zZ zB 112 h4 (.ptr E.nx 0) (.agg [.str s,dd 0])=some k/\k.get E.nx=some (oRd s 0)/\Ext E k 1/\k.nx=h4.nx :=
  ⟨_,z6 yt g4 rfl,zF _,x4.upd _ oy (oV _),rfl⟩
 have o:Ext h k (1+1+1):=(x1.trans Z).trans N;have F:k.get h.nx=some (oD 0 .nilslice):=by rw[N.get _ oy,Z.get _ oy];exact g1
 have G:k.get h1.nx=some (.cells (.ls [dd 0,dd 0]) ⟨0,26+1,0⟩ true false):=by rw[N.get _ oy];exact g3
 have O:k.low<=T.top:=oW o.low D;refine⟨k,e5,zRV (most:=6) (symbols:=12) g5 oy oy db oy O db (λhn e i H he2 q=>?_) (λlog l p v i hz q gr ow hv hp hl=>?_)⟩
 · -- an error
  have I:=ExtX.ext o q (λb hb=>oy);have l6:=q.le;have A:i.get h.nx=some (oD 0 .nilslice):=(q.get _ oy oy).trans F;have B:i.get h1.nx=some (.cells (.ls [dd 0,dd 0]) ⟨0,26+1,0⟩ true false):=(q.get _ oy oy).trans G;have t6:=I.top;refine⟨0,.nilslice,brk e,rfl,?_⟩;obtain⟨d,S,t,C,U,n7⟩:∃d,zZ zB 59 i (.ptr h.nx 0) (.agg [dd 0,.nilslice])=some d/\d.get h.nx=some (oD 0 .nilslice)/\d.get h1.nx=some (.cells (.ls [dd 0,dd 0]) ⟨0,26+1,0⟩ true false)/\Ext h d (1+1+1+(8*12+30))/\d.nx=i.nx :=
   ⟨_,z6 xO A rfl,zF _,by rw[zS _];exact B,I.upd _ oy (oV _),rfl⟩
  obtain⟨f,K,w,x,L,n8⟩:∃f,zZ zB 59 d (.ptr h.nx 0) (.agg [dd 0,.nilslice])=some f/\f.get h.nx=some (oD 0 .nilslice)/\f.get h1.nx=some (.cells (.ls [dd 0,dd 0]) ⟨0,26+1,0⟩ true false)/\Ext h f (1+1+1+(8*12+30))/\f.nx=d.nx :=
   ⟨_,z6 xO t rfl,zF _,by rw[zS _];exact C,U.upd _ oy (oV _),rfl⟩
  refine⟨d,S,zMT ⟨_,rfl,λc=>?_,λc=>?_⟩⟩
  .have V:e=31:=of_decide_eq_true c;have j:=H.1 V;refine⟨f,K,_,z6 zd x rfl,m.on λJ a=>endW.ok (leave.cell (a.get rfl) (zO xO rfl ((zS _).trans w) rfl) (leave.tmp (a.get rfl) (leave.cell (a.get rfl) (zO zd rfl (zF _) rfl) rfl))) ?_⟩;have:=y hn (f.upd h1.nx (some (.cells (.ls [dd 31,dd 0]) ⟨0,26+1,0⟩ true false))) ((L.upd _ oy oy).mono oy);rw[if_pos j]at this;exact this
  have V:e≠31:=of_decide_eq_false c;have j:¬kG s 6:=λg=>V (H.2 g)
  refine qF ⟨f,K,_,z6 zd x rfl,m.on λJ a=>endW.ok (leave.cell (a.get rfl) (zO xO rfl ((zS _).trans w) rfl) (leave.tmp (a.get rfl) (leave.cell (a.get rfl) (zO zd rfl (zF _) rfl) rfl))) ?_⟩;have:=y hn (f.upd h1.nx (some (.cells (.ls [dd 23,dd 0]) ⟨0,26+1,0⟩ true false))) ((L.upd _ oy oy).mono oy);rw[if_neg j]at this;exact this
 -- the distribution
 have I:=ExtX.ext o q (λb hb=>oy);have l6:=q.le;have A:i.get h.nx=some (oD 0 .nilslice):=(q.get _ oy oy).trans F;have B:i.get h1.nx=some (.cells (.ls [dd 0,dd 0]) ⟨0,26+1,0⟩ true false):=(q.get _ oy oy).trans G;have t6:=I.top;obtain⟨c1,c2⟩:=ow.cells;have ho:za [dd ((log:Nat):Int),v]=true:=yY.2 λu W=>by
  rcases oq.1 W with rfl|W
  .rfl
  exact yY.1 c2 u W
 refine⟨_,v,.nilIface,rfl,?_⟩;obtain⟨d,S,t,C,U,n7,k7⟩:∃d,zZ zB 59 i (.ptr h.nx 0) (.agg [dd ((log:Nat):Int),v])=some d/\d.get h.nx=some (oD ((log:Nat):Int) v)/\d.get h1.nx=some (.cells (.ls [dd 0,dd 0]) ⟨0,26+1,0⟩ true false)/\Ext h d (1+1+1+(8*12+30))/\d.nx=i.nx/\∀b,b≠h.nx->d.get b=i.get b :=
  ⟨_,z6 xO A rfl rfl (oQ _) ho,zF _,by rw[zS _];exact B,I.upd _ oy (oV _),rfl,λb hb=>zS _ hb⟩
 refine⟨d,S,zEj ⟨_,rfl,λc=>(by cases c),λ_=>ZH ?_⟩⟩;have X:d.get E.nx=some (oRd s p):=(k7 _ oy).trans gr;refine⟨s,(p:Nat),zO yt rfl X rfl,zNh oy hp ⟨_,_,rfl,_,v,zO xO rfl t rfl,?_⟩⟩;obtain⟨f,K,w,x,L,n8,k8⟩:∃f,zZ zB 59 d (.ptr h.nx 0) (.agg [dd ((log:Nat):Int),v])=some f/\f.get h.nx=some (oD ((log:Nat):Int) v)/\f.get h1.nx=some (.cells (.ls [dd 0,dd 0]) ⟨0,26+1,0⟩ true false)/\Ext h f (1+1+1+(8*12+30))/\f.nx=d.nx/\∀b,b≠h.nx->f.get b=d.get b :=
  ⟨_,z6 xO t rfl rfl (oQ _) ho,zF _,by rw[zS _];exact C,U.upd _ oy (oV _),rfl,λb hb=>zS _ hb⟩
 have ew:zG (0+(((p+7)/8:Nat):Int))=(((p+7)/8:Nat):Int):=by rw[zD oy oy];omega
 refine⟨f,K,_,z6 zd x rfl,m.on λJ a=>endW.ok (leave.cell (a.get rfl) (zO xO rfl ((zS _).trans w) rfl) (leave.tmp (a.get rfl) (leave.cell (a.get rfl) (zO zd rfl (zF _) rfl) rfl))) ?_⟩;try dsimp only
 rw[ew];refine z log l p v _ hz ((L.upd _ oy oy).mono oy) (ow.keep ?_ λb e=>?_) (λb e=>oW o.le (hv b e)) hp hl
 .show i.nx<=f.nx;omega
 have:=hv b e;rw[zS _,k8 _ oy,k7 _ oy]
end Go.Proofs.YtnpeieeomokomaaGreat
