/- TN. No condition. -/
import Derived.Test.YtnpeieeomokomaaGreatZTA
import Derived.Test.YtnpeieeomokomaaGreatZCG
import Derived.Test.YtnpeieeomokomaaGreatZW
set_option maxRecDepth 100000
namespace Go.Proofs.YtnpeieeomokomaaGreat
open Go.Sim
variable {h:H}{Q:Uc}
variable{x:Int}{s:Ua}{k n p:Nat}{tm:Tm}
def kg(s:Ua)(x e y:Int):Ug:=[.str s,dd x,dd e,dd y]
def oC(s:Ua)(x e y:Int):O:=.cells (.ls (kg s x e y)) ⟨0,81,0⟩ true false
def cR(s:Ua)(x e y:Int):O:=.cells (.ls (kg s x e y)) ⟨0,156,0⟩ true false
theorem zHJ{a e y:Int}(b:h.get p=some (oC s x e y))(h0:0<=a)(h1:a<=s.length)(d:Q (.bool true) h):RF P zB 260 [dd a,.ptr p 0] h Q:=by refine RF.enterE yA zZG (ble _ _ rfl) (ble _ _ rfl) (z1F a _ h Q) ⟨λ_=>?_,λc=>absurd h0 c⟩;show ∃l2,zo zB 9 h (.ptr p (0+0))=some (.str l2)/\_;exact⟨s,zK kO rfl b rfl,λ_=>d,λc=>absurd h1 c⟩
theorem zPt(b:h.nx<T.top)(h0:0<=x)(h1:x<=s.length)(d:∀h',Ext h h' 1->Q (.bool true) h'):RF P zB 186 [.agg (kg s x 0 0)] h Q:=by refine RF.enterE yA zZE (ble _ _ rfl) (ble _ _ rfl) (z0h s x 0 0 h Q) ⟨b,?_⟩;rintro p i rfl rfl;have a:=zM (h:=h) (.cells (.ls (kg s x 0 0)) ⟨0,81,0⟩ true false) b;have f:=Ext.new (h:=h) (.cells (.ls (kg s x 0 0)) ⟨0,81,0⟩ true false) b;refine⟨0,zK yh rfl a rfl,λ_=>⟨x,zK zm rfl a rfl,zHJ (s:=s) (x:=x) (e:=0) (y:=0) a h0 h1 ⟨true,rfl,λ_=>⟨0,zK zm rfl a rfl,λ_=>d _ f,λc=>absurd rfl c⟩,λg=>(by cases g)⟩⟩,λc=>absurd rfl c⟩
theorem zNn(o:∀h' p,Ext h h' 3->h.nx<=p->p<h'.nx->h'.get p=some (cR s x 0 0)->Q (.ptr p 0) h')(r:h.nx+3<=T.top:=by omega)(h0:0<=x:=by omega)(h1:x<=s.length:=by omega):RF P zB 114 [.agg (kg s x 0 0)] h Q:=by
 refine RF.enterE yA zYw (ble _ _ rfl) (ble _ _ rfl) (z0J s x 0 0 h Q) ⟨oy,?_⟩;rintro p d rfl e;have t:d.nx=h.nx+1:=by rw[e,z8]
 have j:Ext h d 1:=by rw[e];exact Ext.new _ oy
 have l:d.get h.nx=some (oC s x 0 0):=by rw[e];exact zM _ oy
 refine⟨_,_,_,_,zO wI rfl l rfl,zPt oy h0 h1 λm c=>⟨true,rfl,λ_=>?_,λg=>(by cases g)⟩⟩;have u:=c.top;have v:=c.le;refine⟨_,_,_,_,zO wI rfl ((c.get _ oy).trans l) rfl,oy,?_⟩;rintro q a rfl b;have f:Ext m a 1:=by rw[b];exact Ext.new _ oy
 have i:a.get m.nx=some (cR s x 0 0):=by rw[b];exact zM _ oy
 exact o a _ (((j.trans c).trans f).mono oy) (by have:=j.le;omega) (by rw[b,z8];omega) i
theorem Jb{e y:Int}(b:h.get p=some (cR s x e y))(a:Q (.bool (decide (e≠0))) h):RF P zB 116 [.ptr p 0] h Q:=by
 refine RF.enterE yA zYy (ble _ _ rfl) (ble _ _ rfl) (z0L _ h Q) ⟨.ptr p 0,h,rfl,?_⟩;show ∃d,zo zB 24 h (.ptr p (0+0+2+0))=some (dd d)/\_;refine⟨e,zK yh rfl b rfl,λc=>?_,λc=>?_⟩
 .rwa [decide_eq_true c]at a
 rwa [decide_eq_false c]at a
theorem zQn{y:Int}(a:h.get p=some (cR s x 0 y))(e:h.nx<=T.top)(hl:h.low<=T.top)(l:Q (dd (zG ((s.length:Int)-x))) h):RF P zB 188 [.ptr p 0] h Q:=by
 obtain⟨f,i⟩:=xg e hl;refine RF.enterE yA zZF (ble _ _ rfl) (ble _ _ rfl) (z0i _ h Q) (Jb a ⟨_,rfl,λg=>absurd g (by simp),λ_=>⟨⟨e,hl⟩,.ptr p 0,zX h,rfl,f,?_⟩⟩);try dsimp only
 rw[i];rintro j rfl;show ∃b,zo zB 9 j (.ptr p (0+0+0))=some (.str b)/\_;refine⟨s,zK kO rfl a rfl,.ptr p 0,zX j,rfl,f,?_⟩;try dsimp only
 rw[i];rintro c rfl;show ∃d,zo zB 3 c (.ptr p (0+0+1))=some (dd d)/\_;exact⟨x,zK zm rfl a rfl,l⟩
theorem zVS(a0:V)(a1:V)(h:H)(k:H->Prop):wpC Tryz.prog zB false (bf 187) ⟨15,ze [a0,a1] 0 (Tb.leaf zC),[],h⟩ (zVt zB ⟨15,[],bf 187⟩ k)=(zP zB 26 0 h a0 (λv0 h1=>∃(d:Int),zo zB 24 h1 v0=some (.int .i64 d)/\((d≠(0:Int)->∃(v3:V),zo zB 152 h1 a1=some v3/\RF Tryz.prog zB 116 [v3] h1 (λv4 c=>∃(e:Bool),v4=(.bool e)/\((e=true->([]=([]:List AD)/\k c))/\(e=false->∃(l:V),zo zB 152 c a1=some l/\∃(m:Int) (o:Int),zo zB 26 c a0=some (.agg [(.int .i64 m),(.int .i64 o)])/\∃v10 a,yD zB ⟨none,.nilCheck (t 0),0, "",#[],none⟩ (λ_=>some l) c=some (.val v10 a)/\zP zB 155 0 a v10 (λf g=>zP zB 80 2 g f (λi j=>∃b,zZ zB 26 j i (.agg [(.int .i64 m),(.int .i64 o)])=some b/\([]=([]:List AD)/\k b)))))))/\(¬(d≠(0:Int))->([]=([]:List AD)/\k h1))))):=da
def oP(p:Nat):O:=.cells (.ls [.ptr p 0]) ⟨0,153,0⟩ true false
def oF(e y:Int):O:=.cells (.ls [dd e,dd y]) ⟨0,27,0⟩ true false
theorem zQl{q r:Nat}{e y:Int}{k:H->Prop}(hr:h.get r=some (cR s x 0 0))(b:h.get p=some (oF e y))(d:h.get q=some (oP r))(i:15≠n)(f:∀h',h'=(if e=0 then h else h.upd r (some (cR s x e y)))->k h'):RV P zB n 187 [.ptr p 0,.ptr q 0] h k:=by refine⟨_,zUG,ble _ _ rfl,ble _ _ rfl,i,Eq.mpr (zVS _ _ h k) ?_⟩;show ∃j,zo zB 24 h (.ptr p (0+0))=some (dd j)/\_;refine⟨e,zK yh rfl b rfl,λc=>?_,λc=>⟨rfl,f h (by rw[if_pos (Classical.not_not.1 c)])⟩⟩;refine⟨.ptr r 0,zK JV rfl d rfl,Jb hr ⟨_,rfl,λg=>absurd g (by simp),λ_=>?_⟩⟩;refine⟨.ptr r 0,zK JV rfl d rfl,e,y,zO zd rfl b rfl,.ptr r 0,h,rfl,?_⟩;show ∃a,zZ zB 26 h (.ptr r (0+0+2)) (.agg [dd e,dd y])=some a/\_;exact⟨_,z6 zd hr rfl,rfl,f _ (by rw[if_neg c];rfl)⟩
theorem O5{r n x:Nat}{s:Ua}(hr:h.get r=some (cR s x 0 0))(S:r<h.nx)(X:h.nx+2<=T.top)(hl:h.low<=T.top)(Y:x<=s.length)(hs:s.length<4611686018427387904)(U:n<4611686018427387904)(M:∀h',ExtX (· = r) h h' 2->(x+n<=s.length->h'.get r=some (cR s ((x+n:Nat):Int) 0 0)->Q (.str (zH s x (x+n))) h')/\(s.length<x+n->h'.get r=some (cR s x 5 s.length)->Q (.str []) h')):RF P zB 115 [.ptr r 0,dd n] h Q:=by
 refine RF.enterDE yA zYx (ble _ _ rfl) (ble _ _ rfl) (z0K (.ptr r 0) n h Q) ⟨rfl,oy,?_⟩;rintro p h1 rfl t;have Z:h1.nx=h.nx+1:=by rw[t,z8]
 have N:Ext h h1 1:=by rw[t];exact Ext.new _ oy
 have V:h1.get h.nx=some (oP r):=by rw[t];exact zM _ oy
 clear t;refine⟨oy,?_⟩;rintro p2 d rfl u;have n3:d.nx=h1.nx+1:=by rw[u,z8]
 have w:Ext h1 d 1:=by rw[u];exact Ext.new _ oy
 have O:d.get h1.nx=some (oF 0 0):=by rw[u];exact zM _ oy
 clear u;have f:d.get h.nx=some (oP r):=by rw[w.get _ oy];exact V
 have gr:d.get r=some (cR s x 0 0):=by rw[w.get _ oy,N.get _ oy];exact hr
 have j:Ext h d 2:=(N.trans w).mono oy;have z:d.low<=T.top:=oW j.low hl;have l:d.nx<=T.top:=oy
 obtain⟨A,B⟩:=xg l z;refine⟨rfl,.ptr r 0,zK JV rfl f rfl,Jb gr ⟨_,rfl,λg=>absurd g (by simp),λ_=>⟨λc=>absurd c oy,λ_=>⟨.ptr r 0,zK JV rfl f rfl,zQn gr l z ⟨_,rfl,λc=>?_,λc=>?_⟩⟩⟩⟩⟩
 · -- too short
  rw[zD oy oy]at c;refine⟨.ptr r 0,zK JV rfl f rfl,.ptr r 0,d,rfl,?_⟩;show ∃C,zo zB 9 d (.ptr r (0+0+0))=some (.str C)/\_;refine⟨s,zK kO rfl gr rfl,?_⟩;obtain⟨a,D,E,v,F⟩:∃a,zZ zB 26 d (.ptr h1.nx 0) (.agg [dd 5,dd (Int.ofNat s.length)])=some a/\a.get h1.nx=some (oF 5 s.length)/\(∀i,i≠h1.nx->a.get i=d.get i)/\ExtX (· = r) h a 2:=⟨_,z6 zd O rfl,zF _,λi hi=>zS _ hi,(ExtX.of j).upd _ oy (.inr oy)⟩
  refine⟨a,D,?_⟩;show RV P zB 60 187 [.ptr h1.nx 0,.ptr h.nx 0] a _;refine zQl (p:=h1.nx) (q:=h.nx) (r:=r) (e:=5) (y:=s.length) ((v _ oy).trans gr) E ((v _ oy).trans f) db ?_;rintro R G;rw[if_neg db]at G;show Q (.str []) R;refine(M R ?_).2 oy ?_
  .rw[G];exact F.upd _ oy (.inl rfl)
  rw[G];exact zF _
 -- as many as that
 rw[zD oy oy]at c;refine⟨⟨l,z⟩,.ptr r 0,zK JV rfl f rfl,.ptr r 0,zX d,rfl,A,?_⟩;try dsimp only
 rw[B];rintro m rfl;show ∃H,zo zB 9 m (.ptr r (0+0+0))=some (.str H)/\_;refine⟨s,zK kO rfl gr rfl,.ptr r 0,zK JV rfl f rfl,.ptr r 0,zX m,rfl,A,?_⟩;try dsimp only
 rw[B];rintro o rfl;show ∃I,zo zB 3 o (.ptr r (0+0+1))=some (dd I)/\_;refine⟨x,zK zm rfl gr rfl,.ptr r 0,zK JV rfl f rfl,.ptr r 0,zX o,rfl,A,?_⟩;try dsimp only
 rw[B];rintro b rfl;show ∃J,zo zB 3 b (.ptr r (0+0+1))=some (dd J)/\_;refine⟨x,zK zm rfl gr rfl,zH s x (x+n),?_,.ptr r 0,zK JV rfl f rfl,.ptr r 0,b,rfl,?_⟩
 .rw[zD oy oy];exact xN oy oy
 show ∃K,zo zB 3 b (.ptr r (0+0+1))=some (dd K)/\_;refine⟨x,zK zm rfl gr rfl,.ptr r 0,b,rfl,?_⟩;try dsimp only
 rw[zD oy oy];show ∃L,zZ zB 3 b (.ptr r (0+0+1)) (dd ((x:Int)+(n:Int)))=some L/\_;obtain⟨a,D,E,v,F⟩:∃a,zZ zB 3 b (.ptr r (0+0+1)) (dd ((x:Int)+(n:Int)))=some a/\a.get r=some (cR s ((x+n:Nat):Int) 0 0)/\(∀i,i≠r->a.get i=b.get i)/\ExtX (· = r) h a 2:=⟨_,z6 zm gr rfl,zF _,λi hi=>zS _ hi,(ExtX.of j).upd _ oy (.inl rfl)⟩
 refine⟨a,D,?_⟩;show RV P zB 60 187 [.ptr h1.nx 0,.ptr h.nx 0] a _;refine⟨_,zUG,ble _ _ rfl,ble _ _ rfl,db,Eq.mpr (zVS _ _ a _) ?_⟩;show ∃W,zo zB 24 a (.ptr h1.nx (0+0))=some (dd W)/\_;refine⟨0,zK yh rfl ((v _ oy).trans O) rfl,λc=>absurd rfl c,λ_=>⟨rfl,?_⟩⟩;show Q (.str (zH s x (x+n))) a;exact(M a F).1 oy E
theorem OG{b:Bool}{x:Code}{d:List AD}{Q:Ud}(I:Nat->Tm->H->Prop)(k:Nat)(h0:I k tm h)(a:∀k tm h,I k tm h->wpC P zB b x ⟨n,tm,d,h⟩ (thenC (λs1=>s1.n=n/\s1.dfr=d/\∃j,j<k/\I j s1.tm s1.heap) Q)):wpC P zB b (.loop x) ⟨n,tm,d,h⟩ Q:=⟨I,⟨k,h0⟩,a⟩
theorem zHC(i:Nat):exitB i (.exit i) = .normal:=by simp[exitB]
theorem zDM{i:Nat}{K I:St->Prop}{R:Ud}{s:St}(h:K s):thenC I (λe s1=>thenC K R (exitB i e) s1) (.exit i) s:=by show thenC K R (exitB i (.exit i)) s;rw[zHC];exact h
theorem zKL{m a t o:Nat}{v:V}{body:Code}(b:zI tm a = .ptr p o)(c:zo zB t h (.ptr p o)=some v)(d:Q v h):endW zB ⟨n,[.cell a t],body⟩ Q .ret ⟨m,tm,[],h⟩:=by show(match leave zB _ tm h [.cell a t] []with|some vs=>Q (yP vs) h|none=>False);simp only[leave,b,c];exact d
theorem jg{m a t o a2:Nat}{v w:V}{body:Code}(b:zI tm a = .ptr p o)(c:zo zB t h (.ptr p o)=some v)(d:zI tm a2=w)(e:Q (.tuple [v,w]) h):endW zB ⟨n,[.cell a t,.tmp a2],body⟩ Q .ret ⟨m,tm,[],h⟩:=by show(match leave zB _ tm h [.cell a t,.tmp a2] []with|some vs=>Q (yP vs) h|none=>False);simp only[leave,b,c,d];exact e
theorem zCe{l:Ua}{i:Nat}{b:UInt8}(h:l[i]? = some b):wQ (l.take (i+1))=wQ (l.take i)+b.toNat*256^i:=by have hi:=(List.getElem?_eq_some_iff.1 h).1;rw[List.take_add_one,h,Option.toList_some,zPs,List.length_take,Nat.min_eq_left oy]
theorem zF0(i:Nat):2^(8*i)=256^i:=by rw[Nat.pow_mul]
theorem ZW{l:Ua}(hl:l.length<=6)(u:Q (.int .u64 (wQ l:Nat)) h):RF P zB 185 [.str l] h Q:=by
 refine RF.enterE yA zZD (ble _ _ rfl) (ble _ _ rfl) (z0g l h Q) ⟨λc=>?_,λ_=>⟨λc=>?_,λ_=>?_⟩⟩
 .have:(l.length:Int)=8:=c;omega
 .have:(l.length:Int)=7:=c;omega
 refine OG (λk tm h'=>∃i:Nat,i<=l.length/\k=l.length-i/\h'=h/\zI tm 26 = dd i/\zI tm 25 = dd (l.length:Int)/\zI tm 3 = .int .u64 (wQ (l.take i):Nat)/\zI tm 0 = .str l) l.length ?_ ?_
 .refine⟨0,oy,oy,rfl,da,?_,da,da⟩;have e:min (Int.ofNat l.length) 6=(l.length:Int):=by
   have:(Int.ofNat l.length)=(l.length:Int):=rfl;omega
  exact Eq.trans (b:=dd (min (Int.ofNat l.length) 6)) da (congrArg _ e)
 rintro k tm h' ⟨i,v,rfl,rfl,d,f,w,y⟩;rw[wH rfl d f w y];refine wpC.slt _ (zRz _ _ _ _ _ _ _ _) ⟨λc=>?_,λc g G _ _ a _=>?_⟩
 .have hi:i<l.length:=oy
  obtain⟨b,hb⟩:∃b,l[i]? = some b:=⟨l[i],oU hi⟩;have z:=b.toNat_lt;have H:256^(i+1)<=256^6:=Nat.pow_le_pow_right db oy;have A:b.toNat*256^i<=255*256^i:=Nat.mul_le_mul_right _ oy;have B:256^(i+1)=256^i*256:=Nat.pow_succ _ _;have r:=Y8 (l.take i);rw[List.length_take,Nat.min_eq_left v]at r;have C:(256:Nat)^6=281474976710656:=db
  have D:zG ((8:Int)*(i:Int))=((8*i:Nat):Int):=by rw[zD oy oy];omega
  refine⟨_,yR hb,((b.toNat*2^(8*i):Nat):Int),?_,((wQ (l.take (i+1)):Nat):Int),?_,?_⟩
  .rw[zb oy,D];exact ZK oy (by rw[zF0];omega)
  .rw[zD2 (by rw[zF0];omega),zAS (by rw[zF0];exact r),zF0,zCe hb]
  intro E _ j m a q0;refine⟨rfl,rfl,l.length-(i+1),oy,i+1,oy,rfl,rfl,?_,m,a,q0⟩;rw[j,zD oy oy];rfl
 have hi:i=l.length:=oy
 subst hi;rw[List.take_length]at a;refine zDM ?_;show wpC P zB false zA3 ⟨40,g,[],h'⟩ _;refine wpC.slt _ (zSx _ _ _ _) λo t _ _ F _=>?_
 show wpC P zB false YE ⟨40,o,[],h'⟩ _;rw[qM rfl (F.trans a)];refine wpC.slt _ (zSy _ _ _ _ _) λq t _ _ _ _=>?_
 show Q (zI q 2) h';rw[t];exact u
theorem xU(s:Ua)(x e y:Int):Plain (.agg (kg s x e y)):=xM λv a=>by
 simp only[kg,oq,List.not_mem_nil,or_false]at a;rcases a with rfl|rfl|rfl|rfl
 .exact yx _
 all_goals exact zL _ _
theorem qH{a b:V}(d:Plain a)(hb:Plain b):Plain (.tuple [a,b]):=kE λv c=>by
 simp only[oq,List.not_mem_nil,or_false]at c;rcases c with rfl|rfl
 .exact d
 exact hb
theorem zGn{a:V}(c:Plain a):∀v∈[a],Plain v:=λv b=>by simp only[oq,List.not_mem_nil,or_false]at b;subst b;exact c
theorem Ks{a b:V}(d:Plain a)(hb:Plain b):∀v∈[a,b],Plain v:=λv c=>by
 simp only[oq,List.not_mem_nil,or_false]at c;rcases c with rfl|rfl
 .exact d
 exact hb
theorem zVd{a b c:V}(e:Plain a)(hb:Plain b)(f:Plain c):∀v∈[a,b,c],Plain v:=λv d=>by
 simp only[oq,List.not_mem_nil,or_false]at d;rcases d with rfl|rfl|rfl
 .exact e
 .exact hb
 exact f
theorem zIi{r:Nat}{s:Ua}{x e y n:Int}(hr:h.get r=some (cR s x e y))(l:∀h' i,Ext h h' 1->(e=0->i=n)->(e≠0->i=0)->Q (.tuple [.agg (kg s x e y),dd i]) h')(q:r<h.nx:=by omega)(t:h.nx+1<=T.top:=by omega):RF P zB 184 [.ptr r 0,dd n] h Q:=by
 refine RF.enterE yA zZC (ble _ _ rfl) (ble _ _ rfl) (z0f _ n h Q) ⟨oy,?_⟩;rintro p h1 rfl f;have u:h1.nx=h.nx+1:=by rw[f,z8]
 have j:Ext h h1 1:=by rw[f];exact Ext.new _ oy
 have m:h1.get h.nx=some (oC [] 0 0 0):=by rw[f];exact zM _ oy
 clear f;have gr:h1.get r=some (cR s x e y):=by rw[j.get _ oy];exact hr
 refine Jb gr ⟨_,rfl,λc=>?_,λc=>?_⟩
 .have c:e≠0:=by simpa using c
  refine⟨.ptr r 0,h1,rfl,?_⟩;show ∃l9 a b d,zo zB 80 h1 (.ptr r (0+0))=some (.agg [.str l9,dd a,dd b,dd d])/\_;refine⟨s,x,e,y,zO wI rfl gr rfl,_,z6 wI m rfl,?_⟩;refine jg (p:=h.nx) (o:=0) (v:=.agg (kg s x e y)) (w:=dd 0) da (zO wI rfl (zF _) rfl) da ?_;exact l _ 0 (j.upd (some (oC s x e y)) (show h.nx<T.top by omega) (oV _)) (λg=>absurd g c) λ_=>rfl
 have c:e=0:=by simpa using c
 refine⟨.ptr r 0,h1,rfl,?_⟩;show ∃l9 a b d,zo zB 80 h1 (.ptr r (0+0))=some (.agg [.str l9,dd a,dd b,dd d])/\_;refine⟨s,x,e,y,zO wI rfl gr rfl,_,z6 wI m rfl,?_⟩;refine jg (p:=h.nx) (o:=0) (v:=.agg (kg s x e y)) (w:=dd n) da (zO wI rfl (zF _) rfl) da ?_;exact l _ n (j.upd (some (oC s x e y)) (show h.nx<T.top by omega) (oV _)) (λ_=>rfl) λg=>absurd c g
theorem zHZ(a:Q (.agg (kg s x 0 0)) h)(h0:0<=x:=by omega)(h1:x<=s.length:=by omega):RF P zB 62 [.str s,dd x] h Q:=by
 refine RF.plain ?_ (Ks (yx _) (zL _ _));refine RF.enterE yA z3V (ble _ _ rfl) (ble _ _ rfl) (z4D s x H0 _) ⟨db,?_⟩;rintro p b rfl d;have e:b.get H0.nx=some (oC [] 0 0 0):=by rw[d];exact zM _ db
 refine⟨λc=>absurd c oy,λ_=>⟨λc=>absurd (show(s.length:Int)<x from c) oy,λ_=>?_⟩⟩;refine⟨_,z6 wI e rfl,?_⟩;refine zKL (p:=H0.nx) (o:=0) da (zO wI rfl (zF _ db) rfl) ?_;exact⟨xU _ _ _ _,a⟩
def hb(s:Ua)(x:Nat):Nat:=match s[x]? with|some b=>b.toNat|none=>0
theorem zZK(s:Ua)(x:Nat):hb s x<256:=by
 unfold hb;split
 .rename_i b _;exact b.toNat_lt
 decide
theorem zIm{x:Nat}{b:UInt8}(h:s[x]? = some b):hb s x=b.toNat:=by unfold hb;rw[h]
theorem zQh{x:Nat}(h:s[x]? = none):hb s x=0:=by unfold hb;rw[h]
theorem zQ2{s:Ua}{x:Nat}(G:x<=s.length)(hs:s.length<4611686018427387904)(D:∀(H e y:Nat),Q (.tuple [.agg (kg s H e y),dd (hb s x:Nat)]) h):RF P zB 109 [.agg (kg s x 0 0)] h Q:=by
 refine RF.plain ?_ (zGn (xU _ _ _ _));refine RF.enterE yA zYu (ble _ _ rfl) (ble _ _ rfl) (z0F s x 0 0 H0 _) ⟨db,?_⟩;rintro p h1 rfl q;have O:h1.nx=H0.nx+1:=by rw[q,z8]
 have I:Ext H0 h1 1:=by rw[q];exact Ext.new _ db
 have J:h1.get H0.nx=some (oC s x 0 0):=by rw[q];exact zM _ db
 clear q;have R:H0.nx=0:=rfl;have S:H0.low=T.top:=rfl;have zt:1000<T.top:=db
 refine⟨oy,?_⟩;rintro U t rfl u;have V:t.nx=h1.nx+1:=by rw[u,z8]
 have E:Ext h1 t 1:=by rw[u];exact Ext.new _ oy
 have K:t.get h1.nx=some (oC [] 0 0 0):=by rw[u];exact zM _ oy
 clear u;have z:t.get H0.nx=some (oC s x 0 0):=by rw[E.get _ oy];exact J
 refine⟨s,x,0,0,zO wI rfl z rfl,zNn λL r v W r1 gr=>⟨_,rfl,?_⟩⟩;have X:=v.top;have Y:=v.le;have g9:L.get h1.nx=some (oC [] 0 0 0):=by rw[v.get _ oy];exact K
 have l9:=v.low;have Z:=E.low;have l1:=I.low;refine O5 (x:=x) (n:=1) gr r1 oy oy G hs db λl a=>⟨λc g=>⟨_,rfl,?_⟩,λc g=>⟨_,rfl,?_⟩⟩
 .have A:=a.top;have B:=a.le;have d:l.get h1.nx=some (oC [] 0 0 0):=by rw[a.get _ oy oy];exact g9
  refine ZW (by simp[zH];omega) ⟨_,rfl,?_⟩;refine zIi g λf C i F m=>⟨_,_,_,_,_,rfl,?_⟩
  have j:f.get h1.nx=some (oC [] 0 0 0):=by rw[i.get _ oy];exact d
  refine⟨_,z6 wI j rfl,?_⟩;refine jg (p:=h1.nx) (o:=0) (w:=dd C) da (zO wI rfl (zF _) rfl) da ?_;obtain⟨b,hb⟩:∃b,s[x]? = some b:=⟨s[x],oU oy⟩;have M:=b.toNat_lt;have e:zH s x (x+1)=[b]:=by show(s.drop x).take (x+1-x)=[b];rw[Nat.add_sub_cancel_left,List.take_one,List.head?_drop,hb];rfl
  have N:wQ (zH s x (x+1))=b.toNat:=by rw[e];simp[wQ]
  rw[F rfl,N,zD oy oy];exact⟨qH (xU _ _ _ _) (zL _ _),by have:=D (x+1) 0 0;rw[zIm hb]at this;exact this⟩
 have A:=a.top;have B:=a.le;have d:l.get h1.nx=some (oC [] 0 0 0):=by rw[a.get _ oy oy];exact g9
 refine ZW (by simp) ⟨_,rfl,?_⟩;refine zIi g λf C i F m=>⟨_,_,_,_,_,rfl,?_⟩
 have j:f.get h1.nx=some (oC [] 0 0 0):=by rw[i.get _ oy];exact d
 refine⟨_,z6 wI j rfl,?_⟩;refine jg (p:=h1.nx) (o:=0) (w:=dd C) da (zO wI rfl (zF _) rfl) da ?_;try dsimp only
 rw[m db];exact⟨qH (xU _ _ _ _) (zL _ _),by have:=D x 5 s.length;rw[zQh (s:=s) (x:=x) (ov)]at this;exact this⟩
theorem zK2{s:Ua}{x n:Nat}(M:x<=s.length)(hs:s.length<4611686018427387904)(U:1<=n/\n<=6)(J:∀(K e y v:Nat),(x+n<=s.length->K=x+n/\e=0/\y=0/\v=wQ (zH s x (x+n)))->(s.length<x+n->e=5/\v=0)->Q (.tuple [.agg (kg s K e y),.int .u64 v]) h):RF P zB 111 [.agg (kg s x 0 0),dd n] h Q:=by
 refine RF.plain ?_ (Ks (xU _ _ _ _) (zL _ _));refine RF.enterE yA zYv (ble _ _ rfl) (ble _ _ rfl) (z0G s x 0 0 n H0 _) ⟨db,?_⟩;rintro p h1 rfl B;have V:h1.nx=H0.nx+1:=by rw[B,z8]
 have N:Ext H0 h1 1:=by rw[B];exact Ext.new _ db
 have O:h1.get H0.nx=some (oC s x 0 0):=by rw[B];exact zM _ db
 clear B;have W:H0.nx=0:=rfl;have X:H0.low=T.top:=rfl;have zt:1000<T.top:=db
 refine⟨oy,?_⟩;rintro Y C rfl D;have Z:C.nx=h1.nx+1:=by rw[D,z8]
 have L:Ext h1 C 1:=by rw[D];exact Ext.new _ oy
 have R:C.get h1.nx=some (oC [] 0 0 0):=by rw[D];exact zM _ oy
 clear D;have F:C.get H0.nx=some (oC s x 0 0):=by rw[L.get _ oy];exact O
 refine⟨s,x,0,0,zO wI rfl F rfl,zNn λS r E r0 r1 gr=>⟨_,rfl,?_⟩⟩;have n9:=E.top;have m9:=E.le;have g9:S.get h1.nx=some (oC [] 0 0 0):=by rw[E.get _ oy];exact R
 have l9:=E.low;have l3:=L.low;have l1:=N.low;refine Jb gr ⟨_,rfl,λg=>absurd g (by simp),λ_=>⟨λc=>absurd c oy,λ_=>⟨λc=>absurd c oy,λ_=>?_⟩⟩⟩;refine O5 (x:=x) (n:=n) gr r1 oy oy M hs oy λa b=>⟨λc g=>⟨_,rfl,?_⟩,λc g=>⟨_,rfl,?_⟩⟩
 .have G:=b.top;have H:=b.le;have I:=b.low;have l:a.get h1.nx=some (oC [] 0 0 0):=by rw[b.get _ oy oy];exact g9
  have q:a.nx<=T.top:=oy
  have t:a.low<=T.top:=oy
  obtain⟨u,z⟩:=xg q t;refine⟨⟨q,t⟩,.ptr r 0,zX a,rfl,u,?_⟩;try dsimp only
  rw[z];rintro m rfl;show ∃d f i j,zo zB 80 m (.ptr r (0+0))=some (.agg [.str d,dd f,dd i,dd j])/\_;refine⟨s,((x+n:Nat):Int),0,0,zO wI rfl g rfl,ZW (by simp[zH];omega) ⟨_,rfl,u,?_⟩⟩;try dsimp only
  rw[z];rintro A rfl;refine⟨_,z6 wI l rfl,?_⟩;refine jg (p:=h1.nx) (o:=0) (w:=.int .u64 ((wQ (zH s x (x+n)):Nat):Int)) da (zO wI rfl (zF _) rfl) da ?_;exact⟨qH (xU _ _ _ _) (zL _ _),J (x+n) 0 0 _ (λ_=>⟨rfl,rfl,rfl,rfl⟩) λg=>absurd g oy⟩
 have G:=b.top;have H:=b.le;have I:=b.low;have l:a.get h1.nx=some (oC [] 0 0 0):=by rw[b.get _ oy oy];exact g9
 have q:a.nx<=T.top:=oy
 have t:a.low<=T.top:=oy
 obtain⟨u,z⟩:=xg q t;refine⟨⟨q,t⟩,.ptr r 0,zX a,rfl,u,?_⟩;try dsimp only
 rw[z];rintro m rfl;show ∃d f i j,zo zB 80 m (.ptr r (0+0))=some (.agg [.str d,dd f,dd i,dd j])/\_;refine⟨s,x,5,s.length,zO wI rfl g rfl,ZW (by simp) ⟨_,rfl,u,?_⟩⟩;try dsimp only
 rw[z];rintro A rfl;refine⟨_,z6 wI l rfl,?_⟩;refine jg (p:=h1.nx) (o:=0) (w:=.int .u64 0) da (zO wI rfl (zF _) rfl) da ?_;exact⟨qH (xU _ _ _ _) (zL _ _),J x 5 s.length 0 (λg=>absurd g oy) λ_=>⟨rfl,rfl⟩⟩
def fm(a b c d e:Int):Ug:=[dd a,dd b,dd c,dd d,dd e]
def fmA:Ug:=fm 1 3 5 0 0++fm 2 4 12 0 0++fm 1 3 5 0 0++fm 3 4 20 0 0
def fmB:Ug:=fm 3 4 10 10 1++fm 3 4 10 10 4++fm 4 4 14 14 4++fm 5 4 18 18 4
theorem jI{l:Ug}(h:l.all (λv=>match v with | .int _ _=>true|_=>false)=true):Plain (.agg l):=xM λv a=>by have:=List.all_eq_true.1 h v a;cases v<;>first|exact zL _ _|cases this
def zH7:Option CallOut->Ui
 | some (.ret v _)=>some v
 | _=>none
theorem zNu{r:Option CallOut}{v:V}(h:zH7 r=some v):∃h',r=some (.ret v h'):=by
 unfold zH7 at h;split at h
 .rename_i v' h';simp only[oA]at h;subst h;exact⟨h',rfl⟩
 cases h
theorem RF.closed{f:Nat}{args:Ug}{v:V}(b:(zB.fn.get f).isSome=true)(e:zH7 (run zB zCD 100 f args H0)=some v)(c:∀a∈args,Plain a)(d:Plain v)(g:Q v h):RF P zB f args h Q:=by obtain⟨h',e⟩:=zNu e;exact RF.plain ⟨v,h',⟨Option.isSome_iff_exists.1 b,KH yA (zNi _ _) e⟩,d,g⟩ c
theorem fm0:zH7 (run zB zCD 100 110 [dd 0] H0)=some (.agg fmA):=da
theorem fm1:zH7 (run zB zCD 100 110 [dd 1] H0)=some (.agg fmA):=da
theorem fm2:zH7 (run zB zCD 100 110 [dd 2] H0)=some (.agg fmB):=da
theorem fm3:zH7 (run zB zCD 100 110 [dd 3] H0)=some (.agg fmB):=da
theorem zHF(b:k<4)(a:Q (.agg (if k<2 then fmA else fmB)) h):RF P zB 110 [dd k] h Q:=by
 obtain rfl|rfl|rfl|rfl:k=0\/k=1\/k=2\/k=3:=oy
 .exact RF.closed da fm0 (zGn (zL _ _)) (jI rfl) a
 .exact RF.closed da fm1 (zGn (zL _ _)) (jI rfl) a
 .exact RF.closed da fm2 (zGn (zL _ _)) (jI rfl) a
 exact RF.closed da fm3 (zGn (zL _ _)) (jI rfl) a
def fw(k i:Nat):Nat:=if k<2 then (if i=1 then 2 else if i=3 then 3 else 1) else (if i<2 then 3 else if i=2 then 4 else 5)
def ff(k i:Nat):Nat:=if k<2 then (if i=1 then 4 else if i=3 then 4 else 3) else 4
def fx(k i:Nat):Nat:=if k<2 then (if i=1 then 12 else if i=3 then 20 else 5) else (if i<2 then 10 else if i=2 then 14 else 18)
def fy(k i:Nat):Nat:=if k<2 then 0 else (if i<2 then 10 else if i=2 then 14 else 18)
def fz(k i:Nat):Nat:=if k<2 then 0 else (if i=0 then 1 else 4)
theorem zWE(k i:Nat):1<=fw k i/\fw k i<=5:=by
 unfold fw;repeat' split
 all_goals omega
theorem zYs(k i:Nat):ff k i<=4:=by
 unfold ff;repeat' split
 all_goals omega
theorem zWF(k i:Nat):fx k i<=20:=by
 unfold fx;repeat' split
 all_goals omega
theorem zWG(k i:Nat):fy k i<=18:=by
 unfold fy;repeat' split
 all_goals omega
theorem zZI(k i:Nat):fz k i<=4:=by
 unfold fz;repeat' split
 all_goals omega
theorem z3K:yC zB 148 (.agg fmA) (dd 0)=some (.agg (fm 1 3 5 0 0)):=da
theorem z3L:yC zB 148 (.agg fmA) (dd 1)=some (.agg (fm 2 4 12 0 0)):=da
theorem z3M:yC zB 148 (.agg fmA) (dd 3)=some (.agg (fm 3 4 20 0 0)):=da
theorem z3N:yC zB 148 (.agg fmB) (dd 0)=some (.agg (fm 3 4 10 10 1)):=da
theorem z3O:yC zB 148 (.agg fmB) (dd 1)=some (.agg (fm 3 4 10 10 4)):=da
theorem z3P:yC zB 148 (.agg fmB) (dd 2)=some (.agg (fm 4 4 14 14 4)):=da
theorem z3Q:yC zB 148 (.agg fmB) (dd 3)=some (.agg (fm 5 4 18 18 4)):=da
def fmt(k i:Nat):Ug:=fm (fw k i) (ff k i) (fx k i) (fy k i) (fz k i)
theorem zYt{i:Nat}(hi:i<4):yC zB 148 (.agg (if k<2 then fmA else fmB)) (dd (i:Int))=some (.agg (fmt k i)):=by
 obtain rfl|rfl|rfl|rfl:i=0\/i=1\/i=2\/i=3:=oy
 all_goals
  by_cases a:k<2
  .simp only[fmt,fw,ff,fx,fy,fz,if_pos a];first|exact z3K|exact z3L|exact b|exact z3M
  simp only[fmt,fw,ff,fx,fy,fz,if_neg a];first|exact z3N|exact z3O|exact z3P|exact z3Q
theorem zQe(k:Nat):∃(y0 y1 f g i j l m y8 o a b y12 y13 y14 c y16 y17 d e:Int),(if k<2 then fmA else fmB)=[dd y0,dd y1,dd f,dd g,dd i,dd j,dd l,dd m,dd y8,dd o,dd a,dd b,dd y12,dd y13,dd y14,dd c,dd y16,dd y17,dd d,dd e]:=by
 by_cases hk:k<2
 .rw[if_pos hk];exact⟨_,_,_,_,_,_,_,_,_,_,_,_,_,_,_,_,_,_,_,_,rfl⟩
 rw[if_neg hk];exact⟨_,_,_,_,_,_,_,_,_,_,_,_,_,_,_,_,_,_,_,_,rfl⟩
def rhN(k st n m x e y:Int):V:=.tuple [dd k,dd st,dd n,dd m,dd x,.agg [dd e,dd y]]
def rhA(s:Ua)(x k i:Nat):V :=
 if x+fw k i<=s.length then rhN k (fz k i) ((wQ (zH s x (x+fw k i))/2^ff k i % 2^fx k i:Nat):Int) ((wQ (zH s x (x+fw k i))/2^ff k i/2^fx k i % 2^fy k i:Nat):Int) ((x+fw k i:Nat):Int) 0 0
 else rhN 0 0 0 0 0 20 x
def rh(s:Ua)(x:Int):V :=
 if x<0\/s.length<x then rhN 0 0 0 0 0 2 0 else rhA s x.toNat (hb s x.toNat % 4) (hb s x.toNat/4 % 4)
theorem zKj(k st n m x e y:Int):Plain (rhN k st n m x e y):=kE λv a=>by
 simp only[oq,List.not_mem_nil,or_false]at a;rcases a with rfl|rfl|rfl|rfl|rfl|rfl
 .exact zL _ _
 .exact zL _ _
 .exact zL _ _
 .exact zL _ _
 .exact zL _ _
 exact xM (Ks (zL _ _) (zL _ _))
theorem zFY(s:Ua)(x:Int):Plain (rh s x):=by
 unfold rh rhA;repeat' split
 all_goals exact zKj _ _ _ _ _ _ _
theorem qS{m o:Nat}{v0 v1 v2 v3 v4 v:V}{body:Code}(h0:zI tm 4=v0)(h1:zI tm 5=v1)(a:zI tm 6=v2)(b:zI tm 7=v3)(c:zI tm 8=v4)(d:zI tm 9 = .ptr p o)(e:zo zB 26 h (.ptr p o)=some v)(f:Q (.tuple [v0,v1,v2,v3,v4,v]) h):
  endW zB ⟨n,[.tmp 4,.tmp 5,.tmp 6,.tmp 7,.tmp 8,.cell 9 26],body⟩ Q .ret ⟨m,tm,[],h⟩:=by
 show(match leave zB _ tm h [.tmp 4,.tmp 5,.tmp 6,.tmp 7,.tmp 8,.cell 9 26] []with|some vs=>Q (yP vs) h|none=>False);simp only[leave,d,e,h0,h1,a,b,c];exact f
theorem zFK{v:Nat}(a:v<18446744073709551616:=by omega)(b:n<=32:=by omega):zj .and .u64 (v:Int) (zU .u64 (((1*2^n:Nat):Int)-1))=some (.int .u64 ((v % 2^n:Nat):Int)):=by
 have h1:2^n<=2^32:=Nat.pow_le_pow_right db b;have d:1<=2^n:=Nat.one_le_two_pow;have c:((1*2^n:Nat):Int)-1=((2^n-1:Nat):Int):=oy
 rw[c,zb oy,zEV a oy,wz]
theorem zYi(n:Nat)(h:n<256):zj .and .i64 (n:Int) (3:Int)=some (dd ((n % 4:Nat):Int)):=by have:=qt (a:=n) (b:=3) oy db;rw[show(3:Int)=((3:Nat):Int)from rfl,this,show n &&& 3=n % 4 from wz n 2]
theorem zFs{s:Ua}{x:Int}(hs:s.length<4611686018427387904)(f:Q (rh s x) h):RF P zB 60 [.str s,dd x] h Q:=by
 refine RF.plain ?_ (Ks (yx _) (zL _ _));have f:Plain (rh s x)/\Q (rh s x) h:=⟨zFY _ _,f⟩;refine RF.enterE yA z3U (ble _ _ rfl) (ble _ _ rfl) (z4B s x H0 _) ⟨db,?_⟩;rintro p h1 rfl O;have n1:h1.nx=H0.nx+1:=by rw[O,z8]
 have x1:Ext H0 h1 1:=by rw[O];exact Ext.new _ db
 have U:h1.get H0.nx=some (oF 0 0):=by rw[O];exact zM _ db
 clear O;have z0:H0.nx=0:=rfl;have zl:H0.low=T.top:=rfl;have zt:1000<T.top:=db
 have l1:=x1.low;refine⟨λc=>?_,λc=>⟨λG=>?_,λG=>?_⟩⟩
 .unfold rh at f;rw[if_pos (Or.inl c)]at f;refine⟨_,z6 zd U rfl,?_⟩;exact qS (p:=H0.nx) (o:=0) da da da da da da (zO zd rfl (zF _) rfl) f
 .have G:(s.length:Int)<x:=G;unfold rh at f;rw[if_pos (Or.inr G)]at f;refine⟨_,z6 zd U rfl,?_⟩;exact qS (p:=H0.nx) (o:=0) da da da da da da (zO zd rfl (zF _) rfl) f
 have G:x<=s.length:=Int.not_lt.1 G;unfold rh at f;rw[if_neg oy]at f;obtain⟨a,rfl⟩:∃a:Nat,x=a:=⟨x.toNat,oy⟩;rw[ol]at f;have ha:a<=s.length:=oy
 refine zHZ ⟨_,_,_,_,rfl,zQ2 ha hs λV e y=>⟨_,_,_,_,_,rfl,oy,?_⟩⟩;rintro p17 u rfl C;have n18:u.nx=h1.nx+1:=by rw[C,z8]
 have I:Ext h1 u 1:=by rw[C];exact Ext.new _ oy
 have W:u.get h1.nx=some (oC [] 0 0 0):=by rw[C];exact zM _ oy
 clear C;have l18:=I.low;obtain⟨d,X,Y,Z,n19,l19⟩:∃d,zZ zB 80 u (.ptr h1.nx 0) (.agg (kg s V e y))=some d/\d.get h1.nx=some (oC s V e y)/\d.get H0.nx=some (oF 0 0)/\d.nx=u.nx/\d.low<=T.top :=
  ⟨_,z6 wI W rfl,zF _,by rw[zS _,I.get _ oy];exact U,rfl,by rw[H.low_upd];omega⟩
 have hn:=zZK s a;revert hn f;generalize hb s a=n;intro f hn;refine⟨d,X,_,zYi n hn,zHF oy ?_⟩;have hk:n % 4<4:=oy
 have hi:n/4 % 4<4:=oy
 revert f hk hi;generalize hkk:n % 4=k;generalize hii:n/4 % 4=i;intro f hk hi;obtain⟨y0,y1,J,y3,y4,y5,y6,y7,y8,y9,y10,y11,y12,y13,y14,y15,y16,y17,y18,y19,ef⟩:=zQe k;refine⟨y0,y1,J,y3,y4,y5,y6,y7,y8,y9,y10,y11,y12,y13,y14,y15,y16,y17,y18,y19,by rw[ef],((n/4:Nat):Int),kJ (a:=n) (n:=2) db,((i:Nat):Int),?_,?_⟩
 .rw[zYi _ oy,hii]
 have R:=zYt (k:=k) hi;rw[ef]at R;obtain⟨w1,w2⟩:=zWE k i;have f1:=zYs k i;have f2:=zWF k i;have f3:=zWG k i;have f4:=zZI k i;unfold rhA at f;revert R f w1 w2 f1 f2 f3 f4;unfold fmt;generalize fw k i=w;generalize ff k i=l;generalize fx k i=m;generalize fy k i=B;generalize fz k i=st;intro f R w1 w2 f1 f2 f3 f4;refine⟨_,_,_,_,_,R,oy,?_⟩;rintro p50 z rfl D;have n51:z.nx=d.nx+1:=by rw[D,z8]
 have E:Ext d z 1:=by rw[D];exact Ext.new _ oy
 have g51:z.get d.nx=some (.cells (.ls (fm 0 0 0 0 0)) ⟨0,148,0⟩ true false):=by rw[D];exact zM _ oy
 clear D;have l51:=E.low;obtain⟨j,e52,K,g17,g0,n52,L⟩:∃j,zZ zB 147 z (.ptr d.nx 0) (.agg (fm w l m B st))=some j/\j.get d.nx=some (.cells (.ls (fm w l m B st)) ⟨0,148,0⟩ true false)/\j.get h1.nx=some (oC s V e y)/\j.get H0.nx=some (oF 0 0)/\j.nx=z.nx/\j.low<=T.top :=
  ⟨_,z6 z0C g51 rfl,zF _,by rw[zS _,E.get _ oy];exact Y,by rw[zS _,E.get _ oy];exact Z,rfl,by rw[H.low_upd];omega⟩
 have nn:j.nx<=T.top:=oy
 obtain⟨k1,k2⟩:=xg nn L;refine⟨j,e52,⟨nn,L⟩,zHZ ⟨_,_,_,_,rfl,k1,?_⟩⟩;try dsimp only
 rw[k2];rintro h59 rfl;refine⟨w,zK zm rfl K rfl,zK2 (n:=w) ha hs ⟨w1,oy⟩ λx2 S J v M hv2=>⟨_,_,_,_,_,rfl,k1.2,?_⟩⟩;try dsimp only
 rw[k2];rintro F rfl;obtain⟨q,e69,g69,q50,q0,n69⟩:∃q,zZ zB 80 (zX F) (.ptr h1.nx 0) (.agg (kg s x2 S J))=some q/\q.get h1.nx=some (oC s x2 S J)/\q.get d.nx=some (.cells (.ls (fm w l m B st)) ⟨0,148,0⟩ true false)/\q.get H0.nx=some (oF 0 0)/\q.nx=F.nx :=
  ⟨_,z6 (h:=zX F) wI g17 rfl,zF _,by rw[zS _];exact K,by rw[zS _];exact g0,rfl⟩
 refine⟨q,e69,oy,?_⟩;rintro r t;have N:r.get h1.nx=some (oC s x2 S J):=by rw[t];exact g69
 have A:r.get d.nx=some (.cells (.ls (fm w l m B st)) ⟨0,148,0⟩ true false):=by rw[t];exact q50
 have r0:r.get H0.nx=some (oF 0 0):=by rw[t];exact q0
 have n70:r.nx<=T.top:=by rw[t,zK3];omega
 have l70:r.low<=T.top:=by rw[t,zAF];omega
 clear t;show ∃x71,zo zB 24 r (.ptr h1.nx (0+2+0))=some (dd x71)/\_;refine⟨S,zK yh rfl N rfl,λc=>?_,λc=>?_⟩
 .have hc:s.length<a+w:=by
   rcases Nat.lt_or_ge s.length (a+w)with g|g
   .exact g
   have:=(M g).2.1;omega
  rw[if_neg oy]at f;refine⟨_,z6 zd r0 rfl,?_⟩;exact qS (p:=H0.nx) (o:=0) da da da da da da (zO zd rfl (zF _) rfl) f
 have hc:a+w<=s.length:=by
  rcases Nat.lt_or_ge s.length (a+w)with g|g
  .have:=(hv2 g).1;omega
  exact g
 obtain⟨rfl,-,-,ev⟩:=M hc;rw[if_pos hc,<-ev]at f;have hv:v<1099511627776:=by
  have h1:=Y8 (zH s a (a+w));have h2:(zH s a (a+w)).length<=w:=by simp[zH];omega
  have h3:256^(zH s a (a+w)).length<=256^5:=Nat.pow_le_pow_right db oy;have h4:(256:Nat)^5=1099511627776:=db
  omega
 have d1:v/2^l<=v:=Nat.div_le_self _ _;have d2:v/2^l/2^m<=v/2^l:=Nat.div_le_self _ _;have d3:v/2^l % 2^m<=v/2^l:=Nat.mod_le _ _;have d4:v/2^l/2^m % 2^B<=v/2^l/2^m:=Nat.mod_le _ _;have b1:2^m<=2^20:=Nat.pow_le_pow_right db f2;have b2:2^B<=2^20:=Nat.pow_le_pow_right db oy;refine⟨l,zK zm rfl A rfl,_,YL,⟨n70,l70⟩,st,zK zm rfl A rfl,m,zK zm rfl A rfl,_,ZK (a:=1) (n:=m) oy oy,_,zFK,m,zK zm rfl A rfl,_,YL,B,zK zm rfl A rfl,_,ZK (a:=1) (n:=B) oy oy,_,zFK,((a+w:Nat):Int),zK zm rfl N rfl,?_⟩;refine⟨_,z6 zd r0 rfl,?_⟩;refine qS (p:=H0.nx) (o:=0) (v0:=dd k) (v1:=dd st) (v2:=dd ((v/2^l % 2^m:Nat):Int)) (v3:=dd ((v/2^l/2^m % 2^B:Nat):Int)) (v4:=dd ((a+w:Nat):Int)) da da ?_ ?_ da da (zO zd rfl (zF _) rfl) f
 .refine Eq.trans (b:=dd (zG ((v/2^l % 2^m:Nat):Int))) da ?_;try dsimp only
  rw[zD oy oy]
 refine Eq.trans (b:=dd (zG ((v/2^l/2^m % 2^B:Nat):Int))) da ?_;try dsimp only
 rw[zD oy oy]
theorem zPl(a b:Nat):Int.tmod (a:Int) (b:Int)=((a % b:Nat):Int):=rfl
theorem zVJ(a b:Nat):Int.tdiv (a:Int) (b:Int)=((a/b:Nat):Int):=rfl
theorem zN6{x:Nat}(f:Q (.tuple [.int .u64 (x % 2^k:Nat),dd 0]) h)(B:k<=30:=by omega)(C:x<1099511627776:=by omega):RF P zB 127 [.int .u64 x,dd k] h Q:=by
 refine RF.enterE yA zZB (ble _ _ rfl) (ble _ _ rfl) (z0Q x k h Q) ⟨λc=>absurd c oy,λ_=>⟨λc=>absurd c oy,λ_=>?_⟩⟩;refine OG (λj tm h'=>∃i:Nat,i<=k/\j=k-i/\h'=h/\zI tm 8 = dd i/\zI tm 1 = dd k/\zI tm 6 = .int .u64 (x % 2^i:Nat)/\zI tm 0 = .int .u64 (x/2^i:Nat)/\zI tm 7 = .int .u64 (2^i:Nat)) k ?_ ?_
 .exact⟨0,oy,oy,rfl,da,da,by rw[Nat.pow_zero,Nat.mod_one];kernel_rfl,by rw[Nat.pow_zero,Nat.div_one];kernel_rfl,da⟩
 rintro j tm h' ⟨i,D,rfl,rfl,g,l,m,o,q⟩;rw[Km rfl g l m o q];refine wpC.slt _ (zRk _ _ _ _ _ _ _ _ _) ⟨λc=>⟨db,db,λr _ _ t u b q0 v=>⟨rfl,rfl,k-(i+1),oy,i+1,oy,rfl,rfl,?_,u,?_,?_,?_⟩⟩,λc d E F _ _ b q0 _=>?_⟩
 .rw[t,zD oy oy];rfl
 .have w:2^i<=2^30:=Nat.pow_le_pow_right db oy;have G:x % 2^i<2^i:=Nat.mod_lt _ (Nat.two_pow_pos i);have H:x/2^i % 2*2^i<=1*2^i:=Nat.mul_le_mul_right _ oy;have e:((x/2^i % 2:Nat):Int)*((2^i:Nat):Int)=((x/2^i % 2*2^i:Nat):Int):=(Int.natCast_mul _ _).symm;have y:((x % 2^i:Nat):Int)+((x/2^i % 2*2^i:Nat):Int)=((x % 2^i+x/2^i % 2*2^i:Nat):Int):=(Int.natCast_add _ _).symm;rw[b,show(2:Int)=((2:Nat):Int)from rfl,zPl,e,zb oy,y,zb oy,Nat.mod_pow_succ,Nat.mul_comm (2^i)]
 .have d1:x/2^i<=x:=Nat.div_le_self _ _;rw[q0,show(2:Int)=((2:Nat):Int)from rfl,zVJ,zb oy,Nat.div_div_eq_div_mul,Nat.pow_succ]
 .have w:2^(i+1)<=2^30:=Nat.pow_le_pow_right db oy;have e:((2^i:Nat):Int)*2=((2^(i+1):Nat):Int):=by rw[Nat.pow_succ];exact(Int.natCast_mul _ _).symm
  rw[v,e,zb oy]
 have hi:i=k:=oy
 subst hi;refine zDM ?_;show wpC P zB false zHc ⟨31,d,[],h'⟩ _;rw[qM rfl b];refine wpC.slt _ (zSb _ _ _ _ _) λa z A _ _ _ _ _=>?_
 show Q (.tuple [zI a 4,zI a 5]) h';rw[z,A];exact f
theorem zGE{a b:Nat}{c:UInt8}(h:s[a]? = some c)(e:a<b):zH s a b=c::zH s (a+1) b:=by unfold zH;obtain⟨hl,f⟩:=List.getElem?_eq_some_iff.1 h;rw[List.drop_eq_getElem_cons hl,f];obtain⟨d,rfl⟩:∃d,b=a+1+d:=⟨b-(a+1),oy⟩;rw[show a+1+d-a=d+1 by omega,show a+1+d-(a+1)=d by omega,List.take_succ_cons]
theorem zHy(s:Ua)(a:Nat):zH s a a=[]:=by unfold zH;rw[Nat.sub_self,List.take_zero]
theorem zDK{m o:Nat}{v0 v1 v:V}{body:Code}(h0:zI tm 6=v0)(h1:zI tm 7=v1)(a:zI tm 8 = .ptr p o)(b:zo zB 26 h (.ptr p o)=some v)(c:Q (.tuple [v0,v1,v]) h):
  endW zB ⟨n,[.tmp 6,.tmp 7,.cell 8 26],body⟩ Q .ret ⟨m,tm,[],h⟩:=by
 show(match leave zB _ tm h [.tmp 6,.tmp 7,.cell 8 26] []with|some vs=>Q (yP vs) h|none=>False);simp only[leave,a,b,h0,h1];exact c
theorem zAU{a b c:V}(d:Plain a)(hb:Plain b)(e:Plain c):Plain (.tuple [a,b,c]):=kE (zVd d hb e)
theorem zFt{s:Ua}{a n:Nat}(M:a<=s.length)(hs:s.length<4611686018427387904)(N:1<=n/\n<=6)(h1:a+n<=s.length->Q (.tuple [.int .u64 (wQ (zH s a (a+n)):Nat),dd (a+n:Nat),.agg [dd 0,dd 0]]) h)(t:s.length<a+n->Q (.tuple [.int .u64 0,dd 0,.agg [dd 5,dd s.length]]) h):RF P zB 126 [.str s,dd a,dd n] h Q:=by
 refine RF.plain ?_ (zVd (yx _) (zL _ _) (zL _ _));have O:H0.nx=0:=rfl;have zt:1000<T.top:=db
 refine RF.enterE yA zZA (ble _ _ rfl) (ble _ _ rfl) (z0P s a n H0 _) ⟨db,?_⟩;rintro p u rfl v;have w:u.get H0.nx=some (oF 0 0):=by rw[v];exact zM _ db
 clear v;refine⟨λc=>absurd c oy,λ_=>⟨λc=>absurd c oy,λ_=>⟨λc=>absurd c oy,λ_=>⟨λc=>absurd (show(s.length:Int)<a from c) oy,λ_=>⟨λc=>?_,λc=>?_⟩⟩⟩⟩⟩
 .have c:zG ((s.length:Int)-a)<n:=c;rw[zD oy oy]at c;refine⟨_,z6 zd w rfl,?_⟩;exact zDK (p:=H0.nx) (o:=0) da da da (zO zd rfl (zF _ db) rfl) ⟨zAU (zL _ _) (zL _ _) (xM (Ks (zL _ _) (zL _ _))),t oy⟩
 have c:¬zG ((s.length:Int)-a)<n:=c;rw[zD oy oy]at c;have d:a+n<=s.length:=oy
 have h1:=h1 d;clear t;refine OG (λj tm h'=>∃i:Nat,i<=n/\j=i/\h'=u/\zI tm 10 = dd ((i:Int)-1)/\zI tm 9 = .int .u64 (wQ (zH s (a+i) (a+n)):Nat)/\zI tm 0 = .str s/\zI tm 1 = dd a/\zI tm 2 = dd n/\zI tm 8 = .ptr H0.nx 0) n ?_ ?_
 .refine⟨n,oy,rfl,rfl,?_,?_,da,da,da,da⟩
  .refine Eq.trans (b:=dd (zG ((n:Int)-1))) da ?_;try dsimp only
   rw[zD oy oy]
  rw[zHy];kernel_rfl
 rintro j tm h' ⟨i,R,rfl,rfl,f,A,B,C,y,z⟩;rw[wH rfl f A B C];refine wpC.slt _ (zRj _ _ _ _ _ _ _ _) ⟨λc=>?_,λc g S U l _ q9 _ m q=>?_⟩
 .obtain⟨k,rfl⟩:∃k,j=k+1:=⟨j-1,oy⟩
  have D:zG ((a:Int)+(((k+1:Nat):Int)-1))=((a+k:Nat):Int):=by rw[zD oy oy];omega
  obtain⟨b,hb⟩:∃b,s[a+k]? = some b:=⟨s[a+k]'oy,oU oy⟩;have E:=b.toNat_lt;have F:=zGE (b:=a+n) hb oy;have V:=Y8 (zH s (a+(k+1)) (a+n));have hl:(zH s (a+(k+1)) (a+n)).length<=5:=by simp[zH];omega
  have W:256^(zH s (a+(k+1)) (a+n)).length<=256^5:=Nat.pow_le_pow_right db hl;have X:(256:Nat)^5=1099511627776:=db
  try dsimp only
  rw[D];refine⟨_,yR hb,λG _ _ l r q9 q0 m q=>⟨rfl,rfl,k,oy,k,oy,rfl,rfl,?_,?_,q0,m,q.trans y,l.trans z⟩⟩
  .rw[r,zD oy oy];congr 1;omega
  have e:((wQ (zH s (a+(k+1)) (a+n)):Nat):Int)*256=((wQ (zH s (a+(k+1)) (a+n))*256:Nat):Int):=(Int.natCast_mul _ _).symm;have H:((wQ (zH s (a+(k+1)) (a+n))*256:Nat):Int)+((b.toNat:Nat):Int)=((wQ (zH s (a+(k+1)) (a+n))*256+b.toNat:Nat):Int):=(Int.natCast_add _ _).symm;rw[q9,e,zb oy,zb oy,H,zb oy,F];congr 2;show _=b.toNat+256*wQ (zH s (a+k+1) (a+n));rw[show a+(k+1)=a+k+1 from rfl];omega
 have hi:j=0:=oy
 subst hi;refine zDM ?_;show wpC P zB false zHb ⟨57,g,[],h'⟩ _;rw[wH rfl q9 m (q.trans y) (l.trans z)];refine wpC.slt _ (zSa _ _ _ _ _ _ _ _) ⟨_,z6 zd w rfl,λI J K L _ _ _ _ _=>?_⟩;refine zDK (p:=H0.nx) (o:=0) J K L (zO zd rfl (zF _ db) rfl) ⟨zAU (zL _ _) (zL _ _) (xM (Ks (zL _ _) (zL _ _))),?_⟩;try dsimp only
 rw[zD oy oy];exact h1
def f6(a b c d e f:Nat):Ug:=[dd a,dd b,dd c,dd d,dd e,dd f]
def jR(k j:Nat):Nat:=if k<2 then (if j=2 then 3 else j) else j
def zAe(k:Nat):Nat:=if k<2 then 3 else 4
def rf(k j:Nat):Ug:=f6 (jR k j) (fw k (jR k j)) (ff k (jR k j)) (ff k (jR k j)+fx k (jR k j)) (ff k (jR k j)+fx k (jR k j)+fy k (jR k j)) (fz k (jR k j))
def rl(k:Nat):Ug:=if k<2 then rf 0 0++rf 0 1++rf 0 2 else rf 2 0++rf 2 1++rf 2 2++rf 2 3
theorem zZo{j:Nat}(h:k<2):rf k j=rf 0 j:=by simp[rf,jR,fw,ff,fx,fy,fz,h]
theorem zZn{j:Nat}(h:¬k<2):rf k j=rf 2 j:=by simp[rf,jR,fw,ff,fx,fy,fz,h]
theorem zZq{j i:Nat}(a:j<zAe k)(hi:i<6):(rl k)[j*6+i]? = (rf k j)[i]?:=by
 unfold rl zAe at *;by_cases h:k<2
 .rw[if_pos h]at a ⊢;rw[zZo h];obtain rfl|rfl|rfl:j=0\/j=1\/j=2:=oy
  all_goals
   obtain rfl|rfl|rfl|rfl|rfl|rfl:i=0\/i=1\/i=2\/i=3\/i=4\/i=5:=oy
   all_goals rfl
 rw[if_neg h]at a ⊢;rw[zZn h];obtain rfl|rfl|rfl|rfl:j=0\/j=1\/j=2\/j=3:=oy
 all_goals
  obtain rfl|rfl|rfl|rfl|rfl|rfl:i=0\/i=1\/i=2\/i=3\/i=4\/i=5:=oy
  all_goals rfl
theorem zVn(h:H):zJ zB 167 3 [(0,.agg (f6 0 1 3 8 8 0)),(1,.agg (f6 1 2 4 16 16 0)),(2,.agg (f6 3 3 4 24 24 0))] h=(match qu h (rf 0 0++rf 0 1++rf 0 2) ⟨0,171,0⟩ false with|some (b,h')=>some (.slice b 0 3 (.exact 3),h')|none=>none):=da
theorem zVo(h:H):zJ zB 167 4 [(0,.agg (f6 0 3 4 14 24 1)),(1,.agg (f6 1 3 4 14 24 4)),(2,.agg (f6 2 4 4 18 32 4)),(3,.agg (f6 3 5 4 22 40 4))] h=(match qu h (rf 2 0++rf 2 1++rf 2 2++rf 2 3) ⟨0,171,0⟩ false with|some (b,h')=>some (.slice b 0 4 (.exact 4),h')|none=>none):=da
theorem zI0{l:Ug}{k:Rk}{op:Bool}(hl:l.length<=262143)(a:za l=true)(b:h.nx<T.top):∃cs,qu h l k op=some (h.nx,h.new (.cells cs k true op))/\∀i,cs.get? i=l[i]?:=by obtain⟨cs,h1,_⟩:=Cs.ofL_some hl;refine⟨cs,?_,(Cs.ofL_eq h1).2⟩;unfold qu qG;rw[a,oS,(zY _ _).2 b,oS,h1]
theorem Zu(o:k<4)(j:∀v h',Ext h h' 1->Sl h' v 6 (zAe k) (rl k)->Q v h')(f:h.nx<T.top:=by omega):RF P zB 125 [dd k] h Q:=by
 have a:k<2->∃v h',zJ zB 167 3 [(0,.agg (f6 0 1 3 8 8 0)),(1,.agg (f6 1 2 4 16 16 0)),(2,.agg (f6 3 3 4 24 24 0))] h=some (v,h')/\Q v h':=by intro b;obtain⟨cs,e,g⟩:=zI0 (h:=h) (l:=rf 0 0++rf 0 1++rf 0 2) (k:=⟨0,171,0⟩) (op:=false) db rfl f;refine⟨_,_,by rw[zVn,e],j _ _ (Ext.new _ f) ?_⟩;unfold zAe rl;rw[if_pos b,if_pos b];exact⟨rfl,.inr ⟨_,_,_,cs,_,_,_,rfl,by rw[z8];omega,zM _ f,λi _=>by rw[Nat.zero_add];exact g i⟩⟩
 have d:¬k<2->∃v h',zJ zB 167 4 [(0,.agg (f6 0 3 4 14 24 1)),(1,.agg (f6 1 3 4 14 24 4)),(2,.agg (f6 2 4 4 18 32 4)),(3,.agg (f6 3 5 4 22 40 4))] h=some (v,h')/\Q v h':=by intro b;obtain⟨cs,e,g⟩:=zI0 (h:=h) (l:=rf 2 0++rf 2 1++rf 2 2++rf 2 3) (k:=⟨0,171,0⟩) (op:=false) db rfl f;refine⟨_,_,by rw[zVo,e],j _ _ (Ext.new _ f) ?_⟩;unfold zAe rl;rw[if_neg b,if_neg b];exact⟨rfl,.inr ⟨_,_,_,cs,_,_,_,rfl,by rw[z8];omega,zM _ f,λi _=>by rw[Nat.zero_add];exact g i⟩⟩
 exact RF.enterE yA zYz (ble _ _ rfl) (ble _ _ rfl) (z0O k h Q) ⟨λc=>a oy,λc=>⟨λm=>a oy,λm=>d oy⟩⟩
theorem Oi{m o:Nat}{v0 v1 v2 v3 v4 v:V}(h0:zI tm 4=v0)(h1:zI tm 5=v1)(a:zI tm 6=v2)(b:zI tm 7=v3)(c:zI tm 8=v4)(d:zI tm 9 = .ptr p o)(e:zo zB 26 h (.ptr p o)=some v)(f:Q (.tuple [v0,v1,v2,v3,v4,v]) h):
  endW zB ⟨127,[.tmp 4,.tmp 5,.tmp 6,.tmp 7,.tmp 8,.cell 9 26],bf 68⟩ Q .ret ⟨m,tm,[],h⟩:=qS h0 h1 a b c d e f
theorem zQ6(u a b:Nat):u/2^a/2^b=u/2^(a+b):=by rw[Nat.div_div_eq_div_mul,<-Nat.pow_add]
theorem qg{s:Ua}{a k i j p4 p0:Nat}{v:V}{tm:Tm}(ha:a<=s.length)(hs:s.length<4611686018427387904)(_:k<4)(hj:j<zAe k)(_:i<4)(hw:fw k i=fw k (jR k j))(hf:ff k i=ff k (jR k j))(hx:fx k i=fx k (jR k j))(hy:fy k i=fy k (jR k j))(hz:fz k i=fz k (jR k j))(W:∀j',j'<j->jR k j'≠jR k j)(hn:h.nx+10<=T.top)(hl:h.low<=T.top)(hp0:p0<h.nx)(hp4:p4<h.nx)(_:p0≠p4)(g0:h.get p0=some (oF 0 0))(g4:h.get p4=some (oF 20 a))(hv:Sl h v 6 (zAe k) (rl k))(E:zI tm 14 = dd 0)(F:zI tm 13=v)(G:zI tm 12 = dd (jR k j))(t0:zI tm 0 = .str s)(t1:zI tm 1 = dd a)(H:zI tm 10 = .ptr p4 0)(t9:zI tm 9 = .ptr p0 0)(I:zI tm 11 = dd k)(C:∀h',Q (rhA s a k i) h'):
  wpC Tryz.prog zB false (.loop zFC) ⟨127,tm,[],h⟩ (λe s1=>(thenC (λs1=>wpC Tryz.prog zB false zJZ s1 (endW zB ⟨127,[.tmp 4,.tmp 5,.tmp 6,.tmp 7,.tmp 8,.cell 9 26],bf 68⟩ Q)) (endW zB ⟨127,[.tmp 4,.tmp 5,.tmp 6,.tmp 7,.tmp 8,.cell 9 26],bf 68⟩ Q)) (exitB 0 e) s1):=by
 have hr4:zAe k<=4:=by unfold zAe;split<;>omega
 refine OG (λm tm h'=>∃x:Nat,x<=j/\m=j-x/\Ext h h' x/\zI tm 14 = dd x/\zI tm 13=v/\zI tm 12 = dd (jR k j)/\zI tm 0 = .str s/\zI tm 1 = dd a/\zI tm 10 = .ptr p4 0/\zI tm 9 = .ptr p0 0/\zI tm 11 = dd k) j ?_ ?_
 .exact⟨0,oy,oy,Ext.refl _,E,F,G,t0,t1,H,t9,I⟩
 clear E F G t0 t1 H t9 I;rintro m tm h' ⟨x,x1,rfl,ex,E,F,G,t0,t1,H,t9,I⟩;have et:=ex.top;have el:=ex.le;have elow:=ex.low;have X:=hv.ext ex;have g0':h'.get p0=some (oF 0 0):=(ex.get _ hp0).trans g0;have g4':h'.get p4=some (oF 20 a):=(ex.get _ hp4).trans g4;have Y:x<zAe k:=oy
 rw[tm8 rfl E F G t0 t1 H t9 I];refine wpC.slt _ (zWx _ _ _ _ _ _ _ _ _ _ _ _) ⟨_,X.len zVN rfl,λ_=>?_,λc=>absurd c oy⟩;obtain⟨b,o,e1,cs,kk,w,op,hg,Z⟩:=X.at Y zVN rfl zPp rfl;have hal:zo zB 170 h' (.ptr b o)=some (.agg (rf k x)):=zO zPp rfl hg (Cs.range_is (k:=6) db rfl λi hi=>(Z i hi).trans (zZq Y hi));refine⟨b,o,e1,_,_,_,_,_,_,hal,oy,?_⟩;rintro p9 B rfl J;have n10:B.nx=h'.nx+1:=by rw[J,z8]
 have x10:Ext h' B 1:=by rw[J];exact Ext.new _ oy
 have g10:B.get h'.nx=some (.cells (.ls (f6 0 0 0 0 0 0)) ⟨0,171,0⟩ true false):=by rw[J];exact zM _ oy
 clear J;obtain⟨l,e11,z,A,n11⟩:∃l,zZ zB 170 B (.ptr h'.nx 0) (.agg (rf k x))=some l/\l.get h'.nx=some (.cells (.ls (rf k x)) ⟨0,171,0⟩ true false)/\Ext h' l 1/\l.nx=B.nx :=
  ⟨_,z6 zPp g10 rfl,zF _,x10.upd _ oy (oV _),rfl⟩
 have t11':=A.top;have l11':=A.le;have low11:=A.low;refine⟨l,e11,((jR k x:Nat):Int),zK zm rfl z rfl,λc=>?_,λc=>?_⟩
 .intro L _ _ _ _ _ q9 q14 q13 q12 q0 q1 q10 q11;have:x≠j:=λe=>c (by rw[e])
  refine⟨rfl,rfl,j-(x+1),oy,x+1,oy,rfl,(ex.trans A),?_,q13,q12,q0,q1,q10,q9,q11⟩;rw[q14,zD oy oy];rfl
 have hxj:x=j:=by
  rcases Nat.lt_or_ge x j with g|g
  .exact absurd (λe=>c (by exact_mod_cast e)) (λf=>W x g (by have:=Classical.not_not.1 c;omega))
  omega
 subst hxj;clear W c;have K:l.get p0=some (oF 0 0):=(A.get _ oy).trans g0';have g4'':l.get p4=some (oF 20 a):=(A.get _ oy).trans g4';obtain⟨w1,w2⟩:=zWE k i;have f1:=zYs k i;have f2:=zWF k i;have f3:=zWG k i;have f4:=zZI k i;unfold rf at z;unfold rhA at C;rw[<-hw,<-hf,<-hx,<-hy,<-hz]at z;clear hal e11 Z hw hf hx hy hz;revert z C w1 w2 f1 f2 f3 f4;generalize jR k x=N;generalize fw k i=w;generalize ff k i=q;generalize fx k i=m;generalize fy k i=M;generalize fz k i=st;intro C z w1 w2 f1 f2 f3 f4;refine⟨w,zK zm rfl z rfl,zFt ha hs ⟨w1,oy⟩ (λZ=>⟨_,_,_,_,rfl,oy,?_⟩) (λZ=>⟨_,_,_,_,rfl,oy,?_⟩)⟩
 .rintro p20 r rfl t;have n21:r.nx=l.nx+1:=by rw[t,z8]
  have O:Ext l r 1:=by rw[t];exact Ext.new _ oy
  have P:r.get l.nx=some (oF 0 0):=by rw[t];exact zM _ oy
  clear t;obtain⟨d,R,S,y⟩:∃d,zZ zB 26 r (.ptr l.nx 0) (.agg [dd 0,dd 0])=some d/\d.get l.nx=some (oF 0 0)/\Ext l d 1 :=
   ⟨_,z6 zd P rfl,zF _,O.upd _ oy (oV _)⟩
  have t22:=y.top;have U:=y.low;have D:d.get h'.nx=some (.cells (.ls (f6 N w q (q+m) (q+m+M) st)) ⟨0,171,0⟩ true false):=(y.get _ oy).trans z;have gA:d.get p0=some (oF 0 0):=(y.get _ oy).trans K;have nn:d.nx<=T.top:=oy
  have ll:d.low<=T.top:=oy
  have hv:wQ (zH s a (a+w))<1099511627776:=by
   have h1:=Y8 (zH s a (a+w));have h2:(zH s a (a+w)).length<=w:=by simp[zH];omega
   have h3:256^(zH s a (a+w)).length<=256^5:=Nat.pow_le_pow_right db oy;have h4:(256:Nat)^5=1099511627776:=db
   omega
  simp only[if_pos Z]at C;revert C hv;generalize wQ (zH s a (a+w))=u;intro hv C;have d1:u/2^q<=u:=Nat.div_le_self _ _;have d2:u/2^(q+m)<=u:=Nat.div_le_self _ _;have d3:u/2^q % 2^m<=u/2^q:=Nat.mod_le _ _;have d4:u/2^(q+m) % 2^M<=u/2^(q+m):=Nat.mod_le _ _;have e1:zG (((q+m:Nat):Int)-(q:Int))=(m:Int):=by rw[zD oy oy];omega
  have e2:zG (((q+m+M:Nat):Int)-((q+m:Nat):Int))=(M:Int):=by rw[zD oy oy];omega
  refine⟨d,R,0,zK yh rfl S rfl,λc=>absurd rfl c,λ_=>⟨q,zK zm rfl D rfl,((u/2^q:Nat):Int),by rw[zb oy];exact YL,((q+m:Nat):Int),zK zm rfl D rfl,q,zK zm rfl D rfl,?_⟩⟩;try dsimp only
  rw[e1];refine zN6 ⟨_,_,rfl,((q+m+M:Nat):Int),zK zm rfl D rfl,((q+m:Nat):Int),zK zm rfl D rfl,λc=>⟨((q+m:Nat):Int),zK zm rfl D rfl,((u/2^(q+m):Nat):Int),by rw[zb oy];exact YL,((q+m+M:Nat):Int),zK zm rfl D rfl,((q+m:Nat):Int),zK zm rfl D rfl,?_⟩,λc=>?_⟩
  .try dsimp only
   rw[e2];refine zN6 ⟨_,_,rfl,⟨nn,ll⟩,st,zK zm rfl D rfl,_,z6 zd gA rfl,λL q4 q5 q6 q7 q8 q9 _ _ _ _ _ _ _=>?_⟩;refine Oi (p:=p0) (o:=0) q4 q5 q6 q7 q8 q9 (zO zd rfl (zF _) rfl) ?_;have:=C (d.upd p0 (some (oF 0 0)));rw[zD oy oy,zD oy oy];rw[zQ6]at this;exact this
  have hm:M=0:=oy
  subst hm;refine⟨⟨nn,ll⟩,st,zK zm rfl D rfl,_,z6 zd gA rfl,λL q4 q5 q6 q7 q8 q9 _ _ _ _ _ _ _=>?_⟩;refine Oi (p:=p0) (o:=0) q4 q5 q6 q7 q8 q9 (zO zd rfl (zF _) rfl) ?_;have:=C (d.upd p0 (some (oF 0 0)));rw[zD oy oy];rw[Nat.pow_zero,Nat.mod_one]at this;exact this
 rintro p20 r rfl t;have n21:r.nx=l.nx+1:=by rw[t,z8]
 have O:Ext l r 1:=by rw[t];exact Ext.new _ oy
 have P:r.get l.nx=some (oF 0 0):=by rw[t];exact zM _ oy
 clear t;obtain⟨d,R,S,y⟩:∃d,zZ zB 26 r (.ptr l.nx 0) (.agg [dd 5,dd s.length])=some d/\d.get l.nx=some (oF 5 s.length)/\Ext l d 1 :=
  ⟨_,z6 zd P rfl,zF _,O.upd _ oy (oV _)⟩
 have t22:=y.top;have U:=y.low;have gA:d.get p0=some (oF 0 0):=(y.get _ oy).trans K;have gB:d.get p4=some (oF 20 a):=(y.get _ oy).trans g4'';have nn:d.nx<=T.top:=oy
 have ll:d.low<=T.top:=oy
 simp only[if_neg (show ¬a+w<=s.length by omega)]at C;refine⟨d,R,5,zK yh rfl S rfl,λ_=>⟨⟨nn,ll⟩,20,a,zO zd rfl gB rfl,_,z6 zd gA rfl,λL q4 q5 q6 q7 q8 q9 _ _ _ _ _ _ _=>?_⟩,λc=>absurd db c⟩;exact Oi (p:=p0) (o:=0) q4 q5 q6 q7 q8 q9 (zO zd rfl (zF _) rfl) (C _)
def sel(k i:Nat):Nat:=if k<2 then (if i=3 then 2 else if i=1 then 1 else 0) else i
theorem zWh:∀k,k<4->∀i,i<4->sel k i<zAe k/\jR k (sel k i)=(if k<2/\i=2 then 0 else i)/\fw k i=fw k (jR k (sel k i))/\ff k i=ff k (jR k (sel k i))/\fx k i=fx k (jR k (sel k i))/\fy k i=fy k (jR k (sel k i))/\fz k i=fz k (jR k (sel k i)) /\
  ∀a,a<sel k i->jR k a≠jR k (sel k i):=db
theorem zDl{s:Ua}{x:Int}(hs:s.length<4611686018427387904)(e:Q (rh s x) h):RF P zB 68 [.str s,dd x] h Q:=by
 refine RF.plain ?_ (Ks (yx _) (zL _ _));have e:Plain (rh s x)/\Q (rh s x) h:=⟨zFY _ _,e⟩;refine RF.enterE yA z3W (ble _ _ rfl) (ble _ _ rfl) (z4I s x H0 _) ⟨db,?_⟩;rintro p h1 rfl C;have Z:h1.nx=H0.nx+1:=by rw[C,z8]
 have W:Ext H0 h1 1:=by rw[C];exact Ext.new _ db
 have G:h1.get H0.nx=some (oF 0 0):=by rw[C];exact zM _ db
 clear C;have z0:H0.nx=0:=rfl;have zl:H0.low=T.top:=rfl;have zt:1000<T.top:=db
 have l1:=W.low;refine⟨λc=>?_,λc=>⟨λm=>?_,λm=>?_⟩⟩
 .unfold rh at e;rw[if_pos (Or.inl c)]at e;refine⟨_,z6 zd G rfl,?_⟩;exact qS (p:=H0.nx) (o:=0) da da da da da da (zO zd rfl (zF _) rfl) e
 .have m:(s.length:Int)<x:=m;unfold rh at e;rw[if_pos (Or.inr m)]at e;refine⟨_,z6 zd G rfl,?_⟩;exact qS (p:=H0.nx) (o:=0) da da da da da da (zO zd rfl (zF _) rfl) e
 have m:x<=s.length:=Int.not_lt.1 m;unfold rh at e;rw[if_neg oy]at e;obtain⟨a,rfl⟩:∃a:Nat,x=a:=⟨x.toNat,oy⟩;rw[ol]at e;have I:a<=s.length:=oy
 refine⟨oy,?_⟩;rintro p4 r rfl D;have n5:r.nx=h1.nx+1:=by rw[D,z8]
 have U:Ext h1 r 1:=by rw[D];exact Ext.new _ oy
 have X:r.get h1.nx=some (oF 0 0):=by rw[D];exact zM _ oy
 clear D;have l5:=U.low;obtain⟨j,Y,E,g,n6,l6⟩:∃j,zZ zB 26 r (.ptr h1.nx 0) (.agg [dd 20,dd a])=some j/\j.get h1.nx=some (oF 20 a)/\j.get H0.nx=some (oF 0 0)/\j.nx=r.nx/\j.low<=T.top :=
  ⟨_,z6 zd X rfl,zF _,by rw[zS _,U.get _ oy];exact G,rfl,by rw[H.low_upd];omega⟩
 have V:j.nx<=T.top:=oy
 refine⟨j,Y,λc=>?_,λc=>?_⟩
 .have c:(a:Int)=s.length:=c;unfold rhA at e;obtain⟨w1,w2⟩:=zWE (hb s a % 4) (hb s a/4 % 4);rw[if_neg oy]at e;refine⟨⟨V,l6⟩,20,a,zO zd rfl E rfl,_,z6 zd g rfl,?_⟩;exact qS (p:=H0.nx) (o:=0) da da da da da da (zO zd rfl (zF _) rfl) e
 have c:¬(a:Int)=s.length:=c;obtain⟨b,t⟩:∃b,s[a]? = some b:=⟨s[a]'oy,oU oy⟩;have u:=b.toNat_lt;rw[zIm t]at e;have hi:=yR (k:=.i64) t;revert e hi u;generalize b.toNat=n;intro e u hi;have J:zG (Int.tmod (n:Int) 4)=((n % 4:Nat):Int):=by rw[show(4:Int)=((4:Nat):Int)from rfl,zPl,zD oy oy]
 have F:zG (Int.tmod (zU .u8 (Int.tdiv (n:Int) 4)) 4)=((n/4 % 4:Nat):Int):=by rw[show(4:Int)=((4:Nat):Int)from rfl,zVJ,JY,zPl,zD oy oy];congr 1;omega
 have f:n % 4<4:=oy
 have i:n/4 % 4<4:=oy
 obtain⟨s1,K,L,s4,M,N,O,R⟩:=zWh _ f _ i;have l:∀h':H,Plain (rhA s a (n % 4) (n/4 % 4))/\Q (rhA s a (n % 4) (n/4 % 4)) h:=λ_=>e
 refine⟨⟨V,l6⟩,n,hi,db,n,hi,db,db,λq=>⟨λS=>?_,λS=>?_⟩,λq=>?_⟩
 .rw[J]at q ⊢;rw[F]at S;refine Zu f λv w d y=>⟨v,rfl,?_⟩
  have z:=d.top;have A:=d.le;have B:=d.low;refine qg (p4:=h1.nx) (p0:=H0.nx) I hs f s1 i L s4 M N O R oy oy oy oy oy ((d.get _ oy).trans g) ((d.get _ oy).trans E) y da da ?_ da da da da ?_ l
  .rw[K,if_pos ⟨oy,oy⟩];kernel_rfl
  kernel_rfl
 .rw[J]at q ⊢;rw[F]at S;refine Zu f λv w d y=>⟨v,rfl,?_⟩
  have z:=d.top;have A:=d.le;have B:=d.low;refine qg (p4:=h1.nx) (p0:=H0.nx) I hs f s1 i L s4 M N O R oy oy oy oy oy ((d.get _ oy).trans g) ((d.get _ oy).trans E) y da da ?_ da da da da ?_ l
  .rw[K,if_neg oy];exact Eq.trans (b:=dd (zG (Int.tmod (zU .u8 (Int.tdiv (n:Int) 4)) 4))) da (by rw[F])
  kernel_rfl
 rw[J]at q ⊢;refine Zu f λv w d y=>⟨v,rfl,?_⟩
 have z:=d.top;have A:=d.le;have B:=d.low;refine qg (p4:=h1.nx) (p0:=H0.nx) I hs f s1 i L s4 M N O R oy oy oy oy oy ((d.get _ oy).trans g) ((d.get _ oy).trans E) y da da ?_ da da da da ?_ l
 .rw[K,if_neg oy];exact Eq.trans (b:=dd (zG (Int.tmod (zU .u8 (Int.tdiv (n:Int) 4)) 4))) da (by rw[F])
 kernel_rfl
end Go.Proofs.YtnpeieeomokomaaGreat
