/- TN. No condition. -/
import Derived.Test.YtnpeieeomokomaaGreatZTA
import Derived.Test.YtnpeieeomokomaaGreatZCG
import Derived.Test.YtnpeieeomokomaaGreatZW
set_option maxRecDepth 100000
set_option maxHeartbeats 2000000
namespace Go.Proofs.YtnpeieeomokomaaGreat
open Go.Sim
variable {h:H}{Q:Uc}
variable{x:Int}{s:Ua}
def jT(s:Ua)(x e y:Int):Ug:=[.str s,dh x,dh e,dh y]
def oC(s:Ua)(x e y:Int):O:=.cells (.ls (jT s x e y)) ⟨0,81,0⟩ true false
def cR(s:Ua)(x e y:Int):O:=.cells (.ls (jT s x e y)) ⟨0,156,0⟩ true false
theorem Sb{p:Nat}{a e y:Int}(b:h.get p=some (oC s x e y))(h0:0<=a)(h1:a<=s.length)(d:Q (.bool true) h):RF P zB 260 [dh a,.ptr p 0] h Q:=by refine zh [] zEb ⟨λ_=>?_,λc=>absurd h0 c⟩;show ∃l2,ye zB 9 h (.ptr p (0+0))=some (.str l2)/\_;exact⟨s,zJ xk rfl b rfl,λ_=>d,λc=>absurd h1 c⟩
theorem EF(b:h.nx<T.top)(h0:0<=x)(h1:x<=s.length)(d:∀h',Ext h h' 1->Q (.bool true) h'):RF P zB 186 [.agg (jT s x 0 0)] h Q:=by refine zh [] zDr ⟨b,?_⟩;rintro p h2 rfl rfl;have a:=zK (h:=h) (.cells (.ls (jT s x 0 0)) ⟨0,81,0⟩ true false) b;have f:=Ext.new (h:=h) (.cells (.ls (jT s x 0 0)) ⟨0,81,0⟩ true false) b;refine⟨0,zJ kK rfl a rfl,λ_=>⟨x,zJ zX rfl a rfl,Sb (s:=s) (x:=x) (e:=0) (y:=0) a h0 h1 ⟨true,rfl,λ_=>⟨0,zJ zX rfl a rfl,λ_=>d _ f,λc=>absurd rfl c⟩,λg=>(by cases g)⟩⟩,λc=>absurd rfl c⟩
theorem Gg(m:∀h' p,Ext h h' 3->h.nx<=p->p<h'.nx->h'.get p=some (cR s x 0 0)->Q (.ptr p 0) h')(q:h.nx+3<=T.top:=by omega)(h0:0<=x:=by omega)(h1:x<=s.length:=by omega):RF P zB 114 [.agg (jT s x 0 0)] h Q:=by
 refine zh [1,2] zDV ⟨dd,?_⟩;rintro p h2 rfl d;have r:h2.nx=h.nx+1:=by rw[d,zC]
 have j:Ext h h2 1:=by rw[d];exact Ext.new _ dd
 have k:h2.get h.nx=some (oC s x 0 0):=by rw[d];exact zK _ dd
 refine⟨_,_,_,_,zT wQ rfl k rfl,EF dd h0 h1 λl c=>⟨true,rfl,λ_=>λtm hs=>?_,λg=>(by cases g)⟩⟩;have t:=c.top;have u:=c.le;refine sg hs ⟨_,_,_,_,zT wQ rfl ((c.get _ dd).trans k) rfl,dd,?_⟩;rintro n a rfl b;have e:Ext l a 1:=by rw[b];exact Ext.new _ dd
 have f:a.get l.nx=some (cR s x 0 0):=by rw[b];exact zK _ dd
 exact λo i=>endW.r1 (i.get rfl) (m a _ (((j.trans c).trans e).mono dd) (by have:=j.le;omega) (by rw[b,zC];omega) f)
theorem rC{p:Nat}{e y:Int}(b:h.get p=some (cR s x e y))(a:Q (.bool (decide (e≠0))) h):RF P zB 116 [.ptr p 0] h Q:=by
 refine zh [] zDX ?_;show ∃d,ye zB 24 h (.ptr p (0+0+2+0))=some (dh d)/\_;refine⟨e,zJ kK rfl b rfl,λc=>?_,λc=>?_⟩
 .rwa [decide_eq_true c]at a
 rwa [decide_eq_false c]at a
theorem CJ{p:Nat}{y:Int}(a:h.get p=some (cR s x 0 y))(b:h.nx<=T.top)(hl:h.low<=T.top)(c:Q (dh (zb ((s.length:Int)-x))) h):RF P zB 188 [.ptr p 0] h Q:=by exact zh [] zDt (rC a ⟨_,rfl,λg=>absurd g (by simp),λ_=>⟨⟨b,hl⟩,s,zJ xk rfl a rfl,x,zJ zX rfl a rfl,c⟩⟩)
def oP(p:Nat):O:=.cells (.ls [.ptr p 0]) ⟨0,153,0⟩ true false
def oF(e y:Int):O:=.cells (.ls [dh e,dh y]) ⟨0,27,0⟩ true false
theorem Qf{p q r n:Nat}{e y:Int}{k:H->Prop}(hr:h.get r=some (cR s x 0 0))(d:h.get p=some (oF e y))(hp:h.get q=some (oP r))(i:15≠n)(f:∀h',h'=(if e=0 then h else h.upd r (some (cR s x e y)))->k h'):RV P zB n 187 [.ptr p 0,.ptr q 0] h k:=by refine⟨_,zDs,ble _ _ rfl,ble _ _ rfl,i,?_⟩;exact cg [0,1,9] (l:=[(1,.ptr q 0),(0,.ptr p 0)]) ⟨de,de,trivial⟩ ⟨e,zJ kK rfl d rfl,λc=>⟨.ptr r 0,zJ Ko rfl hp rfl,rC hr ⟨_,rfl,λg=>absurd g (by simp),λ_=>λtm hs=>sg hs ⟨.ptr r 0,zJ Ko rfl hp rfl,e,y,zT zp rfl d rfl,_,zY zp hr rfl,λb a=>a.slt λ_ _=>⟨rfl,f _ (by rw[if_neg c];rfl)⟩⟩⟩⟩,λc=>λtm hs=>sg hs (λb a=>a.slt λ_ _=>⟨rfl,f h (by rw[if_pos (Classical.not_not.1 c)])⟩)⟩
theorem bq{r n x:Nat}{s:Ua}(hr:h.get r=some (cR s x 0 0))(H:r<h.nx)(K:h.nx+2<=T.top)(hl:h.low<=T.top)(L:x<=s.length)(hs:s.length<4611686018427387904)(I:n<4611686018427387904)(D:∀h',ExtX (· = r) h h' 2->(x+n<=s.length->h'.get r=some (cR s ((x+n:Nat):Int) 0 0)->Q (.str (zS s x (x+n))) h')/\(s.length<x+n->h'.get r=some (cR s x 5 s.length)->Q (.str []) h')):RF P zB 115 [.ptr r 0,dh n] h Q:=by
 refine zG5 [4] zDW ⟨rfl,dd,?_⟩;rintro p a rfl m;have n1:a.nx=h.nx+1:=by rw[m,zC]
 have E:Ext h a 1:=by rw[m];exact Ext.new _ dd
 have J:a.get h.nx=some (oP r):=by rw[m];exact zK _ dd
 clear m;refine⟨dd,?_⟩;rintro M h3 rfl o;have N:h3.nx=a.nx+1:=by rw[o,zC]
 have v:Ext a h3 1:=by rw[o];exact Ext.new _ dd
 have F:h3.get a.nx=some (oF 0 0):=by rw[o];exact zK _ dd
 clear o;have b:h3.get h.nx=some (oP r):=by rw[v.get _ dd];exact J
 have gr:h3.get r=some (cR s x 0 0):=by rw[v.get _ dd,E.get _ dd];exact hr
 have d:Ext h h3 2:=(E.trans v).mono dd;have G:h3.low<=T.top:=oS d.low hl;have k:h3.nx<=T.top:=dd
 refine⟨rfl,.ptr r 0,zJ Ko rfl b rfl,rC gr ⟨_,rfl,λg=>absurd g (by simp),λ_=>⟨λc=>absurd c dd,λ_=>⟨.ptr r 0,zJ Ko rfl b rfl,CJ gr k G ⟨_,rfl,λc=>?_,λc=>?_⟩⟩⟩⟩⟩
 ·
  rw[zD dd dd]at c;refine⟨.ptr r 0,zJ Ko rfl b rfl,?_⟩;show ∃w,ye zB 9 h3 (.ptr r (0+0+0))=some (.str w)/\_;refine⟨s,zJ xk rfl gr rfl,?_⟩;obtain⟨h4,z,t,l,A⟩:∃h4,jP zB 26 h3 (.ptr a.nx 0) (.agg [dh 5,dh (Int.ofNat s.length)])=some h4/\h4.get a.nx=some (oF 5 s.length)/\(∀i,i≠a.nx->h4.get i=h3.get i)/\ExtX (· = r) h h4 2:=⟨_,zY zp F rfl,zF _ dd,λi hi=>zL _ dd hi,(ExtX.of d).upd _ dd (.inr dd)⟩
  refine⟨h4,z,λB f=>endW1.df ?_⟩;refine Qf (p:=a.nx) (q:=h.nx) (r:=r) (e:=5) (y:=s.length) ((l _ dd).trans gr) t ((l _ dd).trans b) dg ?_;rintro u j;rw[if_neg dg]at j;refine endQ.ok (leave.tmp (f.get rfl) rfl) ?_;show Q (.str []) u;refine(D u ?_).2 dd ?_
  .rw[j];exact A.upd _ dd (.inl rfl)
  rw[j];exact zF _ dd
 -- as many as that
 rw[zD dd dd]at c;refine⟨⟨k,G⟩,.ptr r 0,zJ Ko rfl b rfl,s,zJ xk rfl gr rfl,.ptr r 0,zJ Ko rfl b rfl,x,zJ zX rfl gr rfl,.ptr r 0,zJ Ko rfl b rfl,x,zJ zX rfl gr rfl,zS s x (x+n),?_,.ptr r 0,zJ Ko rfl b rfl,x,zJ zX rfl gr rfl,?_⟩
 .rw[zD dd dd];exact kV dd dd
 show ∃C,jP zB 3 h3 (.ptr r (0+0+1)) (dh (zb ((x:Int)+(n:Int))))=some C/\_;rw[zD dd dd];obtain⟨h4,z,t,l,A⟩:∃h4,jP zB 3 h3 (.ptr r (0+0+1)) (dh ((x:Int)+(n:Int)))=some h4/\h4.get r=some (cR s ((x+n:Nat):Int) 0 0)/\(∀i,i≠r->h4.get i=h3.get i)/\ExtX (· = r) h h4 2:=⟨_,zY zX gr rfl,zF _ dd,λi hi=>zL _ dd hi,(ExtX.of d).upd _ dd (.inl rfl)⟩
 refine⟨h4,z,λB f=>endW1.df ?_⟩;refine Qf (p:=a.nx) (q:=h.nx) (r:=r) (e:=0) (y:=0) t ((l _ dd).trans F) ((l _ dd).trans b) dg ?_;rintro u j;rw[if_pos rfl]at j;subst j;refine endQ.ok (leave.tmp (f.get rfl) rfl) ?_;exact(D u A).1 dd t
theorem fS{l:Ua}{i:Nat}{b:UInt8}(h:l[i]? = some b):kq (l.take (i+1))=kq (l.take i)+b.toNat*256^i:=by have hi:=(List.getElem?_eq_some_iff.1 h).1;rw[List.take_add_one,h,Option.toList_some,EE,List.length_take,Nat.min_eq_left dd]
theorem tB(i:Nat):2^(8*i)=256^i:=by rw[Nat.pow_mul]
abbrev zCM:Uf:=[26,25,3,0,2]
theorem YS{l:Ua}(hl:l.length<=6)(n:Q (.int .u64 (kq l:Nat)) h):RF P zB 185 [.str l] h Q:=by
 refine zh zCM zDq ⟨λc=>absurd (show(l.length:Int)=8 from c) dd,λ_=>⟨λc=>absurd (show(l.length:Int)=7 from c) dd,λ_=>λo d=>?_⟩⟩;refine sg d (λtm hs=>?_);have e:min (Int.ofNat l.length) 6=((l.length:Nat):Int):=by have:(Int.ofNat l.length)=(l.length:Int):=rfl;omega
 rw[e]at hs;refine wpC.round (λk tm h'=>∃i:Nat,i<=l.length/\k=l.length-i/\h'=h/\Has tm [(26,dh i),(25,dh (l.length:Nat)),(3,.int .u64 (kq (l.take i):Nat)),(0,.str l)]) l.length ⟨0,dd,dd,rfl,hs.sub de⟩ ?_;clear hs;rintro k tm h' ⟨i,h2,rfl,rfl,hs⟩;refine cg zCM hs ⟨λc=>?_,λc=>λp a=>?_⟩
 .have hi:i<l.length:=dd
  obtain⟨b,hb⟩:∃b,l[i]? = some b:=⟨l[i],oQ hi⟩;have q:=b.toNat_lt;have hp:256^(i+1)<=256^6:=Nat.pow_le_pow_right dg dd;have r:b.toNat*256^i<=255*256^i:=Nat.mul_le_mul_right _ dd;have t:256^(i+1)=256^i*256:=Nat.pow_succ _ _;have m:=bO (l.take i);rw[List.length_take,Nat.min_eq_left h2]at m;have u:(256:Nat)^6=281474976710656:=dg
  have hw:zb ((8:Int)*(i:Int))=((8*i:Nat):Int):=by rw[zD dd dd];omega
  refine⟨_,yj hb,((b.toNat*2^(8*i):Nat):Int),?_,((kq (l.take (i+1)):Nat):Int),?_,?_⟩
  .rw[zV dd,hw];exact wD dd (by rw[tB];omega)
  .rw[ZM (by rw[tB];omega),qC (by rw[tB];exact m),tB,fS hb]
  intro v a;refine⟨rfl,rfl,l.length-(i+1),dd,i+1,dd,rfl,rfl,?_⟩;rw[show((i+1:Nat):Int)=zb ((i:Int)+1)by rw[zD dd dd];rfl];exact a.sub de
 have hi:i=l.length:=dd
 subst hi;rw[List.take_length]at a;refine thenC.left (sg a λw f=>?_);refine f.slt λy g=>?_
 refine thenC.out (sg g λz j=>?_);exact endW.r1 (j.get rfl) n
theorem thenC.no{K:St->Prop}{R:Ud}{s:St}(h:K s):thenC K R .normal s:=h
theorem xW(s:Ua)(x e y:Int):Plain (.agg (jT s x e y)):=jg λv a=>by
 simp only[jT,oq,List.not_mem_nil,or_false]at a;rcases a with rfl|rfl|rfl|rfl
 .exact yR _
 all_goals exact zN _ _
theorem Z0{a b:V}(d:Plain a)(hb:Plain b):Plain (.tuple [a,b]):=ZN λv c=>by
 simp only[oq,List.not_mem_nil,or_false]at c;rcases c with rfl|rfl
 .exact d
 exact hb
theorem Pe{a:V}(c:Plain a):∀v∈[a],Plain v:=λv b=>by simp only[oq,List.not_mem_nil,or_false]at b;subst b;exact c
theorem eI{a b:V}(d:Plain a)(hb:Plain b):∀v∈[a,b],Plain v:=λv c=>by
 simp only[oq,List.not_mem_nil,or_false]at c;rcases c with rfl|rfl
 .exact d
 exact hb
theorem zCt{a b c:V}(e:Plain a)(hb:Plain b)(f:Plain c):∀v∈[a,b,c],Plain v:=λv d=>by
 simp only[oq,List.not_mem_nil,or_false]at d;rcases d with rfl|rfl|rfl
 .exact e
 .exact hb
 exact f
theorem Q0{r:Nat}{s:Ua}{x e y n:Int}(hr:h.get r=some (cR s x e y))(o:∀h' k,Ext h h' 1->(e=0->k=n)->(e≠0->k=0)->Q (.tuple [.agg (jT s x e y),dh k]) h')(t:r<h.nx:=by omega)(u:h.nx+1<=T.top:=by omega):RF P zB 184 [.ptr r 0,dh n] h Q:=by
 refine zh [0,1,4,5] zDp ⟨dd,?_⟩;rintro p i rfl j;have n1:i.nx=h.nx+1:=by rw[j,zC]
 have l:Ext h i 1:=by rw[j];exact Ext.new _ dd
 have q:i.get h.nx=some (oC [] 0 0 0):=by rw[j];exact zK _ dd
 clear j;have gr:i.get r=some (cR s x e y):=by rw[l.get _ dd];exact hr
 refine rC gr ⟨_,rfl,λc=>λtm hs=>?_,λc=>λtm hs=>?_⟩
 .have c:e≠0:=by simpa using c
  refine sg hs ?_;show ∃l9 b d f,ye zB 80 i (.ptr r (0+0))=some (.agg [.str l9,dh b,dh d,dh f])/\_;refine⟨s,x,e,y,zT wQ rfl gr rfl,_,zY wQ q rfl,λm a=>?_⟩;refine endW.ok (leave.cell (a.get rfl) (zT wQ rfl (zF _ dd) rfl) (leave.tmp (a.get rfl) rfl)) ?_;exact o _ 0 (l.upd (some (oC s x e y)) (show h.nx<T.top by omega) (oR _)) (λg=>absurd g c) λ_=>rfl
 have c:e=0:=by simpa using c
 refine sg hs ?_;show ∃l9 b d f,ye zB 80 i (.ptr r (0+0))=some (.agg [.str l9,dh b,dh d,dh f])/\_;refine⟨s,x,e,y,zT wQ rfl gr rfl,_,zY wQ q rfl,λm a=>?_⟩;refine endW.ok (leave.cell (a.get rfl) (zT wQ rfl (zF _ dd) rfl) (leave.tmp (a.get rfl) rfl)) ?_;exact o _ n (l.upd (some (oC s x e y)) (show h.nx<T.top by omega) (oR _)) (λ_=>rfl) λg=>absurd c g
theorem So(e:Q (.agg (jT s x 0 0)) h)(h0:0<=x:=by omega)(h1:x<=s.length:=by omega):RF P zB 62 [.str s,dh x] h Q:=by
 refine RF.plain ?_ (eI (yR _) (zN _ _));refine zh [0,1,4,12] zJB ⟨dg,?_⟩;rintro p h2 rfl f;have g:h2.get H0.nx=some (oC [] 0 0 0):=by rw[f];exact zK _ dg
 refine⟨λc=>absurd c dd,λ_=>⟨λc=>absurd (show(s.length:Int)<x from c) dd,λ_=>λi a=>sg a (λj b=>thenC.no (b.sealK λtm hs=>?_))⟩⟩;refine sg hs ?_;refine⟨_,zY wQ g rfl,λk d=>?_⟩;refine endW.ok (leave.cell (d.get rfl) (zT wQ rfl (zF _ dg) rfl) rfl) ?_;exact⟨xW _ _ _ _,e⟩
def hb(s:Ua)(x:Nat):Nat:=match s[x]? with|some b=>b.toNat|none=>0
theorem zFm(s:Ua)(x:Nat):hb s x<256:=by
 unfold hb;split
 .rename_i b _;exact b.toNat_lt
 decide
theorem Dj{x:Nat}{b:UInt8}(h:s[x]? = some b):hb s x=b.toNat:=by unfold hb;rw[h]
theorem Di{x:Nat}(h:s[x]? = none):hb s x=0:=by unfold hb;rw[h]
theorem DH{s:Ua}{x:Nat}(B:x<=s.length)(hs:s.length<4611686018427387904)(z:∀(C e y:Nat),Q (.tuple [.agg (jT s C e y),dh (hb s x:Nat)]) h):RF P zB 109 [.agg (jT s x 0 0)] h Q:=by
 refine RF.plain ?_ (Pe (xW _ _ _ _));refine zh [] zDR ⟨dg,?_⟩;rintro p d rfl o;have n1:d.nx=H0.nx+1:=by rw[o,zC]
 have D:Ext H0 d 1:=by rw[o];exact Ext.new _ dg
 have E:d.get H0.nx=some (oC s x 0 0):=by rw[o];exact zK _ dg
 clear o;have K:H0.nx=0:=rfl;have L:H0.low=T.top:=rfl;have zt:1000<T.top:=dg
 refine⟨dd,?_⟩;rintro M h3 rfl q;have N:h3.nx=d.nx+1:=by rw[q,zC]
 have A:Ext d h3 1:=by rw[q];exact Ext.new _ dd
 have F:h3.get d.nx=some (oC [] 0 0 0):=by rw[q];exact zK _ dd
 clear q;have u:h3.get H0.nx=some (oC s x 0 0):=by rw[A.get _ dd];exact E
 refine⟨s,x,0,0,zT wQ rfl u rfl,Gg λG r t O r1 gr=>⟨_,rfl,?_⟩⟩;have R:=t.top;have S:=t.le;have g9:G.get d.nx=some (oC [] 0 0 0):=by rw[t.get _ dd];exact F
 have l9:=t.low;have U:=A.low;have V:=D.low;refine bq (x:=x) (n:=1) gr r1 dd dd B hs dg λl a=>⟨λc g=>⟨_,rfl,?_⟩,λc g=>⟨_,rfl,?_⟩⟩
 .have v:=a.top;have w:=a.le;have f:l.get d.nx=some (oC [] 0 0 0):=by rw[a.get _ dd dd];exact g9
  refine YS (by simp[zS];omega) ⟨_,rfl,?_⟩;refine Q0 g λi H j n0 m=>⟨_,_,_,_,_,rfl,?_⟩
  have k:i.get d.nx=some (oC [] 0 0 0):=by rw[j.get _ dd];exact f
  refine⟨_,zY wQ k rfl,?_⟩;refine endL.ok (leaveL.cell (zT wQ rfl (zF _ dd) rfl) rfl) ?_;obtain⟨b,hb⟩:∃b,s[x]? = some b:=⟨s[x],oQ dd⟩;have I:=b.toNat_lt;have e:zS s x (x+1)=[b]:=by show(s.drop x).take (x+1-x)=[b];rw[Nat.add_sub_cancel_left,List.take_one,List.head?_drop,hb];rfl
  have J:kq (zS s x (x+1))=b.toNat:=by rw[e];simp[kq]
  rw[n0 rfl,J,zD dd dd];exact⟨Z0 (xW _ _ _ _) (zN _ _),by have:=z (x+1) 0 0;rw[Dj hb]at this;exact this⟩
 have v:=a.top;have w:=a.le;have f:l.get d.nx=some (oC [] 0 0 0):=by rw[a.get _ dd dd];exact g9
 refine YS (by simp) ⟨_,rfl,?_⟩;refine Q0 g λi H j n0 m=>⟨_,_,_,_,_,rfl,?_⟩
 have k:i.get d.nx=some (oC [] 0 0 0):=by rw[j.get _ dd];exact f
 refine⟨_,zY wQ k rfl,?_⟩;refine endL.ok (leaveL.cell (zT wQ rfl (zF _ dd) rfl) rfl) ?_;try dsimp only
 rw[m dg];exact⟨Z0 (xW _ _ _ _) (zN _ _),by have:=z x 5 s.length;rw[Di (s:=s) (x:=x) (ov)]at this;exact this⟩
theorem Np{s:Ua}{x n:Nat}(F:x<=s.length)(hs:s.length<4611686018427387904)(L:1<=n/\n<=6)(C:∀(D e y v:Nat),(x+n<=s.length->D=x+n/\e=0/\y=0/\v=kq (zS s x (x+n)))->(s.length<x+n->e=5/\v=0)->Q (.tuple [.agg (jT s D e y),.int .u64 v]) h):RF P zB 111 [.agg (jT s x 0 0),dh n] h Q:=by
 refine RF.plain ?_ (eI (xW _ _ _ _) (zN _ _));refine zh [1,4,5,6,20] zDS ⟨dg,?_⟩;rintro p f rfl l;have n1:f.nx=H0.nx+1:=by rw[l,zC]
 have G:Ext H0 f 1:=by rw[l];exact Ext.new _ dg
 have H:f.get H0.nx=some (oC s x 0 0):=by rw[l];exact zK _ dg
 clear l;have M:H0.nx=0:=rfl;have N:H0.low=T.top:=rfl;have zt:1000<T.top:=dg
 refine⟨dd,?_⟩;rintro O h3 rfl m;have R:h3.nx=f.nx+1:=by rw[m,zC]
 have E:Ext f h3 1:=by rw[m];exact Ext.new _ dd
 have I:h3.get f.nx=some (oC [] 0 0 0):=by rw[m];exact zK _ dd
 clear m;have q:h3.get H0.nx=some (oC s x 0 0):=by rw[E.get _ dd];exact H
 refine⟨s,x,0,0,zT wQ rfl q rfl,Gg λJ r o S r1 gr=>⟨_,rfl,?_⟩⟩;have U:=o.top;have V:=o.le;have g9:J.get f.nx=some (oC [] 0 0 0):=by rw[o.get _ dd];exact I
 have l9:=o.low;have W:=E.low;have X:=G.low;refine rC gr ⟨_,rfl,λg=>absurd g (by simp),λ_=>⟨λc=>absurd c dd,λ_=>⟨λc=>absurd c dd,λ_=>λtm t=>?_⟩⟩⟩;refine sg t (λK u=>thenC.no (u.sealK λtm b=>sg b ?_));refine bq (x:=x) (n:=n) gr r1 dd dd F hs dd λd a=>⟨λc g=>⟨_,rfl,?_⟩,λc g=>⟨_,rfl,?_⟩⟩
 .have w:=a.top;have z:=a.le;have A:=a.low;have i:d.get f.nx=some (oC [] 0 0 0):=by rw[a.get _ dd dd];exact g9
  have j:d.nx<=T.top:=dd
  have k:d.low<=T.top:=dd
  refine⟨de,⟨j,k⟩,s,((x+n:Nat):Int),0,0,zT wQ rfl g rfl,YS (by simp[zS];omega) ⟨_,rfl,?_⟩⟩;refine nd j k ?_;refine⟨_,zY wQ i rfl,λB b=>endW.ok (leave.cell (b.get rfl) (zT wQ rfl (zF _ dd) rfl) (leave.tmp (b.get rfl) rfl)) ?_⟩;exact⟨Z0 (xW _ _ _ _) (zN _ _),C (x+n) 0 0 _ (λ_=>⟨rfl,rfl,rfl,rfl⟩) λg=>absurd g dd⟩
 have w:=a.top;have z:=a.le;have A:=a.low;have i:d.get f.nx=some (oC [] 0 0 0):=by rw[a.get _ dd dd];exact g9
 have j:d.nx<=T.top:=dd
 have k:d.low<=T.top:=dd
 refine⟨de,⟨j,k⟩,s,x,5,s.length,zT wQ rfl g rfl,YS (by simp) ⟨_,rfl,?_⟩⟩;refine nd j k ?_;refine⟨_,zY wQ i rfl,λB b=>endW.ok (leave.cell (b.get rfl) (zT wQ rfl (zF _ dd) rfl) (leave.tmp (b.get rfl) rfl)) ?_⟩;exact⟨Z0 (xW _ _ _ _) (zN _ _),C x 5 s.length 0 (λg=>absurd g dd) λ_=>⟨rfl,rfl⟩⟩
def fm(a b c d e:Int):Ug:=[dh a,dh b,dh c,dh d,dh e]
def Bf:Ug:=fm 1 3 5 0 0++fm 2 4 12 0 0++fm 1 3 5 0 0++fm 3 4 20 0 0
def Da:Ug:=fm 3 4 10 10 1++fm 3 4 10 10 4++fm 4 4 14 14 4++fm 5 4 18 18 4
theorem plain_ints{l:Ug}(h:l.all (λv=>match v with | .int _ _=>true|_=>false)=true):Plain (.agg l):=jg λv a=>by have:=List.all_eq_true.1 h v a;cases v<;>first|exact zN _ _|cases this
def nP:Option CallOut->Ui
 | some (.ret v _)=>some v
 | _=>none
theorem Gk{r:Option CallOut}{v:V}(h:nP r=some v):∃h',r=some (.ret v h'):=by
 unfold nP at h;split at h
 .rename_i v' h';simp only[oA]at h;subst h;exact⟨h',rfl⟩
 cases h
theorem RF.closed{f:Nat}{args:Ug}{v:V}(b:(zB.fn.get f).isSome=true)(e:nP (run zB Yz 100 f args H0)=some v)(c:∀a∈args,Plain a)(d:Plain v)(g:Q v h):RF P zB f args h Q:=by obtain⟨h',e⟩:=Gk e;exact RF.plain ⟨v,h',⟨Option.isSome_iff_exists.1 b,L7 xf (G9 _ _) e⟩,d,g⟩ c
theorem fm0:nP (run zB Yz 100 110 [dh 0] H0)=some (.agg Bf):=de
theorem fm1:nP (run zB Yz 100 110 [dh 1] H0)=some (.agg Bf):=de
theorem fm2:nP (run zB Yz 100 110 [dh 2] H0)=some (.agg Da):=de
theorem fm3:nP (run zB Yz 100 110 [dh 3] H0)=some (.agg Da):=de
theorem sW{k:Nat}(b:k<4)(a:Q (.agg (if k<2 then Bf else Da)) h):RF P zB 110 [dh k] h Q:=by
 obtain rfl|rfl|rfl|rfl:k=0\/k=1\/k=2\/k=3:=dd
 .exact RF.closed de fm0 (Pe (zN _ _)) (plain_ints rfl) a
 .exact RF.closed de fm1 (Pe (zN _ _)) (plain_ints rfl) a
 .exact RF.closed de fm2 (Pe (zN _ _)) (plain_ints rfl) a
 exact RF.closed de fm3 (Pe (zN _ _)) (plain_ints rfl) a
def fw(k i:Nat):Nat:=if k<2 then (if i=1 then 2 else if i=3 then 3 else 1) else (if i<2 then 3 else if i=2 then 4 else 5)
def ff(k i:Nat):Nat:=if k<2 then (if i=1 then 4 else if i=3 then 4 else 3) else 4
def fx(k i:Nat):Nat:=if k<2 then (if i=1 then 12 else if i=3 then 20 else 5) else (if i<2 then 10 else if i=2 then 14 else 18)
def fy(k i:Nat):Nat:=if k<2 then 0 else (if i<2 then 10 else if i=2 then 14 else 18)
def fz(k i:Nat):Nat:=if k<2 then 0 else (if i=0 then 1 else 4)
theorem uq(k i:Nat):1<=fw k i/\fw k i<=5:=by
 unfold fw;repeat' split
 all_goals omega
theorem zDH(k i:Nat):ff k i<=4:=by
 unfold ff;repeat' split
 all_goals omega
theorem De(k i:Nat):fx k i<=20:=by
 unfold fx;repeat' split
 all_goals omega
theorem Df(k i:Nat):fy k i<=18:=by
 unfold fy;repeat' split
 all_goals omega
theorem zJS(k i:Nat):fz k i<=4:=by
 unfold fz;repeat' split
 all_goals omega
theorem zI1:wM zB 148 (.agg Bf) (dh 0)=some (.agg (fm 1 3 5 0 0)):=de
theorem zI2:wM zB 148 (.agg Bf) (dh 1)=some (.agg (fm 2 4 12 0 0)):=de
theorem zI3:wM zB 148 (.agg Bf) (dh 3)=some (.agg (fm 3 4 20 0 0)):=de
theorem zI4:wM zB 148 (.agg Da) (dh 0)=some (.agg (fm 3 4 10 10 1)):=de
theorem zI5:wM zB 148 (.agg Da) (dh 1)=some (.agg (fm 3 4 10 10 4)):=de
theorem zI6:wM zB 148 (.agg Da) (dh 2)=some (.agg (fm 4 4 14 14 4)):=de
theorem zI7:wM zB 148 (.agg Da) (dh 3)=some (.agg (fm 5 4 18 18 4)):=de
def EU(k i:Nat):Ug:=fm (fw k i) (ff k i) (fx k i) (fy k i) (fz k i)
theorem Bg{k i:Nat}(hi:i<4):wM zB 148 (.agg (if k<2 then Bf else Da)) (dh (i:Int))=some (.agg (EU k i)):=by
 obtain rfl|rfl|rfl|rfl:i=0\/i=1\/i=2\/i=3:=dd
 all_goals
  by_cases a:k<2
  .simp only[EU,fw,ff,fx,fy,fz,if_pos a];first|exact zI1|exact zI2|exact b|exact zI3
  simp only[EU,fw,ff,fx,fy,fz,if_neg a];first|exact zI4|exact zI5|exact zI6|exact zI7
theorem Q6(k:Nat):∃(y0 m n y3 o p q r t u a b c d e f g i j l:Int),(if k<2 then Bf else Da)=[dh y0,dh m,dh n,dh y3,dh o,dh p,dh q,dh r,dh t,dh u,dh a,dh b,dh c,dh d,dh e,dh f,dh g,dh i,dh j,dh l]:=by
 by_cases hk:k<2
 .rw[if_pos hk];exact⟨_,_,_,_,_,_,_,_,_,_,_,_,_,_,_,_,_,_,_,_,rfl⟩
 rw[if_neg hk];exact⟨_,_,_,_,_,_,_,_,_,_,_,_,_,_,_,_,_,_,_,_,rfl⟩
def rhN(k st n m x e y:Int):V:=.tuple [dh k,dh st,dh n,dh m,dh x,.agg [dh e,dh y]]
def rhA(s:Ua)(x k i:Nat):V :=
 if x+fw k i<=s.length then rhN k (fz k i) ((kq (zS s x (x+fw k i))/2^ff k i % 2^fx k i:Nat):Int) ((kq (zS s x (x+fw k i))/2^ff k i/2^fx k i % 2^fy k i:Nat):Int) ((x+fw k i:Nat):Int) 0 0
 else rhN 0 0 0 0 0 20 x
def rh(s:Ua)(x:Int):V :=
 if x<0\/s.length<x then rhN 0 0 0 0 0 2 0 else rhA s x.toNat (hb s x.toNat % 4) (hb s x.toNat/4 % 4)
theorem LJ(k st n m x e y:Int):Plain (rhN k st n m x e y):=ZN λv a=>by
 simp only[oq,List.not_mem_nil,or_false]at a;rcases a with rfl|rfl|rfl|rfl|rfl|rfl
 .exact zN _ _
 .exact zN _ _
 .exact zN _ _
 .exact zN _ _
 .exact zN _ _
 exact jg (eI (zN _ _) (zN _ _))
theorem Gy(s:Ua)(x:Int):Plain (rh s x):=by
 unfold rh rhA;repeat' split
 all_goals exact LJ _ _ _ _ _ _ _
theorem WA{v n:Nat}(a:v<18446744073709551616:=by omega)(b:n<=32:=by omega):wI .and .u64 (v:Int) (yD .u64 (((1*2^n:Nat):Int)-1))=some (.int .u64 ((v % 2^n:Nat):Int)):=by
 have c:2^n<=2^32:=Nat.pow_le_pow_right dg b;have h2:1<=2^n:=Nat.one_le_two_pow;have h3:((1*2^n:Nat):Int)-1=((2^n-1:Nat):Int):=dd
 rw[h3,zV dd,bZ a dd,jt]
theorem zCv(n:Nat)(h:n<256):wI .and .i64 (n:Int) (3:Int)=some (dh ((n % 4:Nat):Int)):=by have:=qf (a:=n) (b:=3) dd dg;rw[show(3:Int)=((3:Nat):Int)from rfl,this,show n &&& 3=n % 4 from jt n 2]
theorem thenC.re{K:St->Prop}{R:Ud}{s:St}(h:R .ret s):thenC K R .ret s:=h
theorem ZQ{s:Ua}{x:Int}(l:Q (rh s x) h)(hs:s.length<4611686018427387904:=by decide):RF P zB 60 [.str s,dh x] h Q:=by
 refine RF.plain ?_ (eI (yR _) (zN _ _));have l:Plain (rh s x)/\Q (rh s x) h:=⟨Gy _ _,l⟩;refine zh [0,1,4,5,6,7,8,9,22] zIz ⟨dg,?_⟩;rintro p q rfl S;have n1:q.nx=H0.nx+1:=by rw[S,zC]
 have x1:Ext H0 q 1:=by rw[S];exact Ext.new _ dg
 have W:q.get H0.nx=some (oF 0 0):=by rw[S];exact zK _ dg
 clear S;have z0:H0.nx=0:=rfl;have zl:H0.low=T.top:=rfl;have zt:1000<T.top:=dg
 have l1:=x1.low;refine⟨λc=>λtm z=>?_,λc=>⟨λJ=>λtm z=>?_,λJ=>λtm z=>?_⟩⟩
 .unfold rh at l;rw[if_pos (Or.inl c)]at l;exact sg z ⟨_,zY zp W rfl,λK b=>thenC.re (endW.ok (leave.tmp (b.get rfl) (leave.tmp (b.get rfl) (leave.tmp (b.get rfl) (leave.tmp (b.get rfl) (leave.tmp (b.get rfl) (leave.cell (b.get rfl) (zT zp rfl (zF _ dd) rfl) rfl)))))) l)⟩
 .have J:(s.length:Int)<x:=J;unfold rh at l;rw[if_pos (Or.inr J)]at l;exact sg z ⟨_,zY zp W rfl,λK b=>thenC.re (endW.ok (leave.tmp (b.get rfl) (leave.tmp (b.get rfl) (leave.tmp (b.get rfl) (leave.tmp (b.get rfl) (leave.tmp (b.get rfl) (leave.cell (b.get rfl) (zT zp rfl (zF _ dd) rfl) rfl)))))) l)⟩
 refine sg z (λtm1 X=>thenC.no (X.sealK λK b=>sg b ?_));have J:x<=s.length:=Int.not_lt.1 J;unfold rh at l;rw[if_neg dd]at l;obtain⟨a,rfl⟩:∃a:Nat,x=a:=⟨x.toNat,dd⟩;rw[oe]at l;have ha:a<=s.length:=dd
 refine So ⟨_,_,_,_,rfl,DH ha hs λY e y=>⟨_,_,_,_,_,rfl,dd,?_⟩⟩;rintro p17 A rfl D;have n18:A.nx=q.nx+1:=by rw[D,zC]
 have L:Ext q A 1:=by rw[D];exact Ext.new _ dd
 have Z:A.get q.nx=some (oC [] 0 0 0):=by rw[D];exact zK _ dd
 clear D;have l18:=L.low;obtain⟨d,e19,g19,f19,n19,l19⟩:∃d,jP zB 80 A (.ptr q.nx 0) (.agg (jT s Y e y))=some d/\d.get q.nx=some (oC s Y e y)/\d.get H0.nx=some (oF 0 0)/\d.nx=A.nx/\d.low<=T.top :=
  ⟨_,zY wQ Z rfl,zF _ dd,by rw[zL _ dd dd,L.get _ dd];exact W,rfl,by rw[H.low_upd];omega⟩
 have hn:=zFm s a;revert hn l;generalize hb s a=n;intro l hn;refine⟨d,e19,_,zCv n hn,sW dd ?_⟩;have hk:n % 4<4:=dd
 have hi:n/4 % 4<4:=dd
 revert l hk hi;generalize hkk:n % 4=k;generalize hii:n/4 % 4=i;intro l hk hi;obtain⟨y0,y1,M,y3,y4,y5,y6,y7,y8,y9,y10,y11,y12,y13,y14,y15,y16,y17,y18,y19,ef⟩:=Q6 k;refine⟨y0,y1,M,y3,y4,y5,y6,y7,y8,y9,y10,y11,y12,y13,y14,y15,y16,y17,y18,y19,by rw[ef],((n/4:Nat):Int),jZ (a:=n) (n:=2) dg,((i:Nat):Int),?_,?_⟩
 .rw[zCv _ dd,hii]
 have U:=Bg (k:=k) hi;rw[ef]at U;obtain⟨w1,w2⟩:=uq k i;have f1:=zDH k i;have f2:=De k i;have f3:=Df k i;have f4:=zJS k i;unfold rhA at l;revert U l w1 w2 f1 f2 f3 f4;unfold EU;generalize fw k i=w;generalize ff k i=r;generalize fx k i=m;generalize fy k i=E;generalize fz k i=st;intro l U w1 w2 f1 f2 f3 f4;refine⟨_,_,_,_,_,U,dd,?_⟩;rintro p50 B rfl F;have n51:B.nx=d.nx+1:=by rw[F,zC]
 have G:Ext d B 1:=by rw[F];exact Ext.new _ dd
 have g51:B.get d.nx=some (.cells (.ls (fm 0 0 0 0 0)) ⟨0,148,0⟩ true false):=by rw[F];exact zK _ dd
 clear F;have l51:=G.low;obtain⟨j,e52,N,g17,g0,n52,I⟩:∃j,jP zB 147 B (.ptr d.nx 0) (.agg (fm w r m E st))=some j/\j.get d.nx=some (.cells (.ls (fm w r m E st)) ⟨0,148,0⟩ true false)/\j.get q.nx=some (oC s Y e y)/\j.get H0.nx=some (oF 0 0)/\j.nx=B.nx/\j.low<=T.top :=
  ⟨_,zY AW g51 rfl,zF _ dd,by rw[zL _ dd dd,G.get _ dd];exact g19,by rw[zL _ dd dd,G.get _ dd];exact f19,rfl,by rw[H.low_upd];omega⟩
 have nn:j.nx<=T.top:=dd
 refine⟨j,e52,de,⟨nn,I⟩,So ⟨_,_,_,_,rfl,nd nn I ?_⟩⟩;refine⟨w,zJ zX rfl N rfl,Np (n:=w) ha hs ⟨w1,dd⟩ λx2 V M v O hv2=>⟨_,_,_,_,_,rfl,nd nn I ?_⟩⟩;obtain⟨o,e69,g69,q50,q0,n69⟩:∃o,jP zB 80 (z8 j) (.ptr q.nx 0) (.agg (jT s x2 V M))=some o/\o.get q.nx=some (oC s x2 V M)/\o.get d.nx=some (.cells (.ls (fm w r m E st)) ⟨0,148,0⟩ true false)/\o.get H0.nx=some (oF 0 0)/\o.nx=j.nx :=
  ⟨_,zY (h:=z8 j) wQ g17 rfl,zF _ dd,by rw[zL _ dd dd];exact N,by rw[zL _ dd dd];exact g0,rfl⟩
 refine⟨o,e69,(show o.nx<=T.top by omega),?_⟩;rintro t u;have R:t.get q.nx=some (oC s x2 V M):=by rw[u];exact g69
 have C:t.get d.nx=some (.cells (.ls (fm w r m E st)) ⟨0,148,0⟩ true false):=by rw[u];exact q50
 have r0:t.get H0.nx=some (oF 0 0):=by rw[u];exact q0
 have n70:t.nx<=T.top:=by rw[u,Nq];omega
 have l70:t.low<=T.top:=by rw[u,jV];omega
 clear u;show ∃x71,ye zB 24 t (.ptr q.nx (0+2+0))=some (dh x71)/\_;refine⟨V,zJ kK rfl R rfl,λc=>?_,λc=>?_⟩
 .have hc:s.length<a+w:=by
   rcases Nat.lt_or_ge s.length (a+w)with g|g
   .exact g
   have:=(O g).2.1;omega
  rw[if_neg dd]at l;exact⟨_,zY zp r0 rfl,λtm3 f=>endW.ok (leave.tmp (f.get rfl) (leave.tmp (f.get rfl) (leave.tmp (f.get rfl) (leave.tmp (f.get rfl) (leave.tmp (f.get rfl) (leave.cell (f.get rfl) (zT zp rfl (zF _ dd) rfl) rfl)))))) l⟩
 have hc:a+w<=s.length:=by
  rcases Nat.lt_or_ge s.length (a+w)with g|g
  .have:=(hv2 g).1;omega
  exact g
 obtain⟨rfl,-,-,ev⟩:=O hc;rw[if_pos hc,<-ev]at l;have hv:v<1099511627776:=by
  have q:=bO (zS s a (a+w));have h2:(zS s a (a+w)).length<=w:=by simp[zS];omega
  have h3:256^(zS s a (a+w)).length<=256^5:=Nat.pow_le_pow_right dg dd;have h4:(256:Nat)^5=1099511627776:=dg
  omega
 have d1:v/2^r<=v:=Nat.div_le_self _ _;have d2:v/2^r/2^m<=v/2^r:=Nat.div_le_self _ _;have d3:v/2^r % 2^m<=v/2^r:=Nat.mod_le _ _;have d4:v/2^r/2^m % 2^E<=v/2^r/2^m:=Nat.mod_le _ _;have b1:2^m<=2^20:=Nat.pow_le_pow_right dg f2;have b2:2^E<=2^20:=Nat.pow_le_pow_right dg dd;refine⟨r,zJ zX rfl C rfl,_,ko dd,de,⟨n70,l70⟩,st,zJ zX rfl C rfl,m,zJ zX rfl C rfl,_,wD (a:=1) (n:=m) dd dd,_,WA,m,zJ zX rfl C rfl,_,ko dd,E,zJ zX rfl C rfl,_,wD (a:=1) (n:=E) dd dd,_,WA,((a+w:Nat):Int),zJ zX rfl R rfl,?_⟩;refine⟨_,zY zp r0 rfl,λtm3 f=>?_⟩;rw[zD (n:=((v/2^r % 2^m:Nat):Int)) dd dd,zD (n:=((v/2^r/2^m % 2^E:Nat):Int)) dd dd]at f;exact endW.ok (leave.tmp (f.get rfl) (leave.tmp (f.get rfl) (leave.tmp (f.get rfl) (leave.tmp (f.get rfl) (leave.tmp (f.get rfl) (leave.cell (f.get rfl) (zT zp rfl (zF _ dd) rfl) rfl)))))) l
theorem zJo(a b:Nat):Int.tmod (a:Int) (b:Int)=((a % b:Nat):Int):=rfl
theorem zJn(a b:Nat):Int.tdiv (a:Int) (b:Int)=((a/b:Nat):Int):=rfl
theorem D5{n m p o:Nat}{tm:Tm}{v0 v1 v:V}{body:Code}(h0:zq tm 6=v0)(h1:zq tm 7=v1)(hp:zq tm 8 = .ptr p o)(a:ye zB 26 h (.ptr p o)=some v)(b:Q (.tuple [v0,v1,v]) h):
  endW zB ⟨n,[.tmp 6,.tmp 7,.cell 8 26],body⟩ Q .ret ⟨m,tm,[],h⟩:=by
 show(match leave zB _ tm h [.tmp 6,.tmp 7,.cell 8 26] []with|some c=>Q (yC c) h|none=>False);simp only[leave,hp,a,h0,h1];exact b
theorem Gx{a b c:V}(d:Plain a)(hb:Plain b)(e:Plain c):Plain (.tuple [a,b,c]):=ZN (zCt d hb e)
end Go.Proofs.YtnpeieeomokomaaGreat
