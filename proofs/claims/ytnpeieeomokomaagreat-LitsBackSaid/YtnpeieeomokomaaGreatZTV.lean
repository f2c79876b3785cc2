/- TV. No condition. -/
import Derived.Test.YtnpeieeomokomaaGreatZTT
import Derived.Test.YtnpeieeomokomaaGreatZTG
import Derived.Test.YtnpeieeomokomaaGreatZCG
import Derived.Test.YtnpeieeomokomaaGreatZW
import Derived.Test.YtnpeieeomokomaaGreatZTA
import Derived.Test.YtnpeieeomokomaaGreatZTM
import Derived.Test.YtnpeieeomokomaaGreatZTL
set_option maxRecDepth 100000
set_option maxHeartbeats 4000000
namespace Go.Proofs.YtnpeieeomokomaaGreat
open Go.Sim
variable {h:H}{Q:Uc}
variable{own:Ub}{xs:Ug}{i n p:Nat}
theorem jf(a:Int):sS a a=true:=by rw[qA];simp
theorem Yt(x y:Nat)(a b c d:Int):Yf zB .eql 26 (t x) (t y) (.agg [dh a,dh b]) (.agg [dh c,dh d])=(match (match some (sS a c)with|some true=>(match some (sS b d)with|some true=>some true|r=>r)|r=>r)with|some r=>some (.bool r)|none=>none):=de
section
open Go (Oper)
abbrev Bv(n s g:Int)(a b:V):O:=.cells (.ls [dh n,dh s,dh g,a,b]) ⟨0,237+1,0⟩ true false
theorem Hy{n s g:Int}{a b:V}{h:H}{Q:Uc}(hp:p<h.nx)(l:h.get p=some (Bv n s g a b))(c:h.nx<T.top)(hl:h.low<=T.top)(m:Q (kv n g s) h):RF P zB 389 [.ptr p 0] h Q:=by
 refine RF.forget (n:=1) (v:=kv n g s) ?_ (zk rfl) m;refine zh zIU zFg ⟨c,?_⟩;rintro p0 j rfl o;obtain⟨n1,d,q⟩:=zm o c;have e:j.low<=T.top:=oS d.low hl;have f:j.get p=some (Bv n s g a b):=by rw[d.get p hp,l]
 have k:h.nx<T.top:=c;exact⟨⟨dd,e⟩,n,zJ zX rfl f rfl,g,zJ zX rfl f rfl,s,zJ zX rfl f rfl,_,zY A1 q rfl,endL.ok (leaveL.cell (zT A1 rfl (zF _ k) rfl) rfl) ⟨rfl,d.upd _ k (oR _)⟩⟩
theorem CM{v:V}{j:Nat}{q:Nat}{n1 s1 g1 c d f:Int}{a1 b1 a2 t:V}{h:H}{Q:Uc}(sl:Sl h v 1 n xs)(hi:i<n)(u:j<n)(w:xs[i]? = some (.ptr p 0))(x:xs[j]? = some (.ptr q 0))(y:p<h.nx)(z:q<h.nx)(r:h.get p=some (Bv n1 s1 g1 a1 b1))(b:h.get q=some (Bv c d f a2 t))(g:h.nx<T.top)(hl:h.low<=T.top)(s:Q (.bool (ai n1 g1 s1 c f d)) h):RF P zB 384 [v,dh i,dh j] h Q:=by
 obtain⟨A,B,k,l⟩:=sl.at1 hi qI rfl Zx rfl rfl w;obtain⟨C,D,m,E⟩:=sl.at1 u qI rfl Zx rfl rfl x;have a:h.nx<=T.top:=Nat.le_of_lt g;have o:p=q->kv n1 g1 s1=kv c f d:=λe=>by subst e;rw[r]at b;simp only[oA,O.cells.injEq,Cs.ls.injEq,List.cons.injEq,V.int.injEq,true_and,and_true]at b;obtain⟨k,l,m,_⟩:=b;rw[k,l,m]
 refine zh zIP zFb ⟨⟨a,hl⟩,A,B,k,_,l,Hy y r g (oR _) ⟨_,_,_,rfl,nd a hl ⟨C,D,m,_,E,Hy z b g hl ⟨_,_,_,rfl,λF G=>⟨o (by cases F;rfl),G⟩,Pr _ _ _ _ _ _ ⟨_,rfl,λe=>?_,λe=>?_⟩⟩⟩⟩⟩<;>(rw[e]at s;exact s)
end
abbrev kN:Rk:=⟨1,235+1,0⟩
def Arr(h:H)(v:V)(xs:Ug):Prop:=∃b cs,v = .slice b 0 xs.length (.skip 0)/\b<h.nx/\h.get b=some (.cells cs kN true true)/\cs.wf/\xs.length<=cs.len/\∀i,i<xs.length->cs.get? i=xs[i]?
def Emp(h:H)(v:V):Prop:=∃b,v = .slice b 0 0 (.exact 0)/\b<h.nx/\h.get b=some (.cells (.ls []) ⟨0,235+1,0⟩ true false)
def Ar(h:H)(v:V)(xs:Ug):Prop:=Arr h v xs\/(xs=[]/\Emp h v)
theorem Ar.sl{v:V}(a:Ar h v xs):Sl h v 1 xs.length xs:=by
 rcases a with⟨b,cs,rfl,c,h2,_,_,d⟩|⟨rfl,b,rfl,c,h2⟩
 .exact⟨by simp,.inr ⟨b,0,_,cs,_,_,_,rfl,c,h2,λi hi=>by grind⟩⟩
 exact⟨rfl,.inr ⟨b,0,_,_,_,_,_,rfl,c,h2,λi hi=>absurd hi (by grind)⟩⟩
theorem Ar.blk{v:V}(a:Ar h v xs):∃b,z6 v=some b/\b<h.nx:=by
 rcases a with⟨b,cs,rfl,c,_⟩|⟨rfl,b,rfl,c,_⟩
 .exact⟨b,rfl,c⟩
 exact⟨b,rfl,c⟩
theorem Ar.keep{h h':H}{v:V}(a:Ar h v xs)(e:h.nx<=h'.nx)(c:∀b,z6 v=some b->h'.get b=h.get b):Ar h' v xs:=by
 rcases a with⟨b,cs,rfl,d,h2,h3⟩|⟨rfl,b,rfl,d,h2⟩
 .exact .inl ⟨b,cs,rfl,dd,by rw[c b rfl];exact h2,h3⟩
 exact .inr ⟨rfl,b,rfl,dd,by rw[c b rfl];exact h2⟩
theorem GW(hl:h.low<=T.top):wW h (z8 h)=h:=by show(⟨h.tbl,h.nx,cond (Nat.ble h.low T.top) h.low T.top⟩:H)=h;rw[oE hl,oN]
theorem gX{o:O}(hl:h.low<=T.top):wW h (((z8 h).upd p none).new o)=(h.upd p none).new o:=by
 have e:=qW (h:=h) (p:=p) (o:=none) hl;rw[H.new_eq,H.new_eq];cases h with
 | mk t n l=>have a:=congrArg H.low e;show(⟨_,_,(wW ⟨t,n,l⟩ ((z8 ⟨t,n,l⟩).upd p none)).low⟩:H)=_;rw[a];rfl
theorem Yw{o:O}(hl:h.low<=T.top):wW h ((z8 h).new o)=h.new o:=by have e:=GW (h:=h) hl;rw[H.new_eq,H.new_eq];cases h<;>simp_all[wW]
theorem Ar.one{v:V}(a:Ar h v xs):we v.cells 1=true:=by rcases a with⟨b,cs,rfl,_⟩|⟨rfl,b,rfl,_⟩<;>rfl
theorem Ar.all{v:V}(a:Ar h v xs):zU v.cells=true:=by rcases a with⟨b,cs,rfl,_⟩|⟨rfl,b,rfl,_⟩<;>rfl
theorem Ar.put{v w:V}(a:Ar h v xs):(Cs.ls [w]).put 0 v.cells=some (.ls [v]):=by rcases a with⟨b,cs,rfl,_⟩|⟨rfl,b,rfl,_⟩<;>rfl
structure Apd (hb h h':H) (v v':V) (c:Nat):Prop where
 ext:Ext hb h' (c+1)
 kept:∀d,d<h.nx->z6 v≠some d->h'.get d=h.get d
 blk:∀d,z6 v'=some d->z6 v=some d\/d=h.nx
 le:h.nx<=h'.nx
 n1:h'.nx<=h.nx+1
theorem Ar.app{hb h:H}{v x u:V}{c:Nat}(a:Ar h v xs)(ex:Ext hb h c)(F:∀b,z6 v=some b->hb.nx<=b)(G:Sl h x 1 1 [u])(I:u.one=true)(g:h.nx<T.top)(hl:h.low<=T.top)(C:xs.length<100000):
  ∃v' k,zi zB 233 (z8 h) v x=some (v',k)/\k.nx<=T.top/\Ar (wW h k) v' (xs++[u])/\Apd hb h (wW h k) v v' c:=by
 have w:∀v,zi zB 233 (z8 h) v x=Go.Sim.appTo ⟨235,.pointer 237,1,8,some .nilptr,true,false,false,[⟨ "cheesepress/length.key",427,#[],some (389,true)⟩]⟩ (z8 h) 1 [u] v:=by intro v;have hs:yT 1 (z8 h) x=some (1,[u]):=Sl.src (h:=z8 h) G dg dg;unfold zi;rw[qI];simp only[Zx,hs];rfl
 rw[w];have l:zU [u]=true:=by simp[zU,I]
 rcases a with⟨b,cs,rfl,D,h2,h3,h4,E⟩|⟨rfl,b,rfl,D,h2⟩
 .have m:=F b rfl;have t:(z8 h).get b=some (.cells cs kN true true):=h2;by_cases hr:xs.length<cs.len
  .obtain⟨j,r,y⟩:=Cs.put_some (cs:=cs) h3 (o:=0+xs.length*1) (vs:=[u]) (by simp;omega);obtain⟨_,p3,z⟩:=Cs.put_eq r;refine⟨.slice b 0 (xs.length+1) (.skip 0),(z8 h).upd b (some (.cells j kN true true)),?_,?_,?_,?_⟩
   .unfold Go.Sim.appTo;simp only[t];unfold kX;have A:(true && true && Nat.beq 1 kN.n && Nat.beq 0 (0*1) && zU [u] && Nat.ble (0+xs.length*1) cs.len)=true:=by
     simp[l];omega
    simp only[A,oN];show cond (Nat.beq 1 0) _ _=_;unfold qh;simp only[r];rfl
   .exact Nat.le_of_lt g
   .rw[qW hl];refine .inl ⟨b,j,by simp,D,zF _ dd,y,by rw[p3];simp;omega,λi hi=>?_⟩;rw[z];have hi:i<xs.length+1:=by simpa using hi
    by_cases f:i<xs.length
    .rw[if_neg dd,E i f,List.getElem?_append_left f]
    have:i=xs.length:=dd
    subst this;rw[if_pos (by simp),List.getElem?_append_right (oR _)];simp
   rw[qW hl];exact⟨(ex.upd _ dd m).mono dd,λd _ hd=>zL _ dd (λq=>hd (by rw[q];rfl)),λd hd=>.inl hd,oR _,Nat.le_succ _⟩
  have hr:cs.len=xs.length:=dd
  obtain⟨j,r,y⟩:=Cs.app_some (cs:=cs) (vs:=[u]) (by rw[hr];simp;omega);obtain⟨p3,z⟩:=Cs.app_eq r;have s:b<T.top:=dd
  refine⟨.slice h.nx 0 (xs.length+1) (.skip 0),((z8 h).upd b none).new (.cells j kN true true),?_,?_,?_,?_⟩
  .unfold Go.Sim.appTo;simp only[t];unfold kX;have A:(true && true && Nat.beq 1 kN.n && Nat.beq 0 (0*1) && zU [u] && Nat.ble (0+xs.length*1) cs.len)=true:=by
    simp[l];omega
   simp only[A,oN];show cond (Nat.beq 1 0) _ _=_;unfold qh;simp only[vg (cs:=cs) (o:=0+xs.length*1) (vs:=[u]) (by simp;omega)];show Yh _ _ _ _ _ _ _ _ _ _=_;unfold Yh;have J:(Nat.beq 0 0 && Nat.beq cs.len (0+xs.length*1) && Nat.ble kN.fz (0+xs.length*1) && (Nat.beq kN.ty 0 || Nat.beq kN.ty (235+1)))=true:=by simp[hr]
   simp only[J,oN,r];exact xg (by simp;omega) (show((z8 h).upd b none).nx<T.top from g)
  .rw[zC];exact g
  .rw[gX hl];refine .inl ⟨h.nx,j,by simp,by rw[zC];exact om _,zK (h:=h.upd b none) _ g,y,by rw[p3];simp;omega,λi hi=>?_⟩;have hi:i<xs.length+1:=by simpa using hi
   rw[z,hr];by_cases f:i<xs.length
   .rw[if_pos f,E i f,List.getElem?_append_left f]
   rw[if_neg f,List.getElem?_append_right dd]
  rw[gX hl];refine⟨(ex.upd none s m).trans (Ext.new _ g),λd hd B=>?_,λd hd=>.inr (by cases hd;rfl),by rw[zC];exact Nat.le_succ _,by rw[zC];exact oR _⟩;rw[zn (h:=h.upd b none) _ g hd,zL _ s (λq=>B (by rw[q];rfl))]
 have t:(z8 h).get b=some (.cells (.ls []) ⟨0,235+1,0⟩ true false):=h2;refine⟨.slice h.nx 0 1 (.skip 0),(z8 h).new (.cells (.ls [u]) kN true true),?_,?_,?_,?_⟩
 .unfold Go.Sim.appTo;simp only[t];unfold jO;rw[show Nat.ble (0+1) 0=false from rfl,oO];show jD _ _ _ (Xo (.ls []) 0 0 [u]) 1=_;have e:Xo (.ls []) 0 0 [u]=some (.ls [u]):=by
   unfold Xo;show cond (zU [u]) (Cs.ofL [u]) none=_;rw[l];rfl
  rw[e];exact xg dg (show(z8 h).nx<T.top from g)
 .rw[zC];exact g
 .rw[Yw hl];refine .inl ⟨h.nx,.ls [u],rfl,by rw[zC];exact om _,zK _ g,trivial,oR _,λi hi=>?_⟩;have:i=0:=by simp at hi;exact hi
  subst this;rfl
 rw[Yw hl];exact⟨ex.trans (Ext.new _ g),λd hd _=>zn _ g hd,λd hd=>.inr (by cases hd;rfl),by rw[zC];exact Nat.le_succ _,by rw[zC];exact oR _⟩
theorem Ar.set{hb h:H}{v u:V}{c:Nat}(a:Ar h v xs)(ex:Ext hb h c)(q:∀b,z6 v=some b->hb.nx<=b)(j:u.cells=[u])(r:u.one=true)(hi:i<xs.length)(z:h.nx<=T.top):
  ∃p o,xK zB 233 v (dh i)=some (.ptr p o)/\∃o',jP zB 235 h (.ptr p o) u=some (h.upd p (some o'))/\(∀h',(∀d,h'.get d=h.get d)->h'.nx=h.nx->jP zB 235 h' (.ptr p o) u=some (h'.upd p (some o')))/\z6 v=some p/\Ar (h.upd p (some o')) v (xs.set i u)/\Ext hb (h.upd p (some o')) c:=by
 rcases a with⟨b,cs,rfl,s,h2,h3,h4,t⟩|⟨rfl,_⟩
 .have l:=q b rfl;obtain⟨f,m,w⟩:=Cs.put_some (cs:=cs) h3 (o:=i) (vs:=[u]) (by simp;omega);obtain⟨_,p3,x⟩:=Cs.put_eq m;have key:∀h',(∀d,h'.get d=h.get d)->h'.nx=h.nx->jP zB 235 h' (.ptr b i) u=some (h'.upd b (some (.cells f kN true true))):=λh' y _ =>
   zY Zx (by rw[y];exact h2) (by rw[j];exact m) (zx.2 (by rw[j];rfl)) (oM _) (by rw[j];simp[zU,r])
  refine⟨b,i,yp qI rfl Zx rfl hi,.cells f kN true true,key h (λ_=>rfl) rfl,key,rfl,.inl ⟨b,f,by simp,s,zF _ dd,w,by rw[p3];simp;omega,λk g=>?_⟩,ex.upd _ dd l⟩;have g:k<xs.length:=by simpa using g
  rw[x,List.getElem?_set];by_cases e:i=k
  .subst e;rw[if_pos ⟨oR _,by simp⟩,if_pos rfl,if_pos g];simp
  rw[if_neg (by simp;omega),if_neg e];exact t k g
 simp at hi
def ND(h:H)(c:Nat->Prop):HT->Nat->Prop
 | .leaf n s,p=>p<h.nx/\¬c p/\h.get p=some (Bv n s 0 .nilptr .nilptr)
 | .join g a b,p=>p<h.nx/\¬c p/\0<g/\∃d pb,h.get p=some (Bv (a.cnt+b.cnt) 0 g (.ptr d 0) (.ptr pb 0))/\ND h c a d/\ND h c b pb
theorem ND.keep{h h':H}{c a:Nat->Prop}(f:h.nx<=h'.nx)(e:∀b,b<h.nx->¬c b->h'.get b=h.get b)(hb:∀b,b<h.nx->a b->c b): {t:HT}->{p:Nat}->ND h c t p->ND h' a t p
 | .leaf _ _,p,⟨d,h2,h3⟩=>⟨dd,λq=>h2 (hb p d q),by rw[e p d h2];exact h3⟩
 | .join _ _ _,p,⟨d,h2,g,j,pb,h3,h4,k⟩=>⟨dd,λq=>h2 (hb p d q),g,j,pb,by rw[e p d h2];exact h3,h4.keep f e hb,k.keep f e hb⟩
theorem ND.at{c:Nat->Prop}{t:HT}(d:ND h c t p):p<h.nx/\∃s g a b,h.get p=some (Bv t.cnt s g a b):=by
 cases t with
 | leaf n s=>exact⟨d.1,_,_,_,_,d.2.2⟩
 | join g a b=>obtain⟨e,_,_,f,pb,h3,_⟩:=d;exact⟨e,_,_,_,_,h3⟩
abbrev rg(l:List HE):Ug:=l.map λe=>.ptr e.1 0
theorem Zq(l:List HE):(rg l).length=l.length:=oy ..
theorem YV{l:List HE}(hi:i<l.length):(rg l)[i]? = some (.ptr l[i].1 0):=by rw[od,oQ hi];rfl
structure HS (K:List HE) (hb h:H) (c ph:Nat) (v:V) (l:List HE):Prop where
 ext:Ext hb h c
 pb:hb.nx<=ph
 pl:ph<h.nx
 pg:h.get ph=some (.cells (.ls [v]) ⟨0,233+1,0⟩ true false)
 ar:Ar h v (rg l)
 vb:∀b,z6 v=some b->hb.nx<=b/\b≠ph
 nd:∀e∈l,ND h (λb=>b=ph\/z6 v=some b) e.2 e.1
 kd:∀e∈K,ND h (λb=>b=ph\/z6 v=some b) e.2 e.1
section
variable {K:List HE}{hb h:H}{c ph:Nat}{v:V}{l:List HE}
theorem HS.ld(s:HS K hb h c ph v l):ye zB 233 h (.ptr ph 0)=some v:=zJ qI rfl s.pg rfl
theorem HS.sl(s:HS K hb h c ph v l):Sl h v 1 l.length (rg l):=by have:=s.ar.sl;rwa [Zq]at this
theorem HS.low(s:HS K hb h c ph v l)(hl:hb.low<=T.top):h.low<=T.top:=oS s.ext.low hl
theorem HS.more{h':H}{m:Nat}(s:HS K hb h c ph v l)(x:Ext h h' m):HS K hb h' (c+m) ph v l:=by obtain⟨b,a,f⟩:=s.ar.blk;refine⟨s.ext.trans x,s.pb,oL s.pl x.le,by rw[x.get _ s.pl];exact s.pg,s.ar.keep x.le λd hd=>?_,s.vb,λe g=>(s.nd e g).keep x.le (λb hb _=>x.get b hb) (λ_ _ q=>q),λe g=>(s.kd e g).keep x.le (λb hb _=>x.get b hb) (λ_ _ q=>q)⟩;rw[a]at hd;cases hd;exact x.get b f
theorem HS.un(s:HS K hb h c ph v l):HS [] hb h c ph v l:=⟨s.ext,s.pb,s.pl,s.pg,s.ar,s.vb,s.nd,λ_ h=>by cases h⟩
theorem cV{j:Nat}{Q:Uc}(s:HS K hb h c ph v l)(hi:i<l.length)(m:j<l.length)(o:h.nx<=T.top)(hl:hb.low<=T.top)(B:∀h',HS K hb h' c ph v (PS l i j)->h'.nx=h.nx->Q (.tuple []) h'):RF P zB 387 [v,dh i,dh j] h Q:=by
 have lo:=s.low hl;have vb:=λb hb=>(s.vb b hb).1
 obtain⟨C,oj,D,E⟩:=s.sl.at1 m qI rfl Zx rfl rfl (YV m);obtain⟨F,oi,G,H⟩:=s.sl.at1 hi qI rfl Zx rfl rfl (YV hi);obtain⟨b,I,J,L,a1,M,v1,r1,N⟩:=s.ar.set (u:=.ptr l[j].1 0) (i:=i) s.ext vb rfl rfl (by rw[Zq];exact hi) o;have a:b<T.top:=by obtain⟨U,y,W⟩:=s.ar.blk;rw[v1]at y;cases y;omega
 obtain⟨f,r,O,R,a2,X,z,r2,S⟩:=r1.set (u:=.ptr l[i].1 0) (i:=j) N vb rfl rfl (by rw[ox,Zq];exact m) o;have w:f=b:=by rw[v1]at z;cases z;rfl
 subst w;have g:f≠ph:=(s.vb f v1).2;refine zh zIS zFe ⟨de,⟨o,lo⟩,C,oj,D,_,E,F,oi,G,_,H,f,I,J,_,M (z8 h) (λ_=>rfl) rfl,o,?_⟩;intro Y A;rw[qW lo]at A;subst A;have keep:∀{t p},ND h (λb=>b=ph\/z6 v=some b) t p->ND ((h.upd f (some L)).upd f (some R)) (λb=>b=ph\/z6 v=some b) t p:=λd0=>d0.keep (by exact oR _) (λd _ hd=>by
  have k:d≠f:=λq=>hd (.inr (by rw[q];exact v1))
  rw[zL _ a k,zL _ a k]) (λ_ _ q=>q)
 refine⟨f,r,O,_,a2,B _ ⟨S,s.pb,s.pl,?_,?_,s.vb,λe x=>keep (s.nd e ((Kl l i j).mem_iff.1 x)),λe x=>keep (s.kd e x)⟩ rfl⟩
 .rw[zL _ a g.symm,zL _ a g.symm];exact s.pg
 have:((rg l).set i (.ptr l[j].1 0)).set j (.ptr l[i].1 0)=rg (PS l i j):=by
  rw[RY hi m];show _=(((l.set i l[j]).set j l[i]).map λe:HE=>V.ptr e.1 0)
  rw[List.map_set,List.map_set]
 rw[<-this];exact r2
theorem lN{Q:Uc}(s:HS K hb h c ph v l)(a:Q (dh (l.length:Nat)) h):RF P zB 180 [v] h Q :=
 zh zHR zDm ⟨_,s.sl.len qI rfl,a⟩
theorem sY{j:Nat}{Q:Uc}(s:HS K hb h c ph v l)(hl:hb.low<=T.top)(d:∀b:Bool,(b=true->Y7 l i<=Y7 l j)->(b=false->Y7 l j<=Y7 l i)->Q (.bool b) h)(hi:i<l.length:=by omega)(a:j<l.length:=by omega)(f:h.nx<T.top:=by omega):RF P zB 384 [v,dh i,dh j] h Q:=by
 obtain⟨g,s1,q,a1,r,k⟩:=(s.nd l[i] (oV hi)).at;obtain⟨m,t,u,a2,w,o⟩:=(s.nd l[j] (oV a)).at;refine CM s.sl hi a (YV hi) (YV a) g m k o f (s.low hl) (d _ ?_ ?_)
 .intro e;have:=Rz.1 e;unfold Y7;rw[oQ hi,oQ a];exact this
 intro e;have:=Rz.2 e;unfold Y7;rw[oQ hi,oQ a];exact this
theorem cY{h:H}:xS zB ⟨none,.typeAssert (t 0) 20 235 false,0, "",#[],none⟩ (λ_=>some (.iface 235 (.ptr p 0))) h=some (.val (.ptr p 0) h):=de
theorem DA{h:H}(a:h.nx<T.top):∃h',zO zB 233 1 [(0,.ptr p 0)] h=some (.slice h.nx 0 1 (.exact 1),h')/\Sl h' (.slice h.nx 0 1 (.exact 1)) 1 1 [.ptr p 0]/\Ext h h' 1:=by
 have e:zO zB 233 1 [(0,.ptr p 0)] h=(match (cond (Nat.blt h.nx T.top) (some (h.nx,h.new (.cells (.ls [.ptr p 0]) ⟨0,235+1,0⟩ true false))) none:Option (Nat×H))with|some (b,h')=>some (.slice b 0 1 (.exact 1),h')|none=>none):=de
 rw[(zW _ _).2 a,oN]at e;exact⟨_,e,⟨rfl,.inr ⟨h.nx,0,_,_,_,_,_,rfl,by rw[zC];omega,zK _ a,λi hi=>by
  have:i=0:=dd
  subst this;rfl⟩⟩,Ext.new _ a⟩
theorem FD{p:Nat}{t:HT}{Q:Uc}(s:HS K hb h c ph v l)(d:ND h (λb=>b=ph\/z6 v=some b) t p)(u:h.nx+2<=T.top)(hl:hb.low<=T.top)(j:l.length<100000)(D:∀h' v',HS K hb h' (c+2) ph v' (l++[(p,t)])->h.nx<=h'.nx->h'.nx<=h.nx+2->Q (.tuple []) h'):
  RF P zB 386 [.ptr ph 0,.iface 235 (.ptr p 0)] h Q:=by
 have lo:=s.low hl;refine zh zIR zFd ⟨⟨dd,lo⟩,v,s.ld,.ptr p 0,z8 h,cY,nd dd lo ?_⟩;obtain⟨r,E,F,k⟩:=DA (h:=h) (p:=p) dd;have G:=k.top;have z:=s.more k;obtain⟨v',w,a1,a2,a3,a4⟩:=z.ar.app z.ext (λb hb=>(z.vb b hb).1) F rfl dd (z.low hl) (by rw[Zq];exact j);refine⟨_,_,E,trivial,v',w,a1,a2,?_⟩;intro f m;rw[<-m]at a3 a4;clear m;have C:ph<r.nx:=z.pl;have x:z6 v≠some ph:=λq=>(z.vb ph q).2 rfl
 have y:f.get ph=some (.cells (.ls [v]) ⟨0,233+1,0⟩ true false):=by rw[a4.kept ph C x];exact z.pg
 have a:ph<T.top:=dd
 have o:∀b,z6 v'=some b->hb.nx<=b/\b≠ph:=λb hb=>by
  rcases a4.blk b hb with q|rfl
  .exact z.vb b q
  exact⟨oS z.ext.le (oR _),dd⟩
 have A:∀b,b<r.nx->¬(b=ph\/z6 v=some b)->(f.upd ph (some (.cells (.ls [v']) ⟨0,233+1,0⟩ true false))).get b=r.get b:=λb hb u=>by rw[zL _ a (λq=>u (.inl q)),a4.kept b hb λq=>u (.inr q)]
 have B:∀b,b<r.nx->(b=ph\/z6 v'=some b)->(b=ph\/z6 v=some b):=λb hb q=>by
  rcases q with q|q
  .exact .inl q
  rcases a4.blk b q with q|q
  .exact .inr q
  omega
 refine⟨_,zY qI y (Ar.put a3) (Ar.one a3) (oM _) (Ar.all a3),D _ v' ⟨a4.ext.upd _ a z.pb,z.pb,oL C a4.le,zF _ a,?_,o,λe g=>?_,λe g=>?_⟩ (oS k.le a4.le) (by have:=a4.n1;show f.nx<=_;omega)⟩
 .have:rg l++[.ptr p 0]=rg (l++[(p,t)]):=by simp[rg]
  rw[<-this];exact a3.keep (oR _) λb hb=>zL _ a (o b hb).2
 .rcases List.mem_append.1 g with g|g
  .exact(z.nd e g).keep (by exact a4.le) A B
  rw[List.mem_singleton.1 g];exact(d.keep k.le (λb hb _=>k.get b hb) (λ_ _ q=>q)).keep (by exact a4.le) A B
 exact(z.kd e g).keep (by exact a4.le) A B
theorem Arr.cut{m:Nat}(a:Arr h v xs)(hm:m<=xs.length):∃v',zw zB 233 h v none (some (dh (m:Nat))) none=some v'/\Arr h v' (xs.take m)/\z6 v'=z6 v:=by
 obtain⟨b,cs,rfl,e,h2,h3,h4,f⟩:=a;have d:(xs.take m).length=m:=by rw[List.length_take];omega
 refine⟨.slice b 0 m (.skip 0),?_,⟨b,cs,by rw[d],e,h2,h3,dd,λi hi=>?_⟩,rfl⟩
 .unfold zw;rw[qI];simp only[Zx,h2];have g:Nat.ble (0+xs.length*1) cs.len=true:=oE dd;show cond (Nat.ble (0+xs.length*1) cs.len) _ _=_;rw[g,oN];have j:bnd (some (dh (m:Nat))) xs.length xs.length=some m:=by
   unfold bnd;show cond (Nat.ble m xs.length) (some m) none=_;rw[oE hm];rfl
  simp only[j];rfl
 rw[d]at hi;rw[f i dd,List.getElem?_take,if_pos hi]
theorem Cb{x:HE}{Q:Uc}(s:HS K hb h c ph v l)(hl:l.length=n+1)(t:l[n]? = some x)(y:n<100000)(u:h.nx<=T.top)(z:∀h' v',HS (x::K) hb h' c ph v' (l.take n)->h'.nx=h.nx->Q (.iface 235 (.ptr x.1 0)) h'):
  RF P zB 385 [.ptr ph 0] h Q:=by
 have d:l[n]'dd=x:=by rw[oQ dd]at t;exact Option.some.inj t
 obtain⟨A,oj,B,w⟩:=s.sl.at1 (i:=n) dd qI rfl Zx rfl rfl (YV dd);rw[d]at w;have ar:Arr h v (rg l):=by
  rcases s.ar with a|⟨a,_⟩
  .exact a
  have:=congrArg List.length a;simp[hl]at this
 obtain⟨v8,C,g,o⟩:=ar.cut (m:=n) (by rw[Zq];omega);have j:ph<T.top:=by have:=s.pl;omega
 have e:zb (((l.length:Nat):Int)-1)=((n:Nat):Int):=by rw[zD dd dd];omega
 refine zh zIQ zFc ⟨v,s.ld,_,s.sl.len qI rfl,A,oj,by rw[e];exact B,_,w,_,s.sl.len qI rfl,v8,by rw[e];exact C,_,zY qI s.pg (Ar.put (.inl g)) (Ar.one (.inl g)) (oM _) (Ar.all (.inl g)),?_⟩;have k:∀b,b<h.nx->¬(b=ph\/z6 v=some b)->(h.upd ph (some (.cells (.ls [v8]) ⟨0,233+1,0⟩ true false))).get b=h.get b:=λb _ u=>zL _ j λq=>u (.inl q)
 have r:∀b,b<h.nx->(b=ph\/z6 v8=some b)->(b=ph\/z6 v=some b):=λb _ q=>by rw[o]at q;exact q
 refine z _ v8 ⟨s.ext.upd _ j s.pb,s.pb,s.pl,zF _ j,?_,λb hb=>s.vb b (by rw[<-o];exact hb),λe f=>(s.nd e (List.mem_of_mem_take f)).keep (by exact oR _) k r,λe f=>?_⟩ rfl
 rotate_left
 .rcases oq.1 f with rfl|f
  .exact(s.nd e (d ▸ oV _)).keep (by exact oR _) k r
  exact(s.kd e f).keep (by exact oR _) k r
 have:(rg l).take n=rg (l.take n):=by simp[rg]
 rw[<-this];exact(Ar.keep (.inl g) (oR _) λb hb=>zL _ j (s.vb b (by rw[<-o];exact hb)).2)
theorem Sy{j:Nat}(h:j<1000000:=by omega):zb (Int.tdiv (zb ((j:Int)-1)) 2)=(((j-1)/2:Nat):Int):=by
 rw[zD (n:=(j:Int)-1) dd dd];rcases j with _|j
 .decide
 rw[show((j+1:Nat):Int)-1=((j:Nat):Int)by omega];have:Int.tdiv ((j:Nat):Int) 2=((j/2:Nat):Int):=rfl;rw[this,zD dd dd];rfl
theorem zGi{j:Nat}{Q:Uc}(s:HS K hb h c ph v l)(u:UpI (Y7 l) l.length j)(C:h.nx<T.top)(hl:hb.low<=T.top)(q:l.length<100000)(r:∀h' l',HS K hb h' c ph v l'->h'.nx=h.nx->Dn l.length l l'->Q (.tuple []) h'):RF P zB 258 [.iface 231 (.ptr ph 0),dh j] h Q:=by
 refine zh zC1 zE9 (λtm hs=>?_);refine wpC.round (λk tm h'=>∃f l',k=f/\HS K hb h' c ph v l'/\h'.nx=h.nx/\l'.Perm l/\UpI (Y7 l') l.length f/\Has tm [(0,.iface 231 (.ptr ph 0)),(1,dh (f:Nat))]) j ⟨j,l,rfl,s,rfl,List.Perm.refl _,u,hs.sub de⟩ ?_;clear hs u s;rintro k tm h' ⟨f,l',rfl,s,g,pm,u,hs⟩;have t:l'.length=l.length:=pm.length_eq;have D:k<l.length:=u.1;have fin:HpI (Y7 l') l.length->∀e,endW zB ⟨23,[],bf 258⟩ Q (exitB 0 (.exit 0)) ⟨23,e,[],h'⟩:=λhp e=>by rw[xM];exact r h' l' s g ⟨pm,λk w=>by rw[ov,ov w],hp⟩
 refine cg zC1 hs ⟨dg,λc=>λa d=>fin (P4 u (.inl (by rw[Sy]at c;omega))) a,λc=>⟨v,s.ld,?_⟩⟩;rw[Sy]at c;show RF P zB 384 [v,dh (k:Nat),dh (zb _)] h' _;rw[Sy];refine sY s hl λb x y=>⟨b,rfl,λhb=>λa d=>?_,λhb=>λa d=>fin (P4 u (.inr (y hb))) a⟩
 refine sg d ⟨v,s.ld,cV s dd dd dd hl λh2 z E=>⟨rfl,λA m=>?_⟩⟩;have k0:0<k:=dd
 refine m.slt λB o=>⟨rfl,rfl,(k-1)/2,dd,(k-1)/2,_,rfl,z,by show h2.nx=h.nx;omega,(Kl _ _ _).trans pm,?_,o.sub de⟩
 rw[cr];exact BL u k0 (x hb)
theorem H1{j:Nat}{tm:Tm}{d:List AD}{Q:Ud}(s:HS K hb h c ph v l)(hs:Has tm [(6,.bool false),(0,.iface 231 (.ptr ph 0)),(9,dh (j:Nat)),(7,dh (i:Nat)),(2,dh (n:Nat)),(1,dh 0)])(hi:i<l.length)(f:j<l.length)(g:h.nx<T.top)(hl:hb.low<=T.top)(k:Y7 l j<=Y7 l i->∀h2 a,HS K hb h2 c ph v (PS l i j)->h2.nx=h.nx->Has a [(6,.bool false),(0,.iface 231 (.ptr ph 0)),(7,dh (j:Nat)),(2,dh (n:Nat)),(1,dh 0)]->Q .normal ⟨48,a,d,h2⟩)(m:Y7 l i<=Y7 l j->∀a,Has a [(6,.bool false),(7,dh (i:Nat)),(1,dh 0)]->Q (.exit 0) ⟨48,a,d,h⟩):Wf aJ FN ⟨48,tm,d,h⟩ Q :=
 sg hs ⟨v,s.ld,sY s hl (λb o q=>⟨b,rfl,
  λhb=>⟨v,s.ld,cV s hi f dd hl λh2 r t=>⟨rfl,λa e=>k (o hb) h2 a r t (e.sub de)⟩⟩,
  λhb=>λa e=>m (q hb) a (e.sub de)⟩) f hi g⟩
theorem SU(h:i<1000000:=by omega):zb (zb (2*(i:Int))+1)=((2*i+1:Nat):Int):=by rw[zD (n:=2*(i:Int)) dd dd,zD dd dd];omega
theorem D1{n:Nat}{Q:Uc}(s:HS K hb h c ph v l)(u:A8 (Y7 l) n 0)(N:n<l.length)(Z:h.nx<T.top)(hl:hb.low<=T.top)(F:l.length<100000)(G:∀b h' l',HS K hb h' c ph v l'->h'.nx=h.nx->Dn n l l'->Q (.bool b) h'):RF P zB 259 [.iface 231 (.ptr ph 0),dh 0,dh n] h Q:=by
 refine zh aJ zEa (λtm hs=>?_);refine wpC.round (λk tm h'=>∃i l',k=l.length-i/\i<l.length/\HS K hb h' c ph v l'/\h'.nx=h.nx/\l'.Perm l/\(∀k,n<=k->l'[k]? = l[k]?)/\A8 (Y7 l') n i/\(i<n\/i=0)/\Has tm [(6,.bool false),(0,.iface 231 (.ptr ph 0)),(7,dh (i:Nat)),(2,dh (n:Nat)),(1,dh 0)]) l.length ⟨0,l,rfl,dd,s,rfl,List.Perm.refl _,λ_ _=>rfl,u,.inr rfl,hs.sub de⟩ ?_;clear hs u s;rintro k tm h' ⟨i,l',rfl,hi,s,y,pm,far,u,O,hs⟩;have R:l'.length=l.length:=pm.length_eq;have fin:HpI (Y7 l') n->∀q,Has q [(6,.bool false),(7,dh (i:Nat)),(1,dh 0)]->thenC (λs1=>Wf aJ FO s1 (endW zB ⟨48,[.tmp 6],bf 259⟩ Q)) (endW zB ⟨48,[.tmp 6],bf 259⟩ Q) (exitB 0 (.exit 0)) ⟨48,q,[],h'⟩:=λhp q B=>by
  refine thenC.out (sg B ⟨λ_=>λg d=>?_,λ_=>λg d=>?_⟩)
  .exact endW.r1 (d.get rfl) (G true h' l' s y ⟨pm,far,hp⟩)
  exact endW.r1 (d.get rfl) (G false h' l' s y ⟨pm,far,hp⟩)
 refine cg aJ hs ⟨λC=>λg d=>fin (QZ u λk z m o=>by rw[SU]at C;omega) g (d.sub de),λC=>⟨λH=>by rw[SU]at H;omega,λH=>λg d=>?_⟩⟩;rw[SU]at C d;have next:∀(j:Nat) (a:Tm),j<n->0<j->(j-1)/2=i->(∀k,k<n->0<k->(k-1)/2=i->Y7 l' j<=Y7 l' k)->Has a [(6,.bool false),(0,.iface 231 (.ptr ph 0)),(9,dh (j:Nat)),(7,dh (i:Nat)),(2,dh (n:Nat)),(1,dh 0)]->Wf aJ FN ⟨48,a,[],h'⟩ (yL aJ (λe s1=>(yL aJ (thenC (λs1=>s1.n=48/\s1.dfr=[]/\∃j,j<l.length-i/\∃i l',j=l.length-i/\i<l.length/\HS K hb s1.heap c ph v l'/\s1.heap.nx=h.nx/\l'.Perm l/\(∀k,n<=k->l'[k]? = l[k]?)/\A8 (Y7 l') n i/\(i<n\/i=0)/\Has s1.tm [(6,.bool false),(0,.iface 231 (.ptr ph 0)),(7,dh (i:Nat)),(2,dh (n:Nat)),(1,dh 0)]) (λe s1=>(thenC (λs1=>Wf aJ FO s1 (endW zB ⟨48,[.tmp 6],bf 259⟩ Q)) (endW zB ⟨48,[.tmp 6],bf 259⟩ Q)) (exitB 0 e) s1))) (exitB 1 e) s1)):=λj a I S U J f=>by
  refine H1 s f dd dd dd hl (λw h2 D V n2 r=>?_) (λw D r=>?_)
  .refine r.slt λE t=>t.slt λA x=>⟨rfl,rfl,l.length-j,dd,j,_,rfl,dd,V,by show h2.nx=h.nx;omega,(Kl _ _ _).trans pm,λk W=>?_,?_,.inl I,x.sub de⟩
   .rw[cW dd dd,if_neg dd,if_neg dd];exact far k W
   rw[cr];exact DZ u I S U w J
  refine r.slt λE t=>t.slt λA x=>?_
  exact fin (QZ u λk z m o=>Int.le_trans w (J k z m o)) A (x.sub de)
 have L:zb (((2*i+1:Nat):Int)+1)=((2*i+2:Nat):Int):=by rw[zD dd dd];omega
 have one:∀k,0<k->(k-1)/2=i->k=2*i+1\/k=2*i+2:=λk _ _=>dd
 refine sg d ⟨λM=>⟨v,s.ld,?_⟩,λM=>λa f=>?_⟩<;>rw[L]at M
 rotate_left
 .exact next (2*i+1) a dd dd dd (λk z m o=>by rcases one k m o with rfl|rfl<;>first|exact oU _|omega) (f.sub de)
 show RF P zB 384 [v,dh (zb _),dh ((2*i+1:Nat):Int)] h' _;rw[L];refine sY s hl λb X Y=>⟨b,rfl,λhb=>λa f=>?_,λhb=>λa f=>?_⟩
 .exact next (2*i+2) a dd dd dd (λk z m o=>by rcases one k m o with rfl|rfl<;>first|exact X hb|exact oU _) (f.sub de)
 exact next (2*i+1) a dd dd dd (λk z m o=>by rcases one k m o with rfl|rfl<;>first|exact Y hb|exact oU _) (f.sub de)
theorem Vi{t:HT}{Q:Uc}(s:HS K hb h c ph v l)(hp:HpI (Y7 l) l.length)(d:ND h (λb=>b=ph\/z6 v=some b) t p)(r:h.nx+3<=T.top)(hl:hb.low<=T.top)(f:l.length<90000)(j:∀h' v' l',HS K hb h' (c+2) ph v' l'->h.nx<=h'.nx->h'.nx<=h.nx+2->PushR l (p,t) l'->Q (.tuple []) h'):
  RF P zB 179 [.iface 231 (.ptr ph 0),.iface 235 (.ptr p 0)] h Q:=by
 refine zh zHQ zDl (FD s d dd hl dd λm v1 s1 n1 u=>⟨rfl,v1,s1.ld,lN s1 ⟨_,rfl,?_⟩⟩);show RF P zB 258 [_,dh (zb _)] m _;have e:zb (((l++[(p,t)]).length:Nat)-1:Int)=((l.length:Nat):Int):=by rw[oW,List.length_singleton,zD dd dd];omega
 rw[e];have a:(l++[(p,t)]).length=l.length+1:=by simp
 refine zGi s1 ?_ dd hl dd λh2 l2 o w g=>⟨rfl,j h2 v1 l2 o dd dd (Ch (by rw[a]at g;exact g))⟩
 rw[a];refine Dm (hp.congr λk q=>fX ?_);rw[List.getElem?_append_left q]
theorem Qc{Q:Uc}(s:HS K hb h c ph v l)(hp:HpI (Y7 l) l.length)(a:l.length=n+1)(hl:hb.low<=T.top)(f:∀h' v' l' x,HS (x::K) hb h' c ph v' l'->h'.nx=h.nx->PopR l x l'->Q (.iface 235 (.ptr x.1 0)) h')(A:h.nx<T.top:=by omega)(d:l.length<90000:=by omega):
  RF P zB 181 [.iface 231 (.ptr ph 0)] h Q:=by
 have e:zb (((l.length:Nat):Int)-1)=((n:Nat):Int):=by rw[zD dd dd];omega
 have g:l[0]? = some l[0]:=oQ dd;rw[a]at hp;refine zh zHS zDn ⟨v,s.ld,lN s ⟨_,rfl,v,s.ld,?_⟩⟩;show RF P zB 387 [v,dh 0,dh (zb _)] h _;rw[e];refine cV (i:=0) (j:=n) s dd dd dd hl λB s1 n1=>⟨rfl,?_⟩
 refine D1 s1 ?_ (by rw[Jc];omega) dd hl (by rw[Jc];omega) λb h2 l2 k C m=>?_
 .rw[cr];exact zA8 hp
 obtain⟨o,q,r⟩:=zBD a g hp m;have last:RF P zB 385 [.ptr ph 0] h2 λw t=>∃u,w=u/\Q u t :=
  Cb k q o dd dd λh3 y z D=>⟨_,rfl,f h3 y _ _ z dd r⟩
 exact⟨b,rfl,λ_=>last,λ_=>last⟩
end
section
open Go (Oper)
abbrev zDG(po pw:Nat):V:=.func (.func 182) [] [.ptr po 0,.ptr pw 0]
abbrev oFn(po pw:Nat):O:=.cells (.ls [zDG po pw]) ⟨0,239+1,0⟩ true false
abbrev wkL(po pw bo n:Nat)(cs:Cs):List (Nat×O):=[(pw,oFn po pw),(po,.cells (.ls [.slice bo 0 n (.exact n)]) ⟨0,23+1,0⟩ true false),(bo,yV cs)]
theorem sR{hb:H}{c po pw bo:Nat}(l:hb.low<=T.top):∀(t:HT) {p dep:Nat}{h:H}{cs:Cs}{o:Ub}{Q:Uc},Vw zH hb h c (wkL po pw bo n cs)->Row cs n (zI o)->ND h (· = bo) t p->(∀x∈t.ls,x.1<n)->dep+t.hgt<=100000->h.nx<=T.top ->
  (∀h' cs',Vw zH hb h' c (wkL po pw bo n cs')->Row cs' n (zI (kM o (t.lv dep)))->h'.nx=h.nx->(∀b,b≠bo->h'.get b=h.get b)->Q (.tuple []) h')->RF P zB 182 [.ptr p 0,dh (dep:Nat),.ptr po 0,.ptr pw 0] h Q
 | .leaf m s,p,dep,h,cs,o,Q,w,row,⟨n1,G,k⟩,hs,hd,r,z=>by have lo:=oS w.low l;have v:s<n:=hs (s,m) (by simp[HT.ls]);obtain⟨h2,f,L,e,A,nx,B⟩:=w.set2 (cx:=zB) 2 (j:=s) (u:=dh (dep:Nat)) row rfl r v zX rfl rfl rfl rfl;refine zh zCL Bk ⟨0,zJ zX rfl k rfl,λ_=>⟨⟨r,lo⟩,.slice bo 0 n (.exact n),w.ld1 1 rfl zM rfl,s,zJ zX rfl k rfl,bo,s,yp zM rfl zX rfl v,h2,L,z h2 f A ?_ nx B⟩,λc=>absurd rfl c⟩;rw[<-xY]at e;exact e
 | .join g a b,p,dep,h,cs,o,Q,w,row,⟨n1,G,n0,I,pb,k,M,N⟩,hs,hd,r,z=>by
  have lo:=oS w.low l;have O:dep+(max a.hgt b.hgt+1)<=100000:=hd;have J:zb (((dep:Nat):Int)+1)=((dep+1:Nat):Int):=zf;refine zh zCL Bk ?_;refine⟨(g:Nat),zJ zX rfl k rfl,λc=>dd,λ_=>⟨⟨r,lo⟩,_,w.ld1 0 rfl P0 rfl,_,zJ Zx rfl k rfl,?_⟩⟩;show RF P zB 182 [.ptr I 0,dh (zb _),.ptr po 0,.ptr pw 0] h _;rw[J];refine sR l a w row M (λx C=>hs x (List.mem_append.2 (.inl C))) dd r λK R D y S E=>⟨rfl,?_⟩
  have F:K.get p=some (Bv (a.cnt+b.cnt) 0 g (.ptr I 0) (.ptr pb 0)):=by rw[E p G];exact k
  refine⟨⟨dd,oS D.low l⟩,_,D.ld1 0 rfl P0 rfl,_,zJ Zx rfl F rfl,?_⟩;show RF P zB 182 [.ptr pb 0,dh (zb _),.ptr po 0,.ptr pw 0] K _;rw[J];refine sR l b D y (N.keep dd (λd _ hd=>E d hd) (λ_ _ q=>q)) (λx C=>hs x (List.mem_append.2 (.inr C))) dd dd λh2 f A e U B=>⟨rfl,?_⟩
  exact z h2 f A (by rw[show(HT.join g a b).lv dep=a.lv (dep+1)++b.lv (dep+1)from rfl,NI];exact e) dd λd hd=>by rw[B d hd,E d hd]
end
section
open Go (Oper)
theorem DE{h:H}(c:h.nx<T.top):zO zB 233 0 [] h=some (.slice h.nx 0 0 (.exact 0),h.new (.cells (.ls []) ⟨0,235+1,0⟩ true false)):=by
 have a:zO zB 233 0 [] h=(match (cond (Nat.blt h.nx T.top) (some (h.nx,h.new (.cells (.ls []) ⟨0,235+1,0⟩ true false))) none:Option (Nat×H))with|some (b,h')=>some (.slice b 0 0 (.exact 0),h')|none=>none):=de
 rw[(zW _ _).2 c,oN]at a;exact a
theorem jY(own:Ub)(k:Nat):pos own (k+1)=pos own k++if 0<own[k]?.getD 0 then [(k,own[k]?.getD 0)] else []:=rfl
structure GL (own:Ub):Prop where
 len:own.length<=256
 rng:∀x∈own,0<=x/\x<=1000
 two:2<=(pos own own.length).length
def Dep(own:Ub)(h h':H)(w:V)(t:HT):Prop:=∃b cs,w = .slice b 0 own.length (.exact own.length)/\h.nx<=b/\b<h'.nx/\h'.get b=some (yV cs)/\Row cs own.length (zI (jl own t))
theorem NG{v:V}{own:Ub}{h:H}{Q:Uc}(sl:Sl h v 1 own.length (zI own))(g:GL own)(hn:h.nx+2000<=T.top)(lo:h.low<=T.top)(hq:∀h' w p t,Ext h h' 1600->HPool (pos own own.length) [(p,t)]->Dep own h h' w t->Q w h'):RF P zB 106 [v] h Q:=by
 have hlen:=g.len;refine zh Ab zDO ⟨_,_,DE dd,rfl,by rw[zC];omega,?_⟩;generalize e1:h.new (.cells (.ls []) ⟨0,235+1,0⟩ true false)=B;obtain⟨n1,x1,g1⟩:=zm e1.symm;rintro ph h3 rfl e3;obtain⟨n3,x3,g3⟩:=zm e3;have C:=x1.trans x3;have s0:HS [] h h3 2 B.nx (.slice h.nx 0 0 (.exact 0)) []:=⟨C,dd,dd,g3,.inr ⟨rfl,h.nx,rfl,dd,by rw[x3.get _ dd];exact g1⟩,λb hb=>by cases hb;exact⟨oR _,dd⟩,λ_ h=>(by cases h),λ_ h=>(by cases h)⟩
 refine⟨_,(sl.ext C).len zM rfl,λtm hs=>?_⟩;refine wpC.round (λk tm h'=>∃(i c:Nat) (v':V) (l:List HE),i<=own.length/\k=own.length-i/\HS [] h h' c B.nx v' l/\c<=2+3*i/\l.length<=i/\HPool (pos own i) l/\(∀e∈l,e.2.cw=0) /\
  Has tm [(15,dh i),(14,dh own.length),(13,v),(3,.ptr B.nx 0),(0,v)]) own.length ⟨0,2,_,[],dd,dd,s0,dd,oR _,HPool.nil,λ_ h=>(by cases h),hs.sub de⟩ ?_
 clear hs s0 C x3 g3 n3 e3 tm;rintro k tm h' ⟨i,c,v',l,hi,rfl,s,hc,hll,hp,hz,hs⟩;have st:=s.ext.top;have sn:=s.ext.le;refine cg Ab hs ⟨λq=>?_,λq=>λy d=>?_⟩
 .have D:i<own.length:=dd
  obtain⟨b,o,X,Y⟩:=yS (sl.ext s.ext) D;have hr:=g.rng _ (oV D);have j:=jY own i;rw[oQ D,Option.getD_some]at j;generalize own[i]=x at Y hr j;refine⟨b,o,X,x,Y,λq2=>⟨_,rfl,dd,?_⟩,λq2=>λy d=>⟨rfl,rfl,own.length-(i+1),dd,i+1,c,v',l,dd,rfl,s,dd,dd,?_,hz,?_⟩⟩
  .rintro p h4 rfl e6;obtain⟨n4,x4,g4⟩:=zm e6;have s4:=s.more x4;have hpl:=s.pl;refine Vi (p:=h'.nx) (t:=.leaf x i) s4 hp.hp ⟨dd,λz=>?_,g4⟩ dd lo dd λh6 v6 l6 s6 m1 m2 pr=>⟨rfl,λy d=>?_⟩
   .rcases z with z|z
    .omega
    obtain⟨b',w1,Z⟩:=s.ar.blk;rw[w1]at z;cases z;omega
   obtain⟨hp6,hz6⟩:=hp.push hz dd pr;rw[if_pos q2]at j;refine⟨rfl,rfl,own.length-(i+1),dd,i+1,c+1+2,v6,l6,dd,rfl,s6,dd,?_,by rw[j];exact hp6,hz6,?_⟩
   .have:=pr.perm.length_eq;simp at this;omega
   rw[<-zf];exact d.sub de
  .rw[if_neg q2,List.append_nil]at j;rw[j];exact hp
  rw[<-zf];exact d.sub de
 have hi:i=own.length:=dd
 subst hi;have A:1<=l.length:=by
  cases l with
  | nil=>have:=hp.ls.length_eq;have:=g.two;simp[NT]at *;omega
  | cons e l=>simp
 have hsum:qK (pos own own.length)<=256000:=by
  have B:=sM own (λx K=>(g.rng x K).1) own.length (oR _);have h2:=Fi (l:=own) (m:=1000) dg λx K=>(g.rng x K).2
  rw[List.take_length]at B;omega
 clear hz q hs sn;refine thenC.left (sg d (λtm1 L=>?_));refine wpC.round (λk tm h'=>∃(I c:Nat) (v':V) (l:List HE),k=l.length/\1<=l.length/\0<I/\I+l.length<=own.length+1/\c+3*l.length<=2+6*own.length/\HS [] h h' c B.nx v' l/\HPool (pos own own.length) l /\
  Has tm [(3,.ptr B.nx 0),(6,dh I),(0,v)]) l.length ⟨1,c,v',l,rfl,A,dg,dd,dd,s,hp,L.sub de⟩ ?_
 clear L d s hp hc hll A st tm y tm1 hi;rintro k tm h' ⟨I,c,v',l,rfl,A,ha0,hag,hc,s,hp,hs⟩;have st:=s.ext.top;have sn:=s.ext.le;refine cg Ab hs ⟨v',s.ld,lN s ⟨_,rfl,λq=>?_,λq=>λy d=>?_⟩⟩
 .obtain⟨n,hln⟩:∃n,l.length=n+1:=⟨l.length-1,dd⟩
  refine Qc s hp.hp hln lo λh7 v7 l7 a s7 n7 p7=>⟨_,rfl,.ptr a.1 0,h7,cY,?_⟩
  have hl7:l.length=l7.length+1:=by have:=p7.perm.length_eq;simpa using this
  obtain⟨m,hm⟩:∃m,l7.length=m+1:=⟨l7.length-1,dd⟩;refine Qc s7 p7.hp hm lo λM v12 l12 b r n12 p12=>⟨_,rfl,.ptr b.1 0,M,cY,?_⟩
  have hl12:l7.length=l12.length+1:=by have:=p12.perm.length_eq;simpa using this
  have N:=r.low lo;obtain⟨c1,c2,c3⟩:=hp.sum (p7.two p12);have da:=r.kd a (by simp);have db:=r.kd b (by simp);obtain⟨pa,sa,ga,aa,ba,ea⟩:=da.at;obtain⟨pb,sb,gb,ab,bb,eb⟩:=db.at;refine⟨⟨dd,N⟩,a.2.cnt,zJ zX rfl ea rfl,b.2.cnt,zJ zX rfl eb rfl,_,rfl,dd,?_⟩;rintro p29 h30 rfl e30;obtain⟨n30,x30,O⟩:=zm e30;have E:=r.more x30;have ew:zb (a.2.cnt+b.2.cnt)=a.2.cnt+b.2.cnt:=zD dd dd;rw[ew]at O;refine Vi (p:=M.nx) (t:=.join I a.2 b.2) E p12.hp ⟨dd,λz=>?_,ha0,a.1,b.1,O,E.kd a (by simp),E.kd b (by simp)⟩ dd lo dd λh33 v33 R s33 m1 m2 pr=>⟨rfl,λy d=>?_⟩
  .rcases z with z|z
   .have:=r.pl;omega
   obtain⟨b',w1,Z⟩:=r.ar.blk;rw[w1]at z;cases z;omega
  obtain⟨hp3,hl3⟩:=hp.join p7 p12 pr;refine⟨rfl,rfl,R.length,dd,I+1,c+1+2,v33,R,rfl,dd,dd,dd,dd,s33.un,hp3,?_⟩;rw[<-zf];exact d.sub de
 obtain⟨e,rfl⟩:∃e,l=[e]:=by
  match l,A with
  | [e],_=>exact⟨e,rfl⟩
  | _::_::_,_=>exfalso;apply q;simp;omega
 obtain⟨p,t⟩:=e;have gd:=Good.of hp;have hst:=s.nd (p,t) (by simp);have hsl:=s.sl;obtain⟨pb,U,i1,i2⟩:=hsl.at1 (i:=0) (by simp) qI rfl Zx rfl rfl (YV (by simp));obtain⟨cs,mk1,mk2⟩:=Row.make (cx:=zB) (k:=own.length) (h:=h') zM rfl zX rfl rfl rfl dd (by show 8*own.length<=_;omega) dd;have Z:=(Vw.nil (S:=zH) (h:=h')).new (o:=yV cs) rfl dd;refine thenC.left (sg d ⟨_,(sl.ext s.ext).len zM rfl,_,_,mk1,rfl,by rw[zC];omega,?_⟩);generalize e2:h'.new (yV cs)=h2 at Z;have n2:h2.nx=h'.nx+1:=by rw[<-e2,zC]
 rintro p3 h4 rfl X;have w4:=Z.new X dd;have n4:h4.nx=h2.nx+1:=by rw[X,zC]
 obtain⟨h5,Y,w5,n5,_⟩:=w4.st (cx:=zB) 0 (t:=23) (f:=0) (u:=.slice h'.nx 0 own.length (.exact own.length)) rfl dd zM rfl;refine⟨h5,Y,rfl,dd,?_⟩;rintro p6 h7 rfl e7;have w7:=w5.new e7 dd;have n7:h7.nx=h5.nx+1:=by rw[e7,zC]
 obtain⟨h8,e8,w8,n8,_⟩:=w7.st (cx:=zB) 0 (t:=239) (f:=0) (u:=zDG h2.nx h5.nx) rfl dd P0 rfl;have x8:=w8.ex0;have lo8:=oS w8.low (s.low lo);have i3:ye zB 235 h8 (.ptr pb U)=some (.ptr p 0):=((s.more x8).sl.at1 (i:=0) (by simp) qI rfl Zx rfl rfl (YV (by simp))).elim λpb2 h=>h.elim λpo2 h=>by have:=h.1;rw[i1]at this;cases this;exact h.2
 refine⟨h8,e8,⟨dd,lo8⟩,_,w8.ld1 0 rfl P0 rfl,_,(s.more x8).ld,pb,U,i1,_,i3,?_⟩;refine sR (dep:=0) (o:=List.replicate own.length 0) (n:=own.length) (bo:=h'.nx) (s.low lo) t w8 (by rw[qV];exact mk2) (hst.keep (by exact x8.le) (λb hb _=>x8.get b hb) (λb hb q=>dd)) (λx K=>gd.lt x K) ?_ dd λh9 cs9 J W n9 k9=>⟨rfl,?_⟩
 .have G:=hp.one.1;have h0:F t.hgt<=t.cnt:=(lh G).1;have e2:=rF t;rw[X1 hp.one.2]at e2;have hF:t.hgt<=30:=by
   by_cases c:t.hgt<=30
   .exact c
   have B:F 31<=F t.hgt:=zCC;have h2:(256001:Int)<=F 31:=by decide +kernel
   omega
  omega
 refine⟨_,J.ld1 1 rfl zM rfl,λtm3 hs3=>?_⟩;have x9:=J.ex0;have top9:=J.top;have le9:=J.le;exact hs3.slt λtm5 hs5=>endW.r1 (hs5.get rfl) (hq h9 _ p t ((s.ext.trans x9).mono dd) hp ⟨h'.nx,cs9,rfl,dd,J.lt 2 rfl,J.get 2 rfl,W⟩)
end
theorem cD(h:∀x∈own,0<=x):∀k,k<=own.length->(pos own k).length=cnt (own.take k)
 | 0,_=>by simp[pos,cnt]
 | k+1,b=>by
  have a:k<own.length:=dd
  rw[jY,oW,cD h k dd,yN a,j7,oQ a,Option.getD_some];congr 1;have:=h _ (oV a);by_cases c:0<own[k]
  .rw[if_pos c];have e:cnt [own[k]]=1:=by unfold cnt;rw[List.filter_cons_of_pos (by simp;omega)];rfl
   rw[e];rfl
  rw[if_neg c];have:own[k]=0:=dd
  rw[this];rfl
theorem GL.gc(g:GL own):GC own:=⟨g.len,g.rng⟩
theorem GL.cnt2(g:GL own):2<=cnt own:=by have:=cD (λx a=>(g.rng x a).1) own.length (oR _);rw[List.take_length]at this;have:=g.two;omega
theorem ux{v:V}(sl:Sl h v 1 own.length (zI own))(g:GL own)(a:Q (dh 0) h):RF P zB 105 [v] h Q :=
 zh zCE Bh (Zc sl g.gc ⟨_,rfl,λc=>absurd rfl c,λ_=>ZF sl g.gc ⟨_,_,rfl,λc=>by have:=g.cnt2;omega,λ_=>a⟩⟩)
def IW(l:Ub)(i:Nat):Ub:=(ZJ l).take i++l.drop i
theorem Dr(l:Ub):IW l l.length=ZJ l:=by unfold IW;rw[List.drop_length,List.append_nil,<-Zi l,List.take_length]
theorem zAa{l:Ub}(h:i<l.length):(IW l i)[i]? = some l[i]:=by
 unfold IW;have e:((ZJ l).take i).length=i:=by rw[List.length_take,Zi];omega
 rw[List.getElem?_append_right dd,e,Nat.sub_self,List.getElem?_drop,Nat.add_zero,oQ h]
theorem Ds{l:Ub}(h:i<l.length):(IW l i).set i (l[i]-l[i]/2)=IW l (i+1):=by
 unfold IW;have e:((ZJ l).take i).length=i:=by rw[List.length_take,Zi];omega
 rw[List.set_append_right _ _ dd,e,Nat.sub_self,List.drop_eq_getElem_cons h,List.set_cons_zero,yN (by rw[Zi];exact h),List.append_assoc];congr 1;simp[ZJ]
abbrev oOw(cs:Cs):O:=.cells cs (xD yg) true true
theorem S6{hb h:H}{c b n:Nat}{cs:Cs}{jT:Ub}{tm:Tm}{d:List AD}{Q:Ud}(w:Vw zH hb h c [(b,oOw cs)])(row:Row cs n (zI jT))(y:jT.length=n)(F:n<=256)(z:∀x∈jT,0<=x/\x<=1000)(G:h.nx<=T.top)(A:hb.low<=T.top)(hs:Has tm [(30,dh (0:Nat)),(29,dh (n:Nat)),(5,.slice b 0 n (.skip 0))])(B:∀a h' cs',Has a [(5,.slice b 0 n (.skip 0))]->Vw zH hb h' c [(b,oOw cs')]->Row cs' n (zI (ZJ jT))->h'.nx=h.nx->Q (.exit 4) ⟨47,a,d,h'⟩):wpC P zB false (.loop zFq) ⟨47,tm,d,h⟩ Q:=by
 refine wpC.round (λk tm h'=>∃(i:Nat) (cs:Cs),i<=n/\k=n-i/\Vw zH hb h' c [(b,oOw cs)]/\Row cs n (zI (IW jT i))/\h'.nx=h.nx/\Has tm [(30,dh (i:Nat)),(29,dh (n:Nat)),(5,.slice b 0 n (.skip 0))]) n ⟨0,cs,dd,dd,w,row,rfl,hs⟩ ?_;clear hs row w tm cs;rintro k tm h' ⟨i,cs,hi,rfl,w,row,r,hs⟩;have lo:=oS w.low A;refine cg B5 hs ⟨λq=>?_,λq=>λa l=>?_⟩
 .have m:i<n:=dd
  have o:i<jT.length:=dd
  have e:cs.get? i=some (dh jT[i]):=by rw[row.2.2.2 i m,od,zAa o];rfl
  have hr:=z _ (oV o);have f:=Ds o;generalize jT[i]=x at e hr f;have s:xK zB 23 (.slice b 0 n (.skip 0)) (dh (i:Nat))=some (.ptr b i):=yp zM rfl zX rfl m;have v:ye zB 3 h' (.ptr b i)=some (dh x):=w.ld1 0 rfl zX e;have C:zb (x-x/2)=x-x/2:=zD dd dd;obtain⟨h2,t,D,g,E,I⟩:=w.set (cx:=zB) 0 (j:=i) (u:=dh (x-x/2)) row rfl dd m zX rfl rfl rfl rfl;refine⟨⟨dd,lo⟩,b,i,s,x,v,b,i,s,x,v,x/2,Wp (n:=1) dg,b,i,s,h2,by rw[C];exact D,λa l=>⟨rfl,rfl,n-(i+1),dd,i+1,t,dd,rfl,E,?_,by show h2.nx=_;omega,?_⟩⟩
  .rw[<-xY,f]at g;exact g
  rw[<-zf];exact l.sub de
 have hi:i=jT.length:=dd
 subst hi;rw[Dr]at row;exact B a h' cs (l.sub de) w row r
theorem Dep.len{h h':H}{w:V}{t:HT}(d:Dep own h h' w t):Sl h' w 1 own.length (zI (jl own t)):=by obtain⟨b,cs,rfl,a,h2,h3,h4⟩:=d;exact h4.sl h2 h3
theorem Dep.same{jT:Ub}{h h':H}{w:V}{t:HT}(d:Dep jT h h' w t)(e:jT.length=own.length):Dep own h h' w t:=by
 have a:jl jT t=jl own t:=by unfold jl;rw[e]
 unfold Dep at d ⊢
 rwa [e,a]at d
theorem Dep.old{h0 h h':H}{w:V}{t:HT}(d:Dep own h h' w t)(e:h0.nx<=h.nx):Dep own h0 h' w t:=by obtain⟨b,cs,rfl,a,h2,h3,h4⟩:=d;exact⟨b,cs,rfl,oS e a,h2,h3,h4⟩
theorem QE(c:h.nx<T.top):zO zB 23 0 [] h=some (.slice h.nx 0 0 (.exact 0),h.new (.cells (.ls []) ⟨0,3+1,0⟩ true false)):=by
 have a:zO zB 23 0 [] h=(match (cond (Nat.blt h.nx T.top) (some (h.nx,h.new (.cells (.ls []) ⟨0,3+1,0⟩ true false))) none:Option (Nat×H))with|some (b,h')=>some (.slice b 0 0 (.exact 0),h')|none=>none):=de
 rw[(zW _ _).2 c,oN]at a;exact a
theorem DR{v:V}{l:Ub}(s:Sl h v 1 l.length (zI l))(h0:0<l.length)(f:l.length<=100000)(w:h.nx+2<=T.top):
  ∃b h' cs,zi zB 23 (h.new (.cells (.ls []) ⟨0,3+1,0⟩ true false)) (.slice h.nx 0 0 (.exact 0)) v=some (.slice b 0 l.length (.skip 0),h')/\Vw zH h h' 2 [(b,oOw cs)]/\Row cs l.length (zI l)/\h'.nx=h.nx+2:=by
 have c:=(Vw.nil (S:=zH) (h:=h)).new (o:=.cells (.ls []) ⟨0,3+1,0⟩ true false) rfl dd;have n1:=zC h (.cells (.ls []) ⟨0,3+1,0⟩ true false);generalize h.new (.cells (.ls []) ⟨0,3+1,0⟩ true false)=e at c n1;have j:=c.get 0 rfl;have a:(zI l).length=l.length:=by simp[zI]
 obtain⟨cs,g,k⟩:=Cs.ofL_some (l:=zI l) (by rw[a];omega);obtain⟨m,q⟩:=Cs.ofL_eq g;have d:=c.new (o:=oOw cs) rfl dd;refine⟨e.nx,e.new (oOw cs),cs,?_,⟨d.ex,d.bk.1,d.bk.2.1,d.bk.2.2.1,trivial⟩,⟨k,by rw[m,a],a,λi _=>q i⟩,by rw[zC];omega⟩;unfold zi;rw[zM];simp only[uO];have r:jo yg=true:=de
 rw[r,oN,(s.ext c.ex0).src dg h0];show Go.Sim.appTo yg e l.length (zI l) (.slice h.nx 0 0 (.exact 0))=_;unfold Go.Sim.appTo;simp only[j];unfold jO;have t:Nat.ble (0+l.length) 0=false:=by
  rcases hb:Nat.ble (0+l.length) 0 with _|_
  .rfl
  have:=oG hb;omega
 rw[t,oO];have u:Xo (.ls []) 0 (0*yg.size) (zI l)=some cs:=by unfold Xo;rw[Nat.zero_mul,Kd (.ls []) 0 (.inr trivial)];simp only[si,oN,List.nil_append,g]
 rw[u,Nat.zero_add];exact xg (by show l.length*8<=_;omega) dd
theorem GQ{v:V}{own:Ub}(sl:Sl h v 1 own.length (zI own))(g:GL own)(hn:h.nx+20000<=T.top)(lo:h.low<=T.top)(hq:∀h' w t,Ext h h' 17700->Good own t->t.hgt<=11->Dep own h h' w t->Q (.tuple [w,dh 0]) h'):RF P zB 55 [v] h Q:=by
 have G:=g.len;have U:0<own.length:=by have:=g.cnt2;have:=Yl own;omega
 obtain⟨b,h6,cs,e6,w6,s,n6⟩:=DR sl U dd dd;refine zh B5 zFh (ux sl g ⟨_,rfl,λc=>absurd rfl c,λ_=>⟨_,_,QE dd,trivial,_,h6,e6,λtm hs=>?_⟩⟩);refine wpC.round (λk tm h'=>∃(cs:Cs) (jT:Ub) (c:Nat),Vw zH h h' c [(b,oOw cs)]/\Row cs own.length (zI jT)/\GL jT/\jT.length=own.length/\(∀x∈jT,x<=2^k)/\k<=10/\c<=2+1600*(10-k)/\(pos jT own.length).map (·.1)=(pos own own.length).map (·.1)/\Has tm [(5,.slice b 0 own.length (.skip 0))]) 10
  ⟨cs,own,2,w6,s,g,rfl,λx B=>by have:=(g.rng x B).2;show x<=1024;omega,dg,dg,rfl,hs.sub de⟩ ?_
 clear hs w6 s n6 e6 cs tm h6;rintro k tm h' ⟨cs,jT,c,w,row,C,a,H,hk,hc,I,hs⟩;have tw:=w.top;have W:=oS w.low lo;have J:Sl h' (.slice b 0 own.length (.skip 0)) 1 jT.length (zI jT):=by rw[a];exact row.sl (w.lt 0 rfl) (w.get 0 rfl)
 refine cg B5 hs (NG J C dd W λh1 R p t x1 hp dep=>⟨_,rfl,_,dep.len.len zM rfl,λX K=>?_⟩);have d:=Good.of hp;have gd:Good own t:=by unfold Good at d ⊢;rw[a]at d;rw[<-I];exact d
 have Y:=w.ext x1;have t1:=Y.top;have sd:=dep.len;have Z:=XB jT t;refine wpC.round (λk tm h'=>∃(i:Nat),i<=jT.length/\k=jT.length-i/\h'=h1/\(∀j,j<i->∀x,(jl jT t)[j]? = some x->x<=11)/\Has tm [(22,dh (i:Nat)),(21,dh (jT.length:Nat)),(20,R),(6,R),(5,.slice b 0 own.length (.skip 0))]) jT.length ⟨0,dd,dd,rfl,λj S=>absurd S (Nat.not_lt_zero _),K.sub de⟩ ?_;clear K X;rintro k2 tm2 h2 ⟨i,hi,rfl,rfl,u,hs2⟩;refine cg B5 hs2 ⟨λq=>?_,λq=>λo f=>?_⟩
 .have D:i<(jl jT t).length:=dd
  obtain⟨b2,o2,a1,a2⟩:=yS (by rw[Z];exact sd:Sl h2 R 1 (jl jT t).length (zI (jl jT t))) D;have A:(jl jT t)[i]∈jl jT t:=oV D;have L:(jl jT t)[i]? = some (jl jT t)[i]:=oQ D;generalize (jl jT t)[i]=x at a2 A L;refine⟨b2,o2,a1,x,a2,λq2=>⟨_,(J.ext x1).len zM rfl,λo f=>?_⟩,λq2=>λo f=>⟨rfl,rfl,jT.length-(i+1),dd,i+1,dd,rfl,rfl,λj S y M=>?_,?_⟩⟩
  .have hk1:1<=k:=by
    by_cases c0:k=0
    .subst c0;have hh:=(vT d).1 ⟨x,A,dd⟩;have:=Dl hp (λx B=>(C.rng x B).1) hh;have:=Fi (l:=jT) (m:=1) dg λx B=>by simpa using H x B
     have:=C.len;omega
    omega
   obtain⟨k,rfl⟩:∃k',k=k'+1:=⟨k-1,dd⟩;have N:Has o [(30,dh (0:Nat)),(29,dh (own.length:Nat)),(5,.slice b 0 own.length (.skip 0))]:=by
    have z:Has o [(30,dh (0:Nat)),(29,dh (jT.length:Nat)),(5,.slice b 0 own.length (.skip 0))]:=f.sub de
    rwa [a]at z
   refine S6 Y row a G C.rng dd lo N λtm4 h4 cs4 E w4 O n4=>?_
   refine thenC.out (sg E (λtm5 r=>?_));show yL B5 _ (AX.exit 1) _;refine r.slt λtm6 hs6=>?_
   show yL B5 _ AX.normal _;have F:=Zi jT;refine hs6.slt λtm7 hs7=>⟨rfl,rfl,k,dd,cs4,ZJ jT,c+1600,w4,O,⟨by rw[F];exact C.len,λy M=>?_,?_⟩,by rw[F,a],Hn H,dd,dd,?_,hs7.sub de⟩
   .obtain⟨z,hz,rfl⟩:=List.mem_map.1 M;have:=C.rng z hz;show 0<=z-z/2/\z-z/2<=1000;omega
   .have:=congrArg List.length (r9 jT jT.length);simp only[oy]at this;rw[F,this];exact C.two
   rw[r9];exact I
  .by_cases e:j=i
   .subst e;rw[L]at M;cases M;omega
   exact u j dd y M
  rw[<-zf];exact f.sub de
 have hi:i=jT.length:=dd
 subst hi;have hh:t.hgt<=11:=by
  by_cases c0:t.hgt<=11
  .exact c0
  obtain⟨x,B,h11⟩:=(vT d).2 dd;obtain⟨j,S,e⟩:=List.mem_iff_getElem.1 B;have:=u j dd x (by rw[oQ S,e]);omega
 refine thenC.left (sg f (λtm4 E=>?_));have fin:=hq h2 R t ((Y.ex0).mono dd) gd hh ((dep.same a).old w.le);show yL B5 _ AX.ret _;exact E.slt λtm5 r=>thenC.rt (show endW zB ⟨47,[.tmp 2,.tmp 3],bf 55⟩ Q AX.ret _ from endW.r2 (r.get rfl) (r.get rfl) fin)
theorem lV{n m:Int}(d:Q (dh (n % m)) h)(h1:0<m:=by decide)(h2:m<=4611686018427387904:=by decide):RF P zB 27 [dh n,dh m] h Q:=by
 refine zh L27 zIe ?_;have hb:=Int.tmod_lt_of_pos n h1;have c:=Int.lt_tmod_of_pos n h1;have h4:n % m=n.tmod m % m:=by have:=Int.tmod_add_mul_tdiv n m;rw[<-Int.add_mul_emod_self_left (n.tmod m) m (n.tdiv m),this]
 refine⟨λh=>dd,λ_=>⟨dd,λh3=>?_,λh3=>?_⟩⟩
 .show Q (dh (zb (n.tmod m+m))) h;rw[zD dd dd];have:n.tmod m+m=n % m:=by
   rw[h4,<-Int.emod_eq_of_lt (a:=n.tmod m+m) (b:=m) dd dd,Int.add_emod_right]
  rwa [this]
 have:n.tmod m=n % m:=by rw[h4,Int.emod_eq_of_lt dd hb]
 rwa [this]
theorem Row.take{cs:Cs}{m:Nat}{l:Ub}{b:Nat}{k:Rk}{w op:Bool}(r:Row cs n (zI l))(hm:m<=n)(hb:b<h.nx)(a:h.get b=some (.cells cs k w op))(cp:Cap):Sl h (.slice b 0 m cp) 1 m (zI (l.take m)):=by
 have hl:l.length=n:=by have:=r.2.2.1;simpa [zI]using this
 refine⟨by rw[jU,List.length_take];omega,.inr ⟨b,0,cp,cs,k,w,op,rfl,hb,a,λi hi=>?_⟩⟩;rw[Nat.zero_add,r.2.2.2 i dd,od,od,List.getElem?_take,if_pos dd]
theorem VC:∀{l:Ub}{i:Nat},l[i]?.getD 0≠0->1<=cnt l
 | [],_,h=>absurd rfl h
 | x::l,0,h=>by have a:x≠0:=h;simp[cnt,a]
 | x::l,i+1,h=>by have:=VC (l:=l) (i:=i) h;have e:cnt (x::l)=cnt [x]+cnt l:=j7 [x] l;omega
theorem sK:∀{l:Ub}{i j:Nat},i<j->l[i]?.getD 0≠0->l[j]?.getD 0≠0->2<=cnt l
 | [],_,_,_,h,_=>absurd rfl h
 | x::l,0,j+1,_,h,h2=>by
  have a:x≠0:=h;have:=VC (l:=l) (i:=j) h2;have e:cnt (x::l)=cnt [x]+cnt l:=j7 [x] l;have:cnt [x]=1:=by simp[cnt,a]
  omega
 | x::l,i+1,j+1,q,h,h2=>by have:=sK (l:=l) (i:=i) (j:=j) dd h h2;have e:cnt (x::l)=cnt [x]+cnt l:=j7 [x] l;omega
theorem Nr{s:Ua}{y:Nat}(h2:y<=s.length):zw zB 9 h (.str s) none (some (dh y)) none=some (.str (s.take y)):=by
 unfold zw;have a:ya (y:Int)=some y:=rfl;have b:YP s 0=s.length:=by rw[yl];omega
 simp only[xk,Go.Sim.bnd,a,b];rw[oE h2,oN];simp only;unfold zS;rw[List.drop_zero,Nat.sub_zero]
theorem Jv(w:Ub):xn w 2=(Y9 w).toList++(kf w).toList:=by show(([0,1]:Uf).filterMap (eS w))=_;unfold eS;cases hd:Y9 w<;>cases a:kf w<;>simp
theorem lb1(a:Ua):kP [a] 1=a:=rfl
theorem lb2(a b:Ua):(kP [a,b] 2=a\/kP [a,b] 2=b)/\(kP [a,b] 2).length<=a.length/\(kP [a,b] 2).length<=b.length:=by
 have e:kP [a,b] 2=if b.length<a.length then b else a:=rfl
 rw[e];split
 .exact⟨.inr rfl,dd,dd⟩
 exact⟨.inl rfl,dd,dd⟩
section
variable {l:Ub}{c d:Ua}(ck:rE l=0)
include ck
theorem zBj(hd:Y9 (ku l)=some d)(a:kf (ku l)=some c):∃s,YC l = .tuple [.str s,dh 0]/\(s=d\/s=c)/\s.length<=d.length/\s.length<=c.length:=by refine⟨kP [d,c] 2,?_,lb2 d c⟩;unfold YC ui;rw[if_pos ck,Jv,hd,a];rfl
theorem zBi(hd:Y9 (ku l)=some d)(a:kf (ku l)=none):YC l = .tuple [.str d,dh 0]:=by unfold YC ui;rw[if_pos ck,Jv,hd,a];rfl
theorem zBh(hd:Y9 (ku l)=none)(a:kf (ku l)=some c):YC l = .tuple [.str c,dh 0]:=by unfold YC ui;rw[if_pos ck,Jv,hd,a];rfl
theorem zBg(hd:Y9 (ku l)=none)(a:kf (ku l)=none):YC l = .tuple [.str [],dh 7]:=by unfold YC ui;rw[if_pos ck,Jv,hd,a];rfl
end
end Go.Proofs.YtnpeieeomokomaaGreat
