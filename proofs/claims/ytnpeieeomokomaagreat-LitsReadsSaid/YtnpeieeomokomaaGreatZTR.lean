/- TR. No condition. -/
import Derived.Test.YtnpeieeomokomaaGreatZTQ
set_option maxRecDepth 100000
set_option maxHeartbeats 1000000
namespace Go.Proofs.YtnpeieeomokomaaGreat
open Go.Sim
variable {h:H}{Q:Uc}
theorem Oe{v:V}{l:Ub}{K:Uc}(s:Sls h v l)(hl:l.length<=1000)(c:∀h' v',Ext h h' 2->Sl h' v' 1 l.length (zV l)->K v' h')(d:h.nx+2<=T.top:=by omega):
  RF P zB 65 [v] (zX h) λf a=>∃v11:V,f=v11/\((h.nx<=a.low/\a.nx<=T.top)/\∀b,b=yN h a->K v11 b):=by
 refine zKF (show Sls (zX h) v l from s) hl d λh' v' x g=>⟨v',rfl,⟨(Ext.drawn x oy).1,?_⟩,λb e=>?_⟩
 .have:=x.top;have:(zX h).nx=h.nx:=rfl;omega
 subst e;exact c _ _ (Ext.drawn x oy).2 g
theorem Sl.same{h h':H}{v:V}{e n:Nat}{xs:Ug}(s:Sl h v e n xs)(a:∀q,h'.get q=h.get q)(j:h.nx<=h'.nx):Sl h' v e n xs:=by obtain⟨c,d⟩:=s;refine⟨c,d.imp id ?_⟩;rintro⟨b,o,f,cs,k,w,op,rfl,hb,g,i⟩;exact⟨b,o,f,cs,k,w,op,rfl,oy,by rw[a];exact g,i⟩
theorem zWA{p:Nat}{k:Uc}:zP zB 80 0 h (.ptr p 0) k=k (.ptr p 0) h:=da
theorem Ol{p:Nat}{k:Uc}:zP zB 26 0 h (.ptr p 0) k=k (.ptr p 0) h:=da
def nxOk(h:H)(v:V):Option Ub->Prop
 | some l=>Sl h v 1 l.length (zV l)
 | none=>v = .nilslice
def F30(Q:Ud)(hb:H)(p0:Nat)(R:LR):Prop :=
 ∀tm h v,Has tm [(8,.str R.out),(9,v),(10,dd R.fin),(11,.ptr p0 0)]->zo zB 26 h (.ptr p0 0)=some (.agg [dd R.e,dd R.y])->Ext hb h 2600->nxOk h v R.nx->Q .ret ⟨186,tm,[],h⟩
section
variable {Q:Ud}{hb h:H}{c p0 pd pc pr:Nat}{s:Ua}{x:Int}{last:Ub}{k st n m b:Nat}{v:V}{tm:Tm}{R:LR}
theorem F30.slt(F:F30 Q hb p0 R):F30 (zp jD Q) hb p0 R:=λtm h v hs e f g=>hs.slt λa d=>F a h v (d.sub da) e f g
abbrev K30(p0 pd pc pr:Nat)(v:V)(s:Ua)(k st n b:Int):Kn:=[(18,.ptr pd 0),(11,.ptr p0 0),(12,dd k),(0,.str s),(16,dd b),(21,.ptr pr 0),(20,.ptr pc 0),(2,v),(14,dd n),(13,dd st)]
theorem zIa{g i:O}{a e y:Int}{K:H->Prop}(w:Vw zN hb h c [(pr,g),(pc,i),(pd,oRk s b 0 0 x),(p0,oF e y)])(p:h.nx+1<=T.top)(r:∀d,zo zB 26 d (.ptr p0 0)=some (.agg [dd a,dd x])->Vw zN hb d c [(pr,g),(pc,i),(pd,oRk s b 0 0 x),(p0,oF a x)]->(∀q,q≠p0->d.get q=h.get q)->d.nx=h.nx->K d):
  RF P zB 64 [.ptr pd 0,dd a] h λv0 h1=>∃(j:Int) (l:Int),v0 = .agg [dd j,dd l]/\∃d,zZ zB 26 h1 (.ptr p0 0) (.agg [dd j,dd l])=some d/\K d:=by
 obtain⟨d,z,o,n4,A⟩:=w.st (cx:=zB) 3 (t:=26) (f:=0) (u:=.agg [dd a,dd x]) (cs':=.ls [dd a,dd x]) rfl oy zd rfl;exact zQ0 (w.get 2 rfl) (w.lt 2 rfl) p ⟨_,_,rfl,d,z,r d (o.ldA 3 rfl zd rfl) o A n4⟩
theorem zNx{f g:O}{t:Bool}(w:Vw zN hb h c [(pr,f),(pc,g),(pd,oRk s b 0 0 x),(p0,oF 0 0)])(i:c<=2600)(j:h.nx+1<=T.top)(hs:Has tm ((126,.bool t)::K30 p0 pd pc pr v s k st n b))(l:t=true->F30 Q hb p0 (Zg 20 x))(o:t=false->∀e,Has e (K30 p0 pd pc pr v s k st n b)->Q .normal ⟨186,e,[],h⟩):Wf jD zFc ⟨186,tm,[],h⟩ Q:=by
 refine wpS.av hs zXO rfl rfl ?_;cases t with
 | true=>exact zIa w j λp q r _ _=>hs.on λa d=>l rfl a p .nilslice (d.sub da) q (r.ex0.mono i) rfl
 | false=>exact hs.on λa d=>o rfl a (d.sub da)
theorem zNy{p q:O}{t:Bool}(w:Vw zN hb h c [(pr,p),(pc,q),(pd,oRk s b 0 0 x),(p0,oF 0 0)])(i:c<=2600)(j:h.nx+1<=T.top)(hs:Has tm ((116,.bool t)::K30 p0 pd pc pr v s k st n b))(r:t=true->F30 Q hb p0 (Zg 26 x))(l:t=false->st=4/\n<6->F30 Q hb p0 (Zg 20 x))(u:t=false->¬(st=4/\n<6)->∀a,Has a (K30 p0 pd pc pr v s k st n b)->Q .normal ⟨186,a,[],h⟩):Wf jD zFd ⟨186,tm,[],h⟩ Q:=by
 refine wpS.av hs zXP rfl rfl ?_;cases t with
 | true=>exact zIa w j λy z A _ _=>hs.on λf g=>r rfl f y .nilslice (g.sub da) z (A.ex0.mono i) rfl
 | false =>
  have o:¬(st=4/\n<6)->∀a,Has a (K30 p0 pd pc pr v s k st n b)->zp jD Q .normal ⟨186,a,[],h⟩:=λc a d=>d.slt λf g=>u rfl c f (g.sub da)
  refine⟨λB=>⟨λC=>hs.on λa d=>zNx (k:=k) (st:=st) (n:=n) (v:=v) (t:=true) w i j (d.sub da) (λ_=>(l rfl ⟨oy,oy⟩).slt) (λe=>by cases e),λC=>hs.on λa d=>zNx (k:=k) (st:=st) (n:=n) (v:=v) (t:=false) w i j (d.sub da) (λe=>by cases e) (λ_=>o oy)⟩,
   λB=>hs.on λa d=>zNx (k:=k) (st:=st) (n:=n) (v:=v) (t:=false) w i j (d.sub da) (λe=>by cases e) (λ_=>o oy)⟩
theorem zNz{Y Z:O}{t:Bool}(w:Vw zN hb h c [(pr,Y),(pc,Z),(pd,oRk s b 0 0 x),(p0,oF 0 0)])(P:t=false->Y=oC s (b+Ze k n m:Nat) 0 0)(hc:c<=2000)(hn:h.nx+10<=T.top)(l:h.low<=T.top)(D:Sls h v last)(K:last.length<=1000)(hk:k<4)(hn2:n<=1048576)(hs:Has tm ((76,.bool t)::K30 p0 pd pc pr v s k st n b))(p:t=false->b+Ze k n m<=s.length)(hF:t=true->F30 Q hb p0 (Zg 20 x))(E:t=false->k<2\/(k=3/\last.length=0)\/(st=4/\n<6)->F30 Q hb p0 (lrD s x last k st n m b))(hN:t=false->2<=k->¬(k=3/\last.length=0)->¬(st=4/\n<6)->∀a,Has a (K30 p0 pd pc pr v s k st n b)->Q .normal ⟨186,a,[],h⟩):Wf jD zFe ⟨186,tm,[],h⟩ Q:=by
 refine wpS.av hs zXQ rfl rfl ?_;cases t with
 | true=>exact zIa w oy λh4 l4 w4 _ _=>hs.on λr y=>hF rfl r h4 .nilslice (y.sub da) l4 (w4.ex0.mono oy) rfl
 | false =>
  have p:=p rfl;have P:=P rfl;subst P;have fin:∀(out:Ua) (f:Int) (i:H) (v':V),Vw zN hb i (c+2) [(pr,oC s (b+Ze k n m:Nat) 0 0),(pc,Z),(pd,oRk s b 0 0 x),(p0,oF 0 0)]->i.nx<=T.top->Sl i v' 1 last.length (zV last)->f=((b+Ze k n m:Nat):Int)->k<2->lrD s x last k st n m b=⟨out,some last,f,0,0⟩ ->
    zP zB 80 1 i (.ptr pr 0) λS L=>∃(o:Int),zo zB 3 L S=some (dd o)/\∃j,zZ zB 26 L (.ptr p0 0) (.agg [dd 0,dd 0])=some j/\∀a,Has a [(8,.str out),(9,v'),(10,dd o),(11,.ptr p0 0)]->Q .ret ⟨186,a,[],j⟩:=by
   intro out f i v' G t12 z ef U er;try dsimp only
   rw[kx];obtain⟨j,A,I,n16,W⟩:=G.st (cx:=zB) 3 (t:=26) (f:=0) (u:=.agg [dd 0,dd 0]) (cs':=.ls [dd 0,dd 0]) rfl oy zd rfl;refine⟨_,G.ld1 0 rfl zm rfl,j,A,λr y=>?_⟩;have F:=E rfl (.inl U);rw[er,ef]at F;refine F r j v' (y.sub da) (I.ldA 3 rfl zd rfl) (I.ex0.mono oy) (Sl.same z (λq=>?_) oy);by_cases N:q=p0
   .subst N;rw[I.get 3 rfl,G.get 3 rfl];rfl
   exact W q N
  refine⟨λN=>?_,λN=>⟨λc2=>?_,λc2=>?_⟩⟩
  .have B:k=0:=oy
   have M:Ze k n m=n:=by unfold Ze;rw[if_pos B]
   refine⟨⟨oy,l⟩,?_⟩;try dsimp only
   rw[kx];refine⟨_,w.ld1 0 rfl zm rfl,_,xN oy p,Oe D K λi v' C z=>?_⟩;have:=fin (zH s b (b+n)) _ i v' (w.ext C) (by have:=C.top;omega) z rfl oy (by unfold lrD;rw[if_pos B,M]);rw[kx]at this ⊢;obtain⟨o,J,j,A,F⟩:=this;rw[M]at *;exact⟨o,J,j,A,hs.on λa g=>F a (g.sub da)⟩
  .have B:k=1:=oy
   have M:Ze k n m=1:=by unfold Ze;rw[if_neg oy,if_pos B]
   have X:zH s b (b+Ze k n m)=[s[b]?.getD 0]:=by
    rw[M]at p ⊢;have hb:b<s.length:=oy
    unfold zH;rw[oU hb];rw[show b+1-b=1 by omega,List.drop_eq_getElem_cons hb];rfl
   refine⟨⟨oy,l⟩,?_⟩;try dsimp only
   rw[kx];refine⟨_,w.ld1 0 rfl zm rfl,_,xN oy p,?_⟩;try dsimp only
   rw[X];refine zLC oy ⟨_,rfl,(xg oy l).1,qV l (Oe D K λi v' C z=>?_)⟩;have:=fin (List.replicate n (s[b]?.getD 0)) _ i v' (w.ext C) (by have:=C.top;omega) z rfl oy (by unfold lrD;rw[if_neg oy,if_pos B,M]);rw[kx]at this ⊢;obtain⟨o,J,j,A,F⟩:=this;exact⟨o,J,j,A,hs.on λa g=>F a (g.sub da)⟩
  have nN:¬(k=3/\last.length=0)->¬(st=4/\n<6)->∀a,Has a (K30 p0 pd pc pr v s k st n b)->zp jD Q .normal ⟨186,a,[],h⟩:=λd1 d2 a g=>g.slt λr y=>hN rfl oy d1 d2 r (y.sub da)
  have f2:¬(k=3/\last.length=0)->st=4/\n<6->F30 (zp jD Q) hb p0 (Zg 20 x):=λd1 d2=>by have F:=E rfl (.inr (.inr d2));unfold lrD at F;rw[if_neg oy,if_neg oy,if_neg d1,if_pos d2]at F;exact F.slt
  refine⟨λc3=>⟨_,D.1.len z7 rfl,λc4=>hs.on λa g=>?_,λc4=>hs.on λa g=>?_⟩,λc3=>hs.on λa g=>?_⟩
  .have d:k=3/\last.length=0:=⟨oy,oy⟩
   have F:=E rfl (.inr (.inl d));unfold lrD at F;rw[if_neg oy,if_neg oy,if_pos d]at F;exact zNy (k:=k) (st:=st) (n:=n) (v:=v) (t:=true) w oy oy (g.sub da) (λ_=>F.slt) (λe=>by cases e) (λe=>by cases e)
  .have d:¬(k=3/\last.length=0):=oy
   exact zNy (k:=k) (st:=st) (n:=n) (v:=v) (t:=false) w oy oy (g.sub da) (λe=>by cases e) (λ_=>f2 d) (λ_=>nN d)
  have d:¬(k=3/\last.length=0):=oy
  exact zNy (k:=k) (st:=st) (n:=n) (v:=v) (t:=false) w oy oy (g.sub da) (λe=>by cases e) (λ_=>f2 d) (λ_=>nN d)
end
end Go.Proofs.YtnpeieeomokomaaGreat
namespace Go.Proofs.YtnpeieeomokomaaGreat
open Go.Sim
variable {h:H}{Q:Uc}
theorem zKy(s:Ua)(a:Int):(yE s a).nx<=s.length:=by
 unfold yE;by_cases c:a<0\/s.length<a
 .rw[if_pos c];exact oQ _
 rw[if_neg c];rcases d:s[a.toNat]? with _|b
 .exact oQ _
 simp only;split
 .unfold yd;split
  .exact oQ _
  split
  .show a.toNat+1+(b.toNat-127+1)/2<=_;omega
  exact oQ _
 split
 .exact oQ _
 rw[qZ];split
 .exact oQ _
 split
 .show a.toNat+1+b.toNat<=_;omega
 exact oQ _
theorem zCY(s:Ua)(a:Int):(ye s a).nx<=s.length:=by
 unfold ye;split
 .exact zKy s a
 exact oQ _
theorem YF{s:Ua}{a:Int}(h:(ye s a).e=0):(ye s a).l.length<=256/\1<=(ye s a).l.length/\wW (ye s a).l=0:=by
 unfold ye at h ⊢;by_cases c:(yE s a).e=0
 .rw[if_pos c];have:=zAc s a;refine⟨?_,?_,zK1 (KF c).1⟩
  .show(xb _).length<=256;rw[Xr];omega
  show 1<=(xb _).length;rw[Xr];omega
 rw[if_neg c]at h;exact absurd h c
theorem zQ4{s:Ua}{l:Ub}{n st a:Nat}(h:(kl s l n st a).2.1=0):(kl s l n st a).2.2=0:=by
 unfold kl at h ⊢;split
 .rename_i c;rw[if_pos c]at h;split
  .rfl
  rename_i b;rw[if_neg b]at h;cases h
 rename_i c;rw[if_neg c]at h;split
 .rfl
 rename_i b;rw[if_neg b]at h;cases h
theorem Sls.keep{h h':H}{v:V}{l:Ub}(s:Sls h v l)(n:h.nx<=h'.nx)(c:∀q,yG v=some q->h'.get q=h.get q):Sls h' v l:=by
 obtain⟨s,d⟩:=s;obtain⟨a,⟨rfl,f⟩|⟨b,o,g,cs,k,w,op,rfl,hb,i,j⟩⟩:=s
 .exact⟨⟨a,.inl ⟨rfl,f⟩⟩,λ_=>rfl⟩
 have e:=c b rfl;refine⟨⟨a,.inr ⟨b,o,g,cs,k,w,op,rfl,oy,by rw[e];exact i,j⟩⟩,λm=>(?_:_=_).trans (d m)⟩;unfold yr;simp only[e]
section
variable {Q:Ud}{hb h:H}{c p0 pd pc pr:Nat}{s:Ua}{x:Int}{last:Ub}{k st n m b:Nat}{v:V}{tm:Tm}
abbrev K35(p0 pd pr:Nat)(u:V)(s:Ua)(st n:Int):Kn:=[(18,.ptr pd 0),(22,u),(0,.str s),(21,.ptr pr 0),(14,dd n),(13,dd st),(11,.ptr p0 0)]
theorem zU4{p q r:O}{e y:Int}{u:V}(w:Vw zN hb h c [(pr,p),(pc,q),(pd,r),(p0,oF e y)])(z:c<=2600)(A:h.nx<=T.top)(g:h.low<=T.top)(hs:Has tm (K35 p0 pd pr u s st n))(B:e≠0->F30 Q hb p0 (Zg e y))(C:e=0->∀i,Has i (K35 p0 pd pr u s st n)->Q .normal ⟨186,i,[],h⟩):Wf jD zJO ⟨186,tm,[],h⟩ Q:=by
 refine wpS.av hs zXR rfl rfl ?_;try dsimp only
 rw[Ol];refine⟨e,w.ld1 3 rfl yh rfl,λj=>⟨⟨A,g⟩,e,y,w.ldA 3 rfl zd rfl,?_⟩,λj=>hs.on λa d=>C oy a (d.sub da)⟩;obtain⟨l,D,o,n4,_⟩:=w.st (cx:=zB) 3 (t:=26) (f:=0) (u:=.agg [dd e,dd y]) (cs':=.ls [dd e,dd y]) rfl oy zd rfl;exact⟨l,D,hs.on λa d=>B j a l .nilslice (d.sub da) (o.ldA 3 rfl zd rfl) (o.ex0.mono z) rfl⟩
theorem zU5{o2:O}{y0:Int}{a z:Nat}{l:Ub}{u:V}(w:Vw zN hb h c [(pr,oC s (z:Nat) 0 0),(pc,o2),(pd,oRk s a 0 0 x),(p0,oF 0 y0)])(hc:c<=2500)(Z:Sls h u l)(K:∀q,yG u=some q->q≠p0)(hl:l.length<=1000)(ha:a<=z)(hz:z<=s.length)(hs15:s.length<=1500)(L:n<=131072)(hn:h.nx+62010<=T.top)(D:hb.low<=T.top)(hs:Has tm (K35 p0 pd pr u s st n))(j:F30 Q hb p0 (lrC s l a z n st)):Wf jD zFf ⟨186,tm,[],h⟩ Q:=by
 have d:=oW w.low D;refine wpS.av hs zXS rfl rfl ⟨⟨oy,d⟩,_,_,Jt,(xg oy d).1,qV d ?_⟩;try dsimp only
 rw[Om,kx];refine⟨_,w.ld1 2 rfl zm rfl,?_⟩;try dsimp only
 rw[kx];refine⟨_,w.ld1 0 rfl zm rfl,_,xN ha hz,?_⟩;have M:(zH s a z).length<=1500:=by unfold zH;simp;omega
 refine zML (e:=0) (y:=0) (b:=x) (show(zX h).get pd=_ from w.get 2 rfl) (show pd<(zX h).nx from w.lt 2 rfl) (show Sl (zX h) u 1 l.length (zV l)from Z.1) hl M L oy (show h.nx+62000<=T.top by omega) (oV _) ⟨_,_,_,rfl,show h.nx<=T.top by omega,qV d ?_⟩;unfold lrC at j;have o:=zQ4 (s:=zH s a z) (l:=l) (n:=n) (st:=st) (a:=a);generalize kl (zH s a z) l n st a=C at j o;obtain⟨out,e,y⟩:=C;simp only at j o ⊢;obtain⟨E,N,g,n18,P⟩:=w.st (cx:=zB) 3 (t:=26) (f:=0) (u:=.agg [dd e,dd y]) (cs':=.ls [dd e,dd y]) rfl oy zd rfl;have i:=oW g.low D;refine⟨E,N,?_⟩;try dsimp only
 rw[Ol];refine⟨_,g.ld1 3 rfl yh rfl,λF=>⟨⟨oy,i⟩,_,_,g.ldA 3 rfl zd rfl,?_⟩,λF=>⟨⟨oy,i⟩,?_⟩⟩
 .rw[if_neg F]at j;obtain⟨G,R,H,n24,k24⟩:=g.st (cx:=zB) 3 (t:=26) (f:=0) (u:=.agg [dd e,dd y]) (cs':=.ls [dd e,dd y]) rfl oy zd rfl;exact⟨G,R,hs.on λp r=>j p G .nilslice (r.sub da) (H.ldA 3 rfl zd rfl) (H.ex0.mono oy) rfl⟩
 have S:e=0:=oy
 have y1:=o S;rw[if_pos S]at j;subst S y1;have U:Sls E u l:=by refine Z.keep oy λq hq=>P q (K q hq)
 refine Oe U hl λh28 v' I W=>?_
 have A:=g.ext I;have t28:=I.top;try dsimp only
 rw[kx];obtain⟨J,X,B,n32,Y⟩:=A.st (cx:=zB) 3 (t:=26) (f:=0) (u:=.agg [dd 0,dd 0]) (cs':=.ls [dd 0,dd 0]) rfl oy zd rfl;refine⟨_,A.ld1 0 rfl zm rfl,J,X,hs.on λp r=>j p J v' (r.sub da) (B.ldA 3 rfl zd rfl) (B.ex0.mono oy) (Sl.same W (λq=>?_) oy)⟩;by_cases F:q=p0
 .subst F;rw[B.get 3 rfl,A.get 3 rfl]
 exact Y q F
end
end Go.Proofs.YtnpeieeomokomaaGreat
namespace Go.Proofs.YtnpeieeomokomaaGreat
open Go.Sim
variable {h:H}{Q:Uc}
theorem F30.thenC{Q:Ud}{hb:H}{p0:Nat}{R:LR}{K:St->Prop}(F:F30 Q hb p0 R):F30 (thenC K Q) hb p0 R:=F
section
variable {Q:Ud}{hb h:H}{c p0 pd pc pr:Nat}{s:Ua}{x:Int}{last:Ub}{k st n m b:Nat}{v:V}{tm:Tm}
theorem zZe(w:Vw zN hb h c [(pr,oC s (b+m:Nat) 0 0),(pc,oC (zH s 0 (b+m)) b 0 0),(pd,oRk s b 0 0 x),(p0,oF 0 0)])(hc:c<=300)(hv:Sls h v last)(I:∀q,yG v=some q->q<hb.nx)(J:last.length<=1000)(hz:b+m<=s.length)(o:s.length<=1500)(r:n<=131072)(hn:h.nx+64500<=T.top)(i:hb.low<=T.top)(hs:Has tm (K30 p0 pd pc pr v s k st n b))(j:F30 Q hb p0 (if k=2 then lrT s x st n m b else lrC s last b (b+m) n st)):Wf jD zCN ⟨186,tm,[],h⟩ Q:=by
 have z:=oW w.low i;have hp0:hb.nx<=p0:=by rcases w.own 3 rfl with g|g;exact g.elim;exact g
 have hpd:hb.nx<=pd:=by rcases w.own 2 rfl with g|g;exact g.elim;exact g
 refine wpS.av hs zXT rfl rfl ⟨λc1=>?_,λc1=>hs.on λA l=>?_⟩
 .have K:k=2:=oy
  rw[if_pos K]at j;unfold lrT at j;have hlen:(zH s 0 (b+m)).length=b+m:=by unfold zH;simp;omega
  try dsimp only
  rw[zWA];refine⟨_,w.ld1 1 rfl kO rfl,zAv (at':=(b:Nat)) oy oy z λh4 L x4 s5 B=>⟨_,_,_,_,rfl,_,_,Jt,?_⟩⟩;have M:=zCY (zH s 0 (b+m)) (b:Nat);have C:=YF (s:=zH s 0 (b+m)) (a:=(b:Nat));generalize ye (zH s 0 (b+m)) (b:Nat)=R at j s5 M C ⊢;have w4:=w.ext x4;have t4:=x4.top;try dsimp only
  rw[Om,kx];obtain⟨N,O,P,n15,S⟩:=w4.st (cx:=zB) 2 (t:=3) (f:=1) (u:=dd (R.nx:Nat)) (cs':=.ls [.str s,dd (R.nx:Nat),dd 0,dd 0,dd x]) rfl oy zm rfl;obtain⟨p,U,d,n16,V⟩:=P.st (cx:=zB) 3 (t:=26) (f:=0) (u:=.agg [dd R.e,dd R.fat]) (cs':=.ls [dd R.e,dd R.fat]) rfl oy zd rfl;refine⟨N,O,p,U,?_⟩;have D:=oW d.low i;try dsimp only
  rw[Ol];refine⟨_,d.ld1 3 rfl yh rfl,λW=>?_,λW=>hs.on λA l=>?_⟩
  .rw[if_neg oy,if_pos W]at j;refine zIa (b:=R.nx) (e:=R.e) (y:=R.fat) d oy λh24 l24 E k24 n24=>hs.on λA l=>?_
   exact zU4 (u:=L) (s:=s) (st:=st) (n:=n) E oy oy (oW E.low i) (l.sub da) (λ_=>j.slt.thenC) (λe=>by cases e)
  refine zU4 (u:=L) (s:=s) (st:=st) (n:=n) (e:=R.e) (y:=R.fat) d oy oy D (l.sub da) (λF=>?_) λF tm2 X=>thenC.nx (X.sealK λtm3 Y=>?_)
  .rw[if_neg F,if_neg W]at j;exact j.slt.thenC
  rw[if_pos F]at j;obtain⟨g1,g2,g3⟩:=C F;have G:Vw zN hb p (c+2100) [(pr,oC s (b+m:Nat) 0 0),(pc,oC (zH s 0 (b+m)) b 0 0),(pd,oRk s R.nx 0 0 x),(p0,oF 0 R.fat)]:=by rw[F]at d;exact d
  have lt0:=w.lt 3 rfl;have ltd:=w.lt 2 rfl;have u16:Sls p L R.l:=(Sls.of s5 oy).keep oy λq H=>by have:=B q H;rw[V q oy,S q oy]
  exact zU5 (y0:=R.fat) G oy u16 (λq H=>by have:=B q H;omega) oy oy hz o r oy i (Y.sub da) j.slt
 have Z:¬k=2:=oy
 rw[if_neg Z]at j;exact zU5 (y0:=0) w oy hv (λq H=>by have:=I q H;omega) J oy hz o r oy i (l.sub da) j.slt
end
end Go.Proofs.YtnpeieeomokomaaGreat
namespace Go.Proofs.YtnpeieeomokomaaGreat
open Go.Sim
variable {h:H}{Q:Uc}
theorem F30.exitB{Q:Ud}{hb:H}{p0:Nat}{R:LR}{K:St->Prop}(F:F30 Q hb p0 R):F30 (λe s1=>Go.Sim.thenC K Q (Go.Sim.exitB 1 e) s1) hb p0 R:=λtm h v hs a b c=>F tm h v hs a b c
theorem zHI{s:Ua}{x n:Nat}(i:x<=s.length)(hs:s.length<4611686018427387904)(j:n<4611686018427387904)(b:∀(s1 d:Ua) (a1 f y1 a2 a g:Int),(a=0->x+n<=s.length/\kg s1 a1 f y1=kg (zH s 0 (x+n)) x 0 0/\kg d a2 a g=kg s (x+n:Nat) 0 0)->(a≠0->s.length<x+n)->Q (.tuple [.agg (kg s1 a1 f y1),.agg (kg d a2 a g)]) h):
  RF P zB 63 [.agg (kg s x 0 0),dd n] h Q :=
 zKX i hs j (λc=>b _ _ _ _ _ _ _ _ (λ_=>⟨c,rfl,rfl⟩) λe=>absurd rfl e) λc=>b _ _ _ _ _ _ _ _ (λe=>absurd e db) λ_=>c
section
variable {Q:Ud}{hb h:H}{c p0 pd:Nat}{s:Ua}{x most:Int}{last:Ub}{k st n m b:Nat}{v:V}{tm:Tm}
abbrev K37(p0 pd:Nat)(v:V)(s:Ua)(k st n b z most:Int):Kn:=[(18,.ptr pd 0),(19,dd z),(14,dd n),(3,dd most),(11,.ptr p0 0),(12,dd k),(0,.str s),(16,dd b),(2,v),(13,dd st)]
theorem zZf(w:Vw zN hb h c [(pd,oRk s b 0 0 x),(p0,oF 0 0)])(hc:c<=100)(hv:Sls h v last)(r:∀q,yG v=some q->q<hb.nx)(l:last.length<=1000)(J:k<4)(y:b<=s.length)(z:s.length<=1500)(hn0:n<2^20)(hm0:m<2^18)(hmo:most<=131072)(hn:h.nx+65000<=T.top)(A:hb.low<=T.top)(hs:Has tm (K37 p0 pd v s k st n b (Ze k n m:Nat) most))(o:F30 Q hb p0 (if most<n\/s.length<b+Ze k n m then Zg 20 x else lrD s x last k st n m b)):Wf jD zCO ⟨186,tm,[],h⟩ Q:=by
 have hz0:Ze k n m<=1048576:=by unfold Ze;split;omega;split<;>omega
 refine wpS.av hs zXU rfl rfl ⟨_,_,Jt,?_⟩;try dsimp only
 rw[Om];refine⟨_,_,_,_,w.ldA 0 rfl wI rfl,zHI y oy oy λs1 H a1 K L a2 B I g0 g1=>⟨_,_,_,_,_,_,_,_,rfl,oy,?_⟩⟩;rintro p18 p rfl C;have D:=w.new C oy;have t19:=D.top;have n19:p.nx=h.nx+1:=by rw[C,z8]
 refine⟨oy,?_⟩;rintro p20 M rfl E;have F:=D.new E oy;have n21:M.nx=p.nx+1:=by rw[E,z8]
 have t21:=F.top;obtain⟨N,O,P,n22,_⟩:=F.st (cx:=zB) 1 (t:=80) (f:=0) (u:=.agg (kg s1 a1 K L)) (cs':=.ls (kg s1 a1 K L)) rfl oy wI rfl;obtain⟨g,R,a,n23,_⟩:=P.st (cx:=zB) 0 (t:=80) (f:=0) (u:=.agg (kg H a2 B I)) (cs':=.ls (kg H a2 B I)) rfl oy wI rfl;have a:Vw zN hb g (c+1+1) [(p.nx,oC H a2 B I),(h.nx,oC s1 a1 K L),(pd,oRk s b 0 0 x),(p0,oF 0 0)]:=a;have i:=oW a.low A;have d:Sls g v last:=hv.keep oy λq X=>(a.ex0.get q (r q X)).trans (w.ex0.get q (r q X)).symm
 refine⟨N,O,g,R,λY=>hs.on λG j=>?_,λY=>⟨B,a.ld1 0 rfl yh rfl,λZ=>hs.on λG j=>?_,λZ=>hs.on λG j=>?_⟩⟩
 .rw[if_pos (.inl Y)]at o;exact zNz (k:=k) (st:=st) (n:=n) (v:=v) (m:=m) (last:=last) (t:=true) a (λe=>by cases e) oy oy i d l J oy (j.sub da) (λe=>by cases e) (λ_=>o.slt.exitB) (λe=>by cases e) (λe=>by cases e)
 .rw[if_pos (.inr (g1 Z))]at o;exact zNz (k:=k) (st:=st) (n:=n) (v:=v) (m:=m) (last:=last) (t:=true) a (λe=>by cases e) oy oy i d l J oy (j.sub da) (λe=>by cases e) (λ_=>o.slt.exitB) (λe=>by cases e) (λe=>by cases e)
 obtain⟨q1,q2,q3⟩:=g0 oy;rw[if_neg oy]at o;refine zNz (k:=k) (st:=st) (n:=n) (v:=v) (m:=m) (last:=last) (t:=false) a (λ_=>by show oC H a2 B I=_;unfold oC;rw[q3]) oy oy i d l J oy (j.sub da) (λ_=>q1) (λe=>by cases e) (λ_ _=>o.slt.exitB) λ_ d1 d2 d3 S U=>?_
 have hz:Ze k n m=m:=by unfold Ze;rw[if_neg oy,if_neg oy]
 have V:Vw zN hb g (c+1+1) [(p.nx,oC s (b+m:Nat) 0 0),(h.nx,oC (zH s 0 (b+m)) b 0 0),(pd,oRk s b 0 0 x),(p0,oF 0 0)]:=by have:=a;unfold oC at this ⊢;rw[q2,q3,hz]at this;exact this
 unfold lrD at o;rw[if_neg oy,if_neg oy,if_neg d2,if_neg d3]at o;exact(show sealK jD (λs1=>Wf jD zCN s1 (zp jD Q)) ⟨186,S,[],g⟩from U.sealK λtm3 W=>zZe V oy d r l oy z oy oy A (W.sub da) o.slt)
abbrev K38(p0:Nat)(v:V)(s:Ua)(k st n m b x most:Int):Kn:=[(0,.str s),(16,dd b),(1,dd x),(15,dd m),(12,dd k),(14,dd n),(11,.ptr p0 0),(2,v),(13,dd st),(3,dd most)]
theorem zU6(w:Vw zN hb h c [(p0,oF 0 0)])(G:c<=90)(A:Sls h v last)(g:∀q,yG v=some q->q<hb.nx)(i:last.length<=1000)(B:k<4)(e:b<=s.length)(f:s.length<=1500)(j:n<2^20)(l:m<2^18)(o:most<=131072)(H:h.nx+65010<=T.top)(p:hb.low<=T.top)(hs:Has tm (K38 p0 v s k st n m b x most))(C:F30 Q hb p0 (if most<n\/s.length<b+Ze k n m then Zg 20 x else lrD s x last k st n m b)):Wf jD zJP ⟨186,tm,[],h⟩ Q:=by
 refine wpS.av hs zXV rfl rfl (zHZ ⟨_,_,_,_,rfl,oy,?_⟩);rintro I r rfl t;have u:=w.new t oy;have J:=u.top;have K:=w.top;have y:Ext h r 1:=by rw[t];exact Ext.new _ oy
 have go:∀(z:Nat) a,z=Ze k n m->Has a (K37 p0 h.nx v s k st n b z most)->Wf jD zCO ⟨186,a,[],r⟩ (zp jD Q):=λz a D d=>by subst D;exact zZf u oy (A.ext y) g i B e f j l o (by have:=y.top;omega) p d C.slt
 refine⟨λE=>hs.on λa d=>go n a (by unfold Ze;rw[if_pos oy]) (d.sub da),λE=>⟨λF=>hs.on λa d=>go 1 a (by unfold Ze;rw[if_neg oy,if_pos oy]) (d.sub da),λF=>hs.on λa d=>go m a (by unfold Ze;rw[if_neg oy,if_neg oy]) (d.sub da)⟩⟩
theorem zZg(w:Vw zN hb h c [(p0,oF 0 0)])(H:c<=90)(B:Sls h v last)(p:∀q,yG v=some q->q<hb.nx)(i:last.length<=1000)(I:k<4)(a:b<=s.length)(d:s.length<=1500)(r:n<2^20)(y:m<2^18)(z:most<=131072)(J:h.nx+65010<=T.top)(A:hb.low<=T.top)(hs:Has tm (K38 p0 v s k st n m b x most))(o:F30 Q hb p0 (if last.length≠0/\wW last≠0 then Zg (wW last) 0 else if most<n\/s.length<b+Ze k n m then Zg 20 x else lrD s x last k st n m b)):Wf jD zCP ⟨186,tm,[],h⟩ Q:=by
 refine wpS.av hs zXW rfl rfl ⟨_,B.1.len z7 rfl,λC=>zIt B.1 i ⟨_,rfl,λD=>?_,λD=>hs.on λE j=>?_⟩,λC=>hs.on λE j=>?_⟩
 .have l:last.length≠0:=λe=>by rw[e]at C;exact absurd C db
  rw[if_pos ⟨l,D⟩]at o;obtain⟨K,M,L,n4,_⟩:=w.st (cx:=zB) 0 (t:=26) (f:=0) (u:=.agg [dd (wW last),dd 0]) (cs':=.ls [dd (wW last),dd 0]) rfl oy zd rfl;exact⟨K,M,hs.on λF G=>o F K .nilslice (G.sub da) (L.ldA 0 rfl zd rfl) (L.ex0.mono oy) rfl⟩
 .rw[if_neg λg=>D g.2]at o;exact zU6 w H B p i I a d r y z J A (j.sub da) o.slt
 have l:last.length=0:=by
  by_cases g:last.length=0
  .exact g
  exact absurd (show(0:Int)<Int.ofNat last.length by simp;omega) C
 rw[if_neg λg=>g.1 l]at o;exact zU6 w H B p i I a d r y z J A (j.sub da) o.slt
theorem zNw{t:Bool}(w:Vw zN hb h c [(p0,oF 0 0)])(p:c<=90)(q:h.nx<=T.top)(hs:Has tm ((43,.bool t)::K38 p0 v s k st n m b x most))(j:t=true->F30 Q hb p0 (Zg 2 0))(l:t=false->∀e,Has e (K38 p0 v s k st n m b x most)->Q .normal ⟨186,e,[],h⟩):Wf jD zFb ⟨186,tm,[],h⟩ Q:=by
 refine wpS.av hs zXN rfl rfl ?_;cases t with
 | true=>obtain⟨g,o,i,n4,_⟩:=w.st (cx:=zB) 0 (t:=26) (f:=0) (u:=.agg [dd 2,dd 0]) (cs':=.ls [dd 2,dd 0]) rfl oy zd rfl;exact⟨g,o,hs.on λa d=>j rfl a g .nilslice (d.sub da) (i.ldA 0 rfl zd rfl) (i.ex0.mono oy) rfl⟩
 | false=>exact hs.on λa d=>l rfl a (d.sub da)
end
theorem zFF{s:Ua}{x most:Int}{v:V}{last:Ub}(C:Sls h v last)(D:∀q,yG v=some q->q<h.nx)(E:last.length<=1000)(o:s.length<=1500)(hn:h.nx+65100<=T.top)(i:h.low<=T.top)(A:∀h' v',Ext h h' 2600->nxOk h' v' (Jq s x last most).nx->Q (.tuple [.str (Jq s x last most).out,v',dd (Jq s x last most).fin,.agg [dd (Jq s x last most).e,dd (Jq s x last most).y]]) h'):RF P zB 30 [.str s,dd x,v,dd most] h Q:=by
 refine yU z3q ⟨oy,?_⟩;rintro p0 h1 rfl O;have G:=(Vw.nil (S:=zN) (h:=h)).new O oy;have t1:=G.top;refine zFs oy ?_;rcases zFv s x last most with⟨e,y,R,hr,j⟩|⟨k,st,n,m,b,U,W,H,I,p,X,Y,hr,j⟩
 .rw[hr];rw[j]at A;obtain⟨c,l,a,J,_⟩:=G.st (cx:=zB) 0 (t:=26) (f:=0) (u:=.agg [dd e,dd y]) (cs':=.ls [dd e,dd y]) rfl oy zd rfl;refine⟨_,_,_,_,_,_,_,rfl,c,l,e,a.ld1 0 rfl yh rfl,λg=>⟨⟨oy,oW a.low i⟩,e,y,a.ldA 0 rfl zd rfl,?_⟩,λg=>absurd R g⟩;obtain⟨r,K,w,Z,_⟩:=a.st (cx:=zB) 0 (t:=26) (f:=0) (u:=.agg [dd e,dd y]) (cs':=.ls [dd e,dd y]) rfl oy zd rfl;exact⟨r,K,endL.ok (leaveL.tmp (leaveL.tmp (leaveL.tmp (leaveL.cell (w.ldA 0 rfl zd rfl) rfl)))) (A r .nilslice (w.ex0.mono oy) rfl)⟩
 rw[hr];rw[j]at A;obtain⟨c,l,a,J,_⟩:=G.st (cx:=zB) 0 (t:=26) (f:=0) (u:=.agg [dd 0,dd 0]) (cs':=.ls [dd 0,dd 0]) rfl oy zd rfl;have a:Vw zN h c 1 [(h.nx,oF 0 0)]:=a;have F:F30 (endW zB ⟨186,[.tmp 8,.tmp 9,.tmp 10,.cell 11 26],bf 30⟩ Q) h h.nx (lrB s x last most k st n m b):=λtm h' v' hs ha hx C =>
  endW.ok (leave.tmp (hs.get (t:=8) rfl) (leave.tmp (hs.get (t:=9) rfl) (leave.tmp (hs.get (t:=10) rfl) (leave.cell (hs.get (t:=11) rfl) ha rfl)))) (A h' v' hx C)
 refine⟨_,_,_,_,_,_,_,rfl,c,l,0,a.ld1 0 rfl yh rfl,λg=>absurd rfl g,λ_=>?_⟩;unfold lrB at F;by_cases cm:most<0\/131072<most
 .rw[if_pos cm]at F;refine⟨λg=>Has.nil.on λz d=>?_,λg=>⟨λB=>Has.nil.on λz d=>?_,λB=>?_⟩⟩
  .exact zNw (v:=v) (s:=s) (k:=k) (st:=st) (n:=n) (m:=m) (b:=b) (x:=x) (most:=most) (t:=true) a oy oy (d.sub da) (λ_=>F.thenC) (λe=>by cases e)
  .exact zNw (v:=v) (s:=s) (k:=k) (st:=st) (n:=n) (m:=m) (b:=b) (x:=x) (most:=most) (t:=true) a oy oy (d.sub da) (λ_=>F.thenC) (λe=>by cases e)
  omega
 rw[if_neg cm]at F;refine⟨λg=>absurd (Or.inl g) cm,λg=>⟨λB=>absurd (Or.inr B) cm,λB=>Has.nil.on λz d=>?_⟩⟩;exact zNw (v:=v) (s:=s) (k:=k) (st:=st) (n:=n) (m:=m) (b:=b) (x:=x) (most:=most) (t:=false) a oy oy (d.sub da) (λe=>by cases e) λ_ L M =>
  (show sealK jD (λs1=>Wf jD zCP s1 (endW zB ⟨186,[.tmp 8,.tmp 9,.tmp 10,.cell 11 26],bf 30⟩ Q)) ⟨186,L,[],c⟩from M.sealK λtm3 N=>zZg a oy (C.ext a.ex0) D E U p o H I oy oy i (N.sub da) F)
end Go.Proofs.YtnpeieeomokomaaGreat
