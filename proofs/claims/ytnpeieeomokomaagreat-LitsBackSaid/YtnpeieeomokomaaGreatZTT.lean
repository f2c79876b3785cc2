/- TT. No condition. -/
import Derived.Test.YtnpeieeomokomaaGreatZTS
import Derived.Test.YtnpeieeomokomaaGreatZTA
import Derived.Test.YtnpeieeomokomaaGreatZTM
set_option maxRecDepth 100000
set_option maxHeartbeats 4000000
namespace Go.Proofs.YtnpeieeomokomaaGreat
open Go.Sim
variable {h:H}{Q:Uc}
variable{l own w:Ub}{b m s:Ua}
abbrev BI:TI:=⟨9,.string,1,16,some (.str []),true,false,false,[]⟩
def cS(l:List Ua):Ug:=l.map V.str
def Y9(l:Ub):Option Ua:=if qD l=0/\l.length<=128 then some (lA l) else none
def eS(l:Ub)(i:Nat):Option Ua:=if i=0 then Y9 l else kf l
def A7(v:V)(o:Option Ua):Prop:=match o with|some s=>v = .tuple [.str s,dh 0]|none=>∃e:Int,e≠0/\v = .tuple [.str [],dh e]
theorem HY(l:Ub):A7 (DX l) (Y9 l):=by
 unfold DX Y9;by_cases c:qD l=0
 .rw[if_neg dd];by_cases d:l.length<=128
  .rw[if_neg dd,if_pos ⟨c,d⟩];rfl
  rw[if_pos dd,if_neg dd];exact⟨4,dg,rfl⟩
 rw[if_pos c,if_neg dd];exact⟨_,c,rfl⟩
theorem Gi(o:Option Ua):A7 (C4 o) o:=by
 cases o with
 | some s=>rfl
 | none=>exact⟨7,dg,rfl⟩
def xn(l:Ub)(k:Nat):List Ua:=(List.range k).filterMap (eS l)
theorem bw(l:Ub)(k:Nat):xn l (k+1)=xn l k++(eS l k).toList:=by unfold xn;rw[List.range_succ,List.filterMap_append];congr 1
def Z1(l:Ub):Nat->List Bool
 | 0=>[false,false]
 | k+1=>if (eS l k).isSome=true then (Z1 l k).set k true else Z1 l k
abbrev D9:V:=.func (.func 26) [] []
abbrev D7:V:=.func (.func 54) [] []
theorem Hg(d:h.nx<T.top)(e:∀h',Ext h h' 1->Q (.agg [D9,D7]) h'):RF P zB 93 [] h Q:=by refine zh L93 zJQ ⟨d,?_⟩;rintro p0 j rfl a;have g:=(Vw.nil (S:=zH) (h:=h)).new a dd;obtain⟨h2,i,c,k,_⟩:=g.st (cx:=zB) 0 (t:=136) (f:=0) (u:=.agg [D9,D7]) rfl (by rw[a,zC];omega) AV rfl;exact⟨h2,i,endL.ok (leaveL.cell (c.ldA 0 rfl AV rfl) rfl) (e h2 c.ex0)⟩
theorem zCr:wM zB 136 (.agg [.func (.func 26) [] [],.func (.func 54) [] []]) (dh (0:Nat))=some D9:=de
theorem zCs:wM zB 136 (.agg [.func (.func 26) [] [],.func (.func 54) [] []]) (dh (1:Nat))=some D7:=de
theorem HA(s:Ua)(a:h.nx<T.top):∃v1 h',zO zB 63 1 [(0,.str s)] h=some (v1,h')/\Sl h' v1 1 1 [.str s]/\Ext h h' 1:=by obtain⟨v,h',e,s,x,_⟩:=xG (c:=zB) (h:=h) (u:=.str s) (ys:=[.str s]) rv rfl xk rfl rfl rfl rfl dg rfl a;exact⟨v,h',e,s,x⟩
theorem K9(l:Ub):∀k,(Z1 l k).length=2
 | 0=>rfl
 | k+1=>by unfold Z1;split<;>simp[K9 l k]
theorem Ij{a:V}{o:Option Ua}(c:A7 a o):(∃s,o=some s/\a = .tuple [.str s,dh 0])\/(o=none/\∃e,e≠0/\a = .tuple [.str [],dh e]):=by
 cases o with
 | some s=>exact .inl ⟨s,rfl,c⟩
 | none=>exact .inr ⟨rfl,c⟩
theorem CP{v:V}{l:Ub}(sl:Sl h v 1 l.length (zI l))(hin:wO l=true)(hl:l.length<=255)(hn:h.nx+2000<=T.top)(hlow:h.low<=T.top)(hq:∀h' v',Ext h h' 620->Ow h' v' BI (xn l 2).length (cS (xn l 2))->Q (.tuple [v',.agg (Y2 (Z1 l 2))]) h'):RF P zB 48 [v] h Q:=by
 refine zh L48 zIr ⟨dd,?_⟩;rintro p0 h1 rfl e1;have w1:=(Vw.nil (S:=zH) (h:=h)).new (o:=Gb (.ls [.bool false,.bool false])) e1 dd;have n1:h1.nx=h.nx+1:=by rw[e1,zC]
 refine Hg dd λh3 x3=>⟨_,_,rfl,λtm hs=>?_⟩
 have w3:=w1.ext x3;have t3:=x3.top;refine wpC.round (λj tm h'=>∃(k:Nat) (y:V) (n:Cs),k<=2/\j=2-k/\h'.nx<=h3.nx+305*k/\Vw zH h h' (2+305*k) [(h.nx,Gb n)]/\Row n 2 (Y2 (Z1 l k))/\Ow h' y BI (xn l k).length (cS (xn l k))/\(xn l k).length<=k/\Sep zH h.nx [(h.nx,Gb n)] y /\
  Has tm [(9,dh k),(8,.agg [D9,D7]),(0,v),(2,y),(3,.ptr h.nx 0)]) 2
  ⟨0,.nilslice,_,dd,dd,dd,w3,FV,⟨rfl,.inl ⟨rfl,rfl⟩⟩,oR _,(λb hb=>by cases hb),hs.sub de⟩ ?_
 clear hs w3;rintro j tm h' ⟨k,y,n,hk,rfl,hnx,w,R,ow,hc,sp,hs⟩;have l':h'.low<=T.top:=by have:=w.low;omega
 have sv:=sl.ext w.ex0;refine cg L48 hs ⟨λc=>?_,λc=>λB g=>?_⟩
 .have C:k<2:=dd
  have hpl:k<(Z1 l k).length:=by rw[K9];exact C
  have yes:∀(h2:H) (s:Ua),Ext h' h2 300->eS l k=some s->∃v6 F,zO zB 63 1 [(0,.str s)] h2=some (v6,F)/\∃v8 G,zi zB 63 F y v6=some (v8,G)/\∃d a,jP zB 4 G (.ptr h.nx k) (.bool true)=some d /\
    d.nx<=h3.nx+305*(k+1)/\Vw zH h d (2+305*(k+1)) [(h.nx,Gb a)]/\Row a 2 (Y2 (Z1 l (k+1)))/\Ow d v8 BI (xn l (k+1)).length (cS (xn l (k+1)))/\(xn l (k+1)).length<=k+1/\Sep zH h.nx [(h.nx,Gb a)] v8:=by
   intro h2 s z r;have t2:=z.top;have w2:=w.ext z;have ow2:=ow.ext z;obtain⟨v6,F,U,s7,x7⟩:=HA (h:=h2) s dd;have t7:=x7.top;have w7:=w2.ext x7;obtain⟨v8,G,W,A⟩:=(ow2.ext x7).append (c:=zB) s7 dg rv rfl xk rfl rfl (by show((xn l k).length+1)*1<=_;omega) (by show((xn l k).length+1)*16<=_;omega) dd;obtain⟨w9,ow9,I⟩:=w7.grow sp A;have t9:=A.2.2.1;obtain⟨d,a,x,rb',w12,n12,g12⟩:=w9.set2 (cx:=zB) 0 (j:=k) (u:=.bool true) R rfl dd C ty4 rfl rfl rfl rfl;have ec:xn l (k+1)=xn l k++[s]:=by rw[bw,r];rfl
   refine⟨v6,F,U,v8,G,W,d,a,x,dd,w12.more dd,?_,?_,by rw[ec,oW,List.length_singleton];omega,λb hb=>⟨(I b hb).1,λq hq=>?_⟩⟩
   .have ep:Z1 l (k+1)=(Z1 l k).set k true:=by
     show(if (eS l k).isSome=true then (Z1 l k).set k true else Z1 l k)=_;rw[r];rfl
    rw[ep];unfold Y2;rw[List.map_set];exact rb'
   .rw[ec,oW,List.length_singleton];have es:cS (xn l k++[s])=cS (xn l k)++[.str s]:=by unfold cS;rw[List.map_append];rfl
    rw[es];exact ow9.keep dd λb hb=>g12 b λq=>(I b hb).2 (h.nx,Gb n) (by simp) q.symm
   simp only[oq,List.not_mem_nil,or_false]at hq;subst hq;exact(I b hb).2 (h.nx,Gb n) (by simp)
  have no:∀(h2:H),Ext h' h2 300->eS l k=none->h2.nx<=h3.nx+305*(k+1)/\Vw zH h h2 (2+305*(k+1)) [(h.nx,Gb n)]/\Row n 2 (Y2 (Z1 l (k+1)))/\Ow h2 y BI (xn l (k+1)).length (cS (xn l (k+1)))/\(xn l (k+1)).length<=k+1:=by
   intro h2 z r;have t2:=z.top;have ec:xn l (k+1)=xn l k:=by rw[bw,r];exact List.append_nil _
   have ep:Z1 l (k+1)=Z1 l k:=by show(if (eS l k).isSome=true then (Z1 l k).set k true else Z1 l k)=_;rw[r];rfl
   rw[ec,ep];exact⟨dd,(w.ext z).more dd,R,ow.ext z,dd⟩
  have X:k=0\/k=1:=dd
  rcases X with rfl|rfl
  .refine⟨_,zCr,?_⟩;show RF P zB 26 [v] h' _;refine NH sv dd dd λh2 z=>?_
   rcases Ij (HY l)with⟨s,p,Y⟩|⟨J,e,he,Y⟩<;>rw[Y]
   .obtain⟨v6,F,U,v8,G,W,d,a,x,K,L,M,N,O,q6⟩:=yes h2 s z p;refine⟨_,_,rfl,λ_=>⟨v6,F,U,trivial,v8,G,W,_,_,nU dg,d,x,λB g=>⟨rfl,rfl,1,dd,1,v8,a,dd,rfl,K,L,M,N,O,q6,?_⟩⟩,λc=>absurd rfl c⟩;exact g.sub de
   obtain⟨K,L,M,N,O⟩:=no h2 z J;exact⟨_,_,rfl,λc=>absurd c he,λ_=>λB g=>⟨rfl,rfl,1,dd,1,y,n,dd,rfl,K,L,M,N,O,sp,g.sub de⟩⟩
  refine⟨_,zCs,?_⟩;show RF P zB 54 [v] h' _;refine uh sv hin hl dd l' ?_;rcases Ij (Gi (kf l))with⟨s,p,Y⟩|⟨J,e,he,Y⟩<;>rw[Y]
  .obtain⟨v6,F,U,v8,G,W,d,a,x,K,L,M,N,O,q6⟩:=yes h' s ((Ext.refl h').mono dd) p;refine⟨_,_,rfl,λ_=>⟨v6,F,U,trivial,v8,G,W,_,_,nU dg,d,x,λB g=>⟨rfl,rfl,0,dd,2,v8,a,dd,rfl,K,L,M,N,O,q6,?_⟩⟩,λc=>absurd rfl c⟩;exact g.sub de
  obtain⟨K,L,M,N,O⟩:=no h' ((Ext.refl h').mono dd) J;exact⟨_,_,rfl,λc=>absurd c he,λ_=>λB g=>⟨rfl,rfl,0,dd,2,y,n,dd,rfl,K,L,M,N,O,sp,g.sub de⟩⟩
 have C:k=2:=dd
 subst C;have i':=jz (h:=h') dd l';obtain⟨D,E,Z⟩:∃D E,Z1 l 2=[D,E]:=by
  have:=K9 l 2
  match Z1 l 2,this with
  | [D,E],_=>exact⟨D,E,rfl⟩
 have hp:h.nx<T.top:=dd
 have hr:n.range 0 2=some [.bool D,.bool E]:=by have:=R.2.2.2;rw[Z]at this;exact Cs.range_is dg rfl λi hi=>by rw[Nat.zero_add];exact this i hi
 obtain⟨a,p1,p2⟩:=Cs.put_some (cs:=n) R.1 (o:=0) (vs:=[.bool D,.bool E]) (by rw[R.2.1];exact oR 2);obtain⟨h5,e5,w5,n5,g5⟩:=w.st (cx:=zB) 0 (t:=64) (f:=0) (u:=.agg [.bool D,.bool E]) (cs':=a) rfl dd BJ p1;obtain⟨_,p3,p4⟩:=Cs.put_eq p1;refine thenC.left (sg g ⟨de,⟨dd,l'⟩,D,E,w.ldA 0 rfl BJ hr,h5,e5,λtm2 p=>?_⟩);have hr5:a.range 0 2=some [.bool D,.bool E]:=Cs.range_is dg rfl λi hi=>by rw[Nat.zero_add,p4,if_pos ⟨oM _,by rw[Nat.zero_add];exact hi⟩,Nat.sub_zero]
 refine endW.ok (leave.tmp (p.get (t:=2) rfl) (leave.cell (p.get (t:=3) rfl) (w5.ldA 0 rfl BJ hr5) rfl)) ?_;have:=hq h5 y (w5.ex0.mono dd) (ow.keep dd λb hb=>g5 b λq=>(sp b hb).2 (h.nx,Gb n) (by simp) q.symm);rw[Z]at this;exact this
def kP(ls:List Ua):Nat->Ua
 | 0=>[]
 | k+1=>if k=0 then ls[k]?.getD [] else if (ls[k]?.getD []).length<(kP ls k).length then ls[k]?.getD [] else kP ls k
theorem P7(a:Q (dh (s.length:Nat)) h):RF P zB 50 [.str s] h Q :=
 zh L50 zIt a
theorem GO{v:V}{ls:List Ua}(sl:Sl h v 1 ls.length (cS ls))(hl:ls.length<=1000)(i:Q (.tuple [.str (kP ls ls.length),.bool (decide (0<ls.length))]) h):RF P zB 49 [v,.func (.func 50) [] []] h Q:=by
 refine zh L49 zIs ⟨_,sl.len rv rfl,λtm hs=>?_⟩;refine wpC.round (λj tm h'=>∃k:Nat,k<=ls.length/\j=ls.length-k/\h'=h/\Has tm [(11,dh k),(10,dh ls.length),(9,v),(1,.func (.func 50) [] []),(6,.str (kP ls k)),(0,v)]) ls.length ⟨0,dd,dd,rfl,hs.sub de⟩ ?_;clear hs;rintro j tm h' ⟨k,p,rfl,rfl,hs⟩;refine cg L49 hs ⟨λc=>?_,λc=>λe a=>?_⟩
 .have g:k<ls.length:=dd
  have q:ls[k]? = some ls[k]:=oQ g;obtain⟨b,o,a1,a2⟩:=sl.at1 (u:=.str ls[k]) g rv rfl xk rfl rfl (by unfold cS;rw[od,q];rfl);have f:kP ls (k+1)=if k=0 then ls[k] else if ls[k].length<(kP ls k).length then ls[k] else kP ls k:=by show(if k=0 then ls[k]?.getD [] else if (ls[k]?.getD []).length<(kP ls k).length then ls[k]?.getD [] else kP ls k)=_;rw[q];rfl
  refine⟨b,o,a1,ls[k],a2,λr=>?_,λr=>?_⟩
  .rw[if_pos dd]at f;refine λe a=>⟨rfl,rfl,ls.length-(k+1),dd,k+1,dd,rfl,rfl,?_⟩
   rw[f,<-zf];exact a.sub de
  rw[if_neg dd]at f;show RF P zB 50 [.str ls[k]] h' _;refine P7 ⟨_,rfl,?_⟩;show RF P zB 50 [.str (kP ls k)] h' _;refine P7 ⟨_,rfl,λt=>?_,λt=>?_⟩
  .rw[if_pos dd]at f;refine λe a=>⟨rfl,rfl,ls.length-(k+1),dd,k+1,dd,rfl,rfl,?_⟩
   rw[f,<-zf];exact a.sub de
  rw[if_neg dd]at f;refine λe a=>⟨rfl,rfl,ls.length-(k+1),dd,k+1,dd,rfl,rfl,?_⟩
  rw[f,<-zf];exact a.sub de
 have p:k=ls.length:=dd
 subst p;refine thenC.left (sg a ⟨_,sl.len rv rfl,λc=>?_,λc=>?_⟩)
 .rw[decide_eq_true dd]at i;exact λn d=>endW.r2 (d.get rfl) (d.get rfl) i
 rw[decide_eq_false dd]at i;exact λn d=>endW.r2 (d.get rfl) (d.get rfl) i
theorem Qr(h:rE l=0):wO (ku l)=true/\1<=(ku l).length/\(ku l).length<=255:=by
 obtain⟨g,l2,c⟩:=eV h;refine⟨?_,by rw[KX];omega,by rw[KX];omega⟩;have hm:=ZY c;unfold wO;rw[List.all_eq_true];intro x f;have d:x∈JJ (yQ l) l:=(List.dropLast_sublist _).subset f;unfold JJ at d;obtain⟨y,e,rfl⟩:=List.mem_map.1 d;have hr:=yq c e;have i:y<=(yQ l:Int):=by rw[<-nr];exact(YJ (l:=l) (a:=0)).2 y e
 rw[oI,decide_eq_true_eq,decide_eq_true_eq];split<;>omega
def ui(w:Ub):V:=if 0<(xn w 2).length then .tuple [.str (kP (xn w 2) (xn w 2).length),dh 0] else .tuple [.str [],dh 7]
def YC(l:Ub):V:=if rE l=0 then ui (ku l) else .tuple [.str [],dh (rE l)]
theorem SV(w:Ub):Plain (ui w):=by unfold ui;split<;>exact zk de
theorem Rg(l:Ub):Plain (YC l):=by
 unfold YC;split
 .exact SV _
 exact zk de
theorem cZ{v:V}(sl:Sl h v 1 l.length (zI l))(hl:l.length<4611686018427387904)(L:h.nx+3000<=T.top)(e:h.low<=T.top)(F:Q (YC l) h):RF P zB 16 [v] h Q:=by
 refine RF.forget (n:=700) (v:=YC l) ?_ (Rg l) F;refine zh L16 zIb (Nn sl hl dd e λM v1 k G=>⟨_,_,rfl,λc=>?_,λc=>?_⟩)
 .exact⟨by unfold YC;rw[if_neg c],k.mono dd⟩
 have c0:rE l=0:=dd
 obtain⟨_,s1⟩:=G c0;rw[if_pos c0];obtain⟨H,N,I⟩:=Qr c0;have O:=k.top;have R:=k.low;refine CP s1 H I dd dd λB U C p=>?_
 have W:=C.top;obtain⟨a,d,q⟩:∃a d,Z1 (ku l) 2=[a,d]:=by
  have:=K9 (ku l) 2
  match Z1 (ku l) 2,this with
  | [a,d],_=>exact⟨a,d,rfl⟩
 rw[q];refine⟨_,a,d,rfl,dd,?_⟩;rintro p9 r rfl g;have J:r.nx=B.nx+1:=by rw[g,zC]
 have x:=(Vw.nil (S:=zH) (h:=B)).new (o:=Gb (.ls [.bool false,.bool false])) g dd;obtain⟨i,y,z,K,_⟩:=x.st (cx:=zB) 0 (t:=64) (f:=0) (u:=.agg [.bool a,.bool d]) rfl dd BJ rfl;have j:=z.ex0;have X:(xn (ku l) 2).length<=2:=by unfold xn;exact oS (List.length_filterMap_le _ _) (by rw[List.length_range];exact oR _)
 have D:Ext h i 700:=((k.trans C).trans j).mono dd;have E:YC l=ui (ku l):=by unfold YC;rw[if_pos c0]
 refine⟨i,y,GO (p.ext j).sl dd ⟨_,_,rfl,λA=>?_,λA=>?_⟩⟩
 .have:=of_decide_eq_true A;exact⟨by rw[E];unfold ui;rw[if_pos this],D⟩
 have:=of_decide_eq_false A;exact⟨by rw[E];unfold ui;rw[if_neg this],D⟩
theorem CW{t:HT}(h:t.nice):0<=qK t.ls:=by rw[<-rF];have:=jX h;omega
theorem Hf:(l:List HE)->(∀e∈l,e.2.nice)->0<=qK (NT l)
 | [],_=>oU _
 | e::l,h=>by
  have a:=CW (h e (by simp));have h2:=Hf l λx m=>h x (by simp[m])
  grind[NT,KA]
theorem HPool.sum{q:List (Nat×Int)}{l:List HE}(h:HPool q l){a b:HE}{l2:List HE}(p:l.Perm (a::b::l2)):1<=a.2.cnt/\1<=b.2.cnt/\a.2.cnt+b.2.cnt<=qK q:=by
 have c:∀e∈l,e.2.nice:=λe d=>h.pool.nice e.2 (List.mem_map.2 ⟨e,d,rfl⟩)
 have f:=X1 h.ls;have g:=X1 (KF p);have i:qK (NT (a::b::l2))=a.2.cnt+(b.2.cnt+qK (NT l2)):=by
  simp_all[NT,KA,rF]
 have j:=Hf l2 λe d=>c e (p.mem_iff.2 (by grind))
 have k:=jX (c a (p.mem_iff.2 (by simp)));have n:=jX (c b (p.mem_iff.2 (by simp)));omega
theorem PopR.two{l c l2:List HE}{a b:HE}(r1:PopR l a c)(r2:PopR c b l2):l.Perm (a::b::l2):=r1.perm.trans (r2.perm.cons a)
theorem Hn{k:Nat}(h:∀x∈l,x<=2^(k+1)):∀x∈ZJ l,x<=2^k:=by intro x a;obtain⟨y,c,rfl⟩:=List.mem_map.1 a;have:=h y c;rw[Int.pow_succ]at this;show y-y/2<=_;omega
theorem Fi{l:Ub}{m:Int}(_:0<=m)(h:∀x∈l,x<=m):l.sum<=l.length*m:=by
 induction l with
 | nil=>simp
 | cons x l ih =>
  have a:=ih λy c=>h y (by grind);have h2:=h x (by simp)
  rw[List.sum_cons,oc]
  grind
def jl(own:Ub)(t:HT):Ub:=kM (List.replicate own.length 0) (t.lv 0)
theorem XB(own:Ub)(t:HT):(jl own t).length=own.length:=by grind[jl,KD]
def Good(own:Ub)(t:HT):Prop:=(t.ls.map (·.1)).Perm ((pos own own.length).map (·.1))
theorem Good.of{t:HT}{p:Nat}(h:HPool (pos own own.length) [(p,t)]):Good own t:=by unfold Good;exact h.one.2.map _
theorem Good.lt{t:HT}(h:Good own t):∀x∈t.ls,x.1<own.length:=by intro x a;obtain⟨y,c,e⟩:=List.mem_map.1 (h.mem_iff.1 (List.mem_map.2 ⟨x,a,rfl⟩));rw[<-e];exact(ra _ _ y c).1
theorem Good.nd{t:HT}(h:Good own t):((t.lv 0).map (·.1)).Nodup:=by rw[Zm];exact h.symm.nodup (vY _ _)
theorem Good.lvlt{t:HT}(h:Good own t):∀x∈t.lv 0,x.1<own.length:=by intro x a;have:x.1∈(t.lv 0).map (·.1):=List.mem_map.2 ⟨x,a,rfl⟩;rw[Zm]at this;obtain⟨y,c,e⟩:=List.mem_map.1 this;rw[<-e];exact h.lt y c
theorem vT{t:HT}(g:Good own t):(∃x∈jl own t,11<x)↔11<t.hgt:=by
 constructor
 .rintro⟨x,a,h⟩;rcases gC a with d|⟨y,c,rfl⟩
  .have:=List.eq_of_mem_replicate d;omega
  have:=(KY t 0 y c).2;omega
 intro h;obtain⟨y,c,e⟩:=lY t 0;refine⟨(y.2:Int),?_,dd⟩;exact List.mem_of_getElem? (KC _ _ g.nd (λx a=>by rw[List.length_replicate];exact g.lvlt x a) y c)
theorem EI{m:Nat}{x:Int}(h0:0<=x)(h1:x<=(m:Int)):ZA (if x≠0 then (m:Int)+1-x else 0)=lone m x:=by
 unfold ZA lone;by_cases c:x≠0
 .rw[if_pos c,if_pos c,if_pos dd];congr 1;omega
 rw[if_neg c,if_neg c];rfl
theorem Tk{m:Nat}: {l:Ub}->(∀x∈l,0<=x/\x<=(m:Int))->yh (JJ m l)=ym m l
 | [],_=>rfl
 | x::l,h=>by
  have a:=h x (by simp);have h2:=Tk (m:=m) (l:=l) λy c=>h y (by simp[c])
  have d:yh (JJ m (x::l))=ZA (if x≠0 then (m:Int)+1-x else 0)+yh (JJ m l):=by simp[yh,JJ]
  have e:ym m (x::l)=lone m x+ym m l:=by simp[ym]
  rw[d,e,h2,EI a.1 a.2]
theorem gh{m:Nat}: {l:Ub}->cnt l=0->ym m l=0
 | [],_=>rfl
 | x::l,h=>by
  by_cases c:x=0
  .subst c;have:cnt l=0:=by simpa [cnt]using h
   have a:ym m (0::l)=lone m 0+ym m l:=by simp[ym]
   rw[a,gh this];rfl
  simp[cnt,c]at h
theorem VB : {l:Ub}->cnt l=0->∀x∈l,x=0
 | [],_,x,a=>by cases a
 | y::l,h,x,a=>by
  by_cases c:y=0
  .subst c;have:cnt l=0:=by simpa [cnt]using h
   rcases oq.1 a with rfl|a
   .rfl
   exact VB this x a
  simp[cnt,c]at h
theorem bW : {l:Ub}->(∀x∈l,x=0)->cnt l=0
 | [],_=>rfl
 | y::l,h=>by
  have a:=h y (by simp);subst a;have:=bW (l:=l) λx c=>h x (by simp[c])
  simpa [cnt]using this
theorem WD{n m:Nat}(h1:2^m<=n)(h2:n<2^(m+1)):zQ n=m+1:=by
 have a:=zo h2;have b:=kh n;by_cases c:zQ n<=m
 .have:2^zQ n<=2^m:=Nat.pow_le_pow_right dg c;omega
 omega
theorem gZ{l:Ub}(h:rE l=0):∃x,l=l.dropLast++[x]/\ku l=JJ (yQ l) l.dropLast/\(∀y∈l,0<=y/\y<=(yQ l:Int))/\x≠0/\(0<=x/\x<=(yQ l:Int))/\zQ (yh (ku l))=yQ l/\xo (ku l)=2^(yQ l-x.toNat):=by
 obtain⟨o,l2,f⟩:=eV h;have p:l.getLast?≠some 0/\2<=cnt l/\ym (yQ l) l=2^yQ l:=by
  unfold rE at h;rw[if_neg dd,if_pos f]at h;by_cases c:l.getLast?≠some 0/\2<=cnt l/\ym (yQ l) l=2^yQ l
  .exact c
  rw[if_neg c]at h;cases h
 obtain⟨q,v,r⟩:=p;have a:l≠[]:=by intro e;subst e;simp at o
 have el:l=l.dropLast++[l.getLast a]:=(List.dropLast_concat_getLast a).symm;have g:l.getLast a≠0:=λe=>q (by rw[List.getLast?_eq_some_getLast a,e])
 have k:l.getLast a∈l:=List.getLast_mem a;generalize hx:l.getLast a=x at *;have hb:∀y∈l,0<=y/\y<=(yQ l:Int):=λy j=>⟨(yq f j).1,ZX j⟩
 have n:=hb x k;have d:ku l=JJ (yQ l) l.dropLast:=by unfold ku JJ;rw[List.map_dropLast]
 have t:yh (ku l)+2^(yQ l-x.toNat)=2^yQ l:=by
  rw[d,Tk λy j=>hb y ((List.dropLast_sublist _).subset j)];rw[<-r];have u:ym (yQ l) l=ym (yQ l) l.dropLast+lone (yQ l) x:=by
   generalize yQ l=m
   conv=>lhs;rw[el]
   unfold ym;rw[List.map_append,List.sum_append];simp
  rw[u];unfold lone;rw[if_pos g]
 obtain⟨m,em⟩:∃m,yQ l=m+1:=⟨yQ l-1,dd⟩;have z:2^(m+1-x.toNat)<=2^m:=Nat.pow_le_pow_right dg dd;have A:0<2^(m+1-x.toNat):=Nat.pow_pos dg;have p3:2^(m+1)=2*2^m:=Nat.pow_succ';rw[em]at t;have i:zQ (yh (ku l))=m+1:=WD dd dd;refine⟨x,el,d,hb,g,n,by rw[i,em],?_⟩;unfold xo;rw[i,em];omega
theorem Cm(h:rE l=0):qD (ku l)=0:=by
 obtain⟨f,q,r⟩:=Qr h;obtain⟨t,l2,a⟩:=eV h;have hm:=ZY a;obtain⟨x,el,d,hb,g,i,j,k⟩:=gZ h;have u:2<=cnt l:=by
  unfold rE at h;rw[if_neg dd,if_pos a]at h;by_cases c:l.getLast?≠some 0/\2<=cnt l/\ym (yQ l) l=2^yQ l
  .exact c.2.1
  rw[if_neg c]at h;cases h
 have n:cnt (ku l)≠0:=by
  intro c;have o:=VB c;have:cnt l.dropLast=0:=bW λy e=>by
   have p:=hb y ((List.dropLast_sublist _).subset e);have:=o (if y≠0 then (yQ l:Int)+1-y else 0) (by rw[d];exact List.mem_map.2 ⟨y,e,rfl⟩);by_cases c2:y=0
   .exact c2
   rw[if_pos c2]at this;omega
  have v:cnt l=cnt l.dropLast+cnt [x]:=by conv=>lhs;rw[el,j7]
  have:cnt [x]<=1:=Yl _;omega
 have h3:xo (ku l)=2^(xo (ku l)).log2:=by rw[k,Nat.log2_two_pow]
 unfold qD;rw[if_neg dd,if_pos f,if_pos ⟨n,dd,h3⟩]
theorem QM{c:Ua}(h:kf w=some c):c=UInt8.ofNat (ZV w).length::ZV w/\(ZV w).length<=127:=by
 unfold kf at h;by_cases k:2<=cnt (yi w)/\(ZV w).length<=127
 .rw[if_pos k]at h;exact⟨(Option.some.inj h).symm,k.2⟩
 rw[if_neg k]at h;cases h
theorem QX{d:Ua}(h:Y9 w=some d):d=lA w/\w.length<=128:=by
 unfold Y9 at h;by_cases k:qD w=0/\w.length<=128
 .rw[if_pos k]at h;exact⟨(Option.some.inj h).symm,k.2⟩
 rw[if_neg k]at h;cases h
theorem DY{d:Ua}(h:Y9 w=some d):1<=d.length/\d.length<=66:=by
 obtain⟨rfl,hl⟩:=QX h;have a:(lA w).length=(w.length+1)/2+1:=by show(kI w).length+1=_;rw[Yo]
 omega
theorem DN{c:Ua}(h:kf w=some c):1<=c.length/\c.length<=128:=by obtain⟨rfl,hl⟩:=QM h;rw[oc];omega
theorem VM:∀{w:Ub}{i:Nat},wO w=true->(hi:i<w.length)->∃b:UInt8,(kI w)[i/2]? = some b/\((if i % 2=0 then b.toNat/16 else b.toNat % 16:Nat):Int)=w[i]
 | [],_,_,hi=>by simp at hi
 | [a],i,h,hi=>by
  have hr:=yq h (List.mem_singleton.2 rfl);have:i=0:=by simp at hi;exact hi
  subst this;refine⟨_,rfl,?_⟩;rw[if_pos rfl,UInt8.toNat_ofNat',ou];show _=a;omega
 | a::b::l,i,h,hi=>by
  have f:=yq h (List.mem_cons_self ..);have hb:=yq h (oJ _ (List.mem_cons_self ..));have hl:wO l=true:=by unfold wO at h ⊢;simp only[List.all_cons,oI]at h;exact h.2.2
  have e:(UInt8.ofNat (16*a.toNat+b.toNat)).toNat=16*a.toNat+b.toNat:=by rw[UInt8.toNat_ofNat',ou]
  rcases i with _|_|i
  .refine⟨_,rfl,?_⟩;rw[if_pos rfl,e];show _=a;omega
  .refine⟨_,rfl,?_⟩;rw[if_neg dg,e];show _=b;omega
  obtain⟨c,d,h2⟩:=VM (i:=i) hl (by simpa using hi);refine⟨c,?_,?_⟩
  .rw[show(i+1+1)/2=i/2+1 by omega];exact d
  rw[show(i+1+1) % 2=i % 2 by omega];exact h2
theorem G8{a:Nat}(h:wO w=true)(hs:∀j,j<(kI w).length->s[a+j]? = (kI w)[j]?):YR s a w.length=w:=by
 apply List.ext_getElem?;intro i;unfold YR;rw[od];by_cases hi:i<w.length
 .obtain⟨b,c,h2⟩:=VM h hi;rw[List.getElem?_range hi,oQ hi];simp only[ol];rw[hs _ (List.getElem?_eq_some_iff.1 c).1,c,Option.getD_some,h2]
 rw[ov (by rw[List.length_range];omega),ov];rfl
theorem lZ{j:Nat}(h:j<s.length):(b++(s++m))[b.length+j]? = s[j]?:=by rw[List.getElem?_append_right dd,Nat.add_sub_cancel_left,List.getElem?_append_left h]
theorem zB0{d:Ua}(h:Y9 w=some d):yM (b++(d++m)) (b.length:Nat)=⟨w,b.length+d.length,0,0⟩:=by
 have hr:qD w=0:=by
  unfold Y9 at h;by_cases k:qD w=0/\w.length<=128
  .exact k.1
  rw[if_neg k]at h;cases h
 obtain⟨rfl,hl⟩:=QX h;have a:wO w=true/\1<=w.length:=by
  unfold qD at hr;by_cases c:w.length<1\/255<w.length
  .rw[if_pos c]at hr;cases hr
  rw[if_neg c]at hr;by_cases f:wO w=true
  .exact⟨f,dd⟩
  rw[if_neg f]at hr;cases hr
 have g:(UInt8.ofNat (w.length+127)).toNat=w.length+127:=by rw[UInt8.toNat_ofNat',ou]
 have e:=Yo w;have hd:(lA w).length=(w.length+1)/2+1:=by show(kI w).length+1=_;rw[e]
 have i:(b++(lA w++m)).length=b.length+((w.length+1)/2+1+m.length):=by rw[oW,oW,hd]
 have n:(b++(lA w++m))[b.length]? = some (UInt8.ofNat (w.length+127)):=lZ (j:=0) dd;have o:YR (b++(lA w++m)) (b.length+1) w.length=w:=G8 a.1 λj p=>by rw[Nat.add_assoc,lZ (by rw[hd];omega),Nat.add_comm 1 j];rfl
 unfold yM;rw[if_neg dd,oe,n];simp only;rw[g,if_pos dd];unfold xw;rw[show w.length+127-127=w.length by omega,if_neg dd,o,if_pos hr];congr 1;omega
theorem QS:∀{c:Ub},2<=cnt c->∃i j:Nat,i≠j/\(c[i]?.getD 0:Int)≠0/\(c[j]?.getD 0:Int)≠0
 | [],h=>by simp[cnt]at h
 | x::c,h=>by
  have one:∀{c:Ub},1<=cnt c->∃i:Nat,(c[i]?.getD 0:Int)≠0:=λ{c} h=>by obtain⟨y,d⟩:=List.exists_mem_of_length_pos (l:=c.filter λx=>decide (x≠0)) (show 0<(c.filter λx=>decide (x≠0)).length from h);obtain⟨a,h2⟩:=List.mem_filter.1 d;obtain⟨i,hi⟩:=List.getElem?_of_mem a;exact⟨i,by rw[hi];simpa using h2⟩
  by_cases q:x=0
  .have:2<=cnt c:=by simpa [cnt,q]using h
   obtain⟨i,j,a,h2,h3⟩:=QS this;exact⟨i+1,j+1,dd,h2,h3⟩
  have:1<=cnt c:=by
   have e:cnt (x::c)=cnt c+1:=by simp[cnt,q]
   omega
  obtain⟨i,a⟩:=one this;exact⟨0,i+1,dd,q,a⟩
theorem PV{i:Nat}(h:(yi w)[i]?.getD 0≠0):(i:Int)∈w:=by
 by_cases hi:i<12
 .rw[jA hi,Option.getD_some]at h;obtain⟨y,a⟩:=List.exists_mem_of_length_pos (l:=w.filter λx=>decide (x=(i:Int))) (show 0<zz w i by omega);obtain⟨c,h2⟩:=List.mem_filter.1 a;have:y=(i:Int):=of_decide_eq_true h2
  rwa [this]at c
 rw[ov (by rw[xL];omega)]at h;exact absurd rfl h
theorem Ci{p:Ub}{C D S:Ua}{q:Nat}(hl:C.length<=127)(hr:qD w=0)(d:C=D++S)(d1:xy C 6 12=some (5,p,q))(d2:(q+7)/8=D.length)(two:wg 5 p S=(0,w)):
  yM (b++((UInt8.ofNat C.length::C)++m)) (b.length:Nat)=⟨w,b.length+(UInt8.ofNat C.length::C).length,0,0⟩:=by
 have a:C.drop ((q+7)/8)=S:=by rw[d2,d,List.drop_left]
 have e:(UInt8.ofNat C.length).toNat=C.length:=by rw[UInt8.toNat_ofNat',ou]
 have f:(b++((UInt8.ofNat C.length::C)++m))[b.length]? = some (UInt8.ofNat C.length):=lZ (j:=0) (by simp);have g:(b++((UInt8.ofNat C.length::C)++m)).length=b.length+(C.length+1+m.length):=by rw[oW,oW,oc]
 have c:((b++((UInt8.ofNat C.length::C)++m)).drop (b.length+1)).take C.length=C:=by rw[<-List.drop_drop,List.drop_left,List.cons_append,List.drop_succ_cons,List.drop_zero,List.take_left]
 unfold yM;rw[if_neg dd,oe,f];simp only;rw[e,if_neg dd,if_neg dd,c];unfold W6;rw[d1];simp only;rw[a,two];simp only;rw[if_neg dg,if_pos hr,oc];congr 1;omega
theorem zBZ{c:Ua}(h:kf w=some c)(hr:qD w=0):yM (b++(c++m)) (b.length:Nat)=⟨w,b.length+c.length,0,0⟩:=by
 have h2:2<=cnt (yi w):=by
  unfold kf at h;by_cases k:2<=cnt (yi w)/\(ZV w).length<=127
  .exact k.1
  rw[if_neg k]at h;cases h
 obtain⟨rfl,hl⟩:=QM h;have a:wO w=true/\w.length<=255:=by
  unfold qD at hr;by_cases c:w.length<1\/255<w.length
  .rw[if_pos c]at hr;cases hr
  rw[if_neg c]at hr;by_cases n:wO w=true
  .exact⟨n,dd⟩
  rw[if_neg n]at hr;cases hr
 have g:=QG a.1 a.2;have gd:=g.gd;have o:=(VF a.1 g).cells gd;obtain⟨i,j,n1,p,r⟩:=QS h2;have u:=PV p;have v:=PV r;have d:2<=w.length:=by
  have:=sJ (c:=yi w) λx y=>((eW a.2).rng x y).1
  rw[X9 a.1]at this;omega
 have row:∀k:Nat,(k:Int)∈w->1<=(ze (za 5 (ZZ (yi w))) 32 k).length:=λk z=>by
  obtain⟨s,e,_,h⟩:=o _ z;have:s=k:=dd
  rwa [this]at h
 have f:∀s,(ze (za 5 (ZZ (yi w))) 32 s).length<32:=λs=>by
  by_cases e:s=i
  .have:=Fy (sp:=za 5 (ZZ (yi w))) (s:=s) (t:=j) dd (kC _ _);have:=row j v;omega
  have:=Fy (sp:=za 5 (ZZ (yi w))) (s:=s) (t:=i) e (kC _ _);have:=row i u;omega
 have two:=LZ gd o d a.2 f;obtain⟨q,d1,d2⟩:=RB gd (aA (za 5 (ZZ (yi w))) w);exact Ci hl hr rfl d1 d2 two
theorem GR(h:rE l=0):lens (ku l)=l:=by
 obtain⟨x,el,a,hb,d,g,f,i⟩:=gZ h;have ex:(yQ l:Int)+1-x=((zQ (xo (ku l)):Nat):Int):=by rw[i];have:zQ (2^(yQ l-x.toNat))=yQ l-x.toNat+1:=WD (oR _) (Nat.pow_lt_pow_right dg (om _));rw[this];omega
 have e:ku l++[((zQ (xo (ku l)):Nat):Int)]=JJ (yQ l) l:=by
  have j:∀m:Nat,JJ m l=JJ m l.dropLast++[if x≠0 then (m:Int)+1-x else 0]:=λm=>by
   conv=>lhs;rw[el]
   unfold JJ;rw[List.map_append];rfl
  rw[j,if_pos d,ex,<-a]
 unfold lens;rw[e,f];unfold JJ;rw[List.map_map]
 conv=>rhs;rw[<-List.map_id l]
 apply List.map_congr_left;intro y k;have:=hb y k;show(if (if y≠0 then (yQ l:Int)+1-y else 0)≠0 then (yQ l:Int)+1-(if y≠0 then (yQ l:Int)+1-y else 0) else 0)=y;by_cases c:y=0
 .rw[c];rfl
 rw[if_pos c,if_pos dd];omega
theorem W9(h:rE l=0)(hs:Y9 (ku l)=some s\/kf (ku l)=some s):xO (b++(s++m)) (b.length:Nat)=⟨l,b.length+s.length,0,0⟩:=by
 have hr:=Cm h;have e:yM (b++(s++m)) (b.length:Nat)=⟨ku l,b.length+s.length,0,0⟩:=by
  rcases hs with a|a
  .exact zB0 a
  exact zBZ a hr
 unfold xO;rw[e];simp only;rw[if_pos trivial,GR h]
end Go.Proofs.YtnpeieeomokomaaGreat
