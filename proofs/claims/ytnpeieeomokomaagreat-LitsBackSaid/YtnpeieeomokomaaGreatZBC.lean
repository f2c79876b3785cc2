/- BC. No condition. -/
import Derived.Test.YtnpeieeomokomaaGreatZBB
import Derived.Test.YtnpeieeomokomaaGreatZTA
import Derived.Test.YtnpeieeomokomaaGreatZW
noncomputable section
set_option maxRecDepth 100000
set_option maxHeartbeats 4000000
namespace Go.Proofs.YtnpeieeomokomaaGreat
open Go.Sim
variable{h:H}{xs:List Ua}{L:List (Nat×O)}{l:Ub}{s:Ua}{i n:Nat}{Q:Uc}
abbrev tS:TI:=⟨9,.string,1,16,some (.str []),true,false,false,[]⟩
abbrev nR(xs:List Ua):Ug:=xs.map V.str
abbrev C1(v:V):O:=.cells (.ls [v]) ⟨0,64,0⟩ true false
theorem zBd:zB.ty.get 9=some tS:=xk
theorem rL(xs:List Ua)(x:Ua):(xs++[x]).flatten=xs.flatten++x:=by simp
theorem rR{v:V}{xs:List Ua}{h:H}{Q:Uc}(sl:Sl h v 1 xs.length (nR xs))(hl:xs.length<=100)(j:Q (.str xs.flatten) h)(q:xs.flatten.length<=1000000:=by omega):RF P zB 302 [v] h Q:=by
 refine zh zCb zFE ⟨_,sl.len rv rfl,λtm hs=>?_⟩;refine wpC.round (λk tm h'=>∃i:Nat,i<=xs.length/\k=xs.length-i/\h'=h/\Has tm [(8,.int .i64 i),(7,.int .i64 xs.length),(6,v),(3,.str (xs.take i).flatten)]) xs.length ⟨0,dd,dd,rfl,hs.sub de⟩ ?_;clear hs;rintro k tm h' ⟨i,r,rfl,rfl,hs⟩;refine cg zCb hs ⟨λc=>?_,λc=>λd a=>?_⟩
 .have hi:i<xs.length:=dd
  have g:xs[i]? = some xs[i]:=oQ hi;obtain⟨b,o,a1,a2⟩:=sl.at1 (u:=.str xs[i]) hi rv rfl zBd rfl rfl (by rw[od,g];rfl);have f:xs.take (i+1)=xs.take i++[xs[i]]:=by rw[List.take_add_one,g];rfl
  have m:(xs.take i).flatten.length+xs[i].length<=xs.flatten.length:=by
   rw[<-oW,<-rL,<-f]
   conv=>rhs;rw[<-List.take_append_drop (i+1) xs,List.flatten_append,oW]
   omega
  refine⟨b,o,a1,_,a2,dd,λd a=>⟨rfl,rfl,xs.length-(i+1),dd,i+1,dd,rfl,rfl,?_⟩⟩;rw[f,rL,<-zf];exact a.sub de
 have hi:i=xs.length:=dd
 subst hi;rw[List.take_length]at a;exact thenC.left (sg a (λp e=>endW.r1 (e.get rfl) j))
def zP(n i:Nat):Nat:=if i<4 then i*((n+3)/4) else n
theorem Pa(a:6<=n)(hi:i<4):zP n (i+1)=zP n i+K1 n i:=by
 unfold zP K1
 match i,hi with
 | 0,_=>simp
 | 1,_=>simp;omega
 | 2,_=>simp;omega
 | 3,_=>simp;omega
theorem zGm(a:6<=n)(hi:i<=4):zP n i<=n:=by
 unfold zP
 match i,hi with
 | 0,_=>simp
 | 1,_=>simp;omega
 | 2,_=>simp;omega
 | 3,_=>simp;omega
 | 4,_=>simp
theorem C8(a:6<=s.length)(hi:i<4):zS s (zP s.length i) (zP s.length (i+1))=yI s i:=by rw[Pa a hi];unfold yI zP;rw[if_pos hi]
theorem Eg:∀i,i<4->wM zB 176 (.agg (PG n)) (.int .i64 (i:Nat))=some (.int .i64 (K1 n i:Nat))
 | 0,_=>de
 | 1,_=>de
 | 2,_=>de
 | 3,_=>de
theorem HZ{s:Ua}{l pa ps:Nat}{h:H}{Q:Uc}(I:Nat->H->Prop)(e:6<=s.length)(h0:I 0 h)(f:ye zB 176 h (.ptr pa 0)=some (.agg (PG s.length)))(g:∀i h',I i h'->ye zB 9 h' (.ptr ps 0)=some (.str (s.drop (zP s.length i))))(a:∀i h',i<4->I i h'->RR P l [.int .i64 (i:Nat),.str (yI s i)] h' λr h2=>r = .bool true/\ye zB 9 h2 (.ptr ps 0)=some (.str (s.drop (zP s.length i)))/\∃h3,jP zB 9 h2 (.ptr ps 0) (.str (s.drop (zP s.length (i+1))))=some h3/\I (i+1) h3)(p:∀h',I 4 h'->Q (.tuple []) h'):RF P zB 264 [.yield l,.ptr pa 0,.ptr ps 0] h Q:=by
 refine zh E5 Bn ⟨_,_,_,_,f,λb c=>?_⟩;refine wpC.round (λk b h'=>∃i,i<=4/\k=4-i/\I i h'/\Has b [(7,.int .i64 i),(6,.agg (PG s.length)),(0,.yield l),(2,.ptr ps 0)]) 4 ⟨0,dd,rfl,h0,c.sub de⟩ ?_;clear c;rintro k q h' ⟨i,t,rfl,ii,j⟩;refine cg E5 j ⟨λu=>?_,λu=>λm d=>?_⟩
 .have hi:i<4:=dd
  have v:=Pa e hi;have w:=zGm e (show i+1<=4 by omega);have x:(s.drop (zP s.length i)).length=s.length-zP s.length i:=List.length_drop ..;refine⟨_,Eg i hi,_,g i h' ii,_,Nr (y:=K1 s.length i) dd,?_⟩;have z:(s.drop (zP s.length i)).take (K1 s.length i)=yI s i:=by rw[<-C8 e hi];unfold zS;rw[show zP s.length (i+1)-zP s.length i=K1 s.length i by omega]
  rw[z];show RR P l [.int .i64 (i:Nat),.str (yI s i)] h' _;refine RR.mono (a i h' hi ii) ?_;rintro r h2 ⟨rfl,ls,h3,A,B⟩;have o:=uI (s:=s.drop (zP s.length i)) (y:=K1 s.length i) (h:=h2) dd;rw[List.drop_drop,<-v]at o;refine JD (⟨_,ls,_,o,h3,A,λm d=>⟨rfl,rfl,4-(i+1),dd,i+1,dd,rfl,B,?_⟩⟩);rw[<-zf];exact d.sub de
 have hi:i=4:=dd
 subst hi;exact p h' ii
theorem Sep.set{S:Nat->Prop}{b0 p:Nat}{l:List (Nat×O)}{v:V}{o o':O}(s:Sep S b0 l v)(b:l[i]? = some (p,o)):Sep S b0 (l.set i (p,o')) v:=Sep.less s λq a=>by
 rcases List.mem_or_eq_of_mem_set a with a|rfl
 .exact⟨q,a,rfl⟩
 exact⟨_,List.mem_of_getElem? b,rfl⟩
theorem WY{hb:H}{c p:Nat}{v:V}{x:Ua}(w:Vw zH hb h c L)(k:L[i]? = some (p,C1 v))(ow:Ow h v tS n (nR xs))(sp:Sep zH hb.nx L v)(J:h.nx+2<=T.top)(y:n<=100):
  ∃v4 o v6 q d,ye zB 63 h (.ptr p 0)=some v/\zO zB 63 1 [(0,.str x)] h=some (v4,o)/\zi zB 63 o v v4=some (v6,q)/\jP zB 63 q (.ptr p 0) v6=some d/\Vw zH hb d (c+2) (L.set i (p,C1 v6))/\Ow d v6 tS (n+1) (nR (xs++[x]))/\Sep zH hb.nx (L.set i (p,C1 v6)) v6 /\
   h.nx<=d.nx/\d.nx<=h.nx+2/\(∀b,z6 v6=some b->h.nx<=b)/\(∀b,b<h.nx->b≠p->z6 v≠some b->d.get b=h.get b):=by
 obtain⟨v4,o,z,B,g,_⟩:=xG (c:=zB) (h:=h) (u:=.str x) (ys:=[.str x]) rv rfl zBd rfl rfl rfl rfl dg rfl dd;have K:=g.top;have C:=g.le;obtain⟨v6,q,D,A⟩:=Ow.append (c:=zB) (te:=tS) (m:=1) (ow.ext g) B dg rv rfl zBd rfl rfl (by show(n+1)*1<=_;omega) (by show(n+1)*16<=_;omega) dd;obtain⟨E,a,j⟩:=(w.ext g).grow sp A;obtain⟨_,A2,A3,A4,A5,_⟩:=A;obtain⟨d,F,G,M,r⟩:=E.st (cx:=zB) i (t:=63) (f:=0) (u:=v6) (cs':=.ls [v6]) k dd rv (by rw[a.one1.1];rfl) (zx.2 (by rw[a.one1.1];rfl)) (oM _) (by rw[a.one1.1];exact a.one1.2);refine⟨v4,o,v6,q,d,w.ld1 i k rv rfl,z,D,F,G,?_,Sep.set j k,dd,dd,λb hb=>by rw[A5]at hb;cases hb;exact C,λb I h2 h3=>?_⟩
 .rw[show nR (xs++[x])=nR xs++[V.str x]by simp];exact a.keep dd λb hb=>r b λe=>(j b hb).2 _ (List.mem_of_getElem? k) (by rw[e])
 rw[r b h2,A4 b dd h3,g.get b I]
section
variable {c:Ctx}{orc:Nat->Ug->H->Option (V×H)}{b:Bool}{ih:Bool->Go.Code->St->Option Out}
end
section
variable (tm:Tm) (hd st p4 p5:Nat) (vh vs v:V) (a b r:Ua)
end
abbrev oS2(a b:Ua):O:=.cells (.ls [.str a,.str b]) ⟨0,10,0⟩ true false
theorem DG(a b:Ua)(c:h.nx<T.top):zO zB 63 2 [(0,.str a),(1,.str b)] h=some (.slice h.nx 0 2 (.exact 2),h.new (oS2 a b)):=by
 have e:zO zB 63 2 [(0,.str a),(1,.str b)] h=(match (cond (Nat.blt h.nx T.top) (some (h.nx,h.new (oS2 a b))) none:Option (Nat×H))with|some (b,h')=>some (.slice b 0 2 (.exact 2),h')|none=>none):=de
 rw[(zW _ _).2 c,oN]at e;exact e
theorem _root_.Go.Sim.Vw.roundF{S:Nat->Prop}{hb:H}{c c' il lp df d a:Nat}{tm:Tm}{f body:Code}{x y:V}{l:Kn}(w:Vw S hb h c L)(m:L[il]? = some (lp,.loop .ready none n tm #[d,a] f body df))(t:h.nx<=T.top)(D:Has tm l)(hp:(Nat.blt d n && Nat.blt a n && Nat.blt d 511 && Nat.blt a 511 && !(Nat.beq d a) && (l.all λp=>!(Nat.beq p.1 d)) && (l.all λp=>!(Nat.beq p.1 a)))=true)(E:∀j,Has j ((d,x)::(a,y)::l)->wpC P zB true (jm f) ⟨n,j,[],h⟩ λe s1=>e = .normal/\s1.n=n/\s1.dfr=[]/\s1.heap=h /\
   ∀h1,Vw S hb h1 c (L.set il (lp,.loop .busy none n tm #[d,a] f body df))->h1.nx=h.nx->(∀b,b≠lp->h1.get b=h.get b)->wpC P zB true (jm body) ⟨n,s1.tm,[],h1⟩ λe2 g=>e2 = .normal/\g.dfr=[]/\∃L',Vw S hb g.heap c' L'/\g.heap.nx<=T.top/\L'[il]? = some (lp,.loop .busy none n tm #[d,a] f body df) /\
    ∀h',Vw S hb h' c' (L'.set il (lp,.loop .ready none n tm #[d,a] f body df))->h'.nx=g.heap.nx->(∀b,b≠lp->h'.get b=g.heap.get b)->Q (.bool true) h'):RR P lp [x,y] h Q:=by
 simp only[oI,Bool.not_eq_true']at hp;obtain⟨⟨⟨⟨⟨⟨F,G⟩,u⟩,o⟩,z⟩,I⟩,J⟩:=hp;have hl:lp<T.top:=oL (w.lt il m) t;have hs:xX (#[d,a]:Array Nat).toList [x,y] n tm=some (Tb.set (Tb.set tm d x) a y):=by show cond (Nat.blt d n) (cond (Nat.blt a n) (some (Tb.set (Tb.set tm d x) a y)) none) none=_;rw[F,G];rfl
 have q:Has (Tb.set (Tb.set tm d x) a y) ((d,x)::(a,y)::l):=by
  refine⟨?_,Has.self o,qM o (qM u D I) J⟩;rw[xB _ _ _ _ (show a<Tb.top from(zW _ _).1 o),if_neg (λe=>?_)]
  .exact Has.self u
  have e:d=a:=e;rw[e]at z;simp at z
 refine RR.intro hl (w.get il m) hs (RC.of_wp xf f (kF _ (λe s1 h1=>?_) (E _ q)));obtain⟨K,n1,d1,k,A⟩:=h1;obtain⟨sn,st,O,sh⟩:=s1;simp only at n1 d1 k A;subst n1 d1 k;refine⟨K,_,_,_,_,_,_,_,w.get il m,RC.of_wp xf body (kF _ (λe g h2=>?_) (A _ (w.upd il m t) rfl λb hb=>zL _ hl hb))⟩;obtain⟨rfl,d2,L',B,M,C,N⟩:=h2;have r:lp<T.top:=hl;show(match yZ lp .normal g with|some (.ret v h')=>Q v h'|_=>False);simp only[yZ,d2,B.get il C];exact N _ (B.upd il C M) rfl λb hb=>zL _ r hb
abbrev IX(st:LoopState)(tm:Tm)(df:Nat):O:=.loop st none 63 tm #[32,33] Al zAY df
abbrev Lu(pa ps b c d e p0 n:Nat)(a:Ua)(vst vhd v:V):List (Nat×O):=[(pa,.cells (.ls (PG n)) ⟨0,177,0⟩ true false),(ps,Xa a),(b,C1 vst),(c,C1 vhd),(d,.cells (.ls [.int .i64 0]) ⟨0,25,0⟩ true false),(e,Xa []),(p0,.cells (.ls [v]) ⟨0,24,0⟩ true false)]
def Kk(l:Ub)(s:Ua)(i:Nat):List Ua:=(List.range i).map λj=>Z5 l (yI s j)
def uu(l:Ub)(s:Ua)(i:Nat):List Ua:=(List.range i).map λj=>le (Z5 l (yI s j)).length 2
theorem TF(l:Ub)(s:Ua)(i:Nat):Kk l s (i+1)=Kk l s i++[Z5 l (yI s i)]:=by unfold Kk;rw[List.range_succ,List.map_append];rfl
theorem Vf(l:Ub)(s:Ua)(i:Nat):uu l s (i+1)=uu l s i++[le (Z5 l (yI s i)).length 2]:=by unfold uu;rw[List.range_succ,List.map_append];rfl
theorem Db(l:Ub)(s:Ua):(uu l s 3).flatten++(Kk l s 4).flatten=um l s:=by simp only[Vf,TF,rL];rfl
structure B4 (hb h:H) (L:List (Nat×O)) (l:Ub) (s:Ua) (i:Nat) (vst vhd:V):Prop where
 st:Ow h vst tS i (nR (Kk l s i))
 hd:Ow h vhd tS (min i 3) (nR (uu l s (min i 3)))
 ss:Sep zH hb.nx L vst
 sh:Sep zH hb.nx L vhd
 dj:∀b,z6 vst=some b->z6 vhd≠some b
theorem B4.keep{hb h':H}{L':List (Nat×O)}{vst vhd:V}(g:B4 hb h L l s i vst vhd)(c:h.nx<=h'.nx)(d:∀q∈L',∃f∈L,f.1=q.1)(e:∀b,b<h.nx->(∀q∈L,q.1≠b)->h'.get b=h.get b):B4 hb h' L' l s i vst vhd :=
 ⟨g.st.keep c λb hb=>e b (g.st.blk hb) λq a=>(g.ss b hb).2 q a,g.hd.keep c λb hb=>e b (g.hd.blk hb) λq a=>(g.sh b hb).2 q a,Sep.less g.ss d,Sep.less g.sh d,g.dj⟩
theorem keys{L':List (Nat×O)}(e:L'.map Prod.fst=L.map Prod.fst):∀q∈L',∃a∈L,a.1=q.1:=λq b=>by have:=List.mem_map_of_mem (f:=Prod.fst) b;rw[e]at this;obtain⟨a,c,h2⟩:=List.mem_map.1 this;exact⟨a,c,h2⟩
theorem Wi{hb:H}{c lp df pa ps f j r t p0:Nat}{a:Ua}{tm:Tm}{v vst vhd:V}(w:Vw zH hb h c ((lp,IX .ready tm df)::(df,.deferred true)::Lu pa ps f j r t p0 s.length a vst vhd v))(g:B4 hb h ((lp,IX .ready tm df)::(df,.deferred true)::Lu pa ps f j r t p0 s.length a vst vhd v) l s i vst vhd)(sl:Sl hb v 1 l.length (zI l))(hg:yk l)(G:Tx l s)(h6:6<=s.length)(hs:s.length<=1000)(hi:i<4)(ht:Has tm [(2,.ptr p0 0),(4,.ptr t 0),(5,.ptr r 0),(7,.ptr j 0),(8,.ptr f 0)])(hn:h.nx+4000<=T.top)(I:hb.low<=T.top)(hq:∀h' u y,Vw zH hb h' (c+4) ((lp,IX .ready tm df)::(df,.deferred true)::Lu pa ps f j r t p0 s.length a u y v)->B4 hb h' ((lp,IX .ready tm df)::(df,.deferred true)::Lu pa ps f j r t p0 s.length a u y v) l s (i+1) u y->h'.nx<=h.nx+4->Q (.bool true) h'):
  RR P lp [.int .i64 (i:Nat),.str (yI s i)] h Q:=by
 have hpl:=Xc h6 hi;have hpm:K1 s.length i<=s.length:=by unfold K1;split<;>omega
 have hwl:=KR hg (G.part i);refine w.roundF (il:=0) (c':=c+4) rfl dd ht rfl λtm0 O=>?_
 refine cg Tt O (λtm1 R=>⟨rfl,rfl,rfl,rfl,λN J n1 k1=>?_⟩);have q:=g.keep (h':=N) (L':=(lp,IX .busy tm df)::(df,.deferred true)::Lu pa ps f j r t p0 s.length a vst vhd v) dd (keys rfl) λb _ hb=>k1 b λe=>hb _ (List.mem_cons_self ..) e.symm
 have l1:N.low<=T.top:=oS J.low I;have fin:∀h2 d S (m:Tm) (Q2:Ud),S<=c+2->Vw zH hb h2 S ((lp,IX .busy tm df)::(df,.deferred true)::Lu pa ps f j r t p0 s.length a vst d v)->Ow h2 vst tS i (nR (Kk l s i))->Ow h2 d tS (min (i+1) 3) (nR (uu l s (min (i+1) 3)))->Sep zH hb.nx ((lp,IX .busy tm df)::(df,.deferred true)::Lu pa ps f j r t p0 s.length a vst d v) vst->Sep zH hb.nx ((lp,IX .busy tm df)::(df,.deferred true)::Lu pa ps f j r t p0 s.length a vst d v) d->(∀b,z6 vst=some b->z6 d≠some b)->h2.nx<=h.nx+2 ->
   Has m [(8,.ptr f 0),(11,.str (Z5 l (yI s i)))]->(∀C D z,Vw zH hb C (c+4) ((lp,IX .busy tm df)::(df,.deferred true)::Lu pa ps f j r t p0 s.length a z d v)->B4 hb C ((lp,IX .busy tm df)::(df,.deferred true)::Lu pa ps f j r t p0 s.length a z d v) l s (i+1) z d->C.nx<=h.nx+4->Q2 .normal ⟨63,D,[],C⟩)->Wt Tt (jm zBR) ⟨63,m,[],h2⟩ Q2:=by
  intro h2 d S m Q2 hc w2 os U ss sh dj hnx A k;obtain⟨v4,h5,v6,h7,C,a1,a2,a3,a4,W,X,E,Y,b2,Z,b4⟩:=WY (x:=Z5 l (yI s i)) w2 (i:=4) rfl os ss dd dd;refine sg A ⟨_,a1,_,_,a2,trivial,_,_,a3,_,a4,λD hs3=>k C D v6 (W.more dd) ⟨by rw[TF];exact X,U.keep Y λb hb=>?_,E,Sep.set (i:=4) (p:=f) (o:=C1 vst) sh rfl,λb hb e=>?_⟩ dd⟩
  .exact b4 b (U.blk hb) (λe=>(sh b hb).2 (f,C1 vst) (by simp) e.symm) λe=>dj b e hb
  have:=Z b hb;have:=U.blk e;omega
 refine cg Tt R ⟨_,J.ld1 8 rfl zM rfl,pR (sl.ext J.ex0) hg (G.part i) dd dd l1 ⟨_,rfl,λc3=>⟨λc4=>absurd (show(65535:Int)<((Z5 l (yI s i)).length:Int)from c4) dd,λ_=>?_⟩,λc3=>λm A=>?_⟩⟩
 .have hi3:i<3:=dd
  show RF P zB 202 [.int .u64 (yD .u64 ((Z5 l (yI s i)).length:Nat)),.int .i64 (2:Nat)] N _;rw[zV dd];refine vC (k:=2) ⟨dg,dg⟩ dd ⟨_,_,rfl,?_⟩;obtain⟨v4,h5,v6,h7,C,a1,a2,a3,a4,W,X,E,Y,b2,Z,b4⟩:=WY (x:=le (Z5 l (yI s i)).length 2) J (i:=5) rfl q.hd q.sh dd dd;refine⟨_,a1,_,_,a2,trivial,_,_,a3,_,a4,λm A=>?_⟩;refine fin C v6 (c+2) m _ (oR _) W (q.st.keep Y λb hb=>b4 b (q.st.blk hb) (λe=>(q.ss b hb).2 (j,C1 vhd) (by simp) e.symm) λe=>q.dj b hb e) ?_ (Sep.set (i:=5) (p:=j) (o:=C1 vhd) q.ss rfl) E (λb hb e=>by have:=Z b e;have:=q.st.blk hb;omega) dd (A.sub de) λB F K w9 g9 n9=>?_
  .rw[show min (i+1) 3=min i 3+1 by omega,Vf,show min i 3=i by omega]at *;exact X
  show yL Tt _ (exitB 1 .normal) ⟨63,F,[],B⟩;refine Has.nil.slt λtm4 _=>⟨rfl,rfl,_,w9,by show B.nx<=_;omega,rfl,λh' w' M k'=>hq h' _ _ w' (g9.keep (by show B.nx<=h'.nx;have:h'.nx=B.nx:=M;omega) (keys rfl) λb _ hb=>k' b λe=>hb _ (List.mem_cons_self ..) e.symm) (by have:h'.nx=B.nx:=M;omega)⟩
 have hi3:i=3:=dd
 refine fin N vhd c m _ dd J q.st (by rw[show min (i+1) 3=min i 3 by omega];exact q.hd) q.ss q.sh q.dj dd (A.sub de) λB F K w9 g9 n9=>?_
 show yL Tt _ (exitB 1 .normal) ⟨63,F,[],B⟩;refine Has.nil.slt λtm4 _=>⟨rfl,rfl,_,w9,by show B.nx<=_;omega,rfl,λh' w' M k'=>hq h' _ _ w' (g9.keep (by show B.nx<=h'.nx;have:h'.nx=B.nx:=M;omega) (keys rfl) λb _ hb=>k' b λe=>hb _ (List.mem_cons_self ..) e.symm) (by have:h'.nx=B.nx:=M;omega)⟩
theorem Q5{xs:List Ua}{m:Nat}(h:∀x∈xs,x.length<=m):xs.flatten.length<=m*xs.length:=by
 induction xs with
 | nil=>simp
 | cons x xs ih =>
  have b:=h x (List.mem_cons_self ..);have h2:=ih λy a=>h y (oJ _ a)
  rw[List.flatten_cons,oW,oc,Nat.mul_succ];omega
theorem Gt(s:Ua)(i:Nat):(yI s i).length<=s.length:=by unfold yI zS;rw[List.length_take,List.length_drop];omega
theorem cU(l:Ub)(s:Ua)(i:Nat):(Kk l s i).length=i:=by simp[Kk]
theorem lL(l:Ub)(s:Ua)(i:Nat):(uu l s i).length=i:=by simp[uu]
theorem Hm{v:V}{l:Ub}{s:Ua}{h:H}{Q:Uc}(sl:Sl h v 1 l.length (zI l))(hg:yk l)(h6:6<=s.length)(hs:s.length<=1000)(hn:h.nx+6000<=T.top)(y:h.low<=T.top)(hq:Q (if tH l s=true then .tuple [.str (um l s),.int .i64 0] else .tuple [.str [],.int .i64 7]) h):RF P zB 271 [v,.str s] h Q:=by
 refine RF.forget (n:=100) (v:=if tH l s=true then .tuple [.str (um l s),.int .i64 0] else .tuple [.str [],.int .i64 7]) ?_ (by split<;>exact Z0 (yR _) (zN _ _)) hq;clear hq;refine zh Tt zEg ⟨rZ sl,dd,?_⟩;rintro p0 G rfl e1;have w1:=(Vw.nil (S:=zH) (h:=h)).new e1 dd;have n1:G.nx=h.nx+1:=by rw[e1,zC]
 refine⟨rfl,dd,?_⟩;rintro p2 h3 rfl e3;have w3:=w1.new e3 dd;have n3:h3.nx=G.nx+1:=by rw[e3,zC]
 refine⟨rfl,dd,?_⟩;rintro p4 I rfl e5;have J:=w3.new e5 dd;have n5:I.nx=h3.nx+1:=by rw[e5,zC]
 have l5:=J.low;refine⟨_,J.ld1 2 rfl zM rfl,TW (sl.ext J.ex0) hg dd ?_⟩;by_cases e:tH l s=true
 .rw[if_pos e,if_pos e];have K:=uL hg e;refine⟨_,rfl,λ_=>⟨λc=>absurd (show(s.length:Int)<6 from c) dd,λ_=>λtm z=>?_⟩,λc=>absurd rfl c⟩;refine sg z ⟨λc=>absurd rfl c,λ_=>⟨rfl,dd,?_⟩⟩;rintro p7 A rfl e7;have M:=J.new e7 dd;have n7:A.nx=I.nx+1:=by rw[e7,zC]
  refine⟨rfl,dd,?_⟩;rintro p8 B rfl e9;have w9:=M.new e9 dd;have n9:B.nx=A.nx+1:=by rw[e9,zC]
  refine WM h6 dd ⟨_,_,_,_,rfl,zh zCP Bl ⟨rfl,dd,?_⟩⟩;rintro ps m rfl N;have w11:=w9.new N dd;have n11:m.nx=B.nx+1:=by rw[N,zC]
  refine⟨dd,?_⟩;rintro pa d rfl O;have w13:=w11.new O dd;have n13:d.nx=m.nx+1:=by rw[O,zC]
  refine⟨_,rfl,λq C=>?_⟩;refine Vw.range (s:=⟨63,q,[],d⟩) w13 (captured:=[.ptr m.nx 0,.ptr B.nx 0]) (show yt q (t 31)=_ from congrArg some (C.get rfl)) (by show d.nx+2<=_;omega) λR U W=>?_
  replace W:R.nx=d.nx+2:=W;refine HZ (s:=s) (λk h'=>∃vst vhd,h'.nx<=R.nx+4*k/\Vw zH h h' (9+4*k) ((d.nx+1,IX .ready q d.nx)::(d.nx,.deferred true)::Lu m.nx B.nx A.nx I.nx h3.nx G.nx h.nx s.length (s.drop (zP s.length k)) vst vhd v) /\
   B4 h h' ((d.nx+1,IX .ready q d.nx)::(d.nx,.deferred true)::Lu m.nx B.nx A.nx I.nx h3.nx G.nx h.nx s.length (s.drop (zP s.length k)) vst vhd v) l s k vst vhd) h6
   ⟨.nilslice,.nilslice,dd,by rw[show zP s.length 0=0 by simp[zP],List.drop_zero];exact U,Ow.nil _ _,Ow.nil _ _,λb hb=>(by cases hb),λb hb=>(by cases hb),λb hb=>(by cases hb)⟩
   (U.ldA 2 rfl fQ rfl) (λk h' i=>by obtain⟨_,_,_,w',_⟩:=i;exact w'.ld1 3 rfl xk rfl) (λk h' hk i=>?_) λh' i=>?_
  .obtain⟨vst,vhd,nx,w',g⟩:=i;refine Wi w' g sl hg K h6 hs hk (C.sub de) dd y λh2 X Y w2 g2 n2=>⟨rfl,w2.ld1 3 rfl xk rfl,?_⟩
   obtain⟨h4,e4,w4,n4,k4⟩:=w2.st (cx:=zB) 3 (t:=9) (f:=0) (u:=.str (s.drop (zP s.length (k+1)))) (cs':=.ls [.str (s.drop (zP s.length (k+1)))]) rfl dd xk rfl;exact⟨h4,e4,X,Y,dd,w4.more dd,g2.keep dd (keys rfl) λb _ hb=>k4 b λe=>hb (B.nx,Xa (s.drop (zP s.length k))) (by simp) e.symm⟩
  obtain⟨vst,vhd,nx,w',g⟩:=i;refine⟨_,_,w',dd,λa o r n19 k19=>?_⟩;have p:=g.keep (h':=a) (L':=(d.nx+1,o)::(d.nx,.deferred true)::Lu m.nx B.nx A.nx I.nx h3.nx G.nx h.nx s.length (s.drop (zP s.length 4)) vst vhd v) dd (keys rfl) λb _ hb=>k19 b λe=>hb _ (List.mem_cons_self ..) e.symm
  have Z:a.low<=T.top:=oS r.low y;have sh:=p.hd.sl;have ss:=p.st.sl;have bl:∀x∈Kk l s 4,x.length<=2001:=λx hx=>by obtain⟨j,_,rfl⟩:=List.mem_map.1 hx;have:=KR hg (K.part j);have:=Gt s j;omega
  have bh:∀x∈uu l s 3,x.length<=2:=λx hx=>by obtain⟨j,_,rfl⟩:=List.mem_map.1 hx;exact Nat.le_of_eq (qr _ 2)
  have fl:=Q5 bl;have fh:=Q5 bh;rw[cU]at fl;rw[lL]at fh;have hne:vhd≠vst:=λe=>by
   obtain⟨_,⟨rfl,hz⟩|⟨b,cs,rfl,_⟩⟩:=p.hd
   .exact absurd hz dg
   exact p.dj b (by rw[<-e];rfl) rfl
  have v3:vhd≠.slice a.nx 0 2 (.exact 2):=λe=>by have:=p.hd.blk (b:=a.nx) (by rw[e];rfl);omega
  have v4:vst≠.slice a.nx 0 2 (.exact 2):=λe=>by have:=p.st.blk (b:=a.nx) (by rw[e];rfl);omega
  have sh':Sl (z8 a) vhd 1 (uu l s 3).length (nR (uu l s 3)):=by rw[lL];exact sh
  have ss':Sl a vst 1 (Kk l s 4).length (nR (Kk l s 4)):=by rw[cU];exact ss
  have f2 : [(uu l s 3).flatten,(Kk l s 4).flatten].flatten=(uu l s 3).flatten++(Kk l s 4).flatten:=by simp
  have g2:=DG (h:=a) (uu l s 3).flatten (Kk l s 4).flatten dd;have D:=r.new (h':=a.new (oS2 (uu l s 3).flatten (Kk l s 4).flatten)) rfl dd;have n20:(a.new (oS2 (uu l s 3).flatten (Kk l s 4).flatten)).nx=a.nx+1:=zC _ _;have s2:Sl (a.new (oS2 (uu l s 3).flatten (Kk l s 4).flatten)) (.slice a.nx 0 2 (.exact 2)) 1 [(uu l s 3).flatten,(Kk l s 4).flatten].length (nR [(uu l s 3).flatten,(Kk l s 4).flatten]):=⟨rfl,.inr ⟨a.nx,0,_,_,_,_,_,rfl,by rw[n20];omega,D.get 0 rfl,λi hi=>by
   rcases i with _|_|i
   .rfl
   .rfl
   exact absurd hi (by show ¬i+1+1<2*1;omega)⟩⟩
  generalize a.new (oS2 (uu l s 3).flatten (Kk l s 4).flatten)=h20 at D n20 s2 g2;obtain⟨h22,e22,w22,n22,_⟩:=D.st (cx:=zB) 8 (t:=9) (f:=0) (u:=.str ((uu l s 3).flatten++(Kk l s 4).flatten)) rfl dd xk rfl;obtain⟨h23,e23,w,n23,_⟩:=w22.st (cx:=zB) 7 (t:=24) (f:=0) (u:=.int .i64 0) rfl dd kK rfl;replace w:=w.drop 1;refine sg (live:=Tt) C ⟨⟨dd,Z⟩,_,r.ld1 5 rfl rv rfl,rR sh' (by rw[lL];decide) ⟨_,rfl,nd dd Z ⟨_,r.ld1 4 rfl rv rfl,rR ss' (by rw[cU];decide) ⟨_,rfl,λe _=>absurd (List.cons.inj e).1 hne,_,h20,g2,rR s2 (by show 2<=100;omega) ⟨_,rfl,λe _=>absurd (List.cons.inj e).1 v4,λe _=>absurd (List.cons.inj e).1 v3,h22,by rw[f2];exact e22,h23,e23,λtm3 hs3=>hs3.slt λtm5 hs5=>?_⟩ (by rw[f2,oW];omega)⟩⟩⟩⟩;rw[Db]at w;show Kr [.coll d.nx] h23 _;refine w.ends (i:=1) rfl dd λE F n24 _=>?_
  have el:leave zB [.cell 4 9,.cell 5 24] tm5 E [.cell 4 9,.cell 5 24] []=some [V.str (um l s),.int .i64 0]:=leave.cell (hs5.get (t:=4) rfl) (F.ld1 7 rfl xk rfl) (leave.cell (hs5.get (t:=5) rfl) (F.ld1 6 rfl kK rfl) rfl);show(match leave zB [.cell 4 9,.cell 5 24] tm5 E [.cell 4 9,.cell 5 24] []with|some vs=>(λv' h'=>v'=V.tuple [.str (um l s),.int .i64 0]/\Ext h h' 100) (yC vs) E|none=>False);rw[el];exact⟨rfl,F.ex0.mono dd⟩
 rw[if_neg e,if_neg e];refine⟨_,rfl,λc=>absurd c dg,λ_=>λtm z=>?_⟩;refine sg z ⟨λ_=>?_,λc=>absurd (show(7:Int)≠0 by decide) c⟩;obtain⟨h6',e6,w6,n6,_⟩:=J.st (cx:=zB) 1 (t:=9) (f:=0) (u:=.str []) rfl dd xk rfl;obtain⟨A,e7,M,n7,_⟩:=w6.st (cx:=zB) 0 (t:=24) (f:=0) (u:=.int .i64 7) rfl dd kK rfl;refine⟨h6',e6,A,e7,λtm2 hs2=>?_⟩;exact endW.ok (leave.cell (hs2.get (t:=4) rfl) (M.ld1 1 rfl xk rfl) (leave.cell (hs2.get (t:=5) rfl) (M.ld1 0 rfl kK rfl) rfl)) ⟨rfl,M.ex0.mono dd⟩
def xJ(l:Ub)(s:Ua):Ua:=if 256<=s.length then um l s else Z5 l s
def Fh(l:Ub)(s:Ua):V:=if tH l s=true then .tuple [.str (xJ l s),.bool true] else .tuple [.str [],.bool false]
theorem uG{v:V}(sl:Sl h v 1 l.length (zI l))(k:yk l)(hs:s.length<=1000)(m:h.nx+6000<=T.top)(d:h.low<=T.top)(b:Q (Fh l s) h):RF P zB 206 [v,.str s] h Q:=by
 refine zh zHX zED ⟨λc=>?_,λc=>?_⟩
 .have hl:256<=s.length:=by have:(256:Int)<=(s.length:Int):=c;omega
  refine λtm f=>sg f (RF.mono (Q:=λr j=>r=(if tH l s=true then .tuple [.str (xJ l s),.int .i64 0] else .tuple [.str [],.int .i64 7])/\j=h) (Hm sl k dd hs dd d ⟨by unfold xJ;rw[if_pos hl],rfl⟩) ?_)
  rintro r j ⟨rfl,rfl⟩;unfold Fh at b;by_cases e:tH l s=true
  .rw[if_pos e]at b ⊢;exact⟨_,_,rfl,λ_=>λg a=>endW.r2 (a.get rfl) (a.get rfl) b,λc=>absurd rfl c⟩
  rw[if_neg e]at b ⊢;exact⟨_,_,rfl,λc=>absurd c dg,λ_=>λg a=>endW.r2 (a.get rfl) (a.get rfl) b⟩
 have hl:¬256<=s.length:=by have:¬(256:Int)<=(s.length:Int):=c;omega
 refine λtm f=>sg f (RF.mono (Q:=λr j=>r=(if tH l s=true then .tuple [.str (xJ l s),.int .i64 0] else .tuple [.str [],.int .i64 7])/\j=h) (N6 sl k dd dd d ⟨by unfold xJ;rw[if_neg hl],rfl⟩) ?_)
 rintro r j ⟨rfl,rfl⟩;unfold Fh at b;by_cases e:tH l s=true
 .rw[if_pos e]at b ⊢;exact⟨_,_,rfl,λ_=>λg a=>endW.r2 (a.get rfl) (a.get rfl) b,λc=>absurd rfl c⟩
 rw[if_neg e]at b ⊢;exact⟨_,_,rfl,λc=>absurd c dg,λ_=>λg a=>endW.r2 (a.get rfl) (a.get rfl) b⟩
theorem GK{k m:Nat}(f:k<4)(g:n<=131072)(hm:m<=131072)(h2:k<2->m=0)(b:Q (.tuple [.str (ZU k n m 4),.int .i64 (if 0<wR k n m 4 then 0 else 2)]) h):RF P zB 73 [.int .i64 k,.int .i64 n,.int .i64 m] h Q:=by
 refine zh L73 zFi ⟨λc=>absurd c dd,λ_=>⟨λc=>absurd c dd,λ_=>⟨λc=>absurd c dd,λ_=>⟨λc=>absurd c dd,λ_=>⟨λc=>absurd c dd,λ_=>⟨λc=>absurd c dd,λ_=>⟨λj=>⟨λc=>absurd c dd,λ_=>λtm hs=>?_⟩,λj=>λtm hs=>?_⟩⟩⟩⟩⟩⟩⟩;all_goals
  refine sg hs (Ys f g hm h2 ⟨_,_,rfl,λc=>λd a=>endW.r2 (a.get rfl) (a.get rfl) ?_,λc=>λd a=>endW.r2 (a.get rfl) (a.get rfl) ?_⟩)
  .rw[if_pos (of_decide_eq_true c)]at b;exact b
  rw[if_neg (of_decide_eq_false c)]at b;have:ZU k n m 4=[]:=by have e:=XZ.1 (show wR k n m 4=0 by have:=of_decide_eq_false c;omega);unfold ZU;rw[e]
  rw[this]at b;exact b
theorem GJ(a:Q (.tuple [.str [],.int .i64 2]) h):RF P zB 73 [.int .i64 0,.int .i64 5,.int .i64 1] h Q :=
 zh L73 zFi ⟨λ_=>a,λ_=>⟨λ_=>a,λ_=>⟨λ_=>a,λ_=>⟨λ_=>a,λ_=>⟨λ_=>a,λ_=>⟨λ_=>a,λ_=>⟨λ_=>⟨λ_=>a,λc=>absurd (show(1:Int)≠0 by decide) c⟩,λc=>absurd dg c⟩⟩⟩⟩⟩⟩⟩
def X8(k n m:Nat):Ua:=ZU k n m 4
theorem J0{k m:Nat}(b:k<4)(c:n<=131072)(hm:m<=131072)(h2:k<2->m=0)(d:2<=k->n<256->m<1024):0<wR k n m 4/\∃i,i<4/\¬(k<2/\i=2)/\xI k i n m/\X8 k n m=le (xN k i n m) (fw k i):=by obtain⟨i,e,hi,a,f⟩:=Do b c hm h2 d;rw[<-ak b c hm h2]at e;obtain⟨g,j⟩:=Zb e;have:=uq k i;exact⟨dd,i,hi,a,f,g⟩
def VX(ρ ρ':Env)(k b:Nat):Env:={ blk:=λi=>if i=k then ρ'.blk b else ρ.blk i,off:=λi=>if i=k then ρ'.off b else ρ.off i,cap:=λi=>if i=k then ρ'.cap b else ρ.cap i }
theorem _root_.Go.Sim.SimF.det{P:Program}{f b m b1:Nat}{xs:Ug}{h1:H}{cs t:Cs}{k:Rk}{w op:Bool}{e:V}(K:h.get b=some (.cells cs k w op))(hc:∀i,i<n->cs.get? i=xs[i]?)(hl:xs.length=n)(M:∀x∈xs,Plain x)(hn:h.nx<T.top)(g1:h1.get b1=some (yV t))(F:1<=b1)(G:b1<h1.nx)(hp:∀i v,t.get? i=some v->Plain v)(N:Plain e)(s:SimF P f [.slice 0 0 n (.exact n)] (S5 xs) (.ret (.tuple [.slice b1 0 m (.exact m),e]) h1)):
  SimF P f [.slice b 0 n (.exact n)] h (.ret (.tuple [.slice h.nx 0 m (.exact m),e]) (h.new (yV t))):=by
 intro ρ D I u O;have R:D b:=by have:=O _ (List.mem_singleton.2 rfl);simpa [V.In]using this
 obtain⟨c,e',fz,hb,B,_,_⟩:=u.rel b _ R K;have S:HR (pK (ρ.blk b) (ρ.off b)) (λi=>i=0) (S5 xs) I:=by
  refine B2 hb (λi v q=>?_) (λv q=>((M v q).1 _).trans ((M v q).1 _).symm) λv q=>(M v q).2 _
  have hi:i<n:=by have:=(List.getElem?_eq_some_iff.1 q).1;omega
  have:=B i v (by rw[hc i hi];exact q)
  rwa [(M v (List.mem_of_getElem? q)).1 ρ]at this
 have h2:=s _ _ I S (by simp[V.In]);rw[show[V.slice 0 0 n (.exact n)].map (V.conc (pK (ρ.blk b) (ρ.off b)))=[V.slice b 0 n (.exact n)].map (V.conc ρ)by simp[V.conc,pK,Cap.val]]at h2;refine CallsIn.mono h2 ?_;rintro x w' ⟨ρ',rfl,C,r,_⟩;have Z:∀r,r<I.heap.size->w'.heap[r]? = I.heap[r]?:=λk hk=>C.frame k hk λj ob hj K hw=>by subst hj;rw[X7]at K;cases K;cases hw
 have U:I.heap.size<=ρ'.blk b1:=(C.img b1 _ (by rw[xq];exact F) G g1).2.resolve_right λ⟨j,o,dj,z,wj,_⟩=>by have dj:j=0:=dj;subst dj;rw[X7]at z;cases z;cases wj
 have p:Agree D ρ (VX ρ ρ' h.nx b1):=λid hd=>by have:=u.lt id hd;simp[VX,show id≠h.nx by omega]
 have A:(VX ρ ρ' h.nx b1).blk h.nx=ρ'.blk b1/\(VX ρ ρ' h.nx b1).off h.nx=ρ'.off b1/\(VX ρ ρ' h.nx b1).cap h.nx=ρ'.cap b1:=by simp[VX]
 have g:∀id,Dx D h (h.new (yV t)) id->id=h.nx\/(D id/\id≠h.nx):=by
  rintro id (d|d)
  .exact .inr ⟨d,λe=>by have:=u.lt _ d;omega⟩
  rw[zC]at d;exact .inl dd
 have get:∀j,(h.new (yV t)).get j=if j=h.nx then some (yV t) else h.get j:=λj=>H.get_new _ _ _ hn
 refine⟨VX ρ ρ' h.nx b1,?_,⟨by rw[zC];omega,C.size,C.os,C.tape,C.output,p,λid o' W a=>?_,λid o' ha X a=>?_,λr hr _=>Z r hr,oR _,λid W _=>?_⟩,⟨by rw[zC];omega,λid d=>?_,λid o d a=>?_,λi j oi oj E dj J z wi y=>?_⟩,?_⟩
 .simp[V.conc,V.concL,Cap.val,A,(N.1 ρ').trans (N.1 (VX ρ ρ' h.nx b1)).symm]
 .rw[get,if_neg dd]at a;exact⟨o',a,rfl⟩
 .rw[zC]at X;have:id=h.nx:=dd
  subst this;rw[get,if_pos rfl]at a;cases a;exact⟨rfl,.inl (by rw[A.1];exact U)⟩
 .rw[get,if_neg dd]
 .rw[zC];rcases g id d with rfl|⟨d,_⟩
  .omega
  have:=u.lt id d;omega
 .rw[get]at a;rcases g id d with rfl|⟨d1,Y⟩
  .rw[if_pos rfl]at a;cases a;obtain⟨c2,e2,f2,q1,q2,_,q4⟩:=r.rel b1 _ (.inr ⟨by rw[xq];exact F,G⟩) g1;rw[A.1,q1];exact⟨c2,e2,f2,rfl,λi v q=>by rw[A.2.1,(hp i v q).1,<-(hp i v q).1 ρ'];exact q2 i v q,λi v q=>(hp i v q).2 _,by rw[A.2.1,A.2.2];exact q4⟩
  rw[if_neg Y]at a;rw[(p id d1).1,Z _ (u.lt_size d1 a)];exact(u.rel id o d1 a).agree d1 wm p
 .rw[get]at J z;rcases g i E with rfl|⟨E,ni⟩<;>rcases g j dj with rfl|⟨dj,nj⟩
  .rfl
  .rw[if_neg nj]at z;have:=u.lt_size dj z;rw[A.1,(p j dj).1]at y;omega
  .rw[if_neg ni]at J;have:=u.lt_size E J;rw[A.1,(p i E).1]at y;omega
  rw[if_neg ni]at J;rw[if_neg nj]at z;rw[(p i E).1,(p j dj).1]at y;exact u.inj i j oi oj E dj J z wi y
 simp only[V.In,V.InL];exact⟨.inr ⟨oR _,by rw[zC];omega⟩,N.2 _,trivial⟩
theorem rV(own:Ub):∃t:HT,GL own->own.length=256->Good own t/\t.hgt<=11/\∀{b:Nat}{h:H}{Q:Uc},Sl h (.slice b 0 256 (.exact 256)) 1 256 (zI own)->h.nx<T.top ->
  (∀h' cs,Ext h h' 1->h'.nx=h.nx+1->h'.get h.nx=some (yV cs)->Row cs 256 (zI (jl own t))->Q (.tuple [.slice h.nx 0 256 (.exact 256),.int .i64 0]) h')->RF P zB 55 [.slice b 0 256 (.exact 256)] h Q:=by
 by_cases c:GL own/\own.length=256
 .obtain⟨g,e⟩:=c;have a:(zI own).length=256:=by rw[jU,e]
  obtain⟨v',z,⟨j,s⟩,t,gd,m,w,rfl,A,cs,rfl,d1,d2,d3,d4⟩:=GQ (v:=.slice 0 0 256 (.exact 256)) (own:=own) (h:=S5 (zI own)) (Q:=λv h'=>∃t,Good own t/\t.hgt<=11/\∃w,v = .tuple [w,.int .i64 0]/\Dep own (S5 (zI own)) h' w t) (by rw[e];exact Fa (by rw[a])) g (by rw[xq];decide) (by rw[Qb];exact oR _) λh' w t _ gd o p=>⟨t,gd,o,w,rfl,p⟩
  rw[xq]at d1;rw[e]at d4 s;refine⟨t,λ_ _=>⟨gd,m,λ{b h Q} sl d q=>?_⟩⟩;obtain⟨_,⟨r,_⟩|⟨B,o',C,u,k,w,op,x,hb,hgt,y⟩⟩:=sl
  .cases r
  cases x;refine⟨_,_,⟨j,SimF.det hgt (λi hi=>by have:=y i dd;rwa [Nat.zero_add]at this) a (Go.Sim.plain_ints own) d d3 d1 d2 (λi v f=>?_) (zN _ _) s⟩,q (h.new (yV cs)) cs (Ext.new _ d) (zC _ _) (zK _ d) d4⟩;by_cases hi:i<256
  .rw[d4.2.2.2 i hi]at f;exact Go.Sim.plain_ints (jl own t) v (List.mem_of_getElem? f)
  have:=Cs.get_lt f;rw[d4.2.1]at this;exact absurd this hi
 exact⟨.leaf 1 0,λg e=>absurd ⟨g,e⟩ c⟩
def lT(own:Ub):HT:=Classical.choose (rV own)
def wV(s:Ua):Ub:=jl (jk s) (lT (jk s))
def yX(s:Ua):Ub:=xP (wV s)
theorem Zk(s:Ua):(wV s).length=256:=by unfold wV;rw[XB,xL]
theorem CO{l:Ub}{m:Nat}(h:∀x∈l,0<=x/\x<=(m:Int))(hm:m<=11):ym m l*2^(11-m)=ym 11 l:=by
 rw[qX m l 0 λx a=>(h x a).1,qX 11 l 0 λx a=>(h x a).1];have hr:∀p∈qQ 0 l,p.2.toNat<=m:=λp hp=>by obtain⟨k,_,_,b,_⟩:=XO hp;have:=(h _ (List.mem_of_getElem? b)).2;omega
 generalize qQ 0 l=z at hr;induction z with
 | nil=>simp
 | cons p z ih=>have d:=hr p (by simp);rw[List.map_cons,List.sum_cons,List.map_cons,List.sum_cons,Nat.add_mul,ih λq c=>hr q (by simp[c]),<-Nat.pow_add];congr 2;omega
theorem QK(h:rE l=0):yk l:=by
 unfold rE at h;split at h
 .cases h
 split at h
 .split at h
  .rename_i b h2 h3;have hm:=ZY h2;refine⟨dd,h2,h3.2.1,?_⟩;rw[<-CO (m:=yQ l) (λx a=>⟨(yq h2 a).1,ZX a⟩) hm,h3.2.2,<-Nat.pow_add,show yQ l+(11-yQ l)=11 by omega]
  cases h
 cases h
theorem zBn(b:UInt8)(s:Ua):Jr (b::s)=((b.toNat:Nat):Int)::Jr s:=rfl
theorem PW{b:UInt8}(h:b∈s):1<=zz (Jr s) b.toNat:=by
 unfold zz;refine List.length_pos_iff.2 λe=>?_
 have:=List.filter_eq_nil_iff.1 e ((b.toNat:Nat):Int) (List.mem_map_of_mem (f:=λb:UInt8=>((b.toNat:Nat):Int)) h);simp at this
theorem HN(hs:s.length<=1000):∀x∈jk s,0<=x/\x<=1000:=λx a=>by unfold jk JS at a;obtain⟨k,_,rfl⟩:=List.mem_map.1 a;have:=qR (Jr s) k;rw[oy]at this;omega
theorem QN(hs:s.length<=1000):GC (jk s):=⟨by rw[xL];decide,HN hs⟩
theorem Cx(h2:s≠[])(h:XM s=false):∃a∈s,∃b∈s,a≠b:=by
 rcases s with _|⟨a,s⟩
 .exact absurd rfl h2
 have:(s.all λc=>decide (c=a))=false:=h;rw[List.all_eq_false]at this;obtain⟨c,d,f⟩:=this;exact⟨a,List.mem_cons_self ..,c,oJ _ d,λe=>f (decide_eq_true e.symm)⟩
theorem QO(hs:s.length<=1000)(h2:s≠[])(h:XM s=false):GL (jk s):=by
 obtain⟨a,j,b,hb,d⟩:=Cx h2 h;have g:=QN hs;refine⟨g.len,g.rng,?_⟩;rw[cD (λx k=>(g.rng x k).1) _ (oR _),List.take_length];have at_:∀c∈s,(jk s)[c.toNat]?.getD 0≠0:=λc m=>by have:=PW m;rw[jA c.toNat_lt,Option.getD_some];omega
 have f:a.toNat≠b.toNat:=λe=>d (UInt8.toNat_inj.1 e)
 rcases Nat.lt_or_gt_of_ne f with c|c
 .exact sK c (at_ a j) (at_ b hb)
 exact sK c (at_ b hb) (at_ a j)
theorem HM(b:UInt8):cnt (jk [b])=1:=by
 have h:=b.toNat_lt;have e:jk [b]=(List.replicate 256 (0:Int)).set b.toNat 1:=by have:=Jz (n:=256) (l:=[]) (s:=b.toNat) h;rw[Yn]at this;exact this.symm
 have h2:=QP (jk [b]);rw[e,KK _ _ b.toNat 0 1 (by rw[List.getElem?_replicate,if_pos h]),KM _ rfl _ (λx a=>(List.mem_replicate.1 a).2)]at h2;rw[e];have:((cnt ((List.replicate 256 (0:Int)).set b.toNat 1):Nat):Int)=1:=h2;omega
theorem FA{own:Ub}{x:Int}:∀{k:Nat},i<k->own[i]? = some x->0<x->(i,x)∈pos own k
 | 0,h,_,_=>by cases h
 | k+1,h,e,a=>by
  rw[jY,List.mem_append];by_cases c:i=k
  .subst c;right;rw[e,Option.getD_some,if_pos a];exact List.mem_singleton.2 rfl
  exact .inl (FA dd e a)
theorem vA{s:Ua}(hs:s.length<=1000)(h2:s≠[])(h:XM s=false):rE (yX s)=0/\yk (yX s)/\Tx (yX s) s:=by
 have g:=QO hs h2 h;obtain⟨gd,v⟩:Good (jk s) (lT (jk s))/\(lT (jk s)).hgt<=11:=by obtain⟨a,b,_⟩:=Classical.choose_spec (rV (jk s)) g (xL _ _);exact⟨a,b⟩
 have r:rE (yX s)=0:=PY g.len gd v g.two;refine⟨r,QK r,λb hb=>?_⟩;have f:=b.toNat_lt;have u:=PW hb;have nd:(((lT (jk s)).lv 0).map (·.1)).Nodup:=by rw[Zm];exact gd.symm.nodup (vY _ _)
 have m:b.toNat∈((lT (jk s)).lv 0).map (·.1):=by rw[Zm];refine gd.mem_iff.2 ?_;have:(b.toNat,((zz (Jr s) b.toNat:Nat):Int))∈pos (jk s) (jk s).length:=FA (by rw[xL];exact f) (jA f) dd;exact List.mem_map.2 ⟨_,this,rfl⟩
 obtain⟨⟨q,d⟩,j,o⟩:=List.mem_map.1 m;have o:q=b.toNat:=o;subst o;have p:∀x∈(lT (jk s)).lv 0,x.1<(List.replicate (jk s).length (0:Int)).length:=λx j=>by have:x.1∈((lT (jk s)).lv 0).map (·.1):=List.mem_map.2 ⟨x,j,rfl⟩;rw[Zm]at this;obtain⟨y,w,e⟩:=List.mem_map.1 (gd.mem_iff.1 this);have:=(ra _ _ y w).1;rw[List.length_replicate];have e:y.1=x.1:=e;omega
 have k:(wV s)[b.toNat]? = some ((d:Nat):Int):=KC _ _ nd p _ j;have hd:1<=d:=by
  have hl:2<=(lT (jk s)).ls.length:=by have e:=gd.length_eq;rw[oy,oy]at e;rw[e];exact g.two
  generalize lT (jk s)=t at j hl;cases t with
  | leaf n s=>exact absurd hl (by show ¬2<=1;decide)
  | join n a c =>
   rcases List.mem_append.1 (show(b.toNat,d)∈a.lv (0+1)++c.lv (0+1)from j)with h|h
   .exact(KY a _ _ h).1
   exact(KY c _ _ h).1
 obtain⟨_,l2,_⟩:=gm (wV s) (wV s).length;refine⟨(d:Nat),?_,dd⟩;show((wV s).take (lz (wV s) (wV s).length+1))[b.toNat]? = _;rw[List.getElem?_take,if_pos ?_,k];by_cases c:lz (wV s) (wV s).length<b.toNat
 .have:=l2 b.toNat (by rw[Zk];exact f) c;rw[k,Option.getD_some]at this;omega
 omega
theorem _root_.Go.Sim.Vw.roundX{S : Nat -> Prop}{hb h : H}{c c' il il2 lp n df p1 p2 : Nat}{L : List (Nat × O)}{tm : Tm}{asg body : Code}{x y : V}{l : Kn}{Q : V -> H -> Prop}(w : Vw S hb h c L)(hL : L[il]? = some (lp, .loop .ready none n tm #[p1, p2] asg body df))(hn : h.nx <= T.top)(ht : Has tm l)(hp : (Nat.blt p1 n && Nat.blt p2 n && Nat.blt p1 511 && Nat.blt p2 511 && !(Nat.beq p1 p2) && (l.all λp => !(Nat.beq p.1 p1)) && (l.all λp => !(Nat.beq p.1 p2))) = true)(ha : ∀tm', Has tm' ((p1, x)::(p2, y)::l) -> wpC P zB true (jm asg) ⟨n, tm', [], h⟩ λe s1 => e = .normal /\ s1.n = n /\ s1.dfr = [] /\ ∃c1 L1, Vw S hb s1.heap c1 L1 /\ s1.heap.nx <= T.top /\ L1[il2]? = some (lp, .loop .ready none n tm #[p1, p2] asg body df) /\
      ∀h1, Vw S hb h1 c1 (L1.set il2 (lp, .loop .busy none n tm #[p1, p2] asg body df)) -> h1.nx = s1.heap.nx -> wpC P zB true (jm body) ⟨n, s1.tm, [], h1⟩ λe2 s2 => s2.dfr = [] /\ ∃L', Vw S hb s2.heap c' L' /\ s2.heap.nx <= T.top /\ L'[il2]? = some (lp, .loop .busy none n tm #[p1, p2] asg body df) /\
        ((e2 = .normal /\ ∀h', Vw S hb h' c' (L'.set il2 (lp, .loop .ready none n tm #[p1, p2] asg body df)) -> h'.nx = s2.heap.nx -> Q (.bool true) h') \/
          (∃id, e2 = .exit id /\ ∀h', Vw S hb h' c' (L'.set il2 (lp, .loop .done (some (.exit id)) n tm #[p1, p2] asg body df)) -> h'.nx = s2.heap.nx -> Q (.bool false) h'))): RR P lp [x, y] h Q := by
  simp only[oI, Bool.not_eq_true']at hp;obtain⟨⟨⟨⟨⟨⟨k1, k2⟩, k3⟩, k4⟩, k5⟩, k6⟩, k7⟩ := hp;have hl : lp < T.top := oL (w.lt il hL) hn;have hs : xX (#[p1, p2] : Array Nat).toList [x, y] n tm = some (Tb.set (Tb.set tm p1 x) p2 y) := by show cond (Nat.blt p1 n) (cond (Nat.blt p2 n) (some (Tb.set (Tb.set tm p1 x) p2 y)) none) none = _;rw[k1, k2];rfl
  have ht' : Has (Tb.set (Tb.set tm p1 x) p2 y) ((p1, x)::(p2, y)::l) := by
    refine⟨?_, Has.self k4, qM k4 (qM k3 ht k6) k7⟩;rw[xB _ _ _ _ (show p2 < Tb.top from(zW _ _).1 k4), if_neg (λe => ?_)]
    · exact Has.self k3
    · have e : p1 = p2 := e
      rw[e]at k5;simp at k5
  refine RR.intro hl (w.get il hL) hs (RC.of_wp xf asg (kF _ (λe s1 h1 => ?_) (ha _ ht')));obtain⟨e1, n1, d1, c1, L1, w1, t1, g1, hk⟩ := h1;obtain⟨sn, st, sd, sh⟩ := s1;simp only at n1 d1 w1 t1 hk;subst n1 d1;refine⟨e1, _, _, _, _, _, _, _, w1.get il2 g1, RC.of_wp xf body (kF _ (λe s2 h2 => ?_) (hk _ (w1.upd il2 g1 t1) rfl))⟩;obtain⟨d2, L', w2, t2, g2, ⟨rfl, hq⟩|⟨id, rfl, hq⟩⟩ := h2
  · show(match yZ lp .normal s2 with|some (.ret v h') => Q v h'|_ => False)
    simp only[yZ, d2, w2.get il2 g2];exact hq _ (w2.upd il2 g2 t2) rfl
  · show(match yZ lp (.exit id) s2 with|some (.ret v h') => Q v h'|_ => False)
    simp only[yZ, d2, w2.get il2 g2];exact hq _ (w2.upd il2 g2 t2) rfl
def IsS(v:V):Prop:=v = .nilslice\/∃b o n a,v = .slice b o n a
theorem IsS.one{v:V}(h:IsS v):v.cells=[v]/\zU [v]=true:=by rcases h with rfl|⟨b,o,n,a,rfl⟩<;>exact⟨rfl,rfl⟩
theorem Sl.isS{v:V}{e:Nat}{xs:Ug}(s:Sl h v e n xs):IsS v:=by
 obtain⟨_,⟨rfl,_⟩|⟨b,o,a,_,_,_,_,rfl,_⟩⟩:=s
 .exact .inl rfl
 exact .inr ⟨_,_,_,_,rfl⟩
theorem uU{x:Ua}{v:V}{k:V->Prop}(d:IsS v)(a:k (.agg [.str x,v])):XU zB 98 (qe zB 98 [(0,.str x),(1,v)]) k:=by
 rcases d with rfl|⟨b,o,n,c,rfl⟩
 .have e:XU zB 98 (qe zB 98 [(0,.str x),(1,.nilslice)]) k=k (.agg [.str x,.nilslice]):=de
  rw[e];exact a
 have e:XU zB 98 (qe zB 98 [(0,.str x),(1,.slice b o n c)]) k=k (.agg [.str x,.slice b o n c]):=de
 rw[e];exact a
abbrev tA(s:Ua)(v:V):O:=.cells (.ls [.str s,v]) ⟨0,99,0⟩ true false
abbrev oKd(k:Int):O:=.cells (.ls [.int .i64 k]) ⟨0,85,0⟩ true false
abbrev JA(st:LoopState)(a:Option Go.Code)(tm:Tm)(df:Nat):O:=.loop st a 54 tm #[34,35] zCq zFl df
theorem Vw.stM{hb:H}{c p:Nat}{bs:Ua}{bv v:V}(w:Vw zH hb h c L)(e:L[i]? = some (p,tA bs bv))(d:IsS v)(g:h.nx<=T.top):∃h',jP zB 98 h (.ptr p 0) (.agg [.str s,v])=some h'/\Vw zH hb h' c (L.set i (p,tA s v))/\h'.nx=h.nx/\∀b,b≠p->h'.get b=h.get b:=by
 have a:(V.agg [.str s,v]).cells=[.str s,v]:=by rcases d with rfl|⟨b,o,n,k,rfl⟩<;>kernel_rfl
 have j:=d.one.2;exact w.st (cx:=zB) i (t:=98) (f:=0) (u:=.agg [.str s,v]) (cs':=.ls [.str s,v]) e g ED (by rw[a];rfl) (zx.2 (by rw[a];rfl)) (oM _) (by rw[a];exact j)
def jQ(L:List (Nat×O))(ib iw pb pw:Nat)(bs sec:Ua)(a:V)(k:Int):List (Nat×O):=if bs=[]\/sec.length<bs.length then (L.set ib (pb,tA sec a)).set iw (pw,oKd k) else L
theorem J7{hb:H}{c il ib iw is lp df pb pw ps:Nat}{tm:Tm}{k bk:Int}{sec bs:Ua}{m bv:V}(w:Vw zH hb h c L)(y:L[il]? = some (lp,JA .ready none tm df))(R:L[ib]? = some (pb,tA bs bv))(S:L[iw]? = some (pw,oKd bk))(E:L[is]? = some (ps,Xa s))(d1:il≠ib)(d2:il≠iw)(d3:ib≠iw)(d4:is≠ib)(d5:is≠iw)(d6:il≠is)(hv:IsS m)(ht:Has tm [(8,.ptr pb 0),(9,.ptr pw 0),(2,.ptr ps 0)])(hn:h.nx+1<=T.top)(U:s=[]->∀h',Vw zH hb h' (c+1) ((jQ L ib iw pb pw bs sec m k).set il (lp,JA .done (some (.exit 0)) tm df))->h'.nx=h.nx+1->Q (.bool false) h')(W:s≠[]->∀h',Vw zH hb h' (c+1) (jQ L ib iw pb pw bs sec m k)->h'.nx=h.nx+1->Q (.bool true) h'):RR P lp [.int .i64 k,.agg [.str sec,m]] h Q:=by
 refine w.roundX (il:=il) (il2:=il+1) (c':=c+1) y dd ht rfl λtm0 X=>?_
 refine cg IS X ⟨dd,?_⟩;rintro p0 h1 rfl e1;have w1:=w.new e1 dd;have n1:h1.nx=h.nx+1:=by rw[e1,zC]
 obtain⟨h2,N,w2,n2,_⟩:=Vw.stM (s:=sec) (v:=m) w1 (i:=0) rfl hv dd;refine⟨h2,N,λtm1 Y=>⟨rfl,rfl,rfl,_,_,w2,by show h2.nx<=_;omega,y,λh3 C n3=>?_⟩⟩;replace n3:h3.nx=h2.nx:=n3;replace C:Vw zH hb h3 (c+1) ((h.nx,tA sec m)::L.set il (lp,JA .busy none tm df)):=C;have gb:((h.nx,tA sec m)::L.set il (lp,JA .busy none tm df))[ib+1]? = some (pb,tA bs bv):=by show(L.set il _)[ib]? = _;rw[og d1];exact R
 have gw:((h.nx,tA sec m)::L.set il (lp,JA .busy none tm df))[iw+1]? = some (pw,oKd bk):=by show(L.set il _)[iw]? = _;rw[og d2];exact S
 have gs:((h.nx,tA sec m)::L.set il (lp,JA .busy none tm df))[is+1]? = some (ps,Xa s):=by show(L.set il _)[is]? = _;rw[og d6];exact E
 have fin:∀{x:H}{L5:List (Nat×O)}{p:Tm},Vw zH hb x (c+1) ((h.nx,tA sec m)::L5)->L5[is]? = some (ps,Xa s)->L5[il]? = some (lp,JA .busy none tm df)->x.nx=h.nx+1->L5.set il (lp,JA .ready none tm df)=jQ L ib iw pb pw bs sec m k->(∀o,L5.set il (lp,o)=(jQ L ib iw pb pw bs sec m k).set il (lp,o))->Has p [(2,.ptr ps 0)] ->
   Wt IS (jm zG1) ⟨54,p,[],x⟩ (λe s1=>yL IS (λN I=>I.dfr=[]/\∃L',Vw zH hb I.heap (c+1) L'/\I.heap.nx<=T.top/\L'[il+1]? = some (lp,JA .busy none tm df) /\
    ((N = .normal/\∀h',Vw zH hb h' (c+1) (L'.set (il+1) (lp,JA .ready none tm df))->h'.nx=I.heap.nx->Q (.bool true) h')\/(∃id,N = .exit id/\∀h',Vw zH hb h' (c+1) (L'.set (il+1) (lp,JA .done (some (.exit id)) tm df))->h'.nx=I.heap.nx->Q (.bool false) h'))) (exitB 1 e) s1):=by
  intro x L5 p A g5 J n5 eL Z B;refine sg B ⟨s,A.ld1 (is+1) g5 xk rfl,λF=>λtm6 hs6=>?_,λF=>λtm6 hs6=>?_⟩
  .show yL IS _ (exitB 1 (.exit 0)) _;refine Has.nil.slt λtm7 _=>⟨rfl,_,A,by show x.nx<=_;omega,J,.inr ⟨0,rfl,λh' w' n'=>U F h' ?_ (by have:h'.nx=x.nx:=n';omega)⟩⟩
   have G:=w'.drop 1;rw[<-Z];exact G
  show yL IS _ (exitB 1 .normal) _;refine Has.nil.slt λtm7 _=>⟨rfl,_,A,by show x.nx<=_;omega,J,.inl ⟨rfl,λh' w' n'=>W F h' ?_ (by have:h'.nx=x.nx:=n';omega)⟩⟩
  have G:=w'.drop 1;rw[<-eL];exact G
 have upd:∀{tb:Bool}{z:Tm},(tb=true↔(bs=[]\/sec.length<bs.length))->Has z [(47,.bool tb),(11,.ptr h.nx 0),(10,.int .i64 k),(8,.ptr pb 0),(9,.ptr pw 0),(2,.ptr ps 0)]->∀Q2,(∀{x:H}{L5:List (Nat×O)}{p:Tm},Vw zH hb x (c+1) ((h.nx,tA sec m)::L5)->L5[is]? = some (ps,Xa s)->L5[il]? = some (lp,JA .busy none tm df)->x.nx=h.nx+1->L5.set il (lp,JA .ready none tm df)=jQ L ib iw pb pw bs sec m k->(∀o,L5.set il (lp,o)=(jQ L ib iw pb pw bs sec m k).set il (lp,o))->Has p [(2,.ptr ps 0)]->Q2 .normal ⟨54,p,[],x⟩)->Wt IS (jm zG0) ⟨54,z,[],h3⟩ Q2:=by
  intro tb z K r Q2 k2;have sp:L.set il (lp,JA .ready none tm df)=L:=by
   refine List.ext_getElem? λj=>?_
   by_cases e:j=il
   .subst e;rw[List.getElem?_set_self (List.getElem?_eq_some_iff.1 y).1,y]
   rw[og (λq=>e q.symm)]
  refine sg r ?_;cases tb with
  | false =>
   have M:¬(bs=[]\/sec.length<bs.length):=λg=>absurd (K.2 g) dg
   refine λp B=>k2 C (by rw[og d6];exact E) (List.getElem?_set_self (List.getElem?_eq_some_iff.1 y).1) dd (by unfold jQ;rw[if_neg M,List.set_set];exact sp) (λo=>by unfold jQ;rw[if_neg M,List.set_set]) (B.sub de)
  | true =>
   have D:=K.1 rfl;have lx:ye zB 98 h3 (.ptr h.nx 0)=some (.agg [.str sec,m]):=C.ldA 0 rfl ED rfl;obtain⟨h4,e4,w4,n4,_⟩:=Vw.stM (s:=sec) (v:=m) C (i:=ib+1) gb hv dd;have gw4:(((h.nx,tA sec m)::L.set il (lp,JA .busy none tm df)).set (ib+1) (pb,tA sec m))[iw+1]? = some (pw,oKd bk):=by rw[og];exact gw
   obtain⟨x,e5,A,n5,_⟩:=w4.st (cx:=zB) (iw+1) (t:=84) (f:=0) (u:=.int .i64 k) gw4 dd zGh rfl;refine⟨_,_,lx,h4,e4,x,e5,λp B=>k2 (L5:=((L.set il (lp,JA .busy none tm df)).set ib (pb,tA sec m)).set iw (pw,oKd k)) A ?_ ?_ dd ?_ (λo=>?_) (B.sub de)⟩
   .rw[og (λq=>d5 q.symm),og (λq=>d4 q.symm),og d6];exact E
   .rw[og (λq=>d2 q.symm),og (λq=>d1 q.symm)];exact List.getElem?_set_self (List.getElem?_eq_some_iff.1 y).1
   .unfold jQ;rw[if_pos D,List.set_comm _ _ (λq=>d2 q.symm),List.set_comm _ _ (λq=>d1 q.symm),List.set_set,sp]
   unfold jQ;rw[if_pos D,List.set_comm _ _ (λq=>d2 q.symm),List.set_comm _ _ (λq=>d1 q.symm),List.set_set,List.set_comm _ _ d1,List.set_comm _ _ d2]
 refine cg IS Y ?_;refine⟨bs,C.ld1 (ib+1) gb xk rfl,λF=>λz r=>upd (tb:=true) (by simp[F]) (r.sub de) _ λA a b c d e f=>thenC.nx (fin A a b c d e f),λF=>?_⟩;refine⟨sec,C.ld1 0 rfl xk rfl,?_⟩;refine⟨bs,C.ld1 (ib+1) gb xk rfl,λc2=>λz r=>upd (tb:=true) ?_ (r.sub de) _ λA a b c d e f=>thenC.nx (fin A a b c d e f),λc2=>λz r=>upd (tb:=false) ?_ (r.sub de) _ λA a b c d e f=>thenC.nx (fin A a b c d e f)⟩
 .have:(sec.length:Int)<(bs.length:Int):=c2;exact⟨λ_=>.inr dd,λ_=>rfl⟩
 have:¬(sec.length:Int)<(bs.length:Int):=c2;exact⟨λg=>(by cases g),λg=>absurd g (by rintro(g|g);exact F g;omega)⟩
end Go.Proofs.YtnpeieeomokomaaGreat
