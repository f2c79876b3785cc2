/- TP. No condition. -/
import Derived.Test.YtnpeieeomokomaaGreatZTO
import Derived.Test.YtnpeieeomokomaaGreatZX
import Derived.Test.YtnpeieeomokomaaGreatZTA
set_option maxRecDepth 100000
set_option maxHeartbeats 4000000
namespace Go.Proofs.YtnpeieeomokomaaGreat
open Go.Sim
variable{h:H}{Q:Uc}{ys:List (Int×Int)}{l:Ub}{b i m:Nat}
section
open Go Go.Sort
def Nj:Go.Shelf.Ren:=⟨λ|6=>332|14=>347|15=>316|20=>353|21=>354|22=>355|23=>356|24=>357|25=>358|26=>359|27=>360|28=>328|29=>329|46=>362|47=>349|48=>350|49=>363|50=>364|57=>365|n=>n,λ|0=>0|3=>3|4=>4|5=>5|9=>9|22=>384|24=>372|25=>387|39=>72|45=>391|46=>392|50=>192|53=>243|55=>127|66=>397|70=>401|76=>408|77=>132|n=>n,λn=>n⟩
theorem zFs:SlLaysF0.n6 Tryz.prog Nj where
 mixed:=de
 f6:=⟨Tryz.f332.name,de,Tryz.func332.trans (congrArg some de)⟩
 f14:=⟨Tryz.f347.name,de,Tryz.func347.trans (congrArg some de)⟩
 f15:=Tryz.func316.trans (congrArg some de)
 f20:=⟨Tryz.f353.name,de,Tryz.func353.trans (congrArg some de)⟩
 f21:=⟨Tryz.f354.name,de,Tryz.func354.trans (congrArg some de)⟩
 f22:=⟨Tryz.f355.name,de,Tryz.func355.trans (congrArg some de)⟩
 f23:=⟨Tryz.f356.name,de,Tryz.func356.trans (congrArg some de)⟩
 f24:=⟨Tryz.f357.name,de,Tryz.func357.trans (congrArg some de)⟩
 f25:=⟨Tryz.f358.name,de,Tryz.func358.trans (congrArg some de)⟩
 f26:=⟨Tryz.f359.name,de,Tryz.func359.trans (congrArg some de)⟩
 f27:=⟨Tryz.f360.name,de,Tryz.func360.trans (congrArg some de)⟩
 f28:=Tryz.func328.trans (congrArg some de)
 f29:=Tryz.func329.trans (congrArg some de)
 f46:=⟨Tryz.f362.name,de,Tryz.func362.trans (congrArg some de)⟩
 f47:=Tryz.func349.trans (congrArg some de)
 f48:=Tryz.func350.trans (congrArg some de)
 f49:=⟨Tryz.f363.name,de,Tryz.func363.trans (congrArg some de)⟩
 f50:=⟨Tryz.f364.name,de,Tryz.func364.trans (congrArg some de)⟩
 f57:=⟨Tryz.f365.name,de,Tryz.func365.trans (congrArg some de)⟩
 t0:=Tryz.underlying0
 a0:=Tryz.isAgg0
 z0:=Tryz.sizeOf0
 v0:=Tryz.zeroValue0
 t3:=Tryz.underlying3
 a3:=Tryz.isAgg3
 z3:=Tryz.sizeOf3
 v3:=Tryz.zeroValue3
 t4:=Tryz.underlying4
 a4:=Tryz.isAgg4
 z4:=Tryz.sizeOf4
 v4:=Tryz.zeroValue4
 t5:=Tryz.underlying5
 a5:=Tryz.isAgg5
 z5:=Tryz.sizeOf5
 v5:=Tryz.zeroValue5
 t9:=Tryz.underlying9
 a9:=Tryz.isAgg9
 z9:=Tryz.sizeOf9
 v9:=Tryz.zeroValue9
 t22:=Tryz.underlying384
 a22:=Tryz.isAgg384
 z22:=Tryz.sizeOf384
 v22:=Tryz.zeroValue384
 t25:=Tryz.underlying387
 a25:=Tryz.isAgg387
 z25:=Tryz.sizeOf387
 v25:=Tryz.zeroValue387
 t39:=Tryz.underlying72
 a39:=Tryz.isAgg72
 z39:=Tryz.sizeOf72
 v39:=Tryz.zeroValue72
 t45:=Tryz.underlying391
 a45:=Tryz.isAgg391
 z45:=Tryz.sizeOf391
 v45:=Tryz.zeroValue391
 t46:=Tryz.underlying392
 a46:=Tryz.isAgg392
 z46:=Tryz.sizeOf392
 v46:=Tryz.zeroValue392
 t50:=Tryz.underlying192
 a50:=Tryz.isAgg192
 z50:=Tryz.sizeOf192
 v50:=Tryz.zeroValue192
 t53:=Tryz.underlying243
 a53:=Tryz.isAgg243
 z53:=Tryz.sizeOf243
 v53:=Tryz.zeroValue243
 t55:=Tryz.underlying127
 a55:=Tryz.isAgg127
 z55:=Tryz.sizeOf127
 v55:=Tryz.zeroValue127
 t66:=Tryz.underlying397
 a66:=Tryz.isAgg397
 z66:=Tryz.sizeOf397
 v66:=Tryz.zeroValue397
 t70:=Tryz.underlying401
 a70:=Tryz.isAgg401
 z70:=Tryz.sizeOf401
 v70:=Tryz.zeroValue401
 t76:=Tryz.underlying408
 a76:=Tryz.isAgg408
 z76:=Tryz.sizeOf408
 v76:=Tryz.zeroValue408
 t77:=Tryz.underlying132
 a77:=Tryz.isAgg132
 z77:=Tryz.sizeOf132
 v77:=Tryz.zeroValue132
abbrev AU:TI:=⟨372,(.struct #[⟨ "number",3,0,false, "", "cheesepress/code",0⟩,⟨ "length",3,1,false, "", "cheesepress/code",8⟩]),2,16,some (.agg [(ip 0),(ip 0)]),true,false,false,[]⟩
def jW(x y:Int×Int):Int:=VA x.1 x.2 y.1 y.2
theorem zAp(x y:Int×Int):jW x y<0↔y.2<x.2\/(y.2=x.2/\x.1<y.1):=by
 unfold jW VA jR;by_cases c:y.2<x.2
 .simp[jC,c]
 by_cases a:x.2<y.2
 .simp[jC,c,a];omega
 have e:y.2=x.2:=dd
 by_cases d:x.1<y.1
 .simp[jC,d,e]
 by_cases f:y.1<x.1
 .simp[jC,d,f,e]
 simp[jC,d,f,e]
theorem Qq(x y:Int×Int):ltOf jW x y=decide (y.2<x.2\/(y.2=x.2/\x.1<y.1)):=by unfold ltOf;simp only[zAp]
theorem qO:SWO (ltOf jW) where
 irrefl:=λx=>by rw[Qq];simp
 trans:=λx y z h1 h2=>by rw[Qq,decide_eq_true_eq]at h1 h2 ⊢;omega
 ntrans:=λx y z h1 h2=>by rw[Qq,decide_eq_false_iff_not]at h1 h2 ⊢;omega
theorem NB(x y:Int×Int):∃h',SimF P 333 [.agg [dh x.1,dh x.2],.agg [dh y.1,dh y.2]] H0 (.ret (dh (jW x y)) h'):=by obtain⟨v,h',⟨_,s⟩,a⟩:=HL x.1 x.2 y.1 y.2 (h:=H0) (Q:=λv _=>v = dh (jW x y)) rfl;subst a;exact⟨h',s⟩
theorem zGa(a:List (Int×Int))(c:a.length<4611686018427387904):I7 P 332 333 a (yW jW a) :=
 Fe zFs Tryz.isAgg372 Tryz.sizeOf372 (enters_of Tryz.func333 de rfl) qO NB a c
theorem Dy:∃fi,zB.fn.get 332=some fi:=Option.isSome_iff_exists.1 de
theorem Wu{v:V}{a:List (Int×Int)}{h:H}{Q:Uc}(ow:Ow h v AU a.length (Y4 a))(w:0<a.length)(hl:a.length<=100000)(hs:yW jW a=ys)(p:h.nx<=T.top)(r:∀b n (_:v = .slice b 0 n (.skip 0)) h' cs',ExtX (λq=>z6 v=some q) h h' 0->h'.nx=h.nx->h'.get b=some (.cells cs' (xD AU) true true)->(∀i,i<ys.length*2->cs'.get? i=(Y4 ys)[i]?)->Q (.tuple []) h'):RF P zB 332 [v,.func (.func 333) [] []] h Q:=by
 have c:ys.length=a.length:=by rw[<-hs];exact(jh qO a).1.length_eq
 obtain⟨x,⟨rfl,s⟩|⟨b,cs,rfl,g,j,hw,d,t⟩⟩:=ow
 .omega
 have e:(Y4 ys).length=a.length*2:=by rw[YU,c]
 have f:b<T.top:=oL g p;obtain⟨cs',k,y⟩:=Cs.put_some (cs:=cs) hw (o:=0) (vs:=Y4 ys) (by rw[d,e];show 0+a.length*2<=a.length*2;omega);obtain⟨_,p3,u⟩:=Cs.put_eq k;refine⟨_,_,⟨Dy,SimF.of_sortP (by rw[<-hs];exact zGa a dd) c j (λi hi=>t i hi) k rfl⟩,r b a.length rfl _ cs' ((ExtX.refl0 _ _).upd _ f (.inl rfl)) rfl (zF _ f) λi hi=>?_⟩;rw[u,if_pos ⟨oM _,by rw[e,<-c];omega⟩,Nat.sub_zero]
end
def qQ:Nat->Ub->List (Int×Int)
 | _,[]=>[]
 | i,x::l=>(if 0<x then [((i:Int),x)] else [])++qQ (i+1) l
abbrev yA(l:Ub):List (Int×Int):=qQ 0 l
theorem fN(x:Int):∀(l:Ub) (i:Nat),qQ i (l++[x])=qQ i l++(if 0<x then [(((i+l.length:Nat):Int),x)] else [])
 | [],i=>by simp[qQ]
 | y::l,i=>by rw[List.cons_append,qQ,fN x l (i+1),qQ,List.append_assoc,oc,show i+1+l.length=i+(l.length+1)by omega]
theorem Lq(hi:i<l.length):yA (l.take (i+1))=yA (l.take i)++(if 0<l[i] then [((i:Int),l[i])] else []):=by unfold yA;rw[yN hi,fN,List.length_take,Nat.min_eq_left dd,Nat.zero_add]
theorem Km:∀(l:Ub) (i:Nat),(qQ i l).length<=l.length
 | [],_=>oR _
 | x::l,i=>by have:=Km l (i+1);rw[qQ,oW,oc];split<;>simp<;>omega
theorem FC(c:List (Int×Int))(a b:Int):Y4 (c++[(a,b)])=Y4 c++[dh a,dh b]:=by simp[Y4]
abbrev oX(v:V):O:=.cells (.ls [v]) ⟨0,24,0⟩ true false
abbrev oY(v:V):O:=.cells (.ls [v]) ⟨0,385,0⟩ true false
theorem _root_.Go.Sim.Vw.push{S:Nat->Prop}{hb h:H}{c p:Nat}{l:List (Nat×O)}{o:O}(w:Vw S hb h c l)(hl:∀q∈l,q.1<p)(hp:p<h.nx)(a:hb.nx<=p)(d:h.get p=some o):Vw S hb h c ((p,o)::l):=by
 refine⟨w.ex,hp,.inr a,d,?_⟩;have:=w.bk;rcases l with _|⟨q,l⟩
 .trivial
 exact⟨hl q (List.mem_cons_self ..),this.2⟩
theorem RA{v:V}{l:Ub}(sl:Sl h v 1 l.length (zI l))(hl:l.length<=256)(h1:0<(yA l).length)(hn:h.nx+600<=T.top)(a:∀h' bv cs pa pb,Vw zH h h' 514 [(bv,.cells cs (xD AU) true true),(pb,oY (.slice bv 0 (yW jW (yA l)).length (.skip 0))),(pa,oX v)]->(∀i,i<(yW jW (yA l)).length*2->cs.get? i=(Y4 (yW jW (yA l)))[i]?)->Q (.func (.func 336) [] [.ptr pa 0,.ptr pb 0]) h'):RF P zB 319 [v] h Q:=by
 refine zh zCj zFU ⟨vR sl,dd,?_⟩;rintro p0 h2 rfl J;have n2:h2.nx=h.nx+1:=(zm J).1;have K:=(Vw.nil (S:=zH) (h:=h)).new J dd;have t2:=K.top;refine⟨rfl,dd,?_⟩;rintro p2 h3 rfl X;have y:=K.new X dd;have t3:=y.top;have Y:=sl.ext y.ex0;refine⟨v,y.ld1 1 rfl zM rfl,_,Y.len zM rfl,λtm hs=>?_⟩;refine wpC.round (λk tm h'=>∃(i:Nat) (n:V),i<=l.length/\k=l.length-i/\Vw zH h h' (2+2*i) [(h2.nx,oY n),(h.nx,oX v)]/\Ow h' n AU (yA (l.take i)).length (Y4 (yA (l.take i)))/\Sep zH h.nx [(h2.nx,oY n),(h.nx,oX v)] n/\(∀b,z6 n=some b->h2.nx<b) /\
  Has tm [(8,dh i),(7,dh (Int.ofNat l.length)),(6,v),(3,.ptr h2.nx 0),(1,.ptr h.nx 0)]) l.length ⟨0,.nilslice,dd,dd,y,Ow.nil _ _,λb hb=>(by cases hb),λb hb=>(by cases hb),hs.sub de⟩ ?_
 clear hs;rintro k tm h' ⟨i,n,Z,rfl,w,ow,sp,L,hs⟩;have tt:=w.top;have z:=sl.ext w.ex0;refine cg zCj hs ⟨λc=>?_,λc=>λr d=>?_⟩
 .have hi:i<l.length:=by have:(i:Int)<Int.ofNat l.length:=c;simp at this;omega
  obtain⟨b,o,ea,M⟩:=yS z hi;have B:=Lq hi;have s:(yA (l.take i)).length<=(l.take i).length:=Km (l.take i) 0;rw[List.length_take]at s;generalize l[i]=x at M B;refine⟨b,o,ea,x,M,λC=>?_,λC=>λr d=>⟨rfl,rfl,l.length-(i+1),dd,i+1,n,dd,rfl,w.more dd,?_,sp,L,?_⟩⟩
  .obtain⟨v4,h5,e5,s5,N,_⟩:=xG (c:=zB) (h:=h') (u:=.agg [dh i,dh x]) (ys:=[dh i,dh x]) nF rfl fR rfl rfl rfl rfl dg rfl dd;have D:=w.ext N;have t5:=D.top;obtain⟨v6,O,e7,A⟩:=Ow.append (c:=zB) (te:=AU) (m:=1) (ow.ext N) s5 dg nF rfl fR rfl rfl (by show((yA (l.take i)).length+1)*2<=_;omega) (by show((yA (l.take i)).length+1)*16<=_;omega) dd;have E:=A.2.2.2.2.1;obtain⟨R,j,t⟩:=D.grow sp A;have t7:=R.top;obtain⟨U,e8,w8,n8,k8⟩:=R.st (cx:=zB) 0 (f:=0) (u:=v6) (cs':=.ls [v6]) rfl dd nF (by rw[j.one1.1];rfl) (zx.2 (by rw[j.one1.1];rfl)) (oM _) (by rw[j.one1.1];exact j.one1.2);refine⟨n,w.ld1 0 rfl nF rfl,v4,h5,e5,trivial,v6,O,e7,U,e8,λr d=>⟨rfl,rfl,l.length-(i+1),dd,i+1,v6,dd,rfl,w8.more dd,?_,t.less λq a=>?_,λb hb=>?_,?_⟩⟩
   .rw[B,if_pos C,FC,oW];exact j.keep (by show O.nx<=U.nx;omega) λq a=>k8 q (λe=>(t q a).2 _ (List.mem_cons_self ..) e.symm)
   .rcases oq.1 a with rfl|a
    .exact⟨_,List.mem_cons_self ..,rfl⟩
    exact⟨q,oJ _ a,rfl⟩
   .rw[E]at hb;cases hb;have:=D.lt 0 rfl;exact this
   rw[<-zf];exact d.sub de
  .rw[B,if_neg C,List.append_nil];exact ow
  rw[<-zf];exact d.sub de
 have hi:i=l.length:=by have:¬(i:Int)<Int.ofNat l.length:=c;simp at this;omega
 subst hi;rw[List.take_length]at ow;have s:(yA l).length<=l.length:=Km l 0;have F:(yW jW (yA l)).length=(yA l).length:=(jh qO (yA l)).1.length_eq;obtain⟨p,rfl⟩:∃p,n = .slice p 0 (yA l).length (.skip 0):=by
  obtain⟨_,⟨rfl,hz⟩|⟨b,cs,rfl,_⟩⟩:=ow
  .omega
  exact⟨b,rfl⟩
 refine thenC.left (sg d ⟨_,w.ld1 0 rfl nF rfl,Wu ow h1 dd rfl dd λb9 k9 e9 h9 G x9 n9 g9 c9=>⟨rfl,λtm2 H=>?_⟩⟩);obtain⟨rfl,_⟩:p=b9/\True:=⟨by injection e9,trivial⟩;have W:=w.apart x9 (λb g=>(sp b g).1) λq a g=>(sp _ g).2 q a rfl
 rw[<-F]at W;have I:=L p rfl;have hlt:=ow.blk (b:=p) rfl;refine endW.r1 (H.get rfl) (a h9 p G _ _ ((W.push (λq a=>?_) dd (by have:=(sp p rfl).1;rcases this with g|g;exact g.elim;exact g) g9).more dd) c9);rcases oq.1 a with rfl|a
 .exact I
 rw[List.mem_singleton.1 a];have:=w.lt 1 rfl;omega
theorem _root_.Go.Sim.Vw.roundA{S:Nat->Prop}{hb h:H}{c c' il il2 lp n df d a:Nat}{L:List (Nat×O)}{tm:Tm}{f body:Code}{x y:V}{l:Kn}(w:Vw S hb h c L)(t:L[il]? = some (lp,.loop .ready none n tm #[d,a] f body df))(F:h.nx<=T.top)(G:Has tm l)(hp:(Nat.blt d n && Nat.blt a n && Nat.blt d 511 && Nat.blt a 511 && !(Nat.beq d a) && (l.all λp=>!(Nat.beq p.1 d)) && (l.all λp=>!(Nat.beq p.1 a)))=true)(I:∀j,Has j ((d,x)::(a,y)::l)->wpC P zB true (jm f) ⟨n,j,[],h⟩ λe s1=>e = .normal/\s1.n=n/\s1.dfr=[]/\∃k L1,Vw S hb s1.heap k L1/\s1.heap.nx<=T.top/\L1[il2]? = some (lp,.loop .ready none n tm #[d,a] f body df) /\
   ∀h1,Vw S hb h1 k (L1.set il2 (lp,.loop .busy none n tm #[d,a] f body df))->h1.nx=s1.heap.nx->wpC P zB true (jm body) ⟨n,s1.tm,[],h1⟩ λe2 g=>e2 = .normal/\g.dfr=[]/\∃L',Vw S hb g.heap c' L'/\g.heap.nx<=T.top/\L'[il2]? = some (lp,.loop .busy none n tm #[d,a] f body df) /\
    ∀h',Vw S hb h' c' (L'.set il2 (lp,.loop .ready none n tm #[d,a] f body df))->h'.nx=g.heap.nx->(∀b,b≠lp->h'.get b=g.heap.get b)->Q (.bool true) h'):RR P lp [x,y] h Q:=by
 simp only[oI,Bool.not_eq_true']at hp;obtain⟨⟨⟨⟨⟨⟨J,K⟩,u⟩,o⟩,z⟩,M⟩,N⟩:=hp;have hl:lp<T.top:=oL (w.lt il t) F;have hs:xX (#[d,a]:Array Nat).toList [x,y] n tm=some (Tb.set (Tb.set tm d x) a y):=by show cond (Nat.blt d n) (cond (Nat.blt a n) (some (Tb.set (Tb.set tm d x) a y)) none) none=_;rw[J,K];rfl
 have q:Has (Tb.set (Tb.set tm d x) a y) ((d,x)::(a,y)::l):=by
  refine⟨?_,Has.self o,qM o (qM u G M) N⟩;rw[xB _ _ _ _ (show a<Tb.top from(zW _ _).1 o),if_neg (λe=>?_)]
  .exact Has.self u
  have e:d=a:=e;rw[e]at z;simp at z
 refine RR.intro hl (w.get il t) hs (RC.of_wp xf f (kF _ (λe s1 h1=>?_) (I _ q)));obtain⟨R,n1,d1,k,L1,r,A,B,C⟩:=h1;obtain⟨sn,st,X,sh⟩:=s1;simp only at n1 d1 r A C;subst n1 d1;refine⟨R,_,_,_,_,_,_,_,r.get il2 B,RC.of_wp xf body (kF _ (λe g h2=>?_) (C _ (r.upd il2 B A) rfl))⟩;obtain⟨rfl,d2,L',D,U,E,W⟩:=h2;have s:lp<T.top:=hl;show(match yZ lp .normal g with|some (.ret v h')=>Q v h'|_=>False);simp only[yZ,d2,D.get il2 E];exact W _ (D.upd il2 E U) rfl λb hb=>zL _ s hb
def xu(m:Nat)(ys:List (Int×Int))(i:Nat):Nat:=((ys.take i).map λp=>2^(m-p.2.toNat)).sum
theorem Xd(hi:i<ys.length:=by omega):xu m ys (i+1)=xu m ys i+2^(m-ys[i].2.toNat):=by unfold xu;rw[yN hi,List.map_append,List.sum_append];simp
theorem lu(hm:m<=11)(ys:List (Int×Int)):∀i,xu m ys i<=2048*i
 | 0=>by simp[xu]
 | i+1=>by
  have ih:=lu hm ys i;by_cases hi:i<ys.length
  .have hp:2^(m-ys[i].2.toNat)<=2^11:=Nat.pow_le_pow_right dg dd;rw[Xd hi,Nat.mul_succ];omega
  have e:xu m ys (i+1)=xu m ys i:=by unfold xu;rw[List.take_of_length_le dd,List.take_of_length_le dd]
  rw[e,Nat.mul_succ];omega
theorem FB(ys:List (Int×Int))(i:Nat)(hi:i<ys.length):∀j,j<2->(Y4 ys)[i*2+j]? = [dh ys[i].1,dh ys[i].2][j]?:=by
 induction ys generalizing i with
 | nil=>simp at hi
 | cons x ys ih =>
  intro j a;have e:Y4 (x::ys) = dh x.1 :: dh x.2::Y4 ys:=rfl;rw[e];cases i with
  | zero =>
   rcases j with _|_|j
   .rfl
   .rfl
   omega
  | succ i=>rw[show(i+1)*2+j=(i*2+j)+1+1 by omega,List.getElem?_cons_succ,List.getElem?_cons_succ];exact ih i (by simpa using hi) j a
abbrev oSy(a b:Int):O:=.cells (.ls [dh a,dh b]) ⟨0,373,0⟩ true false
theorem W5{l:Ub}{ys:List (Int×Int)}{v:V}{bv lp pa pb ia ib iv:Nat}{hb h:H}{cs:Cs}{c:Nat->Nat}{L0:List (Nat×O)}(J:Nat->List (Nat×O)->Prop)(hl:l.length<=256)(h1:0<l.length)(e:wO l=true)(hy:ys.length<=256)(hr:∀p∈ys,1<=p.2/\p.2<=yQ l)(D:J 0 L0)(w0:Vw zH hb h (c 0) L0)(sl:Sl hb v 1 l.length (zI l))(I:L0[ia]? = some (pa,oX v))(K:L0[ib]? = some (pb,oY (.slice bv 0 ys.length (.skip 0))))(ev:∀i L,J i L->L[iv]? = some (bv,.cells cs (xD AU) true true))(s:∀i,i<ys.length*2->cs.get? i=(Y4 ys)[i]?)(M:∀i,i<=ys.length->hb.nx+c i+2<=T.top)(d:∀i L h' x (hi:i<ys.length),J i L->Vw zH hb h' (c i+1) ((x,oSy ys[i].1 ys[i].2)::L)->RR P lp [.agg [dh ys[i].1,dh ys[i].2],dh (xu (yQ l) ys i:Nat)] h' λr h2=>r = .bool true/\∃L',J (i+1) L'/\Vw zH hb h2 (c (i+1)) ((x,oSy ys[i].1 ys[i].2)::L'))(N:∀L h',J ys.length L->Vw zH hb h' (c ys.length) L->Q (.tuple []) h'):RF P zB 336 [.yield lp,.ptr pa 0,.ptr pb 0] h Q:=by
 have g:∀i L h',J i L->Vw zH hb h' (c i) L->Sl h' (.slice bv 0 ys.length (.skip 0)) 2 ys.length (Y4 ys):=λi L h' j w=>⟨YU _,.inr ⟨bv,0,_,cs,_,_,_,rfl,w.lt iv (ev i L j),w.get iv (ev i L j),λj R=>by rw[Nat.zero_add];exact s j R⟩⟩
 have hm:=ZY e;refine zh zCn zF8 ⟨v,w0.ld1 ia I zM rfl,KP (sl.ext w0.ex0) hl h1 e ⟨_,rfl,_,w0.ld1 ib K nF rfl,_,(g 0 L0 h D w0).len nF rfl,λtm hs=>?_⟩⟩;refine wpC.round (λk tm h'=>∃(i:Nat) (L:List (Nat×O)),i<=ys.length/\k=ys.length-i/\J i L/\Vw zH hb h' (c i) L/\Has tm [(12,dh i),(11,dh ys.length),(10,.slice bv 0 ys.length (.skip 0)),(0,.yield lp),(5,dh (xu (yQ l) ys i:Nat)),(4,dh (yQ l:Nat))]) ys.length ⟨0,L0,dd,dd,D,w0,hs.sub de⟩ ?_;clear hs;rintro k tm h' ⟨i,L,y,rfl,A,w,hs⟩;have tw:=w.top;have S:=M i y;refine cg zCn hs ⟨λU=>?_,λU=>λB n=>?_⟩
 .have hi:i<ys.length:=dd
  have W:=hr _ (oV hi);obtain⟨b,o,X,Y,_⟩:=(g i L h' A w).atA (cx:=zB) (ys:=[dh ys[i].1,dh ys[i].2]) hi nF rfl fR rfl rfl dg rfl (FB ys i hi);refine⟨b,o,X,_,_,Y,dd,?_⟩;rintro x h5 rfl Z;have E:=w.new Z dd;have t5:=E.top;obtain⟨C,e6,F,n6,_⟩:=E.st (cx:=zB) 0 (t:=372) (f:=0) (u:=.agg [dh ys[i].1,dh ys[i].2]) (cs':=.ls [dh ys[i].1,dh ys[i].2]) rfl dd fR rfl;refine⟨C,e6,_,_,F.ldA 0 rfl fR rfl,?_⟩;show RR P lp [.agg [dh ys[i].1,dh ys[i].2],dh (xu (yQ l) ys i:Nat)] C _;refine RR.mono (d i L C _ hi A F) ?_;rintro r h2 ⟨rfl,L',j2,G⟩;have hp:2^(yQ l-ys[i].2.toNat)<=2^11:=Nat.pow_le_pow_right dg dd;have hpl:=lu hm ys i;have q:wI .shl .i64 1 (zb (((yQ l:Nat):Int)-ys[i].2))=some (dh (1*2^(yQ l-ys[i].2.toNat):Nat)):=by rw[zD dd dd,show((yQ l:Nat):Int)-ys[i].2=((yQ l-ys[i].2.toNat:Nat):Int)by omega];exact zr (a:=1) dd dd
  refine JD (⟨_,G.ld1 0 rfl zX rfl,_,q,λB n=>⟨rfl,rfl,ys.length-(i+1),dd,i+1,L',dd,rfl,j2,G.drop 1,?_⟩⟩);have ew:zb (((xu (yQ l) ys i:Nat):Int)+((1*2^(yQ l-ys[i].2.toNat):Nat):Int))=((xu (yQ l) ys (i+1):Nat):Int):=by rw[Xd hi,Nat.one_mul];clear q;generalize 2^(yQ l-ys[i].2.toNat)=z at hp ⊢;rw[zD dd dd];omega
  rw[<-zf,<-ew];exact n.sub de
 have hi:i=ys.length:=dd
 subst hi;show endW zB ⟨29,[],bf 336⟩ Q (exitB 0 (.exit 0)) _;rw[xM];exact N L h' A w
theorem fp:∀k:Nat,xm [dh 0,dh 0] k=Y4 (List.replicate k ((0:Int),(0:Int)))
 | 0=>rfl
 | k+1=>by show[dh 0,dh 0]++xm [dh 0,dh 0] k=_;rw[fp k];rfl
theorem Sh{k:Nat}(e:k<=256)(f:h.nx<T.top):∃cs,Z7 zB 253 (dh k) (dh k) h=some (.slice h.nx 0 k (.exact k),h.new (yV cs))/\Row cs (k*2) (Y4 (List.replicate k ((0:Int),(0:Int)))):=by
 have a:(Y4 (List.replicate k ((0:Int),(0:Int)))).length=k*2:=by rw[YU,List.length_replicate]
 obtain⟨cs,c,h2⟩:=Cs.ofL_some (l:=Y4 (List.replicate k ((0:Int),(0:Int)))) dd;obtain⟨h3,h4⟩:=Cs.ofL_eq c;refine⟨cs,?_,h2,dd,a,λi _=>h4 i⟩;unfold Z7;have d:ya (k:Int)=some k:=rfl;simp only[d,uN,Y6];rw[oE (oR k),oE (show k<=4294967296 by omega),oE (show 16*k<=1099511627776 by omega)];show(match kJ h (Cs.ofL (xm [dh 0,dh 0] k)) ⟨0,0,0⟩ false with|some (b,h')=>some (V.slice b 0 k (.exact k),h')|none=>none)=_
 grind[kJ,fp,zW]
theorem Ce(out:List (Int×Int)){j:Nat}(a b:Int)(c:j<out.length)(t:Nat):(Y4 (out.set j (a,b)))[t]? = if j*2<=t/\t<j*2+2 then [dh a,dh b][t-j*2]? else (Y4 out)[t]?:=by
 induction out generalizing j t with
 | nil=>grind
 | cons x out ih =>
  have ex:∀(y:Int×Int) (o:List (Int×Int)),Y4 (y::o) = dh y.1 :: dh y.2::Y4 o:=λ_ _=>rfl
  cases j<;>grind
theorem _root_.Go.Sim.Vw.setP{S:Nat->Prop}{hb h:H}{c p:Nat}{l:List (Nat×O)}(w:Vw S hb h c l)(i:Nat){cs:Cs}{k:Rk}{op:Bool}{out:List (Int×Int)}{j e:Nat}{te:TI}{a b:Int}(r:Row cs (out.length*2) (Y4 out))(hi:l[i]? = some (p,.cells cs k true op))(n:h.nx<=T.top)(q:j<out.length)(B:k.fz=0)(s:zB.ty.get e=some te)(hs:te.size=2):
  ∃h' cs',jP zB e h (.ptr p (j*2)) (.agg [dh a,dh b])=some h'/\Row cs' (out.length*2) (Y4 (out.set j (a,b)))/\Vw S hb h' c (l.set i (p,.cells cs' k true op))/\h'.nx=h.nx:=by
 obtain⟨cs',d,v⟩:=Cs.put_some (cs:=cs) r.1 (o:=j*2) (vs:=[dh a,dh b]) (by rw[r.2.1];grind);obtain⟨_,p3,x⟩:=Cs.put_eq d;obtain⟨h',y,z,n1,_⟩:=w.st (cx:=zB) i (t:=e) (f:=j*2) (u:=.agg [dh a,dh b]) (cs':=cs') hi n s d (zx.2 (by rw[hs];rfl)) dd rfl;refine⟨h',cs',y,⟨v,by rw[p3,r.2.1],by rw[YU,ox],λt A=>?_⟩,z,n1⟩;rw[x,Ce out a b q t];show(if j*2<=t/\t<j*2+2 then [dh a,dh b][t-j*2]? else cs.get? t)=_;by_cases g:j*2<=t/\t<j*2+2
 .grind
 rw[if_neg g,if_neg g];exact r.2.2.2 t A
def vS(m n:Nat)(ys:List (Int×Int)):Nat->List (Int×Int)
 | 0=>List.replicate n (0,0)
 | i+1=>match ys[i]? with
  | some p=>(vS m n ys i).set p.1.toNat (p.2,((xu m ys i/2^(m-p.2.toNat):Nat):Int))
  | none=>vS m n ys i
theorem XA(m n:Nat)(ys:List (Int×Int)):∀i,(vS m n ys i).length=n
 | 0=>List.length_replicate
 | i+1=>by
  unfold vS;split
  .rw[ox];exact XA m n ys i
  exact XA m n ys i
theorem r8{n:Nat}(hi:i<ys.length):vS m n ys (i+1)=(vS m n ys i).set ys[i].1.toNat (ys[i].2,((xu m ys i/2^(m-ys[i].2.toNat):Nat):Int)):=by
 show(match ys[i]? with|some p=>_|none=>_)=_
 grind
def Yc(l:Ub):List (Int×Int):=vS (yQ l) l.length (yW jW (yA l)) (yW jW (yA l)).length
theorem QI(l:Ub):(Yc l).length=l.length:=XA _ _ _ _
theorem XO:∀{l:Ub}{i:Nat}{p:Int×Int},p∈qQ i l->∃k,k<l.length/\p.1=((i+k:Nat):Int)/\l[k]? = some p.2/\0<p.2
 | [],_,_,h=>by cases h
 | x::l,i,p,h=>by
  rw[qQ]at h;rcases List.mem_append.1 h with h|h
  .grind
  obtain⟨k,a,h2,h3,h4⟩:=XO h;exact⟨k+1,by grind,dd,h3,h4⟩
theorem _root_.Go.Sim.Row.sl2{n:Nat}{cp:Cap}{cs:Cs}{k:Rk}{w op:Bool}{xs:Ug}(r:Row cs (n*2) xs)(hb:b<h.nx)(a:h.get b=some (.cells cs k w op)):Sl h (.slice b 0 n cp) 2 n xs :=
 ⟨r.2.2.1,.inr ⟨b,0,cp,cs,k,w,op,rfl,hb,a,λi hi=>by rw[Nat.zero_add];exact r.2.2.2 i hi⟩⟩
theorem Tz{n j:Nat}{cp:Cap}(a:j<n):xK zB 253 (.slice b 0 n cp) (dh j)=some (.ptr b (j*2)):=by unfold xK;have c:ya (j:Int)=some j:=rfl;simp only[c,uN,Y6,(zW _ _).2 a,oN,Nat.zero_add]
theorem TK:∀(l:Ub) (i:Nat),(qQ i l).length=Xq l
 | [],_=>rfl
 | x::l,i=>by
  rw[qQ,oW,TK l (i+1)];unfold Xq;by_cases c:0<x
  .rw[if_pos c,List.filter_cons_of_pos (by simpa using c),oc];simp;omega
  rw[if_neg c,List.filter_cons_of_neg (by simpa using c)];simp
theorem Jg{p:Int×Int}(h:p∈yW jW (yA l)):∃k,k<l.length/\p.1=((k:Nat):Int)/\l[k]? = some p.2/\0<p.2:=by have:=XO ((jh qO (yA l)).1.mem_iff.1 h);simpa using this
theorem NC{v:V}(sl:Sl h v 1 l.length (zI l))(hg:yk l)(hn:h.nx+1200<=T.top)(hlow:h.low<=T.top)(n:∀h' v',Ext h h' 1100->Sl h' v' 2 l.length (Y4 (Yc l))->(∀b,z6 v'=some b->h.nx<=b)->Q (.tuple [v',.int .i64 0]) h'):RF P zB 297 [v] h Q:=by
 obtain⟨hl,y,hc2,z⟩:=id hg;have hm:=ZY y;have hcl:=Yl l;have h1:0<l.length:=dd
 have hsy:0<(yA l).length:=by rw[TK,K8 y];omega
 have F:(yW jW (yA l)).length=(yA l).length:=(jh qO (yA l)).1.length_eq;have hle:(yA l).length<=l.length:=Km l 0;have hr:∀p∈yW jW (yA l),1<=p.2/\p.2<=yQ l:=λp hp=>by obtain⟨k,k1,k2,k3,U⟩:=Jg hp;exact⟨dd,ZX (List.mem_of_getElem? k3)⟩
 refine zh E7 zFA (eX sl hg dd ⟨_,rfl,λq=>absurd rfl q,λ_=>KP sl hl h1 y ⟨_,rfl,rfl,dd,?_⟩⟩);rintro p6 h7 rfl e7;have w7:=(Vw.nil (S:=zH) (h:=h)).new e7 dd;have t7:=w7.top;obtain⟨x,e8,W,n8,_⟩:=w7.st (cx:=zB) 0 (t:=3) (f:=0) (u:=.int .i64 (yQ l:Nat)) (cs':=.ls [.int .i64 (yQ l:Nat)]) rfl dd zX rfl;have t8:=W.top;obtain⟨A,em,G⟩:=Sh (k:=l.length) (h:=x) hl dd;have H:=W.new (h':=x.new (yV A)) rfl dd;have t11:=H.top;refine⟨x,e8,_,(sl.ext W.ex0).len zM rfl,_,_,em,rfl,dd,?_⟩;rintro p12 h13 rfl e13;have I:=H.new e13 dd;have t13:=I.top;obtain⟨J,e14,d,n14,_⟩:=I.st (cx:=zB) 0 (t:=253) (f:=0) (u:=.slice x.nx 0 l.length (.exact l.length)) (cs':=.ls [.slice x.nx 0 l.length (.exact l.length)]) rfl dd uN rfl;have t14:=d.top;refine⟨J,e14,RA (sl.ext d.ex0) hl hsy dd λe X cs Y pb wr K=>⟨_,rfl,λtm hs=>?_⟩⟩;have M:=K;rw[F]at M;have N:=d.ext wr.ex0;have t16:=N.top;obtain⟨k1,k2,k3,U,k5,k6,Z,k8,k9,_⟩:=wr.bk;have C:J.nx<=Y:=by rcases k8 with g|g;exact g.elim;exact g
 have l14:=d.le;have wA:=N.push (p:=Y) (o:=oX v) (λq n=>oL (d.bk.lt q n) C) dd dd k9;have wB:=wA.push (p:=pb) (o:=oY (.slice X 0 (yW jW (yA l)).length (.skip 0))) (λq n=>by
  rcases oq.1 n with rfl|n
  .exact Z
  exact Nat.lt_trans (oL (d.bk.lt q n) C) Z) dd dd k6
 have wC:=wB.push (p:=X) (o:=.cells cs (xD AU) true true) (λq n=>by
  rcases oq.1 n with rfl|n
  .exact U
  rcases oq.1 n with rfl|n
  .exact Nat.lt_trans Z U
  exact Nat.lt_trans (Nat.lt_trans (oL (d.bk.lt q n) C) Z) U) k1 dd k3
 refine Vw.range (s:=⟨37,tm,[],e⟩) wC (captured:=[.ptr Y 0,.ptr pb 0]) (show yt tm (t 20)=_ from congrArg some (hs.get rfl)) (by show e.nx+2<=_;omega) λh17 w17 n17=>?_
 refine W5 (ys:=yW jW (yA l)) (ia:=4) (ib:=3) (iv:=2) (c:=λi=>519+2*i)
  (λi L=>∃r,L=[(e.nx+1,.loop .ready none 37 tm #[21,22] Am zAZ e.nx),(e.nx,.deferred true),(X,.cells cs (xD AU) true true),(pb,oY (.slice X 0 (yW jW (yA l)).length (.skip 0))),(Y,oX v),
   ((x.new (yV A)).nx,.cells (.ls [.slice x.nx 0 l.length (.exact l.length)]) ⟨0,254,0⟩ true false),(x.nx,yV r),(h.nx,.cells (.ls [.int .i64 (yQ l:Nat)]) ⟨0,4,0⟩ true false)]/\Row r (l.length*2) (Y4 (vS (yQ l) l.length (yW jW (yA l)) i)))
  hl h1 y dd hr ⟨A,rfl,G⟩ (w17.more dd) sl rfl rfl (λi L j=>by obtain⟨r,rfl,_⟩:=j;rfl) K (λi hi=>dd) (λi L h' p4 hi j w=>?_) λL h' j w=>?_
 .obtain⟨r,rfl,r1⟩:=j;have tw:=w.top;obtain⟨k,q1,q2,q3,q4⟩:=Jg (oV hi);have hri:=hr _ (oV hi);have hpl:=lu hm (yW jW (yA l)) i;have O:=XA (yQ l) l.length (yW jW (yA l)) i;refine w.roundA (il:=1) (il2:=2) (c':=519+2*(i+1)) rfl dd (hs.sub (l':=[(6,.ptr (x.new (yV A)).nx 0),(5,.ptr h.nx 0)]) de) rfl λtm0 hs0=>?_
  refine cg E7 hs0 ⟨dd,?_⟩;rintro p0 h1' rfl e1;have wa:=w.new e1 dd;have ta:=wa.top;obtain⟨h2,e2,w2,n2,_⟩:=wa.st (cx:=zB) 0 (t:=372) (f:=0) (u:=.agg [.int .i64 (yW jW (yA l))[i].1,.int .i64 (yW jW (yA l))[i].2]) (cs':=.ls [.int .i64 (yW jW (yA l))[i].1,.int .i64 (yW jW (yA l))[i].2]) rfl dd fR rfl;refine⟨h2,e2,λtm1 hs1=>⟨rfl,rfl,rfl,_,_,w2,by show h2.nx<=_;omega,rfl,λh3 B n3=>?_⟩⟩;have t3:=B.top;have l3:=B.low;obtain⟨h4,cs2,e4,r2,w4,n4⟩:=B.setP 8 (out:=vS (yQ l) l.length (yW jW (yA l)) i) (j:=k) (a:=(yW jW (yA l))[i].2) (b:=((xu (yQ l) (yW jW (yA l)) i/2^(yQ l-(yW jW (yA l))[i].2.toNat):Nat):Int)) (by rw[O];exact r1) rfl dd dd rfl Y6 rfl;have hsh:wI .shr .i64 ((xu (yQ l) (yW jW (yA l)) i:Nat):Int) (zb (((yQ l:Nat):Int)-(yW jW (yA l))[i].2))=some (.int .i64 ((xu (yQ l) (yW jW (yA l)) i/2^(yQ l-(yW jW (yA l))[i].2.toNat):Nat):Int)):=by rw[zD dd dd,show((yQ l:Nat):Int)-(yW jW (yA l))[i].2=((yQ l-(yW jW (yA l))[i].2.toNat:Nat):Int)by omega];exact jZ dd
  refine cg E7 hs1 ⟨⟨dd,dd⟩,_,B.ld1 7 rfl uN rfl,?_⟩;refine⟨_,B.ld1 0 rfl zX rfl,?_⟩;refine⟨_,B.ld1 0 rfl zX rfl,_,B.ld1 9 rfl zX rfl,?_⟩;refine⟨_,B.ld1 0 rfl zX rfl,_,hsh,x.nx,k*2,by rw[q2];exact Tz q1,h4,e4,λD z=>⟨rfl,rfl,_,w4,by show h4.nx<=_;omega,rfl,λh5 w5 n5 _=>⟨rfl,_,⟨cs2,rfl,?_⟩,(w5.drop 1).more dd⟩⟩⟩;rw[r8 hi,q2,oe];rw[O]at r2;exact r2
 obtain⟨r,rfl,r1⟩:=j;have tw:=w.top;refine⟨_,_,w,dd,λh9 o w9 n9 _=>?_⟩;show Wf E7 zBW ⟨37,tm,[.coll e.nx],h9⟩ _;refine sg hs ⟨_,w9.ld1 5 rfl uN rfl,λD z=>?_⟩;show Kr [.coll e.nx] h9 _;refine w9.ends (i:=1) rfl dd λR E n10 _=>?_
 show Q (V.tuple [zq D 2,zq D 3]) R;rw[z.get (t:=2) rfl,z.get (t:=3) rfl];exact n R _ (E.ex0.mono dd) (r1.sl2 (E.lt 6 rfl) (E.get 6 rfl)) λb hb=>by cases hb;have:=W.le;omega
theorem B9{v:Nat}:∀k,k<=ys.length->v<xu m ys k->∃i,∃hi:i<ys.length,xu m ys i<=v/\v<xu m ys i+2^(m-ys[i].2.toNat)
 | 0,_,h=>by simp[xu]at h
 | k+1,a,h=>by
  by_cases c:v<xu m ys k
  .exact B9 k dd c
  rw[Xd]at h;exact⟨k,dd,dd,h⟩
theorem D3{l:Uf}{d:Nat}(h:∀x∈l,d ∣ x):d ∣ l.sum:=by
 induction l with
 | nil=>simp
 | cons x l ih=>rw[List.sum_cons];exact Nat.dvd_add (h x (by simp)) (ih λy a=>h y (by simp[a]))
theorem B8(hs:ys.Pairwise λx y=>y.2<=x.2)(a:xu m ys ys.length=2^m)(hi:i<ys.length):2^(m-ys[i].2.toNat) ∣ xu m ys i:=by
 have e:xu m ys i+((ys.drop i).map λp=>2^(m-p.2.toNat)).sum=2^m:=by rw[<-a];unfold xu;rw[<-List.sum_append,<-List.map_append,List.take_append_drop,List.take_length]
 have hd:2^(m-ys[i].2.toNat) ∣ ((ys.drop i).map λp=>2^(m-p.2.toNat)).sum:=by
  apply D3;intro x c;obtain⟨p,hp,rfl⟩:=List.mem_map.1 c;apply Nat.pow_dvd_pow;obtain⟨j,d,rfl⟩:=List.getElem_of_mem hp;rw[List.getElem_drop];rw[List.length_drop]at d;have:ys[i+j].2<=ys[i].2:=by
   rcases j with _|j
   .exact oU _
   exact(List.pairwise_iff_getElem.1 hs) i (i+(j+1)) hi dd dd
  omega
 have h2:2^(m-ys[i].2.toNat) ∣ 2^m:=Nat.pow_dvd_pow _ dd;rw[<-e]at h2;exact(Nat.dvd_add_left hd).1 h2
theorem zFj(hs:ys.Pairwise λx y=>y.2<=x.2)(a:xu m ys ys.length=2^m){v:Nat}(d:v<2^m):∃i,∃hi:i<ys.length,v/2^(m-ys[i].2.toNat)=xu m ys i/2^(m-ys[i].2.toNat):=by
 obtain⟨i,hi,c,h2⟩:=B9 (v:=v) ys.length (oR _) (by rw[a];exact d);refine⟨i,hi,?_⟩;obtain⟨q,e⟩:=B8 hs a hi;rw[e]at c h2 ⊢;have hp:0<2^(m-ys[i].2.toNat):=Nat.pow_pos dg;rw[Nat.mul_div_cancel_left _ hp];apply Nat.div_eq_of_lt_le
 .rw[Nat.mul_comm];exact c
 rw[Nat.succ_mul,Nat.mul_comm];exact h2
theorem fe(l:Ub):(yW jW (yA l)).Pairwise λx y=>y.2<=x.2:=by refine(jh qO (yA l)).2.imp λ{x y} h=>?_;rw[Qq,decide_eq_false_iff_not]at h;omega
theorem PU:∀(l:Ub) (i:Nat),(qQ i l).Pairwise λx y=>x.1<y.1
 | [],_=>List.Pairwise.nil
 | x::l,i=>by
  rw[qQ];refine List.pairwise_append.2 ⟨by split<;>simp,PU l (i+1),λa c b hb=>?_⟩;split at c
  .rw[List.mem_singleton.1 c];obtain⟨k,_,h2,_⟩:=XO hb;rw[h2];show(i:Int)<_;omega
  cases c
theorem uY(l:Ub):((yW jW (yA l)).map Prod.fst).Nodup:=by
 have hp:=(jh qO (yA l)).1.map Prod.fst;refine hp.nodup_iff.2 ?_;try dsimp only
 rw[List.nodup_iff_pairwise_ne,List.pairwise_map];exact(PU l 0).imp λh=>Int.ne_of_lt h
theorem qX(m:Nat):∀(l:Ub) (i:Nat),(∀x∈l,0<=x)->ym m l=((qQ i l).map λp=>2^(m-p.2.toNat)).sum
 | [],_,_=>rfl
 | x::l,i,h=>by
  have d:=h x (by simp);rw[qQ,List.map_append,List.sum_append,<-qX m l (i+1) λy a=>h y (by simp[a])];have e:ym m (x::l)=lone m x+ym m l:=by simp[ym]
  rw[e];congr 1;unfold lone;by_cases c:0<x
  .rw[if_pos dd,if_pos c];simp
  rw[if_neg dd,if_neg c];rfl
theorem Rl{l:Ub}(f:yk l):xu (yQ l) (yW jW (yA l)) (yW jW (yA l)).length=2^yQ l:=by
 obtain⟨_,a,_,hs⟩:=f;have hm:=ZY a;have e:∀m,xu m (yW jW (yA l)) (yW jW (yA l)).length=ym m l:=λm=>by unfold xu;rw[List.take_length,qX m l 0 λx d=>(yq a d).1];exact((jh qO (yA l)).1.map _).sum_nat
 rw[e];have c:ym (yQ l) l*2^(11-yQ l)=ym 11 l:=by
  rw[qX _ l 0 λx d=>(yq a d).1,qX _ l 0 λx d=>(yq a d).1];have hr:∀p∈qQ 0 l,p.2.toNat<=yQ l:=λp hp=>by obtain⟨k,_,_,g,_⟩:=XO hp;have:=ZX (List.mem_of_getElem? g);omega
  generalize qQ 0 l=z at hr;induction z with
  | nil=>simp
  | cons p z ih=>have j:=hr p (by simp);rw[List.map_cons,List.sum_cons,List.map_cons,List.sum_cons,Nat.add_mul,ih λq h=>hr q (by simp[h]),<-Nat.pow_add];congr 2;omega
 rw[hs]at c;have:2^yQ l*2^(11-yQ l)=2048:=by rw[<-Nat.pow_add,show yQ l+(11-yQ l)=11 by omega]
 exact Nat.eq_of_mul_eq_mul_right (Nat.pow_pos dg) (c.trans this.symm)
theorem bE{n:Nat}(hd:(ys.map Prod.fst).Nodup)(hr:∀p∈ys,0<=p.1/\p.1<n):∀k,k<=ys.length->∀i,∀_:i<k,∀a:i<ys.length,(vS m n ys k)[ys[i].1.toNat]? = some (ys[i].2,((xu m ys i/2^(m-ys[i].2.toNat):Nat):Int))
 | 0,_,i,hi,_=>dd
 | k+1,g,i,hi,a=>by
  have d:k<ys.length:=dd
  rw[r8 d];have h:=hr _ (oV d);have h2:=hr _ (oV a);by_cases c:i=k
  .subst c;rw[List.getElem?_set_self (by rw[XA];omega)]
  have f:ys[k].1≠ys[i].1:=λe=>by rw[List.nodup_iff_pairwise_ne,List.pairwise_iff_getElem]at hd;have:=hd i k (by simpa using a) (by simpa using d) dd;simp only[List.getElem_map]at this;exact this e.symm
  rw[og];exact bE hd hr k dd i dd a
def Xz(cs:List (Int×Int))(b v:Nat):Nat->Option Nat
 | 0=>none
 | i+1=>if cs[i]? = some ((b:Int),(v:Int)) then some i else Xz cs b v i
theorem J2{cs:List (Int×Int)}{v:Nat}(h:cs[i]? = some ((b:Int),(v:Int))):∀n,i<n->Xz cs b v n≠none
 | 0,a=>dd
 | n+1,a=>by
  unfold Xz;by_cases c:cs[n]? = some ((b:Int),(v:Int))
  .rw[if_pos c];simp
  rw[if_neg c];have:i≠n:=λe=>c (e ▸ h)
  exact J2 h n dd
theorem Vo{cs:List (Int×Int)}{v x:Nat}:∀n,Xz cs b v n=some x->x<n
 | 0,h=>by cases h
 | n+1,h=>by
  unfold Xz at h;split at h
  .cases h;omega
  have:=Vo n h;omega
abbrev Y3(l:Ub)(b v:Nat):Option Nat:=Xz (Yc l) b v l.length
structure Bts (l:Ub) (bits w:Nat):Prop where
 lt:bits<yQ l
 val:w<2^bits
 no:∀k,1<=k->k<=bits->Y3 l k (w/2^(bits-k))=none
theorem Bts.zero(c:yk l):Bts l 0 0:=⟨by
 obtain⟨_,a,e,_⟩:=c;by_cases h0:yQ l=0
 .exfalso;have:Xq l=0:=by
   unfold Xq;rw[List.length_eq_zero_iff,List.filter_eq_nil_iff];intro x d;have:=ZX d;simp;omega
  rw[K8 a]at this;omega
 omega,by simp,λk f h2=>dd⟩
theorem Bts.step{l:Ub}(f:yk l){bits val b:Nat}(h:Bts l bits val)(hb:b<2)(j:Y3 l (bits+1) (2*val+b)=none):Bts l (bits+1) (2*val+b):=by
 have g:2*val+b<2^(bits+1):=by have:=h.val;rw[Nat.pow_succ];omega
 have no:∀k,1<=k->k<=bits+1->Y3 l k ((2*val+b)/2^(bits+1-k))=none:=λk o h2=>by
  by_cases c:k=bits+1
  .subst c;simpa using j
  have e:(2*val+b)/2^(bits+1-k)=val/2^(bits-k):=by rw[show bits+1-k=(bits-k)+1 by omega,Nat.pow_succ',<-Nat.div_div_eq_div_mul];congr 1;omega
  rw[e];exact h.no k o dd
 refine⟨?_,g,no⟩;have q:=h.lt;by_cases c:bits+1<yQ l
 .exact c
 exfalso;have em:bits+1=yQ l:=dd
 obtain⟨hl,r,_,_⟩:=id f;obtain⟨i,hi,s⟩:=zFj (fe l) (Rl f) (v:=2*val+b) (by rw[<-em];exact g);obtain⟨k,t,u,w,y⟩:=Jg (oV hi);have x:=ZX (List.mem_of_getElem? w);have hr:∀p∈yW jW (yA l),0<=p.1/\p.1<l.length:=λp hp=>by obtain⟨k,t,u,_⟩:=Jg hp;omega
 have a:=bE (m:=yQ l) (n:=l.length) (uY l) hr _ (oR _) i hi hi;rw[<-s]at a;have d:((yW jW (yA l))[i].2.toNat:Int)=(yW jW (yA l))[i].2:=dd
 refine J2 (cs:=Yc l) (b:=(yW jW (yA l))[i].2.toNat) (v:=(2*val+b)/2^(yQ l-(yW jW (yA l))[i].2.toNat)) (i:=(yW jW (yA l))[i].1.toNat) (by rw[d];exact a) l.length dd ?_;try dsimp only
 rw[<-em];exact no _ dd dd
def wU(s:Ua)(l:Ub)(n:Nat):Nat->Nat->Nat->Ua->List UInt8×Int
 | 0,_,_,out=>if n<=out.length then (out,0) else ([],22)
 | left+1,bits,val,out=>if n<=out.length then ([],22) else
  match Y3 l (bits+1) (2*val+xH s (left+1) 1)with
  | some x=>wU s l n left 0 0 (out++[UInt8.ofNat x])
  | none=>wU s l n left (bits+1) (2*val+xH s (left+1) 1) out
def qn(s:Ua)(l:Ub)(n:Nat):List UInt8×Int:=if yH s<0 then ([],22) else wU s l n (yH s).toNat 0 0 []
def aH(p:Int×Int):V:=.agg [dh p.1,dh p.2]
def lQ(n:Int):V:=.int .u8 n
theorem GH(a b:Int×Int):pD zB 30 257 (aH a) (aH b)=some (decide (a=b)):=by
 have e:pD zB 30 257 (aH a) (aH b)=(match some (sS a.1 b.1)with|some true=>(match some (sS a.2 b.2)with|some true=>some true|r=>r)|r=>r):=de
 rw[e,X3,X3];by_cases c:a.1=b.1
 .by_cases d:a.2=b.2
  .grind
  rw[decide_eq_true c,decide_eq_false d,decide_eq_false (p:=a=b) λg=>d (by rw[g])]
 rw[decide_eq_false c,decide_eq_false (p:=a=b) λg=>c (by rw[g])]
theorem GF(a b:Int):pD zB 30 5 (lQ a) (lQ b)=some (decide (a=b)):=by
 have e:pD zB 30 5 (lQ a) (lQ b)=some (sS a b):=de
 rw[e,X3]
theorem Qj(a:Int×Int):Xn zB 257 (aH a)=true:=de
theorem Qi(a:Int):Xn zB 5 (lQ a)=true:=de
theorem sU(a:Int):sS a a=true:=by grind[X3]
theorem GI(a:Int×Int):Y5 (aH a) (aH a)=true:=by show(rn (dh a.1) (dh a.1) && (rn (dh a.2) (dh a.2) && true))=true;show((jy .i64 .i64 && sS a.1 a.1) && ((jy .i64 .i64 && sS a.2 a.2) && true))=true;rw[sU,sU];rfl
theorem GG(a:Int):Y5 (lQ a) (lQ a)=true:=by show(jy .u8 .u8 && sS a a)=true;rw[sU];rfl
abbrev oCd(a b:Int):O:=.cells (.ls [dh a,dh b]) ⟨0,258,0⟩ true false
def QD(l:Ub):Nat->List ((Int×Int)×V)
 | 0=>[]
 | i+1=>match (Yc l)[i]? with
  | some p=>if 0<p.1 then ri (QD l i) p (lQ i) else QD l i
  | none=>QD l i
theorem au(l:Ub)(b v:Nat)(hb:0<b):∀n,Tn (QD l n) ((b:Int),(v:Int))=(Xz (Yc l) b v n).map λx:Nat=>lQ (x:Int)
 | 0=>rfl
 | i+1=>by
  have ih:=au l b v hb i;unfold QD Xz;cases a:(Yc l)[i]? with
  | none=>grind
  | some p =>
   simp only[oA];by_cases c:p=((b:Int),(v:Int))
   .subst c;rw[if_pos dd,bB,if_pos rfl,if_pos rfl];rfl
   rw[if_neg c];by_cases c2:0<p.1
   .rw[if_pos c2,bB,if_neg (λe=>c e.symm)];exact ih
   grind
def IU(l:Ub):Nat->List (Int×V)
 | 0=>[]
 | i+1=>match (Yc l)[i]? with
  | some p=>if 0<p.1 then ri (IU l i) (i:Int) (.agg [dh p.1,dh p.2]) else IU l i
  | none=>IU l i
theorem Iz(hi:i<(Yc l).length):QD l (i+1)=if 0<(Yc l)[i].1 then ri (QD l i) ((Yc l)[i].1,(Yc l)[i].2) (lQ i) else QD l i:=by show(match (Yc l)[i]? with|some p=>_|none=>_)=_;rw[oQ hi]
theorem Iy(hi:i<(Yc l).length):IU l (i+1)=if 0<(Yc l)[i].1 then ri (IU l i) (i:Int) (.agg [dh (Yc l)[i].1,dh (Yc l)[i].2]) else IU l i:=by show(match (Yc l)[i]? with|some p=>_|none=>_)=_;rw[oQ hi]
theorem uH{v:V}{l:Ub}(sl:Sl h v 1 l.length (zI l))(hg:yk l)(hn:h.nx+1600<=T.top)(y:h.low<=T.top)(hq:∀h' J e,Ext h h' 1400->h.nx<=J->J<e->e<h'.nx->MapG lQ h' J (IU l l.length)->MapG aH h' e (QD l l.length)->Q (.tuple [.map J,.map e]) h'):RF P zB 263 [v] h Q:=by
 have hl:=hg.1;have hcl:=QI l;refine zh zC2 zEc (NC sl hg dd y λa v2 K s2 hv2=>⟨_,_,rfl,?_⟩);have t1:=K.top;have l1:=K.low;have le1:=K.le;have w5:=(Vw.nil (S:=zH) (h:=a)).new (h':=a.new (.map [] 0)) rfl dd;have n5:(a.new (.map [] 0)).nx=a.nx+1:=zC _ _;have L:=w5.new (h':=(a.new (.map [] 0)).new (.map [] 0)) rfl dd;have z:MapG aH ((a.new (.map [] 0)).new (.map [] 0)) (a.new (.map [] 0)).nx []:=MapG.new dd;have A:MapG lQ ((a.new (.map [] 0)).new (.map [] 0)) a.nx []:=(MapG.new (kv:=lQ) (h:=a) dd).mono ((L.get 1 rfl).trans (w5.get 0 rfl).symm);refine⟨_,_,ZB rfl,_,_,ZB rfl,_,(s2.ext L.ex0).len uN rfl,λtm hs=>?_⟩;have B:a.nx<(a.new (.map [] 0)).nx:=dd
 generalize (a.new (.map [] 0)).nx=e at *;generalize (a.new (.map [] 0)).new (.map [] 0)=h7 at *;refine wpC.round (λk tm h'=>∃(i:Nat) (R U:O),i<=l.length/\k=l.length-i/\Vw zH a h' (2+i) [(e,U),(a.nx,R)]/\MapG aH h' e (QD l i)/\MapG lQ h' a.nx (IU l i)/\Has tm [(19,dh i),(18,dh l.length),(17,v2),(6,.map a.nx),(7,.map e)]) l.length ⟨0,_,_,dd,dd,L,z,A,hs.sub de⟩ ?_;clear hs z A L;rintro k tm h' ⟨i,R,U,hi0,rfl,w,z,A,hs⟩;have tw:=w.top;have lw:=w.low;refine cg zC2 hs ⟨λc=>?_,λc=>λW r=>?_⟩
 .have hi:i<(Yc l).length:=dd
  obtain⟨b,o,e1,X,_⟩:=(s2.ext w.ex0).atA (cx:=zB) (ys:=[dh (Yc l)[i].1,dh (Yc l)[i].2]) (show i<l.length by omega) uN rfl Y6 rfl rfl dg rfl (FB (Yc l) i hi);have g:=Iz hi;have d:=Iy hi;generalize (Yc l)[i]=p at X g d;obtain⟨M,pb⟩:=p;simp only at X g d;refine⟨b,o,e1,_,_,X,dd,?_⟩;rintro p4 h5 rfl e5;have C:=w.new e5 dd;have t5:=C.top;obtain⟨s,e6,j,n6,_⟩:=C.st (cx:=zB) 0 (t:=257) (f:=0) (u:=.agg [dh M,dh pb]) (cs':=.ls [dh M,dh pb]) rfl dd Y6 rfl;have D:MapG aH s e (QD l i):=z.mono ((j.get 1 rfl).trans (w.get 0 rfl).symm);have E:MapG lQ s a.nx (IU l i):=A.mono ((j.get 2 rfl).trans (w.get 1 rfl).symm);have l6:=j.low;refine⟨s,e6,_,j.ld1 0 rfl zX rfl,λF=>?_,λF=>λW r=>⟨rfl,rfl,l.length-(i+1),dd,i+1,R,U,dd,rfl,(j.drop 1).more dd,?_,by rw[d,if_neg F];exact E,?_⟩⟩
  .obtain⟨k1,_,k3,k4,_,k6,k7,_,k9,_⟩:=j.bk;obtain⟨es,N,a8,m8⟩:=E.upd (t:=311) GF Qi GG T1 rfl dd (yD .u8 i) (.agg [dh M,dh pb]);have w8:=j.upd 2 (o':=.map es N) rfl dd;have G:MapG aH (s.upd a.nx (some (.map es N))) e _:=D.mono (zL _ dd dd);have n8:(s.upd a.nx (some (.map es N))).nx=s.nx:=rfl;generalize s.upd a.nx (some (.map es N))=H at a8 w8 m8 G n8;obtain⟨n,q,a9,Y⟩:=G.upd (t:=312) GH Qj GI AY rfl dd (M,pb) (lQ (yD .u8 i));have w9:=w8.upd 1 (o':=.map n q) rfl dd;have x:MapG lQ (H.upd e (some (.map n q))) a.nx _:=m8.mono (zL _ dd dd);have n9:(H.upd e (some (.map n q))).nx=H.nx:=rfl;generalize H.upd e (some (.map n q))=h9 at a9 w9 Y x n9;refine⟨de,⟨dd,dd⟩,_,_,j.ldA 0 rfl Y6 rfl,_,_,j.ldA 0 rfl Y6 rfl,dd,H,a8,h9,a9,λtm3 Z=>⟨rfl,rfl,l.length-(i+1),dd,i+1,_,_,dd,rfl,(w9.drop 1).more dd,?_,?_,?_⟩⟩
   .rw[g,if_pos F];rw[wy,ou]at Y;exact Y
   .rw[d,if_pos F];rw[wy,ou]at x;exact x
   rw[<-zf];exact Z.sub de
  .rw[g,if_neg F];exact D
  rw[<-zf];exact r.sub de
 have hi:i=l.length:=dd
 subst hi;refine thenC.left (sg r (λtm2 I=>?_));exact endW.r2 (I.get rfl) (I.get rfl) (hq h' _ _ ((K.trans w.ex0).mono dd) dd B (w.lt 0 rfl) A z)
theorem Lt{v:V}(sl:Sl h v 1 l.length (zI l))(g:yk l)(j:h.nx+1600<=T.top)(e:h.low<=T.top)(k:∀h' f d,Ext h h' 1400->h.nx<=d->d<h'.nx->MapG aH h' d (QD l l.length)->Q (.tuple [.map f,.map d]) h'):RF P zB 263 [v] h Q :=
 uH sl g j e λh' f d x a b c _ m=>k h' f d x dd c m
theorem Iv(s:Ua)(left:Nat):xH s left 1<2:=by have:=XX s left 1;simpa using this
theorem zAA{w:Nat}(hw:w<=2048)(hb:b<2):wI .shl .i64 (w:Int) 1=some (dh ((w*2^1:Nat):Int))/\wI .or .i64 ((w*2^1:Nat):Int) (zb (b:Int))=some (dh ((2*w+b:Nat):Int)):=by refine⟨zr (n:=1) dd dd,?_⟩;rw[zD dd dd,lj,Nat.or_comm,qC dd];congr 3;omega
theorem SS{k:Nat}{cs:Cs}{kk:Rk}{w op:Bool}(e:h.get b=some (.cells cs kk w op)):wZ zB 71 9 h (.slice b 0 0 (.exact k))=some (.str [],h):=by obtain⟨x,d⟩:=Cs.range_some (c:=cs) (o:=0) (k:=0) (oM _);have a:x=[]:=List.length_eq_zero_iff.1 (Cs.range_eq d).1;subst a;unfold wZ;rw[Je,xk];simp only[EC,e,d];rfl
theorem pP{v:V}{l:Ub}{s:Ua}{n:Nat}{h:H}{Q:Uc}(sl:Sl h v 1 l.length (zI l))(Y:yk l)(hs:s.length<=1500)(hn0:n<=131072)(hn:h.nx+60000<=T.top)(hlow:h.low<=T.top)(Z:Q (.tuple [.str (qn s l n).1,dh (qn s l n).2]) h):RF P zB 195 [v,.str s,dh n] h Q:=by
 refine RF.forget (n:=50000) (v:=.tuple [.str (qn s l n).1,dh (qn s l n).2]) ?_ (Z0 (yR _) (zN _ _)) Z;clear Z Q;have hm:=ZY Y.2.1;refine zh zCN zDv (Wc dd ?_);unfold AO;by_cases c:yH s<0
 .have hv:qn s l n=([],22):=by unfold qn;rw[if_pos c]
  rw[if_pos c];refine⟨_,_,_,rfl,dd,?_⟩;rintro p5 h6 rfl e6;have w6:=(Vw.nil (S:=zH) (h:=h)).new e6 dd;have t6:=w6.top;obtain⟨h7,e7,A,n7,_⟩:=w6.st (cx:=zB) 0 (t:=120) (f:=0) (u:=.agg [.str [],dh 0]) (cs':=.ls [.str [],dh 0]) rfl dd wK rfl;exact⟨h7,e7,λ_=>⟨by rw[hv],A.ex0.mono dd⟩,λg=>absurd (show(22:Int)≠0 by decide) g⟩
 have hz:=Yi s;obtain⟨a,B⟩:∃a:Nat,yH s=(a:Int):=⟨(yH s).toNat,dd⟩;have hv:qn s l n=wU s l n a 0 0 []:=by unfold qn;rw[if_neg c,B];rfl
 have hle0:a<=12000:=dd
 rw[if_neg c,B];refine⟨_,_,_,rfl,dd,?_⟩;rintro p5 h6 rfl e6;have w6:=(Vw.nil (S:=zH) (h:=h)).new e6 dd;have t6:=w6.top;obtain⟨h7,e7,A,n7,_⟩:=w6.st (cx:=zB) 0 (t:=120) (f:=0) (u:=brd s a) (cs':=.ls [.str s,dh a]) rfl dd wK rfl;have t7:=A.top;have l7:=A.low;refine⟨h7,e7,λg=>absurd rfl g,λ_=>Lt (sl.ext A.ex0) Y dd dd λh9 r6 r7 x9 q1 q2 m9=>⟨_,_,rfl,?_⟩⟩;obtain⟨es,cl,g9,F⟩:=m9;have w9:=(A.ext x9).push (p:=r7) (o:=.map es cl) (λq Z=>oL (A.bk.lt q Z) q1) q2 (by have:=A.le;omega) g9;have t9:=w9.top;obtain⟨v12,J,e13,ex13,x13,vb13⟩:=Ex.make (c:=zB) (h:=h9) (t:=71) (k:=n) Je rfl EC rfl rfl rfl dd (by show 1*n<=_;omega) dd;obtain⟨_,_,bo,cs0,rfl,hblt,hbg,hbw,hbl,_⟩:=ex13;have hbo:bo=h9.nx:=by cases vb13;rfl
 have K:=(w9.ext x13).push (p:=bo) (o:=.cells cs0 ⟨0,0,0⟩ true false) (λq Z=>by rw[hbo];exact w9.bk.lt q Z) hblt (by rw[hbo];exact w9.le) hbg;have t13:=K.top;refine⟨_,J,e13,dd,?_⟩;rintro p14 h15 rfl e15;have L:=K.new e15 dd;have t15:=L.top;obtain⟨h16,e16,M,n16,_⟩:=L.st (cx:=zB) 0 (t:=257) (f:=0) (u:=.agg [dh 0,dh 0]) (cs':=.ls [dh 0,dh 0]) rfl dd Y6 rfl;have t16:=M.top;refine⟨h16,e16,λtm C=>?_⟩;generalize G:wU s l n a 0 0 []=res at hv;rw[hv];refine wpC.round (λk tm h'=>∃(left bits val cc:Nat) (out:Ua) (cs:Cs),left=k/\out.length<=n/\cc+3*left<=1404+3*a/\left<=a/\Vw zH h h' cc [(J.nx,oCd bits val),(bo,.cells cs ⟨0,0,0⟩ true false),(r7,.map es cl),(h.nx,oBr s left)] /\
  RowE cs 1 out.length n (Jh out)/\Bts l bits val/\wU s l n left bits val out=res/\Has tm [(12,.slice bo 0 out.length (.exact n)),(2,dh n),(8,.ptr h.nx 0),(13,.ptr J.nx 0),(11,.map r7)]) a
  ⟨a,0,0,_,[],cs0,rfl,by simp,dd,oR _,M,⟨hbw,hbl,rfl,by simp,λi hi=>by simp at hi⟩,Bts.zero Y,G,C.sub de⟩ ?_
 clear C M L K w9 A w6 G;rintro k tm h' ⟨left,bits,val,cc,out,cs,rfl,hol,hcc,hll,w,row,bt,d,C⟩;have tw:=w.top;have hm7:MapG aH h' r7 (QD l l.length):=⟨es,cl,w.get 2 rfl,F⟩;have slo:Sl h' (.slice bo 0 out.length (.exact n)) 1 out.length (Jh out):=row.sl (w.lt 1 rfl) (w.get 1 rfl);have hb1:=bt.lt;have hb2:=bt.val;have hp:2^bits<=2^11:=Nat.pow_le_pow_right dg dd;refine cg zCN C ⟨_,slo.len Je rfl,λc1=>?_,λc1=>λN e=>?_⟩
 .have hlt:¬n<=out.length:=dd
  refine⟨s,left,w.ldA 3 rfl wK rfl,TU dd dd dg ?_⟩;unfold BH;cases left with
  | zero =>
   rw[if_neg dg];have hr:res=([],22):=by rw[<-d];unfold wU;rw[if_neg hlt]
   refine⟨_,_,_,_,rfl,dd,?_⟩;rintro p9 h10 rfl O;have y:=w.new O dd;have t10:=y.top;obtain⟨R,U,D,n11,_⟩:=y.st (cx:=zB) 0 (t:=120) (f:=0) (u:=.agg [.str [],dh 0]) (cs':=.ls [.str [],dh 0]) rfl dd wK rfl;refine⟨R,U,λ_=>λN e=>?_,λg=>absurd (show(5:Int)≠0 by decide) g⟩;exact thenC.rt (thenC.rt (endW.r2 (e.get rfl) (e.get rfl) ⟨by rw[hr],D.ex0.mono dd⟩))
  | succ left =>
   rw[if_pos (show 1<=left+1 by omega)];have I:=Iv s (left+1);refine⟨_,_,_,_,rfl,dd,?_⟩;rintro p9 h10 rfl O;have y:=w.new O dd;have t10:=y.top;obtain⟨R,U,D,n11,_⟩:=y.st (cx:=zB) 0 (t:=120) (f:=0) (u:=brd s (left+1-1)) (cs':=.ls [.str s,dh ((left+1-1:Nat):Int)]) rfl dd wK rfl;obtain⟨h14,e14,W,n14,_⟩:=D.st (cx:=zB) 4 (t:=120) (f:=0) (u:=brd s (left+1-1)) (cs':=.ls [.str s,dh ((left+1-1:Nat):Int)]) rfl dd wK rfl;have hbi:=zAA (w:=val) (b:=xH s (left+1) 1) dd I;have eb:zb ((bits:Int)+1)=((bits+1:Nat):Int):=zf;obtain⟨E,e23,z,n23,_⟩:=W.st (cx:=zB) 1 (t:=257) (f:=0) (u:=.agg [dh (bits+1:Nat),dh (2*val+xH s (left+1) 1:Nat)]) (cs':=.ls [dh (bits+1:Nat),dh (2*val+xH s (left+1) 1:Nat)]) rfl dd Y6 rfl;have t23:=z.top;have hm23:MapG aH E r7 (QD l l.length):=⟨es,cl,z.get 3 rfl,F⟩;have r:=hm23.look (t:=312) GH Qj AY rfl EC rfl (((bits+1:Nat):Int),((2*val+xH s (left+1) 1:Nat):Int)) true;rw[au l (bits+1) _ (Nat.succ_pos _)]at r;change Y1 zB 312 E (.map r7) _ true=some (match (Y3 l (bits+1) (2*val+xH s (left+1) 1)).map (λx:Nat=>lQ (x:Int))with|some v=>qt true v true|none=>qt true (.int .u8 0) false)at r;have hgo2:wU s l n (left+1) bits val out=(match Y3 l (bits+1) (2*val+xH s (left+1) 1)with|some x=>wU s l n left 0 0 (out++[UInt8.ofNat x])|none=>wU s l n left (bits+1) (2*val+xH s (left+1) 1) out):=by show(if n<=out.length then _ else _)=_;rw[if_neg hlt];all_goals cases Y3 l (bits+1) (2*val+xH s (left+1) 1)<;>rfl
   rw[hgo2]at d;refine⟨R,U,λg=>absurd rfl g,λ_=>⟨_,_,D.ldA 0 rfl wK rfl,h14,e14,?_⟩⟩;refine⟨_,W.ld1 1 rfl zX rfl,?_⟩;refine⟨_,W.ld1 1 rfl zX rfl,_,hbi.1,_,hbi.2,E,by rw[eb];exact e23,_,_,z.ldA 1 rfl Y6 rfl,?_⟩;cases hc:Y3 l (bits+1) (2*val+xH s (left+1) 1)with
   | none=>rw[hc]at r d;refine⟨_,_,r,λg=>(by cases g),λ_=>λN e=>⟨rfl,rfl,left,dd,left,bits+1,_,_,out,cs,rfl,hol,?_,dd,z.drop 1,row,bt.step Y I hc,d,e.sub de⟩⟩;omega
   | some x =>
    rw[hc]at r d;have hx:=Vo _ hc;have hxl:=Y.1;refine⟨_,_,r,λ_=>?_,λg=>(by cases g)⟩;obtain⟨h29,e29,s29,x29⟩:=ZC (h:=E) (x:Int) dd;have w29:=z.ext x29;have t29:=w29.top;obtain⟨h31,cs',e31,X,w31,n31⟩:=w29.app (cx:=zB) 2 rfl row s29 dg Je rfl EC rfl rfl dd rfl dd;obtain⟨h32,e32,w32,n32,_⟩:=w31.st (cx:=zB) 1 (t:=257) (f:=0) (u:=.agg [dh 0,dh 0]) (cs':=.ls [dh 0,dh 0]) rfl dd Y6 rfl;have eby:Jh out++[V.int .u8 (x:Int)]=Jh (out++[UInt8.ofNat x]):=by rw[Js];congr 1;show[V.int .u8 (x:Int)]=[V.int .u8 (((UInt8.ofNat x).toNat:Nat):Int)];rw[UInt8.toNat_ofNat',ou]
    refine⟨_,h29,e29,trivial,_,h31,e31,h32,e32,λN e=>⟨rfl,rfl,left,dd,left,0,0,_,out++[UInt8.ofNat x],cs',rfl,by simp;omega,?_,dd,w32.drop 1,?_,Bts.zero Y,d,?_⟩⟩
    .omega
    .rw[<-eby,oW];exact X
    rw[oW];exact e.sub de
 have hge:n<=out.length:=dd
 refine thenC.left (sg e ?_);refine⟨_,w.ld1 3 rfl zX rfl,λc2=>λtm2 j=>?_,λc2=>?_⟩
 .have hr:res=([],22):=by
   rw[<-d];rcases left with _|left
   .omega
   unfold wU;rw[if_pos hge]
  exact endW.r2 (j.get rfl) (j.get rfl) ⟨by rw[hr],w.ex0.mono dd⟩
 have B:left=0:=dd
 subst B;have hr:res=(out,0):=by rw[<-d];unfold wU;rw[if_pos hge]
 by_cases ho:out=[]
 .subst ho;refine⟨_,_,SS (w.get 1 rfl),λtm2 j=>?_⟩;exact endW.r2 (j.get rfl) (j.get rfl) ⟨by rw[hr],w.ex0.mono dd⟩
 refine⟨_,_,Ze slo (List.length_pos_iff.2 ho),λtm2 j=>?_⟩;exact endW.r2 (j.get rfl) (j.get rfl) ⟨by rw[hr],w.ex0.mono dd⟩
end Go.Proofs.YtnpeieeomokomaaGreat
