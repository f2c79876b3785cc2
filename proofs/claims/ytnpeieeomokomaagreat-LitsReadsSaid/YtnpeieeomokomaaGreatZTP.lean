/- TP. No condition. -/
import Derived.Test.YtnpeieeomokomaaGreatZTO
import Derived.Test.YtnpeieeomokomaaGreatZX
set_option maxRecDepth 100000
set_option maxHeartbeats 4000000
noncomputable section
namespace Go.Proofs.YtnpeieeomokomaaGreat
open Go.Sim Go Go.Sort
variable {h:H}{Q:Uc}
set_option maxRecDepth 100000
variable{ys:List (Int×Int)}{l:Ub}{b m p:Nat}{k:Uc}
def zK0:Go.Shelf.Ren:=⟨λ|6=>332|14=>347|15=>316|20=>353|21=>354|22=>355|23=>356|24=>357|25=>358|26=>359|27=>360|28=>328|29=>329|46=>362|47=>349|48=>350|49=>363|50=>364|57=>365|n=>n,λ|0=>0|3=>3|4=>4|5=>5|9=>9|22=>384|24=>372|25=>387|39=>72|45=>391|46=>392|50=>192|53=>243|55=>127|66=>397|70=>401|76=>408|77=>132|n=>n,λn=>n⟩
theorem zZ3:SlLaysF0.n6 Tryz.prog zK0 where
 mixed:=da
 f6:=⟨Tryz.f332.name,da,Tryz.func332.trans (congrArg some da)⟩
 f14:=⟨Tryz.f347.name,da,Tryz.func347.trans (congrArg some da)⟩
 f15:=Tryz.func316.trans (congrArg some da)
 f20:=⟨Tryz.f353.name,da,Tryz.func353.trans (congrArg some da)⟩
 f21:=⟨Tryz.f354.name,da,Tryz.func354.trans (congrArg some da)⟩
 f22:=⟨Tryz.f355.name,da,Tryz.func355.trans (congrArg some da)⟩
 f23:=⟨Tryz.f356.name,da,Tryz.func356.trans (congrArg some da)⟩
 f24:=⟨Tryz.f357.name,da,Tryz.func357.trans (congrArg some da)⟩
 f25:=⟨Tryz.f358.name,da,Tryz.func358.trans (congrArg some da)⟩
 f26:=⟨Tryz.f359.name,da,Tryz.func359.trans (congrArg some da)⟩
 f27:=⟨Tryz.f360.name,da,Tryz.func360.trans (congrArg some da)⟩
 f28:=Tryz.func328.trans (congrArg some da)
 f29:=Tryz.func329.trans (congrArg some da)
 f46:=⟨Tryz.f362.name,da,Tryz.func362.trans (congrArg some da)⟩
 f47:=Tryz.func349.trans (congrArg some da)
 f48:=Tryz.func350.trans (congrArg some da)
 f49:=⟨Tryz.f363.name,da,Tryz.func363.trans (congrArg some da)⟩
 f50:=⟨Tryz.f364.name,da,Tryz.func364.trans (congrArg some da)⟩
 f57:=⟨Tryz.f365.name,da,Tryz.func365.trans (congrArg some da)⟩
 t0:=Tryz.underlying0
 a0:=Tryz.isAgg0
 z0:=Tryz.sizeOf0
 v0:=Tryz.zeroValue0
 t3:=Tryz.underlying3
 a3:=Tryz.isAgg3
 z3:=Tryz.sizeOf3
 v3:=Tryz.zeroValue3
 t4:=Tryz.underlying4
 a4:=Tryz.isAgg4
 z4:=Tryz.sizeOf4
 v4:=Tryz.zeroValue4
 t5:=Tryz.underlying5
 a5:=Tryz.isAgg5
 z5:=Tryz.sizeOf5
 v5:=Tryz.zeroValue5
 t9:=Tryz.underlying9
 a9:=Tryz.isAgg9
 z9:=Tryz.sizeOf9
 v9:=Tryz.zeroValue9
 t22:=Tryz.underlying384
 a22:=Tryz.isAgg384
 z22:=Tryz.sizeOf384
 v22:=Tryz.zeroValue384
 t25:=Tryz.underlying387
 a25:=Tryz.isAgg387
 z25:=Tryz.sizeOf387
 v25:=Tryz.zeroValue387
 t39:=Tryz.underlying72
 a39:=Tryz.isAgg72
 z39:=Tryz.sizeOf72
 v39:=Tryz.zeroValue72
 t45:=Tryz.underlying391
 a45:=Tryz.isAgg391
 z45:=Tryz.sizeOf391
 v45:=Tryz.zeroValue391
 t46:=Tryz.underlying392
 a46:=Tryz.isAgg392
 z46:=Tryz.sizeOf392
 v46:=Tryz.zeroValue392
 t50:=Tryz.underlying192
 a50:=Tryz.isAgg192
 z50:=Tryz.sizeOf192
 v50:=Tryz.zeroValue192
 t53:=Tryz.underlying243
 a53:=Tryz.isAgg243
 z53:=Tryz.sizeOf243
 v53:=Tryz.zeroValue243
 t55:=Tryz.underlying127
 a55:=Tryz.isAgg127
 z55:=Tryz.sizeOf127
 v55:=Tryz.zeroValue127
 t66:=Tryz.underlying397
 a66:=Tryz.isAgg397
 z66:=Tryz.sizeOf397
 v66:=Tryz.zeroValue397
 t70:=Tryz.underlying401
 a70:=Tryz.isAgg401
 z70:=Tryz.sizeOf401
 v70:=Tryz.zeroValue401
 t76:=Tryz.underlying408
 a76:=Tryz.isAgg408
 z76:=Tryz.sizeOf408
 v76:=Tryz.zeroValue408
 t77:=Tryz.underlying132
 a77:=Tryz.isAgg132
 z77:=Tryz.sizeOf132
 v77:=Tryz.zeroValue132
abbrev tsy:TI:=⟨372,(.struct #[⟨ "number",3,0,false, "", "cheesepress/code",0⟩,⟨ "length",3,1,false, "", "cheesepress/code",8⟩]),2,16,some (.agg [(ip 0),(ip 0)]),true,false,false,[]⟩
def kU(x y:Int×Int):Int:=zBm x.1 x.2 y.1 y.2
theorem zWT(x y:Int×Int):kU x y<0↔y.2<x.2\/(y.2=x.2/\x.1<y.1):=by
 unfold kU zBm jz;by_cases c:y.2<x.2
 .simp[wu,c]
 by_cases a:x.2<y.2
 .simp[wu,c,a];omega
 have e:y.2=x.2:=oy
 by_cases d:x.1<y.1
 .simp[wu,d,e]
 by_cases f:y.1<x.1
 .simp[wu,d,f,e]
 simp[wu,d,f,e]
theorem zFI(x y:Int×Int):ltOf kU x y=decide (y.2<x.2\/(y.2=x.2/\x.1<y.1)):=by unfold ltOf;simp only[zWT]
theorem j8:SWO (ltOf kU) where
 irrefl:=λx=>by rw[zFI];simp
 trans:=λx y z h1 h2=>by rw[zFI,decide_eq_true_eq]at h1 h2 ⊢;omega
 ntrans:=λx y z h1 h2=>by rw[zFI,decide_eq_false_iff_not]at h1 h2 ⊢;omega
theorem zKG(x y:Int×Int):∃h',SimF P 333 [.agg [dd x.1,dd x.2],.agg [dd y.1,dd y.2]] H0 (.ret (dd (kU x y)) h'):=by obtain⟨v,h',⟨_,s⟩,a⟩:=zMH x.1 x.2 y.1 y.2 (h:=H0) (Q:=λv _=>v = dd (kU x y)) rfl;subst a;exact⟨h',s⟩
theorem zZw(zs:List (Int×Int))(a:zs.length<4611686018427387904):zLs P 332 333 zs (xC kU zs) :=
 zPb zZ3 Tryz.isAgg372 Tryz.sizeOf372 (enters_of Tryz.func333 da rfl) j8 zKG zs a
theorem zQk:∃fi,zB.fn.get 332=some fi:=Option.isSome_iff_exists.1 da
theorem zGI{v:V}{zs:List (Int×Int)}(ow:Ow h v tsy zs.length (kq zs))(y:0<zs.length)(hl:zs.length<=100000)(hs:xC kU zs=ys)(r:h.nx<=T.top)(s:∀b n (_:v = .slice b 0 n (.skip 0)) h' cs',ExtX (λq=>yG v=some q) h h' 0->h'.nx=h.nx->h'.get b=some (.cells cs' (jC tsy) true true)->(∀i,i<ys.length*2->cs'.get? i=(kq ys)[i]?)->Q (.tuple []) h'):RF P zB 332 [v,.func (.func 333) [] []] h Q:=by
 have a:ys.length=zs.length:=by rw[<-hs];exact(wK j8 zs).1.length_eq
 obtain⟨h1,⟨rfl,t⟩|⟨b,cs,rfl,f,g,u,c,w⟩⟩:=ow
 .omega
 have d:(kq ys).length=zs.length*2:=by rw[qX,a]
 have e:b<T.top:=oO f r;obtain⟨cs',j,z⟩:=Cs.put_some (cs:=cs) u (o:=0) (vs:=kq ys) (by rw[c,d];show 0+zs.length*2<=zs.length*2;omega);obtain⟨_,A,x⟩:=Cs.put_eq j;refine⟨_,_,⟨zQk,SimF.of_sortP (by rw[<-hs];exact zZw zs oy) a g (λi hi=>w i hi) j rfl⟩,s b zs.length rfl _ cs' ((ExtX.refl0 _ _).upd _ e (.inl rfl)) rfl (zF _ e) λi hi=>?_⟩;rw[x,if_pos ⟨oQ _,by rw[d,<-a];omega⟩,Nat.sub_zero]
open Go.Sim
def qm:Nat->Ub->List (Int×Int)
 | _,[]=>[]
 | i,x::l=>(if 0<x then [((i:Int),x)] else [])++qm (i+1) l
abbrev yF(l:Ub):List (Int×Int):=qm 0 l
theorem zC9(x:Int):∀(l:Ub) (i:Nat),qm i (l++[x])=qm i l++(if 0<x then [(((i+l.length:Nat):Int),x)] else [])
 | [],i=>by simp[qm]
 | y::l,i=>by rw[List.cons_append,qm,zC9 x l (i+1),qm,List.append_assoc,og,show i+1+l.length=i+(l.length+1)by omega]
theorem zLL{i:Nat}(hi:i<l.length):yF (l.take (i+1))=yF (l.take i)++(if 0<l[i] then [((i:Int),l[i])] else []):=by unfold yF;rw[xj hi,zC9,List.length_take,Nat.min_eq_left oy,Nat.zero_add]
theorem JT:∀(l:Ub) (i:Nat),(qm i l).length<=l.length
 | [],_=>oV _
 | x::l,i=>by have:=JT l (i+1);rw[qm,oe,og];split<;>simp<;>omega
theorem zOI(zs:List (Int×Int))(a b:Int):kq (zs++[(a,b)])=kq zs++[dd a,dd b]:=by simp[kq]
abbrev oX(v:V):O:=.cells (.ls [v]) ⟨0,24,0⟩ true false
abbrev oY(v:V):O:=.cells (.ls [v]) ⟨0,385,0⟩ true false
theorem _root_.Go.Sim.Vw.push{S:Nat->Prop}{hb h:H}{c:Nat}{l:List (Nat×O)}{o:O}(w:Vw S hb h c l)(hl:∀q∈l,q.1<p)(d:p<h.nx)(a:hb.nx<=p)(e:h.get p=some o):Vw S hb h c ((p,o)::l):=by
 refine⟨w.ex,d,.inr a,e,?_⟩;have:=w.bk;rcases l with _|⟨q,l⟩
 .trivial
 exact⟨hl q (List.mem_cons_self ..),this.2⟩
theorem zHn{v:V}{l:Ub}(sl:Sl h v 1 l.length (zV l))(hl:l.length<=256)(h1:0<(yF l).length)(hn:h.nx+600<=T.top)(a:∀h' J cs pa pb,Vw zN h h' 514 [(J,.cells cs (jC tsy) true true),(pb,oY (.slice J 0 (xC kU (yF l)).length (.skip 0))),(pa,oX v)]->(∀i,i<(xC kU (yF l)).length*2->cs.get? i=(kq (xC kU (yF l)))[i]?)->Q (.func (.func 336) [] [.ptr pa 0,.ptr pb 0]) h'):RF P zB 319 [v] h Q:=by
 refine yU z14 ⟨zW0 sl,oy,?_⟩;rintro p0 r rfl K;have n2:r.nx=h.nx+1:=(zq K).1;have L:=(Vw.nil (S:=zN) (h:=h)).new K oy;have t2:=L.top;refine⟨rfl,oy,?_⟩;rintro p2 h3 rfl Y;have z:=L.new Y oy;have t3:=z.top;have Z:=sl.ext z.ex0;refine⟨v,z.ld1 1 rfl z7 rfl,_,Z.len z7 rfl,Has.nil.on λtm hs=>?_⟩;refine wpC.round (λk tm h'=>∃(i:Nat) (vs:V),i<=l.length/\k=l.length-i/\Vw zN h h' (2+2*i) [(r.nx,oY vs),(h.nx,oX v)]/\Ow h' vs tsy (yF (l.take i)).length (kq (yF (l.take i)))/\Sep zN h.nx [(r.nx,oY vs),(h.nx,oX v)] vs/\(∀b,yG vs=some b->r.nx<b) /\
  Has tm [(8,dd i),(7,dd (Int.ofNat l.length)),(6,v),(3,.ptr r.nx 0),(1,.ptr h.nx 0)]) l.length ⟨0,.nilslice,oy,oy,z,Ow.nil _ _,λb hb=>(by cases hb),λb hb=>(by cases hb),hs.sub da⟩ ?_
 clear hs;rintro k tm h' ⟨i,vs,hi0,rfl,w,ow,sp,M,hs⟩;have tt:=w.top;have B:=sl.ext w.ex0;refine wpC.av hs zSW rfl rfl ⟨λc=>?_,λc=>hs.on λs d=>?_⟩
 .have hi:i<l.length:=by have:(i:Int)<Int.ofNat l.length:=c;simp at this;omega
  obtain⟨b,o,ea,N⟩:=kc B hi;have C:=zLL hi;have t:(yF (l.take i)).length<=(l.take i).length:=JT (l.take i) 0;rw[List.length_take]at t;generalize l[i]=x at N C;refine⟨b,o,ea,x,N,λD=>?_,λD=>hs.on λs d=>⟨rfl,rfl,l.length-(i+1),oy,i+1,vs,oy,rfl,w.more oy,?_,sp,M,?_⟩⟩
  .obtain⟨v4,h5,e5,s5,O,_⟩:=jK (c:=zB) (h:=h') (u:=.agg [dd i,dd x]) (ys:=[dd i,dd x]) Kp rfl zCd rfl rfl rfl rfl db rfl oy;have E:=w.ext O;have t5:=E.top;obtain⟨v6,R,e7,A⟩:=Ow.append (c:=zB) (te:=tsy) (m:=1) (ow.ext O) s5 db Kp rfl zCd rfl rfl (by show((yF (l.take i)).length+1)*2<=_;omega) (by show((yF (l.take i)).length+1)*16<=_;omega) oy;have vb7:=A.2.2.2.2.1;obtain⟨U,j,y⟩:=E.grow sp A;have t7:=U.top;obtain⟨W,e8,w8,n8,k8⟩:=U.st (cx:=zB) 0 (f:=0) (u:=v6) (cs':=.ls [v6]) rfl oy Kp (by rw[j.one1.1];rfl) (xL.2 (by rw[j.one1.1];rfl)) (oQ _) (by rw[j.one1.1];exact j.one1.2);refine⟨vs,w.ld1 0 rfl Kp rfl,v4,h5,e5,trivial,v6,R,e7,W,e8,hs.on λs d=>⟨rfl,rfl,l.length-(i+1),oy,i+1,v6,oy,rfl,w8.more oy,?_,y.less λq a=>?_,λb hb=>?_,?_⟩⟩
   .rw[C,if_pos D,zOI,oe];exact j.keep (by show R.nx<=W.nx;omega) λq a=>k8 q (λe=>(y q a).2 _ (List.mem_cons_self ..) e.symm)
   .rcases oq.1 a with rfl|a
    .exact⟨_,List.mem_cons_self ..,rfl⟩
    exact⟨q,oN _ a,rfl⟩
   .rw[vb7]at hb;cases hb;have:=E.lt 0 rfl;exact this
   rw[<-xP];exact d.sub da
  .rw[C,if_neg D,List.append_nil];exact ow
  rw[<-xP];exact d.sub da
 have hi:i=l.length:=by have:¬(i:Int)<Int.ofNat l.length:=c;simp at this;omega
 subst hi;rw[List.take_length]at ow;have t:(yF l).length<=l.length:=JT l 0;have F:(xC kU (yF l)).length=(yF l).length:=(wK j8 (yF l)).1.length_eq;obtain⟨n,rfl⟩:∃n,vs = .slice n 0 (yF l).length (.skip 0):=by
  obtain⟨_,⟨rfl,hz⟩|⟨b,cs,rfl,_⟩⟩:=ow
  .omega
  exact⟨b,rfl⟩
 refine thenC.left (wpS.av d zTa rfl rfl ⟨_,w.ld1 0 rfl Kp rfl,zGI ow h1 oy rfl oy λb9 k9 e9 h9 G x9 n9 g9 c9=>⟨rfl,d.on λtm2 H=>?_⟩⟩);obtain⟨rfl,_⟩:n=b9/\True:=⟨by injection e9,trivial⟩;have X:=w.apart x9 (λb g=>(sp b g).1) λq a g=>(sp _ g).2 q a rfl
 rw[<-F]at X;have I:=M n rfl;have hlt:=ow.blk (b:=n) rfl;refine endW.r1 (H.get rfl) (a h9 n G _ _ ((X.push (λq a=>?_) oy (by have:=(sp n rfl).1;rcases this with g|g;exact g.elim;exact g) g9).more oy) c9);rcases oq.1 a with rfl|a
 .exact I
 rw[List.mem_singleton.1 a];have:=w.lt 1 rfl;omega
theorem _root_.Go.Sim.Vw.roundA{S:Nat->Prop}{hb h:H}{c c' il il2 g n df d a:Nat}{L:List (Nat×O)}{tm:Tm}{f body:Code}{x y:V}{l:Kn}(w:Vw S hb h c L)(hL:L[il]? = some (g,.loop .ready none n tm #[d,a] f body df))(G:h.nx<=T.top)(I:Has tm l)(u:(Nat.blt d n && Nat.blt a n && Nat.blt d 511 && Nat.blt a 511 && !(Nat.beq d a) && (l.all λp=>!(Nat.beq p.1 d)) && (l.all λp=>!(Nat.beq p.1 a)))=true)(J:∀j,Has j ((d,x)::(a,y)::l)->wpC P zB true (jd f) ⟨n,j,[],h⟩ λe s1=>e = .normal/\s1.n=n/\s1.dfr=[]/\∃o L1,Vw S hb s1.heap o L1/\s1.heap.nx<=T.top/\L1[il2]? = some (g,.loop .ready none n tm #[d,a] f body df) /\
   ∀h1,Vw S hb h1 o (L1.set il2 (g,.loop .busy none n tm #[d,a] f body df))->h1.nx=s1.heap.nx->wpC P zB true (jd body) ⟨n,s1.tm,[],h1⟩ λK i=>K = .normal/\i.dfr=[]/\∃L',Vw S hb i.heap c' L'/\i.heap.nx<=T.top/\L'[il2]? = some (g,.loop .busy none n tm #[d,a] f body df) /\
    ∀h',Vw S hb h' c' (L'.set il2 (g,.loop .ready none n tm #[d,a] f body df))->h'.nx=i.heap.nx->(∀b,b≠g->h'.get b=i.heap.get b)->Q (.bool true) h'):RR P g [x,y] h Q:=by
 simp only[oM,Bool.not_eq_true']at u;obtain⟨⟨⟨⟨⟨⟨M,N⟩,z⟩,q⟩,k5⟩,R⟩,U⟩:=u;have hl:g<T.top:=oO (w.lt il hL) G;have hs:wj (#[d,a]:Array Nat).toList [x,y] n tm=some (Tb.set (Tb.set tm d x) a y):=by show cond (Nat.blt d n) (cond (Nat.blt a n) (some (Tb.set (Tb.set tm d x) a y)) none) none=_;rw[M,N];rfl
 have r:Has (Tb.set (Tb.set tm d x) a y) ((d,x)::(a,y)::l):=by
  refine⟨?_,Has.self q,zDS q (zDS z I R) U⟩;rw[wV _ _ _ _ (show a<Tb.top from(zY _ _).1 q),if_neg (λe=>?_)]
  .exact Has.self z
  have e:d=a:=e;rw[e]at k5;simp at k5
 refine RR.intro hl (w.get il hL) hs (RC.of_wp yA f (ZM _ (λe s1 h1=>?_) (J _ r)));obtain⟨W,A,d1,o,L1,s,B,C,D⟩:=h1;obtain⟨sn,st,sd,sh⟩:=s1;simp only at A d1 s B D;subst A d1;refine⟨W,_,_,_,_,_,_,_,s.get il2 C,RC.of_wp yA body (ZM _ (λe i X=>?_) (D _ (s.upd il2 C B) rfl))⟩;obtain⟨rfl,d2,L',E,Y,F,Z⟩:=X;have t:g<T.top:=hl;show(match wG g .normal i with|some (.ret v h')=>Q v h'|_=>False);simp only[wG,d2,E.get il2 F];exact Z _ (E.upd il2 F Y) rfl λb hb=>zS _ hb t
def xV(m:Nat)(ys:List (Int×Int))(i:Nat):Nat:=((ys.take i).map λp=>2^(m-p.2.toNat)).sum
theorem Y3{i:Nat}(hi:i<ys.length):xV m ys (i+1)=xV m ys i+2^(m-ys[i].2.toNat):=by unfold xV;rw[xj hi,List.map_append,List.sum_append];simp
theorem zD4(hm:m<=11)(ys:List (Int×Int)):∀i,xV m ys i<=2048*i
 | 0=>by simp[xV]
 | i+1=>by
  have ih:=zD4 hm ys i;by_cases hi:i<ys.length
  .have a:2^(m-ys[i].2.toNat)<=2^11:=Nat.pow_le_pow_right db oy;rw[Y3 hi,Nat.mul_succ];omega
  have e:xV m ys (i+1)=xV m ys i:=by unfold xV;rw[List.take_of_length_le oy,List.take_of_length_le oy]
  rw[e,Nat.mul_succ];omega
theorem zOH(ys:List (Int×Int))(i:Nat)(hi:i<ys.length):∀j,j<2->(kq ys)[i*2+j]? = [dd ys[i].1,dd ys[i].2][j]?:=by
 induction ys generalizing i with
 | nil=>simp at hi
 | cons x ys ih =>
  intro j a;have e:kq (x::ys) = dd x.1 :: dd x.2::kq ys:=rfl;rw[e];cases i with
  | zero =>
   rcases j with _|_|j
   .rfl
   .rfl
   omega
  | succ i=>rw[show(i+1)*2+j=(i*2+j)+1+1 by omega,List.getElem?_cons_succ,List.getElem?_cons_succ];exact ih i (by simpa using hi) j a
abbrev oSy(a b:Int):O:=.cells (.ls [dd a,dd b]) ⟨0,373,0⟩ true false
theorem zFm{l:Ub}{ys:List (Int×Int)}{v:V}{e x pa pb ia ib iv:Nat}{hb h:H}{cs:Cs}{c:Nat->Nat}{L0:List (Nat×O)}(J:Nat->List (Nat×O)->Prop)(hl:l.length<=256)(h1:0<l.length)(g:wg l=true)(hy:ys.length<=256)(hr:∀p∈ys,1<=p.2/\p.2<=xS l)(E:J 0 L0)(w0:Vw zN hb h (c 0) L0)(sl:Sl hb v 1 l.length (zV l))(M:L0[ia]? = some (pa,oX v))(N:L0[ib]? = some (pb,oY (.slice e 0 ys.length (.skip 0))))(ev:∀i L,J i L->L[iv]? = some (e,.cells cs (jC tsy) true true))(y:∀i,i<ys.length*2->cs.get? i=(kq ys)[i]?)(R:∀i,i<=ys.length->hb.nx+c i+2<=T.top)(d:∀i L h' p4 (hi:i<ys.length),J i L->Vw zN hb h' (c i+1) ((p4,oSy ys[i].1 ys[i].2)::L)->RR P x [.agg [dd ys[i].1,dd ys[i].2],dd (xV (xS l) ys i:Nat)] h' λr F=>r = .bool true/\∃L',J (i+1) L'/\Vw zN hb F (c (i+1)) ((p4,oSy ys[i].1 ys[i].2)::L'))(S:∀L h',J ys.length L->Vw zN hb h' (c ys.length) L->Q (.tuple []) h'):RF P zB 336 [.yield x,.ptr pa 0,.ptr pb 0] h Q:=by
 have n:∀i L h',J i L->Vw zN hb h' (c i) L->Sl h' (.slice e 0 ys.length (.skip 0)) 2 ys.length (kq ys):=λi L h' j w=>⟨qX _,.inr ⟨e,0,_,cs,_,_,_,rfl,w.lt iv (ev i L j),w.get iv (ev i L j),λj U=>by rw[Nat.zero_add];exact y j U⟩⟩
 have hm:=Zz g;refine yU z1e ⟨v,w0.ld1 ia M z7 rfl,Xl (sl.ext w0.ex0) hl h1 g ⟨_,rfl,_,w0.ld1 ib N Kp rfl,_,(n 0 L0 h E w0).len Kp rfl,Has.nil.on λtm hs=>?_⟩⟩;refine wpC.round (λk tm h'=>∃(i:Nat) (L:List (Nat×O)),i<=ys.length/\k=ys.length-i/\J i L/\Vw zN hb h' (c i) L/\Has tm [(12,dd i),(11,dd ys.length),(10,.slice e 0 ys.length (.skip 0)),(0,.yield x),(5,dd (xV (xS l) ys i:Nat)),(4,dd (xS l:Nat))]) ys.length ⟨0,L0,oy,oy,E,w0,hs.sub da⟩ ?_;clear hs;rintro k tm h' ⟨i,L,A,rfl,B,w,hs⟩;have tw:=w.top;have W:=R i A;refine wpC.av hs zS4 rfl rfl ⟨λX=>?_,λX=>hs.on λC q=>?_⟩
 .have hi:i<ys.length:=oy
  have Y:=hr _ (od hi);obtain⟨b,o,Z,e2,_⟩:=(n i L h' B w).atA (cx:=zB) (ys:=[dd ys[i].1,dd ys[i].2]) hi Kp rfl zCd rfl rfl db rfl (zOH ys i hi);refine⟨b,o,Z,_,_,e2,oy,?_⟩;rintro p4 h5 rfl e5;have G:=w.new e5 oy;have t5:=G.top;obtain⟨D,e6,I,n6,_⟩:=G.st (cx:=zB) 0 (t:=372) (f:=0) (u:=.agg [dd ys[i].1,dd ys[i].2]) (cs':=.ls [dd ys[i].1,dd ys[i].2]) rfl oy zCd rfl;refine⟨D,e6,_,_,I.ldA 0 rfl zCd rfl,?_⟩;show RR P x [.agg [dd ys[i].1,dd ys[i].2],dd (xV (xS l) ys i:Nat)] D _;refine RR.mono (d i L D _ hi B I) ?_;rintro r F ⟨rfl,L',j2,K⟩;have hp:2^(xS l-ys[i].2.toNat)<=2^11:=Nat.pow_le_pow_right db oy;have hpl:=zD4 hm ys i;have s:zj .shl .i64 1 (zG (((xS l:Nat):Int)-ys[i].2))=some (dd (1*2^(xS l-ys[i].2.toNat):Nat)):=by rw[zD oy oy,show((xS l:Nat):Int)-ys[i].2=((xS l-ys[i].2.toNat:Nat):Int)by omega];exact zz (a:=1) oy oy
  refine zJ6 (OI ⟨_,K.ld1 0 rfl zm rfl,_,s,hs.on λC q=>⟨rfl,rfl,ys.length-(i+1),oy,i+1,L',oy,rfl,j2,K.drop 1,?_⟩⟩);have ew:zG (((xV (xS l) ys i:Nat):Int)+((1*2^(xS l-ys[i].2.toNat):Nat):Int))=((xV (xS l) ys (i+1):Nat):Int):=by rw[Y3 hi,Nat.one_mul];clear s;generalize 2^(xS l-ys[i].2.toNat)=z at hp ⊢;rw[zD oy oy];omega
  rw[<-xP,<-ew];exact q.sub da
 have hi:i=ys.length:=oy
 subst hi;show endW zB ⟨29,[],bf 336⟩ Q (exitB 0 (.exit 0)) _;rw[j5];exact S L h' B w
theorem zCn:∀k:Nat,xD [dd 0,dd 0] k=kq (List.replicate k ((0:Int),(0:Int)))
 | 0=>rfl
 | k+1=>by show[dd 0,dd 0]++xD [dd 0,dd 0] k=_;rw[zCn k];rfl
theorem zAG{k:Nat}(j:k<=256)(c:h.nx<T.top):∃cs,jJ zB 253 (dd k) (dd k) h=some (.slice h.nx 0 k (.exact k),h.new (Zf cs))/\Row cs (k*2) (kq (List.replicate k ((0:Int),(0:Int)))):=by
 have a:(kq (List.replicate k ((0:Int),(0:Int)))).length=k*2:=by rw[qX,List.length_replicate]
 obtain⟨cs,h1,d⟩:=Cs.ofL_some (l:=kq (List.replicate k ((0:Int),(0:Int)))) oy;obtain⟨e,f⟩:=Cs.ofL_eq h1;refine⟨cs,?_,d,by rw[e,a],a,λi _=>f i⟩;unfold jJ;have g:yj (k:Int)=some k:=rfl;simp only[g,JW,Zc];rw[oG (oV k),oG (show k<=4294967296 by omega),oG (show 16*k<=1099511627776 by omega)];show(match qG h (Cs.ofL (xD [dd 0,dd 0] k)) ⟨0,0,0⟩ false with|some (b,h')=>some (V.slice b 0 k (.exact k),h')|none=>none)=_;unfold qG;rw[zCn,h1,(zY _ _).2 c];rfl
theorem zRM(out:List (Int×Int)){j:Nat}(a b:Int)(d:j<out.length)(t:Nat):(kq (out.set j (a,b)))[t]? = if j*2<=t/\t<j*2+2 then [dd a,dd b][t-j*2]? else (kq out)[t]?:=by
 induction out generalizing j t with
 | nil=>simp at d
 | cons x out ih =>
  have ex:∀(y:Int×Int) (o:List (Int×Int)),kq (y::o) = dd y.1 :: dd y.2::kq o:=λ_ _=>rfl
  cases j with
  | zero =>
   rw[List.set_cons_zero,ex,ex];rcases t with _|_|t
   .rfl
   .rfl
   rw[if_neg oy];rfl
  | succ j =>
   rw[List.set_cons_succ,ex,ex];rcases t with _|_|t
   .rw[if_neg oy];rfl
   .rw[if_neg oy];rfl
   rw[List.getElem?_cons_succ,List.getElem?_cons_succ,List.getElem?_cons_succ,List.getElem?_cons_succ,ih (by simpa using d)];by_cases c:j*2<=t/\t<j*2+2
   .rw[if_pos c,if_pos oy];congr 1;omega
   rw[if_neg c,if_neg oy]
theorem _root_.Go.Sim.Vw.setP{S:Nat->Prop}{hb h:H}{c:Nat}{l:List (Nat×O)}(w:Vw S hb h c l)(i:Nat){cs:Cs}{k:Rk}{op:Bool}{out:List (Int×Int)}{j e:Nat}{te:TI}{a b:Int}(r:Row cs (out.length*2) (kq out))(hi:l[i]? = some (p,.cells cs k true op))(n:h.nx<=T.top)(q:j<out.length)(s:k.fz=0)(v:zB.ty.get e=some te)(hs:te.size=2):
  ∃h' cs',zZ zB e h (.ptr p (j*2)) (.agg [dd a,dd b])=some h'/\Row cs' (out.length*2) (kq (out.set j (a,b)))/\Vw S hb h' c (l.set i (p,.cells cs' k true op))/\h'.nx=h.nx:=by
 obtain⟨cs',g,x⟩:=Cs.put_some (cs:=cs) r.1 (o:=j*2) (vs:=[dd a,dd b]) (by rw[r.2.1];simp;omega);obtain⟨_,y,z⟩:=Cs.put_eq g;obtain⟨h',A,B,C,_⟩:=w.st (cx:=zB) i (t:=e) (f:=j*2) (u:=.agg [dd a,dd b]) (cs':=cs') hi n v g (xL.2 (by rw[hs];rfl)) (by rw[s];exact oQ _) rfl;refine⟨h',cs',A,⟨x,by rw[y,r.2.1],by rw[qX,List.length_set],λt D=>?_⟩,B,C⟩;rw[z,zRM out a b q t];show(if j*2<=t/\t<j*2+2 then [dd a,dd b][t-j*2]? else cs.get? t)=_;by_cases d:j*2<=t/\t<j*2+2
 .rw[if_pos d,if_pos d]
 rw[if_neg d,if_neg d];exact r.2.2.2 t D
def Kv(m n:Nat)(ys:List (Int×Int)):Nat->List (Int×Int)
 | 0=>List.replicate n (0,0)
 | i+1=>match ys[i]? with
  | some p=>(Kv m n ys i).set p.1.toNat (p.2,((xV m ys i/2^(m-p.2.toNat):Nat):Int))
  | none=>Kv m n ys i
theorem YC(m n:Nat)(ys:List (Int×Int)):∀i,(Kv m n ys i).length=n
 | 0=>List.length_replicate
 | i+1=>by
  unfold Kv;split
  .rw[List.length_set];exact YC m n ys i
  exact YC m n ys i
theorem Jw{n:Nat}{i:Nat}(hi:i<ys.length):Kv m n ys (i+1)=(Kv m n ys i).set ys[i].1.toNat (ys[i].2,((xV m ys i/2^(m-ys[i].2.toNat):Nat):Int)):=by show(match ys[i]? with|some p=>_|none=>_)=_;rw[oU hi]
def YT(l:Ub):List (Int×Int):=Kv (xS l) l.length (xC kU (yF l)) (xC kU (yF l)).length
theorem zDE(l:Ub):(YT l).length=l.length:=YC _ _ _ _
theorem YM:∀{l:Ub}{i:Nat}{p:Int×Int},p∈qm i l->∃k,k<l.length/\p.1=((i+k:Nat):Int)/\l[k]? = some p.2/\0<p.2
 | [],_,_,h=>by cases h
 | x::l,i,p,h=>by
  rw[qm]at h;rcases List.mem_append.1 h with h|h
  .split at h
   .rename_i a;rw[List.mem_singleton.1 h];exact⟨0,by simp,rfl,rfl,a⟩
   cases h
  obtain⟨k,h1,c,d,e⟩:=YM h;exact⟨k+1,by simpa using h1,by rw[c];congr 1;omega,d,e⟩
theorem _root_.Go.Sim.Row.sl2{n:Nat}{cp:Cap}{cs:Cs}{k:Rk}{w op:Bool}{xs:Ug}(r:Row cs (n*2) xs)(hb:b<h.nx)(a:h.get b=some (.cells cs k w op)):Sl h (.slice b 0 n cp) 2 n xs :=
 ⟨r.2.2.1,.inr ⟨b,0,cp,cs,k,w,op,rfl,hb,a,λi hi=>by rw[Nat.zero_add];exact r.2.2.2 i hi⟩⟩
theorem zWC{o:Nat}:zP zB 372 0 h (.ptr p o) k=k (.ptr p (o+0)) h:=da
theorem zMX{o:Nat}:zP zB 372 1 h (.ptr p o) k=k (.ptr p (o+1)) h:=da
theorem OS{n j:Nat}{cp:Cap}(a:j<n):yo zB 253 (.slice b 0 n cp) (dd j)=some (.ptr b (j*2)):=by unfold yo;have c:yj (j:Int)=some j:=rfl;simp only[c,JW,Zc,(zY _ _).2 a,oS,Nat.zero_add]
theorem zGP:∀(l:Ub) (i:Nat),(qm i l).length=Yi l
 | [],_=>rfl
 | x::l,i=>by
  rw[qm,oe,zGP l (i+1)];unfold Yi;by_cases c:0<x
  .rw[if_pos c,List.filter_cons_of_pos (by simpa using c),og];simp;omega
  rw[if_neg c,List.filter_cons_of_neg (by simpa using c)];simp
theorem KT{p:Int×Int}(h:p∈xC kU (yF l)):∃k,k<l.length/\p.1=((k:Nat):Int)/\l[k]? = some p.2/\0<p.2:=by have:=YM ((wK j8 (yF l)).1.mem_iff.1 h);simpa using this
theorem zKH{v:V}(sl:Sl h v 1 l.length (zV l))(hg:ju l)(hn:h.nx+1200<=T.top)(hlow:h.low<=T.top)(n:∀h' v',Ext h h' 1100->Sl h' v' 2 l.length (kq (YT l))->(∀b,yG v'=some b->h.nx<=b)->Q (.tuple [v',.int .i64 0]) h'):RF P zB 297 [v] h Q:=by
 obtain⟨hl,y,hc2,z⟩:=id hg;have hm:=Zz y;have hcl:=Of l;have h1:0<l.length:=oy
 have hsy:0<(yF l).length:=by rw[zGP,JD y];omega
 have F:(xC kU (yF l)).length=(yF l).length:=(wK j8 (yF l)).1.length_eq;have hle:(yF l).length<=l.length:=JT l 0;have hr:∀p∈xC kU (yF l),1<=p.2/\p.2<=xS l:=λp hp=>by obtain⟨k,k1,k2,k3,X⟩:=KT hp;exact⟨oy,qj (List.mem_of_getElem? k3)⟩
 refine yU z1T (zDF sl hg oy ⟨_,rfl,λq=>absurd rfl q,λ_=>Xl sl hl h1 y ⟨_,rfl,rfl,oy,?_⟩⟩);rintro p6 h7 rfl e7;have w7:=(Vw.nil (S:=zN) (h:=h)).new e7 oy;have t7:=w7.top;obtain⟨x,e8,Y,n8,_⟩:=w7.st (cx:=zB) 0 (t:=3) (f:=0) (u:=.int .i64 (xS l:Nat)) (cs':=.ls [.int .i64 (xS l:Nat)]) rfl oy zm rfl;have t8:=Y.top;obtain⟨A,em,G⟩:=zAG (k:=l.length) (h:=x) hl oy;have H:=Y.new (h':=x.new (Zf A)) rfl oy;have t11:=H.top;refine⟨x,e8,_,(sl.ext Y.ex0).len z7 rfl,_,_,em,rfl,oy,?_⟩;rintro p12 h13 rfl e13;have I:=H.new e13 oy;have t13:=I.top;obtain⟨J,e14,d,n14,_⟩:=I.st (cx:=zB) 0 (t:=253) (f:=0) (u:=.slice x.nx 0 l.length (.exact l.length)) (cs':=.ls [.slice x.nx 0 l.length (.exact l.length)]) rfl oy JW rfl;have t14:=d.top;refine⟨J,e14,zHn (sl.ext d.ex0) hl hsy oy λe Z cs pa pb wr K=>⟨_,rfl,Has.nil.on λtm hs=>?_⟩⟩;have M:=K;rw[F]at M;have N:=d.ext wr.ex0;have t16:=N.top;obtain⟨k1,k2,k3,X,k5,k6,k7,k8,k9,_⟩:=wr.bk;have C:J.nx<=pa:=by rcases k8 with g|g;exact g.elim;exact g
 have l14:=d.le;have wA:=N.push (p:=pa) (o:=oX v) (λq n=>oO (d.bk.lt q n) C) oy oy k9;have wB:=wA.push (p:=pb) (o:=oY (.slice Z 0 (xC kU (yF l)).length (.skip 0))) (λq n=>by
  rcases oq.1 n with rfl|n
  .exact k7
  exact Nat.lt_trans (oO (d.bk.lt q n) C) k7) oy oy k6
 have wC:=wB.push (p:=Z) (o:=.cells cs (jC tsy) true true) (λq n=>by
  rcases oq.1 n with rfl|n
  .exact X
  rcases oq.1 n with rfl|n
  .exact Nat.lt_trans k7 X
  exact Nat.lt_trans (Nat.lt_trans (oO (d.bk.lt q n) C) k7) X) k1 oy k3
 refine Vw.range (s:=⟨37,tm,[],e⟩) wC (captured:=[.ptr pa 0,.ptr pb 0]) (show zx tm (t 20)=_ from congrArg some (hs.get rfl)) (by show e.nx+2<=_;omega) λh17 w17 n17=>?_
 refine zFm (ys:=xC kU (yF l)) (ia:=4) (ib:=3) (iv:=2) (c:=λi=>519+2*i)
  (λi L=>∃r,L=[(e.nx+1,.loop .ready none 37 tm #[21,22] zLt zM1 e.nx),(e.nx,.deferred true),(Z,.cells cs (jC tsy) true true),(pb,oY (.slice Z 0 (xC kU (yF l)).length (.skip 0))),(pa,oX v),
   ((x.new (Zf A)).nx,.cells (.ls [.slice x.nx 0 l.length (.exact l.length)]) ⟨0,254,0⟩ true false),(x.nx,Zf r),(h.nx,.cells (.ls [.int .i64 (xS l:Nat)]) ⟨0,4,0⟩ true false)]/\Row r (l.length*2) (kq (Kv (xS l) l.length (xC kU (yF l)) i)))
  hl h1 y oy hr ⟨A,rfl,G⟩ (w17.more oy) sl rfl rfl (λi L j=>by obtain⟨r,rfl,_⟩:=j;rfl) K (λi hi=>oy) (λi L h' p4 hi j w=>?_) λL h' j w=>?_
 .obtain⟨r,rfl,r1⟩:=j;have tw:=w.top;obtain⟨k,q1,q2,q3,q4⟩:=KT (od hi);have hri:=hr _ (od hi);have hpl:=zD4 hm (xC kU (yF l)) i;have O:=YC (xS l) l.length (xC kU (yF l)) i;refine w.roundA (il:=1) (il2:=2) (c':=519+2*(i+1)) rfl oy (hs.sub (l':=[(6,.ptr (x.new (Zf A)).nx 0),(5,.ptr h.nx 0)]) da) rfl λtm0 R=>?_
  refine wpC.av R zRb rfl rfl ⟨oy,?_⟩;rintro p0 h1' rfl e1;have wa:=w.new e1 oy;have ta:=wa.top;obtain⟨h2,e2,w2,n2,_⟩:=wa.st (cx:=zB) 0 (t:=372) (f:=0) (u:=.agg [.int .i64 (xC kU (yF l))[i].1,.int .i64 (xC kU (yF l))[i].2]) (cs':=.ls [.int .i64 (xC kU (yF l))[i].1,.int .i64 (xC kU (yF l))[i].2]) rfl oy zCd rfl;refine⟨h2,e2,R.on λqM U=>⟨rfl,rfl,rfl,_,_,w2,by show h2.nx<=_;omega,rfl,λh3 B n3=>?_⟩⟩;have t3:=B.top;have l3:=B.low;obtain⟨h4,cs2,e4,r2,w4,n4⟩:=B.setP 8 (out:=Kv (xS l) l.length (xC kU (yF l)) i) (j:=k) (a:=(xC kU (yF l))[i].2) (b:=((xV (xS l) (xC kU (yF l)) i/2^(xS l-(xC kU (yF l))[i].2.toNat):Nat):Int)) (by rw[O];exact r1) rfl oy oy rfl Zc rfl;have hsh:zj .shr .i64 ((xV (xS l) (xC kU (yF l)) i:Nat):Int) (zG (((xS l:Nat):Int)-(xC kU (yF l))[i].2))=some (.int .i64 ((xV (xS l) (xC kU (yF l)) i/2^(xS l-(xC kU (yF l))[i].2.toNat):Nat):Int)):=by rw[zD oy oy,show((xS l:Nat):Int)-(xC kU (yF l))[i].2=((xS l-(xC kU (yF l))[i].2.toNat:Nat):Int)by omega];exact kJ oy
  refine wpC.av U zRe rfl rfl ⟨⟨oy,oy⟩,_,B.ld1 7 rfl JW rfl,?_⟩;try dsimp only
  rw[zWC];refine⟨_,B.ld1 0 rfl zm rfl,?_⟩;try dsimp only
  rw[zMX];refine⟨_,B.ld1 0 rfl zm rfl,_,B.ld1 9 rfl zm rfl,?_⟩;try dsimp only
  rw[zMX];refine⟨_,B.ld1 0 rfl zm rfl,_,hsh,x.nx,k*2,by rw[q2];exact OS q1,h4,e4,U.on λD z=>⟨rfl,rfl,_,w4,by show h4.nx<=_;omega,rfl,λh5 w5 n5 _=>⟨rfl,_,⟨cs2,rfl,?_⟩,(w5.drop 1).more oy⟩⟩⟩;rw[Jw hi,q2,ol];rw[O]at r2;exact r2
 obtain⟨r,rfl,r1⟩:=j;have tw:=w.top;refine⟨_,_,w,oy,λh9 o w9 n9 _=>?_⟩;show Wf zGe zHf ⟨37,tm,[.coll e.nx],h9⟩ _;refine wpS.av hs zT2 rfl rfl ⟨_,w9.ld1 5 rfl JW rfl,hs.on λD z=>?_⟩;show wpD [.coll e.nx] h9 _;refine w9.ends (i:=1) rfl oy λW E n10 _=>?_
 show Q (V.tuple [zI D 2,zI D 3]) W;rw[z.get (t:=2) rfl,z.get (t:=3) rfl];exact n W _ (E.ex0.mono oy) (r1.sl2 (E.lt 6 rfl) (E.get 6 rfl)) λb hb=>by cases hb;have:=Y.le;omega
theorem zUC{v:Nat}:∀k,k<=ys.length->v<xV m ys k->∃i,∃hi:i<ys.length,xV m ys i<=v/\v<xV m ys i+2^(m-ys[i].2.toNat)
 | 0,_,h=>by simp[xV]at h
 | k+1,a,h=>by
  by_cases c:v<xV m ys k
  .exact zUC k oy c
  rw[Y3 oy]at h;exact⟨k,oy,oy,h⟩
theorem zQ7{l:Uf}{d:Nat}(h:∀x∈l,d ∣ x):d ∣ l.sum:=by
 induction l with
 | nil=>simp
 | cons x l ih=>rw[List.sum_cons];exact Nat.dvd_add (h x (by simp)) (ih λy a=>h y (by simp[a]))
theorem zUB(hs:ys.Pairwise λx y=>y.2<=x.2)(a:xV m ys ys.length=2^m){i:Nat}(hi:i<ys.length):2^(m-ys[i].2.toNat) ∣ xV m ys i:=by
 have e:xV m ys i+((ys.drop i).map λp=>2^(m-p.2.toNat)).sum=2^m:=by rw[<-a];unfold xV;rw[<-List.sum_append,<-List.map_append,List.take_append_drop,List.take_length]
 have d:2^(m-ys[i].2.toNat) ∣ ((ys.drop i).map λp=>2^(m-p.2.toNat)).sum:=by
  apply zQ7;intro x f;obtain⟨p,g,rfl⟩:=List.mem_map.1 f;apply Nat.pow_dvd_pow;obtain⟨j,n,rfl⟩:=List.getElem_of_mem g;rw[List.getElem_drop];rw[List.length_drop]at n;have:ys[i+j].2<=ys[i].2:=by
   rcases j with _|j
   .exact Int.le_refl _
   exact(List.pairwise_iff_getElem.1 hs) i (i+(j+1)) hi oy oy
  omega
 have c:2^(m-ys[i].2.toNat) ∣ 2^m:=Nat.pow_dvd_pow _ oy;rw[<-e]at c;exact(Nat.dvd_add_left d).1 c
theorem zZH(hs:ys.Pairwise λx y=>y.2<=x.2)(a:xV m ys ys.length=2^m){v:Nat}(d:v<2^m):∃i,∃hi:i<ys.length,v/2^(m-ys[i].2.toNat)=xV m ys i/2^(m-ys[i].2.toNat):=by
 obtain⟨i,hi,h1,c⟩:=zUC (v:=v) ys.length (oV _) (by rw[a];exact d);refine⟨i,hi,?_⟩;obtain⟨q,e⟩:=zUB hs a hi;rw[e]at h1 c ⊢;have f:0<2^(m-ys[i].2.toNat):=Nat.pow_pos db;rw[Nat.mul_div_cancel_left _ f];apply Nat.div_eq_of_lt_le
 .rw[Nat.mul_comm];exact h1
 rw[Nat.succ_mul,Nat.mul_comm];exact c
theorem zCl(l:Ub):(xC kU (yF l)).Pairwise λx y=>y.2<=x.2:=by refine(wK j8 (yF l)).2.imp λ{x y} h=>?_;rw[zFI,decide_eq_false_iff_not]at h;omega
theorem zDt:∀(l:Ub) (i:Nat),(qm i l).Pairwise λx y=>x.1<y.1
 | [],_=>List.Pairwise.nil
 | x::l,i=>by
  rw[qm];refine List.pairwise_append.2 ⟨by split<;>simp,zDt l (i+1),λa c b hb=>?_⟩;split at c
  .rw[List.mem_singleton.1 c];obtain⟨k,_,d,_⟩:=YM hb;rw[d];show(i:Int)<_;omega
  cases c
theorem zG4(l:Ub):((xC kU (yF l)).map Prod.fst).Nodup:=by
 have a:=(wK j8 (yF l)).1.map Prod.fst;refine a.nodup_iff.2 ?_;try dsimp only
 rw[List.nodup_iff_pairwise_ne,List.pairwise_map];exact(zDt l 0).imp λh=>Int.ne_of_lt h
theorem ZG(m:Nat):∀(l:Ub) (i:Nat),(∀x∈l,0<=x)->xZ m l=((qm i l).map λp=>2^(m-p.2.toNat)).sum
 | [],_,_=>rfl
 | x::l,i,h=>by
  have d:=h x (by simp);rw[qm,List.map_append,List.sum_append,<-ZG m l (i+1) λy a=>h y (by simp[a])];have e:xZ m (x::l)=lone m x+xZ m l:=by simp[xZ]
  rw[e];congr 1;unfold lone;by_cases c:0<x
  .rw[if_pos oy,if_pos c];simp
  rw[if_neg oy,if_neg c];rfl
theorem zBI{l:Ub}(f:ju l):xV (xS l) (xC kU (yF l)) (xC kU (yF l)).length=2^xS l:=by
 obtain⟨_,a,_,hs⟩:=f;have hm:=Zz a;have e:∀m,xV m (xC kU (yF l)) (xC kU (yF l)).length=xZ m l:=λm=>by unfold xV;rw[List.take_length,ZG m l 0 λx d=>(ji a d).1];exact((wK j8 (yF l)).1.map _).sum_nat
 rw[e];have c:xZ (xS l) l*2^(11-xS l)=xZ 11 l:=by
  rw[ZG _ l 0 λx d=>(ji a d).1,ZG _ l 0 λx d=>(ji a d).1];have hr:∀p∈qm 0 l,p.2.toNat<=xS l:=λp g=>by obtain⟨k,_,_,i,_⟩:=YM g;have:=qj (List.mem_of_getElem? i);omega
  generalize qm 0 l=z at hr;induction z with
  | nil=>simp
  | cons p z ih=>have h1:=hr p (by simp);rw[List.map_cons,List.sum_cons,List.map_cons,List.sum_cons,Nat.add_mul,ih λq j=>hr q (by simp[j]),<-Nat.pow_add];congr 2;omega
 rw[hs]at c;have:2^xS l*2^(11-xS l)=2048:=by rw[<-Nat.pow_add,show xS l+(11-xS l)=11 by omega]
 exact Nat.eq_of_mul_eq_mul_right (Nat.pow_pos db) (c.trans this.symm)
theorem zD3{n:Nat}(f:(ys.map Prod.fst).Nodup)(hr:∀p∈ys,0<=p.1/\p.1<n):∀k,k<=ys.length->∀i,∀_:i<k,∀a:i<ys.length,(Kv m n ys k)[ys[i].1.toNat]? = some (ys[i].2,((xV m ys i/2^(m-ys[i].2.toNat):Nat):Int))
 | 0,_,i,hi,_=>oy
 | k+1,j,i,hi,a=>by
  have d:k<ys.length:=oy
  rw[Jw d];have h1:=hr _ (od d);have o:=hr _ (od a);by_cases c:i=k
  .subst c;rw[List.getElem?_set_self (by rw[YC];omega)]
  have g:ys[k].1≠ys[i].1:=λe=>by rw[List.nodup_iff_pairwise_ne,List.pairwise_iff_getElem]at f;have:=f i k (by simpa using a) (by simpa using d) oy;simp only[List.getElem_map]at this;exact this e.symm
  rw[om];exact zD3 f hr k oy i oy a
def ZF(cs:List (Int×Int))(b v:Nat):Nat->Option Nat
 | 0=>none
 | i+1=>if cs[i]? = some ((b:Int),(v:Int)) then some i else ZF cs b v i
theorem zAB{cs:List (Int×Int)}{v i:Nat}(h:cs[i]? = some ((b:Int),(v:Int))):∀n,i<n->ZF cs b v n≠none
 | 0,a=>oy
 | n+1,a=>by
  unfold ZF;by_cases c:cs[n]? = some ((b:Int),(v:Int))
  .rw[if_pos c];simp
  rw[if_neg c];have:i≠n:=λe=>c (e ▸ h)
  exact zAB h n oy
theorem zAA{cs:List (Int×Int)}{v x:Nat}:∀n,ZF cs b v n=some x->x<n
 | 0,h=>by cases h
 | n+1,h=>by
  unfold ZF at h;split at h
  .cases h;omega
  have:=zAA n h;omega
abbrev Za(l:Ub)(b v:Nat):Option Nat:=ZF (YT l) b v l.length
structure Bts (l:Ub) (bits w:Nat):Prop where
 lt:bits<xS l
 val:w<2^bits
 no:∀k,1<=k->k<=bits->Za l k (w/2^(bits-k))=none
theorem Bts.zero(c:ju l):Bts l 0 0:=⟨by
 obtain⟨_,a,e,_⟩:=c;by_cases h0:xS l=0
 .exfalso;have:Yi l=0:=by
   unfold Yi;rw[List.length_eq_zero_iff,List.filter_eq_nil_iff];intro x d;have:=qj d;simp;omega
  rw[JD a]at this;omega
 omega,by simp,λk h1 f=>oy⟩
theorem Bts.step{l:Ub}(f:ju l){bits val b:Nat}(h:Bts l bits val)(hb:b<2)(j:Za l (bits+1) (2*val+b)=none):Bts l (bits+1) (2*val+b):=by
 have g:2*val+b<2^(bits+1):=by have:=h.val;rw[Nat.pow_succ];omega
 have no:∀k,1<=k->k<=bits+1->Za l k ((2*val+b)/2^(bits+1-k))=none:=λk h1 y=>by
  by_cases c:k=bits+1
  .subst c;simpa using j
  have e:(2*val+b)/2^(bits+1-k)=val/2^(bits-k):=by rw[show bits+1-k=(bits-k)+1 by omega,Nat.pow_succ',<-Nat.div_div_eq_div_mul];congr 1;omega
  rw[e];exact h.no k h1 oy
 refine⟨?_,g,no⟩;have o:=h.lt;by_cases c:bits+1<xS l
 .exact c
 exfalso;have em:bits+1=xS l:=oy
 obtain⟨hl,q,_,_⟩:=id f;obtain⟨i,hi,r⟩:=zZH (zCl l) (zBI f) (v:=2*val+b) (by rw[<-em];exact g);obtain⟨k,s,t,u,z⟩:=KT (od hi);have w:=qj (List.mem_of_getElem? u);have hr:∀p∈xC kU (yF l),0<=p.1/\p.1<l.length:=λp x=>by obtain⟨k,s,t,_⟩:=KT x;omega
 have a:=zD3 (m:=xS l) (n:=l.length) (zG4 l) hr _ (oV _) i hi hi;rw[<-r]at a;have d:((xC kU (yF l))[i].2.toNat:Int)=(xC kU (yF l))[i].2:=oy
 refine zAB (cs:=YT l) (b:=(xC kU (yF l))[i].2.toNat) (v:=(2*val+b)/2^(xS l-(xC kU (yF l))[i].2.toNat)) (i:=(xC kU (yF l))[i].1.toNat) (by rw[d];exact a) l.length oy ?_;try dsimp only
 rw[<-em];exact no _ oy oy
def xK(s:Ua)(l:Ub)(n:Nat):Nat->Nat->Nat->Ua->List UInt8×Int
 | 0,_,_,out=>if n<=out.length then (out,0) else ([],22)
 | left+1,bits,val,out=>if n<=out.length then ([],22) else
  match Za l (bits+1) (2*val+yI s (left+1) 1)with
  | some x=>xK s l n left 0 0 (out++[UInt8.ofNat x])
  | none=>xK s l n left (bits+1) (2*val+yI s (left+1) 1) out
def wP(s:Ua)(l:Ub)(n:Nat):List UInt8×Int:=if zf s<0 then ([],22) else xK s l n (zf s).toNat 0 0 []
def Xy:List Go.Oper:=z2q.toList
def jQ(i:Nat):Go.Oper:=(Xy[i]?).getD default
theorem zNp:Xy=[jQ 0,jQ 1,jQ 2,jQ 3,jQ 4,jQ 5,jQ 6,jQ 7,jQ 8,jQ 9]:=da
theorem z3d:ya Xy=some 9:=da
def zL6(tm:Tm)(i:Int)(n:Int)(v:V)(p0:Nat)(c:Nat)(p4:Nat)(d:Nat)(e:Nat)(a:Int)(b:Int):Tm:=(Tb.set (Tb.set (Tb.set (Tb.set (Tb.set (Tb.set (Tb.set (Tb.set (Tb.set (zW tm [(19,dd i),(18,dd n),(17,v),(6,.map d),(7,.map e)]) 20 (.bool true)) 21 (dd i)) 22 (.ptr p0 c)) 23 (.agg [dd a,dd b])) 9 (.ptr p4 0)) 8 (dd i)) 24 (.ptr p4 (0+0))) 25 (dd a)) 26 (.bool true))
theorem z2a(tm:Tm)(i:Int)(n:Int)(v:V)(p0:Nat)(d:Nat)(p4:Nat)(c:Nat)(e:Nat)(a:Int)(b:Int)(h:H):yD zB (jQ 0) (zx (zL6 tm i n v p0 d p4 c e a b)) h=some (.val (.map c) h):=da
def zYT(tm:Tm)(i:Int)(n:Int)(v:V)(p0:Nat)(d:Nat)(p4:Nat)(c:Nat)(e:Nat)(a:Int)(b:Int):Tm:=Tb.set (zL6 tm i n v p0 d p4 c e a b) 27 (.map c)
theorem z2b(tm:Tm)(i:Int)(n:Int)(v:V)(p0:Nat)(c:Nat)(p4:Nat)(d:Nat)(e:Nat)(a:Int)(b:Int)(h:H):yD zB (jQ 1) (zx (zYT tm i n v p0 c p4 d e a b)) h=some (.val (dd i) h):=da
def zYU(tm:Tm)(i:Int)(n:Int)(v:V)(p0:Nat)(c:Nat)(p4:Nat)(d:Nat)(e:Nat)(a:Int)(b:Int):Tm:=Tb.set (zYT tm i n v p0 c p4 d e a b) 28 (dd i)
theorem z2c(tm:Tm)(i:Int)(n:Int)(v:V)(p0:Nat)(c:Nat)(p4:Nat)(d:Nat)(e:Nat)(a:Int)(b:Int)(h:H):yD zB (jQ 2) (zx (zYU tm i n v p0 c p4 d e a b)) h=some (.val (.int .u8 (zU .u8 i)) h):=da
def zYV(tm:Tm)(i:Int)(n:Int)(v:V)(p0:Nat)(c:Nat)(p4:Nat)(d:Nat)(e:Nat)(a:Int)(b:Int):Tm:=Tb.set (zYU tm i n v p0 c p4 d e a b) 29 (.int .u8 (zU .u8 i))
theorem z2d(tm:Tm)(i:Int)(n:Int)(v:V)(p0:Nat)(d:Nat)(p4:Nat)(e:Nat)(c:Nat)(a:Int)(b:Int)(h:H):yD zB (jQ 3) (zx (zYV tm i n v p0 d p4 e c a b)) h=some (.val (.map c) h):=da
def zYW(tm:Tm)(i:Int)(n:Int)(v:V)(p0:Nat)(d:Nat)(p4:Nat)(e:Nat)(c:Nat)(a:Int)(b:Int):Tm:=Tb.set (zYV tm i n v p0 d p4 e c a b) 30 (.map c)
theorem zYn(tm:Tm)(i:Int)(n:Int)(v:V)(p0:Nat)(c:Nat)(p4:Nat)(d:Nat)(e:Nat)(a:Int)(b:Int):(jQ 4).op = .load 257 (t 9)/\zx (zYW tm i n v p0 c p4 d e a b) (t 9)=some (.ptr p4 0):=⟨da,da⟩
def zYX(tm:Tm)(i:Int)(n:Int)(v:V)(p0:Nat)(c:Nat)(p4:Nat)(d:Nat)(e:Nat)(a:Int)(b:Int):Tm:=Tb.set (zYW tm i n v p0 c p4 d e a b) 31 (.agg [dd a,dd b])
theorem zYo(tm:Tm)(i:Int)(n:Int)(v:V)(p0:Nat)(c:Nat)(p4:Nat)(d:Nat)(e:Nat)(a:Int)(b:Int):(jQ 5).op = .load 257 (t 9)/\zx (zYX tm i n v p0 c p4 d e a b) (t 9)=some (.ptr p4 0):=⟨da,da⟩
def zYY(tm:Tm)(i:Int)(n:Int)(v:V)(p0:Nat)(c:Nat)(p4:Nat)(d:Nat)(e:Nat)(a:Int)(b:Int):Tm:=Tb.set (zYX tm i n v p0 c p4 d e a b) 32 (.agg [dd a,dd b])
theorem z2e(tm:Tm)(i:Int)(n:Int)(v:V)(p0:Nat)(c:Nat)(p4:Nat)(d:Nat)(e:Nat)(a:Int)(b:Int)(h:H):yD zB (jQ 6) (zx (zYY tm i n v p0 c p4 d e a b)) h=some (.val (dd i) h):=da
def zYZ(tm:Tm)(i:Int)(n:Int)(v:V)(p0:Nat)(c:Nat)(p4:Nat)(d:Nat)(e:Nat)(a:Int)(b:Int):Tm:=Tb.set (zYY tm i n v p0 c p4 d e a b) 33 (dd i)
theorem z2f(tm:Tm)(i:Int)(n:Int)(v:V)(p0:Nat)(c:Nat)(p4:Nat)(d:Nat)(e:Nat)(a:Int)(b:Int)(h:H):yD zB (jQ 7) (zx (zYZ tm i n v p0 c p4 d e a b)) h=some (.val (.int .u8 (zU .u8 i)) h):=da
def X2(tm:Tm)(i:Int)(n:Int)(v:V)(p0:Nat)(c:Nat)(p4:Nat)(d:Nat)(e:Nat)(a:Int)(b:Int):Tm:=Tb.set (zYZ tm i n v p0 c p4 d e a b) 34 (.int .u8 (zU .u8 i))
theorem zQ8(tm:Tm)(i:Int)(n:Int)(v:V)(p0:Nat)(d:Nat)(p4:Nat)(c:Nat)(e:Nat)(a:Int)(b:Int):(jQ 8).op = .mapUpdate 311 (t 27) (t 29) (t 32)/\zx (X2 tm i n v p0 d p4 c e a b) (t 27)=some (.map c)/\zx (X2 tm i n v p0 d p4 c e a b) (t 29)=some (.int .u8 (zU .u8 i))/\zx (X2 tm i n v p0 d p4 c e a b) (t 32)=some (.agg [dd a,dd b]):=⟨da,da,da,da⟩
theorem zZs(tm:Tm)(i:Int)(n:Int)(v:V)(p0:Nat)(d:Nat)(p4:Nat)(c:Nat)(e:Nat)(a:Int)(b:Int):yq Xy (zi Xy []) 9 8 (X2 tm i n v p0 d p4 c e a b) (jQ 8)=((cond (!(Nat.beq c p4) && true) true false && true) || false):=da
theorem zQ9(tm:Tm)(i:Int)(n:Int)(v:V)(p0:Nat)(d:Nat)(p4:Nat)(e:Nat)(c:Nat)(a:Int)(b:Int):(jQ 9).op = .mapUpdate 312 (t 30) (t 31) (t 34)/\zx (X2 tm i n v p0 d p4 e c a b) (t 30)=some (.map c)/\zx (X2 tm i n v p0 d p4 e c a b) (t 31)=some (.agg [dd a,dd b])/\zx (X2 tm i n v p0 d p4 e c a b) (t 34)=some (.int .u8 (zU .u8 i)):=⟨da,da,da,da⟩
theorem gHf(tm:Tm)(i:Int)(n:Int)(v:V)(p0:Nat)(e:Nat)(p4:Nat)(c:Nat)(d:Nat)(a:Int)(b:Int):zI (X2 tm i n v p0 e p4 c d a b) 19=(dd i)/\zI (X2 tm i n v p0 e p4 c d a b) 18 = dd n/\zI (X2 tm i n v p0 e p4 c d a b) 17=v/\zI (X2 tm i n v p0 e p4 c d a b) 6 = .map c/\zI (X2 tm i n v p0 e p4 c d a b) 7 = .map d:=⟨da,da,da,da,da⟩
theorem dHf:(jQ 0).dst=some 27/\(jQ 1).dst=some 28/\(jQ 2).dst=some 29/\(jQ 3).dst=some 30/\(jQ 4).dst=some 31/\(jQ 5).dst=some 32/\(jQ 6).dst=some 33/\(jQ 7).dst=some 34/\(jQ 8).dst=none/\(jQ 9).dst=none:=⟨da,da,da,da,da,da,da,da,da,da⟩
theorem uHf:(jQ 0).guard=none/\(jQ 1).guard=none/\(jQ 2).guard=none/\(jQ 3).guard=none/\(jQ 4).guard=none/\(jQ 5).guard=none/\(jQ 6).guard=none/\(jQ 7).guard=none/\(jQ 8).guard=none/\(jQ 9).guard=none:=⟨da,da,da,da,da,da,da,da,da,da⟩
theorem zEW{c:Ctx}{o:Go.Oper}{t:Nat}{m k v:Go.Operand}{e:Go.Operand->Ui}{h h':H}{a kv d:V}(f:o.op = .mapUpdate t m k v)(hm:e m=some a)(g:e k=some kv)(i:e v=some d)(hs:Yg c t h a kv d=some h'):yD c o e h=some (.skip h'):=by unfold yD;simp only[f,hm,g,i,hs]
def kvC(p:Int×Int):V:=.agg [dd p.1,dd p.2]
def kvB(n:Int):V:=.int .u8 n
theorem zMf(a b:Int×Int):J5 zB 30 257 (kvC a) (kvC b)=some (decide (a=b)):=by
 have e:J5 zB 30 257 (kvC a) (kvC b)=(match some (Oj a.1 b.1)with|some true=>(match some (Oj a.2 b.2)with|some true=>some true|r=>r)|r=>r):=da
 rw[e,YX,YX];by_cases c:a.1=b.1
 .by_cases d:a.2=b.2
  .rw[decide_eq_true c,decide_eq_true d,decide_eq_true (Prod.ext c d)]
  rw[decide_eq_true c,decide_eq_false d,decide_eq_false (p:=a=b) λg=>d (by rw[g])]
 rw[decide_eq_false c,decide_eq_false (p:=a=b) λg=>c (by rw[g])]
theorem zWQ(a b:Int):J5 zB 30 5 (kvB a) (kvB b)=some (decide (a=b)):=by
 have e:J5 zB 30 5 (kvB a) (kvB b)=some (Oj a b):=da
 rw[e,YX]
theorem zIq(a:Int×Int):Ye zB 257 (kvC a)=true:=da
theorem zQm(a:Int):Ye zB 5 (kvB a)=true:=da
theorem Ok(a:Int):Oj a a=true:=by rw[YX];simp
theorem zMg(a:Int×Int):Zb (kvC a) (kvC a)=true:=by show(KI (dd a.1) (dd a.1) && (KI (dd a.2) (dd a.2) && true))=true;show((wv .i64 .i64 && Oj a.1 a.1) && ((wv .i64 .i64 && Oj a.2 a.2) && true))=true;rw[Ok,Ok];rfl
theorem zMe(a:Int):Zb (kvB a) (kvB a)=true:=by show(wv .u8 .u8 && Oj a a)=true;rw[Ok];rfl
abbrev oCd(a b:Int):O:=.cells (.ls [dd a,dd b]) ⟨0,258,0⟩ true false
theorem zQj{hb h:H}{c e f p4 p0 g:Nat}{B C:O}{i n a b:Int}{v:V}{M6:List (Int×V)}{M7:List ((Int×Int)×V)}{tm:Tm}{d:List AD}{Q:Ud}(w:Vw zN hb h c [(p4,oCd a b),(f,C),(e,B)])(X:MapG kvB h e M6)(Y:MapG kvC h f M7)(j:h.nx<=T.top)(hl:h.low<=T.top)(Z:∀h' B C,Vw zN hb h' c [(p4,oCd a b),(f,C),(e,B)]->h'.nx=h.nx->MapG kvC h' f (XR M7 (a,b) (kvB (zU .u8 i)))->(∃M,MapG kvB h' e M) ->
   ∀u,Has u [(19,dd i),(18,dd n),(17,v),(6,.map e),(7,.map f)]->Q .normal ⟨38,u,d,h'⟩):wpDr P zB false Xy ⟨38,zL6 tm i n v p0 g p4 e f a b,d,h⟩ Q:=by
 obtain⟨k1,_,k3,k4,_,k6,k7,_,k9,_⟩:=w.bk;have D:MapG kvB (zX h) e M6:=X;obtain⟨es,s,a8,m8⟩:=D.upd (t:=311) zWQ zQm zMe z0E rfl oy (zU .u8 i) (.agg [dd a,dd b]);have L1:yN h ((zX h).upd e (some (.map es s)))=h.upd e (some (.map es s)):=j7;have K:=w.upd 2 (o':=.map es s) rfl j;have x:MapG kvB (h.upd e (some (.map es s))) e (XR M6 (zU .u8 i) (.agg [dd a,dd b])):=m8;have y:MapG kvC (h.upd e (some (.map es s))) f M7:=Y.mono (zS _);have L:(h.upd e (some (.map es s))).nx=h.nx:=rfl;generalize h.upd e (some (.map es s))=h1 at L1 K x y L;obtain⟨o,q,N,R⟩:=y.upd (t:=312) zMf zIq zMg zVO rfl oy (a,b) (kvB (zU .u8 i));have S:=K.upd 1 (o':=.map o q) rfl oy;have z:MapG kvB (h1.upd f (some (.map o q))) e _:=x.mono (zS _);have U:(h1.upd f (some (.map o q))).nx=h.nx:=L;generalize h1.upd f (some (.map o q))=E at N S R z U;obtain⟨F,G,I,g6,g7⟩:=gHf tm i n v p0 g p4 e f a b;refine⟨jm,9,.normal,⟨38,X2 tm i n v p0 g p4 e f a b,d,E⟩,xu,z3d,?_,Z E _ _ S U R ⟨_,z⟩ _ ⟨F,G,I,g6,g7,trivial⟩⟩;have A:=zZs tm i n v p0 g p4 e f a b;rw[qf (show e≠p4 by omega)]at A;obtain⟨d0,d1,d2,d3,d4,d5,d6,d7,d8,d9⟩:=dHf;obtain⟨u0,u1,u2,u3,u4,u5,u6,u7,u8,u9⟩:=uHf;generalize hbs:zi Xy []=bs at A ⊢;generalize hops:Xy=ops at A ⊢;have J:ops=[jQ 0,jQ 1,jQ 2,jQ 3,jQ 4,jQ 5,jQ 6,jQ 7,jQ 8,jQ 9]:=by rw[<-hops];exact zNp
 have W:zo zB 257 (zX h) (.ptr p4 0)=some (.agg [dd a,dd b]):=zO Zc rfl (show(zX h).get p4=_ from k3) rfl;have r:yJ zB jm false jh ops bs 9 9 0 [jQ 0,jQ 1,jQ 2,jQ 3,jQ 4,jQ 5,jQ 6,jQ 7,jQ 8,jQ 9] ⟨38,zL6 tm i n v p0 g p4 e f a b,d,h⟩=some (.done .normal ⟨38,X2 tm i n v p0 g p4 e f a b,d,E⟩):=by
  refine zQ u0 (z2a tm i n v p0 g p4 e f a b _) d0 rfl j hl ?_;refine zQ u1 (z2b tm i n v p0 g p4 e f a b _) d1 rfl j hl ?_;refine zQ u2 (z2c tm i n v p0 g p4 e f a b _) d2 rfl j hl ?_;refine zQ u3 (z2d tm i n v p0 g p4 e f a b _) d3 rfl j hl ?_;refine zQ u4 (xF (zYn tm i n v p0 g p4 e f a b).1 (zYn tm i n v p0 g p4 e f a b).2 W) d4 rfl j hl ?_;refine zQ u5 (xF (zYo tm i n v p0 g p4 e f a b).1 (zYo tm i n v p0 g p4 e f a b).2 W) d5 rfl j hl ?_;refine zQ u6 (z2e tm i n v p0 g p4 e f a b _) d6 rfl j hl ?_;refine zQ u7 (z2f tm i n v p0 g p4 e f a b _) d7 rfl j hl ?_;refine jZ u8 (zEW (zQ8 tm i n v p0 g p4 e f a b).1 (zQ8 tm i n v p0 g p4 e f a b).2.1 (zQ8 tm i n v p0 g p4 e f a b).2.2.1 (zQ8 tm i n v p0 g p4 e f a b).2.2.2 a8) d8 (A.trans rfl) ?_;try dsimp only
  rw[L1];exact qW u9 (zEW (zQ9 tm i n v p0 g p4 e f a b).1 (zQ9 tm i n v p0 g p4 e f a b).2.1 (zQ9 tm i n v p0 g p4 e f a b).2.2.1 (zQ9 tm i n v p0 g p4 e f a b).2.2.2 N) d9
 rw[<-J]at r;exact r
def btm(l:Ub):Nat->List ((Int×Int)×V)
 | 0=>[]
 | i+1=>match (YT l)[i]? with
  | some p=>if 0<p.1 then XR (btm l i) p (kvB i) else btm l i
  | none=>btm l i
theorem zE1(l:Ub)(b v:Nat)(hb:0<b):∀n,lkG (btm l n) ((b:Int),(v:Int))=(ZF (YT l) b v n).map λx:Nat=>kvB (x:Int)
 | 0=>rfl
 | i+1=>by
  have ih:=zE1 l b v hb i;unfold btm ZF;cases a:(YT l)[i]? with
  | none=>simpa using ih
  | some p =>
   simp only[oA];by_cases c:p=((b:Int),(v:Int))
   .subst c;rw[if_pos (by show(0:Int)<b;omega),zIx,if_pos rfl,if_pos rfl];rfl
   rw[if_neg c];by_cases c2:0<p.1
   .rw[if_pos c2,zIx,if_neg (λe=>c e.symm)];exact ih
   rw[if_neg c2];exact ih
theorem zME{i:Nat}(hi:i<(YT l).length):btm l (i+1)=if 0<(YT l)[i].1 then XR (btm l i) ((YT l)[i].1,(YT l)[i].2) (kvB i) else btm l i:=by show(match (YT l)[i]? with|some p=>_|none=>_)=_;rw[oU hi]
theorem zLM{v:V}{l:Ub}(sl:Sl h v 1 l.length (zV l))(R:ju l)(hn:h.nx+1600<=T.top)(n:h.low<=T.top)(Z:∀h' r6 a,Ext h h' 1400->h.nx<=a->a<h'.nx->MapG kvC h' a (btm l l.length)->Q (.tuple [.map r6,.map a]) h'):RF P zB 263 [v] h Q:=by
 have hl:=R.1;have hcl:=zDE l;refine yU z1G (zKH sl R oy n λh1 y z U hv2=>⟨_,_,rfl,?_⟩);have t1:=z.top;have l1:=z.low;have le1:=z.le;have W:=(Vw.nil (S:=zN) (h:=h1)).new (h':=h1.new (.map [] 0)) rfl oy;have n5:(h1.new (.map [] 0)).nx=h1.nx+1:=z8 _ _;have A:=W.new (h':=(h1.new (.map [] 0)).new (.map [] 0)) rfl oy;have q:MapG kvC ((h1.new (.map [] 0)).new (.map [] 0)) (h1.new (.map [] 0)).nx []:=MapG.new oy;have B:MapG kvB ((h1.new (.map [] 0)).new (.map [] 0)) h1.nx []:=(MapG.new (kv:=kvB) (h:=h1) oy).mono ((A.get 1 rfl).trans (W.get 0 rfl).symm);refine⟨_,_,qN rfl,_,_,qN rfl,_,(U.ext A.ex0).len JW rfl,Has.nil.on λtm hs=>?_⟩;have X:h1.nx<(h1.new (.map [] 0)).nx:=oy
 generalize (h1.new (.map [] 0)).nx=a at *;generalize (h1.new (.map [] 0)).new (.map [] 0)=h7 at *;refine wpC.round (λk tm h'=>∃(i:Nat) (D E:O),i<=l.length/\k=l.length-i/\Vw zN h1 h' (2+i) [(a,E),(h1.nx,D)]/\MapG kvC h' a (btm l i)/\(∃M,MapG kvB h' h1.nx M)/\Has tm [(19,dd i),(18,dd l.length),(17,y),(6,.map h1.nx),(7,.map a)]) l.length ⟨0,_,_,oy,oy,A,q,⟨_,B⟩,hs.sub da⟩ ?_;clear hs q B A;rintro k tm h' ⟨i,D,E,hi0,rfl,w,q,⟨M6,B⟩,hs⟩;have tw:=w.top;have lw:=w.low;refine wpC.at hs zSJ rfl rfl ⟨λc=>?_,λc=>hs.on λF e=>?_⟩
 .have hi:i<(YT l).length:=oy
  obtain⟨b,o,e1,G,_⟩:=(U.ext w.ex0).atA (cx:=zB) (ys:=[dd (YT l)[i].1,dd (YT l)[i].2]) (show i<l.length by omega) JW rfl Zc rfl rfl db rfl (zOH (YT l) i hi);have g:=zME hi;generalize (YT l)[i]=p at G g;obtain⟨pa,pb⟩:=p;simp only at G g;refine⟨b,o,e1,_,_,G,oy,?_⟩;rintro p4 h5 rfl e5;have r:=w.new e5 oy;have t5:=r.top;obtain⟨C,e6,j,n6,_⟩:=r.st (cx:=zB) 0 (t:=257) (f:=0) (u:=.agg [dd pa,dd pb]) (cs':=.ls [dd pa,dd pb]) rfl oy Zc rfl;have s:MapG kvC C a (btm l i):=q.mono ((j.get 1 rfl).trans (w.get 0 rfl).symm);have x:MapG kvB C h1.nx M6:=B.mono ((j.get 2 rfl).trans (w.get 1 rfl).symm);have l6:=j.low;refine⟨C,e6,_,j.ld1 0 rfl zm rfl,λH=>?_,λH=>hs.on λF e=>⟨rfl,rfl,l.length-(i+1),oy,i+1,D,E,oy,rfl,(j.drop 1).more oy,?_,⟨_,x⟩,?_⟩⟩
  .rw[(xn (hs.sub (l':=[(19,dd i),(18,dd l.length),(17,y)]) da) rfl).trans (xn (hs.sub (l':=[(19,dd i),(18,dd l.length),(17,y),(6,.map h1.nx),(7,.map a)]) da) rfl).symm];show wpDr P zB false Xy ⟨38,zL6 tm i l.length y b o h'.nx h1.nx a pa pb,[],C⟩ _;refine zQj j x s oy oy λh8 I J w8 n8 Y m9 K d=>?_
   refine thenC.nx (wpS.av d zTN rfl rfl (d.on λtm3 L=>L.slt λwH N=>⟨rfl,rfl,l.length-(i+1),oy,i+1,I,J,oy,rfl,(w8.drop 1).more oy,?_,m9,?_⟩))
   .rw[g,if_pos H];rw[JY,ou]at Y;exact Y
   rw[<-xP];exact N.sub da
  .rw[g,if_neg H];exact s
  rw[<-xP];exact e.sub da
 have hi:i=l.length:=oy
 subst hi;refine thenC.left (wpS.av e zTO rfl rfl (e.on λK d=>?_));exact endW.r2 (d.get rfl) (d.get rfl) (Z h' _ _ ((z.trans w.ex0).mono oy) oy (w.lt 0 rfl) q)
theorem zVy{o:Nat}:zP zB 257 0 h (.ptr p o) k=k (.ptr p (o+0)) h:=da
theorem zVz{o:Nat}:zP zB 257 1 h (.ptr p o) k=k (.ptr p (o+1)) h:=da
theorem zVx{o:Nat}:zP zB 120 1 h (.ptr p o) k=k (.ptr p (o+1)) h:=da
theorem zE0(s:Ua)(left:Nat):yI s left 1<2:=by have:=jX s left 1;simpa using this
theorem zVi{w:Nat}(a:w<=2048)(hb:b<2):zj .shl .i64 (w:Int) 1=some (dd ((w*2^1:Nat):Int))/\zj .or .i64 ((w*2^1:Nat):Int) (zG (b:Int))=some (dd ((2*w+b:Nat):Int)):=by
 refine⟨zz (n:=1) oy oy,?_⟩;try dsimp only
 rw[zD oy oy,zJH,Nat.or_comm,zAS oy];congr 3;omega
theorem XC{k:Nat}{cs:Cs}{kk:Rk}{w op:Bool}{q:Uc}(f:h.get b=some (.cells cs kk w op))(g:q (.str []) h):qo zB 71 9 h (.slice b 0 0 (.exact k)) q:=by
 obtain⟨x,d⟩:=Cs.range_some (c:=cs) (o:=0) (k:=0) (oQ _);have a:x=[]:=List.length_eq_zero_iff.1 (Cs.range_eq d).1;subst a;have e:xz zB 71 9 h (.slice b 0 0 (.exact k))=some (.str [],h):=by unfold xz;rw[zBa,kO];simp only[ty5,f,d];rfl
 show ∃m h',xz zB 71 9 h (.slice b 0 0 (.exact k))=some (.str m,h')/\q (.str m) h';exact⟨[],h,e,g⟩
theorem K3{v:V}{l:Ub}{s:Ua}{n:Nat}{h:H}{Q:Uc}(sl:Sl h v 1 l.length (zV l))(Y:ju l)(hs:s.length<=1500)(hn0:n<=131072)(hn:h.nx+60000<=T.top)(hlow:h.low<=T.top)(Z:Q (.tuple [.str (wP s l n).1,dd (wP s l n).2]) h):RF P zB 195 [v,.str s,dd n] h Q:=by
 refine RF.forget (n:=50000) (v:=.tuple [.str (wP s l n).1,dd (wP s l n).2]) ?_ (qH (yx _) (zL _ _)) Z;clear Z Q;have hm:=Zz Y.2.1;refine yU z0k (zFq oy ?_);unfold rdB;by_cases c:zf s<0
 .have hv:wP s l n=([],22):=by unfold wP;rw[if_pos c]
  rw[if_pos c];refine⟨_,_,_,rfl,oy,?_⟩;rintro p5 h6 rfl e6;have w6:=(Vw.nil (S:=zN) (h:=h)).new e6 oy;have t6:=w6.top;obtain⟨h7,e7,B,n7,_⟩:=w6.st (cx:=zB) 0 (t:=120) (f:=0) (u:=.agg [.str [],dd 0]) (cs':=.ls [.str [],dd 0]) rfl oy zw rfl;exact⟨h7,e7,λ_=>⟨by rw[hv],B.ex0.mono oy⟩,λg=>absurd (show(22:Int)≠0 by decide) g⟩
 have hz:=wS s;obtain⟨a,C⟩:∃a:Nat,zf s=(a:Int):=⟨(zf s).toNat,oy⟩;have hv:wP s l n=xK s l n a 0 0 []:=by unfold wP;rw[if_neg c,C];rfl
 have hle0:a<=12000:=oy
 rw[if_neg c,C];refine⟨_,_,_,rfl,oy,?_⟩;rintro p5 h6 rfl e6;have w6:=(Vw.nil (S:=zN) (h:=h)).new e6 oy;have t6:=w6.top;obtain⟨h7,e7,B,n7,_⟩:=w6.st (cx:=zB) 0 (t:=120) (f:=0) (u:=OD s a) (cs':=.ls [.str s,dd a]) rfl oy zw rfl;have t7:=B.top;have l7:=B.low;refine⟨h7,e7,λg=>absurd rfl g,λ_=>zLM (sl.ext B.ex0) Y oy oy λh9 r6 r7 x9 q1 q2 m9=>⟨_,_,rfl,?_⟩⟩;obtain⟨es,cl,g9,F⟩:=m9;have w9:=(B.ext x9).push (p:=r7) (o:=.map es cl) (λq Z=>oO (B.bk.lt q Z) q1) q2 (by have:=B.le;omega) g9;have t9:=w9.top;obtain⟨v12,J,e13,ex13,x13,zWo⟩:=Ex.make (c:=zB) (h:=h9) (t:=71) (k:=n) zBa rfl ty5 rfl rfl rfl oy (by show 1*n<=_;omega) oy;obtain⟨_,_,bo,cs0,rfl,hblt,hbg,hbw,hbl,_⟩:=ex13;have hbo:bo=h9.nx:=by cases zWo;rfl
 have K:=(w9.ext x13).push (p:=bo) (o:=.cells cs0 ⟨0,0,0⟩ true false) (λq Z=>by rw[hbo];exact w9.bk.lt q Z) hblt (by rw[hbo];exact w9.le) hbg;have t13:=K.top;refine⟨_,J,e13,oy,?_⟩;rintro p14 h15 rfl e15;have L:=K.new e15 oy;have t15:=L.top;obtain⟨h16,e16,M,n16,_⟩:=L.st (cx:=zB) 0 (t:=257) (f:=0) (u:=.agg [dd 0,dd 0]) (cs':=.ls [dd 0,dd 0]) rfl oy Zc rfl;have t16:=M.top;refine⟨h16,e16,Has.nil.on λtm e=>?_⟩;generalize G:xK s l n a 0 0 []=res at hv;rw[hv];refine wpC.round (λk tm h'=>∃(left bits val cc:Nat) (out:Ua) (cs:Cs),left=k/\out.length<=n/\cc+3*left<=1404+3*a/\left<=a/\Vw zN h h' cc [(J.nx,oCd bits val),(bo,.cells cs ⟨0,0,0⟩ true false),(r7,.map es cl),(h.nx,OJ s left)] /\
  RowE cs 1 out.length n (bys out)/\Bts l bits val/\xK s l n left bits val out=res/\Has tm [(12,.slice bo 0 out.length (.exact n)),(2,dd n),(8,.ptr h.nx 0),(13,.ptr J.nx 0),(11,.map r7)]) a
  ⟨a,0,0,_,[],cs0,rfl,by simp,oy,oV _,M,⟨hbw,hbl,rfl,by simp,λi hi=>by simp at hi⟩,Bts.zero Y,G,e.sub da⟩ ?_
 clear e M L K w9 B w6 G;rintro k tm h' ⟨left,bits,val,cc,out,cs,rfl,hol,hcc,hll,w,row,bt,j,e⟩;have tw:=w.top;have hm7:MapG kvC h' r7 (btm l l.length):=⟨es,cl,w.get 2 rfl,F⟩;have slo:Sl h' (.slice bo 0 out.length (.exact n)) 1 out.length (bys out):=row.sl (w.lt 1 rfl) (w.get 1 rfl);have hb1:=bt.lt;have hb2:=bt.val;have hp:2^bits<=2^11:=Nat.pow_le_pow_right db oy;refine wpC.av e zSA rfl rfl ⟨_,slo.len zBa rfl,λc1=>?_,λc1=>e.on λN d=>?_⟩
 .have hlt:¬n<=out.length:=oy
  refine⟨s,left,w.ldA 3 rfl zw rfl,zGT oy oy db ?_⟩;unfold tkB;cases left with
  | zero =>
   rw[if_neg db];have hr:res=([],22):=by rw[<-j];unfold xK;rw[if_neg hlt]
   refine⟨_,_,_,_,rfl,oy,?_⟩;rintro p9 h10 rfl O;have z:=w.new O oy;have t10:=z.top;obtain⟨R,U,D,n11,_⟩:=z.st (cx:=zB) 0 (t:=120) (f:=0) (u:=.agg [.str [],dd 0]) (cs':=.ls [.str [],dd 0]) rfl oy zw rfl;refine⟨R,U,λ_=>e.on λN d=>?_,λg=>absurd (show(5:Int)≠0 by decide) g⟩;exact thenC.rt (thenC.rt (endW.r2 (d.get rfl) (d.get rfl) ⟨by rw[hr],D.ex0.mono oy⟩))
  | succ left =>
   rw[if_pos (show 1<=left+1 by omega)];have I:=zE0 s (left+1);refine⟨_,_,_,_,rfl,oy,?_⟩;rintro p9 h10 rfl O;have z:=w.new O oy;have t10:=z.top;obtain⟨R,U,D,n11,_⟩:=z.st (cx:=zB) 0 (t:=120) (f:=0) (u:=OD s (left+1-1)) (cs':=.ls [.str s,dd ((left+1-1:Nat):Int)]) rfl oy zw rfl;obtain⟨h14,e14,W,n14,_⟩:=D.st (cx:=zB) 4 (t:=120) (f:=0) (u:=OD s (left+1-1)) (cs':=.ls [.str s,dd ((left+1-1:Nat):Int)]) rfl oy zw rfl;have hbi:=zVi (w:=val) (b:=yI s (left+1) 1) oy I;have eb:zG ((bits:Int)+1)=((bits+1:Nat):Int):=xP;obtain⟨E,e23,A,n23,_⟩:=W.st (cx:=zB) 1 (t:=257) (f:=0) (u:=.agg [dd (bits+1:Nat),dd (2*val+yI s (left+1) 1:Nat)]) (cs':=.ls [dd (bits+1:Nat),dd (2*val+yI s (left+1) 1:Nat)]) rfl oy Zc rfl;have t23:=A.top;have hm23:MapG kvC E r7 (btm l l.length):=⟨es,cl,A.get 3 rfl,F⟩;have y:=hm23.look (t:=312) zMf zIq zVO rfl ty5 rfl (((bits+1:Nat):Int),((2*val+yI s (left+1) 1:Nat):Int)) true;rw[zE1 l (bits+1) _ (Nat.succ_pos _)]at y;change ke zB 312 E (.map r7) _ true=some (match (Za l (bits+1) (2*val+yI s (left+1) 1)).map (λx:Nat=>kvB (x:Int))with|some v=>qC true v true|none=>qC true (.int .u8 0) false)at y;have hgo2:xK s l n (left+1) bits val out=(match Za l (bits+1) (2*val+yI s (left+1) 1)with|some x=>xK s l n left 0 0 (out++[UInt8.ofNat x])|none=>xK s l n left (bits+1) (2*val+yI s (left+1) 1) out):=by show(if n<=out.length then _ else _)=_;rw[if_neg hlt];all_goals cases Za l (bits+1) (2*val+yI s (left+1) 1)<;>rfl
   rw[hgo2]at j;refine⟨R,U,λg=>absurd rfl g,λ_=>⟨_,_,D.ldA 0 rfl zw rfl,h14,e14,?_⟩⟩;try dsimp only
   rw[zVy];refine⟨_,W.ld1 1 rfl zm rfl,?_⟩;try dsimp only
   rw[zVz];refine⟨_,W.ld1 1 rfl zm rfl,_,hbi.1,_,hbi.2,E,by rw[eb];exact e23,_,_,A.ldA 1 rfl Zc rfl,?_⟩;cases hc:Za l (bits+1) (2*val+yI s (left+1) 1)with
   | none=>rw[hc]at y j;refine⟨_,_,y,λg=>(by cases g),λ_=>e.on λN d=>⟨rfl,rfl,left,oy,left,bits+1,_,_,out,cs,rfl,hol,?_,oy,A.drop 1,row,bt.step Y I hc,j,d.sub da⟩⟩;omega
   | some x =>
    rw[hc]at y j;have hx:=zAA _ hc;have hxl:=Y.1;refine⟨_,_,y,λ_=>?_,λg=>(by cases g)⟩;obtain⟨h29,e29,s29,x29⟩:=zIb (h:=E) (x:Int) oy;have w29:=A.ext x29;have t29:=w29.top;obtain⟨h31,cs',e31,X,w31,n31⟩:=w29.app (cx:=zB) 2 rfl row s29 db zBa rfl ty5 rfl rfl oy rfl oy;obtain⟨h32,e32,w32,n32,_⟩:=w31.st (cx:=zB) 1 (t:=257) (f:=0) (u:=.agg [dd 0,dd 0]) (cs':=.ls [dd 0,dd 0]) rfl oy Zc rfl;have eby:bys out++[V.int .u8 (x:Int)]=bys (out++[UInt8.ofNat x]):=by rw[zDD];congr 1;show[V.int .u8 (x:Int)]=[V.int .u8 (((UInt8.ofNat x).toNat:Nat):Int)];rw[UInt8.toNat_ofNat',ou]
    refine⟨_,h29,e29,trivial,_,h31,e31,h32,e32,e.on λN d=>⟨rfl,rfl,left,oy,left,0,0,_,out++[UInt8.ofNat x],cs',rfl,by simp;omega,?_,oy,w32.drop 1,?_,Bts.zero Y,j,?_⟩⟩
    .omega
    .rw[<-eby,oe];exact X
    rw[oe];exact d.sub da
 have hge:n<=out.length:=oy
 refine thenC.left (wpS.av d zSz rfl rfl ?_);try dsimp only
 rw[zVx];refine⟨_,w.ld1 3 rfl zm rfl,λc2=>d.on λtm2 r=>?_,λc2=>?_⟩
 .have hr:res=([],22):=by
   rw[<-j];rcases left with _|left
   .omega
   unfold xK;rw[if_pos hge]
  exact endW.r2 (r.get rfl) (r.get rfl) ⟨by rw[hr],w.ex0.mono oy⟩
 have C:left=0:=oy
 subst C;have hr:res=(out,0):=by rw[<-j];unfold xK;rw[if_pos hge]
 by_cases ho:out=[]
 .subst ho;refine XC (w.get 1 rfl) (d.on λtm2 r=>?_);exact endW.r2 (r.get rfl) (r.get rfl) ⟨by rw[hr],w.ex0.mono oy⟩
 refine Oh slo (List.length_pos_iff.2 ho) (d.on λtm2 r=>?_);exact endW.r2 (r.get rfl) (r.get rfl) ⟨by rw[hr],w.ex0.mono oy⟩
end Go.Proofs.YtnpeieeomokomaaGreat
