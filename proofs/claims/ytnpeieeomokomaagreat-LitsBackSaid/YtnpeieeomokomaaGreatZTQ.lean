/- TQ. No condition. -/
import Derived.Test.YtnpeieeomokomaaGreatZTP
import Derived.Test.YtnpeieeomokomaaGreatZTO
import Derived.Test.YtnpeieeomokomaaGreatZTA
import Derived.Test.YtnpeieeomokomaaGreatZCtx
import Derived.Test.YtnpeieeomokomaaGreatZX
import Derived.Test.YtnpeieeomokomaaGreatZS
import Derived.Shelf.Strings.Repeat
set_option maxRecDepth 100000
set_option maxHeartbeats 4000000
namespace Go.Proofs.YtnpeieeomokomaaGreat
open Go.Sim
variable {h:H}{Q:Uc}
variable{l:Ub}{s:Ua}{n:Nat}{v:V}
abbrev Xa(s:Ua):O:=.cells (.ls [.str s]) ⟨0,10,0⟩ true false
abbrev li(x:Int):O:=.cells (.ls [dh x]) ⟨0,4,0⟩ true false
abbrev EX(x:Int):O:=.cells (.ls [dh x]) ⟨0,25,0⟩ true false
noncomputable abbrev Tp(st:LoopState)(a:Option Go.Code)(tm:Tm)(df:Nat):O:=.loop st a 94 tm #[72,73] Ye YL df
abbrev C0(n:Nat):O:=.cells (.ls (PG n)) ⟨0,177,0⟩ true false
abbrev IZ(v:V):O:=.cells (.ls [v]) ⟨0,24,0⟩ true false
def K1(n i:Nat):Nat:=if i<3 then (n+3)/4 else n-3*((n+3)/4)
theorem zBE:∀i,i<4->(Cs.ls (PG n)).get? i=some (dh (K1 n i))
 | 0,_=>rfl
 | 1,_=>rfl
 | 2,_=>rfl
 | 3,_=>rfl
theorem Sn{i:Nat}(h:n<=131072):K1 n i<=131072:=by unfold K1;split<;>omega
theorem bU{p:Nat}:∀i,i<4->xK zB 176 (.ptr p 0) (dh (i:Nat))=some (.ptr p i)
 | 0,_=>de
 | 1,_=>de
 | 2,_=>de
 | 3,_=>de
theorem rO(s:Ua)(l:Ub)(n:Nat):∀left b v (out:Ua),out.length<=n->(wU s l n left b v out).1.length<=n
 | 0,b,v,out,h=>by
  unfold wU;split
  .exact h
  exact oM _
 | k+1,b,v,out,h=>by
  unfold wU;split
  .exact oM _
  rename_i c;split
  .exact rO s l n k _ _ _ (by rw[oW];exact Nat.lt_of_not_le c)
  exact rO s l n k _ _ _ h
theorem Vj(s:Ua)(l:Ub)(n:Nat):(qn s l n).1.length<=n:=by
 unfold qn;split
 .exact oM _
 exact rO _ _ _ _ _ _ _ (oM _)
theorem thenC.ret{K:St->Prop}{R:Ud}{s:St}(h:R .ret s):thenC K R .ret s:=h
theorem Wh{hb h:H}{c l df pa ps pm pt po pl d e g p0 i n at_:Nat}{o os p:O}{tm:Tm}{part out:Ua}{v:V}{lens:Ub}(hi:i<4)(w:Vw zH hb h c [(l,Tp .ready none tm df),(df,.deferred true),(pa,o),(ps,os),(pm,C0 n),(pt,li at_),(po,Xa out),(pl,p),(d,EX 0),(e,li 0),(g,Xa []),(p0,IZ v)])(hs:Has tm [(3,.ptr p0 0),(17,.ptr pm 0),(16,.ptr pt 0),(15,.ptr po 0),(6,.ptr g 0),(7,.ptr e 0),(8,.ptr d 0)])(sl:Sl hb v 1 lens.length (zI lens))(M:yk lens)(hp:part.length<=1500)(ho:out.length<=10000000)(N:at_<=10000)(j:n<=131072)(hn:h.nx+60000<=T.top)(hl:h.low<=T.top)(r:(qn part lens (K1 n i)).2=0->∀h',Vw zH hb h' c [(l,Tp .ready none tm df),(df,.deferred true),(pa,o),(ps,os),(pm,C0 n),(pt,li (at_+part.length:Nat)),(po,Xa (out++(qn part lens (K1 n i)).1)),(pl,p),(d,EX 0),(e,li 0),(g,Xa []),(p0,IZ v)]->h'.nx=h.nx->Q (.bool true) h')(x:(qn part lens (K1 n i)).2≠0->∀h',Vw zH hb h' c [(l,Tp .done (some .ret) tm df),(df,.deferred true),(pa,o),(ps,os),(pm,C0 n),(pt,li at_),(po,Xa out),(pl,p),(d,EX 22),(e,li at_),(g,Xa []),(p0,IZ v)]->h'.nx=h.nx->Q (.bool false) h'):
  RR P l [dh (i:Nat),.str part] h Q:=by
 have y:l<T.top:=oL (w.lt 0 rfl) dd;refine RR.intro y (w.get 0 rfl) rfl (RC.of_wp xf Ye ?_);refine cg I5 (l:=[(73,.str part),(72,dh (i:Nat)),(3,.ptr p0 0),(17,.ptr pm 0),(16,.ptr pt 0),(15,.ptr po 0),(6,.ptr g 0),(7,.ptr e 0),(8,.ptr d 0)]) ⟨de,de,(show zq (Tb.set (Tb.set tm 72 _) 73 _) 3=zq tm 3 by kernel_rfl).trans (hs.get rfl),(show zq (Tb.set (Tb.set tm 72 _) 73 _) 17=zq tm 17 by kernel_rfl).trans (hs.get rfl),(show zq (Tb.set (Tb.set tm 72 _) 73 _) 16=zq tm 16 by kernel_rfl).trans (hs.get rfl),(show zq (Tb.set (Tb.set tm 72 _) 73 _) 15=zq tm 15 by kernel_rfl).trans (hs.get rfl),(show zq (Tb.set (Tb.set tm 72 _) 73 _) 6=zq tm 6 by kernel_rfl).trans (hs.get rfl),(show zq (Tb.set (Tb.set tm 72 _) 73 _) 7=zq tm 7 by kernel_rfl).trans (hs.get rfl),(show zq (Tb.set (Tb.set tm 72 _) 73 _) 8=zq tm 8 by kernel_rfl).trans (hs.get rfl),trivial⟩ (λz A=>?_);refine⟨rfl,_,_,_,_,_,_,_,w.get 0 rfl,RC.of_wp xf YL ?_⟩;have a:Vw zH hb (h.upd l (some (Tp .busy none tm df))) c [(l,Tp .busy none tm df),(df,.deferred true),(pa,o),(ps,os),(pm,C0 n),(pt,li at_),(po,Xa out),(pl,p),(d,EX 0),(e,li 0),(g,Xa []),(p0,IZ v)]:=w.upd 0 rfl dd;show wpC P zB true (jm YL) ⟨94,z,[],h.upd l (some (Tp .busy none tm df))⟩ _;have n1:(h.upd l (some (Tp .busy none tm df))).nx=h.nx:=rfl;have k:(h.upd l (some (Tp .busy none tm df))).low<=T.top:=by rw[H.low_upd];omega
 generalize h.upd l (some (Tp .busy none tm df))=K at a n1 k ⊢;have B:=sl.ext a.ex0;refine cg I5 A ⟨de,⟨dd,k⟩,_,a.ld1 11 rfl zM rfl,pm,i,bU i hi,_,a.ld1 4 (f:=i) rfl zX (zBE i hi),?_⟩;refine pP (show Sl (z8 K) v 1 lens.length (zI lens)from B) M hp (Sn j) (show K.nx+60000<=T.top by omega) (oR _) ⟨_,_,rfl,nd dd k ⟨λm=>?_,λm=>?_⟩⟩
 .obtain⟨_,_,_,_,_,_,_,_,_,_,_,_,_,_,_,_,_,_,R,_,_,S,_,_,U,_,_,W,_,_,C,_⟩:=a.bk;obtain⟨h2,D,E,X,_⟩:=a.st (cx:=zB) 10 (t:=9) (f:=0) (u:=.str []) (cs':=.ls [.str []]) rfl dd xk rfl;obtain⟨h3,F,q,Y,_⟩:=E.st (cx:=zB) 9 (t:=3) (f:=0) (u:=dh at_) (cs':=.ls [dh at_]) rfl dd zX rfl;obtain⟨h4,Z,L,n4,_⟩:=q.st (cx:=zB) 8 (t:=24) (f:=0) (u:=dh 22) (cs':=.ls [dh 22]) rfl dd kK rfl;refine⟨de,⟨dd,k⟩,_,a.ld1 5 rfl zX rfl,dd,h2,D,h3,F,h4,Z,λb G=>?_⟩;have I:=L.get 0 rfl;show(match yZ l .ret ⟨94,b,[],h4⟩with|some (.ret v h')=>Q v h'|_=>False);simp only[yZ,I];exact x m _ (L.upd 0 rfl dd) (by show h4.nx=h.nx;omega)
 have m:=Decidable.not_not.1 m;obtain⟨_,_,_,_,_,_,_,_,_,_,_,_,_,_,_,_,_,_,R,_,_,S,_,_,U,_,_,W,_,_,C,_⟩:=a.bk;have hvl:=Vj part lens (K1 n i);have hml:=Sn (i:=i) j;have J:zb ((at_:Int)+Int.ofNat part.length)=((at_+part.length:Nat):Int):=zD (show -9223372036854775808<=(at_:Int)+(part.length:Int)by omega) (show(at_:Int)+(part.length:Int)<9223372036854775808 by omega);obtain⟨h2,D,E,X,_⟩:=a.st (cx:=zB) 6 (t:=9) (f:=0) (u:=.str (out++(qn part lens (K1 n i)).1)) (cs':=.ls [.str (out++(qn part lens (K1 n i)).1)]) rfl dd xk rfl;obtain⟨h3,F,q,Y,_⟩:=E.st (cx:=zB) 5 (t:=3) (f:=0) (u:=dh (at_+part.length:Nat)) (cs':=.ls [dh (at_+part.length:Nat)]) rfl dd zX rfl;refine⟨de,⟨dd,k⟩,_,a.ld1 6 rfl xk rfl,dd,_,a.ld1 5 rfl zX rfl,dd,h2,D,h3,by rw[J];exact F,λb G=>?_⟩;have I:=q.get 0 rfl;show(match yZ l .normal ⟨94,b,[],h3⟩with|some (.ret v h')=>Q v h'|_=>False);simp only[yZ,I];exact r m _ (q.upd 0 rfl dd) (by show h3.nx=h.nx;omega)
def n4(a b c d:Nat)(i:Nat):Nat:=if i=0 then a else if i=1 then b else if i=2 then c else d
def s4(a b c d:Nat)(i:Nat):Nat:=if i=0 then 6 else if i=1 then 6+a else if i=2 then 6+a+b else if i=3 then 6+a+b+c else 6+a+b+c+d
theorem Cq{a b c d i:Nat}(hi:i<4):s4 a b c d (i+1)=s4 a b c d i+n4 a b c d i:=by
 match i,hi with
 | 0,_=>rfl
 | 1,_=>rfl
 | 2,_=>rfl
 | 3,_=>rfl
theorem AR{a b c d i:Nat}:s4 a b c d i<=6+a+b+c+d:=by unfold s4;(repeat' split)<;>omega
abbrev ag4(a b c d:Int):V:=.agg [dh a,dh b,dh c,dh d]
theorem Ef{a b c d:Nat}:∀i,i<4->wM zB 176 (ag4 a b c d) (dh (i:Nat))=some (dh (n4 a b c d i))
 | 0,_=>de
 | 1,_=>de
 | 2,_=>de
 | 3,_=>de
def qB(l:Ub)(s:Ua)(n:Nat)(z:Nat->Nat):Nat->Nat->Ua->List UInt8×Nat×Int
 | 0,_,out=>(out,0,0)
 | k+1,i,out=>if (qn (zS s (z i) (z (i+1))) l (K1 n i)).2=0 then qB l s n z k (i+1) (out++(qn (zS s (z i) (z (i+1))) l (K1 n i)).1) else ([],z i,22)
theorem AP{k:Uc}(a:k (.bool false) h):Xr zB 4 k (.bool false) h:=⟨false,rfl,λg=>(by cases g),λ_=>a⟩
theorem uI{y:Nat}(h2:y<=s.length):zw zB 9 h (.str s) (some (dh y)) none none=some (.str (s.drop y)):=by
 unfold zw;have a:ya (y:Int)=some y:=rfl;have b:YP s 0=s.length:=by rw[yl];omega
 simp only[xk,Go.Sim.bnd,a,b];have c:zS s y s.length=s.drop y:=by unfold zS;rw[List.take_of_length_le (by rw[List.length_drop];exact oR _)]
 rw[oE h2,oN,<-c];try rfl
theorem NK{x y:Nat}(_:x<=y):zS (s.drop x) 0 (y-x)=zS s x y:=by unfold zS;rw[List.drop_zero,Nat.sub_zero]
theorem VO{hb h:H}{c l df pa ps pm pt po pl p q r p0 n a b d e:Nat}{D:O}{tm:Tm}{s:Ua}{v:V}{lens:Ub}(w:Vw zH hb h c [(l,Tp .ready none tm df),(df,.deferred true),(pa,oP4 a b d e),(ps,Xa (s.drop 6)),(pm,C0 n),(pt,li 6),(po,Xa []),(pl,D),(p,EX 0),(q,li 0),(r,Xa []),(p0,IZ v)])(hs:Has tm [(3,.ptr p0 0),(17,.ptr pm 0),(16,.ptr pt 0),(15,.ptr po 0),(6,.ptr r 0),(7,.ptr q 0),(8,.ptr p 0)])(sl:Sl hb v 1 lens.length (zI lens))(R:yk lens)(S:6+a+b+d+e=s.length)(hp:s.length<=1500)(x:n<=131072)(hn:h.nx+60000<=T.top)(hl:hb.low<=T.top)(F:∀h' out os,qB lens s n (s4 a b d e) 4 0 []=(out,0,0)->Vw zH hb h' c [(l,Tp .ready none tm df),(df,.deferred true),(pa,oP4 a b d e),(ps,os),(pm,C0 n),(pt,li s.length),(po,Xa out),(pl,D),(p,EX 0),(q,li 0),(r,Xa []),(p0,IZ v)]->h'.nx=h.nx->Q (.tuple []) h')(G:∀h' out os,∀at_:Nat,qB lens s n (s4 a b d e) 4 0 []=([],at_,22)->Vw zH hb h' c [(l,Tp .done (some .ret) tm df),(df,.deferred true),(pa,oP4 a b d e),(ps,os),(pm,C0 n),(pt,li at_),(po,Xa out),(pl,D),(p,EX 22),(q,li at_),(r,Xa []),(p0,IZ v)]->h'.nx=h.nx->Q (.tuple []) h'):
  RF P zB 264 [.yield l,.ptr pa 0,.ptr ps 0] h Q:=by
 refine zh E5 Bn ⟨_,_,_,_,w.ldA 2 rfl fQ rfl,λA B=>?_⟩;refine wpC.round (λk A h'=>∃i out,i<=4/\k=4-i/\h'.nx=h.nx/\out.length<=i*131072/\Vw zH hb h' c [(l,Tp .ready none tm df),(df,.deferred true),(pa,oP4 a b d e),(ps,Xa (s.drop (s4 a b d e i))),(pm,C0 n),(pt,li (s4 a b d e i:Nat)),(po,Xa out),(pl,D),(p,EX 0),(q,li 0),(r,Xa []),(p0,IZ v)] /\
  qB lens s n (s4 a b d e) (4-i) i out=qB lens s n (s4 a b d e) 4 0 []/\Has A [(7,dh i),(6,ag4 a b d e),(0,.yield l),(2,.ptr ps 0)]) 4
  ⟨0,[],dd,rfl,rfl,oR _,w,rfl,B.sub rfl⟩ ?_
 clear B w;rintro k U h' ⟨i,out,W,rfl,I,X,w,m,J⟩;refine cg E5 J ⟨λY=>?_,λY=>λC o=>?_⟩
 .have hi:i<4:=dd
  have j:=Cq (a:=a) (b:=b) (c:=d) (d:=e) hi;have Z:=AR (a:=a) (b:=b) (c:=d) (d:=e) (i:=i+1);have L:n4 a b d e i=s4 a b d e (i+1)-s4 a b d e i:=dd
  have hdl:(s.drop (s4 a b d e i)).length=s.length-s4 a b d e i:=List.length_drop ..;refine⟨_,Ef i hi,_,w.ld1 3 rfl xk rfl,_,Vg (y:=n4 a b d e i) dd,?_⟩;rw[L,NK dd];have K:(zS s (s4 a b d e i) (s4 a b d e (i+1))).length=n4 a b d e i:=by rw[zS,List.length_take,List.length_drop];omega
  have g:qB lens s n (s4 a b d e) (4-i) i out=if (qn (zS s (s4 a b d e i) (s4 a b d e (i+1))) lens (K1 n i)).2=0 then qB lens s n (s4 a b d e) (4-(i+1)) (i+1) (out++(qn (zS s (s4 a b d e i) (s4 a b d e (i+1))) lens (K1 n i)).1) else ([],s4 a b d e i,22):=by rw[show 4-i=(4-(i+1))+1 by omega];rfl
  show RR P l [dh (i:Nat),.str (zS s (s4 a b d e i) (s4 a b d e (i+1)))] h' _;refine Wh hi w hs sl R dd dd dd x dd (oS w.low hl) (λz h2 E n2=>JD (?_)) (λz h2 E n2=>AP (?_))
  .rw[if_pos z,m]at g;have hv:=Vj (zS s (s4 a b d e i) (s4 a b d e (i+1))) lens (K1 n i);have hm:=Sn (i:=i) x;have ls:ye zB 9 h2 (.ptr ps 0)=some (.str (s.drop (s4 a b d e i))):=E.ld1 3 rfl xk rfl;have M:=uI (s:=s.drop (s4 a b d e i)) (y:=n4 a b d e i) (h:=h2) dd;rw[List.drop_drop,<-j]at M;obtain⟨h3,e3,N,n3,_⟩:=E.st (cx:=zB) 3 (t:=9) (f:=0) (u:=.str (s.drop (s4 a b d e (i+1)))) (cs':=.ls [.str (s.drop (s4 a b d e (i+1)))]) rfl dd xk rfl;rw[<-L];refine⟨_,ls,_,M,h3,e3,λC o=>⟨rfl,rfl,4-(i+1),dd,i+1,_,dd,rfl,(show h3.nx=h.nx by omega),?_,?_,g.symm,?_⟩⟩
   .rw[oW];omega
   .rw[K,<-j]at N;exact N
   have e1:zb ((i:Int)+1)=((i+1:Nat):Int):=by rw[zD dd dd];rfl
   rw[<-e1];exact o.sub de
  rw[if_neg z,m]at g;refine λC o=>?_
  show Q (.tuple []) h2;exact G h2 _ _ _ g E dd
 have hi:i=4:=dd
 subst hi;show Q (.tuple []) h';rw[show s4 a b d e 4=s.length from S]at w;exact F h' out _ m.symm w I
theorem ql(h:jE l=0):yk l:=by
 unfold jE at h;split at h
 .cases h
 split at h
 .split at h
  .cases h
  split at h
  .exact⟨dd,by assumption,dd,by assumption⟩
  cases h
 cases h
theorem vO(l:Ub)(h:n<=131072):CY l n=jE l:=by
 unfold CY;by_cases c:jE l=0
 .rw[if_pos c,if_neg dd,c]
 rw[if_neg c]
def uv(s:Ua)(l:Ub)(n:Nat):List UInt8×Int:=if jE l=0 then qn s l n else ([],jE l)
theorem Hp(sl:Sl h v 1 l.length (zI l))(hl:l.length<=1000)(hs:s.length<=1500)(a:n<=131072)(e:h.nx+60000<=T.top)(d:h.low<=T.top)(b:Q (.tuple [.str (uv s l n).1,dh (uv s l n).2]) h):RF P zB 123 [v,.str s,dh n] h Q:=by
 refine zh zHC zDY (vP sl hl ⟨_,rfl,λc=>?_,λc=>?_⟩)
 .rw[vO l a]at c ⊢;unfold uv at b;rw[if_neg c]at b;exact b
 have c:=Decidable.not_not.1 c;rw[vO l a]at c;unfold uv at b;rw[if_pos c]at b;exact pP sl (ql c) hs a e d ⟨_,_,rfl,b⟩
theorem FP{s:Ua}{a:Nat}(F:a+2<=s.length)(hs:s.length<=1500)(A:Q (.tuple [.int .u64 (kq (zS s a (a+2)):Nat),dh (a+2:Nat),.agg [dh 0,dh 0]]) h):RF P zB 196 [.str s,dh a,dh 2] h Q:=by
 refine RF.plain ?_ (zCt (yR _) (zN _ _) (zN _ _));refine zh zCO zDw ⟨dg,?_⟩;rintro p x rfl y;have B:x.get H0.nx=some (oF 0 0):=by rw[y];exact zK _ dg
 clear y;refine⟨λc=>absurd c dg,λ_=>⟨λc=>absurd c dg,λ_=>⟨λc=>absurd c dd,λ_=>⟨λc=>absurd (show(s.length:Int)<a from c) dd,λ_=>λtm f=>?_⟩⟩⟩⟩;refine sg f ⟨λc=>absurd (show zb ((s.length:Int)-a)<2 from c) (by rw[zD dd dd];omega),λ_=>λj d=>?_⟩;refine thenC.nx (d.sealK λm g=>?_);refine sg g (λq e=>?_);have hl:(zS s a (a+2)).length=2:=by rw[zS,List.length_take,List.length_drop];omega
 refine wpC.round (λk tm h'=>∃i:Nat,i<=2/\k=2-i/\h'=x/\Has tm [(39,dh i),(38,dh 2),(6,.int .u64 (kq ((zS s a (a+2)).take i):Nat)),(0,.str s),(1,dh a),(2,dh 2),(8,.ptr H0.nx 0)]) 2 ⟨0,dd,rfl,rfl,e.sub rfl⟩ ?_;clear f d g e;rintro k tm h' ⟨i,C,rfl,rfl,f⟩;refine cg zCO f ⟨λc=>?_,λc=>λj d=>?_⟩
 .have hi:i<2:=dd
  obtain⟨b,hb⟩:∃b,s[a+i]? = some b:=⟨s[a+i]'dd,oQ dd⟩;have r:(zS s a (a+2))[i]? = some b:=by rw[zS,List.getElem?_take_of_lt dd,List.getElem?_drop,hb]
  have D:=b.toNat_lt;have hp:256^i<=256^1:=Nat.pow_le_pow_right dg dd;have E:b.toNat*256^i<=255*256^i:=Nat.mul_le_mul_right _ dd;have z:=bO ((zS s a (a+2)).take i);rw[List.length_take,Nat.min_eq_left dd]at z;have hw:zb ((8:Int)*(i:Int))=((8*i:Nat):Int):=by rw[zD dd dd];omega
  have u:zb ((a:Int)+(i:Int))=((a+i:Nat):Int):=by rw[zD dd dd];rfl
  have w:zb ((i:Int)+1)=((i+1:Nat):Int):=by rw[zD dd dd];rfl
  refine⟨_,by rw[u];exact yj hb,((b.toNat*2^(8*i):Nat):Int),?_,((kq ((zS s a (a+2)).take (i+1)):Nat):Int),?_,λj d=>?_⟩
  .rw[zV dd,hw];exact wD dd (by rw[tB];omega)
  .rw[ZM (by rw[tB];omega),qC (by rw[tB];exact z),tB,fS r]
  rw[w]at d;exact⟨rfl,rfl,2-(i+1),dd,i+1,dd,rfl,rfl,d.sub de⟩
 have hi:i=2:=dd
 subst hi;rw[List.take_of_length_le dd]at d;refine thenC.left (sg d ⟨_,zY zp B rfl,λm g=>g.slt λq e=>?_⟩);refine D5 (p:=H0.nx) (o:=0) (e.get (t:=6) rfl) (e.get (t:=7) rfl) (e.get (t:=8) rfl) (zT zp rfl (zF _ dg) rfl) ⟨Gx (zN _ _) (zN _ _) (jg (eI (zN _ _) (zN _ _))),?_⟩;rw[zD dd dd];exact A
def l2(s:Ua)(a:Nat):Nat:=kq (zS s a (a+2))
theorem Qk(s:Ua)(a:Nat):l2 s a<65536:=by
 have h:=bO (zS s a (a+2));have hl:(zS s a (a+2)).length<=2:=by rw[zS,List.length_take];omega
 have hp:256^(zS s a (a+2)).length<=256^2:=Nat.pow_le_pow_right dg hl;have b:(256:Nat)^2=65536:=dg
 unfold l2;omega
def l6(s:Ua):Nat:=6+l2 s 0+l2 s 2+l2 s 4
def wT(s:Ua)(l:Ub)(n:Nat):List UInt8×Nat×Int :=
 if jE l≠0 then ([],0,jE l) else if n<6 then ([],0,20) else if s.length<6 then ([],0,22) else if s.length<l6 s then ([],0,22)
 else qB l s n (s4 (l2 s 0) (l2 s 2) (l2 s 4) (s.length-l6 s)) 4 0 []
def zA(s:Ua)(j i:Nat):Int:=if j<i then (l2 s (2*j):Int) else 0
def zR(s:Ua):Nat->Int
 | 0=>(s.length:Int)-6
 | i+1=>zR s i-l2 s (2*i)
abbrev oZ(s:Ua)(i:Nat):O:=oP4 (zA s 0 i) (zA s 1 i) (zA s 2 i) (zR s i)
theorem rZ{e:Nat}{xs:Ug}(s:Sl h v e n xs):v.one=true:=by obtain⟨_,⟨rfl,_⟩|⟨b,o,a,cs,k,w,op,rfl,_⟩⟩:=s<;>rfl
theorem H6{tm:Tm}{df a b c m:Nat}{out:Ua}{at_ e:Int}{x:AX}(d:x = .ret)(hs:Has tm [(6,.ptr c 0),(7,.ptr b 0),(8,.ptr a 0)])(g:h.get df=some (.deferred true))(h2:ye zB 9 (h.upd df (some (.deferred false))) (.ptr c 0)=some (.str out))(h4:ye zB 3 (h.upd df (some (.deferred false))) (.ptr b 0)=some (dh at_))(f:ye zB 24 (h.upd df (some (.deferred false))) (.ptr a 0)=some (dh e))(i:Q (.tuple [.str out,dh at_,dh e]) (h.upd df (some (.deferred false)))):endW zB ⟨94,[.cell 6 9,.cell 7 3,.cell 8 24],bf 124⟩ Q x ⟨m,tm,[.coll df],h⟩:=by
 subst d;show Kr [.coll df] h _;simp only[Kr,g];have el:∀rs,leave zB rs tm (h.upd df (some (.deferred false))) [.cell 6 9,.cell 7 3,.cell 8 24] []=some [.str out,dh at_,dh e]:=λrs=>leave.cell (hs.get (t:=6) rfl) h2 (leave.cell (hs.get (t:=7) rfl) h4 (leave.cell (hs.get (t:=8) rfl) f rfl))
 rw[el];exact i
theorem zJ3:∀i,i<3->(Cs.ls [dh (zA s 0 i),dh (zA s 1 i),dh (zA s 2 i),dh (zR s i)]).put i (dh (l2 s (2*i):Nat)).cells=some (.ls [dh (zA s 0 (i+1)),dh (zA s 1 (i+1)),dh (zA s 2 (i+1)),dh (zR s i)])
 | 0,_=>de
 | 1,_=>de
 | 2,_=>de
theorem zJ2:∀i,i<3->(Cs.ls [dh (zA s 0 (i+1)),dh (zA s 1 (i+1)),dh (zA s 2 (i+1)),dh (zR s i)]).get? i=some (dh (l2 s (2*i):Nat))
 | 0,_=>de
 | 1,_=>de
 | 2,_=>de
theorem Wd{v:V}{l:Ub}{s:Ua}{n:Nat}{h:H}{Q:Uc}(sl:Sl h v 1 l.length (zI l))(hl:l.length<=1000)(hs:s.length<=1500)(K:n<=131072)(hn:h.nx+61000<=T.top)(z:h.low<=T.top)(hq:Q (.tuple [.str (wT s l n).1,.int .i64 (wT s l n).2.1,.int .i64 (wT s l n).2.2]) h):RF P zB 124 [v,.str s,.int .i64 n] h Q:=by
 refine RF.forget (n:=100) (v:=.tuple [.str (wT s l n).1,.int .i64 (wT s l n).2.1,.int .i64 (wT s l n).2.2]) ?_ (Gx (yR _) (zN _ _) (zN _ _)) hq;clear hq Q;refine zh I5 zDZ ⟨rZ sl,dd,?_⟩;rintro p0 h1 rfl e1;have w1:=(Vw.nil (S:=zH) (h:=h)).new e1 dd;have t1:=w1.top;refine⟨rfl,dd,?_⟩;rintro p2 h3 rfl e3;have w3:=w1.new e3 dd;have t3:=w3.top;refine⟨rfl,dd,?_⟩;rintro p4 h5 rfl e5;have w5:=w3.new e5 dd;have t5:=w5.top;refine⟨rfl,dd,?_⟩;rintro p6 E rfl e7;have w7:=w5.new e7 dd;have t7:=w7.top;refine⟨v,w7.ld1 3 rfl zM rfl,vP (sl.ext w7.ex0) hl ⟨_,rfl,?_⟩⟩;rw[vO l K];have fin:∀e:Int,wT s l n=([],0,e)->∃A,jP zB 9 E (.ptr h1.nx 0) (.str [])=some A/\∃B,jP zB 3 A (.ptr h3.nx 0) (.int .i64 0)=some B/\∃C,jP zB 24 B (.ptr h5.nx 0) (.int .i64 e)=some C/\endL zB C [(.cell 6 9,.ptr h1.nx 0),(.cell 7 3,.ptr h3.nx 0),(.cell 8 24,.ptr h5.nx 0)] (λv' h'=>v' = .tuple [.str (wT s l n).1,.int .i64 (wT s l n).2.1,.int .i64 (wT s l n).2.2]/\Ext h h' 100):=by intro e he;obtain⟨A,L,M,n12,_⟩:=w7.st (cx:=zB) 2 (t:=9) (f:=0) (u:=.str []) (cs':=.ls [.str []]) rfl dd xk rfl;obtain⟨B,N,O,n13,_⟩:=M.st (cx:=zB) 1 (t:=3) (f:=0) (u:=.int .i64 0) (cs':=.ls [.int .i64 0]) rfl dd zX rfl;obtain⟨C,R,d,n14,_⟩:=O.st (cx:=zB) 0 (t:=24) (f:=0) (u:=.int .i64 e) (cs':=.ls [.int .i64 e]) rfl dd kK rfl;refine⟨A,L,B,N,C,R,endL.ok (leaveL.cell (d.ld1 2 rfl xk rfl) (leaveL.cell (d.ld1 1 rfl zX rfl) (leaveL.cell (d.ld1 0 rfl kK rfl) rfl))) ⟨?_,d.ex0.mono dd⟩⟩;rw[he];rfl
 refine⟨λc=>?_,λc=>?_⟩
 .exact fin _ (by unfold wT;rw[if_pos c])
 refine⟨λc2=>?_,λc2=>?_⟩
 .exact fin _ (by unfold wT;rw[if_neg c,if_pos dd])
 refine⟨λc3=>?_,λc3=>?_⟩
 .have c3:(s.length:Int)<6:=c3;exact fin _ (by unfold wT;rw[if_neg c,if_neg dd,if_pos dd])
 have c3:¬(s.length:Int)<6:=c3;have hg:=ql (Decidable.not_not.1 c);have hv:wT s l n=if s.length<l6 s then ([],0,22) else qB l s n (s4 (l2 s 0) (l2 s 2) (l2 s 4) (s.length-l6 s)) 4 0 []:=by unfold wT;rw[if_neg c,if_neg dd,if_neg dd]
 have h6:6<=n:=dd
 clear fin c c2;refine⟨dd,?_⟩;rintro pl h22 rfl e22;have U:=w7.new e22 dd;have t22:=U.top;have e0:zb ((Int.ofNat s.length)-6)=(s.length:Int)-6:=zD (show -9223372036854775808<=(s.length:Int)-6 by omega) (show(s.length:Int)-6<9223372036854775808 by omega);obtain⟨h25,e25,w25,n25,_⟩:=U.st (cx:=zB) 0 (t:=3) (f:=3) (u:=.int .i64 ((s.length:Int)-6)) (cs':=.ls [.int .i64 0,.int .i64 0,.int .i64 0,.int .i64 ((s.length:Int)-6)]) rfl dd zX rfl;refine⟨E.nx,3,bU 3 dd,h25,by rw[e0];exact e25,λtm hs0=>?_⟩;refine wpC.round (λk tm h'=>∃i,i<=3/\k=3-i/\Vw zH h h' (5+i) [(E.nx,oZ s i),(h5.nx,EX 0),(h3.nx,li 0),(h1.nx,Xa []),(h.nx,IZ v)] /\
  Has tm [(40,.int .i64 i),(1,.str s),(10,.ptr E.nx 0),(6,.ptr h1.nx 0),(7,.ptr h3.nx 0),(8,.ptr h5.nx 0),(3,.ptr h.nx 0),(2,.int .i64 n)]) 3 ⟨0,dd,rfl,w25,hs0.sub rfl⟩ ?_
 clear hs0 w25 U e25 e22;rintro k tm h' ⟨i,hi1,rfl,w,hs1⟩;have tw:=w.top;refine cg I5 hs1 ⟨λc=>?_,λc=>λtm2 F=>?_⟩
 .have hw:zb ((2:Int)*(i:Int))=((2*i:Nat):Int):=by rw[zD dd dd];omega
  have hw2:zb ((i:Int)+1)=((i+1:Nat):Int):=by rw[zD dd dd];rfl
  have hl2:=Qk s (2*i);have hw3:zb ((l2 s (2*i):Nat):Int)=((l2 s (2*i):Nat):Int):=zD dd dd;have hzr:∀j,j<=3->-1000000<=zR s j/\zR s j<=1500:=λj hj=>by
   have a0:=Qk s (2*0);have a1:=Qk s (2*1);have a2:=Qk s (2*2)
   match j,hj with
   | 0,_=>simp only[zR];omega
   | 1,_=>simp only[zR];omega
   | 2,_=>simp only[zR];omega
   | 3,_=>simp only[zR];omega
  have hz0:=hzr i hi1;have hw4:zb (zR s i-(l2 s (2*i):Nat))=zR s (i+1):=zD dd dd;show RF P zB 196 [_,.int .i64 (zb _),_] h' _;rw[hw];refine FP dd hs ⟨_,_,_,_,rfl,dd,?_⟩;rintro pf h8 rfl e8;have w8:=w.new e8 dd;have t8:=w8.top;obtain⟨h9,e9,w9,n9,_⟩:=w8.st (cx:=zB) 0 (t:=26) (f:=0) (u:=.agg [.int .i64 0,.int .i64 0]) (cs':=.ls [.int .i64 0,.int .i64 0]) rfl dd zp rfl;obtain⟨h11,e11,q,n11,_⟩:=w9.st (cx:=zB) 1 (t:=3) (f:=i) (u:=.int .i64 (l2 s (2*i):Nat)) rfl dd zX (zJ3 i dd);have q:=q.drop 1;have t11:=q.top;refine⟨h9,e9,E.nx,i,bU i dd,h11,by rw[<-hw3]at e11;exact e11,⟨dd,oS q.low z⟩,E.nx,3,bU 3 dd,zR s i,q.ld1 0 (f:=3) rfl zX rfl,E.nx,i,bU i dd,(l2 s (2*i):Nat),q.ld1 0 (f:=i) rfl zX (zJ2 i dd),E.nx,3,bU 3 dd,?_⟩;obtain⟨h20,e20,w20,n20,_⟩:=q.st (cx:=zB) 0 (t:=3) (f:=3) (u:=.int .i64 (zR s (i+1))) (cs':=.ls [.int .i64 (zA s 0 (i+1)),.int .i64 (zA s 1 (i+1)),.int .i64 (zA s 2 (i+1)),.int .i64 (zR s (i+1))]) rfl dd zX rfl;refine⟨h20,by rw[hw4];exact e20,λtm2 F=>?_⟩;rw[hw2]at F;exact⟨rfl,rfl,3-(i+1),dd,i+1,dd,rfl,w20,F.sub de⟩
 have hi:i=3:=dd
 subst hi;have hz3:zR s 3=(s.length:Int)-(l6 s:Nat):=by show(s.length:Int)-6-(l2 s 0:Nat)-(l2 s 2:Nat)-(l2 s 4:Nat)=_;unfold l6;omega
 have lw:=oS w.low z;refine thenC.left (sg F ⟨E.nx,3,bU 3 dd,zR s 3,w.ld1 0 (f:=3) rfl zX rfl,λc=>?_,λc=>?_⟩)
 .obtain⟨A,L,M,n12,_⟩:=w.st (cx:=zB) 3 (t:=9) (f:=0) (u:=.str []) (cs':=.ls [.str []]) rfl dd xk rfl;obtain⟨B,N,O,n13,_⟩:=M.st (cx:=zB) 2 (t:=3) (f:=0) (u:=.int .i64 0) (cs':=.ls [.int .i64 0]) rfl dd zX rfl;obtain⟨C,R,d,n14,_⟩:=O.st (cx:=zB) 1 (t:=24) (f:=0) (u:=.int .i64 22) (cs':=.ls [.int .i64 22]) rfl dd kK rfl;refine⟨A,L,B,N,C,R,λb p=>?_⟩;refine endW.ok (leave.cell (p.get (t:=6) rfl) (d.ld1 3 rfl xk rfl) (leave.cell (p.get (t:=7) rfl) (d.ld1 2 rfl zX rfl) (leave.cell (p.get (t:=8) rfl) (d.ld1 1 rfl kK rfl) rfl))) ⟨?_,d.ex0.mono dd⟩;rw[hv,if_pos dd];rfl
 rw[if_neg dd]at hv;refine⟨rfl,dd,?_⟩;rintro po h26 rfl e26;have w26:=w.new e26 dd;have t26:=w26.top;refine⟨rfl,dd,?_⟩;rintro pt h27 rfl e27;have w27:=w26.new e27 dd;have t27:=w27.top;obtain⟨h28,e28,w28,n28,_⟩:=w27.st (cx:=zB) 1 (t:=9) (f:=0) (u:=.str []) (cs':=.ls [.str []]) rfl dd xk rfl;obtain⟨h29,e29,w29,n29,_⟩:=w28.st (cx:=zB) 0 (t:=3) (f:=0) (u:=.int .i64 6) (cs':=.ls [.int .i64 6]) rfl dd zX rfl;have t29:=w29.top;refine⟨h28,e28,h29,e29,WM dd K ⟨_,_,_,_,rfl,dd,?_⟩⟩;rintro pm h30 rfl e30;have w30:=w29.new e30 dd;have t30:=w30.top;obtain⟨G,e31,I,n31,_⟩:=w30.st (cx:=zB) 0 (t:=176) (f:=0) (u:=.agg (PG n)) (cs':=.ls (PG n)) rfl dd fQ rfl;have t31:=I.top;refine⟨G,e31,⟨dd,oS I.low z⟩,_,uI (y:=6) dd,_,_,_,_,I.ldA 3 rfl fQ rfl,?_⟩;refine zh zCP Bl ⟨rfl,dd,?_⟩;rintro ps W rfl e32;have w32:=I.new e32 dd;have t32:=w32.top;refine⟨dd,?_⟩;rintro pa a rfl e33;have w33:=w32.new e33 dd;have t33:=w33.top;refine⟨_,rfl,λb p=>?_⟩;refine RC.rangeFunc xf (g:=264) (first:=[]) (captured:=[.ptr W.nx 0,.ptr G.nx 0]) (show yt b (t 71)=_ from congrArg some (p.get rfl)) (by show a.nx+1<_;omega) ?_;show RF P zB 264 [.yield (a.nx+1),.ptr W.nx 0,.ptr G.nx 0] ((a.new (.deferred true)).new (Tp .ready none b a.nx)) _;obtain⟨m,X⟩:∃m,m=a.new (.deferred true):=⟨_,rfl⟩;have w34:=w33.new X dd;have t34:=w34.top;have n34:m.nx=a.nx+1:=by rw[X,zC]
 obtain⟨Y,e35⟩:∃Y,Y=m.new (Tp .ready none b a.nx):=⟨_,rfl⟩;have J:=w34.new e35 dd;have t35:=J.top;rw[<-X,<-e35,<-n34];have hz4:zR s 3=((s.length-l6 s:Nat):Int):=dd
 have J:Vw zH h Y 20 [(m.nx,Tp .ready none b a.nx),(a.nx,.deferred true),(W.nx,oP4 (l2 s 0:Nat) (l2 s 2:Nat) (l2 s 4:Nat) (s.length-l6 s:Nat)),(G.nx,Xa (s.drop 6)),(h29.nx,C0 n),(h26.nx,li 6),(h'.nx,Xa []),(E.nx,oZ s 3),(h5.nx,EX 0),(h3.nx,li 0),(h1.nx,Xa []),(h.nx,IZ v)]:=by rw[<-hz4];exact J.more dd
 refine VO J (p.sub de) sl hg (by unfold l6 at *;omega) hs K dd z (λr out os Z D n36=>?_) (λr out os at_ Z D n36=>?_);all_goals
  have gl:=D.get 0 rfl;simp only[kl,gl]
 all_goals
  have t36:=D.top
 .have x:=D.upd 0 (o':=.loop .exhausted none 94 b #[72,73] Ye YL a.nx) rfl dd;have n37:(r.upd m.nx (some (.loop .exhausted none 94 b #[72,73] Ye YL a.nx))).nx=r.nx:=rfl;generalize r.upd m.nx (some (.loop .exhausted none 94 b #[72,73] Ye YL a.nx))=h37 at x n37 ⊢;show Wf I5 zBJ ⟨94,b,[.coll a.nx],h37⟩ _;obtain⟨h38,e38,w38,n38,_⟩:=x.st (cx:=zB) 10 (t:=9) (f:=0) (u:=.str out) (cs':=.ls [.str out]) rfl dd xk rfl;obtain⟨h39,e39,w39,n39,_⟩:=w38.st (cx:=zB) 9 (t:=3) (f:=0) (u:=.int .i64 0) (cs':=.ls [.int .i64 0]) rfl dd zX rfl;obtain⟨h40,e40,w40,n40,_⟩:=w39.st (cx:=zB) 8 (t:=24) (f:=0) (u:=.int .i64 0) (cs':=.ls [.int .i64 0]) rfl dd kK rfl;refine sg p ⟨_,x.ld1 6 rfl xk rfl,h38,e38,h39,e39,h40,e40,λtm4 hs4=>hs4.slt λtm5 hs5=>?_⟩;have o:=w40.upd 1 (o':=.deferred false) rfl dd;refine H6 rfl (hs5.sub rfl) (w40.get 1 rfl) (o.ld1 10 rfl xk rfl) (o.ld1 9 rfl zX rfl) (o.ld1 8 rfl kK rfl) ⟨?_,o.ex0.mono dd⟩;rw[hv,Z];rfl
 have x:=D.upd 0 (o':=.loop .exhausted (some .ret) 94 b #[72,73] Ye YL a.nx) rfl dd;have n37:(r.upd m.nx (some (.loop .exhausted (some .ret) 94 b #[72,73] Ye YL a.nx))).nx=r.nx:=rfl;generalize r.upd m.nx (some (.loop .exhausted (some .ret) 94 b #[72,73] Ye YL a.nx))=h37 at x n37 ⊢;have o:=x.upd 1 (o':=.deferred false) rfl dd;refine thenC.ret (p.slt λtm5 hs5=>?_);refine H6 rfl (hs5.sub rfl) (x.get 1 rfl) (o.ld1 10 rfl xk rfl) (o.ld1 9 rfl zX rfl) (o.ld1 8 rfl kK rfl) ⟨?_,o.ex0.mono dd⟩;rw[hv,Z]
abbrev PA(s:Ua)(x e y b:Int):O:=.cells (.ls [.str s,dh x,dh e,dh y,dh b]) ⟨0,84,0⟩ true false
theorem Ew{p:Nat}{x e y b a:Int}(g:h.get p=some (PA s x e y b))(hp:p<h.nx)(o:h.nx+1<=T.top)(i:Q (.agg [dh a,dh b]) h):RF P zB 64 [.ptr p 0,dh a] h Q:=by refine RF.forget (n:=1) (v:=.agg [dh a,dh b]) ?_ (jg (eI (zN _ _) (zN _ _))) i;refine zh L64 zJD ⟨dd,?_⟩;rintro p0 q rfl j;have c:=(Vw.nil (S:=zH) (h:=h)).new j dd;have r:=c.top;obtain⟨k,m,d,w,_⟩:=c.st (cx:=zB) 0 (t:=26) (f:=0) (u:=.agg [dh a,dh b]) (cs':=.ls [dh a,dh b]) rfl dd zp rfl;refine ?_;exact⟨_,zJ zX rfl ((c.ex0.get _ hp).trans g) rfl,k,m,endL.ok (leaveL.cell (d.ldA 0 rfl zp rfl) rfl) ⟨rfl,d.ex0⟩⟩
def Sls(h:H)(v:V)(l:Ub):Prop:=Sl h v 1 l.length (zI l)/\(l.length=0->yT 1 h v=some (0,[]))
theorem Sls.ext{h h':H}{m:Nat}(s:Sls h v l)(x:Ext h h' m):Sls h' v l:=by
 obtain⟨s,c⟩:=s;refine⟨s.ext x,λd=>?_⟩;have a:=c d;obtain⟨_,⟨rfl,_⟩|⟨b,o,f,cs,k,w,op,rfl,hb,g,_⟩⟩:=s
 .rfl
 refine Eq.trans ?_ a;have e:=x.get b hb;unfold yT;simp only[e]
theorem Sls.of(s:Sl h v 1 l.length (zI l))(hl:0<l.length):Sls h v l:=⟨s,λh=>absurd h dd⟩
theorem zAF(c:h.nx<T.top):zO zB 23 0 [] h=some (.slice h.nx 0 0 (.exact 0),h.new (.cells (.ls []) ⟨0,3+1,0⟩ true false)):=by
 have a:zO zB 23 0 [] h=(match (cond (Nat.blt h.nx T.top) (some (h.nx,h.new (.cells (.ls []) ⟨0,3+1,0⟩ true false))) none:Option (Nat×H))with|some (b,h')=>some (.slice b 0 0 (.exact 0),h')|none=>none):=de
 rw[(zW _ _).2 c,oN]at a;exact a
theorem zGH{v:V}{l:Ub}(s:Sls h v l)(z:h.nx+2<=T.top)(q:l.length<=262143:=by omega):
  ∃h1,zO zB 23 0 [] h=some (.slice h.nx 0 0 (.exact 0),h1)/\∃w h',zi zB 23 h1 (.slice h.nx 0 0 (.exact 0)) v=some (w,h')/\Ext h h' 2/\Sls h' w l:=by
 obtain⟨s,t⟩:=s;refine⟨_,zAF dd,?_⟩;generalize e1:h.new (.cells (.ls []) ⟨0,3+1,0⟩ true false)=h1;have c:Ext h h1 1:=by rw[<-e1];exact Ext.new _ dd
 have g:h1.get h.nx=some (.cells (.ls []) ⟨0,3+1,0⟩ true false):=by rw[<-e1];exact zK _ dd
 have A:=c.top;have n1:h.nx<h1.nx:=by rw[<-e1,zC];omega
 rcases Nat.eq_zero_or_pos l.length with d|d
 .have hl:l=[]:=List.eq_nil_of_length_eq_zero d;have f:yT yg.size h1 v=some (0,[]):=by
   have j:=t d;obtain⟨_,⟨rfl,_⟩|⟨b,o,B,cs,k,w,op,rfl,hb,C,_⟩⟩:=s
   .rfl
   refine Eq.trans ?_ j;have e:=c.get b hb;unfold yT;simp only[e]
  refine⟨.slice h.nx 0 0 (.exact 0),h1,?_,?_⟩
  .unfold zi;rw[zM];simp only[uO];have m:jo yg=true:=de
   rw[m,oN,f];show Go.Sim.appTo yg h1 0 [] (.slice h.nx 0 0 (.exact 0))=_;unfold Go.Sim.appTo;simp only[g];rfl
  subst hl;exact⟨c.mono dd,⟨rfl,.inr ⟨h.nx,0,_,_,_,_,_,rfl,n1,g,λi hi=>by simp at hi⟩⟩,λ_=>by
   unfold yT;simp only[g];rfl⟩
 have p:=s.ext c;have a:(zI l).length=l.length:=by simp[zI]
 obtain⟨cs,r,D⟩:=Cs.ofL_some (l:=zI l) (by rw[a];omega);obtain⟨E,u⟩:=Cs.ofL_eq r;refine⟨.slice h1.nx 0 l.length (.skip 0),h1.new (.cells cs (xD yg) true true),?_,?_⟩
 .unfold zi;rw[zM];simp only[uO];have m:jo yg=true:=de
  rw[m,oN,p.src dg d];show Go.Sim.appTo yg h1 l.length (zI l) (.slice h.nx 0 0 (.exact 0))=_;unfold Go.Sim.appTo;simp only[g];unfold jO;have x:Nat.ble (0+l.length) 0=false:=by
   rcases hb:Nat.ble (0+l.length) 0 with _|_
   .rfl
   have:=oG hb;omega
  rw[x,oO];have y:Xo (.ls []) 0 (0*yg.size) (zI l)=some cs:=by unfold Xo;rw[Nat.zero_mul,Kd (.ls []) 0 (.inr trivial)];simp only[si,oN,List.nil_append,r]
  rw[y,Nat.zero_add];exact xg (by show l.length*8<=_;omega) dd
 exact⟨c.trans (Ext.new _ dd),.of ⟨by rw[a,Nat.mul_one],.inr ⟨h1.nx,0,_,cs,_,_,_,rfl,by rw[zC];omega,zK _ dd,λi _=>by rw[Nat.zero_add];exact u i⟩⟩ d⟩
theorem NA(sl:Sls h v l)(hl:l.length<=1000)(f:h.nx+2<=T.top)(d:∀h' v',Ext h h' 2->Sl h' v' 1 l.length (zI l)->Q v' h'):RF P zB 65 [v] h Q:=by
 refine zh L65 zJE ?_;obtain⟨i,j,w,h2,m,p,q⟩:=zGH sl f;obtain⟨sl,_⟩:=sl;obtain⟨a,⟨rfl,c⟩|⟨b,o,r,cs,k,w',op,rfl,hb,u,x⟩⟩:=sl
 .have e:Yf zB .eql 23 (t 3) (.const (.slice none 0 0)) .nilslice .nilslice=some (.bool true):=de
  exact⟨true,e,λ_=>d _ _ ((Ext.refl h).mono dd) ⟨a,.inl ⟨rfl,c⟩⟩,λg=>(by cases g)⟩
 have e:Yf zB .eql 23 (t 3) (.const (.slice none 0 0)) (.slice b o l.length r) .nilslice=some (.bool false):=de
 exact⟨false,e,λg=>(by cases g),λ_=>⟨_,i,j,trivial,w,h2,m,d _ _ p q.1⟩⟩
theorem gN{B:Nat}{z:Nat->Nat}(a:∀i,z i<=B):∀k i out,(qB l s n z k i out).2.1<=B
 | 0,_,_=>oM _
 | k+1,i,out=>by
  unfold qB;split
  .exact gN a k _ _
  exact a i
theorem Hh:(wT s l n).2.1<=s.length:=by
 unfold wT;repeat' (split;· exact oM _)
 refine gN (λi=>?_) _ _ _;have:=AR (a:=l2 s 0) (b:=l2 s 2) (c:=l2 s 4) (d:=s.length-l6 s) (i:=i);unfold l6 at *;omega
def qJ(s:Ua)(l:Ub)(n st at_:Nat):List UInt8×Int×Int :=
 if st=1 then (if (uv s l n).2=0 then ((uv s l n).1,0,0) else ([],22,at_))
 else if (wT s l n).2.2=0 then ((wT s l n).1,0,0) else ([],22,(at_+(wT s l n).2.1:Nat))
theorem HQ{z:Ua}{st p at_:Nat}{e y b:Int}(g:h.get p=some (PA z at_ e y b))(hp:p<h.nx)(sl:Sl h v 1 l.length (zI l))(hl:l.length<=1000)(hs:s.length<=1500)(j:n<=131072)(A:at_<=100000)(H:h.nx+62000<=T.top)(k:h.low<=T.top)(B:Q (.tuple [.str (qJ s l n st at_).1,.agg [dh (qJ s l n st at_).2.1,dh (qJ s l n st at_).2.2]]) h):RF P zB 67 [.ptr p 0,v,.str s,dh n,dh st] h Q:=by
 refine RF.forget (n:=1) (v:=.tuple [.str (qJ s l n st at_).1,.agg [dh (qJ s l n st at_).2.1,dh (qJ s l n st at_).2.2]]) ?_ (Z0 (yR _) (jg (eI (zN _ _) (zN _ _)))) B;refine zh L67 zJF ⟨dd,?_⟩;rintro p0 C rfl D;have i:=(Vw.nil (S:=zH) (h:=h)).new D dd;have I:=i.top;have q:=oS i.low k;have r:=(i.ex0.get _ hp).trans g;have fin:∀(out:Ua) (a x:Int),qJ s l n st at_=(out,a,x)->∃m,jP zB 26 C (.ptr h.nx 0) (.agg [dh a,dh x])=some m/\endL zB m [(.tmp 10,.str out),(.cell 11 26,.ptr h.nx 0)] (λv' h'=>v' = .tuple [.str (qJ s l n st at_).1,.agg [dh (qJ s l n st at_).2.1,dh (qJ s l n st at_).2.2]]/\Ext h h' 1):=by intro out a x E;obtain⟨F,G,w,J,_⟩:=i.st (cx:=zB) 0 (t:=26) (f:=0) (u:=.agg [dh a,dh x]) (cs':=.ls [dh a,dh x]) rfl dd zp rfl;exact⟨F,G,endL.ok (leaveL.tmp (leaveL.cell (w.ldA 0 rfl zp rfl) rfl)) ⟨by rw[E];rfl,w.ex0⟩⟩
 refine⟨λc=>?_,λc=>?_⟩
 .have o:qJ s l n st at_=if (uv s l n).2=0 then ((uv s l n).1,0,0) else ([],22,(at_:Int)):=by
   unfold qJ;rw[if_pos dd]
  refine Hp (sl.ext i.ex0) hl hs j dd q ⟨_,_,rfl,λd=>⟨de,⟨dd,q⟩,?_⟩,λd=>fin _ _ _ ?_⟩
  .exact⟨_,zJ zX rfl r rfl,fin _ _ _ (by rw[o,if_neg d])⟩
  rw[o,if_pos (Decidable.not_not.1 d)]
 have o:qJ s l n st at_=if (wT s l n).2.2=0 then ((wT s l n).1,0,0) else ([],22,((at_+(wT s l n).2.1:Nat):Int)):=by unfold qJ;rw[if_neg dd]
 refine Wd (sl.ext i.ex0) hl hs j dd q ⟨_,_,_,rfl,λd=>⟨de,⟨dd,q⟩,?_⟩,λd=>fin _ _ _ ?_⟩
 .have hw:=Hh (s:=s) (l:=l) (n:=n);exact⟨_,zJ zX rfl r rfl,fin _ _ _ (by rw[o,if_neg d,zD dd dd];rfl)⟩
 rw[o,if_pos (Decidable.not_not.1 d)]
def gU:Go.Shelf.Ren:=⟨λ|99=>118|105=>66|165=>119|166=>120|169=>122|170=>121|206=>191|212=>117|240=>192|241=>193|263=>189|264=>190|276=>261|277=>262|n=>n,λ|0=>0|3=>3|4=>4|5=>5|9=>9|20=>20|37=>71|46=>72|51=>243|53=>127|70=>159|72=>161|75=>163|76=>164|80=>166|109=>157|127=>248|146=>244|148=>246|164=>308|n=>n,λn=>n⟩
theorem zFt:Lays.n105 Tryz.prog gU where
 mixed:=de
 f99:=Tryz.func118.trans (congrArg some de)
 f105:=Tryz.func66.trans (congrArg some de)
 f165:=Tryz.func119.trans (congrArg some de)
 f166:=Tryz.func120.trans (congrArg some de)
 f169:=Tryz.func122.trans (congrArg some de)
 f170:=Tryz.func121.trans (congrArg some de)
 f206:=Tryz.func191.trans (congrArg some de)
 f212:=Tryz.func117.trans (congrArg some de)
 f240:=Tryz.func192.trans (congrArg some de)
 f241:=Tryz.func193.trans (congrArg some de)
 f263:=Tryz.func189.trans (congrArg some de)
 f264:=Tryz.func190.trans (congrArg some de)
 f276:=Tryz.func261.trans (congrArg some de)
 f277:=Tryz.func262.trans (congrArg some de)
 t0:=Tryz.underlying0
 a0:=Tryz.isAgg0
 z0:=Tryz.sizeOf0
 v0:=Tryz.zeroValue0
 t3:=Tryz.underlying3
 a3:=Tryz.isAgg3
 z3:=Tryz.sizeOf3
 v3:=Tryz.zeroValue3
 t4:=Tryz.underlying4
 a4:=Tryz.isAgg4
 z4:=Tryz.sizeOf4
 v4:=Tryz.zeroValue4
 t5:=Tryz.underlying5
 a5:=Tryz.isAgg5
 z5:=Tryz.sizeOf5
 v5:=Tryz.zeroValue5
 t9:=Tryz.underlying9
 a9:=Tryz.isAgg9
 z9:=Tryz.sizeOf9
 v9:=Tryz.zeroValue9
 t20:=Tryz.underlying20
 a20:=Tryz.isAgg20
 z20:=Tryz.sizeOf20
 v20:=Tryz.zeroValue20
 t37:=Tryz.underlying71
 a37:=Tryz.isAgg71
 z37:=Tryz.sizeOf71
 v37:=Tryz.zeroValue71
 t46:=Tryz.underlying72
 a46:=Tryz.isAgg72
 z46:=Tryz.sizeOf72
 v46:=Tryz.zeroValue72
 t51:=Tryz.underlying243
 a51:=Tryz.isAgg243
 z51:=Tryz.sizeOf243
 v51:=Tryz.zeroValue243
 t53:=Tryz.underlying127
 a53:=Tryz.isAgg127
 z53:=Tryz.sizeOf127
 v53:=Tryz.zeroValue127
 t70:=Tryz.underlying159
 a70:=Tryz.isAgg159
 z70:=Tryz.sizeOf159
 v70:=Tryz.zeroValue159
 t72:=Tryz.underlying161
 a72:=Tryz.isAgg161
 z72:=Tryz.sizeOf161
 v72:=Tryz.zeroValue161
 t75:=Tryz.underlying163
 a75:=Tryz.isAgg163
 z75:=Tryz.sizeOf163
 v75:=Tryz.zeroValue163
 t76:=Tryz.underlying164
 a76:=Tryz.isAgg164
 z76:=Tryz.sizeOf164
 v76:=Tryz.zeroValue164
 t109:=Tryz.underlying157
 a109:=Tryz.isAgg157
 z109:=Tryz.sizeOf157
 v109:=Tryz.zeroValue157
 t127:=Tryz.underlying248
 a127:=Tryz.isAgg248
 z127:=Tryz.sizeOf248
 v127:=Tryz.zeroValue248
 t146:=Tryz.underlying244
 a146:=Tryz.isAgg244
 z146:=Tryz.sizeOf244
 v146:=Tryz.zeroValue244
 t148:=Tryz.underlying246
 a148:=Tryz.isAgg246
 z148:=Tryz.sizeOf246
 v148:=Tryz.zeroValue246
 t164:=Tryz.underlying308
 a164:=Tryz.isAgg308
 z164:=Tryz.sizeOf308
 v164:=Tryz.zeroValue308
theorem zAO:Builder.Extra Tryz.prog gU where
 sizeBuilder:=de
 liesBuilder:=de
 t5:=zFt.t5
 a5:=zFt.a5
 z5:=zFt.z5
 v5:=zFt.v5
 infoByte:=de
 cellsByte:=de
 sizeByte:=de
 neB5:=dg
theorem zAd:∃fi,zB.fn.get 66=some fi:=Option.isSome_iff_exists.1 de
theorem L4{b:UInt8}(d:n<=140737488355328)(a:Q (.str (List.replicate n b)) h):RF Tryz.prog zB 66 [.str [b],.int .i64 n] h Q:=by
 refine⟨_,_,⟨zAd,SimF.of_below (ar:=#[.string ⟨#[b]⟩,.int .i64 n]) (u:=.string ⟨(List.replicate n b).toArray⟩) (λρ=>by simp[V.conc]) (λρ D=>⟨by simp[V.conc],by simp[V.In]⟩) λw=>?_⟩,a⟩;refine(Any.strings_Repeat zFt zAO ⟨#[b]⟩ n w dd (by show 1*n<=_;omega)).mono λe w' ⟨c,hw⟩=>⟨?_,hw⟩
 have:=Lib.repeatL_replicate b 1 n;rw[Nat.mul_one]at this;rw[c,<-this];rfl
theorem PD{m:Nat}{ys:List (Int×Int)}{x:Nat}(h:∀i,∀hi:i<ys.length,ys[i].1.toNat≠x):∀k,k<=ys.length->(vS m n ys k)[x]? = (List.replicate n ((0:Int),(0:Int)))[x]?
 | 0,_=>rfl
 | k+1,a=>by rw[r8 dd,og (h k dd),PD h k dd]
end Go.Proofs.YtnpeieeomokomaaGreat
