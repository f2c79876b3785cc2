/- TS. No condition. -/
import Derived.Test.YtnpeieeomokomaaGreatZTQ
import Derived.Test.YtnpeieeomokomaaGreatZTR
set_option maxRecDepth 100000
set_option maxHeartbeats 2000000
namespace Go.Proofs.YtnpeieeomokomaaGreat
open Go.Sim
variable {h:H}{Q:Uc}
theorem zN8{l:Ub}(a:ju l):xZ (xS l) l=2^xS l:=by rw[<-zBI a];unfold xV;rw[List.take_length,ZG (xS l) l 0 λx b=>(ji a.2.1 b).1];exact((wK j8 (yF l)).1.map _).sum_nat.symm
theorem XG{v:V}{l:Ub}(sl:Sl h v 1 l.length (zV l))(j:Q (dd (xS l:Nat)) h)(hl:l.length<=1000:=by omega):RF P zB 266 [v] h Q:=by
 refine yU z1J (Has.nil.on λtm hs=>?_);refine wpC.round (λk tm h'=>∃i:Nat,i<=l.length/\k=l.length-i/\h'=h/\Has tm [(4,dd i),(0,v),(3,dd (grt (l.take i)))]) l.length ⟨0,oy,oy,rfl,hs.sub da⟩ ?_;clear hs;rintro k tm h' ⟨i,m,rfl,rfl,hs⟩;refine wpC.av hs zSO rfl rfl ⟨_,sl.len z7 rfl,λc=>?_,λc=>hs.on λd a=>?_⟩
 .have hi:i<l.length:=oy
  obtain⟨b,o,n,f⟩:=kc sl hi;have g:=xj hi;generalize l[i]=x at f g;refine⟨b,o,n,x,f,hs.on λd a=>⟨rfl,rfl,l.length-(i+1),oy,i+1,oy,rfl,rfl,?_⟩⟩;try dsimp only
  rw[g,zEu,<-xP];exact a.sub da
 have hi:i=l.length:=oy
 subst hi;rw[List.take_length,zDR]at a;exact thenC.left (wpS.av a zTS rfl rfl (a.on λp e=>endW.r1 (e.get rfl) j))
theorem zWj{m:Nat}{x:Int}(hm:m<=11)(h0:0<=x)(h1:x<=(m:Int)):zj .shl .i64 1 (zU .u64 (zG ((m:Int)-x)))=some (dd ((2^(m-x.toNat):Nat):Int)):=by rw[zD oy oy,show(m:Int)-x=((m-x.toNat:Nat):Int)by omega,zb oy];have b:2^(m-x.toNat)<=2^11:=Nat.pow_le_pow_right db oy;have e:=zz (a:=1) (n:=m-x.toNat) oy oy;rw[Nat.one_mul]at e;exact e
theorem zGt{v:V}{l:Ub}(sl:Sl h v 1 l.length (zV l))(G:ju l)(H:h.nx<=T.top)(n:h.low<=T.top)(I:Q (dd 0) h):RF P zB 298 [v] h Q:=by
 obtain⟨hl,g,J,_⟩:=id G;have hm:=Zz g;refine yU z1U ⟨_,sl.len z7 rfl,λc=>oy,λc=>Has.nil.on λtm hs=>?_⟩;refine wpC.round (λk tm h'=>∃i:Nat,i<=l.length/\k=l.length-i/\h'=h/\Has tm [(3,dd i),(0,v)]) l.length ⟨0,oy,oy,rfl,hs.sub da⟩ ?_;clear hs;rintro k tm h' ⟨i,p,rfl,rfl,hs⟩;refine wpC.av hs zSR rfl rfl ⟨_,sl.len z7 rfl,λc=>?_,λc=>hs.on λd a=>?_⟩
 .have hi:i<l.length:=oy
  obtain⟨b,o,q,j⟩:=kc sl hi;have A:=ji g (od hi);generalize l[i]=x at j A;refine⟨b,o,q,x,j,λr=>oy,λr=>⟨b,o,q,x,j,λw=>oy,λw=>hs.on λd a=>⟨rfl,rfl,l.length-(i+1),oy,i+1,oy,rfl,rfl,?_⟩⟩⟩;try dsimp only
  rw[<-xP];exact a.sub da
 refine thenC.left (wpS.av a zT4 rfl rfl (XG sl ⟨_,rfl,a.on λB f=>?_⟩));clear hs a p c;refine wpC.round (λk tm s=>∃i:Nat,i<=l.length/\k=l.length-i/\s=h'/\Has tm [(7,dd i),(0,v),(5,dd (wy (l.take i):Nat)),(6,dd (xZ (xS l) (l.take i):Nat)),(4,dd (xS l:Nat))]) l.length ⟨0,oy,oy,rfl,f.sub da⟩ ?_;clear f;rintro k tm s ⟨i,p,rfl,rfl,hs⟩;refine wpC.av hs zSS rfl rfl ⟨_,sl.len z7 rfl,λc=>?_,λc=>hs.on λd a=>?_⟩
 .have hi:i<l.length:=oy
  obtain⟨b,o,q,j⟩:=kc sl hi;have A:=ji g (od hi);have t:=qj (od hi);have u:=xj hi;have hb:=Of (l.take i);have C:xZ (xS l) (l.take i)<=(l.take i).length*2048:=by
   unfold xZ;have:∀z:Ub,(z.map (lone (xS l))).sum<=z.length*2048:=λz=>by
    induction z with
    | nil=>simp
    | cons y z ih =>
     have:lone (xS l) y<=2048:=by
      unfold lone;split
      .exact oW (Nat.pow_le_pow_right db (show xS l-y.toNat<=11 by omega)) db
      omega
     rw[List.map_cons,List.sum_cons,og];omega
   exact this _
  rw[List.length_take]at hb C;generalize l[i]=x at j u A t;refine⟨b,o,q,x,j,λr=>⟨⟨H,n⟩,b,o,q,x,j,_,zWj hm oy t,hs.on λd a=>⟨rfl,rfl,l.length-(i+1),oy,i+1,oy,rfl,rfl,?_⟩⟩,λr=>hs.on λd a=>⟨rfl,rfl,l.length-(i+1),oy,i+1,oy,rfl,rfl,?_⟩⟩
  .have K:2^(xS l-x.toNat)<=2^11:=Nat.pow_le_pow_right db oy;have D:zG (((wy (l.take i):Nat):Int)+1)=((wy (l.take (i+1)):Nat):Int):=by
    rw[u,Zn,if_pos oy,zD oy oy];rfl
   have E:zG (((xZ (xS l) (l.take i):Nat):Int)+((2^(xS l-x.toNat):Nat):Int))=((xZ (xS l) (l.take (i+1)):Nat):Int):=by have L:=Int.natCast_nonneg (2^(xS l-x.toNat));rw[u,ko];unfold lone;rw[if_pos oy,zD oy oy];rfl
   rw[<-D,<-E,<-xP];exact a.sub da
  have D:wy (l.take (i+1))=wy (l.take i):=by rw[u,Zn,if_neg oy];rfl
  have E:xZ (xS l) (l.take (i+1))=xZ (xS l) (l.take i):=by rw[u,ko];unfold lone;rw[if_neg oy];rfl
  rw[D,E,<-xP];exact a.sub da
 have hi:i=l.length:=oy
 subst hi;rw[List.take_length,zN8 G]at a;have e:=zWj (m:=xS l) (x:=0) hm oy oy;rw[Int.sub_zero,zD oy oy]at e;exact thenC.left (wpS.av a zT3 rfl rfl ⟨λr=>oy,λr=>⟨_,e,λw=>absurd rfl w,λw=>a.on λB f=>f.slt λM F=>endW.r1 (F.get rfl) I⟩⟩)
abbrev tcl:TI:=⟨131,(.struct #[⟨ "Symbol",3,0,false, "", "",0⟩,⟨ "Bits",3,1,false, "", "",8⟩,⟨ "Base",3,2,false, "", "",16⟩]),3,24,some (.agg [(.int .i64 0),(.int .i64 0),(.int .i64 0)]),true,false,false,[]⟩
def prC(zs:List (Int×Int)):Ug:=zs.flatMap λp=>[dd p.1,dd p.2,dd 0]
theorem zRL(a b:List (Int×Int)):prC (a++b)=prC a++prC b:=List.flatMap_append
section
variable {h h1:H}{v vs:V}{m n s:Nat}{acc rest total:List (Int×Int)}{tm:Tm}{Q:Ud}
structure TabI (h h1:H) (vs:V) (acc:List (Int×Int)):Prop where
 w:Vw zN h h1 (2*acc.length) []
 ow:Ow h1 vs tcl acc.length (prC acc)
 sp:Sep zN h.nx [] vs
theorem zR5(hm:m<=11)(w:n<=m)(H:total.length<=2048)(J:h.nx+4200<=T.top)(I:TabI h h1 vs acc)(f:acc++(List.replicate (2^(m-n)) ((s:Int),(n:Int))++rest)=total)(hs:Has tm [(9,dd 0),(5,dd m),(7,dd n),(6,vs),(8,dd s),(0,v)])(y:∀d g b a,TabI h g b a->a++rest=total->Has d [(5,dd m),(7,dd n),(6,b),(8,dd s),(0,v)]->Q (.exit 4) ⟨50,d,[],g⟩):wpC P zB false (.loop zHP) ⟨50,tm,[],h1⟩ Q:=by
 refine wpC.round (λk tm g=>∃(j:Nat) (b:V) (a:List (Int×Int)),j<=2^(m-n)/\k=2^(m-n)-j/\TabI h g b a/\a++(List.replicate (2^(m-n)-j) ((s:Int),(n:Int))++rest)=total/\Has tm [(9,dd j),(5,dd m),(7,dd n),(6,b),(8,dd s),(0,v)]) (2^(m-n))
  ⟨0,vs,acc,oQ _,(Nat.sub_zero _).symm,I,f,hs.sub da⟩ ?_
 clear hs I f;rintro k tm g ⟨j,b,a,K,rfl,I,f,hs⟩;have e:=zWj (m:=m) (x:=(n:Int)) hm oy oy;rw[ol]at e;have o:=congrArg List.length f;rw[oe,oe,List.length_replicate]at o;have z:2^(m-n)<=2^11:=Nat.pow_le_pow_right db oy;have L:=I.w.top;refine wpC.av hs zSL rfl rfl ⟨_,e,λc=>?_,λc=>hs.on λd i=>?_⟩
 .have l:j<2^(m-n):=oy
  obtain⟨v4,B,C,D,r,_⟩:=jK (c:=zB) (h:=g) (u:=.agg [dd s,dd n,dd 0]) (ys:=[dd s,dd n,dd 0]) YO rfl Yv rfl rfl rfl rfl db rfl oy;have t:=I.w.ext r;have M:=t.top;obtain⟨v6,E,F,A⟩:=Ow.append (c:=zB) (te:=tcl) (m:=1) (I.ow.ext r) D db YO rfl Yv rfl rfl (by show(a.length+1)*3<=_;omega) (by show(a.length+1)*24<=_;omega) oy;obtain⟨G,p,q⟩:=t.grow I.sp A;refine⟨v4,B,C,trivial,v6,E,F,hs.on λd i=>⟨rfl,rfl,2^(m-n)-(j+1),oy,j+1,v6,a++[((s:Int),(n:Int))],oy,rfl,⟨?_,?_,q⟩,?_,?_⟩⟩
  .exact G.more (by rw[oe];show _<=2*(a.length+1);omega)
  .rw[oe,zRL];exact p
  .rw[<-f,show 2^(m-n)-j=(2^(m-n)-(j+1))+1 by omega,List.replicate_succ,List.append_assoc];rfl
  rw[<-xP];exact i.sub da
 have l:j=2^(m-n):=oy
 subst l;rw[Nat.sub_self]at f;exact y d g b a I f (i.sub da)
theorem zR6{l:Ub}(hl:l.length<=256)(hm:m<=11)(C:1<=n)(t:n<=m)(D:total.length<=2048)(E:h.nx+4200<=T.top)(sl:Sl h v 1 l.length (zV l))(I:TabI h h1 vs acc)(f:acc++(qL m ((yF l).filter λp=>decide (p.2=(n:Int)))++rest)=total)(hs:Has tm [(8,dd 0),(5,dd m),(7,dd n),(6,vs),(0,v)])(F:∀e j d a,TabI h j d a->a++rest=total->Has e [(5,dd m),(7,dd n),(6,d),(0,v)]->Q (.exit 2) ⟨50,e,[],j⟩):wpC P zB false (.loop zHQ) ⟨50,tm,[],h1⟩ Q:=by
 refine wpC.round (λk tm j=>∃(i:Nat) (d:V) (a:List (Int×Int)),i<=l.length/\k=l.length-i/\TabI h j d a/\a++(qL m ((qm i (l.drop i)).filter λp=>decide (p.2=(n:Int)))++rest)=total/\Has tm [(8,dd i),(5,dd m),(7,dd n),(6,d),(0,v)]) l.length
  ⟨0,vs,acc,oQ _,oy,I,f,hs.sub da⟩ ?_
 clear hs I f;rintro k tm j ⟨i,d,a,G,rfl,I,f,hs⟩;have sl2:=sl.ext I.w.ex0;refine wpC.av hs zSM rfl rfl ⟨_,sl2.len z7 rfl,λc=>?_,λc=>hs.on λe g=>?_⟩
 .have hi:i<l.length:=oy
  obtain⟨b,o,H,A⟩:=kc sl2 hi;have J:=List.drop_eq_getElem_cons hi;rw[J,qm]at f;generalize l[i]=x at A f;refine⟨b,o,H,x,A,λB=>hs.on λe g=>⟨rfl,rfl,l.length-(i+1),oy,i+1,d,a,oy,rfl,I,?_,?_⟩,λB=>hs.on λe g=>?_⟩
  .rw[<-f];congr 2;rw[List.filter_append];have:((if 0<x then [((i:Int),x)] else []).filter λp:Int×Int=>decide (p.2=(n:Int)))=[]:=by
    split
    .rw[List.filter_cons_of_neg (by simpa using B)];rfl
    rfl
   rw[this];rfl
  .rw[<-xP];exact g.sub da
  have K:x=(n:Int):=oy
  subst K;rw[if_pos oy,List.filter_append,List.filter_cons_of_pos (by simp),List.filter_nil,Kk,List.append_assoc]at f;have L:qL m [((i:Int),(n:Int))]=List.replicate (2^(m-n)) ((i:Int),(n:Int)):=by show List.replicate (2^(m-(n:Int).toNat)) _++[]=_;rw[List.append_nil,ol]
  rw[L]at f;refine zR5 (v:=v) hm t D E I f (g.sub da) λM O u q I2 w r=>thenC.out2 (wpS.av r zTP rfl rfl (r.on λN y=>y.slt λwH z=>⟨rfl,rfl,l.length-(i+1),oy,i+1,u,q,oy,rfl,I2,w,?_⟩))
  try dsimp only
  rw[<-xP];exact z.sub da
 have hi:i=l.length:=oy
 subst hi;rw[List.drop_of_length_le (oV _)]at f;exact F e j d a I f (g.sub da)
theorem zIG{h:H}{v:V}{l:Ub}{Q:Uc}(sl:Sl h v 1 l.length (zV l))(j:ju l)(E:h.nx+4200<=T.top)(g:h.low<=T.top)(D:∀h' v',Ext h h' 4100->Sl h' v' 3 (2^xS l) (prC (qL (xS l) (qP (yF l) (xS l))))->(∀b,yG v'=some b->h.nx<=b)->Q (.tuple [v',dd 0]) h'):RF P zB 265 [v] h Q:=by
 obtain⟨hl,o,_,_⟩:=id j;have hm:=Zz o;have e:(qL (xS l) (qP (yF l) (xS l))).length=2^xS l:=by rw[<-J1 λx F=>qj F,zGQ,zBI j]
 have G:2^xS l<=2^11:=Nat.pow_le_pow_right db hm;refine yU z1I (zGt sl j oy g ⟨_,rfl,λc=>absurd rfl c,λ_=>XG sl ⟨_,rfl,Has.nil.on λtm hs=>?_⟩⟩);generalize f:qL (xS l) (qP (yF l) (xS l))=total at D e;generalize hmm:xS l=m at *;refine wpC.round (λk tm p=>∃(n:Nat) (vs:V) (acc:List (Int×Int)),n<=m/\k=n/\TabI h p vs acc/\acc++qL m (qP (yF l) n)=total/\Has tm [(7,dd n),(5,dd m),(6,vs),(0,v)]) m
  ⟨m,.nilslice,[],oV _,rfl,⟨Vw.nil,Ow.nil _ _,λb hb=>by cases hb⟩,f,hs.sub da⟩ ?_
 clear hs f;rintro k tm p ⟨n,vs,acc,r,rfl,I,t,hs⟩;refine wpC.av hs zSN rfl rfl ⟨λc=>hs.on λu d=>?_,λc=>hs.on λu d=>?_⟩
 .obtain⟨n,rfl⟩:∃J:Nat,k=J+1:=⟨k-1,oy⟩
  rw[qP,Kk]at t;refine zR6 hl hm oy r oy E sl I t (d.sub da) λw N y i I2 z a=>thenC.out2 (wpS.av a zTQ rfl rfl (a.on λK A=>A.slt λwH B=>⟨rfl,rfl,n,oy,n,y,i,oy,rfl,I2,z,?_⟩))
  have L:zG (((n+1:Nat):Int)-1)=((n:Nat):Int):=by rw[zD oy oy];omega
  rw[<-L];exact B.sub da
 have C:k=0:=oy
 subst C;have M:acc=total:=by rw[<-t];show acc=acc++[];rw[List.append_nil]
 subst M;refine thenC.left (wpS.av d zTR rfl rfl (d.on λw a=>endW.r2 (a.get rfl) (a.get rfl) (D p vs (I.w.ex0.mono oy) ?_ λb hb=>?_)))
 .rw[<-e];exact I.ow.sl
 rcases(I.sp b hb).1 with q|q
 .exact q.elim
 exact q
end
end Go.Proofs.YtnpeieeomokomaaGreat
namespace Go.Proofs.YtnpeieeomokomaaGreat
open Go.Sim
variable {h:H}{Q:Uc}
theorem zJJ:∀{zs:List (Int×Int)}{i:Nat}{p:Int×Int},zs[i]? = some p->∀j,j<3->(prC zs)[i*3+j]? = [dd p.1,dd p.2,dd 0][j]?
 | [],_,_,h=>by cases h
 | d::l,0,p,h=>by cases h;intro j a;show([dd d.1,dd d.2,dd 0]++prC l)[0*3+j]? = _;rw[Nat.zero_mul,Nat.zero_add,List.getElem?_append_left (by show j<3;exact a)]
 | d::l,i+1,p,h=>by intro j a;show([dd d.1,dd d.2,dd 0]++prC l)[(i+1)*3+j]? = _;rw[List.getElem?_append_right (by show 3<=_;omega)];show(prC l)[(i+1)*3+j-3]? = _;rw[show(i+1)*3+j-3=i*3+j by omega];exact zJJ (zs:=l) h j a
theorem zPd{l:Ub}{p:Int×Int}(h:p∈qL (xS l) (qP (yF l) (xS l))):∃k,k<l.length/\p.1=((k:Nat):Int)/\0<p.2/\p.2<=(xS l:Nat):=by rw[<-J1 λx a=>qj a]at h;unfold qL at h;obtain⟨q,b,c⟩:=List.mem_flatMap.1 h;rw[(List.mem_replicate.1 c).2];obtain⟨k,h1,d,e,f⟩:=KT b;exact⟨k,h1,d,f,qj (List.mem_of_getElem? e)⟩
theorem zGw{v:V}{l:Ub}(sl:Sl h v 1 l.length (zV l))(z:ju l)(hn:h.nx+4300<=T.top)(g:h.low<=T.top)(R:∀h' v',Ext h h' 4200->Sl h' v' 2 l.length (kq (YT l))->(∀b,yG v'=some b->h.nx<=b)->Q (.tuple [v',dd 0]) h'):RF P zB 201 [v] h Q:=by
 obtain⟨hl,B,_,_⟩:=id z;have hm:=Zz B;have U:2^xS l<=2^11:=Nat.pow_le_pow_right db hm;have C:=zKI z;have W:(qL (xS l) (qP (yF l) (xS l))).length=2^xS l:=by rw[<-J1 λx X=>qj X,zGQ,zBI z]
 have n:=λp=>zPd (l:=l) (p:=p)
 refine yU z0q (zIG sl z oy g λh1 Y q M Z=>⟨_,_,rfl,λc=>absurd rfl c,λ_=>?_⟩);have t1:=q.top;have r:=sl.ext q;refine XG r ⟨_,rfl,_,r.len z7 rfl,?_⟩;obtain⟨s,em,t⟩:=zAG (k:=l.length) (h:=h1) hl oy;generalize e9:h1.new (Zf s)=h9 at em;have D:=(Vw.nil (S:=zN) (h:=h1)).new e9.symm oy;have t9:=D.top;have E:=M.ext D.ex0;refine⟨_,h9,em,_,E.len YO rfl,Has.nil.on λtm hs=>?_⟩;generalize qL (xS l) (qP (yF l) (xS l))=T at *;generalize xS l=m at *;refine wpC.round (λk tm h'=>∃(cs:Cs) (o:List (Int×Int)),k<=T.length/\o=yv m (T.drop k) k (List.replicate l.length ((0:Int),(0:Int)))/\Vw zN h1 h' 1 [(h1.nx,Zf cs)]/\Row cs (l.length*2) (kq o)/\Has tm [(8,dd ((k:Int)-1)),(7,.slice h1.nx 0 l.length (.exact l.length)),(4,Y),(6,dd m)]) (2^m)
  ⟨s,_,oy,by rw[List.drop_of_length_le oy];rfl,D,t,?_⟩ ?_
 .have e:zG (Int.ofNat (2^m)-1)=((2^m:Nat):Int)-1:=by
   show zG (((2^m:Nat):Int)-1)=_;rw[zD oy oy]
  rw[<-e];exact hs.sub da
 clear hs;rintro k tm h' ⟨cs,o,hk,A,w,row,hs⟩;have tw:=w.top;have lw:=w.low;have l1:=q.low;have u:o.length=l.length:=by rw[A,zA0,List.length_replicate]
 have F:=M.ext w.ex0;refine wpC.av hs zSE rfl rfl ⟨λc=>⟨⟨oy,oy⟩,?_⟩,λc=>hs.on λG d=>?_⟩
 .obtain⟨i,rfl⟩:∃i:Nat,k=i+1:=⟨k-1,oy⟩
  have hi:i<T.length:=oy
  have H:T[i]? = some T[i]:=oU hi;obtain⟨I,q1,N,q3,q4⟩:=n T[i] (od hi);have O:((i+1:Nat):Int)-1=(i:Int):=oy
  rw[O];have ed:T.drop i=T[i]::T.drop (i+1):=List.drop_eq_getElem_cons hi;have eo:yv m (T.drop i) i (List.replicate l.length ((0:Int),(0:Int)))=o.set I (T[i].2,((i/2^(m-T[i].2.toNat):Nat):Int)):=by rw[ed,yv,<-A,N,ol]
  obtain⟨b,of,a1,a2,a3⟩:=F.atA (cx:=zB) (i:=i) oy YO rfl Yv rfl rfl db (ys:=[dd T[i].1,dd T[i].2,dd 0]) rfl (zJJ H);have r1:=a3 3 _ _ zm rfl 0 db rfl;have r2:=a3 3 _ _ zm rfl 1 db rfl;generalize T[i]=p at *;obtain⟨h4,J,e4,f,w4,n4⟩:=w.setP 0 (out:=o) (j:=I) (a:=p.2) (b:=((i/2^(m-p.2.toNat):Nat):Int)) (by rw[u];exact row) rfl oy oy rfl Zc rfl;have K:zj .shr .i64 ((i:Nat):Int) (zU .u64 (zG (((m:Nat):Int)-p.2)))=some (dd ((i/2^(m-p.2.toNat):Nat):Int)):=by rw[zD oy oy,show((m:Nat):Int)-p.2=((m-p.2.toNat:Nat):Int)by omega,zb oy];exact kJ oy
  refine⟨b,of,a1,_,r1,b,of,a1,_,r2,b,of,a1,_,r2,_,K,h1.nx,I*2,by rw[N];exact OS q1,h4,e4,hs.on λG d=>⟨rfl,rfl,i,oy,J,_,oy,rfl,w4,?_,?_⟩⟩
  .rw[eo];rw[u]at f;exact f
  have ew:zG ((i:Int)-1)=(i:Int)-1:=zD oy oy;rw[<-ew];rw[O]at d;exact d.sub da
 have L:k=0:=oy
 subst L;rw[List.drop_zero,C]at A;subst A;exact thenC.left (wpS.av d zTG rfl rfl (d.on λtm2 y=>endW.r2 (y.get rfl) (y.get rfl) (R h' _ ((q.trans w.ex0).mono oy) (row.sl2 (w.lt 0 rfl) (w.get 0 rfl)) λb hb=>by cases hb;exact q.le)))
theorem zJK:∀{zs:List (Int×Int)}{i:Nat}{p:Int×Int},zs[i]? = some p->∀j,j<2->(kq zs)[i*2+j]? = [dd p.1,dd p.2][j]?
 | [],_,_,h=>by cases h
 | d::l,0,p,h=>by cases h;intro j a;show([dd d.1,dd d.2]++kq l)[0*2+j]? = _;rw[Nat.zero_mul,Nat.zero_add,List.getElem?_append_left (by show j<2;exact a)]
 | d::l,i+1,p,h=>by intro j a;show([dd d.1,dd d.2]++kq l)[(i+1)*2+j]? = _;rw[List.getElem?_append_right (by show 2<=_;omega)];show(kq l)[(i+1)*2+j-2]? = _;rw[show(i+1)*2+j-2=i*2+j by omega];exact zJK (zs:=l) h j a
def fnd:Option Nat->Int
 | none=>-1
 | some x=>x
theorem zWg{l:Ub}{v10 y8 y12 y16:V}{b w:Nat}{n y17:Int}{tm:Tm}{Q:Ud}(hl:l.length<=256)(f:Sl h v10 2 l.length (kq (YT l)))(hs:Has tm [(19,dd 0),(10,v10),(14,dd b),(13,dd w),(15,dd (-1)),(16,y16),(17,.int .u64 y17),(8,y8),(12,y12),(2,dd n)])(u:∀a,Has a [(10,v10),(14,dd b),(13,dd w),(15,dd (fnd (Za l b w))),(8,y8),(12,y12),(2,dd n)]->Q (.exit 4) ⟨97,a,[],h⟩):wpC P zB false (.loop zHK) ⟨97,tm,[],h⟩ Q:=by
 refine wpC.round (λk tm h'=>∃i:Nat,i<=l.length/\k=l.length-i/\h'=h/\Has tm [(19,dd i),(10,v10),(14,dd b),(13,dd w),(15,dd (fnd (ZF (YT l) b w i))),(8,y8),(12,y12),(2,dd n)]) l.length ⟨0,oy,oy,rfl,hs.sub da⟩ ?_;clear hs;rintro k tm h' ⟨i,v,rfl,rfl,hs⟩;have o:=zDE l;refine wpC.av hs zRl rfl rfl ⟨_,f.len JW rfl,λc=>?_,λc=>hs.on λa d=>?_⟩
 .have hi:i<l.length:=oy
  have q:(YT l)[i]? = some (YT l)[i]:=oU oy;obtain⟨r,of,a1,a2,a3⟩:=f.atA (cx:=zB) (i:=i) hi JW rfl Zc rfl rfl db (ys:=[dd (YT l)[i].1,dd (YT l)[i].2]) rfl (zJK q);have r1:=a3 3 _ _ zm rfl 0 db rfl;have r2:=a3 3 _ _ zm rfl 1 db rfl;have el:ZF (YT l) b w (i+1)=if (YT l)[i]? = some ((b:Int),(w:Int)) then some i else ZF (YT l) b w i:=rfl
  rw[q]at el;generalize (YT l)[i]=p at *;obtain⟨s,t⟩:=p;have no:¬(s=b/\t=w)->ZF (YT l) b w (i+1)=ZF (YT l) b w i:=λc=>by
   try dsimp only
   rw[el,if_neg λe=>c ⟨congrArg (λx=>(x.getD (0,0)).1) e,congrArg (λx=>(x.getD (0,0)).2) e⟩]
  refine⟨r,of,a1,s,r1,λj=>⟨r,of,a1,t,r2,λm=>hs.on λa d=>⟨rfl,rfl,l.length-(i+1),oy,i+1,oy,rfl,rfl,?_⟩,λm=>hs.on λa d=>⟨rfl,rfl,l.length-(i+1),oy,i+1,oy,rfl,rfl,?_⟩⟩,λj=>hs.on λa d=>⟨rfl,rfl,l.length-(i+1),oy,i+1,oy,rfl,rfl,?_⟩⟩
  .rw[el,j,m,if_pos rfl,<-xP];exact d.sub da
  .rw[no λg=>m g.2,<-xP];exact d.sub da
  rw[no λg=>j g.1,<-xP];exact d.sub da
 have hi:i=l.length:=oy
 subst hi;exact u a (d.sub da)
abbrev oE0:O:=.cells (.ls []) ⟨0,5+1,0⟩ true false
structure BI (hb h:H) (c e:Nat) (L:List (Nat×O)) (vs:V) (out:Ua):Prop where
 w:Vw zN hb h c ((e,oE0)::L)
 ow:(out=[]/\vs = .slice e 0 0 (.exact 0))\/(0<out.length/\Ow h vs zCb out.length (bys out)/\Sep zN hb.nx ((e,oE0)::L) vs)
section
variable {hb h:H}{c e:Nat}{L:List (Nat×O)}{vs:V}{out:Ua}
theorem BI.sl(B:BI hb h c e L vs out):Sl h vs 1 out.length (bys out):=by
 rcases B.ow with⟨rfl,rfl⟩|⟨_,ow,_⟩
 .exact⟨rfl,.inr ⟨e,0,_,_,_,_,_,rfl,B.w.lt 0 rfl,B.w.get 0 rfl,λi hi=>by simp at hi⟩⟩
 exact ow.sl
theorem BI.ext{h':H}{m:Nat}(B:BI hb h c e L vs out)(x:Ext h h' m):BI hb h' (c+m) e L vs out :=
 ⟨B.w.ext x,B.ow.imp id λ⟨a,ow,sp⟩=>⟨a,ow.ext x,sp⟩⟩
theorem BI.keep{h':H}{c':Nat}{L':List (Nat×O)}(B:BI hb h c e L vs out)(w':Vw zN hb h' c' ((e,oE0)::L'))(hm:L'.map Prod.fst=L.map Prod.fst)(d:h.nx<=h'.nx)(f:∀b,b<h.nx->(∀q∈L,q.1≠b)->h'.get b=h.get b):BI hb h' c' e L' vs out:=by
 refine⟨w',B.ow.imp id λ⟨g,ow,sp⟩=>⟨g,ow.keep d λb hb=>f b (ow.blk hb) λq a=>(sp b hb).2 q (oN _ a),sp.less λq a=>?_⟩⟩;rcases oq.1 a with rfl|a
 .exact⟨_,List.mem_cons_self ..,rfl⟩
 have:q.1∈L.map Prod.fst:=by rw[<-hm];exact List.mem_map_of_mem a
 obtain⟨i,h1,j⟩:=List.mem_map.1 this;exact⟨i,oN _ h1,j⟩
theorem BI.app{b:UInt8}{x:V}(B:BI hb h c e L vs out)(s:Sl h x 1 1 [.int .u8 b.toNat])(n:out.length<=200000)(d:h.nx<T.top):
  ∃a h',zn zB 71 h vs x=some (a,h')/\BI hb h' (c+1) e L a (out++[b]):=by
 rcases B.ow with⟨rfl,rfl⟩|⟨_,ow,sp⟩
 .obtain⟨cs,o,p⟩:=Cs.ofL_some (l:=[V.int .u8 (b.toNat:Nat)]) (by simp);obtain⟨r,t⟩:=Cs.ofL_eq o;have g:=B.w.get 0 rfl;have f:zn zB 71 h (.slice e 0 0 (.exact 0)) x=some (.slice h.nx 0 1 (.skip 0),h.new (.cells cs (jC zCb) true true)):=by
   unfold zn;rw[zBa];simp only[ty5];have u:qn zCb=true:=da
   rw[u,oS,s.src db db];show Go.Sim.appTo zCb h 1 [V.int .u8 (b.toNat:Nat)] (.slice e 0 0 (.exact 0))=_;unfold Go.Sim.appTo;simp only[g];unfold qv;have v:Nat.ble (0+1) 0=false:=rfl;rw[v,oT];have w:zCx (.ls []) 0 (0*zCb.size) [V.int .u8 (b.toNat:Nat)]=some cs:=by unfold zCx;rw[Nat.zero_mul,zJ4 (.ls []) 0 (.inr trivial)];exact o
   rw[w];exact ky db d
  have y:Ext h (h.new (.cells cs (jC zCb) true true)) 1:=Ext.new _ d;refine⟨_,_,f,B.w.ext y,.inr ⟨Nat.succ_pos _,⟨rfl,.inr ⟨h.nx,cs,rfl,by rw[z8];omega,zM _ d,p,r,λi _=>t i⟩⟩,λq C=>?_⟩⟩;cases C;exact⟨.inr B.w.le,λz D=>Nat.ne_of_lt (B.w.bk.lt z D)⟩
 obtain⟨v',h',f,A⟩:=Ow.append (c:=zB) (te:=zCb) (m:=1) ow s db zBa rfl ty5 rfl rfl (by show(out.length+1)*1<=_;omega) (by show(out.length+1)*1<=_;omega) d;obtain⟨w',j,k⟩:=B.w.grow sp A;refine⟨v',h',f,w',.inr ⟨by simp,?_,k⟩⟩;rw[oe,zDD];exact j
end
end Go.Proofs.YtnpeieeomokomaaGreat
namespace Go.Proofs.YtnpeieeomokomaaGreat
open Go.Sim
variable {h:H}{Q:Uc}
theorem zQc{i:Nat}{Q:Ud}{s:St}(h:Q .normal s):Q (exitB i (.exit i)) s:=by rw[j5];exact h
section
variable {l:Ub}{s:Ua}{n L0 K:Nat}{v10:V}{out:Ua}{res:List UInt8×Int}{hb h:H}{cc e p b10:Nat}{oc:O}{vs:V}{tm:Tm}{Q:Ud}
theorem zVk(D:ju l)(hs15:s.length<=1500)(hL:(L0:Int)<=zf s)(hlt:out.length<n)(hK:K<=45000)(hn:hb.nx+46000<=T.top)(hC:∀h':H,h'.get b10=some oc->b10<h'.nx->Sl h' v10 2 l.length (kq (YT l)))(B:BI hb h cc e [(b10,oc),(p,OJ s L0)] vs out)(m:cc+3*L0<=K)(a:xK s l n L0 0 0 out=res)(hs:Has tm [(14,dd 0),(13,dd 0),(15,dd (-1)),(12,vs),(2,dd n),(10,v10),(8,.ptr p 0)])(E:res=([],22)->∀i h',Has i [(6,.str []),(7,dd 22)]->Ext hb h' 50000->Q .ret ⟨97,i,[],h'⟩)(F:∀i h' d left x,BI hb h' d e [(b10,oc),(p,OJ s left)] vs out->left<L0->d+3*left+2<=K->x<256->xK s l n left 0 0 (out++[UInt8.ofNat x])=res->Has i [(15,dd (x:Nat)),(12,vs),(2,dd n),(10,v10),(8,.ptr p 0)]->Q (.exit 2) ⟨97,i,[],h'⟩):
  wpC P zB false (.loop zHL) ⟨97,tm,[],h⟩ Q:=by
 have hm:=Zz D.2.1;refine wpC.round (λk tm h'=>∃(left bits val d:Nat) (f:Option Nat),left<=L0/\BI hb h' d e [(b10,oc),(p,OJ s left)] vs out /\
  (match f with
   | none=>k=left+1/\xK s l n left bits val out=res/\Bts l bits val/\d+3*left<=K
   | some x=>k=0/\x<256/\left<L0/\d+3*left+2<=K/\xK s l n left 0 0 (out++[UInt8.ofNat x])=res) /\
  Has tm [(14,dd bits),(13,dd val),(15,dd (fnd f)),(12,vs),(2,dd n),(10,v10),(8,.ptr p 0)]) (L0+1)
  ⟨L0,0,0,cc,none,oV _,B,⟨rfl,a,Bts.zero D,m⟩,hs.sub da⟩ ?_
 clear hs B m a;rintro k tm h' ⟨left,bits,val,d,f,hll,B,hf,hs⟩;have w:=B.w;have tw:=w.top;cases f with
 | some x=>obtain⟨rfl,hx,M,m,a⟩:=hf;refine wpC.av hs zJh rfl rfl ⟨λc=>absurd c (by show ¬((x:Nat):Int)<0;omega),λc=>hs.on λi j=>?_⟩;exact F i h' d left x B M m hx a (j.sub da)
 | none =>
  obtain⟨rfl,a,N,m⟩:=hf;have hb1:=N.lt;have hb2:=N.val;have hp:2^bits<=2^11:=Nat.pow_le_pow_right db oy;refine wpC.av hs zJh rfl rfl ⟨λ_=>?_,λc=>absurd (show(-1:Int)<0 by decide) c⟩;refine⟨s,left,w.ldA 2 rfl zw rfl,Y5 oy oy db ?_⟩;unfold tkB;cases left with
  | zero =>
   rw[if_neg db];have hr:res=([],22):=by rw[<-a];unfold xK;rw[if_neg oy]
   refine⟨_,_,_,_,rfl,oy,?_⟩;rintro p9 G rfl o;have r:=w.new o oy;have O:=r.top;obtain⟨v,A,y,R,_⟩:=r.st (cx:=zB) 0 (t:=120) (f:=0) (u:=.agg [.str [],dd 0]) (cs':=.ls [.str [],dd 0]) rfl oy zw rfl;refine⟨v,A,λ_=>hs.on λi j=>?_,λg=>absurd (show(5:Int)≠0 by decide) g⟩;exact thenC.ret (E hr i v (j.sub da) (y.ex0.mono oy))
  | succ left =>
   rw[if_pos (show 1<=left+1 by omega)];have I:=zE0 s (left+1);refine⟨_,_,_,_,rfl,oy,?_⟩;rintro p9 G rfl o;have n10:G.nx=h'.nx+1:=by rw[o,z8]
   have r:=w.new o oy;have O:=r.top;obtain⟨v,A,y,R,S⟩:=r.st (cx:=zB) 0 (t:=120) (f:=0) (u:=OD s (left+1-1)) (cs':=.ls [.str s,dd ((left+1-1:Nat):Int)]) rfl oy zw rfl;refine⟨v,A,λg=>absurd rfl g,λ_=>⟨λc=>oy,λc=>hs.on λi j=>?_⟩⟩;obtain⟨C,U,V,n14,W⟩:=y.st (cx:=zB) 3 (t:=120) (f:=0) (u:=OD s (left+1-1)) (cs':=.ls [.str s,dd ((left+1-1:Nat):Int)]) rfl oy zw rfl;have B14:BI hb C (d+1) e [(b10,oc),(p,OJ s left)] vs out:=by
    refine B.keep (V.drop 1) rfl oy λb hb X=>?_
    rw[W b λq=>X (p,OJ s (left+1)) (by simp) q.symm,S b oy,o];exact xJ _ oy hb
   have Y:=hC C (B14.w.get 1 rfl) (B14.w.lt 1 rfl);refine wpS.av j zSc rfl rfl ⟨_,_,y.ldA 0 rfl zw rfl,C,U,j.on λtm2 Z=>?_⟩;have eb:zG ((bits:Int)+1)=((bits+1:Nat):Int):=xP;have ev:zG (zG (2*(val:Int))+zG ((yI s (left+1) 1:Nat):Int))=((2*val+yI s (left+1) 1:Nat):Int):=by rw[zD (n:=2*(val:Int)) oy oy,zD (n:=((yI s (left+1) 1:Nat):Int)) oy oy,zD oy oy];omega
   have J:xK s l n (left+1) bits val out=(match Za l (bits+1) (2*val+yI s (left+1) 1)with|some x=>xK s l n left 0 0 (out++[UInt8.ofNat x])|none=>xK s l n left (bits+1) (2*val+yI s (left+1) 1) out):=by show(if n<=out.length then _ else _)=_;rw[if_neg oy];cases Za l (bits+1) (2*val+yI s (left+1) 1)<;>rfl
   rw[J]at a;refine zWg (y8:=.ptr p 0) (y12:=vs) (b:=bits+1) (w:=2*val+yI s (left+1) 1) (n:=n) (y16:=.ptr h'.nx 0) (y17:=(yI s (left+1) 1:Nat)) D.1 Y (by rw[<-eb,<-ev];exact Z.sub da) λtm3 hs3=>zQc (hs3.slt λwH hs4=>hs4.slt λKm z=>?_)
   cases L:Za l (bits+1) (2*val+yI s (left+1) 1)with
   | none=>rw[L]at a z;exact⟨rfl,rfl,left+1,oy,left,bits+1,2*val+yI s (left+1) 1,d+1,none,oy,B14,⟨rfl,a,N.step D I L,oy⟩,z.sub da⟩
   | some x=>rw[L]at a z;have hx:=zAA _ L;have hxl:=D.1;exact⟨rfl,rfl,0,oy,left,bits+1,2*val+yI s (left+1) 1,d+1,some x,oy,B14,⟨rfl,oy,oy,oy,a⟩,z.sub da⟩
end
theorem zQ1(c:h.nx<T.top):zJ zB 71 0 [] h=some (.slice h.nx 0 0 (.exact 0),h.new oE0):=by
 have a:zJ zB 71 0 [] h=(match (cond (Nat.blt h.nx T.top) (some (h.nx,h.new oE0)) none:Option (Nat×H))with|some (b,h')=>some (.slice b 0 0 (.exact 0),h')|none=>none):=da
 rw[(zY _ _).2 c,oS]at a;exact a
theorem zCZ{v:V}{l:Ub}{s:Ua}{n:Nat}{h:H}{Q:Uc}(sl:Sl h v 1 l.length (zV l))(Y:ju l)(hs:s.length<=1500)(hn0:n<=131072)(hn:h.nx+60000<=T.top)(hlow:h.low<=T.top)(W:Q (.tuple [.str (wP s l n).1,dd (wP s l n).2]) h):RF P zB 130 [v,.str s,dd n] h Q:=by
 refine RF.forget (n:=50000) (v:=.tuple [.str (wP s l n).1,dd (wP s l n).2]) ?_ (qH (yx _) (zL _ _)) W;clear W Q;have Z:2<=(kq (YT l)).length:=by rw[qX,zDE];have:=Of l;have:=Y.2.2.1;omega
 refine yU z0T (zCW oy ?_);unfold rdB;by_cases c:zf s<0
 .have X:wP s l n=([],22):=by unfold wP;rw[if_pos c]
  rw[if_pos c];refine⟨_,_,_,rfl,oy,?_⟩;rintro p5 h6 rfl e6;have D:=(Vw.nil (S:=zN) (h:=h)).new e6 oy;have t6:=D.top;obtain⟨h7,e7,j,n7,_⟩:=D.st (cx:=zB) 0 (t:=120) (f:=0) (u:=.agg [.str [],dd 0]) (cs':=.ls [.str [],dd 0]) rfl oy zw rfl;exact⟨h7,e7,λ_=>⟨by rw[X],j.ex0.mono oy⟩,λg=>absurd (show(22:Int)≠0 by decide) g⟩
 have hz:=wS s;obtain⟨a,m⟩:∃a:Nat,zf s=(a:Int):=⟨(zf s).toNat,oy⟩;have X:wP s l n=xK s l n a 0 0 []:=by unfold wP;rw[if_neg c,m];rfl
 have hle0:a<=12000:=oy
 rw[if_neg c,m];refine⟨_,_,_,rfl,oy,?_⟩;rintro p5 h6 rfl e6;have D:=(Vw.nil (S:=zN) (h:=h)).new e6 oy;have t6:=D.top;obtain⟨h7,e7,j,n7,_⟩:=D.st (cx:=zB) 0 (t:=120) (f:=0) (u:=OD s a) (cs':=.ls [.str s,dd a]) rfl oy zw rfl;have t7:=j.top;have l7:=j.low;refine⟨h7,e7,λg=>absurd rfl g,λ_=>zGw (sl.ext j.ex0) Y oy oy λE v10 x9 s10 F=>⟨_,_,rfl,?_⟩⟩;obtain⟨q1,⟨rfl,q2⟩|⟨d,z,cp,cs,kk,G,op,rfl,I,J,L⟩⟩:=id s10
 .rw[q1,q2]at Z;omega
 have hC:∀h':H,h'.get d=some (.cells cs kk G op)->d<h'.nx->Sl h' (.slice d z l.length cp) 2 l.length (kq (YT l)):=λh' g lt=>⟨q1,.inr ⟨d,z,cp,cs,kk,G,op,rfl,lt,g,L⟩⟩
 have f10:=F d rfl;have w9:=(j.ext x9).push (p:=d) (o:=.cells cs kk G op) (λq W=>oO (j.bk.lt q W) f10) I (by have:=j.le;omega) J;have t9:=w9.top;refine⟨_,_,zQ1 oy,?_⟩;have A:=w9.new (h':=E.new oE0) rfl oy;have t13:=A.top;refine Has.nil.on λtm e=>?_
 generalize y:xK s l n a 0 0 []=res at X;rw[X];have B0:BI h (E.new oE0) (0+1+4200+1) E.nx [(d,.cells cs kk G op),(h.nx,OJ s a)] (.slice E.nx 0 0 (.exact 0)) []:=⟨A,.inl ⟨rfl,rfl⟩⟩;refine wpC.round (λk tm h'=>∃(left cc:Nat) (out:Ua) (vs:V),left=k/\out.length<=n/\cc+3*left<=4300+3*a/\left<=a/\BI h h' cc E.nx [(d,.cells cs kk G op),(h.nx,OJ s left)] vs out/\xK s l n left 0 0 out=res /\
  Has tm [(12,vs),(2,dd n),(10,.slice d z l.length cp),(8,.ptr h.nx 0)]) a
  ⟨a,_,[],_,rfl,by simp,oy,oV _,B0,y,e.sub da⟩ ?_
 clear e B0 A w9 j D y;rintro k tm h' ⟨left,cc,out,vs,rfl,hol,hcc,hll,B,C,e⟩;have tw:=B.w.top;have M:=B.sl;refine wpC.av e zRm rfl rfl ⟨_,M.len zBa rfl,λc1=>e.on λtm' i=>?_,λc1=>e.on λtm' i=>?_⟩
 .refine zVk (K:=4300+3*a) Y hs oy (show out.length<n by omega) oy oy hC B hcc C (i.sub da) (λhr r h2 b x2=>?_) λr h2 cc2 left2 x B2 hl2 hcc2 hx N b=>?_
  .show zp X3 _ .ret _;refine b.slt λtm3 w=>thenC.ret (thenC.ret (endW.r2 (w.get rfl) (w.get rfl) ⟨by rw[hr],x2⟩))
  have t2:=B2.w.top;obtain⟨h29,e29,O,x29⟩:=zIb (h:=h2) ((x:Nat):Int) oy;have B29:=B2.ext x29;have t29:=B29.w.top;have ex:(x:Int)=(((UInt8.ofNat x).toNat:Nat):Int):=by rw[UInt8.toNat_ofNat',ou]
  rw[ex]at O;obtain⟨R,h31,e31,B31⟩:=B29.app O oy oy;refine thenC.out (wpS.av b zSd rfl rfl ⟨_,h29,by rw[JY,ou hx];exact e29,trivial,R,h31,e31,b.on λtm3 w=>?_⟩);show zp X3 _ .normal _;exact w.slt λwH hs4=>⟨rfl,rfl,left2,oy,left2,_,out++[UInt8.ofNat x],R,rfl,by rw[oe];show out.length+1<=n;omega,oy,oy,B31,N,hs4.sub da⟩
 have U:n<=out.length:=oy
 refine thenC.left (wpS.av i zSe rfl rfl ⟨_,_,B.w.ldA 2 rfl zw rfl,Y5 oy oy db ?_⟩);unfold tkB;by_cases c2:1<=left
 .rw[if_pos c2];refine⟨_,_,_,_,rfl,λ_=>i.on λr b=>?_,λg=>absurd rfl g⟩;have hr:res=([],22):=by
   rw[<-C];rcases left with _|left
   .omega
   unfold xK;rw[if_pos U]
  exact endW.r2 (b.get rfl) (b.get rfl) ⟨by rw[hr],B.w.ex0.mono oy⟩
 rw[if_neg c2];refine⟨_,_,_,_,rfl,λg=>absurd g db,λ_=>?_⟩;have m:left=0:=oy
 subst m;have hr:res=(out,0):=by rw[<-C];unfold xK;rw[if_pos U]
 by_cases ho:out=[]
 .rcases B.ow with⟨_,rfl⟩|⟨h0,_⟩
  .subst ho;refine XC (B.w.get 0 rfl) (i.on λr b=>?_);exact endW.r2 (b.get rfl) (b.get rfl) ⟨by rw[hr],B.w.ex0.mono oy⟩
  subst ho;exact absurd h0 (Nat.lt_irrefl 0)
 refine Oh M (List.length_pos_iff.2 ho) (i.on λr b=>?_);exact endW.r2 (b.get rfl) (b.get rfl) ⟨by rw[hr],B.w.ex0.mono oy⟩
end Go.Proofs.YtnpeieeomokomaaGreat
namespace Go.Proofs.YtnpeieeomokomaaGreat
open Go.Sim
variable {h:H}{Q:Uc}
theorem zKz{v:V}{l:Ub}{s:Ua}{n:Nat}(sl:Sl h v 1 l.length (zV l))(hl:l.length<=1000)(hs:s.length<=1500)(a:n<=131072)(e:h.nx+60000<=T.top)(d:h.low<=T.top)(b:Q (.tuple [.str (Yh s l n).1,dd (Yh s l n).2]) h):RF P zB 71 [v,.str s,dd n] h Q:=by
 refine yU z4M (zAQ sl hl ⟨_,rfl,λc=>?_,λc=>?_⟩)
 .rw[ZI l a]at c ⊢;unfold Yh at b;rw[if_neg c]at b;exact b
 have c:=Decidable.not_not.1 c;rw[ZI l a]at c;unfold Yh at b;rw[if_pos c]at b;exact zCZ sl (Xk c) hs a e d ⟨_,_,rfl,b⟩
def z4(s:Ua):Nat->Nat:=s4 (l2 s 0) (l2 s 2) (l2 s 4) (s.length-l6 s)
def zE(s:Ua)(j i:Nat):Int:=if j<i then (z4 s (j+1):Nat) else 0
abbrev oNd(s:Ua)(i:Nat):O:=oP4 (zE s 0 i) (zE s 1 i) (zE s 2 i) (zE s 3 i)
theorem zVU{s:Ua}:∀i,i<4->(Cs.ls [dd (zE s 0 i),dd (zE s 1 i),dd (zE s 2 i),dd (zE s 3 i)]).put i (dd (z4 s (i+1):Nat)).cells=some (.ls [dd (zE s 0 (i+1)),dd (zE s 1 (i+1)),dd (zE s 2 (i+1)),dd (zE s 3 (i+1))])
 | 0,_=>da
 | 1,_=>da
 | 2,_=>da
 | 3,_=>da
theorem z1h{s:Ua}:∀i,i<4->(Cs.ls [dd (zE s 0 4),dd (zE s 1 4),dd (zE s 2 4),dd (zE s 3 4)]).get? i=some (dd (z4 s (i+1):Nat))
 | 0,_=>da
 | 1,_=>da
 | 2,_=>da
 | 3,_=>da
theorem zTv(s:Ua):∀i,i<3->z4 s (i+1)=z4 s i+l2 s (2*i)
 | 0,_=>rfl
 | 1,_=>rfl
 | 2,_=>rfl
theorem z1g(s:Ua)(i:Nat)(h:l6 s<=s.length):z4 s i<=s.length:=by have:=zJ8 (a:=l2 s 0) (b:=l2 s 2) (c:=l2 s 4) (d:=s.length-l6 s) (i:=i);unfold z4;unfold l6 at *;omega
theorem zG5(s:Ua):z4 s 3=l6 s:=rfl
theorem zTt(s:Ua)(h:l6 s<=s.length):z4 s 4=s.length:=by show 6+l2 s 0+l2 s 2+l2 s 4+(s.length-l6 s)=_;unfold l6 at *;omega
theorem zTu(s:Ua):∀i,i<4->z4 s i<=z4 s (i+1)
 | 0,_=>Nat.le_add_right 6 _
 | 1,_=>Nat.le_add_right _ _
 | 2,_=>Nat.le_add_right _ _
 | 3,_=>Nat.le_add_right _ _
theorem zB7{v:V}{l:Ub}{s:Ua}{n:Nat}{h:H}{Q:Uc}(sl:Sl h v 1 l.length (zV l))(hl:l.length<=1000)(hs:s.length<=1500)(B:n<=131072)(hn:h.nx+61000<=T.top)(J:h.low<=T.top)(hq:Q (.tuple [.str (yV s l n).1,dd (yV s l n).2.1,dd (yV s l n).2.2]) h):RF P zB 72 [v,.str s,dd n] h Q:=by
 refine RF.forget (n:=100) (v:=.tuple [.str (yV s l n).1,dd (yV s l n).2.1,dd (yV s l n).2.2]) ?_ (zAU (yx _) (zL _ _) (zL _ _)) hq;clear hq Q;refine yU z4N (zAQ sl hl ⟨_,rfl,?_⟩);try dsimp only
 rw[ZI l B];refine⟨λc=>⟨by unfold yV;rw[if_pos c];rfl,(Ext.refl h).mono oy⟩,λc=>?_⟩;refine zKi B (λh6=>?_) λh6=>?_
 rotate_left
 .refine⟨0,0,0,0,_,rfl,oy,?_⟩;rintro R C rfl x;have p:=(Vw.nil (S:=zN) (h:=h)).new x oy;have U:=p.top;obtain⟨o,D,q,W,_⟩:=p.st (cx:=zB) 0 (t:=176) (f:=0) (u:=.agg [dd 0,dd 0,dd 0,dd 0]) (cs':=.ls [dd 0,dd 0,dd 0,dd 0]) rfl oy YP rfl;exact⟨o,D,λ_=>⟨by unfold yV;rw[if_neg c,if_pos h6];rfl,q.ex0.mono oy⟩,λg=>absurd (show(20:Int)≠0 by decide) g⟩
 refine⟨_,_,_,_,_,rfl,oy,?_⟩;rintro R C rfl x;have p:=(Vw.nil (S:=zN) (h:=h)).new x oy;have U:=p.top;obtain⟨o,D,q,W,_⟩:=p.st (cx:=zB) 0 (t:=176) (f:=0) (u:=.agg (prt n)) (cs':=.ls (prt n)) rfl oy YP rfl;refine⟨o,D,λg=>absurd rfl g,λ_=>⟨λK=>?_,λK=>?_⟩⟩
 .have K:(s.length:Int)<6:=K;exact⟨by unfold yV;rw[if_neg c,if_neg oy,if_pos oy];rfl,q.ex0.mono oy⟩
 have K:¬(s.length:Int)<6:=K;have hg:=Xk (Decidable.not_not.1 c);have L:yV s l n=if s.length<l6 s then ([],0,22) else xr l s n (z4 s) 4 0 []:=by unfold yV z4;rw[if_neg c,if_neg oy,if_neg oy]
 have t12:=q.top;refine⟨oy,?_⟩;rintro p13 h14 rfl X;have E:=q.new X oy;have t14:=E.top;refine Has.nil.on λtm j=>?_
 refine wpC.round (λk tm h'=>∃i:Nat,i<=3/\k=3-i/\Vw zN h h' (2+i) [(o.nx,oNd s i),(h.nx,.cells (.ls (prt n)) ⟨0,177,0⟩ true false)] /\
  Has tm [(13,dd i),(1,.str s),(12,dd (z4 s i:Nat)),(11,.ptr o.nx 0),(0,v),(10,.ptr h.nx 0)]) 3 ⟨0,oy,oy,E,j.sub da⟩ ?_
 clear j E q p;rintro k tm h' ⟨i,Y,rfl,w,j⟩;have tw:=w.top;refine wpC.av j zWy rfl rfl ⟨λc4=>?_,λc4=>j.on λy e=>?_⟩
 .have hi:i<3:=oy
  have ea:zG (2*(i:Int))=((2*i:Nat):Int):=by rw[zD oy oy];omega
  try dsimp only
  rw[ea];refine zFt (n:=2) oy oy oy (λ_=>⟨_,_,_,_,rfl,oy,?_⟩) (λg=>oy);rintro p6 h7 rfl e7;have w7:=w.new e7 oy;have t7:=w7.top;obtain⟨h8,e8,w8,n8,_⟩:=w7.st (cx:=zB) 0 (t:=26) (f:=0) (u:=.agg [dd 0,dd 0]) (cs':=.ls [dd 0,dd 0]) rfl oy zd rfl;obtain⟨C,x,p,n11,_⟩:=w8.st (cx:=zB) 1 (t:=3) (f:=i) (u:=dd (z4 s (i+1):Nat)) rfl oy zm (zVU i oy);have hb:=K4 s (2*i);have hzi:z4 s i<=6+65536*3+2000:=by have:=zJ8 (a:=l2 s 0) (b:=l2 s 2) (c:=l2 s 4) (d:=s.length-l6 s) (i:=i);have:=K4 s 0;have:=K4 s 2;have:=K4 s 4;unfold z4;omega
  have ez:zG (((z4 s i:Nat):Int)+zG ((wQ (zH s (2*i) (2*i+2)):Nat):Int))=((z4 s (i+1):Nat):Int):=by have Z:wQ (zH s (2*i) (2*i+2))=l2 s (2*i):=rfl;rw[Z,zD (n:=((l2 s (2*i):Nat):Int)) oy oy,zD oy oy,zTv s i hi];omega
  try dsimp only
  rw[ez];refine⟨h8,e8,o.nx,i,Z9 i oy,C,x,j.on λy e=>⟨rfl,rfl,3-(i+1),oy,i+1,oy,rfl,(p.drop 1).more oy,?_⟩⟩;try dsimp only
  rw[<-xP];exact e.sub da
 have hi3:i=3:=oy
 subst hi3;refine thenC.left (wpS.av e zXn rfl rfl ⟨λF=>e.on λG m=>?_,λF=>?_⟩)
 .have F:(s.length:Int)<(z4 s 3:Nat):=F;rw[zG5]at F;exact endW.r3 (m.get rfl) (m.get rfl) (m.get rfl) ⟨by rw[L,if_pos oy];rfl,w.ex0.mono oy⟩
 have F:¬(s.length:Int)<(z4 s 3:Nat):=F;rw[zG5]at F;have M:l6 s<=s.length:=oy
 rw[if_neg oy]at L;obtain⟨h2,Z,z,n2,_⟩:=w.st (cx:=zB) 0 (t:=3) (f:=3) (u:=dd (z4 s (3+1):Nat)) rfl oy zm (zVU 3 oy);have e24:(Int.ofNat s.length)=((z4 s (3+1):Nat):Int):=by rw[zTt s M];rfl
 try dsimp only
 rw[e24];refine⟨o.nx,3,Z9 3 oy,h2,Z,e.on λG m=>?_⟩;have z:Vw zN h h2 (2+3) [(o.nx,oNd s 4),(h.nx,.cells (.ls (prt n)) ⟨0,177,0⟩ true false)]:=z;have t2:=z.top;have N:=oW z.low J;have sl2:=sl.ext z.ex0;generalize A:xr l s n (z4 s) 4 0 []=res at L;refine wpC.round (λk tm h'=>∃(i:Nat) (out:Ua),i<=4/\k=4-i/\h'=h2/\out.length<=131072*4*i/\xr l s n (z4 s) (4-i) i out=res /\
  Has tm [(19,dd i),(0,v),(1,.str s),(18,dd (z4 s i:Nat)),(11,.ptr o.nx 0),(10,.ptr h.nx 0),(17,.str out)]) 4 ⟨0,[],oy,oy,rfl,by simp,A,m.sub da⟩ ?_
 clear m e j A;rintro k tm h' ⟨i,out,Y,rfl,rfl,hol,r,j⟩;refine wpC.av j zWz rfl rfl ⟨λc6=>?_,λc6=>j.on λy e=>?_⟩
 .have hi:i<4:=oy
  have hzm:=zTu s i hi;have hzl:=z1g s (i+1) M;have g1:=z.ld1 (cx:=zB) 0 (t:=3) (f:=i) rfl zm (z1h i hi);have g2:=z.ld1 (cx:=zB) 1 (t:=3) (f:=i) rfl zm (zOJ i hi);have hp:=zDY (n:=n) (i:=i) B;have hsl:(zH s (z4 s i) (z4 s (i+1))).length<=1500:=by unfold zH;simp;omega
  refine⟨⟨oy,N⟩,o.nx,i,Z9 i hi,_,g1,_,xN hzm hzl,h.nx,i,Z9 i hi,_,g2,?_⟩;refine zCZ (show Sl (zX h') v 1 l.length (zV l)from sl2) hg hsl hp (show h'.nx+60000<=T.top by omega) (oV _) ⟨_,_,rfl,show h'.nx<=T.top by omega,qV N ?_⟩;have O:xr l s n (z4 s) (4-i) i out=if (wP (zH s (z4 s i) (z4 s (i+1))) l (mnP n i)).2=0 then xr l s n (z4 s) (4-(i+1)) (i+1) (out++(wP (zH s (z4 s i) (z4 s (i+1))) l (mnP n i)).1) else ([],z4 s i,22):=by rw[show 4-i=(4-(i+1))+1 by omega];rfl
  rw[O]at r;have hlen:=Ou (zH s (z4 s i) (z4 s (i+1))) l (mnP n i);refine⟨λc7=>j.on λy e=>?_,λc7=>⟨oy,o.nx,i,Z9 i hi,_,g1,j.on λy e=>⟨rfl,rfl,4-(i+1),oy,i+1,out++(wP (zH s (z4 s i) (z4 s (i+1))) l (mnP n i)).1,oy,rfl,rfl,?_,?_,?_⟩⟩⟩
  .rw[if_neg c7]at r;exact thenC.ret (thenC.ret (e.slt λG m=>endW.r3 (m.get rfl) (m.get rfl) (m.get rfl) ⟨by rw[L,<-r],z.ex0.mono oy⟩))
  .rw[oe];omega
  .rw[if_pos (Decidable.not_not.1 c7)]at r;exact r
  rw[<-xP];exact e.sub da
 have hi4:i=4:=oy
 subst hi4;refine thenC.left (wpS.av e zXm rfl rfl (e.on λG m=>m.slt λtm3 I=>endW.r3 (I.get rfl) (I.get rfl) (I.get rfl) ⟨?_,z.ex0.mono oy⟩));rw[L,<-r];rfl
theorem zDT(s:Ua)(l:Ub)(n:Nat):∀left bits val out,(xK s l n left bits val out).2=0\/(xK s l n left bits val out).2=22
 | 0,_,_,_=>by unfold xK;split;exact .inl rfl;exact .inr rfl
 | left+1,_,_,_=>by
  unfold xK;split
  .exact .inr rfl
  split
  .exact zDT s l n left _ _ _
  exact zDT s l n left _ _ _
theorem zWJ(s:Ua)(l:Ub)(n:Nat):(wP s l n).2=0\/(wP s l n).2=22:=by
 unfold wP;split
 .exact .inr rfl
 exact zDT _ _ _ _ _ _ _
theorem zEp(l:Ub)(s:Ua)(n:Nat)(z:Nat->Nat):∀k i out,(xr l s n z k i out).2.2=0\/(xr l s n z k i out).2.2=22
 | 0,_,_=>.inl rfl
 | k+1,i,out=>by
  unfold xr;split
  .exact zEp l s n z k _ _
  exact .inr rfl
theorem zQq{s:Ua}{l:Ub}{a z n:Nat}(hl:wW l=0):lrC s l a z n 1=if (Yh (zH s a z) l n).2=0 then ⟨(Yh (zH s a z) l n).1,some l,z,0,0⟩ else Zg (Yh (zH s a z) l n).2 a:=by
 unfold lrC kl Yh;rw[if_pos rfl,if_pos hl];rcases zWJ (zH s a z) l n with e|e
 .rw[if_pos e,if_pos e];rfl
 rw[e];rfl
theorem zN7{s:Ua}{l:Ub}{a z n st:Nat}(hl:wW l=0)(h1:st≠1)(c:6<=n):lrC s l a z n st=if (yV (zH s a z) l n).2.2=0 then ⟨(yV (zH s a z) l n).1,some l,z,0,0⟩ else Zg (yV (zH s a z) l n).2.2 ((a+(yV (zH s a z) l n).2.1:Nat):Int):=by
 have b:(yV (zH s a z) l n).2.2=0\/(yV (zH s a z) l n).2.2=22:=by
  unfold yV;rw[if_neg (by rw[hl];decide),if_neg oy];split
  .exact .inr rfl
  split
  .exact .inr rfl
  exact zEp _ _ _ _ _ _ _
 unfold lrC kl;rw[if_neg h1];rcases b with e|e
 .rw[if_pos e,if_pos e];rfl
 rw[e];rfl
def F31(Q:Ud)(hb:H)(p0:Nat)(R:LR):Prop :=
 ∀tm h v,Has tm [(8,.str R.out),(9,v),(10,dd R.fin),(11,.ptr p0 0)]->zo zB 26 h (.ptr p0 0)=some (.agg [dd R.e,dd R.y])->Ext hb h 3000->nxOk h v R.nx->Q .ret ⟨231,tm,[],h⟩
section
variable {Q:Ud}{hb h:H}{c p0 p7:Nat}{s:Ua}{x:Int}{l last:Ub}{k st n m b a z:Nat}{u v:V}{tm:Tm}{R:LR}
theorem F31.slt(F:F31 Q hb p0 R):F31 (zp yu Q) hb p0 R:=λtm h v hs f g i=>hs.slt λd e=>F d h v (e.sub da) f g i
theorem F31.thenC{K:St->Prop}(F:F31 Q hb p0 R):F31 (Go.Sim.thenC K Q) hb p0 R:=F
theorem KZ{L:List (Nat×O)}{i:Nat}{q y0 a b:Int}{K:Ua->V->Int->H->Prop}(w:Vw zN hb h c L)(hi:L[i]? = some (p0,oF q y0))(r:h.nx+1<=T.top)(y:∀d,zo zB 26 d (.ptr p0 0)=some (.agg [dd a,dd b])->Ext hb d c->K [] .nilslice 0 d):
  RF P zB 69 [dd a,dd b] h λv0 h1=>∃(l2:Ua) (v3:V) (g:Int) (j:Int) (o:Int),v0=(.tuple [(.str l2),v3,(dd g),(.agg [(dd j),(dd o)])])/\∃d,zZ zB 26 h1 (.ptr p0 0) (.agg [(dd j),(dd o)])=some d/\K l2 v3 g d:=by
 obtain⟨d,A,p,B,_⟩:=w.st (cx:=zB) i (t:=26) (f:=0) (u:=.agg [dd a,dd b]) (cs':=.ls [dd a,dd b]) hi oy zd rfl;have e:i<L.length:=(List.getElem?_eq_some_iff.1 hi).1;exact zKP ⟨_,_,_,_,_,rfl,d,A,y d (p.ldA i (List.getElem?_set_self e) zd rfl) p.ex0⟩ r
abbrev z1u(p0:Nat)(u:V)(out:Ua)(e a wr z:Int):Kn:=[(18,dd e),(24,dd a),(29,dd wr),(11,.ptr p0 0),(28,.str out),(20,u),(23,dd z)]
theorem zUb{out:Ua}{e wr:Int}(w:Vw zN hb h c [(p0,oF 0 0)])(r:c<=3000)(A:h.nx+1<=T.top)(B:Sl h u 1 l.length (zV l))(hs:Has tm (z1u p0 u out e a wr z))(C:zG ((a:Int)+wr)=a+wr)(j:F31 Q hb p0 (if e=0 then ⟨out,some l,z,0,0⟩ else Zg e (a+wr))):Wf yu zJR ⟨231,tm,[],h⟩ Q:=by
 refine wpS.av hs zX3 rfl rfl ⟨λo=>?_,λo=>?_⟩
 .rw[C];rw[if_neg o]at j;exact KZ (i:=0) w rfl A λD E F=>hs.on λd g=>j d D .nilslice (g.sub da) E (F.mono r) rfl
 rw[if_pos (Decidable.not_not.1 o)]at j;obtain⟨y,G,p,I,H⟩:=w.st (cx:=zB) 0 (t:=26) (f:=0) (u:=.agg [dd 0,dd 0]) (cs':=.ls [dd 0,dd 0]) rfl oy zd rfl;refine⟨y,G,hs.on λd g=>j d y u (g.sub da) (p.ldA 0 rfl zd rfl) (p.ex0.mono r) (Sl.same B (λq=>?_) oy)⟩;by_cases c2:q=p0
 .subst c2;rw[p.get 0 rfl,w.get 0 rfl];rfl
 exact H q c2
abbrev zYa(p0:Nat)(u:V)(s:Ua)(st n a z:Int):Kn:=[(13,dd st),(20,u),(0,.str s),(24,dd a),(23,dd z),(14,dd n),(11,.ptr p0 0)]
theorem zUc(w:Vw zN hb h c [(p0,oF 0 0)])(j:Sl h u 1 l.length (zV l))(hl:l.length<=1000)(r:wW l=0)(t:z<=s.length)(y:s.length<=1500)(f:st=1\/st=4/\6<=n)(g:n<=131072)(p:hb.low<=T.top)(hs:Has tm (zYa p0 u s st n a z))(o:F31 Q hb p0 (lrC s l a z n st))(A:c<=3000:=by omega)(B:a<=z:=by omega)(D:h.nx+62000<=T.top:=by omega):Wf yu zFh ⟨231,tm,[],h⟩ Q:=by
 have d:=oW w.low p;have i:(zH s a z).length<=1500:=by unfold zH;simp;omega
 refine wpS.av hs zX4 rfl rfl ⟨λC=>⟨_,xN B t,?_⟩,λC=>⟨_,xN B t,?_⟩⟩
 .have f:st=1:=oy
  subst f;rw[zQq r]at o;exact zKz j hl i g oy d ⟨_,_,rfl,hs.on λq e=>zUb (a:=a) (l:=l) (wr:=0) w A oy j (e.sub da) (by rw[Int.add_zero,zD oy oy]) (by rw[Int.add_zero];exact o.slt)⟩
 rw[zN7 r oy oy]at o;have E:=zEq (s:=zH s a z) (l:=l) (n:=n);exact zB7 j hl i g oy d ⟨_,_,_,rfl,hs.on λq e=>zUb (a:=a) (l:=l) (wr:=((yV (zH s a z) l n).2.1:Nat)) w A oy j (e.sub da) (by rw[zD oy oy]) (by rw[<-Int.natCast_add];exact o.slt)⟩
abbrev z1t(p0 p7:Nat)(u v:V)(s:Ua)(st n nx z:Int):Kn:=[(27,.ptr p7 0),(11,.ptr p0 0),(25,u),(26,dd nx),(13,dd st),(0,.str s),(23,dd z),(14,dd n),(2,v)]
theorem zUa{e y:Int}{nx:Nat}(w:Vw zN hb h c [(p7,oF e y),(p0,oF 0 0)])(o:c<=3000)(p:h.nx+1<=T.top)(hs:Has tm (z1t p0 p7 u v s st n nx z))(q:e≠0->F31 Q hb p0 (Zg e y))(r:e=0->∀g,Has g (zYa p0 u s st n nx z)->Q .normal ⟨231,g,[],h⟩):Wf yu zJQ ⟨231,tm,[],h⟩ Q:=by
 refine wpS.av hs zX2 rfl rfl ?_;try dsimp only
 rw[Ol];refine⟨e,w.ld1 0 rfl yh rfl,λj=>?_,λj=>hs.on λd f=>r oy d (f.sub da)⟩;try dsimp only
 rw[Ol];refine⟨e,w.ld1 0 rfl yh rfl,?_⟩;try dsimp only
 rw[zHD];refine⟨y,w.ld1 0 rfl zm rfl,KZ (i:=1) w rfl p λt A B=>hs.on λd f=>q j d t .nilslice (f.sub da) A (B.mono o) rfl⟩
abbrev zEG(p0:Nat)(u v:V)(s:Ua)(k st n m b x:Int):Kn:=[(16,dd b),(15,dd m),(12,dd k),(0,.str s),(1,dd x),(11,.ptr p0 0),(20,u),(13,dd st),(14,dd n),(2,v)]
theorem zGF(s:Ua)(y:Nat):zH s 0 y=s.take y:=by unfold zH;simp
theorem zZh(w:Vw zN hb h c [(p0,oF 0 0)])(hc:c<=300)(hu:Sl h u 1 last.length (zV last))(G:last.length<=1000)(hg:k≠2->wW last=0)(H:b+m<=s.length)(p:s.length<=1500)(r:st=1\/st=4/\6<=n)(A:n<=131072)(hn:h.nx+65000<=T.top)(q:hb.low<=T.top)(hs:Has tm (zEG p0 u v s k st n m b x))(d:F31 Q hb p0 (if k=2 then lrT s x st n m b else lrC s last b (b+m) n st)):Wf yu zCT ⟨231,tm,[],h⟩ Q:=by
 have B:=oW w.low q;have hp0:hb.nx<=p0:=by rcases w.own 0 rfl with g|g;exact g.elim;exact g
 have ez:zG ((b:Int)+m)=((b+m:Nat):Int):=by rw[zD oy oy];omega
 refine wpS.av hs zX5 rfl rfl ?_;try dsimp only
 rw[ez];refine⟨λc1=>⟨_,zGH H,?_⟩,λc1=>hs.on λC i=>?_⟩
 .have j:k=2:=oy
  rw[if_pos j]at d;unfold lrT at d;rw[<-zGF];have Z:(zH s 0 (b+m)).length=b+m:=by unfold zH;simp;omega
  refine Kw (at':=(b:Nat)) oy oy B λh2 I x2 s3 J=>⟨_,_,_,_,rfl,?_⟩
  have K:=zCY (zH s 0 (b+m)) (b:Nat);have D:=YF (s:=zH s 0 (b+m)) (a:=(b:Nat));generalize ye (zH s 0 (b+m)) (b:Nat)=R at d s3 K D ⊢;have w2:=w.ext x2;have t2:=x2.top;refine⟨oy,?_⟩;rintro p7 h8 rfl L;have n8:h8.nx=h2.nx+1:=by rw[L,z8]
  have w8:=w2.new L oy;obtain⟨h9,e9,E,n9,k9⟩:=w8.st (cx:=zB) 0 (t:=26) (f:=0) (u:=.agg [dd R.e,dd R.fat]) (cs':=.ls [dd R.e,dd R.fat]) rfl oy zd rfl;refine⟨h9,e9,_,E.ld1 0 rfl yh rfl,λM=>?_,λM=>hs.on λC i=>?_⟩
  .obtain⟨N,O,P,n11,_⟩:=E.st (cx:=zB) 0 (t:=26) (f:=0) (u:=.agg [dd 21,dd x]) (cs':=.ls [dd 21,dd x]) rfl oy zd rfl;rw[if_neg oy,if_pos M]at d;exact⟨N,O,hs.on λC i=>zUa (u:=I) (v:=v) (s:=s) (st:=st) (n:=n) (z:=b+m) (nx:=R.nx) (e:=21) (y:=x) P oy oy (i.sub da) (λ_=>d.slt.thenC) λe=>absurd e db⟩
  refine zUa (u:=I) (v:=v) (s:=s) (st:=st) (n:=n) (z:=b+m) (nx:=R.nx) (e:=R.e) (y:=R.fat) E oy oy (i.sub da) (λF=>?_) λF tm3 S=>thenC.nx (S.sealK λwH U=>?_)
  .rw[if_neg F,if_neg M]at d;exact d.slt.thenC
  rw[if_pos F]at d;obtain⟨g1,g2,g3⟩:=D F;have lt0:=w.lt 0 rfl;have u9:Sl h9 I 1 R.l.length (zV R.l):=by obtain⟨q1,q2⟩:=s3;refine⟨q1,q2.imp id ?_⟩;rintro⟨V,o,cp,cs,kk,ww,op,rfl,W,X,Y⟩;have:=J V rfl;exact⟨V,o,cp,cs,kk,ww,op,rfl,oy,by rw[k9 V oy,L,xJ _ oy W];exact X,Y⟩
  exact zUc (E.drop 1) u9 oy g3 H p r A q (U.sub da) d.slt
 have j:¬k=2:=oy
 rw[if_neg j]at d;exact zUc w hu G (hg j) H p r A q (i.sub da) d.slt
theorem zU9{t:Bool}(w:Vw zN hb h c [(p0,oF 0 0)])(g:c<=3000)(j:h.nx+1<=T.top)(hs:Has tm ((152,.bool t)::zEG p0 u v s k st n m b x))(o:t=true->F31 Q hb p0 (Zg 20 x))(p:t=false->∀f,Has f (zEG p0 u v s k st n m b x)->Q .normal ⟨231,f,[],h⟩):Wf yu zCS ⟨231,tm,[],h⟩ Q:=by
 refine wpS.av hs zX1 rfl rfl ?_;cases t with
 | true=>exact KZ (i:=0) w rfl j λq r y=>hs.on λd e=>o rfl d q .nilslice (e.sub da) r (y.mono g) rfl
 | false=>exact hs.on λd e=>p rfl d (e.sub da)
theorem zU8{t:Bool}(w:Vw zN hb h c [(p0,oF 0 0)])(g:c<=3000)(j:h.nx+1<=T.top)(hs:Has tm ((140,.bool t)::zEG p0 u v s k st n m b x))(o:t=true->F31 Q hb p0 (Zg 26 x))(p:t=false->∀f,Has f (zEG p0 u v s k st n m b x)->Q .normal ⟨231,f,[],h⟩):Wf yu zCR ⟨231,tm,[],h⟩ Q:=by
 refine wpS.av hs zX0 rfl rfl ?_;cases t with
 | true=>exact KZ (i:=0) w rfl j λq r y=>hs.on λd e=>o rfl d q .nilslice (e.sub da) r (y.mono g) rfl
 | false=>exact hs.on λd e=>p rfl d (e.sub da)
theorem zW3(w:Vw zN hb h c [(p0,oF 0 0)])(B:c<=300)(C:Sl h u 1 last.length (zV last))(p:last.length<=1000)(D:k≠2->wW last=0)(E:b+m<=s.length)(j:s.length<=1500)(F:st=1\/st=4)(q:n<=131072)(G:h.nx+65000<=T.top)(r:hb.low<=T.top)(hs:Has tm (zEG p0 u v s k st n m b x))(o:F31 Q hb p0 (if st=4/\n<6 then Zg 20 x else if k=2 then lrT s x st n m b else lrC s last b (b+m) n st)):Wf yu KD ⟨231,tm,[],h⟩ Q:=by
 have go:∀i,¬(st=4/\n<6)->Has i ((152,.bool false)::zEG p0 u v s k st n m b x)->Wf yu zCS ⟨231,i,[],h⟩ (thenC (sealK yu λs1=>Wf yu zCT s1 (zp yu Q)) (zp yu Q)):=λi d y=>by rw[if_neg d]at o;exact zU9 (u:=u) (v:=v) (t:=false) w oy oy y (λe=>by cases e) λ_ g f=>thenC.nx (f.sealK λH A=>zZh (v:=v) w B C p D E j oy q G r (A.sub da) o.slt)
 refine wpS.av hs zTb rfl rfl ⟨λI=>⟨λJ=>hs.on λg f=>?_,λJ=>hs.on λg f=>go g oy (f.sub da)⟩,λI=>hs.on λg f=>go g oy (f.sub da)⟩;rw[if_pos ⟨oy,oy⟩]at o;exact zU9 (u:=u) (v:=v) (s:=s) (k:=k) (st:=st) (n:=n) (m:=m) (b:=b) (x:=x) (t:=true) w oy oy (f.sub da) (λ_=>o.slt.thenC) λe=>by cases e
end
end Go.Proofs.YtnpeieeomokomaaGreat
namespace Go.Proofs.YtnpeieeomokomaaGreat
open Go.Sim
variable {h:H}{Q:Uc}
theorem F31.exitB{Q:Ud}{hb:H}{p0:Nat}{R:LR}{K:St->Prop}(F:F31 Q hb p0 R):F31 (λe s1=>Go.Sim.thenC K Q (Go.Sim.exitB 0 e) s1) hb p0 R:=λtm h v hs a b c=>F tm h v hs a b c
theorem zRX{c:UInt8}{n i:Nat}(hi:i<n):(bys (List.replicate i c)++List.replicate (n-i) (V.int .u8 0)).set i (.int .u8 c.toNat)=bys (List.replicate (i+1) c)++List.replicate (n-(i+1)) (V.int .u8 0):=by
 have hl:(bys (List.replicate i c)).length=i:=by rw[zIc,List.length_replicate]
 rw[List.set_append_right _ _ oy,hl,Nat.sub_self,show n-i=(n-(i+1))+1 by omega,List.replicate_succ,List.set_cons_zero,List.replicate_succ',zDD,List.append_assoc];rfl
section
variable {Q:Ud}{hb h:H}{c p0:Nat}{s:Ua}{x most:Int}{last:Ub}{k st n m b z:Nat}{u v:V}{tm:Tm}
abbrev zJs(p0:Nat)(v:V)(s:Ua)(k st n m b x:Int):Kn:=[(2,v),(12,dd k),(0,.str s),(16,dd b),(14,dd n),(11,.ptr p0 0),(13,dd st),(15,dd m),(1,dd x)]
theorem zZr{d:H}{ch:UInt8}{cs:Cs}(D:Vw zN hb d c [(p0,oF 0 0)])(Y:c<=2000)(Z:d.nx+2<=T.top)(E:Sl d u 1 last.length (zV last))(row:Row cs n (List.replicate n (V.int .u8 0)))(r:s[b]? = some ch)(C:s.length<=1500)(F:n<=131072)(hs:Has tm [(22,dd 0),(14,dd n),(21,.slice d.nx 0 n (.exact n)),(0,.str s),(16,dd b),(20,u),(11,.ptr p0 0)])(G:F31 Q hb p0 ⟨List.replicate n ch,some last,(b+1:Nat),0,0⟩){K:St->Prop}{R:Ud}(I:∀g h',Wf yu zPG ⟨231,g,[],h'⟩ Q->K ⟨231,g,[],h'⟩):
  wpC P zB false (.loop zNS) ⟨231,tm,[],d.new (Zf cs)⟩ λe s1=>(thenC K R) (exitB 1 e) s1:=by
 have J:b<s.length:=(List.getElem?_eq_some_iff.1 r).1;have W0:=(Vw.nil (S:=zN) (h:=d)).new (h':=d.new (Zf cs)) rfl oy;refine wpC.round (λk tm h'=>∃(i:Nat) (cs:Cs),i<=n/\k=n-i/\Vw zN d h' 1 [(d.nx,Zf cs)]/\Row cs n (bys (List.replicate i ch)++List.replicate (n-i) (V.int .u8 0)) /\
  Has tm [(22,dd i),(14,dd n),(21,.slice d.nx 0 n (.exact n)),(0,.str s),(16,dd b),(20,u),(11,.ptr p0 0)]) n ⟨0,cs,oy,oy,W0,row,hs.sub da⟩ ?_
 clear hs W0 row;rintro k tm h' ⟨i,cs,w,rfl,W,row,hs⟩;have tW:=W.top;refine wpC.av hs zWq rfl rfl ⟨λL=>?_,λL=>hs.on λg j=>?_⟩
 .have hi:i<n:=oy
  obtain⟨M,A,N,o,W2,n4⟩:=W.set (cx:=zB) 0 (e:=5) (u:=.int .u8 (ch.toNat:Nat)) row rfl oy hi ty5 rfl rfl rfl rfl;rw[zRX hi]at o;refine⟨_,yR r,d.nx,i,jx zBa rfl ty5 rfl hi,M,N,hs.on λg j=>⟨rfl,rfl,n-(i+1),oy,i+1,A,oy,rfl,W2,o,?_⟩⟩;try dsimp only
  rw[<-xP];exact j.sub da
 have hi:i=n:=oy
 subst hi;rw[Nat.sub_self,List.replicate_zero,List.append_nil]at row;have w':=D.ext W.ex0;have O:=E.ext W.ex0;refine thenC.left (I g h' (wpS.av j zXZ rfl rfl ?_));have U:zG ((b:Int)+1)=((b+1:Nat):Int):=xP;have go:∃p,zZ zB 26 h' (.ptr p0 0) (.agg [(dd (0:Int)),(dd (0:Int))])=some p/\∀a,Has a [(8,.str (List.replicate i ch)),(9,u),(10,dd (b+1:Nat)),(11,.ptr p0 0)]->Q .ret ⟨231,a,[],p⟩:=by
  obtain⟨p,y,B,n2,X⟩:=w'.st (cx:=zB) 0 (t:=26) (f:=0) (u:=.agg [dd 0,dd 0]) (cs':=.ls [dd 0,dd 0]) rfl oy zd rfl;refine⟨p,y,λa l=>G a p u l (B.ldA 0 rfl zd rfl) (B.ex0.mono oy) (Sl.same O (λq=>?_) oy)⟩;by_cases c2:q=p0
  .subst c2;rw[B.get 0 rfl,w'.get 0 rfl];rfl
  exact X q c2
 obtain⟨p,y,go⟩:=go;try dsimp only
 rw[U];by_cases w:i=0
 .subst w;exact XC (W.get 0 rfl) ⟨p,y,j.on λa l=>go a (l.sub da)⟩
 have sl:=row.sl (W.lt 0 rfl) (W.get 0 rfl) (cp:=.exact i);have hl:(List.replicate i ch).length=i:=List.length_replicate;have sl2:Sl h' (.slice d.nx 0 i (.exact i)) 1 (List.replicate i ch).length (bys (List.replicate i ch)):=by rw[hl];exact sl
 exact Oh sl2 oy ⟨p,y,j.on λa l=>go a (l.sub da)⟩
theorem zW4(w:Vw zN hb h c [(p0,oF 0 0)])(hc:c<=100)(N:Sls h v last)(E:last.length<=1000)(P:last.length≠0->wW last=0)(hk:k<4)(R:st=1\/st=4\/k<2)(j:b+Ze k n m<=s.length)(l:s.length<=1500)(r:n<=131072)(hn:h.nx+65010<=T.top)(F:hb.low<=T.top)(hs:Has tm (zJs p0 v s k st n m b x))(i:F31 Q hb p0 (lrD s x last k st n m b)):Wf yu KE ⟨231,tm,[],h⟩ Q:=by
 obtain⟨h1,S,u,G,U,H,I,_⟩:=zW2 N;have p:=w.ext H;have t3:=H.top;have J:=N.ext H;refine wpS.av hs zTc rfl rfl ⟨_,h1,S,trivial,u,G,U,λV=>?_,λV=>⟨λD=>?_,λD=>?_⟩⟩
 .have y:k=0:=oy
  have A:Ze k n m=n:=by unfold Ze;rw[if_pos y]
  rw[A]at j;unfold lrD at i;rw[if_pos y]at i;have W:zG ((b:Int)+n)=((b+n:Nat):Int):=by rw[zD oy oy];omega
  try dsimp only
  rw[W];obtain⟨O,X,K,n5,k5⟩:=p.st (cx:=zB) 0 (t:=26) (f:=0) (u:=.agg [dd 0,dd 0]) (cs':=.ls [dd 0,dd 0]) rfl oy zd rfl;refine⟨_,xN oy j,O,X,hs.on λg a=>i g O u (a.sub da) (K.ldA 0 rfl zd rfl) (K.ex0.mono oy) (Sl.same I (λq=>?_) oy)⟩;by_cases D:q=p0
  .subst D;rw[K.get 0 rfl,p.get 0 rfl];rfl
  exact k5 q D
 .have B:k=1:=oy
  have A:Ze k n m=1:=by unfold Ze;rw[if_neg oy,if_pos B]
  rw[A]at j;have C:s[b]? = some s[b]:=oU oy;unfold lrD at i;rw[if_neg oy,if_pos B,C]at i;obtain⟨cs,em,row⟩:=Row.make (cx:=zB) (h:=G) (k:=n) zBa rfl ty5 rfl rfl rfl oy (by show 1*n<=_;omega) oy;exact⟨_,_,em,hs.on λg a=>zZr p oy oy I row C l r (a.sub da) (F31.exitB i.slt) λ_ _ q=>q⟩
 unfold lrD at i;rw[if_neg oy,if_neg oy]at i;have A:Ze k n m=m:=by unfold Ze;rw[if_neg oy,if_neg oy]
 rw[A]at j;have go:∀o,¬(k=3/\last.length=0)->Has o ((140,.bool false)::zEG p0 u v s k st n m b x)->Wf yu zCR ⟨231,o,[],G⟩ (thenC (sealK yu λs1=>Wf yu KD s1 (zp yu Q)) (zp yu Q)):=λo d L=>by rw[if_neg d]at i;exact zU8 (t:=false) p oy oy L (λe=>by cases e) λ_ g a=>thenC.nx (a.sealK λY M=>zW3 (v:=v) p oy I E (λe=>P oy) j l oy r oy F (M.sub da) i.slt)
 refine⟨λZ=>⟨_,J.1.len z7 rfl,λc4=>hs.on λg a=>?_,λc4=>hs.on λg a=>go g oy (a.sub da)⟩,λZ=>hs.on λg a=>go g oy (a.sub da)⟩;rw[if_pos ⟨oy,oy⟩]at i;exact zU8 (u:=u) (v:=v) (s:=s) (k:=k) (st:=st) (n:=n) (m:=m) (b:=b) (x:=x) (t:=true) p oy oy (a.sub da) (λ_=>i.slt.thenC) λe=>by cases e
end
end Go.Proofs.YtnpeieeomokomaaGreat
namespace Go.Proofs.YtnpeieeomokomaaGreat
open Go.Sim
variable {h:H}{Q:Uc}
section
variable {Q:Ud}{hb h:H}{c p0:Nat}{s:Ua}{x most:Int}{last:Ub}{k st n m b z:Nat}{u v:V}{tm:Tm}
abbrev zVZ(p0:Nat)(v:V)(s:Ua)(k st n m b x most z:Int):Kn:=(3,dd most)::(19,dd z)::zJs p0 v s k st n m b x
theorem zU7{t:Bool}(w:Vw zN hb h c [(p0,oF 0 0)])(f:c<=3000)(g:h.nx+1<=T.top)(hs:Has tm ((89,.bool t)::zJs p0 v s k st n m b x))(j:t=true->F31 Q hb p0 (Zg 20 x))(l:t=false->∀e,Has e (zJs p0 v s k st n m b x)->Q .normal ⟨231,e,[],h⟩):Wf yu zCQ ⟨231,tm,[],h⟩ Q:=by
 refine wpS.av hs zXY rfl rfl ?_;cases t with
 | true=>exact KZ (i:=0) w rfl g λo p q=>hs.on λa d=>j rfl a o .nilslice (d.sub da) p (q.mono f) rfl
 | false=>exact hs.on λa d=>l rfl a (d.sub da)
theorem zW5(w:Vw zN hb h c [(p0,oF 0 0)])(D:c<=100)(E:Sls h v last)(o:last.length<=1000)(F:last.length≠0->wW last=0)(G:k<4)(p:st=1\/st=4\/k<2)(B:b<=s.length)(i:s.length<=1500)(H:most<=131072)(I:h.nx+65010<=T.top)(q:hb.low<=T.top)(hs:Has tm (zVZ p0 v s k st n m b x most (Ze k n m:Nat)))(l:F31 Q hb p0 (if most<n\/s.length<b+Ze k n m then Zg 20 x else lrD s x last k st n m b)):Wf yu zA5 ⟨231,tm,[],h⟩ Q:=by
 have J:zG (Int.ofNat s.length-(b:Int))=(s.length:Int)-b:=zD (by show _<=(s.length:Int)-b;omega) (by show(s.length:Int)-b<_;omega);have j:∀g,(most<n\/s.length<b+Ze k n m)->Has g ((89,.bool true)::zJs p0 v s k st n m b x)->Wf yu zCQ ⟨231,g,[],h⟩ (thenC (sealK yu λs1=>Wf yu KE s1 (zp yu Q)) (zp yu Q)):=λg d r=>by rw[if_pos d]at l;exact zU7 (t:=true) w oy oy r (λ_=>l.slt.thenC) λe=>by cases e
 refine wpS.av hs zTd rfl rfl ⟨λC=>hs.on λf a=>j f (.inl C) (a.sub da),λC=>?_⟩;try dsimp only
 rw[J];refine⟨λK=>hs.on λf a=>j f (.inr oy) (a.sub da),λK=>hs.on λf a=>?_⟩;rw[if_neg oy]at l;exact zU7 (k:=k) (st:=st) (n:=n) (m:=m) (b:=b) (x:=x) (v:=v) (s:=s) (t:=false) w oy oy (a.sub da) (λe=>by cases e) λ_ L y=>thenC.nx (y.sealK λwH A=>zW4 w D E o F G p oy i oy I q (A.sub da) l.slt)
theorem zOB(w:Vw zN hb h c [(p0,oF 0 0)])(r:c<=100)(t:Sls h v last)(j:last.length<=1000)(A:last.length≠0->wW last=0)(B:k<4)(l:st=1\/st=4\/k<2)(f:b<=s.length)(g:s.length<=1500)(o:most<=131072)(C:h.nx+65010<=T.top)(p:hb.low<=T.top)(D:z=if k=0 then n else m)(hs:Has tm (zVZ p0 v s k st n m b x most z))(E:F31 Q hb p0 (if most<n\/s.length<b+Ze k n m then Zg 20 x else lrD s x last k st n m b)):Wf yu zDh ⟨231,tm,[],h⟩ Q:=by
 have go:∀(y:Nat) a,y=Ze k n m->Has a (zVZ p0 v s k st n m b x most y)->Wf yu zA5 ⟨231,a,[],h⟩ (zp yu Q):=λy a F q=>by subst F;exact zW5 w r t j A B l f g o C p q E.slt
 refine wpS.av hs zTe rfl rfl ⟨λG=>hs.on λd e=>go 1 d (by unfold Ze;rw[if_neg oy,if_pos oy]) (e.sub da),λG=>hs.on λd e=>go z d ?_ (e.sub da)⟩;unfold Ze;rw[D];by_cases i:k=0
 .rw[if_pos i,if_pos i]
 rw[if_neg i,if_neg i,if_neg oy]
abbrev zV0(p0:Nat)(v:V)(s:Ua)(k st n m b x most:Int):Kn:=(3,dd most)::zJs p0 v s k st n m b x
theorem zW6(w:Vw zN hb h c [(p0,oF 0 0)])(B:c<=100)(y:Sls h v last)(f:last.length<=1000)(C:k<4)(o:st=1\/st=4\/k<2)(d:b<=s.length)(e:s.length<=1500)(p:most<=131072)(D:h.nx+65010<=T.top)(q:hb.low<=T.top)(hs:Has tm (zV0 p0 v s k st n m b x most))(r:F31 Q hb p0 (if last.length≠0/\wW last≠0 then Zg (wW last) 0 else if most<n\/s.length<b+Ze k n m then Zg 20 x else lrD s x last k st n m b)):Wf yu zA6 ⟨231,tm,[],h⟩ Q:=by
 refine wpS.av hs zTf rfl rfl (zQy y.1 f ⟨_,rfl,λl=>?_,λl=>?_⟩)
 .by_cases t:last.length=0
  .rw[if_pos t]at l;exact absurd rfl l
  rw[if_neg t]at l ⊢;rw[if_pos ⟨t,l⟩]at r;exact KZ (i:=0) w rfl oy λE F G=>hs.on λj a=>r j E .nilslice (a.sub da) F (G.mono oy) rfl
 have A:last.length≠0->wW last=0:=λt=>by rw[if_neg t]at l;omega
 rw[if_neg λg=>g.2 (A g.1)]at r;exact⟨λH=>hs.on λj a=>zOB (z:=n) w B y f A C o d e p D q (by rw[if_pos oy]) (a.sub da) r.slt,λH=>hs.on λj a=>zOB (z:=m) w B y f A C o d e p D q (by rw[if_neg oy]) (a.sub da) r.slt⟩
theorem zOA{t:Bool}(w:Vw zN hb h c [(p0,oF 0 0)])(f:c<=3000)(g:h.nx+1<=T.top)(hs:Has tm ((57,.bool t)::zV0 p0 v s k st n m b x most))(j:t=true->F31 Q hb p0 (Zg 2 0))(l:t=false->∀e,Has e (zV0 p0 v s k st n m b x most)->Q .normal ⟨231,e,[],h⟩):Wf yu zFg ⟨231,tm,[],h⟩ Q:=by
 refine wpS.av hs zXX rfl rfl ?_;cases t with
 | true=>exact KZ (i:=0) w rfl g λo p q=>hs.on λa d=>j rfl a o .nilslice (d.sub da) p (q.mono f) rfl
 | false=>exact hs.on λa d=>l rfl a (d.sub da)
end
theorem zDW{s:Ua}{x most:Int}{v:V}{last:Ub}(D:Sls h v last)(E:last.length<=1000)(r:s.length<=1500)(hn:h.nx+65100<=T.top)(w:h.low<=T.top)(B:∀h' v',Ext h h' 3000->nxOk h' v' (Jq s x last most).nx->Q (.tuple [.str (Jq s x last most).out,v',dd (Jq s x last most).fin,.agg [dd (Jq s x last most).e,dd (Jq s x last most).y]]) h'):RF P zB 31 [.str s,dd x,v,dd most] h Q:=by
 refine yU z3r ⟨oy,?_⟩;rintro p0 h1 rfl W;have G:=(Vw.nil (S:=zN) (h:=h)).new W oy;have t1:=G.top;refine zDl oy ?_;rcases zFv s x last most with⟨e,y,X,hr,o⟩|⟨k,st,n,m,b,Y,H,Z,hm0,z,hx0,hx1,hr,o⟩
 .rw[hr];rw[o]at B;refine⟨_,_,_,_,_,_,_,rfl,oy,?_⟩;rintro I J rfl p;have c:=G.new p oy;have K:=c.top;obtain⟨j,q,a,L,_⟩:=c.st (cx:=zB) 0 (t:=26) (f:=0) (u:=.agg [dd e,dd y]) (cs':=.ls [dd e,dd y]) rfl oy zd rfl;refine⟨j,q,e,a.ld1 0 rfl yh rfl,λl=>⟨e,a.ld1 0 rfl yh rfl,y,a.ld1 0 rfl zm rfl,?_⟩,λl=>absurd X l⟩;exact KZ (i:=1) a rfl oy λM N O=>endL.ok (leaveL.tmp (leaveL.tmp (leaveL.tmp (leaveL.cell N rfl)))) (B M .nilslice (O.mono oy) rfl)
 rw[hr];rw[o]at B;refine⟨_,_,_,_,_,_,_,rfl,oy,?_⟩;rintro I J rfl p;have c:=G.new p oy;have K:=c.top;obtain⟨j,q,a,L,_⟩:=c.st (cx:=zB) 0 (t:=26) (f:=0) (u:=.agg [dd 0,dd 0]) (cs':=.ls [dd 0,dd 0]) rfl oy zd rfl;have d:Vw zN h j 2 [(h.nx,oF 0 0)]:=a.drop 1;have F:F31 (endW zB ⟨231,[.tmp 8,.tmp 9,.tmp 10,.cell 11 26],bf 31⟩ Q) h h.nx (lrB s x last most k st n m b):=λtm h' v' hs ha hx D =>
  endW.ok (leave.tmp (hs.get (t:=8) rfl) (leave.tmp (hs.get (t:=9) rfl) (leave.tmp (hs.get (t:=10) rfl) (leave.cell (hs.get (t:=11) rfl) ha rfl)))) (B h' v' hx D)
 refine⟨j,q,0,a.ld1 0 rfl yh rfl,λl=>absurd rfl l,λ_=>?_⟩;unfold lrB at F;by_cases cm:most<0\/131072<most
 .rw[if_pos cm]at F;refine⟨λl=>Has.nil.on λA g=>?_,λl=>⟨λC=>Has.nil.on λA g=>?_,λC=>?_⟩⟩
  .exact zOA (v:=v) (s:=s) (k:=k) (st:=st) (n:=n) (m:=m) (b:=b) (x:=x) (most:=most) (t:=true) d oy oy (g.sub da) (λ_=>F.thenC) (λe=>by cases e)
  .exact zOA (v:=v) (s:=s) (k:=k) (st:=st) (n:=n) (m:=m) (b:=b) (x:=x) (most:=most) (t:=true) d oy oy (g.sub da) (λ_=>F.thenC) (λe=>by cases e)
  omega
 rw[if_neg cm]at F;refine⟨λl=>absurd (Or.inl l) cm,λl=>⟨λC=>absurd (Or.inr C) cm,λC=>Has.nil.on λA g=>?_⟩⟩;exact zOA (v:=v) (s:=s) (k:=k) (st:=st) (n:=n) (m:=m) (b:=b) (x:=x) (most:=most) (t:=false) d oy oy (g.sub da) (λe=>by cases e) λ_ tm2 R =>
  thenC.nx (R.sealK λtm3 U=>zW6 d oy (D.ext d.ex0) E Y H z r oy oy w (U.sub da) F)
end Go.Proofs.YtnpeieeomokomaaGreat
