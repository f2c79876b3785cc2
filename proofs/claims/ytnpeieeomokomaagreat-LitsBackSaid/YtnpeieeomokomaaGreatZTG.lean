/- TG. No condition. -/
import Derived.Test.YtnpeieeomokomaaGreatZTE
import Derived.Test.YtnpeieeomokomaaGreatZTA
import Derived.Test.YtnpeieeomokomaaGreatZTC
set_option maxRecDepth 100000
set_option maxHeartbeats 4000000
namespace Go.Proofs.YtnpeieeomokomaaGreat
open Go.Sim
variable {h:H}{Q:Uc}
theorem RO{s:Ua}{x:Nat}(h1:x<=s.length):zw zB 9 h (.str s) (some (dh (x:Nat))) none none=some (.str (s.drop x)):=by
 have:=kV (s:=s) (h:=h) h1 (oR _);have e:zS s x s.length=s.drop x:=by unfold zS;rw[List.take_of_length_le (by rw[List.length_drop];exact oR _)]
 rw[e]at this;rw[<-this];unfold zw;have a:YP s 0=s.length:=by rw[yl];omega
 simp only[xk,Go.Sim.bnd,a];have b:ya ((s.length:Nat):Int)=some s.length:=rfl;simp only[b,oE (oR s.length),oN]
structure Inn where
 l:Ub
 e:Int
 fat:Nat
def yw(b:Ua):Inn:=match xy b 6 12 with
 | none=>⟨[],if JB b 6 then 31 else 23,0⟩
 | some (log,l,p)=>if (wg log l (b.drop ((p+7)/8))).1≠0 then ⟨[],(wg log l (b.drop ((p+7)/8))).1,(p+7)/8⟩ else ⟨(wg log l (b.drop ((p+7)/8))).2,0,0⟩
theorem Ht{b:Ua}(hb:b.length<=2000)(hn:h.nx+1600<=T.top)(hlow:h.low<=T.top)(L:∀h' v',Ext h h' 1500->Ow h' v' yg (yw b).l.length (zI (yw b).l)->(∀j,z6 v'=some j->h.nx<=j)->Q (.tuple [v',NU (yw b).e ((yw b).fat:Nat)]) h'):RF P zB 40 [.str b] h Q:=by
 generalize hR:yw b=R at L;unfold yw at hR;refine zh L40 zIo ⟨dd,?_⟩;rintro p0 h1 rfl e1;have M:=(Vw.nil (S:=zH) (h:=h)).new e1 dd;have t1:=M.top;have l1:=M.low;have n1:h1.nx=h.nx+1:=by rw[e1,zC]
 refine VN hb dd dd (λN h3 O=>⟨_,_,_,_,_,rfl,?_⟩) (λlog l p v h3 N O w hv hp hl=>⟨_,_,_,_,_,rfl,?_⟩)
 .rw[N]at hR;simp only at hR;have C:=M.ext O;have t3:=C.top;refine⟨dd,?_⟩;rintro p9 U rfl r;have k:=C.new r dd;have V:=k.top;obtain⟨s,x,m,W,_⟩:=k.st (cx:=zB) 0 (f:=0) (u:=.agg [dh 0,.nilslice]) rfl dd xE rfl;have X:=m.top;obtain⟨d,y,g,Y,_⟩:=m.st (cx:=zB) 1 (f:=0) (u:=.agg [dh (if JB b 6 then 31 else 23),dh 0]) rfl dd zp rfl;have Z:=g.low;have t12:=g.top;obtain⟨D,e16,E,n16,_⟩:=g.st (cx:=zB) 1 (f:=0) (u:=.agg [dh (if JB b 6 then 31 else 23),dh 0]) rfl dd zp rfl;have hne:(if JB b 6 then (31:Int) else 23)≠0:=by split<;>decide
  refine⟨s,x,d,y,_,g.ld1 1 rfl kK rfl,λ_=>⟨de,⟨dd,dd⟩,_,_,g.ldA 1 rfl zp rfl,D,e16,endL.ok (leaveL.cell (a:=3) (E.ldA 1 rfl zp rfl) rfl) ?_⟩,λq=>absurd hne q⟩;have:=L D .nilslice (E.ex0.mono dd);rw[<-hR]at this;exact this (Ow.nil _ _) λj i=>(by cases i)
 rw[N]at hR;simp only at hR;have hg:=XF N;have C:=M.ext O;have t3:=C.top;refine⟨dd,?_⟩;rintro p9 U rfl r;obtain⟨_,x10,_⟩:=zm r;have k:=C.new r dd;have V:=k.top;obtain⟨s,x,m,W,k11⟩:=k.st (cx:=zB) 0 (f:=0) (u:=.agg [dh (log:Nat),v]) (cs':=.ls [dh (log:Nat),v]) rfl dd xE rfl rfl (oM _) (yP.2 λu hu=>by
  rcases oq.1 hu with rfl|hu
  .rfl
  exact yP.1 w.one1.2 u hu)
 have F:=(w.ext x10).keep (h':=s) dd λj i=>k11 j (by have:=w.blk i;omega)
 have X:=m.top;obtain⟨d,y,g,Y,k12⟩:=m.st (cx:=zB) 1 (f:=0) (u:=.agg [dh 0,dh 0]) rfl dd zp rfl;have G:=F.keep (h':=d) dd λj i=>k12 j (by have:=hv j i;omega)
 have Z:=g.low;have t12:=g.top;have sT:Sl (z8 d) v 1 l.length (zI l):=G.sl;refine⟨s,x,d,y,_,g.ld1 1 rfl kK rfl,λq=>absurd rfl q,λ_=>⟨de,⟨dd,dd⟩,_,_,g.ldA 0 rfl xE rfl,_,RO dd,?_⟩⟩;refine RE sT hg (by rw[List.length_drop];omega) (show d.nx+1300<=T.top by omega) (oR _) λh21 H I J t=>⟨_,_,rfl,?_⟩
 have xd:=Ext.drawn I dd;have t21:=I.top;refine⟨show h21.nx<=T.top by have:(z8 d).nx=d.nx:=rfl;omega,?_⟩;intro h24 z;have K:Ow h24 H yg (wg log l (b.drop ((p+7)/8))).2.length (zI (wg log l (b.drop ((p+7)/8))).2):=by rw[z];exact J
 rw[<-z]at xd;have A:=g.ext xd.2;have t24:=A.top;clear z;refine⟨λc=>?_,λc=>?_⟩
 .rw[if_pos c]at hR;obtain⟨n,B,o,n25,_⟩:=A.st (cx:=zB) 1 (f:=0) (u:=.agg [dh (wg log l (b.drop ((p+7)/8))).1,dh ((p+7)/8:Nat)]) rfl dd zp rfl;refine⟨n,B,endL.ok (leaveL.cell (a:=3) (o.ldA 1 rfl zp rfl) rfl) ?_⟩;have:=L n .nilslice (o.ex0.mono dd);rw[<-hR]at this;exact this (Ow.nil _ _) λj i=>(by cases i)
 rw[if_neg c]at hR;obtain⟨n,B,o,n25,k25⟩:=A.st (cx:=zB) 1 (f:=0) (u:=.agg [dh 0,dh 0]) rfl dd zp rfl;refine⟨n,B,endL.ok (leaveL.cell (a:=3) (o.ldA 1 rfl zp rfl) rfl) ?_⟩;have:=L n H (o.ex0.mono dd);rw[<-hR]at this;have hle:h.nx<d.nx:=g.lt 1 rfl;exact this (K.keep dd λj i=>k25 j (by have:=t j i;have e:(z8 d).nx=d.nx:=rfl;omega)) λj i=>by have:=t j i;have e:(z8 d).nx=d.nx:=rfl;omega
abbrev jb(x:Int):O:=.cells (.ls [dh x]) ⟨0,3+1,0⟩ true false
theorem zB2{hb h:H}{c a b e p:Nat}{q:O}{v:V}{n x y:Int}{tm:Tm}{d:List AD}{Q:Ud}(w:Vw zH hb h c [(p,q),(e,IY x y),(b,jb n),(a,Ya v)])(j:v.cells=[v]/\zU [v]=true)(hs:Has tm [(4,.ptr a 0),(5,.ptr b 0),(6,.ptr e 0)])(r:h.nx<=T.top)(hl:h.low<=T.top)(s:∀g h',Has g [(4,.ptr a 0),(5,.ptr b 0),(6,.ptr e 0)]->Vw zH hb h' c [(p,q),(e,IY x y),(b,jb n),(a,Ya v)]->h'.nx=h.nx->(∀i,i≠a->i≠b->i≠e->h'.get i=h.get i)->Q .ret ⟨80,g,d,h'⟩):
  Wf Pb AI ⟨80,tm,d,h⟩ Q:=by
 have k:a≠b:=Nat.ne_of_lt (w.bk.2.2.2.2.2.2.2.2.2.1);have l:b≠e:=Nat.ne_of_lt (w.bk.2.2.2.2.2.2.1);have m:a≠e:=Nat.ne_of_lt (Nat.lt_trans (w.bk.2.2.2.2.2.2.2.2.2.1) (w.bk.2.2.2.2.2.2.1));obtain⟨t,z,A,n1,B⟩:=w.st (cx:=zB) 3 (f:=0) (u:=v) (cs':=.ls [v]) rfl r zM (by rw[j.1];rfl) (by rw[j.1];rfl) (oM _) (by rw[j.1];exact j.2);obtain⟨h2,C,D,M,E⟩:=A.st (cx:=zB) 2 (f:=0) (u:=dh n) rfl dd zX rfl;obtain⟨h3,F,G,N,I⟩:=D.st (cx:=zB) 1 (f:=0) (u:=.agg [dh x,dh y]) rfl dd zp rfl;exact sg hs ⟨de,⟨r,hl⟩,_,w.ld1 3 rfl zM rfl,_,w.ld1 2 rfl zX rfl,_,_,w.ldA 1 rfl zp rfl,k,m,t,z,l,h2,C,h3,F,λg o=>s g h3 o G dd λi J K L=>by rw[I i L,E i K,B i J]⟩
theorem VJ{hb h:H}{c a b e d:Nat}{v:V}{n x y sh:Int}{k:H->Prop}(w:Vw zH hb h c [(d,jb sh),(e,IY x y),(b,jb n),(a,Ya v)])(g:x≠0->∀h',Vw zH hb h' c [(d,jb sh),(e,IY x (zb (y+sh))),(b,jb 0),(a,Ya .nilslice)]->h'.nx=h.nx->k h')(i:x=0->k h)(p:h.nx<=T.top:=by omega):RV P zB 80 38 [.ptr e 0,.ptr a 0,.ptr b 0,.ptr d 0] h k:=by refine⟨_,zIm,ble _ _ rfl,ble _ _ rfl,dg,?_⟩;obtain⟨h3,q,r,A,_⟩:=w.st (cx:=zB) 3 (f:=0) (u:=.nilslice) rfl p zM rfl;obtain⟨h4,s,j,n4,_⟩:=r.st (cx:=zB) 2 (f:=0) (u:=dh 0) rfl dd zX rfl;obtain⟨m,t,z,B,_⟩:=j.st (cx:=zB) 1 (f:=0+1) (u:=dh (zb (y+sh))) rfl dd zX rfl;exact cg L38 (l:=[(3,.ptr d 0),(2,.ptr b 0),(1,.ptr a 0),(0,.ptr e 0)]) ⟨de,de,de,de,trivial⟩ ⟨x,w.ld1 1 rfl kK rfl,λo=>⟨h3,q,h4,s,y,j.ld1 1 rfl zX rfl,sh,j.ld1 0 rfl zX rfl,m,t,λ_ _=>⟨rfl,g o m z dd⟩⟩,λo _ _=>⟨rfl,i dd⟩⟩
theorem ZP(b:Ua)(a fin:Nat):W6 b a fin=if (yw b).e≠0 then ⟨[],0,(yw b).e,((a+1+(yw b).fat:Nat):Int)⟩ else if qD (yw b).l=0 then ⟨(yw b).l,fin,0,0⟩ else ⟨[],0,21,a⟩:=by
 unfold W6 yw;cases h:xy b 6 12 with
 | none =>
  simp only;by_cases ha:JB b 6
  .simp only[if_pos ha];rfl
  simp only[if_neg ha];rfl
 | some x =>
  obtain⟨log,l,p⟩:=x;simp only;generalize wg log l (b.drop ((p+7)/8))=t;obtain⟨e,r⟩:=t;by_cases c:e≠0
  .simp only[if_pos c];congr 1
  have:e=0:=dd
  subst this;rfl
theorem W8(b:Ua):(yw b).l.length<=255:=by
 unfold yw;split
 .simp
 rename_i log l p hd;split
 .simp
 exact(Wb (XF hd)).2
theorem W7{b:Ua}:(yw b).fat<=b.length+1:=by
 unfold yw;rcases h:xy b 6 12 with _|⟨log,l,p⟩
 .simp
 have hp:p<=8*b.length:=by
  unfold xy at h;split at h
  .cases h
  split at h
  .cases h
  rcases hr:yn b 12 (12+2) (2^(yB b 0 4+5)) 4 [] with _|y
  .rw[hr]at h;cases h
  rw[hr]at h;simp only[ol,oA,oB]at h;obtain⟨_,_,rfl⟩:=h;have key:∀{f left p:Nat}{l r:Ub}{q:Nat},yn b 12 f left p l=some (r,q)->p<=8*b.length->q<=8*b.length:=by
   intro f;induction f with
   | zero=>intro left p l r q h;cases h
   | succ f ih =>
    intro left p l r q h hp;unfold yn at h;split at h
    .cases h;exact hp
    rename_i i;rcases a:qw b left p with _|⟨v,j⟩
    .rw[a]at h;cases h
    rw[a]at h;have c:=(vo a).2;simp only at h;split at h
    .cases h
    split at h
    .rcases d:yo b 12 (12+1) j (l.length+1) with _|⟨n,k⟩
     .rw[d]at h;cases h
     rw[d]at h;have e:∀{f p n m q:Nat},yo b 12 f p n=some (m,q)->q<=8*b.length:=by
      intro f;induction f with
      | zero=>intro p n m q h;cases h
      | succ f ih =>
       intro p n m q h;unfold yo at h;split at h
       .cases h
       split at h
       .cases h
       split at h
       .exact ih h
       cases h;omega
     exact ih h (e d)
    exact ih h c
  rename_i g _;exact key hr dd
 simp only;split
 .show(p+7)/8<=_;omega
 show 0<=_;omega
theorem TY{s:Ua}{at':Int}(hs:s.length<=1500)(hn:h.nx+2100<=T.top)(hlow:h.low<=T.top)(hq:∀h' v',Ext h h' 2000->Ow h' v' yg (yM s at').l.length (zI (yM s at').l)->(∀b,z6 v'=some b->h.nx<=b)->Q (.tuple [v',dh ((yM s at').nx:Nat),NU (yM s at').e (yM s at').fat]) h'):
  RF P zB 10 [.str s,dh at'] h Q:=by
 generalize k:yM s at'=R at hq;unfold yM at k;refine zG5 Pb zI8 ⟨rfl,dd,?_⟩;rintro p0 l rfl e1;have w1:=(Vw.nil (S:=zH) (h:=h)).new e1 dd;have t1:=w1.top;refine⟨rfl,dd,?_⟩;rintro p2 h3 rfl e3;have w3:=w1.new e3 dd;have t3:=w3.top;refine⟨dd,?_⟩;rintro p4 C rfl e5;have w5:=w3.new e5 dd;have t5:=w5.top;have l5:=w5.low;have out:∀(tm:Tm) (h':H) (v:V),Vw zH h h' 2000 [(h3.nx,IY R.e R.fat),(l.nx,jb (R.nx:Nat)),(h.nx,Ya v)]->Ow h' v yg R.l.length (zI R.l)->(∀b,z6 v=some b->h.nx<=b)->Has tm [(4,.ptr h.nx 0),(5,.ptr l.nx 0),(6,.ptr h3.nx 0)] ->
   ∃vs,leave zB [.cell 4 23,.cell 5 3,.cell 6 26] tm h' [.cell 4 23,.cell 5 3,.cell 6 26] []=some vs/\Q (yC vs) h':=λtm h' v w ow hv hs =>
  ⟨_,leave.cell (hs.get rfl) (w.ld1 2 rfl zM rfl) (leave.cell (hs.get rfl) (w.ld1 1 rfl zX rfl) (leave.cell (hs.get rfl) (w.ldA 0 rfl zp rfl) rfl)),hq h' v w.ex0 ow hv⟩
 have M:∀(e fat:Int) (h2:H) (c:Nat) (g:List (Nat×O)) (x y n:Int) (v:V),Vw zH h h2 c (g++[(h3.nx,IY x y),(l.nx,jb n),(h.nx,Ya v)])->g.length<=1->c<=2000->h2.nx<=T.top->∃N r G,jP zB 23 h2 (.ptr h.nx 0) .nilslice=some N/\jP zB 3 N (.ptr l.nx 0) (dh 0)=some r/\jP zB 26 r (.ptr h3.nx 0) (.agg [dh e,dh fat])=some G /\
   Vw zH h G c (g++[(h3.nx,IY e fat),(l.nx,jb 0),(h.nx,Ya .nilslice)])/\G.nx=h2.nx:=by
  intro e fat h2 c g x y n v w hr hc ht;rcases g with _|⟨p,g⟩
  .obtain⟨N,e6,w6,n6,_⟩:=w.st (cx:=zB) 2 (f:=0) (u:=.nilslice) rfl ht zM rfl;obtain⟨r,e7,L,n7,_⟩:=w6.st (cx:=zB) 1 (f:=0) (u:=dh 0) rfl dd zX rfl;obtain⟨G,e8,w8,n8,_⟩:=L.st (cx:=zB) 0 (f:=0) (u:=.agg [dh e,dh fat]) rfl dd zp rfl;exact⟨N,r,G,e6,e7,e8,w8,dd⟩
  rcases g with _|⟨p2,g⟩
  .obtain⟨N,e6,w6,n6,_⟩:=w.st (cx:=zB) 3 (f:=0) (u:=.nilslice) rfl ht zM rfl;obtain⟨r,e7,L,n7,_⟩:=w6.st (cx:=zB) 2 (f:=0) (u:=dh 0) rfl dd zX rfl;obtain⟨G,e8,w8,n8,_⟩:=L.st (cx:=zB) 1 (f:=0) (u:=.agg [dh e,dh fat]) rfl dd zp rfl;exact⟨N,r,G,e6,e7,e8,w8,dd⟩
  simp at hr
 have oor:(at'<0\/(s.length:Int)<at')->∀tm,Has tm [(4,.ptr h.nx 0),(5,.ptr l.nx 0),(6,.ptr h3.nx 0),(16,.bool true),(1,dh at'),(0,.str s)]->Wf Pb zGL ⟨80,tm,[],C⟩ (thenC (sealK Pb λs1=>Wf Pb zGO s1 (endW1 P zB ⟨80,[.cell 4 23,.cell 5 3,.cell 6 26],bf 10⟩ Q)) (endW1 P zB ⟨80,[.cell 4 23,.cell 5 3,.cell 6 26],bf 10⟩ Q)):=by intro c tm t;rw[if_pos c]at k;obtain⟨N,r,G,e6,e7,e8,w8,_⟩:=M 2 0 C 3 [] 0 0 0 .nilslice w5 (oM _) dd dd;refine sg t ⟨N,e6,r,e7,G,e8,λtm1 hs1=>?_⟩;subst k;obtain⟨vs,ev,D⟩:=out tm1 G .nilslice (w8.more dd) (Ow.nil _ _) (λb hb=>(by cases hb)) (hs1.sub de);exact thenC.rt (endW1.nd ev D)
 refine⟨λc=>λtm t=>oor (.inl c) tm (t.sub de),λc1=>⟨λc=>λtm t=>oor (.inr c) tm (t.sub de),λc2=>λtm t=>?_⟩⟩;have c2:¬(s.length:Int)<at':=c2;rw[if_neg dd]at k;obtain⟨a,rfl⟩:∃a:Nat,at'=a:=⟨at'.toNat,dd⟩;rw[oe]at k;refine sg t (λtm1 hs1=>thenC.nx (hs1.sealK λtm2 hs2=>?_));clear t hs1 oor;refine sg hs2 ⟨λc=>?_,λc=>⟨rfl,dd,?_⟩⟩
 .have c:(a:Int)=s.length:=c;rw[ov]at k;obtain⟨N,r,G,e6,e7,e8,w8,_⟩:=M 5 a C 3 [] 0 0 0 .nilslice w5 (oM _) dd dd;refine⟨N,e6,r,e7,G,e8,λd i=>?_⟩;subst k;obtain⟨vs,ev,D⟩:=out d G .nilslice (w8.more dd) (Ow.nil _ _) (λb hb=>(by cases hb)) (i.sub de);exact endW1.nd ev D
 have c:¬(a:Int)=s.length:=c;have hal:a<s.length:=dd
 obtain⟨z,hch⟩:∃z,s[a]? = some z:=⟨_,oQ hal⟩;have hct:=z.toNat_lt;rw[hch]at k;simp only at k;rintro p7 N rfl e6;have w6:=w5.new e6 dd;have t6:=w6.top;obtain⟨r,e7,L,n7,_⟩:=w6.st (cx:=zB) 0 (f:=0) (u:=dh 0) rfl dd zX rfl;have l7:=L.low;have E:∀(tm:Tm) (h':H) (x y sh fat:Int) (n:Int) (v:V),Vw zH h h' 2000 [(C.nx,jb sh),(h3.nx,IY x y),(l.nx,jb n),(h.nx,Ya v)]->x≠0->zb (y+sh)=fat->R=⟨[],0,x,fat⟩->Has tm [(4,.ptr h.nx 0),(5,.ptr l.nx 0),(6,.ptr h3.nx 0)] ->
   endW1 P zB ⟨80,[.cell 4 23,.cell 5 3,.cell 6 26],bf 10⟩ Q .ret ⟨80,tm,[.fn 38 [.ptr h3.nx 0,.ptr h.nx 0,.ptr l.nx 0,.ptr C.nx 0] []],h'⟩:=by
  intro tm h' x y sh fat n v w hx hf U hs;have tw:=w.top;refine endW1.df (VJ w (λ_ h'' w'' n''=>?_) λq=>absurd q hx);subst U;rw[hf]at w'';obtain⟨vs,ev,D⟩:=out tm h'' .nilslice (w''.drop 1) (Ow.nil _ _) (λb hb=>(by cases hb)) hs;exact endQ.ok ev D
 have W:∀(tm:Tm) (h':H) (sh:Int) (v:V),Vw zH h h' 2000 [(C.nx,jb sh),(h3.nx,IY 0 R.fat),(l.nx,jb (R.nx:Nat)),(h.nx,Ya v)]->R.e=0->Ow h' v yg R.l.length (zI R.l)->(∀b,z6 v=some b->h.nx<=b)->Has tm [(4,.ptr h.nx 0),(5,.ptr l.nx 0),(6,.ptr h3.nx 0)] ->
   endW1 P zB ⟨80,[.cell 4 23,.cell 5 3,.cell 6 26],bf 10⟩ Q .ret ⟨80,tm,[.fn 38 [.ptr h3.nx 0,.ptr h.nx 0,.ptr l.nx 0,.ptr C.nx 0] []],h'⟩:=by
  intro tm h' sh v w hx ow hv hs;have tw:=w.top;refine endW1.df (VJ w (λq=>absurd rfl q) λ_=>?_);rw[<-hx]at w;obtain⟨vs,ev,D⟩:=out tm h' v (w.drop 1) ow hv hs;exact endQ.ok ev D
 have ech:zb ((z.toNat:Nat):Int)=((z.toNat:Nat):Int):=IB dd;have ea1:zb ((a:Int)+1)=((a+1:Nat):Int):=by rw[zD dd dd];rfl
 have ea2:zb (((a+1:Nat):Int)+((z.toNat:Nat):Int))=((a+1+z.toNat:Nat):Int):=by rw[zD dd dd];rfl
 refine⟨r,e7,rfl,_,yj hch,λc3=>?_,λc3=>?_⟩<;>rw[ech]at c3
 ·
  rw[if_pos dd]at k;refine tD dd hch dd dd dd λG v9 x8 J hv8=>?_
  rw[k]at J ⊢;have w8:=L.ext x8;have t8:=w8.top;have hlt:C.nx<r.nx:=L.lt 0 rfl;have lt0:h.nx<r.nx:=L.lt 3 rfl;have lt1:l.nx<r.nx:=L.lt 2 rfl;have lt3:h3.nx<r.nx:=L.lt 1 rfl;obtain⟨h13,e13,w13,n13,k13⟩:=w8.st (cx:=zB) 3 (f:=0) (u:=v9) (cs':=.ls [v9]) rfl dd zM (by rw[J.one1.1];rfl) (by rw[J.one1.1];rfl) (oM _) (by rw[J.one1.1];exact J.one1.2);obtain⟨h14,e14,w14,n14,k14⟩:=w13.st (cx:=zB) 2 (f:=0) (u:=dh (R.nx:Nat)) rfl dd zX rfl;obtain⟨o,e15,j,n15,k15⟩:=w14.st (cx:=zB) 1 (f:=0) (u:=.agg [dh R.e,dh R.fat]) rfl dd zp rfl;have I:=J.keep (h':=o) dd λb hb=>by have:=hv8 b hb;rw[k15 b dd,k14 b dd,k13 b dd]
  refine⟨v9,_,_,_,rfl,h13,e13,h14,e14,o,e15,λd i=>?_⟩;by_cases ce:R.e=0
  .rw[ce]at j;exact W d o 0 v9 (j.more dd) ce I (λb hb=>by have:=hv8 b hb;omega) (i.sub de)
  have U:R=⟨[],0,R.e,R.fat⟩/\-4611686018427387904<=R.fat/\R.fat<=4611686018427387904:=by
   subst k;unfold xw at ce ⊢;split
   .exact⟨rfl,by show _<=((s.length:Nat):Int);omega,by show((s.length:Nat):Int)<=_;omega⟩
   rename_i c4;rw[if_neg c4]at ce;split
   .rename_i c5;rw[if_pos c5]at ce;exact absurd rfl ce
   exact⟨rfl,by show _<=((a:Nat):Int);omega,by show((a:Nat):Int)<=_;omega⟩
  exact E d o R.e R.fat 0 R.fat (R.nx:Nat) v9 (j.more dd) ce (by rw[Int.add_zero,zD dd dd]) U.1 (i.sub de)
 rw[if_neg dd]at k;refine⟨λc4=>?_,λc4=>?_⟩<;>rw[ech,ea1,ea2]at c4
 .have c4:(s.length:Int)<((a+1+z.toNat:Nat):Int):=c4;rw[if_pos dd]at k;obtain⟨h16,h17,h18,e16,e17,e18,w18,n18⟩:=M 5 s.length r 4 [(C.nx,jb 0)] 0 0 0 .nilslice L (oR _) dd dd;refine⟨h16,e16,h17,e17,h18,e18,λd i=>?_⟩;exact E d h18 5 s.length 0 s.length 0 .nilslice (w18.more dd) dg (by rw[Int.add_zero,zD dd dd]) k.symm (i.sub de)
 have c4:¬(s.length:Int)<((a+1+z.toNat:Nat):Int):=c4;rw[if_neg dd,ZP]at k;have hbl:((s.drop (a+1)).take z.toNat).length<=1500:=by rw[List.length_take,List.length_drop];omega
 have hbf:=W7 (b:=(s.drop (a+1)).take z.toNat);have key:∀d,Has d [(4,.ptr h.nx 0),(5,.ptr l.nx 0),(6,.ptr h3.nx 0),(1,dh a),(8,dh (z.toNat:Nat)),(0,.str s),(7,.ptr C.nx 0)] ->
   Wf Pb zGM ⟨80,d,[.fn 38 [.ptr h3.nx 0,.ptr h.nx 0,.ptr l.nx 0,.ptr C.nx 0] []],r⟩ (λe s1=>(thenC (sealK Pb λs1=>Wf Pb zGN s1 (yL Pb (endW1 P zB ⟨80,[.cell 4 23,.cell 5 3,.cell 6 26],bf 10⟩ Q))) (yL Pb (endW1 P zB ⟨80,[.cell 4 23,.cell 5 3,.cell 6 26],bf 10⟩ Q))) (exitB 0 e) s1):=by
  intro d i;obtain⟨K,e10,A,n10,_⟩:=L.st (cx:=zB) 2 (f:=0) (u:=dh (a+1+z.toNat:Nat)) rfl dd zX rfl;have l10:=A.low;have t10:=A.top;have esl:=kV (s:=s) (x:=a+1) (y:=a+1+z.toNat) (h:=K) dd dd;unfold zS at esl;rw[show a+1+z.toNat-(a+1)=z.toNat by omega]at esl;generalize (s.drop (a+1)).take z.toNat=body at k hbl hbf esl;refine sg i ⟨K,by rw[ea1,ea2];exact e10,_,A.ld1 2 rfl zX rfl,_,by rw[ea1];exact esl,?_⟩;refine(Ht dd dd dd λh11 v11 x11 m hv11=>⟨v11,_,_,rfl,?_⟩);have w11:=A.ext x11;have t11:=w11.top;have lt0:h.nx<K.nx:=A.lt 3 rfl;have lt1:l.nx<K.nx:=A.lt 2 rfl;have lt3:h3.nx<K.nx:=A.lt 1 rfl;have lt5:C.nx<K.nx:=A.lt 0 rfl;obtain⟨h13,e13,w13,n13,k13⟩:=w11.st (cx:=zB) 3 (f:=0) (u:=v11) (cs':=.ls [v11]) rfl dd zM (by rw[m.one1.1];rfl) (by rw[m.one1.1];rfl) (oM _) (by rw[m.one1.1];exact m.one1.2);obtain⟨h14,e14,w14,n14,k14⟩:=w13.st (cx:=zB) 1 (f:=0) (u:=.agg [dh (yw body).e,dh ((yw body).fat:Nat)]) rfl dd zp rfl;obtain⟨o,e15,j,n15,k15⟩:=w14.st (cx:=zB) 0 (f:=0) (u:=dh (a+1:Nat)) rfl dd zX rfl;have hvb:∀b,z6 v11=some b->b≠h.nx/\b≠l.nx/\b≠h3.nx/\b≠C.nx:=λb hb=>by have:=hv11 b hb;omega
  have I:=m.keep (h':=o) dd λb hb=>by have:=hvb b hb;rw[k15 b dd,k14 b dd,k13 b dd]
  have l15:=j.low;have t15:=j.top;refine⟨h13,e13,h14,e14,o,by rw[ea1];exact e15,λtm4 hs4=>thenC.out (hs4.sealK λtm5 hs5=>?_)⟩;refine sg hs5 ?_;have fin:∀(tm:Tm) (h2:H) (x y sh n:Int),Vw zH h h2 1600 [(C.nx,jb sh),(h3.nx,IY x y),(l.nx,jb n),(h.nx,Ya v11)]->(x≠0/\(∃fat,zb (y+sh)=fat/\R=⟨[],0,x,fat⟩)\/x=0/\y=R.fat/\n=(R.nx:Nat)/\R.e=0/\Ow h2 v11 yg R.l.length (zI R.l))->Has tm [(4,.ptr h.nx 0),(5,.ptr l.nx 0),(6,.ptr h3.nx 0)] ->
    Wf Pb AI ⟨80,tm,[.fn 38 [.ptr h3.nx 0,.ptr h.nx 0,.ptr l.nx 0,.ptr C.nx 0] []],h2⟩ (yL Pb (yL Pb (endW1 P zB ⟨80,[.cell 4 23,.cell 5 3,.cell 6 26],bf 10⟩ Q))):=by
   intro tm h2 x y sh n w hcase hs;have tw:=w.top;have lw:=w.low;refine zB2 w m.one1 hs dd dd λtm' h' hs' w' n' k'=>hs'.slt λtm6 F=>F.slt λX B=>?_
   rcases hcase with⟨hx,fat,hf,U⟩|⟨hx,hy,hnn,he,ow⟩
   .exact E X h' x y sh fat n v11 (w'.more dd) hx hf U (B.sub de)
   subst hx hy hnn;exact W X h' sh v11 (w'.more dd) he (ow.keep dd λb hb=>by have:=hvb b hb;exact k' b this.1 this.2.1 this.2.2.1) (λb hb=>by have:=hv11 b hb;omega) (B.sub de)
  refine⟨_,j.ld1 1 rfl kK rfl,λc6=>?_,λc6=>λtm6 F=>?_⟩
  .rw[if_neg (λq=>q c6)]at k;refine⟨v11,j.ld1 3 rfl zM rfl,vp I.sl (by have:=W8 body;omega) ⟨_,rfl,λc7=>λtm6 F=>?_,λc7=>λtm6 F=>?_⟩⟩
   .rw[if_neg c7]at k;obtain⟨h16,e16,w16,n16,_⟩:=j.st (cx:=zB) 1 (f:=0) (u:=.agg [dh 21,dh a]) rfl dd zp rfl;obtain⟨h17,e17,w17,n17,_⟩:=w16.st (cx:=zB) 0 (f:=0) (u:=dh 0) rfl dd zX rfl;refine sg F ⟨h16,e16,h17,e17,λX B=>thenC.nx (B.sealK λY Z=>?_)⟩;exact fin Y h17 21 a 0 _ (w17.more dd) (.inl ⟨dg,a,by rw[Int.add_zero,zD dd dd],k.symm⟩) (Z.sub de)
   rw[if_pos dd]at k;refine sg F (λX B=>thenC.nx (B.sealK λY Z=>?_));have hff:(yw body).fat=0:=by
    revert c6;unfold yw;split
    .intro _;rfl
    split
    .rename_i c8;intro q;exact absurd q c8
    intro _;rfl
   rw[c6,hff]at j;subst k;exact fin Y o 0 0 (a+1:Nat) _ (j.more dd) (.inr ⟨rfl,rfl,rfl,rfl,I⟩) (Z.sub de)
  rw[if_pos c6]at k;refine sg F (λX B=>thenC.nx (B.sealK λY Z=>?_));exact fin Y o _ _ (a+1:Nat) _ (j.more dd) (.inl ⟨c6,_,by rw[zD dd dd],by rw[<-k];congr 1;omega⟩) (Z.sub de)
 refine⟨λ_=>λd i=>key d ?_,λ_=>λd i=>key d ?_⟩<;>(rw[ech]at i;exact i.sub de)
theorem fE{s:Ua}{a:Int}(h:(yM s a).e=0):qD (yM s a).l=0/\(yM s a).fat=0:=by
 unfold yM at h ⊢;split
 .rename_i c;rw[if_pos c]at h;cases h
 rename_i c;rw[if_neg c]at h;split
 .rename_i e;rw[e]at h;cases h
 rename_i i e;rw[e]at h;simp only at h;split
 .rename_i f;rw[if_pos f]at h;unfold xw at h ⊢;split
  .rename_i d;rw[if_pos d]at h;cases h
  rename_i d;rw[if_neg d]at h;split
  .rename_i b;exact⟨b,rfl⟩
  rename_i b;rw[if_neg b]at h;cases h
 rename_i f;rw[if_neg f]at h;split
 .rename_i d;rw[if_pos d]at h;cases h
 rename_i d;rw[if_neg d,ZP]at h;rw[ZP];split
 .rename_i b;rw[if_pos b]at h;exact absurd h b
 rename_i b;rw[if_neg b]at h;split
 .rename_i g;exact⟨g,rfl⟩
 rename_i g;rw[if_neg g]at h;cases h
def xO(s:Ua)(a:Int):Rd:=if (yM s a).e=0 then ⟨lens (yM s a).l,(yM s a).nx,0,0⟩ else ⟨[],0,(yM s a).e,(yM s a).fat⟩
theorem KW(l:Ub):(lens l).length=l.length+1:=by unfold lens;rw[Xk];simp
theorem uK{s:Ua}{at':Int}(hs:s.length<=1500)(hn:h.nx+2200<=T.top)(D:h.low<=T.top)(n:∀h' v',Ext h h' 2100->Sl h' v' 1 (xO s at').l.length (zI (xO s at').l)->(∀b,z6 v'=some b->h.nx<=b)->Q (.tuple [v',dh ((xO s at').nx:Nat),NU (xO s at').e (xO s at').fat]) h'):
  RF P zB 13 [.str s,dh at'] h Q:=by
 generalize hR:xO s at'=R at n;unfold xO at hR;refine zh L13 zIa ⟨dd,?_⟩;rintro p0 H rfl E;have p:=(Vw.nil (S:=zH) (h:=h)).new E dd;have t1:=p.top;have l1:=p.low;have n1:H.nx=h.nx+1:=by rw[E,zC]
 refine TY hs dd dd λh3 v4 I q r=>⟨_,_,_,_,rfl,?_⟩
 have F:=p.ext I;have t3:=F.top;obtain⟨G,J,e,n8,K⟩:=F.st (cx:=zB) 0 (f:=0) (u:=.agg [dh (yM s at').e,dh (yM s at').fat]) rfl dd zp rfl;have l8:=e.low;have t8:=e.top;have t:=q.keep (h':=G) dd λb hb=>K b (by have:=r b hb;omega)
 refine⟨G,J,_,e.ld1 0 rfl kK rfl,λc=>?_,λc=>?_⟩
 .rw[if_neg c]at hR;obtain⟨i,v,j,L,_⟩:=e.st (cx:=zB) 0 (f:=0) (u:=.agg [dh (yM s at').e,dh (yM s at').fat]) rfl dd zp rfl;refine⟨de,⟨dd,dd⟩,_,_,e.ldA 0 rfl zp rfl,i,v,endL.ok (leaveL.cell (a:=6) (j.ldA 0 rfl zp rfl) rfl) ?_⟩;have:=n i .nilslice (j.ex0.mono dd);rw[<-hR]at this;exact this ⟨by simp,.inl ⟨rfl,rfl⟩⟩ λb hb=>(by cases hb)
 have c0:(yM s at').e=0:=dd
 rw[if_pos c0]at hR;obtain⟨hr,M⟩:=fE c0;refine Sf t hr dd λN x y z g=>⟨_,_,rfl,?_⟩
 have d:=e.ext y;have O:=d.top;have U:=d.low;obtain⟨l,A,m,V,B⟩:=d.st (cx:=zB) 0 (f:=0) (u:=.agg [dh (yM s at').e,dh (yM s at').fat]) rfl dd zp rfl;refine⟨de,⟨dd,dd⟩,_,_,d.ldA 0 rfl zp rfl,l,A,endL.ok (leaveL.cell (a:=6) (m.ldA 0 rfl zp rfl) rfl) ?_⟩;have:=n l x (m.ex0.mono dd);rw[<-hR,KW]at this;rw[c0,M];refine this ?_ λb hb=>by have:=g b hb;have:=e.le;omega
 obtain⟨W,X⟩:=z;refine⟨W,X.imp id ?_⟩;rintro⟨b,o,Y,cs,k,w,op,rfl,hb,Z,hc⟩;have C:b≠h.nx:=by have:=g b rfl;have:=e.lt 0 rfl;omega
 exact⟨b,o,Y,cs,k,w,op,rfl,dd,by rw[B b C];exact Z,hc⟩
section
variable (tm:Tm) (a b r p:Nat) (y x:Int)
variable (h:H)
end
theorem _root_.Go.Sim.Ow.set{cx:Ctx}{v u:V}{te ti:TI}{n t e j:Nat}{xs:Ug}(s:Ow h v te n xs)(m:j<n)(p:cx.ty.get t=some ti)(hd:ti.desc = .slice e)(f:cx.ty.get e=some te)(hs:te.size=1)(d:u.cells=[u])(r:u.one=true)(A:h.nx<=T.top):
  ∃b h',z6 v=some b/\xK cx t v (dh j)=some (.ptr b j)/\jP cx e h (.ptr b j) u=some h'/\Ow h' v te n (xs.set j u)/\h'.nx=h.nx/\ExtX (λi=>z6 v=some i) h h' 0:=by
 obtain⟨g,⟨rfl,B⟩|⟨b,cs,rfl,hb,w,hw,hl,x⟩⟩:=s
 .omega
 obtain⟨a,k,y⟩:=Cs.put_some (cs:=cs) hw (o:=j) (vs:=[u]) (by rw[hl,hs];simp;omega);obtain⟨_,p3,z⟩:=Cs.put_eq k;have c:b<T.top:=dd
 refine⟨b,h.upd b (some (.cells a (xD te) true true)),rfl,yp p hd f hs m,zY f w (by rw[d];exact k) (zx.2 (by rw[d,hs];rfl)) (oM _) (by rw[d];simp[zU,r]),⟨by rw[ox];exact g,.inr ⟨b,a,rfl,hb,zF _ c,y,by rw[p3,hl],λi hi=>?_⟩⟩,rfl,(ExtX.refl0 _ _).upd _ c (.inl rfl)⟩;rw[z];by_cases l:i=j
 .subst l;rw[if_pos ⟨oR _,by simp⟩,Nat.sub_self,List.getElem?_set_self (by rw[g,hs];omega)];rfl
 rw[if_neg (by simp;omega),og (λq=>l q.symm)];exact x i hi
section
open Go (Oper)
abbrev oBr(s:Ua)(left:Nat):O:=.cells (.ls [.str s,dh left]) ⟨0,120+1,0⟩ true false
section
variable (tm:Tm) (y16 y9 v62 v66 v67 v68 v69 v71 v72 v73 v74 v75 v76 v77 v78 v81 v82 v83 v84 v85 v86 v87:V) (j x:Int) (pa ps pq pr:Nat)
variable (t0:Tm) (s:Ua) (left:Nat) (z w:Int)
variable (h:H)
end
end
theorem Fc{s:Ua}{y:Nat}(h2:y<=s.length):zw zB 9 h (.str s) none (some (dh y)) none=some (.str (s.take y)):=by
 unfold zw;have a:ya (y:Int)=some y:=rfl;have b:YP s 0=s.length:=by rw[yl];omega
 simp only[xk,Go.Sim.bnd,a,b];rw[oE h2,oN];simp only;unfold zS;rw[List.drop_zero,Nat.sub_zero]
theorem pY{v w:V}{l:Ub}(sl:Sl h v 1 l.length (zI l))(sw:Sl h w 1 l.length (zI l))(m:h.nx<=T.top)(d:h.low<=T.top)(n:Q (.bool true) h)(hl:l.length<4611686018427387904:=by omega):
  RF P zB 12 [v,w] h Q:=by
 refine zh L12 zI9 ⟨_,sl.len zM rfl,_,sw.len zM rfl,λq=>absurd rfl q,λ_=>λtm hs=>?_⟩;refine wpC.round (λk tm h'=>∃i:Nat,i<=l.length/\k=l.length-i/\h'=h/\Has tm [(5,dh i),(0,v),(1,w)]) l.length ⟨0,dd,dd,rfl,hs.sub de⟩ ?_;clear hs;rintro k tm h' ⟨i,A,rfl,rfl,hs⟩;refine cg L12 hs ⟨_,sl.len zM rfl,λc=>?_,λc=>λf a=>?_⟩
 .have hi:i<l.length:=dd
  have j:l[i]? = some l[i]:=oQ hi;obtain⟨b,o,p,r⟩:=sl.at1 (u:=dh l[i]) hi zM rfl zX rfl rfl (by rw[od,j];rfl);obtain⟨s,t,x,y⟩:=sw.at1 (u:=dh l[i]) hi zM rfl zX rfl rfl (by rw[od,j];rfl);have e:zb ((i:Int)+1)=((i+1:Nat):Int):=by rw[zD dd dd];rfl
  refine⟨⟨m,d⟩,b,o,p,_,r,s,t,x,_,y,λq=>absurd rfl q,λ_=>λf a=>⟨rfl,rfl,l.length-(i+1),dd,i+1,dd,rfl,rfl,?_⟩⟩;try dsimp only
  rw[<-e];exact a.sub de
 refine thenC.left (sg a (λz g=>endW.r1 (g.get rfl) n))
end Go.Proofs.YtnpeieeomokomaaGreat
