/- TG. No condition. -/
import Derived.Test.YtnpeieeomokomaaGreatZTE
import Derived.Test.YtnpeieeomokomaaGreatZW
import Derived.Test.YtnpeieeomokomaaGreatZTC
set_option maxRecDepth 100000
set_option maxHeartbeats 4000000
noncomputable section
namespace Go.Proofs.YtnpeieeomokomaaGreat
open Go.Sim
variable {h:H}{Q:Uc}
theorem zHz{s:Ua}{x:Nat}(h1:x<=s.length):zy zB 9 h (.str s) (some (dd (x:Nat))) none none=some (.str (s.drop x)):=by
 have:=xN (s:=s) (h:=h) h1 (oV _);have e:zH s x s.length=s.drop x:=by unfold zH;rw[List.take_of_length_le (by rw[List.length_drop];exact oV _)]
 rw[e]at this;rw[<-this];unfold zy;have a:jO s 0=s.length:=by rw[yb];omega
 simp only[kO,Go.Sim.bnd,a];have b:yj ((s.length:Nat):Int)=some s.length:=rfl;simp only[b,oG (oV s.length),oS]
structure Inn where
 l:Ub
 e:Int
 fat:Nat
def xA(b:Ua):Inn:=match yl b 6 12 with
 | none=>⟨[],if kG b 6 then 31 else 23,0⟩
 | some (log,l,p)=>if (xW log l (b.drop ((p+7)/8))).1≠0 then ⟨[],(xW log l (b.drop ((p+7)/8))).1,(p+7)/8⟩ else ⟨(xW log l (b.drop ((p+7)/8))).2,0,0⟩
theorem zM8{b:Ua}(hb:b.length<=2000)(hn:h.nx+1600<=T.top)(hlow:h.low<=T.top)(L:∀h' v',Ext h h' 1500->Ow h' v' yn (xA b).l.length (zV (xA b).l)->(∀j,yG v'=some j->h.nx<=j)->Q (.tuple [v',flt (xA b).e ((xA b).fat:Nat)]) h'):RF P zB 40 [.str b] h Q:=by
 generalize hR:xA b=R at L;unfold xA at hR;refine yU z3t ⟨oy,?_⟩;rintro p0 h1 rfl e1;have M:=(Vw.nil (S:=zN) (h:=h)).new e1 oy;have t1:=M.top;have l1:=M.low;have n1:h1.nx=h.nx+1:=by rw[e1,z8]
 refine zEc hb oy oy (λN h3 O=>⟨_,_,_,_,_,rfl,?_⟩) (λlog l p v h3 N O w hv hp hl=>⟨_,_,_,_,_,rfl,?_⟩)
 .rw[N]at hR;simp only at hR;have C:=M.ext O;have t3:=C.top;refine⟨oy,?_⟩;rintro p9 U rfl r;have k:=C.new r oy;have V:=k.top;obtain⟨s,x,m,W,_⟩:=k.st (cx:=zB) 0 (f:=0) (u:=.agg [dd 0,.nilslice]) rfl oy xO rfl;have X:=m.top;obtain⟨d,y,g,Y,_⟩:=m.st (cx:=zB) 1 (f:=0) (u:=.agg [dd (if kG b 6 then 31 else 23),dd 0]) rfl oy zd rfl;have Z:=g.low;have t12:=g.top;obtain⟨D,e16,E,n16,_⟩:=g.st (cx:=zB) 1 (f:=0) (u:=.agg [dd (if kG b 6 then 31 else 23),dd 0]) rfl oy zd rfl;have hne:(if kG b 6 then (31:Int) else 23)≠0:=by split<;>decide
  refine⟨s,x,d,y,_,g.ld1 1 rfl yh rfl,λ_=>⟨⟨oy,oy⟩,_,_,g.ldA 1 rfl zd rfl,D,e16,endL.ok (leaveL.cell (a:=3) (E.ldA 1 rfl zd rfl) rfl) ?_⟩,λq=>absurd hne q⟩;have:=L D .nilslice (E.ex0.mono oy);rw[<-hR]at this;exact this (Ow.nil _ _) λj i=>(by cases i)
 rw[N]at hR;simp only at hR;have hg:=qY N;have C:=M.ext O;have t3:=C.top;refine⟨oy,?_⟩;rintro p9 U rfl r;obtain⟨_,x10,_⟩:=zq r;have k:=C.new r oy;have V:=k.top;obtain⟨s,x,m,W,k11⟩:=k.st (cx:=zB) 0 (f:=0) (u:=.agg [dd (log:Nat),v]) (cs':=.ls [dd (log:Nat),v]) rfl oy xO rfl rfl (oQ _) (yY.2 λu hu=>by
  rcases oq.1 hu with rfl|hu
  .rfl
  exact yY.1 w.one1.2 u hu)
 have F:=(w.ext x10).keep (h':=s) oy λj i=>k11 j (by have:=w.blk i;omega)
 have X:=m.top;obtain⟨d,y,g,Y,k12⟩:=m.st (cx:=zB) 1 (f:=0) (u:=.agg [dd 0,dd 0]) rfl oy zd rfl;have G:=F.keep (h':=d) oy λj i=>k12 j (by have:=hv j i;omega)
 have Z:=g.low;have t12:=g.top;have sT:Sl (zX d) v 1 l.length (zV l):=G.sl;refine⟨s,x,d,y,_,g.ld1 1 rfl yh rfl,λq=>absurd rfl q,λ_=>⟨⟨oy,oy⟩,_,_,g.ldA 0 rfl xO rfl,_,zHz oy,?_⟩⟩;refine zHo sT hg (by rw[List.length_drop];omega) (show d.nx+1300<=T.top by omega) (oV _) λh21 H I J t=>⟨_,_,rfl,?_⟩
 have xd:=Ext.drawn I oy;have t21:=I.top;refine⟨show h21.nx<=T.top by have:(zX d).nx=d.nx:=rfl;omega,?_⟩;intro h24 z;have K:Ow h24 H yn (xW log l (b.drop ((p+7)/8))).2.length (zV (xW log l (b.drop ((p+7)/8))).2):=by rw[z];exact J
 rw[<-z]at xd;have A:=g.ext xd.2;have t24:=A.top;clear z;refine⟨λc=>?_,λc=>?_⟩
 .rw[if_pos c]at hR;obtain⟨n,B,o,n25,_⟩:=A.st (cx:=zB) 1 (f:=0) (u:=.agg [dd (xW log l (b.drop ((p+7)/8))).1,dd ((p+7)/8:Nat)]) rfl oy zd rfl;refine⟨n,B,endL.ok (leaveL.cell (a:=3) (o.ldA 1 rfl zd rfl) rfl) ?_⟩;have:=L n .nilslice (o.ex0.mono oy);rw[<-hR]at this;exact this (Ow.nil _ _) λj i=>(by cases i)
 rw[if_neg c]at hR;obtain⟨n,B,o,n25,k25⟩:=A.st (cx:=zB) 1 (f:=0) (u:=.agg [dd 0,dd 0]) rfl oy zd rfl;refine⟨n,B,endL.ok (leaveL.cell (a:=3) (o.ldA 1 rfl zd rfl) rfl) ?_⟩;have:=L n H (o.ex0.mono oy);rw[<-hR]at this;have hle:h.nx<d.nx:=g.lt 1 rfl;exact this (K.keep oy λj i=>k25 j (by have:=t j i;have e:(zX d).nx=d.nx:=rfl;omega)) λj i=>by have:=t j i;have e:(zX d).nx=d.nx:=rfl;omega
def zB3:List Go.Oper:=z5F.toList
def oR(i:Nat):Go.Oper:=(zB3[i]?).getD default
theorem zRF:zB3=[oR 0,oR 1,oR 2,oR 3,oR 4,oR 5]:=da
theorem oR0:(oR 0).op = .load 23 (t 4)/\(oR 0).dst=some 77/\(oR 0).guard=none:=⟨da,da,da⟩
theorem oR1:(oR 1).op = .load 3 (t 5)/\(oR 1).dst=some 78/\(oR 1).guard=none:=⟨da,da,da⟩
theorem oR2:(oR 2).op = .load 26 (t 6)/\(oR 2).dst=some 79/\(oR 2).guard=none:=⟨da,da,da⟩
theorem oR3:(oR 3).op = .store 23 (t 4) (t 77)/\(oR 3).dst=none/\(oR 3).guard=none:=⟨da,da,da⟩
theorem oR4:(oR 4).op = .store 3 (t 5) (t 78)/\(oR 4).dst=none/\(oR 4).guard=none:=⟨da,da,da⟩
theorem oR5:(oR 5).op = .store 26 (t 6) (t 79)/\(oR 5).dst=none/\(oR 5).guard=none:=⟨da,da,da⟩
theorem okR:ya zB3=some 5:=da
def tmR(tm:Tm)(a b e:Nat)(x y z:V):Tm:=Tb.set (Tb.set (Tb.set (zW tm [(4,.ptr a 0),(5,.ptr b 0),(6,.ptr e 0)]) 77 x) 78 y) 79 z
theorem so3(tm:Tm)(a b e:Nat)(x y z:V):yq zB3 (zi zB3 []) 5 3 (tmR tm a b e x y z) (oR 3)=((cond (!(Nat.beq a b) && true) (cond (!(Nat.beq a e) && true) true false) false && true) || false):=da
theorem so4(tm:Tm)(a b e:Nat)(x y z:V):yq zB3 (zi zB3 []) 5 4 (tmR tm a b e x y z) (oR 4)=((cond (!(Nat.beq b e) && true) true false && true) || false):=da
theorem wR(tm:Tm)(d:List AD)(h:H)(Q:Ud):Wf jv zCM ⟨80,tm,d,h⟩ Q=wpDr P zB false zB3 ⟨80,tm,d,h⟩ (thenC (λs1=>Q .ret s1) Q):=da
theorem gR(tm:Tm)(a b e:Nat)(x y z:V):zI (tmR tm a b e x y z) 4 = .ptr a 0/\zI (tmR tm a b e x y z) 5 = .ptr b 0/\zI (tmR tm a b e x y z) 6 = .ptr e 0/\zI (tmR tm a b e x y z) 77=x/\zI (tmR tm a b e x y z) 78=y/\zI (tmR tm a b e x y z) 79=z :=
 ⟨da,da,da,da,da,da⟩
abbrev kn(x:Int):O:=.cells (.ls [dd x]) ⟨0,3+1,0⟩ true false
theorem zWf{hb h:H}{c a b e G:Nat}{I:O}{v:V}{n x y:Int}{tm:Tm}{d:List AD}{Q:Ud}(w:Vw zN hb h c [(G,I),(e,Xx x y),(b,kn n),(a,qk v)])(o:v.cells=[v]/\za [v]=true)(hs:Has tm [(4,.ptr a 0),(5,.ptr b 0),(6,.ptr e 0)])(p:h.nx<=T.top)(hl:h.low<=T.top)(U:∀l h',Has l [(4,.ptr a 0),(5,.ptr b 0),(6,.ptr e 0)]->Vw zN hb h' c [(G,I),(e,Xx x y),(b,kn n),(a,qk v)]->h'.nx=h.nx->(∀i,i≠a->i≠b->i≠e->h'.get i=h.get i)->Q .ret ⟨80,l,d,h'⟩):
  Wf jv zCM ⟨80,tm,d,h⟩ Q:=by
 rw[wR];have la:=w.lt 3 rfl;have lb:=w.lt 2 rfl;have le:=w.lt 1 rfl;have q:a≠b:=Nat.ne_of_lt (w.bk.2.2.2.2.2.2.2.2.2.1);have r:b≠e:=Nat.ne_of_lt (w.bk.2.2.2.2.2.2.1);have s:a≠e:=Nat.ne_of_lt (Nat.lt_trans (w.bk.2.2.2.2.2.2.2.2.2.1) (w.bk.2.2.2.2.2.2.1));have W:=xn hs rfl;have J:(zX h).get a=some (qk v):=w.get 3 rfl;have t:=w.upd 3 (o':=qk v) rfl p;have X:(h.upd a (some (qk v))).nx=h.nx:=rfl;have K:∀i,i≠a->(h.upd a (some (qk v))).get i=h.get i:=λi hi=>zS _ hi
 have a3:zZ zB 23 (zX h) (.ptr a 0) v=some ((zX h).upd a (some (qk v))):=z6 z7 J (by rw[o.1];rfl) (by rw[o.1];rfl) (oQ _) (by rw[o.1];exact o.2);have L1:yN h ((zX h).upd a (some (qk v)))=h.upd a (some (qk v)):=j7;have Y:(h.upd a (some (qk v))).low<=T.top:=by rw[H.low_upd];omega
 generalize hh1:h.upd a (some (qk v))=h1 at t X K L1 Y;have u:=t.upd 2 (o':=kn n) rfl oy;have Z:(h1.upd b (some (kn n))).nx=h1.nx:=rfl;have L:∀i,i≠b->(h1.upd b (some (kn n))).get i=h1.get i:=λi hi=>zS _ hi
 have gb:(zX h1).get b=some (kn n):=t.get 2 rfl;have a4:zZ zB 3 (zX h1) (.ptr b 0) (dd n)=some ((zX h1).upd b (some (kn n))):=z6 zm gb rfl;have L2:yN h1 ((zX h1).upd b (some (kn n)))=h1.upd b (some (kn n)):=j7;generalize hh2:h1.upd b (some (kn n))=j at u Z L L2;have M:=u.upd 1 (o':=Xx x y) rfl oy;have n3:(j.upd e (some (Xx x y))).nx=j.nx:=rfl;have N:∀i,i≠e->(j.upd e (some (Xx x y))).get i=j.get i:=λi hi=>zS _ hi
 have a5:zZ zB 26 j (.ptr e 0) (.agg [dd x,dd y])=some (j.upd e (some (Xx x y))):=z6 zd (u.get 1 rfl) rfl;generalize j.upd e (some (Xx x y))=m at M n3 N a5;obtain⟨P,R,S,z,A,B⟩:=gR tm a b e v (dd n) (.agg [dd x,dd y]);refine⟨jm,5,.normal,⟨80,tmR tm a b e v (dd n) (.agg [dd x,dd y]),d,m⟩,xu,okR,?_,?_⟩
 .have f:=so3 tm a b e v (dd n) (.agg [dd x,dd y]);have g:=so4 tm a b e v (dd n) (.agg [dd x,dd y]);rw[qf q,qf s]at f;rw[qf r]at g;generalize hbs:zi zB3 []=bs at f g ⊢;generalize hops:zB3=ops at f g ⊢;have C:ops=[oR 0,oR 1,oR 2,oR 3,oR 4,oR 5]:=by rw[<-hops];exact zRF
  have k:yJ zB jm false jh ops bs 5 5 0 [oR 0,oR 1,oR 2,oR 3,oR 4,oR 5] ⟨80,tm,d,h⟩=some (.done .normal ⟨80,tmR tm a b e v (dd n) (.agg [dd x,dd y]),d,m⟩):=by
   refine zQ (v:=v) oR0.2.2 (xF oR0.1 (congrArg some (hs.get rfl)) (zK z7 rfl J rfl)) oR0.2.1 rfl p hl ?_;have D:Has (Tb.set tm 77 v) [(5,.ptr b 0),(6,.ptr e 0)]:=⟨(show zI (Tb.set tm 77 v) 5=zI tm 5 by kernel_rfl).trans (hs.get rfl),(show zI (Tb.set tm 77 v) 6=zI tm 6 by kernel_rfl).trans (hs.get rfl),trivial⟩;refine zQ (v:=dd n) oR1.2.2 (xF oR1.1 (congrArg some (D.get rfl)) (zK zm rfl (show(zX h).get b=_ from w.get 2 rfl) rfl)) oR1.2.1 rfl p hl ?_;have E:Has (Tb.set (Tb.set tm 77 v) 78 (dd n)) [(6,.ptr e 0)]:=⟨(show zI (Tb.set (Tb.set tm 77 v) 78 (dd n)) 6=zI tm 6 by kernel_rfl).trans (hs.get rfl),trivial⟩;refine zQ (v:=.agg [dd x,dd y]) oR2.2.2 (xF oR2.1 (congrArg some (E.get rfl)) (zO zd rfl (show(zX h).get e=_ from w.get 1 rfl) rfl)) oR2.2.1 rfl p hl ?_;have F:Tb.set (Tb.set (Tb.set tm 77 v) 78 (dd n)) 79 (.agg [dd x,dd y])=tmR tm a b e v (dd n) (.agg [dd x,dd y]):=by unfold tmR;rw[W]
   try dsimp only
   rw[F];refine jZ oR3.2.2 (yg oR3.1 (congrArg some P) (congrArg some z) a3) oR3.2.1 (f.trans rfl) ?_;try dsimp only
   rw[L1];refine jZ oR4.2.2 (yg oR4.1 (congrArg some R) (congrArg some A) a4) oR4.2.1 (g.trans rfl) ?_;try dsimp only
   rw[L2];exact qW oR5.2.2 (yg oR5.1 (congrArg some S) (congrArg some B) a5) oR5.2.1
  rw[<-C]at k;exact k
 exact U _ m ⟨P,R,S,trivial⟩ M oy λi h1 j m=>by rw[N i m,L i j,K i h1]
theorem zMM{a0 a1 a2 a3:V}{k:H->Prop}:Wf L38 (bf 38) ⟨12,ze [a0,a1,a2,a3] 0 (Tb.leaf zC),[],h⟩ (zVt zB ⟨12,[],bf 38⟩ k) =
  (zP zB 26 0 h a0 (λv0 h1=>∃(b:Int),zo zB 24 h1 v0=some (dd b)/\((b≠(0:Int)->∃e,zZ zB 23 h1 a1 .nilslice=some e/\∃f,zZ zB 3 e a2 (dd (0:Int))=some f/\zP zB 26 1 f a0 (λj c=>∃(g:Int),zo zB 3 c j=some (dd g)/\∃(i:Int),zo zB 3 c a3=some (dd i)/\zP zB 26 1 c a0 (λl d=>∃a,zZ zB 3 d l (dd (zG (g+i)))=some a/\(([]:List AD)=[]/\k a))))/\(¬(b≠(0:Int))->(([]:List AD)=[]/\k h1))))):=da
theorem zMW{p o:Nat}{k:Uc}:zP zB 26 0 h (.ptr p o) k=k (.ptr p (o+0)) h:=da
theorem zHD{p o:Nat}{k:Uc}:zP zB 26 1 h (.ptr p o) k=k (.ptr p (o+1)) h:=da
theorem zE9{hb h:H}{c a b e g:Nat}{v:V}{n x y d:Int}{k:H->Prop}(w:Vw zN hb h c [(g,kn d),(e,Xx x y),(b,kn n),(a,qk v)])(i:x≠0->∀h',Vw zN hb h' c [(g,kn d),(e,Xx x (zG (y+d))),(b,kn 0),(a,qk .nilslice)]->h'.nx=h.nx->k h')(j:x=0->k h)(p:h.nx<=T.top:=by omega):RV P zB 80 38 [.ptr e 0,.ptr a 0,.ptr b 0,.ptr g 0] h k:=by
 refine⟨_,z3T,ble _ _ rfl,ble _ _ rfl,db,Yc _ (?_:Wf L38 (bf 38) _ _)⟩;refine(zMM (k:=k)).symm ▸ ?_;try dsimp only
 rw[zMW];refine⟨x,w.ld1 1 rfl yh rfl,λm=>?_,λm=>⟨rfl,j oy⟩⟩;obtain⟨q,r,s,C,_⟩:=w.st (cx:=zB) 3 (f:=0) (u:=.nilslice) rfl p z7 rfl;obtain⟨t,z,l,n4,_⟩:=s.st (cx:=zB) 2 (f:=0) (u:=dd 0) rfl oy zm rfl;obtain⟨o,A,B,D,_⟩:=l.st (cx:=zB) 1 (f:=0+1) (u:=dd (zG (y+d))) rfl oy zm rfl;refine⟨q,r,t,z,?_⟩;try dsimp only
 rw[zHD];refine⟨y,l.ld1 1 rfl zm rfl,d,l.ld1 0 rfl zm rfl,?_⟩;try dsimp only
 rw[zHD];exact⟨o,A,rfl,i m o B oy⟩
section
variable {P:Program}{c:Ctx}
theorem _root_.Go.Sim.endQ.ok{n m:Nat}{rs:List Go.ResultVar}{body:Go.Code}{tm:Tm}{d:List AD}{h0 h:H}{vs:Ug}{Q:Uc}(e:leave c rs tm h rs []=some vs)(a:Q (yP vs) h):endQ c ⟨n,rs,body⟩ Q ⟨m,tm,d,h0⟩ h:=by unfold endQ;rw[e];exact a
theorem _root_.Go.Sim.endW1.nd{n m:Nat}{rs:List Go.ResultVar}{body:Go.Code}{tm:Tm}{h:H}{vs:Ug}{Q:Uc}(e:leave c rs tm h rs []=some vs)(a:Q (yP vs) h):endW1 P c ⟨n,rs,body⟩ Q .ret ⟨m,tm,[],h⟩:=endQ.ok e a
theorem _root_.Go.Sim.endW1.df{fi:FI}{m f:Nat}{cap:Ug}{tm:Tm}{h:H}{Q:Uc}(r:RV P c fi.n f cap h (endQ c fi Q ⟨m,tm,[.fn f cap []],h⟩)):endW1 P c fi Q .ret ⟨m,tm,[.fn f cap []],h⟩:=r
end
theorem qZ(b:Ua)(a fin:Nat):zFn b a fin=if (xA b).e≠0 then ⟨[],0,(xA b).e,((a+1+(xA b).fat:Nat):Int)⟩ else if XS (xA b).l=0 then ⟨(xA b).l,fin,0,0⟩ else ⟨[],0,21,a⟩:=by
 unfold zFn xA;cases h:yl b 6 12 with
 | none =>
  simp only;by_cases ha:kG b 6
  .simp only[if_pos ha];rfl
  simp only[if_neg ha];rfl
 | some x =>
  obtain⟨log,l,p⟩:=x;simp only;generalize xW log l (b.drop ((p+7)/8))=t;obtain⟨e,r⟩:=t;by_cases c:e≠0
  .simp only[if_pos c];congr 1
  have:e=0:=oy
  subst this;rfl
theorem zFp(b:Ua):(xA b).l.length<=255:=by
 unfold xA;split
 .simp
 rename_i log l p a;split
 .simp
 exact(zAd (qY a)).2
theorem zFo{b:Ua}:(xA b).fat<=b.length+1:=by
 unfold xA;rcases h:yl b 6 12 with _|⟨log,l,p⟩
 .simp
 have g:p<=8*b.length:=by
  unfold yl at h;split at h
  .cases h
  split at h
  .cases h
  rcases hr:yX b 12 (12+2) (2^(zu b 0 4+5)) 4 [] with _|y
  .rw[hr]at h;cases h
  rw[hr]at h;simp only[oo,oA,oB]at h;obtain⟨_,_,rfl⟩:=h;have key:∀{f left p:Nat}{l r:Ub}{q:Nat},yX b 12 f left p l=some (r,q)->p<=8*b.length->q<=8*b.length:=by
   intro f;induction f with
   | zero=>intro left p l r q h;cases h
   | succ f ih =>
    intro left p l r q h g;unfold yX at h;split at h
    .cases h;exact g
    rename_i j;rcases a:wp b left p with _|⟨v,k⟩
    .rw[a]at h;cases h
    rw[a]at h;have c:=(JK oy a).2;simp only at h;split at h
    .cases h
    split at h
    .rcases d:ym b 12 (12+1) k (l.length+1) with _|⟨n,o⟩
     .rw[d]at h;cases h
     rw[d]at h;have e:∀{f p n m q:Nat},ym b 12 f p n=some (m,q)->q<=8*b.length:=by
      intro f;induction f with
      | zero=>intro p n m q h;cases h
      | succ f ih =>
       intro p n m q h;unfold ym at h;split at h
       .cases h
       split at h
       .cases h
       split at h
       .exact ih h
       cases h;omega
     exact ih h (e d)
    exact ih h c
  rename_i i _;exact key hr oy
 simp only;split
 .show(p+7)/8<=_;omega
 show 0<=_;omega
theorem zGV{s:Ua}{at':Int}(hs:s.length<=1500)(hn:h.nx+2100<=T.top)(hlow:h.low<=T.top)(hq:∀h' v',Ext h h' 2000->Ow h' v' yn (yE s at').l.length (zV (yE s at').l)->(∀b,yG v'=some b->h.nx<=b)->Q (.tuple [v',dd ((yE s at').nx:Nat),flt (yE s at').e (yE s at').fat]) h'):
  RF P zB 10 [.str s,dd at'] h Q:=by
 generalize k:yE s at'=R at hq;unfold yE at k;refine RF.enterDS yA z3R (ble _ _ rfl) (ble _ _ rfl) z3k ⟨rfl,oy,?_⟩;rintro p0 h1 rfl e1;have w1:=(Vw.nil (S:=zN) (h:=h)).new e1 oy;have t1:=w1.top;refine⟨rfl,oy,?_⟩;rintro p2 o rfl e3;have w3:=w1.new e3 oy;have t3:=w3.top;refine⟨oy,?_⟩;rintro p4 D rfl e5;have w5:=w3.new e5 oy;have t5:=w5.top;have l5:=w5.low;have out:∀(tm:Tm) (h':H) (v:V),Vw zN h h' 2000 [(o.nx,Xx R.e R.fat),(h1.nx,kn (R.nx:Nat)),(h.nx,qk v)]->Ow h' v yn R.l.length (zV R.l)->(∀b,yG v=some b->h.nx<=b)->Has tm [(4,.ptr h.nx 0),(5,.ptr h1.nx 0),(6,.ptr o.nx 0)] ->
   ∃vs,leave zB [.cell 4 23,.cell 5 3,.cell 6 26] tm h' [.cell 4 23,.cell 5 3,.cell 6 26] []=some vs/\Q (yP vs) h':=λtm h' v w ow hv hs =>
  ⟨_,leave.cell (hs.get rfl) (w.ld1 2 rfl z7 rfl) (leave.cell (hs.get rfl) (w.ld1 1 rfl zm rfl) (leave.cell (hs.get rfl) (w.ldA 0 rfl zd rfl) rfl)),hq h' v w.ex0 ow hv⟩
 have U:∀(e fat:Int) (h2:H) (c:Nat) (i:List (Nat×O)) (x y n:Int) (v:V),Vw zN h h2 c (i++[(o.nx,Xx x y),(h1.nx,kn n),(h.nx,qk v)])->i.length<=1->c<=2000->h2.nx<=T.top->∃W z G,zZ zB 23 h2 (.ptr h.nx 0) .nilslice=some W/\zZ zB 3 W (.ptr h1.nx 0) (dd 0)=some z/\zZ zB 26 z (.ptr o.nx 0) (.agg [dd e,dd fat])=some G /\
   Vw zN h G c (i++[(o.nx,Xx e fat),(h1.nx,kn 0),(h.nx,qk .nilslice)])/\G.nx=h2.nx:=by
  intro e fat h2 c i x y n v w hr hc ht;rcases i with _|⟨p,i⟩
  .obtain⟨W,e6,w6,n6,_⟩:=w.st (cx:=zB) 2 (f:=0) (u:=.nilslice) rfl ht z7 rfl;obtain⟨z,e7,M,n7,_⟩:=w6.st (cx:=zB) 1 (f:=0) (u:=dd 0) rfl oy zm rfl;obtain⟨G,e8,w8,n8,_⟩:=M.st (cx:=zB) 0 (f:=0) (u:=.agg [dd e,dd fat]) rfl oy zd rfl;exact⟨W,z,G,e6,e7,e8,w8,oy⟩
  rcases i with _|⟨p2,i⟩
  .obtain⟨W,e6,w6,n6,_⟩:=w.st (cx:=zB) 3 (f:=0) (u:=.nilslice) rfl ht z7 rfl;obtain⟨z,e7,M,n7,_⟩:=w6.st (cx:=zB) 2 (f:=0) (u:=dd 0) rfl oy zm rfl;obtain⟨G,e8,w8,n8,_⟩:=M.st (cx:=zB) 1 (f:=0) (u:=.agg [dd e,dd fat]) rfl oy zd rfl;exact⟨W,z,G,e6,e7,e8,w8,oy⟩
  simp at hr
 have oor:(at'<0\/(s.length:Int)<at')->∀tm,Has tm [(4,.ptr h.nx 0),(5,.ptr h1.nx 0),(6,.ptr o.nx 0),(16,.bool true),(1,dd at'),(0,.str s)]->Wf jv zF7 ⟨80,tm,[],D⟩ (thenC (sealK jv λs1=>Wf jv zF8 s1 (endW1 P zB ⟨80,[.cell 4 23,.cell 5 3,.cell 6 26],bf 10⟩ Q)) (endW1 P zB ⟨80,[.cell 4 23,.cell 5 3,.cell 6 26],bf 10⟩ Q)):=by intro c tm l;rw[if_pos c]at k;obtain⟨W,z,G,e6,e7,e8,w8,_⟩:=U 2 0 D 3 [] 0 0 0 .nilslice w5 (oQ _) oy oy;refine wpS.av l zPv rfl rfl ⟨W,e6,z,e7,G,e8,l.on λqM hs1=>?_⟩;subst k;obtain⟨vs,ev,E⟩:=out qM G .nilslice (w8.more oy) (Ow.nil _ _) (λb hb=>(by cases hb)) (hs1.sub da);exact thenC.rt (endW1.nd ev E)
 refine⟨λc=>Has.nil.on λtm l=>oor (.inl c) tm (l.sub da),λc1=>⟨λc=>Has.nil.on λtm l=>oor (.inr c) tm (l.sub da),λc2=>Has.nil.on λtm l=>?_⟩⟩;have c2:¬(s.length:Int)<at':=c2;rw[if_neg oy]at k;obtain⟨a,rfl⟩:∃a:Nat,at'=a:=⟨at'.toNat,oy⟩;rw[ol]at k;refine wpS.av l zPv rfl rfl (l.on λqM hs1=>thenC.nx (hs1.sealK λtm2 J=>?_));clear l hs1 oor;refine wpS.av J zXK rfl rfl ⟨λc=>?_,λc=>⟨rfl,oy,?_⟩⟩
 .have c:(a:Int)=s.length:=c;rw[ov]at k;obtain⟨W,z,G,e6,e7,e8,w8,_⟩:=U 5 a D 3 [] 0 0 0 .nilslice w5 (oQ _) oy oy;refine⟨W,e6,z,e7,G,e8,J.on λd g=>?_⟩;subst k;obtain⟨vs,ev,E⟩:=out d G .nilslice (w8.more oy) (Ow.nil _ _) (λb hb=>(by cases hb)) (g.sub da);exact endW1.nd ev E
 have c:¬(a:Int)=s.length:=c;have hal:a<s.length:=oy
 obtain⟨A,hch⟩:∃A,s[a]? = some A:=⟨_,oU hal⟩;have hct:=A.toNat_lt;rw[hch]at k;simp only at k;rintro p7 W rfl e6;have w6:=w5.new e6 oy;have t6:=w6.top;obtain⟨z,e7,M,n7,_⟩:=w6.st (cx:=zB) 0 (f:=0) (u:=dd 0) rfl oy zm rfl;have l7:=M.low;have F:∀(tm:Tm) (h':H) (x y N fat:Int) (n:Int) (v:V),Vw zN h h' 2000 [(D.nx,kn N),(o.nx,Xx x y),(h1.nx,kn n),(h.nx,qk v)]->x≠0->zG (y+N)=fat->R=⟨[],0,x,fat⟩->Has tm [(4,.ptr h.nx 0),(5,.ptr h1.nx 0),(6,.ptr o.nx 0)] ->
   endW1 P zB ⟨80,[.cell 4 23,.cell 5 3,.cell 6 26],bf 10⟩ Q .ret ⟨80,tm,[.fn 38 [.ptr o.nx 0,.ptr h.nx 0,.ptr h1.nx 0,.ptr D.nx 0] []],h'⟩:=by
  intro tm h' x y N fat n v w hx hf X hs;have tw:=w.top;refine endW1.df (zE9 w (λ_ h'' w'' n''=>?_) λq=>absurd q hx);subst X;rw[hf]at w'';obtain⟨vs,ev,E⟩:=out tm h'' .nilslice (w''.drop 1) (Ow.nil _ _) (λb hb=>(by cases hb)) hs;exact endQ.ok ev E
 have Y:∀(tm:Tm) (h':H) (N:Int) (v:V),Vw zN h h' 2000 [(D.nx,kn N),(o.nx,Xx 0 R.fat),(h1.nx,kn (R.nx:Nat)),(h.nx,qk v)]->R.e=0->Ow h' v yn R.l.length (zV R.l)->(∀b,yG v=some b->h.nx<=b)->Has tm [(4,.ptr h.nx 0),(5,.ptr h1.nx 0),(6,.ptr o.nx 0)] ->
   endW1 P zB ⟨80,[.cell 4 23,.cell 5 3,.cell 6 26],bf 10⟩ Q .ret ⟨80,tm,[.fn 38 [.ptr o.nx 0,.ptr h.nx 0,.ptr h1.nx 0,.ptr D.nx 0] []],h'⟩:=by
  intro tm h' N v w hx ow hv hs;have tw:=w.top;refine endW1.df (zE9 w (λq=>absurd rfl q) λ_=>?_);rw[<-hx]at w;obtain⟨vs,ev,E⟩:=out tm h' v (w.drop 1) ow hv hs;exact endQ.ok ev E
 have ech:zG ((A.toNat:Nat):Int)=((A.toNat:Nat):Int):=Z7 oy;have ea1:zG ((a:Int)+1)=((a+1:Nat):Int):=by rw[zD oy oy];rfl
 have ea2:zG (((a+1:Nat):Int)+((A.toNat:Nat):Int))=((a+1+A.toNat:Nat):Int):=by rw[zD oy oy];rfl
 refine⟨z,e7,rfl,_,yR hch,?_⟩;try dsimp only
 rw[ech,ea1,ea2];refine⟨λc3=>?_,λc3=>?_⟩
 · -- direct
  rw[if_pos oy]at k;refine zB6 oy hch oy oy oy λG v9 x8 K hv8=>?_
  rw[k]at K ⊢;have w8:=M.ext x8;have t8:=w8.top;have hlt:D.nx<z.nx:=M.lt 0 rfl;have lt0:h.nx<z.nx:=M.lt 3 rfl;have lt1:h1.nx<z.nx:=M.lt 2 rfl;have lt3:o.nx<z.nx:=M.lt 1 rfl;obtain⟨h13,e13,w13,n13,k13⟩:=w8.st (cx:=zB) 3 (f:=0) (u:=v9) (cs':=.ls [v9]) rfl oy z7 (by rw[K.one1.1];rfl) (by rw[K.one1.1];rfl) (oQ _) (by rw[K.one1.1];exact K.one1.2);obtain⟨h14,e14,w14,n14,k14⟩:=w13.st (cx:=zB) 2 (f:=0) (u:=dd (R.nx:Nat)) rfl oy zm rfl;obtain⟨t,e15,j,n15,k15⟩:=w14.st (cx:=zB) 1 (f:=0) (u:=.agg [dd R.e,dd R.fat]) rfl oy zd rfl;have I:=K.keep (h':=t) oy λb hb=>by have:=hv8 b hb;rw[k15 b oy,k14 b oy,k13 b oy]
  refine⟨v9,_,_,_,rfl,h13,e13,h14,e14,t,e15,J.on λd g=>?_⟩;by_cases ce:R.e=0
  .rw[ce]at j;exact Y d t 0 v9 (j.more oy) ce I (λb hb=>by have:=hv8 b hb;omega) (g.sub da)
  have X:R=⟨[],0,R.e,R.fat⟩/\-4611686018427387904<=R.fat/\R.fat<=4611686018427387904:=by
   subst k;unfold yd at ce ⊢;split
   .exact⟨rfl,by show _<=((s.length:Nat):Int);omega,by show((s.length:Nat):Int)<=_;omega⟩
   rename_i c4;rw[if_neg c4]at ce;split
   .rename_i c5;rw[if_pos c5]at ce;exact absurd rfl ce
   exact⟨rfl,by show _<=((a:Nat):Int);omega,by show((a:Nat):Int)<=_;omega⟩
  exact F d t R.e R.fat 0 R.fat (R.nx:Nat) v9 (j.more oy) ce (by rw[Int.add_zero,zD oy oy]) X.1 (g.sub da)
 rw[if_neg oy]at k;refine⟨λc4=>?_,λc4=>?_⟩
 .have c4:(s.length:Int)<((a+1+A.toNat:Nat):Int):=c4;rw[if_pos oy]at k;obtain⟨h16,h17,h18,e16,e17,e18,w18,n18⟩:=U 5 s.length z 4 [(D.nx,kn 0)] 0 0 0 .nilslice M (oV _) oy oy;refine⟨h16,e16,h17,e17,h18,e18,J.on λd g=>?_⟩;exact F d h18 5 s.length 0 s.length 0 .nilslice (w18.more oy) db (by rw[Int.add_zero,zD oy oy]) k.symm (g.sub da)
 have c4:¬(s.length:Int)<((a+1+A.toNat:Nat):Int):=c4;rw[if_neg oy,qZ]at k;have hbl:((s.drop (a+1)).take A.toNat).length<=1500:=by rw[List.length_take,List.length_drop];omega
 have hbf:=zFo (b:=(s.drop (a+1)).take A.toNat);have key:∀d,Has d [(4,.ptr h.nx 0),(5,.ptr h1.nx 0),(6,.ptr o.nx 0),(1,dd a),(8,dd (A.toNat:Nat)),(0,.str s),(7,.ptr D.nx 0)] ->
   Wf jv zJL ⟨80,d,[.fn 38 [.ptr o.nx 0,.ptr h.nx 0,.ptr h1.nx 0,.ptr D.nx 0] []],z⟩ (λe s1=>(thenC (sealK jv λs1=>Wf jv zJN s1 (zp jv (endW1 P zB ⟨80,[.cell 4 23,.cell 5 3,.cell 6 26],bf 10⟩ Q))) (zp jv (endW1 P zB ⟨80,[.cell 4 23,.cell 5 3,.cell 6 26],bf 10⟩ Q))) (exitB 0 e) s1):=by
  intro d g;obtain⟨L,e10,B,n10,_⟩:=M.st (cx:=zB) 2 (f:=0) (u:=dd (a+1+A.toNat:Nat)) rfl oy zm rfl;have l10:=B.low;have t10:=B.top;have esl:=xN (s:=s) (x:=a+1) (y:=a+1+A.toNat) (h:=L) oy oy;unfold zH at esl;rw[show a+1+A.toNat-(a+1)=A.toNat by omega]at esl;generalize (s.drop (a+1)).take A.toNat=body at k hbl hbf esl;refine wpS.av g zXI rfl rfl ?_;try dsimp only
  rw[ea1,ea2];refine⟨L,e10,_,B.ld1 2 rfl zm rfl,_,esl,zM8 oy oy oy λh11 v11 x11 r hv11=>⟨v11,_,_,rfl,?_⟩⟩;have w11:=B.ext x11;have t11:=w11.top;have lt0:h.nx<L.nx:=B.lt 3 rfl;have lt1:h1.nx<L.nx:=B.lt 2 rfl;have lt3:o.nx<L.nx:=B.lt 1 rfl;have lt5:D.nx<L.nx:=B.lt 0 rfl;obtain⟨h13,e13,w13,n13,k13⟩:=w11.st (cx:=zB) 3 (f:=0) (u:=v11) (cs':=.ls [v11]) rfl oy z7 (by rw[r.one1.1];rfl) (by rw[r.one1.1];rfl) (oQ _) (by rw[r.one1.1];exact r.one1.2);obtain⟨h14,e14,w14,n14,k14⟩:=w13.st (cx:=zB) 1 (f:=0) (u:=.agg [dd (xA body).e,dd ((xA body).fat:Nat)]) rfl oy zd rfl;obtain⟨t,e15,j,n15,k15⟩:=w14.st (cx:=zB) 0 (f:=0) (u:=dd (a+1:Nat)) rfl oy zm rfl;have hvb:∀b,yG v11=some b->b≠h.nx/\b≠h1.nx/\b≠o.nx/\b≠D.nx:=λb hb=>by have:=hv11 b hb;omega
  have I:=r.keep (h':=t) oy λb hb=>by have:=hvb b hb;rw[k15 b oy,k14 b oy,k13 b oy]
  have l15:=j.low;have t15:=j.top;refine⟨h13,e13,h14,e14,t,e15,g.on λwH hs4=>thenC.out (hs4.sealK λKm hs5=>?_)⟩;refine wpS.av hs5 zXJ rfl rfl ?_;try dsimp only
  rw[zMW];have fin:∀(tm:Tm) (h2:H) (x y N n:Int),Vw zN h h2 1600 [(D.nx,kn N),(o.nx,Xx x y),(h1.nx,kn n),(h.nx,qk v11)]->(x≠0/\(∃fat,zG (y+N)=fat/\R=⟨[],0,x,fat⟩)\/x=0/\y=R.fat/\n=(R.nx:Nat)/\R.e=0/\Ow h2 v11 yn R.l.length (zV R.l))->Has tm [(4,.ptr h.nx 0),(5,.ptr h1.nx 0),(6,.ptr o.nx 0)] ->
    Wf jv zCM ⟨80,tm,[.fn 38 [.ptr o.nx 0,.ptr h.nx 0,.ptr h1.nx 0,.ptr D.nx 0] []],h2⟩ (zp jv (zp jv (endW1 P zB ⟨80,[.cell 4 23,.cell 5 3,.cell 6 26],bf 10⟩ Q))):=by
   intro tm h2 x y N n w hcase hs;have tw:=w.top;have lw:=w.low;refine zWf w r.one1 hs oy oy λtm' h' hs' w' n' k'=>hs'.slt λtm6 m=>m.slt λZ C=>?_
   rcases hcase with⟨hx,fat,hf,X⟩|⟨hx,hy,hnn,he,ow⟩
   .exact F Z h' x y N fat n v11 (w'.more oy) hx hf X (C.sub da)
   subst hx hy hnn;exact Y Z h' N v11 (w'.more oy) he (ow.keep oy λb hb=>by have:=hvb b hb;exact k' b this.1 this.2.1 this.2.2.1) (λb hb=>by have:=hv11 b hb;omega) (C.sub da)
  refine⟨_,j.ld1 1 rfl yh rfl,λc6=>?_,λc6=>hs5.on λtm6 m=>?_⟩
  .rw[if_neg (λq=>q c6)]at k;refine⟨v11,j.ld1 3 rfl z7 rfl,zFw I.sl (by have:=zFp body;omega) ⟨_,rfl,λc7=>hs5.on λtm6 m=>?_,λc7=>hs5.on λtm6 m=>?_⟩⟩
   .rw[if_neg c7]at k;obtain⟨h16,e16,w16,n16,_⟩:=j.st (cx:=zB) 1 (f:=0) (u:=.agg [dd 21,dd a]) rfl oy zd rfl;obtain⟨h17,e17,w17,n17,_⟩:=w16.st (cx:=zB) 0 (f:=0) (u:=dd 0) rfl oy zm rfl;refine wpS.av m zIJ rfl rfl ⟨h16,e16,h17,e17,m.on λZ C=>thenC.nx (C.sealK λtm8 hs8=>?_)⟩;exact fin tm8 h17 21 a 0 _ (w17.more oy) (.inl ⟨db,a,by rw[Int.add_zero,zD oy oy],k.symm⟩) (hs8.sub da)
   rw[if_pos oy]at k;refine wpS.av m zIJ rfl rfl (m.on λZ C=>thenC.nx (C.sealK λtm8 hs8=>?_));have hff:(xA body).fat=0:=by
    revert c6;unfold xA;split
    .intro _;rfl
    split
    .rename_i c8;intro q;exact absurd q c8
    intro _;rfl
   rw[c6,hff]at j;subst k;exact fin tm8 t 0 0 (a+1:Nat) _ (j.more oy) (.inr ⟨rfl,rfl,rfl,rfl,I⟩) (hs8.sub da)
  rw[if_pos c6]at k;refine wpS.av m zIJ rfl rfl (m.on λZ C=>thenC.nx (C.sealK λtm8 hs8=>?_));exact fin tm8 t _ _ (a+1:Nat) _ (j.more oy) (.inl ⟨c6,_,by rw[zD oy oy],by rw[<-k];congr 1;omega⟩) (hs8.sub da)
 exact⟨λ_=>J.on λd g=>key d (g.sub da),λ_=>J.on λd g=>key d (g.sub da)⟩
end Go.Proofs.YtnpeieeomokomaaGreat
namespace Go.Proofs.YtnpeieeomokomaaGreat
open Go.Sim
variable {h:H}{Q:Uc}
theorem KF{s:Ua}{a:Int}(h:(yE s a).e=0):XS (yE s a).l=0/\(yE s a).fat=0:=by
 unfold yE at h ⊢;split
 .rename_i c;rw[if_pos c]at h;cases h
 rename_i c;rw[if_neg c]at h;split
 .rename_i e;rw[e]at h;cases h
 rename_i i e;rw[e]at h;simp only at h;split
 .rename_i f;rw[if_pos f]at h;unfold yd at h ⊢;split
  .rename_i d;rw[if_pos d]at h;cases h
  rename_i d;rw[if_neg d]at h;split
  .rename_i b;exact⟨b,rfl⟩
  rename_i b;rw[if_neg b]at h;cases h
 rename_i f;rw[if_neg f]at h;split
 .rename_i d;rw[if_pos d]at h;cases h
 rename_i d;rw[if_neg d,qZ]at h;rw[qZ];split
 .rename_i b;rw[if_pos b]at h;exact absurd h b
 rename_i b;rw[if_neg b]at h;split
 .rename_i g;exact⟨g,rfl⟩
 rename_i g;rw[if_neg g]at h;cases h
def ye(s:Ua)(a:Int):Rd:=if (yE s a).e=0 then ⟨xb (yE s a).l,(yE s a).nx,0,0⟩ else ⟨[],0,(yE s a).e,(yE s a).fat⟩
theorem Xr(l:Ub):(xb l).length=l.length+1:=by unfold xb;rw[JU];simp
theorem zAv{s:Ua}{at':Int}(hs:s.length<=1500)(hn:h.nx+2200<=T.top)(E:h.low<=T.top)(n:∀h' v',Ext h h' 2100->Sl h' v' 1 (ye s at').l.length (zV (ye s at').l)->(∀b,yG v'=some b->h.nx<=b)->Q (.tuple [v',dd ((ye s at').nx:Nat),flt (ye s at').e (ye s at').fat]) h'):
  RF P zB 13 [.str s,dd at'] h Q:=by
 generalize hR:ye s at'=R at n;unfold ye at hR;refine enO z3S rfl rfl zWo ⟨oy,?_⟩;rintro p0 h1 rfl F;have p:=(Vw.nil (S:=zN) (h:=h)).new F oy;have t1:=p.top;have l1:=p.low;have n1:h1.nx=h.nx+1:=by rw[F,z8]
 refine zGV hs oy oy λh3 v4 I q r=>⟨_,_,_,_,rfl,?_⟩
 have G:=p.ext I;have t3:=G.top;obtain⟨H,J,e,n8,K⟩:=G.st (cx:=zB) 0 (f:=0) (u:=.agg [dd (yE s at').e,dd (yE s at').fat]) rfl oy zd rfl;have l8:=e.low;have t8:=e.top;have t:=q.keep (h':=H) oy λb hb=>K b (by have:=r b hb;omega)
 refine⟨H,J,_,e.ld1 0 rfl yh rfl,λc=>?_,λc=>?_⟩
 .rw[if_neg c]at hR;obtain⟨i,v,j,L,_⟩:=e.st (cx:=zB) 0 (f:=0) (u:=.agg [dd (yE s at').e,dd (yE s at').fat]) rfl oy zd rfl;refine⟨⟨oy,oy⟩,_,_,e.ldA 0 rfl zd rfl,i,v,endL.ok (leaveL.cell (a:=6) (j.ldA 0 rfl zd rfl) rfl) ?_⟩;have:=n i .nilslice (j.ex0.mono oy);rw[<-hR]at this;exact this ⟨by simp,.inl ⟨rfl,rfl⟩⟩ λb hb=>(by cases hb)
 have x:(yE s at').e=0:=oy
 rw[if_pos x]at hR;obtain⟨hr,M⟩:=KF x;refine zHS t hr oy λN y z A g=>⟨_,_,rfl,?_⟩
 have d:=e.ext z;have O:=d.top;have U:=d.low;obtain⟨l,B,m,V,C⟩:=d.st (cx:=zB) 0 (f:=0) (u:=.agg [dd (yE s at').e,dd (yE s at').fat]) rfl oy zd rfl;refine⟨⟨oy,oy⟩,_,_,d.ldA 0 rfl zd rfl,l,B,endL.ok (leaveL.cell (a:=6) (m.ldA 0 rfl zd rfl) rfl) ?_⟩;have:=n l y (m.ex0.mono oy);rw[<-hR,Xr]at this;rw[x,M];refine this ?_ λb hb=>by have:=g b hb;have:=e.le;omega
 obtain⟨W,X⟩:=A;refine⟨W,X.imp id ?_⟩;rintro⟨b,o,Y,cs,k,w,op,rfl,hb,Z,hc⟩;have D:b≠h.nx:=by have:=g b rfl;have:=e.lt 0 rfl;omega
 exact⟨b,o,Y,cs,k,w,op,rfl,oy,by rw[C b D];exact Z,hc⟩
theorem zHE{p o:Nat}{k:Uc}:zP zB 114 0 h (.ptr p o) k=k (.ptr p (o+0)) h:=da
theorem xf{p o:Nat}{k:Uc}:zP zB 114 1 h (.ptr p o) k=k (.ptr p (o+2)) h:=da
theorem zKx{s:Ua}{r p left:Nat}(L:h.get r=some (oRr s p 0))(hr:r<h.nx)(M:h.nx+4<=T.top)(hs:s.length<=1048576)(I:p<=8*s.length)(hl:0<left)(N:left<=1048576)(j:∀v q,wp s left p=some (v,q)->∀h',ExtX (· = r) h h' 3->h'.get r=some (oRr s q 0)->Q (dd (v:Nat)) h')(t:wp s left p=none->∀x h' O,ExtX (· = r) h h' 3->h'.get r=some (oRr s O 23)->Q (dd x) h'):RF P zB 147 [.ptr r 0,dd left] h Q:=by
 have R:=JN left;have hB:xX left<=21:=yK;have U:=zDp left;have hT:=zHt hl;have pw:2^(xX left-1)<=2^20:=Nat.pow_le_pow_right db oy;have w:=Vw.one (S:=(· = r)) L hr rfl;have el:zG ((left:Int)+1)=((left+1:Nat):Int):=by rw[zD oy oy];rfl
 have J:zG (((xX left:Nat):Int)-1)=((xX left-1:Nat):Int):=by rw[zD oy oy];omega
 have V:zG (zG (((1*2^xX left:Nat):Int)-1)-((left+1:Nat):Int))=((shT left:Nat):Int):=by rw[zD (n:=((1*2^xX left:Nat):Int)-1) oy oy,zD oy oy];unfold shT;omega
 refine yU z04 ?_;try dsimp only
 rw[el];refine zCV ⟨_,rfl,((1*2^xX left:Nat):Int),?_,.ptr r 0,h,rfl,?_⟩
 .show zj .shl .i64 1 (zU .u64 ((xX left:Nat):Int))=_;rw[zb oy];exact zz (a:=1) oy oy
 try dsimp only
 rw[zHE];refine⟨s,p,w.ldA 0 rfl yt rfl,oy,?_⟩;rintro W X rfl E;have y:=w.new E oy;have Y:=y.top;obtain⟨z,F,g,Z,_⟩:=y.st (cx:=zB) 0 (f:=0) (u:=.agg [.str s,dd p]) rfl oy yt rfl;refine⟨z,F,?_⟩;show RF P zB 83 [.ptr r 0,dd (zG (((xX left:Nat):Int)-1))] z _;try dsimp only
 rw[J];refine JG (n:=xX left-1) (g.get 1 rfl) (g.lt 1 rfl) oy hs I oy (λc2 d k l=>?_) (λc2 d k l=>?_)
 rotate_left
 .have b:=g.extX 1 rfl k l;refine⟨0,rfl,.ptr r 0,d,rfl,?_⟩;try dsimp only
  rw[xf];refine⟨23,b.ld1 1 rfl yh rfl,λ_=>t ?_ 0 d p ((b.drop 1).more oy).ex (b.get 1 rfl),λq=>absurd (show(23:Int)≠0 by decide) q⟩;unfold wp;rw[if_pos oy]
 have b:=g.extX 1 rfl k l;have t14:=b.top;have fl:=jE s p (xX left-1);refine⟨_,rfl,.ptr r 0,d,rfl,?_⟩;try dsimp only
 rw[xf,V];refine⟨0,b.ld1 1 rfl yh rfl,λq=>absurd rfl q,λ_=>?_⟩;refine⟨λc3=>?_,λc3=>Has.nil.on λtm i=>?_⟩
 .refine j _ (p+(xX left-1)) ?_ d (b.more oy).ex (b.get 1 rfl);unfold wp;rw[if_neg oy,if_pos oy]
 refine wpS.av i zSl rfl rfl ⟨s,p,b.ldA 0 rfl yt rfl,.ptr r 0,d,rfl,?_⟩;try dsimp only
 rw[zHE];obtain⟨K,e6,B,n6,_⟩:=b.st (cx:=zB) 1 (f:=0) (u:=.agg [.str s,dd p]) rfl oy yt rfl;refine⟨K,e6,?_⟩;show RF P zB 83 [.ptr r 0,dd ((xX left:Nat):Int)] K _;have A:zU .u64 (zG (((xX left:Nat):Int)-1))=((xX left-1:Nat):Int):=by rw[J,zb oy]
 refine JG (n:=xX left) (B.get 1 rfl) (B.lt 1 rfl) oy hs I oy (λc4 C G H=>?_) (λc4 C G H=>?_)
 .have m:=B.extX 1 rfl G H;have fu:=jE s p (xX left);have c:wp s left p=some (if 2^(xX left-1)<=zu s p (xX left) then zu s p (xX left)-shT left else zu s p (xX left),p+xX left):=by
   unfold wp;rw[if_neg oy,if_neg oy,if_neg oy]
  refine⟨_,rfl,((1*2^(xX left-1):Nat):Int),?_,λD=>i.on λqM e=>endW.r1 (e.get rfl) ?_,λD=>i.on λqM e=>endW.r1 (e.get rfl) ?_⟩
  .show zj .shl .i64 1 (zU .u64 (zG (((xX left:Nat):Int)-1)))=_;rw[A];exact zz (a:=1) oy oy
  .rw[if_pos oy]at c;have e2:zG (((zu s p (xX left):Nat):Int)-((shT left:Nat):Int))=((zu s p (xX left)-shT left:Nat):Int):=by
    have:shT left<=zu s p (xX left):=by unfold shT at *;omega
    rw[zD oy oy];omega
   try dsimp only
   rw[e2];exact j _ _ c C (m.more oy).ex (m.get 1 rfl)
  rw[if_neg oy]at c;exact j _ _ c C (m.more oy).ex (m.get 1 rfl)
 have m:=B.extX 1 rfl G H;have o:wp s left p=none:=by unfold wp;rw[if_neg oy,if_neg oy,if_pos oy]
 have hpp:0<2^(xX left-1):=Nat.pow_pos db;refine⟨0,rfl,((1*2^(xX left-1):Nat):Int),?_,λD=>absurd D oy,λD=>i.on λqM e=>endW.r1 (e.get rfl) ?_⟩
 .show zj .shl .i64 1 (zU .u64 (zG (((xX left:Nat):Int)-1)))=_;rw[A];exact zz (a:=1) oy oy
 exact t o 0 C p (m.more oy).ex (m.get 1 rfl)
structure RpI (hb h:H) (c r:Nat) (s:Ua) (p:Nat) (e:Int) (v:V) (l:Ub):Prop where
 vw:Vw (· = r) hb h c [(r,oRr s p e)]
 ow:Ow h v yn l.length (zV l)
 sp:Sep (· = r) hb.nx [(r,oRr s p e)] v
theorem RpI.step{hb h h':H}{c m r p q:Nat}{s:Ua}{e a:Int}{v:V}{l:Ub}(i:RpI hb h c r s p e v l)(x:ExtX (· = r) h h' m)(g:h'.get r=some (oRr s q a)):RpI hb h' (c+m) r s q a v l :=
 ⟨i.vw.extX 0 rfl x g,i.ow.keep x.le λb hb=>x.get _ (i.ow.blk hb) λq=>(i.sp b hb).2 _ (List.mem_cons_self ..) q.symm,i.sp.head⟩
theorem RpI.grow{hb h h':H}{c m r p:Nat}{s:Ua}{e:Int}{v v':V}{l l':Ub}(i:RpI hb h c r s p e v l)(o:Ow h' v' yn l'.length (zV l'))(x:ExtX (λb=>yG v=some b) h h' m)(a:∀b,yG v'=some b->yG v=some b\/h.nx<=b):RpI hb h' (c+m) r s p e v' l':=by
 refine⟨i.vw.apart x (λb g=>(i.sp b g).1) (λq d g=>(i.sp _ g).2 q d rfl),o,λb g=>?_⟩;rcases a b g with q|q
 .exact i.sp b q
 refine⟨.inr (oW i.vw.le q),λz f=>?_⟩;have:=i.vw.bk.lt z f;omega
theorem zCX{hb h:H}{c c0 r symbols:Nat}{s:Ua}{p f:Nat}{v:V}{l0:Ub}{b9:Bool}{left:Int}{tm:Tm}{Z0:Option (Nat×Nat)}{R:Ud}(hs:s.length<=1048576)(Y:symbols<=256)(I:RpI hb h c r s p 0 v l0)(z:p<=8*s.length)(hl:l0.length<=symbols)(hn:hb.nx+8*symbols+c0+10<=T.top)(A:c+2<=8*l0.length+c0)(a:b9=true/\ym s symbols f p l0.length=Z0/\symbols<f+l0.length\/b9=false/\Z0=some (l0.length,p))(t:Has tm [(9,.bool b9),(0,.ptr r 0),(7,v),(2,dd symbols),(1,dd left)])(w:Z0=none->∀i h' v' l' B,RpI hb h' (8*symbols+c0+10) r s B 23 v' l'->Has i [(6,.nilslice)]->R .ret ⟨77,i,[],h'⟩)(x:∀i h' v' j B c',Z0=some (l0.length+j,B)->c'<=8*(l0.length+j)+c0->l0.length+j<=symbols->B<=8*s.length->RpI hb h' c' r s B 0 v' (l0++List.replicate j 0)->Has i [(0,.ptr r 0),(7,v'),(2,dd symbols),(1,dd left)]->R (.exit 2) ⟨77,i,[],h'⟩):
  wpC P zB false (.loop zIr) ⟨77,tm,[],h⟩ R:=by
 refine wpC.round (λk tm h=>∃(c p:Nat) (v:V) (j:Nat) (b9:Bool),RpI hb h c r s p 0 v (l0++List.replicate j 0)/\p<=8*s.length/\l0.length+j<=symbols /\
  (b9=true/\0<k/\ym s symbols (k-1) p (l0.length+j)=Z0/\symbols<(k-1)+(l0.length+j)/\c+2<=8*(l0.length+j)+c0\/b9=false/\Z0=some (l0.length+j,p)/\c<=8*(l0.length+j)+c0) /\
  Has tm [(9,.bool b9),(0,.ptr r 0),(7,v),(2,dd symbols),(1,dd left)]) (f+1)
  ⟨c,p,v,0,b9,by simpa using I,z,hl,by
   rcases a with⟨h1,L,Z⟩|⟨h1,L⟩
   .exact .inl ⟨h1,oy,L,by simpa using Z,A⟩
   exact .inr ⟨h1,L,by simp;omega⟩,t⟩ ?_
 clear I a t z hl A;rintro k tm h ⟨c,p,v,j,b9,I,z,hl,a,t⟩;have C:(l0++List.replicate j 0).length=l0.length+j:=by simp
 rcases a with⟨rfl,hk,a,hf,A⟩|⟨rfl,a,A⟩
 rotate_left
 .exact wpC.av t zPu rfl rfl (t.on λi M=>x i h v j p c a A hl z I (M.sub da))
 obtain⟨g,rfl⟩:∃g,k=g+1+1:=by
  rcases k with _|k
  .omega
  rcases k with _|k
  .omega
  exact⟨k,rfl⟩
 rw[show g+1+1-1=g+1 by omega]at a hf;unfold ym at a;have tI:=I.vw.top;refine wpC.av t zPu rfl rfl ?_;refine JG (n:=2) (I.vw.get 0 rfl) (I.vw.lt 0 rfl) oy hs z db (λc2 h1 N O=>?_) (λc2 h1 N O=>?_)
 rotate_left
 · -- bits are missing
  rw[if_pos oy]at a;have I1:=I.step N O;refine⟨0,rfl,.ptr r 0,h1,rfl,?_⟩;try dsimp only
  rw[xf];refine⟨23,I1.vw.ld1 0 rfl yh rfl,λq=>absurd q db,λ_=>t.on λqM e=>?_⟩;refine wpS.av e zIM rfl rfl (e.on λD o=>thenC.nx (o.sealK λE d=>?_));refine wpS.av d zIN rfl rfl ⟨.ptr r 0,h1,rfl,?_⟩;try dsimp only
  rw[xf];refine⟨23,I1.vw.ld1 0 rfl yh rfl,λ_=>d.on λwH l=>?_,λq=>absurd (show(23:Int)≠0 by decide) q⟩;show zp J2 _ .ret _;exact l.slt λKm m=>w a.symm Km h1 v _ p ⟨I1.vw.more oy,I1.ow,I1.sp⟩ (m.sub da)
 rw[if_neg oy]at a;have I1:=I.step N O;have t1:=I1.vw.top;have fl:=jE s p 2;refine⟨_,rfl,.ptr r 0,h1,rfl,?_⟩;try dsimp only
 rw[xf];refine⟨0,I1.vw.ld1 0 rfl yh rfl,λ_=>⟨_,I1.ow.sl.len z7 rfl,?_⟩,λq=>absurd rfl q⟩;have F:zG ((((l0++List.replicate j (0:Int)).length:Nat):Int)+((zu s p 2:Nat):Int))=((l0.length+j+zu s p 2:Nat):Int):=by rw[C,zD oy oy];rfl
 try dsimp only
 rw[F];refine⟨λc3=>t.on λqM e=>?_,λc3=>t.on λqM e=>?_⟩
 · -- too many
  rw[if_pos oy]at a;obtain⟨J,e4,X,n4,k4⟩:=I1.vw.st (cx:=zB) 0 (f:=0+2) (u:=dd 23) rfl oy yh rfl;have S:=I1.ow.keep (h':=J) oy λb hb=>k4 b λq=>(I1.sp b hb).2 _ (List.mem_cons_self ..) q.symm
  refine wpS.av e zIM rfl rfl ⟨.ptr r 0,h1,rfl,?_⟩;try dsimp only
  rw[xf];refine⟨J,e4,e.on λD o=>thenC.nx (o.sealK λE d=>?_)⟩;refine wpS.av d zIN rfl rfl ⟨.ptr r 0,J,rfl,?_⟩;try dsimp only
  rw[xf];refine⟨23,X.ld1 0 rfl yh rfl,λ_=>d.on λwH l=>?_,λq=>absurd (show(23:Int)≠0 by decide) q⟩;show zp J2 _ .ret _;exact l.slt λKm m=>w a.symm Km J v _ (p+2) ⟨X.more oy,S,I1.sp.head⟩ (m.sub da)
 rw[if_neg oy]at a;refine wpS.av e zIM rfl rfl (e.on λD o=>thenC.nx (o.sealK λE d=>?_));refine wpS.av d zIN rfl rfl ⟨.ptr r 0,h1,rfl,?_⟩;try dsimp only
 rw[xf];refine⟨0,I1.vw.ld1 0 rfl yh rfl,λq=>absurd rfl q,λ_=>?_⟩;refine zKw I1.ow oy oy oy λv' h' G x' U=>⟨_,rfl,?_⟩
 have W:(l0++List.replicate j 0)++List.replicate (zu s p 2) 0=l0++List.replicate (j+zu s p 2) 0:=by rw[List.append_assoc,List.replicate_append_replicate]
 rw[W]at G;have y:(l0++List.replicate (j+zu s p 2) 0).length=(l0++List.replicate j 0).length+zu s p 2:=by simp;omega
 have I2:=I1.grow (v':=v') (l':=l0++List.replicate (j+zu s p 2) 0) (by rw[y];exact G) x' U;refine⟨λc4=>d.on λwH l=>?_,λc4=>d.on λwH l=>?_⟩
 .have K:zu s p 2=3:=oy
  rw[if_pos K]at a;show zp J2 _ .normal _;refine l.slt λKm m=>⟨rfl,rfl,g+1,oy,_,p+2,v',j+zu s p 2,true,I2,oy,oy,.inl ⟨rfl,oy,?_,oy,oy⟩,m.sub da⟩
  rw[show g+1-1=g by omega,<-a,K];congr 1
 have K:zu s p 2≠3:=oy
 rw[if_neg K]at a;show zp J2 _ .normal _;refine l.slt λKm m=>⟨rfl,rfl,0,oy,_,p+2,v',j+zu s p 2,false,I2,oy,oy,.inr ⟨rfl,?_,oy⟩,m.sub da⟩
 rw[<-a,Nat.add_assoc]
theorem zKr{s:Ua}{r p left symbols:Nat}(hg:h.get r=some (oRr s p 0))(hr:r<h.nx)(hs:s.length<=1048576)(R:p<=8*s.length)(hl:left<=1048576)(S:symbols<=256)(hn:h.nx+8*symbols+30<=T.top)(t:yX s symbols (symbols+2) left p []=none->∀h' p',ExtX (· = r) h h' (8*symbols+30)->h'.get r=some (oRr s p' 23)->Q .nilslice h')(z:∀l q v h',yX s symbols (symbols+2) left p []=some (l,q)->ExtX (· = r) h h' (8*symbols+30)->h'.get r=some (oRr s q 0)->Ow h' v yn l.length (zV l)->(∀b,yG v=some b->h.nx<=b)->q<=8*s.length->l.length<=symbols->Q v h'):
  RF P zB 84 [.ptr r 0,dd left,dd symbols] h Q:=by
 generalize B:yX s symbols (symbols+2) left p []=R0 at t z;refine yU z4V (Has.nil.on λtm U=>?_);refine wpC.round (λk tm h'=>∃(c p:Nat) (v:V) (l:Ub) (left:Nat),RpI h h' c r s p 0 v l/\yX s symbols k left p l=R0/\symbols+2<=k+l.length/\l.length<=symbols/\p<=8*s.length/\left<=1048576/\c<=8*l.length+3 /\
  Has tm [(1,dd (left:Nat)),(0,.ptr r 0),(7,v),(2,dd symbols)]) (symbols+2)
  ⟨0,p,.nilslice,[],left,⟨Vw.one hg hr rfl,Ow.nil _ _,λb hb=>(by cases hb)⟩,B,by simp,by simp,R,hl,by simp,U.sub da⟩ ?_
 clear U hg R hl B;rintro k tm h' ⟨c,p,v,l,left,I,B,hf,hl,R,W,hc,ht⟩;have tI:=I.vw.top;obtain⟨k,rfl⟩:∃g,k=g+1:=⟨k-1,oy⟩;refine wpC.av ht zXC rfl rfl ⟨λc1=>⟨.ptr r 0,h',rfl,?_⟩,λc1=>ht.on λtm' X=>?_⟩
 rotate_left
 .have:left=0:=oy
  subst this;have w:R0=some (l,p):=by rw[<-B];rfl
  refine thenC.left (wpS.av X zXv rfl rfl (X.on λG d=>endW.r1 (d.get rfl) ?_));refine z l p v h' w ((I.vw.more oy).ex) (I.vw.get 0 rfl) I.ow (λb hb=>?_) R hl;rcases(I.sp b hb).1 with q|q
  .exact absurd q.symm ((I.sp b hb).2 _ (List.mem_cons_self ..))
  exact q
 have C:0<left:=oy
 have a:R0=match wp s left p with
  | none=>none
  | some (v,q) =>
   if l.length=symbols then none
   else if v=1 then
    match ym s symbols (symbols+1) q (l.length+1)with
    | none=>none
    | some (n,r)=>yX s symbols k left r (l++List.replicate (n-l.length) 0)
   else yX s symbols k (left-max (v-1) 1) q (l++[(v:Int)-1]):=by
  rw[<-B];show(if left=0 then some (l,p) else _)=_;rw[if_neg oy];try rfl
 try dsimp only
 rw[xf];refine⟨0,I.vw.ld1 0 rfl yh rfl,λ_=>ht.on λqM D=>?_,λq=>absurd rfl q⟩;refine wpS.av D zXu rfl rfl ?_;refine zKx (I.vw.get 0 rfl) (I.vw.lt 0 rfl) oy hs R C W (λx q hx h1 x1 g1=>⟨_,rfl,.ptr r 0,h1,rfl,?_⟩) (λhx x h1 p1 x1 g1=>⟨x,rfl,.ptr r 0,h1,rfl,?_⟩)
 rotate_left
 .have I1:=I.step x1 g1;try dsimp only
  rw[xf];refine⟨23,I1.vw.ld1 0 rfl yh rfl,λ_=>D.on λG d=>d.slt λH e=>?_,λq=>absurd (show(23:Int)≠0 by decide) q⟩;refine thenC.rt (thenC.rt (endW.r1 (e.get rfl) ?_));exact t (by rw[a,hx]) h1 p1 ((I1.vw.more oy).ex) g1
 have I1:=I.step x1 g1;have t1:=I1.vw.top;obtain⟨hx1,hq⟩:=JK C hx;rw[hx]at a;simp only at a;try dsimp only
 rw[xf];refine⟨0,I1.vw.ld1 0 rfl yh rfl,λq=>absurd rfl q,λ_=>⟨_,I1.ow.sl.len z7 rfl,λc2=>⟨.ptr r 0,h1,rfl,?_⟩,λc2=>?_⟩⟩
 · -- too many
  rw[if_pos oy]at a;try dsimp only
  rw[xf];obtain⟨h4,e4,w4,n4,k4⟩:=I1.vw.st (cx:=zB) 0 (f:=0+2) (u:=dd 23) rfl oy yh rfl;refine⟨h4,e4,D.on λG d=>d.slt λH e=>?_⟩;refine thenC.rt (thenC.rt (endW.r1 (e.get rfl) ?_));exact t a h4 q ((w4.more oy).ex) (w4.get 0 rfl)
 rw[if_neg oy]at a;have ex1:zG (((x:Nat):Int)-1)=(x:Int)-1:=zD oy oy;try dsimp only
 rw[ex1];obtain⟨v14,h15,e14,Y,J⟩:=we (h:=h1) ((x:Int)-1) oy;have t15:=J.top;have l15:=J.le;obtain⟨Z,h17,e16,A⟩:=Ow.append (c:=zB) (te:=yn) (m:=1) (I1.ow.ext J) Y db z7 rfl zm rfl rfl (by show(l.length+1)*1<=_;omega) (by show(l.length+1)*8<=_;omega) oy;obtain⟨w17,ow17,sp17⟩:=(I1.vw.ext J).grow (k:=(l++[(x:Int)-1]).length) (xs:=zV (l++[(x:Int)-1])) I1.sp (by rw[xQ,oe];exact A);have t17:=w17.top;obtain⟨v18,h19,e18,sl19,x19⟩:=we (h:=h17) ((x:Int)-1) oy;have I19:RpI h h19 (c+3+1+1+1) r s q 0 Z (l++[(x:Int)-1]):=⟨w17.ext x19,ow17.ext x19,sp17⟩;have t19:=I19.vw.top;refine⟨v14,h15,e14,trivial,Z,h17,e16,v18,h19,e18,?_⟩;refine zA9 (l:=[(x:Int)-1]) sl19 (by simp) (λy hy=>by rw[List.mem_singleton.1 hy];omega) ⟨_,rfl,?_⟩;have i:(l++[(x:Int)-1]).length=l.length+1:=by simp
 rw[OM];refine⟨λc3=>D.on λG d=>?_,λc3=>D.on λG d=>?_⟩
 .have K:x=1:=oy
  subst K;rw[if_pos rfl]at a;have L:zG ((left:Int)-pt (((1:Nat):Int)-1))=((left:Nat):Int):=by have:pt (((1:Nat):Int)-1)=0:=rfl;rw[this,zD oy oy];omega
  rw[L]at d;refine zCX (c0:=3) (f:=symbols+1) (b9:=true) (Z0:=ym s symbols (symbols+1) q (l.length+1)) (left:=(left:Nat)) hs S I19 hq (by rw[i];omega) oy (by rw[i];omega) (.inl ⟨rfl,by rw[i],by rw[i];omega⟩) (d.sub da) (λw H h3 v3 l3 O I3 e=>?_) (λH h3 v3 j O c3 w M hj N I3 e=>?_)
  .show zp J2 _ .ret _;refine e.slt λwH E=>E.slt λKm F=>thenC.rt (thenC.rt (endW.r1 (F.get rfl) ?_))
   exact t (by rw[a,w]) h3 O ((I3.vw.more oy).ex) (I3.vw.get 0 rfl)
  rw[i]at w M hj;rw[w]at a;simp only at a;show zp J2 _ .normal _;have e2:(l++[((1:Nat):Int)-1])++List.replicate j 0=l++List.replicate (l.length+1+j-l.length) 0:=by rw[show l.length+1+j-l.length=j+1 by omega,List.replicate_succ,List.append_assoc];rfl
  rw[e2]at I3;refine e.slt λwH E=>E.slt λKm F=>⟨rfl,rfl,k,oy,c3,O,v3,_,left,I3,a.symm,by simp;omega,by simp;omega,N,W,by simp;omega,F.sub da⟩
 have K:x≠1:=oy
 rw[if_neg K]at a;have L:zG ((left:Int)-pt ((x:Int)-1))=((left-max (x-1) 1:Nat):Int):=by
  have:pt ((x:Int)-1)=((max (x-1) 1:Nat):Int):=by unfold pt;split<;>omega
  rw[this,zD oy oy];omega
 rw[L]at d;refine zCX (c0:=3) (f:=0) (b9:=false) (Z0:=some (l.length+1,q)) (left:=(left-max (x-1) 1:Nat)) hs S I19 hq (by rw[i];omega) oy (by rw[i];omega) (.inr ⟨rfl,by rw[i]⟩) (d.sub da) (λw=>(by cases w)) (λH h3 v3 j O c3 w M hj N I3 e=>?_);rw[i]at w M hj;have hj0:j=0:=by have:=congrArg (λo:Option (Nat×Nat)=>(o.getD (0,0)).1) w;simp at this;omega
 have hpq:O=q:=by have:=congrArg (λo:Option (Nat×Nat)=>(o.getD (0,0)).2) w;simp at this;omega
 subst hj0 hpq;rw[List.replicate_zero,List.append_nil]at I3;show zp J2 _ .normal _;refine e.slt λwH E=>E.slt λKm F=>⟨rfl,rfl,k,oy,c3,O,v3,_,left-max (x-1) 1,I3,a.symm,by simp;omega,by simp;omega,N,oy,by simp;omega,F.sub da⟩
def zFQ:List Go.Oper:=z5G.toList
def jP(i:Nat):Go.Oper:=(zFQ[i]?).getD default
theorem zRB:zFQ=[jP 0,jP 1,jP 2,jP 3,jP 4,jP 5,jP 6,jP 7,jP 8,jP 9]:=da
theorem okD:ya zFQ=some 9:=da
section
variable (tm:Tm) (a b r p:Nat) (y x:Int)
def TD0:Tm:=Tb.set (Tb.set (Tb.set (Tb.set (Tb.set (zW tm [(11,.ptr r 0),(12,.ptr p 0),(1,dd y),(8,.ptr a 0),(10,.ptr b 0)]) 83 (.ptr r 0)) 84 (.ptr r 0)) 85 (.ptr r 2)) 86 (dd x)) 87 (.bool true)
def TD1:Tm:=Tb.set (TD0 tm a b r p y x) 88 (.agg [dd 0,.nilslice])
def TD2:Tm:=Tb.set (TD1 tm a b r p y x) 89 (.ptr r 0)
def TD3:Tm:=Tb.set (TD2 tm a b r p y x) 90 (.ptr r 0)
def TD4:Tm:=Tb.set (TD3 tm a b r p y x) 91 (.ptr r 2)
def TD5:Tm:=Tb.set (TD4 tm a b r p y x) 92 (dd x)
def TD6:Tm:=Tb.set (TD5 tm a b r p y x) 93 (dd y)
def TD7:Tm:=Tb.set (TD6 tm a b r p y x) 94 (.agg [dd x,dd y])
def TD9:Tm:=Tb.set (TD7 tm a b r p y x) 9 (dd 0)
variable (h:H)
theorem aD0:yD zB (jP 0) (zx (TD0 tm a b r p y x)) h=some (.val (.agg [dd 0,.nilslice]) h):=da
theorem aD1:yD zB (jP 1) (zx (TD1 tm a b r p y x)) h=some (.val (.ptr r 0) h):=da
theorem aD2:yD zB (jP 2) (zx (TD2 tm a b r p y x)) h=some (.val (.ptr r 0) h):=da
theorem aD3:yD zB (jP 3) (zx (TD3 tm a b r p y x)) h=some (.val (.ptr r 2) h):=da
theorem eD4:(jP 4).op = .load 24 (t 91)/\zx (TD4 tm a b r p y x) (t 91)=some (.ptr r 2):=⟨da,da⟩
theorem aD5:yD zB (jP 5) (zx (TD5 tm a b r p y x)) h=some (.val (dd y) h):=da
theorem aD6:yD zB (jP 6) (zx (TD6 tm a b r p y x)) h=some (.val (.agg [dd x,dd y]) h):=da
theorem eD7:(jP 7).op = .store 59 (t 8) (t 88)/\zx (TD7 tm a b r p y x) (t 8)=some (.ptr a 0)/\zx (TD7 tm a b r p y x) (t 88)=some (.agg [dd 0,.nilslice]):=⟨da,da,da⟩
theorem aD8:yD zB (jP 8) (zx (TD7 tm a b r p y x)) h=some (.val (dd 0) h):=da
theorem eD9:(jP 9).op = .store 26 (t 10) (t 94)/\zx (TD9 tm a b r p y x) (t 10)=some (.ptr b 0)/\zx (TD9 tm a b r p y x) (t 94)=some (.agg [dd x,dd y]):=⟨da,da,da⟩
theorem z3h:yq zFQ (zi zFQ []) 9 7 (TD7 tm a b r p y x) (jP 7)=((cond (!(Nat.beq a r) && true) true false && true) || false):=da
theorem gD9:zI (TD9 tm a b r p y x) 8 = .ptr a 0/\zI (TD9 tm a b r p y x) 9 = dd 0/\zI (TD9 tm a b r p y x) 10 = .ptr b 0:=⟨da,da,da⟩
end
theorem dD:(jP 0).dst=some 88/\(jP 1).dst=some 89/\(jP 2).dst=some 90/\(jP 3).dst=some 91/\(jP 4).dst=some 92/\(jP 5).dst=some 93/\(jP 6).dst=some 94/\(jP 7).dst=none/\(jP 8).dst=some 9/\(jP 9).dst=none :=
 ⟨da,da,da,da,da,da,da,da,da,da⟩
theorem guD:(jP 0).guard=none/\(jP 1).guard=none/\(jP 2).guard=none/\(jP 3).guard=none/\(jP 4).guard=none/\(jP 5).guard=none/\(jP 6).guard=none/\(jP 7).guard=none/\(jP 8).guard=none/\(jP 9).guard=none :=
 ⟨da,da,da,da,da,da,da,da,da,da⟩
theorem zRS{hb h:H}{c a b r p q:Nat}{m:O}{s:Ua}{y x:Int}{tm:Tm}{d:List AD}{Q:Ud}(w:Vw zN hb h c [(p,m),(r,oRr s q x),(b,Xx 0 0),(a,oD 0 .nilslice)])(e:h.nx<=T.top)(hl:h.low<=T.top)(u:∀h',Vw zN hb h' c [(p,m),(r,oRr s q x),(b,Xx x y),(a,oD 0 .nilslice)]->∀g,Has g [(8,.ptr a 0),(9,dd 0),(10,.ptr b 0)]->Q .normal ⟨108,g,d,h'⟩):
  wpDr P zB false zFQ ⟨108,TD0 tm a b r p y x,d,h⟩ Q:=by
 have v:a<r:=by have h1:=w.bk.2.2.2.2.2.2.2.2.2.1;have i:=w.bk.2.2.2.2.2.2.1;omega
 have k:=w.upd 3 (o':=oD 0 .nilslice) rfl e;have a7:zZ zB 59 (zX h) (.ptr a 0) (.agg [dd 0,.nilslice])=some ((zX h).upd a (some (oD 0 .nilslice))):=z6 xO (show(zX h).get a=_ from w.get 3 rfl) rfl;have M:=w.lt 3 rfl;have L1:yN h ((zX h).upd a (some (oD 0 .nilslice)))=h.upd a (some (oD 0 .nilslice)):=j7;have n:(h.upd a (some (oD 0 .nilslice))).low<=T.top:=by rw[H.low_upd];omega
 have z:(h.upd a (some (oD 0 .nilslice))).nx=h.nx:=rfl;generalize h.upd a (some (oD 0 .nilslice))=h1 at k L1 n z;have o:=k.upd 2 (o':=Xx x y) rfl oy;have t:zZ zB 26 h1 (.ptr b 0) (.agg [dd x,dd y])=some (h1.upd b (some (Xx x y))):=z6 zd (k.get 2 rfl) rfl;generalize h1.upd b (some (Xx x y))=i at o t;refine⟨jm,9,.normal,⟨108,TD9 tm a b r p y x,d,i⟩,xu,okD,?_,u i o _ ⟨(gD9 tm a b r p y x).1,(gD9 tm a b r p y x).2.1,(gD9 tm a b r p y x).2.2,trivial⟩⟩;have j:=z3h tm a b r p y x;rw[qf (show a≠r by omega)]at j;obtain⟨d0,d1,d2,d3,d4,d5,d6,d7,A,B⟩:=dD;obtain⟨C,D,E,F,G,I,J,K,u8,L⟩:=guD;generalize hbs:zi zFQ []=bs at j ⊢;generalize hops:zFQ=ops at j ⊢;have l:ops=[jP 0,jP 1,jP 2,jP 3,jP 4,jP 5,jP 6,jP 7,jP 8,jP 9]:=by rw[<-hops];exact zRB
 have f:yJ zB jm false jh ops bs 9 9 0 [jP 0,jP 1,jP 2,jP 3,jP 4,jP 5,jP 6,jP 7,jP 8,jP 9] ⟨108,TD0 tm a b r p y x,d,h⟩=some (.done .normal ⟨108,TD9 tm a b r p y x,d,i⟩):=by
  refine zQ C (aD0 tm a b r p y x _) d0 rfl e hl ?_;refine zQ D (aD1 tm a b r p y x _) d1 rfl e hl ?_;refine zQ E (aD2 tm a b r p y x _) d2 rfl e hl ?_;refine zQ F (aD3 tm a b r p y x _) d3 rfl e hl ?_;refine zQ G (xF (eD4 tm a b r p y x).1 (eD4 tm a b r p y x).2 (zK yh rfl (show(zX h).get r=_ from w.get 1 rfl) rfl)) d4 rfl e hl ?_;refine zQ I (aD5 tm a b r p y x _) d5 rfl e hl ?_;refine zQ J (aD6 tm a b r p y x _) d6 rfl e hl ?_;refine jZ K (yg (eD7 tm a b r p y x).1 (eD7 tm a b r p y x).2.1 (eD7 tm a b r p y x).2.2 a7) d7 (j.trans rfl) ?_;try dsimp only
  rw[L1];refine zQ u8 (aD8 tm a b r p y x _) A rfl oy n ?_;exact qW L (yg (eD9 tm a b r p y x).1 (eD9 tm a b r p y x).2.1 (eD9 tm a b r p y x).2.2 t) B
 rw[<-l]at f;exact f
end Go.Proofs.YtnpeieeomokomaaGreat
namespace Go.Proofs.YtnpeieeomokomaaGreat
open Go.Sim
variable {h:H}{Q:Uc}
theorem zPU{s:Ua}{a:Nat}(hs:s.length<=2000)(ha:a<=s.length)(h600:s.length<=a+600)(hn:h.nx+200<=T.top)(hlow:h.low<=T.top)(F:yl (s.drop a) 6 12=none->∀h',Ext h h' 150->Q (.tuple [.agg [dd 0,.nilslice],dd 0,flt (if kG (s.drop a) 6 then 31 else 23) a]) h')(B:∀log l p v h',yl (s.drop a) 6 12=some (log,l,p)->Ext h h' 150->Ow h' v yn l.length (zV l)->(∀b,yG v=some b->h.nx<=b)->p<=8*(s.drop a).length->l.length<=12->Q (.tuple [.agg [dd (log:Nat),v],dd (a+(p+7)/8:Nat),flt 0 0]) h'):
  RF P zB 43 [.str s,dd a,dd 6,dd 12] h Q:=by
 refine yU z3w ⟨oy,?_⟩;rintro p0 h1 rfl e1;have w1:=(Vw.nil (S:=zN) (h:=h)).new e1 oy;have t1:=w1.top;refine⟨oy,?_⟩;rintro p2 z rfl e3;have w3:=w1.new e3 oy;have t3:=w3.top;refine⟨λc=>absurd c oy,λ_=>⟨λc=>absurd c (by show ¬((s.length:Int)<a);omega),λ_=>⟨λc=>absurd c db,λ_=>⟨λc=>absurd c db,λ_=>⟨λc=>absurd c db,λ_=>⟨λc=>absurd c db,λ_=>Has.nil.on λtm J=>?_⟩⟩⟩⟩⟩⟩;refine wpS.av J zXc rfl rfl (J.on λqM hs1=>thenC.nx (hs1.sealK λtm2 m=>?_));clear J hs1;have em:min (Int.ofNat s.length) (zG ((a:Int)+600))=((s.length:Nat):Int):=by rw[zD oy oy];show min (s.length:Int) _=_;omega
 have esl:zy zB 9 z (.str s) (some (dd (a:Nat))) (some (dd (s.length:Nat))) none=some (.str (s.drop a)):=by rw[xN ha (oV _)];unfold zH;rw[List.take_of_length_le (by rw[List.length_drop];exact oV _)]
 have hbl:(s.drop a).length<=2000:=by rw[List.length_drop];omega
 refine wpS.av m zXe rfl rfl ⟨_,by rw[em];exact esl,oy,?_⟩;generalize s.drop a=b at F B hbl;clear esl em;rintro p4 h5 rfl e5;have w5:=w3.new e5 oy;have t5:=w5.top;have K:∀(tm:Tm) (h':H) (q:Nat) (x:Int) (o6:O) (p6:Nat),yl b 6 12=none->x=(if kG b 6 then 31 else 23)->Vw zN h h' 150 [(p6,o6),(z.nx,oRr b q x),(h1.nx,Xx 0 0),(h.nx,oD 0 .nilslice)]->Has tm [(11,.ptr z.nx 0),(12,.ptr p6 0),(1,dd a),(8,.ptr h.nx 0),(10,.ptr h1.nx 0)] ->
   Wf jV zJX ⟨108,tm,[],h'⟩ (zp jV (zp jV (endW zB ⟨108,[.cell 8 59,.tmp 9,.cell 10 26],bf 43⟩ Q))):=by
  intro tm h' q x o6 p6 E hx w hs;have tw:=w.top;have lw:=w.low;have hne:x≠0:=by rw[hx];split<;>decide
  refine wpS.at hs zPx rfl rfl ⟨.ptr z.nx 0,h',rfl,?_⟩;try dsimp only
  rw[xf];refine⟨x,w.ld1 1 rfl yh rfl,λ_=>?_,λq=>absurd hne q⟩;refine zRS w oy oy λh2 w2 tm2 m=>?_
  refine thenC.nx (wpS.av m zXd rfl rfl (m.on λL g=>?_));refine thenC.rt (g.slt λwH o=>o.slt λKm e=>e.slt λr d=>endW.ok (leave.cell (d.get rfl) (w2.ldA 3 rfl xO rfl) (leave.tmp (d.get rfl) (leave.cell (d.get rfl) (w2.ldA 2 rfl zd rfl) rfl))) ?_);have:=F E h2 w2.ex0;rw[<-hx]at this;exact this
 refine JG (p:=0) (n:=4) (w5.get 0 rfl) (w5.lt 0 rfl) oy oy oy db (λc2 h7 x7 g7=>?_) (λc2 h7 x7 g7=>?_)
 rotate_left
 .have w7:=w5.extX 0 rfl x7 g7;have t7:=w7.top;refine⟨_,rfl,oy,?_⟩;rintro p6 h8 rfl e8;have w8:=w7.new e8 oy;have t8:=w8.top;obtain⟨A,e9,j,n9,_⟩:=w8.st (cx:=zB) 0 (f:=0) (u:=.agg [dd (zG (5+0)),.nilslice]) rfl oy xO rfl;have E:yl b 6 12=none:=by unfold yl;rw[if_pos oy]
  have C:¬kG b 6:=λq=>by have:=q.1;omega
  refine⟨A,e9,.ptr z.nx 0,A,rfl,?_⟩;try dsimp only
  rw[xf];refine⟨23,j.ld1 1 rfl yh rfl,λq=>absurd q db,λ_=>m.on λL g=>?_⟩;refine wpS.av g zIK rfl rfl (g.on λwH o=>thenC.nx (o.sealK λKm e=>?_));refine wpS.av e zIL rfl rfl ⟨.ptr z.nx 0,A,rfl,?_⟩;try dsimp only
  rw[xf];refine⟨23,j.ld1 1 rfl yh rfl,λq=>absurd q db,λ_=>e.on λr d=>?_⟩;exact K r A 0 23 _ _ E (by rw[if_neg C]) (j.more oy) (d.sub da)
 have w7:=w5.extX 0 rfl x7 g7;have t7:=w7.top;have f4:=jE b 0 4;refine⟨_,rfl,oy,?_⟩;rintro p6 h8 rfl e8;have w8:=w7.new e8 oy;have t8:=w8.top;have el:zG (5+((zu b 0 4:Nat):Int))=((zu b 0 4+5:Nat):Int):=by rw[zD oy oy];omega
 obtain⟨A,e9,j,n9,_⟩:=w8.st (cx:=zB) 0 (f:=0) (u:=.agg [dd (zu b 0 4+5:Nat),.nilslice]) rfl oy xO rfl;have t9:=j.top;refine⟨A,by rw[el];exact e9,.ptr z.nx 0,A,rfl,?_⟩;try dsimp only
 rw[xf];refine⟨0,j.ld1 1 rfl yh rfl,λ_=>⟨_,j.ld1 0 rfl zm rfl,λc3=>m.on λL g=>?_,λc3=>m.on λL g=>?_⟩,λq=>absurd rfl q⟩
 · -- too accurate
  have E:yl b 6 12=none:=by unfold yl;rw[if_neg oy,if_pos oy]
  have C:kG b 6:=⟨oy,oy⟩;obtain⟨D,e10,k,n10,_⟩:=j.st (cx:=zB) 1 (f:=0+2) (u:=dd 31) rfl oy yh rfl;refine wpS.av g zIK rfl rfl ⟨.ptr z.nx 0,A,rfl,?_⟩;try dsimp only
  rw[xf];refine⟨D,e10,g.on λwH o=>thenC.nx (o.sealK λKm e=>?_)⟩;refine wpS.av e zIL rfl rfl ⟨.ptr z.nx 0,D,rfl,?_⟩;try dsimp only
  rw[xf];refine⟨31,k.ld1 1 rfl yh rfl,λq=>absurd q db,λ_=>e.on λr d=>?_⟩;exact K r D (0+4) 31 _ _ E (by rw[if_pos C]) (k.more oy) (d.sub da)
 have hun:yl b 6 12=(yX b 12 (12+2) (2^(zu b 0 4+5)) 4 []).map λx=>(zu b 0 4+5,x.1,x.2):=by unfold yl;rw[if_neg oy,if_neg oy]
 have C:¬kG b 6:=λq=>by have:=q.2;omega
 have pw:2^(zu b 0 4+5)<=2^6:=Nat.pow_le_pow_right db oy;refine wpS.av g zIK rfl rfl (g.on λwH o=>thenC.nx (o.sealK λKm e=>?_));refine wpS.av e zIL rfl rfl ⟨.ptr z.nx 0,A,rfl,?_⟩;try dsimp only
 rw[xf];refine⟨0,j.ld1 1 rfl yh rfl,λ_=>?_,λq=>absurd rfl q⟩;try dsimp only
 rw[wU];refine⟨_,j.ld1 0 rfl zm rfl,((1*2^(zu b 0 4+5):Nat):Int),by rw[zb oy];exact zz (a:=1) oy oy,?_⟩;try dsimp only
 rw[Nat.one_mul];refine zKr (p:=4) (symbols:=12) (j.get 1 rfl) (j.lt 1 rfl) oy oy oy db oy (λM D p1 N R=>⟨_,rfl,?_⟩) (λl q v D M N R i G I hl10=>⟨_,rfl,?_⟩)
 .have E:yl b 6 12=none:=by rw[hun,M];rfl
  have k:=j.extX 1 rfl N R;have t10:=k.top;try dsimp only
  rw[yO];obtain⟨t,U,y,n11,_⟩:=k.st (cx:=zB) 0 (f:=0+1) (u:=.nilslice) rfl oy z7 rfl;refine⟨t,U,e.on λr d=>?_⟩;exact K r t p1 23 _ _ E (by rw[if_neg C]) (y.more oy) (d.sub da)
 have E:yl b 6 12=some (zu b 0 4+5,l,q):=by rw[hun,M];rfl
 have k:=j.extX 1 rfl N R;have t10:=k.top;try dsimp only
 rw[yO];have hlt:h7.nx<A.nx:=j.lt 0 rfl;have hlt1:h.nx<A.nx:=j.lt 3 rfl;have hlt2:h1.nx<A.nx:=j.lt 2 rfl;obtain⟨t,U,y,n11,k11⟩:=k.st (cx:=zB) 0 (f:=0+1) (u:=v) (cs':=.ls [dd (zu b 0 4+5:Nat),v]) rfl oy z7 (by rw[i.one1.1];rfl) (by rw[i.one1.1];rfl) (oQ _) (by rw[i.one1.1];exact i.one1.2);refine⟨t,U,e.on λr d=>?_⟩;refine wpS.at d zPx rfl rfl ⟨.ptr z.nx 0,t,rfl,?_⟩;try dsimp only
 rw[xf];refine⟨0,y.ld1 1 rfl yh rfl,λq=>absurd rfl q,λ_=>⟨.ptr z.nx 0,t,rfl,?_⟩⟩;try dsimp only
 rw[zHE];refine⟨b,q,y.ldA 1 rfl yt rfl,zKo oy I ⟨_,_,rfl,_,v,y.ldA 0 rfl xO rfl,?_⟩⟩;obtain⟨h12,e12,w12,n12,k12⟩:=y.st (cx:=zB) 3 (f:=0) (u:=.agg [dd (zu b 0 4+5:Nat),v]) (cs':=.ls [dd (zu b 0 4+5:Nat),v]) rfl oy xO rfl rfl (oQ _) (yY.2 λu hu=>by
  rcases oq.1 hu with rfl|hu
  .rfl
  exact yY.1 i.one1.2 u hu)
 obtain⟨V,e13,W,n13,k13⟩:=w12.st (cx:=zB) 2 (f:=0) (u:=.agg [dd 0,dd 0]) rfl oy zd rfl;have ow13:=i.keep (h':=V) oy λZ X=>by have:=G Z X;rw[k13 Z oy,k12 Z oy,k11 Z oy]
 have ew:zG ((a:Int)+(((q+7)/8:Nat):Int))=((a+(q+7)/8:Nat):Int):=by rw[zD oy oy];rfl
 refine⟨h12,e12,V,e13,d.on λtm7 hs7=>hs7.slt λtm8 hs8=>hs8.slt λtm9 Y=>endW.ok (leave.cell (Y.get rfl) (W.ldA 3 rfl xO rfl) (leave.tmp (Y.get rfl) (leave.cell (Y.get rfl) (W.ldA 2 rfl zd rfl) rfl))) ?_⟩;try dsimp only
 rw[ew];exact B _ l q v V E (W.ex0.mono oy) ow13 (λZ X=>by have:=G Z X;omega) I hl10
theorem OY{s:Ua}{b:UInt8}(h:s.getLast? = some b)(h0:b.toNat≠0):zf s=((8*(s.length-1)+zT b.toNat-1:Nat):Int):=by unfold zf;rw[h];simp only;rw[if_neg h0]
theorem zIs{s:Ua}{b:UInt8}(h:s.getLast? = some b):0<s.length/\s[s.length-1]? = some b:=by rw[List.getLast?_eq_getElem?]at h;exact⟨by have:=(List.getElem?_eq_some_iff.1 h).1;omega,h⟩
theorem zPm{s:Ua}{b:UInt8}(h:s.getLast? = some b)(h0:b.toNat≠0){i:Nat}(h1:zf s<=i)(r:i<8*s.length):s[i/8]? = some b/\(b.toNat/2^(i % 8) % 2=0↔zf s≠i):=by
 rw[OY h h0]at h1 ⊢;obtain⟨hl,j⟩:=zIs h;have a:=zAK (n:=b.toNat) h0;have c:=jB b.toNat;have k:1<=zT b.toNat:=qU oy;have l:=b.toNat_lt;have m:i/8=s.length-1:=oy
 refine⟨by rw[m];exact j,?_⟩;have t:i % 8=i-8*(s.length-1):=oy
 by_cases q:i % 8=zT b.toNat-1
 .have e:2^zT b.toNat=2*2^(i % 8):=by rw[q,<-Nat.pow_succ'];congr 1;omega
  have o:b.toNat/2^(i % 8)=1:=by
   rw[q]at e ⊢;rw[e]at c;have f:0<2^(zT b.toNat-1):=Nat.pow_pos db;refine Nat.le_antisymm ?_ ?_
   .have:=(Nat.div_lt_iff_lt_mul f).2 c;omega
   exact(Nat.le_div_iff_mul_le f).2 oy
  rw[o];exact⟨λg=>oy,λg=>by exfalso;exact g oy⟩
 have d:zT b.toNat<=i % 8:=oy
 have p:2^zT b.toNat<=2^(i % 8):=Nat.pow_le_pow_right db d;rw[Nat.div_eq_of_lt oy];exact⟨λ_=>oy,λ_=>rfl⟩
theorem zCU{s:Ua}(hs:s.length<=2000)(f:Q (qO s) h):RF P zB 151 [.str s] h Q:=by
 refine yU z08 ⟨λc=>absurd c (by show ¬((1048576:Int)<(s.length:Int));omega),λ_=>⟨λc=>?_,λc=>?_⟩⟩
 .subst c;exact f
 have v:0<s.length:=List.length_pos_iff.2 c;obtain⟨b,hb⟩:∃b,s.getLast? = some b:=by
  rcases h:s.getLast? with _|b
  .exact absurd (List.getLast?_eq_none_iff.1 h) c
  exact⟨b,rfl⟩
 obtain⟨_,w⟩:=zIs hb;have x:=b.toNat_lt;have el:zG (Int.ofNat s.length-1)=((s.length-1:Nat):Int):=by rw[show Int.ofNat s.length=(s.length:Int)from rfl,zD oy oy];omega
 refine⟨_,by rw[el];exact yR w,λy=>?_,λy=>Has.nil.on λtm j=>?_⟩
 .have:qO s = .tuple [dd 0,dd 22]:=by
   unfold qO zf;rw[hb];simp only;rw[if_pos (show b.toNat=0 by omega)];rfl
  rw[this]at f;exact f
 have r:b.toNat≠0:=oy
 have F:=OY hb r;have z:=wS s;refine wpS.av j zSp rfl rfl (j.on λqM l=>?_);have A:zG (zG (8*Int.ofNat s.length)-1)=((8*s.length-1:Nat):Int):=by rw[show Int.ofNat s.length=(s.length:Int)from rfl,zD (n:=8*(s.length:Int)) oy oy,zD oy oy];omega
 rw[A]at l;refine wpC.round (λk tm h'=>∃i:Nat,h'=h/\zf s<=i/\i<8*s.length/\k=i/\Has tm [(0,.str s),(4,dd i)]) (8*s.length-1) ⟨_,rfl,oy,oy,rfl,l.sub da⟩ ?_;rintro k tm h' ⟨i,rfl,h1,B,rfl,e⟩;obtain⟨o,d⟩:=zPm hb r h1 B;have G:b.toNat/2^(k % 8)<=b.toNat:=Nat.div_le_self _ _;have C:zG (Int.tdiv (k:Int) 8)=((k/8:Nat):Int):=by rw[show Int.tdiv (k:Int) 8=((k/8:Nat):Int)from rfl,Z7 oy]
 have D:zU .u64 (Int.tmod (k:Int) 8)=((k % 8:Nat):Int):=by rw[show Int.tmod (k:Int) 8=((k % 8:Nat):Int)from rfl,zb oy]
 refine wpC.av e zRs rfl rfl ⟨db,(b.toNat:Int),by rw[C];exact yR o,db,((b.toNat/2^(k % 8):Nat):Int),by rw[D];exact zDs,((b.toNat/2^(k % 8) % 2:Nat):Int),?_,λt=>e.on λp a=>?_,λt=>e.on λp a=>?_⟩
 .rw[<-wz _ 1];exact zCw (b:=1) oy db
 .have u:=d.1 oy;have E:zG ((k:Int)-1)=((k-1:Nat):Int):=by rw[zD oy oy];omega
  refine⟨rfl,rfl,k-1,oy,k-1,rfl,oy,oy,rfl,?_⟩;try dsimp only
  rw[<-E];exact a.sub da
 have u:zf s=k:=by
  by_cases g:zf s=k
  .exact g
  exact absurd (by rw[d.2 g];rfl) t
 refine thenC.left (wpS.av a zSo rfl rfl (a.on λwH q=>q.slt λKm m=>endW.r2 (m.get rfl) (m.get rfl) ?_));unfold qO at f;rw[if_neg oy,u]at f;exact f
theorem zCW{s:Ua}(hs:s.length<=2000)(b:Q (rdB s) h):RF P zB 87 [.str s] h Q:=by
 refine RF.plain ?_ (zk rfl);have b:∀h':H,Plain (rdB s)/\Q (rdB s) h:=λ_=>⟨zCG _,b⟩
 refine yU z4Y ⟨db,?_⟩;rintro p0 h1 rfl l;have e:=(Vw.nil (S:=zN) (h:=H0)).new l db;have k:h1.nx<=T.top:=oW e.top db;refine zCU hs ?_;unfold qO;unfold rdB at b;by_cases c:zf s<0
 .rw[if_pos c]at b ⊢;obtain⟨d,i,j,m,_⟩:=e.st (cx:=zB) 0 (f:=0) (u:=.agg [.str [],dd 0]) rfl k zw rfl;exact⟨0,22,rfl,λ_=>⟨d,i,endL.ok (leaveL.cell (a:=2) (j.ldA 0 rfl zw rfl) rfl) (b d)⟩,λg=>absurd (show(22:Int)≠0 by decide) g⟩
 rw[if_neg c]at b ⊢;obtain⟨d,i,j,m,_⟩:=e.st (cx:=zB) 0 (f:=0) (u:=.agg [.str s,dd (zf s)]) rfl k zw rfl;exact⟨zf s,0,rfl,λg=>absurd rfl g,λ_=>⟨d,i,endL.ok (leaveL.cell (a:=2) (j.ldA 0 rfl zw rfl) rfl) (b d)⟩⟩
theorem zHk{s:Ua}{left:Nat}(hs:s.length<=2000)(hl:(left:Int)<=zf s)(b:Q (dd 0) h):RF P zB 280 [OD s left] h Q:=by refine RF.plain ?_ (zk rfl);refine yU z1S ⟨db,?_⟩;rintro p0 h1 rfl d;have a:=(Vw.nil (S:=zN) (h:=H0)).new d db;refine⟨s,a.ld1 0 rfl kO rfl,zCU hs ?_⟩;unfold qO;rw[if_neg oy];exact⟨_,_,rfl,λg=>absurd rfl g,λ_=>⟨_,a.ld1 0 rfl zm rfl,λc=>oy,λ_=>⟨_,a.ld1 0 rfl zm rfl,λc=>oy,λ_=>⟨zL _ _,b⟩⟩⟩⟩
theorem zA7{s:Ua}{left n:Nat}(hs:s.length<=2000)(hl:(left:Int)<=zf s)(e:n<=32)(a:Q (dd 0) h):RF P zB 219 [OD s left,dd n] h Q:=by refine RF.plain ?_ (zk rfl);refine yU z1A ⟨db,?_⟩;rintro p0 h1 rfl b;have d:=(Vw.nil (S:=zN) (h:=H0)).new b db;exact⟨s,left,d.ldA 0 rfl zw rfl,zHk hs hl ⟨0,rfl,λ_=>⟨λc=>oy,λ_=>⟨λc=>oy,λ_=>⟨zL _ _,a⟩⟩⟩,λc=>absurd rfl c⟩⟩
theorem zMV{p o:Nat}{k:Uc}:zP zB 120 0 h (.ptr p o) k=k (.ptr p (o+0)) h:=da
theorem zKp{s:Ua}{left n:Nat}(hs:s.length<=2000)(hl:(left:Int)<=zf s)(w:n<=32)(x:Q (.tuple [.int .u64 (yI s left n:Nat),dd 0]) h):RF P zB 155 [OD s left,dd n] h Q:=by
 refine RF.plain ?_ (zk rfl);have t:=wS s;refine yU z0c ⟨db,?_⟩;rintro p0 h1 rfl m;have o:=(Vw.nil (S:=zN) (h:=H0)).new m db;refine⟨s,left,o.ldA 0 rfl zw rfl,zA7 hs hl w ⟨0,rfl,λc=>absurd rfl c,λ_=>Has.nil.on λtm p=>?_⟩⟩;refine wpC.round (λk tm h'=>∃i:Nat,i<=n/\k=n-i/\h'=h1/\Has tm [(8,dd i),(1,dd n),(7,.int .u64 (yI s left i:Nat)),(2,.ptr H0.nx 0)]) n ⟨0,oy,rfl,rfl,p.sub da⟩ ?_;rintro k tm h' ⟨i,hi,rfl,rfl,d⟩;have hb:=jX s left i;have u:2^i<=2^32:=Nat.pow_le_pow_right db oy;have e:zG ((i:Int)+1)=((i+1:Nat):Int):=by rw[zD oy oy];rfl
 have el:zG (zG ((left:Int)-1)-(i:Int))=(left:Int)-1-i:=by rw[zD (n:=(left:Int)-1) oy oy,zD oy oy]
 refine wpC.av d zRy rfl rfl ⟨λc=>?_,λc=>d.on λf a=>?_⟩
 rotate_left
 .have g:i=n:=oy
  subst g;exact thenC.left (wpS.av a zSv rfl rfl (a.on λy j=>endW.r2 (j.get rfl) (j.get rfl) ⟨yc rfl,x⟩))
 have g:i<n:=oy
 have v:2^i<=2^31:=Nat.pow_le_pow_right db oy;refine⟨((yI s left i*2^1:Nat):Int),ZK (n:=1) db oy,?_⟩;try dsimp only
 rw[Xc];refine⟨left,o.ld1 0 rfl zm rfl,?_⟩;try dsimp only
 rw[el];refine⟨λz=>?_,λz=>d.on λf a=>?_⟩
 .have q:i<left:=oy
  try dsimp only
  rw[zMV,show(left:Int)-1-i=((left-1-i:Nat):Int)by omega];obtain⟨b,l⟩:∃b,s[(left-1-i)/8]? = some b:=⟨_,oU oy⟩;have A:=b.toNat_lt;have E:b.toNat/2^((left-1-i) % 8)<=b.toNat:=Nat.div_le_self _ _;have r:=Y7 (s:=s) (i:=left-1-i) l;have B:=Z5 s (left-1-i);have m:zG (Int.tdiv ((left-1-i:Nat):Int) 8)=(((left-1-i)/8:Nat):Int):=by rw[show Int.tdiv ((left-1-i:Nat):Int) 8=(((left-1-i)/8:Nat):Int)from rfl,Z7 oy]
  have C:zU .u64 (Int.tmod ((left-1-i:Nat):Int) 8)=(((left-1-i) % 8:Nat):Int):=by rw[show Int.tmod ((left-1-i:Nat):Int) 8=(((left-1-i) % 8:Nat):Int)from rfl,zb oy]
  refine⟨s,o.ld1 0 rfl kO rfl,db,(b.toNat:Int),by rw[m];exact yR l,db,((b.toNat/2^((left-1-i) % 8):Nat):Int),by rw[C];exact zDs,((wY s (left-1-i):Nat):Int),?_,d.on λf a=>⟨rfl,rfl,n-(i+1),oy,i+1,oy,rfl,rfl,?_⟩⟩
  .rw[r,<-wz _ 1];exact zCw (b:=1) oy db
  have D:zU .u64 (((yI s left i*2^1:Nat):Int)+zU .u64 ((wY s (left-1-i):Nat):Int))=((yI s left (i+1):Nat):Int):=by rw[zb (n:=wY s (left-1-i)) oy,show((yI s left i*2^1:Nat):Int)+((wY s (left-1-i):Nat):Int)=((yI s left i*2^1+wY s (left-1-i):Nat):Int)from rfl,zb oy,YS,if_pos q];congr 2;omega
  rw[<-e,<-D];exact a.sub da
 have t:yI s left (i+1)=yI s left i*2^1:=by rw[YS,if_neg oy];omega
 refine⟨rfl,rfl,n-(i+1),oy,i+1,oy,rfl,rfl,?_⟩;try dsimp only
 rw[t,<-e];exact a.sub da
def skB(s:Ua)(left n:Nat):V:=if n<=left then .tuple [OD s (left-n),dd 0] else .tuple [.agg [.str [],dd 0],dd 5]
theorem zKk(s:Ua)(left n:Nat):Plain (skB s left n):=by unfold skB;split<;>exact yc rfl
theorem zKu{s:Ua}{left n:Nat}(hs:s.length<=2000)(hl:(left:Int)<=zf s)(p:n<=32)(d:Q (skB s left n) h):RF P zB 154 [OD s left,dd n] h Q:=by
 refine RF.plain ?_ (zk rfl);have d:∀h':H,Plain (skB s left n)/\Q (skB s left n) h:=λ_=>⟨zKk _ _ _,d⟩
 have x:=wS s;have zt:=zt;have y:H0.nx=0:=rfl;refine yU z0b ⟨db,?_⟩;rintro p0 h1 rfl q;have m:=(Vw.nil (S:=zN) (h:=H0)).new q db;have z:=m.top;refine⟨oy,?_⟩;rintro A B rfl r;have e:=m.new r oy;have C:=e.top;refine⟨s,left,e.ldA 1 rfl zw rfl,zA7 hs hl p ⟨0,rfl,λ_=>⟨left,e.ld1 1 rfl zm rfl,λc=>Has.nil.on λtm a=>?_,λc=>Has.nil.on λtm a=>?_⟩,λc=>absurd rfl c⟩⟩
 .unfold skB at d;rw[if_neg oy]at d;obtain⟨i,k,j,t,_⟩:=e.st (cx:=zB) 0 (f:=0) (u:=.agg [.str [],dd 0]) rfl oy zw rfl;refine wpS.av a zJm rfl rfl ⟨λ_=>⟨i,k,a.on λl b=>endW.ok (leave.cell (b.get rfl) (j.ldA 0 rfl zw rfl) (leave.tmp (b.get rfl) rfl)) (d i)⟩,λg=>absurd (show(5:Int)≠0 by decide) g⟩
 unfold skB at d;rw[if_pos oy]at d;refine wpS.av a zJm rfl rfl ⟨λg=>absurd rfl g,λ_=>?_⟩;try dsimp only
 rw[Xc];refine⟨left,e.ld1 1 rfl zm rfl,?_⟩;try dsimp only
 rw[Xc,show zG ((left:Int)-(n:Int))=((left-n:Nat):Int)by rw[zD oy oy];omega];obtain⟨i,k,j,t,_⟩:=e.st (cx:=zB) 1 (f:=0+1) (u:=dd (left-n:Nat)) rfl oy zm rfl;obtain⟨o,v,w,D,_⟩:=j.st (cx:=zB) 0 (f:=0) (u:=.agg [.str s,dd (left-n:Nat)]) rfl oy zw rfl;exact⟨i,k,s,_,j.ldA 1 rfl zw rfl,o,v,a.on λl b=>endW.ok (leave.cell (b.get rfl) (w.ldA 0 rfl zw rfl) (leave.tmp (b.get rfl) rfl)) (d o)⟩
theorem Y5{s:Ua}{left n:Nat}(hs:s.length<=2000)(hl:(left:Int)<=zf s)(x:n<=32)(i:Q (tkB s left n) h):RF P zB 89 [OD s left,dd n] h Q:=by
 refine RF.plain ?_ (zk rfl);have i:∀h':H,Plain (tkB s left n)/\Q (tkB s left n) h:=λ_=>⟨zCH _ _ _,i⟩
 have zt:=zt;have B:H0.nx=0:=rfl;refine yU z40 ⟨db,?_⟩;rintro p0 h1 rfl z;have y:=(Vw.nil (S:=zN) (h:=H0)).new z db;have C:=y.top;refine⟨oy,?_⟩;rintro D E rfl A;have p:=y.new A oy;have F:=p.top;refine⟨s,left,p.ldA 1 rfl zw rfl,zKu hs hl x ?_⟩;unfold skB;unfold tkB at i;by_cases c:n<=left
 .rw[if_pos c]at i ⊢;refine⟨_,_,_,rfl,oy,?_⟩;rintro q r rfl j;have b:=p.new j oy;have t:=b.top;obtain⟨k,l,d,v,_⟩:=b.st (cx:=zB) 0 (f:=0) (u:=.agg [.str s,dd (left-n:Nat)]) rfl oy zw rfl;obtain⟨e,m,o,w,_⟩:=d.st (cx:=zB) 1 (f:=0) (u:=.agg [.str s,dd (left-n:Nat)]) rfl oy zw rfl;exact⟨k,l,λg=>absurd rfl g,λ_=>⟨s,left,d.ldA 2 rfl zw rfl,zKp hs hl x ⟨_,_,rfl,s,_,d.ldA 0 rfl zw rfl,e,m,endL.ok (leaveL.cell (a:=4) (o.ldA 1 rfl zw rfl) rfl) (i e)⟩⟩⟩
 rw[if_neg c]at i ⊢;refine⟨_,_,_,rfl,oy,?_⟩;rintro q r rfl j;have b:=p.new j oy;have t:=b.top;obtain⟨k,l,d,v,_⟩:=b.st (cx:=zB) 0 (f:=0) (u:=.agg [.str [],dd 0]) rfl oy zw rfl;obtain⟨e,m,o,w,_⟩:=d.st (cx:=zB) 1 (f:=0) (u:=.agg [.str [],dd 0]) rfl oy zw rfl;exact⟨k,l,λ_=>⟨e,m,endL.ok (leaveL.cell (a:=4) (o.ldA 1 rfl zw rfl) rfl) (i e)⟩,λg=>absurd (show(5:Int)≠0 by decide) g⟩
theorem ql{v:V}{log:Nat}{l:Ub}{h:H}{Q:Uc}(sl:Sl h v 1 l.length (zV l))(g:GD log l)(F:Q (dd 0) h):RF P zB 86 [.agg [dd log,v]] h Q:=by
 show RF P zB 86 ((λv=>V.agg ([dd log]++[v])::[]) v) h Q;refine RF.ro (One.struct (zk rfl) (λa K=>(by cases K))) sl (jI l) (zL _ _) (λv0 w G L M=>?_) F;clear sl F h Q v;have ht:=zt;have I:=g.pos;have J:=g.len;have N:=g.lg;have y:=g.pts;have O:=yy g.lg;have s:((2^log:Nat):Int)=2^log:=by simp
 show RF P zB 86 [.agg [dd log,v0]] w _;refine yU z4X (wb G ⟨oy,?_⟩);rintro p0 h1 rfl R;have d:=(Vw.nil (S:=zN) (h:=w)).new R oy;have t1:=d.top;have l1:=d.low;have j:h1.nx<=T.top:=oy
 have m:h1.low<=T.top:=oy
 refine⟨_,d.ld1 0 rfl zm rfl,λc=>oy,λ_=>⟨_,d.ld1 0 rfl zm rfl,λc=>oy,λ_=>Has.nil.on λtm hs=>?_⟩⟩;have s1:=G.ext d.ex0;have shl:zj .shl .i64 1 (zU .u64 ((log:Nat):Int))=some (dd ((2^log:Nat):Int)):=by rw[zb oy];have:=zz (a:=1) (n:=log) oy oy;rw[Nat.one_mul]at this;exact this
 refine wpS.av hs zXy rfl rfl ?_;try dsimp only
 rw[yO];refine⟨v0,d.ld1 0 rfl z7 rfl,_,s1.len z7 rfl,λc=>oy,λ_=>?_⟩;try dsimp only
 rw[yO];refine⟨v0,d.ld1 0 rfl z7 rfl,_,s1.len z7 rfl,λc=>oy,λ_=>?_⟩;try dsimp only
 rw[yO];refine⟨v0,d.ld1 0 rfl z7 rfl,?_⟩;try dsimp only
 rw[yO];have f:l[l.length-1]? = some l[l.length-1]:=oU oy;obtain⟨b,o,a1,a2⟩:=s1.at1 (u:=dd l[l.length-1]) (i:=l.length-1) oy z7 rfl zm rfl rfl (by rw[oh,f];rfl);have z:l[l.length-1]≠0:=λe=>g.last (by rw[List.getLast?_eq_getElem?,f,e])
 refine⟨v0,d.ld1 0 rfl z7 rfl,_,s1.len z7 rfl,b,o,?_,_,a2,λc=>absurd c z,λ_=>hs.on λqM t=>?_⟩
 .rw[zD oy oy,show((l.length:Nat):Int)-1=((l.length-1:Nat):Int)by omega];exact a1
 refine wpS.av t zXx rfl rfl (t.on λA p=>?_);refine wpC.round (λk tm h'=>∃i:Nat,i<=l.length/\k=l.length-i/\h'=h1/\Has tm [(3,dd i),(1,.ptr w.nx 0)]) l.length ⟨0,oy,oy,rfl,p.sub da⟩ ?_;clear hs t p;rintro k tm h' ⟨i,U,rfl,rfl,hs⟩;refine wpC.av hs zXD rfl rfl ?_;try dsimp only
 rw[yO];refine⟨v0,d.ld1 0 rfl z7 rfl,_,s1.len z7 rfl,λc=>⟨⟨j,m⟩,?_⟩,λc=>hs.on λB q=>?_⟩
 .have r:i<l.length:=oy
  obtain⟨b,o,a1,a2⟩:=s1.at1 (u:=dd l[i]) r z7 rfl zm rfl rfl (by rw[oh,oU r];rfl);have W:=g.low _ (od r);have C:=ZX g.low (od r);rw[y,<-s]at C;have e:zG ((i:Int)+1)=((i+1:Nat):Int):=by rw[zD oy oy];rfl
  try dsimp only
  rw[yO];refine⟨v0,d.ld1 0 rfl z7 rfl,b,o,a1,_,a2,λc2=>oy,λ_=>?_⟩;try dsimp only
  rw[yO];refine⟨v0,d.ld1 0 rfl z7 rfl,b,o,a1,_,a2,?_⟩;try dsimp only
  rw[wU];refine⟨_,d.ld1 0 rfl zm rfl,_,shl,λc3=>oy,λ_=>hs.on λB q=>⟨rfl,rfl,l.length-(i+1),oy,i+1,oy,rfl,rfl,?_⟩⟩;try dsimp only
  rw[<-e];exact q.sub da
 refine thenC.left (wpS.av q zXw rfl rfl ⟨⟨j,m⟩,?_⟩);try dsimp only
 rw[yO];have X:Sl (zX h') v0 1 l.length (zV l):=s1;refine⟨v0,d.ld1 0 rfl z7 rfl,zA9 X oy (λx Y=>?_) ⟨_,rfl,(xg j m).1,qV m ?_ j⟩⟩
 .have:=ZX g.low Y;rw[y,<-s]at this;omega
 try dsimp only
 rw[wU];refine⟨_,d.ld1 0 rfl zm rfl,_,shl,λc=>absurd ?_ c,λ_=>q.on λA p=>p.slt λZ D=>D.slt λwH E=>endW.r1 (E.get rfl) rfl⟩;rw[y,s]
theorem zPW{log:Nat}(hl:log=5\/log=6){h:H}{Q:Uc}(d:Q (.tuple [dd (XZ log:Nat),dd 0]) h):RF P zB 218 [dd log] h Q:=by
 have g:=yy hl;refine yU z0z ⟨λc=>oy,λ_=>⟨λc=>oy,λ_=>Has.nil.on λtm hs=>?_⟩⟩;refine wpS.av hs zTJ rfl rfl ⟨((1*2^log:Nat):Int),by rw[zb oy];exact zz (a:=1) oy oy,db,db,hs.on λf b=>endW.r2 (b.get rfl) (b.get rfl) ?_⟩;have e:zG (zG (zG (Int.tdiv ((1*2^log:Nat):Int) 2)+zG (Int.tdiv ((1*2^log:Nat):Int) 8))+3)=((XZ log:Nat):Int):=by
  rw[Nat.one_mul,show Int.tdiv ((2^log:Nat):Int) 2=((2^log/2:Nat):Int)from rfl,show Int.tdiv ((2^log:Nat):Int) 8=((2^log/8:Nat):Int)from rfl,Z7 (n:=2^log/2) oy,Z7 (n:=2^log/8) oy,
   zD (n:=((2^log/2:Nat):Int)+((2^log/8:Nat):Int)) oy oy,zD oy oy]
  unfold XZ;omega
 try dsimp only
 rw[e];exact d
def tkL(size n:Nat):Ug:=(List.range size).map λq=>V.bool (decide (n<=q))
theorem zPi(size:Nat):List.replicate size (V.bool false)=tkL size size:=by
 apply List.ext_getElem?;intro i;unfold tkL;rw[List.getElem?_replicate,oh];by_cases h:i<size
 .rw[if_pos h,List.getElem?_range h];simp;omega
 rw[if_neg h,ov (by simp;omega)];rfl
theorem zR7{size n:Nat}(h0:0<n)(a:n<=size):(tkL size n).set (n-1) (.bool true)=tkL size (n-1):=by
 apply List.ext_getElem?;intro i;unfold tkL;by_cases c:i=n-1
 .subst c;rw[List.getElem?_set_self (by simp;omega),oh,List.getElem?_range oy];simp only[oo];rw[decide_eq_true (oV _)]
 rw[om (λq=>c q.symm),oh,oh];by_cases h:i<size
 .rw[List.getElem?_range h];simp only[oo];congr 2;by_cases g:n<=i
  .rw[decide_eq_true g,decide_eq_true oy]
  rw[decide_eq_false g,decide_eq_false oy]
 rw[ov (by simp;omega)];rfl
theorem zWn{size n p:Nat}(h:p<size):(tkL size n)[p]? = some (.bool (decide (n<=p))):=by unfold tkL;rw[oh,List.getElem?_range h];rfl
structure RsI (hb h:H) (b9 b8 p0 size log:Nat) (v:V) (n:Nat) (xs:Ub):Prop where
 vw:∃c9 c8,Vw zN hb h 3 [(b9,Zf c9),(b8,Zf c8),(p0,oD log v)]/\Row c9 size (tkL size n)/\Row c8 size (zV xs)
theorem RsI.ex{hb h:H}{b9 b8 p0 size log n:Nat}{v:V}{xs:Ub}(i:RsI hb h b9 b8 p0 size log v n xs):Ext hb h 3:=by obtain⟨c9,c8,w,_⟩:=i;exact w.ex0
theorem RsI.dist{hb h:H}{b9 b8 p0 size log n:Nat}{v:V}{xs:Ub}(i:RsI hb h b9 b8 p0 size log v n xs):zo zB 23 h (.ptr p0 (0+1))=some v:=by obtain⟨c9,c8,w,_⟩:=i;exact w.ld1 2 rfl z7 rfl
theorem RsI.put{hb h:H}{b9 b8 p0 size log n j:Nat}{v:V}{xs:Ub}(i:RsI hb h b9 b8 p0 size log v n xs)(s:Int)(c:j<size)(l:hb.nx+3<=T.top):∃h',zZ zB 3 h (.ptr b8 j) (dd s)=some h'/\RsI hb h' b9 b8 p0 size log v n (xs.set j s):=by obtain⟨c9,c8,w,d,e⟩:=i;have m:=w.top;obtain⟨f,b,g,a,k,o⟩:=w.set (cx:=zB) 1 (j:=j) (u:=dd s) e rfl oy c zm rfl rfl rfl rfl;exact⟨f,g,⟨c9,b,k,d,by rw[Zx];exact a⟩⟩
theorem RsI.mark{hb h:H}{b9 b8 p0 size log n:Nat}{v:V}{xs:Ub}(i:RsI hb h b9 b8 p0 size log v n xs)(h0:0<n)(b:n<=size)(l:hb.nx+3<=T.top):∃h',zZ zB 4 h (.ptr b9 (n-1)) (.bool true)=some h'/\RsI hb h' b9 b8 p0 size log v (n-1) xs:=by obtain⟨c9,c8,w,d,e⟩:=i;have m:=w.top;obtain⟨f,c,g,a,k,o⟩:=w.set (cx:=zB) 0 (j:=n-1) (u:=.bool true) d rfl oy oy ty4 rfl rfl rfl rfl;exact⟨f,g,⟨c,c8,k,by rw[<-zR7 h0 b];exact a,e⟩⟩
theorem RsI.taken{hb h:H}{b9 b8 p0 size log n p:Nat}{v:V}{xs:Ub}(i:RsI hb h b9 b8 p0 size log v n xs)(a:p<size):zo zB 4 h (.ptr b9 p)=some (.bool (decide (n<=p))):=by obtain⟨c9,c8,w,b,_⟩:=i;exact w.ld1 0 rfl ty4 ((b.2.2.2 p a).trans (zWn a))
theorem zYh{log p:Nat}(hl:log=5\/log=6)(a:p<2^log):Int.tmod (zG ((p:Int)+(XZ log:Nat))) ((2^log:Nat):Int)=(((p+XZ log) % 2^log:Nat):Int):=by
 have h1:=yy hl;have b:XZ log<=2^log+3:=by unfold XZ;omega
 rw[zD oy oy];rfl
theorem zPX{hb h:H}{b9 b8 p0 m log:Nat}{v:V}{xs:Ub}{f p tgt:Nat}{tm:Tm}{R:Ud}{y1 y8 y14 y13:V}(hl:log=5\/log=6)(i:RsI hb h b9 b8 p0 (2^log) log v (2^log-m) xs)(e:p<2^log)(a:nxt log m f p=tgt)(l:tgt<2^log-m)(hs:Has tm [(9,.slice b9 0 (2^log) (.exact (2^log))),(12,dd p),(6,dd (XZ log:Nat)),(5,dd (2^log:Nat)),(1,y1),(8,y8),(14,y14),(13,y13)])(g:∀b,Has b [(9,.slice b9 0 (2^log) (.exact (2^log))),(12,dd tgt),(6,dd (XZ log:Nat)),(5,dd (2^log:Nat)),(1,y1),(8,y8),(14,y14),(13,y13)]->R (.exit 6) ⟨93,b,[],h⟩):
  wpC P zB false (.loop zHO) ⟨93,tm,[],h⟩ R:=by
 have j:=yy hl;refine wpC.round (λk tm h'=>h'=h/\∃p,p<2^log/\nxt log m k p=tgt/\Has tm [(9,.slice b9 0 (2^log) (.exact (2^log))),(12,dd p),(6,dd (XZ log:Nat)),(5,dd (2^log:Nat)),(1,y1),(8,y8),(14,y14),(13,y13)]) f ⟨rfl,p,e,a,hs⟩ ?_;clear hs e a;rintro k tm h' ⟨rfl,p,e,a,hs⟩;refine wpC.av hs zRu rfl rfl ⟨b9,p,jx zPq rfl ty4 rfl e,_,i.taken e,λc=>?_,λc=>hs.on λb d=>?_⟩
 .have c:=of_decide_eq_true c;rcases k with _|k
  .have:p=tgt:=a;omega
  unfold nxt at a;rw[if_neg oy]at a;refine⟨oy,hs.on λb d=>⟨rfl,rfl,k,Nat.lt_succ_self k,rfl,(p+XZ log) % 2^log,Nat.mod_lt _ (Nat.pow_pos db),a,?_⟩⟩;try dsimp only
  rw[<-zYh hl e];exact d.sub da
 have c:=of_decide_eq_false c;have:p=tgt:=by
  rcases k with _|k
  .exact a
  unfold nxt at a;rw[if_pos oy]at a;exact a
 subst this;exact g b (d.sub da)
theorem zHl{v:V}{log:Nat}{l:Ub}(sl:Sl h v 1 l.length (zV l))(g:GD log l)(hn:h.nx+10<=T.top)(hq:∀h' v',Ext h h' 7->Sl h' v' 1 (2^log) (zV (jS log l))->Q (.tuple [v',dd 0]) h'):RF P zB 152 [.agg [dd log,v]] h Q:=by
 have hpw:=yy g.lg;have t:=g.lg;have hlen:=g.len;have hcells:=g.cells;have E:yQ l<=12:=oW (zAN l) g.len;refine yU z09 (wb sl ⟨oy,?_⟩);rintro p0 h1 rfl e1;have O:=(Vw.nil (S:=zN) (h:=h)).new e1 oy;have t1:=O.top;refine⟨_,_,O.ldA 0 rfl xO rfl,ql (sl.ext O.ex0) g ⟨0,rfl,λc=>absurd rfl c,λ_=>⟨_,O.ld1 0 rfl zm rfl,((1*2^log:Nat):Int),by rw[zb oy];exact zz (a:=1) oy oy,_,O.ld1 0 rfl zm rfl,zPW t ⟨_,_,rfl,?_⟩⟩⟩⟩;try dsimp only
 rw[Nat.one_mul];obtain⟨cs,H,row⟩:=Row.make (cx:=zB) (k:=2^log) (h:=h1) z7 rfl zm rfl rfl rfl oy (by show 8*2^log<=_;omega) oy;obtain⟨p,I⟩:∃p,p=h1.new (Zf cs):=⟨_,rfl⟩;rw[<-I]at H;have J:=O.new I oy;have t11:=J.top;obtain⟨R,K,F⟩:=Row.make (cx:=zB) (k:=2^log) (h:=p) zPq rfl ty4 rfl rfl rfl oy (by show 1*2^log<=_;omega) oy;obtain⟨B,L⟩:∃B,B=p.new (Zf R):=⟨_,rfl⟩;rw[<-L]at K;have M:=J.new L oy;have t12:=M.top;have el:zG (((2^log:Nat):Int)-1)=((2^log:Nat):Int)-1:=zD oy oy;try dsimp only
 rw[el];refine⟨_,p,H,_,B,K,Has.nil.on λtm hs=>?_⟩;have m:RsI h B p.nx h1.nx h.nx (2^log) log v (2^log) (List.replicate (2^log) 0):=⟨R,cs,M,by rw[<-zPi];exact F,by rw[YZ];exact row⟩;clear M J row F H K I L t11 t12;generalize p.nx=b9 at hs m;generalize h1.nx=b8 at hs m;refine wpC.round (λk tm h'=>∃(i n:Nat) (xs:Ub),i<=l.length/\k=l.length-i/\RsI h h' b9 b8 h.nx (2^log) log v n xs /\
  JI (l.drop i) i n xs=JI l 0 (2^log) (List.replicate (2^log) 0)/\n+yQ l=2^log+yQ (l.drop i)/\n<=2^log /\
  Has tm [(11,dd i),(1,.ptr h.nx 0),(8,.slice b8 0 (2^log) (.exact (2^log))),(10,dd ((n:Int)-1)),(9,.slice b9 0 (2^log) (.exact (2^log))),(6,dd (XZ log:Nat)),(5,dd (2^log:Nat))]) l.length
  ⟨0,2^log,_,oy,oy,m,rfl,rfl,oV _,hs.sub da⟩ ?_
 clear hs m;rintro k tm h' ⟨i,n,xs,hi1,rfl,m,s,hN,N,hs⟩;have o:=sl.ext m.ex;refine wpC.av hs zRt rfl rfl ?_;try dsimp only
 rw[yO];refine⟨v,m.dist,_,o.len z7 rfl,λU=>?_,λU=>hs.on λC b=>?_⟩
 .try dsimp only
  rw[yO];have d:i<l.length:=oy
  have hd:=qz d;have W:=zAO d;obtain⟨pb,po,a1,a2⟩:=o.at1 (u:=dd l[i]) d z7 rfl zm rfl rfl (by rw[oh,oU d];rfl);have e:zG ((i:Int)+1)=((i+1:Nat):Int):=by rw[zD oy oy];rfl
  refine⟨v,m.dist,pb,po,a1,_,a2,λX=>?_,λX=>hs.on λC b=>?_⟩
  .rw[if_pos X]at W;have en:(n:Int)-1=((n-1:Nat):Int):=oy
   obtain⟨h3,K,i3⟩:=m.put (i:Int) (j:=n-1) oy oy;obtain⟨h4,e4,i4⟩:=i3.mark oy N oy;rw[en]at hs ⊢;refine⟨b8,n-1,jx z7 rfl zm rfl,h3,K,b9,n-1,jx zPq rfl ty4 rfl,h4,e4,hs.on λC b=>⟨rfl,rfl,l.length-(i+1),oy,i+1,n-1,_,oy,rfl,i4,?_,oy,oy,?_⟩⟩
   .rw[<-s,hd];exact(if_pos X).symm
   have H:zG (((n-1:Nat):Int)-1)=((n-1:Nat):Int)-1:=zD oy oy;have q:=b.sub (l':=[(11,dd (zG ((i:Int)+1))),(1,.ptr h.nx 0),(8,.slice b8 0 (2^log) (.exact (2^log))),(10,dd (zG (((n-1:Nat):Int)-1))),(9,.slice b9 0 (2^log) (.exact (2^log))),(6,dd (XZ log:Nat)),(5,dd (2^log:Nat))]) da;rw[e,H]at q;exact q
  rw[if_neg X]at W;refine⟨rfl,rfl,l.length-(i+1),oy,i+1,n,xs,oy,rfl,m,?_,oy,N,?_⟩
  .rw[<-s,hd];exact(if_neg X).symm
  rw[<-e];exact b.sub da
 have d:i=l.length:=oy
 subst d;rw[List.drop_length]at s hN;have hn9:n=2^log-yQ l:=by have:yQ []=0:=rfl;omega
 subst hn9;have hx0:xs=JI l 0 (2^log) (List.replicate (2^log) 0):=s;subst hx0;refine thenC.left (wpS.av b zSt rfl rfl (b.on λtm2 y=>?_));refine wpC.round (λk tm h'=>∃(i n:Nat) (xs:Ub),i<=l.length/\k=l.length-i/\RsI h h' b9 b8 h.nx (2^log) log v (2^log-yQ l) xs /\
  Jz log (yQ l) (l.drop i) i n xs=jS log l /\
  Has tm [(13,dd i),(1,.ptr h.nx 0),(12,dd (plc log (yQ l) n:Nat)),(8,.slice b8 0 (2^log) (.exact (2^log))),(9,.slice b9 0 (2^log) (.exact (2^log))),(6,dd (XZ log:Nat)),(5,dd (2^log:Nat))]) l.length
  ⟨0,0,_,oy,oy,m,rfl,y.sub da⟩ ?_
 clear hs y b m s hN N o;rintro k tm h' ⟨i,n,xs,hi1,rfl,m,s,hs⟩;have o:=sl.ext m.ex;refine wpC.av hs zRw rfl rfl ?_;try dsimp only
 rw[yO];refine⟨v,m.dist,_,o.len z7 rfl,λU=>hs.on λqM z=>?_,λU=>hs.on λC b=>?_⟩
 rotate_left
 .have d:i=l.length:=oy
  subst d;rw[List.drop_length]at s;have hx:xs=jS log l:=s;subst hx;obtain⟨c9,c8,w,r9,r8⟩:=m;refine thenC.left (wpS.av b zSs rfl rfl (b.on λY A=>A.slt λwH r=>endW.r2 (r.get rfl) (r.get rfl) ?_));exact hq h' _ (w.ex0.mono oy) (r8.sl (w.lt 1 rfl) (w.get 1 rfl))
 have d:i<l.length:=oy
 have hd:=qz d;have e:zG ((i:Int)+1)=((i+1:Nat):Int):=by rw[zD oy oy];rfl
 have G:=ZX g.low (od d);rw[g.pts]at G;have hpc:((2^log:Nat):Int)=2^log:=by simp
 rw[hd]at s;unfold Jz at s;have Z:l[i]? = some l[i]:=oU d;generalize l[i]=x at Z s G;refine wpC.round (λk tm h'=>∃(j:Nat) (D:Ub),j<=x.toNat/\k=x.toNat-j/\RsI h h' b9 b8 h.nx (2^log) log v (2^log-yQ l) D /\
  Jy log (yQ l) i (x.toNat-j) (n+j) D=Jy log (yQ l) i x.toNat n xs /\
  Has tm [(14,dd j),(1,.ptr h.nx 0),(13,dd i),(8,.slice b8 0 (2^log) (.exact (2^log))),(12,dd (plc log (yQ l) (n+j):Nat)),(6,dd (XZ log:Nat)),(5,dd (2^log:Nat)),(9,.slice b9 0 (2^log) (.exact (2^log)))]) x.toNat
  ⟨0,xs,oy,oy,m,rfl,z.sub da⟩ ?_
 clear hs z m o;rintro k tm h' ⟨j,D,hj1,rfl,m,hP,hs⟩;have o:=sl.ext m.ex;obtain⟨pb,po,a1,a2⟩:=o.at1 (u:=dd x) d z7 rfl zm rfl rfl (by rw[oh,Z];rfl);refine wpC.av hs zRv rfl rfl ?_;try dsimp only
 rw[yO];refine⟨v,m.dist,pb,po,a1,x,a2,λU=>?_,λU=>hs.on λC b=>?_⟩
 .have hj:j<x.toNat:=oy
  have hpl:=Jx t E (n+j);have H:zG ((j:Int)+1)=((j+1:Nat):Int):=by rw[zD oy oy];rfl
  obtain⟨h3,K,i3⟩:=m.put (i:Int) (j:=plc log (yQ l) (n+j)) oy oy;refine⟨b8,plc log (yQ l) (n+j),jx z7 rfl zm rfl,h3,K,oy,hs.on λqM z=>?_⟩;rw[zYh t oy]at z;refine zPX (log:=log) (y1:=.ptr h.nx 0) (y8:=.slice b8 0 (2^log) (.exact (2^log))) (y14:=dd j) (y13:=dd i) (f:=13) (tgt:=plc log (yQ l) (n+(j+1))) t i3 (Nat.mod_lt _ (Nat.pow_pos db)) rfl (Jx t E _) (z.sub da) λtm2 y=>?_
  refine thenC.out2 ?_;refine wpS.av y zSq rfl rfl (y.on λY A=>A.slt λwH r=>⟨rfl,rfl,x.toNat-(j+1),oy,j+1,_,oy,rfl,i3,?_,?_⟩)
  .rw[<-hP,show x.toNat-j=(x.toNat-(j+1))+1 by omega];rfl
  rw[<-H];exact r.sub da
 have hj:j=x.toNat:=oy
 subst hj;rw[Nat.sub_self]at hP;have hx1:D=Jy log (yQ l) i x.toNat n xs:=hP;subst hx1;refine thenC.left2 ?_;refine wpS.av b zSr rfl rfl (b.on λY A=>A.slt λwH r=>⟨rfl,rfl,l.length-(i+1),oy,i+1,n+x.toNat,_,oy,rfl,m,s,?_⟩);try dsimp only
 rw[<-e];exact r.sub da
theorem _root_.Go.Sim.Ow.set{cx:Ctx}{v u:V}{te ti:TI}{n t e j:Nat}{xs:Ug}(s:Ow h v te n xs)(m:j<n)(p:cx.ty.get t=some ti)(r:ti.desc = .slice e)(f:cx.ty.get e=some te)(hs:te.size=1)(d:u.cells=[u])(w:u.one=true)(D:h.nx<=T.top):
  ∃b h',yG v=some b/\yo cx t v (dd j)=some (.ptr b j)/\zZ cx e h (.ptr b j) u=some h'/\Ow h' v te n (xs.set j u)/\h'.nx=h.nx/\ExtX (λi=>yG v=some i) h h' 0:=by
 obtain⟨g,⟨rfl,E⟩|⟨b,cs,rfl,hb,x,y,hl,z⟩⟩:=s
 .omega
 obtain⟨a,k,A⟩:=Cs.put_some (cs:=cs) y (o:=j) (vs:=[u]) (by rw[hl,hs];simp;omega);obtain⟨_,B,C⟩:=Cs.put_eq k;have c:b<T.top:=oy
 refine⟨b,h.upd b (some (.cells a (jC te) true true)),rfl,jx p r f hs m,z6 f x (by rw[d];exact k) (xL.2 (by rw[d,hs];rfl)) (oQ _) (by rw[d];simp[za,w]),⟨by rw[List.length_set];exact g,.inr ⟨b,a,rfl,hb,zF _ c,A,by rw[B,hl],λi hi=>?_⟩⟩,rfl,(ExtX.refl0 _ _).upd _ c (.inl rfl)⟩;rw[C];by_cases l:i=j
 .subst l;rw[if_pos ⟨oV _,by simp⟩,Nat.sub_self,List.getElem?_set_self (by rw[g,hs];omega)];rfl
 rw[if_neg (by simp;omega),om (λq=>l q.symm)];exact z i hi
def nxL(n:Nat)(nx:Int->Nat):Ub:=(List.range n).map λi=>((nx ((i:Nat):Int):Nat):Int)
theorem Y1(n:Nat)(nx:Int->Nat):(nxL n nx).length=n:=by simp[nxL]
theorem zNj{n s:Nat}{nx:Int->Nat}(h:s<n):(nxL n nx)[s]? = some ((nx (s:Int):Nat):Int):=by unfold nxL;rw[oh,List.getElem?_range h];rfl
theorem zQu{n s:Nat}{nx:Int->Nat}(h:s<n):(nxL n nx).set s ((nx (s:Int)+1:Nat):Int)=nxL n (λj=>if j=(s:Int) then nx (s:Int)+1 else nx j):=by
 apply List.ext_getElem?;intro i;unfold nxL;by_cases c:i=s
 .subst c;rw[List.getElem?_set_self (by simp;exact h),oh,List.getElem?_range h];simp
 rw[om (λq=>c q.symm),oh,oh];by_cases hi:i<n
 .rw[List.getElem?_range hi];simp only[oo];rw[if_neg oy]
 rw[ov (by simp;omega)];rfl
theorem zNk(n:Nat)(nx:Int->Nat):nxL (n+1) nx=nxL n nx++[((nx (n:Int):Nat):Int)]:=by unfold nxL;rw[List.range_succ,List.map_append];rfl
theorem zHg{v:V}{log:Nat}{l:Ub}(sl:Sl h v 1 l.length (zV l))(g:GD log l)(hn:h.nx+300<=T.top)(hlow:h.low<=T.top)(hq:∀h' v',Ext h h' 250->Sl h' v' 3 (2^log) (xH (xI log l))->(∀b,yG v'=some b->h.nx<=b)->Q (.tuple [v',.int .i64 0]) h'):RF P zB 88 [.agg [.int .i64 log,v]] h Q:=by
 have hpw:=yy g.lg;have hlg:=g.lg;have hlen:=g.len;refine yU z4Z (wb sl ⟨oy,?_⟩);rintro p0 h1 rfl e1;have z:=(Vw.nil (S:=zN) (h:=h)).new e1 oy;have t1:=z.top;have s1:=sl.ext z.ex0;refine⟨_,_,z.ldA 0 rfl xO rfl,ql s1 g ⟨0,rfl,λc=>absurd rfl c,λ_=>⟨_,_,z.ldA 0 rfl xO rfl,?_⟩⟩⟩;refine zHl s1 g oy λI X x2 s12=>⟨_,_,rfl,λc=>absurd rfl c,λ_=>Has.nil.on λtm hs=>?_⟩
 have p:=z.ex0.trans x2;have t2:=p.top;have lw2:=p.low;have g0:I.get h.nx=some (oD log v):=(x2.get _ (z.lt 0 rfl)).trans (z.get 0 rfl);have l0:h.nx<I.nx:=oO (z.lt 0 rfl) x2.le;have s2:=sl.ext p;clear z t1 s1 e1 x2;refine wpC.round (λk tm h'=>∃(i:Nat) (J:V),i<=l.length/\k=l.length-i/\Vw zN I h' (2*i) []/\Ow h' J yn (nxL i (wx l)).length (zV (nxL i (wx l)))/\Sep zN I.nx [] J /\
  Has tm [(8,.int .i64 i),(1,.ptr h.nx 0),(7,J),(5,X)]) l.length ⟨0,.nilslice,oy,oy,Vw.nil,Ow.nil _ _,λb hb=>(by cases hb),hs.sub da⟩ ?_
 clear hs;rintro k tm h' ⟨i,J,Y,rfl,w,ow,sp,hs⟩;have tw:=w.top;have Z:=w.low;have B:zo zB 23 h' (.ptr h.nx (0+1))=some v:=zK z7 rfl ((w.ex0.get _ l0).trans g0) rfl;have K:=s2.ext w.ex0;refine wpC.av hs zXE rfl rfl ?_;try dsimp only
 rw[yO];refine⟨v,B,_,K.len z7 rfl,λc1=>⟨⟨oy,oy⟩,?_⟩,λc1=>hs.on λL f=>?_⟩
 .try dsimp only
  rw[yO];have d:i<l.length:=oy
  have hgi:l[i]? = some l[i]:=oU d;obtain⟨pb,po,a1,a2⟩:=K.at1 (u:=.int .i64 l[i]) d z7 rfl zm rfl rfl (by rw[oh,hgi];rfl);have hlo:=g.low _ (od d);have hhi:=ZX g.low (od d);rw[g.pts]at hhi;have hpc:((2^log:Nat):Int)=2^log:=by simp
  have F:wx l (i:Int)=(l[i]).natAbs:=by unfold wx;rw[ol,hgi];rfl
  generalize l[i]=x at a2 hlo hhi F;refine⟨v,B,pb,po,a1,x,a2,?_⟩;try dsimp only
  rw[yO];have em:max x (zG (0-x))=((wx l (i:Int):Nat):Int):=by rw[F,zD oy oy];omega
  obtain⟨v16,h17,e16,sl17,M⟩:=we (h:=h') ((wx l (i:Int):Nat):Int) oy;have t17:=M.top;obtain⟨v18,h19,e18,A⟩:=Ow.append (c:=zB) (te:=yn) (m:=1) (ow.ext M) sl17 db z7 rfl zm rfl rfl (by rw[Y1];show(i+1)*1<=_;omega) (by rw[Y1];show(i+1)*8<=_;omega) oy;obtain⟨w19,ow19,sp19⟩:=(w.ext M).grow (k:=(nxL (i+1) (wx l)).length) (xs:=zV (nxL (i+1) (wx l))) sp (by rw[zNk,xQ,oe];exact A);have e:zG ((i:Int)+1)=((i+1:Nat):Int):=by rw[zD oy oy];rfl
  refine⟨v,B,pb,po,a1,x,a2,v16,h17,by rw[em];exact e16,trivial,v18,h19,e18,hs.on λL f=>⟨rfl,rfl,l.length-(i+1),oy,i+1,v18,oy,rfl,w19.more oy,ow19,sp19,?_⟩⟩;try dsimp only
  rw[<-e];exact f.sub da
 have d:i=l.length:=oy
 subst d;have hdl:=ZA log l;refine thenC.left (wpS.av f zYA rfl rfl (f.on λtm2 C=>?_));refine wpC.round (λk tm h'=>∃(i:Nat) (nx:Int->Nat) (W:V),i<=2^log/\k=2^log-i/\Vw zN I h' (2*l.length+2*i) []/\Ow h' J yn (nxL l.length nx).length (zV (nxL l.length nx)) /\
  Ow h' W ⟨131,(.struct #[⟨ "Symbol",3,0,false, "", "",0⟩,⟨ "Bits",3,1,false, "", "",8⟩,⟨ "Base",3,2,false, "", "",16⟩]),3,24,some (.agg [(.int .i64 0),(.int .i64 0),(.int .i64 0)]),true,false,false,[]⟩ i (xH ((xI log l).take i))/\Sep zN I.nx [] W/\(∀b,yG J=some b->yG W≠some b) /\
  Ob log nx ((jS log l).drop i)=(xI log l).drop i/\(∀s,wx l s<=nx s/\nx s<=2^log+i) /\
  Has tm [(10,.int .i64 i),(5,X),(1,.ptr h.nx 0),(7,J),(9,W)]) (2^log)
  ⟨0,wx l,.nilslice,oy,oy,w.more oy,ow,Ow.nil _ _,λb hb=>(by cases hb),λb _ hb=>(by cases hb),rfl,λs=>⟨oV _,by have:=zD0 g s;omega⟩,C.sub da⟩ ?_
 clear hs f C w ow B K tw Z Y;rintro k tm h' ⟨i,nx,W,Y,rfl,w,ow,N,sp9,hne,hce,hnx,hs⟩;have tw:=w.top;have Z:=w.low;have G:zo zB 3 h' (.ptr h.nx (0+0))=some (.int .i64 log):=zK zm rfl ((w.ex0.get _ l0).trans g0) rfl;have ssk:=s12.ext w.ex0;refine wpC.av hs zXF rfl rfl ⟨_,ssk.len z7 rfl,λc1=>?_,λc1=>hs.on λL f=>?_⟩
 rotate_left
 .have d:i=2^log:=oy
  subst d;rw[List.take_of_length_le oy]at N;refine thenC.left (wpS.av f zXz rfl rfl (f.on λtm2 C=>C.slt λtm3 hs3=>endW.r2 (hs3.get rfl) (hs3.get rfl) ?_));exact hq h' W ((p.trans w.ex0).mono oy) N.sl λb hb=>by
   have:=p.le;rcases(sp9 b hb).1 with q|q
   .exact q.elim
   omega
 have d:i<(jS log l).length:=by rw[JR];omega
 have O:(jS log l)[i]? = some (jS log l)[i]:=oU d;have r:=zAp g O;obtain⟨pb,po,a1,a2⟩:=ssk.at1 (i:=i) (u:=.int .i64 (jS log l)[i]) (show i<2^log by omega) z7 rfl zm rfl rfl (by rw[oh,O];rfl);have t:=hce;rw[List.drop_eq_getElem_cons d]at t;unfold Ob at t;have hid:i<(xI log l).length:=oy
 rw[List.drop_eq_getElem_cons hid]at t;obtain⟨hc1,hc2⟩:=List.cons.inj t;have htk:(xI log l).take (i+1)=(xI log l).take i++[cel log (jS log l)[i] (nx (jS log l)[i])]:=by rw[List.take_add_one,oU hid,<-hc1];rfl
 clear t hce hc1 O;generalize (jS log l)[i]=sy at r a2 hc2 htk;have hx1:=zAP r;have hxs:=hnx sy;obtain⟨s,rfl,pr,hpr,_⟩:=r;have o:s<l.length:=(List.getElem?_eq_some_iff.1 hpr).1;obtain⟨b1,b2,b3,b4,b5⟩:=Jd (log:=log) (x:=nx (s:Int)) oy (by rw[Nat.pow_succ];omega);have e:zG ((i:Int)+1)=((i+1:Nat):Int):=by rw[zD oy oy];rfl
 have hnb:=qU (x:=nx (s:Int)) oy;have e2p:2^(log+1)=2*2^log:=Nat.pow_succ';obtain⟨pn,on,n1,n2⟩:=ow.sl.at1 (c:=zB) (i:=s) (u:=.int .i64 (nx (s:Int):Nat)) (by rw[Y1];exact o) z7 rfl zm rfl rfl (by rw[oh,zNj o];rfl);have D:h'.nx<=T.top:=oy
 have E:h'.low<=T.top:=oy
 refine⟨pb,po,a1,_,a2,⟨D,E⟩,?_⟩;try dsimp only
 rw[wU];refine⟨_,G,pn,on,n1,_,n2,zA8 ⟨_,rfl,(xg D E).1,qV E ⟨⟨D,E⟩,pn,on,n1,_,n2,?_⟩ D⟩⟩;have eb:zG ((log:Int)-((zT (nx (s:Int)):Nat)-1:Int))=((wT log (nx (s:Int)):Nat):Int):=by rw[zD oy oy];unfold wT;omega
 try dsimp only
 rw[eb];refine⟨((nx (s:Int)*2^wT log (nx (s:Int)):Nat):Int),by rw[zb oy];exact zz oy oy,?_⟩;try dsimp only
 rw[wU];refine⟨_,G,((1*2^log:Nat):Int),by rw[zb oy];exact zz (a:=1) oy oy,?_⟩;have eba:zG (((nx (s:Int)*2^wT log (nx (s:Int)):Nat):Int)-((1*2^log:Nat):Int))=((O8 log (nx (s:Int)):Nat):Int):=by rw[zD oy oy];unfold O8;omega
 try dsimp only
 rw[eba];obtain⟨v22,h23,e22,sl23,n,_⟩:=jK (c:=zB) (h:=h') (u:=.agg (kf (cel log (s:Int) (nx (s:Int))))) (ys:=kf (cel log (s:Int) (nx (s:Int)))) YO rfl Yv rfl rfl rfl rfl (oH rfl) rfl oy;have t23:=n.top;obtain⟨v24,h25,e24,A⟩:=Ow.append (c:=zB) (m:=1) (N.ext n) sl23 db YO rfl Yv rfl rfl (by show(i+1)*3<=_;omega) (by show(i+1)*24<=_;omega) oy;have hcv:xH ((xI log l).take (i+1))=xH ((xI log l).take i)++kf (cel log (s:Int) (nx (s:Int))):=by rw[htk,O9];rfl
 obtain⟨w25,H,sp25⟩:=(w.ext n).grow (k:=i+1) (xs:=xH ((xI log l).take (i+1))) sp9 (by rw[hcv];exact A);obtain⟨_,A2,A3,A4,A5,_⟩:=A;have t25:=w25.top;have owN:=(ow.ext n).keep (h':=h25) A2 λb hb=>A4 b ((ow.ext n).blk hb) (hne b hb)
 obtain⟨b7,R,hb7,i7,e31,y,n31,x31⟩:=owN.set (cx:=zB) (j:=s) (u:=.int .i64 (nx (s:Int)+1:Nat)) (by rw[Y1];exact o) z7 rfl zm rfl rfl rfl oy;obtain⟨pn2,on2,m1,m2⟩:=owN.sl.at1 (c:=zB) (i:=s) (u:=.int .i64 (nx (s:Int):Nat)) (by rw[Y1];exact o) z7 rfl zm rfl rfl (by rw[oh,zNj o];rfl);have exx:zG (((nx (s:Int):Nat):Int)+1)=((nx (s:Int)+1:Nat):Int):=by rw[zD oy oy];rfl
 have w31:Vw zN I R (2*l.length+2*i+1+1+0) []:=w25.apart x31 (λb hb=>(sp b hb).1) (λq hq=>(by cases hq));rw[<-Zx,zQu o]at y;have U:=H.keep (h':=R) oy λb hb=>x31.get _ (H.blk hb) λq=>by rw[A5]at hb;cases hb;have:=(ow.ext n).blk q;omega
 refine⟨v22,h23,e22,trivial,v24,h25,e24,pn2,on2,m1,_,m2,b7,s,i7,R,by rw[exx];exact e31,hs.on λL f=>⟨rfl,rfl,2^log-(i+1),oy,i+1,λj=>if j=(s:Int) then nx (s:Int)+1 else nx j,v24,oy,rfl,w31.more oy,?_,U,sp25,λb hb q=>?_,hc2,λj=>?_,?_⟩⟩
 .rw[Y1]at y ⊢;exact y
 .rw[A5]at q;cases q;have:=(ow.ext n).blk hb;omega
 .have:=hnx j;show wx l j<=(if j=(s:Int) then nx (s:Int)+1 else nx j)/\(if j=(s:Int) then nx (s:Int)+1 else nx j)<=_;by_cases c:j=(s:Int)
  .subst c;rw[if_pos rfl];omega
  rw[if_neg c];omega
 rw[<-e];exact f.sub da
open Go (Oper)
theorem _root_.Go.Sim.aop_idx{c:Ctx}{o:Oper}{t:Nat}{a x:Go.Operand}{e:Go.Operand->Ui}{p v w:V}(b:o.op = .indexAddr t a x)(d:e a=some p)(f:e x=some v)(hs:yo c t p v=some w):yD c o e h=some (.val w h):=by unfold yD;simp only[b,d,f,hs];rfl
theorem _root_.Go.Sim.opsF_val{c:Ctx}{orc:Nat->Ug->H->Option (V×H)}{b:Bool}{ih:Ue}{o:Oper}{ops l:List Oper}{n t:Nat}{tm:Tm}{d:List AD}{v:V}{a:Option Out}(g:o.guard=none)(i:yD c o (zx tm) h=some (.val v h))(j:o.dst=some t)(k:Nat.blt t n=true)(e:wX c orc b ih ops l ⟨n,Tb.set tm t v,d,h⟩=a):wX c orc b ih ops (o::l) ⟨n,tm,d,h⟩=a:=by
 have m:zh ops tm o=true:=by unfold zh;rw[g]
 have f:zc c orc b ih o ⟨n,tm,d,h⟩=some (.normal,⟨n,Tb.set tm t v,d,h⟩):=by unfold zc;simp only[i];unfold yk;simp only[j,k,oS]
 show cond (zh ops tm o) (match zc c orc b ih o ⟨n,tm,d,h⟩with|some (.normal,p)=>_|some (x,p)=>_|none=>none) _=_;rw[m,oS,f];exact e
abbrev OJ(s:Ua)(left:Nat):O:=.cells (.ls [.str s,dd left]) ⟨0,120+1,0⟩ true false
abbrev oCl(c:Cl):O:=.cells (.ls (kf c)) ⟨0,131+1,0⟩ true false
def zFR:List Oper:=z5H.toList
def oE(i:Nat):Oper:=(zFR[i]?).getD default
theorem zRC:zFR=[oE 0,oE 1,oE 2,oE 3,oE 4,oE 5,oE 6,oE 7,oE 8,oE 9]:=da
theorem okE:ya zFR=some 8:=da
section
variable (tm:Tm) (y16 y9 v62 v66 v67 v68 v69 v71 v72 v73 v74 v75 v76 v77 v78 v81 v82 v83 v84 v85 v86 v87:V) (j x:Int) (pa ps pq pr:Nat)
abbrev TE0:Tm:=Tb.set (Tb.set (Tb.set (Tb.set (Tb.set (Tb.set (Tb.set (Tb.set (Tb.set (Tb.set (Tb.set (Tb.set (Tb.set (Tb.set (Tb.set (Tb.set (Tb.set (Tb.set (Tb.set (Tb.set (Tb.set (Tb.set (Tb.set (Tb.set (Tb.set (Tb.set (Tb.set (Tb.set (Tb.set (Tb.set (Tb.set (Tb.set (zW tm [(16,y16),(9,y9),(17,(dd j)),(11,.ptr pa 0),(7,.ptr ps 0)]) 61 y16) 62 v62) 63 (.bool false)) 64 y9) 65 (dd j)) 66 v66) 67 v67) 68 v68) 69 v69) 18 (.ptr pq 0)) 70 y16) 71 v71) 72 v72) 73 v73) 74 v74) 16 v74) 75 v75) 76 v76) 77 v77) 78 v78) 79 (.bool false)) 81 v81) 82 v82) 83 v83) 84 v84) 80 v84) 85 v85) 86 v86) 87 v87) 19 (.ptr pr 0)) 20 (.int .u64 x)) 21 v87
variable (t0:Tm) (s:Ua) (left:Nat) (z w:Int)
def TE1:Tm:=Tb.set t0 88 (dd j)
def TE2:Tm:=Tb.set (TE1 j t0) 89 (OD s left)
def TE3:Tm:=Tb.set (TE2 j t0 s left) 90 (.ptr pq 2)
def TE4:Tm:=Tb.set (TE3 j pq t0 s left) 91 (dd z)
def TE5:Tm:=Tb.set (TE4 j pq t0 s left z) 92 (.int .u64 x)
def TE6:Tm:=Tb.set (TE5 j x pq t0 s left z) 93 (dd (zG x))
def TE7:Tm:=Tb.set (TE6 j x pq t0 s left z) 94 (dd (zG (zJu z (zG x))))
def TE9:Tm:=Tb.set (TE7 j x pq t0 s left z) 95 (.ptr pa w.toNat)
variable (h:H)
theorem aE0:yD zB (oE 0) (zx (TE0 tm y16 y9 v62 v66 v67 v68 v69 v71 v72 v73 v74 v75 v76 v77 v78 v81 v82 v83 v84 v85 v86 v87 j x pa ps pq pr)) h=some (.val (dd j) h):=da
theorem eE1:(oE 1).op = .load 120 (t 19)/\zx (TE1 j (TE0 tm y16 y9 v62 v66 v67 v68 v69 v71 v72 v73 v74 v75 v76 v77 v78 v81 v82 v83 v84 v85 v86 v87 j x pa ps pq pr)) (t 19)=some (.ptr pr 0):=⟨da,da⟩
theorem aE2:yD zB (oE 2) (zx (TE2 j (TE0 tm y16 y9 v62 v66 v67 v68 v69 v71 v72 v73 v74 v75 v76 v77 v78 v81 v82 v83 v84 v85 v86 v87 j x pa ps pq pr) s left)) h=some (.val (.ptr pq 2) h):=da
theorem eE3:(oE 3).op = .load 3 (t 90)/\zx (TE3 j pq (TE0 tm y16 y9 v62 v66 v67 v68 v69 v71 v72 v73 v74 v75 v76 v77 v78 v81 v82 v83 v84 v85 v86 v87 j x pa ps pq pr) s left) (t 90)=some (.ptr pq 2):=⟨da,da⟩
theorem aE4:yD zB (oE 4) (zx (TE4 j pq (TE0 tm y16 y9 v62 v66 v67 v68 v69 v71 v72 v73 v74 v75 v76 v77 v78 v81 v82 v83 v84 v85 v86 v87 j x pa ps pq pr) s left z)) h=some (.val (.int .u64 x) h):=da
theorem aE5:yD zB (oE 5) (zx (TE5 j x pq (TE0 tm y16 y9 v62 v66 v67 v68 v69 v71 v72 v73 v74 v75 v76 v77 v78 v81 v82 v83 v84 v85 v86 v87 j x pa ps pq pr) s left z)) h=some (.val (dd (zG x)) h):=da
theorem aE6:yD zB (oE 6) (zx (TE6 j x pq (TE0 tm y16 y9 v62 v66 v67 v68 v69 v71 v72 v73 v74 v75 v76 v77 v78 v81 v82 v83 v84 v85 v86 v87 j x pa ps pq pr) s left z)) h=some (.val (dd (zG (zJu z (zG x)))) h):=da
theorem eE7:(oE 7).op = .store 120 (t 7) (t 89)/\zx (TE7 j x pq (TE0 tm y16 y9 v62 v66 v67 v68 v69 v71 v72 v73 v74 v75 v76 v77 v78 v81 v82 v83 v84 v85 v86 v87 j x pa ps pq pr) s left z) (t 7)=some (.ptr ps 0)/\zx (TE7 j x pq (TE0 tm y16 y9 v62 v66 v67 v68 v69 v71 v72 v73 v74 v75 v76 v77 v78 v81 v82 v83 v84 v85 v86 v87 j x pa ps pq pr) s left z) (t 89)=some (OD s left):=⟨da,da,da⟩
theorem eE8:(oE 8).op = .indexAddr 126 (t 11) (t 88)/\zx (TE7 j x pq (TE0 tm y16 y9 v62 v66 v67 v68 v69 v71 v72 v73 v74 v75 v76 v77 v78 v81 v82 v83 v84 v85 v86 v87 j x pa ps pq pr) s left z) (t 11)=some (.ptr pa 0)/\zx (TE7 j x pq (TE0 tm y16 y9 v62 v66 v67 v68 v69 v71 v72 v73 v74 v75 v76 v77 v78 v81 v82 v83 v84 v85 v86 v87 j x pa ps pq pr) s left z) (t 88)=some (dd j):=⟨da,da,da⟩
theorem eE9:(oE 9).op = .store 3 (t 95) (t 94)/\zx (TE9 j x pa pq (TE0 tm y16 y9 v62 v66 v67 v68 v69 v71 v72 v73 v74 v75 v76 v77 v78 v81 v82 v83 v84 v85 v86 v87 j x pa ps pq pr) s left z w) (t 95)=some (.ptr pa w.toNat)/\zx (TE9 j x pa pq (TE0 tm y16 y9 v62 v66 v67 v68 v69 v71 v72 v73 v74 v75 v76 v77 v78 v81 v82 v83 v84 v85 v86 v87 j x pa ps pq pr) s left z w) (t 94)=some (dd (zG (zJu z (zG x)))):=⟨da,da,da⟩
theorem z3i:yq zFR (zi zFR []) 8 7 (TE7 j x pq (TE0 tm y16 y9 v62 v66 v67 v68 v69 v71 v72 v73 v74 v75 v76 v77 v78 v81 v82 v83 v84 v85 v86 v87 j x pa ps pq pr) s left z) (oE 7)=((cond (!(Nat.beq ps pq) && true) true false && true) || false):=da
theorem gE9:zI (TE9 j x pa pq (TE0 tm y16 y9 v62 v66 v67 v68 v69 v71 v72 v73 v74 v75 v76 v77 v78 v81 v82 v83 v84 v85 v86 v87 j x pa ps pq pr) s left z w) 16=v74/\zI (TE9 j x pa pq (TE0 tm y16 y9 v62 v66 v67 v68 v69 v71 v72 v73 v74 v75 v76 v77 v78 v81 v82 v83 v84 v85 v86 v87 j x pa ps pq pr) s left z w) 9=y9/\zI (TE9 j x pa pq (TE0 tm y16 y9 v62 v66 v67 v68 v69 v71 v72 v73 v74 v75 v76 v77 v78 v81 v82 v83 v84 v85 v86 v87 j x pa ps pq pr) s left z w) 17 = dd j/\zI (TE9 j x pa pq (TE0 tm y16 y9 v62 v66 v67 v68 v69 v71 v72 v73 v74 v75 v76 v77 v78 v81 v82 v83 v84 v85 v86 v87 j x pa ps pq pr) s left z w) 11 = .ptr pa 0/\zI (TE9 j x pa pq (TE0 tm y16 y9 v62 v66 v67 v68 v69 v71 v72 v73 v74 v75 v76 v77 v78 v81 v82 v83 v84 v85 v86 v87 j x pa ps pq pr) s left z w) 7 = .ptr ps 0:=⟨da,da,da,da,da⟩
end
theorem dE:(oE 0).dst=some 88/\(oE 1).dst=some 89/\(oE 2).dst=some 90/\(oE 3).dst=some 91/\(oE 4).dst=some 92/\(oE 5).dst=some 93/\(oE 6).dst=some 94/\(oE 7).dst=none/\(oE 8).dst=some 95/\(oE 9).dst=none :=
 ⟨da,da,da,da,da,da,da,da,da,da⟩
theorem guE:(oE 0).guard=none/\(oE 1).guard=none/\(oE 2).guard=none/\(oE 3).guard=none/\(oE 4).guard=none/\(oE 5).guard=none/\(oE 6).guard=none/\(oE 7).guard=none/\(oE 8).guard=none/\(oE 9).guard=none :=
 ⟨da,da,da,da,da,da,da,da,da,da⟩
theorem zRT{S:Nat->Prop}{hb h:H}{c pa ps J I i a b left l2 x:Nat}{L:Cl}{s:Ua}{tm:Tm}{y16 K g j k l m o p r e t v y z A B C D E F G:V}{d:List AD}{Q:Ud}(w:Vw S hb h c [(I,OJ s l2),(J,oCl L),(pa,Yq (qw i a b).1 (qw i a b).2),(ps,OJ s left)])(M:h.nx<=T.top)(hl:h.low<=T.top)(hx:L.2.2+x<9223372036854775808)(W:∀h',Vw S hb h' c [(I,OJ s l2),(J,oCl L),(pa,Yq (qw (i+1) b (L.2.2+x)).1 (qw (i+1) b (L.2.2+x)).2),(ps,OJ s l2)]->h'.nx=h.nx->(∀q,q≠pa->q≠ps->h'.get q=h.get q) ->
   ∀O,Has O [(16,e),(9,K),(17,dd (i % 2:Nat)),(11,.ptr pa 0),(7,.ptr ps 0)]->Q .normal ⟨116,O,d,h'⟩):
  wpDr P zB false zFR ⟨116,TE0 tm y16 K g j k l m o p r e t v y z A B C D E F G (i % 2:Nat) x pa ps J I,d,h⟩ Q:=by
 have hlt:ps<J:=by have h1:=w.bk.2.2.2.2.2.2.2.2.2.1;have R:=w.bk.2.2.2.2.2.2.1;omega
 have Y:=w.upd 3 (o':=OJ s l2) rfl M;have a7:zZ zB 120 (zX h) (.ptr ps 0) (OD s l2)=some ((zX h).upd ps (some (OJ s l2))):=z6 zw (show(zX h).get ps=_ from w.get 3 rfl) rfl;have la:=w.lt 3 rfl;have L1:yN h ((zX h).upd ps (some (OJ s l2)))=h.upd ps (some (OJ s l2)):=j7;have l1:(h.upd ps (some (OJ s l2))).low<=T.top:=by rw[H.low_upd];omega
 have n1:(h.upd ps (some (OJ s l2))).nx=h.nx:=rfl;have Z:∀q,q≠ps->(h.upd ps (some (OJ s l2))).get q=h.get q:=λq W=>zS _ W
 generalize h.upd ps (some (OJ s l2))=h1 at Y L1 l1 n1 Z;have ex:zG (((L.2.2:Nat):Int)+zG ((x:Nat):Int))=((L.2.2+x:Nat):Int):=by rw[Z7 oy];exact Z7 (n:=L.2.2+x) oy
 obtain⟨R,a9,w2,n2,k2⟩:=Y.st (cx:=zB) 2 (f:=i % 2) (u:=dd (L.2.2+x:Nat)) rfl oy zm (zI6 i a b _);refine⟨jm,8,.normal,⟨116,TE9 (i % 2:Nat) x pa J _ s l2 (L.2.2:Nat) (i % 2:Nat),d,R⟩,xu,okE,?_,W R w2 oy (λq q1 q2=>(k2 q q1).trans (Z q q2)) _ ⟨(gE9 tm y16 K g j k l m o p r e t v y z A B C D E F G _ _ _ _ _ I _ _ _ _).1,(gE9 tm y16 K g j k l m o p r e t v y z A B C D E F G _ _ _ _ _ I _ _ _ _).2.1,(gE9 tm y16 K g j k l m o p r e t v y z A B C D E F G _ _ _ _ _ I _ _ _ _).2.2.1,(gE9 tm y16 K g j k l m o p r e t v y z A B C D E F G _ _ _ _ _ I _ _ _ _).2.2.2.1,(gE9 tm y16 K g j k l m o p r e t v y z A B C D E F G _ _ _ _ _ I _ _ _ _).2.2.2.2,trivial⟩⟩;have U:=z3i tm y16 K g j k l m o p r e t v y z A B C D E F G (i % 2:Nat) x pa ps J I s l2 (L.2.2:Nat);have E1:=eE1 tm y16 K g j k l m o p r e t v y z A B C D E F G (i % 2:Nat) x pa ps J I;have E3:=eE3 tm y16 K g j k l m o p r e t v y z A B C D E F G (i % 2:Nat) x pa ps J I s l2;have E7:=eE7 tm y16 K g j k l m o p r e t v y z A B C D E F G (i % 2:Nat) x pa ps J I s l2 (L.2.2:Nat);have E8:=eE8 tm y16 K g j k l m o p r e t v y z A B C D E F G (i % 2:Nat) x pa ps J I s l2 (L.2.2:Nat);have E9:=eE9 tm y16 K g j k l m o p r e t v y z A B C D E F G (i % 2:Nat) x pa ps J I s l2 (L.2.2:Nat) (i % 2:Nat);have A0:=aE0 tm y16 K g j k l m o p r e t v y z A B C D E F G (i % 2:Nat) x pa ps J I;have A2:=aE2 tm y16 K g j k l m o p r e t v y z A B C D E F G (i % 2:Nat) x pa ps J I s l2;have A4:=aE4 tm y16 K g j k l m o p r e t v y z A B C D E F G (i % 2:Nat) x pa ps J I s l2 (L.2.2:Nat);have A5:=aE5 tm y16 K g j k l m o p r e t v y z A B C D E F G (i % 2:Nat) x pa ps J I s l2 (L.2.2:Nat);have A6:=aE6 tm y16 K g j k l m o p r e t v y z A B C D E F G (i % 2:Nat) x pa ps J I s l2 (L.2.2:Nat);generalize TE0 tm y16 K g j k l m o p r e t v y z A B C D E F G (i % 2:Nat) x pa ps J I=t0 at *;rw[qf (show ps≠J by omega)]at U;obtain⟨d0,d1,d2,d3,d4,d5,d6,d7,d8,d9⟩:=dE;obtain⟨u0,u1,u2,u3,u4,u5,u6,u7,u8,u9⟩:=guE;generalize hbs:zi zFR []=bs at U ⊢;generalize hops:zFR=ops at U ⊢;have X:ops=[oE 0,oE 1,oE 2,oE 3,oE 4,oE 5,oE 6,oE 7,oE 8,oE 9]:=by rw[<-hops];exact zRC
 have N:yJ zB jm false jh ops bs 8 8 0 [oE 0,oE 1,oE 2,oE 3,oE 4,oE 5,oE 6,oE 7,oE 8,oE 9] ⟨116,t0,d,h⟩=some (.done .normal ⟨116,TE9 (i % 2:Nat) x pa J t0 s l2 (L.2.2:Nat) (i % 2:Nat),d,R⟩):=by
  refine zQ u0 (A0 _) d0 rfl M hl ?_;refine zQ u1 (xF E1.1 E1.2 (zO zw rfl (show(zX h).get I=_ from w.get 0 rfl) rfl)) d1 rfl M hl ?_;refine zQ u2 (A2 _) d2 rfl M hl ?_;refine zQ u3 (xF E3.1 E3.2 (zK zm rfl (show(zX h).get J=_ from w.get 1 rfl) rfl)) d3 rfl M hl ?_;refine zQ u4 (A4 _) d4 rfl M hl ?_;refine zQ u5 (A5 _) d5 rfl M hl ?_;refine zQ u6 (A6 _) d6 rfl M hl ?_;refine jZ u7 (yg E7.1 E7.2.1 E7.2.2 a7) d7 (U.trans rfl) ?_;try dsimp only
  rw[L1];refine opsF_val u8 (aop_idx E8.1 E8.2.1 E8.2.2 (wc (Nat.mod_lt _ db))) d8 rfl ?_;exact qW u9 (yg E9.1 E9.2.1 E9.2.2 (by rw[zCt,ex];exact a9)) d9
 rw[<-X]at N;exact N
end Go.Proofs.YtnpeieeomokomaaGreat
namespace Go.Proofs.YtnpeieeomokomaaGreat
open Go.Sim
variable {h:H}{Q:Uc}
structure RwI (S:Nat->Prop) (hb h:H) (c pa ps:Nat) (s:Ua) (left i a b:Nat) (v:V) (out:Ub):Prop where
 vw:Vw S hb h c [(pa,Yq (qw i a b).1 (qw i a b).2),(ps,OJ s left)]
 ow:Ow h v yn out.length (zV out)
 sp:Sep S hb.nx [(pa,Yq (qw i a b).1 (qw i a b).2),(ps,OJ s left)] v
theorem _root_.Go.Sim.Sl.keepX{S:Nat->Prop}{h h':H}{v:V}{esz n m:Nat}{xs:Ug}(s:Sl h v esz n xs)(e:ExtX S h h' m)(c:∀b,yG v=some b->¬S b):Sl h' v esz n xs:=by obtain⟨h1,d⟩:=s;refine⟨h1,d.imp id ?_⟩;rintro⟨b,o,f,cs,k,w,op,rfl,a,g,i⟩;exact⟨b,o,f,cs,k,w,op,rfl,oO a e.le,by rw[e.get b a (c b rfl)];exact g,i⟩
theorem zBv{p o:Nat}{k:Uc}:zP zB 120 1 h (.ptr p o) k=k (.ptr p (o+1)) h:=da
theorem zFl{S:Nat->Prop}{hb h:H}{c0 pa ps:Nat}{s:Ua}{K:V}{log left a b:Nat}{l:Ub}{tm:Tm}{R:Ud}(g:GD log l)(hs:s.length<=2000)(sl9:Sl hb K 3 (2^log) (xH (xI log l)))(hS:∀b,yG K=some b->¬S b)(hl:(left:Int)<=zf s)(D:a<2^log/\b<2^log)(I:RwI S hb h c0 pa ps s left 0 a b .nilslice [])(hn:hb.nx+c0+1100<=T.top)(hlow:hb.low<=T.top)(ht:Has tm [(16,.nilslice),(9,K),(17,dd 0),(11,.ptr pa 0),(7,.ptr ps 0)])(B:∀e h',two (xI log l) s 255 left a b []=none->ExtX S hb h' (c0+1100)->Has e [(4,.nilslice),(5,dd 21)]->R .ret ⟨116,e,[],h'⟩)(hex:∀e h' p i a' x d v' y,RwI S hb h' (c0+1100) pa ps s p i a' x v' y->y.length=i+1->i<255->x<2^log->(xI log l)[x]? = some d->(i+1=255\/0<p->two (xI log l) s 255 left a b []=none)->(¬(i+1=255\/0<p)->two (xI log l) s 255 left a b []=some (y++[d.1])) ->
   Has e [(16,v'),(9,K),(11,.ptr pa 0),(7,.ptr ps 0)]->R (.exit 2) ⟨116,e,[],h'⟩):wpC P zB false (.loop zN0) ⟨116,tm,[],h⟩ R:=by
 generalize t:two (xI log l) s 255 left a b []=R0 at hex B;have hpw:=yy g.lg;have hlg:=g.lg;have hbz:=wS s;refine wpC.round (λk tm h=>∃(i f left a b:Nat) (v:V) (out:Ub),k=256-i/\i+f=255/\out.length=i/\(left:Int)<=zf s/\a<2^log/\b<2^log/\RwI S hb h (c0+4*i) pa ps s left i a b v out/\two (xI log l) s f left a b out=R0 /\
  Has tm [(16,v),(9,K),(17,dd (i % 2:Nat)),(11,.ptr pa 0),(7,.ptr ps 0)]) 256 ⟨0,255,left,a,b,.nilslice,[],rfl,rfl,rfl,hl,D.1,D.2,I,t,ht.sub da⟩ ?_
 clear I ht t hl D;rintro k tm h ⟨i,f,left,a,b,v,out,rfl,hif,hol,hl,ha,E,I,t,F⟩;obtain⟨w,ow,sp⟩:=I;have tw:=w.top;have lw:=w.low;have hle:=w.le;have hi2:i % 2<2:=Nat.mod_lt _ db;refine wpC.at F zWu rfl rfl ⟨_,ow.sl.len z7 rfl,λc1=>?_,λc1=>?_⟩
 .have hf0:f=0:=oy
  subst hf0;exact F.on λe G=>B e h t.symm (w.more (m:=c0+1100) oy).ex (G.sub da)
 obtain⟨c,hc⟩:∃c,(xI log l)[a]? = some c:=⟨_,oU (by rw[ZA];exact ha)⟩;have L:=List.mem_of_getElem? hc;obtain⟨_,hcb,hcs⟩:=XD g c L;have hsym:=Xb g L;obtain⟨f,rfl⟩:∃f',f=f'+1:=⟨f-1,oy⟩;obtain⟨b1,o1,a1,a2,_⟩:=YU hc (sl9.keepX w.ex hS) ha;refine⟨pa,i % 2,wc hi2,a,w.ld1 0 rfl zm (zI4 i a b),b1,o1,a1,_,_,_,a2,oy,?_⟩;rintro p14 h15 rfl M;obtain⟨_,x15,_⟩:=zq M;have N:=w.new M oy;have t15:=N.top;obtain⟨J,e16,O,n16,k16⟩:=N.st (cx:=zB) 0 (f:=0) (u:=.agg (kf c)) rfl oy Yv rfl;have U:=(ow.ext x15).keep (h':=J) oy λx j=>k16 x (by have:=ow.blk j;omega)
 have W:Sep S hb.nx [(h.nx,oCl c),(pa,Yq (qw i a b).1 (qw i a b).2),(ps,OJ s left)] v:=sp.more λx j=>ow.blk j
 obtain⟨v18,h19,e19,X,Y⟩:=we (h:=J) c.1 oy;have Z:=O.ext Y;have t19:=Z.top;obtain⟨v20,h21,e21,A⟩:=Ow.append (c:=zB) (te:=yn) (m:=1) (U.ext Y) X db z7 rfl zm rfl rfl (by show(out.length+1)*1<=_;omega) (by show(out.length+1)*8<=_;omega) oy;obtain⟨o,z,r⟩:=Z.grow (k:=(out++[c.1]).length) (xs:=zV (out++[c.1])) W (by rw[xQ,oe];exact A);have t21:=o.top;have lo21:=o.low;have C:(out++[c.1]).length=i+1:=by rw[oe,hol];rfl
 refine⟨J,e16,_,O.ld1 0 rfl zm rfl,v18,h19,e19,trivial,v20,h21,e21,_,o.ld1 0 rfl zm rfl,?_⟩;try dsimp only
 rw[zBv];refine⟨left,o.ld1 2 rfl zm rfl,λc2=>?_,λc2=>?_⟩
 · -- too few bits
  obtain⟨d,hd⟩:∃d,(xI log l)[b]? = some d:=⟨_,oU (by rw[ZA];exact E)⟩;have hun:R0=if f=0\/0<left then none else some (out++[c.1,d.1]):=by
   rw[<-t]
   conv=>lhs;unfold two
   rw[hc];simp only;rw[if_pos oy,hd]
  refine F.on λe G=>hex e h21 left i a b d v20 (out++[c.1]) ⟨(o.drop 1).more oy,z,?_⟩ C oy E hd (λq=>?_) (λq=>?_) (G.sub da)
  .exact r.less λq hq=>⟨q,oN _ hq,rfl⟩
  .rw[hun,if_pos oy]
  rw[hun,if_neg oy,List.append_assoc];rfl
 -- bits enough
 refine⟨s,left,o.ldA 2 rfl zw rfl,_,o.ld1 0 rfl zm rfl,Y5 (n:=c.2.1) hs hl oy ?_⟩;unfold tkB;rw[if_pos oy];refine⟨_,_,_,_,rfl,oy,?_⟩;rintro p30 h31 rfl e31;obtain⟨_,x31,_⟩:=zq e31;have w31:=o.new e31 oy;have t31:=w31.top;obtain⟨h32,e32,w32,n32,k32⟩:=w31.st (cx:=zB) 0 (f:=0) (u:=OD s (left-c.2.1)) rfl oy zw rfl;have lo32:=w32.low;have ow32:=(z.ext x31).keep (h':=h32) oy λx j=>k32 x (by have:=z.blk j;omega)
 have hbn:=jX s left c.2.1;refine⟨h32,e32,zRT w32 oy oy oy λh2 w2 n2 k2 tm2 hs2=>?_⟩;have ow2:=ow32.keep (h':=h2) oy λx j=>k2 x (λq=>(r x j).2 _ (oN _ (List.mem_cons_self ..)) q.symm) (λq=>(r x j).2 _ (oN _ (oN _ (List.mem_cons_self ..))) q.symm)
 have ej:zG (1-((i % 2:Nat):Int))=(((i+1) % 2:Nat):Int):=by rw[zD oy oy];omega
 refine thenC.nx (wpS.av hs2 zXf rfl rfl (hs2.on λtm3 hs3=>hs3.slt λwH hs4=>⟨rfl,rfl,256-(i+1),oy,i+1,f,left-c.2.1,b,c.2.2+yI s left c.2.1,v20,out++[c.1],rfl,oy,C,oy,E,oy,⟨(w2.drop 2).more oy,ow2,?_⟩,?_,?_⟩))
 .exact r.less λq hq=>by
   simp only[oq,List.not_mem_nil,or_false]at hq;rcases hq with rfl|rfl
   .exact⟨_,oN _ (List.mem_cons_self ..),rfl⟩
   exact⟨_,oN _ (oN _ (List.mem_cons_self ..)),rfl⟩
 .rw[<-t]
  conv=>rhs;unfold two
  rw[hc];simp only;rw[if_neg oy]
 rw[<-ej];exact hs4.sub da
theorem zFk{v:V}{log:Nat}{l:Ub}{s:Ua}(sl:Sl h v 1 l.length (zV l))(g:GD log l)(hs:s.length<=2000)(hn:h.nx+1600<=T.top)(hlow:h.low<=T.top)(hq:∀h' v',Ext h h' 1500->Ow h' v' yn (xW log l s).2.length (zV (xW log l s).2)->(∀b,yG v'=some b->h.nx<=b)->Q (.tuple [v',dd (xW log l s).1]) h'):RF P zB 44 [.agg [dd log,v],.str s] h Q:=by
 have hpw:=yy g.lg;have hlg:=g.lg;have hbz:=wS s;have bad:∀e,xW log l s=(e,[])->∀h',Ext h h' 1500->Q (.tuple [.nilslice,dd e]) h':=λe he h' x=>by have:=hq h' .nilslice x;rw[he]at this;exact this (Ow.nil _ _) λb hb=>(by cases hb)
 refine yU z3x (wb sl ⟨oy,?_⟩);rintro p0 h1 rfl e1;have Z:=(Vw.nil (S:=zN) (h:=h)).new e1 oy;have t1:=Z.top;have s1:=sl.ext Z.ex0;refine⟨_,_,Z.ldA 0 rfl xO rfl,ql s1 g ⟨0,rfl,λc=>absurd rfl c,λ_=>zCW hs ?_⟩⟩;unfold rdB;by_cases c:zf s<0
 .rw[if_pos c];refine⟨_,_,_,rfl,oy,?_⟩;rintro p3 h3 rfl e3;have y:=Z.new e3 oy;have t3:=y.top;obtain⟨h5,e5,G,n5,_⟩:=y.st (cx:=zB) 0 (f:=0) (u:=.agg [.str [],dd 0]) rfl oy zw rfl;refine⟨h5,e5,λ_=>bad 22 ?_ h5 (G.ex0.mono oy),λq=>absurd (show(22:Int)≠0 by decide) q⟩;unfold xW;rw[if_pos c]
 rw[if_neg c];obtain⟨B,hB⟩:∃B:Nat,zf s=B:=⟨(zf s).toNat,oy⟩;have o:xW log l s=if zf s<log then ((21:Int),[]) else if zf s<2*log then (21,[]) else match two (xI log l) s 255 (B-log-log) (yI s B log) (yI s (B-log) log) []with
   | none=>((21:Int),[])
   | some out=>((0:Int),out):=by
  conv=>lhs;unfold xW
  rw[if_neg c,hB,ol];rfl
 rw[hB];refine⟨_,_,_,rfl,oy,?_⟩;rintro p3 h3 rfl e3;have y:=Z.new e3 oy;have t3:=y.top;obtain⟨h5,e5,G,n5,_⟩:=y.st (cx:=zB) 0 (f:=0) (u:=OD s B) rfl oy zw rfl;have t5:=G.top;have l5:=G.low;refine⟨h5,e5,λq=>absurd rfl q,λ_=>⟨_,_,G.ldA 1 rfl xO rfl,zHg (sl.ext G.ex0) g oy oy λD v9 x6 s9 f9=>?_⟩⟩;have J:=G.ext x6;have t6:=J.top;refine⟨_,_,rfl,oy,?_⟩;rintro p7 h7 rfl e7;have g0:D.get h.nx=some (oD log v):=J.get 1 rfl;have l0:h.nx<D.nx:=J.lt 1 rfl;have n01:h.nx≠h1.nx:=Nat.ne_of_lt J.bk.2.2.2.1;have w7:=(Vw.one (S:=(· = h1.nx)) (J.get 0 rfl) (J.lt 0 rfl) rfl).new e7 oy;have xh6:Ext h D 252:=J.ex0.mono oy;have hS:∀b,yG v9=some b->¬b=h1.nx:=λb hb q=>by have:=f9 b hb;have:=G.lt 0 rfl;omega
 have O:∀b,b=h1.nx->h.nx<=b:=λb hb=>by have:=G.bk.2.2.2.1;omega
 have l6:=J.low;have C:∀e,xW log l s=(e,[])->∀{N:Nat}{h':H},ExtX (· = h1.nx) D h' N->N<=1248->Q (.tuple [.nilslice,dd e]) h':=λe he N h' x hc=>bad e he h' ((ExtX.ext xh6 x O).mono oy)
 clear Z s1 e1 y e3 G e5 J e7 t1 t3 t5;refine Has.nil.on λtm t=>?_
 refine wpC.round (λk tm h'=>∃j:Nat,j<=2/\k=2-j/\j*log<=B/\Vw (· = h1.nx) D h' (1+j) [(D.nx,Yq (if 0<j then ((yI s B log:Nat):Int) else 0) (if 1<j then ((yI s (B-log) log:Nat):Int) else 0)),(h1.nx,OJ s (B-j*log))] /\
  Has tm [(12,dd j),(7,.ptr h1.nx 0),(2,.ptr h.nx 0),(11,.ptr D.nx 0),(9,v9)]) 2 ⟨0,oy,rfl,oy,by rw[Nat.zero_mul];exact w7,t.sub da⟩ ?_
 clear t w7 tm;rintro k tm h' ⟨j,hj2,rfl,hjl,w,t⟩;have tw:=w.top;have gd:h'.get h.nx=some (oD log v):=(w.ex.get _ l0 n01).trans g0;refine wpC.av t zWt rfl rfl ⟨λc1=>?_,λc1=>t.on λR p=>?_⟩
 .refine⟨s,(B-j*log:Nat),w.ldA 1 rfl zw rfl,?_⟩;try dsimp only
  rw[wU];refine⟨_,zK zm rfl gd rfl,Y5 (n:=log) hs oy oy ?_⟩;unfold tkB;by_cases N:log<=B-j*log
  .rw[if_pos N];refine⟨_,_,_,_,rfl,oy,?_⟩;rintro p11 h12 rfl K;obtain⟨_,x12,_⟩:=zq K;have F:=w.new K oy;have t12:=F.top;obtain⟨U,W,L,n13,k13⟩:=F.st (cx:=zB) 0 (f:=0) (u:=OD s (B-j*log-log)) rfl oy zw rfl;obtain⟨h16,e16,X,n16,k16⟩:=L.st (cx:=zB) 2 (f:=0) (u:=OD s (B-j*log-log)) rfl oy zw rfl;have ej:zG ((j:Int)+1)=((j+1:Nat):Int):=by rw[zD oy oy];rfl
   have e2:B-j*log-log=B-(j+1)*log:=by rw[Nat.add_mul];omega
   have hbn:=jX s (B-j*log) log;have ew:zG ((yI s (B-j*log) log:Nat):Int)=((yI s (B-j*log) log:Nat):Int):=Z7 (n:=yI s (B-j*log) log) oy;refine⟨U,W,λq=>absurd rfl q,λ_=>⟨s,_,L.ldA 0 rfl zw rfl,h16,e16,D.nx,j,wc (k:=j) oy,?_⟩⟩;rw[e2]at X;have hj:j=0\/j=1:=oy
   rcases hj with rfl|rfl
   .obtain⟨h9,e9,w9,n9,k9⟩:=X.st (cx:=zB) 1 (f:=0) (u:=dd (yI s (B-0*log) log:Nat)) rfl oy zm rfl;refine⟨h9,by rw[ew];exact e9,t.on λR p=>⟨rfl,rfl,1,oy,1,oy,rfl,oy,?_,?_⟩⟩
    .rw[Nat.zero_mul]at w9;exact(w9.drop 1).more oy
    have q:=p.sub (l':=[(12,dd (zG (((0:Nat):Int)+1))),(7,.ptr h1.nx 0),(2,.ptr h.nx 0),(11,.ptr D.nx 0),(9,v9)]) da;rw[ej]at q;exact q
   obtain⟨h9,e9,w9,n9,k9⟩:=X.st (cx:=zB) 1 (f:=1) (u:=dd (yI s (B-1*log) log:Nat)) rfl oy zm rfl;refine⟨h9,by rw[ew];exact e9,t.on λR p=>⟨rfl,rfl,0,oy,2,oy,rfl,oy,?_,?_⟩⟩
   .rw[Nat.one_mul]at w9;exact(w9.drop 1).more oy
   have q:=p.sub (l':=[(12,dd (zG (((1:Nat):Int)+1))),(7,.ptr h1.nx 0),(2,.ptr h.nx 0),(11,.ptr D.nx 0),(9,v9)]) da;rw[ej]at q;exact q
  rw[if_neg N];refine⟨_,_,_,_,rfl,oy,?_⟩;rintro p11 h12 rfl K;have F:=w.new K oy;have t12:=F.top;obtain⟨U,W,L,n13,k13⟩:=F.st (cx:=zB) 0 (f:=0) (u:=.agg [.str [],dd 0]) rfl oy zw rfl;refine⟨U,W,λ_=>t.on λR p=>thenC.rt (thenC.rt (endW.r2 (p.get rfl) (p.get rfl) (C 21 ?_ L.ex oy))),λq=>absurd (show(5:Int)≠0 by decide) q⟩;rw[o];have hj:j=0\/j=1:=oy
  rcases hj with rfl|rfl
  .rw[if_pos oy]
  rw[if_neg oy,if_pos oy]
 have hj:j=2:=oy
 subst hj;rw[if_neg oy,if_neg oy]at o;have e2:B-2*log=B-log-log:=oy
 rw[e2]at w;have hb1:=jX s B log;have hb2:=jX s (B-log) log;have lw:=w.low;refine thenC.left (wpS.av p zXi rfl rfl (p.on λtm2 hs2=>?_));have I:RwI (· = h1.nx) D h' 3 D.nx h1.nx s (B-log-log) 0 (yI s B log) (yI s (B-log) log) .nilslice []:=⟨w,Ow.nil _ _,λb hb=>(by cases hb)⟩
 refine zFl g hs s9 hS oy ⟨hb1,hb2⟩ I oy oy (hs2.sub da) (λtm3 h3 M x3 E=>?_) λtm3 h3 left i a b d v' out I3 hol hi hbl hd M hyes E=>?_
 .rw[M]at o;exact thenC.rt (E.slt λwH r=>endW.r2 (r.get rfl) (r.get rfl) (C 21 o x3 oy))
 obtain⟨y,Y,sp3⟩:=I3;have t3:=y.top;have l3:=y.low;refine thenC.out (wpS.av E zXh rfl rfl ⟨_,Y.sl.len z7 rfl,λN=>?_,λN=>?_⟩)
 .rw[M (.inl oy)]at o;exact E.on λwH r=>r.slt λKm z=>endW.r2 (z.get rfl) (z.get rfl) (C 21 o y.ex oy)
 try dsimp only
 rw[zBv];refine⟨_,y.ld1 1 rfl zm rfl,λc3=>?_,λc3=>?_⟩
 .rw[M (.inr oy)]at o;exact E.on λwH r=>r.slt λKm z=>endW.r2 (z.get rfl) (z.get rfl) (C 21 o y.ex oy)
 rw[hyes oy]at o;refine E.on λwH r=>?_
 obtain⟨pb,po,a3,_,a5⟩:=YU hd (s9.keepX y.ex hS) hbl;obtain⟨v7,h8,e8,sl8,x8⟩:=we (h:=h3) d.1 oy;have t8:=x8.top;obtain⟨v10,h10,e10,A⟩:=Ow.append (c:=zB) (te:=yn) (m:=1) (Y.ext x8) sl8 db z7 rfl zm rfl rfl (by show(out.length+1)*1<=_;omega) (by show(out.length+1)*8<=_;omega) oy;obtain⟨w10,ow10,sp10⟩:=(y.ext x8).grow (k:=(out++[d.1]).length) (xs:=zV (out++[d.1])) sp3 (by rw[xQ,oe];exact A);have et:Int.tmod ((out.length:Nat):Int) 2=((1-i % 2:Nat):Int):=by rw[hol];have:Int.tmod ((i+1:Nat):Int) 2=(((i+1) % 2:Nat):Int):=rfl;omega
 refine wpS.av r zXg rfl rfl ⟨_,Y.sl.len z7 rfl,db,D.nx,1-i % 2,by rw[et];exact wc oy,b,y.ld1 0 rfl zm (zI5 i a b),pb,po,a3,d.1,a5,v7,h8,e8,trivial,v10,h10,e10,?_⟩;refine r.on λKm z=>z.slt λtm6 hs6=>hs6.slt λtm7 hs7=>endW.r2 (hs7.get rfl) (hs7.get rfl) ?_
 have:=hq h10 v10 ((ExtX.ext xh6 w10.ex O).mono oy);rw[o]at this;exact this ow10 λb hb=>by
  rcases(sp10 b hb).1 with q|q
  .exact O b q
  omega
theorem zVT:∀{l:Ub},wg l=true->(wy l=0↔yH l=0)
 | [],_=>⟨λ_=>rfl,λ_=>rfl⟩
 | x::l,h=>by
  have a:wg l=true:=by have:wg ([x]++l)=true:=h;rw[jF,oM]at this;exact this.2
  have ih:=zVT a;have d:yH (x::l)=kR x+yH l:=by simp[yH]
  have e:wy (x::l)=wy [x]+wy l:=YV [x] l;by_cases c:x≠0
  .have a1:wy [x]=1:=by simp[wy,c]
   have a2:1<=kR x:=by unfold kR;rw[if_pos c];exact Nat.one_le_two_pow
   omega
  have b:x=0:=oy
  subst b;have a1:wy [0]=0:=rfl;have a2:kR 0=0:=rfl;omega
theorem Jr{n:Nat}(h:0<n):0<zT n:=by unfold zT;rw[if_neg oy];exact Nat.succ_pos _
theorem zOG{n:Nat}(h:n≠0):2^(zT n-1)=2^n.log2:=by unfold zT;rw[if_neg h];rfl
theorem zJ3{v:V}{l:Ub}(sl:Sl h v 1 l.length (zV l))(hl:l.length<=255)(m:wg l=true)(q:Q (if wok l then .tuple [dd (zT (yM l):Nat),dd (zT (yH l):Nat)] else .tuple [dd 0,dd 0]) h):RF P zB 90 [v] h Q:=by
 refine yU z41 (Has.nil.on λtm hs=>?_);refine wpC.round (λk tm h'=>∃i:Nat,i<=l.length/\k=l.length-i/\h'=h/\Has tm [(5,dd i),(0,v),(4,dd (yH (l.take i):Nat))]) l.length ⟨0,oy,oy,rfl,hs.sub da⟩ ?_;clear hs;rintro k tm h' ⟨i,h1,rfl,rfl,hs⟩;refine wpC.av hs zXG rfl rfl ⟨_,sl.len z7 rfl,λc=>?_,λc=>hs.on λr d=>?_⟩
 .have hi:i<l.length:=oy
  have z:l[i]? = some l[i]:=oU hi;obtain⟨b,o,w,s⟩:=sl.at1 (u:=dd l[i]) hi z7 rfl zm rfl rfl (by rw[oh,z];rfl);have E:l.take (i+1)=l.take i++[l[i]]:=by rw[List.take_add_one,z];rfl
  have hr:0<=l[i]/\l[i]<=11:=by have:=List.all_eq_true.1 m l[i] (od hi);simpa using this
  generalize l[i]=x at z s E hr;have e:zG ((i:Int)+1)=((i+1:Nat):Int):=by rw[zD oy oy];rfl
  have A:yH (l.take (i+1))=yH (l.take i)+kR x:=by rw[E,zBH];simp[yH]
  have hb:yH (l.take i)<=1024*i:=by
   have G:wg (l.take i)=true:=by have:=m;rw[<-List.take_append_drop i l,jF,oM]at this;exact this.1
   have:=J0 G;rw[List.length_take]at this;omega
  have T:=zDx hr.2;refine⟨b,o,w,x,s,λy=>⟨b,o,w,x,s,((1*2^(x.toNat-1):Nat):Int),?_,hs.on λr d=>⟨rfl,rfl,l.length-(i+1),oy,i+1,oy,rfl,rfl,?_⟩⟩,λy=>hs.on λr d=>⟨rfl,rfl,l.length-(i+1),oy,i+1,oy,rfl,rfl,?_⟩⟩
  .have:zU .u64 (zG (x-1))=((x.toNat-1:Nat):Int):=by rw[zD oy oy,show x-1=((x.toNat-1:Nat):Int)by omega,zb oy]
   rw[this];refine zz (a:=1) oy ?_;have U:2^(x.toNat-1)<=2^10:=Nat.pow_le_pow_right db oy;omega
  .have H:zG (((yH (l.take i):Nat):Int)+((1*2^(x.toNat-1):Nat):Int))=((yH (l.take (i+1)):Nat):Int):=by
    have B:kR x=1*2^(x.toNat-1):=by unfold kR;rw[if_pos oy,Nat.one_mul]
    rw[<-B,zD oy oy,A];rfl
   rw[<-H,<-e];exact d.sub da
  have:yH (l.take (i+1))=yH (l.take i):=by
   rw[A];have:x=0:=oy
   subst this;rfl
  rw[this,<-e];exact d.sub da
 have hi:i=l.length:=oy
 subst hi;rw[List.take_length]at d;have A:=J0 m;have hm:zT (yH l)<=20:=yK;have I:=jB (yH l);have W:2^zT (yH l)<=2^20:=Nat.pow_le_pow_right db hm;have J:1<=yM l:=by unfold yM;omega
 have K:yM l<=2^20:=by unfold yM;omega
 have X:=zVT m;refine thenC.left (wpS.av d zYC rfl rfl (zCV ⟨_,rfl,λy=>d.on λt f=>?_,λy=>⟨λL=>d.on λt f=>?_,λL=>d.on λt f=>?_⟩⟩))
 .rw[if_neg (λg:wok l=>g.1 oy)]at q;exact endW.r2 (f.get rfl) (f.get rfl) q
 .rw[if_neg (λg:wok l=>by have:=g.2.1;omega)]at q;exact endW.r2 (f.get rfl) (f.get rfl) q
 have w:zU .u64 ((zT (yH l):Nat):Int)=((zT (yH l):Nat):Int):=zb oy;have s:zG (((1*2^zT (yH l):Nat):Int)-(yH l:Nat))=((yM l:Nat):Int):=by rw[zD oy oy];unfold yM;omega
 have M:zT (yM l)<=21:=yK;have N:=Jr (n:=yM l) oy;have O:=zOG (n:=yM l) oy;have R:2^(zT (yM l)-1)<=2^20:=Nat.pow_le_pow_right db oy;refine wpS.av f zYB rfl rfl ⟨((1*2^zT (yH l):Nat):Int),by rw[w];exact zz (a:=1) oy oy,?_⟩;try dsimp only
 rw[s];refine zA8 ⟨_,rfl,((1*2^(zT (yM l)-1):Nat):Int),?_,λF=>f.on λC p=>?_,λF=>f.on λC p=>?_⟩
 .rw[show((zT (yM l):Nat)-1:Int)=((zT (yM l)-1:Nat):Int)by omega,zb oy];exact zz (a:=1) oy oy
 .rw[if_neg (λg:wok l=>F (by have:=g.2.2;omega))]at q;exact p.slt λwH j=>endW.r2 (j.get rfl) (j.get rfl) q
 have D:wok l:=⟨λg=>y oy,oy,oy⟩
 rw[if_pos D]at q;have S:zG (((zT (yM l):Nat)-1:Int)+1)=((zT (yM l):Nat):Int):=by rw[zD oy oy];omega
 rw[S]at p;exact p.slt λwH j=>endW.r2 (j.get rfl) (j.get rfl) q
theorem zDi{v:V}{l:Ub}(sl:Sl h v 1 l.length (zV l))(hl:l.length<4611686018427387904)(d:Q (dd (XS l)) h):RF P zB 45 [v] h Q:=by
 unfold XS at d;refine yU z3y ⟨_,sl.len z7 rfl,λc=>?_,λc=>⟨_,sl.len z7 rfl,λt=>?_,λt=>Has.nil.on λtm hs=>?_⟩⟩
 .rw[if_pos (.inl oy)]at d;exact d
 .rw[if_pos (.inr oy)]at d;exact d
 rw[if_neg oy]at d;refine wpS.av hs zXk rfl rfl (hs.on λr j=>?_);refine wpC.round (λk tm h'=>∃i:Nat,i<=l.length/\k=l.length-i/\h'=h/\wg (l.take i)=true/\Has tm [(3,dd i),(0,v)]) l.length ⟨0,oy,oy,rfl,by simp[wg],j.sub da⟩ ?_;clear hs j;rintro k tm h' ⟨i,h1,rfl,rfl,s,hs⟩;refine wpC.av hs zWv rfl rfl ⟨_,sl.len z7 rfl,λc=>?_,λc=>hs.on λp a=>?_⟩
 .have hi:i<l.length:=oy
  have w:l[i]? = some l[i]:=oU hi;obtain⟨b,o,z,y⟩:=sl.at1 (u:=dd l[i]) hi z7 rfl zm rfl rfl (by rw[oh,w];rfl);have A:l.take (i+1)=l.take i++[l[i]]:=by rw[List.take_add_one,w];rfl
  have m:¬(0<=l[i]/\l[i]<=11)->wg l=false:=λB=>by
   rcases g:wg l with _|_
   .rfl
   have:=List.all_eq_true.1 g l[i] (od hi);simp only[oM,decide_eq_true_eq]at this;exact absurd this B
  generalize l[i]=x at w y A m;have e:zG ((i:Int)+1)=((i+1:Nat):Int):=by rw[zD oy oy];rfl
  refine⟨b,o,z,x,y,λt=>hs.on λp a=>?_,λt=>⟨b,o,z,x,y,λC=>hs.on λp a=>?_,λC=>hs.on λp a=>⟨rfl,rfl,l.length-(i+1),oy,i+1,oy,rfl,rfl,?_,?_⟩⟩⟩
  .rw[m oy]at d;exact thenC.rt (thenC.rt (a.slt λwH f=>endW.r1 (f.get rfl) d))
  .rw[m oy]at d;exact thenC.rt (thenC.rt (a.slt λwH f=>endW.r1 (f.get rfl) d))
  .rw[A,jF,s];simp only[wg,List.all_cons,List.all_nil,Bool.and_true,Bool.true_and,oM,decide_eq_true_eq];omega
  rw[<-e];exact a.sub da
 have hi:i=l.length:=oy
 subst hi;rw[List.take_length]at s;rw[if_pos s]at d;refine thenC.left (wpS.av a zXj rfl rfl (zJ3 sl oy s ?_));by_cases c:wok l
 .rw[if_pos c]at d ⊢;have D:=Jr (n:=yM l) (by have:=jB (yH l);unfold yM;omega);refine⟨_,_,rfl,λq=>oy,λ_=>a.on λr j=>j.slt λwH f=>endW.r1 (f.get rfl) d⟩
 rw[if_neg c]at d ⊢;refine⟨_,_,rfl,λ_=>a.on λr j=>j.slt λwH f=>endW.r1 (f.get rfl) d,λq=>absurd rfl q⟩
theorem zFi{v:V}{l:Ub}(sl:Sl h v 1 l.length (zV l))(hl:l.length<=255)(hr:XS l=0)(c:wok l->wg l=true->Q (.tuple [dd (zT (yM l):Nat),dd (zT (yH l):Nat),dd 0]) h):
  RF P zB 92 [v] h Q:=by
 refine yU z43 (zDi sl oy ?_);try dsimp only
 rw[hr];unfold XS at hr;have d:¬(l.length<1\/255<l.length):=λg=>by rw[if_pos g]at hr;cases hr
 rw[if_neg d]at hr;have a:wg l=true:=by
  by_cases g:wg l=true
  .exact g
  rw[if_neg g]at hr;cases hr
 rw[if_pos a]at hr;have b:wok l:=by
  by_cases g:wok l
  .exact g
  rw[if_neg g]at hr;cases hr
 refine⟨_,rfl,λq=>absurd rfl q,λ_=>zJ3 sl hl a ?_⟩;try dsimp only
 rw[if_pos b];exact⟨_,_,rfl,c b a⟩
theorem zFj{v:V}{l:Ub}(sl:Sl h v 1 l.length (zV l))(hl:l.length<=255)(hr:XS l=0)(hn:h.nx+600<=T.top)(S:∀h' v',Ext h h' 550->Ow h' v' yn (xb l).length (zV (xb l))->(∀b,yG v'=some b->h.nx<=b)->Q (.tuple [v',dd 0]) h'):RF P zB 47 [v] h Q:=by
 refine yU z4A (zFi sl hl hr λK L=>⟨_,_,_,rfl,λq=>absurd rfl q,λ_=>Has.nil.on λtm hs=>?_⟩);have hm:=K.2.1;have U:1<=yM l/\yM l<=2^11:=by have:=jB (yH l);have h2:2^zT (yH l)<=2^11:=Nat.pow_le_pow_right db hm;unfold yM;omega
 have M:=Jr (n:=yM l) oy;have N:zT (yM l)<=12:=yK;have a:xb l=J3 (zT (yH l)) l++[((zT (yH l):Nat):Int)+1-(zT (yM l):Nat)]:=by unfold xb J3;rw[List.map_append];congr 1;simp only[List.map_cons,List.map_nil];rw[if_pos oy]
 generalize zT (yH l)=m at hm a hs;generalize zT (yM l)=r at M N a hs;have em:zG ((m:Int)+1)=(m:Int)+1:=zD oy oy;refine wpC.round (λk tm h'=>∃(i:Nat) (G:V),i<=l.length/\k=l.length-i/\Vw zN h h' (2*i) []/\Ow h' G yn (J3 m (l.take i)).length (zV (J3 m (l.take i)))/\Sep zN h.nx [] G /\
  Has tm [(8,dd i),(0,v),(7,G),(5,dd m),(4,dd r)]) l.length ⟨0,.nilslice,oy,oy,Vw.nil,Ow.nil _ _,λb hb=>(by cases hb),hs.sub da⟩ ?_
 clear hs;rintro k tm h' ⟨i,G,W,rfl,w,ow,sp,hs⟩;have tw:=w.top;have p:(J3 m (l.take i)).length=i:=by rw[JU,List.length_take];omega
 have H:=sl.ext w.ex0;refine wpC.av hs zWw rfl rfl ⟨_,H.len z7 rfl,λc=>?_,λc=>hs.on λI g=>?_⟩
 .have s:i<l.length:=oy
  have O:l[i]? = some l[i]:=oU s;obtain⟨b,o,a1,a2⟩:=H.at1 (u:=dd l[i]) s z7 rfl zm rfl rfl (by rw[oh,O];rfl);have hb:0<=l[i]/\l[i]<=11:=by have:=List.all_eq_true.1 L l[i] (od s);simpa using this
  have z:J3 m (l.take (i+1))=J3 m (l.take i)++[if l[i]≠0 then (m:Int)+1-l[i] else 0]:=by rw[List.take_add_one,O];unfold J3;rw[List.map_append];rfl
  generalize l[i]=x at a2 hb z;have e:zG ((i:Int)+1)=((i+1:Nat):Int):=by rw[zD oy oy];rfl
  have step:∀y:Int,y=(if x≠0 then (m:Int)+1-x else 0)->∃v4 t,zJ zB 23 1 [(0,dd y)] h'=some (v4,t)/\(True/\∃v6 j,zn zB 23 t G v4=some (v6,j)/\Vw zN h j (2*(i+1)) []/\Ow j v6 yn (J3 m (l.take (i+1))).length (zV (J3 m (l.take (i+1))))/\Sep zN h.nx [] v6):=λy X=>by rw[<-X]at z;obtain⟨v4,t,B,C,D⟩:=we (h:=h') y oy;have Y:=D.top;obtain⟨v6,j,E,A⟩:=Ow.append (c:=zB) (te:=yn) (m:=1) (ow.ext D) C db z7 rfl zm rfl rfl (by rw[p];show(i+1)*1<=_;omega) (by rw[p];show(i+1)*8<=_;omega) oy;obtain⟨F,d,f⟩:=(w.ext D).grow (k:=(J3 m (l.take (i+1))).length) (xs:=zV (J3 m (l.take (i+1)))) sp (by rw[z,xQ,oe];exact A);exact⟨v4,t,B,trivial,v6,j,E,F.more oy,d,f⟩
  refine⟨b,o,a1,x,a2,λR=>?_,λR=>⟨b,o,a1,x,a2,?_⟩⟩
  .obtain⟨v4,t,B,_,v6,j,E,F,d,f⟩:=step 0 (by rw[if_neg oy]);refine⟨v4,t,B,trivial,v6,j,E,hs.on λI g=>⟨rfl,rfl,l.length-(i+1),oy,i+1,v6,oy,rfl,F,d,f,?_⟩⟩;try dsimp only
   rw[<-e];exact g.sub da
  obtain⟨v4,t,B,_,v6,j,E,F,d,f⟩:=step ((m:Int)+1-x) (by rw[if_pos R]);refine⟨v4,t,by rw[em,zD oy oy];exact B,trivial,v6,j,E,hs.on λI g=>⟨rfl,rfl,l.length-(i+1),oy,i+1,v6,oy,rfl,F,d,f,?_⟩⟩;try dsimp only
  rw[<-e];exact g.sub da
 have s:i=l.length:=oy
 subst s;rw[List.take_length]at ow p;obtain⟨v4,t,B,C,D⟩:=we (h:=h') ((m:Int)+1-r) oy;have Y:=D.top;obtain⟨v6,j,E,A⟩:=Ow.append (c:=zB) (te:=yn) (m:=1) (ow.ext D) C db z7 rfl zm rfl rfl (by rw[p];show(l.length+1)*1<=_;omega) (by rw[p];show(l.length+1)*8<=_;omega) oy;obtain⟨F,d,f⟩:=(w.ext D).grow (k:=(xb l).length) (xs:=zV (xb l)) sp (by rw[a,xQ,oe];exact A);refine thenC.left (wpS.av g zXl rfl rfl ⟨v4,t,by rw[em,zD oy oy];exact B,trivial,v6,j,E,g.on λZ J=>endW.r2 (J.get rfl) (J.get rfl) ?_⟩);exact S j v6 (F.ex0.mono oy) d λb hb=>by
  rcases(f b hb).1 with q|q
  .exact q.elim
  exact q
theorem zHh{s:Ua}{a:Nat}{ch:UInt8}(hs:s.length<=1000000)(Y:s[a]? = some ch)(hc:127<ch.toNat)(hn:h.nx+400<=T.top)(U:∀h' v',Ext h h' 350->Ow h' v' yn (yd s a ch.toNat).l.length (zV (yd s a ch.toNat).l)->(∀b,yG v'=some b->h.nx<=b) ->
   Q (.tuple [v',dd ((yd s a ch.toNat).nx:Nat),flt (yd s a ch.toNat).e (yd s a ch.toNat).fat]) h'):
  RF P zB 42 [.str s,dd a] h Q:=by
 have hal:=(List.getElem?_eq_some_iff.1 Y).1;have hch:=ch.toNat_lt;generalize hR:yd s a ch.toNat=R at U;unfold yd at hR;generalize hmany:ch.toNat-127=many at hR;have E:∀e fat,R=⟨[],0,e,fat⟩->∀h',Ext h h' 350->Q (.tuple [.nilslice,dd 0,flt e fat]) h':=λe fat he h' x=>by subst he;exact U h' .nilslice x (Ow.nil _ _) λb hb=>(by cases hb)
 refine yU z3v ⟨oy,?_⟩;rintro pf h1 rfl Z;have N:=(Vw.nil (S:=zN) (h:=h)).new Z oy;have t1:=N.top;refine⟨λc=>oy,λ_=>⟨λc=>absurd c (by show ¬((s.length:Int)<a);omega),λ_=>Has.nil.on λtm g=>?_⟩⟩;refine wpS.av g zX9 rfl rfl ⟨λc=>absurd c (by show ¬((a:Int)=(s.length:Int));omega),λ_=>g.on λqM F=>thenC.nx (F.sealK λtm2 t=>?_)⟩;clear g F;have em:zG (zG ((ch.toNat:Nat):Int)-127)=((many:Nat):Int):=by rw[Z7 oy,zD oy oy];omega
 have eh:zG (Int.tdiv (zG (((many:Nat):Int)+1)) 2)=(((many+1)/2:Nat):Int):=by rw[zD (n:=((many:Nat):Int)+1) oy oy,show((many:Nat):Int)+1=((many+1:Nat):Int)from rfl,show Int.tdiv ((many+1:Nat):Int) 2=(((many+1)/2:Nat):Int)from rfl,Z7 oy]
 have ea:zG (((a:Nat):Int)+1)=((a+1:Nat):Int):=Z7 (n:=a+1) oy;have ee:zG (((a+1:Nat):Int)+(((many+1)/2:Nat):Int))=((a+1+(many+1)/2:Nat):Int):=Z7 (n:=a+1+(many+1)/2) oy;refine wpS.av t zXb rfl rfl ⟨_,yR Y,?_⟩;try dsimp only
 rw[em,eh,ea,ee];refine⟨λc=>oy,λ_=>⟨db,λc=>?_,λc=>t.on λD d=>?_⟩⟩
 .obtain⟨z,G,B,n9,_⟩:=N.st (cx:=zB) 0 (f:=0) (u:=.agg [dd 5,dd s.length]) rfl oy zd rfl;refine⟨z,G,t.on λD d=>endW.ok (leave.tmp (d.get rfl) (leave.tmp (d.get rfl) (leave.cell (d.get rfl) (B.ldA 0 rfl zd rfl) rfl))) ?_⟩;refine E 5 s.length ?_ z (B.ex0.mono oy);have c:((s.length:Nat):Int)<((a+1+(many+1)/2:Nat):Int):=c;rw[<-hR,if_pos oy]
 have c:¬((s.length:Nat):Int)<((a+1+(many+1)/2:Nat):Int):=c;rw[if_neg oy]at hR;refine wpC.round (λk tm h'=>∃(i:Nat) (v':V),i<=many/\k=many-i/\Vw zN h h' (1+2*i) [(h.nx,Xx 0 0)]/\Ow h' v' yn (kb s (a+1) i).length (zV (kb s (a+1) i))/\Sep zN h.nx [(h.nx,Xx 0 0)] v' /\
  Has tm [(10,dd i),(7,dd (many:Nat)),(0,.str s),(1,dd a),(9,v'),(6,.ptr h.nx 0),(8,dd (a+1+(many+1)/2:Nat))]) many ⟨0,.nilslice,oy,rfl,N,Ow.nil _ _,λb hb=>(by cases hb),d.sub da⟩ ?_
 clear t d N t1 Z;rintro k tm h' ⟨i,v',hi1,rfl,w,ow,sp,g⟩;have tw:=w.top;have H:(kb s (a+1) i).length=i:=YA _ _ _;refine wpC.av g zWs rfl rfl ⟨λc1=>?_,λc1=>g.on λI j=>?_⟩
 .have J:i<many:=oy
  have hb:s[a+1+i/2]? = some s[a+1+i/2]:=oU oy;have o:=Js s (a+1) i;rw[hb]at o;generalize s[a+1+i/2]=b at hb o;have hbt:=b.toNat_lt;have e:zG ((i:Int)+1)=((i+1:Nat):Int):=by rw[zD oy oy];rfl
  have ei:zG (zG (((a:Nat):Int)+1)+zG (Int.tdiv (i:Int) 2))=((a+1+i/2:Nat):Int):=by rw[ea,show Int.tdiv (i:Int) 2=((i/2:Nat):Int)from rfl,Z7 (n:=i/2) oy];exact Z7 (n:=a+1+i/2) oy
  have et:Int.tmod (i:Int) 2=((i % 2:Nat):Int):=rfl;have eb:zG ((b.toNat:Nat):Int)=((b.toNat:Nat):Int):=Z7 oy;have step:∀y:Int,kb s (a+1) (i+1)=kb s (a+1) i++[y]->∃v4 C,zJ zB 23 1 [(0,dd y)] h'=some (v4,C)/\(True/\∃v6 v,zn zB 23 C v' v4=some (v6,v)/\Vw zN h v (1+2*(i+1)) [(h.nx,Xx 0 0)]/\Ow v v6 yn (kb s (a+1) (i+1)).length (zV (kb s (a+1) (i+1)))/\Sep zN h.nx [(h.nx,Xx 0 0)] v6):=λy hy=>by obtain⟨v4,C,K,W,X⟩:=we (h:=h') y oy;have t5:=X.top;obtain⟨v6,v,L,A⟩:=Ow.append (c:=zB) (te:=yn) (m:=1) (ow.ext X) W db z7 rfl zm rfl rfl (by rw[H];show(i+1)*1<=_;omega) (by rw[H];show(i+1)*8<=_;omega) oy;obtain⟨M,p,r⟩:=(w.ext X).grow (k:=(kb s (a+1) (i+1)).length) (xs:=zV (kb s (a+1) (i+1))) sp (by rw[hy,xQ,oe];exact A);exact⟨v4,C,K,trivial,v6,v,L,M.more oy,p,r⟩
  refine⟨db,_,by rw[ei];exact yR hb,db,?_⟩;try dsimp only
  rw[et,eb];refine⟨λO=>⟨((b.toNat/2^4:Nat):Int),kJ (n:=4) db,?_⟩,λO=>⟨((b.toNat % 16:Nat):Int),?_,?_⟩⟩
  .rw[if_pos oy]at o;obtain⟨v4,C,K,_,v6,v,L,M,p,r⟩:=step _ o;refine⟨v4,C,K,trivial,v6,v,L,g.on λI j=>⟨rfl,rfl,many-(i+1),oy,i+1,v6,oy,rfl,M,p,r,?_⟩⟩;try dsimp only
   rw[<-e];exact j.sub da
  .rw[show b.toNat % 16=b.toNat &&& 15 from(wz b.toNat 4).symm];exact qt (a:=b.toNat) (b:=15) oy db
  rw[if_neg oy]at o;obtain⟨v4,C,K,_,v6,v,L,M,p,r⟩:=step _ o;refine⟨v4,C,K,trivial,v6,v,L,g.on λI j=>⟨rfl,rfl,many-(i+1),oy,i+1,v6,oy,rfl,M,p,r,?_⟩⟩;try dsimp only
  rw[<-e];exact j.sub da
 have J:i=many:=oy
 subst J;refine thenC.left (wpS.av j zXa rfl rfl (zDi ow.sl (by rw[YA];omega) ⟨_,rfl,λO=>?_,λO=>?_⟩))
 .rw[if_neg O]at hR;obtain⟨z,G,B,n9,_⟩:=w.st (cx:=zB) 0 (f:=0) (u:=.agg [dd 21,dd a]) rfl oy zd rfl;refine⟨z,G,j.on λD d=>d.slt λwH l=>endW.ok (leave.tmp (l.get rfl) (leave.tmp (l.get rfl) (leave.cell (l.get rfl) (B.ldA 0 rfl zd rfl) rfl))) ?_⟩;exact E 21 a hR.symm z (B.ex0.mono oy)
 rw[if_pos oy]at hR;obtain⟨z,G,B,n9,k9⟩:=w.st (cx:=zB) 0 (f:=0) (u:=.agg [dd 0,dd 0]) rfl oy zd rfl;refine⟨z,G,j.on λD d=>d.slt λwH l=>endW.ok (leave.tmp (l.get rfl) (leave.tmp (l.get rfl) (leave.cell (l.get rfl) (B.ldA 0 rfl zd rfl) rfl))) ?_⟩;have:=U z v' (B.ex0.mono oy);rw[<-hR]at this;exact this (ow.keep oy λb hb=>k9 b λq=>(sp b hb).2 _ (List.mem_cons_self ..) q.symm) λb hb=>by
  rcases(sp b hb).1 with q|q
  .exact q.elim
  exact q
theorem zGH{s:Ua}{y:Nat}(a:y<=s.length):zy zB 9 h (.str s) none (some (dd y)) none=some (.str (s.take y)):=by
 unfold zy;have b:yj (y:Int)=some y:=rfl;have c:jO s 0=s.length:=by rw[yb];omega
 simp only[kO,Go.Sim.bnd,b,c];rw[oG a,oS];simp only;unfold zH;rw[List.drop_zero,Nat.sub_zero]
theorem zDj{s:Ua}{at':Int}(hs:s.length<=1500)(hn:h.nx+2100<=T.top)(hlow:h.low<=T.top)(hq:∀h' v',Ext h h' 2000->Ow h' v' yn (yE s at').l.length (zV (yE s at').l)->(∀b,yG v'=some b->h.nx<=b)->Q (.tuple [v',dd ((yE s at').nx:Nat),flt (yE s at').e (yE s at').fat]) h'):
  RF P zB 11 [.str s,dd at'] h Q:=by
 generalize d:yE s at'=R at hq;unfold yE at d;have C:∀e fat,R=⟨[],0,e,fat⟩->∀h',Ext h h' 2000->Q (.tuple [.nilslice,dd 0,flt e fat]) h':=λe fat he h' x=>by subst he;exact hq h' .nilslice x (Ow.nil _ _) λb hb=>(by cases hb)
 refine yU z3l ⟨oy,?_⟩;rintro p0 h1 rfl e1;have N:=(Vw.nil (S:=zN) (h:=h)).new e1 oy;have t1:=N.top;have l1:=N.low;have fin:∀{h2:H}{c:Nat}{tm:Tm}{B:List (Nat×O)}{x y e fat n:Int}{v:V}{i:Nat},Vw zN h h2 c B->B[i]? = some (h.nx,Xx x y)->c<=2000->(∀h',Ext h h' 2000->(∀b,b≠h.nx->h'.get b=h2.get b)->h'.nx=h2.nx->Q (.tuple [v,dd n,flt e fat]) h') ->
   ∃D,zZ zB 26 h2 (.ptr h.nx 0) (.agg [dd e,dd fat])=some D/\∀tm,Has tm [(4,v),(5,dd n),(6,.ptr h.nx 0)]->endW zB ⟨88,[.tmp 4,.tmp 5,.cell 6 26],bf 11⟩ Q .ret ⟨88,tm,[],D⟩:=by
  intro h2 c tm B x y e fat n v i w hi hc hQ;have tw:=w.top;obtain⟨D,e3,w3,n3,k3⟩:=w.st (cx:=zB) i (f:=0) (u:=.agg [dd e,dd fat]) hi oy zd rfl;have g3:D.get h.nx=some (Xx e fat):=w3.get i (by
   have:i<B.length:=(List.getElem?_eq_some_iff.1 hi).1;rw[List.getElem?_set_self this])
  exact⟨D,e3,λtm hs=>endW.ok (leave.tmp (hs.get rfl) (leave.tmp (hs.get rfl) (leave.cell (hs.get rfl) (zO zd rfl g3 rfl) rfl))) (hQ D (w3.ex0.mono hc) k3 n3)⟩
 have oor:(at'<0\/(s.length:Int)<at')->∀tm,Has tm [(4,.nilslice),(5,dd 0),(6,.ptr h.nx 0),(20,.bool true),(1,dd at'),(0,.str s)]->Wf L11 zF9 ⟨88,tm,[],h1⟩ (thenC (sealK L11 λs1=>Wf L11 zFa s1 (endW zB ⟨88,[.tmp 4,.tmp 5,.cell 6 26],bf 11⟩ Q)) (endW zB ⟨88,[.tmp 4,.tmp 5,.cell 6 26],bf 11⟩ Q)):=by
  intro c tm t;rw[if_pos c]at d;obtain⟨D,e3,F⟩:=fin (tm:=tm) (i:=0) N rfl oy λh' x _ _=>C 2 0 d.symm h' x
  exact wpS.av t zPw rfl rfl ⟨D,e3,t.on λqM U=>thenC.rt (F qM (U.sub da))⟩
 refine⟨λc=>Has.nil.on λtm t=>oor (.inl c) tm (t.sub da),λc1=>⟨λc=>Has.nil.on λtm t=>oor (.inr c) tm (t.sub da),λc2=>Has.nil.on λtm t=>?_⟩⟩;have c2:¬(s.length:Int)<at':=c2;rw[if_neg oy]at d;obtain⟨a,rfl⟩:∃a:Nat,at'=a:=⟨at'.toNat,oy⟩;rw[ol]at d;refine wpS.av t zPw rfl rfl (t.on λqM U=>thenC.nx (U.sealK λA z=>?_));clear t U oor;refine wpS.av z zXL rfl rfl ⟨λc=>?_,λc=>?_⟩
 .have c:(a:Int)=s.length:=c;rw[ov]at d;obtain⟨D,e3,F⟩:=fin (tm:=A) (i:=0) N rfl oy λh' x _ _=>C 5 a d.symm h' x
  exact⟨D,e3,z.on λj m=>F j (m.sub da)⟩
 have c:¬(a:Int)=s.length:=c;have hal:a<s.length:=oy
 obtain⟨g,W⟩:∃g,s[a]? = some g:=⟨_,oU hal⟩;have hct:=g.toNat_lt;rw[W]at d;simp only at d;have ech:zG ((g.toNat:Nat):Int)=((g.toNat:Nat):Int):=Z7 oy;have ea1:zG ((a:Int)+1)=((a+1:Nat):Int):=by rw[zD oy oy];rfl
 have ea2:zG (((a+1:Nat):Int)+((g.toNat:Nat):Int))=((a+1+g.toNat:Nat):Int):=by rw[zD oy oy];rfl
 refine⟨_,yR W,λc3=>?_,λc3=>⟨_,yR W,?_⟩⟩
 · -- direct
  rw[if_pos oy]at d;refine zHh oy W oy oy λh8 v9 x8 ow8 hv8=>?_
  rw[d]at ow8 ⊢;have w8:=N.ext x8;have t8:=w8.top;have lt0:=N.lt 0 rfl;obtain⟨E,e13,F⟩:=fin (tm:=A) (v:=v9) (n:=(R.nx:Nat)) (e:=R.e) (fat:=R.fat) (i:=0) w8 rfl oy λh' x k n=>hq h' v9 x (ow8.keep oy λb hb=>k b (by have:=hv8 b hb;omega)) λb hb=>by have:=hv8 b hb;omega
  exact⟨v9,_,_,_,rfl,E,e13,z.on λj m=>F j (m.sub da)⟩
 rw[if_neg oy]at d;try dsimp only
 rw[ech,ea1,ea2];refine⟨λc4=>?_,λc4=>⟨_,zGH (y:=a+1+g.toNat) (by have:¬(s.length:Int)<((a+1+g.toNat:Nat):Int):=c4;omega),?_⟩⟩
 .have c4:(s.length:Int)<((a+1+g.toNat:Nat):Int):=c4;rw[if_pos oy]at d;obtain⟨D,e3,F⟩:=fin (tm:=A) (i:=0) N rfl oy λh' x _ _=>C 5 s.length d.symm h' x
  exact⟨D,e3,z.on λj m=>F j (m.sub da)⟩
 have c4:¬(s.length:Int)<((a+1+g.toNat:Nat):Int):=c4;rw[if_neg oy]at d;have htl:(s.take (a+1+g.toNat)).length=a+1+g.toNat:=by rw[List.length_take];omega
 have hbd:(s.take (a+1+g.toNat)).drop (a+1)=(s.drop (a+1)).take g.toNat:=by rw[List.drop_take,show a+1+g.toNat-(a+1)=g.toNat by omega]
 unfold zFn at d;rw[<-hbd]at d;have hbl:((s.take (a+1+g.toNat)).drop (a+1)).length=g.toNat:=by rw[List.length_drop,htl];omega
 have lt0:=N.lt 0 rfl;refine zPU (s:=s.take (a+1+g.toNat)) (a:=a+1) oy oy oy oy oy (λhd E x13=>?_) λlog l p v E hd x13 ow13 hv13 hp hl12=>?_
 .rw[hd]at d;simp only at d;have G:=N.ext x13;have t13:=G.top;refine⟨_,_,_,_,_,rfl,oy,?_⟩;rintro p19 h20 rfl X;have I:=G.new X oy;have t20:=I.top;refine⟨oy,?_⟩;rintro p21 h22 rfl Y;have J:=I.new Y oy;have t22:=J.top;obtain⟨h23,e23,w23,n23,_⟩:=J.st (cx:=zB) 1 (f:=0) (u:=.agg [dd 0,.nilslice]) rfl oy xO rfl;obtain⟨o,e24,r,n24,_⟩:=w23.st (cx:=zB) 0 (f:=0) (u:=flt (if kG ((s.take (a+1+g.toNat)).drop (a+1)) 6 then 31 else 23) (a+1:Nat)) rfl oy zd rfl;have l24:=r.low;have hne:(if kG ((s.take (a+1+g.toNat)).drop (a+1)) 6 then (31:Int) else 23)≠0:=by split<;>decide
  obtain⟨h28,e28,F⟩:=fin (tm:=A) (i:=2) r rfl oy λh' x _ _=>C _ _ d.symm h' x
  exact⟨h23,e23,o,e24,_,r.ld1 0 rfl yh rfl,λ_=>⟨⟨oy,oy⟩,_,_,r.ldA 0 rfl zd rfl,h28,e28,z.on λj m=>F j (m.sub da)⟩,λq=>absurd hne q⟩
 rw[hd]at d;simp only at d;have hgd:=qY hd;have G:=N.ext x13;have t13:=G.top;refine⟨_,_,_,_,_,rfl,oy,?_⟩;rintro p19 h20 rfl X;obtain⟨_,x20,_⟩:=zq X;have I:=G.new X oy;have t20:=I.top;refine⟨oy,?_⟩;rintro p21 h22 rfl Y;obtain⟨_,x22,_⟩:=zq Y;have J:=I.new Y oy;have t22:=J.top;have ow22:=(ow13.ext x20).ext x22;have hvl:∀b,yG v=some b->b<E.nx:=λb hb=>ow13.blk hb
 have hle:E.nx<=h20.nx:=x20.le;obtain⟨h23,e23,w23,n23,k23⟩:=J.st (cx:=zB) 1 (f:=0) (u:=.agg [dd log,v]) (cs':=.ls [dd log,v]) rfl oy xO rfl rfl (oQ _) (show za [v]=true from ow22.one1.2);obtain⟨o,e24,r,n24,k24⟩:=w23.st (cx:=zB) 0 (f:=0) (u:=flt 0 0) rfl oy zd rfl;have t24:=r.top;have l24:=r.low;have ow24:=ow22.keep (h':=o) oy λb hb=>by have:=hvl b hb;rw[k24 b oy,k23 b oy]
 have Z:=xN (s:=s) (x:=a+1+(p+7)/8) (y:=a+1+g.toNat) (h:=o) oy oy;unfold zH at Z;have hsl:(s.drop (a+1+(p+7)/8)).take (a+1+g.toNat-(a+1+(p+7)/8))=((s.take (a+1+g.toNat)).drop (a+1)).drop ((p+7)/8):=by rw[List.drop_drop,List.drop_take]
 rw[hsl]at Z;have hbl2:(((s.take (a+1+g.toNat)).drop (a+1)).drop ((p+7)/8)).length<=2000:=by rw[List.length_drop];omega
 generalize ((s.take (a+1+g.toNat)).drop (a+1)).drop ((p+7)/8)=body at d Z hbl2;refine⟨h23,e23,o,e24,_,r.ld1 0 rfl yh rfl,λq=>absurd rfl q,λ_=>⟨⟨oy,oy⟩,_,_,r.ldA 1 rfl xO rfl,body,Z,?_⟩⟩;refine zFk (h:=zX o) (ow24.keep (h':=zX o) (oV _) λ_ _=>rfl).sl hgd hbl2 (by show o.nx+1600<=_;omega) (oV _) λh33 v34 x33 ow33 hv33=>⟨v34,_,rfl,?_⟩
 have t33:=x33.top;have t33:h33.nx<=o.nx+1500:=t33;obtain⟨_,x36⟩:=x33.drawn oy;refine⟨oy,?_⟩;rintro h36 rfl;have K:=ow33.keep (h':=yN o h33) (oV _) λ_ _=>rfl
 have hv36:∀b,yG v34=some b->o.nx<=b:=hv33;generalize yN o h33=h36 at x36 K;have w36:=r.ext x36;have lt24:=r.lt 2 rfl;refine⟨λc7=>?_,λc7=>zDi K.sl (by have:=(zAd (s:=body) hgd).2;omega) ⟨_,rfl,λc8=>?_,λc8=>?_⟩⟩
 .rw[if_pos c7]at d;obtain⟨L,M,F⟩:=fin (tm:=A) (i:=2) w36 rfl oy λh' x _ _=>C _ _ d.symm h' x
  exact⟨L,M,z.on λj m=>F j (m.sub da)⟩
 .rw[if_neg c7,if_neg c8]at d;obtain⟨L,M,F⟩:=fin (tm:=A) (i:=2) w36 rfl oy λh' x _ _=>C _ _ d.symm h' x
  exact⟨L,M,z.on λj m=>F j (m.sub da)⟩
 rw[if_neg c7,if_pos oy]at d;subst d;obtain⟨L,M,F⟩:=fin (tm:=A) (v:=v34) (n:=(a+1+g.toNat:Nat)) (e:=0) (fat:=0) (i:=2) w36 rfl oy λh' x k n=>hq h' v34 x (K.keep oy λb hb=>k b (by have:=hv36 b hb;omega)) λb hb=>by have:=hv36 b hb;omega
 exact⟨L,M,z.on λj m=>F j (m.sub da)⟩
theorem Kw{s:Ua}{at':Int}(hs:s.length<=1500)(hn:h.nx+2700<=T.top)(D:h.low<=T.top)(v:∀h' v',Ext h h' 2600->Sl h' v' 1 (ye s at').l.length (zV (ye s at').l)->(∀b,yG v'=some b->h.nx<=b)->Q (.tuple [v',dd ((ye s at').nx:Nat),flt (ye s at').e (ye s at').fat]) h'):
  RF P zB 14 [.str s,dd at'] h Q:=by
 generalize hR:ye s at'=R at v;unfold ye at hR;refine yU z3n ⟨oy,?_⟩;rintro p0 h1 rfl J;have t:=(Vw.nil (S:=zN) (h:=h)).new J oy;have t1:=t.top;have l1:=t.low;have i:=zAc s at';refine zDj hs oy oy λh3 v4 K j L=>⟨_,_,_,_,rfl,?_⟩
 have E:=t.ext K;have t3:=E.top;have M:=t.lt 0 rfl;refine⟨oy,?_⟩;rintro p8 h9 rfl F;obtain⟨_,N,_⟩:=zq F;have G:=E.new F oy;have t9:=G.top;obtain⟨k,w,d,O,x⟩:=G.st (cx:=zB) 0 (f:=0) (u:=flt (yE s at').e (yE s at').fat) rfl oy zd rfl;have U:=d.top;have V:=d.low;have l:=(j.ext N).keep (h':=k) oy λb hb=>x b (by have:=j.blk hb;omega)
 refine⟨k,w,_,d.ld1 0 rfl yh rfl,λc=>?_,λc=>?_⟩
 .rw[if_neg c]at hR;obtain⟨m,y,n,W,_⟩:=d.st (cx:=zB) 1 (f:=0) (u:=flt (yE s at').e (yE s at').fat) rfl oy zd rfl;refine⟨⟨oy,oy⟩,_,_,d.ldA 0 rfl zd rfl,m,y,endL.ok (leaveL.cell (a:=6) (n.ldA 1 rfl zd rfl) rfl) ?_⟩;have:=v m .nilslice (n.ex0.mono oy);rw[<-hR]at this;exact this ⟨by simp,.inl ⟨rfl,rfl⟩⟩ λb hb=>(by cases hb)
 have H:(yE s at').e=0:=oy
 rw[if_pos H]at hR;obtain⟨hr,hf⟩:=KF H;refine zFj l.sl i hr oy λX z A o e=>⟨_,_,rfl,?_⟩
 have p:=d.ext A;have Y:=p.top;obtain⟨g,B,q,Z,C⟩:=p.st (cx:=zB) 1 (f:=0) (u:=flt 0 0) rfl oy zd rfl;have I:=d.lt 1 rfl;have r:=o.keep (h':=g) oy λb hb=>C b (by have:=e b hb;omega)
 refine⟨g,B,endL.ok (leaveL.cell (a:=6) (q.ldA 1 rfl zd rfl) rfl) ?_⟩;have:=v g z (q.ex0.mono oy);rw[<-hR]at this;exact this r.sl λb hb=>by have:=e b hb;have:=d.le;omega
theorem Kd{v w:V}{l:Ub}(sl:Sl h v 1 l.length (zV l))(j:Sl h w 1 l.length (zV l))(hl:l.length<4611686018427387904)(n:Q (.bool true) h)(p:h.nx<=T.top:=by omega)(d:h.low<=T.top:=by omega):
  RF P zB 12 [v,w] h Q:=by
 refine yU z3m ⟨_,sl.len z7 rfl,_,j.len z7 rfl,λq=>absurd rfl q,λ_=>Has.nil.on λtm hs=>?_⟩;refine wpC.round (λk tm h'=>∃i:Nat,i<=l.length/\k=l.length-i/\h'=h/\Has tm [(5,dd i),(0,v),(1,w)]) l.length ⟨0,oy,oy,rfl,hs.sub da⟩ ?_;clear hs;rintro k tm h' ⟨i,h1,rfl,rfl,hs⟩;refine wpC.av hs zWp rfl rfl ⟨_,sl.len z7 rfl,λc=>?_,λc=>hs.on λf a=>?_⟩
 .have hi:i<l.length:=oy
  have m:l[i]? = some l[i]:=oU hi;obtain⟨b,o,r,s⟩:=sl.at1 (u:=dd l[i]) hi z7 rfl zm rfl rfl (by rw[oh,m];rfl);obtain⟨t,x,y,z⟩:=j.at1 (u:=dd l[i]) hi z7 rfl zm rfl rfl (by rw[oh,m];rfl);have e:zG ((i:Int)+1)=((i+1:Nat):Int):=by rw[zD oy oy];rfl
  refine⟨⟨p,d⟩,b,o,r,_,s,t,x,y,_,z,λq=>absurd rfl q,λ_=>hs.on λf a=>⟨rfl,rfl,l.length-(i+1),oy,i+1,oy,rfl,rfl,?_⟩⟩;try dsimp only
  rw[<-e];exact a.sub da
 refine thenC.left (wpS.av a zXM rfl rfl (a.on λA g=>endW.r1 (g.get rfl) n))
end Go.Proofs.YtnpeieeomokomaaGreat
