/- TG. No condition. -/
import Derived.Test.YtnpeieeomokomaaGreatZTE
import Derived.Test.YtnpeieeomokomaaGreatZW
import Derived.Test.YtnpeieeomokomaaGreatZTC
set_option maxRecDepth 100000
set_option maxHeartbeats 4000000
noncomputable section
namespace Go.Proofs.YtnpeieeomokomaaGreat
open Go.Sim
variable {h:H}{Q:V->H->Prop}
theorem zHn {s:List UInt8}{x:Nat}(h1:x<=s.length):zq zA 9 h (.str s) (some (.int .i64 (x:Nat))) none none=some (.str (s.drop x)):=by
 have:=Jx (s:=s) (h:=h) h1 (oP _);have e:ZD s x s.length=s.drop x:=by
  unfold ZD;rw[List.take_of_length_le (by rw[List.length_drop];exact oP _)]
 rw[e]at this;rw[<-this];unfold zq;have e3:kX s 0=s.length:=by rw[yk];omega
 simp only[qh,Go.Sim.bnd,e3];have e4:yp ((s.length:Nat):Int)=some s.length:=rfl;simp only[e4,oC (oP s.length),oK]
structure Inn where
 l:List Int
 e:Int
 fat:Nat
def ym (b:List UInt8):Inn:=match wA b 6 12 with
 | none=>⟨[],if Ya b 6 then 31 else 23,0⟩
 | some (log,l,p)=>if (wW log l (b.drop ((p+7)/8))).1≠0 then ⟨[],(wW log l (b.drop ((p+7)/8))).1,(p+7)/8⟩ else ⟨(wW log l (b.drop ((p+7)/8))).2,0,0⟩
theorem zMl {b:List UInt8}(hb:b.length<=2000) (hn:h.nx+1600<=T.top) (hlow:h.low<=T.top)
  (hq:∀h' v',Ext h h' 1500->Ow h' v' yt (ym b).l.length (zJ (ym b).l)->(∀b',zu v'=some b'->h.nx<=b')->Q (.tuple [v',flt (ym b).e ((ym b).fat:Nat)]) h'):RF P zA 40 [.str b] h Q:=by
 generalize hR:ym b=R at hq;unfold ym at hR;refine yD z6S rfl rfl z7C ⟨by omega,?_⟩;rintro p0 h1 rfl e1;have w1:=(Vw.nil (S:=zR) (h:=h)).new e1 (by omega);have t1:=w1.top;have l1:=w1.low;have n1:h1.nx=h.nx+1:=by rw[e1,zG]
 refine zEl hb (by omega) (by omega) (λhz h3 x3=>⟨_,_,_,_,_,rfl,?_⟩) (λlog l p v h3 hz x3 ow3 hv hp hl=>⟨_,_,_,_,_,rfl,?_⟩)
 ·rw[hz]at hR
  simp only at hR;have w3:=w1.ext x3;have t3:=w3.top;refine⟨by omega,?_⟩;rintro p9 h10 rfl e10;have w10:=w3.new e10 (by omega);have t10:=w10.top;obtain⟨h11,e11,w11,n11,_⟩:=w10.st (cx:=zA) 0 (f:=0) (u:=.agg [.int .i64 0,.nilslice]) rfl (by omega) yr rfl (oJ _) rfl rfl;have t11:=w11.top;obtain⟨h12,e12,w12,n12,_⟩:=w11.st (cx:=zA) 1 (f:=0) (u:=.agg [.int .i64 (if Ya b 6 then 31 else 23),.int .i64 0]) rfl (by omega) xU rfl (oJ _) rfl rfl;have l12:=w12.low;have t12:=w12.top;obtain⟨h16,e16,w16,n16,_⟩:=w12.st (cx:=zA) 1 (f:=0) (u:=.agg [.int .i64 (if Ya b 6 then 31 else 23),.int .i64 0]) rfl (by omega) xU rfl (oJ _) rfl rfl;have hne:(if Ya b 6 then (31:Int) else 23)≠0:=by split<;>decide
  refine⟨h11,e11,h12,e12,_,w12.ld1 1 rfl zLX rfl rfl,λ_=>⟨⟨by omega,by omega⟩,_,_,w12.ldA 1 rfl xU rfl rfl,h16,e16,endL.ok (leaveL.cell (a:=3) (w16.ldA 1 rfl xU rfl rfl) rfl) ?_⟩,λq=>absurd hne q⟩
  have:=hq h16 .nilslice (w16.ex0.mono (by omega));rw[<-hR]at this;exact this (Ow.nil _ _) λb' hb'=>(by cases hb')
 ·rw[hz]at hR
  simp only at hR;have hg:=KU hz;have w3:=w1.ext x3;have t3:=w3.top;refine⟨by omega,?_⟩;rintro p9 h10 rfl e10;obtain⟨_,x10,_⟩:=zx e10 (by omega);have w10:=w3.new e10 (by omega);have t10:=w10.top;obtain⟨h11,e11,w11,n11,k11⟩:=w10.st (cx:=zA) 0 (f:=0) (u:=.agg [.int .i64 (log:Nat),v]) (cs':=.ls [.int .i64 (log:Nat),v]) rfl (by omega) yr rfl (oJ _) (yc.2 λu hu=>by
   rcases od.1 hu with rfl|hu
   ·rfl
   ·exact yc.1 ow3.one1.2 u hu) rfl
  have ow11:=(ow3.ext x10).keep (h':=h11) (by omega) λb' hb'=>k11 b' (by have:=ow3.blk hb';omega)
  have t11:=w11.top;obtain⟨h12,e12,w12,n12,k12⟩:=w11.st (cx:=zA) 1 (f:=0) (u:=.agg [.int .i64 0,.int .i64 0]) rfl (by omega) xU rfl (oJ _) rfl rfl;have ow12:=ow11.keep (h':=h12) (by omega) λb' hb'=>k12 b' (by have:=hv b' hb';omega)
  have l12:=w12.low;have t12:=w12.top;have sT:Sl (zM h12) v 1 l.length (zJ l):=ow12.sl;refine⟨h11,e11,h12,e12,_,w12.ld1 1 rfl zLX rfl rfl,λq=>absurd rfl q,λ_=>⟨⟨by omega,by omega⟩,_,_,w12.ldA 0 rfl yr rfl rfl,_,zHn (by omega),?_⟩⟩
  refine zHh sT hg (by rw[List.length_drop];omega) (show h12.nx+1300<=T.top by omega) (oP _) λh21 v22 x21 ow21 hv22=>⟨_,_,rfl,?_⟩
  have xd:=Ext.drawn x21 (by omega);have t21:=x21.top;refine⟨show h21.nx<=T.top by have:(zM h12).nx=h12.nx:=rfl;omega,?_⟩;intro h24 e24;have ow24:Ow h24 v22 yt (wW log l (b.drop ((p+7)/8))).2.length (zJ (wW log l (b.drop ((p+7)/8))).2):=by rw[e24];exact ow21
  rw[<-e24]at xd;have w24:=w12.ext xd.2;have t24:=w24.top;clear e24;refine⟨λc=>?_,λc=>?_⟩
  ·rw[if_pos c]at hR
   obtain⟨h25,e25,w25,n25,_⟩:=w24.st (cx:=zA) 1 (f:=0) (u:=.agg [.int .i64 (wW log l (b.drop ((p+7)/8))).1,.int .i64 ((p+7)/8:Nat)]) rfl (by omega) xU rfl (oJ _) rfl rfl;refine⟨h25,e25,endL.ok (leaveL.cell (a:=3) (w25.ldA 1 rfl xU rfl rfl) rfl) ?_⟩;have:=hq h25 .nilslice (w25.ex0.mono (by omega));rw[<-hR]at this;exact this (Ow.nil _ _) λb' hb'=>(by cases hb')
  ·rw[if_neg c]at hR
   obtain⟨h25,e25,w25,n25,k25⟩:=w24.st (cx:=zA) 1 (f:=0) (u:=.agg [.int .i64 0,.int .i64 0]) rfl (by omega) xU rfl (oJ _) rfl rfl;refine⟨h25,e25,endL.ok (leaveL.cell (a:=3) (w25.ldA 1 rfl xU rfl rfl) rfl) ?_⟩;have:=hq h25 v22 (w25.ex0.mono (by omega));rw[<-hR]at this;have hle:h.nx<h12.nx:=w12.lt 1 rfl;exact this (ow24.keep (by omega) λb' hb'=>k25 b' (by have:=hv22 b' hb';have e:(zM h12).nx=h12.nx:=rfl;omega)) λb' hb'=>by
    have:=hv22 b' hb';have e:(zM h12).nx=h12.nx:=rfl;omega
def zBT:List Go.Oper:=z7t.toList
def oR (i:Nat):Go.Oper:=(zBT[i]?).getD default
theorem zR5:zBT=[oR 0,oR 1,oR 2,oR 3,oR 4,oR 5]:=by kernel_rfl
theorem oR0:(oR 0).op = .load 23 (t 4)/\(oR 0).dst=some 77/\(oR 0).guard=none:=⟨by kernel_rfl,by kernel_rfl,by kernel_rfl⟩
theorem oR1:(oR 1).op = .load 3 (t 5)/\(oR 1).dst=some 78/\(oR 1).guard=none:=⟨by kernel_rfl,by kernel_rfl,by kernel_rfl⟩
theorem oR2:(oR 2).op = .load 26 (t 6)/\(oR 2).dst=some 79/\(oR 2).guard=none:=⟨by kernel_rfl,by kernel_rfl,by kernel_rfl⟩
theorem oR3:(oR 3).op = .store 23 (t 4) (t 77)/\(oR 3).dst=none/\(oR 3).guard=none:=⟨by kernel_rfl,by kernel_rfl,by kernel_rfl⟩
theorem oR4:(oR 4).op = .store 3 (t 5) (t 78)/\(oR 4).dst=none/\(oR 4).guard=none:=⟨by kernel_rfl,by kernel_rfl,by kernel_rfl⟩
theorem oR5:(oR 5).op = .store 26 (t 6) (t 79)/\(oR 5).dst=none/\(oR 5).guard=none:=⟨by kernel_rfl,by kernel_rfl,by kernel_rfl⟩
theorem okR:yZ zBT=some 5:=by kernel_rfl
def tmR (tm:Tm) (a b e:Nat) (x y z:V):Tm:=Tb.set (Tb.set (Tb.set (yq tm [(4,.ptr a 0),(5,.ptr b 0),(6,.ptr e 0)]) 77 x) 78 y) 79 z
theorem so3 (tm:Tm) (a b e:Nat) (x y z:V):xr zBT (z8 zBT []) 5 3 (tmR tm a b e x y z) (oR 3)=((cond (!(Nat.beq a b) && true) (cond (!(Nat.beq a e) && true) true false) false && true) || false):=by kernel_rfl
theorem so4 (tm:Tm) (a b e:Nat) (x y z:V):xr zBT (z8 zBT []) 5 4 (tmR tm a b e x y z) (oR 4)=((cond (!(Nat.beq b e) && true) true false && true) || false):=by kernel_rfl
theorem wR (tm:Tm) (d:List AD) (h:H) (Q:AX->St->Prop):XR false zCE ⟨80,tm,d,h⟩ Q=wpDr P zA false zBT ⟨80,tm,d,h⟩ (thenC (λs1=>Q .ret s1) Q):=by kernel_rfl
theorem gR (tm:Tm) (a b e:Nat) (x y z:V):zi (tmR tm a b e x y z) 4 = .ptr a 0/\zi (tmR tm a b e x y z) 5 = .ptr b 0/\zi (tmR tm a b e x y z) 6 = .ptr e 0/\zi (tmR tm a b e x y z) 77=x/\zi (tmR tm a b e x y z) 78=y/\zi (tmR tm a b e x y z) 79=z :=
 ⟨by kernel_rfl,by kernel_rfl,by kernel_rfl,by kernel_rfl,by kernel_rfl,by kernel_rfl⟩
abbrev xa (x:Int):O:=.cells (.ls [.int .i64 x]) ⟨0,3+1,0⟩ true false
theorem zXc {hb h:H}{c a b e p7:Nat}{o7:O}{v:V}{n x y:Int}{tm:Tm}{d:List AD}{Q:AX->St->Prop}(w:Vw zR hb h c [(p7,o7),(e,oFl x y),(b,xa n),(a,jS v)]) (hv:v.cells=[v]/\zL [v]=true) (hs:Has tm [(4,.ptr a 0),(5,.ptr b 0),(6,.ptr e 0)]) (hn:h.nx<=T.top) (hl:h.low<=T.top)
  (hq:∀tm' h',Has tm' [(4,.ptr a 0),(5,.ptr b 0),(6,.ptr e 0)]->Vw zR hb h' c [(p7,o7),(e,oFl x y),(b,xa n),(a,jS v)]->h'.nx=h.nx->(∀i,i≠a->i≠b->i≠e->h'.get i=h.get i)->Q .ret ⟨80,tm',d,h'⟩) :
  XR false zCE ⟨80,tm,d,h⟩ Q:=by
 rw[wR];have la:=w.lt 3 rfl;have lb:=w.lt 2 rfl;have le:=w.lt 1 rfl;have hab:a≠b:=Nat.ne_of_lt (w.bk.2.2.2.2.2.2.2.2.2.1);have hbe:b≠e:=Nat.ne_of_lt (w.bk.2.2.2.2.2.2.1);have hae:a≠e:=Nat.ne_of_lt (Nat.lt_trans (w.bk.2.2.2.2.2.2.2.2.2.1) (w.bk.2.2.2.2.2.2.1));have et:=xW hs rfl;have ga:(zM h).get a=some (jS v):=w.get 3 rfl;have w1:=w.upd 3 (o':=jS v) rfl hn;have n1:(h.upd a (some (jS v))).nx=h.nx:=rfl;have k1:∀i,i≠a->(h.upd a (some (jS v))).get i=h.get i:=λi hi=>zP _ (by omega) hi
 have a3:zf zA 23 (zM h) (.ptr a 0) v=some ((zM h).upd a (some (jS v))):=zk zO ga (by rw[hv.1];rfl) (oJ _) (by rw[hv.1];exact hv.2) (by rw[hv.1];rfl);have L1:yG h ((zM h).upd a (some (jS v)))=h.upd a (some (jS v)):=kO (by omega);have l1:(h.upd a (some (jS v))).low<=T.top:=by rw[H.low_upd];omega
 generalize hh1:h.upd a (some (jS v))=h1 at w1 n1 k1 L1 l1;have w2:=w1.upd 2 (o':=xa n) rfl (by omega);have n2:(h1.upd b (some (xa n))).nx=h1.nx:=rfl;have k2:∀i,i≠b->(h1.upd b (some (xa n))).get i=h1.get i:=λi hi=>zP _ (by omega) hi
 have gb:(zM h1).get b=some (xa n):=w1.get 2 rfl;have a4:zf zA 3 (zM h1) (.ptr b 0) (.int .i64 n)=some ((zM h1).upd b (some (xa n))):=zk zb gb rfl (oJ _) rfl rfl;have L2:yG h1 ((zM h1).upd b (some (xa n)))=h1.upd b (some (xa n)):=kO (by omega);generalize hh2:h1.upd b (some (xa n))=h2 at w2 n2 k2 L2;have w3:=w2.upd 1 (o':=oFl x y) rfl (by omega);have n3:(h2.upd e (some (oFl x y))).nx=h2.nx:=rfl;have k3:∀i,i≠e->(h2.upd e (some (oFl x y))).get i=h2.get i:=λi hi=>zP _ (by omega) hi
 have a5:zf zA 26 h2 (.ptr e 0) (.agg [.int .i64 x,.int .i64 y])=some (h2.upd e (some (oFl x y))):=zk xU (w2.get 1 rfl) rfl (oJ _) rfl rfl;generalize h2.upd e (some (oFl x y))=h3 at w3 n3 k3 a5;obtain⟨g4,g5,g6,g77,g78,g79⟩:=gR tm a b e v (.int .i64 n) (.agg [.int .i64 x,.int .i64 y]);refine⟨XE,5,.normal,⟨80,tmR tm a b e v (.int .i64 n) (.agg [.int .i64 x,.int .i64 y]),d,h3⟩,jy,okR,?_,?_⟩
 ·have so3':=so3 tm a b e v (.int .i64 n) (.agg [.int .i64 x,.int .i64 y])
  have so4':=so4 tm a b e v (.int .i64 n) (.agg [.int .i64 x,.int .i64 y]);rw[zGn hab,zGn hae]at so3';rw[zGn hbe]at so4';generalize hbs:z8 zBT []=bs at so3' so4' ⊢;generalize hops:zBT=ops at so3' so4' ⊢;have hl6:ops=[oR 0,oR 1,oR 2,oR 3,oR 4,oR 5]:=by rw[<-hops];exact zR5
  have main:yF zA XE false ws ops bs 5 5 0 [oR 0,oR 1,oR 2,oR 3,oR 4,oR 5] ⟨80,tm,d,h⟩=some (.done .normal ⟨80,tmR tm a b e v (.int .i64 n) (.agg [.int .i64 x,.int .i64 y]),d,h3⟩):=by
   refine zr (v:=v) oR0.2.2 (xO oR0.1 (congrArg some (hs.get rfl)) (zX zO rfl ga rfl)) oR0.2.1 rfl hn hl ?_;have hs1:Has (Tb.set tm 77 v) [(5,.ptr b 0),(6,.ptr e 0)]:=⟨(show zi (Tb.set tm 77 v) 5=zi tm 5 by kernel_rfl).trans (hs.get rfl),(show zi (Tb.set tm 77 v) 6=zi tm 6 by kernel_rfl).trans (hs.get rfl),trivial⟩;refine zr (v:=.int .i64 n) oR1.2.2 (xO oR1.1 (congrArg some (hs1.get rfl)) (zX zb rfl (show(zM h).get b=_ from w.get 2 rfl) rfl)) oR1.2.1 rfl hn hl ?_;have hs2:Has (Tb.set (Tb.set tm 77 v) 78 (.int .i64 n)) [(6,.ptr e 0)]:=⟨(show zi (Tb.set (Tb.set tm 77 v) 78 (.int .i64 n)) 6=zi tm 6 by kernel_rfl).trans (hs.get rfl),trivial⟩;refine zr (v:=.agg [.int .i64 x,.int .i64 y]) oR2.2.2 (xO oR2.1 (congrArg some (hs2.get rfl)) (zo xU rfl (show(zM h).get e=_ from w.get 1 rfl) rfl)) oR2.2.1 rfl hn hl ?_;have etm:Tb.set (Tb.set (Tb.set tm 77 v) 78 (.int .i64 n)) 79 (.agg [.int .i64 x,.int .i64 y])=tmR tm a b e v (.int .i64 n) (.agg [.int .i64 x,.int .i64 y]):=by unfold tmR;rw[et]
   rw[etm];refine zEo oR3.2.2 (JS oR3.1 (congrArg some g4) (congrArg some g77) a3) oR3.2.1 (so3'.trans rfl) ?_;rw[L1];refine zEo oR4.2.2 (JS oR4.1 (congrArg some g5) (congrArg some g78) a4) oR4.2.1 (so4'.trans rfl) ?_;rw[L2];exact zR2 oR5.2.2 (JS oR5.1 (congrArg some g6) (congrArg some g79) a5) oR5.2.1
  rw[<-hl6]at main;exact main
 ·exact hq _ h3 ⟨g4,g5,g6,trivial⟩ w3 (by omega) λi h1 h2 h3=>by rw[k3 i h3,k2 i h2,k1 i h1]
theorem zMU {a0 a1 a2 a3:V}{k:H->Prop}:W38 false b38 ⟨12,zC [a0,a1,a2,a3] 0 (Tb.leaf zB),[],h⟩ (zZR zA ⟨12,[],b38⟩ k) =
  (zS zA 26 0 h a0 (λv0 h1=>∃(x2:Int),zK zA 24 h1 v0=some (.int .i64 x2)/\((x2≠(0:Int)->∃h3,zf zA 23 h1 a1 .nilslice=some h3/\∃h4,zf zA 3 h3 a2 (.int .i64 (0:Int))=some h4/\zS zA 26 1 h4 a0 (λv5 h6=>∃(x7:Int),zK zA 3 h6 v5=some (.int .i64 x7)/\∃(x8:Int),zK zA 3 h6 a3=some (.int .i64 x8)/\zS zA 26 1 h6 a0 (λv9 h10=>∃h11,zf zA 3 h10 v9 (.int .i64 (zH (x7+x8)))=some h11/\(([]:List AD)=[]/\k h11))))/\(¬(x2≠(0:Int))->(([]:List AD)=[]/\k h1))))):=by kernel_rfl
theorem zM6 {p o:Nat}{k:V->H->Prop}:zS zA 26 0 h (.ptr p o) k=k (.ptr p (o+0)) h:=by kernel_rfl
theorem zM7 {p o:Nat}{k:V->H->Prop}:zS zA 26 1 h (.ptr p o) k=k (.ptr p (o+1)) h:=by kernel_rfl
theorem zEh {hb h:H}{c a b e p7:Nat}{v:V}{n x y sh:Int}{k:H->Prop}(w:Vw zR hb h c [(p7,xa sh),(e,oFl x y),(b,xa n),(a,jS v)]) (hn:h.nx<=T.top)
  (hq1:x≠0->∀h',Vw zR hb h' c [(p7,xa sh),(e,oFl x (zH (y+sh))),(b,xa 0),(a,jS .nilslice)]->h'.nx=h.nx->k h') (hq2:x=0->k h):RV P zA 80 38 [.ptr e 0,.ptr a 0,.ptr b 0,.ptr p7 0] h k:=by
 refine⟨_,z6Q,ble _ _ rfl,ble _ _ rfl,by decide,YY _ (?_:W38 false b38 _ _)⟩;refine(zMU (k:=k)).symm ▸ ?_;rw[zM6];refine⟨x,w.ld1 1 rfl zLX rfl rfl,λc1=>?_,λc1=>⟨rfl,hq2 (by omega)⟩⟩
 obtain⟨h3,e3,w3,n3,_⟩:=w.st (cx:=zA) 3 (f:=0) (u:=.nilslice) rfl hn zO rfl (oJ _) rfl rfl;obtain⟨h4,e4,w4,n4,_⟩:=w3.st (cx:=zA) 2 (f:=0) (u:=.int .i64 0) rfl (by omega) zb rfl (oJ _) rfl rfl;obtain⟨h5,e5,w5,n5,_⟩:=w4.st (cx:=zA) 1 (f:=0+1) (u:=.int .i64 (zH (y+sh))) rfl (by omega) zb rfl (oJ _) rfl rfl;refine⟨h3,e3,h4,e4,?_⟩;rw[zM7];refine⟨y,w4.ld1 1 rfl zb rfl rfl,sh,w4.ld1 0 rfl zb rfl rfl,?_⟩;rw[zM7];exact⟨h5,e5,rfl,hq1 c1 h5 w5 (by omega)⟩
section
variable {P:Program}{c:Ctx}
theorem _root_.Go.Sim.endQ.ok {n m:Nat}{rs:List Go.ResultVar}{body:Go.Code}{tm:Tm}{d:List AD}{h0 h:H}{vs:List V}{Q:V->H->Prop}(e:leave c rs tm h rs []=some vs) (hq:Q (yM vs) h):endQ c ⟨n,rs,body⟩ Q ⟨m,tm,d,h0⟩ h:=by
 unfold endQ;rw[e];exact hq
theorem _root_.Go.Sim.endW1.nd {n m:Nat}{rs:List Go.ResultVar}{body:Go.Code}{tm:Tm}{h:H}{vs:List V}{Q:V->H->Prop}(e:leave c rs tm h rs []=some vs) (hq:Q (yM vs) h):endW1 P c ⟨n,rs,body⟩ Q .ret ⟨m,tm,[],h⟩:=endQ.ok e hq
theorem _root_.Go.Sim.endW1.df {fi:FI}{m f:Nat}{cap:List V}{tm:Tm}{h:H}{Q:V->H->Prop}(r:RV P c fi.n f cap h (endQ c fi Q ⟨m,tm,[.fn f cap []],h⟩)):endW1 P c fi Q .ret ⟨m,tm,[.fn f cap []],h⟩:=r
end
theorem Zj (b:List UInt8) (a fin:Nat):zPI b a fin=if (ym b).e≠0 then ⟨[],0,(ym b).e,((a+1+(ym b).fat:Nat):Int)⟩ else if jz (ym b).l=0 then ⟨(ym b).l,fin,0,0⟩ else ⟨[],0,21,a⟩:=by
 unfold zPI ym;cases h:wA b 6 12 with
 | none =>
  simp only;by_cases ha:Ya b 6
  ·simp only[if_pos ha];rfl
  ·simp only[if_neg ha];rfl
 | some x =>
  obtain⟨log,l,p⟩:=x;simp only;generalize wW log l (b.drop ((p+7)/8))=t;obtain⟨e,r⟩:=t;by_cases c:e≠0
  ·simp only[if_pos c]
   congr 1
  ·have:e=0:=by omega
   subst this;rfl
theorem zFs (b:List UInt8):(ym b).l.length<=255:=by
 unfold ym;split
 ·simp
 ·rename_i log l p hd
  split
  ·simp
  ·exact(zPJ (KU hd)).2
theorem zFr {b:List UInt8}:(ym b).fat<=b.length+1:=by
 unfold ym;cases h:wA b 6 12 with
 | none=>simp
 | some x =>
  obtain⟨log,l,p⟩:=x;have hp:p<=8*b.length:=by
   unfold wA at h;split at h
   ·cases h
   ·split at h
    ·cases h
    ·cases hr:xE b 12 (12+2) (2^(yO b 0 4+5)) 4 []with
     | none=>rw[hr]at h;cases h
     | some y =>
      rw[hr]at h;simp only[oZ,oA,oB]at h;obtain⟨_,_,rfl⟩:=h;have key:∀{f left p:Nat}{l r:List Int}{q:Nat},xE b 12 f left p l=some (r,q)->p<=8*b.length->q<=8*b.length:=by
       intro f
       induction f with
       | zero=>intro left p l r q h;cases h
       | succ f ih =>
        intro left p l r q h hp;unfold xE at h;split at h
        ·cases h;exact hp
        ·rename_i hl0
         cases ho:qY b left p with
         | none=>rw[ho]at h;cases h
         | some z =>
          obtain⟨v,p'⟩:=z;rw[ho]at h;have hp':=(zA1 (by omega) ho).2;simp only at h;split at h
          ·cases h
          ·split at h
           ·cases hz:xF b 12 (12+1) p' (l.length+1)with
            | none=>rw[hz]at h;cases h
            | some u =>
             obtain⟨n,p2⟩:=u;rw[hz]at h;have hzl:∀{f p n m q:Nat},xF b 12 f p n=some (m,q)->q<=8*b.length:=by
              intro f
              induction f with
              | zero=>intro p n m q h;cases h
              | succ f ih =>
               intro p n m q h;unfold xF at h;split at h
               ·cases h
               ·split at h
                ·cases h
                ·split at h
                 ·exact ih h
                 ·cases h;omega
             exact ih h (hzl hz)
           ·exact ih h hp'
      rename_i hlen _;exact key hr (by omega)
  simp only;split
  ·show(p+7)/8<=_;omega
  ·show 0<=_;omega
theorem K8 {s:List UInt8}{at':Int}(hs:s.length<=1500) (hn:h.nx+2100<=T.top) (hlow:h.low<=T.top)
  (hq:∀h' v',Ext h h' 2000->Ow h' v' yt (yU s at').l.length (zJ (yU s at').l)->(∀b,zu v'=some b->h.nx<=b)->Q (.tuple [v',.int .i64 ((yU s at').nx:Nat),flt (yU s at').e (yU s at').fat]) h') :
  RF P zA 10 [.str s,.int .i64 at'] h Q:=by
 generalize hR:yU s at'=R at hq;unfold yU at hR;refine RF.enterDS kJ z6F (ble _ _ rfl) (ble _ _ rfl) z6q ⟨rfl,by omega,?_⟩;rintro p0 h1 rfl e1;have w1:=(Vw.nil (S:=zR) (h:=h)).new e1 (by omega);have t1:=w1.top;refine⟨rfl,by omega,?_⟩;rintro p2 h3 rfl e3;have w3:=w1.new e3 (by omega);have t3:=w3.top;refine⟨by omega,?_⟩;rintro p4 h5 rfl e5;have w5:=w3.new e5 (by omega);have t5:=w5.top;have l5:=w5.low;have out:∀(tm:Tm) (h':H) (v:V),Vw zR h h' 2000 [(h3.nx,oFl R.e R.fat),(h1.nx,xa (R.nx:Nat)),(h.nx,jS v)]->Ow h' v yt R.l.length (zJ R.l)->(∀b,zu v=some b->h.nx<=b)->Has tm [(4,.ptr h.nx 0),(5,.ptr h1.nx 0),(6,.ptr h3.nx 0)] ->
   ∃vs,leave zA [.cell 4 23,.cell 5 3,.cell 6 26] tm h' [.cell 4 23,.cell 5 3,.cell 6 26] []=some vs/\Q (yM vs) h':=λtm h' v w ow hv hs =>
  ⟨_,leave.cell (hs.get rfl) (w.ld1 2 rfl zO rfl rfl) (leave.cell (hs.get rfl) (w.ld1 1 rfl zb rfl rfl) (leave.cell (hs.get rfl) (w.ldA 0 rfl xU rfl rfl) rfl)),hq h' v w.ex0 ow hv⟩
 have bad3:∀(e fat:Int) (h2:H) (c:Nat) (rest:List (Nat×O)) (x y n:Int) (v:V),Vw zR h h2 c (rest++[(h3.nx,oFl x y),(h1.nx,xa n),(h.nx,jS v)])->rest.length<=1->c<=2000->h2.nx<=T.top->∃h6 h7 h8,zf zA 23 h2 (.ptr h.nx 0) .nilslice=some h6/\zf zA 3 h6 (.ptr h1.nx 0) (.int .i64 0)=some h7/\zf zA 26 h7 (.ptr h3.nx 0) (.agg [.int .i64 e,.int .i64 fat])=some h8 /\
   Vw zR h h8 c (rest++[(h3.nx,oFl e fat),(h1.nx,xa 0),(h.nx,jS .nilslice)])/\h8.nx=h2.nx:=by
  intro e fat h2 c rest x y n v w hr hc ht;rcases rest with _|⟨p,rest⟩
  ·obtain⟨h6,e6,w6,n6,_⟩:=w.st (cx:=zA) 2 (f:=0) (u:=.nilslice) rfl ht zO rfl (oJ _) rfl rfl
   obtain⟨h7,e7,w7,n7,_⟩:=w6.st (cx:=zA) 1 (f:=0) (u:=.int .i64 0) rfl (by omega) zb rfl (oJ _) rfl rfl;obtain⟨h8,e8,w8,n8,_⟩:=w7.st (cx:=zA) 0 (f:=0) (u:=.agg [.int .i64 e,.int .i64 fat]) rfl (by omega) xU rfl (oJ _) rfl rfl;exact⟨h6,h7,h8,e6,e7,e8,w8,by omega⟩
  ·rcases rest with _|⟨p2,rest⟩
   ·obtain⟨h6,e6,w6,n6,_⟩:=w.st (cx:=zA) 3 (f:=0) (u:=.nilslice) rfl ht zO rfl (oJ _) rfl rfl
    obtain⟨h7,e7,w7,n7,_⟩:=w6.st (cx:=zA) 2 (f:=0) (u:=.int .i64 0) rfl (by omega) zb rfl (oJ _) rfl rfl;obtain⟨h8,e8,w8,n8,_⟩:=w7.st (cx:=zA) 1 (f:=0) (u:=.agg [.int .i64 e,.int .i64 fat]) rfl (by omega) xU rfl (oJ _) rfl rfl;exact⟨h6,h7,h8,e6,e7,e8,w8,by omega⟩
   ·simp at hr
 have oor:(at'<0\/(s.length:Int)<at')->∀tm,Has tm [(4,.ptr h.nx 0),(5,.ptr h1.nx 0),(6,.ptr h3.nx 0),(16,.bool true),(1,.int .i64 at'),(0,.str s)]->XR false zFo ⟨80,tm,[],h5⟩ (thenC (sealK XQ λs1=>XR false zFp s1 (endW1 P zA ⟨80,[.cell 4 23,.cell 5 3,.cell 6 26],JM⟩ Q)) (endW1 P zA ⟨80,[.cell 4 23,.cell 5 3,.cell 6 26],JM⟩ Q)):=by
  intro c tm hs0;rw[if_pos c]at hR;obtain⟨h6,h7,h8,e6,e7,e8,w8,_⟩:=bad3 2 0 h5 3 [] 0 0 0 .nilslice w5 (oJ _) (by omega) (by omega);refine wpS.av hs0 zPb rfl rfl ⟨h6,e6,h7,e7,h8,e8,hs0.on λtm1 hs1=>?_⟩
  subst hR;obtain⟨vs,ev,hqv⟩:=out tm1 h8 .nilslice (w8.more (by omega)) (Ow.nil _ _) (λb hb=>(by cases hb)) (hs1.sub (by kernel_rfl))
  exact thenC.rt (endW1.nd ev hqv)
 refine⟨λc=>Has.nil.on λtm hs0=>oor (.inl c) tm (hs0.sub (by kernel_rfl)),λc1=>⟨λc=>Has.nil.on λtm hs0=>oor (.inr c) tm (hs0.sub (by kernel_rfl)),λc2=>Has.nil.on λtm hs0=>?_⟩⟩
 have c2:¬(s.length:Int)<at':=c2;rw[if_neg (by omega)]at hR;obtain⟨a,rfl⟩:∃a:Nat,at'=a:=⟨at'.toNat,by omega⟩;rw[oX]at hR;refine wpS.av hs0 zPb rfl rfl (hs0.on λtm1 hs1=>thenC.nx (hs1.sealK λtm2 hs2=>?_))
 clear hs0 hs1 oor;refine wpS.av hs2 zXz rfl rfl ⟨λc=>?_,λc=>⟨rfl,by omega,?_⟩⟩
 ·have c:(a:Int)=s.length:=c
  rw[og (by omega)]at hR;obtain⟨h6,h7,h8,e6,e7,e8,w8,_⟩:=bad3 5 a h5 3 [] 0 0 0 .nilslice w5 (oJ _) (by omega) (by omega);refine⟨h6,e6,h7,e7,h8,e8,hs2.on λtm3 hs3=>?_⟩
  subst hR;obtain⟨vs,ev,hqv⟩:=out tm3 h8 .nilslice (w8.more (by omega)) (Ow.nil _ _) (λb hb=>(by cases hb)) (hs3.sub (by kernel_rfl))
  exact endW1.nd ev hqv
 have c:¬(a:Int)=s.length:=c;have hal:a<s.length:=by omega
 obtain⟨ch,hch⟩:∃ch,s[a]? = some ch:=⟨_,oO hal⟩;have hct:=ch.toNat_lt;rw[hch]at hR;simp only at hR;rintro p7 h6 rfl e6;have w6:=w5.new e6 (by omega);have t6:=w6.top;obtain⟨h7,e7,w7,n7,_⟩:=w6.st (cx:=zA) 0 (f:=0) (u:=.int .i64 0) rfl (by omega) zb rfl (oJ _) rfl rfl;have l7:=w7.low;have tail1:∀(tm:Tm) (h':H) (x y sh fat:Int) (n:Int) (v:V),Vw zR h h' 2000 [(h5.nx,xa sh),(h3.nx,oFl x y),(h1.nx,xa n),(h.nx,jS v)]->x≠0->zH (y+sh)=fat->R=⟨[],0,x,fat⟩->Has tm [(4,.ptr h.nx 0),(5,.ptr h1.nx 0),(6,.ptr h3.nx 0)] ->
   endW1 P zA ⟨80,[.cell 4 23,.cell 5 3,.cell 6 26],JM⟩ Q .ret ⟨80,tm,[.fn 38 [.ptr h3.nx 0,.ptr h.nx 0,.ptr h1.nx 0,.ptr h5.nx 0] []],h'⟩:=by
  intro tm h' x y sh fat n v w hx hf hRR hs;have tw:=w.top;refine endW1.df (zEh w (by omega) (λ_ h'' w'' n''=>?_) λq=>absurd q hx)
  subst hRR;rw[hf]at w'';obtain⟨vs,ev,hqv⟩:=out tm h'' .nilslice (w''.drop 1) (Ow.nil _ _) (λb hb=>(by cases hb)) hs
  exact endQ.ok ev hqv
 have tail0:∀(tm:Tm) (h':H) (sh:Int) (v:V),Vw zR h h' 2000 [(h5.nx,xa sh),(h3.nx,oFl 0 R.fat),(h1.nx,xa (R.nx:Nat)),(h.nx,jS v)]->R.e=0->Ow h' v yt R.l.length (zJ R.l)->(∀b,zu v=some b->h.nx<=b)->Has tm [(4,.ptr h.nx 0),(5,.ptr h1.nx 0),(6,.ptr h3.nx 0)] ->
   endW1 P zA ⟨80,[.cell 4 23,.cell 5 3,.cell 6 26],JM⟩ Q .ret ⟨80,tm,[.fn 38 [.ptr h3.nx 0,.ptr h.nx 0,.ptr h1.nx 0,.ptr h5.nx 0] []],h'⟩:=by
  intro tm h' sh v w hx ow hv hs;have tw:=w.top;refine endW1.df (zEh w (by omega) (λq=>absurd rfl q) λ_=>?_)
  rw[<-hx]at w;obtain⟨vs,ev,hqv⟩:=out tm h' v (w.drop 1) ow hv hs;exact endQ.ok ev hqv
 have ech:zH ((ch.toNat:Nat):Int)=((ch.toNat:Nat):Int):=zLZ (by omega);have ea1:zH ((a:Int)+1)=((a+1:Nat):Int):=by rw[zD (by omega) (by omega)];rfl
 have ea2:zH (((a+1:Nat):Int)+((ch.toNat:Nat):Int))=((a+1+ch.toNat:Nat):Int):=by rw[zD (by omega) (by omega)];rfl
 refine⟨h7,e7,rfl,_,jP hch,?_⟩;rw[ech,ea1,ea2];refine⟨λc3=>?_,λc3=>?_⟩
 · -- direct
  rw[if_pos (by omega)]at hR;refine zBY (by omega) hch (by omega) (by omega) (by omega) λh8 v9 x8 ow8 hv8=>?_
  rw[hR]at ow8 ⊢;have w8:=w7.ext x8;have t8:=w8.top;have hlt:h5.nx<h7.nx:=w7.lt 0 rfl;have lt0:h.nx<h7.nx:=w7.lt 3 rfl;have lt1:h1.nx<h7.nx:=w7.lt 2 rfl;have lt3:h3.nx<h7.nx:=w7.lt 1 rfl;obtain⟨h13,e13,w13,n13,k13⟩:=w8.st (cx:=zA) 3 (f:=0) (u:=v9) (cs':=.ls [v9]) rfl (by omega) zO (by rw[ow8.one1.1];rfl) (oJ _) (by rw[ow8.one1.1];exact ow8.one1.2) (by rw[ow8.one1.1];rfl);obtain⟨h14,e14,w14,n14,k14⟩:=w13.st (cx:=zA) 2 (f:=0) (u:=.int .i64 (R.nx:Nat)) rfl (by omega) zb rfl (oJ _) rfl rfl;obtain⟨h15,e15,w15,n15,k15⟩:=w14.st (cx:=zA) 1 (f:=0) (u:=.agg [.int .i64 R.e,.int .i64 R.fat]) rfl (by omega) xU rfl (oJ _) rfl rfl;have ow15:=ow8.keep (h':=h15) (by omega) λb hb=>by
   have:=hv8 b hb;rw[k15 b (by omega),k14 b (by omega),k13 b (by omega)]
  refine⟨v9,_,_,_,rfl,h13,e13,h14,e14,h15,e15,hs2.on λtm3 hs3=>?_⟩
  by_cases ce:R.e=0
  ·rw[ce]at w15
   exact tail0 tm3 h15 0 v9 (w15.more (by omega)) ce ow15 (λb hb=>by have:=hv8 b hb;omega) (hs3.sub (by kernel_rfl))
  ·have hRR:R=⟨[],0,R.e,R.fat⟩/\-4611686018427387904<=R.fat/\R.fat<=4611686018427387904:=by
    subst hR;unfold xz at ce ⊢;split
    ·exact⟨rfl,by show _<=((s.length:Nat):Int);omega,by show((s.length:Nat):Int)<=_;omega⟩
    ·rename_i c4
     rw[if_neg c4]at ce;split
     ·rename_i c5
      rw[if_pos c5]at ce;exact absurd rfl ce
     ·exact⟨rfl,by show _<=((a:Nat):Int);omega,by show((a:Nat):Int)<=_;omega⟩
   exact tail1 tm3 h15 R.e R.fat 0 R.fat (R.nx:Nat) v9 (w15.more (by omega)) ce (by rw[Int.add_zero,zD (by omega) (by omega)]) hRR.1 (hs3.sub (by kernel_rfl))
 rw[if_neg (by omega)]at hR;refine⟨λc4=>?_,λc4=>?_⟩
 ·have c4:(s.length:Int)<((a+1+ch.toNat:Nat):Int):=c4
  rw[if_pos (by omega)]at hR;obtain⟨h16,h17,h18,e16,e17,e18,w18,n18⟩:=bad3 5 s.length h7 4 [(h5.nx,xa 0)] 0 0 0 .nilslice w7 (oP _) (by omega) (by omega);refine⟨h16,e16,h17,e17,h18,e18,hs2.on λtm3 hs3=>?_⟩
  exact tail1 tm3 h18 5 s.length 0 s.length 0 .nilslice (w18.more (by omega)) (by decide) (by rw[Int.add_zero,zD (by omega) (by omega)]) hR.symm (hs3.sub (by kernel_rfl))
 have c4:¬(s.length:Int)<((a+1+ch.toNat:Nat):Int):=c4;rw[if_neg (by omega),Zj]at hR;have hbl:((s.drop (a+1)).take ch.toNat).length<=1500:=by rw[List.length_take,List.length_drop];omega
 have hbf:=zFr (b:=(s.drop (a+1)).take ch.toNat);have key:∀tm3,Has tm3 [(4,.ptr h.nx 0),(5,.ptr h1.nx 0),(6,.ptr h3.nx 0),(1,.int .i64 a),(8,.int .i64 (ch.toNat:Nat)),(0,.str s),(7,.ptr h5.nx 0)] ->
   XR false zJB ⟨80,tm3,[.fn 38 [.ptr h3.nx 0,.ptr h.nx 0,.ptr h1.nx 0,.ptr h5.nx 0] []],h7⟩ (λe s1=>(thenC (sealK XQ λs1=>XR false zJD s1 (zy XQ (endW1 P zA ⟨80,[.cell 4 23,.cell 5 3,.cell 6 26],JM⟩ Q))) (zy XQ (endW1 P zA ⟨80,[.cell 4 23,.cell 5 3,.cell 6 26],JM⟩ Q))) (zc 0 e) s1):=by
  intro tm3 hs3;obtain⟨h10,e10,w10,n10,_⟩:=w7.st (cx:=zA) 2 (f:=0) (u:=.int .i64 (a+1+ch.toNat:Nat)) rfl (by omega) zb rfl (oJ _) rfl rfl;have l10:=w10.low;have t10:=w10.top;have esl:=Jx (s:=s) (x:=a+1) (y:=a+1+ch.toNat) (h:=h10) (by omega) (by omega);unfold ZD at esl;rw[show a+1+ch.toNat-(a+1)=ch.toNat by omega]at esl;generalize (s.drop (a+1)).take ch.toNat=body at hR hbl hbf esl;refine wpS.av hs3 zXx rfl rfl ?_;rw[ea1,ea2];refine⟨h10,e10,_,w10.ld1 2 rfl zb rfl rfl,_,esl,zMl (by omega) (by omega) (by omega) λh11 v11 x11 ow11 hv11=>⟨v11,_,_,rfl,?_⟩⟩
  have w11:=w10.ext x11;have t11:=w11.top;have lt0:h.nx<h10.nx:=w10.lt 3 rfl;have lt1:h1.nx<h10.nx:=w10.lt 2 rfl;have lt3:h3.nx<h10.nx:=w10.lt 1 rfl;have lt5:h5.nx<h10.nx:=w10.lt 0 rfl;obtain⟨h13,e13,w13,n13,k13⟩:=w11.st (cx:=zA) 3 (f:=0) (u:=v11) (cs':=.ls [v11]) rfl (by omega) zO (by rw[ow11.one1.1];rfl) (oJ _) (by rw[ow11.one1.1];exact ow11.one1.2) (by rw[ow11.one1.1];rfl);obtain⟨h14,e14,w14,n14,k14⟩:=w13.st (cx:=zA) 1 (f:=0) (u:=.agg [.int .i64 (ym body).e,.int .i64 ((ym body).fat:Nat)]) rfl (by omega) xU rfl (oJ _) rfl rfl;obtain⟨h15,e15,w15,n15,k15⟩:=w14.st (cx:=zA) 0 (f:=0) (u:=.int .i64 (a+1:Nat)) rfl (by omega) zb rfl (oJ _) rfl rfl;have hvb:∀b,zu v11=some b->b≠h.nx/\b≠h1.nx/\b≠h3.nx/\b≠h5.nx:=λb hb=>by have:=hv11 b hb;omega
  have ow15:=ow11.keep (h':=h15) (by omega) λb hb=>by
   have:=hvb b hb;rw[k15 b (by omega),k14 b (by omega),k13 b (by omega)]
  have l15:=w15.low;have t15:=w15.top;refine⟨h13,e13,h14,e14,h15,e15,hs3.on λtm4 hs4=>thenC.out (hs4.sealK λtm5 hs5=>?_)⟩
  refine wpS.av hs5 zXy rfl rfl ?_;rw[zM6];have fin:∀(tm:Tm) (h2:H) (x y sh n:Int),Vw zR h h2 1600 [(h5.nx,xa sh),(h3.nx,oFl x y),(h1.nx,xa n),(h.nx,jS v11)]->(x≠0/\(∃fat,zH (y+sh)=fat/\R=⟨[],0,x,fat⟩)\/x=0/\y=R.fat/\n=(R.nx:Nat)/\R.e=0/\Ow h2 v11 yt R.l.length (zJ R.l))->Has tm [(4,.ptr h.nx 0),(5,.ptr h1.nx 0),(6,.ptr h3.nx 0)] ->
    XR false zCE ⟨80,tm,[.fn 38 [.ptr h3.nx 0,.ptr h.nx 0,.ptr h1.nx 0,.ptr h5.nx 0] []],h2⟩ (zy XQ (zy XQ (endW1 P zA ⟨80,[.cell 4 23,.cell 5 3,.cell 6 26],JM⟩ Q))):=by
   intro tm h2 x y sh n w hcase hs;have tw:=w.top;have lw:=w.low;refine zXc w ow11.one1 hs (by omega) (by omega) λtm' h' hs' w' n' k'=>hs'.slt λtm6 hs6=>hs6.slt λtm7 hs7=>?_
   rcases hcase with⟨hx,fat,hf,hRR⟩|⟨hx,hy,hnn,he,ow⟩
   ·exact tail1 tm7 h' x y sh fat n v11 (w'.more (by omega)) hx hf hRR (hs7.sub (by kernel_rfl))
   ·subst hx hy hnn
    exact tail0 tm7 h' sh v11 (w'.more (by omega)) he (ow.keep (by omega) λb hb=>by have:=hvb b hb;exact k' b this.1 this.2.1 this.2.2.1) (λb hb=>by have:=hv11 b hb;omega) (hs7.sub (by kernel_rfl))
  refine⟨_,w15.ld1 1 rfl zLX rfl rfl,λc6=>?_,λc6=>hs5.on λtm6 hs6=>?_⟩
  ·rw[if_neg (λq=>q c6)]at hR
   refine⟨v11,w15.ld1 3 rfl zO rfl rfl,Xz ow15.sl (by have:=zFs body;omega) ⟨_,rfl,λc7=>hs5.on λtm6 hs6=>?_,λc7=>hs5.on λtm6 hs6=>?_⟩⟩
   ·rw[if_neg c7]at hR
    obtain⟨h16,e16,w16,n16,_⟩:=w15.st (cx:=zA) 1 (f:=0) (u:=.agg [.int .i64 21,.int .i64 a]) rfl (by omega) xU rfl (oJ _) rfl rfl;obtain⟨h17,e17,w17,n17,_⟩:=w16.st (cx:=zA) 0 (f:=0) (u:=.int .i64 0) rfl (by omega) zb rfl (oJ _) rfl rfl;refine wpS.av hs6 zHy rfl rfl ⟨h16,e16,h17,e17,hs6.on λtm7 hs7=>thenC.nx (hs7.sealK λtm8 hs8=>?_)⟩
    exact fin tm8 h17 21 a 0 _ (w17.more (by omega)) (.inl ⟨by decide,a,by rw[Int.add_zero,zD (by omega) (by omega)],hR.symm⟩) (hs8.sub (by kernel_rfl))
   ·rw[if_pos (by omega)]at hR
    refine wpS.av hs6 zHy rfl rfl (hs6.on λtm7 hs7=>thenC.nx (hs7.sealK λtm8 hs8=>?_))
    have hff:(ym body).fat=0:=by
     revert c6;unfold ym;split
     ·intro _;rfl
     ·split
      ·rename_i c8;intro q;exact absurd q c8
      ·intro _;rfl
    rw[c6,hff]at w15;subst hR;exact fin tm8 h15 0 0 (a+1:Nat) _ (w15.more (by omega)) (.inr ⟨rfl,rfl,rfl,rfl,ow15⟩) (hs8.sub (by kernel_rfl))
  ·rw[if_pos c6]at hR
   refine wpS.av hs6 zHy rfl rfl (hs6.on λtm7 hs7=>thenC.nx (hs7.sealK λtm8 hs8=>?_))
   exact fin tm8 h15 _ _ (a+1:Nat) _ (w15.more (by omega)) (.inl ⟨c6,_,by rw[zD (by omega) (by omega)],by rw[<-hR];congr 1;omega⟩) (hs8.sub (by kernel_rfl))
 exact⟨λ_=>hs2.on λtm3 hs3=>key tm3 (hs3.sub (by kernel_rfl)),λ_=>hs2.on λtm3 hs3=>key tm3 (hs3.sub (by kernel_rfl))⟩
end Go.Proofs.YtnpeieeomokomaaGreat
namespace Go.Proofs.YtnpeieeomokomaaGreat
open Go.Sim
variable {h:H}{Q:V->H->Prop}
theorem zLI {s:List UInt8}{a:Int}(h:(yU s a).e=0):jz (yU s a).l=0/\(yU s a).fat=0:=by
 unfold yU at h ⊢;split
 ·rename_i c;rw[if_pos c]at h;cases h
 ·rename_i c
  rw[if_neg c]at h;split
  ·rename_i hc;rw[hc]at h;cases h
  ·rename_i ch hc
   rw[hc]at h;simp only at h;split
   ·rename_i c2
    rw[if_pos c2]at h;unfold xz at h ⊢;split
    ·rename_i c3;rw[if_pos c3]at h;cases h
    ·rename_i c3
     rw[if_neg c3]at h;split
     ·rename_i c4;exact⟨c4,rfl⟩
     ·rename_i c4;rw[if_neg c4]at h;cases h
   ·rename_i c2
    rw[if_neg c2]at h;split
    ·rename_i c3;rw[if_pos c3]at h;cases h
    ·rename_i c3
     rw[if_neg c3,Zj]at h;rw[Zj];split
     ·rename_i c4;rw[if_pos c4]at h;exact absurd h c4
     ·rename_i c4
      rw[if_neg c4]at h;split
      ·rename_i c5;exact⟨c5,rfl⟩
      ·rename_i c5;rw[if_neg c5]at h;cases h
def Zk (s:List UInt8) (a:Int):Rd:=if (yU s a).e=0 then ⟨zRU (yU s a).l,(yU s a).nx,0,0⟩ else ⟨[],0,(yU s a).e,(yU s a).fat⟩
theorem zNe (l:List Int):(zRU l).length=l.length+1:=by unfold zRU;rw[YT];simp
theorem zAl {s:List UInt8}{at':Int}(hs:s.length<=1500) (hn:h.nx+2200<=T.top) (hlow:h.low<=T.top)
  (hq:∀h' v',Ext h h' 2100->Sl h' v' 1 (Zk s at').l.length (zJ (Zk s at').l)->(∀b,zu v'=some b->h.nx<=b)->Q (.tuple [v',.int .i64 ((Zk s at').nx:Nat),flt (Zk s at').e (Zk s at').fat]) h') :
  RF P zA 13 [.str s,.int .i64 at'] h Q:=by
 generalize hR:Zk s at'=R at hq;unfold Zk at hR;refine yD z6H rfl rfl z6s ⟨by omega,?_⟩;rintro p0 h1 rfl e1;have w1:=(Vw.nil (S:=zR) (h:=h)).new e1 (by omega);have t1:=w1.top;have l1:=w1.low;have n1:h1.nx=h.nx+1:=by rw[e1,zG]
 refine K8 hs (by omega) (by omega) λh3 v4 x3 ow3 hv3=>⟨_,_,_,_,rfl,?_⟩
 have w3:=w1.ext x3;have t3:=w3.top;obtain⟨h8,e8,w8,n8,k8⟩:=w3.st (cx:=zA) 0 (f:=0) (u:=.agg [.int .i64 (yU s at').e,.int .i64 (yU s at').fat]) rfl (by omega) xU rfl (oJ _) rfl rfl;have l8:=w8.low;have t8:=w8.top;have ow8:=ow3.keep (h':=h8) (by omega) λb hb=>k8 b (by have:=hv3 b hb;omega)
 refine⟨h8,e8,_,w8.ld1 0 rfl zLX rfl rfl,λc=>?_,λc=>?_⟩
 ·rw[if_neg c]at hR
  obtain⟨h12,e12,w12,n12,_⟩:=w8.st (cx:=zA) 0 (f:=0) (u:=.agg [.int .i64 (yU s at').e,.int .i64 (yU s at').fat]) rfl (by omega) xU rfl (oJ _) rfl rfl;refine⟨⟨by omega,by omega⟩,_,_,w8.ldA 0 rfl xU rfl rfl,h12,e12,endL.ok (leaveL.cell (a:=6) (w12.ldA 0 rfl xU rfl rfl) rfl) ?_⟩;have:=hq h12 .nilslice (w12.ex0.mono (by omega));rw[<-hR]at this;exact this ⟨by simp,.inl ⟨rfl,rfl⟩⟩ λb hb=>(by cases hb)
 ·have c0:(yU s at').e=0:=by omega
  rw[if_pos c0]at hR;obtain⟨hr,hf⟩:=zLI c0;refine zHK ow8 hr (by omega) λh14 v15 x14 s14 hv15=>⟨_,_,rfl,?_⟩
  have w14:=w8.ext x14;have t14:=w14.top;have l14:=w14.low;obtain⟨h19,e19,w19,n19,k19⟩:=w14.st (cx:=zA) 0 (f:=0) (u:=.agg [.int .i64 (yU s at').e,.int .i64 (yU s at').fat]) rfl (by omega) xU rfl (oJ _) rfl rfl;refine⟨⟨by omega,by omega⟩,_,_,w14.ldA 0 rfl xU rfl rfl,h19,e19,endL.ok (leaveL.cell (a:=6) (w19.ldA 0 rfl xU rfl rfl) rfl) ?_⟩;have:=hq h19 v15 (w19.ex0.mono (by omega));rw[<-hR,zNe]at this;rw[c0,hf];refine this ?_ λb hb=>by have:=hv15 b hb;have:=w8.le;omega
  obtain⟨q1,q2⟩:=s14;refine⟨q1,q2.imp id ?_⟩;rintro⟨b,o,cp,cs,k,w,op,rfl,hb,hg,hc⟩;have hbe:b≠h.nx:=by
   have:=hv15 b rfl;have:=w8.lt 0 rfl;omega
  exact⟨b,o,cp,cs,k,w,op,rfl,by omega,by rw[k19 b hbe];exact hg,hc⟩
section
variable (tm:Tm) (a b r p:Nat) (y x:Int)
variable (h:H)
end
end Go.Proofs.YtnpeieeomokomaaGreat
namespace Go.Proofs.YtnpeieeomokomaaGreat
open Go.Sim
variable {h:H}{Q:V->H->Prop}
theorem _root_.Go.Sim.Ow.set {cx:Ctx}{v u:V}{te ti:TI}{n t e j:Nat}{xs:List V}(s:Ow h v te n xs) (hj:j<n) (ht:cx.ty.get t=some ti) (hd:ti.desc = .slice e) (he:cx.ty.get e=some te) (hs:te.size=1) (hu:u.cells=[u]) (ho:u.one=true) (hn:h.nx<=T.top) :
  ∃b h',zu v=some b/\z7 cx t v (.int .i64 j)=some (.ptr b j)/\zf cx e h (.ptr b j) u=some h'/\Ow h' v te n (xs.set j u)/\h'.nx=h.nx/\ExtX (λi=>zu v=some i) h h' 0:=by
 obtain⟨h0,⟨rfl,hz⟩|⟨b,cs,rfl,hb,hg,hw,hl,hc⟩⟩:=s
 ·omega
 ·obtain⟨cs',p1,p2⟩:=Cs.put_some (cs:=cs) hw (o:=j) (vs:=[u]) (by rw[hl,hs];simp;omega)
  obtain⟨_,p3,p4⟩:=Cs.put_eq p1;have hbt:b<T.top:=by omega
  refine⟨b,h.upd b (some (.cells cs' (jU te) true true)),rfl,yb ht hd he hs hj,zk he hg (yl.2 (by rw[hu,hs];rfl)) (oJ _) (by rw[hu];simp[zL,ho]) (by rw[hu];exact p1),⟨by rw[oh];exact h0,.inr ⟨b,cs',rfl,hb,zN _ hbt,p2,by rw[p3,hl],λi hi=>?_⟩⟩,rfl,(ExtX.refl0 _ _).upd _ hbt (.inl rfl)⟩
  rw[p4];by_cases c1:i=j
  ·subst c1
   rw[if_pos ⟨oP _,by simp⟩,Nat.sub_self,List.getElem?_set_self (by rw[h0,hs];omega)];rfl
  ·rw[if_neg (by simp;omega),oY (λq=>c1 q.symm)]
   exact hc i hi
open Go (Oper)
theorem _root_.Go.Sim.aop_idx {c:Ctx}{o:Oper}{t:Nat}{a x:Go.Operand}{e:Go.Operand->Option V}{p v w:V}(ho:o.op = .indexAddr t a x) (he:e a=some p) (hx:e x=some v) (hs:z7 c t p v=some w):zh c o e h=some (.val w h):=by
 unfold zh;simp only[ho,he,hx,hs];rfl
section
variable (tm:Tm) (y16 y9 v62 v66 v67 v68 v69 v71 v72 v73 v74 v75 v76 v77 v78 v81 v82 v83 v84 v85 v86 v87:V) (j x:Int) (pa ps pq pr:Nat)
variable (t0:Tm) (s:List UInt8) (left:Nat) (z w:Int)
variable (h:H)
end
end Go.Proofs.YtnpeieeomokomaaGreat
namespace Go.Proofs.YtnpeieeomokomaaGreat
open Go.Sim
variable {h:H}{Q:V->H->Prop}
theorem zFy {v w:V}{l:List Int}(sl:Sl h v 1 l.length (zJ l)) (sw:Sl h w 1 l.length (zJ l)) (hl:l.length<4611686018427387904) (hn:h.nx<=T.top) (hlow:h.low<=T.top) (hq:Q (.bool true) h) :
  RF P zA 12 [v,w] h Q:=by
 refine yD z6G rfl rfl z6r ⟨_,sl.len zO rfl,_,sw.len zO rfl,λq=>absurd rfl q,λ_=>Has.nil.on λtm hs=>?_⟩
 refine wpC.round (λk tm h'=>∃i:Nat,i<=l.length/\k=l.length-i/\h'=h/\Has tm [(5,.int .i64 i),(0,v),(1,w)]) l.length ⟨0,by omega,by omega,rfl,hs.sub (by kernel_rfl)⟩ ?_
 clear hs;rintro k tm h' ⟨i,h1,rfl,rfl,hs⟩;refine wpC.av hs zXk rfl rfl ⟨_,sl.len zO rfl,λc=>?_,λc=>hs.on λtm' hs'=>?_⟩
 ·have hi:i<l.length:=by omega
  have hg:l[i]? = some l[i]:=oO hi;obtain⟨b,o,e1,e2⟩:=sl.at1 (u:=.int .i64 l[i]) hi zO rfl zb rfl rfl (by rw[oW,hg];rfl);obtain⟨b2,o2,e3,e4⟩:=sw.at1 (u:=.int .i64 l[i]) hi zO rfl zb rfl rfl (by rw[oW,hg];rfl);have e:zH ((i:Int)+1)=((i+1:Nat):Int):=by rw[zD (by omega) (by omega)];rfl
  refine⟨⟨hn,hlow⟩,b,o,e1,_,e2,b2,o2,e3,_,e4,λq=>absurd rfl q,λ_=>hs.on λtm' hs'=>⟨rfl,rfl,l.length-(i+1),by omega,i+1,by omega,rfl,rfl,?_⟩⟩
  rw[<-e];exact hs'.sub (by kernel_rfl)
 ·refine thenC.left (wpS.av hs' zYA rfl rfl (hs'.on λtm2 hs2=>endW.r1 (hs2.get rfl) hq))
end Go.Proofs.YtnpeieeomokomaaGreat
