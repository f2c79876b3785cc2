/- TO. No condition. -/
import Derived.Test.YtnpeieeomokomaaGreatZTN
set_option maxRecDepth 100000
set_option maxHeartbeats 4000000
namespace Go.Proofs.YtnpeieeomokomaaGreat
open Go.Sim
theorem XD (l:List Int):∀k,(jg l k).length=2
 | 0=>rfl
 | k+1=>by unfold jg;split<;>simp[XD l k]
theorem zCF {v:V}{l:List Int}{h:H}{Q:V->H->Prop}(sl:Sl h v 1 l.length (zM l)) (hin:jJ l=true) (hl:l.length<=255) (hn:h.next+2000<=T.top) (hlow:h.low<=T.top)
  (hq:∀h' v',Ext h h' 620->Ow h' v' zQY (yz l 2).length (zCj (yz l 2))->Q (.tuple [v',.agg (wz (jg l 2))]) h'):RF P zA 48 [v] h Q:=by
 refine RF.enterS zG z4d (ble _ _ rfl) (ble _ _ rfl) z5Z ⟨by omega,?_⟩;rintro p0 h1 rfl e1;have w1:=(Vw.nil (S:=zW) (h:=h)).new (o:=oB2 (.ls [.bool false,.bool false])) e1 (by omega);have n1:h1.next=h.next+1:=by rw[e1,zI]
 refine zLN (by omega) λh3 x3=>⟨_,_,rfl,Has.nil.on λtm hs=>?_⟩
 have w3:=w1.ext x3;have t3:=x3.top;refine wpC.round (λj tm h'=>∃(k:Nat) (y:V) (cb:Cs),k<=2/\j=2-k/\h'.next<=h3.next+305*k/\Vw zW h h' (2+305*k) [(h.next,oB2 cb)]/\Row cb 2 (wz (jg l k))/\Ow h' y zQY (yz l k).length (zCj (yz l k))/\(yz l k).length<=k/\Sep zW h.next [(h.next,oB2 cb)] y /\
  Has tm [(9,.int .i64 k),(8,.agg [zPr,zPq]),(0,v),(2,y),(3,.ptr h.next 0)]) 2
  ⟨0,.nilslice,_,by omega,by omega,by omega,w3,zOQ,⟨rfl,.inl ⟨rfl,rfl⟩⟩,oO _,(λb hb=>by cases hb),hs.sub (by kernel_rfl)⟩ ?_
 clear hs w3;rintro j tm h' ⟨k,y,cb,hk,rfl,hnx,w,rb,ow,hc,sp,hs⟩;have l':h'.low<=T.top:=by have:=w.low;omega
 have sv:=sl.ext w.ex0;refine wpC.at hs zWt rfl rfl ⟨λc=>?_,λc=>hs.on λtm' hs'=>?_⟩
 ·have hk2:k<2:=by omega
  have hpl:k<(jg l k).length:=by rw[XD];exact hk2
  have yes:∀(h2:H) (s:List UInt8),Ext h' h2 300->zBk l k=some s->∃v6 h7,zS zA 63 1 [(0,.str s)] h2=some (v6,h7)/\∃v8 h9,zo zA 63 h7 y v6=some (v8,h9)/\∃h12 cb',yA zA 4 h9 (.ptr h.next k) (.bool true)=some h12 /\
    h12.next<=h3.next+305*(k+1)/\Vw zW h h12 (2+305*(k+1)) [(h.next,oB2 cb')]/\Row cb' 2 (wz (jg l (k+1)))/\Ow h12 v8 zQY (yz l (k+1)).length (zCj (yz l (k+1)))/\(yz l (k+1)).length<=k+1/\Sep zW h.next [(h.next,oB2 cb')] v8:=by
   intro h2 s x2 hc2;have t2:=x2.top;have w2:=w.ext x2;have ow2:=ow.ext x2;obtain⟨v6,h7,e7,s7,x7⟩:=zKm (h:=h2) s (by omega);have t7:=x7.top;have w7:=w2.ext x7;obtain⟨v8,h9,e9,A⟩:=(ow2.ext x7).append (c:=zA) s7 (by decide) zOd rfl Y3 rfl rfl (by show((yz l k).length+1)*1<=_;omega) (by show((yz l k).length+1)*16<=_;omega) (by omega);obtain⟨w9,ow9,sp9⟩:=w7.grow sp A;have t9:=A.2.2.1;obtain⟨h12,cb',e12,rb',w12,n12,g12⟩:=w9.set2 (cx:=zA) 0 (j:=k) (u:=.bool true) rb rfl (by omega) hk2 ty4 rfl rfl rfl rfl;have ec:yz l (k+1)=yz l k++[s]:=by rw[qL,hc2];rfl
   refine⟨v6,h7,e7,v8,h9,e9,h12,cb',e12,by omega,w12.more (by omega),?_,?_,by rw[ec,oR,List.length_singleton];omega,λb hb=>⟨(sp9 b hb).1,λq hq=>?_⟩⟩
   ·have ep:jg l (k+1)=(jg l k).set k true:=by
     show(if (zBk l k).isSome=true then (jg l k).set k true else jg l k)=_;rw[hc2];rfl
    rw[ep];unfold wz;rw[List.map_set];exact rb'
   ·rw[ec,oR,List.length_singleton]
    have es:zCj (yz l k++[s])=zCj (yz l k)++[.str s]:=by unfold zCj;rw[List.map_append];rfl
    rw[es];exact ow9.keep (by omega) λb hb=>g12 b λq=>(sp9 b hb).2 (h.next,oB2 cb) (by simp) q.symm
   ·simp only[oY,List.not_mem_nil,or_false]at hq
    subst hq;exact(sp9 b hb).2 (h.next,oB2 cb) (by simp)
  have no:∀(h2:H),Ext h' h2 300->zBk l k=none->h2.next<=h3.next+305*(k+1)/\Vw zW h h2 (2+305*(k+1)) [(h.next,oB2 cb)]/\Row cb 2 (wz (jg l (k+1)))/\Ow h2 y zQY (yz l (k+1)).length (zCj (yz l (k+1)))/\(yz l (k+1)).length<=k+1:=by
   intro h2 x2 hc2;have t2:=x2.top;have ec:yz l (k+1)=yz l k:=by rw[qL,hc2];exact List.append_nil _
   have ep:jg l (k+1)=jg l k:=by
    show(if (zBk l k).isSome=true then (jg l k).set k true else jg l k)=_;rw[hc2];rfl
   rw[ec,ep];exact⟨by omega,(w.ext x2).more (by omega),rb,ow.ext x2,by omega⟩
  have hk01:k=0\/k=1:=by omega
  rcases hk01 with rfl|rfl
  ·refine⟨_,zYC,?_⟩
   show RF P zA 26 [v] h' _;refine zIw sv (by omega) (by omega) λh2 x2=>zIE (Kq l) (zHV (Kq l) (λs hs2=>?_) λhn2 v'=>?_)
   ·obtain⟨v6,h7,e7,v8,h9,e9,h12,cb',e12,q1,q2,q3,q4,q5,q6⟩:=yes h2 s x2 hs2
    refine⟨v6,h7,e7,trivial,v8,h9,e9,_,_,KF (by decide),h12,e12,hs.on λtm' hs'=>⟨rfl,rfl,1,by omega,1,v8,cb',by omega,rfl,q1,q2,q3,q4,q5,q6,?_⟩⟩
    exact hs'.sub (by kernel_rfl)
   ·obtain⟨q1,q2,q3,q4,q5⟩:=no h2 x2 hn2
    exact hs.on λtm' hs'=>⟨rfl,rfl,1,by omega,1,y,cb,by omega,rfl,q1,q2,q3,q4,q5,sp,hs'.sub (by kernel_rfl)⟩
  ·refine⟨_,zYD,?_⟩
   show RF P zA 54 [v] h' _;refine Zi sv hin hl (by omega) l' (zIE (zEL _) (zHV (zEL _) (λs hs2=>?_) λhn2 v'=>?_))
   ·obtain⟨v6,h7,e7,v8,h9,e9,h12,cb',e12,q1,q2,q3,q4,q5,q6⟩:=yes h' s ((Ext.refl h').mono (by omega)) hs2
    refine⟨v6,h7,e7,trivial,v8,h9,e9,_,_,KF (by decide),h12,e12,hs.on λtm' hs'=>⟨rfl,rfl,0,by omega,2,v8,cb',by omega,rfl,q1,q2,q3,q4,q5,q6,?_⟩⟩
    exact hs'.sub (by kernel_rfl)
   ·obtain⟨q1,q2,q3,q4,q5⟩:=no h' ((Ext.refl h').mono (by omega)) hn2
    exact hs.on λtm' hs'=>⟨rfl,rfl,0,by omega,2,y,cb,by omega,rfl,q1,q2,q3,q4,q5,sp,hs'.sub (by kernel_rfl)⟩
 ·have hk2:k=2:=by omega
  subst hk2;have i':=yb (h:=h') (by omega) l';obtain⟨b0,b1,hbb⟩:∃b0 b1,jg l 2=[b0,b1]:=by
   have:=XD l 2
   match jg l 2,this with
   | [b0,b1],_=>exact⟨b0,b1,rfl⟩
  have hp:h.next<T.top:=by omega
  have hr:cb.range 0 2=some [.bool b0,.bool b1]:=by
   have:=rb.2.2.2;rw[hbb]at this;exact Cs.range_is (by decide) rfl λi hi=>by rw[Nat.zero_add];exact this i hi
  obtain⟨cb',p1,p2⟩:=Cs.put_some (cs:=cb) rb.1 (o:=0) (vs:=[.bool b0,.bool b1]) (by rw[rb.2.1];exact oO 2);obtain⟨h5,e5,w5,n5,g5⟩:=w.st (cx:=zA) 0 (t:=64) (f:=0) (u:=.agg [.bool b0,.bool b1]) (cs':=cb') rfl (by omega) zKA rfl (oJ _) rfl p1;obtain⟨_,p3,p4⟩:=Cs.put_eq p1;refine thenC.left (wpS.at hs' zXJ rfl rfl ⟨⟨by omega,l'⟩,b0,b1,w.ldA 0 rfl zKA rfl hr,h5,e5,hs'.on λtm2 hs2=>?_⟩);have hr5:cb'.range 0 2=some [.bool b0,.bool b1]:=Cs.range_is (by decide) rfl λi hi=>by
   rw[Nat.zero_add,p4,if_pos ⟨oJ _,by rw[Nat.zero_add];exact hi⟩,Nat.sub_zero]
  refine endW.ok (leave.tmp (hs2.get (t:=2) rfl) (leave.cell (hs2.get (t:=3) rfl) (w5.ldA 0 rfl zKA rfl hr5) rfl)) ?_;have:=hq h5 y (w5.ex0.mono (by omega)) (ow.keep (by omega) λb hb=>g5 b λq=>(sp b hb).2 (h.next,oB2 cb) (by simp) q.symm)
  rw[hbb]at this;exact this
def qx (ls:List (List UInt8)):Nat->List UInt8
 | 0=>[]
 | k+1=>if k=0 then ls[k]?.getD [] else if (ls[k]?.getD []).length<(qx ls k).length then ls[k]?.getD [] else qx ls k
theorem zIY {s:List UInt8}{h:H}{Q:V->H->Prop}(hq:Q (.int .i64 (s.length:Nat)) h):RF P zA 50 [.str s] h Q :=
 RF.enterS zG z4f (ble _ _ rfl) (ble _ _ rfl) z52 hq
theorem zM3 {v:V}{ls:List (List UInt8)}{h:H}{Q:V->H->Prop}(sl:Sl h v 1 ls.length (zCj ls)) (hl:ls.length<=1000) (hq:Q (.tuple [.str (qx ls ls.length),.bool (decide (0<ls.length))]) h):RF P zA 49 [v,.func (.func 50) [] []] h Q:=by
 refine RF.enterS zG z4e (ble _ _ rfl) (ble _ _ rfl) z50 ⟨_,sl.len zOd rfl,Has.nil.on λtm hs=>?_⟩
 refine wpC.round (λj tm h'=>∃k:Nat,k<=ls.length/\j=ls.length-k/\h'=h/\Has tm [(11,.int .i64 k),(10,.int .i64 ls.length),(9,v),(1,.func (.func 50) [] []),(6,.str (qx ls k)),(0,v)]) ls.length ⟨0,by omega,by omega,rfl,hs.sub (by kernel_rfl)⟩ ?_
 clear hs;rintro j tm h' ⟨k,hk,rfl,rfl,hs⟩;refine wpC.at hs zWu rfl rfl ⟨λc=>?_,λc=>hs.on λtm' hs'=>?_⟩
 ·have hkl:k<ls.length:=by omega
  have hg:ls[k]? = some ls[k]:=oM hkl;obtain⟨b,o,a1,a2⟩:=sl.at1 (u:=.str ls[k]) hkl zOd rfl Y3 rfl rfl (by unfold zCj;rw[oU,hg];rfl);have eg:qx ls (k+1)=if k=0 then ls[k] else if ls[k].length<(qx ls k).length then ls[k] else qx ls k:=by
   show(if k=0 then ls[k]?.getD [] else if (ls[k]?.getD []).length<(qx ls k).length then ls[k]?.getD [] else qx ls k)=_;rw[hg];rfl
  refine⟨b,o,a1,ls[k],a2,λc2=>?_,λc2=>?_⟩
  ·rw[if_pos (by omega)]at eg
   refine hs.on λtm' hs'=>⟨rfl,rfl,ls.length-(k+1),by omega,k+1,by omega,rfl,rfl,?_⟩
   rw[eg,<-zf (by omega)];exact hs'.sub (by kernel_rfl)
  ·rw[if_neg (by omega)]at eg
   show RF P zA 50 [.str ls[k]] h' _;refine zIY (zON ?_);show RF P zA 50 [.str (qx ls k)] h' _;refine zIY (zON (zPa (λc3=>?_) λc3=>?_))
   ·rw[if_pos (by omega)]at eg
    refine hs.on λtm' hs'=>⟨rfl,rfl,ls.length-(k+1),by omega,k+1,by omega,rfl,rfl,?_⟩
    rw[eg,<-zf (by omega)];exact hs'.sub (by kernel_rfl)
   ·rw[if_neg (by omega)]at eg
    refine hs.on λtm' hs'=>⟨rfl,rfl,ls.length-(k+1),by omega,k+1,by omega,rfl,rfl,?_⟩
    rw[eg,<-zf (by omega)];exact hs'.sub (by kernel_rfl)
 ·have hk:k=ls.length:=by omega
  subst hk;refine thenC.left (wpS.at hs' zXK rfl rfl ⟨_,sl.len zOd rfl,λc=>?_,λc=>?_⟩)
  ·rw[decide_eq_true (by omega)]at hq
   exact hs'.on λtm2 hs2=>endW.r2 (hs2.get rfl) (hs2.get rfl) hq
  ·rw[decide_eq_false (by omega)]at hq
   exact hs'.on λtm2 hs2=>endW.r2 (hs2.get rfl) (hs2.get rfl) hq
theorem KO {l:List Int}(h:Kl l=0):jJ (YM l)=true/\1<=(YM l).length/\(YM l).length<=255:=by
 obtain⟨l1,l2,hin⟩:=zFo h;refine⟨?_,by rw[Z1];omega,by rw[Z1];omega⟩;have hm:=OD hin;unfold jJ;rw[List.all_eq_true];intro x hx;have hx2:x∈Ot (qG l) l:=(List.dropLast_sublist _).subset hx;unfold Ot at hx2;obtain⟨y,hy,rfl⟩:=List.mem_map.1 hx2;have hr:=wC hin hy;have hg:y<=(qG l:Int):=by
  rw[<-Yq];exact(qN (l:=l) (a:=0)).2 y hy
 rw[oG,decide_eq_true_eq,decide_eq_true_eq];split<;>omega
def jo (w:List Int):V:=if 0<(yz w 2).length then .tuple [.str (qx (yz w 2) (yz w 2).length),.int .i64 0] else .tuple [.str [],.int .i64 7]
def Y1 (l:List Int):V:=if Kl l=0 then jo (YM l) else .tuple [.str [],.int .i64 (Kl l)]
theorem zFq (w:List Int):Plain (jo w):=by unfold jo;split<;>exact ze (by kernel_rfl)
theorem zAI (l:List Int):Plain (Y1 l):=by
 unfold Y1;split
 ·exact zFq _
 ·exact ze (by kernel_rfl)
theorem XW {v:V}{l:List Int}{h:H}{Q:V->H->Prop}(sl:Sl h v 1 l.length (zM l)) (hl:l.length<4611686018427387904) (hn:h.next+3000<=T.top) (hlow:h.low<=T.top) (hq:Q (Y1 l) h):RF P zA 16 [v] h Q:=by
 refine RF.forget (n:=700) (v:=Y1 l) ?_ (zAI l) hq;refine RF.enterS zG z40 (ble _ _ rfl) (ble _ _ rfl) z5N (zBB sl hl (by omega) hlow λh1 v1 x1 hv=>⟨_,_,rfl,λc=>?_,λc=>?_⟩)
 ·exact⟨by unfold Y1;rw[if_neg c],x1.mono (by omega)⟩
 ·have c0:Kl l=0:=by omega
  obtain⟨_,s1⟩:=hv c0;rw[if_pos c0];obtain⟨i1,i2,i3⟩:=KO c0;have t1:=x1.top;have l1:=x1.low;refine zCF s1 i1 i3 (by omega) (by omega) λh5 v5 x5 ow5=>?_
  have t5:=x5.top;obtain⟨b0,b1,hbb⟩:∃b0 b1,jg (YM l) 2=[b0,b1]:=by
   have:=XD (YM l) 2
   match jg (YM l) 2,this with
   | [b0,b1],_=>exact⟨b0,b1,rfl⟩
  rw[hbb];refine⟨_,b0,b1,rfl,by omega,?_⟩;rintro p9 h10 rfl e10;have n10:h10.next=h5.next+1:=by rw[e10,zI]
  have w10:=(Vw.nil (S:=zW) (h:=h5)).new (o:=oB2 (.ls [.bool false,.bool false])) e10 (by omega);obtain⟨h11,e11,w11,n11,_⟩:=w10.st (cx:=zA) 0 (t:=64) (f:=0) (u:=.agg [.bool b0,.bool b1]) rfl (by omega) zKA rfl (oJ _) rfl rfl;have x11:=w11.ex0;have hc:(yz (YM l) 2).length<=2:=by
   unfold yz;exact oP (List.length_filterMap_le _ _) (by rw[List.length_range];exact oO _)
  have hx:Ext h h11 700:=((x1.trans x5).trans x11).mono (by omega);have ew:Y1 l=jo (YM l):=by unfold Y1;rw[if_pos c0]
  refine⟨h11,e11,zM3 (ow5.ext x11).sl (by omega) ⟨_,_,rfl,λc2=>?_,λc2=>?_⟩⟩
  ·have:=of_decide_eq_true c2
   exact⟨by rw[ew];unfold jo;rw[if_pos this],hx⟩
  ·have:=of_decide_eq_false c2
   exact⟨by rw[ew];unfold jo;rw[if_neg this],hx⟩
theorem zHw (l:List Int):jg l 2=[(kC l).isSome,(xC l).isSome]:=by
 show(if (zBk l 1).isSome=true then (jg l 1).set 1 true else jg l 1)=_;have e1:jg l 1=[(kC l).isSome,false]:=by
  show(if (zBk l 0).isSome=true then [false,false].set 0 true else [false,false])=_;show(if (kC l).isSome=true then [false,false].set 0 true else [false,false])=_;cases (kC l).isSome<;>rfl
 rw[e1];show(if (xC l).isSome=true then [(kC l).isSome,false].set 1 true else [(kC l).isSome,false])=_;cases (xC l).isSome<;>rfl
theorem zGp {l:List Int}(h:ZK l=0):jJ l=true/\1<=l.length/\l.length<=255:=by
 unfold ZK at h;by_cases c:l.length<1\/255<l.length
 ·rw[if_pos c]at h;cases h
 ·rw[if_neg c]at h
  by_cases d:jJ l=true
  ·exact⟨d,by omega,by omega⟩
  ·rw[if_neg d]at h;cases h
def Jv (l:List Int):V:=if ZK l=0 then zJ0 (xC l) else .tuple [.str [],.int .i64 (ZK l)]
theorem zGB (l:List Int):Plain (Jv l):=by
 unfold Jv;split
 ·exact OI _
 ·exact ze (by kernel_rfl)
theorem zHB {v:V}{l:List Int}{h:H}{Q:V->H->Prop}(sl:Sl h v 1 l.length (zM l)) (hl:l.length<4611686018427387904) (hn:h.next+4000<=T.top) (hlow:h.low<=T.top) (hq:Q (Jv l) h):RF P zA 18 [v] h Q:=by
 refine RF.forget (n:=700) (v:=Jv l) ?_ (zGB l) hq;refine RF.enterS zG z42 (ble _ _ rfl) (ble _ _ rfl) z5P (zE7 sl hl ⟨_,rfl,λc=>⟨by unfold Jv;rw[if_neg c],(Ext.refl h).mono (by omega)⟩,λc=>?_⟩)
 have c0:ZK l=0:=by omega
 obtain⟨i1,i2,i3⟩:=zGp c0;have ef:Jv l=zJ0 (xC l):=by unfold Jv;rw[if_pos c0]
 refine zCF sl i1 i3 (by omega) hlow λh4 v4 x4 ow4=>?_
 have t4:=x4.top;have l4:=x4.low;rw[zHw];refine⟨_,_,_,rfl,by omega,?_⟩;rintro p8 h9 rfl e9;have n9:h9.next=h4.next+1:=by rw[e9,zI]
 have w9:=(Vw.nil (S:=zW) (h:=h4)).new (o:=oB2 (.ls [.bool false,.bool false])) e9 (by omega);obtain⟨h10,e10,w10,n10,_⟩:=w9.st (cx:=zA) 0 (t:=64) (f:=0) (u:=.agg [.bool (kC l).isSome,.bool (xC l).isSome]) rfl (by omega) zKA rfl (oJ _) rfl rfl;have x10:=w10.ex0;have l10:=w10.low;have hx:Ext h h10 700:=(x4.trans x10).mono (by omega);refine⟨h10,e10,_,_,Ya,_,w10.ld1 0 rfl ty4 rfl rfl,λc2=>?_,λc2=>?_⟩
 ·refine Zi (sl.ext hx) i1 i3 (by omega) (by omega) ?_
  have ef2:=ef;cases hc:xC l with
  | some s=>rw[hc]at ef2;exact⟨s,0,rfl,ef2.symm,hx⟩
  | none=>rw[hc]at ef2;exact⟨[],7,rfl,ef2.symm,hx⟩
 ·cases hc:xC l with
  | some s=>rw[hc]at c2;cases c2
  | none=>rw[hc]at ef;exact⟨ef.symm,hx⟩
theorem X2 (l:List Int):∃(s:List UInt8) (e:Int),Y1 l = .tuple [.str s,.int .i64 e]:=by
 unfold Y1 jo;split
 ·split
  ·exact⟨_,_,rfl⟩
  ·exact⟨_,_,rfl⟩
 ·exact⟨_,_,rfl⟩
def zJo (l:List Int):V:=match Y1 l with | .tuple [.str s,e]=>.tuple [.int .i64 (s.length:Nat),e]|v=>v
theorem zEn {v:V}{l:List Int}{h:H}{Q:V->H->Prop}(sl:Sl h v 1 l.length (zM l)) (hl:l.length<4611686018427387904) (hn:h.next+3000<=T.top) (hlow:h.low<=T.top) (hq:Q (zJo l) h):RF P zA 20 [v] h Q:=by
 refine RF.enterS zG z44 (ble _ _ rfl) (ble _ _ rfl) z5R (XW sl hl hn hlow ?_);obtain⟨s,e,hw⟩:=X2 l;unfold zJo at hq;rw[hw]at hq ⊢;exact⟨s,e,rfl,hq⟩
def XC (l:List Int):V:=if Kl l=0 then .tuple [.bool (kC (YM l)).isSome,.bool (xC (YM l)).isSome,.int .i64 0] else .tuple [.bool false,.bool false,.int .i64 (Kl l)]
theorem OM (l:List Int):Plain (XC l):=by unfold XC;split<;>exact ze (by kernel_rfl)
theorem Jz {v:V}{l:List Int}{h:H}{Q:V->H->Prop}(sl:Sl h v 1 l.length (zM l)) (hl:l.length<4611686018427387904) (hn:h.next+3000<=T.top) (hlow:h.low<=T.top) (hq:Q (XC l) h):RF P zA 22 [v] h Q:=by
 refine RF.forget (n:=700) (v:=XC l) ?_ (OM l) hq;refine RF.enterS zG z47 (ble _ _ rfl) (ble _ _ rfl) z5T (zBB sl hl (by omega) hlow λh1 v1 x1 hv=>⟨_,_,rfl,λc=>?_,λc=>?_⟩)
 ·exact⟨by unfold XC;rw[if_neg c],x1.mono (by omega)⟩
 ·have c0:Kl l=0:=by omega
  obtain⟨_,s1⟩:=hv c0;rw[if_pos c0];obtain⟨i1,i2,i3⟩:=KO c0;have t1:=x1.top;have l1:=x1.low;have ep:XC l = .tuple [.bool (kC (YM l)).isSome,.bool (xC (YM l)).isSome,.int .i64 0]:=by unfold XC;rw[if_pos c0]
  refine zCF s1 i1 i3 (by omega) (by omega) λh5 v5 x5 ow5=>?_
  have t5:=x5.top;have l5:=x5.low;rw[zHw];refine⟨_,_,_,rfl,by omega,?_⟩;rintro p9 h10 rfl e10;have n10:h10.next=h5.next+1:=by rw[e10,zI]
  have w10:=(Vw.nil (S:=zW) (h:=h5)).new (o:=oB2 (.ls [.bool false,.bool false])) e10 (by omega);obtain⟨h11,e11,w11,n11,_⟩:=w10.st (cx:=zA) 0 (t:=64) (f:=0) (u:=.agg [.bool (kC (YM l)).isSome,.bool (xC (YM l)).isSome]) rfl (by omega) zKA rfl (oJ _) rfl rfl;have l11:=w11.low;have hx:Ext h h11 700:=((x1.trans x5).trans w11.ex0).mono (by omega);refine⟨h11,e11,⟨by omega,by omega⟩,_,_,zDI,_,w11.ld1 0 rfl ty4 rfl rfl,λc2=>⟨_,_,Ya,_,w11.ld1 0 rfl ty4 rfl rfl,λc3=>?_,λc3=>?_⟩,λc2=>⟨_,_,Ya,_,w11.ld1 0 rfl ty4 rfl rfl,λc3=>?_,λc3=>?_⟩⟩
  all_goals
   rw[c2,c3]at ep;exact⟨ep.symm,hx⟩
theorem zEZ {v:V}{l:List Int}{h:H}{Q:V->H->Prop}(sl:Sl h v 1 l.length (zM l)) (hl:l.length<4611686018427387904) (hn:h.next+400<=T.top) (hlow:h.low<=T.top) (hq:∀h',Ext h h' 300->Q (zD6 l) h'):RF P zA 52 [v] h Q:=by
 have hq0:=hq h ((Ext.refl h).mono (by omega));unfold zD6 at hq hq0;have bad:∀(e:Int) (tm:Tm),e≠0->Q (.tuple [.str [],.int .i64 e]) h->Has tm [(0,v),(4,.int .i64 e)]->W52 false zEY ⟨61,tm,[],h⟩ (endW zA ⟨61,[.tmp 2,.tmp 3],b52⟩ Q):=λe tm he hqe hs =>
  wpS.at hs zOh rfl rfl ⟨λ_=>hs.on λtm2 hs2=>endW.r2 (hs2.get rfl) (hs2.get rfl) hqe,λc=>absurd he c⟩
 refine RF.enterS zG z4h (ble _ _ rfl) (ble _ _ rfl) z55 (zIA sl hl ⟨_,rfl,λc=>⟨_,sl.len zQ rfl,λc2=>Has.nil.on λtm hs=>?_,λc2=>Has.nil.on λtm hs=>?_⟩,λc=>Has.nil.on λtm hs=>?_⟩)
 ·rw[if_neg (by omega),if_pos (by omega)]at hq0
  exact bad 4 tm (by decide) hq0 (hs.sub (by kernel_rfl))
 ·have hin:=(zGp c).1
  simp only[if_neg (show ¬ZK l≠0 by omega),if_neg (show ¬128<l.length by omega)]at hq;clear hq0 bad;have hl128:l.length<=128:=by omega
  have e0:zN .u8 (zL (((l.length:Nat):Int)+127))=((l.length+127:Nat):Int):=by
   rw[zH (by omega) (by omega),show((l.length:Nat):Int)+127=((l.length+127:Nat):Int)by omega,yf,oZ (by omega)]
  obtain⟨h6,e6,s6,x6⟩:=wh (h:=h) ((l.length+127:Nat):Int) (by omega);rw[c]at hs;refine wpS.at (hs.sub (l':=[(0,v),(4,.int .i64 0)]) (by kernel_rfl)) zOh rfl rfl ⟨λq=>absurd rfl q,λ_=>⟨_,sl.len zQ rfl,_,h6,by rw[e0];exact e6,(hs.sub (l':=[(0,v),(4,.int .i64 0)]) (by kernel_rfl)).on λtm2 hs2=>?_⟩⟩
  refine wpC.round (λk tm h'=>∃(i:Nat) (v5:V),i<=l.length/\k=l.length-i/\DrI h h' l i v5/\Has tm [(6,.int .i64 i),(0,v),(5,v5)]) l.length ⟨0,_,by omega,by omega,⟨Vw.nil.ext x6 |>.more (by omega),.inr ⟨_,rfl,by simp,by rw[<-jb (by omega)]at s6;exact s6⟩,λg=>by omega,λb hb=>by cases hb;exact⟨.inr (oO _),λq hq=>by cases hq⟩⟩,hs2.sub (by kernel_rfl)⟩ ?_
  clear hs hs2 s6 x6 e6 h6;rintro k tm h' ⟨i,v5,hi1,rfl,d,hs⟩;have tw:=d.vw.top;have lw:=d.vw.low;refine wpC.at hs zWv rfl rfl ⟨_,(sl.ext d.vw.ex0).len zQ rfl,λc=>?_,λc=>hs.on λtm' hs'=>?_⟩
  ·have hi:i<l.length:=by omega
   obtain⟨b,o,a1,a2⟩:=zg (sl.ext d.vw.ex0) hi;have hr:=wC hin (oQ hi);have en:l[i]=((l[i].toNat:Nat):Int):=by omega
   have ew:zN .u8 l[i]=((l[i].toNat:Nat):Int):=by
    rw[en,yf,oZ (by omega)];simp
   refine⟨by decide,λc4=>?_,λc4=>?_⟩
   ·obtain⟨v4,h5,e5,_,v6,h7,e7,d7⟩:=d.even hi (by omega) (by rw[<-Int.natCast_inj];exact c4) hin hn
    refine⟨b,o,a1,_,a2,_,by rw[en];exact zb (a:=l[i].toNat) (n:=4) (by omega) (by omega),v4,h5,by rw[yf,oZ (by omega)];exact e5,trivial,v6,h7,e7,hs.on λtm' hs'=>⟨rfl,rfl,l.length-(i+1),by omega,i+1,v6,by omega,rfl,d7,?_⟩⟩
    rw[<-zf (by omega)];exact hs'.sub (by kernel_rfl)
   ·obtain⟨x,b2,j,x1,x2,e1,hj,e2,e3,h8,e4,d8⟩:=d.odd hi (by
     have:¬i % 2=0:=λg=>c4 (by show((i % 2:Nat):Int)=0;omega)
     omega) hin (by omega)
    have ej:zL (((j+1:Nat):Int)-1)=((j:Nat):Int):=by rw[zH (by omega) (by omega)];omega
    have eo:zN .u8 (((16*x.toNat:Nat):Int)+zN .u8 l[i])=((16*x.toNat+l[i].toNat:Nat):Int):=by
     rw[ew,show((16*x.toNat:Nat):Int)+((l[i].toNat:Nat):Int)=((16*x.toNat+l[i].toNat:Nat):Int)by omega,yf,oZ (by omega)]
    refine⟨⟨by omega,by omega⟩,_,e1,_,e1,b2,j,by rw[ej];exact e2,_,e3,b,o,a1,_,a2,b2,j,by rw[ej];exact e2,h8,by rw[eo];exact e4,hs.on λtm' hs'=>⟨rfl,rfl,l.length-(i+1),by omega,i+1,v5,by omega,rfl,d8,?_⟩⟩
    rw[<-zf (by omega)];exact hs'.sub (by kernel_rfl)
  ·have hi:i=l.length:=by omega
   subst hi;have gs:=d.gr.sl;rw[List.take_length]at gs;refine thenC.left (wpS.at hs' zXL rfl rfl (wk (l:=zPm l) gs (Nat.succ_pos _) (hs'.on λtm2 hs2=>hs2.slt λtm3 hs3=>?_)));exact endW.r2 (hs3.get rfl) (hs3.get rfl) (hq h' (d.vw.ex0.mono (by omega)))
 ·rw[if_pos c]at hq0
  exact bad _ tm c hq0 (hs.sub (by kernel_rfl))
theorem YT {v:V}{l:List Int}{h:H}{Q:V->H->Prop}(sl:Sl h v 1 l.length (zM l)) (g:GC l) (hq:Q (.int .i64 0) h):RF P zA 158 [v] h Q:=by
 have hl:=g.len;refine RF.enterS zG zY4 (ble _ _ rfl) (ble _ _ rfl) z0h ⟨_,sl.len zQ rfl,λc=>by omega,λ_=>Has.nil.on λtm hs=>?_⟩
 refine wpC.round (λk tm h'=>∃i:Nat,i<=l.length/\k=l.length-i/\h'=h/\Has tm [(4,.int .i64 i),(0,v),(3,.int .i64 (zu (l.take i):Nat))]) l.length ⟨0,by omega,by omega,rfl,hs.sub (by kernel_rfl)⟩ ?_
 clear hs;rintro k tm h' ⟨i,h1,rfl,rfl,hs⟩;refine wpC.at hs zQl rfl rfl ⟨_,sl.len zQ rfl,λc=>?_,λc=>hs.on λtm' hs'=>?_⟩
 ·have hi:i<l.length:=by omega
  obtain⟨b,o,e1,e2⟩:=zg sl hi;have hr:=g.at hi;have hb:=g.sum i;have ht:=yH hi;generalize l[i]=x at e2 hr ht;have ew:zL (((zu (l.take i):Nat):Int)+x)=((zu (l.take (i+1)):Nat):Int):=by
   rw[zH (by omega) (by omega),ht,Xx];omega
  refine⟨b,o,e1,x,e2,λc2=>by omega,λc2=>⟨b,o,e1,x,e2,λc3=>by omega,λc3=>hs.on λtm' hs'=>?_⟩⟩
  refine wpS.at hs' zRp rfl rfl ⟨b,o,e1,x,e2,hs'.on λtm2 hs2=>?_⟩
  refine thenC.nx (wpS.at hs2 zRq rfl rfl (hs2.on λtm3 hs3=>hs3.slt λtm4 hs4=>⟨rfl,rfl,l.length-(i+1),by omega,i+1,by omega,rfl,rfl,?_⟩))
  rw[<-zf (by omega),<-ew];exact hs4.sub (by kernel_rfl)
 ·have hi:i=l.length:=by omega
  subst hi;have hb:=g.sum l.length;rw[List.take_length]at hs' hb;refine thenC.left (wpS.at hs' zRr rfl rfl ⟨λc=>by omega,λ_=>hs'.on λtm2 hs2=>?_⟩);exact endW.r1 (hs2.get rfl) hq
theorem zJh {v:V}{l:List Int}{h:H}{Q:V->H->Prop}(sl:Sl h v 1 l.length (zM l)) (g:GC l) (hq:Q (.tuple [.int .i64 (zu l:Nat),.int .i64 0]) h):RF P zA 281 [v] h Q:=by
 have hl:=g.len;refine RF.enterS zG zZ5 (ble _ _ rfl) (ble _ _ rfl) z1h (YT sl g ⟨_,rfl,λc=>absurd rfl c,λ_=>Has.nil.on λtm hs=>?_⟩);refine wpC.round (λk tm h'=>∃i:Nat,i<=l.length/\k=l.length-i/\h'=h/\Has tm [(6,.int .i64 i),(0,v),(5,.int .i64 (zu (l.take i):Nat))]) l.length ⟨0,by omega,by omega,rfl,hs.sub (by kernel_rfl)⟩ ?_
 clear hs;rintro k tm h' ⟨i,h1,rfl,rfl,hs⟩;refine wpC.at hs zRR rfl rfl ⟨_,sl.len zQ rfl,λc=>?_,λc=>hs.on λtm' hs'=>?_⟩
 ·have hi:i<l.length:=by omega
  obtain⟨b,o,e1,e2⟩:=zg sl hi;have hr:=g.at hi;have hb:=g.sum i;have ht:=yH hi;generalize l[i]=x at e2 hr ht;have ew:zL (((zu (l.take i):Nat):Int)+x)=((zu (l.take (i+1)):Nat):Int):=by
   rw[zH (by omega) (by omega),ht,Xx];omega
  refine⟨b,o,e1,x,e2,hs.on λtm4 hs4=>⟨rfl,rfl,l.length-(i+1),by omega,i+1,by omega,rfl,rfl,?_⟩⟩
  rw[<-zf (by omega),<-ew];exact hs4.sub (by kernel_rfl)
 ·have hi:i=l.length:=by omega
  subst hi;rw[List.take_length]at hs';refine thenC.left (wpS.at hs' zSw rfl rfl (hs'.on λtm2 hs2=>?_));exact endW.r2 (hs2.get rfl) (hs2.get rfl) hq
theorem XK {v:V}{l:List Int}{h:H}{Q:V->H->Prop}(sl:Sl h v 1 l.length (zM l)) (g:GC l) (hq:Q (.tuple [.int .i64 (xM l:Nat),.int .i64 0]) h):RF P zA 96 [v] h Q:=by
 have hl:=g.len;refine RF.enterS zG z4s (ble _ _ rfl) (ble _ _ rfl) z5g (YT sl g ⟨_,rfl,λc=>absurd rfl c,λ_=>Has.nil.on λtm hs=>?_⟩);refine wpC.round (λk tm h'=>∃i:Nat,i<=l.length/\k=l.length-i/\h'=h/\Has tm [(6,.int .i64 i),(0,v),(5,.int .i64 (xM (l.take i):Nat))]) l.length ⟨0,by omega,by omega,rfl,hs.sub (by kernel_rfl)⟩ ?_
 clear hs;rintro k tm h' ⟨i,h1,rfl,rfl,hs⟩;refine wpC.at hs zXC rfl rfl ⟨_,sl.len zQ rfl,λc=>?_,λc=>hs.on λtm' hs'=>?_⟩
 ·have hi:i<l.length:=by omega
  obtain⟨b,o,e1,e2⟩:=zg sl hi;have hr:=g.at hi;have ht:=yH hi;have hc:=qm (l.take i);rw[List.length_take]at hc;generalize l[i]=x at e2 hr ht;have hs1:=qn (l.take i) x;rw[<-ht]at hs1;refine⟨b,o,e1,x,e2,λc2=>hs.on λtm4 hs4=>⟨rfl,rfl,l.length-(i+1),by omega,i+1,by omega,rfl,rfl,?_⟩,λc2=>hs.on λtm4 hs4=>⟨rfl,rfl,l.length-(i+1),by omega,i+1,by omega,rfl,rfl,?_⟩⟩
  ·rw[if_pos (by omega)]at hs1
   rw[hs1,<-zf (i:=i) (by omega),<-zf (i:=xM (l.take i)) (by omega)];exact hs4.sub (by kernel_rfl)
  ·rw[if_neg (by omega),Nat.add_zero]at hs1
   rw[hs1,<-zf (i:=i) (by omega)];exact hs4.sub (by kernel_rfl)
 ·have hi:i=l.length:=by omega
  subst hi;rw[List.take_length]at hs';refine thenC.left (wpS.at hs' zX1 rfl rfl (hs'.on λtm2 hs2=>?_));exact endW.r2 (hs2.get rfl) (hs2.get rfl) hq
theorem zE0 {v:V}{l:List Int}{m:Nat}{h:H}{Q:V->H->Prop}(sl:Sl h v 1 l.length (zM l)) (g:GC l) (lp:LP l m) (hq:Q (.tuple [.int .i64 ((m:Int)-1),.int .i64 0]) h):RF P zA 221 [v] h Q:=by
 have hl:=g.len;have hm:=lp.le;have hm1:=lp.pos;refine RF.enterS zG zYt (ble _ _ rfl) (ble _ _ rfl) z1G (YT sl g ⟨_,rfl,λc=>absurd rfl c,λ_=>⟨_,sl.len zQ rfl,Has.nil.on λtm hs=>?_⟩⟩);refine wpC.round (λk tm h'=>∃i:Nat,m<=i/\i<=l.length/\k=i/\h'=h/\Has tm [(5,.int .i64 ((i:Int)-1)),(0,v)]) l.length ⟨l.length,hm,oO _,rfl,rfl,?_⟩ ?_
 ·have:zL ((l.length:Int)-1)=(l.length:Int)-1:=zH (by omega) (by omega)
  rw[<-this];exact hs.sub (by kernel_rfl)
 clear hs;rintro k tm h' ⟨i,h1,h2,rfl,rfl,hs⟩;obtain⟨j,rfl⟩:∃j,k=j+1:=⟨k-1,by omega⟩;have e1:((j+1:Nat):Int)-1=((j:Nat):Int):=by omega
 rw[e1]at hs;refine wpC.at hs zQz rfl rfl ⟨λc=>?_,λc=>by omega⟩
 obtain⟨b,o,a1,a2⟩:=zg sl (i:=j) (by omega);have hg:l[j]?.getD 0=l[j]:=yY (by omega);refine⟨b,o,a1,_,a2,λc2=>hs.on λtm2 hs2=>?_,λc2=>hs.on λtm2 hs2=>?_⟩
 ·have hj:j+1=m:=by
   rcases Nat.lt_or_ge j m with q|q
   ·omega
   ·exact absurd (by rw[hg];exact c2) (lp.hi j q)
  show endW zA ⟨24,[.tmp 2,.tmp 3],zDS⟩ Q .ret ⟨24,tm2,[],h'⟩;refine endW.r2 (hs2.get rfl) (hs2.get rfl) ?_;rw[show((j:Nat):Int)=(m:Int)-1 by omega];exact hq
 ·have hj:j+1≠m:=λq=>by
   have:=lp.at';rw[<-q,Nat.add_sub_cancel,hg]at this;exact c2 this
  refine⟨rfl,rfl,j,by omega,j,by omega,by omega,rfl,rfl,?_⟩;have e3:zL (((j:Nat):Int)-1)=((j:Nat):Int)-1:=zH (by omega) (by omega);rw[<-e3];exact hs2.sub (by kernel_rfl)
theorem zC8 {v:V}{l:List Int}{m:Nat}{h:H}{Q:V->H->Prop}(sl:Sl h v 1 l.length (zM l)) (g:GC l) (lp:LP l m) (hn:h.next<=T.top) (hlow:h.low<=T.top) (hq:∀x,Q (.tuple [.int .i64 (zx l l.length:Nat),.int .i64 x,.int .i64 0]) h):RF P zA 224 [v] h Q:=by
 have hl:=g.len;have hm:=lp.le;have hm1:=lp.pos;refine RF.enterS zG zYw (ble _ _ rfl) (ble _ _ rfl) z1J (zE0 sl g lp ⟨_,_,rfl,λc=>absurd rfl c,λ_=>Has.nil.on λtm hs=>?_⟩);refine wpC.round (λk tm h'=>∃i:Nat,1<=i/\i<=l.length/\k=l.length-i/\h'=h/\Has tm [(8,.int .i64 i),(0,v),(7,.int .i64 (zx l i:Nat))]) (l.length-1) ⟨1,oO _,by omega,rfl,rfl,?_⟩ ?_
 ·have:zx l 1=0:=Nat.le_zero.1 (Yo l 0)
  rw[this];exact hs.sub (by kernel_rfl)
 clear hs;rintro k tm h' ⟨i,h1,h2,rfl,rfl,hs⟩;have hgl:zx l i<l.length:=by
  have:=Yo l (i-1);rw[show i-1+1=i by omega]at this;omega
 refine wpC.at hs zRC rfl rfl ⟨_,sl.len zQ rfl,λc=>?_,λc=>hs.on λtm' hs'=>?_⟩
 ·have hi:i<l.length:=by omega
  obtain⟨b,o,e1,e2⟩:=zg sl hi;obtain⟨b',o',f1,f2⟩:=zg sl hgl;have hs1:=Xv hi hgl;refine⟨⟨hn,hlow⟩,b,o,e1,_,e2,b',o',f1,_,f2,λc2=>hs.on λtm4 hs4=>⟨rfl,rfl,l.length-(i+1),by omega,i+1,by omega,by omega,rfl,rfl,?_⟩,λc2=>hs.on λtm4 hs4=>⟨rfl,rfl,l.length-(i+1),by omega,i+1,by omega,by omega,rfl,rfl,?_⟩⟩
  ·rw[if_pos c2]at hs1
   rw[hs1,<-zf (by omega)];exact hs4.sub (by kernel_rfl)
  ·rw[if_neg c2]at hs1
   rw[hs1,<-zf (by omega)];exact hs4.sub (by kernel_rfl)
 ·have hi:i=l.length:=by omega
  subst hi;obtain⟨b',o',f1,f2⟩:=zg sl hgl;refine thenC.left (wpS.at hs' zS0 rfl rfl ⟨⟨hn,hlow⟩,b',o',f1,_,f2,hs'.on λtm2 hs2=>?_⟩);exact endW.r3 (hs2.get rfl) (hs2.get rfl) (hs2.get rfl) (hq _)
theorem zE1 {v:V}{l:List Int}{h:H}{Q:V->H->Prop}(sl:Sl h v 1 l.length (zM l)) (hin:jJ l=true) (hl:l.length<=255) (hn:h.next+1<=T.top)
  (hq:∀h',Ext h h' 1->Sl h' (.slice h.next 0 12 (.exact 12)) 1 12 (zM (yi l))->Q (.tuple [.slice h.next 0 12 (.exact 12),.int .i64 0]) h'):RF P zA 95 [v,.int .i64 11] h Q:=by
 refine RF.enterS zG z4r (ble _ _ rfl) (ble _ _ rfl) z5f ⟨λc=>absurd c (by decide),λ_=>⟨λc=>absurd c (by decide),λ_=>Has.nil.on λtm hs=>?_⟩⟩
 refine wpS.at hs zXW rfl rfl (ws ⟨_,sl.len zQ rfl,λc=>by omega,λ_=>hs.on λtm1 hs1=>thenC.nx (hs1.sealK λtm2 hs2=>?_)⟩)
 obtain⟨cs0,em,row0⟩:=Row.make (cx:=zA) (h:=h) (t:=23) (k:=12) zQ rfl zi rfl rfl rfl (by decide) (by decide) (by omega);obtain⟨h2,e2⟩:∃h2,h2=h.new (yv cs0):=⟨_,rfl⟩;have w2:=(Vw.nil (S:=zW) (h:=h)).new e2 (by omega);have t2:=w2.top;refine wpS.at hs2 zX0 rfl rfl ⟨_,h2,by rw[e2];exact em,hs2.on λtm3 hs3=>?_⟩
 refine wpC.round (λk tm h'=>∃(i:Nat) (cs:Cs),i<=l.length/\k=l.length-i/\Vw zW h h' 1 [(h.next,yv cs)]/\Row cs 12 (zM (yi (l.take i))) /\
  Has tm [(7,.int .i64 i),(0,v),(1,.int .i64 11),(6,.slice h.next 0 12 (.exact 12))]) l.length ⟨0,cs0,by omega,by omega,w2,by rw[List.take_zero,show yi []=List.replicate 12 0 from Yf 12,wV];exact row0,hs3.sub (by kernel_rfl)⟩ ?_
 clear hs hs1 hs2 hs3 w2 e2 t2 em;rintro k tm h' ⟨i,cs,hi1,rfl,w,row,hs⟩;have tw:=w.top;refine wpC.at hs zXB rfl rfl ⟨_,(sl.ext w.ex0).len zQ rfl,λc=>?_,λc=>hs.on λtm' hs'=>?_⟩
 ·have hi:i<l.length:=by omega
  obtain⟨b,o,a1,a2⟩:=zg (sl.ext w.ex0) hi;have hr:=wC hin (oQ hi);have ht:=yH hi;have hsc:=KW (l.take i) l[i].toNat;rw[List.length_take]at hsc;generalize l[i]=x at a2 hr ht hsc;obtain⟨s,rfl⟩:∃s:Nat,x=s:=⟨x.toNat,by omega⟩;rw[oV]at hsc;refine⟨b,o,a1,_,a2,λc2=>by omega,λ_=>⟨b,o,a1,_,a2,λc3=>by omega,λ_=>hs.on λtm1 hs1=>?_⟩⟩
  have hs12:s<12:=by omega
  have hcell:cs.get? s=some (.int .i64 (wD (l.take i) s:Nat)):=by
   rw[row.2.2.2 s hs12,oU,kR hs12];rfl
  have ev:zL (((wD (l.take i) s:Nat):Int)+1)=((wD (l.take i) s+1:Nat):Int):=zf (by omega);obtain⟨h2,cs2,e2,row2,w2,n2⟩:=w.set (cx:=zA) 0 (j:=s) (u:=.int .i64 ((wD (l.take i) s+1:Nat):Int)) row rfl (by omega) hs12 zi rfl rfl rfl rfl;rw[<-yS,zDZ hs12,<-ht]at row2;refine wpS.at hs1 zXX rfl rfl ⟨b,o,a1,_,a2,_,_,zr zQ rfl zi rfl hs12,_,w.ld1 0 rfl zi rfl hcell,_,_,zr zQ rfl zi rfl hs12,h2,by rw[ev];exact e2,hs1.on λtm2 hs2=>?_⟩
  refine thenC.nx (wpS.at hs2 zXY rfl rfl (hs2.on λtm3 hs3=>hs3.slt λtm4 hs4=>⟨rfl,rfl,l.length-(i+1),by omega,i+1,cs2,by omega,rfl,w2,row2,?_⟩))
  rw[<-zf (by omega)];exact hs4.sub (by kernel_rfl)
 ·have hi:i=l.length:=by omega
  subst hi;rw[List.take_length]at row;refine thenC.left (wpS.at hs' zXZ rfl rfl (hs'.on λtm2 hs2=>hs2.slt λtm3 hs3=>endW.r2 (hs3.get rfl) (hs3.get rfl) (hq h' w.ex0 (row.sl (w.lt 0 rfl) (w.get 0 rfl)))))
theorem zBL {v:V}{l:List Int}{h:H}{Q:V->H->Prop}(sl:Sl h v 1 l.length (zM l)) (g:GC l) (hp:0<zu l) (hq:Q (.tuple [.int .i64 (zu l:Nat),.int .i64 (xM l:Nat),.int .i64 0]) h):RF P zA 220 [v] h Q :=
 RF.enterS zG zYs (ble _ _ rfl) (ble _ _ rfl) z1F (zJh sl g ⟨_,_,rfl,λc=>absurd rfl c,λ_=>⟨λc=>by omega,λ_=>XK sl g ⟨_,_,rfl,hq⟩⟩⟩)
theorem zQU {v:V}{l:List Int}{h:H}{Q:V->H->Prop}(sl:Sl h v 1 l.length (zM l)) (g:GC l) (hp:0<zu l) (h12:xM l<=12) (hs:zu l<=255) (hq:Q (.tuple [.int .i64 5,.int .i64 0]) h):RF P zA 159 [v,.int .i64 6] h Q:=by
 have hb:zT (xM l)<=5:=yE (by omega);refine RF.enterS zG zY5 (ble _ _ rfl) (ble _ _ rfl) z0i (zBL sl g hp ⟨_,_,_,rfl,λq=>absurd rfl q,λ_=>⟨λq=>absurd q (by decide),λ_=>⟨λq=>absurd q (by decide),λ_=>Has.nil.on λtm hs2=>?_⟩⟩⟩)
 refine wpS.at hs2 zRs rfl rfl ⟨((1*2^6:Nat):Int),by rw[show zN .u64 (6:Int)=((6:Nat):Int)from zP (by decide)];exact zb (a:=1) (n:=6) (by decide) (by decide),λq=>by omega,λ_=>JI (by omega) ⟨_,rfl,λc=>?_,λc=>hs2.on λtm4 hs4=>?_⟩⟩
 ·have h8:zT (zu l-1)<=8:=yE (by omega)
  have e1:zL (((zu l:Nat):Int)-1)=((zu l-1:Nat):Int):=by rw[zH (by omega) (by omega)];omega
  rw[e1];refine OX (by omega) ⟨_,rfl,hs2.on λtm4 hs4=>?_⟩
  refine wpS.at hs4 zIR rfl rfl (hs4.on λtm5 hs5=>hs5.slt λtm7 hs7=>?_);have e3:min (6:Int) (max (max 5 ((zT (xM l):Nat):Int)) (zL (((zT (zu l-1):Nat):Int)-1-2)))=5:=by
   rw[zH (by omega) (by omega)];omega
  rw[e3]at hs7;exact endW.r2 (hs7.get rfl) (hs7.get rfl) hq
 ·refine wpS.at hs4 zIR rfl rfl (hs4.on λtm5 hs5=>hs5.slt λtm7 hs7=>?_)
  have e3:min (6:Int) (max 5 ((zT (xM l):Nat):Int))=5:=by omega
  rw[e3]at hs7;exact endW.r2 (hs7.get rfl) (hs7.get rfl) hq
theorem zIC {x:Int}{h:H}{Q:V->H->Prop}(hx : -1<=x) (hq:Q (.int .i64 (pt x)) h):RF P zA 225 [.int .i64 x] h Q:=by
 unfold pt at hq;refine RF.enterS zG zYx (ble _ _ rfl) (ble _ _ rfl) z1K ⟨λc=>?_,λc=>?_⟩
 ·rw[if_pos (by omega)]at hq;exact hq
 ·rw[if_neg (by omega)]at hq;exact hq
theorem zIB {v:V}{l:List Int}{h:H}{Q:V->H->Prop}(sl:Sl h v 1 l.length (zM l)) (hl:l.length<=1000) (hx:∀x∈l,-1<=x/\x<=100000) (hq:Q (.int .i64 (pts l)) h):RF P zA 223 [v] h Q:=by
 refine RF.enterS zG zYv (ble _ _ rfl) (ble _ _ rfl) z1I (Has.nil.on λtm hs=>?_);refine wpC.round (λk tm h'=>∃i:Nat,i<=l.length/\k=l.length-i/\h'=h/\0<=pts (l.take i)/\pts (l.take i)<=100000*i/\Has tm [(4,.int .i64 i),(0,v),(3,.int .i64 (pts (l.take i)))]) l.length ⟨0,by omega,by omega,rfl,by simp[pts],by simp[pts],hs.sub (by kernel_rfl)⟩ ?_
 clear hs;rintro k tm h' ⟨i,h1,rfl,rfl,hp1,hp2,hs⟩;refine wpC.at hs zRB rfl rfl ⟨_,sl.len zQ rfl,λc=>?_,λc=>hs.on λtm' hs'=>?_⟩
 ·have hi:i<l.length:=by omega
  obtain⟨b,o,e1,e2⟩:=zg sl hi;have hr:=hx _ (oQ hi);have ht:=yH hi;generalize l[i]=x at e2 hr ht;have hb:0<=pt x/\pt x<=100000:=by unfold pt;split<;>omega
  have es:pts (l.take (i+1))=pts (l.take i)+pt x:=by rw[ht];simp[pts]
  have ew:zL (pts (l.take i)+pt x)=pts (l.take (i+1)):=by rw[es,zH (by omega) (by omega)]
  refine⟨b,o,e1,x,e2,zIC hr.1 ⟨_,rfl,hs.on λtm4 hs4=>⟨rfl,rfl,l.length-(i+1),by omega,i+1,by omega,rfl,rfl,by omega,by omega,?_⟩⟩⟩
  rw[<-zf (by omega),<-ew];exact hs4.sub (by kernel_rfl)
 ·have hi:i=l.length:=by omega
  subst hi;rw[List.take_length]at hs';refine thenC.left (wpS.at hs' zSZ rfl rfl (hs'.on λtm2 hs2=>?_));exact endW.r1 (hs2.get rfl) hq
theorem zGu {N t:Nat}(ht:0<t):(2*N)/t=2*(N/t)+(if t<=2*(N % t) then 1 else 0)/\(2*N) % t=2*(N % t)-(if t<=2*(N % t) then t else 0):=by
 have h1:=Nat.div_add_mod N t;have h2:=Nat.mod_lt N ht;generalize N/t=q at h1 ⊢;generalize N % t=r at h1 h2 ⊢;refine(Nat.div_mod_unique ht).2 ?_;have h3:t*(2*q)=2*(t*q):=by rw[Nat.mul_left_comm]
 split
 ·rw[Nat.mul_add,h3]
  exact⟨by omega,by omega⟩
 ·rw[Nat.add_zero,h3]
  exact⟨by omega,by omega⟩
theorem zJg {n t:Nat}{h:H}{Q:V->H->Prop}(ht:0<t) (ht2:t<=100000) (hnt:n<=100000) (hn:h.next<=T.top) (hlow:h.low<=T.top) (hq:Q (.int .i64 (n*32/t:Nat)) h):RF P zA 222 [.int .i64 n,.int .i64 t,.int .i64 5] h Q:=by
 refine RF.enterS zG zYu (ble _ _ rfl) (ble _ _ rfl) z1H ⟨⟨hn,hlow⟩,by omega,by omega,Has.nil.on λtm hs=>?_⟩
 refine wpC.round (λk tm h'=>∃i:Nat,i<=5/\k=5-i/\h'=h/\Has tm [(9,.int .i64 i),(2,.int .i64 5),(7,.int .i64 (n*2^i/t:Nat)),(8,.int .i64 (n*2^i % t:Nat)),(1,.int .i64 t)]) 5 ⟨0,by omega,by omega,rfl,?_⟩ ?_
 ·have e1:zL (Int.tdiv (n:Int) (t:Int))=((n*2^0/t:Nat):Int):=by
   have:=Nat.div_le_self n t;rw[show Int.tdiv (n:Int) (t:Int)=((n/t:Nat):Int)from rfl,Nat.pow_zero,Nat.mul_one];generalize n/t=q at this ⊢;exact zH (by omega) (by omega)
  have e2:Int.tmod (n:Int) (t:Int)=((n*2^0 % t:Nat):Int):=by rw[Nat.pow_zero,Nat.mul_one];rfl
  rw[<-e1,<-e2];exact hs.sub (by kernel_rfl)
 clear hs;rintro k tm h' ⟨i,h1,rfl,rfl,hs⟩;have hlt:=Nat.mod_lt (n*2^i) ht;have hpw:2^i<=2^5:=Nat.pow_le_pow_right (by decide) h1;have hN:n*2^i<=100000*2^5:=Nat.mul_le_mul hnt hpw;have hdv:=Nat.div_le_self (n*2^i) t;obtain⟨s1,s2⟩:=zGu (N:=n*2^i) ht;have e0:n*2^(i+1)=2*(n*2^i):=by rw[Nat.pow_succ];rw[<-Nat.mul_assoc,Nat.mul_comm]
 refine wpC.at hs zRA rfl rfl ⟨λc=>?_,λc=>hs.on λtm' hs'=>?_⟩
 ·have ew:zL (2*((n*2^i % t:Nat):Int))=((2*(n*2^i % t):Nat):Int):=by rw[zH (by omega) (by omega)];omega
  have ev:zL (2*((n*2^i/t:Nat):Int))=((2*(n*2^i/t):Nat):Int):=by rw[zH (by omega) (by omega)];omega
  rw[ew,ev];refine⟨λc2=>hs.on λtm4 hs4=>⟨rfl,rfl,5-(i+1),by omega,i+1,by omega,rfl,rfl,?_⟩,λc2=>hs.on λtm4 hs4=>⟨rfl,rfl,5-(i+1),by omega,i+1,by omega,rfl,rfl,?_⟩⟩
  ·rw[if_pos (by omega)]at s1 s2
   have f1:zL (((2*(n*2^i/t):Nat):Int)+1)=((n*2^(i+1)/t:Nat):Int):=by rw[e0,s1,zH (by omega) (by omega)];rfl
   have f2:zL (((2*(n*2^i % t):Nat):Int)-(t:Int))=((n*2^(i+1) % t:Nat):Int):=by rw[e0,s2,zH (by omega) (by omega)];omega
   rw[<-f1,<-f2,<-zf (by omega)];exact hs4.sub (by kernel_rfl)
  ·rw[if_neg (by omega)]at s1 s2
   rw[e0,s1,s2,<-zf (by omega)];exact hs4.sub (by kernel_rfl)
 ·have hi:i=5:=by omega
  subst hi;refine thenC.left (wpS.at hs' zSY rfl rfl (hs'.on λtm2 hs2=>?_));exact endW.r1 (hs2.get rfl) hq
theorem KS {f:Bool->Prop}(h:f true):jk true f:=h
theorem zGm {hb h:H}{cc b p0 m k:Nat}{cs:Cs}{p:List Int}{tm:Tm}{R:AX->St->Prop}(hs:Has tm [(4,.ptr p0 0),(12,.slice b 0 m (.exact m)),(10,.int .i64 ((m:Int)-1)),(1,.int .i64 5),(9,.int .i64 32)])
  (w:Vw zW hb h cc [(b,yv cs),(p0,oD 0 .nilslice)]) (row:Row cs m (zM p)) (g:PR p) (hm:m=p.length) (hp:pts p=32+k) (hx:∀x∈p,x<=100000) (hk:k<=1000) (hn:h.next<=T.top) (hlow:hb.low<=T.top)
  (hR:∀h' tm' cs',Vw zW hb h' cc [(b,yv cs'),(p0,oD 5 (.slice b 0 m (.exact m)))]->h'.next=h.next->Row cs' m (zM (Zc k p))->Has tm' [(4,.ptr p0 0),(5,.int .i64 0)]->R .ret ⟨134,tm',[],h'⟩) :
  j8 false OS ⟨134,tm,[],h⟩ R:=by
 refine wpS.at hs zRv rfl rfl (hs.on λtm1 hs1=>?_);refine wpC.round (λj tm h'=>∃(q:List Int) (cs:Cs),PR q/\q.length=m/\(∀x∈q,x<=100000)/\pts q=32+j/\Zc j q=Zc k p/\j<=k/\h'.next=h.next/\Row cs m (zM q) /\
  Has tm [(4,.ptr p0 0),(12,.slice b 0 m (.exact m)),(10,.int .i64 ((m:Int)-1)),(1,.int .i64 5),(9,.int .i64 32)]/\Vw zW hb h' cc [(b,yv cs),(p0,oD 0 .nilslice)]) k ⟨p,cs,g,hm.symm,hx,hp,rfl,oO _,rfl,row,hs1.sub (by kernel_rfl),w⟩ ?_
 clear hs hs1 w row hp cs;rintro j tm h' ⟨q,cs,gq,hql,hqx,hp,hd,hjk,hnx,row,hs,w⟩;have l':h'.low<=T.top:=by have:=w.low;omega
 have hq12:=gq.len;have hqp:=gq.pos;have sl:Sl h' (.slice b 0 m (.exact m)) 1 q.length (zM q):=by rw[hql];exact row.sl (w.lt 0 rfl) (w.get 0 rfl)
 refine wpC.at hs zQo rfl rfl (zIB sl (by omega) (λx hx=>⟨gq.low x hx,by have:=hqx x hx;omega⟩) ⟨_,rfl,λc=>hs.on λtm2 hs2=>?_,λc=>hs.on λtm2 hs2=>?_⟩)
 ·obtain⟨j,rfl⟩:∃i,j=i+1:=⟨j-1,by omega⟩
  refine wpC.round (λr tm h''=>∃i:Nat,i<=m/\r=m-i/\h''=h'/\Has tm [(19,.int .i64 i),(18,.int .i64 (zx q i:Nat)),(4,.ptr p0 0),(12,.slice b 0 m (.exact m)),(10,.int .i64 ((m:Int)-1)),(1,.int .i64 5),(9,.int .i64 32)]) m ⟨0,by omega,by omega,rfl,hs2.sub (by kernel_rfl)⟩ ?_
  clear hs hs2;rintro r tm h'' ⟨i,hi1,rfl,rfl,hs⟩;have hgl:zx q i<q.length:=by
   rcases Nat.eq_zero_or_pos i with h0|h0
   ·subst h0;show 0<q.length;omega
   ·have:=Yo q (i-1)
    rw[show i-1+1=i by omega]at this;omega
  refine wpC.at hs zQn rfl rfl ⟨λc2=>?_,λc2=>hs.on λtm' hs'=>?_⟩
  ·have hi:i<q.length:=by omega
   obtain⟨b1,o1,e1,e2⟩:=zg sl hi;obtain⟨b2,o2,f1,f2⟩:=zg sl hgl;have hs1:=Xv hi hgl;refine⟨⟨by omega,l'⟩,b1,o1,e1,_,e2,b2,o2,f1,_,f2,λc3=>hs.on λtm4 hs4=>⟨rfl,rfl,m-(i+1),by omega,i+1,by omega,rfl,rfl,?_⟩,λc3=>hs.on λtm4 hs4=>⟨rfl,rfl,m-(i+1),by omega,i+1,by omega,rfl,rfl,?_⟩⟩
   ·rw[if_pos c3]at hs1
    rw[hs1,<-zf (by omega)];exact hs4.sub (by kernel_rfl)
   ·rw[if_neg c3]at hs1
    rw[hs1,<-zf (by omega)];exact hs4.sub (by kernel_rfl)
  ·have hi:i=q.length:=by omega
   subst hi;obtain⟨gd,hpd⟩:=gq.dec (by omega);have hcell:cs.get? (zx q q.length)=some (.int .i64 q[zx q q.length]):=by rw[row.2.2.2 _ (by omega),zM,oU,oM hgl];rfl
   have hbig:=gq.big (by omega);rw[yY hgl]at hbig;have hle:=hqx _ (oQ hgl);have ew:zL (q[zx q q.length]-1)=q[zx q q.length]-1:=zH (by omega) (by omega);obtain⟨h2,cs2,e2,row2,w2,n2⟩:=w.set (cx:=zA) 0 (j:=zx q q.length) (u:=.int .i64 (q[zx q q.length]-1)) row rfl (by omega) (by omega) zi rfl rfl rfl rfl;have ed:q.set (zx q q.length) (q[zx q q.length]-1)=Zb q:=by unfold Zb;rw[yY hgl]
   rw[<-yS,ed]at row2;refine thenC.left (wpS.at hs' zRt rfl rfl ⟨_,_,zr zQ rfl zi rfl (by omega),_,w.ld1 0 rfl zi rfl hcell,_,_,zr zQ rfl zi rfl (by omega),h2,by rw[ew];exact e2,hs'.on λtm3 hs3=>hs3.slt λtm4 hs4=>⟨rfl,rfl,j,by omega,Zb q,cs2,gd,by rw[zD3];exact hql,λx hx=>?_,by omega,hd,by omega,(show h2.next=h.next by omega),row2,hs4.sub (by kernel_rfl),w2⟩⟩)
   unfold Zb at hx;rcases List.mem_or_eq_of_mem_set hx with h1|h1
   ·exact hqx x h1
   ·rw[h1,yY hgl];omega
 ·have hj:j=0:=by omega
  subst hj;have hd:q=Zc k p:=hd;obtain⟨h2,e2,w2,n2,_⟩:=w.st (cx:=zA) 1 (t:=59) (f:=0) (u:=.agg [.int .i64 5,.slice b 0 m (.exact m)]) rfl (by omega) xo rfl (oJ _) rfl rfl;refine thenC.left (wpS.at hs2 zRu rfl rfl (zAD ⟨h2,e2,hs2.on λtm3 hs3=>hs3.slt λtm4 hs4=>hR h2 tm4 cs w2 (by omega) (by rw[<-hd];exact row) (hs4.sub (by kernel_rfl))⟩))
theorem zOJ {v:V}{c:List Int}{h:H}{Q:V->H->Prop}(sl:Sl h v 1 c.length (zM c)) (g:CD c) (hn:h.next+20<=T.top) (hlow:h.low<=T.top)
  (hq:∀h' b,Ext h h' 9->h.next<=b->Sl h' (.slice b 0 (wI c).length (.exact (wI c).length)) 1 (wI c).length (zM (wI c))->Q (.tuple [.agg [.int .i64 5,.slice b 0 (wI c).length (.exact (wI c).length)],.int .i64 0]) h'):RF P zA 160 [v,.int .i64 5] h Q:=by
 have hlen:=g.len;have l:=OA g.gc g.ne;have lp1:=l.pos;have lp2:=l.le;have hsum:=g.sum;have hpos:=g.pos;have hcl:=qm c;refine RF.enterS zG zY6 (ble _ _ rfl) (ble _ _ rfl) z0j ⟨by omega,?_⟩;rintro p0 h1 rfl e1;have w1:=(Vw.nil (S:=zW) (h:=h)).new e1 (by omega);have n1:h1.next=h.next+1:=by rw[e1,zI]
 have l1:=w1.low;have s1:=sl.ext w1.ex0;refine zBL s1 g.gc hpos ⟨_,_,_,rfl,λq=>absurd rfl q,λ_=>⟨λq=>absurd q (by decide),λ_=>⟨λq=>absurd q (by decide),λ_=>Has.nil.on λtm hs=>?_⟩⟩⟩
 refine wpS.at hs zRx rfl rfl ⟨((1*2^5:Nat):Int),by rw[show zN .u64 (5:Int)=((5:Nat):Int)from zP (by decide)];exact zb (a:=1) (n:=5) (by decide) (by decide),λq=>by omega,λ_=>zE0 s1 g.gc l ⟨_,_,rfl,?_⟩⟩
 have em:zL ((wM c:Int)-1+1)=((wM c:Nat):Int):=by rw[zH (by omega) (by omega)];omega
 obtain⟨cs0,ek,row0⟩:=Row.make (cx:=zA) (h:=h1) (t:=23) (k:=wM c) zQ rfl zi rfl rfl rfl (by omega) (by show 8*wM c<=_;omega) (by omega);obtain⟨h7,e7⟩:∃h7,h7=h1.new (yv cs0):=⟨_,rfl⟩;have w7:=w1.new e7 (by omega);have n7:h7.next=h1.next+1:=by rw[e7,zI]
 refine⟨_,h7,by rw[em,e7];exact ek,hs.on λtm2 hs2=>?_⟩
 refine wpC.round (λj tm h'=>∃(i:Nat) (cs:Cs),i<=wM c/\j=wM c-i/\h'.next=h7.next/\Vw zW h h' 2 [(h1.next,yv cs),(h.next,oD 0 .nilslice)]/\Row cs (wM c) (zM (xA c i)) /\
  Has tm [(13,.int .i64 i),(4,.ptr h.next 0),(12,.slice h1.next 0 (wM c) (.exact (wM c))),(10,.int .i64 ((wM c:Int)-1)),(0,v),(6,.int .i64 (zu c:Nat)),(1,.int .i64 5),(9,.int .i64 32)]) (wM c)
  ⟨0,cs0,by omega,by omega,rfl,w7,by rw[OO,wV];exact row0,hs2.sub (by kernel_rfl)⟩ ?_
 clear hs hs2 w7 ek e7;rintro j tm h' ⟨i,cs,hi1,rfl,hnx,w,row,hs⟩;have l':h'.low<=T.top:=by have:=w.low;omega
 have sv:=sl.ext w.ex0;refine wpC.at hs zQm rfl rfl ⟨λq=>?_,λq=>hs.on λtm' hs'=>?_⟩
 ·have him:i<wM c:=by omega
  have hi:i<c.length:=by omega
  obtain⟨b,o,a1,a2⟩:=zg sv hi;have hrng:=g.gc.at hi;have heach:=g.each _ (oQ hi);have hset:(xA c i).set i (jf (zu c) c[i])=xA c (i+1):=by
   have:=zII (tot:=zu c) (n:=wM c) (c:=c) him;rw[yY hi]at this;exact this
  obtain⟨n,hnn⟩:∃n:Nat,c[i]=n:=⟨c[i].toNat,by omega⟩;rw[hnn]at a2 hrng heach hset;rw[oV]at heach;have hdv:n*32/zu c<=n*32:=Nat.div_le_self _ _;obtain⟨h2,cs2,e2,row2,w2,n2⟩:=w.set (cx:=zA) 0 (j:=i) (u:=.int .i64 ((n*32/zu c:Nat):Int)) row rfl (by omega) him zi rfl rfl rfl rfl;rw[<-yS]at row2;have hcell:cs2.get? i=some (.int .i64 ((n*32/zu c:Nat):Int)):=by
   rw[row2.2.2.2 _ him,yS,List.getElem?_set_self (by rw[wq,jT];exact him)]
  have sv2:=sl.ext w2.ex0;obtain⟨b',o',a1',a2'⟩:=zg sv2 hi;rw[hnn]at a2';have hpn:0<n->jf (zu c) (n:Int)=if n*32/zu c=0 then -1 else ((n*32/zu c:Nat):Int):=λh0=>zHt h0
  have hp0:n=0->jf (zu c) (n:Int)=0:=λh0=>zBH (by omega)
  refine⟨b,o,a1,_,a2,zJg hpos (by omega) (by omega) (by omega) l' ⟨_,rfl,h1.next,i,zr zQ rfl zi rfl him,h2,e2,h1.next,i,zr zQ rfl zi rfl him,_,w2.ld1 0 rfl zi rfl hcell,λq2=>⟨b',o',a1',_,a2',λq3=>hs.on λtm5 hs5=>?_,λq3=>hs.on λtm5 hs5=>?_⟩,λq2=>hs.on λtm5 hs5=>?_⟩⟩
  ·obtain⟨h3,cs3,e3,row3,w3,n3⟩:=w2.set (cx:=zA) 0 (j:=i) (u:=.int .i64 (-1)) row2 rfl (by omega) him zi rfl rfl rfl rfl
   rw[<-yS,List.set_set]at row3;have er:jf (zu c) (n:Int) = -1:=by rw[hpn (by omega),if_pos (by omega)]
   rw[er]at hset;rw[hset]at row3;refine wpS.at hs5 zCl rfl rfl (KS ⟨h1.next,i,zr zQ rfl zi rfl him,h3,e3,hs5.on λtm6 hs6=>thenC.nx (wpS.at hs6 zCm rfl rfl (hs6.on λtm7 hs7=>hs7.slt λtm8 hs8=>⟨rfl,rfl,wM c-(i+1),by omega,i+1,cs3,by omega,rfl,(show h3.next=h7.next by omega),w3,row3,?_⟩))⟩)
   rw[<-zf (by omega)];exact hs8.sub (by kernel_rfl)
  ·have h0:n=0:=by omega
   have er:jf (zu c) (n:Int)=((n*32/zu c:Nat):Int):=by rw[hp0 h0];omega
   rw[er]at hset;rw[hset]at row2;refine wpS.at hs5 zCl rfl rfl (ws (hs5.on λtm6 hs6=>thenC.nx (wpS.at hs6 zCm rfl rfl (hs6.on λtm7 hs7=>hs7.slt λtm8 hs8=>⟨rfl,rfl,wM c-(i+1),by omega,i+1,cs2,by omega,rfl,(show h2.next=h7.next by omega),w2,row2,?_⟩))))
   rw[<-zf (by omega)];exact hs8.sub (by kernel_rfl)
  ·have h0:0<n:=by
    rcases Nat.eq_zero_or_pos n with h0|h0
    ·subst h0;exact absurd (by simp) q2
    ·exact h0
   have er:jf (zu c) (n:Int)=((n*32/zu c:Nat):Int):=by rw[hpn h0,if_neg (by omega)]
   rw[er]at hset;rw[hset]at row2;refine wpS.at hs5 zCl rfl rfl (ws (hs5.on λtm6 hs6=>thenC.nx (wpS.at hs6 zCm rfl rfl (hs6.on λtm7 hs7=>hs7.slt λtm8 hs8=>⟨rfl,rfl,wM c-(i+1),by omega,i+1,cs2,by omega,rfl,(show h2.next=h7.next by omega),w2,row2,?_⟩))))
   rw[<-zf (by omega)];exact hs8.sub (by kernel_rfl)
 ·have hi:i=wM c:=by omega
  subst hi;have hpr:=g.pr;have hpb:=g.pb c.length;have epr:xA c (wM c)=xA c c.length:=by
   unfold xA shr;exact List.map_congr_left λs hs=>by
    have:=List.mem_range.1 hs;rw[if_pos this,if_pos (by omega)]
  rw[epr]at row;obtain⟨f1,f2,f3,f4⟩:=g.fix;have sr:Sl h' (.slice h1.next 0 (wM c) (.exact (wM c))) 1 (xA c c.length).length (zM (xA c c.length)):=by rw[jT];exact row.sl (w.lt 0 rfl) (w.get 0 rfl)
  have hmem:∀x∈xA c c.length,-1<=x/\x<=100000:=λx hx=>by have:=g.mem hx;omega
  have fin:∀(k:Nat) (h8:H) (tm8:Tm) (cs8:Cs),pts (jG c)=32+k->k<=1000->h8.next=h7.next->Vw zW h h8 2 [(h1.next,yv cs8),(h.next,oD 0 .nilslice)]->Row cs8 (wM c) (zM (jG c))->Has tm8 [(4,.ptr h.next 0),(12,.slice h1.next 0 (wM c) (.exact (wM c))),(10,.int .i64 ((wM c:Int)-1)),(1,.int .i64 5),(9,.int .i64 32)] ->
    j8 false OS ⟨134,tm8,[],h8⟩ (zD jB (zD jB (endW zA ⟨134,[.cell 4 59,.tmp 5],Zy⟩ Q))):=by
   intro k h8 tm8 cs8 hk hk2 n8 w8 row8 hs8;refine zGm hs8 w8 row8 f1 f4.symm hk (f1.rng (by omega)) hk2 (by omega) hlow λh9 tm9 cs9 w9 n9 row9 hs9=>hs9.slt λtm10 hs10=>hs10.slt λtm11 hs11=>?_
   have en:wI c=Zc k (jG c):=by
    unfold wI;rw[show(pts (jG c)-32).toNat=k by omega]
   rw[<-en]at row9;have hl2:=g.nlen;refine endW.ok (leave.cell (hs11.get (t:=4) rfl) (w9.ldA 1 rfl xo rfl rfl) (leave.tmp (hs11.get (t:=5) rfl) rfl)) ?_;have:=hq h9 h1.next (w9.ex0.mono (by omega)) (by omega);rw[hl2]at this;exact this (row9.sl (w9.lt 0 rfl) (w9.get 0 rfl))
  have e32:zL (32-pts (xA c c.length))=32-pts (xA c c.length):=zH (by omega) (by omega);refine thenC.left (wpS.at hs' zRw rfl rfl (zIB sr (by rw[jT];omega) hmem ⟨_,rfl,λq2=>?_,λq2=>hs'.on λtm2 hs2=>?_⟩))
  ·rw[e32]at q2
   have hgl:=g.g_lt;have hgi:zx c c.length<(xA c c.length).length:=by rw[jT];exact hgl
   have hcell:cs.get? (zx c c.length)=some (.int .i64 (xA c c.length)[zx c c.length]):=by rw[row.2.2.2 _ hgl,zM,oU,oM hgi];rfl
   have hm:=g.mem (oQ (l:=xA c c.length) (n:=zx c c.length) hgi);have hfix:jG c=(xA c c.length).set (zx c c.length) (pt (xA c c.length)[zx c c.length]+(32-pts (xA c c.length))):=by
    unfold jG;rw[if_pos q2,yY hgi]
   generalize (xA c c.length)[zx c c.length]=z at hcell hm hfix;obtain⟨h20,cs2,e20,row2,w20,n20⟩:=w.set (cx:=zA) 0 (j:=zx c c.length) (u:=.int .i64 (pt z+(32-pts (xA c c.length)))) row rfl (by omega) hgl zi rfl rfl rfl rfl;rw[<-yS,<-hfix]at row2;have hz:0<=pt z/\pt z<=32:=by unfold pt;split<;>omega
   refine zC8 sv g.gc l (by omega) l' λx=>⟨_,_,_,rfl,h1.next,_,zr zQ rfl zi rfl hgl,_,w.ld1 0 rfl zi rfl hcell,zIC hm.1 ⟨_,rfl,h1.next,_,zr zQ rfl zi rfl hgl,h20,by rw[e32,zH (by omega) (by omega)];exact e20,hs'.on λtm2 hs2=>?_⟩⟩
   have hz2:=g.fix32 q2;exact fin 0 h20 tm2 cs2 (by omega) (by decide) (by omega) w20 row2 (hs2.sub (by kernel_rfl))
  ·rw[e32]at q2
   have hfix:jG c=xA c c.length:=by unfold jG;rw[if_neg (by omega)]
   obtain⟨k,hk⟩:∃k:Nat,pts (xA c c.length)=32+k:=⟨(pts (xA c c.length)-32).toNat,by omega⟩;exact fin k h' tm2 cs (by rw[hfix];exact hk) (by omega) (by omega) w (by rw[hfix];exact row) (hs2.sub (by kernel_rfl))
theorem zOF {v:V}{c:List Int}{h:H}{Q:V->H->Prop}(sl:Sl h v 1 c.length (zM c)) (g:CD c) (hn:h.next+30<=T.top) (hlow:h.low<=T.top)
  (hq:∀h' b,Ext h h' 10->h.next<=b->Sl h' (.slice b 0 (wI c).length (.exact (wI c).length)) 1 (wI c).length (zM (wI c))->Q (.tuple [.agg [.int .i64 5,.slice b 0 (wI c).length (.exact (wI c).length)],.int .i64 0]) h'):RF P zA 97 [v,.int .i64 6] h Q:=by
 have hc:=qm c;have hlen:=g.len;refine RF.enterS zG z4t (ble _ _ rfl) (ble _ _ rfl) z5h ⟨by omega,?_⟩;rintro p0 h1 rfl e1;have w1:=(Vw.nil (S:=zW) (h:=h)).new (o:=oD 0 .nilslice) e1 (by omega);have n1:h1.next=h.next+1:=by rw[e1,zI]
 have l1:=w1.low;have s1:=sl.ext w1.ex0;refine zQU s1 g.gc g.pos (by omega) g.sum ⟨_,_,rfl,λq=>absurd rfl q,λ_=>zOJ s1 g (by omega) (by omega) λh8 b x8 hb s8=>⟨_,_,_,rfl,?_⟩⟩
 have w8:=w1.ext x8;have t8:=x8.top;obtain⟨h12,e12,w12,n12,g12⟩:=w8.st (cx:=zA) 0 (t:=59) (f:=0) (u:=.agg [.int .i64 5,.slice b 0 (wI c).length (.exact (wI c).length)]) rfl (by omega) xo rfl (oJ _) rfl rfl;refine⟨h12,e12,endL.ok (leaveL.cell (w12.ldA 0 rfl xo rfl rfl) rfl) (hq h12 b (w12.ex0.mono (by omega)) (by omega) (s8.kept (by omega) λb' hb'=>g12 b' ?_))⟩
 cases hb';omega
end Go.Proofs.YtnpeieeomokomaaGreat
