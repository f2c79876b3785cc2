/- TO. No condition. -/
import Derived.Test.YtnpeieeomokomaaGreatZTN
import Derived.Test.YtnpeieeomokomaaGreatZTG
import Derived.Test.YtnpeieeomokomaaGreatZCG
import Derived.Test.YtnpeieeomokomaaGreatZW
import Derived.Test.YtnpeieeomokomaaGreatZTJ
set_option maxRecDepth 100000
set_option maxHeartbeats 2000000
namespace Go.Proofs.YtnpeieeomokomaaGreat
open Go.Sim
variable {h:H}{Q:V->H->Prop}
theorem Xu (l:List Int):∀k,(jp l k).length=2
 | 0=>rfl
 | k+1=>by unfold jp;split<;>simp[Xu l k]
theorem zDI {v:V}{l:List Int}(sl:Sl h v 1 l.length (zJ l)) (hin:kK l=true) (hl:l.length<=255) (hn:h.nx+2000<=T.top) (hlow:h.low<=T.top)
  (hq:∀h' v',Ext h h' 620->Ow h' v' zSA (xL l 2).length (zDj (xL l 2))->Q (.tuple [v',.agg (ZI (jp l 2))]) h'):RF P zA 48 [v] h Q:=by
 refine yD z6V rfl rfl z7F ⟨by omega,?_⟩;rintro p0 h1 rfl e1;have w1:=(Vw.nil (S:=zR) (h:=h)).new (o:=oB2 (.ls [.bool false,.bool false])) e1 (by omega);have n1:h1.nx=h.nx+1:=by rw[e1,zG]
 refine zMb (by omega) λh3 x3=>⟨_,_,rfl,Has.nil.on λtm hs=>?_⟩
 have w3:=w1.ext x3;have t3:=x3.top;refine wpC.round (λj tm h'=>∃(k:Nat) (y:V) (cb:Cs),k<=2/\j=2-k/\h'.nx<=h3.nx+305*k/\Vw zR h h' (2+305*k) [(h.nx,oB2 cb)]/\Row cb 2 (ZI (jp l k))/\Ow h' y zSA (xL l k).length (zDj (xL l k))/\(xL l k).length<=k/\Sep zR h.nx [(h.nx,oB2 cb)] y /\
  Has tm [(9,.int .i64 k),(8,.agg [zRB,zRA]),(0,v),(2,y),(3,.ptr h.nx 0)]) 2
  ⟨0,.nilslice,_,by omega,by omega,by omega,w3,zPO,⟨rfl,.inl ⟨rfl,rfl⟩⟩,oP _,(λb hb=>by cases hb),hs.sub (by kernel_rfl)⟩ ?_
 clear hs w3;rintro j tm h' ⟨k,y,cb,hk,rfl,hnx,w,rb,ow,hc,sp,hs⟩;have l':h'.low<=T.top:=by have:=w.low;omega
 have sv:=sl.ext w.ex0;refine wpC.av hs zXp rfl rfl ⟨λc=>?_,λc=>hs.on λtm' hs'=>?_⟩
 ·have hk2:k<2:=by omega
  have hpl:k<(jp l k).length:=by rw[Xu];exact hk2
  have yes:∀(h2:H) (s:List UInt8),Ext h' h2 300->Ob l k=some s->∃v6 h7,zF zA 63 1 [(0,.str s)] h2=some (v6,h7)/\∃v8 h9,za zA 63 h7 y v6=some (v8,h9)/\∃h12 cb',zf zA 4 h9 (.ptr h.nx k) (.bool true)=some h12 /\
    h12.nx<=h3.nx+305*(k+1)/\Vw zR h h12 (2+305*(k+1)) [(h.nx,oB2 cb')]/\Row cb' 2 (ZI (jp l (k+1)))/\Ow h12 v8 zSA (xL l (k+1)).length (zDj (xL l (k+1)))/\(xL l (k+1)).length<=k+1/\Sep zR h.nx [(h.nx,oB2 cb')] v8:=by
   intro h2 s x2 hc2;have t2:=x2.top;have w2:=w.ext x2;have ow2:=ow.ext x2;obtain⟨v6,h7,e7,s7,x7⟩:=zMJ (h:=h2) s (by omega);have t7:=x7.top;have w7:=w2.ext x7;obtain⟨v8,h9,e9,A⟩:=(ow2.ext x7).append (c:=zA) s7 (by decide) zP9 rfl qh rfl rfl (by show((xL l k).length+1)*1<=_;omega) (by show((xL l k).length+1)*16<=_;omega) (by omega);obtain⟨w9,ow9,sp9⟩:=w7.grow sp A;have t9:=A.2.2.1;obtain⟨h12,cb',e12,rb',w12,n12,g12⟩:=w9.set2 (cx:=zA) 0 (j:=k) (u:=.bool true) rb rfl (by omega) hk2 ty4 rfl rfl rfl rfl;have ec:xL l (k+1)=xL l k++[s]:=by rw[Oc,hc2];rfl
   refine⟨v6,h7,e7,v8,h9,e9,h12,cb',e12,by omega,w12.more (by omega),?_,?_,by rw[ec,oU,List.length_singleton];omega,λb hb=>⟨(sp9 b hb).1,λq hq=>?_⟩⟩
   ·have ep:jp l (k+1)=(jp l k).set k true:=by
     show(if (Ob l k).isSome=true then (jp l k).set k true else jp l k)=_;rw[hc2];rfl
    rw[ep];unfold ZI;rw[List.map_set];exact rb'
   ·rw[ec,oU,List.length_singleton]
    have es:zDj (xL l k++[s])=zDj (xL l k)++[.str s]:=by unfold zDj;rw[List.map_append];rfl
    rw[es];exact ow9.keep (by omega) λb hb=>g12 b λq=>(sp9 b hb).2 (h.nx,oB2 cb) (by simp) q.symm
   ·simp only[od,List.not_mem_nil,or_false]at hq
    subst hq;exact(sp9 b hb).2 (h.nx,oB2 cb) (by simp)
  have no:∀(h2:H),Ext h' h2 300->Ob l k=none->h2.nx<=h3.nx+305*(k+1)/\Vw zR h h2 (2+305*(k+1)) [(h.nx,oB2 cb)]/\Row cb 2 (ZI (jp l (k+1)))/\Ow h2 y zSA (xL l (k+1)).length (zDj (xL l (k+1)))/\(xL l (k+1)).length<=k+1:=by
   intro h2 x2 hc2;have t2:=x2.top;have ec:xL l (k+1)=xL l k:=by rw[Oc,hc2];exact List.append_nil _
   have ep:jp l (k+1)=jp l k:=by
    show(if (Ob l k).isSome=true then (jp l k).set k true else jp l k)=_;rw[hc2];rfl
   rw[ec,ep];exact⟨by omega,(w.ext x2).more (by omega),rb,ow.ext x2,by omega⟩
  have hk01:k=0\/k=1:=by omega
  rcases hk01 with rfl|rfl
  ·refine⟨_,zZJ,?_⟩
   show RF P zA 26 [v] h' _;refine qJ sv (by omega) (by omega) λh2 x2=>zJH (zEk l) (zIR (zEk l) (λs hs2=>?_) λhn2 v'=>?_)
   ·obtain⟨v6,h7,e7,v8,h9,e9,h12,cb',e12,q1,q2,q3,q4,q5,q6⟩:=yes h2 s x2 hs2
    refine⟨v6,h7,e7,trivial,v8,h9,e9,_,_,Ku (by decide),h12,e12,hs.on λtm' hs'=>⟨rfl,rfl,1,by omega,1,v8,cb',by omega,rfl,q1,q2,q3,q4,q5,q6,?_⟩⟩
    exact hs'.sub (by kernel_rfl)
   ·obtain⟨q1,q2,q3,q4,q5⟩:=no h2 x2 hn2
    exact hs.on λtm' hs'=>⟨rfl,rfl,1,by omega,1,y,cb,by omega,rfl,q1,q2,q3,q4,q5,sp,hs'.sub (by kernel_rfl)⟩
  ·refine⟨_,zZK,?_⟩
   show RF P zA 54 [v] h' _;refine Y4 sv hin hl (by omega) l' (zJH (zF9 _) (zIR (zF9 _) (λs hs2=>?_) λhn2 v'=>?_))
   ·obtain⟨v6,h7,e7,v8,h9,e9,h12,cb',e12,q1,q2,q3,q4,q5,q6⟩:=yes h' s ((Ext.refl h').mono (by omega)) hs2
    refine⟨v6,h7,e7,trivial,v8,h9,e9,_,_,Ku (by decide),h12,e12,hs.on λtm' hs'=>⟨rfl,rfl,0,by omega,2,v8,cb',by omega,rfl,q1,q2,q3,q4,q5,q6,?_⟩⟩
    exact hs'.sub (by kernel_rfl)
   ·obtain⟨q1,q2,q3,q4,q5⟩:=no h' ((Ext.refl h').mono (by omega)) hn2
    exact hs.on λtm' hs'=>⟨rfl,rfl,0,by omega,2,y,cb,by omega,rfl,q1,q2,q3,q4,q5,sp,hs'.sub (by kernel_rfl)⟩
 ·have hk2:k=2:=by omega
  subst hk2;have i':=yE (h:=h') (by omega) l';obtain⟨b0,b1,hbb⟩:∃b0 b1,jp l 2=[b0,b1]:=by
   have:=Xu l 2
   match jp l 2,this with
   | [b0,b1],_=>exact⟨b0,b1,rfl⟩
  have hp:h.nx<T.top:=by omega
  have hr:cb.range 0 2=some [.bool b0,.bool b1]:=by
   have:=rb.2.2.2;rw[hbb]at this;exact Cs.range_is (by decide) rfl λi hi=>by rw[Nat.zero_add];exact this i hi
  obtain⟨cb',p1,p2⟩:=Cs.put_some (cs:=cb) rb.1 (o:=0) (vs:=[.bool b0,.bool b1]) (by rw[rb.2.1];exact oP 2);obtain⟨h5,e5,w5,n5,g5⟩:=w.st (cx:=zA) 0 (t:=64) (f:=0) (u:=.agg [.bool b0,.bool b1]) (cs':=cb') rfl (by omega) zLY rfl (oJ _) rfl p1;obtain⟨_,p3,p4⟩:=Cs.put_eq p1;refine thenC.left (wpS.av hs' zYI rfl rfl ⟨⟨by omega,l'⟩,b0,b1,w.ldA 0 rfl zLY rfl hr,h5,e5,hs'.on λtm2 hs2=>?_⟩);have hr5:cb'.range 0 2=some [.bool b0,.bool b1]:=Cs.range_is (by decide) rfl λi hi=>by
   rw[Nat.zero_add,p4,if_pos ⟨oJ _,by rw[Nat.zero_add];exact hi⟩,Nat.sub_zero]
  refine endW.ok (leave.tmp (hs2.get (t:=2) rfl) (leave.cell (hs2.get (t:=3) rfl) (w5.ldA 0 rfl zLY rfl hr5) rfl)) ?_;have:=hq h5 y (w5.ex0.mono (by omega)) (ow.keep (by omega) λb hb=>g5 b λq=>(sp b hb).2 (h.nx,oB2 cb) (by simp) q.symm)
  rw[hbb]at this;exact this
def jL (ls:List (List UInt8)):Nat->List UInt8
 | 0=>[]
 | k+1=>if k=0 then ls[k]?.getD [] else if (ls[k]?.getD []).length<(jL ls k).length then ls[k]?.getD [] else jL ls k
theorem zJ5 {s:List UInt8}(hq:Q (.int .i64 (s.length:Nat)) h):RF P zA 50 [.str s] h Q :=
 yD z6X rfl rfl z7H hq
theorem zNb {v:V}{ls:List (List UInt8)}(sl:Sl h v 1 ls.length (zDj ls)) (hl:ls.length<=1000) (hq:Q (.tuple [.str (jL ls ls.length),.bool (decide (0<ls.length))]) h):RF P zA 49 [v,.func (.func 50) [] []] h Q:=by
 refine yD z6W rfl rfl z7G ⟨_,sl.len zP9 rfl,Has.nil.on λtm hs=>?_⟩
 refine wpC.round (λj tm h'=>∃k:Nat,k<=ls.length/\j=ls.length-k/\h'=h/\Has tm [(11,.int .i64 k),(10,.int .i64 ls.length),(9,v),(1,.func (.func 50) [] []),(6,.str (jL ls k)),(0,v)]) ls.length ⟨0,by omega,by omega,rfl,hs.sub (by kernel_rfl)⟩ ?_
 clear hs;rintro j tm h' ⟨k,hk,rfl,rfl,hs⟩;refine wpC.av hs zXq rfl rfl ⟨λc=>?_,λc=>hs.on λtm' hs'=>?_⟩
 ·have hkl:k<ls.length:=by omega
  have hg:ls[k]? = some ls[k]:=oO hkl;obtain⟨b,o,a1,a2⟩:=sl.at1 (u:=.str ls[k]) hkl zP9 rfl qh rfl rfl (by unfold zDj;rw[oW,hg];rfl);have eg:jL ls (k+1)=if k=0 then ls[k] else if ls[k].length<(jL ls k).length then ls[k] else jL ls k:=by
   show(if k=0 then ls[k]?.getD [] else if (ls[k]?.getD []).length<(jL ls k).length then ls[k]?.getD [] else jL ls k)=_;rw[hg];rfl
  refine⟨b,o,a1,ls[k],a2,λc2=>?_,λc2=>?_⟩
  ·rw[if_pos (by omega)]at eg
   refine hs.on λtm' hs'=>⟨rfl,rfl,ls.length-(k+1),by omega,k+1,by omega,rfl,rfl,?_⟩
   rw[eg,<-yR (by omega)];exact hs'.sub (by kernel_rfl)
  ·rw[if_neg (by omega)]at eg
   show RF P zA 50 [.str ls[k]] h' _;refine zJ5 (zJI ?_);show RF P zA 50 [.str (jL ls k)] h' _;refine zJ5 (zJI (zQk (λc3=>?_) λc3=>?_))
   ·rw[if_pos (by omega)]at eg
    refine hs.on λtm' hs'=>⟨rfl,rfl,ls.length-(k+1),by omega,k+1,by omega,rfl,rfl,?_⟩
    rw[eg,<-yR (by omega)];exact hs'.sub (by kernel_rfl)
   ·rw[if_neg (by omega)]at eg
    refine hs.on λtm' hs'=>⟨rfl,rfl,ls.length-(k+1),by omega,k+1,by omega,rfl,rfl,?_⟩
    rw[eg,<-yR (by omega)];exact hs'.sub (by kernel_rfl)
 ·have hk:k=ls.length:=by omega
  subst hk;refine thenC.left (wpS.av hs' zYJ rfl rfl ⟨_,sl.len zP9 rfl,λc=>?_,λc=>?_⟩)
  ·rw[decide_eq_true (by omega)]at hq
   exact hs'.on λtm2 hs2=>endW.r2 (hs2.get rfl) (hs2.get rfl) hq
  ·rw[decide_eq_false (by omega)]at hq
   exact hs'.on λtm2 hs2=>endW.r2 (hs2.get rfl) (hs2.get rfl) hq
theorem OH {l:List Int}(h:OC l=0):kK (jj l)=true/\1<=(jj l).length/\(jj l).length<=255:=by
 obtain⟨l1,l2,hin⟩:=JY h;refine⟨?_,by rw[Xi];omega,by rw[Xi];omega⟩;have hm:=zDJ hin;unfold kK;rw[List.all_eq_true];intro x hx;have hx2:x∈trn (ju l) l:=(List.dropLast_sublist _).subset hx;unfold trn at hx2;obtain⟨y,hy,rfl⟩:=List.mem_map.1 hx2;have hr:=jo hin hy;have hg:y<=(ju l:Int):=by
  rw[<-zDB];exact(qn (l:=l) (a:=0)).2 y hy
 rw[oG,decide_eq_true_eq,decide_eq_true_eq];split<;>omega
def zBO (w:List Int):V:=if 0<(xL w 2).length then .tuple [.str (jL (xL w 2) (xL w 2).length),.int .i64 0] else .tuple [.str [],.int .i64 7]
def ZO (l:List Int):V:=if OC l=0 then zBO (jj l) else .tuple [.str [],.int .i64 (OC l)]
theorem zGv (w:List Int):Plain (zBO w):=by unfold zBO;split<;>exact zd (by kernel_rfl)
theorem zIJ (l:List Int):Plain (ZO l):=by
 unfold ZO;split
 ·exact zGv _
 ·exact zd (by kernel_rfl)
theorem jH {v:V}{l:List Int}(sl:Sl h v 1 l.length (zJ l)) (hl:l.length<4611686018427387904) (hn:h.nx+3000<=T.top) (hlow:h.low<=T.top) (hq:Q (ZO l) h):RF P zA 16 [v] h Q:=by
 refine RF.forget (n:=700) (v:=ZO l) ?_ (zIJ l) hq;refine yD z6I rfl rfl z6t (Jb sl hl (by omega) hlow λh1 v1 x1 hv=>⟨_,_,rfl,λc=>?_,λc=>?_⟩)
 ·exact⟨by unfold ZO;rw[if_neg c],x1.mono (by omega)⟩
 ·have c0:OC l=0:=by omega
  obtain⟨_,s1⟩:=hv c0;rw[if_pos c0];obtain⟨i1,i2,i3⟩:=OH c0;have t1:=x1.top;have l1:=x1.low;refine zDI s1 i1 i3 (by omega) (by omega) λh5 v5 x5 ow5=>?_
  have t5:=x5.top;obtain⟨b0,b1,hbb⟩:∃b0 b1,jp (jj l) 2=[b0,b1]:=by
   have:=Xu (jj l) 2
   match jp (jj l) 2,this with
   | [b0,b1],_=>exact⟨b0,b1,rfl⟩
  rw[hbb];refine⟨_,b0,b1,rfl,by omega,?_⟩;rintro p9 h10 rfl e10;have n10:h10.nx=h5.nx+1:=by rw[e10,zG]
  have w10:=(Vw.nil (S:=zR) (h:=h5)).new (o:=oB2 (.ls [.bool false,.bool false])) e10 (by omega);obtain⟨h11,e11,w11,n11,_⟩:=w10.st (cx:=zA) 0 (t:=64) (f:=0) (u:=.agg [.bool b0,.bool b1]) rfl (by omega) zLY rfl (oJ _) rfl rfl;have x11:=w11.ex0;have hc:(xL (jj l) 2).length<=2:=by
   unfold xL;exact oQ (List.length_filterMap_le _ _) (by rw[List.length_range];exact oP _)
  have hx:Ext h h11 700:=((x1.trans x5).trans x11).mono (by omega);have ew:ZO l=zBO (jj l):=by unfold ZO;rw[if_pos c0]
  refine⟨h11,e11,zNb (ow5.ext x11).sl (by omega) ⟨_,_,rfl,λc2=>?_,λc2=>?_⟩⟩
  ·have:=of_decide_eq_true c2
   exact⟨by rw[ew];unfold zBO;rw[if_pos this],hx⟩
  ·have:=of_decide_eq_false c2
   exact⟨by rw[ew];unfold zBO;rw[if_neg this],hx⟩
theorem zJA (l:List Int):jp l 2=[(jN l).isSome,(wF l).isSome]:=by
 show(if (Ob l 1).isSome=true then (jp l 1).set 1 true else jp l 1)=_;have e1:jp l 1=[(jN l).isSome,false]:=by
  show(if (Ob l 0).isSome=true then [false,false].set 0 true else [false,false])=_;show(if (jN l).isSome=true then [false,false].set 0 true else [false,false])=_;cases (jN l).isSome<;>rfl
 rw[e1];show(if (wF l).isSome=true then [(jN l).isSome,false].set 1 true else [(jN l).isSome,false])=_;cases (wF l).isSome<;>rfl
theorem zXd {l:List Int}(h:jz l=0):kK l=true/\1<=l.length/\l.length<=255:=by
 unfold jz at h;by_cases c:l.length<1\/255<l.length
 ·rw[if_pos c]at h;cases h
 ·rw[if_neg c]at h
  by_cases d:kK l=true
  ·exact⟨d,by omega,by omega⟩
  ·rw[if_neg d]at h;cases h
def J5 (l:List Int):V:=if jz l=0 then zHY (wF l) else .tuple [.str [],.int .i64 (jz l)]
theorem zHD (l:List Int):Plain (J5 l):=by
 unfold J5;split
 ·exact zAQ _
 ·exact zd (by kernel_rfl)
theorem ZE {v:V}{l:List Int}(sl:Sl h v 1 l.length (zJ l)) (hl:l.length<4611686018427387904) (hn:h.nx+4000<=T.top) (hlow:h.low<=T.top) (hq:Q (J5 l) h):RF P zA 18 [v] h Q:=by
 refine RF.forget (n:=700) (v:=J5 l) ?_ (zHD l) hq;refine yD z6J rfl rfl z6u (Xz sl hl ⟨_,rfl,λc=>⟨by unfold J5;rw[if_neg c],(Ext.refl h).mono (by omega)⟩,λc=>?_⟩)
 have c0:jz l=0:=by omega
 obtain⟨i1,i2,i3⟩:=zXd c0;have ef:J5 l=zHY (wF l):=by unfold J5;rw[if_pos c0]
 refine zDI sl i1 i3 (by omega) hlow λh4 v4 x4 ow4=>?_
 have t4:=x4.top;have l4:=x4.low;rw[zJA];refine⟨_,_,_,rfl,by omega,?_⟩;rintro p8 h9 rfl e9;have n9:h9.nx=h4.nx+1:=by rw[e9,zG]
 have w9:=(Vw.nil (S:=zR) (h:=h4)).new (o:=oB2 (.ls [.bool false,.bool false])) e9 (by omega);obtain⟨h10,e10,w10,n10,_⟩:=w9.st (cx:=zA) 0 (t:=64) (f:=0) (u:=.agg [.bool (jN l).isSome,.bool (wF l).isSome]) rfl (by omega) zLY rfl (oJ _) rfl rfl;have x10:=w10.ex0;have l10:=w10.low;have hx:Ext h h10 700:=(x4.trans x10).mono (by omega);refine⟨h10,e10,_,_,XV,_,w10.ld1 0 rfl ty4 rfl rfl,λc2=>?_,λc2=>?_⟩
 ·refine Y4 (sl.ext hx) i1 i3 (by omega) (by omega) ?_
  have ef2:=ef;cases hc:wF l with
  | some s=>rw[hc]at ef2;exact⟨s,0,rfl,ef2.symm,hx⟩
  | none=>rw[hc]at ef2;exact⟨[],7,rfl,ef2.symm,hx⟩
 ·cases hc:wF l with
  | some s=>rw[hc]at c2;cases c2
  | none=>rw[hc]at ef;exact⟨ef.symm,hx⟩
def zDR (l:List Int):V:=if OC l=0 then .tuple [.bool (jN (jj l)).isSome,.bool (wF (jj l)).isSome,.int .i64 0] else .tuple [.bool false,.bool false,.int .i64 (OC l)]
theorem zH0 (l:List Int):Plain (zDR l):=by unfold zDR;split<;>exact zd (by kernel_rfl)
theorem Kq {v:V}{l:List Int}(sl:Sl h v 1 l.length (zJ l)) (hl:l.length<4611686018427387904) (hn:h.nx+3000<=T.top) (hlow:h.low<=T.top) (hq:Q (zDR l) h):RF P zA 22 [v] h Q:=by
 refine RF.forget (n:=700) (v:=zDR l) ?_ (zH0 l) hq;refine yD z6K rfl rfl z6v (Jb sl hl (by omega) hlow λh1 v1 x1 hv=>⟨_,_,rfl,λc=>?_,λc=>?_⟩)
 ·exact⟨by unfold zDR;rw[if_neg c],x1.mono (by omega)⟩
 ·have c0:OC l=0:=by omega
  obtain⟨_,s1⟩:=hv c0;rw[if_pos c0];obtain⟨i1,i2,i3⟩:=OH c0;have t1:=x1.top;have l1:=x1.low;have ep:zDR l = .tuple [.bool (jN (jj l)).isSome,.bool (wF (jj l)).isSome,.int .i64 0]:=by unfold zDR;rw[if_pos c0]
  refine zDI s1 i1 i3 (by omega) (by omega) λh5 v5 x5 ow5=>?_
  have t5:=x5.top;have l5:=x5.low;rw[zJA];refine⟨_,_,_,rfl,by omega,?_⟩;rintro p9 h10 rfl e10;have n10:h10.nx=h5.nx+1:=by rw[e10,zG]
  have w10:=(Vw.nil (S:=zR) (h:=h5)).new (o:=oB2 (.ls [.bool false,.bool false])) e10 (by omega);obtain⟨h11,e11,w11,n11,_⟩:=w10.st (cx:=zA) 0 (t:=64) (f:=0) (u:=.agg [.bool (jN (jj l)).isSome,.bool (wF (jj l)).isSome]) rfl (by omega) zLY rfl (oJ _) rfl rfl;have l11:=w11.low;have hx:Ext h h11 700:=((x1.trans x5).trans w11.ex0).mono (by omega);refine⟨h11,e11,⟨by omega,by omega⟩,_,_,zEN,_,w11.ld1 0 rfl ty4 rfl rfl,λc2=>⟨_,_,XV,_,w11.ld1 0 rfl ty4 rfl rfl,λc3=>?_,λc3=>?_⟩,λc2=>⟨_,_,XV,_,w11.ld1 0 rfl ty4 rfl rfl,λc3=>?_,λc3=>?_⟩⟩
  all_goals
   rw[c2,c3]at ep;exact⟨ep.symm,hx⟩
theorem Ja (a:Int):eqF a a=true:=by rw[jO];simp
theorem zFU (x y:Nat) (a b c d:Int):yH zA .eql 26 (t x) (t y) (.agg [.int .i64 a,.int .i64 b]) (.agg [.int .i64 c,.int .i64 d])=(match (match some (eqF a c)with|some true=>(match some (eqF b d)with|some true=>some true|r=>r)|r=>r)with|some r=>some (.bool r)|none=>none):=by kernel_rfl
theorem zI0 {a b:Int}(hn:h.nx<T.top):∃h',zF zA 23 2 [(0,.int .i64 a),(1,.int .i64 b)] h=some (.slice h.nx 0 2 (.exact 2),h')/\Sl h' (.slice h.nx 0 2 (.exact 2)) 1 2 (zJ [a,b])/\Ext h h' 1:=by
 have e:zF zA 23 2 [(0,.int .i64 a),(1,.int .i64 b)] h=(match (cond (Nat.blt h.nx T.top) (some (h.nx,h.new (.cells (.ls [.int .i64 a,.int .i64 b]) ⟨0,3+1,0⟩ true false))) none:Option (Nat×H))with|some (b,h')=>some (.slice b 0 2 (.exact 2),h')|none=>none):=by kernel_rfl
 rw[(zY _ _).2 hn,oK]at e;exact⟨_,e,⟨rfl,.inr ⟨h.nx,0,_,_,_,_,_,rfl,by rw[zG];omega,zZ _ hn,λi hi=>by
  rcases i with _|_|i
  ·rfl
  ·rfl
  ·exact absurd hi (by omega)⟩⟩,Ext.new _ hn⟩
theorem zQp {a b c:Int}(hn:h.nx<T.top):∃h',zF zA 23 3 [(0,.int .i64 a),(1,.int .i64 b),(2,.int .i64 c)] h=some (.slice h.nx 0 3 (.exact 3),h')/\Sl h' (.slice h.nx 0 3 (.exact 3)) 1 3 (zJ [a,b,c])/\Ext h h' 1:=by
 have e:zF zA 23 3 [(0,.int .i64 a),(1,.int .i64 b),(2,.int .i64 c)] h=(match (cond (Nat.blt h.nx T.top) (some (h.nx,h.new (.cells (.ls [.int .i64 a,.int .i64 b,.int .i64 c]) ⟨0,3+1,0⟩ true false))) none:Option (Nat×H))with|some (b,h')=>some (.slice b 0 3 (.exact 3),h')|none=>none):=by kernel_rfl
 rw[(zY _ _).2 hn,oK]at e;exact⟨_,e,⟨rfl,.inr ⟨h.nx,0,_,_,_,_,_,rfl,by rw[zG];omega,zZ _ hn,λi hi=>by
  rcases i with _|_|_|i
  ·rfl
  ·rfl
  ·rfl
  ·exact absurd hi (by omega)⟩⟩,Ext.new _ hn⟩
theorem Ox {v:V}{l:List Int}{s:List UInt8}(sl:Sl h v 1 l.length (zJ l)) (hl:l.length<1000) (hw:ZO l = .tuple [.str s,.int .i64 0]) (hn:h.nx+3000<=T.top) (lo:h.low<=T.top) (hq:Q (.bool true) h):RF P zA 37 [v,.str s] h Q :=
 yD z6P rfl rfl z7A (jH sl (by omega) hn lo ⟨_,_,hw,λ_=>⟨λ_=>hq,λc=>absurd rfl c⟩,λc=>absurd rfl c⟩)
theorem zQz:Zk [128,16] 0=⟨[1,1],2,0,0⟩:=by kernel_rfl
theorem zZS:ZO [1,1] = .tuple [.str [128,16],.int .i64 0]:=by kernel_rfl
theorem zZT:ZO [2,2,1] = .tuple [.str [129,17],.int .i64 0]:=by kernel_rfl
theorem zRD:RF P zA 9 [] H0 λv _=>v = .bool true:=by
 have top:(H0.nx:Nat)+7000<=T.top:=of_decide_eq_true (by kernel_rfl);refine yD fn9 rfl rfl vb9 (zAl (s:=[128,16]) (at':=0) (by decide) (by omega) (oP _) λh1 v2 x1 s1 _=>?_)
 rw[zQz]at s1 ⊢;have s1:Sl h1 v2 1 2 (zJ [1,1]):=s1;have t1:=x1.top;refine⟨_,_,_,_,rfl,by omega,?_⟩;rintro p6 h7 rfl e7;have w7:=(Vw.nil (S:=zR) (h:=h1)).new e7 (by omega);have n7:h7.nx=h1.nx+1:=by rw[e7,zG]
 obtain⟨h8,e8,w8,n8,_⟩:=w7.st (cx:=zA) 0 (f:=0) (u:=flt 0 0) rfl (by omega) xU rfl (oJ _) rfl rfl;have l8:h8.low<=T.top:=oQ w8.ex0.low (oQ x1.low (oP _));obtain⟨h10,e10,s10,x10⟩:=zI0 (h:=h8) (a:=1) (b:=1) (by omega);have t10:=x10.top;have l10:=oQ x10.low l8;refine⟨h8,e8,_,h10,e10,Ox (l:=[1,1]) s10 (by decide) zZS (by omega) l10 ⟨true,rfl,λ_=>?_,λg=>(by cases g)⟩⟩
 obtain⟨h15,e15,s15,x15⟩:=zQp (h:=h10) (a:=2) (b:=2) (c:=1) (by omega);have t15:=x15.top;have l15:=oQ x15.low l10;refine⟨_,h15,e15,Ox (l:=[2,2,1]) s15 (by decide) zZT (by omega) l15 ⟨true,rfl,λ_=>?_,λg=>(by cases g)⟩⟩
 obtain⟨h20,e20,s20,x20⟩:=zI0 (h:=h15) (a:=1) (b:=1) (by omega);have t20:=x20.top;have l20:=oQ x20.low l15;have x8:=((w8.ex0.trans x10).trans x15).trans x20;have w20:=((w8.ext x10).ext x15).ext x20;refine⟨_,h20,e20,zFy (l:=[1,1]) (s1.ext x8) s20 (by decide) (by omega) l20 ⟨true,rfl,λ_=>⟨λ_=>⟨_,_,w20.ldA 0 rfl xU rfl rfl,true,by rw[zFU,Ja],λ_=>rfl,λg=>(by cases g)⟩,λc=>absurd rfl c⟩,λg=>(by cases g)⟩⟩
theorem zBu (hq:Q (.bool true) h):RF P zA 9 [] h Q:=by
 obtain⟨v,h',⟨hf,s⟩,rfl⟩:=zRD;exact⟨_,h,⟨hf,s.frame⟩,hq⟩
theorem zA7 {α}:(t:List α)->(j:Nat)->(x:α)->(h:j<t.length)->(t[j]::t.set j x).Perm (x::t)
 | [],_,_,h=>by simp at h
 | y::t,0,x,_=>by simp;exact List.Perm.swap _ _ _
 | y::t,j+1,x,h=>by
  have h':j<t.length:=by simpa using h
  have ih:=zA7 t j x h';simp only[List.getElem_cons_succ,List.set_cons_succ];exact(List.Perm.swap _ _ _).trans ((ih.cons y).trans (List.Perm.swap _ _ _))
def swp {α}(l:List α) (i j:Nat):List α:=match l[i]?,l[j]? with|some x,some y=>(l.set i y).set j x|_,_=>l
theorem zHt {α}{l:List α}{i j:Nat}(hi:i<l.length) (hj:j<l.length):swp l i j=(l.set i l[j]).set j l[i]:=by
 simp[swp,oO hi,oO hj]
theorem zCK {α}:(l:List α)->(i j:Nat)->(hi:i<l.length)->(hj:j<l.length)->((l.set i l[j]).set j l[i]).Perm l
 | [],_,_,h,_=>by simp at h
 | x::t,0,0,_,_=>by simp
 | x::t,0,j+1,_,hj=>by
  have h':j<t.length:=by simpa using hj
  simp only[List.getElem_cons_succ,List.set_cons_zero,List.set_cons_succ,List.getElem_cons_zero];exact zA7 t j x h'
 | x::t,i+1,0,hi,_=>by
  have h':i<t.length:=by simpa using hi
  simp only[List.getElem_cons_succ,List.set_cons_succ,List.getElem_cons_zero,List.set_cons_zero];exact zA7 t i x h'
 | x::t,i+1,j+1,hi,hj=>by
  simp only[List.getElem_cons_succ,List.set_cons_succ];exact(zCK t i j (by simpa using hi) (by simpa using hj)).cons x
theorem JJ {α}(l:List α) (i j:Nat):(swp l i j).Perm l:=by
 by_cases hi:i<l.length
 ·by_cases hj:j<l.length
  ·rw[zHt hi hj];exact zCK l i j hi hj
  ·unfold swp;rw[og (by omega:l.length<=j)];split<;>first|exact List.Perm.refl _|simp_all
 ·unfold swp;rw[og (by omega:l.length<=i)]
theorem XO {α}(l:List α) (i j:Nat):(swp l i j).length=l.length:=by
 unfold swp;split<;>simp
theorem zDl {α}{l:List α}{i j:Nat}(hi:i<l.length) (hj:j<l.length) (k:Nat):(swp l i j)[k]? = if k=j then l[i]? else if k=i then l[j]? else l[k]?:=by
 rw[zHt hi hj,List.getElem?_set,List.getElem?_set,oh];by_cases a:k=j
 ·subst a;simp[hj,oO hi]
 ·by_cases b:k=i
  ·subst b
   rw[if_neg (by omega),if_pos rfl,if_pos hi,if_neg a,if_pos rfl,oO hj]
  ·rw[if_neg (by omega),if_neg (by omega),if_neg a,if_neg b]
def UpI (w:Nat->Int) (n j:Nat):Prop:=j<n/\(∀k,0<k->k<n->k≠j->w ((k-1)/2)<=w k)/\(∀k,k<n->0<k->(k-1)/2=j->0<j->w ((j-1)/2)<=w k)
def HpI (w:Nat->Int) (n:Nat):Prop:=∀k,0<k->k<n->w ((k-1)/2)<=w k
def DnI (w:Nat->Int) (n i:Nat):Prop:=(∀k,0<k->k<n->(k-1)/2≠i->w ((k-1)/2)<=w k)/\(∀k,k<n->0<k->(k-1)/2=i->0<i->w ((i-1)/2)<=w k)
def sw (w:Nat->Int) (i j:Nat):Nat->Int:=λk=>if k=j then w i else if k=i then w j else w k
theorem zJU {w n j}(h:UpI w n j) (c:j=0\/w ((j-1)/2)<=w j):HpI w n:=by
 intro k h0 hn;by_cases e:k=j
 ·subst e;rcases c with c|c
  ·omega
  ·exact c
 ·exact h.2.1 k h0 hn e
theorem zSB {w n j}(h:UpI w n j) (h0:0<j) (c:w j<=w ((j-1)/2)):UpI (sw w ((j-1)/2) j) n ((j-1)/2):=by
 obtain⟨hn,h1,h2⟩:=h;have hi:(j-1)/2<j:=by omega
 refine⟨by omega,λk k0 kn ki=>?_,λk kn k0 kp i0=>?_⟩
 ·unfold sw
  by_cases e:k=j
  ·subst e
   rw[if_neg (by omega),if_pos rfl,if_pos rfl];exact c
  ·rw[if_neg e,if_neg ki]
   have:=h1 k k0 kn e;by_cases q:(k-1)/2=j
   ·rw[if_pos q];exact h2 k kn k0 q h0
   ·rw[if_neg q]
    by_cases q2:(k-1)/2=(j-1)/2
    ·rw[if_pos q2];rw[q2]at this;omega
    ·rw[if_neg q2];exact this
 ·unfold sw
  have hp:=h1 ((j-1)/2) i0 (by omega) (by omega);rw[if_neg (by omega:((j-1)/2-1)/2≠j),if_neg (by omega:((j-1)/2-1)/2≠(j-1)/2)];by_cases e:k=j
  ·rw[if_pos e];exact hp
  ·rw[if_neg e,if_neg (by omega)]
   have:=h1 k k0 kn e;rw[kp]at this;omega
theorem zIa {w n i}(h:DnI w n i) (c:∀k,k<n->0<k->(k-1)/2=i->w i<=w k):HpI w n:=by
 intro k h0 hn;by_cases e:(k-1)/2=i
 ·rw[e];exact c k hn h0 e
 ·exact h.1 k h0 hn e
theorem zQx {w n i j}(h:DnI w n i) (hj:j<n) (j0:0<j) (hp:(j-1)/2=i) (c:w j<=w i) (m:∀k,k<n->0<k->(k-1)/2=i->w j<=w k):DnI (sw w i j) n j:=by
 obtain⟨h1,h2⟩:=h;refine⟨λk k0 kn kj=>?_,λk kn k0 kp _=>?_⟩
 ·unfold sw
  rw[if_neg kj];by_cases e:(k-1)/2=i
  ·rw[if_pos e]
   by_cases q:k=j
   ·rw[if_pos q];exact c
   ·rw[if_neg q,if_neg (by omega)];exact m k kn k0 e
  ·rw[if_neg e]
   by_cases q:k=j
   ·subst q;omega
   ·rw[if_neg q]
    by_cases q2:k=i
    ·rw[if_pos q2];subst q2;exact h2 j hj j0 hp k0
    ·rw[if_neg q2];exact h1 k k0 kn e
 ·unfold sw
  rw[hp,if_neg (by omega),if_pos rfl,if_neg (by omega),if_neg (by omega)];have:=h1 k k0 kn (by omega);rw[kp]at this;exact this
theorem zXF {w n}(h:HpI w n):∀k,k<n->w 0<=w k:=by
 intro k
 induction k using Nat.strongRecOn with
 | _ k ih =>
  intro hk;by_cases e:k=0
  ·subst e;exact Int.le_refl _
  ·have:=ih ((k-1)/2) (by omega) (by omega)
   have:=h k (by omega) hk;omega
theorem zXG {w n}(h:HpI w (n+1)):DnI (sw w 0 n) n 0:=by
 refine⟨λk k0 kn kj=>?_,λk kn k0 kp i0=>by omega⟩
 unfold sw;rw[if_neg (by omega),if_neg kj,if_neg (by omega),if_neg (by omega)];exact h k k0 (by omega)
theorem zRL {w n}(h:HpI w n):UpI w (n+1) n:=by
 refine⟨by omega,λk k0 kn kj=>h k k0 (by omega),λk kn k0 kp i0=>by omega⟩
theorem HpI.congr {w v n}(h:HpI w n) (e:∀k,k<n->w k=v k):HpI v n:=by
 intro k k0 kn;rw[<-e k kn,<-e _ (by omega)];exact h k k0 kn
inductive HT where
 | leaf (n:Int) (s:Nat)
 | join (g:Nat) (a b:HT)
def HT.cnt:HT->Int | .leaf n _=>n | .join _ a b=>a.cnt+b.cnt
def HT.hgt:HT->Nat | .leaf _ _=>0 | .join _ a b=>max a.hgt b.hgt+1
def HT.cw:HT->Int | .leaf _ _=>0 | .join _ a b=>max a.cnt b.cnt
def HT.nice:HT->Prop | .leaf n _=>1<=n | .join _ a b=>a.nice/\b.nice/\a.cw<=b.cnt/\b.cw<=a.cnt
def HT.lv:HT->Nat->List (Nat×Nat) | .leaf _ s,d=>[(s,d)] | .join _ a b,d=>a.lv (d+1)++b.lv (d+1)
def HT.ls:HT->List (Nat×Int) | .leaf n s=>[(s,n)] | .join _ a b=>a.ls++b.ls
def F:Nat->Int|0=>1|1=>2|k+2=>F (k+1)+F k
theorem zLf:(k:Nat)->1<=F k
 | 0=>by decide
 | 1=>by decide
 | k+2=>by have:=zLf k;have:=zLf (k+1);show 1<=F (k+1)+F k;omega
theorem zV1 (k:Nat):F k<=F (k+1):=by
 cases k with
 | zero=>decide
 | succ k=>show F (k+1)<=F (k+1)+F k;have:=zLf k;omega
theorem zYg {a b:Nat}(h:a<=b):F a<=F b:=by
 induction h with
 | refl=>exact Int.le_refl _
 | @step m _ ih=>exact Int.le_trans ih (zV1 m)
theorem wU : {t:HT}->t.nice->1<=t.cnt
 | .leaf _ _,h=>h
 | .join _ a b,h=>by have:=wU h.1;have:=wU h.2.1;show 1<=a.cnt+b.cnt;omega
theorem zDK : {t:HT}->t.nice->F t.hgt<=t.cnt/\(∀k,t.hgt=k+1->F k<=t.cw)
 | .leaf n s,h=>⟨h,λk e=>by cases e⟩
 | .join g a b,h=>by
  obtain⟨ha,hb,h1,h2⟩:=h;have qa:=zDK ha;have qb:=zDK hb;have pa:=wU ha;have pb:=wU hb;show F (max a.hgt b.hgt+1)<=a.cnt+b.cnt/\(∀k,max a.hgt b.hgt+1=k+1->F k<=max a.cnt b.cnt);refine⟨?_,λk e=>?_⟩
  ·by_cases c:a.hgt<=b.hgt
   ·rw[Nat.max_eq_right c]
    cases e:b.hgt with
    | zero=>show(2:Int)<=_;omega
    | succ k =>
     have:=qb.2 k e;have:=qb.1;rw[e]at this;show F (k+1)+F k<=_;omega
   ·rw[Nat.max_eq_left (by omega)]
    cases e:a.hgt with
    | zero=>omega
    | succ k =>
     have:=qa.2 k e;have:=qa.1;rw[e]at this;show F (k+1)+F k<=_;omega
  ·have e:max a.hgt b.hgt=k:=by omega
   by_cases c:a.hgt<=b.hgt
   ·rw[Nat.max_eq_right c]at e;subst e;have:=qb.1;omega
   ·rw[Nat.max_eq_left (by omega)]at e;subst e;have:=qa.1;omega
theorem zKb {t:HT}(h:t.nice) (c:t.cnt<=376):t.hgt<=11:=by
 have:=(zDK h).1;by_cases q:t.hgt<=11
 ·exact q
 ·have:F 12<=F t.hgt:=zYg (by omega)
  have e:F 12=377:=by decide
  omega
structure Pool (l:List HT):Prop where
 nice:∀t∈l,t.nice
 cw:∀t∈l,∀u∈l,t.cw<=u.cnt
theorem Pool.perm {l r:List HT}(h:Pool l) (p:l.Perm r):Pool r :=
 ⟨λt m=>h.nice t (p.mem_iff.2 m),λt m u n=>h.cw t (p.mem_iff.2 m) u (p.mem_iff.2 n)⟩
theorem Pool.nil:Pool []:=⟨λ_ h=>by simp at h,λ_ h=>by simp at h⟩
theorem Pool.leaf {l:List HT}(h:Pool l) (a:∀t∈l,t.cw=0) {n s}(c:1<=n):Pool (.leaf n s::l):=by
 refine⟨λt m=>?_,λt m u m'=>?_⟩
 ·rcases od.1 m with e|m
  ·subst e;exact c
  ·exact h.nice t m
 ·have k:t.cw=0:=by
   rcases od.1 m with e|m
   ·subst e;rfl
   ·exact a t m
  rw[k];rcases od.1 m' with e|m'
  ·subst e;show 0<=n;omega
  ·have:=wU (h.nice u m');omega
theorem Pool.join {a b:HT}{l:List HT}(h:Pool (a::b::l)) (h1:∀u∈l,a.cnt<=u.cnt) (h2:∀u∈l,b.cnt<=u.cnt) (g:Nat):Pool (.join g a b::l):=by
 have ma:a∈a::b::l:=by simp
 have mb:b∈a::b::l:=by simp
 have ca:=wU (h.nice a ma);have cb:=wU (h.nice b mb);refine⟨λt m=>?_,λt m u m'=>?_⟩
 ·rcases od.1 m with e|m
  ·subst e;exact⟨h.nice a ma,h.nice b mb,h.cw a ma b mb,h.cw b mb a ma⟩
  ·exact h.nice t (by simp[m])
 ·rcases od.1 m with e|m
  ·subst e
   show max a.cnt b.cnt<=_;rcases od.1 m' with e|m'
   ·subst e;show _<=a.cnt+b.cnt;omega
   ·have:=h1 u m';have:=h2 u m';omega
  ·rcases od.1 m' with e|m'
   ·subst e
    have:=h.cw t (by simp[m]) a ma;show _<=a.cnt+b.cnt;omega
   ·exact h.cw t (by simp[m]) u (by simp[m'])
def qr (f:Nat->Int):List (Nat×Nat)->Int | []=>0|(_,d)::l=>f d+qr f l
theorem zMs (f:Nat->Int) (a b:List (Nat×Nat)):qr f (a++b)=qr f a+qr f b:=by
 induction a with
 | nil=>simp[qr]
 | cons x a ih=>simp only[List.cons_append,qr,ih];omega
theorem zMr (m:Nat):(t:HT)->(d:Nat)->d+t.hgt<=m->qr (λk=>2^(m-k)) (t.lv d)=2^(m-d)
 | .leaf _ _,d,_=>by simp[HT.lv,qr]
 | .join _ a b,d,h=>by
  have h':d+(max a.hgt b.hgt+1)<=m:=h;show qr _ (a.lv (d+1)++b.lv (d+1))=_;rw[zMs,zMr m a (d+1) (by omega),zMr m b (d+1) (by omega)];have:m-d=m-(d+1)+1:=by omega
  rw[this,Int.pow_succ];omega
theorem zBx:(t:HT)->(d:Nat)->∀x∈t.lv d,d<=x.2/\x.2<=d+t.hgt
 | .leaf _ _,d,x,h=>by simp[HT.lv]at h;subst h;exact⟨oP _,by simp[HT.hgt]⟩
 | .join _ a b,d,x,h=>by
  have h':x∈a.lv (d+1)++b.lv (d+1):=h;show _/\x.2<=d+(max a.hgt b.hgt+1);rcases List.mem_append.1 h' with h|h
  ·have:=zBx a _ x h;omega
  ·have:=zBx b _ x h;omega
theorem zDH:(t:HT)->(d:Nat)->∃x∈t.lv d,x.2=d+t.hgt
 | .leaf n s,d=>⟨(s,d),by simp[HT.lv],rfl⟩
 | .join g a b,d=>by
  by_cases c:a.hgt<=b.hgt
  ·obtain⟨x,m,e⟩:=zDH b (d+1)
   refine⟨x,List.mem_append.2 (Or.inr m),?_⟩;show x.2=d+(max a.hgt b.hgt+1);omega
  ·obtain⟨x,m,e⟩:=zDH a (d+1)
   refine⟨x,List.mem_append.2 (Or.inl m),?_⟩;show x.2=d+(max a.hgt b.hgt+1);omega
theorem zAJ:(t:HT)->(d:Nat)->(t.lv d).map (·.1)=t.ls.map (·.1)
 | .leaf _ _,_=>rfl
 | .join _ a b,d=>by
  show(a.lv (d+1)++b.lv (d+1)).map _=(a.ls++b.ls).map _;rw[List.map_append,List.map_append,zAJ a,zAJ b]
def ja:List (Nat×Int)->Int | []=>0|(_,n)::l=>n+ja l
theorem Z1 (a b:List (Nat×Int)):ja (a++b)=ja a+ja b:=by
 induction a with
 | nil=>simp[ja]
 | cons x a ih=>simp only[List.cons_append,ja,ih];omega
theorem Yq:(t:HT)->t.cnt=ja t.ls
 | .leaf n s=>by simp[HT.cnt,HT.ls,ja]
 | .join _ a b=>by
  show a.cnt+b.cnt=ja (a.ls++b.ls);rw[Z1,Yq a,Yq b]
theorem YF {a b:List (Nat×Int)}(h:a.Perm b):ja a=ja b:=by
 induction h with
 | nil=>rfl
 | cons x _ ih=>simp[ja,ih]
 | swap x y l=>simp only[ja];omega
 | trans _ _ a b=>omega
def jK:List Int->List (Nat×Nat)->List Int|o,[]=>o|o,(s,d)::l=>jK (o.set s (d:Int)) l
theorem zKT (o:List Int) (a b:List (Nat×Nat)):jK o (a++b)=jK (jK o a) b:=by
 induction a generalizing o with
 | nil=>rfl
 | cons x a ih=>exact ih _
theorem X3 (o:List Int) (a:List (Nat×Nat)):(jK o a).length=o.length:=by
 induction a generalizing o with
 | nil=>rfl
 | cons x a ih=>show(jK _ a).length=_;rw[ih];simp
def fsm (f:Int->Int):List Int->Int | []=>0|x::l=>f x+fsm f l
theorem zIf (f:Int->Int):(l:List Int)->(i:Nat)->(x y:Int)->l[i]? = some x->fsm f (l.set i y)=fsm f l-f x+f y
 | [],_,_,_,h=>by simp at h
 | a::l,0,x,y,h=>by simp at h;subst h;simp only[List.set_cons_zero,fsm];omega
 | a::l,i+1,x,y,h=>by
  simp only[List.set_cons_succ,fsm,zIf f l i x y (by simpa using h)];omega
theorem zKU (o:List Int) (a:List (Nat×Nat)) (k:Nat) (h:∀x∈a,x.1≠k):(jK o a)[k]? = o[k]?:=by
 induction a generalizing o with
 | nil=>rfl
 | cons x a ih =>
  show(jK _ a)[k]? = _;rw[ih _ (λy m=>h y (by simp[m])),List.getElem?_set,if_neg (h x (by simp))]
theorem zKV (f:Int->Int) (f0:f 0=0) (o:List Int) (a:List (Nat×Nat)) (nd:(a.map (·.1)).Nodup) (z:∀x∈a,o[x.1]? = some 0):fsm f (jK o a)=fsm f o+qr (λd=>f d) a:=by
 induction a generalizing o with
 | nil=>simp[jK,qr]
 | cons x a ih =>
  have nd':=List.nodup_cons.1 (by simpa using nd:(x.1::a.map (·.1)).Nodup);show fsm f (jK (o.set x.1 (x.2:Int)) a)=_+(f x.2+qr _ a);rw[ih _ nd'.2 (λy m=>?_),zIf f o x.1 0 x.2 (z x (by simp)),f0]
  ·omega
  ·rw[List.getElem?_set,if_neg]
   ·exact z y (by simp[m])
   ·intro e;exact nd'.1 (e ▸ List.mem_map.2 ⟨y,m,rfl⟩)
theorem zEm (o:List Int) (a:List (Nat×Nat)) (nd:(a.map (·.1)).Nodup) (z:∀x∈a,x.1<o.length):∀x∈a,(jK o a)[x.1]? = some (x.2:Int):=by
 induction a generalizing o with
 | nil=>intro x h;simp at h
 | cons y a ih =>
  have nd':=List.nodup_cons.1 (by simpa using nd:(y.1::a.map (·.1)).Nodup);intro x h;show(jK (o.set y.1 (y.2:Int)) a)[x.1]? = _;rcases od.1 h with e|h
  ·subst e
   rw[zKU _ _ _ (λw m e=>nd'.1 (List.mem_map.2 ⟨w,m,e⟩)),List.getElem?_set,if_pos rfl,if_pos (z x (by simp))]
  ·exact ih _ nd'.2 (λw m=>by rw[oh];exact z w (by simp[m])) x h
def pos (own:List Int):Nat->List (Nat×Int)
 | 0=>[]
 | k+1=>pos own k++(if 0<own[k]?.getD 0 then [(k,own[k]?.getD 0)] else [])
theorem zDT (own:List Int):(k:Nat)->∀x∈pos own k,x.1<k/\own[x.1]?.getD 0=x.2/\0<x.2
 | 0,x,h=>by simp[pos]at h
 | k+1,x,h=>by
  rcases List.mem_append.1 h with h|h
  ·have:=zDT own k x h;exact⟨by omega,this.2⟩
  ·split at h
   ·rename_i c;simp at h;subst h;exact⟨by simp,rfl,c⟩
   ·simp at h
theorem zH1 (own:List Int):(k:Nat)->((pos own k).map (·.1)).Nodup
 | 0=>by simp[pos]
 | k+1=>by
  show((pos own k++_).map _).Nodup;rw[List.map_append];refine List.nodup_append.2 ⟨zH1 own k,?_,λa ha b hb e=>?_⟩
  ·split<;>simp
  ·obtain⟨x,hx,rfl⟩:=List.mem_map.1 ha
   have:=(zDT own k x hx).1;split at hb<;>simp at hb;omega
theorem zOE {own:List Int} : {k:Nat}->{i:Nat}->i<k->0<own[i]?.getD 0->1<=(pos own k).length
 | 0,_,h,_=>by omega
 | k+1,i,h,p=>by
  show 1<=(pos own k++_).length;rw[oU];by_cases e:i=k
  ·subst e;rw[if_pos p];simp
  ·have:=zOE (k:=k) (by omega) p;omega
def lz (l:List Int):Nat->Nat|0=>0|k+1=>if l[k]?.getD 0≠0 then k else lz l k
theorem zFY (l:List Int):(k:Nat)->lz l k<=k-1/\(∀i,i<k->lz l k<i->l[i]?.getD 0=0)/\((∃i,i<k/\l[i]?.getD 0≠0)->l[lz l k]?.getD 0≠0)
 | 0=>⟨oP _,λi h=>by omega,λ⟨i,h,_⟩=>by omega⟩
 | k+1=>by
  obtain⟨h1,h2,h3⟩:=zFY l k;unfold lz;by_cases c:l[k]?.getD 0≠0
  ·rw[if_pos c];exact⟨by omega,λi a b=>by omega,λ_=>c⟩
  ·rw[if_neg c]
   refine⟨by omega,λi a b=>?_,λ⟨i,a,b⟩=>h3 ⟨i,?_,b⟩⟩
   ·by_cases e:i=k
    ·subst e;omega
    ·exact h2 i (by omega) b
   ·by_cases e:i=k
    ·subst e;exact absurd b c
    ·omega
def yj (l:List Int):List Int:=l.take (lz l l.length+1)
theorem zRF (f:Int->Int) (a b:List Int):fsm f (a++b)=fsm f a+fsm f b:=by
 induction a with
 | nil=>simp[fsm]
 | cons x a ih=>simp only[List.cons_append,fsm,ih];omega
theorem zFE (f:Int->Int) (f0:f 0=0) (l:List Int) (h:∀x∈l,x=0):fsm f l=0:=by
 induction l with
 | nil=>rfl
 | cons x l ih=>simp only[fsm,h x (by simp),f0,ih λy m=>h y (by simp[m])];rfl
theorem zGK (l:List Int):∃r,l=yj l++r/\∀x∈r,x=0:=by
 refine⟨l.drop (lz l l.length+1),(List.take_append_drop _ _).symm,λx hx=>?_⟩
 obtain⟨i,hi,e⟩:=List.mem_iff_getElem.1 hx;rw[List.getElem_drop]at e;rw[List.length_drop]at hi;have:=(zFY l l.length).2.1 (lz l l.length+1+i) (by omega) (by omega);rw[oO (by omega)]at this;rw[<-e];exact this
theorem zNf (m:Nat) (l:List Int):((Za m l:Nat):Int)=fsm (λx=>(lone m x:Nat)) l:=by
 induction l with
 | nil=>rfl
 | cons x l ih=>simp only[fsm,<-ih];simp[Za]
theorem zQs (l:List Int):((cnt l:Nat):Int)=fsm (λx=>if x≠0 then 1 else 0) l:=by
 induction l with
 | nil=>rfl
 | cons x l ih =>
  simp only[fsm,<-ih];by_cases c:x=0<;>simp[cnt,c];omega
theorem zAH {f g:Nat->Int}{l:List (Nat×Nat)}(h:∀x∈l,f x.2=g x.2):qr f l=qr g l:=by
 induction l with
 | nil=>rfl
 | cons x l ih=>obtain⟨a,b⟩:=x;simp only[qr];rw[h (a,b) (by simp),ih λy m=>h y (by simp[m])]
theorem zMt (l:List (Nat×Nat)):qr (λ_=>1) l=(l.length:Nat):=by
 induction l with
 | nil=>rfl
 | cons x l ih=>simp only[qr,ih,oV];omega
theorem zBh {o:List Int}{a:List (Nat×Nat)}{x:Int}(h:x∈jK o a):x∈o\/∃y∈a,x=(y.2:Int):=by
 induction a generalizing o with
 | nil=>exact Or.inl h
 | cons y a ih =>
  rcases ih h with h|⟨z,m,e⟩
  ·rcases List.mem_or_eq_of_mem_set h with h|h
   ·exact Or.inl h
   ·exact Or.inr ⟨y,by simp,h⟩
  ·exact Or.inr ⟨z,by simp[m],e⟩
theorem zRz {own:List Int}{t:HT}(h2:own.length<=256) (hp:(t.ls.map (·.1)).Perm ((pos own own.length).map (·.1))) (hh:t.hgt<=11) (two:2<=(pos own own.length).length):OC (yj (jK (List.replicate own.length 0) (t.lv 0)))=0:=by
 have nd:((t.lv 0).map (·.1)).Nodup:=by rw[zAJ];exact hp.symm.nodup (zH1 _ _)
 have hlt:∀x∈t.lv 0,x.1<own.length:=by
  intro x hx;have:x.1∈(t.lv 0).map (·.1):=List.mem_map.2 ⟨x,hx,rfl⟩;rw[zAJ]at this;obtain⟨y,hy,e⟩:=List.mem_map.1 (hp.mem_iff.1 this);rw[<-e];exact(zDT _ _ y hy).1
 have hz:∀x∈t.lv 0,(List.replicate own.length (0:Int))[x.1]? = some 0:=λx hx=>by
  rw[List.getElem?_replicate,if_pos (hlt x hx)]
 have hlen:(t.lv 0).length=(pos own own.length).length:=by
  have:=congrArg List.length (zAJ t 0);simp only[ol]at this;rw[this];simpa using hp.length_eq
 have hd1:∀x∈t.lv 0,1<=x.2:=by
  cases t with
  | leaf n s=>simp[HT.lv]at hlen;omega
  | join g a b =>
   intro x hx;have h':x∈a.lv 1++b.lv 1:=hx;rcases List.mem_append.1 h' with h|h
   ·exact(zBx a _ x h).1
   ·exact(zBx b _ x h).1
 have hd2:∀x∈t.lv 0,x.2<=t.hgt:=λx hx=>by have:=(zBx t 0 x hx).2;omega
 generalize ho:jK (List.replicate own.length 0) (t.lv 0)=out;have hol:out.length=own.length:=by rw[<-ho,X3,List.length_replicate]
 have hmem:∀x∈out,x=0\/∃y∈t.lv 0,x=(y.2:Int):=λx hx=>by
  rw[<-ho]at hx;rcases zBh hx with h|h
  ·exact Or.inl (List.eq_of_mem_replicate h)
  ·exact Or.inr h
 have hsum:∀f:Int->Int,f 0=0->fsm f out=qr (λd=>f d) (t.lv 0):=λf f0=>by
  rw[<-ho,zKV f f0 _ _ nd hz,zFE f f0 _ (λx hx=>List.eq_of_mem_replicate hx)];omega
 obtain⟨r,hr,r0⟩:=zGK out;have hsumt:∀f:Int->Int,f 0=0->fsm f (yj out)=qr (λd=>f d) (t.lv 0):=λf f0=>by
  rw[<-hsum f f0]
  conv=>rhs;rw[hr]
  rw[zRF,zFE f f0 r r0];omega
 have htm:∀x∈yj out,x∈out:=λx hx=>List.mem_of_mem_take hx
 have hnz:∀y∈t.lv 0,(y.2:Int)∈yj out:=by
  intro y hy;have h:=zEm (List.replicate own.length 0) (t.lv 0) nd (λx hx=>by rw[List.length_replicate];exact hlt x hx) y hy;rw[ho]at h;have m:(y.2:Int)∈out:=List.mem_of_getElem? h;rw[hr]at m;rcases List.mem_append.1 m with m|m
  ·exact m
  ·have:=r0 _ m;have:=hd1 y hy;omega
 have hmx:ju (yj out)=t.hgt:=by
  obtain⟨y,hy,e⟩:=zDH t 0;have h1:=zHJ (hnz y hy);have h2:ju (yj out)<=t.hgt:=by
   have:=X8 (l:=yj out) (a:=0) (m:=t.hgt) (by omega) λx hx=>by
    rcases hmem x (htm x hx)with e|⟨y,hy,e⟩
    ·omega
    ·have:=hd2 y hy;omega
   unfold ju grt;omega
  omega
 have hcnt:cnt (yj out)=(t.lv 0).length:=by
  have:=zQs (yj out);rw[hsumt _ rfl,zAH (g:=λ_=>1) (λx hx=>by have:=hd1 x hx;rw[if_pos (by omega)]),zMt]at this
  omega
 have hls:Za (ju (yj out)) (yj out)=2^ju (yj out):=by
  have h:=zNf (ju (yj out)) (yj out);rw[hsumt _ rfl,hmx,zAH (g:=λk=>2^(t.hgt-k)) (λx hx=>?_),zMr t.hgt t 0 (by omega)]at h
  ·rw[hmx]
   have:((Za t.hgt (yj out):Nat):Int)=((2^t.hgt:Nat):Int):=by rw[h];simp
   omega
  ·have:=hd1 x hx
   unfold lone;rw[if_pos (by omega)];simp
 have hin:kK (yj out)=true:=by
  unfold kK;rw[List.all_eq_true];intro x hx;rcases hmem x (htm x hx)with e|⟨y,hy,e⟩
  ·subst e;decide
  ·have:=hd2 y hy
   simp only[oG,decide_eq_true_eq];omega
 have hcl:cnt (yj out)<=(yj out).length:=List.length_filter_le _ _;have htl:(yj out).length<=out.length:=by unfold yj;rw[List.length_take];omega
 have hlast:(yj out).getLast?≠some 0:=by
  have hne:∃i,i<out.length/\out[i]?.getD 0≠0:=by
   cases e:t.lv 0 with
   | nil=>rw[e]at hlen;simp at hlen;omega
   | cons y l =>
    have hy:y∈t.lv 0:=by rw[e];simp
    have m:=htm _ (hnz y hy);obtain⟨i,hi,e⟩:=List.mem_iff_getElem.1 m;refine⟨i,hi,?_⟩;rw[oO hi,e];have:=hd1 y hy;show(y.2:Int)≠0;omega
  have:=(zFY out out.length).2.2 hne;have hb:=(zFY out out.length).1;have h0:0<out.length:=by obtain⟨i,hi,_⟩:=hne;omega
  rw[List.getLast?_eq_getElem?];unfold yj;rw[List.length_take,Nat.min_eq_left (by omega),List.getElem?_take,if_pos (by omega)];intro e;simp only[Nat.add_sub_cancel]at e;rw[e]at this;exact this rfl
 unfold OC;rw[if_neg (by omega),if_pos hin,if_pos ⟨hlast,by omega,hls⟩]
abbrev HE:=Nat×HT
def ZN (l:List HE) (k:Nat):Int:=(l[k]?.map (λe=>e.2.cnt)).getD 0
theorem zU2 {l:List HE}{i j:Nat}(hi:i<l.length) (hj:j<l.length) (k:Nat):ZN (swp l i j) k=sw (ZN l) i j k:=by
 unfold ZN sw;rw[zDl hi hj];by_cases a:k=j
 ·rw[if_pos a,if_pos a]
 ·rw[if_neg a,if_neg a]
  by_cases b:k=i
  ·rw[if_pos b,if_pos b]
  ·rw[if_neg b,if_neg b]
theorem zDq {l:List HE}{i j:Nat}(hi:i<l.length) (hj:j<l.length):ZN (swp l i j)=sw (ZN l) i j:=funext (zU2 hi hj)
theorem zCR {l m:List HE}{k:Nat}(h:l[k]? = m[k]?):ZN l k=ZN m k:=by unfold ZN;rw[h]
structure Dn (n:Nat) (l m:List HE):Prop where
 perm:m.Perm l
 far:∀k,n<=k->m[k]? = l[k]?
 hp:HpI (ZN m) n
structure PopR (l:List HE) (x:HE) (m:List HE):Prop where
 perm:l.Perm (x::m)
 hp:HpI (ZN m) m.length
 least:∀y∈m,x.2.cnt<=y.2.cnt
structure PushR (l:List HE) (x:HE) (m:List HE):Prop where
 perm:m.Perm (x::l)
 hp:HpI (ZN m) m.length
theorem zU1 {l:List HE}{y:HE}(h:y∈l):∃k,k<l.length/\ZN l k=y.2.cnt:=by
 obtain⟨k,hk,e⟩:=List.mem_iff_getElem.1 h;refine⟨k,hk,?_⟩;unfold ZN;rw[oO hk,e];rfl
theorem zXZ {l m:List HE}{n:Nat}{x:HE}(hn:l.length=n+1) (hx:l[0]? = some x) (h:HpI (ZN l) (n+1)) (d:Dn n (swp l 0 n) m):m[n]? = some x/\m.length=n+1/\PopR l x (m.take n):=by
 have hl:m.length=n+1:=by rw[d.perm.length_eq,XO,hn]
 have hmn:m[n]? = some x:=by
  rw[d.far n (oP _),zDl (by omega) (by omega),if_pos rfl,hx]
 have hp:l.Perm (x::m.take n):=by
  have e:m=m.take n++[x]:=by
   conv=>lhs;rw[<-List.take_append_drop n m]
   congr 1
   have:n<m.length:=by omega
   rw[List.drop_eq_getElem_cons this,List.drop_eq_nil_of_le (by omega)];rw[oO this]at hmn;rw[Option.some.inj hmn]
  have p1:l.Perm m:=(d.perm.trans (JJ l 0 n)).symm;refine p1.trans ?_
  conv=>lhs;rw[e]
  exact List.perm_append_comm
 refine⟨hmn,hl,hp,?_,λy hy=>?_⟩
 ·rw[List.length_take,hl,Nat.min_eq_left (by omega)]
  exact d.hp.congr λk hk=>zCR (by rw[List.getElem?_take,if_pos hk])
 ·have:y∈l:=hp.mem_iff.2 (by simp[hy])
  obtain⟨k,hk,e⟩:=zU1 this;have:=zXF h k (by omega);have e0:ZN l 0=x.2.cnt:=by unfold ZN;rw[hx];rfl
  omega
theorem zRd {l m:List HE}{x:HE}(d:Dn (l.length+1) (l++[x]) m):PushR l x m:=by
 refine⟨d.perm.trans List.perm_append_comm,?_⟩;have:m.length=l.length+1:=by rw[d.perm.length_eq];simp
 rw[this];exact d.hp
def fls (l:List HE):List (Nat×Int):=l.flatMap λe=>e.2.ls
theorem X5 {l m:List HE}(h:l.Perm m):(fls l).Perm (fls m):=h.flatMap_right _
structure HPool (q:List (Nat×Int)) (l:List HE):Prop where
 hp:HpI (ZN l) l.length
 pool:Pool (l.map (·.2))
 ls:(fls l).Perm q
theorem HPool.nil:HPool [] []:=⟨λk h0 h=>by simp at h,Pool.nil,List.Perm.refl _⟩
theorem HPool.push {q:List (Nat×Int)}{l m:List HE}{p:Nat}{n:Int}{s:Nat}(h:HPool q l) (a:∀e∈l,e.2.cw=0) (c:1<=n) (r:PushR l (p,.leaf n s) m):HPool (q++[(s,n)]) m/\∀e∈m,e.2.cw=0:=by
 refine⟨⟨r.hp,?_,?_⟩,λe he=>?_⟩
 ·have p1:=(r.perm.map (·.2)).symm
  refine Pool.perm ?_ p1;exact h.pool.leaf (λt ht=>by obtain⟨e,he,rfl⟩:=List.mem_map.1 ht;exact a e he) c
 ·refine(X5 r.perm).trans ?_
  show([(s,n)]++fls l).Perm _;exact List.perm_append_comm.trans (h.ls.append_right _)
 ·rcases od.1 (r.perm.mem_iff.1 he)with rfl|he
  ·rfl
  ·exact a e he
theorem HPool.join {q:List (Nat×Int)}{l l1 l2 l3:List HE}{a b:HE}{p g:Nat}(h:HPool q l) (r1:PopR l a l1) (r2:PopR l1 b l2) (r3:PushR l2 (p,.join g a.2 b.2) l3):HPool q l3/\l3.length+1=l.length:=by
 have pl:l.Perm (a::b::l2):=r1.perm.trans (r2.perm.cons a);refine⟨⟨r3.hp,?_,?_⟩,?_⟩
 ·refine Pool.perm ?_ (r3.perm.map (·.2)).symm
  refine(h.pool.perm (pl.map (·.2))).join (λu hu=>?_) (λu hu=>?_) g
  ·obtain⟨e,he,rfl⟩:=List.mem_map.1 hu
   exact r1.least e (r2.perm.mem_iff.2 (by simp[he]))
  ·obtain⟨e,he,rfl⟩:=List.mem_map.1 hu
   exact r2.least e he
 ·refine(X5 r3.perm).trans (List.Perm.trans ?_ h.ls)
  refine List.Perm.trans ?_ (X5 pl).symm;show((a.2.ls++b.2.ls)++fls l2).Perm (a.2.ls++(b.2.ls++fls l2));rw[List.append_assoc]
 ·have:=r3.perm.length_eq;have:=pl.length_eq
  simp at *;omega
theorem HPool.one {own:List Int}{e:HE}{n:Nat}(h:HPool (pos own n) [e]):e.2.nice/\e.2.ls.Perm (pos own n):=by
 refine⟨h.pool.nice e.2 (by simp),?_⟩;have:=h.ls;simpa [fls]using this
theorem Oj (own:List Int) (h:∀x∈own,0<=x):(k:Nat)->k<=own.length->ja (pos own k)=(own.take k).sum
 | 0,_=>by simp[pos,ja]
 | k+1,hk=>by
  have hk':k<own.length:=by omega
  show ja (pos own k++_)=_;rw[Z1,Oj own h k (by omega),List.take_add_one,List.sum_append,oO hk'];have:=h own[k] (by simp);by_cases c:0<own[k]
  ·simp[c,ja]
  ·simp[c,ja];omega
def kf (l:List Int):List Int:=l.map λx=>x-x/2
theorem qR (l:List Int):(kf l).length=l.length:=by simp[kf]
theorem Je (l:List Int):(k:Nat)->(pos (kf l) k).map (·.1)=(pos l k).map (·.1)
 | 0=>rfl
 | k+1=>by
  show(pos (kf l) k++_).map _=(pos l k++_).map _;rw[List.map_append,List.map_append,Je l k]
  congr 1
  have e:(kf l)[k]?.getD 0=l[k]?.getD 0-l[k]?.getD 0/2:=by
   unfold kf;rw[oW];cases l[k]?<;>simp
  rw[e];by_cases c:0<l[k]?.getD 0
  ·rw[if_pos c,if_pos (by omega)];rfl
  ·rw[if_neg c,if_neg (by omega)]
theorem zRK {own:List Int}{e:HE}(h:HPool (pos own own.length) [e]) (hn:∀x∈own,0<=x) (c:11<e.2.hgt):377<=own.sum:=by
 obtain⟨h1,h2⟩:=h.one;have e1:=Oj own hn own.length (oP _);rw[List.take_length]at e1;have e2:=Yq e.2;rw[YF h2,e1]at e2;by_cases q:own.sum<=376
 ·have:=zKb h1 (by omega);omega
 ·omega
end Go.Proofs.YtnpeieeomokomaaGreat
