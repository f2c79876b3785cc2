/- TO. No condition. -/
import Derived.Test.YtnpeieeomokomaaGreatYTN
import Derived.Test.YtnpeieeomokomaaGreatYTG
import Derived.Test.YtnpeieeomokomaaGreatYCG
import Derived.Test.YtnpeieeomokomaaGreatYW
import Derived.Test.YtnpeieeomokomaaGreatYTJ
set_option maxRecDepth 100000
set_option maxHeartbeats 2000000
namespace Go.Proofs.YtnpeieeomokomaaGreat
open Go.Sim
variable {h:H}{Q:V->H->Prop}
variable{own:List Int}
theorem JC(l:List Int):∀k,(qK l k).length=2
 | 0=>rfl
 | k+1=>by unfold qK;split<;>simp[JC l k]
theorem zSE{v:V}{l:List Int}(sl:Sl h v 1 l.length (zJ l))(hin:jk l=true)(hl:l.length<=255)(hn:h.nx+2000<=T.top)(hlow:h.low<=T.top)(hq:∀h' v',Ext h h' 620->Ow h' v' zSh (xO l 2).length (zDr (xO l 2))->Q (.tuple [v',.agg (ZR (qK l 2))]) h'):RF P zA 48 [v] h Q:=by
 refine yK z7E rfl rfl z7n ⟨by omega,?_⟩;rintro p0 h1 rfl e1;have w1:=(Vw.nil (S:=zS) (h:=h)).new (o:=oB2 (.ls [.bool false,.bool false])) e1 (by omega);have n1:h1.nx=h.nx+1:=by rw[e1,zH]
 refine zNF (by omega) λh3 x3=>⟨_,_,rfl,Has.nil.on λtm hs=>?_⟩
 have w3:=w1.ext x3;have t3:=x3.top;refine wpC.round (λj tm h'=>∃(k:Nat) (y:V) (cb:Cs),k<=2/\j=2-k/\h'.nx<=h3.nx+305*k/\Vw zS h h' (2+305*k) [(h.nx,oB2 cb)]/\Row cb 2 (ZR (qK l k))/\Ow h' y zSh (xO l k).length (zDr (xO l k))/\(xO l k).length<=k/\Sep zS h.nx [(h.nx,oB2 cb)] y /\
  Has tm [(9,.int .i64 k),(8,.agg [zRg,zRf]),(0,v),(2,y),(3,.ptr h.nx 0)]) 2
  ⟨0,.nilslice,_,by omega,by omega,by omega,w3,zPn,⟨rfl,.inl ⟨rfl,rfl⟩⟩,oP _,(λb hb=>by cases hb),hs.sub (by kernel_rfl)⟩ ?_
 clear hs w3;rintro j tm h' ⟨k,y,cb,hk,rfl,hnx,w,rb,ow,hc,sp,hs⟩;have l':h'.low<=T.top:=by have:=w.low;omega
 have sv:=sl.ext w.ex0;refine wpC.av hs zY1 rfl rfl ⟨λc=>?_,λc=>hs.on λtm' hs'=>?_⟩
 ·have hk2:k<2:=by omega
  have hpl:k<(qK l k).length:=by rw[JC];exact hk2
  have yes:∀(h2:H) (s:List UInt8),Ext h' h2 300->zCx l k=some s->∃v6 h7,zF zA 63 1 [(0,.str s)] h2=some (v6,h7)/\∃v8 h9,zc zA 63 h7 y v6=some (v8,h9)/\∃h12 cb',zg zA 4 h9 (.ptr h.nx k) (.bool true)=some h12 /\
    h12.nx<=h3.nx+305*(k+1)/\Vw zS h h12 (2+305*(k+1)) [(h.nx,oB2 cb')]/\Row cb' 2 (ZR (qK l (k+1)))/\Ow h12 v8 zSh (xO l (k+1)).length (zDr (xO l (k+1)))/\(xO l (k+1)).length<=k+1/\Sep zS h.nx [(h.nx,oB2 cb')] v8:=by
   intro h2 s x2 hc2;have t2:=x2.top;have w2:=w.ext x2;have ow2:=ow.ext x2;obtain⟨v6,h7,e7,s7,x7⟩:=zMc (h:=h2) s (by omega);have t7:=x7.top;have w7:=w2.ext x7;obtain⟨v8,h9,e9,A⟩:=(ow2.ext x7).append (c:=zA) s7 (by decide) zQK rfl ZN rfl rfl (by show((xO l k).length+1)*1<=_;omega) (by show((xO l k).length+1)*16<=_;omega) (by omega);obtain⟨w9,ow9,sp9⟩:=w7.grow sp A;have t9:=A.2.2.1;obtain⟨h12,cb',e12,rb',w12,n12,g12⟩:=w9.set2 (cx:=zA) 0 (j:=k) (u:=.bool true) rb rfl (by omega) hk2 ty4 rfl rfl rfl rfl;have ec:xO l (k+1)=xO l k++[s]:=by rw[Oh,hc2];rfl
   refine⟨v6,h7,e7,v8,h9,e9,h12,cb',e12,by omega,w12.more (by omega),?_,?_,by rw[ec,oU,List.length_singleton];omega,λb hb=>⟨(sp9 b hb).1,λq hq=>?_⟩⟩
   ·have ep:qK l (k+1)=(qK l k).set k true:=by
     show(if (zCx l k).isSome=true then (qK l k).set k true else qK l k)=_;rw[hc2];rfl
    rw[ep];unfold ZR;rw[List.map_set];exact rb'
   ·rw[ec,oU,List.length_singleton]
    have es:zDr (xO l k++[s])=zDr (xO l k)++[.str s]:=by unfold zDr;rw[List.map_append];rfl
    rw[es];exact ow9.keep (by omega) λb hb=>g12 b λq=>(sp9 b hb).2 (h.nx,oB2 cb) (by simp) q.symm
   ·simp only[od,List.not_mem_nil,or_false]at hq
    subst hq;exact(sp9 b hb).2 (h.nx,oB2 cb) (by simp)
  have no:∀(h2:H),Ext h' h2 300->zCx l k=none->h2.nx<=h3.nx+305*(k+1)/\Vw zS h h2 (2+305*(k+1)) [(h.nx,oB2 cb)]/\Row cb 2 (ZR (qK l (k+1)))/\Ow h2 y zSh (xO l (k+1)).length (zDr (xO l (k+1)))/\(xO l (k+1)).length<=k+1:=by
   intro h2 x2 hc2;have t2:=x2.top;have ec:xO l (k+1)=xO l k:=by rw[Oh,hc2];exact List.append_nil _
   have ep:qK l (k+1)=qK l k:=by
    show(if (zCx l k).isSome=true then (qK l k).set k true else qK l k)=_;rw[hc2];rfl
   rw[ec,ep];exact⟨by omega,(w.ext x2).more (by omega),rb,ow.ext x2,by omega⟩
  have hk01:k=0\/k=1:=by omega
  rcases hk01 with rfl|rfl
  ·refine⟨_,zZm,?_⟩
   show RF P zA 26 [v] h' _;refine zKa sv (by omega) (by omega) λh2 x2=>zJV (zEs l) (zI6 (zEs l) (λs hs2=>?_) λhn2 v'=>?_)
   ·obtain⟨v6,h7,e7,v8,h9,e9,h12,cb',e12,q1,q2,q3,q4,q5,q6⟩:=yes h2 s x2 hs2
    refine⟨v6,h7,e7,trivial,v8,h9,e9,_,_,Kz (by decide),h12,e12,hs.on λtm' hs'=>⟨rfl,rfl,1,by omega,1,v8,cb',by omega,rfl,q1,q2,q3,q4,q5,q6,?_⟩⟩
    exact hs'.sub (by kernel_rfl)
   ·obtain⟨q1,q2,q3,q4,q5⟩:=no h2 x2 hn2
    exact hs.on λtm' hs'=>⟨rfl,rfl,1,by omega,1,y,cb,by omega,rfl,q1,q2,q3,q4,q5,sp,hs'.sub (by kernel_rfl)⟩
  ·refine⟨_,zZn,?_⟩
   show RF P zA 54 [v] h' _;refine zBV sv hin hl (by omega) l' (zJV (zFj _) (zI6 (zFj _) (λs hs2=>?_) λhn2 v'=>?_))
   ·obtain⟨v6,h7,e7,v8,h9,e9,h12,cb',e12,q1,q2,q3,q4,q5,q6⟩:=yes h' s ((Ext.refl h').mono (by omega)) hs2
    refine⟨v6,h7,e7,trivial,v8,h9,e9,_,_,Kz (by decide),h12,e12,hs.on λtm' hs'=>⟨rfl,rfl,0,by omega,2,v8,cb',by omega,rfl,q1,q2,q3,q4,q5,q6,?_⟩⟩
    exact hs'.sub (by kernel_rfl)
   ·obtain⟨q1,q2,q3,q4,q5⟩:=no h' ((Ext.refl h').mono (by omega)) hn2
    exact hs.on λtm' hs'=>⟨rfl,rfl,0,by omega,2,y,cb,by omega,rfl,q1,q2,q3,q4,q5,sp,hs'.sub (by kernel_rfl)⟩
 ·have hk2:k=2:=by omega
  subst hk2;have i':=yI (h:=h') (by omega) l';obtain⟨b0,b1,hbb⟩:∃b0 b1,qK l 2=[b0,b1]:=by
   have:=JC l 2
   match qK l 2,this with
   | [b0,b1],_=>exact⟨b0,b1,rfl⟩
  have hp:h.nx<T.top:=by omega
  have hr:cb.range 0 2=some [.bool b0,.bool b1]:=by
   have:=rb.2.2.2;rw[hbb]at this;exact Cs.range_is (by decide) rfl λi hi=>by rw[Nat.zero_add];exact this i hi
  obtain⟨cb',p1,p2⟩:=Cs.put_some (cs:=cb) rb.1 (o:=0) (vs:=[.bool b0,.bool b1]) (by rw[rb.2.1];exact oP 2);obtain⟨h5,e5,w5,n5,g5⟩:=w.st (cx:=zA) 0 (t:=64) (f:=0) (u:=.agg [.bool b0,.bool b1]) (cs':=cb') rfl (by omega) zSi rfl (oJ _) rfl p1;obtain⟨_,p3,p4⟩:=Cs.put_eq p1;refine thenC.left (wpS.av hs' zYk rfl rfl ⟨⟨by omega,l'⟩,b0,b1,w.ldA 0 rfl zSi rfl hr,h5,e5,hs'.on λtm2 hs2=>?_⟩);have hr5:cb'.range 0 2=some [.bool b0,.bool b1]:=Cs.range_is (by decide) rfl λi hi=>by
   rw[Nat.zero_add,p4,if_pos ⟨oJ _,by rw[Nat.zero_add];exact hi⟩,Nat.sub_zero]
  refine endW.ok (leave.tmp (hs2.get (t:=2) rfl) (leave.cell (hs2.get (t:=3) rfl) (w5.ldA 0 rfl zSi rfl hr5) rfl)) ?_;have:=hq h5 y (w5.ex0.mono (by omega)) (ow.keep (by omega) λb hb=>g5 b λq=>(sp b hb).2 (h.nx,oB2 cb) (by simp) q.symm)
  rw[hbb]at this;exact this
def jV(ls:List (List UInt8)):Nat->List UInt8
 | 0=>[]
 | k+1=>if k=0 then ls[k]?.getD [] else if (ls[k]?.getD []).length<(jV ls k).length then ls[k]?.getD [] else jV ls k
theorem zJk{s:List UInt8}(hq:Q (.int .i64 (s.length:Nat)) h):RF P zA 50 [.str s] h Q :=
 yK z7G rfl rfl z7p hq
theorem zOG{v:V}{ls:List (List UInt8)}(sl:Sl h v 1 ls.length (zDr ls))(hl:ls.length<=1000)(hq:Q (.tuple [.str (jV ls ls.length),.bool (decide (0<ls.length))]) h):RF P zA 49 [v,.func (.func 50) [] []] h Q:=by
 refine yK z7F rfl rfl z7o ⟨_,sl.len zQK rfl,Has.nil.on λtm hs=>?_⟩
 refine wpC.round (λj tm h'=>∃k:Nat,k<=ls.length/\j=ls.length-k/\h'=h/\Has tm [(11,.int .i64 k),(10,.int .i64 ls.length),(9,v),(1,.func (.func 50) [] []),(6,.str (jV ls k)),(0,v)]) ls.length ⟨0,by omega,by omega,rfl,hs.sub (by kernel_rfl)⟩ ?_
 clear hs;rintro j tm h' ⟨k,hk,rfl,rfl,hs⟩;refine wpC.av hs zY2 rfl rfl ⟨λc=>?_,λc=>hs.on λtm' hs'=>?_⟩
 ·have hkl:k<ls.length:=by omega
  have hg:ls[k]? = some ls[k]:=oO hkl;obtain⟨b,o,a1,a2⟩:=sl.at1 (u:=.str ls[k]) hkl zQK rfl ZN rfl rfl (by unfold zDr;rw[oW,hg];rfl);have eg:jV ls (k+1)=if k=0 then ls[k] else if ls[k].length<(jV ls k).length then ls[k] else jV ls k:=by
   show(if k=0 then ls[k]?.getD [] else if (ls[k]?.getD []).length<(jV ls k).length then ls[k]?.getD [] else jV ls k)=_;rw[hg];rfl
  refine⟨b,o,a1,ls[k],a2,λc2=>?_,λc2=>?_⟩
  ·rw[if_pos (by omega)]at eg
   refine hs.on λtm' hs'=>⟨rfl,rfl,ls.length-(k+1),by omega,k+1,by omega,rfl,rfl,?_⟩
   rw[eg,<-yQ (by omega)];exact hs'.sub (by kernel_rfl)
  ·rw[if_neg (by omega)]at eg
   show RF P zA 50 [.str ls[k]] h' _;refine zJk (zJW ?_);show RF P zA 50 [.str (jV ls k)] h' _;refine zJk (zJW (zRX (λc3=>?_) λc3=>?_))
   ·rw[if_pos (by omega)]at eg
    refine hs.on λtm' hs'=>⟨rfl,rfl,ls.length-(k+1),by omega,k+1,by omega,rfl,rfl,?_⟩
    rw[eg,<-yQ (by omega)];exact hs'.sub (by kernel_rfl)
   ·rw[if_neg (by omega)]at eg
    refine hs.on λtm' hs'=>⟨rfl,rfl,ls.length-(k+1),by omega,k+1,by omega,rfl,rfl,?_⟩
    rw[eg,<-yQ (by omega)];exact hs'.sub (by kernel_rfl)
 ·have hk:k=ls.length:=by omega
  subst hk;refine thenC.left (wpS.av hs' zYl rfl rfl ⟨_,sl.len zQK rfl,λc=>?_,λc=>?_⟩)
  ·rw[decide_eq_true (by omega)]at hq
   exact hs'.on λtm2 hs2=>endW.r2 (hs2.get rfl) (hs2.get rfl) hq
  ·rw[decide_eq_false (by omega)]at hq
   exact hs'.on λtm2 hs2=>endW.r2 (hs2.get rfl) (hs2.get rfl) hq
theorem zDR{l:List Int}(h:OG l=0):jk (kZ l)=true/\1<=(kZ l).length/\(kZ l).length<=255:=by
 obtain⟨l1,l2,hin⟩:=J5 h;refine⟨?_,by rw[Xp];omega,by rw[Xp];omega⟩;have hm:=zDU hin;unfold jk;rw[List.all_eq_true];intro x hx;have hx2:x∈Ku (jT l) l:=(List.dropLast_sublist _).subset hx;unfold Ku at hx2;obtain⟨y,hy,rfl⟩:=List.mem_map.1 hx2;have hr:=wk hin hy;have hg:y<=(jT l:Int):=by
  rw[<-zDM];exact(qx (l:=l) (a:=0)).2 y hy
 rw[oG,decide_eq_true_eq,decide_eq_true_eq];split<;>omega
def Ox(w:List Int):V:=if 0<(xO w 2).length then .tuple [.str (jV (xO w 2) (xO w 2).length),.int .i64 0] else .tuple [.str [],.int .i64 7]
def kl(l:List Int):V:=if OG l=0 then Ox (kZ l) else .tuple [.str [],.int .i64 (OG l)]
theorem zHK(w:List Int):Plain (Ox w):=by unfold Ox;split<;>exact zm (by kernel_rfl)
theorem zIX(l:List Int):Plain (kl l):=by
 unfold kl;split
 ·exact zHK _
 ·exact zm (by kernel_rfl)
theorem kI{v:V}{l:List Int}(sl:Sl h v 1 l.length (zJ l))(hl:l.length<4611686018427387904)(hn:h.nx+3000<=T.top)(hlow:h.low<=T.top)(hq:Q (kl l) h):RF P zA 16 [v] h Q:=by
 refine RF.forget (n:=700) (v:=kl l) ?_ (zIX l) hq;refine yK z6s rfl rfl z7c (zLA sl hl (by omega) hlow λh1 v1 x1 hv=>⟨_,_,rfl,λc=>?_,λc=>?_⟩)
 ·exact⟨by unfold kl;rw[if_neg c],x1.mono (by omega)⟩
 ·have c0:OG l=0:=by omega
  obtain⟨_,s1⟩:=hv c0;rw[if_pos c0];obtain⟨i1,i2,i3⟩:=zDR c0;have t1:=x1.top;have l1:=x1.low;refine zSE s1 i1 i3 (by omega) (by omega) λh5 v5 x5 ow5=>?_
  have t5:=x5.top;obtain⟨b0,b1,hbb⟩:∃b0 b1,qK (kZ l) 2=[b0,b1]:=by
   have:=JC (kZ l) 2
   match qK (kZ l) 2,this with
   | [b0,b1],_=>exact⟨b0,b1,rfl⟩
  rw[hbb];refine⟨_,b0,b1,rfl,by omega,?_⟩;rintro p9 h10 rfl e10;have n10:h10.nx=h5.nx+1:=by rw[e10,zH]
  have w10:=(Vw.nil (S:=zS) (h:=h5)).new (o:=oB2 (.ls [.bool false,.bool false])) e10 (by omega);obtain⟨h11,e11,w11,n11,_⟩:=w10.st (cx:=zA) 0 (t:=64) (f:=0) (u:=.agg [.bool b0,.bool b1]) rfl (by omega) zSi rfl (oJ _) rfl rfl;have x11:=w11.ex0;have hc:(xO (kZ l) 2).length<=2:=by
   unfold xO;exact oQ (List.length_filterMap_le _ _) (by rw[List.length_range];exact oP _)
  have hx:Ext h h11 700:=((x1.trans x5).trans x11).mono (by omega);have ew:kl l=Ox (kZ l):=by unfold kl;rw[if_pos c0]
  refine⟨h11,e11,zOG (ow5.ext x11).sl (by omega) ⟨_,_,rfl,λc2=>?_,λc2=>?_⟩⟩
  ·have:=of_decide_eq_true c2
   exact⟨by rw[ew];unfold Ox;rw[if_pos this],hx⟩
  ·have:=of_decide_eq_false c2
   exact⟨by rw[ew];unfold Ox;rw[if_neg this],hx⟩
theorem zQZ(l:List Int):∃(s:List UInt8) (e:Int),kl l = .tuple [.str s,.int .i64 e]:=by
 unfold kl Ox;split
 ·split
  ·exact⟨_,_,rfl⟩
  ·exact⟨_,_,rfl⟩
 ·exact⟨_,_,rfl⟩
def zSe(l:List Int):V:=match kl l with | .tuple [.str s,e]=>.tuple [.int .i64 (s.length:Nat),e]|v=>v
theorem zGY{v:V}{l:List Int}(sl:Sl h v 1 l.length (zJ l))(hl:l.length<4611686018427387904)(hn:h.nx+3000<=T.top)(hlow:h.low<=T.top)(hq:Q (zSe l) h):RF P zA 20 [v] h Q:=by
 refine yK z6t rfl rfl z7d (kI sl hl hn hlow ?_);obtain⟨s,e,hw⟩:=zQZ l;unfold zSe at hq;rw[hw]at hq ⊢;exact⟨s,e,rfl,hq⟩
theorem zCD(a:Int):eqF a a=true:=by rw[jX];simp
theorem zOL(x y:Nat)(a b c d:Int):Yo zA .eql 26 (t x) (t y) (.agg [.int .i64 a,.int .i64 b]) (.agg [.int .i64 c,.int .i64 d])=(match (match some (eqF a c)with|some true=>(match some (eqF b d)with|some true=>some true|r=>r)|r=>r)with|some r=>some (.bool r)|none=>none):=by kernel_rfl
theorem zIf{a b:Int}(hn:h.nx<T.top):∃h',zF zA 23 2 [(0,.int .i64 a),(1,.int .i64 b)] h=some (.slice h.nx 0 2 (.exact 2),h')/\Sl h' (.slice h.nx 0 2 (.exact 2)) 1 2 (zJ [a,b])/\Ext h h' 1:=by
 have e:zF zA 23 2 [(0,.int .i64 a),(1,.int .i64 b)] h=(match (cond (Nat.blt h.nx T.top) (some (h.nx,h.new (.cells (.ls [.int .i64 a,.int .i64 b]) ⟨0,3+1,0⟩ true false))) none:Option (Nat×H))with|some (b,h')=>some (.slice b 0 2 (.exact 2),h')|none=>none):=by kernel_rfl
 rw[(zY _ _).2 hn,oK]at e;exact⟨_,e,⟨rfl,.inr ⟨h.nx,0,_,_,_,_,_,rfl,by rw[zH];omega,zZ _ hn,λi hi=>by
  rcases i with _|_|i
  ·rfl
  ·rfl
  ·exact absurd hi (by omega)⟩⟩,Ext.new _ hn⟩
theorem zR2{a b c:Int}(hn:h.nx<T.top):∃h',zF zA 23 3 [(0,.int .i64 a),(1,.int .i64 b),(2,.int .i64 c)] h=some (.slice h.nx 0 3 (.exact 3),h')/\Sl h' (.slice h.nx 0 3 (.exact 3)) 1 3 (zJ [a,b,c])/\Ext h h' 1:=by
 have e:zF zA 23 3 [(0,.int .i64 a),(1,.int .i64 b),(2,.int .i64 c)] h=(match (cond (Nat.blt h.nx T.top) (some (h.nx,h.new (.cells (.ls [.int .i64 a,.int .i64 b,.int .i64 c]) ⟨0,3+1,0⟩ true false))) none:Option (Nat×H))with|some (b,h')=>some (.slice b 0 3 (.exact 3),h')|none=>none):=by kernel_rfl
 rw[(zY _ _).2 hn,oK]at e;exact⟨_,e,⟨rfl,.inr ⟨h.nx,0,_,_,_,_,_,rfl,by rw[zH];omega,zZ _ hn,λi hi=>by
  rcases i with _|_|_|i
  ·rfl
  ·rfl
  ·rfl
  ·exact absurd hi (by omega)⟩⟩,Ext.new _ hn⟩
theorem zAG{v:V}{l:List Int}{s:List UInt8}(sl:Sl h v 1 l.length (zJ l))(hl:l.length<1000)(hw:kl l = .tuple [.str s,.int .i64 0])(hn:h.nx+3000<=T.top)(lo:h.low<=T.top)(hq:Q (.bool true) h):RF P zA 37 [v,.str s] h Q :=
 yK z6y rfl rfl z7i (kI sl (by omega) hn lo ⟨_,_,hw,λ_=>⟨λ_=>hq,λc=>absurd rfl c⟩,λc=>absurd rfl c⟩)
theorem zRe:kc [128,16] 0=⟨[1,1],2,0,0⟩:=by kernel_rfl
theorem zZv:kl [1,1] = .tuple [.str [128,16],.int .i64 0]:=by kernel_rfl
theorem zZw:kl [2,2,1] = .tuple [.str [129,17],.int .i64 0]:=by kernel_rfl
theorem zRi:RF P zA 9 [] H0 λv _=>v = .bool true:=by
 have top:(H0.nx:Nat)+7000<=T.top:=of_decide_eq_true (by kernel_rfl);refine yK fn9 rfl rfl vb9 (YC (s:=[128,16]) (at':=0) (by decide) (by omega) (oP _) λh1 v2 x1 s1 _=>?_)
 rw[zRe]at s1 ⊢;have s1:Sl h1 v2 1 2 (zJ [1,1]):=s1;have t1:=x1.top;refine⟨_,_,_,_,rfl,by omega,?_⟩;rintro p6 h7 rfl e7;have w7:=(Vw.nil (S:=zS) (h:=h1)).new e7 (by omega);have n7:h7.nx=h1.nx+1:=by rw[e7,zH]
 obtain⟨h8,e8,w8,n8,_⟩:=w7.st (cx:=zA) 0 (f:=0) (u:=flt 0 0) rfl (by omega) xa rfl (oJ _) rfl rfl;have l8:h8.low<=T.top:=oQ w8.ex0.low (oQ x1.low (oP _));obtain⟨h10,e10,s10,x10⟩:=zIf (h:=h8) (a:=1) (b:=1) (by omega);have t10:=x10.top;have l10:=oQ x10.low l8;refine⟨h8,e8,_,h10,e10,zAG (l:=[1,1]) s10 (by decide) zZv (by omega) l10 ⟨true,rfl,λ_=>?_,λg=>(by cases g)⟩⟩
 obtain⟨h15,e15,s15,x15⟩:=zR2 (h:=h10) (a:=2) (b:=2) (c:=1) (by omega);have t15:=x15.top;have l15:=oQ x15.low l10;refine⟨_,h15,e15,zAG (l:=[2,2,1]) s15 (by decide) zZw (by omega) l15 ⟨true,rfl,λ_=>?_,λg=>(by cases g)⟩⟩
 obtain⟨h20,e20,s20,x20⟩:=zIf (h:=h15) (a:=1) (b:=1) (by omega);have t20:=x20.top;have l20:=oQ x20.low l15;have x8:=((w8.ex0.trans x10).trans x15).trans x20;have w20:=((w8.ext x10).ext x15).ext x20;refine⟨_,h20,e20,KZ (l:=[1,1]) (s1.ext x8) s20 (by decide) (by omega) l20 ⟨true,rfl,λ_=>⟨λ_=>⟨_,_,w20.ldA 0 rfl xa rfl rfl,true,by rw[zOL,zCD],λ_=>rfl,λg=>(by cases g)⟩,λc=>absurd rfl c⟩,λg=>(by cases g)⟩⟩
theorem qc(hq:Q (.bool true) h):RF P zA 9 [] h Q:=by
 obtain⟨v,h',⟨hf,s⟩,rfl⟩:=zRi;exact⟨_,h,⟨hf,s.frame⟩,hq⟩
theorem zAg{α}:(t:List α)->(j:Nat)->(x:α)->(h:j<t.length)->(t[j]::t.set j x).Perm (x::t)
 | [],_,_,h=>by simp at h
 | y::t,0,x,_=>by simp;exact List.Perm.swap _ _ _
 | y::t,j+1,x,h=>by
  have h':j<t.length:=by simpa using h
  have ih:=zAg t j x h';simp only[List.getElem_cons_succ,List.set_cons_succ];exact(List.Perm.swap _ _ _).trans ((ih.cons y).trans (List.Perm.swap _ _ _))
def swp{α}(l:List α)(i j:Nat):List α:=match l[i]?,l[j]? with|some x,some y=>(l.set i y).set j x|_,_=>l
theorem zIH{α}{l:List α}{i j:Nat}(hi:i<l.length)(hj:j<l.length):swp l i j=(l.set i l[j]).set j l[i]:=by
 simp[swp,oO hi,oO hj]
theorem zCV{α}:(l:List α)->(i j:Nat)->(hi:i<l.length)->(hj:j<l.length)->((l.set i l[j]).set j l[i]).Perm l
 | [],_,_,h,_=>by simp at h
 | x::t,0,0,_,_=>by simp
 | x::t,0,j+1,_,hj=>by
  have h':j<t.length:=by simpa using hj
  simp only[List.getElem_cons_succ,List.set_cons_zero,List.set_cons_succ,List.getElem_cons_zero];exact zAg t j x h'
 | x::t,i+1,0,hi,_=>by
  have h':i<t.length:=by simpa using hi
  simp only[List.getElem_cons_succ,List.set_cons_succ,List.getElem_cons_zero,List.set_cons_zero];exact zAg t i x h'
 | x::t,i+1,j+1,hi,hj=>by
  simp only[List.getElem_cons_succ,List.set_cons_succ];exact(zCV t i j (by simpa using hi) (by simpa using hj)).cons x
theorem JP{α}(l:List α)(i j:Nat):(swp l i j).Perm l:=by
 by_cases hi:i<l.length
 ·by_cases hj:j<l.length
  ·rw[zIH hi hj];exact zCV l i j hi hj
  ·unfold swp;rw[og (by omega:l.length<=j)];split<;>first|exact List.Perm.refl _|simp_all
 ·unfold swp;rw[og (by omega:l.length<=i)]
theorem XW{α}(l:List α)(i j:Nat):(swp l i j).length=l.length:=by
 unfold swp;split<;>simp
theorem zDt{α}{l:List α}{i j:Nat}(hi:i<l.length)(hj:j<l.length)(k:Nat):(swp l i j)[k]? = if k=j then l[i]? else if k=i then l[j]? else l[k]?:=by
 rw[zIH hi hj,List.getElem?_set,List.getElem?_set,oh];by_cases a:k=j
 ·subst a;simp[hj,oO hi]
 ·by_cases b:k=i
  ·subst b
   rw[if_neg (by omega),if_pos rfl,if_pos hi,if_neg a,if_pos rfl,oO hj]
  ·rw[if_neg (by omega),if_neg (by omega),if_neg a,if_neg b]
def UpI(w:Nat->Int)(n j:Nat):Prop:=j<n/\(∀k,0<k->k<n->k≠j->w ((k-1)/2)<=w k)/\(∀k,k<n->0<k->(k-1)/2=j->0<j->w ((j-1)/2)<=w k)
def HpI(w:Nat->Int)(n:Nat):Prop:=∀k,0<k->k<n->w ((k-1)/2)<=w k
def DnI(w:Nat->Int)(n i:Nat):Prop:=(∀k,0<k->k<n->(k-1)/2≠i->w ((k-1)/2)<=w k)/\(∀k,k<n->0<k->(k-1)/2=i->0<i->w ((i-1)/2)<=w k)
def sw(w:Nat->Int)(i j:Nat):Nat->Int:=λk=>if k=j then w i else if k=i then w j else w k
theorem zJa{w n j}(h:UpI w n j)(c:j=0\/w ((j-1)/2)<=w j):HpI w n:=by
 intro k h0 hn;by_cases e:k=j
 ·subst e;rcases c with c|c
  ·omega
  ·exact c
 ·exact h.2.1 k h0 hn e
theorem zSj{w n j}(h:UpI w n j)(h0:0<j)(c:w j<=w ((j-1)/2)):UpI (sw w ((j-1)/2) j) n ((j-1)/2):=by
 obtain⟨hn,h1,h2⟩:=h;have hi:(j-1)/2<j:=by omega
 refine⟨by omega,λk k0 kn ki=>?_,λk kn k0 kp i0=>?_⟩
 ·unfold sw
  by_cases e:k=j
  ·subst e
   rw[if_neg (by omega),if_pos rfl,if_pos rfl];exact c
  ·rw[if_neg e,if_neg ki]
   have:=h1 k k0 kn e;by_cases q:(k-1)/2=j
   ·rw[if_pos q];exact h2 k kn k0 q h0
   ·rw[if_neg q]
    by_cases q2:(k-1)/2=(j-1)/2
    ·rw[if_pos q2];rw[q2]at this;omega
    ·rw[if_neg q2];exact this
 ·unfold sw
  have hp:=h1 ((j-1)/2) i0 (by omega) (by omega);rw[if_neg (by omega:((j-1)/2-1)/2≠j),if_neg (by omega:((j-1)/2-1)/2≠(j-1)/2)];by_cases e:k=j
  ·rw[if_pos e];exact hp
  ·rw[if_neg e,if_neg (by omega)]
   have:=h1 k k0 kn e;rw[kp]at this;omega
theorem zIo{w n i}(h:DnI w n i)(c:∀k,k<n->0<k->(k-1)/2=i->w i<=w k):HpI w n:=by
 intro k h0 hn;by_cases e:(k-1)/2=i
 ·rw[e];exact c k hn h0 e
 ·exact h.1 k h0 hn e
theorem zRc{w n i j}(h:DnI w n i)(hj:j<n)(j0:0<j)(hp:(j-1)/2=i)(c:w j<=w i)(m:∀k,k<n->0<k->(k-1)/2=i->w j<=w k):DnI (sw w i j) n j:=by
 obtain⟨h1,h2⟩:=h;refine⟨λk k0 kn kj=>?_,λk kn k0 kp _=>?_⟩
 ·unfold sw
  rw[if_neg kj];by_cases e:(k-1)/2=i
  ·rw[if_pos e]
   by_cases q:k=j
   ·rw[if_pos q];exact c
   ·rw[if_neg q,if_neg (by omega)];exact m k kn k0 e
  ·rw[if_neg e]
   by_cases q:k=j
   ·subst q;omega
   ·rw[if_neg q]
    by_cases q2:k=i
    ·rw[if_pos q2];subst q2;exact h2 j hj j0 hp k0
    ·rw[if_neg q2];exact h1 k k0 kn e
 ·unfold sw
  rw[hp,if_neg (by omega),if_pos rfl,if_neg (by omega),if_neg (by omega)];have:=h1 k k0 kn (by omega);rw[kp]at this;exact this
theorem zXg{w n}(h:HpI w n):∀k,k<n->w 0<=w k:=by
 intro k
 induction k using Nat.strongRecOn with
 | _ k ih =>
  intro hk;by_cases e:k=0
  ·subst e;exact Int.le_refl _
  ·have:=ih ((k-1)/2) (by omega) (by omega)
   have:=h k (by omega) hk;omega
theorem zXh{w n}(h:HpI w (n+1)):DnI (sw w 0 n) n 0:=by
 refine⟨λk k0 kn kj=>?_,λk kn k0 kp i0=>by omega⟩
 unfold sw;rw[if_neg (by omega),if_neg kj,if_neg (by omega),if_neg (by omega)];exact h k k0 (by omega)
theorem zRq{w n}(h:HpI w n):UpI w (n+1) n:=by
 refine⟨by omega,λk k0 kn kj=>h k k0 (by omega),λk kn k0 kp i0=>by omega⟩
theorem HpI.congr{w v n}(h:HpI w n)(e:∀k,k<n->w k=v k):HpI v n:=by
 intro k k0 kn;rw[<-e k kn,<-e _ (by omega)];exact h k k0 kn
inductive HT where
 | leaf (n:Int) (s:Nat)
 | join (g:Nat) (a b:HT)
def HT.cnt:HT->Int | .leaf n _=>n | .join _ a b=>a.cnt+b.cnt
def HT.hgt:HT->Nat | .leaf _ _=>0 | .join _ a b=>max a.hgt b.hgt+1
def HT.cw:HT->Int | .leaf _ _=>0 | .join _ a b=>max a.cnt b.cnt
def HT.nice:HT->Prop | .leaf n _=>1<=n | .join _ a b=>a.nice/\b.nice/\a.cw<=b.cnt/\b.cw<=a.cnt
def HT.lv:HT->Nat->List (Nat×Nat) | .leaf _ s,d=>[(s,d)] | .join _ a b,d=>a.lv (d+1)++b.lv (d+1)
def HT.ls:HT->List (Nat×Int) | .leaf n s=>[(s,n)] | .join _ a b=>a.ls++b.ls
def F:Nat->Int|0=>1|1=>2|k+2=>F (k+1)+F k
theorem zLz:(k:Nat)->1<=F k
 | 0=>by decide
 | 1=>by decide
 | k+2=>by have:=zLz k;have:=zLz (k+1);show 1<=F (k+1)+F k;omega
theorem zWB(k:Nat):F k<=F (k+1):=by
 cases k with
 | zero=>decide
 | succ k=>show F (k+1)<=F (k+1)+F k;have:=zLz k;omega
theorem zZT{a b:Nat}(h:a<=b):F a<=F b:=by
 induction h with
 | refl=>exact Int.le_refl _
 | @step m _ ih=>exact Int.le_trans ih (zWB m)
theorem wc : {t:HT}->t.nice->1<=t.cnt
 | .leaf _ _,h=>h
 | .join _ a b,h=>by have:=wc h.1;have:=wc h.2.1;show 1<=a.cnt+b.cnt;omega
theorem zDV : {t:HT}->t.nice->F t.hgt<=t.cnt/\(∀k,t.hgt=k+1->F k<=t.cw)
 | .leaf n s,h=>⟨h,λk e=>by cases e⟩
 | .join g a b,h=>by
  obtain⟨ha,hb,h1,h2⟩:=h;have qa:=zDV ha;have qb:=zDV hb;have pa:=wc ha;have pb:=wc hb;show F (max a.hgt b.hgt+1)<=a.cnt+b.cnt/\(∀k,max a.hgt b.hgt+1=k+1->F k<=max a.cnt b.cnt);refine⟨?_,λk e=>?_⟩
  ·by_cases c:a.hgt<=b.hgt
   ·rw[Nat.max_eq_right c]
    cases e:b.hgt with
    | zero=>show(2:Int)<=_;omega
    | succ k =>
     have:=qb.2 k e;have:=qb.1;rw[e]at this;show F (k+1)+F k<=_;omega
   ·rw[Nat.max_eq_left (by omega)]
    cases e:a.hgt with
    | zero=>omega
    | succ k =>
     have:=qa.2 k e;have:=qa.1;rw[e]at this;show F (k+1)+F k<=_;omega
  ·have e:max a.hgt b.hgt=k:=by omega
   by_cases c:a.hgt<=b.hgt
   ·rw[Nat.max_eq_right c]at e;subst e;have:=qb.1;omega
   ·rw[Nat.max_eq_left (by omega)]at e;subst e;have:=qa.1;omega
theorem zKs{t:HT}(h:t.nice)(c:t.cnt<=376):t.hgt<=11:=by
 have:=(zDV h).1;by_cases q:t.hgt<=11
 ·exact q
 ·have:F 12<=F t.hgt:=zZT (by omega)
  have e:F 12=377:=by decide
  omega
structure Pool (l:List HT):Prop where
 nice:∀t∈l,t.nice
 cw:∀t∈l,∀u∈l,t.cw<=u.cnt
theorem Pool.perm{l r:List HT}(h:Pool l)(p:l.Perm r):Pool r :=
 ⟨λt m=>h.nice t (p.mem_iff.2 m),λt m u n=>h.cw t (p.mem_iff.2 m) u (p.mem_iff.2 n)⟩
theorem Pool.nil:Pool []:=⟨λ_ h=>by simp at h,λ_ h=>by simp at h⟩
theorem Pool.leaf{l:List HT}(h:Pool l)(a:∀t∈l,t.cw=0){n s}(c:1<=n):Pool (.leaf n s::l):=by
 refine⟨λt m=>?_,λt m u m'=>?_⟩
 ·rcases od.1 m with e|m
  ·subst e;exact c
  ·exact h.nice t m
 ·have k:t.cw=0:=by
   rcases od.1 m with e|m
   ·subst e;rfl
   ·exact a t m
  rw[k];rcases od.1 m' with e|m'
  ·subst e;show 0<=n;omega
  ·have:=wc (h.nice u m');omega
theorem Pool.join{a b:HT}{l:List HT}(h:Pool (a::b::l))(h1:∀u∈l,a.cnt<=u.cnt)(h2:∀u∈l,b.cnt<=u.cnt)(g:Nat):Pool (.join g a b::l):=by
 have ma:a∈a::b::l:=by simp
 have mb:b∈a::b::l:=by simp
 have ca:=wc (h.nice a ma);have cb:=wc (h.nice b mb);refine⟨λt m=>?_,λt m u m'=>?_⟩
 ·rcases od.1 m with e|m
  ·subst e;exact⟨h.nice a ma,h.nice b mb,h.cw a ma b mb,h.cw b mb a ma⟩
  ·exact h.nice t (by simp[m])
 ·rcases od.1 m with e|m
  ·subst e
   show max a.cnt b.cnt<=_;rcases od.1 m' with e|m'
   ·subst e;show _<=a.cnt+b.cnt;omega
   ·have:=h1 u m';have:=h2 u m';omega
  ·rcases od.1 m' with e|m'
   ·subst e
    have:=h.cw t (by simp[m]) a ma;show _<=a.cnt+b.cnt;omega
   ·exact h.cw t (by simp[m]) u (by simp[m'])
def ZB(f:Nat->Int):List (Nat×Nat)->Int | []=>0|(_,d)::l=>f d+ZB f l
theorem zNX(f:Nat->Int)(a b:List (Nat×Nat)):ZB f (a++b)=ZB f a+ZB f b:=by
 induction a with
 | nil=>simp[ZB]
 | cons x a ih=>simp only[List.cons_append,ZB,ih];omega
theorem zNW(m:Nat):(t:HT)->(d:Nat)->d+t.hgt<=m->ZB (λk=>2^(m-k)) (t.lv d)=2^(m-d)
 | .leaf _ _,d,_=>by simp[HT.lv,ZB]
 | .join _ a b,d,h=>by
  have h':d+(max a.hgt b.hgt+1)<=m:=h;show ZB _ (a.lv (d+1)++b.lv (d+1))=_;rw[zNX,zNW m a (d+1) (by omega),zNW m b (d+1) (by omega)];have:m-d=m-(d+1)+1:=by omega
  rw[this,Int.pow_succ];omega
theorem zCH:(t:HT)->(d:Nat)->∀x∈t.lv d,d<=x.2/\x.2<=d+t.hgt
 | .leaf _ _,d,x,h=>by simp[HT.lv]at h;subst h;exact⟨oP _,by simp[HT.hgt]⟩
 | .join _ a b,d,x,h=>by
  have h':x∈a.lv (d+1)++b.lv (d+1):=h;show _/\x.2<=d+(max a.hgt b.hgt+1);rcases List.mem_append.1 h' with h|h
  ·have:=zCH a _ x h;omega
  ·have:=zCH b _ x h;omega
theorem zDS:(t:HT)->(d:Nat)->∃x∈t.lv d,x.2=d+t.hgt
 | .leaf n s,d=>⟨(s,d),by simp[HT.lv],rfl⟩
 | .join g a b,d=>by
  by_cases c:a.hgt<=b.hgt
  ·obtain⟨x,m,e⟩:=zDS b (d+1)
   refine⟨x,List.mem_append.2 (Or.inr m),?_⟩;show x.2=d+(max a.hgt b.hgt+1);omega
  ·obtain⟨x,m,e⟩:=zDS a (d+1)
   refine⟨x,List.mem_append.2 (Or.inl m),?_⟩;show x.2=d+(max a.hgt b.hgt+1);omega
theorem zAS:(t:HT)->(d:Nat)->(t.lv d).map (·.1)=t.ls.map (·.1)
 | .leaf _ _,_=>rfl
 | .join _ a b,d=>by
  show(a.lv (d+1)++b.lv (d+1)).map _=(a.ls++b.ls).map _;rw[List.map_append,List.map_append,zAS a,zAS b]
def jh:List (Nat×Int)->Int | []=>0|(_,n)::l=>n+jh l
theorem Z8(a b:List (Nat×Int)):jh (a++b)=jh a+jh b:=by
 induction a with
 | nil=>simp[jh]
 | cons x a ih=>simp only[List.cons_append,jh,ih];omega
theorem Yx:(t:HT)->t.cnt=jh t.ls
 | .leaf n s=>by simp[HT.cnt,HT.ls,jh]
 | .join _ a b=>by
  show a.cnt+b.cnt=jh (a.ls++b.ls);rw[Z8,Yx a,Yx b]
theorem YN{a b:List (Nat×Int)}(h:a.Perm b):jh a=jh b:=by
 induction h with
 | nil=>rfl
 | cons x _ ih=>simp[jh,ih]
 | swap x y l=>simp only[jh];omega
 | trans _ _ a b=>omega
def jU:List Int->List (Nat×Nat)->List Int|o,[]=>o|o,(s,d)::l=>jU (o.set s (d:Int)) l
theorem zKb(o:List Int)(a b:List (Nat×Nat)):jU o (a++b)=jU (jU o a) b:=by
 induction a generalizing o with
 | nil=>rfl
 | cons x a ih=>exact ih _
theorem Xa(o:List Int)(a:List (Nat×Nat)):(jU o a).length=o.length:=by
 induction a generalizing o with
 | nil=>rfl
 | cons x a ih=>show(jU _ a).length=_;rw[ih];simp
def Y8(f:Int->Int):List Int->Int | []=>0|x::l=>f x+Y8 f l
theorem OK(f:Int->Int):(l:List Int)->(i:Nat)->(x y:Int)->l[i]? = some x->Y8 f (l.set i y)=Y8 f l-f x+f y
 | [],_,_,_,h=>by simp at h
 | a::l,0,x,y,h=>by simp at h;subst h;simp only[List.set_cons_zero,Y8];omega
 | a::l,i+1,x,y,h=>by
  simp only[List.set_cons_succ,Y8,OK f l i x y (by simpa using h)];omega
theorem zKc(o:List Int)(a:List (Nat×Nat))(k:Nat)(h:∀x∈a,x.1≠k):(jU o a)[k]? = o[k]?:=by
 induction a generalizing o with
 | nil=>rfl
 | cons x a ih =>
  show(jU _ a)[k]? = _;rw[ih _ (λy m=>h y (by simp[m])),List.getElem?_set,if_neg (h x (by simp))]
theorem zKd(f:Int->Int)(f0:f 0=0)(o:List Int)(a:List (Nat×Nat))(nd:(a.map (·.1)).Nodup)(z:∀x∈a,o[x.1]? = some 0):Y8 f (jU o a)=Y8 f o+ZB (λd=>f d) a:=by
 induction a generalizing o with
 | nil=>simp[jU,ZB]
 | cons x a ih =>
  have nd':=List.nodup_cons.1 (by simpa using nd:(x.1::a.map (·.1)).Nodup);show Y8 f (jU (o.set x.1 (x.2:Int)) a)=_+(f x.2+ZB _ a);rw[ih _ nd'.2 (λy m=>?_),OK f o x.1 0 x.2 (z x (by simp)),f0]
  ·omega
  ·rw[List.getElem?_set,if_neg]
   ·exact z y (by simp[m])
   ·intro e;exact nd'.1 (e ▸ List.mem_map.2 ⟨y,m,rfl⟩)
theorem zEu(o:List Int)(a:List (Nat×Nat))(nd:(a.map (·.1)).Nodup)(z:∀x∈a,x.1<o.length):∀x∈a,(jU o a)[x.1]? = some (x.2:Int):=by
 induction a generalizing o with
 | nil=>intro x h;simp at h
 | cons y a ih =>
  have nd':=List.nodup_cons.1 (by simpa using nd:(y.1::a.map (·.1)).Nodup);intro x h;show(jU (o.set y.1 (y.2:Int)) a)[x.1]? = _;rcases od.1 h with e|h
  ·subst e
   rw[zKc _ _ _ (λw m e=>nd'.1 (List.mem_map.2 ⟨w,m,e⟩)),List.getElem?_set,if_pos rfl,if_pos (z x (by simp))]
  ·exact ih _ nd'.2 (λw m=>by rw[oh];exact z w (by simp[m])) x h
def pos(own:List Int):Nat->List (Nat×Int)
 | 0=>[]
 | k+1=>pos own k++(if 0<own[k]?.getD 0 then [(k,own[k]?.getD 0)] else [])
theorem zD3(own:List Int):(k:Nat)->∀x∈pos own k,x.1<k/\own[x.1]?.getD 0=x.2/\0<x.2
 | 0,x,h=>by simp[pos]at h
 | k+1,x,h=>by
  rcases List.mem_append.1 h with h|h
  ·have:=zD3 own k x h;exact⟨by omega,this.2⟩
  ·split at h
   ·rename_i c;simp at h;subst h;exact⟨by simp,rfl,c⟩
   ·simp at h
theorem zHd(own:List Int):(k:Nat)->((pos own k).map (·.1)).Nodup
 | 0=>by simp[pos]
 | k+1=>by
  show((pos own k++_).map _).Nodup;rw[List.map_append];refine List.nodup_append.2 ⟨zHd own k,?_,λa ha b hb e=>?_⟩
  ·split<;>simp
  ·obtain⟨x,hx,rfl⟩:=List.mem_map.1 ha
   have:=(zD3 own k x hx).1;split at hb<;>simp at hb;omega
theorem zOd{own:List Int}: {k:Nat}->{i:Nat}->i<k->0<own[i]?.getD 0->1<=(pos own k).length
 | 0,_,h,_=>by omega
 | k+1,i,h,p=>by
  show 1<=(pos own k++_).length;rw[oU];by_cases e:i=k
  ·subst e;rw[if_pos p];simp
  ·have:=zOd (k:=k) (by omega) p;omega
def lz(l:List Int):Nat->Nat|0=>0|k+1=>if l[k]?.getD 0≠0 then k else lz l k
theorem zF7(l:List Int):(k:Nat)->lz l k<=k-1/\(∀i,i<k->lz l k<i->l[i]?.getD 0=0)/\((∃i,i<k/\l[i]?.getD 0≠0)->l[lz l k]?.getD 0≠0)
 | 0=>⟨oP _,λi h=>by omega,λ⟨i,h,_⟩=>by omega⟩
 | k+1=>by
  obtain⟨h1,h2,h3⟩:=zF7 l k;unfold lz;by_cases c:l[k]?.getD 0≠0
  ·rw[if_pos c];exact⟨by omega,λi a b=>by omega,λ_=>c⟩
  ·rw[if_neg c]
   refine⟨by omega,λi a b=>?_,λ⟨i,a,b⟩=>h3 ⟨i,?_,b⟩⟩
   ·by_cases e:i=k
    ·subst e;omega
    ·exact h2 i (by omega) b
   ·by_cases e:i=k
    ·subst e;exact absurd b c
    ·omega
def yk(l:List Int):List Int:=l.take (lz l l.length+1)
theorem zRk(f:Int->Int)(a b:List Int):Y8 f (a++b)=Y8 f a+Y8 f b:=by
 induction a with
 | nil=>simp[Y8]
 | cons x a ih=>simp only[List.cons_append,Y8,ih];omega
theorem zAF(f:Int->Int)(f0:f 0=0)(l:List Int)(h:∀x∈l,x=0):Y8 f l=0:=by
 induction l with
 | nil=>rfl
 | cons x l ih=>simp only[Y8,h x (by simp),f0,ih λy m=>h y (by simp[m])];rfl
theorem zGZ(l:List Int):∃r,l=yk l++r/\∀x∈r,x=0:=by
 refine⟨l.drop (lz l l.length+1),(List.take_append_drop _ _).symm,λx hx=>?_⟩
 obtain⟨i,hi,e⟩:=List.mem_iff_getElem.1 hx;rw[List.getElem_drop]at e;rw[List.length_drop]at hi;have:=(zF7 l l.length).2.1 (lz l l.length+1+i) (by omega) (by omega);rw[oO (by omega)]at this;rw[<-e];exact this
theorem zON(m:Nat)(l:List Int):((Zi m l:Nat):Int)=Y8 (λx=>(lone m x:Nat)) l:=by
 induction l with
 | nil=>rfl
 | cons x l ih=>simp only[Y8,<-ih];simp[Zi]
theorem zR6(l:List Int):((cnt l:Nat):Int)=Y8 (λx=>if x≠0 then 1 else 0) l:=by
 induction l with
 | nil=>rfl
 | cons x l ih =>
  simp only[Y8,<-ih];by_cases c:x=0<;>simp[cnt,c];omega
theorem zAQ{f g:Nat->Int}{l:List (Nat×Nat)}(h:∀x∈l,f x.2=g x.2):ZB f l=ZB g l:=by
 induction l with
 | nil=>rfl
 | cons x l ih=>obtain⟨a,b⟩:=x;simp only[ZB];rw[h (a,b) (by simp),ih λy m=>h y (by simp[m])]
theorem zNY(l:List (Nat×Nat)):ZB (λ_=>1) l=(l.length:Nat):=by
 induction l with
 | nil=>rfl
 | cons x l ih=>simp only[ZB,ih,oV];omega
theorem zBp{o:List Int}{a:List (Nat×Nat)}{x:Int}(h:x∈jU o a):x∈o\/∃y∈a,x=(y.2:Int):=by
 induction a generalizing o with
 | nil=>exact Or.inl h
 | cons y a ih =>
  rcases ih h with h|⟨z,m,e⟩
  ·rcases List.mem_or_eq_of_mem_set h with h|h
   ·exact Or.inl h
   ·exact Or.inr ⟨y,by simp,h⟩
  ·exact Or.inr ⟨z,by simp[m],e⟩
theorem zSg{own:List Int}{t:HT}(h2:own.length<=256)(hp:(t.ls.map (·.1)).Perm ((pos own own.length).map (·.1)))(hh:t.hgt<=11)(two:2<=(pos own own.length).length):OG (yk (jU (List.replicate own.length 0) (t.lv 0)))=0:=by
 have nd:((t.lv 0).map (·.1)).Nodup:=by rw[zAS];exact hp.symm.nodup (zHd _ _)
 have hlt:∀x∈t.lv 0,x.1<own.length:=by
  intro x hx;have:x.1∈(t.lv 0).map (·.1):=List.mem_map.2 ⟨x,hx,rfl⟩;rw[zAS]at this;obtain⟨y,hy,e⟩:=List.mem_map.1 (hp.mem_iff.1 this);rw[<-e];exact(zD3 _ _ y hy).1
 have hz:∀x∈t.lv 0,(List.replicate own.length (0:Int))[x.1]? = some 0:=λx hx=>by
  rw[List.getElem?_replicate,if_pos (hlt x hx)]
 have hlen:(t.lv 0).length=(pos own own.length).length:=by
  have:=congrArg List.length (zAS t 0);simp only[ol]at this;rw[this];simpa using hp.length_eq
 have hd1:∀x∈t.lv 0,1<=x.2:=by
  cases t with
  | leaf n s=>simp[HT.lv]at hlen;omega
  | join g a b =>
   intro x hx;have h':x∈a.lv 1++b.lv 1:=hx;rcases List.mem_append.1 h' with h|h
   ·exact(zCH a _ x h).1
   ·exact(zCH b _ x h).1
 have hd2:∀x∈t.lv 0,x.2<=t.hgt:=λx hx=>by have:=(zCH t 0 x hx).2;omega
 generalize ho:jU (List.replicate own.length 0) (t.lv 0)=out;have hol:out.length=own.length:=by rw[<-ho,Xa,List.length_replicate]
 have hmem:∀x∈out,x=0\/∃y∈t.lv 0,x=(y.2:Int):=λx hx=>by
  rw[<-ho]at hx;rcases zBp hx with h|h
  ·exact Or.inl (List.eq_of_mem_replicate h)
  ·exact Or.inr h
 have hsum:∀f:Int->Int,f 0=0->Y8 f out=ZB (λd=>f d) (t.lv 0):=λf f0=>by
  rw[<-ho,zKd f f0 _ _ nd hz,zAF f f0 _ (λx hx=>List.eq_of_mem_replicate hx)];omega
 obtain⟨r,hr,r0⟩:=zGZ out;have hsumt:∀f:Int->Int,f 0=0->Y8 f (yk out)=ZB (λd=>f d) (t.lv 0):=λf f0=>by
  rw[<-hsum f f0]
  conv=>rhs;rw[hr]
  rw[zRk,zAF f f0 r r0];omega
 have htm:∀x∈yk out,x∈out:=λx hx=>List.mem_of_mem_take hx
 have hnz:∀y∈t.lv 0,(y.2:Int)∈yk out:=by
  intro y hy;have h:=zEu (List.replicate own.length 0) (t.lv 0) nd (λx hx=>by rw[List.length_replicate];exact hlt x hx) y hy;rw[ho]at h;have m:(y.2:Int)∈out:=List.mem_of_getElem? h;rw[hr]at m;rcases List.mem_append.1 m with m|m
  ·exact m
  ·have:=r0 _ m;have:=hd1 y hy;omega
 have hmx:jT (yk out)=t.hgt:=by
  obtain⟨y,hy,e⟩:=zDS t 0;have h1:=zHW (hnz y hy);have h2:jT (yk out)<=t.hgt:=by
   have:=Xf (l:=yk out) (a:=0) (m:=t.hgt) (by omega) λx hx=>by
    rcases hmem x (htm x hx)with e|⟨y,hy,e⟩
    ·omega
    ·have:=hd2 y hy;omega
   unfold jT grt;omega
  omega
 have hcnt:cnt (yk out)=(t.lv 0).length:=by
  have:=zR6 (yk out);rw[hsumt _ rfl,zAQ (g:=λ_=>1) (λx hx=>by have:=hd1 x hx;rw[if_pos (by omega)]),zNY]at this
  omega
 have hls:Zi (jT (yk out)) (yk out)=2^jT (yk out):=by
  have h:=zON (jT (yk out)) (yk out);rw[hsumt _ rfl,hmx,zAQ (g:=λk=>2^(t.hgt-k)) (λx hx=>?_),zNW t.hgt t 0 (by omega)]at h
  ·rw[hmx]
   have:((Zi t.hgt (yk out):Nat):Int)=((2^t.hgt:Nat):Int):=by rw[h];simp
   omega
  ·have:=hd1 x hx
   unfold lone;rw[if_pos (by omega)];simp
 have hin:jk (yk out)=true:=by
  unfold jk;rw[List.all_eq_true];intro x hx;rcases hmem x (htm x hx)with e|⟨y,hy,e⟩
  ·subst e;decide
  ·have:=hd2 y hy
   simp only[oG,decide_eq_true_eq];omega
 have hcl:cnt (yk out)<=(yk out).length:=List.length_filter_le _ _;have htl:(yk out).length<=out.length:=by unfold yk;rw[List.length_take];omega
 have hlast:(yk out).getLast?≠some 0:=by
  have hne:∃i,i<out.length/\out[i]?.getD 0≠0:=by
   cases e:t.lv 0 with
   | nil=>rw[e]at hlen;simp at hlen;omega
   | cons y l =>
    have hy:y∈t.lv 0:=by rw[e];simp
    have m:=htm _ (hnz y hy);obtain⟨i,hi,e⟩:=List.mem_iff_getElem.1 m;refine⟨i,hi,?_⟩;rw[oO hi,e];have:=hd1 y hy;show(y.2:Int)≠0;omega
  have:=(zF7 out out.length).2.2 hne;have hb:=(zF7 out out.length).1;have h0:0<out.length:=by obtain⟨i,hi,_⟩:=hne;omega
  rw[List.getLast?_eq_getElem?];unfold yk;rw[List.length_take,Nat.min_eq_left (by omega),List.getElem?_take,if_pos (by omega)];intro e;simp only[Nat.add_sub_cancel]at e;rw[e]at this;exact this rfl
 unfold OG;rw[if_neg (by omega),if_pos hin,if_pos ⟨hlast,by omega,hls⟩]
abbrev HE:=Nat×HT
def ZU(l:List HE)(k:Nat):Int:=(l[k]?.map (λe=>e.2.cnt)).getD 0
theorem zVE{l:List HE}{i j:Nat}(hi:i<l.length)(hj:j<l.length)(k:Nat):ZU (swp l i j) k=sw (ZU l) i j k:=by
 unfold ZU sw;rw[zDt hi hj];by_cases a:k=j
 ·rw[if_pos a,if_pos a]
 ·rw[if_neg a,if_neg a]
  by_cases b:k=i
  ·rw[if_pos b,if_pos b]
  ·rw[if_neg b,if_neg b]
theorem zDy{l:List HE}{i j:Nat}(hi:i<l.length)(hj:j<l.length):ZU (swp l i j)=sw (ZU l) i j:=funext (zVE hi hj)
theorem zC1{l m:List HE}{k:Nat}(h:l[k]? = m[k]?):ZU l k=ZU m k:=by unfold ZU;rw[h]
structure Dn (n:Nat) (l m:List HE):Prop where
 perm:m.Perm l
 far:∀k,n<=k->m[k]? = l[k]?
 hp:HpI (ZU m) n
structure PopR (l:List HE) (x:HE) (m:List HE):Prop where
 perm:l.Perm (x::m)
 hp:HpI (ZU m) m.length
 least:∀y∈m,x.2.cnt<=y.2.cnt
structure PushR (l:List HE) (x:HE) (m:List HE):Prop where
 perm:m.Perm (x::l)
 hp:HpI (ZU m) m.length
theorem zVD{l:List HE}{y:HE}(h:y∈l):∃k,k<l.length/\ZU l k=y.2.cnt:=by
 obtain⟨k,hk,e⟩:=List.mem_iff_getElem.1 h;refine⟨k,hk,?_⟩;unfold ZU;rw[oO hk,e];rfl
theorem zYA{l m:List HE}{n:Nat}{x:HE}(hn:l.length=n+1)(hx:l[0]? = some x)(h:HpI (ZU l) (n+1))(d:Dn n (swp l 0 n) m):m[n]? = some x/\m.length=n+1/\PopR l x (m.take n):=by
 have hl:m.length=n+1:=by rw[d.perm.length_eq,XW,hn]
 have hmn:m[n]? = some x:=by
  rw[d.far n (oP _),zDt (by omega) (by omega),if_pos rfl,hx]
 have hp:l.Perm (x::m.take n):=by
  have e:m=m.take n++[x]:=by
   conv=>lhs;rw[<-List.take_append_drop n m]
   congr 1
   have:n<m.length:=by omega
   rw[List.drop_eq_getElem_cons this,List.drop_eq_nil_of_le (by omega)];rw[oO this]at hmn;rw[Option.some.inj hmn]
  have p1:l.Perm m:=(d.perm.trans (JP l 0 n)).symm;refine p1.trans ?_
  conv=>lhs;rw[e]
  exact List.perm_append_comm
 refine⟨hmn,hl,hp,?_,λy hy=>?_⟩
 ·rw[List.length_take,hl,Nat.min_eq_left (by omega)]
  exact d.hp.congr λk hk=>zC1 (by rw[List.getElem?_take,if_pos hk])
 ·have:y∈l:=hp.mem_iff.2 (by simp[hy])
  obtain⟨k,hk,e⟩:=zVD this;have:=zXg h k (by omega);have e0:ZU l 0=x.2.cnt:=by unfold ZU;rw[hx];rfl
  omega
theorem zSU{l m:List HE}{x:HE}(d:Dn (l.length+1) (l++[x]) m):PushR l x m:=by
 refine⟨d.perm.trans List.perm_append_comm,?_⟩;have:m.length=l.length+1:=by rw[d.perm.length_eq];simp
 rw[this];exact d.hp
def fls(l:List HE):List (Nat×Int):=l.flatMap λe=>e.2.ls
theorem Xc{l m:List HE}(h:l.Perm m):(fls l).Perm (fls m):=h.flatMap_right _
structure HPool (q:List (Nat×Int)) (l:List HE):Prop where
 hp:HpI (ZU l) l.length
 pool:Pool (l.map (·.2))
 ls:(fls l).Perm q
theorem HPool.nil:HPool [] []:=⟨λk h0 h=>by simp at h,Pool.nil,List.Perm.refl _⟩
theorem HPool.push{q:List (Nat×Int)}{l m:List HE}{p:Nat}{n:Int}{s:Nat}(h:HPool q l)(a:∀e∈l,e.2.cw=0)(c:1<=n)(r:PushR l (p,.leaf n s) m):HPool (q++[(s,n)]) m/\∀e∈m,e.2.cw=0:=by
 refine⟨⟨r.hp,?_,?_⟩,λe he=>?_⟩
 ·have p1:=(r.perm.map (·.2)).symm
  refine Pool.perm ?_ p1;exact h.pool.leaf (λt ht=>by obtain⟨e,he,rfl⟩:=List.mem_map.1 ht;exact a e he) c
 ·refine(Xc r.perm).trans ?_
  show([(s,n)]++fls l).Perm _;exact List.perm_append_comm.trans (h.ls.append_right _)
 ·rcases od.1 (r.perm.mem_iff.1 he)with rfl|he
  ·rfl
  ·exact a e he
theorem HPool.join{q:List (Nat×Int)}{l l1 l2 l3:List HE}{a b:HE}{p g:Nat}(h:HPool q l)(r1:PopR l a l1)(r2:PopR l1 b l2)(r3:PushR l2 (p,.join g a.2 b.2) l3):HPool q l3/\l3.length+1=l.length:=by
 have pl:l.Perm (a::b::l2):=r1.perm.trans (r2.perm.cons a);refine⟨⟨r3.hp,?_,?_⟩,?_⟩
 ·refine Pool.perm ?_ (r3.perm.map (·.2)).symm
  refine(h.pool.perm (pl.map (·.2))).join (λu hu=>?_) (λu hu=>?_) g
  ·obtain⟨e,he,rfl⟩:=List.mem_map.1 hu
   exact r1.least e (r2.perm.mem_iff.2 (by simp[he]))
  ·obtain⟨e,he,rfl⟩:=List.mem_map.1 hu
   exact r2.least e he
 ·refine(Xc r3.perm).trans (List.Perm.trans ?_ h.ls)
  refine List.Perm.trans ?_ (Xc pl).symm;show((a.2.ls++b.2.ls)++fls l2).Perm (a.2.ls++(b.2.ls++fls l2));rw[List.append_assoc]
 ·have:=r3.perm.length_eq;have:=pl.length_eq
  simp at *;omega
theorem HPool.one{e:HE}{n:Nat}(h:HPool (pos own n) [e]):e.2.nice/\e.2.ls.Perm (pos own n):=by
 refine⟨h.pool.nice e.2 (by simp),?_⟩;have:=h.ls;simpa [fls]using this
theorem Ou(own:List Int)(h:∀x∈own,0<=x):(k:Nat)->k<=own.length->jh (pos own k)=(own.take k).sum
 | 0,_=>by simp[pos,jh]
 | k+1,hk=>by
  have hk':k<own.length:=by omega
  show jh (pos own k++_)=_;rw[Z8,Ou own h k (by omega),List.take_add_one,List.sum_append,oO hk'];have:=h own[k] (by simp);by_cases c:0<own[k]
  ·simp[c,jh]
  ·simp[c,jh];omega
def qA(l:List Int):List Int:=l.map λx=>x-x/2
theorem q8(l:List Int):(qA l).length=l.length:=by simp[qA]
theorem Ji(l:List Int):(k:Nat)->(pos (qA l) k).map (·.1)=(pos l k).map (·.1)
 | 0=>rfl
 | k+1=>by
  show(pos (qA l) k++_).map _=(pos l k++_).map _;rw[List.map_append,List.map_append,Ji l k]
  congr 1
  have e:(qA l)[k]?.getD 0=l[k]?.getD 0-l[k]?.getD 0/2:=by
   unfold qA;rw[oW];cases l[k]?<;>simp
  rw[e];by_cases c:0<l[k]?.getD 0
  ·rw[if_pos c,if_pos (by omega)];rfl
  ·rw[if_neg c,if_neg (by omega)]
theorem zRp{e:HE}(h:HPool (pos own own.length) [e])(hn:∀x∈own,0<=x)(c:11<e.2.hgt):377<=own.sum:=by
 obtain⟨h1,h2⟩:=h.one;have e1:=Ou own hn own.length (oP _);rw[List.take_length]at e1;have e2:=Yx e.2;rw[YN h2,e1]at e2;by_cases q:own.sum<=376
 ·have:=zKs h1 (by omega);omega
 ·omega
end Go.Proofs.YtnpeieeomokomaaGreat
