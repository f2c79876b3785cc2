/- TP. No condition. -/
import Derived.Test.YtnpeieeomokomaaGreatZTO
import Derived.Test.YtnpeieeomokomaaGreatZTM
import Derived.Test.YtnpeieeomokomaaGreatZCG
import Derived.Test.YtnpeieeomokomaaGreatZTL
import Derived.Test.YtnpeieeomokomaaGreatZW
set_option maxRecDepth 100000
set_option maxHeartbeats 1000000
noncomputable section
namespace Go.Proofs.YtnpeieeomokomaaGreat
open Go.Sim
variable {h:H}{Q:V->H->Prop}
open Go (Oper)
def xA (x y:Int):Int:=if x<y then -1 else if y<x then 1 else 0
theorem zCp {x y:Int}(hq:Q (.int .i64 (xA x y)) h):RF P zA 335 [.int .i64 x,.int .i64 y] h Q:=by
 unfold xA at hq;refine yD z0z rfl rfl z3G (zAF ⟨false,rfl,λc=>(by cases c),λ_=>zAF ⟨false,rfl,λc=>(by cases c),λ_=>⟨λc=>?_,λc=>⟨λc2=>?_,λc2=>?_⟩⟩⟩⟩)
 ·rw[if_pos c]at hq;exact hq
 ·rw[if_neg c,if_pos c2]at hq;exact hq
 ·rw[if_neg c,if_neg c2]at hq;exact hq
theorem z1Q {v:V}{l:List Int}(sl:Sl h v 1 l.length (l.map λn=>V.int .i64 n)) (hl:l.length<4611686018427387904) (hq:Q (.int .i64 (wT l)) h):RF P zA 334 [v] h Q:=by
 refine yD z0y rfl rfl z3F ⟨_,sl.len zO rfl,Has.nil.on λtm hs=>?_⟩
 refine wpC.round (λk tm h'=>∃i:Nat,i<=l.length/\k=l.length-i/\h'=h/\wT (l.take i)=0/\Has tm [(8,.int .i64 i),(7,.int .i64 l.length),(6,v),(3,.int .i64 0)]) l.length ⟨0,by omega,by omega,rfl,by simp[wT],hs.sub (by kernel_rfl)⟩ ?_
 rintro k tm h' ⟨i,h1,rfl,rfl,h2,hs⟩;refine wpC.av hs zSq rfl rfl ⟨λc=>?_,λc=>hs.on λtm' hs'=>?_⟩
 ·have hi:i<l.length:=by omega
  have hg:l[i]? = some l[i]:=oO hi;obtain⟨b,o,e1,e2⟩:=sl.at1 (u:=.int .i64 l[i]) hi zO rfl zb rfl rfl (by rw[oW,hg];rfl);have ed:wT l=if l[i]≠0 then l[i] else wT (l.drop (i+1)):=by
   rw[zBq h2,List.drop_eq_getElem_cons hi];rfl
  refine⟨b,o,e1,l[i],e2,λc2=>hs.on λtm' hs'=>?_,λc2=>hs.on λtm' hs'=>?_⟩
  ·rw[ed,if_pos c2]at hq
   exact thenC.rt (thenC.rt (endW.r1 (hs'.get rfl) hq))
  ·have e:zH ((i:Int)+1)=((i+1:Nat):Int):=by rw[zD (by omega) (by omega)];rfl
   refine⟨rfl,rfl,l.length-(i+1),by omega,i+1,by omega,rfl,rfl,?_,?_⟩
   ·rw[List.take_add_one,hg]
    clear ed hq hs sl;generalize l.take i=z at h2 ⊢
    induction z with
    | nil=>simp only[List.nil_append,Option.toList_some,wT];rw[if_neg c2]
    | cons x z ih =>
     simp only[List.cons_append,wT]at h2 ⊢;split at h2
     ·rename_i hx;exact absurd h2 hx
     ·rename_i hx;rw[if_neg hx];exact ih h2
   ·rw[<-e];exact hs'.sub (by kernel_rfl)
 ·have hi:i=l.length:=by omega
  subst hi;rw[List.take_length]at h2;rw[h2]at hq;refine thenC.left (wpS.av hs' zUL rfl rfl (hs'.on λtm2 hs2=>?_));exact endW.r1 (hs2.get rfl) hq
def O4 (a0 a1 a2 b0 b1 b2:Int):Bool:=JN (wT [xA a0 b0,xA a1 b1,xA a2 b2]) 0
section
variable (a0 a1 a2 b0 b1 b2:Int)
abbrev kv (a b c:Int):V:=.agg [.int .i64 a,.int .i64 b,.int .i64 c]
def z6c:H:=(H0.new (.cells (.ls [.int .i64 a0,.int .i64 a1,.int .i64 a2]) ⟨0,426+1,0⟩ true false)).new (.cells (.ls [.int .i64 b0,.int .i64 b1,.int .i64 b2]) ⟨0,426+1,0⟩ true false)
def z6p:Tm:=Tb.set (Tb.set (Tb.set (Tb.set (Tb.set (Tb.leaf zB) 0 (kv a0 a1 a2)) 1 (kv b0 b1 b2)) 2 (.ptr H0.nx 0)) 3 (.ptr 1 0)) 4 (.bool false)
def zXO:Nat:=(yZ z6B.toList).getD 0
def zRk (x y z o:Int):Option (List Qy×St) :=
 wK zA z6B.toList (z8 z6B.toList []) zXO zXO 0 z6B.toList ⟨23,z6p a0 a1 a2 b0 b1 b2,[],z6c a0 a1 a2 b0 b1 b2⟩ [.int .i64 x,.int .i64 y,.int .i64 z,.int .i64 o]
theorem zRX:yZ z6B.toList=some zXO:=by kernel_rfl
theorem zRl (x y z o:Int):(zRk a0 a1 a2 b0 b1 b2 x y z o).isSome=true:=by kernel_rfl
theorem zRm (x y z o:Int):(zRk a0 a1 a2 b0 b1 b2 x y z o).map (λx=>x.1.map λq=>(q.1,q.2.2)) =
  some [((335,[.int .i64 a0,.int .i64 b0]),.int .i64 x),((335,[.int .i64 a1,.int .i64 b1]),.int .i64 y),((335,[.int .i64 a2,.int .i64 b2]),.int .i64 z),((334,[.slice 2 0 3 (.exact 3)]),.int .i64 o)]:=by kernel_rfl
theorem zX8 (x y z o:Int):((zRk a0 a1 a2 b0 b1 b2 x y z o).bind λx=>(x.1[3]?).map λq=>(q.2.1.nx,q.2.1.get 2))=some (3,some (.cells (.ls [.int .i64 x,.int .i64 y,.int .i64 z]) ⟨0,3+1,0⟩ true false)):=by kernel_rfl
theorem zX9 (x y z o:Int):(zRk a0 a1 a2 b0 b1 b2 x y z o).map (λx=>(x.2.n,x.2.dfr,zi x.2.tm 4))=some (23,[],.bool (JN o 0)):=by kernel_rfl
theorem zKL {h:H}{Q:V->H->Prop}(hq:Q (.bool (O4 a0 a1 a2 b0 b1 b2)) h):RF P zA 388 [kv a0 a1 a2,kv b0 b1 b2] h Q:=by
 refine RF.plain ?_ (zj rfl);have hq:∀h':H,Plain (.bool (O4 a0 a1 a2 b0 b1 b2))/\Q (.bool (O4 a0 a1 a2 b0 b1 b2)) h:=λ_=>⟨zd rfl,hq⟩
 refine yD z1F rfl rfl z3M ⟨of_decide_eq_true (by kernel_rfl),?_⟩;rintro p0 h1 rfl rfl;refine⟨of_decide_eq_true (by kernel_rfl),?_⟩;rintro p2 h3 rfl rfl;obtain⟨⟨qs,s'⟩,e⟩:=Option.isSome_iff_exists.1 (zRl a0 a1 a2 b0 b1 b2 (xA a0 b0) (xA a1 b1) (xA a2 b2) (wT [xA a0 b0,xA a1 b1,xA a2 b2]));have k:=qs_at e (zRm _ _ _ _ _ _ _ _ _ _);have eh:=zX8 a0 a1 a2 b0 b1 b2 (xA a0 b0) (xA a1 b1) (xA a2 b2) (wT [xA a0 b0,xA a1 b1,xA a2 b2]);have es:=zX9 a0 a1 a2 b0 b1 b2 (xA a0 b0) (xA a1 b1) (xA a2 b2) (wT [xA a0 b0,xA a1 b1,xA a2 b2]);rw[e]at eh es;obtain⟨q0,q1,q2,q3,rfl⟩:∃q0 q1 q2 q3,qs=[q0,q1,q2,q3]:=by
  exact zXM (by have:=congrArg List.length k;simpa using this)
 simp only[List.map_cons,List.map_nil,List.cons.injEq,oB,and_true]at k;obtain⟨⟨k0,v0⟩,⟨k1,v1⟩,⟨k2,v2⟩,⟨k3,v3⟩⟩:=k;obtain⟨⟨f0,a0'⟩,⟨w0,x0⟩⟩:=q0;obtain⟨⟨f1,a1'⟩,⟨w1,x1⟩⟩:=q1;obtain⟨⟨f2,a2'⟩,⟨w2,x2⟩⟩:=q2;obtain⟨⟨f3,a3'⟩,⟨w3,x3⟩⟩:=q3;simp only at k0 v0 k1 v1 k2 v2 k3 v3;obtain⟨rfl,rfl⟩:=k0;obtain⟨rfl,rfl⟩:=k1;obtain⟨rfl,rfl⟩:=k2;obtain⟨rfl,rfl⟩:=k3;subst v0 v1 v2 v3;refine wpDr.ans zRX e ?_ ?_ ?_
 ·intro q hq
  simp only[od,List.not_mem_nil,or_false]at hq;rcases hq with rfl|rfl|rfl|rfl
  ·exact RF.same (zCp ⟨rfl,rfl⟩)
  ·exact RF.same (zCp ⟨rfl,rfl⟩)
  ·exact RF.same (zCp ⟨rfl,rfl⟩)
  ·simp only[List.getElem?_cons_succ,List.getElem?_cons_zero,Option.bind_some,oZ,oA,oB]at eh
   refine RF.same (z1Q (l:=[xA a0 b0,xA a1 b1,xA a2 b2]) ⟨rfl,.inr ⟨2,0,_,_,_,_,_,rfl,by rw[eh.1];decide,eh.2,?_⟩⟩ (by simp) ⟨rfl,rfl⟩);intro i hi;rcases i with _|_|_|i
   ·rfl
   ·rfl
   ·rfl
   ·exact absurd hi (by show ¬i+1+1+1<3*1;omega)
 ·have:∀q∈[((335,[V.int .i64 a0,.int .i64 b0]),w0,V.int .i64 (xA a0 b0)),((335,[.int .i64 a1,.int .i64 b1]),w1,.int .i64 (xA a1 b1)),((335,[.int .i64 a2,.int .i64 b2]),w2,.int .i64 (xA a2 b2)),((334,[.slice 2 0 3 (.exact 3)]),w3,.int .i64 (wT [xA a0 b0,xA a1 b1,xA a2 b2]))],q.2.2=(match q.1.2 with | [.int _ x,.int _ y]=>.int .i64 (xA x y)|_=>.int .i64 (wT [xA a0 b0,xA a1 b1,xA a2 b2])):=λq hq=>by
   simp only[od,List.not_mem_nil,or_false]at hq;rcases hq with rfl|rfl|rfl|rfl<;>rfl
  intro a ha b hb hab;rw[this a ha,this b hb,hab]
 ·obtain⟨n,tm,d,hp⟩:=s'
  simp only[oZ,oA,oB]at es;obtain⟨rfl,rfl,g4⟩:=es;have hs0:Has tm [(4,.bool (O4 a0 a1 a2 b0 b1 b2))]:=⟨g4,trivial⟩;exact thenC.nx (wpS.av hs0 zUN rfl rfl (hs0.on λtm' hs'=>endW.r1 (hs'.get rfl) (hq hp)))
end
theorem zIX {a0 a1 a2 b0 b1 b2:Int}:(O4 a0 a1 a2 b0 b1 b2=true->a0<=b0)/\(O4 a0 a1 a2 b0 b1 b2=false->b0<=a0):=by
 unfold O4;rw[yg];by_cases c:a0<b0
 ·have:wT [xA a0 b0,xA a1 b1,xA a2 b2] = -1:=by simp[wT,xA,c]
  rw[this];exact⟨λ_=>by omega,λh=>by cases h⟩
 ·by_cases c2:b0<a0
  ·have:wT [xA a0 b0,xA a1 b1,xA a2 b2]=1:=by simp[wT,xA,c,c2]
   rw[this];exact⟨λh=>(by cases h),λ_=>by omega⟩
  ·exact⟨λ_=>by omega,λ_=>by omega⟩
end Go.Proofs.YtnpeieeomokomaaGreat
namespace Go.Proofs.YtnpeieeomokomaaGreat
open Go.Sim
variable {h:H}{Q:V->H->Prop}
open Go (Oper)
abbrev ndO (n s g:Int) (a b:V):O:=.cells (.ls [.int .i64 n,.int .i64 s,.int .i64 g,a,b]) ⟨0,237+1,0⟩ true false
theorem zGy {p o:Nat}{k:V->H->Prop}:zS zA 237 0 h (.ptr p o) k=k (.ptr p (o+0)) h:=by kernel_rfl
theorem zM8 {p o:Nat}{k:V->H->Prop}:zS zA 237 1 h (.ptr p o) k=k (.ptr p (o+1)) h:=by kernel_rfl
theorem zGz {p o:Nat}{k:V->H->Prop}:zS zA 237 2 h (.ptr p o) k=k (.ptr p (o+2)) h:=by kernel_rfl
theorem zMq {p:Nat}{n s g:Int}{a b:V}(hp:p<h.nx) (gp:h.get p=some (ndO n s g a b)) (hn:h.nx<T.top) (hl:h.low<=T.top) (hq:Q (kv n g s) h):RF P zA 389 [.ptr p 0] h Q:=by
 refine RF.forget (n:=1) (v:=kv n g s) ?_ (zd rfl) hq;refine yD z1G rfl rfl z3N ⟨hn,?_⟩;rintro p0 h1 rfl e1;obtain⟨n1,x1,g1⟩:=zx e1 hn;have hl1:h1.low<=T.top:=oQ x1.low hl;have q1:h1.get p=some (ndO n s g a b):=by rw[x1.get p hp,gp]
 have low:=yE (h:=h1) (by omega) hl1;refine⟨⟨by omega,hl1⟩,.ptr p 0,zM h1,rfl,low.1,?_⟩;intro h4 e4;rw[low.2]at e4;subst e4;rw[zGy];refine⟨n,zX zb rfl q1 rfl,.ptr p 0,zM h4,rfl,low.1,?_⟩;intro h10 e10;rw[low.2]at e10;subst e10;rw[zGz];refine⟨g,zX zb rfl q1 rfl,.ptr p 0,zM h10,rfl,low.1,?_⟩;intro h16 e16;rw[low.2]at e16;subst e16;rw[zM8];have hu:h.nx<T.top:=hn;exact⟨s,zX zb rfl q1 rfl,_,zk zVT g1 rfl (oJ _) rfl rfl,endL.ok (leaveL.cell (zo zVT rfl (zN _ hu) rfl) rfl) ⟨rfl,x1.upd _ hu (oP _)⟩⟩
def zDN:List Oper:=z6A.toList
def oL (i:Nat):Oper:=(zDN[i]?).getD default
theorem zR3:zDN=[oL 0,oL 1,oL 2,oL 3,oL 4,oL 5,oL 6,oL 7,oL 8,oL 9,oL 10,oL 11]:=by kernel_rfl
theorem okL:yZ zDN=some 9:=by kernel_rfl
section
variable (v:V) (i j:Int) (p q pa oa qa ob:Nat) (k1 k2:V) (b:Bool)
def TL0:Tm:=Tb.set (Tb.set (Tb.set (Tb.set (Tb.leaf zB) 0 v) 1 (.int .i64 i)) 2 (.int .i64 j)) 6 (.bool false)
def TL1:Tm:=Tb.set (TL0 v i j) 7 v
def TL2:Tm:=Tb.set (TL1 v i j) 8 (.int .i64 i)
def TL3:Tm:=Tb.set (TL2 v i j) 9 (.ptr pa oa)
def TL4:Tm:=Tb.set (TL3 v i j pa oa) 10 (.ptr p 0)
def TL5:Tm:=Tb.set (TL4 v i j p pa oa) 11 k1
def TL6:Tm:=Tb.set (TL5 v i j p pa oa k1) 12 v
def TL7:Tm:=Tb.set (TL6 v i j p pa oa k1) 13 (.int .i64 j)
def TL8:Tm:=Tb.set (TL7 v i j p pa oa k1) 14 (.ptr qa ob)
def TL9:Tm:=Tb.set (TL8 v i j p pa oa qa ob k1) 15 (.ptr q 0)
def zYn:Tm:=Tb.set (TL9 v i j p q pa oa qa ob k1) 16 k2
def zYo:Tm:=Tb.set (zYn v i j p q pa oa qa ob k1 k2) 17 (.bool b)
def zQM:Tm:=Tb.set (zYo v i j p q pa oa qa ob k1 k2 b) 6 (.bool b)
variable (h:H)
theorem aL0:zh zA (oL 0) (zz (TL0 v i j)) h=some (.val v h):=by kernel_rfl
theorem aL1:zh zA (oL 1) (zz (TL1 v i j)) h=some (.val (.int .i64 i) h):=by kernel_rfl
theorem aL2:(oL 2).op = .indexAddr 233 (t 7) (t 8)/\zz (TL2 v i j) (t 7)=some v/\zz (TL2 v i j) (t 8)=some (.int .i64 i):=⟨by kernel_rfl,by kernel_rfl,by kernel_rfl⟩
theorem aL3:(oL 3).op = .load 235 (t 9)/\zz (TL3 v i j pa oa) (t 9)=some (.ptr pa oa):=⟨by kernel_rfl,by kernel_rfl⟩
theorem aL4:zh zA (oL 4) (zz (TL4 v i j p pa oa)) h=some (.call 389 [.ptr p 0]):=by kernel_rfl
theorem aL5:zh zA (oL 5) (zz (TL5 v i j p pa oa k1)) h=some (.val v h):=by kernel_rfl
theorem aL6:zh zA (oL 6) (zz (TL6 v i j p pa oa k1)) h=some (.val (.int .i64 j) h):=by kernel_rfl
theorem aL7:(oL 7).op = .indexAddr 233 (t 12) (t 13)/\zz (TL7 v i j p pa oa k1) (t 12)=some v/\zz (TL7 v i j p pa oa k1) (t 13)=some (.int .i64 j):=⟨by kernel_rfl,by kernel_rfl,by kernel_rfl⟩
theorem aL8:(oL 8).op = .load 235 (t 14)/\zz (TL8 v i j p pa oa qa ob k1) (t 14)=some (.ptr qa ob):=⟨by kernel_rfl,by kernel_rfl⟩
theorem aL9:zh zA (oL 9) (zz (TL9 v i j p q pa oa qa ob k1)) h=some (.call 389 [.ptr q 0]):=by kernel_rfl
theorem z5d:zh zA (oL 10) (zz (zYn v i j p q pa oa qa ob k1 k2)) h=some (.call 388 [k1,k2]):=by kernel_rfl
theorem z5e:zh zA (oL 11) (zz (zYo v i j p q pa oa qa ob k1 k2 b)) h=some (.val (.bool b) h):=by kernel_rfl
theorem gL:zi (zQM v i j p q pa oa qa ob k1 k2 b) 6 = .bool b:=by kernel_rfl
end
theorem dL:(oL 0).dst=some 7/\(oL 1).dst=some 8/\(oL 2).dst=some 9/\(oL 3).dst=some 10/\(oL 4).dst=some 11/\(oL 5).dst=some 12/\(oL 6).dst=some 13/\(oL 7).dst=some 14/\(oL 8).dst=some 15/\(oL 9).dst=some 16/\(oL 10).dst=some 17/\(oL 11).dst=some 6 :=
 ⟨by kernel_rfl,by kernel_rfl,by kernel_rfl,by kernel_rfl,by kernel_rfl,by kernel_rfl,by kernel_rfl,by kernel_rfl,by kernel_rfl,by kernel_rfl,by kernel_rfl,by kernel_rfl⟩
theorem guL:(oL 0).guard=none/\(oL 1).guard=none/\(oL 2).guard=none/\(oL 3).guard=none/\(oL 4).guard=none/\(oL 5).guard=none/\(oL 6).guard=none/\(oL 7).guard=none/\(oL 8).guard=none/\(oL 9).guard=none/\(oL 10).guard=none/\(oL 11).guard=none :=
 ⟨by kernel_rfl,by kernel_rfl,by kernel_rfl,by kernel_rfl,by kernel_rfl,by kernel_rfl,by kernel_rfl,by kernel_rfl,by kernel_rfl,by kernel_rfl,by kernel_rfl,by kernel_rfl⟩
theorem zRV {v:V}{n i j:Nat}{p q:Nat}{xs:List V}{n1 s1 g1 n2 s2 g2:Int}{a1 b1 a2 b2:V}(sl:Sl h v 1 n xs) (hi:i<n) (hj:j<n) (xi:xs[i]? = some (.ptr p 0)) (xj:xs[j]? = some (.ptr q 0)) (np:p<h.nx) (nq:q<h.nx)
  (gp:h.get p=some (ndO n1 s1 g1 a1 b1)) (gq:h.get q=some (ndO n2 s2 g2 a2 b2)) (hn:h.nx<T.top) (hl:h.low<=T.top) (hq:Q (.bool (O4 n1 g1 s1 n2 g2 s2)) h):RF P zA 384 [v,.int .i64 i,.int .i64 j] h Q:=by
 obtain⟨pa,oa,e1,e2⟩:=sl.at1 hi jw rfl qd rfl rfl xi;obtain⟨qa,ob,e3,e4⟩:=sl.at1 hj jw rfl qd rfl rfl xj;have hn':h.nx<=T.top:=Nat.le_of_lt hn;refine yD z1B rfl rfl z3I ?_;show wpDr P zA false zDN ⟨18,TL0 v (i:Nat) (j:Nat),[],h⟩ _;obtain⟨d0,d1,d2,d3,d4,d5,d6,d7,d8,d9,d10,d11⟩:=dL;obtain⟨u0,u1,u2,u3,u4,u5,u6,u7,u8,u9,u10,u11⟩:=guL;generalize hk1:kv n1 g1 s1=k1;generalize hk2:kv n2 g2 s2=k2;generalize hb:O4 n1 g1 s1 n2 g2 s2=b at hq;have main:wK zA zDN (z8 zDN []) 9 9 0 zDN ⟨18,TL0 v (i:Nat) (j:Nat),[],h⟩ [k1,k2,.bool b]=some ([((389,[.ptr p 0]),(zM h,k1)),((389,[.ptr q 0]),(h,k2)),((388,[k1,k2]),(h,.bool b))],⟨18,zQM v (i:Nat) (j:Nat) p q pa oa qa ob k1 k2 b,[],h⟩):=by
  generalize z8 zDN []=bs;generalize hops:zDN=ops;have hl6:ops=[oL 0,oL 1,oL 2,oL 3,oL 4,oL 5,oL 6,oL 7,oL 8,oL 9,oL 10,oL 11]:=by rw[<-hops];exact zR3
  have main:wK zA ops bs 9 9 0 [oL 0,oL 1,oL 2,oL 3,oL 4,oL 5,oL 6,oL 7,oL 8,oL 9,oL 10,oL 11] ⟨18,TL0 v (i:Nat) (j:Nat),[],h⟩ [k1,k2,.bool b]=some ([((389,[.ptr p 0]),(zM h,k1)),((389,[.ptr q 0]),(h,k2)),((388,[k1,k2]),(h,.bool b))],⟨18,zQM v (i:Nat) (j:Nat) p q pa oa qa ob k1 k2 b,[],h⟩):=by
   refine yd u0 (aL0 ..) d0 rfl hn' hl ?_;refine yd u1 (aL1 ..) d1 rfl hn' hl ?_;refine yd u2 (aop_idx (aL2 v i j).1 (aL2 v i j).2.1 (aL2 v i j).2.2 e1) d2 rfl hn' hl ?_;refine yd u3 (xO (aL3 v i j pa oa).1 (aL3 v i j pa oa).2 (show zK zA 235 (zM h) (.ptr pa oa)=_ from e2)) d3 rfl hn' hl ?_;refine Ol u4 (aL4 ..) d4 rfl hn' hl ?_;refine yd u5 (aL5 ..) d5 rfl hn' hl ?_;refine yd u6 (aL6 ..) d6 rfl hn' hl ?_;refine yd u7 (aop_idx (aL7 v i j p pa oa k1).1 (aL7 v i j p pa oa k1).2.1 (aL7 v i j p pa oa k1).2.2 e3) d7 rfl hn' hl ?_;refine yd u8 (xO (aL8 v i j p pa oa qa ob k1).1 (aL8 v i j p pa oa qa ob k1).2 (show zK zA 235 (zM h) (.ptr qa ob)=_ from e4)) d8 rfl hn' hl ?_;refine zBi (Jc u9 (aL9 ..) d9 rfl (Jc u10 (z5d ..) d10 rfl (zF8 u11 (z5e ..) d11 rfl ?_)));rfl
  rw[<-hl6]at main;exact main
 have g:=gL v i j p q pa oa qa ob k1 k2 b;subst hk1 hk2 hb;refine wpDr.ans okL main (λc hc=>?_) (λa ha c hc hac=>?_) ?_
 ·simp only[od,List.not_mem_nil,or_false]at hc
  rcases hc with rfl|rfl|rfl
  ·exact RF.same (zMq np gp hn (oP _) ⟨rfl,rfl⟩)
  ·exact RF.same (zMq nq gq hn hl ⟨rfl,rfl⟩)
  ·exact RF.same (zKL _ _ _ _ _ _ ⟨rfl,rfl⟩)
 ·have hpq:p=q->kv n1 g1 s1=kv n2 g2 s2:=λe=>by
   subst e;rw[gp]at gq;simp only[oA,O.cells.injEq,Cs.ls.injEq,List.cons.injEq,V.int.injEq,true_and,and_true]at gq;obtain⟨e1,e2,e3,_⟩:=gq;rw[e1,e2,e3]
  simp only[od,List.not_mem_nil,or_false]at ha hc;rcases ha with rfl|rfl|rfl<;>rcases hc with rfl|rfl|rfl
  ·rfl
  ·exact hpq (by simpa using hac)
  ·simp at hac
  ·exact(hpq (by simpa using hac.symm)).symm
  ·rfl
  ·simp at hac
  ·simp at hac
  ·simp at hac
  ·rfl
 ·have hs0:Has (zQM v (i:Nat) (j:Nat) p q pa oa qa ob (kv n1 g1 s1) (kv n2 g2 s2) (O4 n1 g1 s1 n2 g2 s2)) [(6,.bool (O4 n1 g1 s1 n2 g2 s2))]:=⟨g,trivial⟩
  exact thenC.nx (wpS.av hs0 zUM rfl rfl (hs0.on λtm' hs'=>endW.r1 (hs'.get rfl) hq))
end Go.Proofs.YtnpeieeomokomaaGreat
namespace Go.Proofs.YtnpeieeomokomaaGreat
open Go.Sim
variable {h:H}{Q:V->H->Prop}
abbrev kN:Rk:=⟨1,235+1,0⟩
def Arr (h:H) (v:V) (xs:List V):Prop:=∃b cs,v = .slice b 0 xs.length (.skip 0)/\b<h.nx/\h.get b=some (.cells cs kN true true)/\cs.wf/\xs.length<=cs.len/\∀i,i<xs.length->cs.get? i=xs[i]?
def Emp (h:H) (v:V):Prop:=∃b,v = .slice b 0 0 (.exact 0)/\b<h.nx/\h.get b=some (.cells (.ls []) ⟨0,235+1,0⟩ true false)
def Ar (h:H) (v:V) (xs:List V):Prop:=Arr h v xs\/(xs=[]/\Emp h v)
theorem Ar.sl {v:V}{xs:List V}(a:Ar h v xs):Sl h v 1 xs.length xs:=by
 rcases a with⟨b,cs,rfl,h1,h2,_,_,h5⟩|⟨rfl,b,rfl,h1,h2⟩
 ·exact⟨by simp,.inr ⟨b,0,_,cs,_,_,_,rfl,h1,h2,λi hi=>by rw[Nat.zero_add];exact h5 i (by omega)⟩⟩
 ·exact⟨rfl,.inr ⟨b,0,_,_,_,_,_,rfl,h1,h2,λi hi=>absurd hi (by show ¬i<0*1;omega)⟩⟩
theorem Ar.blk {v:V}{xs:List V}(a:Ar h v xs):∃b,zu v=some b/\b<h.nx:=by
 rcases a with⟨b,cs,rfl,h1,_⟩|⟨rfl,b,rfl,h1,_⟩
 ·exact⟨b,rfl,h1⟩
 ·exact⟨b,rfl,h1⟩
theorem Ar.keep {h h':H}{v:V}{xs:List V}(a:Ar h v xs) (hn:h.nx<=h'.nx) (hg:∀b,zu v=some b->h'.get b=h.get b):Ar h' v xs:=by
 rcases a with⟨b,cs,rfl,h1,h2,h3⟩|⟨rfl,b,rfl,h1,h2⟩
 ·exact .inl ⟨b,cs,rfl,by omega,by rw[hg b rfl];exact h2,h3⟩
 ·exact .inr ⟨rfl,b,rfl,by omega,by rw[hg b rfl];exact h2⟩
theorem zBv {p:Nat}{o:O}(hp:p<T.top) (hn:h.nx<T.top):yG h (((zM h).upd p none).new o)=(h.upd p none).new o:=by
 have e:=kO (h:=h) (o:=none) hp;rw[H.new_eq,H.new_eq];cases h with
 | mk t n l =>
  have e2:=congrArg H.low e;show(⟨_,_,(yG ⟨t,n,l⟩ ((zM ⟨t,n,l⟩).upd p none)).low⟩:H)=_;rw[e2];rfl
theorem zFX {o:O}(hl:h.low<=T.top):yG h ((zM h).new o)=h.new o:=by
 have e:=Xh (h:=h) hl;rw[H.new_eq,H.new_eq];cases h with
 | mk t n l =>
  have e2:=congrArg H.low e;show(⟨_,_,(yG ⟨t,n,l⟩ (zM ⟨t,n,l⟩)).low⟩:H)=_;rw[e2];rfl
theorem Ar.one {v:V}{xs:List V}(a:Ar h v xs):wL v.cells 1=true:=by
 rcases a with⟨b,cs,rfl,_⟩|⟨rfl,b,rfl,_⟩<;>rfl
theorem Ar.all {v:V}{xs:List V}(a:Ar h v xs):zL v.cells=true:=by
 rcases a with⟨b,cs,rfl,_⟩|⟨rfl,b,rfl,_⟩<;>rfl
theorem Ar.put {v w:V}{xs:List V}(a:Ar h v xs):(Cs.ls [w]).put 0 v.cells=some (.ls [v]):=by
 rcases a with⟨b,cs,rfl,_⟩|⟨rfl,b,rfl,_⟩<;>rfl
structure Apd (hb h h':H) (v v':V) (c:Nat):Prop where
 ext:Ext hb h' (c+1)
 kept:∀d,d<h.nx->zu v≠some d->h'.get d=h.get d
 blk:∀d,zu v'=some d->zu v=some d\/d=h.nx
 le:h.nx<=h'.nx
 n1:h'.nx<=h.nx+1
theorem Ar.app {hb h:H}{v x u:V}{xs:List V}{c:Nat}(a:Ar h v xs) (ex:Ext hb h c) (hv:∀b,zu v=some b->hb.nx<=b) (hx:Sl h x 1 1 [u]) (hu:u.one=true) (hn:h.nx<T.top) (hl:h.low<=T.top) (hlen:xs.length<100000) :
  ∃v' h'',za zA 233 (zM h) v x=some (v',h'')/\h''.nx<=T.top/\Ar (yG h h'') v' (xs++[u])/\Apd hb h (yG h h'') v v' c:=by
 have hap:∀v,za zA 233 (zM h) v x=Go.Sim.appTo ⟨235,.pointer 237,1,8,some .nilptr,true,false,false,[⟨ "cheesepress/length.key",427,#[],some (389,true)⟩]⟩ (zM h) 1 [u] v:=by
  intro v;have hs:wX 1 (zM h) x=some (1,[u]):=Sl.src (h:=zM h) hx (by decide) (by decide);unfold za;rw[jw];simp only[qd,hs];rfl
 rw[hap];have hu1:zL [u]=true:=by simp[zL,hu]
 rcases a with⟨b,cs,rfl,h1,h2,h3,h4,h5⟩|⟨rfl,b,rfl,h1,h2⟩
 ·have hbn:=hv b rfl
  have g2:(zM h).get b=some (.cells cs kN true true):=h2;by_cases hr:xs.length<cs.len
  ·obtain⟨cs',p1,p2⟩:=Cs.put_some (cs:=cs) h3 (o:=0+xs.length*1) (vs:=[u]) (by simp;omega)
   obtain⟨_,p3,p4⟩:=Cs.put_eq p1;refine⟨.slice b 0 (xs.length+1) (.skip 0),(zM h).upd b (some (.cells cs' kN true true)),?_,?_,?_,?_⟩
   ·unfold Go.Sim.appTo
    simp only[g2];unfold ka;have e1:(true && true && Nat.beq 1 kN.n && Nat.beq 0 (0*1) && zL [u] && Nat.ble (0+xs.length*1) cs.len)=true:=by
     simp[hu1];omega
    simp only[e1,oK];show cond (Nat.beq 1 0) _ _=_;unfold qE;simp only[p1];rfl
   ·exact Nat.le_of_lt hn
   ·rw[kO (by omega)]
    refine .inl ⟨b,cs',by simp,h1,zN _ (by omega),p2,by rw[p3];simp;omega,λi hi=>?_⟩
    rw[p4];have hi:i<xs.length+1:=by simpa using hi
    by_cases hi2:i<xs.length
    ·rw[if_neg (by omega),h5 i hi2,List.getElem?_append_left hi2]
    ·have:i=xs.length:=by omega
     subst this;rw[if_pos (by simp),List.getElem?_append_right (oP _)];simp
   ·rw[kO (by omega)]
    exact⟨(ex.upd _ (by omega) hbn).mono (by omega),λd _ hd=>zP _ (by omega) (λq=>hd (by rw[q];rfl)),λd hd=>.inl hd,oP _,Nat.le_succ _⟩
  ·have hr:cs.len=xs.length:=by omega
   obtain⟨cs',p1,p2⟩:=Cs.app_some (cs:=cs) (vs:=[u]) (by rw[hr];simp;omega);obtain⟨p3,p4⟩:=Cs.app_eq p1;have hbt:b<T.top:=by omega
   refine⟨.slice h.nx 0 (xs.length+1) (.skip 0),((zM h).upd b none).new (.cells cs' kN true true),?_,?_,?_,?_⟩
   ·unfold Go.Sim.appTo
    simp only[g2];unfold ka;have e1:(true && true && Nat.beq 1 kN.n && Nat.beq 0 (0*1) && zL [u] && Nat.ble (0+xs.length*1) cs.len)=true:=by
     simp[hu1];omega
    simp only[e1,oK];show cond (Nat.beq 1 0) _ _=_;unfold qE;simp only[zAX (cs:=cs) (o:=0+xs.length*1) (vs:=[u]) (by simp;omega)];show Yj _ _ _ _ _ _ _ _ _ _=_;unfold Yj;have e4:(Nat.beq 0 0 && Nat.beq cs.len (0+xs.length*1) && Nat.ble kN.fz (0+xs.length*1) && (Nat.beq kN.ty 0 || Nat.beq kN.ty (235+1)))=true:=by
     simp[hr]
    simp only[e4,oK,p1];exact xv (by simp;omega) (show((zM h).upd b none).nx<T.top from hn)
   ·rw[zG];exact hn
   ·rw[zBv hbt hn]
    refine .inl ⟨h.nx,cs',by simp,by rw[zG];exact oc _,zZ (h:=h.upd b none) _ hn,p2,by rw[p3];simp;omega,λi hi=>?_⟩
    have hi:i<xs.length+1:=by simpa using hi
    rw[p4,hr];by_cases hi2:i<xs.length
    ·rw[if_pos hi2,h5 i hi2,List.getElem?_append_left hi2]
    ·rw[if_neg hi2,List.getElem?_append_right (by omega)]
   ·rw[zBv hbt hn]
    refine⟨(ex.upd none hbt hbn).trans (Ext.new _ hn),λd hd hne=>?_,λd hd=>.inr (by cases hd;rfl),by rw[zG];exact Nat.le_succ _,by rw[zG];exact oP _⟩
    rw[yQ (h:=h.upd b none) _ hn hd,zP _ hbt (λq=>hne (by rw[q];rfl))]
 ·have g2:(zM h).get b=some (.cells (.ls []) ⟨0,235+1,0⟩ true false):=h2
  refine⟨.slice h.nx 0 1 (.skip 0),(zM h).new (.cells (.ls [u]) kN true true),?_,?_,?_,?_⟩
  ·unfold Go.Sim.appTo
   simp only[g2];unfold kH;rw[show Nat.ble (0+1) 0=false from rfl,oM];show jC _ _ _ (Kf (.ls []) 0 0 [u]) 1=_;have e:Kf (.ls []) 0 0 [u]=some (.ls [u]):=by
    unfold Kf;show cond (zL [u]) (Cs.ofL [u]) none=_;rw[hu1];rfl
   rw[e];exact xv (by decide) (show(zM h).nx<T.top from hn)
  ·rw[zG];exact hn
  ·rw[zFX hl]
   refine .inl ⟨h.nx,.ls [u],rfl,by rw[zG];exact oc _,zZ _ hn,trivial,oP _,λi hi=>?_⟩
   have:i=0:=by simp at hi;exact hi
   subst this;rfl
  ·rw[zFX hl]
   exact⟨ex.trans (Ext.new _ hn),λd hd _=>yQ _ hn hd,λd hd=>.inr (by cases hd;rfl),by rw[zG];exact Nat.le_succ _,by rw[zG];exact oP _⟩
theorem Ar.set {hb h:H}{v u:V}{xs:List V}{c i:Nat}(a:Ar h v xs) (ex:Ext hb h c) (hv:∀b,zu v=some b->hb.nx<=b) (hu:u.cells=[u]) (ho:u.one=true) (hi:i<xs.length) (hn:h.nx<=T.top) :
  ∃p o,z7 zA 233 v (.int .i64 i)=some (.ptr p o)/\∃o',zf zA 235 h (.ptr p o) u=some (h.upd p (some o'))/\(∀h',(∀d,h'.get d=h.get d)->h'.nx=h.nx->zf zA 235 h' (.ptr p o) u=some (h'.upd p (some o')))/\zu v=some p/\Ar (h.upd p (some o')) v (xs.set i u)/\Ext hb (h.upd p (some o')) c:=by
 rcases a with⟨b,cs,rfl,h1,h2,h3,h4,h5⟩|⟨rfl,_⟩
 ·have hbn:=hv b rfl
  obtain⟨cs',p1,p2⟩:=Cs.put_some (cs:=cs) h3 (o:=i) (vs:=[u]) (by simp;omega);obtain⟨_,p3,p4⟩:=Cs.put_eq p1;have key:∀h',(∀d,h'.get d=h.get d)->h'.nx=h.nx->zf zA 235 h' (.ptr b i) u=some (h'.upd b (some (.cells cs' kN true true))):=λh' hg _ =>
   zk qd (by rw[hg];exact h2) (yl.2 (by rw[hu];rfl)) (oJ _) (by rw[hu];simp[zL,ho]) (by rw[hu];exact p1)
  refine⟨b,i,yb jw rfl qd rfl hi,.cells cs' kN true true,key h (λ_=>rfl) rfl,key,rfl,.inl ⟨b,cs',by simp,h1,zN _ (by omega),p2,by rw[p3];simp;omega,λk hk=>?_⟩,ex.upd _ (by omega) hbn⟩
  have hk:k<xs.length:=by simpa using hk
  rw[p4,List.getElem?_set];by_cases e:i=k
  ·subst e
   rw[if_pos ⟨oP _,by simp⟩,if_pos rfl,if_pos hk];simp
  ·rw[if_neg (by simp;omega),if_neg e];exact h5 k hk
 ·simp at hi
def ND (h:H) (bad:Nat->Prop):HT->Nat->Prop
 | .leaf n s,p=>p<h.nx/\¬bad p/\h.get p=some (ndO n s 0 .nilptr .nilptr)
 | .join g a b,p=>p<h.nx/\¬bad p/\0<g/\∃pa pb,h.get p=some (ndO (a.cnt+b.cnt) 0 g (.ptr pa 0) (.ptr pb 0))/\ND h bad a pa/\ND h bad b pb
theorem ND.keep {h h':H}{bad bad':Nat->Prop}(hn:h.nx<=h'.nx) (hg:∀b,b<h.nx->¬bad b->h'.get b=h.get b) (hb:∀b,b<h.nx->bad' b->bad b) : {t:HT}->{p:Nat}->ND h bad t p->ND h' bad' t p
 | .leaf _ _,p,⟨h1,h2,h3⟩=>⟨by omega,λq=>h2 (hb p h1 q),by rw[hg p h1 h2];exact h3⟩
 | .join _ _ _,p,⟨h1,h2,h0,pa,pb,h3,h4,h5⟩=>⟨by omega,λq=>h2 (hb p h1 q),h0,pa,pb,by rw[hg p h1 h2];exact h3,h4.keep hn hg hb,h5.keep hn hg hb⟩
theorem ND.at {bad:Nat->Prop}{t:HT}{p:Nat}(d:ND h bad t p):p<h.nx/\∃s g a b,h.get p=some (ndO t.cnt s g a b):=by
 cases t with
 | leaf n s=>exact⟨d.1,_,_,_,_,d.2.2⟩
 | join g a b=>obtain⟨h1,_,_,pa,pb,h3,_⟩:=d;exact⟨h1,_,_,_,_,h3⟩
abbrev Jf (l:List HE):List V:=l.map λe=>.ptr e.1 0
theorem qW (l:List HE):(Jf l).length=l.length:=ol ..
theorem qv {l:List HE}{i:Nat}(hi:i<l.length):(Jf l)[i]? = some (.ptr l[i].1 0):=by rw[oW,oO hi];rfl
structure HS (K:List HE) (hb h:H) (c ph:Nat) (v:V) (l:List HE):Prop where
 ext:Ext hb h c
 pb:hb.nx<=ph
 pl:ph<h.nx
 pg:h.get ph=some (.cells (.ls [v]) ⟨0,233+1,0⟩ true false)
 ar:Ar h v (Jf l)
 vb:∀b,zu v=some b->hb.nx<=b/\b≠ph
 nd:∀e∈l,ND h (λb=>b=ph\/zu v=some b) e.2 e.1
 kd:∀e∈K,ND h (λb=>b=ph\/zu v=some b) e.2 e.1
section
variable {K:List HE}{hb h:H}{c ph:Nat}{v:V}{l:List HE}
theorem HS.ld (s:HS K hb h c ph v l):zK zA 233 h (.ptr ph 0)=some v:=zX jw rfl s.pg rfl
theorem HS.sl (s:HS K hb h c ph v l):Sl h v 1 l.length (Jf l):=by have:=s.ar.sl;rwa [qW]at this
theorem HS.low (s:HS K hb h c ph v l) (hl:hb.low<=T.top):h.low<=T.top:=oQ s.ext.low hl
theorem HS.more {h':H}{m:Nat}(s:HS K hb h c ph v l) (x:Ext h h' m):HS K hb h' (c+m) ph v l:=by
 obtain⟨b,hb1,hb2⟩:=s.ar.blk;refine⟨s.ext.trans x,s.pb,oI s.pl x.le,by rw[x.get _ s.pl];exact s.pg,s.ar.keep x.le λd hd=>?_,s.vb,λe he=>(s.nd e he).keep x.le (λb hb _=>x.get b hb) (λ_ _ q=>q),λe he=>(s.kd e he).keep x.le (λb hb _=>x.get b hb) (λ_ _ q=>q)⟩
 rw[hb1]at hd;cases hd;exact x.get b hb2
theorem HS.un (s:HS K hb h c ph v l):HS [] hb h c ph v l:=⟨s.ext,s.pb,s.pl,s.pg,s.ar,s.vb,s.nd,λ_ h=>by cases h⟩
theorem zDk {i j:Nat}{Q:V->H->Prop}(s:HS K hb h c ph v l) (hi:i<l.length) (hj:j<l.length) (hn:h.nx<=T.top) (hl:hb.low<=T.top) (hq:∀h',HS K hb h' c ph v (swp l i j)->h'.nx=h.nx->Q (.tuple []) h'):RF P zA 387 [v,.int .i64 i,.int .i64 j] h Q:=by
 have lo:=s.low hl;have vb:=λb hb=>(s.vb b hb).1
 obtain⟨pj,oj,j1,j2⟩:=s.sl.at1 hj jw rfl qd rfl rfl (qv hj);obtain⟨pi,oi,i1,i2⟩:=s.sl.at1 hi jw rfl qd rfl rfl (qv hi);obtain⟨b,ob,e1,o1,a1,k1,v1,r1,x1⟩:=s.ar.set (u:=.ptr l[j].1 0) (i:=i) s.ext vb rfl rfl (by rw[qW];exact hi) hn;have hbt:b<T.top:=by
  obtain⟨b',w1,w2⟩:=s.ar.blk;rw[v1]at w1;cases w1;omega
 obtain⟨b2,ob2,e2,o2,a2,k2,v2,r2,x2⟩:=r1.set (u:=.ptr l[i].1 0) (i:=j) x1 vb rfl rfl (by rw[oh,qW];exact hj) hn;have hb2:b2=b:=by rw[v1]at v2;cases v2;rfl
 subst hb2;have hph:b2≠ph:=(s.vb b2 v1).2;refine yD z1E rfl rfl z3L ⟨⟨hn,lo⟩,pj,oj,j1,_,j2,pi,oi,i1,_,i2,b2,ob,e1,_,k1 (zM h) (λ_=>rfl) rfl,hn,?_⟩;intro h9 e9;rw[kO hbt]at e9;subst e9;have keep:∀{t p},ND h (λb=>b=ph\/zu v=some b) t p->ND ((h.upd b2 (some o1)).upd b2 (some o2)) (λb=>b=ph\/zu v=some b) t p:=λd0=>d0.keep (by exact oP _) (λd _ hd=>by
  have hne:d≠b2:=λq=>hd (.inr (by rw[q];exact v1))
  rw[zP _ hbt hne,zP _ hbt hne]) (λ_ _ q=>q)
 refine⟨b2,ob2,e2,_,a2,hq _ ⟨x2,s.pb,s.pl,?_,?_,s.vb,λe he=>keep (s.nd e ((JJ l i j).mem_iff.1 he)),λe he=>keep (s.kd e he)⟩ rfl⟩
 ·rw[zP _ hbt hph.symm,zP _ hbt hph.symm];exact s.pg
 ·have:((Jf l).set i (.ptr l[j].1 0)).set j (.ptr l[i].1 0)=Jf (swp l i j):=by
   rw[zHt hi hj];show _=(((l.set i l[j]).set j l[i]).map λe:HE=>V.ptr e.1 0)
   rw[List.map_set,List.map_set]
  rw[<-this];exact r2
theorem zDE {Q:V->H->Prop}(s:HS K hb h c ph v l) (hq:Q (.int .i64 (l.length:Nat)) h):RF P zA 180 [v] h Q :=
 yD zZm rfl rfl z1t ⟨_,s.sl.len jw rfl,hq⟩
theorem zAB {i j:Nat}{Q:V->H->Prop}(s:HS K hb h c ph v l) (hi:i<l.length) (hj:j<l.length) (hn:h.nx<T.top) (hl:hb.low<=T.top) (hq:∀b:Bool,(b=true->ZN l i<=ZN l j)->(b=false->ZN l j<=ZN l i)->Q (.bool b) h):RF P zA 384 [v,.int .i64 i,.int .i64 j] h Q:=by
 obtain⟨p1,s1,g1,a1,b1,q1⟩:=(s.nd l[i] (oS hi)).at;obtain⟨p2,s2,g2,a2,b2,q2⟩:=(s.nd l[j] (oS hj)).at;refine zRV s.sl hi hj (qv hi) (qv hj) p1 p2 q1 q2 hn (s.low hl) (hq _ ?_ ?_)
 ·intro e
  have:=zIX.1 e;unfold ZN;rw[oO hi,oO hj];exact this
 ·intro e
  have:=zIX.2 e;unfold ZN;rw[oO hi,oO hj];exact this
theorem zDn {p:Nat}{h:H}:zh zA ⟨none,.typeAssert (t 0) 20 235 false,0, "",#[],none⟩ (λ_=>some (.iface 235 (.ptr p 0))) h=some (.val (.ptr p 0) h):=by kernel_rfl
theorem zQm {h:H}{p:Nat}(hn:h.nx<T.top):∃h',zF zA 233 1 [(0,.ptr p 0)] h=some (.slice h.nx 0 1 (.exact 1),h')/\Sl h' (.slice h.nx 0 1 (.exact 1)) 1 1 [.ptr p 0]/\Ext h h' 1:=by
 have e:zF zA 233 1 [(0,.ptr p 0)] h=(match (cond (Nat.blt h.nx T.top) (some (h.nx,h.new (.cells (.ls [.ptr p 0]) ⟨0,235+1,0⟩ true false))) none:Option (Nat×H))with|some (b,h')=>some (.slice b 0 1 (.exact 1),h')|none=>none):=by kernel_rfl
 rw[(zY _ _).2 hn,oK]at e;exact⟨_,e,⟨rfl,.inr ⟨h.nx,0,_,_,_,_,_,rfl,by rw[zG];omega,zZ _ hn,λi hi=>by
  have:i=0:=by omega
  subst this;rfl⟩⟩,Ext.new _ hn⟩
theorem zOF {p:Nat}{t:HT}{Q:V->H->Prop}(s:HS K hb h c ph v l) (d:ND h (λb=>b=ph\/zu v=some b) t p) (hn:h.nx+2<=T.top) (hl:hb.low<=T.top) (hlen:l.length<100000) (hq:∀h' v',HS K hb h' (c+2) ph v' (l++[(p,t)])->h.nx<=h'.nx->h'.nx<=h.nx+2->Q (.tuple []) h') :
  RF P zA 386 [.ptr ph 0,.iface 235 (.ptr p 0)] h Q:=by
 have lo:=s.low hl;have lw:=yE (h:=h) (by omega) lo;refine yD z1D rfl rfl z3K ⟨⟨by omega,lo⟩,.ptr ph 0,zM h,rfl,lw.1,?_⟩;intro h2 e2;rw[lw.2]at e2;subst e2;refine⟨v,s.ld,.ptr p 0,zM h2,zDn,lw.1,?_⟩;intro h6 e6;rw[lw.2]at e6;subst e6;obtain⟨h8,e8,s8,x8⟩:=zQm (h:=h6) (p:=p) (by omega);have t8:=x8.top;have z:=s.more x8;obtain⟨v',h10,a1,a2,a3,a4⟩:=z.ar.app z.ext (λb hb=>(z.vb b hb).1) s8 rfl (by omega) (z.low hl) (by rw[qW];exact hlen)
 refine⟨_,_,e8,trivial,v',h10,a1,a2,?_⟩;intro h11 e11;rw[<-e11]at a3 a4;clear e11;have p8:ph<h8.nx:=z.pl;have hvp:zu v≠some ph:=λq=>(z.vb ph q).2 rfl
 have g11:h11.get ph=some (.cells (.ls [v]) ⟨0,233+1,0⟩ true false):=by rw[a4.kept ph p8 hvp];exact z.pg
 have p11:ph<T.top:=by omega
 have hv':∀b,zu v'=some b->hb.nx<=b/\b≠ph:=λb hb=>by
  rcases a4.blk b hb with q|rfl
  ·exact z.vb b q
  ·exact⟨oQ z.ext.le (oP _),by omega⟩
 have k1:∀b,b<h8.nx->¬(b=ph\/zu v=some b)->(h11.upd ph (some (.cells (.ls [v']) ⟨0,233+1,0⟩ true false))).get b=h8.get b:=λb hb hn=>by
  rw[zP _ p11 (λq=>hn (.inl q)),a4.kept b hb λq=>hn (.inr q)]
 have k2:∀b,b<h8.nx->(b=ph\/zu v'=some b)->(b=ph\/zu v=some b):=λb hb q=>by
  rcases q with q|q
  ·exact .inl q
  ·rcases a4.blk b q with q|q
   ·exact .inr q
   ·omega
 refine⟨.ptr ph 0,h11,rfl,_,zk jw g11 (Ar.one a3) (oJ _) (Ar.all a3) (Ar.put a3),hq _ v' ⟨a4.ext.upd _ p11 z.pb,z.pb,oI p8 a4.le,zN _ p11,?_,hv',λe he=>?_,λe he=>?_⟩ (oQ x8.le a4.le) (by have:=a4.n1;show h11.nx<=_;omega)⟩
 ·have:Jf l++[.ptr p 0]=Jf (l++[(p,t)]):=by simp[Jf]
  rw[<-this];exact a3.keep (oP _) λb hb=>zP _ p11 (hv' b hb).2
 ·rcases List.mem_append.1 he with he|he
  ·exact(z.nd e he).keep (by exact a4.le) k1 k2
  ·rw[List.mem_singleton.1 he]
   exact(d.keep x8.le (λb hb _=>x8.get b hb) (λ_ _ q=>q)).keep (by exact a4.le) k1 k2
 ·exact(z.kd e he).keep (by exact a4.le) k1 k2
theorem Arr.cut {xs:List V}{m:Nat}(a:Arr h v xs) (hm:m<=xs.length):∃v',zq zA 233 h v none (some (.int .i64 (m:Nat))) none=some v'/\Arr h v' (xs.take m)/\zu v'=zu v:=by
 obtain⟨b,cs,rfl,h1,h2,h3,h4,h5⟩:=a;have hml:(xs.take m).length=m:=by rw[List.length_take];omega
 refine⟨.slice b 0 m (.skip 0),?_,⟨b,cs,by rw[hml],h1,h2,h3,by omega,λi hi=>?_⟩,rfl⟩
 ·unfold zq
  rw[jw];simp only[qd,h2];have e1:Nat.ble (0+xs.length*1) cs.len=true:=oC (by omega);show cond (Nat.ble (0+xs.length*1) cs.len) _ _=_;rw[e1,oK];have e2:bnd (some (.int .i64 (m:Nat))) xs.length xs.length=some m:=by
   unfold bnd;show cond (Nat.ble m xs.length) (some m) none=_;rw[oC hm];rfl
  simp only[e2];rfl
 ·rw[hml]at hi
  rw[h5 i (by omega),List.getElem?_take,if_pos hi]
theorem zRa {n:Nat}{x:HE}{Q:V->H->Prop}(s:HS K hb h c ph v l) (hl:l.length=n+1) (hx:l[n]? = some x) (hnn:n<100000) (hn:h.nx<=T.top) (hq:∀h' v',HS (x::K) hb h' c ph v' (l.take n)->h'.nx=h.nx->Q (.iface 235 (.ptr x.1 0)) h') :
  RF P zA 385 [.ptr ph 0] h Q:=by
 have hxl:l[n]'(by omega)=x:=by rw[oO (by omega)]at hx;exact Option.some.inj hx
 obtain⟨pj,oj,j1,j2⟩:=s.sl.at1 (i:=n) (by omega) jw rfl qd rfl rfl (qv (by omega));rw[hxl]at j2;have ar:Arr h v (Jf l):=by
  rcases s.ar with a|⟨a,_⟩
  ·exact a
  ·have:=congrArg List.length a;simp[hl]at this
 obtain⟨v8,c1,c2,c3⟩:=ar.cut (m:=n) (by rw[qW];omega);have p1:ph<T.top:=by have:=s.pl;omega
 have e:zH (((l.length:Nat):Int)-1)=((n:Nat):Int):=by rw[zD (by omega) (by omega)];omega
 refine yD z1C rfl rfl z3J ⟨.ptr ph 0,h,rfl,v,s.ld,_,s.sl.len jw rfl,pj,oj,by rw[e];exact j1,_,j2,_,s.sl.len jw rfl,v8,by rw[e];exact c1,.ptr ph 0,h,rfl,_,zk jw s.pg (Ar.one (.inl c2)) (oJ _) (Ar.all (.inl c2)) (Ar.put (.inl c2)),?_⟩;have k:∀b,b<h.nx->¬(b=ph\/zu v=some b)->(h.upd ph (some (.cells (.ls [v8]) ⟨0,233+1,0⟩ true false))).get b=h.get b:=λb _ hn=>zP _ p1 λq=>hn (.inl q)
 have k2:∀b,b<h.nx->(b=ph\/zu v8=some b)->(b=ph\/zu v=some b):=λb _ q=>by rw[c3]at q;exact q
 refine hq _ v8 ⟨s.ext.upd _ p1 s.pb,s.pb,s.pl,zN _ p1,?_,λb hb=>s.vb b (by rw[<-c3];exact hb),λe he=>(s.nd e (List.mem_of_mem_take he)).keep (by exact oP _) k k2,λe he=>?_⟩ rfl
 rotate_left
 ·rcases od.1 he with rfl|he
  ·exact(s.nd e (hxl ▸ oS _)).keep (by exact oP _) k k2
  ·exact(s.kd e he).keep (by exact oP _) k k2
 have:(Jf l).take n=Jf (l.take n):=by simp[Jf]
 rw[<-this];exact(Ar.keep (.inl c2) (oP _) λb hb=>zP _ p1 (s.vb b (by rw[<-c3];exact hb)).2)
end
end Go.Proofs.YtnpeieeomokomaaGreat
namespace Go.Proofs.YtnpeieeomokomaaGreat
open Go.Sim
variable {h:H}{Q:V->H->Prop}
section
variable {K:List HE}{hb h:H}{c ph:Nat}{v:V}{l:List HE}
theorem zXY {j:Nat}(h:j<1000000):zH (Int.tdiv (zH ((j:Int)-1)) 2)=(((j-1)/2:Nat):Int):=by
 rw[zD (n:=(j:Int)-1) (by omega) (by omega)];cases j with
 | zero=>decide
 | succ j =>
  rw[show((j+1:Nat):Int)-1=((j:Nat):Int)by omega];have:Int.tdiv ((j:Nat):Int) 2=((j/2:Nat):Int):=rfl;rw[this,zD (by omega) (by omega)];rfl
theorem z12 {j:Nat}{Q:V->H->Prop}(s:HS K hb h c ph v l) (u:UpI (ZN l) l.length j) (hn:h.nx<T.top) (hl:hb.low<=T.top) (hlen:l.length<100000) (hq:∀h' l',HS K hb h' c ph v l'->h'.nx=h.nx->Dn l.length l l'->Q (.tuple []) h'):RF P zA 258 [.iface 231 (.ptr ph 0),.int .i64 j] h Q:=by
 refine yD z0U rfl rfl z20 (Has.nil.on λtm hs=>?_);refine wpC.round (λk tm h'=>∃j' l',k=j'/\HS K hb h' c ph v l'/\h'.nx=h.nx/\l'.Perm l/\UpI (ZN l') l.length j'/\Has tm [(0,.iface 231 (.ptr ph 0)),(1,.int .i64 (j':Nat))]) j ⟨j,l,rfl,s,rfl,List.Perm.refl _,u,hs.sub (by kernel_rfl)⟩ ?_
 clear hs u s;rintro k tm h' ⟨j',l',rfl,s,hnx,pm,u,hs⟩;have hll:l'.length=l.length:=pm.length_eq;have hj:k<l.length:=u.1;have fin:HpI (ZN l') l.length->∀tm',endW zA ⟨23,[],zGh⟩ Q (zc 0 (.exit 0)) ⟨23,tm',[],h'⟩:=λhp tm'=>by
  rw[xB];exact hq h' l' s hnx ⟨pm,λk hk=>by rw[og (by omega),og hk],hp⟩
 refine wpC.av hs zS7 rfl rfl ?_;rw[zXY (by omega)];refine⟨by decide,λc=>hs.on λtm2 hs2=>fin (zJU u (.inl (by omega))) tm2,λc=>⟨v,s.ld,zAB s (by omega) (by omega) (by omega) hl λb b1 b2=>⟨b,rfl,λhb=>hs.on λtm2 hs2=>?_,λhb=>hs.on λtm2 hs2=>fin (zJU u (.inr (b2 hb))) tm2⟩⟩⟩
 refine wpS.av hs2 zTd rfl rfl ⟨v,s.ld,zDk s (by omega) (by omega) (by omega) hl λh2 s2 n2=>⟨rfl,hs2.on λtm3 hs3=>?_⟩⟩
 have k0:0<k:=by omega
 refine hs3.slt λtm4 hs4=>⟨rfl,rfl,(k-1)/2,by omega,(k-1)/2,_,rfl,s2,by show h2.nx=h.nx;omega,(JJ _ _ _).trans pm,?_,hs4.sub (by kernel_rfl)⟩
 rw[zDq (by omega) (by omega)];exact zSB u k0 (b1 hb)
theorem zMW {n i j:Nat}{tm:Tm}{d:List AD}{Q:AX->St->Prop}(s:HS K hb h c ph v l) (hs:Has tm [(6,.bool false),(0,.iface 231 (.ptr ph 0)),(9,.int .i64 (j:Nat)),(7,.int .i64 (i:Nat)),(2,.int .i64 (n:Nat)),(1,.int .i64 0)]) (hi:i<l.length) (hj:j<l.length) (hn:h.nx<T.top) (hl:hb.low<=T.top)
  (q1:ZN l j<=ZN l i->∀h2 tm2,HS K hb h2 c ph v (swp l i j)->h2.nx=h.nx->Has tm2 [(6,.bool false),(0,.iface 231 (.ptr ph 0)),(7,.int .i64 (j:Nat)),(2,.int .i64 (n:Nat)),(1,.int .i64 0)]->Q .normal ⟨48,tm2,d,h2⟩)
  (q2:ZN l i<=ZN l j->∀tm2,Has tm2 [(6,.bool false),(7,.int .i64 (i:Nat)),(1,.int .i64 0)]->Q (.exit 0) ⟨48,tm2,d,h⟩):OQ false Jk ⟨48,tm,d,h⟩ Q :=
 wpS.av hs zTe rfl rfl ⟨v,s.ld,zAB s hj hi hn hl λb b1 b2=>⟨b,rfl,
  λhb=>⟨v,s.ld,zDk s hi hj (by omega) hl λh2 s2 n2=>⟨rfl,hs.on λtm2 hs2=>q1 (b1 hb) h2 tm2 s2 n2 (hs2.sub (by kernel_rfl))⟩⟩,
  λhb=>hs.on λtm2 hs2=>q2 (b2 hb) tm2 (hs2.sub (by kernel_rfl))⟩⟩
theorem zWx {i:Nat}(h:i<1000000):zH (zH (2*(i:Int))+1)=((2*i+1:Nat):Int):=by
 rw[zD (n:=2*(i:Int)) (by omega) (by omega),zD (by omega) (by omega)];omega
theorem zQy {n:Nat}{Q:V->H->Prop}(s:HS K hb h c ph v l) (u:DnI (ZN l) n 0) (hnl:n<l.length) (hn:h.nx<T.top) (hl:hb.low<=T.top) (hlen:l.length<100000) (hq:∀b h' l',HS K hb h' c ph v l'->h'.nx=h.nx->Dn n l l'->Q (.bool b) h'):RF P zA 259 [.iface 231 (.ptr ph 0),.int .i64 0,.int .i64 n] h Q:=by
 refine yD z0V rfl rfl z21 (Has.nil.on λtm hs=>?_);refine wpC.round (λk tm h'=>∃i l',k=l.length-i/\i<l.length/\HS K hb h' c ph v l'/\h'.nx=h.nx/\l'.Perm l/\(∀k,n<=k->l'[k]? = l[k]?)/\DnI (ZN l') n i/\(i<n\/i=0)/\Has tm [(6,.bool false),(0,.iface 231 (.ptr ph 0)),(7,.int .i64 (i:Nat)),(2,.int .i64 (n:Nat)),(1,.int .i64 0)]) l.length ⟨0,l,rfl,by omega,s,rfl,List.Perm.refl _,λ_ _=>rfl,u,.inr rfl,hs.sub (by kernel_rfl)⟩ ?_
 clear hs u s;rintro k tm h' ⟨i,l',rfl,hi,s,hnx,pm,far,u,hin,hs⟩;have hll:l'.length=l.length:=pm.length_eq;have fin:HpI (ZN l') n->∀tm',Has tm' [(6,.bool false),(7,.int .i64 (i:Nat)),(1,.int .i64 0)]->thenC (λs1=>OQ false zD6 s1 (endW zA ⟨48,[.tmp 6],Ki⟩ Q)) (endW zA ⟨48,[.tmp 6],Ki⟩ Q) (zc 0 (.exit 0)) ⟨48,tm',[],h'⟩:=λhp tm' hs'=>by
  rw[xB];refine wpS.av hs' zTg rfl rfl ⟨λ_=>hs'.on λtm2 hs2=>?_,λ_=>hs'.on λtm2 hs2=>?_⟩
  ·exact endW.r1 (hs2.get rfl) (hq true h' l' s hnx ⟨pm,far,hp⟩)
  ·exact endW.r1 (hs2.get rfl) (hq false h' l' s hnx ⟨pm,far,hp⟩)
 refine wpC.av hs zS8 rfl rfl ?_;rw[zWx (by omega)];refine⟨λg1=>hs.on λtm2 hs2=>fin (zIa u λk k1 k2 k3=>by omega) tm2 (hs2.sub (by kernel_rfl)),λg1=>⟨λg2=>by omega,λg2=>hs.on λtm2 hs2=>?_⟩⟩
 have next:∀(j:Nat) (tm3:Tm),j<n->0<j->(j-1)/2=i->(∀k,k<n->0<k->(k-1)/2=i->ZN l' j<=ZN l' k)->Has tm3 [(6,.bool false),(0,.iface 231 (.ptr ph 0)),(9,.int .i64 (j:Nat)),(7,.int .i64 (i:Nat)),(2,.int .i64 (n:Nat)),(1,.int .i64 0)]->OQ false Jk ⟨48,tm3,[],h'⟩ (zy zC2 (λe s1=>(zy zC2 (thenC (λs1=>s1.n=48/\s1.dfr=[]/\∃j,j<l.length-i/\∃i l',j=l.length-i/\i<l.length/\HS K hb s1.heap c ph v l'/\s1.heap.nx=h.nx/\l'.Perm l/\(∀k,n<=k->l'[k]? = l[k]?)/\DnI (ZN l') n i/\(i<n\/i=0)/\Has s1.tm [(6,.bool false),(0,.iface 231 (.ptr ph 0)),(7,.int .i64 (i:Nat)),(2,.int .i64 (n:Nat)),(1,.int .i64 0)]) (λe s1=>(thenC (λs1=>OQ false zD6 s1 (endW zA ⟨48,[.tmp 6],Ki⟩ Q)) (endW zA ⟨48,[.tmp 6],Ki⟩ Q)) (zc 0 e) s1))) (zc 1 e) s1)):=λj tm3 j1 j2 j3 j4 hs3=>by
  refine zMW s hs3 (by omega) (by omega) (by omega) hl (λw h2 tm4 s2 n2 hs4=>?_) (λw tm4 hs4=>?_)
  ·refine hs4.slt λtm5 hs5=>hs5.slt λtm6 hs6=>⟨rfl,rfl,l.length-j,by omega,j,_,rfl,by omega,s2,by show h2.nx=h.nx;omega,(JJ _ _ _).trans pm,λk hk=>?_,?_,.inl j1,hs6.sub (by kernel_rfl)⟩
   ·rw[zDl (by omega) (by omega),if_neg (by omega),if_neg (by omega)];exact far k hk
   ·rw[zDq (by omega) (by omega)]
    exact zQx u j1 j2 j3 w j4
  ·refine hs4.slt λtm5 hs5=>hs5.slt λtm6 hs6=>?_
   exact fin (zIa u λk k1 k2 k3=>Int.le_trans w (j4 k k1 k2 k3)) tm6 (hs6.sub (by kernel_rfl))
 refine wpS.av hs2 zTf rfl rfl ?_;have e2:zH (((2*i+1:Nat):Int)+1)=((2*i+2:Nat):Int):=by rw[zD (by omega) (by omega)];omega
 rw[e2];have one:∀k,0<k->(k-1)/2=i->k=2*i+1\/k=2*i+2:=λk _ _=>by omega
 refine⟨λc3=>⟨v,s.ld,zAB s (by omega) (by omega) (by omega) hl λb b1 b2=>⟨b,rfl,λhb=>hs2.on λtm3 hs3=>?_,λhb=>hs2.on λtm3 hs3=>?_⟩⟩,λc3=>hs2.on λtm3 hs3=>?_⟩
 ·exact next (2*i+2) tm3 (by omega) (by omega) (by omega) (λk k1 k2 k3=>by rcases one k k2 k3 with rfl|rfl<;>first|exact b1 hb|exact Int.le_refl _) (hs3.sub (by kernel_rfl))
 ·exact next (2*i+1) tm3 (by omega) (by omega) (by omega) (λk k1 k2 k3=>by rcases one k k2 k3 with rfl|rfl<;>first|exact b2 hb|exact Int.le_refl _) (hs3.sub (by kernel_rfl))
 ·exact next (2*i+1) tm3 (by omega) (by omega) (by omega) (λk k1 k2 k3=>by rcases one k k2 k3 with rfl|rfl<;>first|exact Int.le_refl _|omega) (hs3.sub (by kernel_rfl))
theorem zFL {p:Nat}{t:HT}{Q:V->H->Prop}(s:HS K hb h c ph v l) (hp:HpI (ZN l) l.length) (d:ND h (λb=>b=ph\/zu v=some b) t p) (hn:h.nx+3<=T.top) (hl:hb.low<=T.top) (hlen:l.length<90000) (hq:∀h' v' l',HS K hb h' (c+2) ph v' l'->h.nx<=h'.nx->h'.nx<=h.nx+2->PushR l (p,t) l'->Q (.tuple []) h') :
  RF P zA 179 [.iface 231 (.ptr ph 0),.iface 235 (.ptr p 0)] h Q:=by
 refine yD zZl rfl rfl z1s (zOF s d (by omega) hl (by omega) λh1 v1 s1 n1 n2=>⟨rfl,v1,s1.ld,zDE s1 ⟨_,rfl,?_⟩⟩)
 have e:zH (((l++[(p,t)]).length:Nat)-1:Int)=((l.length:Nat):Int):=by
  rw[oU,List.length_singleton,zD (by omega) (by omega)];omega
 rw[e];have hlen2:(l++[(p,t)]).length=l.length+1:=by simp
 refine z12 s1 ?_ (by omega) hl (by omega) λh2 l2 s2 n3 dn=>⟨rfl,hq h2 v1 l2 s2 (by omega) (by omega) (zRd (by rw[hlen2]at dn;exact dn))⟩
 rw[hlen2];refine zRL (hp.congr λk hk=>zCR ?_);rw[List.getElem?_append_left hk]
theorem zIj {n:Nat}{Q:V->H->Prop}(s:HS K hb h c ph v l) (hp:HpI (ZN l) l.length) (hln:l.length=n+1) (hn:h.nx<T.top) (hl:hb.low<=T.top) (hlen:l.length<90000) (hq:∀h' v' l' x,HS (x::K) hb h' c ph v' l'->h'.nx=h.nx->PopR l x l'->Q (.iface 235 (.ptr x.1 0)) h') :
  RF P zA 181 [.iface 231 (.ptr ph 0)] h Q:=by
 have e:zH (((l.length:Nat):Int)-1)=((n:Nat):Int):=by rw[zD (by omega) (by omega)];omega
 have h0:l[0]? = some l[0]:=oO (by omega);rw[hln]at hp;refine yD zZn rfl rfl z1u ⟨v,s.ld,zDE s ⟨_,rfl,v,s.ld,?_⟩⟩;rw[e];refine zDk (i:=0) (j:=n) s (by omega) (by omega) (by omega) hl λh1 s1 n1=>⟨rfl,?_⟩
 refine zQy s1 ?_ (by rw[XO];omega) (by omega) hl (by rw[XO];omega) λb h2 l2 s2 n2 dn=>?_
 ·rw[zDq (by omega) (by omega)];exact zXG hp
 ·obtain⟨w1,w2,w3⟩:=zXZ hln h0 hp dn
  have last:RF P zA 385 [.ptr ph 0] h2 λw hh=>∃u,w=u/\Q u hh :=
   zRa s2 w2 w1 (by omega) (by omega) λh3 v3 s3 n3=>⟨_,rfl,hq h3 v3 _ _ s3 (by omega) w3⟩
  exact⟨b,rfl,λ_=>last,λ_=>last⟩
end
end Go.Proofs.YtnpeieeomokomaaGreat
namespace Go.Proofs.YtnpeieeomokomaaGreat
open Go.Sim
variable {h:H}{Q:V->H->Prop}
theorem zR0 {t:HT}(h:t.nice):0<=ja t.ls:=by rw[<-Yq];have:=wU h;omega
theorem zMa:(l:List HE)->(∀e∈l,e.2.nice)->0<=ja (fls l)
 | [],_=>Int.le_refl _
 | e::l,h=>by
  have h1:=zR0 (h e (by simp));have h2:=zMa l λx m=>h x (by simp[m])
  show 0<=ja (e.2.ls++fls l);rw[Z1];omega
theorem HPool.sum {q:List (Nat×Int)}{l:List HE}(h:HPool q l) {a b:HE}{l2:List HE}(p:l.Perm (a::b::l2)):1<=a.2.cnt/\1<=b.2.cnt/\a.2.cnt+b.2.cnt<=ja q:=by
 have hn:∀e∈l,e.2.nice:=λe he=>h.pool.nice e.2 (List.mem_map.2 ⟨e,he,rfl⟩)
 have e1:=YF h.ls;have e2:=YF (X5 p);have e3:ja (fls (a::b::l2))=a.2.cnt+(b.2.cnt+ja (fls l2)):=by
  show ja (a.2.ls++(b.2.ls++fls l2))=_;rw[Z1,Z1,<-Yq,<-Yq]
 have e4:=zMa l2 λe he=>hn e (p.mem_iff.2 (by simp[he]))
 have e5:=wU (hn a (p.mem_iff.2 (by simp)));have e6:=wU (hn b (p.mem_iff.2 (by simp)));omega
theorem PopR.two {l l1 l2:List HE}{a b:HE}(r1:PopR l a l1) (r2:PopR l1 b l2):l.Perm (a::b::l2):=r1.perm.trans (r2.perm.cons a)
theorem zMj {l:List Int}{k:Nat}(h:∀x∈l,x<=2^(k+1)):∀x∈kf l,x<=2^k:=by
 intro x hx;obtain⟨y,hy,rfl⟩:=List.mem_map.1 hx;have:=h y hy;rw[Int.pow_succ]at this;show y-y/2<=_;omega
theorem zPX {l:List Int}{m:Int}(_:0<=m) (h:∀x∈l,x<=m):l.sum<=l.length*m:=by
 induction l with
 | nil=>simp
 | cons x l ih =>
  have h1:=ih λy hy=>h y (by simp[hy]);have h2:=h x (by simp)
  rw[List.sum_cons,oV];have:((l.length+1:Nat):Int)*m=l.length*m+m:=by rw[Int.natCast_add,Int.add_mul];simp
  omega
def kZ (own:List Int) (t:HT):List Int:=jK (List.replicate own.length 0) (t.lv 0)
theorem zFb (own:List Int) (t:HT):(kZ own t).length=own.length:=by unfold kZ;rw[X3,List.length_replicate]
def Good (own:List Int) (t:HT):Prop:=(t.ls.map (·.1)).Perm ((pos own own.length).map (·.1))
theorem Good.of {own:List Int}{t:HT}{p:Nat}(h:HPool (pos own own.length) [(p,t)]):Good own t:=by
 unfold Good;exact h.one.2.map _
theorem Good.lt {own:List Int}{t:HT}(h:Good own t):∀x∈t.ls,x.1<own.length:=by
 intro x hx;obtain⟨y,hy,e⟩:=List.mem_map.1 (h.mem_iff.1 (List.mem_map.2 ⟨x,hx,rfl⟩));rw[<-e];exact(zDT _ _ y hy).1
theorem Good.nd {own:List Int}{t:HT}(h:Good own t):((t.lv 0).map (·.1)).Nodup:=by rw[zAJ];exact h.symm.nodup (zH1 _ _)
theorem Good.lvlt {own:List Int}{t:HT}(h:Good own t):∀x∈t.lv 0,x.1<own.length:=by
 intro x hx;have:x.1∈(t.lv 0).map (·.1):=List.mem_map.2 ⟨x,hx,rfl⟩;rw[zAJ]at this;obtain⟨y,hy,e⟩:=List.mem_map.1 this;rw[<-e];exact h.lt y hy
theorem zFa {own:List Int}{t:HT}(g:Good own t):(∃x∈kZ own t,11<x)↔11<t.hgt:=by
 constructor
 ·rintro⟨x,hx,h⟩
  rcases zBh hx with h1|⟨y,hy,rfl⟩
  ·have:=List.eq_of_mem_replicate h1;omega
  ·have:=(zBx t 0 y hy).2;omega
 ·intro h
  obtain⟨y,hy,e⟩:=zDH t 0;refine⟨(y.2:Int),?_,by omega⟩;exact List.mem_of_getElem? (zEm _ _ g.nd (λx hx=>by rw[List.length_replicate];exact g.lvlt x hx) y hy)
theorem zPg {m:Nat}{x:Int}(h0:0<=x) (h1:x<=(m:Int)):Kr (if x≠0 then (m:Int)+1-x else 0)=lone m x:=by
 unfold Kr lone;by_cases c:x≠0
 ·rw[if_pos c,if_pos c,if_pos (by omega)]
  congr 1;omega
 ·rw[if_neg c,if_neg c];rfl
theorem zG0 {m:Nat} : {l:List Int}->(∀x∈l,0<=x/\x<=(m:Int))->xM (trn m l)=Za m l
 | [],_=>rfl
 | x::l,h=>by
  have h1:=h x (by simp);have h2:=zG0 (m:=m) (l:=l) λy hy=>h y (by simp[hy])
  have e1:xM (trn m (x::l))=Kr (if x≠0 then (m:Int)+1-x else 0)+xM (trn m l):=by simp[xM,trn]
  have e2:Za m (x::l)=lone m x+Za m l:=by simp[Za]
  rw[e1,e2,h2,zPg h1.1 h1.2]
theorem zE7 : {l:List Int}->cnt l=0->∀x∈l,x=0
 | [],_,x,hx=>by cases hx
 | y::l,h,x,hx=>by
  by_cases c:y=0
  ·subst c
   have:cnt l=0:=by simpa [cnt]using h
   rcases od.1 hx with rfl|hx
   ·rfl
   ·exact zE7 this x hx
  ·simp[cnt,c]at h
theorem zEQ : {l:List Int}->(∀x∈l,x=0)->cnt l=0
 | [],_=>rfl
 | y::l,h=>by
  have h1:=h y (by simp);subst h1;have:=zEQ (l:=l) λx hx=>h x (by simp[hx])
  simpa [cnt]using this
theorem zNn {n m:Nat}(h1:2^m<=n) (h2:n<2^(m+1)):zQ n=m+1:=by
 have a:=yA h2;have b:=Zb n;by_cases c:zQ n<=m
 ·have:2^zQ n<=2^m:=Nat.pow_le_pow_right (by decide) c
  omega
 ·omega
theorem zKj {l:List Int}(h:OC l=0):∃x,l=l.dropLast++[x]/\jj l=trn (ju l) l.dropLast/\(∀y∈l,0<=y/\y<=(ju l:Int))/\x≠0/\(0<=x/\x<=(ju l:Int))/\zQ (xM (jj l))=ju l/\wD (jj l)=2^(ju l-x.toNat):=by
 obtain⟨l1,l2,hin⟩:=JY h;have hk:l.getLast?≠some 0/\2<=cnt l/\Za (ju l) l=2^ju l:=by
  unfold OC at h;rw[if_neg (by omega),if_pos hin]at h;by_cases c:l.getLast?≠some 0/\2<=cnt l/\Za (ju l) l=2^ju l
  ·exact c
  ·rw[if_neg c]at h;cases h
 obtain⟨k1,k2,k3⟩:=hk;have hne:l≠[]:=by intro e;subst e;simp at l1
 have el:l=l.dropLast++[l.getLast hne]:=(List.dropLast_concat_getLast hne).symm;have hx0:l.getLast hne≠0:=λe=>k1 (by rw[List.getLast?_eq_some_getLast hne,e])
 have hxm:l.getLast hne∈l:=List.getLast_mem hne;generalize hx:l.getLast hne=x at *;have hb:∀y∈l,0<=y/\y<=(ju l:Int):=λy hy=>⟨(jo hin hy).1,zHJ hy⟩
 have hxb:=hb x hxm;have elst:jj l=trn (ju l) l.dropLast:=by unfold jj trn;rw[List.map_dropLast]
 have ew:xM (jj l)+2^(ju l-x.toNat)=2^ju l:=by
  rw[elst,zG0 λy hy=>hb y ((List.dropLast_sublist _).subset hy)]
  rw[<-k3];have e3:Za (ju l) l=Za (ju l) l.dropLast+lone (ju l) x:=by
   generalize ju l=m
   conv=>lhs;rw[el]
   unfold Za;rw[List.map_append,List.sum_append];simp
  rw[e3];unfold lone;rw[if_pos hx0]
 obtain⟨m,em⟩:∃m,ju l=m+1:=⟨ju l-1,by omega⟩;have p1:2^(m+1-x.toNat)<=2^m:=Nat.pow_le_pow_right (by decide) (by omega);have p2:0<2^(m+1-x.toNat):=Nat.pow_pos (by decide);have p3:2^(m+1)=2*2^m:=Nat.pow_succ';rw[em]at ew;have enb:zQ (xM (jj l))=m+1:=zNn (by omega) (by omega);refine⟨x,el,elst,hb,hx0,hxb,by rw[enb,em],?_⟩;unfold wD;rw[enb,em];omega
theorem zRt {l:List Int}(h:OC l=0):jz (jj l)=0:=by
 obtain⟨i1,i2,i3⟩:=OH h;obtain⟨l1,l2,hin⟩:=JY h;have hm:=zDJ hin;obtain⟨x,el,elst,hb,hx0,hxb,enb,er⟩:=zKj h;have k2:2<=cnt l:=by
  unfold OC at h;rw[if_neg (by omega),if_pos hin]at h;by_cases c:l.getLast?≠some 0/\2<=cnt l/\Za (ju l) l=2^ju l
  ·exact c.2.1
  ·rw[if_neg c]at h;cases h
 have hc:cnt (jj l)≠0:=by
  intro c;have c1:=zE7 c;have:cnt l.dropLast=0:=zEQ λy hy=>by
   have hy2:=hb y ((List.dropLast_sublist _).subset hy);have:=c1 (if y≠0 then (ju l:Int)+1-y else 0) (by rw[elst];exact List.mem_map.2 ⟨y,hy,rfl⟩);by_cases c2:y=0
   ·exact c2
   ·rw[if_pos c2]at this;omega
  have e2:cnt l=cnt l.dropLast+cnt [x]:=by conv=>lhs;rw[el,kb]
  have:cnt [x]<=1:=JZ _;omega
 have h3:wD (jj l)=2^(wD (jj l)).log2:=by rw[er,Nat.log2_two_pow]
 unfold jz;rw[if_neg (by omega),if_pos i1,if_pos ⟨hc,by omega,h3⟩]
theorem zI2 {w:List Int}{c:List UInt8}(h:wF w=some c):c=UInt8.ofNat (kW w).length::kW w/\(kW w).length<=127:=by
 unfold wF at h;by_cases k:2<=cnt (wz w)/\(kW w).length<=127
 ·rw[if_pos k]at h;exact⟨(Option.some.inj h).symm,k.2⟩
 ·rw[if_neg k]at h;cases h
theorem zI7 {w:List Int}{d:List UInt8}(h:jN w=some d):d=zKS w/\w.length<=128:=by
 unfold jN at h;by_cases k:jz w=0/\w.length<=128
 ·rw[if_pos k]at h;exact⟨(Option.some.inj h).symm,k.2⟩
 ·rw[if_neg k]at h;cases h
theorem zPK {s:List UInt8}{k:Nat}(c:UInt8) (r:List UInt8) (e:s=c::r) (hk:k<s.length) (hc:if 127<c.toNat then s.length<=1+(c.toNat-127+1)/2 else s.length<=1+c.toNat):yU (s.take k) (0:Nat)=⟨[],0,5,(k:Nat)⟩:=by
 have hl:(s.take k).length=k:=by rw[List.length_take];omega
 unfold yU;rw[if_neg (by omega)];cases k with
 | zero=>simp
 | succ k =>
  subst e;have g:((c::r).take (k+1))[((0:Nat):Int).toNat]? = some c:=rfl;simp only[g];by_cases q:127<c.toNat
  ·rw[if_pos q]at hc ⊢
   unfold xz;rw[hl,if_pos (by show k+1<0+1+_;omega)]
  ·rw[if_neg q]at hc ⊢
   rw[hl,if_pos (by show k+1<0+1+_;omega)]
theorem zI9 {w:List Int}{d:List UInt8}{k:Nat}(h:jN w=some d) (hk:k<d.length):yU (d.take k) (0:Nat)=⟨[],0,5,(k:Nat)⟩:=by
 obtain⟨rfl,hl⟩:=zI7 h;refine zPK _ _ rfl hk ?_;have e:(UInt8.ofNat (w.length+127)).toNat=w.length+127:=by simp;omega
 have e2:(zKS w).length=(w.length+1)/2+1:=by show(jl w).length+1=_;rw[Z2]
 rw[e,e2];split<;>omega
theorem zCq {w:List Int}{c:List UInt8}{k:Nat}(h:wF w=some c) (hk:k<c.length):yU (c.take k) (0:Nat)=⟨[],0,5,(k:Nat)⟩:=by
 obtain⟨rfl,hl⟩:=zI2 h;refine zPK _ _ rfl hk ?_;have e:(UInt8.ofNat (kW w).length).toNat=(kW w).length:=by simp;omega
 rw[e,if_neg (by omega),oV];omega
theorem zQw {w:List Int}{d:List UInt8}(h:jN w=some d):1<=d.length/\d.length<=66:=by
 obtain⟨rfl,hl⟩:=zI7 h;have e2:(zKS w).length=(w.length+1)/2+1:=by show(jl w).length+1=_;rw[Z2]
 omega
theorem zI3 {w:List Int}{c:List UInt8}(h:wF w=some c):1<=c.length/\c.length<=128:=by
 obtain⟨rfl,hl⟩:=zI2 h;rw[oV];omega
open Go (Oper)
abbrev zM4 (po pw:Nat):V:=.func (.func 182) [] [.ptr po 0,.ptr pw 0]
abbrev oFn (po pw:Nat):O:=.cells (.ls [zM4 po pw]) ⟨0,239+1,0⟩ true false
abbrev zKg (p po pw:Nat) (e:Int):Kn:=[(0,.ptr p 0),(1,.int .i64 e),(2,.ptr po 0),(3,.ptr pw 0)]
def Zf:List Oper:=z5u.toList
def Zc (i:Nat):Oper:=(Zf[i]?).getD default
theorem zNv:Zf=[Zc 0,Zc 1,Zc 2,Zc 3,Zc 4,Zc 5,Zc 6,Zc 7]:=by kernel_rfl
theorem z6m:yZ Zf=some 7:=by kernel_rfl
section
variable (tm:Tm) (p po pw:Nat) (e:Int) (a:V)
def zQO:Tm:=yq tm (zKg p po pw e)
def zYq:Tm:=Tb.set (zQO tm p po pw e) 18 (zM4 po pw)
def zYr:Tm:=Tb.set (zYq tm p po pw e) 19 (.ptr p 0)
def zYs:Tm:=Tb.set (zYr tm p po pw e) 20 (.ptr p 0)
def zYt:Tm:=Tb.set (zYs tm p po pw e) 21 (.ptr p (0+3))
def zYu:Tm:=Tb.set (zYt tm p po pw e) 22 a
def zYv:Tm:=Tb.set (zYu tm p po pw e a) 23 (.int .i64 e)
def zYw:Tm:=Tb.set (zYv tm p po pw e a) 24 (.int .i64 (zH (Yi e 1)))
variable (h:H)
theorem z3P:(Zc 0).op = .load 239 (t 3)/\zz (zQO tm p po pw e) (t 3)=some (.ptr pw 0):=⟨by kernel_rfl,by kernel_rfl⟩
theorem z7T:zh zA (Zc 1) (zz (zYq tm p po pw e)) h=some (.val (.ptr p 0) h):=by kernel_rfl
theorem z7U:zh zA (Zc 2) (zz (zYr tm p po pw e)) h=some (.val (.ptr p 0) h):=by kernel_rfl
theorem z7V:zh zA (Zc 3) (zz (zYs tm p po pw e)) h=some (.val (.ptr p (0+3)) h):=by kernel_rfl
theorem z3Q:(Zc 4).op = .load 235 (t 21)/\zz (zYt tm p po pw e) (t 21)=some (.ptr p (0+3)):=⟨by kernel_rfl,by kernel_rfl⟩
theorem z7W:zh zA (Zc 5) (zz (zYu tm p po pw e a)) h=some (.val (.int .i64 e) h):=by kernel_rfl
theorem z7X:zh zA (Zc 6) (zz (zYv tm p po pw e a)) h=some (.val (.int .i64 (zH (Yi e 1))) h):=by kernel_rfl
theorem z7Y {d:List AD}{Q:AX->St->Prop}:wpT P zA false Zf (Zc 7) [] ⟨34,(zYw tm p po pw e a),d,h⟩ (zy [0,1,2,3] Q)=(true=true/\RF P zA 182 [a,.int .i64 (zH (Yi e 1)),.ptr po 0,.ptr pw 0] h (λv5 h6=>v5 = .tuple []/\(∀tm',wl tm tm' [ss 0 (.ptr p 0),ss 1 (.int .i64 e),ss 2 (.ptr po 0),ss 3 (.ptr pw 0)] (Q .normal ⟨34,tm',d,h6⟩)))):=by kernel_rfl
end
theorem z6a:∀i,i<7->(Zc i).guard=none/\(Zc i).dst=some (18+i):=λi hi=>by
 have:i=0\/i=1\/i=2\/i=3\/i=4\/i=5\/i=6:=by omega
 rcases this with rfl|rfl|rfl|rfl|rfl|rfl|rfl<;>exact⟨by kernel_rfl,by kernel_rfl⟩
theorem zYT {tm:Tm}{p po pw:Nat}{e:Int}{a:V}{d:List AD}{Q:AX->St->Prop}(hs:Has tm (zKg p po pw e)) (gw:h.get pw=some (oFn po pw)) (hl:zK zA 235 h (.ptr p (0+3))=some a) (hn:h.nx<=T.top) (lo:h.low<=T.top)
  (hq:RF P zA 182 [a,.int .i64 (zH (e+1)),.ptr po 0,.ptr pw 0] h λv h'=>v = .tuple []/\∀tm',Has tm' (zKg p po pw e)->Q .normal ⟨34,tm',d,h'⟩):wpDr P zA false z5u.toList ⟨34,tm,d,h⟩ Q:=by
 rw[<-xW hs (by kernel_rfl)];have hw:wpT P zA false Zf (Zc 7) [] ⟨34,zYw tm p po pw e a,d,h⟩ (zy [0,1,2,3] Q):=by
  rw[z7Y,YA];exact⟨rfl,hq.mono λv h' ⟨q1,q2⟩=>⟨q1,λtm' f0 f1 f2 f3=>q2 tm' ⟨f0,f1,f2,f3,trivial⟩⟩⟩
 obtain⟨orc,hor,x,s',e7,hq7⟩:=zDM (ops:=Zf) kJ rfl rfl hw;refine⟨orc,7,x,s',hor,z6m,?_,YS hq7⟩;show yF zA orc false ws Zf (z8 Zf []) 7 7 0 Zf ⟨34,zQO tm p po pw e,d,h⟩=_;have g:=z6a;generalize z8 Zf []=bs;generalize hops:Zf=ops at e7 ⊢;have hl8:ops=[Zc 0,Zc 1,Zc 2,Zc 3,Zc 4,Zc 5,Zc 6,Zc 7]:=by rw[<-hops];exact zNv
 have main:yF zA orc false ws ops bs 7 7 0 [Zc 0,Zc 1,Zc 2,Zc 3,Zc 4,Zc 5,Zc 6,Zc 7] ⟨34,zQO tm p po pw e,d,h⟩=some (.done x s'):=by
  refine zr (g 0 (by decide)).1 (xO (z3P tm p po pw e).1 (z3P tm p po pw e).2 (show zK zA 239 (zM h) (.ptr pw 0)=_ from zX zJQ rfl gw rfl)) (g 0 (by decide)).2 rfl hn lo ?_;refine zr (g 1 (by decide)).1 (z7T ..) (g 1 (by decide)).2 rfl hn lo ?_;refine zr (g 2 (by decide)).1 (z7U ..) (g 2 (by decide)).2 rfl hn lo ?_;refine zr (g 3 (by decide)).1 (z7V ..) (g 3 (by decide)).2 rfl hn lo ?_;refine zr (g 4 (by decide)).1 (xO (z3Q tm p po pw e).1 (z3Q tm p po pw e).2 (show zK zA 235 (zM h) (.ptr p (0+3))=_ from hl)) (g 4 (by decide)).2 rfl hn lo ?_;refine zr (g 5 (by decide)).1 (z7W ..) (g 5 (by decide)).2 rfl hn lo ?_;refine zr (g 6 (by decide)).1 (z7X ..) (g 6 (by decide)).2 rfl hn lo ?_;exact e7
 rw[<-hl8]at main;exact main
def Zg:List Oper:=z5v.toList
def Zd (i:Nat):Oper:=(Zg[i]?).getD default
theorem zNw:Zg=[Zd 0,Zd 1,Zd 2,Zd 3,Zd 4,Zd 5,Zd 6,Zd 7]:=by kernel_rfl
theorem z6n:yZ Zg=some 7:=by kernel_rfl
section
variable (tm:Tm) (p po pw:Nat) (e:Int) (a:V)
def zQR:Tm:=yq tm (zKg p po pw e)
def zYx:Tm:=Tb.set (zQR tm p po pw e) 26 (zM4 po pw)
def zYy:Tm:=Tb.set (zYx tm p po pw e) 27 (.ptr p 0)
def zYz:Tm:=Tb.set (zYy tm p po pw e) 28 (.ptr p 0)
def zZA:Tm:=Tb.set (zYz tm p po pw e) 29 (.ptr p (0+4))
def zZB:Tm:=Tb.set (zZA tm p po pw e) 30 a
def zZC:Tm:=Tb.set (zZB tm p po pw e a) 31 (.int .i64 e)
def zZD:Tm:=Tb.set (zZC tm p po pw e a) 32 (.int .i64 (zH (Yi e 1)))
variable (h:H)
theorem z3R:(Zd 0).op = .load 239 (t 3)/\zz (zQR tm p po pw e) (t 3)=some (.ptr pw 0):=⟨by kernel_rfl,by kernel_rfl⟩
theorem z7Z:zh zA (Zd 1) (zz (zYx tm p po pw e)) h=some (.val (.ptr p 0) h):=by kernel_rfl
theorem z70:zh zA (Zd 2) (zz (zYy tm p po pw e)) h=some (.val (.ptr p 0) h):=by kernel_rfl
theorem z71:zh zA (Zd 3) (zz (zYz tm p po pw e)) h=some (.val (.ptr p (0+4)) h):=by kernel_rfl
theorem z3S:(Zd 4).op = .load 235 (t 29)/\zz (zZA tm p po pw e) (t 29)=some (.ptr p (0+4)):=⟨by kernel_rfl,by kernel_rfl⟩
theorem z72:zh zA (Zd 5) (zz (zZB tm p po pw e a)) h=some (.val (.int .i64 e) h):=by kernel_rfl
theorem z73:zh zA (Zd 6) (zz (zZC tm p po pw e a)) h=some (.val (.int .i64 (zH (Yi e 1))) h):=by kernel_rfl
theorem z74 {d:List AD}{Q:AX->St->Prop}:wpT P zA false Zg (Zd 7) [] ⟨34,(zZD tm p po pw e a),d,h⟩ (zy [0,1,2,3] Q)=(true=true/\RF P zA 182 [a,.int .i64 (zH (Yi e 1)),.ptr po 0,.ptr pw 0] h (λv5 h6=>v5 = .tuple []/\(∀tm',wl tm tm' [ss 0 (.ptr p 0),ss 1 (.int .i64 e),ss 2 (.ptr po 0),ss 3 (.ptr pw 0)] (Q .normal ⟨34,tm',d,h6⟩)))):=by kernel_rfl
end
theorem z6b:∀i,i<7->(Zd i).guard=none/\(Zd i).dst=some (26+i):=λi hi=>by
 have:i=0\/i=1\/i=2\/i=3\/i=4\/i=5\/i=6:=by omega
 rcases this with rfl|rfl|rfl|rfl|rfl|rfl|rfl<;>exact⟨by kernel_rfl,by kernel_rfl⟩
theorem zYU {tm:Tm}{p po pw:Nat}{e:Int}{a:V}{d:List AD}{Q:AX->St->Prop}(hs:Has tm (zKg p po pw e)) (gw:h.get pw=some (oFn po pw)) (hl:zK zA 235 h (.ptr p (0+4))=some a) (hn:h.nx<=T.top) (lo:h.low<=T.top)
  (hq:RF P zA 182 [a,.int .i64 (zH (e+1)),.ptr po 0,.ptr pw 0] h λv h'=>v = .tuple []/\∀tm',Has tm' (zKg p po pw e)->Q .normal ⟨34,tm',d,h'⟩):wpDr P zA false z5v.toList ⟨34,tm,d,h⟩ Q:=by
 rw[<-xW hs (by kernel_rfl)];have hw:wpT P zA false Zg (Zd 7) [] ⟨34,zZD tm p po pw e a,d,h⟩ (zy [0,1,2,3] Q):=by
  rw[z74,YA];exact⟨rfl,hq.mono λv h' ⟨q1,q2⟩=>⟨q1,λtm' f0 f1 f2 f3=>q2 tm' ⟨f0,f1,f2,f3,trivial⟩⟩⟩
 obtain⟨orc,hor,x,s',e7,hq7⟩:=zDM (ops:=Zg) kJ rfl rfl hw;refine⟨orc,7,x,s',hor,z6n,?_,YS hq7⟩;show yF zA orc false ws Zg (z8 Zg []) 7 7 0 Zg ⟨34,zQR tm p po pw e,d,h⟩=_;have g:=z6b;generalize z8 Zg []=bs;generalize hops:Zg=ops at e7 ⊢;have hl8:ops=[Zd 0,Zd 1,Zd 2,Zd 3,Zd 4,Zd 5,Zd 6,Zd 7]:=by rw[<-hops];exact zNw
 have main:yF zA orc false ws ops bs 7 7 0 [Zd 0,Zd 1,Zd 2,Zd 3,Zd 4,Zd 5,Zd 6,Zd 7] ⟨34,zQR tm p po pw e,d,h⟩=some (.done x s'):=by
  refine zr (g 0 (by decide)).1 (xO (z3R tm p po pw e).1 (z3R tm p po pw e).2 (show zK zA 239 (zM h) (.ptr pw 0)=_ from zX zJQ rfl gw rfl)) (g 0 (by decide)).2 rfl hn lo ?_;refine zr (g 1 (by decide)).1 (z7Z ..) (g 1 (by decide)).2 rfl hn lo ?_;refine zr (g 2 (by decide)).1 (z70 ..) (g 2 (by decide)).2 rfl hn lo ?_;refine zr (g 3 (by decide)).1 (z71 ..) (g 3 (by decide)).2 rfl hn lo ?_;refine zr (g 4 (by decide)).1 (xO (z3S tm p po pw e).1 (z3S tm p po pw e).2 (show zK zA 235 (zM h) (.ptr p (0+4))=_ from hl)) (g 4 (by decide)).2 rfl hn lo ?_;refine zr (g 5 (by decide)).1 (z72 ..) (g 5 (by decide)).2 rfl hn lo ?_;refine zr (g 6 (by decide)).1 (z73 ..) (g 6 (by decide)).2 rfl hn lo ?_;exact e7
 rw[<-hl8]at main;exact main
abbrev wkL (po pw bo n:Nat) (cs:Cs):List (Nat×O):=[(pw,oFn po pw),(po,.cells (.ls [.slice bo 0 n (.exact n)]) ⟨0,23+1,0⟩ true false),(bo,xn cs)]
theorem Oq {hb:H}{c po pw bo n:Nat}(lb:hb.low<=T.top):∀(t:HT) {p dep:Nat}{h:H}{cs:Cs}{o:List Int}{Q:V->H->Prop},Vw zR hb h c (wkL po pw bo n cs)->Row cs n (zJ o)->ND h (· = bo) t p->(∀x∈t.ls,x.1<n)->dep+t.hgt<=100000->h.nx<=T.top ->
  (∀h' cs',Vw zR hb h' c (wkL po pw bo n cs')->Row cs' n (zJ (jK o (t.lv dep)))->h'.nx=h.nx->(∀b,b≠bo->h'.get b=h.get b)->Q (.tuple []) h')->RF P zA 182 [.ptr p 0,.int .i64 (dep:Nat),.ptr po 0,.ptr pw 0] h Q
 | .leaf m s,p,dep,h,cs,o,Q,w,row,⟨n1,n2,n3⟩,hs,hd,hn,hq=>by
  have lo:=oQ w.low lb;have low:=yE (h:=h) hn lo;have hsn:s<n:=hs (s,m) (by simp[HT.ls]);obtain⟨h2,cs2,e2,row2,w2,nx,k2⟩:=w.set2 (cx:=zA) 2 (j:=s) (u:=.int .i64 (dep:Nat)) row rfl hn hsn zb rfl rfl rfl rfl;refine yD zUc rfl rfl zVW ⟨.ptr p 0,h,rfl,?_⟩;rw[zGz];refine⟨0,zX zb rfl n3 rfl,λ_=>⟨⟨hn,lo⟩,.slice bo 0 n (.exact n),w.ld1 1 rfl zO rfl rfl,.ptr p 0,zM h,rfl,low.1,?_⟩,λc=>absurd rfl c⟩
  intro h8 e8;rw[low.2]at e8;subst e8;rw[zM8];refine⟨s,zX zb rfl n3 rfl,bo,s,yb zO rfl zb rfl hsn,h2,e2,hq h2 cs2 w2 ?_ nx k2⟩;rw[<-xC]at row2;exact row2
 | .join g a b,p,dep,h,cs,o,Q,w,row,⟨n1,n2,n0,pa,pb,n3,na,nb⟩,hs,hd,hn,hq=>by
  have lo:=oQ w.low lb;have hd':dep+(max a.hgt b.hgt+1)<=100000:=hd;have low:=yE (h:=h) hn lo;have e1:zH (((dep:Nat):Int)+1)=((dep+1:Nat):Int):=yR (by omega);refine yD zUc rfl rfl zVW ⟨.ptr p 0,h,rfl,?_⟩;rw[zGz];refine⟨(g:Nat),zX zb rfl n3 rfl,λc=>by omega,λ_=>?_⟩
  refine zYT (p:=p) (po:=po) (pw:=pw) (e:=(dep:Nat)) ⟨by kernel_rfl,by kernel_rfl,by kernel_rfl,by kernel_rfl,trivial⟩ (w.get 0 rfl) (zX qd rfl n3 rfl) hn lo ?_;rw[e1];refine Oq lb a w row na (λx hx=>hs x (List.mem_append.2 (.inl hx))) (by omega) hn λh1 cs1 w1 row1 nx1 k1=>⟨rfl,λtm1 hs1=>?_⟩
  refine thenC.nx (wpS.at hs1 zTW rfl rfl ?_);have n3':h1.get p=some (ndO (a.cnt+b.cnt) 0 g (.ptr pa 0) (.ptr pb 0)):=by rw[k1 p n2];exact n3
  refine zYU (p:=p) (po:=po) (pw:=pw) (e:=(dep:Nat)) ?_ (w1.get 0 rfl) (zX qd rfl n3' rfl) (by omega) (oQ w1.low lb) ?_
  ·exact hs1
  rw[e1];refine Oq lb b w1 row1 (nb.keep (by omega) (λd _ hd=>k1 d hd) (λ_ _ q=>q)) (λx hx=>hs x (List.mem_append.2 (.inr hx))) (by omega) (by omega) λh2 cs2 w2 row2 nx2 k2=>⟨rfl,λtm2 hs2=>hs2.slt λtm3 hs3=>?_⟩
  exact hq h2 cs2 w2 (by rw[show(HT.join g a b).lv dep=a.lv (dep+1)++b.lv (dep+1)from rfl,zKT];exact row2) (by omega) λd hd=>by rw[k2 d hd,k1 d hd]
end Go.Proofs.YtnpeieeomokomaaGreat
namespace Go.Proofs.YtnpeieeomokomaaGreat
open Go.Sim
variable {h:H}{Q:V->H->Prop}
open Go (Oper)
theorem zQq (hn:h.nx<T.top):zF zA 233 0 [] h=some (.slice h.nx 0 0 (.exact 0),h.new (.cells (.ls []) ⟨0,235+1,0⟩ true false)):=by
 have e1:zF zA 233 0 [] h=(match (cond (Nat.blt h.nx T.top) (some (h.nx,h.new (.cells (.ls []) ⟨0,235+1,0⟩ true false))) none:Option (Nat×H))with|some (b,h')=>some (.slice b 0 0 (.exact 0),h')|none=>none):=by kernel_rfl
 rw[(zY _ _).2 hn,oK]at e1;exact e1
theorem zPl {n g:Int}{p q:Nat}{k:V->Prop}(hk:k (.agg [.int .i64 n,.int .i64 0,.int .i64 g,.ptr p 0,.ptr q 0])):xk zA 237 (yx zA 237 [(0,(.int .i64 n)),(2,(.int .i64 g)),(3,.ptr p 0),(4,.ptr q 0)]) k:=by
 have h1:yx zA 237 [(0,(.int .i64 n)),(2,(.int .i64 g)),(3,.ptr p 0),(4,.ptr q 0)]=some (.agg [.int .i64 n,.int .i64 0,.int .i64 g,.ptr p 0,.ptr q 0]):=by kernel_rfl
 have h2:qI zA 237=false:=by kernel_rfl
 unfold xk;rw[h1];simp only[h2];exact hk
def Ze:List Oper:=z5t.toList
def XC (i:Nat):Oper:=(Ze[i]?).getD default
theorem zNu:Ze=[XC 0,XC 1,XC 2,XC 3,XC 4,XC 5,XC 6]:=by kernel_rfl
theorem z6l:yZ Ze=some 6:=by kernel_rfl
section
abbrev knD (ph po pw:Nat):Kn:=[(3,.ptr ph 0),(9,.ptr po 0),(10,.ptr pw 0)]
variable (tm:Tm) (ph po pw:Nat) (v:V) (b o:Nat) (a:V)
def DA0:Tm:=yq tm (knD ph po pw)
def DA1:Tm:=Tb.set (DA0 tm ph po pw) 68 (zM4 po pw)
def DA2:Tm:=Tb.set (DA1 tm ph po pw) 69 (.ptr ph 0)
def DA3:Tm:=Tb.set (DA2 tm ph po pw) 70 (.ptr ph 0)
def DA4:Tm:=Tb.set (DA3 tm ph po pw) 71 v
def DA5:Tm:=Tb.set (DA4 tm ph po pw v) 72 (.ptr b o)
def DA6:Tm:=Tb.set (DA5 tm ph po pw v b o) 73 a
variable (h:H)
theorem dd0:(XC 0).op = .load 239 (t 10)/\zz (DA0 tm ph po pw) (t 10)=some (.ptr pw 0):=⟨by kernel_rfl,by kernel_rfl⟩
theorem dd1:zh zA (XC 1) (zz (DA1 tm ph po pw)) h=some (.val (.ptr ph 0) h):=by kernel_rfl
theorem dd2:zh zA (XC 2) (zz (DA2 tm ph po pw)) h=some (.val (.ptr ph 0) h):=by kernel_rfl
theorem dd3:(XC 3).op = .load 233 (t 70)/\zz (DA3 tm ph po pw) (t 70)=some (.ptr ph 0):=⟨by kernel_rfl,by kernel_rfl⟩
theorem dd4:(XC 4).op = .indexAddr 233 (t 71) (ci 0)/\zz (DA4 tm ph po pw v) (t 71)=some v/\zz (DA4 tm ph po pw v) (ci 0)=some (.int .i64 0):=⟨by kernel_rfl,by kernel_rfl,by kernel_rfl⟩
theorem dd5:(XC 5).op = .load 235 (t 72)/\zz (DA5 tm ph po pw v b o) (t 72)=some (.ptr b o):=⟨by kernel_rfl,by kernel_rfl⟩
theorem dd6 {d:List AD}{Q:AX->St->Prop}:wpT P zA false Ze (XC 6) [] ⟨76,DA6 tm ph po pw v b o a,d,h⟩ (zy [9] Q)=(true=true/\RF P zA 182 [a,.int .i64 0,.ptr po 0,.ptr pw 0] h (λv5 h6=>v5 = .tuple []/\(∀tm',wl tm tm' [ss 9 (.ptr po 0)] (Q .normal ⟨76,tm',d,h6⟩)))):=by kernel_rfl
end
theorem z69:∀i,i<6->(XC i).guard=none/\(XC i).dst=some (68+i):=λi hi=>by
 have:i=0\/i=1\/i=2\/i=3\/i=4\/i=5:=by omega
 rcases this with rfl|rfl|rfl|rfl|rfl|rfl<;>exact⟨by kernel_rfl,by kernel_rfl⟩
theorem zZP {tm:Tm}{ph po pw b o:Nat}{v a:V}{d:List AD}{Q:AX->St->Prop}(hs:Has tm (knD ph po pw)) (gw:h.get pw=some (oFn po pw)) (hv:zK zA 233 h (.ptr ph 0)=some v) (hi:z7 zA 233 v (.int .i64 0)=some (.ptr b o)) (ha:zK zA 235 h (.ptr b o)=some a) (hn:h.nx<=T.top) (lo:h.low<=T.top)
  (hq:RF P zA 182 [a,.int .i64 0,.ptr po 0,.ptr pw 0] h λv h'=>v = .tuple []/\∀tm',Has tm' [(9,.ptr po 0)]->Q .normal ⟨76,tm',d,h'⟩):wpDr P zA false z5t.toList ⟨76,tm,d,h⟩ Q:=by
 rw[<-xW hs (by kernel_rfl)];have hw:wpT P zA false Ze (XC 6) [] ⟨76,DA6 tm ph po pw v b o a,d,h⟩ (zy [9] Q):=by
  rw[dd6];exact⟨rfl,hq.mono λv h' ⟨q1,q2⟩=>⟨q1,λtm' f0=>q2 tm' ⟨f0,trivial⟩⟩⟩
 obtain⟨orc,hor,x,s',e7,hq7⟩:=zDM (ops:=Ze) kJ rfl rfl hw;refine⟨orc,6,x,s',hor,z6l,?_,YS hq7⟩;show yF zA orc false ws Ze (z8 Ze []) 6 6 0 Ze ⟨76,DA0 tm ph po pw,d,h⟩=_;have g:=z69;generalize z8 Ze []=bs;generalize hops:Ze=ops at e7 ⊢;have hl8:ops=[XC 0,XC 1,XC 2,XC 3,XC 4,XC 5,XC 6]:=by rw[<-hops];exact zNu
 have main:yF zA orc false ws ops bs 6 6 0 [XC 0,XC 1,XC 2,XC 3,XC 4,XC 5,XC 6] ⟨76,DA0 tm ph po pw,d,h⟩=some (.done x s'):=by
  refine zr (g 0 (by decide)).1 (xO (dd0 tm ph po pw).1 (dd0 tm ph po pw).2 (show zK zA 239 (zM h) (.ptr pw 0)=_ from zX zJQ rfl gw rfl)) (g 0 (by decide)).2 rfl hn lo ?_;refine zr (g 1 (by decide)).1 (dd1 ..) (g 1 (by decide)).2 rfl hn lo ?_;refine zr (g 2 (by decide)).1 (dd2 ..) (g 2 (by decide)).2 rfl hn lo ?_;refine zr (g 3 (by decide)).1 (xO (dd3 tm ph po pw).1 (dd3 tm ph po pw).2 (show zK zA 233 (zM h) (.ptr ph 0)=_ from hv)) (g 3 (by decide)).2 rfl hn lo ?_;refine zr (g 4 (by decide)).1 (aop_idx (dd4 tm ph po pw v).1 (dd4 tm ph po pw v).2.1 (dd4 tm ph po pw v).2.2 hi) (g 4 (by decide)).2 rfl hn lo ?_;refine zr (g 5 (by decide)).1 (xO (dd5 tm ph po pw v b o).1 (dd5 tm ph po pw v b o).2 (show zK zA 235 (zM h) (.ptr b o)=_ from ha)) (g 5 (by decide)).2 rfl hn lo ?_;exact e7
 rw[<-hl8]at main;exact main
theorem zFg (own:List Int) (k:Nat):pos own (k+1)=pos own k++if 0<own[k]?.getD 0 then [(k,own[k]?.getD 0)] else []:=rfl
structure GL (own:List Int):Prop where
 len:own.length<=256
 rng:∀x∈own,0<=x/\x<=1000
 two:2<=(pos own own.length).length
def Dep (own:List Int) (h h':H) (w:V) (t:HT):Prop:=∃b cs,w = .slice b 0 own.length (.exact own.length)/\h.nx<=b/\b<h'.nx/\h'.get b=some (xn cs)/\Row cs own.length (zJ (kZ own t))
theorem zKR {v:V}{own:List Int}{h:H}{Q:V->H->Prop}(sl:Sl h v 1 own.length (zJ own)) (g:GL own) (hn:h.nx+2000<=T.top) (lo:h.low<=T.top)
  (hq:∀h' w p t,Ext h h' 1600->HPool (pos own own.length) [(p,t)]->Dep own h h' w t->Q w h'):RF P zA 106 [v] h Q:=by
 have hlen:=g.len;refine yD zZ2 rfl rfl z19 ⟨_,_,zQq (by omega),rfl,by rw[zG];omega,?_⟩;generalize e1:h.new (.cells (.ls []) ⟨0,235+1,0⟩ true false)=h1;obtain⟨n1,x1,g1⟩:=zx e1.symm (by omega);rintro ph h3 rfl e3;obtain⟨n3,x3,g3⟩:=zx e3 (by omega);have x13:=x1.trans x3;have s0:HS [] h h3 2 h1.nx (.slice h.nx 0 0 (.exact 0)) []:=⟨x13,by omega,by omega,g3,.inr ⟨rfl,h.nx,rfl,by omega,by rw[x3.get _ (by omega)];exact g1⟩,λb hb=>by cases hb;exact⟨oP _,by omega⟩,λ_ h=>(by cases h),λ_ h=>(by cases h)⟩
 refine⟨_,(sl.ext x13).len zO rfl,Has.nil.on λtm hs=>?_⟩
 refine wpC.round (λk tm h'=>∃(i c:Nat) (v':V) (l:List HE),i<=own.length/\k=own.length-i/\HS [] h h' c h1.nx v' l/\c<=2+3*i/\l.length<=i/\HPool (pos own i) l/\(∀e∈l,e.2.cw=0) /\
  Has tm [(15,.int .i64 i),(14,.int .i64 own.length),(13,v),(3,.ptr h1.nx 0),(0,v)]) own.length ⟨0,2,_,[],by omega,by omega,s0,by omega,oP _,HPool.nil,λ_ h=>(by cases h),hs.sub (by kernel_rfl)⟩ ?_
 clear hs s0 x13 x3 g3 n3 e3 tm;rintro k tm h' ⟨i,c,v',l,hi,rfl,s,hc,hll,hp,hz,hs⟩;have st:=s.ext.top;have sn:=s.ext.le;refine wpC.av hs zSO rfl rfl ⟨λq=>?_,λq=>hs.on λtm' hs'=>?_⟩
 ·have hil:i<own.length:=by omega
  obtain⟨b,o,e4,e5⟩:=yh (sl.ext s.ext) hil;have hr:=g.rng _ (oS hil);have hps:=zFg own i;rw[oO hil,Option.getD_some]at hps;generalize own[i]=x at e5 hr hps;refine⟨b,o,e4,x,e5,λq2=>⟨by omega,?_⟩,λq2=>hs.on λtm' hs'=>⟨rfl,rfl,own.length-(i+1),by omega,i+1,c,v',l,by omega,rfl,s,by omega,by omega,?_,hz,?_⟩⟩
  ·rintro p h4 rfl e6
   obtain⟨n4,x4,g4⟩:=zx e6 (by omega);have s4:=s.more x4;have hpl:=s.pl;refine zFL (p:=h'.nx) (t:=.leaf x i) s4 hp.hp ⟨by omega,λq3=>?_,g4⟩ (by omega) lo (by omega) λh6 v6 l6 s6 m1 m2 pr=>⟨rfl,hs.on λtm' hs'=>?_⟩
   ·rcases q3 with q3|q3
    ·omega
    ·obtain⟨b',w1,w2⟩:=s.ar.blk
     rw[w1]at q3;cases q3;omega
   ·obtain⟨hp6,hz6⟩:=hp.push hz (by omega) pr
    rw[if_pos q2]at hps;refine⟨rfl,rfl,own.length-(i+1),by omega,i+1,c+1+2,v6,l6,by omega,rfl,s6,by omega,?_,by rw[hps];exact hp6,hz6,?_⟩
    ·have:=pr.perm.length_eq;simp at this;omega
    ·rw[<-yR (by omega)];exact hs'.sub (by kernel_rfl)
  ·rw[if_neg q2,List.append_nil]at hps
   rw[hps];exact hp
  ·rw[<-yR (by omega)];exact hs'.sub (by kernel_rfl)
 have hi:i=own.length:=by omega
 subst hi;have hne:1<=l.length:=by
  cases l with
  | nil =>
   have:=hp.ls.length_eq;have:=g.two;simp[fls]at *;omega
  | cons e l=>simp
 have hsum:ja (pos own own.length)<=256000:=by
  have h1:=Oj own (λx hx=>(g.rng x hx).1) own.length (oP _)
  have h2:=zPX (l:=own) (m:=1000) (by decide) λx hx=>(g.rng x hx).2
  rw[List.take_length]at h1;omega
 clear hz q hs sn;refine thenC.left (wpS.av hs' zSy rfl rfl (hs'.on λtm1 hs1=>?_));refine wpC.round (λk tm h'=>∃(ag c:Nat) (v':V) (l:List HE),k=l.length/\1<=l.length/\0<ag/\ag+l.length<=own.length+1/\c+3*l.length<=2+6*own.length/\HS [] h h' c h1.nx v' l/\HPool (pos own own.length) l /\
  Has tm [(3,.ptr h1.nx 0),(6,.int .i64 ag),(0,v)]) l.length ⟨1,c,v',l,rfl,hne,by decide,by omega,by omega,s,hp,hs1.sub (by kernel_rfl)⟩ ?_
 clear hs1 hs' s hp hc hll hne st tm tm' tm1 hi;rintro k tm h' ⟨ag,c,v',l,rfl,hne,ha0,hag,hc,s,hp,hs⟩;have st:=s.ext.top;have sn:=s.ext.le;refine wpC.av hs zSP rfl rfl ⟨.ptr h1.nx 0,h',rfl,v',s.ld,zDE s ⟨_,rfl,λq=>?_,λq=>hs.on λtm' hs'=>?_⟩⟩
 ·obtain⟨n,hln⟩:∃n,l.length=n+1:=⟨l.length-1,by omega⟩
  refine zIj s hp.hp hln (by omega) lo (by omega) λh7 v7 l7 a s7 n7 p7=>⟨_,rfl,.ptr a.1 0,h7,zDn,?_⟩
  have hl7:l.length=l7.length+1:=by have:=p7.perm.length_eq;simpa using this
  obtain⟨m,hm⟩:∃m,l7.length=m+1:=⟨l7.length-1,by omega⟩;refine zIj s7 p7.hp hm (by omega) lo (by omega) λh12 v12 l12 b s12 n12 p12=>⟨_,rfl,.ptr b.1 0,h12,zDn,?_⟩
  have hl12:l7.length=l12.length+1:=by have:=p12.perm.length_eq;simpa using this
  have lo12:=s12.low lo;have low:=yE (h:=h12) (by omega) lo12;obtain⟨c1,c2,c3⟩:=hp.sum (p7.two p12);have da:=s12.kd a (by simp);have db:=s12.kd b (by simp);obtain⟨pa,sa,ga,aa,ba,ea⟩:=da.at;obtain⟨pb,sb,gb,ab,bb,eb⟩:=db.at;refine⟨⟨by omega,lo12⟩,.ptr a.1 0,zM h12,rfl,low.1,?_⟩;intro h18 e18;rw[low.2]at e18;subst e18;rw[zGy];refine⟨a.2.cnt,zX zb rfl ea rfl,.ptr b.1 0,zM h18,rfl,low.1,?_⟩;intro h24 e24;rw[low.2]at e24;subst e24;rw[zGy];refine⟨b.2.cnt,zX zb rfl eb rfl,zPl (YU rfl ⟨by omega,?_⟩)⟩;rintro p29 h30 rfl e30;obtain⟨n30,x30,g30⟩:=zx e30 (by omega);have s30:=s12.more x30;have ew:zH (a.2.cnt+b.2.cnt)=a.2.cnt+b.2.cnt:=zD (by omega) (by omega);rw[ew]at g30;refine zFL (p:=h24.nx) (t:=.join ag a.2 b.2) s30 p12.hp ⟨by omega,λq3=>?_,ha0,a.1,b.1,g30,s30.kd a (by simp),s30.kd b (by simp)⟩ (by omega) lo (by omega) λh33 v33 l33 s33 m1 m2 pr=>⟨rfl,hs.on λtm' hs'=>?_⟩
  ·rcases q3 with q3|q3
   ·have:=s12.pl;omega
   ·obtain⟨b',w1,w2⟩:=s12.ar.blk
    rw[w1]at q3;cases q3;omega
  ·obtain⟨hp3,hl3⟩:=hp.join p7 p12 pr
   refine⟨rfl,rfl,l33.length,by omega,ag+1,c+1+2,v33,l33,rfl,by omega,by omega,by omega,by omega,s33.un,hp3,?_⟩;rw[<-yR (by omega)];exact hs'.sub (by kernel_rfl)
 ·obtain⟨e,rfl⟩:∃e,l=[e]:=by
   match l,hne with
   | [e],_=>exact⟨e,rfl⟩
   | _::_::_,_=>exfalso;apply q;simp;omega
  obtain⟨p,t⟩:=e;have gd:=Good.of hp;have hst:=s.nd (p,t) (by simp);have hsl:=s.sl;obtain⟨pb,po',i1,i2⟩:=hsl.at1 (i:=0) (by simp) jw rfl qd rfl rfl (qv (by simp));obtain⟨cs,mk1,mk2⟩:=Row.make (cx:=zA) (k:=own.length) (h:=h') zO rfl zb rfl rfl rfl (by omega) (by show 8*own.length<=_;omega) (by omega);have w2:=(Vw.nil (S:=zR) (h:=h')).new (o:=xn cs) rfl (by omega);refine thenC.left (wpS.at hs' zSx rfl rfl ⟨_,(sl.ext s.ext).len zO rfl,_,_,mk1,rfl,by rw[zG];omega,?_⟩);generalize e2:h'.new (xn cs)=h2 at w2;have n2:h2.nx=h'.nx+1:=by rw[<-e2,zG]
  rintro p3 h4 rfl e4;have w4:=w2.new e4 (by omega);have n4:h4.nx=h2.nx+1:=by rw[e4,zG]
  obtain⟨h5,e5,w5,n5,_⟩:=w4.st (cx:=zA) 0 (t:=23) (f:=0) (u:=.slice h'.nx 0 own.length (.exact own.length)) rfl (by omega) zO rfl (oJ _) rfl rfl;refine⟨h5,e5,rfl,by omega,?_⟩;rintro p6 h7 rfl e7;have w7:=w5.new e7 (by omega);have n7:h7.nx=h5.nx+1:=by rw[e7,zG]
  obtain⟨h8,e8,w8,n8,_⟩:=w7.st (cx:=zA) 0 (t:=239) (f:=0) (u:=zM4 h2.nx h5.nx) rfl (by omega) zJQ rfl (oJ _) rfl rfl;have x8:=w8.ex0;have lo8:=oQ w8.low (s.low lo);refine⟨h8,e8,zZP (a:=.ptr p 0) (ph:=h1.nx) (po:=h2.nx) (pw:=h5.nx) ⟨Eq.trans (by kernel_rfl) (hs'.get (t:=3) rfl),by kernel_rfl,by kernel_rfl,trivial⟩ (w8.get 0 rfl) ?_ i1 ?_ (by omega) lo8 ?_⟩
  ·have:=(s.more x8).ld;exact this
  ·have hb:=s.ar.blk
   obtain⟨b',w1,w3⟩:=hb;exact(((s.more x8).sl.at1 (i:=0) (by simp) jw rfl qd rfl rfl (qv (by simp))).elim λpb2 h=>h.elim λpo2 h=>by
    have:=h.1;rw[i1]at this;cases this;exact h.2)
  ·have nd8:=(s.more x8).nd (p,t) (by simp)
   refine Oq (dep:=0) (o:=List.replicate own.length 0) (n:=own.length) (bo:=h'.nx) (s.low lo) t w8 (by rw[jQ];exact mk2) (hst.keep (by exact x8.le) (λb hb _=>x8.get b hb) (λb hb q=>by omega)) (λx hx=>gd.lt x hx) ?_ (by omega) λh9 cs9 w9 row9 n9 k9=>⟨rfl,λtm2 hs2=>?_⟩
   ·have hnice:=hp.one.1
    have h0:F t.hgt<=t.cnt:=(zDK hnice).1;have e2:=Yq t;rw[YF hp.one.2]at e2;have hF:t.hgt<=30:=by
     by_cases c:t.hgt<=30
     ·exact c
     ·have h1:F 31<=F t.hgt:=zYg (by omega)
      have h2:(256001:Int)<=F 31:=by decide +kernel
      omega
    omega
   ·refine thenC.nx (wpS.av hs2 zSw rfl rfl ⟨_,w9.ld1 1 rfl zO rfl rfl,hs2.on λtm3 hs3=>?_⟩)
    have x9:=w9.ex0;have top9:=w9.top;have le9:=w9.le;exact hs3.slt λtm4 hs4=>hs4.slt λtm5 hs5=>endW.r1 (hs5.get rfl) (hq h9 _ p t ((s.ext.trans x9).mono (by omega)) hp ⟨h'.nx,cs9,rfl,by omega,w9.lt 2 rfl,w9.get 2 rfl,row9⟩)
end Go.Proofs.YtnpeieeomokomaaGreat
