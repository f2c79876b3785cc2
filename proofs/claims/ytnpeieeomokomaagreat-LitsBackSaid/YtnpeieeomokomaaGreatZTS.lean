/- TS. No condition. -/
import Derived.Test.YtnpeieeomokomaaGreatZTL
import Derived.Test.YtnpeieeomokomaaGreatZTA
import Derived.Test.YtnpeieeomokomaaGreatZTM
set_option maxRecDepth 100000
set_option maxHeartbeats 4000000
namespace Go.Proofs.YtnpeieeomokomaaGreat
open Go.Sim
variable {h:H}{Q:Uc}
variable{l p sp w:Ub}{S:Ua}{j k log m s v:Nat}
theorem Vu{x:Nat}{h:H}{Q:Uc}(i:Q (dh (zQ x:Nat)) h)(o:x<256:=by omega):RF P zB 316 [.int .u64 x] h Q:=by
 have q:zQ x<=8:=zo;refine zh zIC zFR ?_;refine zh zIK zF2 ⟨λc=>dd,λ_=>λtm hs=>?_⟩;refine sg hs ⟨λc=>dd,λ_=>λr a=>?_⟩;refine sg a ⟨λc=>dd,λ_=>λt b=>?_⟩;refine sg b ⟨(zQ x:Nat),?_,λu d=>d.slt λy f=>f.slt λz g=>?_⟩
 .rw[wy,ou o];have e:(UInt8.ofNat (zQ x)).toNat=zQ x:=by rw[UInt8.toNat_ofNat'];omega
  rw[<-e];refine yj ?_;clear i e q Q h;clear hs a b;revert x;decide +kernel
 refine endW.r1 (g.get rfl) ⟨_,rfl,?_⟩;have e:zb (0+zb ((zQ x:Nat):Int))=((zQ x:Nat):Int):=by rw[zD (n:=((zQ x:Nat):Int)) dd dd,zD dd dd];omega
 rw[e];exact i
def eN(x p:Nat):Nat:=if x/2^(zQ x-zQ p)<p then zQ x-zQ p-1 else zQ x-zQ p
def zDE(x p:Nat):Bool:=decide (p<=x/2^eN x p) && decide (x/2^eN x p<2*p) && decide (eN x p<=5) && (!decide (x/2^(zQ x-zQ p)<p) || decide (1<=zQ x-zQ p)) && decide (zQ p<=zQ x)
theorem H4:((List.range 33).all λp=>p == 0 || (List.range 32).all λs=>zDE (s+32) p)=true:=by decide +kernel
theorem VS{p:Nat}(hs:s<32)(h1:1<=p)(hp:p<=32):p<=(s+32)/2^eN (s+32) p/\(s+32)/2^eN (s+32) p<2*p/\eN (s+32) p<=5/\((s+32)/2^(zQ (s+32)-zQ p)<p->1<=zQ (s+32)-zQ p)/\zQ p<=zQ (s+32):=by
 have h:=List.all_eq_true.1 H4 p (List.mem_range.2 dd);have f:(p == 0)=false:=by simp;omega
 rw[f,Bool.false_or]at h;have:=List.all_eq_true.1 h s (List.mem_range.2 hs);unfold zDE at this;simp only[oI,decide_eq_true_eq,Bool.or_eq_true,Bool.not_eq_true',decide_eq_false_iff_not]at this;obtain⟨⟨⟨⟨a,b⟩,c⟩,d⟩,e⟩:=this;exact⟨a,b,c,λq=>d.elim (λg=>absurd q g) id,e⟩
def ZG(r:Ub)(st:Nat):Int:=r[(st+32)/2^eN (st+32) r.length-r.length]?.getD 0
def qF(r:Ub)(st:Nat):Nat:=(st+32) % 2^eN (st+32) r.length
theorem XP{v:V}{log:Int}{row:Nat->Ub}(t:ETab h v m row)(hs:s<m)(_:m<=256)(g:∀h' u,Ext h h' 1->Ow h' u yg (row s).length (zI (row s))->Q u h')(f:h.nx<T.top:=by omega):RF P zB 295 [.agg [dh log,v],dh s] h Q:=by obtain⟨x,sv,rows⟩:=t;obtain⟨u,i,ow,_⟩:=rows s hs;refine zh zHu zEy (XS sv ⟨f,?_⟩);rintro p0 n rfl q;have a:=(Vw.nil (S:=zH) (h:=h)).new q f;have s1:=sv.ext a.ex0;refine⟨λc=>dd,λ_=>⟨v,a.ld1 0 rfl jM rfl,_,s1.len jM rfl,λc=>dd,λ_=>λtm d=>?_⟩⟩;refine sg d ?_;obtain⟨b,o,a1,a2⟩:=s1.at1 (u:=u) hs jM rfl zM rfl rfl i;exact⟨v,a.ld1 0 rfl jM rfl,b,o,a1,u,a2,λr e=>endW.r1 (e.get rfl) (g n u a.ex0 (ow.ext a.ex0))⟩
theorem Lr{v:V}{m s st:Nat}{row:Nat->Ub}(t:ETab h v m row)(hs:s<m)(hm:m<=256)(y:st<32)(z:1<=(row s).length)(hp:(row s).length<=32)(Z:h.nx+3<=T.top)(E:Q (.tuple [dh (ZG (row s) st),dh (eN (st+32) (row s).length:Nat),dh (qF (row s) st:Nat)]) h):RF P zB 296 [.agg [dh (5:Nat),v],dh st,dh s] h Q:=by
 refine RF.forget (n:=2) (v:=.tuple [dh (ZG (row s) st),dh (eN (st+32) (row s).length:Nat),dh (qF (row s) st:Nat)]) ?_ (zk rfl) E;have F:=t;obtain⟨vs,sv,_⟩:=t;refine zh zC9 zEz (XS sv ⟨dd,?_⟩);rintro p0 G rfl x;have A:=(Vw.nil (S:=zH) (h:=h)).new x dd;have n1:G.nx=h.nx+1:=by rw[x,zC]
 obtain⟨H,I,q3,J,q5⟩:=VS y z hp;have K:zQ (st+32)<=8:=zo;generalize hr:row s=r at *;generalize g:r.length=p at *;refine⟨_,_,A.ldA 0 rfl P1 rfl,XP (F.ext A.ex0) hs hm λL u M ow=>⟨u,rfl,?_⟩⟩;have C:=A.ext M;rw[hr,g]at ow;have ex:yD .u64 (yD .u64 ((st:Nat):Int)+((1*2^5:Nat):Int))=((st+32:Nat):Int):=by rw[zV dd,show((st:Nat):Int)+((1*2^5:Nat):Int)=((st+32:Nat):Int)by omega,zV dd]
 have B:zb (((zQ (st+32):Nat):Int)-((zQ p:Nat):Int))=((zQ (st+32)-zQ p:Nat):Int):=by rw[zD dd dd];omega
 refine⟨_,C.ld1 0 rfl zX rfl,((1*2^5:Nat):Int),by rw[zV dd];exact wD (a:=1) dd dd,_,ow.sl.len zM rfl,?_⟩;rw[ex];refine Vu ⟨_,rfl,?_⟩;rw[zV (n:=p) dd];refine Vu ⟨_,rfl,?_⟩;have i:∀(n:Nat) (tm:Tm),n=eN (st+32) p->Has tm [(7,dh n),(9,u),(10,.int .u64 (st+32:Nat)),(11,.int .u64 p)]->Wf zC9 zBV ⟨57,tm,[],L⟩ (endW zB ⟨57,[.tmp 6,.tmp 7,.tmp 8],bf 296⟩ λv' h'=>v' = .tuple [dh (ZG r st),dh (eN (st+32) p:Nat),dh (qF r st:Nat)]/\Ext h h' 2):=by
  intro n tm d hs;have N:2^n<=2^5:=Nat.pow_le_pow_right dg dd;have O:0<2^n:=Nat.two_pow_pos n;have R:(st+32)/2^n<2*p:=by rw[d];exact I
  have U:p<=(st+32)/2^n:=by rw[d];exact H
  have hi:(st+32)/2^n-p<r.length:=dd
  obtain⟨b,o,a1,a2⟩:=yS (l:=r) (by rw[g];exact ow.sl) hi;have W:zb (yD .u64 (((st+32)/2^n:Nat)-(p:Nat):Int))=(((st+32)/2^n-p:Nat):Int):=by rw[show((((st+32)/2^n:Nat):Int)-(p:Nat))=(((st+32)/2^n-p:Nat):Int)by omega,zV dd,zD dd dd]
  have em:yD .u64 (((1*2^n:Nat):Int)-1)=((2^n-1:Nat):Int):=by rw[show(((1*2^n:Nat):Int)-1)=((2^n-1:Nat):Int)by omega,zV dd]
  refine sg hs ⟨_,by rw[zV dd];exact ko dd,b,o,by rw[W];exact a1,_,a2,_,by rw[zV dd];exact wD (a:=1) dd dd,_,by rw[em];exact bZ dd dd,λX q=>?_⟩;have Y:(st+32) &&& (2^n-1)=qF r st:=by rw[jt];unfold qF;rw[g,<-d]
  have hb:qF r st<=st+32:=Nat.mod_le _ _;refine endW.ok (leave.tmp (q.get (t:=6) rfl) (leave.tmp (q.get (t:=7) rfl) (leave.tmp (q.get (t:=8) rfl) rfl))) ⟨?_,C.ex0⟩;have x:r[(st+32)/2^n-p]=ZG r st:=by unfold ZG;rw[g,<-d,oQ hi];rfl
  show V.tuple [_,_,_]=_;rw[Y,x,zD dd dd,d]
 refine⟨_,by rw[B,zV dd];exact ko dd,λc=>λtm f=>?_,λc=>λtm f=>?_⟩
 .have D:(st+32)/2^(zQ (st+32)-zQ p)<p:=dd
  have:=J D;have e:zb (((zQ (st+32)-zQ p:Nat):Int)-1)=((eN (st+32) p:Nat):Int):=by rw[zD dd dd];unfold eN;rw[if_pos D];omega
  refine i _ tm rfl ?_;rw[B]at f;rw[<-e];exact f.sub de
 rw[B]at f;refine i (zQ (st+32)-zQ p) tm ?_ (f.sub de);unfold eN;rw[if_neg dd]
structure ET (h:H) (v:V) (m:Nat) (sp:Ub):Prop where
 tab:ETab h v m (ze sp 32)
 hm:m<=100
 all:∀i,i<32->∃s:Nat,s<m/\sp[i]? = some (s:Int)
theorem ET.ext{h h':H}{v:V}{n:Nat}(t:ET h v m sp)(e:Ext h h' n):ET h' v m sp:=⟨t.tab.ext e,t.hm,t.all⟩
theorem ET.check{v:V}(t:ET h v m sp)(b:Q (dh 0) h)(c:h.nx+300<=T.top:=by omega)(a:h.low<=T.top:=by omega):RF P zB 294 [.agg [dh (5:Nat),v]] h Q :=
 VT (log:=5) t.tab dg t.hm t.all c a b
theorem VU{v:V}(t:ET h v m sp)(hs:s<m)(a:1<=(ze sp 32 s).length)(y:h.nx+310<=T.top)(e:h.low<=T.top)(q:Q (.tuple [dh ((ze sp 32 s)[0]?.getD 0),dh 0]) h):RF P zB 255 [.agg [dh (5:Nat),v],dh s] h Q:=by
 refine RF.forget (n:=2) (v:=.tuple [dh ((ze sp 32 s)[0]?.getD 0),dh 0]) ?_ (zk rfl) q;obtain⟨z,sv,_⟩:=t.tab;refine zh zHf zE6 (XS sv ⟨dd,?_⟩);rintro p0 r rfl f;have d:=(Vw.nil (S:=zH) (h:=h)).new f dd;have n1:r.nx=h.nx+1:=by rw[f,zC]
 have A:=d.low;have g:=t.ext d.ex0;refine⟨_,_,d.ldA 0 rfl XR rfl,g.check ⟨_,rfl,λc=>absurd rfl c,λ_=>⟨_,_,d.ldA 0 rfl XR rfl,XP g.tab hs (by have:=t.hm;omega) λB u x ow=>⟨u,rfl,_,ow.sl.len zM rfl,λc=>dd,λ_=>?_⟩⟩⟩⟩;obtain⟨b,o,a1,a2⟩:=yS ow.sl (i:=0) a;refine⟨b,o,a1,_,a2,?_,(d.ext x).ex0⟩;rw[oQ a];rfl
theorem qS{v:V}{e n:Nat}{xs:Ug}(s:Sl h v e n xs){a:Int}:V.cells (.agg [dh a,v])=[dh a,v]:=by
 obtain⟨_,⟨rfl,_⟩|⟨b,o,c,cs,k,w,op,rfl,_⟩⟩:=s
 .rfl
 rfl
theorem bY{v:V}{e n:Nat}{xs:Ug}(s:Sl h v e n xs){a:Int}:zU [dh a,v]=true:=by
 obtain⟨_,⟨rfl,_⟩|⟨b,o,c,cs,k,w,op,rfl,_⟩⟩:=s
 .rfl
 rfl
theorem NM{v:V}{st:Nat}(t:ET h v m sp)(hs:s<m)(y:st<32)(z:1<=(ze sp 32 s).length)(hn:h.nx+310<=T.top)(H:h.low<=T.top)(L:Q (.tuple [dh (ZG (ze sp 32 s) st),dh (eN (st+32) (ze sp 32 s).length:Nat),dh (qF (ze sp 32 s) st:Nat),dh 0]) h):RF P zB 256 [.agg [dh (5:Nat),v],dh st,dh s] h Q:=by
 refine RF.forget (n:=10) (v:=.tuple [dh (ZG (ze sp 32 s) st),dh (eN (st+32) (ze sp 32 s).length:Nat),dh (qF (ze sp 32 s) st:Nat),dh 0]) ?_ (zk rfl) L;have hm:=t.hm;have g:=qj sp 32 s;obtain⟨vs,sv,_⟩:=t.tab;refine zh zHg zE7 (XS sv ⟨dd,?_⟩);rintro p0 I rfl J;have i:=(Vw.nil (S:=zH) (h:=h)).new J dd;have n1:I.nx=h.nx+1:=by rw[J,zC]
 have l1:=i.low;have M:=t.ext i.ex0;refine⟨_,_,i.ldA 0 rfl XR rfl,M.check ⟨_,rfl,λc=>absurd rfl c,λ_=>⟨_,_,i.ldA 0 rfl XR rfl,dd,?_⟩⟩⟩;rintro N A rfl o;have B:=i.new o dd;have O:A.nx=I.nx+1:=by rw[o,zC]
 obtain⟨u1,u2⟩:=sv.one1;obtain⟨q,C,b,R,U⟩:=B.st (cx:=zB) 0 (t:=346) (f:=0) (u:=.agg [dh (5:Nat),v]) (cs':=.ls [dh (5:Nat),v]) rfl dd P1 (by rw[qS sv];rfl) (zx.2 (by rw[qS sv];rfl)) (oM _) (by rw[qS sv];exact bY sv);have D:Ext h q 2:=b.ex0;have r:=t.ext D;refine⟨q,C,λc=>dd,λ_=>⟨_,b.ld1 1 rfl zX rfl,((1*2^5:Nat):Int),by rw[zV dd];exact zr (a:=1) dd dd,λc=>dd,λ_=>λtm E=>?_⟩⟩;refine sg E (⟨_,_,b.ldA 0 rfl P1 rfl,XP r.tab hs dd λW u e ow=>⟨u,rfl,_,ow.sl.len zM rfl,λc=>dd,λ_=>λX F=>thenC.nx (F.sealK λY G=>?_)⟩⟩);have x:=b.ext e;have K:=e.top;refine sg G ⟨_,_,x.ldA 0 rfl P1 rfl,Lr (r.ext e).tab hs dd y z g dd ⟨_,_,_,rfl,λZ d=>?_⟩⟩;exact endW.ok (leave.tmp (d.get (t:=6) rfl) (leave.tmp (d.get (t:=7) rfl) (leave.tmp (d.get (t:=8) rfl) (leave.tmp (d.get (t:=9) rfl) rfl)))) ⟨rfl,x.ex0.mono dd⟩
def SN(log m:Nat):Bool:=(List.range (2^log-m)).all λk=>(List.range k).all λj=>decide (Ku log m j≠Ku log m k)
theorem SO:((List.range 13).all λm=>SN 5 m && SN 6 m)=true:=by decide +kernel
theorem Gz(hl:log=5\/log=6)(hm:m<=12)(a:k<2^log-m)(b:j<k):Ku log m j≠Ku log m k:=by
 have h:=List.all_eq_true.1 SO m (List.mem_range.2 dd);rw[oI]at h;have h2:SN log m=true:=by
  rcases hl with rfl|rfl
  .exact h.1
  exact h.2
 exact of_decide_eq_true (List.all_eq_true.1 (List.all_eq_true.1 h2 k (List.mem_range.2 a)) j (List.mem_range.2 b))
theorem bF(hl:log=5\/log=6)(hm:m<=12)(a:k<2^log-m:=by omega)(b:j<2^log-m:=by omega)(d:j≠k:=by omega):Ku log m j≠Ku log m k:=by
 rcases Nat.lt_or_ge j k with c|c
 .exact Gz hl hm a c
 exact λe=>Gz hl hm b (show k<j by omega) e.symm
theorem Xg{q:Nat}:∀{c k:Nat}{out:Ub},(∀j,k<=j->j<k+c->Ku log m j≠q)->(XC log m s c k out)[q]? = out[q]?
 | 0,_,_,_=>rfl
 | c+1,k,out,h=>by unfold XC;rw[Xg λj a h2=>h j dd dd,og (h k dd dd)]
theorem rj{q:Nat}:∀{l:Ub}{s k:Nat}{out:Ub},(∀j,k<=j->j<k+rX l->Ku log m j≠q)->(Yb log m l s k out)[q]? = out[q]?
 | [],_,_,_,_=>rfl
 | p::l,s,k,out,h=>by unfold Yb;rw[Zo]at h;rw[rj λj a h2=>h j dd dd,Xg λj a h2=>h j a dd]
theorem W3{log m:Nat}(hl:log=5\/log=6)(hm:m<=12):∀{l:Ub}{s k:Nat}{out:Ub},out.length=2^log->k+rX l<=2^log-m->∀{i:Nat}{p:Int},l[i]? = some p->0<p->∃q:Nat,q<2^log/\(Yb log m l s k out)[q]? = some ((s+i:Nat):Int)
 | [],_,_,_,_,_,i,p,h,_=>by cases h
 | p::l,s,k,out,b,d,i,e,h,hp=>by
  unfold Yb;rw[Zo]at d;cases i with
  | zero=>cases h;obtain⟨c,f⟩:∃c,p.toNat=c+1:=⟨p.toNat-1,dd⟩;have g:=J5 hl hm k;refine⟨Ku log m k,dd,?_⟩;rw[rj λj a h2=>bF hl hm,f];unfold XC;rw[Xg λj a h2=>bF hl hm,List.getElem?_set_self dd];rfl
  | succ i=>obtain⟨q,a,h2⟩:=W3 hl hm (l:=l) (s:=s+1) (k:=k+p.toNat) (out:=XC log m s p.toNat k out) (by rw[Kb];exact b) dd (i:=i) (p:=e) (by simpa using h) hp;exact⟨q,a,by rw[h2];congr 2;omega⟩
theorem rk:∀{l:Ub}{s n q:Nat}{out:Ub},yY l<=n->n<=q->(Z3 l s n out)[q]? = out[q]?
 | [],_,_,_,_,_,_=>rfl
 | p::l,s,n,q,out,a,h=>by
  unfold Z3;rw[ja]at a;split
  .rename_i c;rw[if_pos c]at a;rw[rk dd dd,og]
  rename_i c;rw[if_neg c]at a;exact rk dd h
theorem vk:∀{l:Ub}{s n:Nat}{out:Ub},n<=out.length->yY l<=n->∀{i:Nat},l[i]? = some (-1)->∃q:Nat,n-yY l<=q/\q<n/\(Z3 l s n out)[q]? = some ((s+i:Nat):Int)
 | [],_,_,_,_,_,i,h=>by cases h
 | p::l,s,n,out,b,a,i,h=>by
  unfold Z3;rw[ja]at a ⊢;cases i with
  | zero=>cases h;rw[if_pos rfl]at a ⊢;rw[if_pos rfl];refine⟨n-1,dd,dd,?_⟩;rw[rk dd (oR _),List.getElem?_set_self dd];rfl
  | succ i =>
   have h':l[i]? = some (-1):=by simpa using h
   by_cases c:p = -1
   .rw[if_pos c]at a ⊢;rw[if_pos c];obtain⟨q,d,h2,h3⟩:=vk (l:=l) (s:=s+1) (n:=n-1) (out:=out.set (n-1) s) (by rw[ox];omega) dd h';exact⟨q,dd,dd,by rw[h3];congr 2;omega⟩
   rw[if_neg c]at a ⊢;rw[if_neg c];obtain⟨q,d,h2,h3⟩:=vk (l:=l) (s:=s+1) (n:=n) (out:=out) b dd h';exact⟨q,dd,dd,by rw[h3];congr 2;omega⟩
theorem Ff(g:GD log l){p:Int}(h:l[s]? = some p)(hp:p≠0):∃q:Nat,q<2^log/\(za log l)[q]? = some (s:Int):=by
 have hm:yY l<=12:=oS (K5 l) g.len;have d:=xR g.lg;have e:=g.cells;have a:=g.low p (List.mem_of_getElem? h);unfold za;by_cases c:p = -1
 .subst c;obtain⟨q,b,h2,h3⟩:=vk (l:=l) (s:=0) (n:=2^log) (out:=List.replicate (2^log) 0) (by rw[List.length_replicate];exact oR _) dd h;refine⟨q,h2,?_⟩;rw[rj λj _ _=>by have:=J5 g.lg hm j;omega,h3,Nat.zero_add]
 obtain⟨q,b,h2⟩:=W3 g.lg hm (l:=l) (s:=0) (k:=0) (out:=Z3 l 0 (2^log) (List.replicate (2^log) 0)) (by rw[XD,List.length_replicate]) dd h dd;exact⟨q,b,by rw[h2,Nat.zero_add]⟩
theorem H9(g:GD log l){p:Int}(h:l[s]? = some p)(hp:p≠0):1<=(ze (za log l) (2^log) s).length:=by obtain⟨q,a,h2⟩:=Ff g h hp;have:((q:Nat):Int)∈ze (za log l) (2^log) s:=VY.2 ⟨q,rfl,a,h2⟩;exact List.length_pos_of_mem this
abbrev WS:=Wr×List Int×List Bool
def kH(sp:Ub)(a:WS)(j s:Nat):WS :=
 if a.2.2[j]?.getD false=true then
  (zu a.1 (qF (ze sp 32 s) (a.2.1[j]?.getD 0).toNat) (eN ((a.2.1[j]?.getD 0).toNat+32) (ze sp 32 s).length),a.2.1.set j (ZG (ze sp 32 s) (a.2.1[j]?.getD 0).toNat),a.2.2)
 else (a.1,a.2.1.set j ((ze sp 32 s)[0]?.getD 0),a.2.2.set j true)
def Kv(sp w:Ub):Nat->WS
 | 0=>(⟨[],0,0⟩,[0,0],[false,false])
 | k+1=>kH sp (Kv sp w k) ((w.length-1-k) % 2) (w[w.length-1-k]?.getD 0).toNat
def cq(sp w:Ub):Wr:=zu (zu (Kv sp w w.length).1 ((Kv sp w w.length).2.1[1]?.getD 0).toNat 5) ((Kv sp w w.length).2.1[0]?.getD 0).toNat 5
def aA(sp w:Ub):Ua:=(zu (cq sp w) 1 (8-(cq sp w).n)).s
structure WOk (a:WS) (k:Nat):Prop where
 st:a.2.1.length=2
 sn:a.2.2.length=2
 lt:∀x∈a.2.1,∃n:Nat,x=(n:Int)/\n<32
 ok:a.1.ok (5*k)
theorem VZ{x:Int}(h:x∈ze sp 32 s):∃n:Nat,x=(n:Int)/\n<32:=by obtain⟨i,a,h2,_⟩:=VY.1 h;exact⟨i,a,h2⟩
theorem gE{st:Nat}(a:st<32)(h1:1<=(ze sp 32 s).length):∃n:Nat,ZG (ze sp 32 s) st=(n:Int)/\n<32:=by
 obtain⟨b,c,_⟩:=VS a h1 (qj sp 32 s);have hi:(st+32)/2^eN (st+32) (ze sp 32 s).length-(ze sp 32 s).length<(ze sp 32 s).length:=dd
 unfold ZG;rw[oQ hi];exact VZ (oV hi)
theorem JT(h1:1<=(ze sp 32 s).length):∃n:Nat,(ze sp 32 s)[0]?.getD 0=(n:Int)/\n<32:=by rw[oQ dd];exact VZ (oV _)
theorem WOk.at{a:WS}(g:WOk a k)(b:j<2):∃n:Nat,a.2.1[j]? = some (n:Int)/\n<32:=by
 have h:j<a.2.1.length:=by rw[g.st];exact b
 obtain⟨n,c,h2⟩:=g.lt _ (oV h);exact⟨n,by rw[oQ h,c],h2⟩
theorem F6{y:Int}(h:∀x∈l,∃n:Nat,x=(n:Int)/\n<32)(b:∃n:Nat,y=(n:Int)/\n<32):∀x∈l.set j y,∃n:Nat,x=(n:Int)/\n<32:=λx c=>by
 rcases List.mem_or_eq_of_mem_set c with a|a
 .exact h x a
 rw[a];exact b
theorem WOk.step{a:WS}{k:Nat}(g:WOk a k){sp:Ub}{j s:Nat}(c:j<2)(h1:1<=(ze sp 32 s).length):WOk (kH sp a j s) (k+1):=by
 obtain⟨n,e,b⟩:=g.at c;unfold kH;rw[e];split
 .obtain⟨_,_,d,_⟩:=VS b h1 (qj sp 32 s);refine⟨by show(a.2.1.set _ _).length=2;rw[ox];exact g.st,g.sn,F6 g.lt (gE b h1),?_⟩;exact(zj g.ok _).up (show 5*k+eN (n+32) _<=5*(k+1)by omega)
 exact⟨by show(a.2.1.set _ _).length=2;rw[ox];exact g.st,by show(a.2.2.set _ _).length=2;rw[ox];exact g.sn,F6 g.lt (JT h1),g.ok.up dd⟩
def Ts(sp w:Ub)(m:Nat):Prop:=∀x∈w,∃s:Nat,x=(s:Int)/\s<m/\1<=(ze sp 32 s).length
theorem Cov.cells(c:Cov l w)(g:GD 5 l):Ts (za 5 l) w l.length:=λx b=>by obtain⟨s,e,p,a,h2⟩:=c x b;exact⟨s,e,(List.getElem?_eq_some_iff.1 a).1,H9 g a h2⟩
theorem ry(c:Ts sp w m):∀k,k<=w.length->WOk (Kv sp w k) k
 | 0,_=>⟨rfl,rfl,λx a=>⟨0,by
   have:x=0\/x=0:=by simpa [Kv]using a
   omega,dg⟩,show Wr.ok ⟨[],0,0⟩ (5*0)from⟨dg,dg,dg⟩⟩
 | k+1,d=>by
  have hi:w.length-1-k<w.length:=dd
  obtain⟨s,e,_,b⟩:=c w[w.length-1-k] (oV hi);unfold Kv;rw[oQ hi];show WOk (kH sp (Kv sp w k) _ (w[w.length-1-k]).toNat) (k+1);rw[e];exact(ry c k dd).step (Nat.mod_lt _ dg) b
theorem Ig{p:Nat}:xK zB 126 (.ptr p 0) (dh (0:Nat))=some (.ptr p 0):=de
theorem Ih{p:Nat}:xK zB 126 (.ptr p 0) (dh (1:Nat))=some (.ptr p 1):=de
theorem Ie{p:Nat}:xK zB 64 (.ptr p 0) (dh (0:Nat))=some (.ptr p 0):=de
theorem If{p:Nat}:xK zB 64 (.ptr p 0) (dh (1:Nat))=some (.ptr p 1):=de
theorem nX{p:Nat}(a:j<2):xK zB 126 (.ptr p 0) (dh (j:Nat))=some (.ptr p j):=by
 have:j=0\/j=1:=dd
 rcases this with rfl|rfl
 .exact Ig
 exact Ih
theorem nU{p:Nat}(a:j<2):xK zB 64 (.ptr p 0) (dh (j:Nat))=some (.ptr p j):=by
 have:j=0\/j=1:=dd
 rcases this with rfl|rfl
 .exact Ie
 exact If
theorem _root_.Go.Sim.Blk.re{S S':Nat->Prop}{b0 a:Nat}:∀{top:Nat}{l:List (Nat×O)},Blk S b0 h top l->(∀q∈l,S' q.1)->Blk S' a h top l
 | _,[],_,_=>trivial
 | _,(_,_)::_,⟨b,_,h3,h4⟩,hs=>⟨b,.inl (hs _ (List.mem_cons_self ..)),h3,h4.re λq c=>hs q (oJ _ c)⟩
def Y2(l:List Bool):Ug:=l.map V.bool
abbrev oI2(cs:Cs):O:=.cells cs ⟨0,126+1,0⟩ true false
abbrev Gb(cs:Cs):O:=.cells cs ⟨0,64+1,0⟩ true false
abbrev oPc(u:V):O:=.cells (.ls [u]) ⟨0,23+1,0⟩ true false
abbrev oCt(n:Int):O:=.cells (.ls [dh n]) ⟨0,3+1,0⟩ true false
abbrev wrL(pc a b c d p5 p3 p0:Nat)(u v e:V)(f cs:Cs)(w:Wr):List (Nat×O) :=
 [(pc,oPc u),(a,Gb f),(b,oI2 cs),(c,Qy w),(d,oET 5 e),(p5,Qy ⟨[],0,0⟩),(p3,oCt 2),(p0,oD 5 v)]
abbrev S3(p5 p3 p0:Nat):Nat->Prop:=λb=>b=p5\/b=p3\/b=p0
noncomputable abbrev lpW(st:LoopState)(tm:Tm)(df:Nat):O:=.loop st none 86 tm #[27,28] Aj zAW df
theorem IM{hb h:H}{C lp df pc x y z A p5 p3 p0 i:Nat}{u v D:V}{I cs:Cs}{a:WS}{tm:Tm}(w:Vw (S3 p5 p3 p0) hb h C ((lp,lpW .ready tm df)::(df,.deferred true)::wrL pc x y z A p5 p3 p0 u v D I cs a.1))(rs:Row cs 2 (zI a.2.1))(L:Row I 2 (Y2 a.2.2))(g:WOk a k)(hk:k<=1000)(te:∀h',hb.nx<=h'.nx->(∀b,b<hb.nx->¬S3 p5 p3 p0 b->h'.get b=hb.get b)->ET h' D m sp)(hs:s<m)(h1:1<=(ze sp 32 s).length)(_:i<=100000)(ht:Has tm [(5,.ptr p3 0),(11,.ptr x 0),(7,.ptr A 0),(10,.ptr y 0),(9,.ptr z 0)])(hn:h.nx+400<=T.top)(hlow:hb.low<=T.top)(J:∀h' cs' n,Vw (S3 p5 p3 p0) hb h' C ((lp,lpW .ready tm df)::(df,.deferred true)::wrL pc x y z A p5 p3 p0 u v D n cs' (kH sp a (i % 2) s).1)->Row cs' 2 (zI (kH sp a (i % 2) s).2.1)->Row n 2 (Y2 (kH sp a (i % 2) s).2.2)->h'.nx=h.nx->Q (.bool true) h'):
  RR P lp [dh (i:Nat),dh (s:Nat)] h Q:=by
 have d:i % 2<2:=Nat.mod_lt _ dg;obtain⟨st,E,F⟩:=g.at d;have hjs:i % 2<a.2.1.length:=by rw[g.st];exact d
 have B:i % 2<a.2.2.length:=by rw[g.sn];exact d
 have o:Int.tmod (i:Int) 2=((i % 2:Nat):Int):=rfl;refine w.round (il:=0) (c':=C) rfl dd ht rfl λtm0 M=>?_
 refine cg I6 M (λtm1 N=>⟨rfl,rfl,rfl,rfl,λe q n1=>?_⟩);have O:e.low<=T.top:=by have:=q.low;omega
 have K:ET e D m sp:=te e q.le q.ex.get;have gb:I.get? (i % 2)=some (.bool a.2.2[i % 2]):=by rw[L.2.2.2 _ d];unfold Y2;rw[od,oQ B];rfl
 have gs:cs.get? (i % 2)=some (dh st):=by rw[rs.2.2.2 _ d,zI,od,E];rfl
 refine cg I6 N ⟨_,q.ld1 8 rfl zX rfl,dg,?_⟩;refine⟨_,_,by rw[o];exact nU d,_,q.ld1 3 rfl ty4 gb,λc=>?_,λc=>?_⟩
 ·
  obtain⟨q1,q2,q3,_⟩:=VS F h1 (qj sp 32 s);have R:qF (ze sp 32 s) st<2^eN (st+32) (ze sp 32 s).length:=Nat.mod_lt _ (Nat.two_pow_pos _);have hb2:2^eN (st+32) (ze sp 32 s).length<=2^5:=Nat.pow_le_pow_right dg q3;have U:kH sp a (i % 2) s=(zu a.1 (qF (ze sp 32 s) st) (eN (st+32) (ze sp 32 s).length),a.2.1.set (i % 2) (ZG (ze sp 32 s) st),a.2.2):=by unfold kH;rw[E,oQ B];show(if a.2.2[i % 2]=true then _ else _)=_;rw[if_pos c];rfl
  rw[U]at J;have eT:ET (z8 e) D m sp:=⟨K.tab,K.hm,K.all⟩;have i1:=jz (h:=e) dd O;refine⟨de,⟨dd,O⟩,_,_,q.ldA 6 rfl XR rfl,_,_,by rw[o];exact nX d,_,q.ld1 4 rfl zX gs,NM eT hs F h1 (show e.nx+310<=T.top by omega) (oR _) ⟨_,_,_,_,rfl,i1.1.2,λh15 G=>?_⟩⟩;rw[i1.2]at G;subst G;refine⟨_,_,_,EW q (i:=5) rfl,?_⟩;show RF P zB _ [_,_,.int .u64 (yD _ _)] _ _;rw[zV dd];refine eO g.ok dd (oS q3 dg) R ⟨_,_,_,_,rfl,?_⟩;have okw:=zj g.ok (v:=qF (ze sp 32 s) st) (eN (st+32) (ze sp 32 s).length);obtain⟨h2,W,X,n2,_⟩:=q.st (cx:=zB) 5 (t:=220) (f:=0) (u:=Jf (zu a.1 (qF (ze sp 32 s) st) (eN (st+32) (ze sp 32 s).length))) rfl dd uM rfl;obtain⟨h3,cs',Y,r,Z,n3⟩:=X.set (cx:=zB) 4 (j:=i % 2) (u:=dh (ZG (ze sp 32 s) st)) rs rfl dd d zX rfl rfl rfl rfl;rw[<-xY]at r;refine⟨h2,W,_,_,by rw[o];exact nX d,h3,Y,λtm5 hs5=>⟨rfl,rfl,_,Z,(show h3.nx<=_ by omega),rfl,λh4 w4 n4 _=>J h4 cs' I w4 r L ?_⟩⟩;rw[n4];show h3.nx=_;omega
 -- the first of its state
 obtain⟨f,ef,hf⟩:=JT h1;have U:kH sp a (i % 2) s=(a.1,a.2.1.set (i % 2) ((ze sp 32 s)[0]?.getD 0),a.2.2.set (i % 2) true):=by unfold kH;rw[oQ B];show(if a.2.2[i % 2]=true then _ else _)=_;rw[if_neg (by rw[c];decide)]
 rw[U]at J;obtain⟨h2,cs',W,r,X,n2⟩:=q.set (cx:=zB) 4 (j:=i % 2) (u:=dh ((ze sp 32 s)[0]?.getD 0)) rs rfl dd d zX rfl rfl rfl rfl;obtain⟨h3,n,Y,rb',Z,n3⟩:=X.set (cx:=zB) 3 (j:=i % 2) (u:=.bool true) L rfl dd d ty4 rfl rfl rfl rfl;rw[<-xY]at r;have rb2:Row n 2 (Y2 (a.2.2.set (i % 2) true)):=by unfold Y2;rw[List.map_set];exact rb'
 refine⟨_,_,q.ldA 6 rfl XR rfl,VU K hs h1 dd O ⟨_,_,rfl,_,_,by rw[o];exact nX d,h2,W,_,_,by rw[o];exact nU d,h3,Y,λtm5 hs5=>⟨rfl,rfl,_,Z,(show h3.nx<=_ by omega),rfl,λh4 w4 n4 _=>J h4 cs' n w4 r rb2 ?_⟩⟩⟩;rw[n4];show h3.nx=_;omega
theorem zB3:Row (.ls [dh 0,dh 0]) 2 (zI [0,0]):=⟨trivial,rfl,rfl,λi hi=>by
 have:i=0\/i=1:=dd
 rcases this with rfl|rfl<;>rfl⟩
theorem FV:Row (.ls [.bool false,.bool false]) 2 (Y2 [false,false]):=⟨trivial,rfl,rfl,λi hi=>by
 have:i=0\/i=1:=dd
 rcases this with rfl|rfl<;>rfl⟩
def IP(a:WS):Nat->Wr
 | 0=>a.1
 | t+1=>zu (IP a t) (a.2.1[1-t]?.getD 0).toNat 5
theorem Rh{a:WS}(g:WOk a k):∀t,(IP a t).ok (5*k+5*t)
 | 0=>g.ok
 | t+1=>(zj (Rh g t) 5).up dd
theorem B0(sp w:Ub):IP (Kv sp w w.length) 2=cq sp w:=rfl
theorem EQ{hb h:H}{C lp df pc n d b q p5 p3 p0:Nat}{u v L:V}{M cs:Cs}{a:WS}{k:Nat}{o:O}{tm:Tm}(w:Vw (S3 p5 p3 p0) hb h C ((lp,o)::(df,.deferred true)::wrL pc n d b q p5 p3 p0 u v L M cs a.1))(rs:Row cs 2 (zI a.2.1))(g:WOk a k)(hk:k<=1000)(X:Has tm [(5,.ptr p3 0),(6,.ptr p5 0),(3,.ptr p0 0),(10,.ptr d 0),(9,.ptr b 0)])(hn:h.nx+400<=T.top)(N:hb.low<=T.top)(Y:∀h',ExtX (S3 p5 p3 p0) hb h' C->Q (Jf (IP a 2)) h'):
  Wf I6 zBO ⟨86,tm,[.coll df],h⟩ (endW zB ⟨86,[.cell 6 220],bf 178⟩ Q):=by
 refine sg X ⟨_,w.ld1 8 rfl zX rfl,λZ r=>?_⟩;refine wpC.round (λj tm h'=>∃t:Nat,t<=2/\j=2-t/\h'.nx=h.nx/\Vw (S3 p5 p3 p0) hb h' C ((lp,o)::(df,.deferred true)::wrL pc n d b q p5 p3 p0 u v L M cs (IP a t)) /\
  Has tm [(19,dh (1-(t:Int))),(6,.ptr p5 0),(3,.ptr p0 0),(10,.ptr d 0),(9,.ptr b 0)]) 2 ⟨0,dd,dd,rfl,w,r.sub de⟩ ?_
 clear r;rintro j tm h' ⟨t,ht2,rfl,z,w',hs⟩;have A:h'.low<=T.top:=by have:=w'.low;omega
 refine cg I6 hs ⟨λc=>?_,λc=>λB e=>?_⟩
 .have htl:t<=1:=dd
  have e1:1-(t:Int)=((1-t:Nat):Int):=dd
  obtain⟨st,x,hst⟩:=g.at (j:=1-t) dd;have gs:cs.get? (1-t)=some (dh st):=by rw[rs.2.2.2 _ dd,zI,od,x];rfl
  have R:=jz (h:=h') dd A;have xI:=Rh g t;refine⟨de,⟨dd,A⟩,_,_,_,EW w' (i:=5) rfl,?_⟩;refine⟨_,w'.ld1 9 rfl zX rfl,_,_,by rw[e1];exact nX dd,_,w'.ld1 4 rfl zX gs,?_⟩;show RF P zB _ [_,_,.int .u64 (yD _ _)] _ _;rw[zV dd];refine eO (k:=5) xI dd dg dd ⟨_,_,_,_,rfl,R.1.2,λD E=>?_⟩;rw[R.2]at E;subst D;have U:b<T.top:=oL (w'.lt 5 rfl) dd;have hg:(z8 h').get b=some (Qy (IP a t)):=w'.get 5 rfl;have es:IP a (t+1)=zu (IP a t) st 5:=by show zu (IP a t) (a.2.1[1-t]?.getD 0).toNat 5=_;rw[x];rfl
  have w2:=w'.upd 5 (o':=Qy (IP a (t+1))) rfl dd;refine⟨(z8 h').upd b (some (Qy (IP a (t+1)))),by rw[es];exact zY uM hg rfl,(show h'.nx<=T.top by omega),λF G=>?_⟩;rw[qW A]at G;subst F;refine λB e=>⟨rfl,rfl,2-(t+1),dd,t+1,dd,rfl,(show h'.nx=h.nx from z),w2,?_⟩
  have e2:zb (1-(t:Int)-1)=1-((t+1:Nat):Int):=by rw[zD dd dd];omega
  rw[<-e2];exact e.sub de
 have I:t=2:=dd
 subst I;refine thenC.left (sg e ⟨_,_,_,EW w' (i:=5) rfl,?_⟩);obtain⟨h3,e3,w3,n3,_⟩:=w'.st (cx:=zB) 7 (t:=220) (f:=0) (u:=Jf (IP a 2)) rfl dd uM rfl;refine⟨h3,e3,λtm3 J=>J.slt λy K=>?_⟩;show Kr [.coll df] h3 _;refine w3.ends (i:=1) rfl dd λh4 W n4 _=>?_
 have el:leave zB [.cell 6 220] y h4 [.cell 6 220] []=some [Jf (IP a 2)]:=leave.cell (K.get (t:=6) rfl) (EW W (i:=7) rfl) rfl;show(match leave zB [.cell 6 220] y h4 [.cell 6 220] []with|some vs=>Q (yC vs) h4|none=>False);rw[el];exact Y h4 W.ex
theorem FTab.et{lo:Nat}{v:V}(g:GD 5 l)(f:FTab lo h v l.length (ze (za 5 l) (2^5))):ET h v l.length (za 5 l) :=
 ⟨f.tab,by have:=g.len;omega,λi hi=>by
  have hl:i<(za 5 l).length:=by rw[kC];exact hi
  obtain⟨s,e,p,a,_⟩:=Ki g (oQ hl);exact⟨s,(List.getElem?_eq_some_iff.1 a).1,by rw[oQ hl,e]⟩⟩
theorem N1{u v:V}(sl:Sl h v 1 l.length (zI l))(g:GD 5 l)(su:Sl h u 1 w.length (zI w))(hw:w.length<=1000)(cv:Cov l w)(hn:h.nx+700<=T.top)(hlow:h.low<=T.top)(W:Q (Jf (cq (za 5 l) w)) h):RF P zB 178 [.agg [dh (5:Nat),v],u,dh (2:Nat)] h Q:=by
 refine RF.forget (n:=200) (v:=Jf (cq (za 5 l) w)) ?_ (zk rfl) W;have ce:=cv.cells g;refine zh I6 zDk (xQ sl ⟨dd,?_⟩);rintro p0 e rfl e1;have w1:=(Vw.nil (S:=zH) (h:=h)).new e1 dd;have n1:e.nx=h.nx+1:=by rw[e1,zC]
 refine⟨rfl,dd,?_⟩;rintro p3 h4 rfl e4;have w4:=w1.new e4 dd;have n4:h4.nx=e.nx+1:=by rw[e4,zC]
 refine⟨dd,?_⟩;rintro p5 h6 rfl e6;have X:=w4.new e6 dd;have n6:h6.nx=h4.nx+1:=by rw[e6,zC]
 have l6:=X.low;refine⟨_,_,X.ldA 2 rfl xE rfl,VV (sl.ext X.ex0) g dd dd λa r z G=>⟨_,_,_,rfl,?_⟩⟩;have t10:=z.top;have le10:=z.le;have A:=X.ext z;have l10:=A.low;have y:Ext h a 153:=A.ex0.mono dd;have wb:Vw (S3 h4.nx e.nx h.nx) a a 0 [(h4.nx,Qy ⟨[],0,0⟩),(e.nx,oCt 2),(h.nx,oD 5 v)]:=⟨ExtX.refl0 _ _,A.bk.re λq W=>by
  simp only[oq,List.not_mem_nil,or_false]at W;rcases W with rfl|rfl|rfl
  .exact .inl rfl
  .exact .inr (.inl rfl)
  exact .inr (.inr rfl)⟩
 refine⟨dd,?_⟩;rintro p14 Y rfl H;have Z:=wb.new H dd;have n15:Y.nx=a.nx+1:=by rw[H,zC]
 obtain⟨vs,d,_⟩:=G.tab;obtain⟨B,e16,w16,n16,_⟩:=Z.st (cx:=zB) 0 (t:=216) (f:=0) (u:=.agg [dh (5:Nat),r]) (cs':=.ls [dh (5:Nat),r]) rfl dd XR (by rw[qS d];rfl) (zx.2 (by rw[qS d];rfl)) (oM _) (by rw[qS d];exact bY d);refine⟨B,e16,dd,?_⟩;rintro p17 C rfl I;have w18:=w16.new I dd;have n18:C.nx=B.nx+1:=by rw[I,zC]
 refine⟨dd,?_⟩;rintro p19 D rfl J;have w20:=w18.new J dd;have n20:D.nx=C.nx+1:=by rw[J,zC]
 refine⟨dd,?_⟩;rintro p21 x rfl K;have w22:=w20.new K dd;have n22:x.nx=D.nx+1:=by rw[K,zC]
 refine zh zHe zE5 ⟨vR su,dd,?_⟩;rintro pc c rfl L;have w24:=w22.new L dd;have n24:c.nx=x.nx+1:=by rw[L,zC]
 have M:∀b,S3 h4.nx e.nx h.nx b->h.nx<=b:=by rintro b (rfl|rfl|rfl)<;>omega
 have N:∀b,S3 h4.nx e.nx h.nx b->b<h6.nx:=by rintro b (rfl|rfl|rfl)<;>omega
 refine⟨_,rfl,λtm hs=>?_⟩;refine Vw.range (s:=⟨86,tm,[],c⟩) w24 (captured:=[.ptr x.nx 0]) (show yt tm (t 26)=_ from congrArg some (hs.get rfl)) (by show c.nx+2<=_;omega) λE O R=>?_
 replace R:E.nx=c.nx+2:=R;have hte:∀h',a.nx<=h'.nx->(∀b,b<a.nx->¬S3 h4.nx e.nx h.nx b->h'.get b=a.get b)->ET h' r l.length (za 5 l):=λh' hn' hg=>(G.keep hn' λb e h2=>hg b h2 λq=>by have:=N b q;omega).et g
 refine Pp (w:=w) (u:=u) (λk h'=>h'.nx=E.nx/\∃cs F,Vw (S3 h4.nx e.nx h.nx) a h' 7 ((c.nx+1,lpW .ready tm c.nx)::(c.nx,.deferred true)::wrL x.nx D.nx C.nx B.nx a.nx h4.nx e.nx h.nx u v r F cs (Kv (za 5 l) w k).1)/\Row cs 2 (zI (Kv (za 5 l) w k).2.1)/\Row F 2 (Y2 (Kv (za 5 l) w k).2.2)) hw
  ⟨rfl,_,_,O,zB3,FV⟩ (O.ld1 2 rfl zM rfl) (λk h' i=>by obtain⟨_,cs,F,w',_⟩:=i;exact w'.ld1 2 rfl zM rfl) (λk h' i=>by obtain⟨_,cs,F,w',_⟩:=i;exact su.ext (ExtX.ext y w'.ex M)) (λk h' hk i=>?_) λh' i=>?_
 .obtain⟨nx,cs,F,w',r1,r2⟩:=i;have hi:w.length-1-k<w.length:=dd
  obtain⟨s,es,hsm,h1'⟩:=ce w[w.length-1-k] (oV hi);have eg:Kv (za 5 l) w (k+1)=kH (za 5 l) (Kv (za 5 l) w k) ((w.length-1-k) % 2) s:=by show kH _ _ _ (w[w.length-1-k]?.getD 0).toNat=_;rw[oQ hi,Option.getD_some,es];rfl
  rw[es,eg];refine IM w' r1 r2 (ry ce k dd) dd hte hsm h1' dd (hs.sub de) dd dd λU cs' cb' w'' r1' r2' nx'=>⟨rfl,(show U.nx=E.nx by omega),cs',cb',w'',r1',r2'⟩
 obtain⟨nx,cs,F,w',r1,_⟩:=i;refine⟨7,_,w',dd,λh19 o w19 n19 _=>?_⟩;refine EQ w19 r1 (ry ce w.length (oR _)) dd (hs.sub de) dd dd λU xx=>⟨by rw[B0],(ExtX.ext y xx M).mono dd⟩
theorem P5(c:Ts sp w m):(cq sp w).ok (5*w.length+10):=Rh (ry c w.length (oR _)) 2
theorem Ti{u v:V}(sl:Sl h v 1 l.length (zI l))(g:GD 5 l)(e:Sl h u 1 w.length (zI w))(hw:w.length<=1000)(h2:2<=w.length)(d:Cov l w)(t:h.nx+800<=T.top)(f:h.low<=T.top)(q:Q (.tuple [.str (aA (za 5 l) w),dh 0]) h):RF P zB 104 [.agg [dh (5:Nat),v],u] h Q:=by
 refine RF.forget (n:=10) (v:=.tuple [.str (aA (za 5 l) w),dh 0]) ?_ (zk rfl) q;refine zh zHA zDN (xQ sl ⟨dd,?_⟩);rintro p0 r rfl i;have b:=(Vw.nil (S:=zH) (h:=h)).new i dd;have n1:r.nx=h.nx+1:=by rw[i,zC]
 refine⟨_,_,b.ldA 0 rfl xE rfl,V3 (sl.ext b.ex0) g (e.ext b.ex0) hw h2 d dd λx o=>⟨_,rfl,λc=>absurd rfl c,λ_=>?_⟩⟩;have a:=b.ext o;have y:=o.top;have l6:=a.low;have ok:=P5 (d.cells g);exact⟨_,_,a.ldA 0 rfl xE rfl,N1 (sl.ext a.ex0) g (e.ext a.ex0) hw d dd dd ⟨_,_,_,rfl,ae ok ⟨_,_,rfl,rfl,a.ex0.mono dd⟩⟩⟩
def Nz(p:Ub)(s:Nat):Prop:=∃y,p[s]? = some y/\y≠0
theorem Nz.set{i:Nat}{x:Int}(h:Nz p s)(b:x≠0):Nz (p.set i x) s:=by
 obtain⟨y,a,h2⟩:=h;by_cases e:i=s
 .subst e;exact⟨x,List.getElem?_set_self (List.getElem?_eq_some_iff.1 a).1,b⟩
 exact⟨y,by rw[og e];exact a,h2⟩
theorem QW:∀{k:Nat}{p:Ub}{s:Nat},PR p->pts p=32+k->Nz p s->Nz (sN k p) s
 | 0,_,_,_,_,h=>h
 | k+1,p,s,g,hp,h=>by obtain⟨a,b⟩:=g.dec;have hb:=g.big;exact QW (p:=nL p) a dd (h.set dd)
theorem CD.nz{c:Ub}(g:CD c)(h:0<c[s]?.getD 0):Nz (ZZ c) s:=by
 have l:=gY g.gc g.ne;have hs:s<Zl c:=by
  rcases Nat.lt_or_ge s (Zl c)with q|q
  .exact q
  exact absurd h (l.hi s q)
 have a:Nz (jc c c.length) s:=⟨_,XL hs,by rw[if_pos (by have:=l.le;omega)];exact PF h⟩;obtain⟨f1,b,d,e⟩:=g.fix;refine QW f1 dd ?_;unfold YH;split
 .have:=qZ ((jc c c.length)[yf c c.length]?.getD 0);exact a.set dd
 exact a
theorem Fl(h:(s:Int)∈l):0<zz l s:=by unfold zz;exact List.length_pos_of_mem (List.mem_filter.2 ⟨h,by simp⟩)
theorem VF(a:wO l=true)(g:CD (yi l)):Cov (ZZ (yi l)) l:=λx b=>by have hr:=yq a b;obtain⟨s,rfl⟩:∃s:Nat,x=(s:Int):=⟨x.toNat,dd⟩;refine⟨s,rfl,g.nz ?_⟩;rw[jA];have:=Fl b;show(0:Int)<(zz l s:Nat);omega
theorem sJ:∀{c:Ub},(∀x∈c,0<=x)->cnt c<=yy c
 | [],_=>oR _
 | x::c,h=>by
  have ih:=sJ (c:=c) λy a=>h y (oJ _ a)
  have b:=h x (List.mem_cons_self ..);have e:yy (x::c)=x.toNat+yy c:=by simp[yy]
  rw[e];unfold cnt at ih ⊢;rw[List.filter_cons];by_cases q:x=0
  .rw[if_neg (by simp[q])];omega
  rw[if_pos (by simp[q]),oc];omega
def ZV(l:Ub):Ua:=uj 5 (ZZ (yi l))++aA (za 5 (ZZ (yi l))) l
def kf(l:Ub):Option Ua:=if 2<=cnt (yi l)/\(ZV l).length<=127 then some (UInt8.ofNat (ZV l).length::ZV l) else none
def C4(o:Option Ua):V:=match o with|some s=>.tuple [.str s,dh 0]|none=>.tuple [.str [],dh 7]
theorem Sw(o:Option Ua):Plain (C4 o):=by cases o<;>exact zk rfl
theorem Tf{w:Wr}(h:w.ok m):(zu w v k).s.length<=m+k:=by have:=(zj (v:=v) h k).s;omega
theorem uh{v:V}(sl:Sl h v 1 l.length (zI l))(e:wO l=true)(hl:l.length<=255)(hn:h.nx+1000<=T.top)(W:h.low<=T.top)(hq:Q (C4 (kf l)) h):RF P zB 54 [v] h Q:=by
 refine RF.forget (n:=20) (v:=C4 (kf l)) ?_ (Sw _) hq;have r:=eW hl;refine zh L54 zIu (R1 sl e hl dd λh1 D s1=>⟨_,_,rfl,λc=>absurd rfl c,λ_=>?_⟩);have t1:=D.top;have y:Sl h1 (.slice h.nx 0 12 (.exact 12)) 1 (yi l).length (zI (yi l)):=by rw[xL];exact s1
 refine ZF y r ⟨_,_,rfl,λc=>?_,λc=>?_⟩
 .have:kf l=none:=by unfold kf;rw[if_neg dd]
  exact⟨by rw[this];rfl,D.mono dd⟩
 have h2:2<=cnt (yi l):=dd
 have g:=QG e hl;have gd:=g.gd;have l1:=D.low;refine Nv y g dd dd λX b E hb s9=>⟨_,_,_,rfl,?_⟩
 have t9:=E.top;have l9:=E.low;have z:=D.trans E;refine⟨dd,?_⟩;rintro p13 F rfl i;have G:=(Vw.nil (S:=zH) (h:=X)).new i dd;obtain⟨H,I,d,n15,_⟩:=G.st (cx:=zB) 0 (t:=59) (f:=0) (u:=.agg [dh 5,.slice b 0 (ZZ (yi l)).length (.exact (ZZ (yi l)).length)]) rfl (by rw[i,zC];omega) xE rfl;have n14:F.nx=X.nx+1:=by rw[i,zC]
 have l15:=d.low;have A:=s9.ext d.ex0;have sv:=sl.ext (z.trans d.ex0);have Y:=VF e g;have o:2<=l.length:=by
  have:=sJ (c:=yi l) λx hx=>(r.rng x hx).1
  rw[X9 e]at this;omega
 refine⟨H,I,λc=>absurd rfl c,λ_=>⟨_,_,d.ldA 0 rfl xE rfl,lC A gd dd dd λq a=>⟨_,_,rfl,λc=>absurd rfl c,λ_=>?_⟩⟩⟩;have J:=d.ext a;have t19:=a.top;have l19:=a.low;refine⟨_,_,J.ldA 0 rfl xE rfl,Ti (A.ext a) gd (sv.ext a) dd o Y dd dd ⟨_,_,rfl,λc=>absurd rfl c,λ_=>?_⟩⟩;have K:(uj 5 (ZZ (yi l))).length<=10008:=by have:=Tf (v:=0) (k:=(8-(jN 5 (ZZ (yi l))).n) % 8) (nG gd);unfold uj;omega
 have L:(aA (za 5 (ZZ (yi l))) l).length<=2000:=by have:=Tf (v:=1) (k:=8-(cq (za 5 (ZZ (yi l))) l).n) (P5 (Y.cells gd));unfold aA;omega
 have B:Ext h q 19:=((z.trans d.ex0).trans a).mono dd;refine⟨oS (Nat.add_le_add K L) dg,λc=>?_,λc=>?_⟩
 .have Z:(ZV l).length<=127:=by
   have:((ZV l).length:Int)<=127:=c;omega
  have M:kf l=some (UInt8.ofNat (ZV l).length::ZV l):=by unfold kf;rw[if_pos ⟨h2,Z⟩]
  obtain⟨N,O,C,R⟩:=ZC (h:=q) ((ZV l).length:Nat) dd;have eb:yD .u8 (Int.ofNat (uj 5 (ZZ (yi l))++aA (za 5 (ZZ (yi l))) l).length)=(((ZV l).length:Nat):Int):=by show yD .u8 (((ZV l).length:Nat):Int)=_;rw[wy,ou]
  have U:(.int .u8 (((ZV l).length:Nat):Int):V)=tY (UInt8.ofNat (ZV l).length):=(JR).symm;rw[U]at C;refine⟨.slice q.nx 0 1 (.exact 1),N,by rw[eb];exact O,_,_,Ze (l:=[UInt8.ofNat (ZV l).length]) C (Nat.succ_pos _),by show 1+(ZV l).length<=_;omega,by rw[M];rfl,(B.trans R).mono dd⟩
 have Z:¬(ZV l).length<=127:=by have:¬((ZV l).length:Int)<=127:=c;omega
 have M:kf l=none:=by unfold kf;rw[if_neg dd]
 exact⟨by rw[M];rfl,B.mono dd⟩
def wl(w:Wr):Nat:=8*w.s.length+w.n
def gb(w:Wr)(i:Nat):Nat:=if i<8*w.s.length then wk w.s i else w.p/2^(i-8*w.s.length) % 2
theorem eQ{p n b:Nat}(hp:p<2^n)(hb:b<2):(p+b*2^n)/2^j % 2=if j=n then b else p/2^j % 2:=by
 rcases Nat.lt_trichotomy j n with h|h|h
 .rw[if_neg dd];obtain⟨d,rfl⟩:∃d,n=j+(d+1):=⟨n-j-1,dd⟩;have:p+b*2^(j+(d+1))=p+(b*2^d*2)*2^j:=by rw[Nat.pow_add,Nat.pow_succ];congr 1;ac_rfl
  rw[this,Nat.add_mul_div_right _ _ (Nat.pow_pos dg),Nat.add_mul_mod_self_right]
 .subst h;rw[if_pos rfl,Nat.add_mul_div_right _ _ (Nat.pow_pos dg),Nat.div_eq_of_lt hp,Nat.zero_add,ou hb]
 rw[if_neg dd];have a:2^(n+1)<=2^j:=Nat.pow_le_pow_right dg h;have h2:b*2^n<=1*2^n:=Nat.mul_le_mul_right _ dd;have h3:2^(n+1)=2*2^n:=Nat.pow_succ';rw[Nat.div_eq_of_lt dd,Nat.div_eq_of_lt dd]
theorem fI{s t:Ua}{i:Nat}(h:i<8*s.length):wk (s++t) i=wk s i:=by unfold wk;rw[List.getElem?_append_left dd]
theorem L9{s:Ua}{b:UInt8}{i:Nat}(h:8*s.length<=i)(h2:i<8*s.length+8):wk (s++[b]) i=b.toNat/2^(i-8*s.length) % 2:=by
 have e:i/8=s.length:=dd
 have a:i % 8=i-8*s.length:=dd
 rw[Xi (b:=b) (by rw[e,List.getElem?_append_right (oR _),Nat.sub_self];rfl),a]
theorem BU{w:Wr}{b:Nat}:wl (rx w b)=wl w+1:=by
 unfold rx wl;split
 .simp only[oW,List.length_singleton];omega
 rfl
theorem BR{w:Wr}{b:Nat}(h:w.ok m)(hb:b<2)(i:Nat):gb (rx w b) i=if i=wl w then b else gb w i:=by
 obtain⟨hp,g,_⟩:=h;unfold rx;by_cases c:w.n=7
 .rw[if_pos c];unfold gb wl;simp only[oW,List.length_singleton];rw[c]at hp;have e:w.p+b*2^w.n<256:=by rw[c];omega
  by_cases a:i<8*w.s.length
  .rw[if_pos dd,fI a,if_neg dd,if_pos a]
  by_cases f:i<8*w.s.length+8
  .rw[if_pos dd,L9 dd f,if_neg a,UInt8.toNat_ofNat',ou (show w.p+b*2^w.n<2^8 from e),c,eQ hp hb];by_cases d:i=8*w.s.length+7
   .rw[if_pos dd,if_pos d]
   rw[if_neg dd,if_neg d]
  rw[if_neg dd,if_neg dd,if_neg a,Nat.zero_div];have:2^8<=2^(i-8*w.s.length):=Nat.pow_le_pow_right dg dd;rw[Nat.div_eq_of_lt dd]
 rw[if_neg c];unfold gb wl;simp only;by_cases a:i<8*w.s.length
 .rw[if_pos a,if_neg dd,if_pos a]
 rw[if_neg a,if_neg a,eQ hp hb];by_cases d:i=8*w.s.length+w.n
 .rw[if_pos dd,if_pos d]
 rw[if_neg dd,if_neg d]
theorem xF{w:Wr}:∀k,wl (zu w v k)=wl w+k
 | 0=>rfl
 | k+1=>by unfold zu;rw[BU,xF k];rfl
theorem Xm{w:Wr}(h:w.ok m)(i:Nat):∀k,gb (zu w v k) i=if wl w<=i/\i<wl w+k then v/2^(i-wl w) % 2 else gb w i
 | 0=>by rw[if_neg dd];rfl
 | k+1=>by
  unfold zu;rw[BR (zj h k) (Nat.mod_lt _ dg),xF,Xm h i k];by_cases c:i=wl w+k
  .rw[if_pos c,if_pos dd];have:i-wl w=k:=dd
   rw[this]
  rw[if_neg c];by_cases c2:wl w<=i/\i<wl w+k
  .rw[if_pos c2,if_pos dd]
  rw[if_neg c2,if_neg dd]
def Ag(w:Wr)(S:Ua):Prop:=wl w<=8*S.length/\∀i,i<wl w->wk S i=gb w i
theorem Ag.full{w:Wr}(_h:w.ok m)(a:w.n=0)(t:Ua):Ag w (w.s++t):=by
 refine⟨?_,λi hi=>?_⟩
 .unfold wl;rw[oW];omega
 unfold wl at hi;rw[fI dd];unfold gb;rw[if_pos dd]
theorem Ag.of_put{w:Wr}(h:w.ok m)(g:Ag (zu w v k) S):Ag w S:=by obtain⟨a,h2⟩:=g;rw[xF]at a h2;exact⟨dd,λi hi=>by rw[h2 i dd,Xm h,if_neg dd]⟩
theorem nh{p:Nat}:∀n,(∀i,i<n->wk S (p+i)=v/2^i % 2)->yB S p n=v % 2^n
 | 0,_=>by show 0=_;rw[Nat.pow_zero,Nat.mod_one]
 | n+1,h=>by show yB S p n+wk S (p+n)*2^n=_;rw[nh n λi hi=>h i dd,h n dd,Nat.pow_succ,Nat.mod_mul,Nat.mul_comm (2^n)]
theorem Ag.num{w:Wr}(h:w.ok m)(g:Ag (zu w v k) S){n:Nat}(b:n<=k):yB S (wl w) n=v % 2^n:=by
 obtain⟨a,h2⟩:=g;rw[xF]at a h2;refine nh n λi hi=>?_
 rw[h2 _ dd,Xm h,if_pos dd];congr 3;omega
theorem Ag.le{w:Wr}(g:Ag (zu w v k) S):wl w+k<=8*S.length:=by have:=g.1;rwa [xF]at this
theorem fD{w:Wr}{left:Nat}(h:w.ok m)(_:0<left)(o:v<=left+1)(g:Ag (zu w (jJ left v).2 (jJ left v).1) S):qw S left (wl w)=some (v,wl (zu w (jJ left v).2 (jJ left v).1)):=by
 obtain⟨f1,q,r⟩:=Zs left;have t:=bJ left;have a:=g.le;have b:∀n,n<=(jJ left v).1->yB S (wl w) n=(jJ left v).2 % 2^n:=λn=>g.num h
 rw[xF];have u:pn left=2^xZ left-2-left:=rfl;unfold qw;unfold jJ at b a ⊢;by_cases c:v<pn left
 .rw[if_pos c]at b a ⊢;simp only at b a ⊢;have e:yB S (wl w) (xZ left-1)=v:=by rw[b _ (oR _),ou]
  rw[if_neg dd,e,if_pos c]
 rw[if_neg c]at b a ⊢;by_cases d:v<2^(xZ left-1)
 .rw[if_pos d]at b a ⊢;simp only at b a ⊢;have f:yB S (wl w) (xZ left-1)=v:=by rw[b _ dd,ou d]
  have i:yB S (wl w) (xZ left)=v:=by rw[b _ (oR _),ou]
  rw[if_neg dd,f,if_neg c,if_neg dd,i,if_neg dd]
 rw[if_neg d]at b a ⊢;simp only at b a ⊢;have i:yB S (wl w) (xZ left)=v+pn left:=by rw[b _ (oR _),ou]
 have f:yB S (wl w) (xZ left-1)=v+pn left-2^(xZ left-1):=by rw[b _ dd,Nat.mod_eq_sub_mod dd,ou]
 rw[if_neg dd,f,if_neg dd,if_neg dd,i,if_pos dd,Nat.add_sub_cancel]
theorem Rj{w:Wr}{m:Nat}(h:w.ok m):∀(f z:Nat),∃k,(wz f w z).ok k:=by
 intro f;induction f generalizing w m with
 | zero=>intro z;exact⟨_,zj h 2⟩
 | succ f ih =>
  intro z;unfold wz;split
  .exact ih (zj h 2) _
  exact⟨_,zj h 2⟩
theorem Ag.of_zeros:∀{f z m:Nat}{w:Wr},w.ok m->Ag (wz f w z) S->Ag w S
 | 0,_,_,_,h,g=>g.of_put h
 | f+1,z,m,w,h,g=>by
  unfold wz at g;split at g
  .exact(Ag.of_zeros (zj h 2) g).of_put h
  exact g.of_put h
theorem pV{S:Ua}:∀{f z m n F:Nat}{w:Wr},w.ok m->Ag (wz f w z) S->z<=f->f<F->n+z<=12->yo S 12 F (wl w) n=some (n+z,wl (wz f w z))
 | f,z,m,n,0,w,_,_,_,d,_=>absurd d (Nat.not_lt_zero _)
 | f,z,m,n,F+1,w,h,g,o,d,a=>by
  have one:∀z,z<3->n+z<=12->Ag (zu w z 2) S->yo S 12 (F+1) (wl w) n=some (n+z,wl (zu w z 2)):=λz o a g=>by
   have b:=g.le;have e:yB S (wl w) 2=z:=by rw[g.num h (oR _),ou]
   unfold yo;rw[if_neg dd,e,if_neg dd,if_neg dd,xF]
  cases f with
  | zero=>exact one z dd a g
  | succ f =>
   unfold wz at g ⊢;by_cases c:3<=z
   .rw[if_pos c]at g ⊢;have i:=Ag.of_zeros (zj h 2) g;have b:=i.le;have e:yB S (wl w) 2=3:=by rw[i.num h (oR _)]
    have ih:=pV (F:=F) (n:=n+3) (zj h 2) g dd dd dd;rw[xF]at ih;unfold yo;rw[if_neg dd,e,if_neg dd,if_pos rfl,ih];congr 2;omega
   rw[if_neg c]at g ⊢;exact one z dd a g
theorem Rc:∀{f left m:Nat}{w:Wr}(l:Ub),w.ok m->∃k,(xV f w left l).ok k
 | 0,_,m,_,_,h=>⟨m,by unfold xV;exact h⟩
 | f+1,_,m,_,[],h=>⟨m,by unfold xV;exact h⟩
 | f+1,left,m,w,p::l,h=>by
  unfold xV;split
  .exact Rc l (zj h _)
  obtain⟨k,a⟩:=Rj (zj (v:=(jJ left 1).2) h (jJ left 1).1) l.length (xA l);exact Rc _ a
theorem Ag.of_probs:∀{f left m:Nat}{w:Wr}(l:Ub),w.ok m->Ag (xV f w left l) S->Ag w S
 | 0,_,m,_,_,h,g=>by unfold xV at g;exact g
 | f+1,_,m,_,[],h,g=>by unfold xV at g;exact g
 | f+1,left,m,w,p::l,h,g=>by
  unfold xV at g;split at g
  .exact(Ag.of_probs l (zj h _) g).of_put h
  obtain⟨k,a⟩:=Rj (zj (v:=(jJ left 1).2) h (jJ left 1).1) l.length (xA l);exact(Ag.of_zeros (zj h _) (Ag.of_probs _ a g)).of_put h
theorem u9:∀l:Ub,l=List.replicate (xA l) 0++l.drop (xA l)
 | []=>rfl
 | x::l=>by
  unfold xA;by_cases c:x=0
  .rw[if_pos c,List.replicate_succ,List.drop_succ_cons,List.cons_append,<-u9 l,c]
  rw[if_neg c];rfl
theorem LV(k:Nat)(l:Ub):pts (List.replicate k 0++l)=pts l:=by
 induction k with
 | zero=>rfl
 | succ k ih=>rw[List.replicate_succ,List.cons_append,xC,ih];simp[pt]
theorem Ni{x:Int}(h:(x::l).getLast?≠some 0)(hl:l≠[]):l.getLast?≠some 0:=by
 rw[List.getLast?_cons]at h;rcases e:l.getLast? with _|y
 .rw[List.getLast?_eq_none_iff]at e;exact absurd e hl
 rw[e]at h;exact h
theorem XG{S:Ua}:∀{f left m F:Nat}{w:Wr}(done l:Ub),w.ok m->Ag (xV f w left l) S->l.length<=f->f<F->done.length+l.length<=12->(∀x∈l,-1<=x)->(l≠[]->l.getLast?≠some 0)->pts l=left ->
  yn S 12 F left (wl w) done=some (done++l,wl (xV f w left l))
 | f,left,m,0,w,done,l,_,_,_,z,_,_,_,_=>absurd z (Nat.not_lt_zero _)
 | f,left,m,F+1,w,done,[],h,g,A,z,hd,a,i,hp=>by
  have e:xV f w left []=w:=by cases f<;>rfl
  have:left=0:=by simp[pts]at hp;omega
  unfold yn;rw[if_pos this,e,List.append_nil]
 | 0,left,m,F+1,w,done,p::l,h,g,A,z,hd,a,i,hp=>by simp at A
 | f+1,left,m,F+1,w,done,p::l,h,g,A,z,hd,a,i,hp=>by
  rw[oc]at A hd;rw[xC]at hp;have N:=a p (by simp);have O:0<=pts l:=by
   have:=xr (l:=l) λx o=>a x (by simp[o])
   omega
  have b:∀k,l.drop k≠[]->(l.drop k).getLast?≠some 0:=λk r=>by
   have hl:l≠[]:=by intro e;rw[e]at r;simp at r
   have:=Ni (i (by simp)) hl
   rwa [List.getLast?_drop,if_neg]
   intro q;exact r (List.drop_eq_nil_of_le q)
  unfold xV at g ⊢;by_cases c:p≠0
  .rw[if_pos c]at g ⊢;have P:0<pt p:=by unfold pt;split<;>omega
   have B:0<left:=dd
   have R:(p+1).toNat<=left+1:=by
    have:p<=pt p:=by unfold pt;split<;>omega
    omega
   have C:=Ag.of_probs l (zj h _) g;have D:=fD h B R C;have ih:=XG (F:=F) (done++[p]) l (zj h _) g dd dd (by simp;omega) (λx o=>a x (by simp[o])) (by have:=b 0;rwa [List.drop_zero]at this) dd;unfold yn;rw[if_neg dd,D];simp only;rw[if_neg dd,if_neg dd];have E:(((p+1).toNat:Nat):Int)-1=p:=dd
   have G:left-max ((p+1).toNat-1) 1=left-(pt p).toNat:=by unfold pt;split<;>omega
   rw[E,G,ih,List.append_assoc];rfl
  have c:p=0:=dd
  rw[if_neg dd]at g ⊢;subst c;have t:l≠[]:=by intro e;rw[e]at i;exact i (by simp) rfl
  have H:=bR l;have d:=u9 l;have u:l.drop (xA l)≠[]:=by
   intro e;rw[e,List.append_nil]at d;have:=b 0 (by rwa [List.drop_zero]);rw[List.drop_zero,d,List.getLast?_replicate]at this;split at this
   .rename_i q;rw[q]at d;exact t d
   exact this rfl
  have I:pts (l.drop (xA l))=pts l:=by
   conv=>rhs;rw[d]
   rw[LV]
  have B:0<left:=by
   have T:pt 0=0:=rfl;have:=xr (l:=l.drop (xA l)) λx o=>a x (by simp[List.mem_of_mem_drop o])
   have J:(l.drop (xA l)).getLast?≠some 0:=b _ u;obtain⟨y,L⟩:∃y,(l.drop (xA l)).getLast? = some y:=by
    cases e:(l.drop (xA l)).getLast? with
    | none=>rw[List.getLast?_eq_none_iff]at e;exact absurd e u
    | some y=>exact⟨y,rfl⟩
   have K:y∈l.drop (xA l):=List.mem_of_getLast? L;have:=bG (l:=l.drop (xA l)) (λx o=>a x (by simp[List.mem_of_mem_drop o])) K;have:y≠0:=λq=>J (by rw[L,q])
   omega
  obtain⟨k,r⟩:=Rj (zj (v:=(jJ left 1).2) h (jJ left 1).1) l.length (xA l);have M:=Ag.of_probs _ r g;have C:=Ag.of_zeros (zj h _) M;have D:=fD h B (v:=1) dd C;have E:=pV (n:=done.length+1) (F:=13) (zj h _) M H dd dd;have ih:=XG (F:=F) (done++List.replicate (xA l+1) 0) (l.drop (xA l)) r g (by rw[List.length_drop];omega) dd (by simp only[oW,List.length_replicate,List.length_drop];omega) (λx o=>a x (by simp[List.mem_of_mem_drop o])) (λq=>b _ q) (by rw[I];have:pt 0=0:=rfl;omega);unfold yn;rw[if_neg dd,D];simp only;rw[if_neg dd,if_pos trivial,E];simp only;have G:done.length+1+xA l-done.length=xA l+1:=dd
  rw[G,ih,List.append_assoc,List.replicate_succ,List.cons_append,<-d]
theorem RB(g:GD 5 p)(t:Ua):∃q,xy (uj 5 p++t) 6 12=some (5,p,q)/\(q+7)/8=(uj 5 p).length:=by
 have o:Wr.ok ⟨[],0,0⟩ 0:=⟨dg,dg,dg⟩;have i:=zj (v:=5-5) o 4;obtain⟨k,b⟩:=Rc (f:=p.length) (left:=2^5) p i;have b:(jN 5 p).ok k:=b;have r:=zj (v:=0) b ((8-(jN 5 p).n) % 8);have c:wl (zu (jN 5 p) 0 ((8-(jN 5 p).n) % 8))=wl (jN 5 p)+(8-(jN 5 p).n) % 8:=xF _;have n:(zu (jN 5 p) 0 ((8-(jN 5 p).n) % 8)).n=0:=by have z:=r.n;have h2:=b.n;unfold wl at c;omega
 have u:=Ag.full r n t;have d:Ag (jN 5 p) (uj 5 p++t):=Ag.of_put b u;have e:=Ag.of_probs p i d;have x:yB (uj 5 p++t) 0 4=0:=e.num o (oR _);have l0:=e.le;have w0:wl ⟨[],0,0⟩=0:=rfl;have y:wl (zu ⟨[],0,0⟩ (5-5) 4)=4:=xF _;have a:=XG (F:=12+2) [] p i d (oR _) (by have:=g.len;omega) (by simpa using g.len) g.low (λ_=>g.last) (by rw[g.pts];rfl);rw[y,List.nil_append]at a;refine⟨wl (jN 5 p),?_,?_⟩
 .unfold xy;rw[x,if_neg (by rw[w0]at l0;omega),if_neg dd];rw[show 2^(0+5)=2^5 from rfl,a];rfl
 have:(uj 5 p).length=(zu (jN 5 p) 0 ((8-(jN 5 p).n) % 8)).s.length:=rfl;rw[this];unfold wl at c ⊢;have h2:=b.n;omega
def rsm(f:Int->Int):Ub->Nat->Int | [],_=>0|p::l,s=>(if p = -1 then f s else 0)+rsm f l (s+1)
def qsm(f:Int->Int):Ub->Nat->Int | [],_=>0|p::l,s=>p.toNat*f s+qsm f l (s+1)
def Pn(f:Int->Int):Ub->Nat->Int | [],_=>0|p::l,s=>p.natAbs*f s+Pn f l (s+1)
theorem Io(f:Int->Int):∀{l:Ub}{s:Nat},(∀x∈l,-1<=x)->Pn f l s=rsm f l s+qsm f l s
 | [],_,_=>rfl
 | p::l,s,h=>by
  unfold Pn rsm qsm;rw[Io f (l:=l) (s:=s+1) λx a=>h x (by simp[a])];have hp:=h p (by simp);by_cases c:p = -1
  .subst c;rw[if_pos rfl];show((1:Nat):Int)*f s+_=f s+_+(((0:Nat):Int)*f s+_);simp only[Int.natCast_one,Int.one_mul,Int.natCast_zero,Int.zero_mul];omega
  rw[if_neg c];have:p.natAbs=p.toNat:=dd
  rw[this];omega
theorem vj(f:Int->Int)(f0:f 0=0):∀{l:Ub}{s n:Nat}{out:Ub},yY l<=n->n<=out.length->(∀i,n-yY l<=i->i<n->out[i]? = some 0)->Xp f (Z3 l s n out)=Xp f out+rsm f l s
 | [],_,_,_,_,_,_=>by simp[Z3,rsm]
 | p::l,s,n,out,hr,a,h=>by
  rw[ja]at hr h;unfold Z3 rsm;by_cases c:p = -1
  .rw[if_pos c]at hr h;rw[if_pos c,if_pos c];rw[vj f f0 dd (by rw[ox];omega) λi b h2=>?_,KK f out (n-1) 0 s (h _ dd dd),f0]
   .omega
   rw[og];exact h i dd dd
  rw[if_neg c]at hr h;rw[if_neg c,if_neg c];rw[vj f f0 dd a λi b h2=>h i dd h2];omega
theorem vm:∀{l:Ub}{s n q:Nat}{out:Ub},yY l<=n->q<n-yY l->(Z3 l s n out)[q]? = out[q]?
 | [],_,_,_,_,_,_=>rfl
 | p::l,s,n,q,out,hr,h=>by
  rw[ja]at hr h;unfold Z3;by_cases c:p = -1
  .rw[if_pos c]at hr h;rw[if_pos c,vm dd dd,og]
  rw[if_neg c]at hr h;rw[if_neg c,vm dd dd]
theorem W0(f:Int->Int)(f0:f 0=0)(hl:log=5\/log=6)(hm:m<=12):∀{c k:Nat}{out:Ub},k+c<=2^log-m->(∀j,k<=j->j<k+c->out[Ku log m j]? = some 0)->Xp f (XC log m s c k out)=Xp f out+c*f s
 | 0,_,_,_,_=>by simp[XC]
 | c+1,k,out,a,h=>by
  unfold XC;rw[W0 f f0 hl hm dd λj b h2=>?_,KK f out _ 0 s (h k (oR _) dd),f0]
  .rw[Int.natCast_add,Int.add_mul];simp only[Int.natCast_one,Int.one_mul];omega
  rw[og (bF hl hm)];exact h j dd dd
theorem W2(f:Int->Int)(f0:f 0=0)(hl:log=5\/log=6)(hm:m<=12):∀{l:Ub}{s k:Nat}{out:Ub},k+rX l<=2^log-m->(∀j,k<=j->j<k+rX l->out[Ku log m j]? = some 0)->Xp f (Yb log m l s k out)=Xp f out+qsm f l s
 | [],_,_,_,_,_=>by simp[Yb,qsm]
 | p::l,s,k,out,b,h=>by
  rw[Zo]at b h;unfold Yb qsm;rw[W2 f f0 hl hm dd λj a h2=>?_,W0 f f0 hl hm dd λj a h2=>h j a dd]
  .omega
  rw[Xg λi h3 h4=>bF hl hm];exact h j dd dd
theorem Wx(f:Int->Int)(f0:f 0=0)(g:GD log p):Xp f (za log p)=Pn f p 0:=by
 have hm:yY p<=12:=oS (K5 p) g.len;have hp:=xR g.lg;have c:=g.cells;have a:∀i,i<2^log->(List.replicate (2^log) (0:Int))[i]? = some 0:=λi hi=>by rw[List.getElem?_replicate,if_pos hi]
 rw[Io f g.low];unfold za;rw[W2 f f0 g.lg hm dd λj _ h2=>?_,vj f f0 dd (by simp) λi _ h2=>a i h2,KM f f0 _ λx b=>List.eq_of_mem_replicate b]
 .omega
 have:=J5 g.lg hm j;rw[vm dd this];exact a _ dd
def Qd(x v:Int):Int:=if v=x then 1 else 0
def Dv(v:Int):Int:=if v=0 then 0 else 1
theorem Ip{x:Int}:∀{l:Ub}{s:Nat},x<s->Pn (Qd x) l s=0
 | [],_,_=>rfl
 | p::l,s,h=>by
  unfold Pn;rw[Ip dd];have:Qd x s=0:=by unfold Qd;rw[if_neg dd]
  rw[this];simp
theorem Im:∀{l:Ub}{s i:Nat},Pn (Qd ((s+i:Nat):Int)) l s=((l[i]?.getD 0).natAbs:Nat)
 | [],_,_=>rfl
 | p::l,s,0=>by
  unfold Pn;rw[Ip dd];have:Qd ((s+0:Nat):Int) s=1:=by unfold Qd;rw[if_pos (by simp)]
  rw[this];simp
 | p::l,s,i+1=>by
  unfold Pn;have e:s+(i+1)=s+1+i:=dd
  rw[e,Im];have:Qd ((s+1+i:Nat):Int) s=0:=by unfold Qd;rw[if_neg dd]
  rw[this];simp
theorem Iq:∀{l:Ub}{s:Nat},1<=s->(∀x∈l,-1<=x)->Pn Dv l s=pts l
 | [],_,_,_=>rfl
 | p::l,s,h,hl=>by
  unfold Pn;rw[Iq dd λx a=>hl x (by simp[a]),xC];have:Dv s=1:=by unfold Dv;rw[if_neg dd]
  have hp:=hl p (by simp);rw[this];unfold pt;split<;>omega
theorem Hj:∀l:Ub,Xp (Qd 0) l=l.length-Xp Dv l
 | []=>rfl
 | x::l=>by
  unfold Xp;rw[Hj l,oc];have:Qd 0 x+Dv x=1:=by unfold Qd Dv;split<;>rfl
  omega
theorem q7(x:Int)(l:Ub)(s:Nat):zz (x::l) s=(if x=(s:Int) then 1 else 0)+zz l s:=by
 unfold zz;rw[List.filter_cons];by_cases c:x=(s:Int)
 .rw[if_pos c,if_pos (by simp[c]),oc];omega
 rw[if_neg c,if_neg (by simp[c])];omega
theorem TR(s:Nat):∀l:Ub,((zz l s:Nat):Int)=Xp (Qd s) l
 | []=>rfl
 | x::l=>by unfold Xp;rw[<-TR s l,q7];unfold Qd;split<;>omega
theorem Lp(g:GD log p)(s:Nat):zz (za log p) s=qP p s:=by
 have h:=TR s (za log p);unfold qP;rw[oe];cases s with
 | zero =>
  rw[show((0:Nat):Int)=0 from rfl,Hj,kC,Wx Dv rfl g]at h;have hp:=g.pos;have b:=g.pts;have a:=g.low;rcases p with _|⟨x,l⟩
  .simp at hp
  have e:Pn Dv (x::l) 0=pts l:=by unfold Pn;rw[Iq (oR _) λy c=>a y (by simp[c])];have:Dv ((0:Nat):Int)=0:=rfl;rw[this];simp
  rw[xC]at b;rw[e]at h;have d:=a x (by simp);have f:pt x=(x.natAbs:Nat):=by unfold pt;split<;>omega
  have n:((2^log:Nat):Int)=2^log:=by simp
  show zz _ 0=x.natAbs;omega
 | succ s=>rw[Wx _ (by unfold Qd;rw[if_neg dd]) g]at h;have:=Im (l:=p) (s:=0) (i:=s+1);rw[Nat.zero_add]at this;rw[this]at h;omega
theorem Fk(a b:Ub)(s:Nat):zz (a++b) s=zz a s+zz b s:=by unfold zz;rw[List.filter_append,oW]
theorem Zf(sp:Ub)(s:Nat):∀k,(ze sp k s).length=zz (sp.take k) s
 | 0=>rfl
 | k+1=>by
  rw[qU,oW,Zf sp s k,List.take_add_one,Fk];congr 1;cases e:sp[k]? with
  | none=>rw[if_neg (by simp)];rfl
  | some x =>
   by_cases c:x=(s:Int)
   .rw[if_pos (by rw[c])];show 1=zz [x] s;rw[q7,if_pos c];rfl
   rw[if_neg (by simpa using c)];show 0=zz [x] s;rw[q7,if_neg c];rfl
theorem Q3{q:Nat}:∀{k:Nat},(ze sp k s)[j]? = some (q:Int)->q<k/\sp[q]? = some (s:Int)/\zz (sp.take q) s=j
 | 0,h=>by cases h
 | k+1,h=>by
  rw[qU]at h;rcases Nat.lt_or_ge j (ze sp k s).length with c|c
  .rw[List.getElem?_append_left c]at h;obtain⟨a,b,d⟩:=Q3 h;exact⟨dd,b,d⟩
  rw[List.getElem?_append_right c]at h;by_cases e:sp[k]? = some (s:Int)
  .rw[if_pos e]at h;have f:j-(ze sp k s).length=0:=by
    have:=(List.getElem?_eq_some_iff.1 h).1;simpa using this
   rw[f]at h;have g:(k:Int)=(q:Int):=by simpa using h
   have:q=k:=dd
   subst this;exact⟨dd,e,by rw[<-Zf];omega⟩
  rw[if_neg e]at h;simp at h
theorem QJ{log:Nat}{s:Nat}:∀{l:Ub}{nx:Int->Nat}{q:Nat},l[q]? = some (s:Int)->(sE log nx l)[q]? = some (DI log s (nx s+zz (l.take q) s))
 | [],_,_,h=>by cases h
 | x::l,nx,0,h=>by
  have:x=(s:Int):=by simpa using h
  subst this;rfl
 | x::l,nx,q+1,h=>by
  unfold sE;rw[List.getElem?_cons_succ,QJ (l:=l) (by simpa using h),List.take_succ_cons,q7];by_cases c:x=(s:Int)
  .subst c;rw[if_pos rfl];simp only[if_pos];congr 2;omega
  rw[if_neg c,if_neg (λe=>c e.symm),Nat.zero_add]
theorem VR(g:GD 5 p){q:Nat}(h:(ze (za 5 p) 32 s)[j]? = some (q:Int)):q<32/\(wh 5 p)[q]? = some (DI 5 s ((ze (za 5 p) 32 s).length+j)):=by obtain⟨a,h2,h3⟩:=Q3 h;refine⟨a,?_⟩;unfold wh;rw[QJ h2,h3,Zf,List.take_of_length_le (by rw[kC];decide),Lp g]
theorem HJ:((List.range 32).all λst=>(List.range 6).all λn=>decide (zQ ((st+32)/2^n)=6-n) && decide ((st+32)/2^n*2^n-32+(st+32) % 2^n=st))=true:=by decide +kernel
theorem Px(g:GD 5 p){st:Nat}(a:st<32)(h1:1<=(ze (za 5 p) 32 s).length):
  ∃q b:Nat,ZG (ze (za 5 p) 32 s) st=(q:Int)/\(wh 5 p)[q]? = some ((s:Int),eN (st+32) (ze (za 5 p) 32 s).length,b)/\b+qF (ze (za 5 p) 32 s) st=st:=by
 have c:=qj (za 5 p) 32 s;obtain⟨t,u,x,_⟩:=VS a h1 c;obtain⟨q,e,y⟩:=gE a h1;have hi:(st+32)/2^eN (st+32) (ze (za 5 p) 32 s).length-(ze (za 5 p) 32 s).length<(ze (za 5 p) 32 s).length:=dd
 have i:(ze (za 5 p) 32 s)[(st+32)/2^eN (st+32) (ze (za 5 p) 32 s).length-(ze (za 5 p) 32 s).length]? = some (q:Int):=by unfold ZG at e;rw[oQ hi]at e ⊢;rw[<-e];rfl
 obtain⟨_,d⟩:=VR g i;have n:(ze (za 5 p) 32 s).length+((st+32)/2^eN (st+32) (ze (za 5 p) 32 s).length-(ze (za 5 p) 32 s).length)=(st+32)/2^eN (st+32) (ze (za 5 p) 32 s).length:=dd
 rw[n]at d;have f:=List.all_eq_true.1 (List.all_eq_true.1 HJ st (List.mem_range.2 a)) (eN (st+32) (ze (za 5 p) 32 s).length) (List.mem_range.2 dd);rw[oI]at f;have z:=of_decide_eq_true f.1;have o:=of_decide_eq_true f.2;have r:jL 5 ((st+32)/2^eN (st+32) (ze (za 5 p) 32 s).length)=eN (st+32) (ze (za 5 p) 32 s).length:=by unfold jL;omega
 refine⟨q,(st+32)/2^eN (st+32) (ze (za 5 p) 32 s).length*2^eN (st+32) (ze (za 5 p) 32 s).length-32,e,?_,?_⟩
 .rw[d];unfold DI tc;rw[r];try rfl
 exact o
theorem sC(g:GD 5 p)(h1:1<=(ze (za 5 p) 32 s).length)(h2:(ze (za 5 p) 32 s).length<32):
  ∃q n b:Nat,(ze (za 5 p) 32 s)[0]?.getD 0=(q:Int)/\(wh 5 p)[q]? = some ((s:Int),n,b)/\1<=n:=by
 obtain⟨q,a,e⟩:=JT h1;have c:(ze (za 5 p) 32 s)[0]? = some (q:Int):=by rw[oQ dd]at a ⊢;rw[<-a];rfl
 obtain⟨_,d⟩:=VR g c;refine⟨q,_,_,a,d,?_⟩;have:zQ ((ze (za 5 p) 32 s).length+0)<=5:=zo;unfold jL;omega
theorem QB{S:Ua}{left:Nat}:∀{n v:Nat},n<=left->(∀i,i<n->wk S (left-n+i)=v/2^i % 2)->xH S left n=v % 2^n
 | 0,v,_,_=>by show 0=_;rw[Nat.pow_zero,Nat.mod_one]
 | n+1,v,b,h=>by
  show 2*xH S left n+(if n<left then wk S (left-1-n) else 0)=_;have ih:=QB (S:=S) (left:=left) (n:=n) (v:=v/2) dd λi hi=>by have:=h (i+1) dd;rw[show left-(n+1)+(i+1)=left-n+i by omega]at this;rw[this,Nat.pow_succ',Nat.div_div_eq_div_mul]
  have a:=h 0 dd;rw[show left-(n+1)+0=left-1-n by omega,Nat.pow_zero,Nat.div_one]at a;rw[ih,if_pos dd,a,Nat.pow_succ',Nat.mod_mul];omega
theorem Ag.back{w:Wr}(h:w.ok m)(g:Ag (zu w v k) S):xH S (wl w+k) k=v % 2^k:=by
 obtain⟨a,h2⟩:=g;rw[xF]at a h2;refine QB dd λi hi=>?_
 rw[h2 _ dd,Xm h,if_pos dd];congr 3;omega
theorem Fy{sp:Ub}{s t:Nat}(h:s≠t)(hl:sp.length=32):(ze sp 32 s).length+(ze sp 32 t).length<=32:=by
 rw[Zf,Zf,List.take_of_length_le dd,<-hl];clear hl;induction sp with
 | nil=>exact oR _
 | cons x l ih =>
  rw[q7,q7,oc];by_cases c:x=(s:Int)
  .rw[if_pos c,if_neg dd];omega
  rw[if_neg c];split<;>omega
structure Dec (p w:Ub) (k:Nat):Prop where
 f0:(Kv (za 5 p) w k).2.2[0]? = some true
 f1:(Kv (za 5 p) w k).2.2[1]? = some true
 rd:∀(S:Ua) (f:Nat) (out:Ub),Ag (Kv (za 5 p) w k).1 S->k<=f->two (wh 5 p) S f (wl (Kv (za 5 p) w k).1) ((Kv (za 5 p) w k).2.1[(w.length-k) % 2]?.getD 0).toNat ((Kv (za 5 p) w k).2.1[(w.length-k+1) % 2]?.getD 0).toNat out=some (out++w.drop (w.length-k))
theorem zGB(n:Nat):n % 2=0/\(n+1) % 2=1\/n % 2=1/\(n+1) % 2=0:=dd
theorem DV(g:GD 5 p)(c:Ts (za 5 p) w m)(hw:2<=w.length)(hr:∀s,(ze (za 5 p) 32 s).length<32):Dec p w 2:=by
 obtain⟨s1,a1,_,a2⟩:=c w[w.length-1] (oV dd);obtain⟨a,i,_,o⟩:=c w[w.length-2] (oV dd);obtain⟨q,n1,d1,a3,a4,a5⟩:=sC g a2 (hr s1);obtain⟨r,D,d2,n,t,E⟩:=sC g o (hr a);have u:w[w.length-1-0]?.getD 0=s1:=by rw[Nat.sub_zero,oQ dd,a1];rfl
 have x:w[w.length-1-1]?.getD 0=a:=by rw[show w.length-1-1=w.length-2 by omega,oQ dd,i];rfl
 have y:(w.length-1-0) % 2=(w.length-2+1) % 2:=by congr 1;omega
 have z:(w.length-1-1) % 2=(w.length-2) % 2:=by congr 1
 have hd:w.drop (w.length-2)=[(a:Int),(s1:Int)]:=by rw[List.drop_eq_getElem_cons dd,i];congr 1;rw[show w.length-2+1=w.length-1 by omega,List.drop_eq_getElem_cons dd,a1];congr 1;exact List.drop_eq_nil_of_le dd
 have b:∃Kk,Kv (za 5 p) w 2=(⟨[],0,0⟩,Kk,[true,true])/\Kk[(w.length-2) % 2]?.getD 0=(r:Int)/\Kk[(w.length-2+1) % 2]?.getD 0=(q:Int):=by
  show ∃Kk,kH (za 5 p) (kH (za 5 p) (⟨[],0,0⟩,[0,0],[false,false]) ((w.length-1-0) % 2) (w[w.length-1-0]?.getD 0).toNat) ((w.length-1-1) % 2) (w[w.length-1-1]?.getD 0).toNat=_/\_;rw[u,x,y,z,oe,oe];rcases zGB (w.length-2)with⟨d,h2⟩|⟨d,h2⟩
  .rw[d,h2];refine⟨[(ze (za 5 p) 32 a)[0]?.getD 0,(ze (za 5 p) 32 s1)[0]?.getD 0],rfl,n,a3⟩
  rw[d,h2];refine⟨[(ze (za 5 p) 32 s1)[0]?.getD 0,(ze (za 5 p) 32 a)[0]?.getD 0],rfl,n,a3⟩
 obtain⟨Kk,e,A,B⟩:=b;refine⟨by rw[e];rfl,by rw[e];rfl,λS f out _ F=>?_⟩;rw[e];show two (wh 5 p) S f 0 (Kk[(w.length-2) % 2]?.getD 0).toNat (Kk[(w.length-2+1) % 2]?.getD 0).toNat out=_;rw[A,B,hd,oe,oe];obtain⟨f,rfl⟩:∃C,f=C+1:=⟨f-1,dd⟩;unfold two;rw[t];simp only;rw[if_pos dd,if_neg dd,a4]
theorem Le{x:Int}(hl:l.length=2):(l.set (j % 2) x)[j % 2]?.getD 0=x:=by rw[List.getElem?_set_self dd];rfl
theorem RI{x:Int}:(l.set (j % 2) x)[(j+1) % 2]?.getD 0=l[(j+1) % 2]?.getD 0:=by rw[og]
theorem HX{p w:Ub}{m k:Nat}(g:GD 5 p)(c:Ts (za 5 p) w m)(B:k+1<=w.length)(d:Dec p w k):Dec p w (k+1):=by
 obtain⟨f0,f1,rd⟩:=d;have ok:=ry c k dd;obtain⟨s,a1,_,a2⟩:=c w[w.length-1-k] (oV dd);have z:w[w.length-1-k]?.getD 0=s:=by rw[oQ dd,a1];rfl
 have hi:w.length-k=w.length-1-k+1:=dd
 have n:w.length-(k+1)=w.length-1-k:=dd
 have e:Kv (za 5 p) w (k+1)=kH (za 5 p) (Kv (za 5 p) w k) ((w.length-1-k) % 2) s:=by show kH _ _ _ (w[w.length-1-k]?.getD 0).toNat=_;rw[z,oe]
 rw[hi]at rd;have o:w.drop (w.length-1-k)=(s:Int)::w.drop (w.length-1-k+1):=by rw[List.drop_eq_getElem_cons dd,a1]
 clear a1;generalize hj:w.length-1-k=j at *;generalize ha:Kv (za 5 p) w k=a at *;obtain⟨st,y,h2⟩:=ok.at (Nat.mod_lt j (by decide:0<2));have r:a.2.2[j % 2]?.getD false=true:=by
  rcases zGB j with⟨q,_⟩|⟨q,_⟩
  .rw[q,f0];rfl
  rw[q,f1];rfl
 obtain⟨q,b,r1,r2,r3⟩:=Px g h2 a2;have t:kH (za 5 p) a (j % 2) s=(zu a.1 (qF (ze (za 5 p) 32 s) st) (eN (st+32) (ze (za 5 p) 32 s).length),a.2.1.set (j % 2) (q:Int),a.2.2):=by unfold kH;rw[if_pos r,y,Option.getD_some,oe,r1]
 rw[t]at e;refine⟨by rw[e];exact f0,by rw[e];exact f1,λS f out i C=>?_⟩;rw[e]at i ⊢;simp only at i ⊢;rw[n,Le ok.st,RI,oe,xF,o];obtain⟨f,rfl⟩:∃A,f=A+1:=⟨f-1,dd⟩;have hb:=i.back ok.ok;have u:qF (ze (za 5 p) 32 s) st<2^eN (st+32) (ze (za 5 p) 32 s).length:=Nat.mod_lt _ (Nat.pow_pos dg);rw[ou u]at hb;unfold two;rw[r2];simp only;rw[if_neg dd,hb,r3,Nat.add_sub_cancel];have:=rd S f (out++[(s:Int)]) (i.of_put ok.ok) dd;have x:(j+1+1) % 2=j % 2:=dd
 rw[x,y,Option.getD_some,oe,List.append_assoc]at this;exact this
theorem QU(g:GD 5 p)(c:Ts (za 5 p) w m)(hr:∀s,(ze (za 5 p) 32 s).length<32):∀k,k+2<=w.length->Dec p w (k+2)
 | 0,h=>DV g c h hr
 | k+1,h=>HX g c h (QU g c hr k dd)
theorem Nt{p n:Nat}(h:p<2^n):zQ (p+1*2^n)=n+1:=by
 have h2:p+1*2^n<2^(n+1):=by rw[Nat.pow_succ'];omega
 have a:=zo h2;have b:=kh (p+1*2^n);by_cases c:zQ (p+1*2^n)<=n
 .have:2^zQ (p+1*2^n)<=2^n:=Nat.pow_le_pow_right dg c;omega
 omega
theorem tX{w:Wr}{m:Nat}(h:w.ok m):yH (zu w 1 (8-w.n)).s=(wl w:Nat)/\Ag w (zu w 1 (8-w.n)).s:=by
 have t:=h.n;have hp:=h.p;have q:=zj (v:=1) h (8-w.n);have d:wl (zu w 1 (8-w.n))=wl w+(8-w.n):=xF _;have e:(zu w 1 (8-w.n)).n=0:=by have:=q.n;unfold wl at d;omega
 have a:(zu w 1 (8-w.n)).s.length=w.s.length+1:=by unfold wl at d;omega
 have f:=Ag.full q e [];rw[List.append_nil]at f;refine⟨?_,f.of_put h⟩;have g:=λi=>Xm (v:=1) h i (8-w.n)
 generalize zu w 1 (8-w.n)=W at *;obtain⟨b,hb⟩:∃b,W.s[w.s.length]? = some b:=⟨_,oQ dd⟩;have n:W.s.getLast? = some b:=by rw[List.getLast?_eq_getElem?,a,Nat.add_sub_cancel,hb]
 have v1:yB W.s (8*w.s.length) 8=b.toNat % 2^8:=nh 8 λi hi=>by rw[Xi (b:=b) (by rw[show(8*w.s.length+i)/8=w.s.length by omega];exact hb),show(8*w.s.length+i) % 8=i by omega]
 have r:yB W.s (8*w.s.length) 8=(w.p+1*2^w.n) % 2^8:=nh 8 λi hi=>by
  rw[f.2 _ (by rw[d];unfold wl;omega),g,eQ hp dg];unfold wl;by_cases c:w.n<=i
  .rw[if_pos dd,show 8*w.s.length+i-(8*w.s.length+w.n)=i-w.n by omega];by_cases o:i=w.n
   .rw[if_pos o,o,Nat.sub_self]
   rw[if_neg o];have y:2^w.n<=2^i:=Nat.pow_le_pow_right dg c;have h2:2^1<=2^(i-w.n):=Nat.pow_le_pow_right dg dd;rw[Nat.div_eq_of_lt dd,Nat.div_eq_of_lt dd]
  rw[if_neg dd,if_neg dd];unfold gb;rw[if_neg dd,show 8*w.s.length+i-8*w.s.length=i by omega]
 have u:=b.toNat_lt;have x:2^w.n<=2^7:=Nat.pow_le_pow_right dg t;rw[v1,ou,ou]at r;unfold yH;rw[n];simp only;rw[if_neg dd,r,Nt hp,a];unfold wl;omega
theorem LZ{p w:Ub}{m:Nat}(g:GD 5 p)(c:Ts (za 5 p) w m)(hw:2<=w.length)(hl:w.length<=255)(hr:∀s,(ze (za 5 p) 32 s).length<32):wg 5 p (aA (za 5 p) w)=(0,w):=by
 have d:=QU g c hr (w.length-2) dd;rw[show w.length-2+2=w.length by omega]at d;have ok:=ry c w.length (oR _);obtain⟨a,a1,a2⟩:=ok.at (j:=0) dg;obtain⟨b,o,t⟩:=ok.at (j:=1) dg;have rd:=d.rd;clear d;unfold aA;have e:cq (za 5 p) w=zu (zu (Kv (za 5 p) w w.length).1 b 5) a 5:=by unfold cq;rw[a1,o,Option.getD_some,Option.getD_some,oe,oe]
 rw[e,Nat.sub_self]at *;have i:=zj (v:=b) ok.ok 5;have r:=zj (v:=a) i 5;obtain⟨z,q⟩:=tX r;generalize (zu (zu (zu (Kv (za 5 p) w w.length).1 b 5) a 5) 1 (8-(zu (zu (Kv (za 5 p) w w.length).1 b 5) a 5).n)).s=S at *;have f:=q.of_put i;have n:=f.of_put ok.ok;have n0:=q.back i;have n1:=f.back ok.ok;rw[xF]at n0;rw[xF,xF]at z;rw[ou]at n0 n1;have h:=rd S 255 [] n dd;rw[show 0 % 2=0 from rfl,show(0+1) % 2=1 from rfl,a1,o,Option.getD_some,Option.getD_some,oe,oe]at h;generalize wl (Kv (za 5 p) w w.length).1=L at *;unfold wg;rw[z,if_neg dd,if_neg dd,if_neg dd,oe,show L+5+5-5-5=L by omega,n0,show L+5+5-5=L+5 by omega,n1,h];rfl
end Go.Proofs.YtnpeieeomokomaaGreat
