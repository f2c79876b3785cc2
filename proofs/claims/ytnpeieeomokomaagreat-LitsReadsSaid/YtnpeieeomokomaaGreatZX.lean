/- X. No condition. -/
import Derived.Test.YtnpeieeomokomaaGreatZW
import Derived.Shelf.SlSortCmp.WholeK
import Derived.Lib.SortBridge
import Derived.Lone
import Derived.Calls
import Derived.StepT
import Derived.Below
import Derived.Test.YtnpeieeomokomaaGreatZS
namespace Go.Sim
open Go (TypeDesc)
section
variable {κ:Type}{kv:κ->V}{h:H}
def MapG(kv:κ->V)(h:H)(r:Nat)(L:List (κ×V)):Prop:=∃es clock,h.get r=some (.map es clock)/\es.map (λe=>(e.key,e.val))=L.map λp=>(kv p.1,p.2)
theorem MapG.new(a:h.nx<T.top):MapG kv (h.new (.map [] 0)) h.nx []:=⟨[],0,zM _ a,rfl⟩
theorem MapG.mono{h':H}{r:Nat}{L:List (κ×V)}(m:MapG kv h r L)(e:h'.get r=h.get r):MapG kv h' r L:=by obtain⟨es,clock,a,b⟩:=m;exact⟨es,clock,e.trans a,b⟩
end
section
variable {κ:Type}[DecidableEq κ] {kv:κ->V}
def lkG:List (κ×V)->κ->Ui
 | [],_=>none
 | p::L,k=>if k=p.1 then some p.2 else lkG L k
def XR:List (κ×V)->κ->V->List (κ×V)
 | [],k,v=>[(k,v)]
 | p::L,k,v=>if k=p.1 then (p.1,v)::L else p::XR L k v
theorem zIx(L:List (κ×V))(k:κ)(v:V)(k':κ):lkG (XR L k v) k'=if k'=k then some v else lkG L k':=by
 induction L with
 | nil=>rfl
 | cons p L ih =>
  unfold XR;by_cases c:k=p.1
  .rw[if_pos c];unfold lkG;rw[c];by_cases a:k'=p.1
   .rw[if_pos a,if_pos a]
   rw[if_neg a,if_neg a,if_neg a]
  rw[if_neg c];show(if k'=p.1 then some p.2 else lkG (XR L k v) k')=if k'=k then some v else if k'=p.1 then some p.2 else lkG L k'
  by_cases a:k'=p.1
  .rw[if_pos a,if_neg (λe=>c (e.symm.trans a)),if_pos a]
  rw[if_neg a,if_neg a,ih]
variable {c:Ctx}{t kt et:Nat}{ti tk te:TI}{z:V}{h:H}
theorem zGj(q:∀a b,J5 c 30 kt (kv a) (kv b)=some (decide (a=b)))(k:κ):∀(es:List Ent) (L:List (κ×V)) (i:Nat),es.map (λe=>(e.key,e.val))=L.map (λp=>(kv p.1,p.2)) ->
  (lkG L k=none->xe c kt (kv k) es i=some none/\∀(v:V) (m:Nat),(es++[(⟨kv k,v,m⟩:Ent)]).map (λe:Ent=>(e.key,e.val))=(XR L k v).map λp=>(kv p.1,p.2)) /\
  (∀u:V,lkG L k=some u->∃j e,xe c kt (kv k) es i=some (some (i+j,e))/\e.val=u/\e.key=kv k/\∀v:V,(Yj es j (kv k) v).map (λe:Ent=>(e.key,e.val))=(XR L k v).map λp=>(kv p.1,p.2))
 | [],[],i,_=>⟨λ_=>⟨rfl,λ_ _=>rfl⟩,λu h=>by cases h⟩
 | [],p::L,i,h=>by simp at h
 | e::es,[],i,h=>by simp at h
 | e::es,p::L,i,h=>by
  simp only[List.map_cons,List.cons.injEq,oB]at h;obtain⟨⟨h1,n⟩,r⟩:=h;obtain⟨s,x⟩:=zGj q k es L (i+1) r;have w:xe c kt (kv k) (e::es) i=(match some (decide (k=p.1))with|some true=>some (some (i,e))|some false=>xe c kt (kv k) es (i+1)|none=>none):=by show(match J5 c 30 kt (kv k) e.key with|some true=>_|some false=>_|none=>_)=_;rw[h1,q]
  have el:lkG (p::L) k=if k=p.1 then some p.2 else lkG L k:=rfl
  have o:∀v,XR (p::L) k v=if k=p.1 then (p.1,v)::L else p::XR L k v:=λ_=>rfl
  by_cases d:k=p.1
  .refine⟨λf=>?_,λu g=>?_⟩
   .rw[el,if_pos d]at f;cases f
   rw[el,if_pos d]at g;cases g;refine⟨0,e,by rw[w,decide_eq_true d];rfl,n,by rw[h1,d],λv=>?_⟩;rw[o,if_pos d];show(kv k,v)::es.map (λe:Ent=>(e.key,e.val))=_;rw[r,d];rfl
  have l:xe c kt (kv k) (e::es) i=xe c kt (kv k) es (i+1):=by rw[w,decide_eq_false d]
  refine⟨λf=>?_,λu g=>?_⟩
  .rw[el,if_neg d]at f;refine⟨by rw[l];exact(s f).1,λv m=>?_⟩;rw[o,if_neg d];show(e.key,e.val)::(es++[(⟨kv k,v,m⟩:Ent)]).map (λe:Ent=>(e.key,e.val))=(kv p.1,p.2)::(XR L k v).map λp=>(kv p.1,p.2)
   rw[(s f).2,h1,n]
  rw[el,if_neg d]at g;obtain⟨j,y,a1,a2,a3,a4⟩:=x u g;refine⟨j+1,y,by rw[l,a1,Nat.add_assoc,Nat.add_comm 1 j],a2,a3,λv=>?_⟩;rw[o,if_neg d];show(e.key,e.val)::(Yj es j (kv k) v).map (λe:Ent=>(e.key,e.val))=(kv p.1,p.2)::(XR L k v).map λp=>(kv p.1,p.2)
  rw[a4,h1,n]
theorem MapG.look{h:H}{r:Nat}{L:List (κ×V)}(m:MapG kv h r L)(f:∀a b,J5 c 30 kt (kv a) (kv b)=some (decide (a=b)))(g:∀a,Ye c kt (kv a)=true)(i:c.ty.get t=some ti)(hm:ti.desc = .map kt et)(l:c.ty.get et=some te)(n:te.zero=some z)(k:κ)(ok:Bool):
  ke c t h (.map r) (kv k) ok=some (match lkG L k with|some v=>qC ok v true|none=>qC ok z false):=by
 obtain⟨es,clock,o,hi⟩:=m;obtain⟨p,q⟩:=zGj f k es L 0 hi;unfold ke zJB;simp only[i,hm,o];unfold X7;rw[g,oS];cases d:lkG L k with
 | none=>rw[(p d).1];simp only[l,n]
 | some v=>obtain⟨j,e,h1,s,_⟩:=q v d;rw[h1];simp only[s]
theorem MapG.upd{h:H}{r:Nat}{L:List (κ×V)}(m:MapG kv h r L)(l:∀a b,J5 c 30 kt (kv a) (kv b)=some (decide (a=b)))(n:∀a,Ye c kt (kv a)=true)(hs:∀a,Zb (kv a) (kv a)=true)(o:c.ty.get t=some ti)(hm:ti.desc = .map kt et)(hr:r<T.top)(k:κ)(v:V):
  ∃es clock,Yg c t h (.map r) (kv k) v=some (h.upd r (some (.map es clock)))/\MapG kv (h.upd r (some (.map es clock))) r (XR L k v):=by
 obtain⟨es,clock,p,hi⟩:=m;obtain⟨g,q⟩:=zGj l k es L 0 hi;have f:Yg c t h (.map r) (kv k) v=(match xe c kt (kv k) es 0 with
     | some (some (i,e))=>cond (Zb e.key (kv k)) (some (h.upd r (some (.map (Yj es i (kv k) v) clock)))) none
     | some none=>some (h.upd r (some (.map (es++[⟨kv k,v,clock⟩]) (clock+1))))
     | none=>none):=by
  unfold Yg;simp only[o,hm,p];rw[n,oS];rfl
 cases d:lkG L k with
 | none=>rw[(g d).1]at f;exact⟨_,_,f,_,_,zF _ hr,(g d).2 v clock⟩
 | some u=>obtain⟨j,e,h1,x,s,w⟩:=q u d;rw[h1]at f;simp only[Nat.zero_add,s,hs,oS]at f;exact⟨_,_,f,_,_,zF _ hr,w v⟩
end
end Go.Sim
namespace Go.Sim
open Go Go.Sort Go.Shelf
theorem zM2{w w':World}(h1:w.heap.size<=w'.heap.size)(f:∀r,r<w.heap.size->w'.heap[r]? = w.heap[r]?)(a:w'.tape=w.tape)(g:w.drawn<=w'.drawn)(b:w'.os=w.os)(d:w'.output=w.output):
  ∃q os,w'=grow (w.drewN q) os:=by
 refine⟨w'.drawn-w.drawn,w'.heap.extract w.heap.size w'.heap.size,?_⟩;have e:w'.heap=w.heap++w'.heap.extract w.heap.size w'.heap.size:=by
  apply Array.ext_getElem?;intro i;by_cases c:i<w.heap.size
  .rw[f i c,Array.getElem?_append_left c]
  rw[Array.getElem?_append_right oy,Array.getElem?_extract];split
  .congr 1;omega
  exact Array.getElem?_eq_none oy
 cases w;cases w';simp only at h1 a g b d e;subst a b d;unfold grow World.drewN;simp only[World.mk.injEq,and_true,true_and];exact⟨e,oy⟩
theorem HR.grownP{ρ:Env}{D:Nat->Prop}{h:H}{w:World}(r:HR ρ D h w)(q:Nat)(os:Array Obj):HR ρ D h (grow (w.drewN q) os) where
 cap:=r.cap
 lt:=r.lt
 rel:=λid o d g=>by rw[heap_grow_old _ _ (show ρ.blk id<(w.drewN q).heap.size from r.lt_size d g)];exact r.rel id o d g
 inj:=r.inj
theorem Mv.grownP{ρ ρ':Env}{D:Nat->Prop}{h h':H}{w w':World}(m:Mv ρ D h w ρ' h' w')(q:Nat)(os:Array Obj):Mv ρ D h w ρ' h' (grow (w'.drewN q) os) where
 nx:=m.nx
 size:=by rw[size_grow];exact oW m.size (Nat.le_add_right _ _)
 os:=m.os
 tape:=⟨m.tape.1,oW m.tape.2 (Nat.le_add_right _ _)⟩
 output:=m.output
 agree:=m.agree
 old:=m.old
 img:=m.img
 frame:=λk hk hf=>by rw[heap_grow_old _ _ (show k<(w'.drewN q).heap.size from oO hk m.size)];exact m.frame k hk hf
 low:=m.low
 kept:=m.kept
def kq(zs:List (Int×Int)):Ug:=zs.flatMap λx=>[dd x.1,dd x.2]
def zGz(x:Int×Int):List Value:=[.int .i64 x.1,.int .i64 x.2]
def flE(zs:List (Int×Int)):List Value:=zs.flatMap zGz
theorem qX(zs:List (Int×Int)):(kq zs).length=zs.length*2:=by
 unfold kq;induction zs with
 | nil=>rfl
 | cons x zs ih=>rw[List.flatMap_cons,oe,ih,og];simp;omega
theorem zAW(ρ:Env)(zs:List (Int×Int)):(kq zs).map (V.conc ρ)=flE zs:=by
 unfold kq flE;induction zs with
 | nil=>rfl
 | cons x zs ih=>rw[List.flatMap_cons,List.map_append,ih,List.flatMap_cons];rfl
theorem zBp:∀(zs:List (Int×Int)) (t:Nat),t<zs.length*2->(flE zs)[t]! = (zGz zs.toArray[t/2]!)[t % 2]!
 | [],t,h=>by simp at h
 | x::zs,0,_=>rfl
 | x::zs,1,_=>rfl
 | x::zs,t+2,h=>by
  have ih:=zBp zs t (by rw[og]at h;omega);rw[show(t+2)/2=t/2+1 by omega,show(t+2) % 2=t % 2 by omega];have a:(flE (x::zs))[t+2]! = (flE zs)[t]!:=by unfold flE;rw[List.flatMap_cons];rfl
  have b:(x::zs).toArray[t/2+1]! = zs.toArray[t/2]!:=by simp[Array.getElem!_eq_getD,Array.getD]
  rw[a,b,ih]
theorem Zt(zs:List (Int×Int)):(flE zs).length=zs.length*2:=by rw[<-zAW ⟨λ_=>0,λ_=>0,λ_=>0⟩,ox,qX]
theorem zEn(zs:List (Int×Int)):flatK zGz 2 zs.toArray=(flE zs).toArray:=by
 refine ext_get! (by rw[size_flatK];simp[Zt]) λt a=>?_
 have a:t<zs.length*2:=by simpa using a
 rw[get_flatK _ _ _ _ (by simpa using a),<-zBp zs t a];simp[Zt,a]
def zLs(P:Program)(f g:Nat)(zs ys:List (Int×Int)):Prop:=∀(blk off cap:Nat) (w:World),Holds id w blk off (flE zs).toArray->blk<w.heap.size ->
 Calls P f #[.slice (some ⟨blk,off,none⟩) zs.length cap,.func (.func g) #[] #[]] w λe w'=>e = .returned (.tuple #[])/\∃n os,w'=grow (putRow id (Sort.ahead w n) blk off (flE ys).toArray) os
theorem SimF.of_sortP{P:Program}{f g b:Nat}{h:H}{l l':Cs}{esz:Rk}{op:Bool}{c:Cap}{zs ys:List (Int×Int)}(K:zLs P f g zs ys)(k:ys.length=zs.length)(z:h.get b=some (.cells l esz true op))(L:∀i,i<zs.length*2->l.get? i=(kq zs)[i]?)(F:l.put 0 (kq ys)=some l')(M:esz.fz=0):SimF P f [.slice b 0 zs.length c,.func (.func g) [] []] h (.ret (.tuple []) (h.upd b (some (.cells l' esz true op)))):=by
 intro ρ D w r B;have A:D b:=by simpa [V.InL,V.In]using B
 have p:∀v∈kq ys,∃n,v = dd n:=λv s=>by obtain⟨x,_,G⟩:=List.mem_flatMap.1 s;simp only[oq,List.not_mem_nil,or_false]at G;rcases G with rfl|rfl<;>exact⟨_,rfl⟩
 have t:za (kq ys)=true:=yY.2 λv s=>by obtain⟨n,rfl⟩:=p v s;rfl
 have m:∀v∈kq ys,v.In D:=λv s=>by obtain⟨n,rfl⟩:=p v s;trivial
 have C:(kq ys).length=zs.length*2:=by rw[qX,k]
 obtain⟨_,_,_,_,E⟩:=kK (P:=P) r A z m t F oy;rw[C]at E;rw[Nat.add_zero]at E;have I:Holds id w (ρ.blk b) (ρ.off b) (flE zs).toArray:=λj o=>by
  have o:j<zs.length*2:=by simpa [Zt]using o
  have u:j<(kq zs).length:=by rw[qX];exact o
  have e:l.get? j=some (kq zs)[j]:=by rw[L j o,oU u]
  have:=zFG r A z e;refine⟨?_,E j o⟩;rw[this.1];have y:=congrArg (λx=>x[j]?) (zAW ρ zs);simp only[oh,oU u,oo]at y;rw[y];simp[Zt,o]
 refine callsIn_wide.2 ((K (ρ.blk b) (ρ.off b) (c.val ρ b) w I (r.lt_size A z)).mono ?_);rintro x w' ⟨rfl,q,os,rfl⟩;rw[Lib.sorted_world id w (ρ.blk b) (ρ.off b) q _ _ os I (by simp[Zt,k])];have r2:HR ρ D h (w.drewN q):=⟨r.cap,r.lt,r.rel,r.inj⟩;obtain⟨_,J,a,_,_⟩:=kK (P:=P) r2 A z m t F oy;rw[Nat.add_zero,zAW]at J a;rw[List.map_id];have s4:Mv ρ D h w ρ (h.upd b (some (.cells l' esz true op))) ((w.drewN q).setCells (ρ.blk b) (ρ.off b) (flE ys)) :=
  ⟨a.nx,a.size,a.os,⟨a.tape.1,oW (Nat.le_add_right _ _) a.tape.2⟩,a.output,a.agree,a.old,a.img,a.frame,a.low,a.kept⟩
 refine⟨ρ,rfl,s4.grownP 0 os,?_,trivial⟩;have:Dx D h (h.upd b (some (.cells l' esz true op)))=D:=by
  funext id;simp only[Dx,eq_iff_iff];constructor
  .rintro(d|⟨d1,d2⟩)
   .exact d
   have:(h.upd b (some (.cells l' esz true op))).nx=h.nx:=rfl;omega
  exact .inl
 rw[this];exact J.grownP 0 os
theorem zGv{P:Program}{g:Nat}{b:Int×Int->Int×Int->Int}(d:∀x y:Int×Int,∃h',SimF P g [.agg [.int .i64 x.1,.int .i64 x.2],.agg [.int .i64 y.1,.int .i64 y.2]] H0 (.ret (.int .i64 (b x y)) h'))(blk off size:Nat)(w:World):
  Go.Proofs.CmpLays P g #[] zGz 2 b blk off size w:=by
 intro m os f _ x y;generalize Proofs.sortWorldK zGz 2 w blk off m f os=W;obtain⟨h',s⟩:=d x y;have k:=s ⟨λ_=>0,λ_=>0,λ_=>0⟩ (λ_=>False) W (Kz _ _) (λv c=>by
  simp only[oq,List.not_mem_nil,or_false]at c;rcases c with rfl|rfl<;>simp[V.In,V.InL])
 refine(callsIn_wide.1 k).mono ?_;rintro e w' ⟨ρ',rfl,a,_,_⟩;exact⟨rfl,zM2 a.size (λr hr=>a.frame r hr λ_ _ h=>h.elim) a.tape.1 a.tape.2 a.os a.output⟩
def xC(a:Int×Int->Int×Int->Int)(zs:List (Int×Int)):List (Int×Int):=(pdq (Proofs.ltOf a) zs.toArray 0 zs.length (Lib.bitLen zs.length) true true).toList
theorem wK{a:Int×Int->Int×Int->Int}(l:SWO (Proofs.ltOf a))(zs:List (Int×Int)):(xC a zs).Perm zs/\(xC a zs).Pairwise λx y=>Proofs.ltOf a y x=false:=by
 have h:=pdq_sorts (Proofs.ltOf a) l zs.toArray 0 zs.toArray.size (Lib.bitLen zs.toArray.size) true true (oQ _) (oV _) (Or.inl rfl);unfold xC;rw[show zs.length=zs.toArray.size by simp];generalize pdq (Proofs.ltOf a) zs.toArray 0 zs.toArray.size (Lib.bitLen zs.toArray.size) true true=d at h;obtain⟨⟨hs,_,g⟩,b⟩:=h;have m:d.extract 0 zs.toArray.size=d:=by rw[<-hs];simp
 have n:zs.toArray.extract 0 zs.toArray.size=zs.toArray:=by simp
 rw[m,n]at g;refine⟨by simpa using g,?_⟩;rw[List.pairwise_iff_getElem];intro i j hi k c;have:=b i j (oQ _) c (by rw[<-hs];simpa using k);have e:i<d.size:=by simpa using hi
 have f:j<d.size:=by simpa using k
 rw[getElem!_pos d j f,getElem!_pos d i e]at this;simpa using this
theorem zPb{P:Program}{ρ:Ren}(L:Proofs.SlLaysF0.n6 P ρ){g:Nat}{a:Int×Int->Int×Int->Int}(c:∀w,(isAgg (ρ.t 24)).run P w = .ok true w)(zE:∀w,(Go.sizeOf (ρ.t 24)).run P w = .ok 2 w)(d:∀args w,(callFunc g args).run P w = .ok (.enter g args) w)(f:SWO (Proofs.ltOf a))(i:∀x y:Int×Int,∃h',SimF P g [.agg [.int .i64 x.1,.int .i64 x.2],.agg [.int .i64 y.1,.int .i64 y.2]] H0 (.ret (.int .i64 (a x y)) h'))(zs:List (Int×Int))(j:zs.length<4611686018427387904):zLs P (ρ.f 6) g zs (xC a zs):=by
 intro blk off cap w k hb;have h:=Proofs.AnyQ.slices_SortFunc_eq L 2 c zE zGz (λ_=>rfl) (λx v b=>by
  simp only[zGz,oq,List.not_mem_nil,or_false]at b;rcases b with rfl|rfl<;>rfl) a f g #[] blk off cap zs.toArray w d (zGv i blk off zs.toArray.size w) (by unfold HoldsK;rw[zEn];exact k) hb (by simpa using j)
 refine(show Calls P (ρ.f 6) #[.slice (some ⟨blk,off,none⟩) zs.length cap,.func (.func g) #[] #[]] w _ from by simpa using h).mono ?_;rintro e w' ⟨rfl,n,os,rfl⟩;refine⟨rfl,n,os,?_⟩;unfold Proofs.sortWorldK putRowK xC;rw[<-zEn]
open Go
def rwd{α:Type}:Result α->World
 | .ok _ w=>w
 | .halt _ w=>w
theorem zVh{α:Type}(a:Ask α):∀w:World,w.drawn<=(w.ask a).2.drawn:=by
 induction a with
 | done a=>exact λw=>oV _
 | ask b range k ih =>
  intro w;simp only[World.ask];split
  .exact ih _ _
  exact oW (Nat.le_succ w.drawn) (ih _ { w with drawn:=w.drawn+1 })
theorem zWl(w:World)(c:Sys):w.drawn<=(w.sys c).2.drawn:=by
 unfold World.sys;have h:=zVh (Kernel.perform c w.os) w;revert h;generalize w.ask _=x;intro h;split
 .exact oV _
 exact h
theorem zRf{p:Program}{w w':World}{a k:Addr}{u:TypeId}{v:Value}{b:Bool}{t:List Addr}(h:w.viewStore p a u k v b = .ok (w',t)):w'.drawn=w.drawn:=by
 unfold World.viewStore at h;simp only[bind,Except.bind,pure,Except.pure]at h;repeat' first
  | (cases h;rfl)
  | (cases h;done)
  | split at h
theorem zWD{p:Program}{w w':World}{a:Addr}{v:Value}{b:Bool}{t:List Addr}(h:w.farStore p a v b = .ok (w',t)):w'.drawn=w.drawn:=by
 unfold World.farStore at h;split at h
 .split at h
  .cases h;exact zRf (by assumption)
  cases h
 cases h
theorem zKT(w:World)(a:Addr)(n:Nat):(w.freeze a n).drawn=w.drawn:=by unfold World.freeze;split<;>rfl
theorem zP4{α:Type}(p:Program)(s:Sem α):∀w:World,w.drawn<=(rwd (s.run p w)).drawn:=by
 induction s with
 | pure a=>exact λw=>oV _
 | load m a k ih =>
  intro w;simp only[Sem.run];split
  .exact ih _ _
  split
  .exact ih _ _
  exact oV _
 | store m a v k ih =>
  intro w;have key:w.drawn<=(rwd (match w.cell? a with
   | some _=>if w.frozen? a then .halt (.unsupported (.unsafePointer "a write to bytes that a string shares")) w else k.run p (w.setCell a v)
   | none=>match w.farStore p a v (m == .atomic)with
    | .ok (w,_)=>k.run p w
    | .error h=>.halt h w)).drawn:=by
   split
   .split
    .exact oV _
    exact ih (w.setCell a v)
   split
   .next h=>rw[<-zWD h];exact ih _
   exact oV _
  cases v<;>first|exact key|exact oV _
 | new o k ih=>exact λw=>ih _ { w with heap:=w.heap.push o }
 | shape r k ih=>exact λw=>ih _ _
 | freeze a n k ih=>exact λw=>by have:=ih (w.freeze a n);rwa [zKT]at this
 | frozen a k ih=>exact λw=>ih _ _
 | getObj r k ih =>
  intro w;simp only[Sem.run];split
  .exact oV _
  .exact ih _ _
  exact oV _
 | setObj r o k ih =>
  intro w;simp only[Sem.run];split
  .exact oV _
  .exact ih { w with heap:=w.heap.setIfInBounds r o }
  exact oV _
 | choose q k ih =>
  intro w;simp only[Sem.run];split
  .exact ih _ _
  exact oW (Nat.le_succ w.drawn) (ih _ { w with drawn:=w.drawn+1 })
 | sys c k ih=>exact λw=>oW (zWl w c) (ih _ _)
 | program k ih=>exact λw=>ih _ _
 | mark m k ih=>exact λw=>ih _
 | halt h=>exact λw=>oV _
theorem yw{α:Type}{p:Program}{s:Sem α}{w w':World}{a:α}(h:s.run p w = .ok a w'):w.drawn<=w'.drawn:=by
 have:=zP4 p s w
 rwa [h]at this
theorem jt{α:Type}{p:Program}{s:Sem α}{w w':World}{x:Halt}(h:s.run p w = .halt x w'):w.drawn<=w'.drawn:=by
 have:=zP4 p s w
 rwa [h]at this
theorem zD7{α:Type}{p:Program}{s:Sem α}{w w':World}{a:α}{x y:Array Event}(h:(s.run p w,x)=(.ok a w',y)):w.drawn<=w'.drawn:=yw (congrArg Prod.fst h)
theorem zAT{α:Type}{p:Program}{s:Sem α}{w w':World}{a:Halt}{x y:Array Event}(h:(s.run p w,x)=(.halt a w',y)):w.drawn<=w'.drawn:=jt (congrArg Prod.fst h)
def GDr(n:Nat):GStep->Prop
 | .go _ w _ | .comm _ _ _ _ w _ | .spawn _ _ w _ | .count _ w _ | .timer _ _ w _ | .alone _ _ w _ | .newcoro _ _ _ w _ | .coroswitch _ _ _ w _ | .collect _ w _ | .watch _ w _=>n<=w.drawn
 | .ended ..=>True
theorem GDr.after{n:Nat}{s:GStep}(h:GDr n s)(es:Array Event):GDr n (s.after es):=by cases s<;>exact h
theorem zMP(p:Program)(a:Frame)(cs:List Frame)(d:Option Dying)(g:Nat)(w:World):GDr w.drawn (early p a cs d g w):=by
 unfold early;simp only[];repeat' first
  | exact trivial
  | exact oV w.drawn
  | (simp only[GDr];exact yw (by assumption))
  | (simp only[GDr];exact zD7 (by assumption))
  | split
theorem zVq(p:Program)(a:Frame)(d:Dying)(w:World):GDr w.drawn (die p a d w):=by
 unfold die writeOn endWith endPrinting endThrow dieOf;simp only[Sem.runT_eq];repeat' first
  | exact trivial
  | exact oV w.drawn
  | (simp only[GDr];exact yw (by assumption))
  | (simp only[GDr];exact zD7 (by assumption))
  | (simp only[GDr];exact jt (by assumption))
  | (simp only[GDr];exact zAT (by assumption))
  | refine GDr.after ?_ _
  | split
theorem zEl(p:Program)(a:Frame)(cs:List Frame)(d:Option Dying)(m:String)(w:World):GDr w.drawn (endFatal p a cs d m w):=by
 unfold endFatal dieOf;simp only[];split
 .simp only[GDr];exact yw (by assumption)
 .exact trivial
 exact trivial
theorem zHp(p:Program)(a:Bool)(b:Frame)(cs:List Frame)(d:Option Dying)(v:Value)(w:World):GDr w.drawn (doReturn p a b cs d v w):=by
 unfold doReturn;repeat' first
  | exact trivial
  | exact oV w.drawn
  | split
theorem GDr.mono{a b:Nat}{s:GStep}(h:a<=b)(k:GDr b s):GDr a s:=by cases s<;>first|exact trivial|exact oW h k
theorem zEa(p:Program)(a:Frame)(cs:List Frame)(b:Option Dying)(d:Deferred)(w:World):GDr w.drawn (callDeferred p a cs b d w):=by
 unfold callDeferred endThrow dieOf;simp only[Sem.runT_eq];repeat' first
  | exact trivial
  | (simp only[GDr];exact yw (by assumption))
  | (simp only[GDr];exact jt (by assumption))
  | exact GDr.mono (jt (by assumption)) (zEl ..)
  | refine GDr.after ?_ _
  | split
theorem OV(p:Program)(b:Bool)(a:Frame)(cs:List Frame)(c:Option Dying)(s:Sem Next)(w:World):GDr w.drawn (stepG.apply p b a cs c s w):=by
 unfold stepG.apply endThrow dieOf;cases b<;>simp only[Sem.runT_eq,if_true,Bool.false_eq_true,if_false];all_goals repeat' first
  | exact trivial
  | (simp only[GDr];exact yw (by assumption))
  | (simp only[GDr];exact jt (by assumption))
  | exact GDr.mono (jt (by assumption)) (zEl ..)
  | exact GDr.mono (jt (by assumption)) (zMP ..)
  | refine GDr.after ?_ _
  | split
theorem zRA(p:Program)(b:Bool)(a:Frame)(cs:List Frame)(c:Option Dying)(w:World):GDr w.drawn (stepG.oper p b a cs c w):=by
 unfold stepG.oper;split
 .exact trivial
 split<;>exact OV ..
theorem zQa{α:Type}{n:Nat}{o:Option α}{a:GStep}{f:α->GStep}(h:GDr n a)(k:∀x,GDr n (f x)):GDr n (o.elim a f):=by
 cases o
 .exact h
 exact k _
theorem zQb(p:Program)(a b:Bool)(c:Frame)(cs:List Frame)(d:Option Dying)(w:World):GDr w.drawn (stepG.exec p a b c cs d w):=by
 unfold stepG.exec;simp only[Sem.runT_eq];repeat' first
  | exact trivial
  | exact oV w.drawn
  | exact OV ..
  | exact zRA ..
  | (simp only[GDr];exact yw (by assumption))
  | (simp only[GDr];exact zD7 (by assumption))
  | (simp only[GDr];exact jt (by assumption))
  | (simp only[GDr];exact zAT (by assumption))
  | exact GDr.mono (yw (by assumption)) (zHp ..)
  | exact GDr.mono (yw (by assumption)) (OV ..)
  | refine GDr.after ?_ _
  | refine zQa ?_ λ_=>?_
  | split
theorem zLP(p:Program)(a:Bool)(b:Frame)(cs:List Frame)(c:Option Dying)(w:World):GDr w.drawn (unwind p a b cs c w):=by
 unfold unwind endPrinting endThrow dieOf;simp only[Sem.runT_eq];repeat' first
  | exact trivial
  | exact oV w.drawn
  | exact zEa ..
  | exact zHp ..
  | (simp only[GDr];exact yw (by assumption))
  | (simp only[GDr];exact zD7 (by assumption))
  | (simp only[GDr];exact jt (by assumption))
  | (simp only[GDr];exact zAT (by assumption))
  | exact GDr.mono (yw (by assumption)) (zHp ..)
  | refine GDr.after ?_ _
  | split
theorem zPc(p:Program)(a:Bool)(g:Goroutine)(w:World)(b:Bool):GDr w.drawn (stepG p a g w b):=by
 obtain⟨c,cs,st,d,o⟩:=g;simp only[stepG];split
 .exact zVq ..
 .exact zQb ..
 exact zLP ..
theorem zTq{a:Rest}{cases:Array CommCase}{w w':World}(h:waitingAt a cases w=some w'):w.drawn<=w'.drawn:=by
 unfold waitingAt at h;repeat' first
  | (cases h;done)
  | (cases h;exact oV w.drawn)
  | split at h
theorem zQ5(p:Program)(b:Rest)(d:Array Goroutine)(i:Nat)(g:Goroutine)(cases:Array CommCase)(a:Bool)(shape:CommShape)(w:World)(c:Machine)(h:(communicate p b d i g cases a shape w).1 = .next c):w.drawn<=c.world.drawn:=by
 unfold communicate at h;simp only[]at h;repeat' first
  | (simp at h;done)
  | (simp only[Stepped.next.injEq]at h;subst h;exact oV w.drawn)
  | (simp only[Stepped.next.injEq]at h;subst h;exact zTq (by assumption))
  | (simp only[Stepped.next.injEq]at h;subst h;simp only[];exact yw (by assumption))
  | (simp only[Stepped.next.injEq]at h;subst h;simp only[];exact oW (yw (by assumption)) (yw (by assumption)))
  | (simp only[Stepped.next.injEq]at h;subst h;simp only[];exact oW (yw (by assumption)) (jt (by assumption)))
  | split at h
theorem zIz(p:Program)(c:Array Goroutine)(a:Rest)(w:World)(b:Machine)(h:look p c a w = .next b):w.drawn<=b.world.drawn:=by
 unfold look at h;simp only[]at h;repeat' first
  | (simp at h;done)
  | (simp only[Stepped.next.injEq]at h;subst h;simp only[];exact yw (by assumption))
  | split at h
theorem zMN(w:World)(c:Nat):(drain w c).2.drawn=w.drawn:=by unfold drain;split<;>rfl
theorem zC1(m:Machine)(k:Nat)(t:Timer)(b a:Nat):(retime m k t b a).2.world.drawn=m.world.drawn:=by
 unfold retime;rcases t.chan with _|c
 .rfl
 exact zMN m.world c
theorem zQz{m a:Machine}{var:Addr}(h:timerOp.opened m var=some a):a.world.drawn=m.world.drawn:=by
 unfold timerOp.opened at h;repeat' first
  | (cases h;done)
  | (cases h;rfl)
  | split at h
theorem zPh(m:Machine)(op:TimerOp)(v:Value)(a:Machine)(h:timerOp m op = .ok (v,a)):m.world.drawn<=a.world.drawn:=by
 unfold timerOp timerOp.named at h;simp only[]at h;repeat' first
  | (cases h;done)
  | (cases h;exact oV m.world.drawn)
  | (simp only[Except.ok.injEq]at h;have e:=congrArg (λx=>x.2.world.drawn) h;simp only[zC1]at e;omega)
  | (simp only[Except.ok.injEq]at h;have e:=congrArg (λx=>x.2.world.drawn) h;simp only[zC1]at e;rename_i h1 _ _ _;have:=zQz h1;omega)
  | split at h
theorem zPg{f:Frame}{m:String}{w w':World}{g:Goroutine}{es:Array Event}(h:endThrow f m w = .go g w' es):w.drawn<=w'.drawn:=by unfold endThrow dieOf at h;cases h;exact oV _
theorem zRZ(p:Program)(m a:Machine)(i:Nat)(b:Bool)(h:(runT p m i b).1 = .next a):m.world.drawn<=a.world.drawn:=by
 simp only[runT]at h;have hs:=zPc p (i == 0) (m.gs.swapAt! i { (default:Goroutine)with status:=.finished }).1 m.world b;revert hs h;generalize m.gs.swapAt! _ _=gg;generalize stepG p _ gg.1 m.world b=s;intro h hs;cases s<;>simp only[]at h;all_goals repeat' first
  | (simp at h;done)
  | exact oW hs (zQ5 _ _ _ _ _ _ _ _ _ _ h)
  | exact oW hs (zIz _ _ _ _ _ h)
  | (simp only[Stepped.next.injEq]at h;subst h;exact hs)
  | (simp only[Stepped.next.injEq]at h;subst h;exact oW hs (zPh _ _ _ _ (by assumption)))
  | (simp only[Stepped.next.injEq]at h;subst h;exact oW hs (zPg (by assumption)))
  | split at h
theorem zP6(p:Program)(m a:Machine)(k:Nat)(h:serve p m k = .next a):m.world.drawn<=a.world.drawn:=by
 unfold serve at h;simp only[]at h;repeat' first
  | (simp at h;done)
  | (simp only[Stepped.next.injEq]at h;subst h;exact oV _)
  | split at h
def MDr(n:Nat):Move->Prop
 | .goroutine m _ | .machine (.next m) _=>n<=m.world.drawn
 | .machine (.ended ..) _=>True
theorem MDr.mono{a b:Nat}{s:Move}(h:a<=b)(k:MDr b s):MDr a s:=by
 rcases s with⟨m,i⟩|⟨m|⟨o,w⟩,ops⟩
 .exact oW h k
 .exact oW h k
 exact trivial
theorem zLF{n:Nat}{p:Program}{m:Machine}{k:Nat}{ops:Array MemOp}(h:n<=m.world.drawn):MDr n (.machine (serve p m k) ops):=by
 cases hs:serve p m k with
 | next a=>exact oW h (zP6 _ _ _ _ hs)
 | ended o w=>exact trivial
theorem zLv{α:Type}{p:Program}{s:Sem α}{w w':World}{a:α}{b:Array Goroutine}{r:Rest}{t:Nat}(h:s.run p (Machine.advanceTo ⟨w,b,r⟩ t).world = .ok a w'):w.drawn<=w'.drawn:=yw (w:=(Machine.advanceTo ⟨w,b,r⟩ t).world) h
theorem X8(p:Program)(m:Machine):MDr m.world.drawn (askOn p m):=by
 unfold askOn;simp only[];repeat' first
  | exact trivial
  | exact oV m.world.drawn
  | (simp only[MDr,Machine.advanceTo];exact yw (by assumption))
  | exact zLF (yw (by assumption))
  | (simp only[MDr,Machine.advanceTo];exact oW (yw (by assumption)) (yw (by assumption)))
  | (simp only[MDr,Machine.advanceTo];exact oW (yw (by assumption)) (oW (yw (by assumption)) (yw (by assumption))))
  | (simp only[MDr,Machine.advanceTo];exact oW (yw (by assumption)) (oW (yw (by assumption)) (oW (yw (by assumption)) (yw (by assumption)))))
  | (simp only[MDr,Machine.advanceTo];exact oW (yw (by assumption)) (oW (yw (by assumption)) (zLv (by assumption))))
  | (simp only[MDr,Machine.advanceTo];exact oW (yw (by assumption)) (oW (yw (by assumption)) (oW (zLv (by assumption)) (yw (by assumption)))))
  | split
theorem zI8(p:Program)(m:Machine):MDr m.world.drawn (ask p m):=by
 unfold ask;split
 .cases a:(choose (.extern "collector.look" 2)).run p m.world with
  | halt h w=>exact trivial
  | ok k w =>
   have h:=yw a;rcases k with _|_|k
   .exact MDr.mono h (X8 p { m with world:=w })
   .show MDr _ (match look p m.gs m.rest w with | .next m=>askOn p m|e=>Move.machine e);cases hl:look p m.gs m.rest w with
    | next b=>exact MDr.mono (oW h (zIz _ _ _ _ _ hl)) (X8 p b)
    | ended o w=>exact trivial
   exact MDr.mono h (X8 p { m with world:=w })
 exact X8 p m
theorem zQs(p:Program)(m:Machine):MDr m.world.drawn (move p m):=by
 unfold move;repeat' first
  | exact trivial
  | exact oV m.world.drawn
  | exact zI8 p m
  | exact zI8 p { m with rest:={ m.rest with slice:=none } }
  | split
theorem zR3{p:Program}{m a:Machine}(h:step p m = .next a):m.world.drawn<=a.world.drawn:=by
 have hm:=zQs p m;simp only[step,stepT]at h;revert hm h;generalize move p m=x;intro h hm;rcases x with⟨b,i⟩|⟨s,ops⟩
 .exact oW hm (zRZ _ _ _ _ _ h)
 simp only[]at h;subst h;exact hm
theorem zGM{p:Program}{m b:Machine}(h:Steps p m b):m.world.drawn<=b.world.drawn:=by
 obtain⟨n,a⟩:=h;induction n generalizing m with
 | zero=>simp only[runN,Stepped.next.injEq]at a;rw[a];exact oV _
 | succ n ih =>
  simp only[runN]at a;cases hs:step p m with
  | next c=>rw[hs]at a;exact oW (zR3 hs) (ih a)
  | ended o w=>rw[hs]at a;simp at a
theorem zMG{P:Program}{f:FuncId}{args:Array Value}{w:World}{R:Ending->World->Prop}(h:Calls P f args w R)(hr:∀e w',R e w'->e≠.outgrown):
  Calls P f args w λe w'=>R e w'/\w.drawn<=w'.drawn:=by
 intro cs;obtain⟨e,w',a,r,s,x⟩:=h cs;refine⟨e,w',a,⟨r,?_⟩,s,x⟩;cases e with
 | returned v=>exact zGM s
 | panicked c=>exact zGM s
 | outgrown=>exact absurd rfl (hr _ _ r)
theorem SimF.of_below{P:Program}{f:Nat}{args:Ug}{h:H}{v:V}{ar:Array Value}{u:Value}(c:∀ρ,(args.map (V.conc ρ)).toArray=ar)(a:∀ρ D,v.conc ρ=u/\v.In D)(i:∀w,Calls P f ar w λe w'=>e = .returned u/\RowKit.Below w.heap.size w w'):SimF P f args h (.ret v h):=by
 intro ρ D w r _;rw[c];refine callsIn_wide.2 ((zMG (i w) λe w' k q=>?_).mono ?_)
 .rw[k.1]at q;cases q
 rintro e w' ⟨⟨rfl,b⟩,j⟩;refine⟨ρ,by rw[(a ρ D).1],⟨oV _,b.size,b.os,⟨b.tape,j⟩,b.output,Agree.refl _ _,λid o' _ g=>⟨o',g,rfl⟩,λid o' m n _=>oy,λk l _=>b.block k l,oV _,λ_ _ _=>rfl⟩,?_,(a ρ _).2⟩;rw[zr];exact⟨r.cap,r.lt,λid o d g=>by rw[b.block _ (r.lt_size d g)];exact r.rel id o d g,r.inj⟩
def eqU(x y:V):Bool:=match x,y with
 | .int .i64 a,.int .i64 b=>Oj a b
 | .int .u64 a,.int .u64 b=>Oj a b
 | .str a,.str b=>eqB a b
 | .bool a,.bool b=>a == b
 | .slice b o n (.exact k),.slice c o' d (.exact e)=>Nat.beq b c && (Nat.beq o o' && (Nat.beq n d && Nat.beq k e))
 | .slice b o n (.skip k),.slice c o' d (.skip e)=>Nat.beq b c && (Nat.beq o o' && (Nat.beq n d && Nat.beq k e))
 | _,_=>false
theorem Jh{x y:V}(h:eqU x y=true):x=y:=by
 unfold eqU at h;split at h
 .rw[j4]at h;rw[beq_iff_eq.1 h]
 .rw[j4]at h;rw[beq_iff_eq.1 h]
 .rw[Zq]at h;rw[beq_iff_eq.1 h]
 .rw[beq_iff_eq.1 h]
 .simp only[oM]at h;rw[oL h.1,oL h.2.1,oL h.2.2.1,oL h.2.2.2]
 .simp only[oM]at h;rw[oL h.1,oL h.2.1,oL h.2.2.1,oL h.2.2.2]
 cases h
def zHB(e:V->V->Bool):Ug->Ug->Bool
 | [],[]=>true
 | x::l,y::m=>e x y && zHB e l m
 | _,_=>false
theorem ZS{e:V->V->Bool}(a:∀{x y},e x y=true->x=y):∀{l m:Ug},zHB e l m=true->l=m
 | [],[],_=>rfl
 | x::l,y::m,h=>by simp only[zHB,oM]at h;rw[a h.1,ZS a h.2]
 | [],_::_,h=>by cases h
 | _::_,[],h=>by cases h
def eqN:Nat->V->V->Bool
 | 0,x,y=>eqU x y
 | n+1,x,y=>match x,y with
  | .agg l,.agg m=>zHB (eqN n) l m
  | .tuple l,.tuple m=>zHB (eqN n) l m
  | x,y=>eqU x y
theorem Jg:∀{n:Nat}{x y:V},eqN n x y=true->x=y
 | 0,_,_,h=>Jh h
 | n+1,x,y,h=>by
  unfold eqN at h;split at h
  .rw[ZS Jg h]
  .rw[ZS Jg h]
  exact Jh h
abbrev eqW:V->V->Bool:=eqN 2
theorem zBr{x y:V}(h:eqW x y=true):x=y:=Jg h
structure Rw where
 id:Nat
 l:Ug
 k:Option Rk
abbrev Rws:=List Rw
def zE6(l:Ug):Cs:=match Cs.ofL l with|some c=>c|none=>.ls l
theorem zDG(l:Ug):(zE6 l).len=l.length/\∀i,(zE6 l).get? i=l[i]?:=by
 unfold zE6;split
 .rename_i e;exact Cs.ofL_eq e
 exact⟨zFE l,Cs.getL_eq l⟩
def Rw.o(x:Rw):O:=match x.k with|none=>.cells (zE6 x.l) ⟨0,0,0⟩ false false|some k=>.cells (zE6 x.l) k true true
def zW8:Rws->T O->T O
 | [],t=>t
 | x::l,t=>(zW8 l t).set x.id (some x.o)
def hL(rs:Rws)(n:Nat):H:=⟨zW8 rs .leaf,n,T.top⟩
def K2(rs:Rws)(id:Nat):Bool:=rs.any λx=>Nat.beq x.id id
def okU(rs:Rws):V->Bool
 | .int ..=>true
 | .str _=>true
 | .slice b _ _ _=>K2 rs b
 | _=>false
def okW(rs:Rws):V->Bool
 | .agg l=>l.all (okU rs)
 | v=>okU rs v
def zFz(cs:Cs):Ug->Nat->Bool
 | [],_=>true
 | u::l,i=>(match cs.get? i with|some x=>eqU x u|none=>false) && zFz cs l (i+1)
def eqK(a b:Rk):Bool:=Nat.beq a.n b.n && (Nat.beq a.ty b.ty && Nat.beq a.fz b.fz)
def Rw.isO(x:Rw):Option O->Bool
 | some (.cells cs k w op)=>zFz cs x.l 0 && (match x.k with|none=>true|some a=>w && (op && (eqK k a && Nat.beq cs.len (wM x.l 0))))
 | _=>false
def Z3(h:H):Rws->Bool
 | []=>true
 | x::l=>x.isO (h.get x.id) && Z3 h l
def zP3(rs:Rws)(n:Nat):Bool:=rs.all λx=>Nat.blt x.id n && x.l.all (okU rs)
theorem zC3{cs:Cs}:∀{l:Ug}{i j:Nat}{u:V},zFz cs l i=true->l[j]? = some u->cs.get? (i+j)=some u
 | v::l,i,0,u,h,e=>by
  simp only[zFz,oM]at h;cases e;rw[Nat.add_zero];cases g:cs.get? i with
  | none=>rw[g]at h;cases h.1
  | some x=>rw[g]at h;rw[Jh h.1]
 | v::l,i,j+1,u,h,e=>by
  simp only[zFz,oM]at h;have:=zC3 h.2 (show l[j]? = some u from e)
  rwa [show i+1+j=i+(j+1)by omega]at this
theorem zKO{a b:Rk}(h:eqK a b=true):a=b:=by obtain⟨a1,a2,a3⟩:=a;obtain⟨c,d,e⟩:=b;simp only[eqK,oM]at h;rw[oL h.1,oL h.2.1,oL h.2.2]
theorem Rw.isO_get{x:Rw}{o:Option O}(h:x.isO o=true):∃cs k w op,o=some (.cells cs k w op)/\(∀i u,x.l[i]? = some u->cs.get? i=some u)/\∀k',x.k=some k'->k=k'/\w=true/\op=true/\cs.len=x.l.length:=by
 obtain⟨id,l,kk⟩:=x;rcases o with _|o
 .cases h
 cases o<;>try cases h
 rename_i cs k w op;simp only[Rw.isO,oM]at h;refine⟨cs,k,w,op,rfl,λi u b=>by have:=zC3 h.1 b;rwa [Nat.zero_add]at this,λk' e=>?_⟩;dsimp only at e;subst e;have a:=h.2;simp only[oM]at a;rw[yB]at a;exact⟨zKO a.2.2.1,a.1,a.2.1,oL a.2.2.2⟩
theorem Kb{h:H}:∀{l:Rws}{x:Rw},Z3 h l=true->x∈l->x.isO (h.get x.id)=true
 | y::l,x,e,a=>by
  simp only[Z3,oM]at e;rcases oq.1 a with rfl|a
  .exact e.1
  exact Kb e.2 a
theorem zM3{n id:Nat}{o:O}(a:n<=T.top):∀{rs:Rws},(∀x∈rs,x.id<n)->(hL rs n).get id=some o->∃x∈rs,x.id=id/\o=x.o
 | [],_,h=>by have:(T.leaf:T O).get id=some o:=h;rw[T.get_leaf]at this;cases this
 | x::rs,b,h=>by
  have h:((zW8 rs .leaf).set x.id (some x.o)).get id=some o:=h;rw[T.get_set _ _ _ _ (oO (b x (List.mem_cons_self ..)) a)]at h;split at h
  .rename_i c;cases h;exact⟨x,List.mem_cons_self ..,c.symm,rfl⟩
  obtain⟨y,h1,d⟩:=zM3 a (λy e=>b y (oN _ e)) h;exact⟨y,oN _ h1,d⟩
theorem zD1{rs:Rws}{D:Nat->Prop}{u:V}(h:okU rs u=true)(a:u.In D):u.In λid=>D id/\K2 rs id=true:=by
 unfold okU at h;split at h
 .simp[V.In]
 .simp[V.In]
 .simp only[V.In]at a ⊢;exact⟨a,h⟩
 cases h
theorem zWZ{rs:Rws}{D:Nat->Prop}{u:V}(h:okW rs u=true)(a:u.In D):u.In λid=>D id/\K2 rs id=true:=by
 unfold okW at h;split at h
 .simp only[V.In]at a ⊢;exact V.InL_iff.2 λv b=>zD1 (List.all_eq_true.1 h v b) (V.InL_iff.1 a v b)
 exact zD1 h a
theorem SimF.lits{P:Program}{f n:Nat}{a:Ug}{rs:Rws}{h h1:H}{r:V}(hn:n<=T.top)(ok:zP3 rs n=true)(oka:a.all (okW rs)=true)(hr:Plain r)(are:Z3 h rs=true)(J:∀x∈rs,∀k,x.k=some k->x.isO (h1.get x.id)=true)(s:SimF P f a (hL rs n) (.ret r h1)):
  SimF P f a h (.ret r h):=by
 intro ρ D K B hin;have C:∀x∈rs,x.id<n/\∀u∈x.l,okU rs u=true:=λx b=>by have:=List.all_eq_true.1 ok x b;simp only[oM]at this;exact⟨(zY _ _).1 this.1,List.all_eq_true.1 this.2⟩
 have L:∀x∈rs,x.id<n:=λx b=>(C x b).1
 have row:∀{id o},(hL rs n).get id=some o->∃x∈rs,x.id=id/\o=x.o/\∃cs k w op,h.get id=some (.cells cs k w op)/\(∀i u,x.l[i]? = some u->cs.get? i=some u)/\∀k',x.k=some k'->k=k'/\w=true/\op=true/\cs.len=x.l.length:=λg=>by obtain⟨x,b,rfl,rfl⟩:=zM3 hn L g;exact⟨x,b,rfl,rfl,(Rw.isO_get (Kb are b))⟩
 have E:∀{id o},(hL rs n).get id=some o->o.wr=true->∃G,h.get id=some G/\G.wr=true:=λg M=>by
  obtain⟨⟨_,l,kk⟩,b,rfl,rfl,cs,k,w,op,t,_,N⟩:=row g;rcases kk with _|kk
  .cases M
  exact⟨_,t,(N kk rfl).2.1⟩
 have hR0:HR ρ (λid=>D id/\K2 rs id=true) (hL rs n) K:=by
  refine⟨hn,λid I=>?_,λid o I g=>?_,λi j oi oj hi z hgi hgj M e=>?_⟩
  .obtain⟨x,b,e⟩:=List.any_eq_true.1 I.2;rw[<-oL e];exact L x b
  .obtain⟨⟨_,l,kk⟩,b,rfl,rfl,cs,k,w,op,F,Y,O⟩:=row g;obtain⟨c,e,fz,hb,p,d,Q⟩:=B.rel _ _ I.1 F;have c1:∀i v,(zE6 l).get? i=some v->c[ρ.off _+i]? = some (v.conc ρ):=λi v y=>p i v (Y i v (((zDG l).2 i).symm.trans y))
   have c2:∀i v,(zE6 l).get? i=some v->v.In λid=>D id/\K2 rs id=true:=λi v y=>by have R:l[i]? = some v:=((zDG l).2 i).symm.trans y;exact zD1 ((C _ b).2 v (List.mem_of_getElem? R)) (d i v (Y i v R))
   rcases kk with _|kk
   .exact⟨c,e,fz,hb,c1,c2,λh=>by cases h⟩
   obtain⟨rfl,rfl,rfl,hl⟩:=O kk rfl;refine⟨c,e,fz,hb,c1,c2,λ_=>?_⟩;have Z:=Q rfl;rw[show(zE6 l).len=cs.len from(zDG l).1.trans hl.symm];exact Z
  obtain⟨G,h2,t⟩:=E hgi M;obtain⟨_,_,_,_,cs,k,w,op,N,_⟩:=row hgj;exact B.inj i j _ _ hi.1 z.1 h2 N t e
 have S:∀v∈a,v.In λid=>D id/\K2 rs id=true:=λv y=>zWZ (List.all_eq_true.1 oka v y) (hin v y)
 refine CallsIn.mono (s _ _ K hR0 S) ?_;rintro e' w' ⟨ρ',rfl,m,hR1,_⟩;have fr:∀r,r<K.heap.size->(∀j o,D j->h.get j=some o->o.wr=true->ρ.blk j≠r)->w'.heap[r]? = K.heap[r]?:=λk O M=>m.frame k O λj G z g hb=>by obtain⟨o,h2,t⟩:=E g hb;exact M j o z.1 h2 t
 refine⟨ρ,by rw[hr.1 ρ',hr.1 ρ],⟨oV _,m.size,m.os,m.tape,m.output,λ_ _=>⟨rfl,rfl,rfl⟩,λid o' _ g=>⟨o',g,rfl⟩,λid o' U W _=>oy,fr,oV _,λ_ _ _=>rfl⟩,?_,hr.2 _⟩;rw[X1];refine⟨B.cap,B.lt,λid o I g=>?_,B.inj⟩;have t:=B.rel id o I g;by_cases b:∃j oj,(D j/\K2 rs j=true)/\(hL rs n).get j=some oj/\oj.wr=true/\ρ.blk j=ρ.blk id
 .obtain⟨j,oj,z,U,W,g3⟩:=b;obtain⟨G,N,h5⟩:=E U W;have hij:j=id:=B.inj j id G o z.1 I N g h5 g3;subst hij;obtain⟨⟨_,l,kk⟩,b,rfl,rfl,cs,k,w,op,F,Y,O⟩:=row U;rcases kk with _|kk
  .cases W
  obtain⟨rfl,rfl,rfl,hl⟩:=O kk rfl;obtain⟨rfl⟩:o=_:=Option.some.inj (g.symm.trans F);obtain⟨c,e,fz,hb,p,d,Q⟩:=t;obtain⟨cs1,k1,w1,op1,q1,q2,q3⟩:=Rw.isO_get (J _ b _ rfl);obtain⟨rfl,rfl,rfl,hl1⟩:=q3 _ rfl;obtain⟨c',e',fz',hb',A,_,X⟩:=hR1.rel _ _ (.inl z) q1;obtain⟨a1,a2,a3⟩:=m.agree _ z;refine⟨c',e',fz',by rw[<-a1];exact hb',λi v y=>?_,d,λ_=>?_⟩
  .have hi:=Cs.get_lt y;rw[hl]at hi;obtain⟨u,hu⟩:∃u,l[i]? = some u:=⟨_,oU hi⟩;have hvu:some v=some u:=y.symm.trans (Y i u hu);cases hvu;have h7:=A i v (q2 i v hu);rw[a2]at h7;rw[h7];have h8:v.In λid=>D id/\K2 rs id=true:=zD1 ((C _ b).2 v (List.mem_of_getElem? hu)) (d i v y)
   rw[V.conc_agree m.agree v h8]
  have Z:=X rfl;rw[a2,a3,hl1,<-hl]at Z;exact Z
 rcases Nat.lt_or_ge (ρ.blk id) K.heap.size with q|q
 .rw[m.frame _ q λj oj z U W g3=>b ⟨j,oj,z,U,W,g3⟩];exact t
 exfalso;rw[Array.getElem?_eq_none q]at t;cases o<;>simp[ORel]at t
structure Lt where
 f:Nat
 a:Ug
 rs:Rws
 v:V
def zFV:List Lt->Nat->Ug->H->Option (V×H)
 | [],_,_,_=>none
 | k::l,f,args,h=>cond (Nat.beq f k.f && (zHB eqW args k.a && Z3 h k.rs)) (some (k.v,h)) (zFV l f args h)
def Lt.Holds(P:Program)(c:Ctx)(k:Lt):Prop:=(∃fi,c.fn.get k.f=some fi)/\∀h,Z3 h k.rs=true->SimF P k.f k.a h (.ret k.v h)
theorem xR{P:Program}{c:Ctx}:xE P c (zFV []):=λ_ _ _ _ _ e=>nomatch e
theorem yp{P:Program}{c:Ctx}{k:Lt}{l:List Lt}(a:k.Holds P c)(hl:xE P c (zFV l)):xE P c (zFV (k::l)):=λf args h v h' e=>by
 simp only[zFV]at e;cases hb:(Nat.beq f k.f && (zHB eqW args k.a && Z3 h k.rs))with
 | false=>rw[hb,oT]at e;exact hl f args h v h' e
 | true=>rw[hb,oS]at e;cases e;simp only[oM]at hb;obtain⟨h1,b,d⟩:=hb;rw[oL h1,ZS zBr b];exact⟨a.1,a.2 h d⟩
def zP5(rs:Rws)(v:V):Option CallOut->Bool
 | some (.ret r h)=>eqW r v && rs.all λx=>match x.k with|none=>true|some _=>x.isO (h.get x.id)
 | _=>false
theorem zLE{rs:Rws}{v:V}{r:Option CallOut}(h:zP5 rs v r=true):∃h1,r=some (.ret v h1)/\∀x∈rs,∀k,x.k=some k->x.isO (h1.get x.id)=true:=by
 unfold zP5 at h;split at h
 .simp only[oM]at h;exact⟨_,by rw[zBr h.1],λx a k b=>by have:=List.all_eq_true.1 h.2 x a;rw[b]at this;exact this⟩
 cases h
noncomputable def Lt.check(k:Lt)(c:Ctx)(l:List Lt)(n:Nat):Bool:=(c.fn.get k.f).isSome && (Nat.ble n T.top && (zP3 k.rs n && (k.a.all (okW k.rs) && (j9 k.v && zP5 k.rs k.v (run c (zFV l) 1000000 k.f k.a (hL k.rs n))))))
theorem Lt.holds{P:Program}{c:Ctx}{l:List Lt}{k:Lt}(ok:CtxOK P c)(hor:xE P c (zFV l))(n:Nat)(h:k.check c l n=true:=by kernel_rfl):k.Holds P c:=by simp only[Lt.check,oM]at h;obtain⟨b,d,h1,f,g,i⟩:=h;refine⟨Option.isSome_iff_exists.1 b,λh a=>?_⟩;obtain⟨h',e,hl⟩:=zLE i;exact SimF.lits (oH d) h1 f (yc g) a hl (KH ok hor e)
end Go.Sim
