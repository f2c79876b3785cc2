/- X. No condition. -/
import Derived.Test.YtnpeieeomokomaaGreatZW
import Derived.Shelf.SlSortCmp.WholeK
import Derived.Lib.SortBridge
import Derived.Lone
import Derived.Calls
import Derived.StepT
import Derived.Below
namespace Go.Sim
variable{cf:Int×Int->Int×Int->Int}{P p:Program}{α:Type}{w w':World}
section
open Go (TypeDesc)
section
variable {κ:Type}{kv:κ->V}{h:H}
def MapG(kv:κ->V)(h:H)(r:Nat)(L:List (κ×V)):Prop:=∃es clock,h.get r=some (.map es clock)/\es.map (λe=>(e.key,e.val))=L.map λp=>(kv p.1,p.2)
theorem MapG.new(a:h.nx<T.top):MapG kv (h.new (.map [] 0)) h.nx []:=⟨[],0,zK _ a,rfl⟩
theorem MapG.mono{h':H}{r:Nat}{L:List (κ×V)}(m:MapG kv h r L)(e:h'.get r=h.get r):MapG kv h' r L:=by obtain⟨es,clock,a,h2⟩:=m;exact⟨es,clock,e.trans a,h2⟩
end
section
variable {κ:Type}[DecidableEq κ] {kv:κ->V}
def Tn:List (κ×V)->κ->Ui
 | [],_=>none
 | p::L,k=>if k=p.1 then some p.2 else Tn L k
def ri:List (κ×V)->κ->V->List (κ×V)
 | [],k,v=>[(k,v)]
 | p::L,k,v=>if k=p.1 then (p.1,v)::L else p::ri L k v
theorem bB(L:List (κ×V))(k:κ)(v:V)(k':κ):Tn (ri L k v) k'=if k'=k then some v else Tn L k':=by
 induction L with
 | nil=>rfl
 | cons p L ih =>
  unfold ri;by_cases c:k=p.1
  .simp_all[Tn]
  rw[if_neg c];show(if k'=p.1 then some p.2 else Tn (ri L k v) k')=if k'=k then some v else if k'=p.1 then some p.2 else Tn L k'
  grind
variable {c:Ctx}{t kt et:Nat}{ti tk te:TI}{z:V}{h:H}
theorem Tw(g:∀a b,pD c 30 kt (kv a) (kv b)=some (decide (a=b)))(k:κ):∀(es:List Ent) (L:List (κ×V)) (i:Nat),es.map (λe=>(e.key,e.val))=L.map (λp=>(kv p.1,p.2)) ->
  (Tn L k=none->xp c kt (kv k) es i=some none/\∀(v:V) (cl:Nat),(es++[(⟨kv k,v,cl⟩:Ent)]).map (λe:Ent=>(e.key,e.val))=(ri L k v).map λp=>(kv p.1,p.2)) /\
  (∀u:V,Tn L k=some u->∃j e,xp c kt (kv k) es i=some (some (i+j,e))/\e.val=u/\e.key=kv k/\∀v:V,(J9 es j (kv k) v).map (λe:Ent=>(e.key,e.val))=(ri L k v).map λp=>(kv p.1,p.2))
 | [],[],i,_=>⟨λ_=>⟨rfl,λ_ _=>rfl⟩,λu h=>by cases h⟩
 | [],p::L,i,h=>by grind
 | e::es,[],i,h=>by grind
 | e::es,p::L,i,h=>by
  simp only[List.map_cons,List.cons.injEq,oB]at h;obtain⟨⟨r,h2⟩,h3⟩:=h;obtain⟨s,l⟩:=Tw g k es L (i+1) h3;have x:xp c kt (kv k) (e::es) i=(match some (decide (k=p.1))with|some true=>some (some (i,e))|some false=>xp c kt (kv k) es (i+1)|none=>none):=by
   show(match pD c 30 kt (kv k) e.key with|some true=>_|some false=>_|none=>_)=_
   grind
  have el:Tn (p::L) k=if k=p.1 then some p.2 else Tn L k:=rfl
  have m:∀v,ri (p::L) k v=if k=p.1 then (p.1,v)::L else p::ri L k v:=λ_=>rfl
  by_cases f:k=p.1
  .refine⟨λn=>?_,λu d=>?_⟩
   .grind
   rw[el,if_pos f]at d;cases d;refine⟨0,e,by grind,h2,by grind,λv=>?_⟩;rw[m,if_pos f];show(kv k,v)::es.map (λe:Ent=>(e.key,e.val))=_
   grind
  have o:xp c kt (kv k) (e::es) i=xp c kt (kv k) es (i+1):=by grind
  refine⟨λn=>?_,λu d=>?_⟩
  .grind
  rw[el,if_neg f]at d;obtain⟨j,q,a1,a2,a3,a4⟩:=l u d;refine⟨j+1,q,by grind,a2,a3,λv=>?_⟩
  simp_all[J9]
theorem MapG.look{h:H}{r:Nat}{L:List (κ×V)}(m:MapG kv h r L)(f:∀a b,pD c 30 kt (kv a) (kv b)=some (decide (a=b)))(g:∀a,Xn c kt (kv a)=true)(i:c.ty.get t=some ti)(hm:ti.desc = .map kt et)(l:c.ty.get et=some te)(n:te.zero=some z)(k:κ)(ok:Bool):
  Y1 c t h (.map r) (kv k) ok=some (match Tn L k with|some v=>qt ok v true|none=>qt ok z false):=by
 obtain⟨es,clock,o,hi⟩:=m;obtain⟨q,s⟩:=Tw f k es L 0 hi;unfold Y1 Qt;simp only[i,hm,o];unfold Jk;rw[g,oN];cases d:Tn L k with
 | none=>rw[(q d).1];simp only[l,n]
 | some v=>obtain⟨j,e,u,h2,_⟩:=s v d;rw[u];simp only[h2]
theorem MapG.upd{h:H}{r:Nat}{L:List (κ×V)}(m:MapG kv h r L)(l:∀a b,pD c 30 kt (kv a) (kv b)=some (decide (a=b)))(n:∀a,Xn c kt (kv a)=true)(hs:∀a,Y5 (kv a) (kv a)=true)(o:c.ty.get t=some ti)(hm:ti.desc = .map kt et)(hr:r<T.top)(k:κ)(v:V):
  ∃es clock,Y8 c t h (.map r) (kv k) v=some (h.upd r (some (.map es clock)))/\MapG kv (h.upd r (some (.map es clock))) r (ri L k v):=by
 obtain⟨es,clock,q,hi⟩:=m;obtain⟨g,s⟩:=Tw l k es L 0 hi;have f:Y8 c t h (.map r) (kv k) v=(match xp c kt (kv k) es 0 with
     | some (some (i,e))=>cond (Y5 e.key (kv k)) (some (h.upd r (some (.map (J9 es i (kv k) v) clock)))) none
     | some none=>some (h.upd r (some (.map (es++[⟨kv k,v,clock⟩]) (clock+1))))
     | none=>none):=by
  unfold Y8;simp only[o,hm,q];rw[n,oN];rfl
 cases d:Tn L k with
 | none=>rw[(g d).1]at f;exact⟨_,_,f,_,_,zF _ hr,(g d).2 v clock⟩
 | some u=>obtain⟨j,e,x,h2,h3,h4⟩:=s u d;rw[x]at f;simp only[Nat.zero_add,h3,hs,oN]at f;exact⟨_,_,f,_,_,zF _ hr,h4 v⟩
end
end
section
open Go Go.Sort Go.Shelf
theorem Hk(h1:w.heap.size<=w'.heap.size)(h2:∀r,r<w.heap.size->w'.heap[r]? = w.heap[r]?)(h3:w'.tape=w.tape)(h4:w.drawn<=w'.drawn)(a:w'.os=w.os)(b:w'.output=w.output):
  ∃q os,w'=grow (w.drewN q) os:=by
 refine⟨w'.drawn-w.drawn,w'.heap.extract w.heap.size w'.heap.size,?_⟩;have e:w'.heap=w.heap++w'.heap.extract w.heap.size w'.heap.size:=by
  apply Array.ext_getElem?;intro i;by_cases c:i<w.heap.size
  .rw[h2 i c,Array.getElem?_append_left c]
  rw[Array.getElem?_append_right dd,Array.getElem?_extract];split
  .congr 1;omega
  exact Array.getElem?_eq_none dd
 cases w;cases w';simp only at h1 h3 h4 a b e;subst h3 a b;unfold grow World.drewN;simp only[World.mk.injEq,and_true,true_and];exact⟨e,dd⟩
theorem HR.grownP{ρ:Env}{D:Nat->Prop}{h:H}(r:HR ρ D h w)(q:Nat)(os:Array Obj):HR ρ D h (grow (w.drewN q) os) where
 cap:=r.cap
 lt:=r.lt
 rel:=λid o d g=>by rw[heap_grow_old _ _ (show ρ.blk id<(w.drewN q).heap.size from r.lt_size d g)];exact r.rel id o d g
 inj:=r.inj
theorem Mv.grownP{ρ ρ':Env}{D:Nat->Prop}{h h':H}(m:Mv ρ D h w ρ' h' w')(q:Nat)(os:Array Obj):Mv ρ D h w ρ' h' (grow (w'.drewN q) os) where
 nx:=m.nx
 size:=by rw[size_grow];exact oS m.size (Nat.le_add_right _ _)
 os:=m.os
 tape:=⟨m.tape.1,oS m.tape.2 (Nat.le_add_right _ _)⟩
 output:=m.output
 agree:=m.agree
 old:=m.old
 img:=m.img
 frame:=λk hk hf=>by rw[heap_grow_old _ _ (show k<(w'.drewN q).heap.size from oL hk m.size)];exact m.frame k hk hf
 low:=m.low
 kept:=m.kept
def Y4(a:List (Int×Int)):Ug:=a.flatMap λx=>[dh x.1,dh x.2]
def SX(x:Int×Int):List Value:=[.int .i64 x.1,.int .i64 x.2]
def IV(a:List (Int×Int)):List Value:=a.flatMap SX
theorem YU(a:List (Int×Int)):(Y4 a).length=a.length*2:=by unfold Y4;induction a<;>grind
theorem vc(ρ:Env)(a:List (Int×Int)):(Y4 a).map (V.conc ρ)=IV a:=by
 unfold Y4 IV;induction a with
 | nil=>rfl
 | cons x a ih=>rw[List.flatMap_cons,List.map_append,ih,List.flatMap_cons];rfl
theorem gF:∀(a:List (Int×Int)) (t:Nat),t<a.length*2->(IV a)[t]! = (SX a.toArray[t/2]!)[t % 2]!
 | [],t,h=>by grind
 | x::a,0,_=>rfl
 | x::a,1,_=>rfl
 | x::a,t+2,h=>by
  have ih:=gF a t (by grind);rw[show(t+2)/2=t/2+1 by omega,show(t+2) % 2=t % 2 by omega];have b:(IV (x::a))[t+2]! = (IV a)[t]!:=by unfold IV;rw[List.flatMap_cons];rfl
  grind
theorem sV(a:List (Int×Int)):(IV a).length=a.length*2:=by rw[<-vc ⟨λ_=>0,λ_=>0,λ_=>0⟩,oy,YU]
theorem V5(a:List (Int×Int)):flatK SX 2 a.toArray=(IV a).toArray:=by
 refine ext_get! (by grind[size_flatK,sV]) λt b=>?_
 have b:t<a.length*2:=by simp_all
 rw[get_flatK _ _ _ _ dd,<-gF a t b]
 grind
def I7(P:Program)(f g:Nat)(a ys:List (Int×Int)):Prop:=∀(blk off cap:Nat) (w:World),Holds id w blk off (IV a).toArray->blk<w.heap.size ->
 Calls P f #[.slice (some ⟨blk,off,none⟩) a.length cap,.func (.func g) #[] #[]] w λe w'=>e = .returned (.tuple #[])/\∃n os,w'=grow (putRow id (Sort.ahead w n) blk off (IV ys).toArray) os
theorem SimF.of_sortP{f g b:Nat}{h:H}{l l':Cs}{esz:Rk}{op:Bool}{c:Cap}{k ys:List (Int×Int)}(F:I7 P f g k ys)(A:ys.length=k.length)(u:h.get b=some (.cells l esz true op))(K:∀i,i<k.length*2->l.get? i=(Y4 k)[i]?)(hp:l.put 0 (Y4 ys)=some l')(L:esz.fz=0):SimF P f [.slice b 0 k.length c,.func (.func g) [] []] h (.ret (.tuple []) (h.upd b (some (.cells l' esz true op)))):=by
 intro ρ D w r G;have hd:D b:=by simp_all[V.In]
 have o:∀v∈Y4 ys,∃n,v = dh n:=λv s=>by obtain⟨x,_,M⟩:=List.mem_flatMap.1 s<;>grind
 have t:zU (Y4 ys)=true:=yP.2 λv s=>by obtain⟨n,rfl⟩:=o v s;rfl
 have m:∀v∈Y4 ys,v.In D:=λv s=>by obtain⟨n,rfl⟩:=o v s;trivial
 have y:(Y4 ys).length=k.length*2:=by grind[YU]
 obtain⟨_,_,_,_,z⟩:=wx (P:=P) r hd u m t hp dd;rw[y]at z;rw[Nat.add_zero]at z;have B:Holds id w (ρ.blk b) (ρ.off b) (IV k).toArray:=λj C=>by
  have C:j<k.length*2:=by grind[sV]
  have I:j<(Y4 k).length:=by grind[YU]
  have e:l.get? j=some (Y4 k)[j]:=by grind
  have:=vD r hd u e;refine⟨?_,z j C⟩;rw[this.1];have J:=congrArg (λx=>x[j]?) (vc ρ k)
  grind
 refine callsIn_wide.2 ((F (ρ.blk b) (ρ.off b) (c.val ρ b) w B (r.lt_size hd u)).mono ?_);rintro x w' ⟨rfl,q,os,rfl⟩;rw[Lib.sorted_world id w (ρ.blk b) (ρ.off b) q _ _ os B (by grind[sV])];have r2:HR ρ D h (w.drewN q):=⟨r.cap,r.lt,r.rel,r.inj⟩;obtain⟨_,E,a,_,_⟩:=wx (P:=P) r2 hd u m t hp dd;rw[Nat.add_zero,vc]at E a;rw[List.map_id];have s4:Mv ρ D h w ρ (h.upd b (some (.cells l' esz true op))) ((w.drewN q).setCells (ρ.blk b) (ρ.off b) (IV ys)) :=
  ⟨a.nx,a.size,a.os,⟨a.tape.1,oS (Nat.le_add_right _ _) a.tape.2⟩,a.output,a.agree,a.old,a.img,a.frame,a.low,a.kept⟩
 refine⟨ρ,rfl,s4.grownP 0 os,?_,trivial⟩;have:Dx D h (h.upd b (some (.cells l' esz true op)))=D:=by
  funext id;simp only[Dx,eq_iff_iff];constructor
  .rintro(d|⟨d1,d2⟩)
   .exact d
   have:(h.upd b (some (.cells l' esz true op))).nx=h.nx:=rfl;omega
  grind
 rw[this];exact E.grownP 0 os
theorem SQ{P:Program}{g:Nat}{cf:Int×Int->Int×Int->Int}(c:∀x y:Int×Int,∃h',SimF P g [.agg [.int .i64 x.1,.int .i64 x.2],.agg [.int .i64 y.1,.int .i64 y.2]] H0 (.ret (.int .i64 (cf x y)) h'))(blk off size:Nat)(w:World):
  Go.Proofs.CmpLays P g #[] SX 2 cf blk off size w:=by
 intro m os d _ x y;generalize Proofs.sortWorldK SX 2 w blk off m d os=W;obtain⟨h',s⟩:=c x y;have k:=s ⟨λ_=>0,λ_=>0,λ_=>0⟩ (λ_=>False) W (nT _ _) (λv b=>by
  simp only[oq,List.not_mem_nil,or_false]at b;rcases b with rfl|rfl<;>simp[V.In,V.InL])
 refine(callsIn_wide.1 k).mono ?_;rintro e w' ⟨ρ',rfl,a,_,_⟩;exact⟨rfl,Hk a.size (λr hr=>a.frame r hr λ_ _ h=>h.elim) a.tape.1 a.tape.2 a.os a.output⟩
def yW(cf:Int×Int->Int×Int->Int)(a:List (Int×Int)):List (Int×Int):=(pdq (Proofs.ltOf cf) a.toArray 0 a.length (Lib.bitLen a.length) true true).toList
theorem jh{cf:Int×Int->Int×Int->Int}(e:SWO (Proofs.ltOf cf))(a:List (Int×Int)):(yW cf a).Perm a/\(yW cf a).Pairwise λx y=>Proofs.ltOf cf y x=false:=by
 have h:=pdq_sorts (Proofs.ltOf cf) e a.toArray 0 a.toArray.size (Lib.bitLen a.toArray.size) true true (oM _) (oR _) (Or.inl rfl);unfold yW;rw[show a.length=a.toArray.size by simp];generalize pdq (Proofs.ltOf cf) a.toArray 0 a.toArray.size (Lib.bitLen a.toArray.size) true true=d at h;obtain⟨⟨hs,_,hp⟩,b⟩:=h;have f:d.extract 0 a.toArray.size=d:=by grind
 have g:a.toArray.extract 0 a.toArray.size=a.toArray:=by simp
 rw[f,g]at hp;refine⟨dd,?_⟩;rw[List.pairwise_iff_getElem];intro i j hi k c;have:=b i j (oM _) c (by grind)
 grind
theorem Fe{ρ:Ren}(L:Proofs.SlLaysF0.n6 P ρ){g:Nat}(c:∀w,(isAgg (ρ.t 24)).run P w = .ok true w)(d:∀w,(Go.sizeOf (ρ.t 24)).run P w = .ok 2 w)(f:∀args w,(callFunc g args).run P w = .ok (.enter g args) w)(i:SWO (Proofs.ltOf cf))(j:∀x y:Int×Int,∃h',SimF P g [.agg [.int .i64 x.1,.int .i64 x.2],.agg [.int .i64 y.1,.int .i64 y.2]] H0 (.ret (.int .i64 (cf x y)) h'))(a:List (Int×Int))(k:a.length<4611686018427387904):I7 P (ρ.f 6) g a (yW cf a):=by
 intro blk off cap w l hb;have h:=Proofs.AnyQ.slices_SortFunc_eq L 2 c d SX (λ_=>rfl) (λx v b=>by
  simp only[SX,oq,List.not_mem_nil,or_false]at b;rcases b with rfl|rfl<;>rfl) cf i g #[] blk off cap a.toArray w f (SQ j blk off a.toArray.size w) (by grind[HoldsK,V5]) hb dd
 refine(show Calls P (ρ.f 6) #[.slice (some ⟨blk,off,none⟩) a.length cap,.func (.func g) #[] #[]] w _ from by simpa using h).mono ?_;rintro e w' ⟨rfl,n,os,rfl⟩;refine⟨rfl,n,os,?_⟩;unfold Proofs.sortWorldK putRowK yW;rw[<-V5]
end
section
open Go
def rwd{α:Type}:Result α->World
 | .ok _ w=>w
 | .halt _ w=>w
theorem Ax{α:Type}(a:Ask α):∀w:World,w.drawn<=(w.ask a).2.drawn:=by
 induction a with
 | done a=>exact λw=>oR _
 | ask b range k ih =>
  intro w;simp only[World.ask]
  grind
theorem zBa(w:World)(c:Sys):w.drawn<=(w.sys c).2.drawn:=by
 unfold World.sys;have h:=Ax (Kernel.perform c w.os) w
 grind
theorem BN{a k:Addr}{u:TypeId}{v:Value}{b:Bool}{t:List Addr}(h:w.viewStore p a u k v b = .ok (w',t)):w'.drawn=w.drawn:=by
 unfold World.viewStore at h;simp only[bind,Except.bind,pure,Except.pure]at h;repeat' first
  | (cases h;rfl)
  | (cases h;done)
  | split at h
theorem zAP{a:Addr}{v:Value}{b:Bool}{t:List Addr}(h:w.farStore p a v b = .ok (w',t)):w'.drawn=w.drawn:=by
 grind[World.farStore,BN]
theorem N0(w:World)(a:Addr)(n:Nat):(w.freeze a n).drawn=w.drawn:=by
 grind[World.freeze]
theorem FX{α:Type}(p:Program)(s:Sem α):∀w:World,w.drawn<=(rwd (s.run p w)).drawn:=by
 induction s with
 | pure a=>exact λw=>oR _
 | load m a k ih =>
  intro w;simp only[Sem.run];split
  .grind
  split
  .grind
  exact oR _
 | store m a v k ih =>
  intro w;have key:w.drawn<=(rwd (match w.cell? a with
   | some _=>if w.frozen? a then .halt (.unsupported (.unsafePointer "a write to bytes that a string shares")) w else k.run p (w.setCell a v)
   | none=>match w.farStore p a v (m == .atomic)with
    | .ok (w,_)=>k.run p w
    | .error h=>.halt h w)).drawn:=by
   split
   .split
    .exact oR _
    exact ih (w.setCell a v)
   split
   .grind[zAP]
   exact oR _
  cases v<;>first|exact key|exact oR _
 | new o k ih=>exact λw=>ih _ { w with heap:=w.heap.push o }
 | shape r k ih=>exact λw=>ih _ _
 | freeze a n k ih=>exact λw=>by have:=ih (w.freeze a n);rwa [N0]at this
 | frozen a k ih=>exact λw=>ih _ _
 | getObj r k ih =>
  intro w;simp only[Sem.run];split
  .exact oR _
  .grind
  exact oR _
 | setObj r o k ih =>
  intro w;simp only[Sem.run];split
  .exact oR _
  .grind
  exact oR _
 | choose q k ih =>
  intro w;simp only[Sem.run]
  grind
 | sys c k ih=>exact λw=>oS (zBa w c) (ih _ _)
 | program k ih=>exact λw=>ih _ _
 | mark m k ih=>exact λw=>ih _
 | halt h=>exact λw=>oR _
theorem yu{s:Sem α}{a:α}(h:s.run p w = .ok a w'):w.drawn<=w'.drawn:=by
 have:=FX p s w
 rwa [h]at this
theorem ka{s:Sem α}{x:Halt}(h:s.run p w = .halt x w'):w.drawn<=w'.drawn:=by
 have:=FX p s w
 rwa [h]at this
theorem cC{s:Sem α}{a:α}{x y:Array Event}(h:(s.run p w,x)=(.ok a w',y)):w.drawn<=w'.drawn:=yu (congrArg Prod.fst h)
theorem vV{s:Sem α}{a:Halt}{x y:Array Event}(h:(s.run p w,x)=(.halt a w',y)):w.drawn<=w'.drawn:=ka (congrArg Prod.fst h)
def GDr(n:Nat):GStep->Prop
 | .go _ w _ | .comm _ _ _ _ w _ | .spawn _ _ w _ | .count _ w _ | .timer _ _ w _ | .alone _ _ w _ | .newcoro _ _ _ w _ | .coroswitch _ _ _ w _ | .collect _ w _ | .watch _ w _=>n<=w.drawn
 | .ended ..=>True
theorem GDr.after{n:Nat}{s:GStep}(h:GDr n s)(es:Array Event):GDr n (s.after es):=by cases s<;>exact h
theorem H5(p:Program)(a:Frame)(cs:List Frame)(d:Option Dying)(g:Nat)(w:World):GDr w.drawn (early p a cs d g w):=by
 unfold early;simp only[];repeat' first
  | exact trivial
  | exact oR w.drawn
  | (simp only[GDr];exact yu (by assumption))
  | (simp only[GDr];exact cC (by assumption))
  | split
theorem zAL(p:Program)(a:Frame)(d:Dying)(w:World):GDr w.drawn (die p a d w):=by
 unfold die writeOn endWith endPrinting endThrow dieOf;simp only[Sem.runT_eq];repeat' first
  | exact trivial
  | exact oR w.drawn
  | (simp only[GDr];exact yu (by assumption))
  | (simp only[GDr];exact cC (by assumption))
  | (simp only[GDr];exact ka (by assumption))
  | (simp only[GDr];exact vV (by assumption))
  | refine GDr.after ?_ _
  | split
theorem V2(p:Program)(a:Frame)(cs:List Frame)(d:Option Dying)(m:String)(w:World):GDr w.drawn (endFatal p a cs d m w):=by
 unfold endFatal dieOf;simp only[];split
 .grind[GDr,yu]
 .exact trivial
 exact trivial
theorem RG(p:Program)(a:Bool)(b:Frame)(cs:List Frame)(d:Option Dying)(v:Value)(w:World):GDr w.drawn (doReturn p a b cs d v w):=by
 unfold doReturn;repeat' first
  | exact trivial
  | exact oR w.drawn
  | split
theorem GDr.mono{a b:Nat}{s:GStep}(h:a<=b)(k:GDr b s):GDr a s:=by cases s<;>first|exact trivial|exact oS h k
theorem VK(p:Program)(a:Frame)(cs:List Frame)(b:Option Dying)(d:Deferred)(w:World):GDr w.drawn (callDeferred p a cs b d w):=by
 unfold callDeferred endThrow dieOf;simp only[Sem.runT_eq];repeat' first
  | exact trivial
  | (simp only[GDr];exact yu (by assumption))
  | (simp only[GDr];exact ka (by assumption))
  | exact GDr.mono (ka (by assumption)) (V2 ..)
  | refine GDr.after ?_ _
  | split
theorem bg(p:Program)(b:Bool)(a:Frame)(cs:List Frame)(c:Option Dying)(s:Sem Next)(w:World):GDr w.drawn (stepG.apply p b a cs c s w):=by
 unfold stepG.apply endThrow dieOf;cases b<;>simp only[Sem.runT_eq,if_true,Bool.false_eq_true,if_false];all_goals repeat' first
  | exact trivial
  | (simp only[GDr];exact yu (by assumption))
  | (simp only[GDr];exact ka (by assumption))
  | exact GDr.mono (ka (by assumption)) (V2 ..)
  | exact GDr.mono (ka (by assumption)) (H5 ..)
  | refine GDr.after ?_ _
  | split
theorem C3(p:Program)(b:Bool)(a:Frame)(cs:List Frame)(c:Option Dying)(w:World):GDr w.drawn (stepG.oper p b a cs c w):=by
 unfold stepG.oper;split
 .exact trivial
 grind[bg]
theorem D4{n:Nat}{o:Option α}{a:GStep}{f:α->GStep}(h:GDr n a)(k:∀x,GDr n (f x)):GDr n (o.elim a f):=by cases o<;>grind
theorem D6(p:Program)(a b:Bool)(c:Frame)(cs:List Frame)(d:Option Dying)(w:World):GDr w.drawn (stepG.exec p a b c cs d w):=by
 unfold stepG.exec;simp only[Sem.runT_eq];repeat' first
  | exact trivial
  | exact oR w.drawn
  | exact bg ..
  | exact C3 ..
  | (simp only[GDr];exact yu (by assumption))
  | (simp only[GDr];exact cC (by assumption))
  | (simp only[GDr];exact ka (by assumption))
  | (simp only[GDr];exact vV (by assumption))
  | exact GDr.mono (yu (by assumption)) (RG ..)
  | exact GDr.mono (yu (by assumption)) (bg ..)
  | refine GDr.after ?_ _
  | refine D4 ?_ λ_=>?_
  | split
theorem IA(p:Program)(a:Bool)(b:Frame)(cs:List Frame)(c:Option Dying)(w:World):GDr w.drawn (unwind p a b cs c w):=by
 unfold unwind endPrinting endThrow dieOf;simp only[Sem.runT_eq];repeat' first
  | exact trivial
  | exact oR w.drawn
  | exact VK ..
  | exact RG ..
  | (simp only[GDr];exact yu (by assumption))
  | (simp only[GDr];exact cC (by assumption))
  | (simp only[GDr];exact ka (by assumption))
  | (simp only[GDr];exact vV (by assumption))
  | exact GDr.mono (yu (by assumption)) (RG ..)
  | refine GDr.after ?_ _
  | split
theorem Fg(p:Program)(a:Bool)(g:Goroutine)(w:World)(b:Bool):GDr w.drawn (stepG p a g w b):=by
 obtain⟨c,cs,st,d,o⟩:=g;simp only[stepG]
 grind[zAL,D6,IA]
theorem BP{a:Rest}{cases:Array CommCase}(h:waitingAt a cases w=some w'):w.drawn<=w'.drawn:=by
 unfold waitingAt at h
 grind
theorem DQ(p:Program)(b:Rest)(d:Array Goroutine)(i:Nat)(g:Goroutine)(cases:Array CommCase)(a:Bool)(shape:CommShape)(w:World)(c:Machine)(h:(communicate p b d i g cases a shape w).1 = .next c):w.drawn<=c.world.drawn:=by
 unfold communicate at h;simp only[]at h;repeat' first
  | (simp at h;done)
  | (simp only[Stepped.next.injEq]at h;subst h;exact oR w.drawn)
  | (simp only[Stepped.next.injEq]at h;subst h;exact BP (by assumption))
  | (simp only[Stepped.next.injEq]at h;subst h;simp only[];exact yu (by assumption))
  | (simp only[Stepped.next.injEq]at h;subst h;simp only[];exact oS (yu dd) (yu (by assumption)))
  | (simp only[Stepped.next.injEq]at h;subst h;simp only[];exact oS (yu dd) (ka dd))
  | split at h
theorem Qp(p:Program)(c:Array Goroutine)(a:Rest)(w:World)(b:Machine)(h:look p c a w = .next b):w.drawn<=b.world.drawn:=by
 unfold look at h;simp only[]at h;repeat' first
  | (simp at h;done)
  | (simp only[Stepped.next.injEq]at h;subst h;simp only[];exact yu dd)
  | split at h
theorem H2(w:World)(c:Nat):(drain w c).2.drawn=w.drawn:=by
 grind[drain]
theorem fG(m:Machine)(k:Nat)(t:Timer)(b a:Nat):(retime m k t b a).2.world.drawn=m.world.drawn:=by unfold retime;cases t.chan<;>simp_all[H2]
theorem C2{m a:Machine}{var:Addr}(h:timerOp.opened m var=some a):a.world.drawn=m.world.drawn:=by
 grind[timerOp.opened]
theorem Fq(m:Machine)(op:TimerOp)(v:Value)(a:Machine)(h:timerOp m op = .ok (v,a)):m.world.drawn<=a.world.drawn:=by
 unfold timerOp timerOp.named at h;simp only[]at h;repeat' first
  | (cases h;done)
  | (cases h;exact oR m.world.drawn)
  | (simp only[Except.ok.injEq]at h;have e:=congrArg (λx=>x.2.world.drawn) h;simp only[fG]at e;omega)
  | (simp only[Except.ok.injEq]at h;have e:=congrArg (λx=>x.2.world.drawn) h;grind[fG,C2])
  | split at h
theorem Fp{f:Frame}{m:String}{g:Goroutine}{es:Array Event}(h:endThrow f m w = .go g w' es):w.drawn<=w'.drawn:=by
 simp_all[endThrow,dieOf]
theorem Cp(p:Program)(m a:Machine)(i:Nat)(b:Bool)(h:(runT p m i b).1 = .next a):m.world.drawn<=a.world.drawn:=by
 simp only[runT]at h;have hs:=Fg p (i == 0) (m.gs.swapAt! i { (default:Goroutine)with status:=.finished }).1 m.world b;revert hs h;generalize m.gs.swapAt! _ _=gg;generalize stepG p _ gg.1 m.world b=s;intro h hs;cases s<;>simp only[]at h;all_goals repeat' first
  | (simp at h;done)
  | exact oS hs (DQ _ _ _ _ _ _ _ _ _ _ h)
  | exact oS hs (Qp _ _ _ _ _ h)
  | (simp only[Stepped.next.injEq]at h;subst h;exact hs)
  | (simp only[Stepped.next.injEq]at h;subst h;exact oS hs (Fq _ _ _ _ (by assumption)))
  | (simp only[Stepped.next.injEq]at h;subst h;exact oS hs (Fp dd))
  | split at h
theorem FZ(p:Program)(m a:Machine)(k:Nat)(h:serve p m k = .next a):m.world.drawn<=a.world.drawn:=by
 unfold serve at h
 grind
def MDr(n:Nat):Move->Prop
 | .goroutine m _ | .machine (.next m) _=>n<=m.world.drawn
 | .machine (.ended ..) _=>True
theorem MDr.mono{a b:Nat}{s:Move}(h:a<=b)(k:MDr b s):MDr a s:=by
 rcases s with⟨m,i⟩|⟨m|⟨o,w⟩,ops⟩
 .exact oS h k
 .exact oS h k
 exact trivial
theorem Ld{n:Nat}{m:Machine}{k:Nat}{ops:Array MemOp}(h:n<=m.world.drawn):MDr n (.machine (serve p m k) ops):=by
 cases hs:serve p m k with
 | next a=>exact oS h (FZ _ _ _ _ hs)
 | ended o w=>exact trivial
theorem Ia{s:Sem α}{a:α}{b:Array Goroutine}{r:Rest}{t:Nat}(h:s.run p (Machine.advanceTo ⟨w,b,r⟩ t).world = .ok a w'):w.drawn<=w'.drawn:=yu (w:=(Machine.advanceTo ⟨w,b,r⟩ t).world) h
theorem Jp(p:Program)(m:Machine):MDr m.world.drawn (askOn p m):=by
 unfold askOn;simp only[];repeat' first
  | exact trivial
  | exact oR m.world.drawn
  | (simp only[MDr,Machine.advanceTo];exact yu (by assumption))
  | exact Ld (yu (by assumption))
  | (simp only[MDr,Machine.advanceTo];exact oS (yu (by assumption)) (yu (by assumption)))
  | (simp only[MDr,Machine.advanceTo];exact oS (yu (by assumption)) (oS (yu (by assumption)) (yu (by assumption))))
  | (simp only[MDr,Machine.advanceTo];exact oS (yu (by assumption)) (oS (yu (by assumption)) (oS (yu (by assumption)) (yu (by assumption)))))
  | (simp only[MDr,Machine.advanceTo];exact oS (yu (by assumption)) (oS (yu (by assumption)) (Ia (by assumption))))
  | (simp only[MDr,Machine.advanceTo];exact oS (yu (by assumption)) (oS (yu (by assumption)) (oS (Ia (by assumption)) (yu (by assumption)))))
  | split
theorem Rw(p:Program)(m:Machine):MDr m.world.drawn (ask p m):=by
 unfold ask;split
 .cases a:(choose (.extern "collector.look" 2)).run p m.world with
  | halt h w=>exact trivial
  | ok k w =>
   have h:=yu a;rcases k with _|_|k
   .exact MDr.mono h (Jp p { m with world:=w })
   .show MDr _ (match look p m.gs m.rest w with | .next m=>askOn p m|e=>Move.machine e);cases hl:look p m.gs m.rest w with
    | next b=>exact MDr.mono (oS h (Qp _ _ _ _ _ hl)) (Jp p b)
    | ended o w=>exact trivial
   exact MDr.mono h (Jp p { m with world:=w })
 grind[Jp]
theorem CR(p:Program)(m:Machine):MDr m.world.drawn (move p m):=by
 unfold move;repeat' first
  | exact trivial
  | exact oR m.world.drawn
  | exact Rw p m
  | exact Rw p { m with rest:={ m.rest with slice:=none } }
  | split
theorem Cy{p:Program}{m a:Machine}(h:step p m = .next a):m.world.drawn<=a.world.drawn:=by
 have hm:=CR p m;simp only[step,stepT]at h;revert hm h;generalize move p m=x;intro h hm;rcases x with⟨b,i⟩|⟨s,ops⟩
 .exact oS hm (Cp _ _ _ _ _ h)
 simp only[]at h;subst h;exact hm
theorem TD{p:Program}{m b:Machine}(h:Steps p m b):m.world.drawn<=b.world.drawn:=by
 obtain⟨n,a⟩:=h;induction n generalizing m with
 | zero=>simp_all[runN]
 | succ n ih =>
  simp only[runN]at a;cases hs:step p m with
  | next c=>rw[hs]at a;exact oS (Cy hs) (ih a)
  | ended o w=>grind
theorem HH{f:FuncId}{args:Array Value}{R:Ending->World->Prop}(h:Calls P f args w R)(hr:∀e w',R e w'->e≠.outgrown):
  Calls P f args w λe w'=>R e w'/\w.drawn<=w'.drawn:=by
 intro cs;obtain⟨e,w',a,r,s,x⟩:=h cs;refine⟨e,w',a,⟨r,?_⟩,s,x⟩;cases e with
 | returned v=>exact TD s
 | panicked c=>exact TD s
 | outgrown=>exact absurd rfl (hr _ _ r)
end
section
open Go
theorem SimF.of_below{f:Nat}{args:Ug}{h:H}{v:V}{ar:Array Value}{u:Value}(c:∀ρ,(args.map (V.conc ρ)).toArray=ar)(a:∀ρ D,v.conc ρ=u/\v.In D)(i:∀w,Calls P f ar w λe w'=>e = .returned u/\RowKit.Below w.heap.size w w'):SimF P f args h (.ret v h):=by
 intro ρ D w r _;rw[c];refine callsIn_wide.2 ((HH (i w) λe w' k q=>?_).mono ?_)
 .rw[k.1]at q;cases q
 rintro e w' ⟨⟨rfl,b⟩,hd⟩;refine⟨ρ,by rw[(a ρ D).1],⟨oR _,b.size,b.os,⟨b.tape,hd⟩,b.output,Agree.refl _ _,λid o' _ g=>⟨o',g,rfl⟩,λid o' l m _=>dd,λk j _=>b.block k j,oR _,λ_ _ _=>rfl⟩,?_,(a ρ _).2⟩;rw[zd];exact⟨r.cap,r.lt,λid o d g=>by rw[b.block _ (r.lt_size d g)];exact r.rel id o d g,r.inj⟩
end
end Go.Sim
