/- G. No condition. -/
import Derived.Test.YtnpeieeomokomaaGreatZC
import Derived.Lib.Builder
import Derived.Lib.UnsafeStr
import Derived.Laws.Externs
namespace Go.Sim
section
variable {P:Program}{c:Ctx}{ρ:Env}{D:Nat->Prop}
theorem wD(ok:CtxOK P c){t:TypeId}{ti:TI}(h:c.ty.get t=some ti)(hs:ON ti.desc=true)(b:Bool)(n:Nat)(v:Value)(w:World):(Instr.checkKey b (n+1) t v).run P w = .ok () w:=by obtain⟨i,k⟩:=ok.ty t ti h;have a:=k.und;cases d:ti.desc<;>rw[d]at hs a<;>first|(simp[ON]at hs;done)|(simp[Instr.checkKey,underlying,a])
theorem zES(ok:CtxOK P c){t:TypeId}{v:V}(h:Ye c t v=true)(u:v.In D)(b:Bool)(m:Nat)(w:World):(Instr.checkKey b (m+2) t (v.conc ρ)).run P w = .ok () w:=by
 unfold Ye at h;split at h
 .cases h
 rename_i ti d;obtain⟨i,k⟩:=ok.ty t ti d;have x:=k.und;split at h
 .rename_i g;exact wD ok d (by rw[g];rfl) b (m+1) _ w
 .rename_i g;exact wD ok d (by rw[g];rfl) b (m+1) _ w
 .rename_i g;exact wD ok d (by rw[g];rfl) b (m+1) _ w
 .rename_i F xs g;rw[g]at x;simp only[V.In,V.InL_iff]at u;rw[Instr.checkKey];simp only[V.conc,V.concL_eq,Sem.run_bind,run_underlying x,Result.andThen_ok];have j:∀l,zIp c xs l=true->(forIn (m:=Sem) l PUnit.unit λf __s =>
     if f.name ≠ "_" then do
      Instr.checkKey b (m+1) f.type (<-part f.type (xs.map (V.conc ρ)).toArray f.offset)
      pure (ForInStep.yield PUnit.unit)
     else pure (ForInStep.yield PUnit.unit)).run P w = .ok PUnit.unit w:=by
   intro l;induction l with
   | nil=>intro _;simp
   | cons f F ih =>
    intro o;simp only[zIp,oM]at o;rw[List.forIn_cons];have q:(if f.name ≠ "_" then do
      Instr.checkKey b (m+1) f.type (<-part f.type (xs.map (V.conc ρ)).toArray f.offset)
      pure (ForInStep.yield PUnit.unit)
     else pure (ForInStep.yield PUnit.unit):Sem (ForInStep PUnit)).run P w = .ok (ForInStep.yield PUnit.unit) w:=by
     split
     .have a:=o.1;split at a
      .rename_i G r;simp only[oM]at a;have s:=a.2;split at s
       .rename_i y z;obtain⟨A,_⟩:=xm (ρ:=ρ) ok r z u w;simp only[Sem.run_bind,A,Result.andThen_ok,wD ok r a.1,Sem.run_pure]
       cases s
      cases a
     simp
    rw[Sem.run_bind,q];simpa using ih o.2
  rw[<-Array.forIn_toList,j _ h];simp
 .rename_i n e xs g;rw[g]at x;simp only[V.In,V.InL_iff]at u;rw[Instr.checkKey];simp only[V.conc,V.concL_eq,Sem.run_bind,run_underlying x,Result.andThen_ok];split at h
  .rename_i B p;obtain⟨H,E⟩:=ok.ty e B p;simp only[oM]at h;have C:∀w,(sizeOf e).run P w = .ok B.size w:=λw=>by simp[sizeOf,YJ E,E.size]
   have j:∀n i,zIo B xs n i=true->(forIn (m:=Sem) (List.range' i n) PUnit.unit λi __s=>do
      let __do_lift <-sizeOf e
      let __do_lift <-part e (xs.map (V.conc ρ)).toArray (i*__do_lift)
      Instr.checkKey b (m+1) e __do_lift
      pure (ForInStep.yield PUnit.unit)).run P w = .ok PUnit.unit w:=by
    intro n;induction n with
    | zero=>intro i _;simp
    | succ n ih =>
     intro i o;simp only[zIo,oM]at o;rw[List.range'_succ,List.forIn_cons];have a:=o.1;split at a
     .rename_i y z;obtain⟨A,_⟩:=xm (ρ:=ρ) ok p z u w;simp only[Sem.run_bind,C,A,Result.andThen_ok,wD ok p h.1,Sem.run_pure];exact ih (i+1) o.2
     cases a
   rw[Std.Legacy.Range.forIn_eq_forIn_range'];have:=j n 0 h.2;simp only[Std.Legacy.Range.size,Nat.sub_zero,Nat.add_sub_cancel,Nat.div_one];rw[this];simp
  cases h
 cases h
theorem OT(ok:CtxOK P c){t:TypeId}{v:V}(h:Ye c t v=true)(a:v.In D)(b:Bool)(w:World):(Instr.checkKey b 10000 t (v.conc ρ)).run P w = .ok () w :=
 zES ok h a b 9998 w
theorem zAf{d:Nat}{t:TypeId}{ti:TI}(j:c.ty.get t=some ti){x y:V}{r b:Bool}(e:J5 c (d+1) t x y=some r)(h:Instr.sameNow ti.desc (x.conc ρ) (y.conc ρ)=some b):b=r:=by
 rw[J5]at e;simp only[j]at e;unfold Instr.sameNow at h;split at h
 .rename_i q k a m a' i f g;cases x<;>simp only[V.conc]at f<;>first|(cases f;done)|skip
  cases y<;>simp only[V.conc]at g<;>first|(cases g;done)|skip
  simp only[Value.int.injEq]at f g;obtain⟨rfl,rfl⟩:=f;obtain⟨rfl,rfl⟩:=g;rw[i]at e;simp only[eq1]at e;rename_i k n m s;rcases o:wv k m with _|_
  .simp[o]at e
  simp only[o,oS,oA]at e;rw[j4]at e;split at h
  .simp only[oA]at h;rw[<-e,<-h]
  cases h
 .rename_i a a' i f g;cases x<;>simp only[V.conc]at f<;>first|(cases f;done)|skip
  cases y<;>simp only[V.conc]at g<;>first|(cases g;done)|skip
  rw[i]at e;simp only[eq1,oA]at e;simp only[oA]at h;simp only[Value.string.injEq]at f g;rw[<-e,<-h,<-f,<-g,Zq];have hb:∀l p:Ua,((⟨l.toArray⟩:ByteArray) == ⟨p.toArray⟩)=(l.toArray == p.toArray):=λ_ _=>rfl
  rw[hb];simp
 .rename_i a a' i f g;cases x<;>simp only[V.conc]at f<;>first|(cases f;done)|skip
  cases y<;>simp only[V.conc]at g<;>first|(cases g;done)|skip
  rw[i]at e;simp only[eq1,oA]at e;simp only[oA]at h;simp only[Value.bool.injEq]at f g;rw[<-e,<-h,f,g]
 cases h
theorem zB8{t:TypeId}{ti:TI}(a:c.ty.get t=some ti){x y:V}{r b:Bool}(e:J5 c 30 t x y=some r)(h:Instr.sameNow ti.desc (x.conc ρ) (y.conc ρ)=some b):b=r :=
 zAf (d:=29) a e h
def qT(ρ:Env)(r:Option (Nat×Ent)):Option (Nat×Value):=r.map λp=>(p.1,p.2.val.conc ρ)
theorem zB0{t:TypeId}{ti:TI}(d:c.ty.get t=some ti){k:V}:∀(es:List Ent) (i:Nat) (r:Option (Nat×Ent)) (b:Option (Nat×Value)),xe c t k es i=some r ->
  Instr.findNow ti.desc (k.conc ρ) (es.map (Ent.conc ρ)) i=some b->b=qT ρ r:=by
 intro es;induction es with
 | nil=>intro i r b e h;simp only[xe,oA]at e;simp only[List.map_nil,Instr.findNow,oA]at h;subst e;subst h;rfl
 | cons a es ih =>
  intro i r b e h;simp only[xe]at e;simp only[List.map_cons,Instr.findNow]at h;rcases hs:Instr.sameNow ti.desc (k.conc ρ) (a.conc ρ).key with _|q
  .simp[hs]at h
  simp only[hs]at h;rcases f:J5 c 30 t k a.key with _|g
  .simp[f]at e
  have:=zB8 (ρ:=ρ) d f hs;subst this;simp only[f]at e;cases q with
  | true=>simp only[oA]at e h;subst e;subst h;rfl
  | false=>exact ih (i+1) r b e h
theorem Jk(ok:CtxOK P c){t:TypeId}{k:V}(f:k.In D):∀(es:List Ent) (i:Nat) (r:Option (Nat×Ent)),xe c t k es i=some r->(∀e∈es,e.key.In D/\e.val.In D)->∀w:World,
  (Instr.findAsking t (k.conc ρ) (es.map (Ent.conc ρ)) i).run P w = .ok (qT ρ r) w:=by
 intro es;induction es with
 | nil=>intro i r e _ w;simp only[xe,oA]at e;subst e;simp[Instr.findAsking,qT]
 | cons a es ih =>
  intro i r e b w;simp only[xe]at e;simp only[List.map_cons,Instr.findAsking];rcases d:J5 c 30 t k a.key with _|q
  .simp[d]at e
  have h1:(Op.equal t (k.conc ρ) (a.conc ρ).key).run P w = .ok q w:=by unfold Op.equal;exact zBd ok 30 t k a.key q d f (b a (List.mem_cons_self ..)).1 Op.maxDepth w (by simp[Op.maxDepth])
  simp only[d]at e;cases q with
  | true=>simp only[oA]at e;subst e;simp only[Sem.run_bind,h1,Result.andThen_ok,if_true,Sem.run_pure];rfl
  | false=>simp only[Sem.run_bind,h1,Result.andThen_ok,Bool.false_eq_true,if_false];exact ih (i+1) r e (λe g=>b e (oN _ g)) w
theorem jr(ok:CtxOK P c){t:TypeId}{ti:TI}(a:c.ty.get t=some ti){k:V}(f:k.In D){es:List Ent}{r:Option (Nat×Ent)}(e:xe c t k es 0=some r)(d:∀e∈es,e.key.In D/\e.val.In D)(w:World):
  (Instr.findKey t (k.conc ρ) (es.map (Ent.conc ρ))).run P w = .ok (qT ρ r) w:=by
 obtain⟨i,kk⟩:=ok.ty t ti a;simp only[Instr.findKey,Sem.run_bind,run_underlying kk.und,Result.andThen_ok];cases g:Instr.findNow ti.desc (k.conc ρ) (es.map (Ent.conc ρ)) 0 with
 | some b=>simp[zB0 a es 0 r b e g]
 | none=>exact Jk ok f es 0 r e d w
end
section
variable {P:Program}{c:Ctx}{ρ:Env}{D:Nat->Prop}{h:H}{w:World}
theorem zBe{t:TypeId}{k:V}:∀(es:List Ent) (i:Nat) (j:Nat) (e:Ent),xe c t k es i=some (some (j,e))->i<=j/\es[j-i]? = some e:=by
 intro es;induction es with
 | nil=>intro i j e h;simp[xe]at h
 | cons a es ih =>
  intro i j e h;simp only[xe]at h;rcases b:J5 c 30 t k a.key with _|q
  .simp[b]at h
  simp only[b]at h;cases q with
  | true=>simp only[oA,oB]at h;obtain⟨rfl,rfl⟩:=h;simp
  | false=>obtain⟨h1,f⟩:=ih (i+1) j e h;refine⟨oy,?_⟩;obtain⟨d,g⟩:∃d,j-i=d+1:=⟨j-i-1,oy⟩;rw[g,List.getElem?_cons_succ,show d=j-(i+1)from oy];exact f
theorem qD(o b:Bool)(v:V):(qC o v b).conc ρ=if o then .tuple #[v.conc ρ,.bool b] else v.conc ρ:=by cases o<;>simp[qC,V.conc,V.concL]
theorem Zy{o b:Bool}{v:V}(a:v.In D):(qC o v b).In D:=by cases o<;>simp[qC,V.In,V.InL,a]
theorem zET(ok:CtxOK P c){t:TypeId}{m k v:V}{o:Bool}(e:ke c t h m k o=some v)(hr:HR ρ D h w)(hm:m.In D)(q:k.In D):
  (Instr.lookup t (m.conc ρ) (k.conc ρ) o).run P w = .ok (v.conc ρ) w/\v.In D:=by
 unfold ke at e;split at e
 .rename_i ti s;obtain⟨i,kk⟩:=ok.ty t ti s;have u:=kk.und;split at e
  .rename_i kt x E;rw[E]at u;have key:∀es,X7 c kt x es k o=some v->(∀e∈es,e.key.In D/\e.val.In D) ->
     (do
      Instr.checkKey (es.map (Ent.conc ρ)).toArray.isEmpty 10000 kt (k.conc ρ)
      let (v,ok) <-match <-Instr.findKey kt (k.conc ρ) (es.map (Ent.conc ρ)).toArray.toList with
       | some (_,v)=>pure (v,true)
       | none=>pure (<-zeroValue x,false)
      pure (if o then Value.tuple #[v,.bool ok] else v):Sem Value).run P w = .ok (v.conc ρ) w/\v.In D:=by
    intro es e a;unfold X7 at e;rcases f:Ye c kt k with _|_
    .simp[f]at e
    simp only[f,oS]at e;have b:∃n,c.ty.get kt=some n:=by
     unfold Ye at f;split at f
     .cases f
     rename_i n h;exact⟨n,h⟩
    obtain⟨n,b⟩:=b;have g:=OT (ρ:=ρ) ok f q (es.map (Ent.conc ρ)).toArray.isEmpty w;split at e
    .rename_i j C p;simp only[oA]at e;subst e;have d:=jr (ρ:=ρ) ok b q p a w;have y:=a C (List.mem_of_getElem? (zBe es 0 j C p).2);simp only[Sem.run_bind,g,Result.andThen_ok,d,qT,oo,Sem.run_pure,qD];exact⟨trivial,Zy y.2⟩
    .rename_i p;have d:=jr (ρ:=ρ) ok b q p a w;split at e
     .rename_i F A;obtain⟨N,G⟩:=ok.ty x F A;split at e
      .rename_i z H;simp only[oA]at e;subst e;obtain⟨I,J⟩:=qJ G H ρ w;simp only[Sem.run_bind,g,Result.andThen_ok,d,qT,Option.map_none,Sem.run_pure,I,qD];exact⟨trivial,Zy (J D)⟩
      cases e
     cases e
    cases e
   split at e
   .rename_i es a;unfold zJB at a;split at a
    .simp only[oA]at a;subst a;have:=key [] e (λ_ h=>by cases h);simp only[List.map_nil,Sem.run_bind]at this;simp only[Instr.lookup,V.conc,Sem.run_bind,run_underlying u,Result.andThen_ok,Sem.run_pure];exact this
    .rename_i r;split at a
     .rename_i l clock K;simp only[oA]at a;subst a;simp only[V.In]at hm;obtain⟨L,M⟩:=hr.rel r _ hm K;have:=key l e M;simp only[Sem.run_bind]at this;have B:(getObj (ρ.blk r)).run P w = .ok (.map (l.map (Ent.conc ρ)).toArray clock) w:=by simp[getObj,Sem.run,L]
      simp only[Instr.lookup,V.conc,Sem.run_bind,run_underlying u,Result.andThen_ok,Sem.run_pure,B];exact this
     cases a
    cases a
   cases e
  cases e
 cases e
theorem zLG:∀(es:List Ent) (i:Nat) (k v:V),((Yj es i k v).map (Ent.conc ρ)).toArray=(es.map (Ent.conc ρ)).toArray.modify i (λe=>{ e with key:=k.conc ρ,val:=v.conc ρ }):=by
 intro es i k v;apply Array.ext';rw[Array.toList_modify];induction es generalizing i with
 | nil=>simp[Yj]
 | cons a es ih =>
  rcases i with _|i
  .simp[Yj,Ent.conc]
  simpa [Yj]using ih i
theorem zP7:∀(es:List Ent) (i:Nat) (k v:V),(∀e∈es,e.key.In D/\e.val.In D)->k.In D->v.In D->∀e∈Yj es i k v,e.key.In D/\e.val.In D:=by
 intro es;induction es with
 | nil=>intro i k v _ _ _ e b;simp[Yj]at b
 | cons a es ih =>
  intro i k v d f g e b;cases i with
  | zero =>
   rcases oq.1 b with rfl|b
   .exact⟨f,g⟩
   exact d e (oN _ b)
  | succ i =>
   rcases oq.1 b with rfl|b
   .exact d _ (List.mem_cons_self ..)
   exact ih i k v (λe h=>d e (oN _ h)) f g e b
theorem zBY{v:V}{h':H}(e:OB h=some (v,h'))(hr:HR ρ D h w)(t:TypeId):∃ρ' w',(Instr.makeMap t none).run P w = .ok (v.conc ρ') w'/\Mv ρ D h w ρ' h' w'/\HR ρ' (Dx D h h') h' w'/\v.In (Dx D h h'):=by
 unfold OB at e;rcases hb:Nat.blt h.nx T.top with _|_
 .simp[hb]at e
 simp only[hb,oS,oA,oB]at e;obtain⟨rfl,rfl⟩:=e;have a:=(zY _ _).1 hb;have b:ORel (ρ.at h.nx w.heap.size 0) (Dx D h (h.new (.map [] 0))) h.nx (.map [] 0) (some (.map #[] 0)):=⟨by simp,λ_ h=>by cases h⟩
 refine⟨ρ.at h.nx w.heap.size 0,w.alloc (.map #[] 0),?_,Mv.new hr 0 a rfl,hr.new 0 a b,by simp only[V.In];exact .inr ⟨oV _,Nat.lt_succ_self _⟩⟩;simp[Instr.makeMap,V.conc]
theorem JL{a b:V}(h:KI a b=true)(n:Nat):Instr.sameBits n (a.conc ρ) (b.conc ρ)=true:=by
 unfold KI at h;split at h
 .cases n<;>simpa [Instr.sameBits,V.conc]using h
 .simp only[oM]at h;obtain rfl:=(XM _ _).1 h.1;rw[j4]at h;cases n<;>simpa [Instr.sameBits,V.conc]using h.2
 .rename_i a b;rw[Zq]at h;have:=eq_of_beq h;subst this;have hb:∀x:ByteArray,(x == x)=true:=λx=>by show(x.data == x.data)=true;simp
  cases n<;>simp[Instr.sameBits,V.conc,hb]
 cases h
theorem zDn:∀{l m:Ug},KJ l m=true->∀n,l.length=m.length/\((l.map (V.conc ρ)).zip (m.map (V.conc ρ))).all (λ(x,y)=>Instr.sameBits n x y)=true:=by
 intro l;induction l with
 | nil=>intro m h n;cases m<;>simp_all [KJ]
 | cons a l ih =>
  intro m h n;rcases m with _|⟨b,m⟩
  .simp[KJ]at h
  simp only[KJ,oM]at h;obtain⟨h1,d⟩:=ih h.2 n;refine⟨by simp[h1],?_⟩;simp only[List.map_cons,List.zip_cons_cons,List.all_cons,oM];exact⟨JL h.1 n,d⟩
theorem zGC{a b:V}(h:Zb a b=true)(n:Nat):Instr.sameBits (n+1) (a.conc ρ) (b.conc ρ)=true:=by
 unfold Zb at h;split at h
 .obtain⟨h1,d⟩:=zDn (ρ:=ρ) h n;simp only[V.conc,V.concL_eq,Instr.sameBits,oM];exact⟨by simp[h1],d⟩
 exact JL h _
theorem Oz{a b:V}(h:Zb a b=true)(w:World):(Instr.keyThatStays (a.conc ρ) (b.conc ρ)).run P w = .ok (b.conc ρ) w:=by have:=zGC (ρ:=ρ) h 9999;unfold Instr.keyThatStays;rw[if_pos this];rfl
theorem zGr(ok:CtxOK P c){t:TypeId}{m k v:V}{h':H}(e:Yg c t h m k v=some h')(hr:HR ρ D h w)(hm:m.In D)(n:k.In D)(M:v.In D):
  ∃w',(Instr.mapUpdate t (m.conc ρ) (k.conc ρ) (v.conc ρ)).run P w = .ok () w'/\Mv ρ D h w ρ h' w'/\HR ρ (Dx D h h') h' w':=by
 unfold Yg at e;split at e
 .rename_i ti E;obtain⟨i,kk⟩:=ok.ty t ti E;have F:=kk.und;split at e
  .rename_i kt Q r O;rw[O]at F;simp only[V.In]at hm;split at e
   .rename_i es clock G;rcases l:Ye c kt k with _|_
    .simp[l]at e
    simp only[l,oS]at e;obtain⟨N,A⟩:=hr.rel r _ hm G;have d:∃B,c.ty.get kt=some B:=by
     unfold Ye at l;split at l
     .cases l
     rename_i B h;exact⟨B,h⟩
    obtain⟨B,d⟩:=d;have p:=OT (ρ:=ρ) ok l n false w;have s:(getObj (ρ.blk r)).run P w = .ok (.map (es.map (Ent.conc ρ)).toArray clock) w:=by simp[getObj,Sem.run,N]
    have u:∀o,(setObj (ρ.blk r) o).run P w = .ok () (w.putObj (ρ.blk r) o):=λo=>by simp[setObj,Sem.run,N,World.putObj]
    have fin:∀(b:List Ent) (a:Nat),(∀e∈b,e.key.In D/\e.val.In D)->h'=h.upd r (some (.map b a)) ->
      Mv ρ D h w ρ h' (w.putObj (ρ.blk r) (.map (b.map (Ent.conc ρ)).toArray a))/\HR ρ (Dx D h h') h' (w.putObj (ρ.blk r) (.map (b.map (Ent.conc ρ)).toArray a)):=by
     intro b a x I;subst I;refine⟨Mv.upd hr hm G rfl rfl,?_⟩;rw[jT (xY _ _ _)];exact hr.upd hm G rfl rfl ⟨rfl,x⟩
    split at e
    .rename_i j J C;rcases hs:Zb J.key k with _|_
     .simp[hs]at e
     simp only[hs,oS,oA]at e;have g:=jr (ρ:=ρ) ok d n C A w;have f:=(zBe es 0 j J C).2;obtain⟨K,L⟩:=fin _ _ (zP7 es j k v A n M) e.symm;refine⟨_,?_,K,L⟩;have y:((((es.map (Ent.conc ρ)).toArray[j]?).map (·.key)).getD (k.conc ρ))=J.key.conc ρ:=by rw[Nat.sub_zero]at f;simp[f,Ent.conc]
     simp only[V.conc,Instr.mapUpdate,Sem.run_bind,run_underlying F,Result.andThen_ok,s,p,g,qT,oo,y,Oz hs,u,zLG]
    .rename_i C;simp only[oA]at e;have g:=jr (ρ:=ρ) ok d n C A w;obtain⟨K,L⟩:=fin (es++[⟨k,v,clock⟩]) (clock+1) (λe I=>by
      rcases List.mem_append.1 I with q|q
      .exact A e q
      rw[List.mem_singleton.1 q];exact⟨n,M⟩) e.symm
     refine⟨_,?_,K,L⟩;have z:((es++[(⟨k,v,clock⟩:Ent)]).map (Ent.conc ρ)).toArray=(es.map (Ent.conc ρ)).toArray.push { key:=k.conc ρ,val:=v.conc ρ,born:=clock }:=by simp[Ent.conc]
     simp only[V.conc,Instr.mapUpdate,Sem.run_bind,run_underlying F,Result.andThen_ok,s,p,g,qT,Option.map_none,u,z]
    cases e
   cases e
  cases e
 cases e
end
end Go.Sim
namespace Go.Sim
section
variable {P:Program}{c:Ctx}{ρ:Env}{D:Nat->Prop}{w:World}
theorem zEX(ok:CtxOK P c){t q:TypeId}{x v:V}{o:Bool}(e:zMB c t x o=some v)(p:x.In D):(Instr.typeAssert (x.conc ρ) q t o).run P w = .ok (v.conc ρ) w/\v.In D:=by
 unfold zMB at e;split at e
 .cases e
 rename_i ti g;obtain⟨i,kk⟩:=ok.ty t ti g;have f:=kk.und;split at e
 .cases e
 .rename_i d y a;simp only[V.In]at p;cases hb:Nat.beq d t with
  | true=>have j:=oL hb;subst j;simp only[hb,oS,oA]at e;subst e;refine⟨?_,Zy p⟩;cases b:ti.desc<;>rw[b]at f<;>first|(exact absurd b (a _))|simp[Instr.typeAssert,run_underlying f,V.conc,qD]
  | false =>
   have k:¬d=t:=λh=>by rw[h]at hb;simp at hb
   simp only[hb,oT]at e;rcases o with _|_
   .simp at e
   simp only[oS]at e;split at e
   .rename_i z l;simp only[oA]at e;subst e;obtain⟨m,n⟩:=qJ kk l ρ w;refine⟨?_,Zy (n D)⟩;cases b:ti.desc<;>rw[b]at f<;>first|(exact absurd b (a _))|simp[Instr.typeAssert,run_underlying f,V.conc,k,m,qD]
   cases e
 .rename_i a;rcases o with _|_
  .simp at e
  simp only[oS]at e;split at e
  .rename_i z l;simp only[oA]at e;subst e;obtain⟨m,n⟩:=qJ kk l ρ w;refine⟨?_,Zy (n D)⟩;cases b:ti.desc<;>rw[b]at f<;>first|(exact absurd b (a _))|simp[Instr.typeAssert,run_underlying f,V.conc,m,qD]
  cases e
 cases e
theorem zEm(name:String):∀l:List Method,zIk name l=l.find? (λm=>m.name == name):=by
 intro l;induction l with
 | nil=>rfl
 | cons m l ih=>simp only[zIk,List.find?_cons];cases m.name == name<;>simp[ih]
theorem zBX(ok:CtxOK P c){t:TypeId}{name:String}{f:Nat}(e:YR c t name=some (f,none))(n:Nat)(v:Value)(w:World):(method (n+1) t v name).run P w = .ok (f,v) w:=by
 unfold YR at e;split at e
 .cases e
 rename_i ti h;obtain⟨i,kk⟩:=ok.ty t ti h;split at e
 .cases e
 rename_i m hm;split at e
 .rename_i r j k l;cases hb:(zRO ti.desc == j)with
  | false=>simp only[hb,oT]at e;split at e<;>simp at e
  | true =>
   simp only[hb,oS,oA,oB,and_true]at e;subst e;have p:=kk.und;rw[zEm,<-kk.meth]at hm;have a:i.methods.find? (λm=>m.name == name)=some m:=by rw[<-hm];simp
   have b:m.path = #[]:=by apply Array.ext';simpa using k
   have d:(typeInfo t).run P w = .ok i w:=by simp[typeInfo,kk.info]
   rw[method];simp only[Sem.run_bind,d,Result.andThen_ok,a,b,l,follow,Sem.run_pure];have g:∀o,(receiverAt t (Place.val v) j o).run P w = .ok v w:=by
    intro o;unfold receiverAt;simp only[Sem.run_bind,run_underlying p,Result.andThen_ok];cases q:ti.desc<;>cases j<;>rw[q]at hb<;>first
     | (simp[zRO]at hb;done)
     | simp[Place.get]
   simp[g]
 cases e
theorem zBW(ok:CtxOK P c){t:TypeId}{name:String}{f el:Nat}(e:YR c t name=some (f,some el))(n:Nat)(v u:V){h:H}(k:zo c el h v=some u)(hr:HR ρ D h w)(C:v.In D):
  (method (n+1) t (v.conc ρ) name).run P w = .ok (f,u.conc ρ) w/\u.In D:=by
 obtain⟨hl,s⟩:=J7 ok k hr C;refine⟨?_,s⟩;unfold YR at e;split at e
 .cases e
 rename_i ti y;obtain⟨i,kk⟩:=ok.ty t ti y;split at e
 .cases e
 rename_i m hm;split at e
 .rename_i K E F G;cases hb:(zRO ti.desc == E)with
  | true=>simp[hb]at e
  | false =>
   simp only[hb,oT]at e;split at e
   .rename_i l z;simp only[oA,oB]at e;obtain⟨rfl,rfl⟩:=e;have B:=kk.und;have I:ti.desc = .pointer l:=by
     cases A:ti.desc<;>rw[A]at z<;>simp[zUD]at z;rw[z]
    rw[I]at B;rw[zEm,<-kk.meth]at hm;have g:i.methods.find? (λm=>m.name == name)=some m:=by rw[<-hm];simp
    have j:m.path = #[]:=by apply Array.ext';simpa using F
    have p:(typeInfo t).run P w = .ok i w:=by simp[typeInfo,kk.info]
    cases v<;>first|(simp[zo]at k;done)|skip
    rename_i b o;have d:(loadVar l ⟨ρ.blk b,ρ.off b+o,none⟩).run P w = .ok (u.conc ρ) w:=by have:=hl;simp only[V.conc,Instr.loadAt,Instr.sureAddr,Sem.run_bind,Sem.run_pure,Result.andThen_ok]at this;exact this
    rw[method];simp only[Sem.run_bind,p,Result.andThen_ok,g,j,G,follow,Sem.run_pure];have q:∀(a b:Value) (x:Addr),∀s1 J:ByteArray,(Builtin.ssaWrapNilChk_ #[t] t #[.pointer (some x),.string s1,.string J]).run P w = .ok (.pointer (some x)) w:=λ_ _ _ _ _=>rfl
    have r:∀o',(receiverAt t (Place.val (V.conc ρ (.ptr b o))) false o').run P w = .ok (u.conc ρ) w:=by
     intro o';unfold receiverAt;simp only[Sem.run_bind,run_underlying B,Result.andThen_ok,Place.get,V.conc,Sem.run_pure];rcases o' with _|L
     .simp[asAddr,d]
     simp only[strVal,q (.bool true) (.bool true),Sem.run_bind,Result.andThen_ok];simp[asAddr,d]
    simp[r]
   cases e
 cases e
end
end Go.Sim
namespace Go.Sim
section
variable {P:Program}{c:Ctx}{ρ:Env}{D:Nat->Prop}{h:H}{w:World}
theorem zBZ(f:Value->ByteArray->Sem (ForInStep ByteArray))(a:∀(n:Int) (s:ByteArray) (w:World),(f (.int .u8 n) s).run P w = .ok (.yield (s.push (UInt8.ofNat n.toNat))) w):
  ∀{l:Ug}{y:Ua},xq l=some y->∀(s:ByteArray) (w:World),(forIn (m:=Sem) ((l.map (V.conc ρ))) s f).run P w = .ok ⟨s.data++y.toArray⟩ w:=by
 intro l;induction l with
 | nil=>intro y e s w;simp only[xq,oA]at e;subst e;simp
 | cons v l ih =>
  intro y e s w;cases v with
  | int k n =>
   cases k<;>simp only[xq]at e<;>try (cases e;done)
   rcases hb:xq l with _|q
   .simp[hb]at e
   simp only[hb,oA]at e;subst e;simp only[List.map_cons,V.conc,List.forIn_cons,Sem.run_bind,a,Result.andThen_ok];rw[ih hb];congr 2;apply Array.ext';simp[ByteArray.push]
  | _=>simp[xq]at e
theorem yi(l:Ua):yZ l=l.map λb=>V.int .u8 (b.toNat:Int):=by
 induction l with
 | nil=>rfl
 | cons b l ih=>simp[yZ,ih]
theorem kY(l:Ua):∀v∈yZ l,v.In D:=by intro v a;rw[yi]at a;obtain⟨b,_,rfl⟩:=List.mem_map.1 a;simp[V.In]
theorem Xv{r:Option Cs}{esz:Rk}{op:Bool}{b:Nat}{h':H}(e:qG h r esz op=some (b,h')):
  h.nx<T.top/\∃cs,r=some cs/\b=h.nx/\h'=h.new (.cells cs esz true op):=by
 unfold qG at e;rcases h1:Nat.blt h.nx T.top with _|_
 .simp[h1]at e
 rcases r with _|cs
 .simp[h1]at e
 simp only[h1,oS,oA,oB]at e;exact⟨(zY _ _).1 h1,cs,rfl,e.1.symm,e.2.symm⟩
theorem zLy{l:Ug}{esz:Rk}{op:Bool}{b:Nat}{h':H}(e:qu h l esz op=some (b,h')):za l=true/\qG h (Cs.ofL l) esz op=some (b,h'):=by
 unfold qu at e;rcases a:za l with _|_
 .simp[a]at e
 simp only[a,oS]at e;exact⟨rfl,e⟩
theorem zQY{l:Ug}{esz:Rk}{op:Bool}{b:Nat}{h':H}(e:qu h l esz op=some (b,h')):
  h.nx<T.top/\za l=true/\∃cs,cs.len=l.length/\(∀i,cs.get? i=l[i]?)/\b=h.nx/\h'=h.new (.cells cs esz true op):=by
 obtain⟨h1,a⟩:=zLy e;obtain⟨d,cs,f,g,j⟩:=Xv a;obtain⟨k,m⟩:=Cs.ofL_eq f;exact⟨d,h1,cs,k,m,g,j⟩
theorem K5(r:HR ρ D h w){rc:Option Cs}{l:Ug}{esz:Rk}{b:Nat}{h':H}(e:qG h rc esz false=some (b,h'))(hl:∀cs,rc=some cs->cs.len=l.length/\∀i,cs.get? i=l[i]?)(d:∀v∈l,v.In D)(t:TypeId)(j:∀u,esz.ty=u+1->t=u):
  ∃ρ',Mv ρ D h w ρ' h' (w.alloc (.cells (l.map (V.conc ρ)).toArray t))/\HR ρ' (Dx D h h') h' (w.alloc (.cells (l.map (V.conc ρ)).toArray t))/\Dx D h h' b /\
   ρ'.blk b=w.heap.size/\ρ'.off b=0:=by
 obtain⟨k,cs,h1,rfl,rfl⟩:=Xv e;obtain⟨f,g⟩:=hl cs h1;obtain⟨a1,a2⟩:=OH r k (l:=cs) (esz:=esz) (op:=false) (λi v a=>d v (List.mem_of_getElem? (by rw[<-g];exact a))) (l.map (V.conc ρ)).toArray t (0,0) 0 (λi v a=>by rw[g]at a;simp[a]) (λi _ _=>by simp) (by simp[f]) (by simp[f]) (λu m=>⟨j u m,.inl rfl⟩);exact⟨_,a2,a1,zCo,Env.at_blk _ _ _ _,Env.at_off _ _ _ _⟩
theorem XN(r:HR ρ D h w){l:Ug}{esz:Rk}{b:Nat}{h':H}(e:qu h l esz false=some (b,h'))(a:∀v∈l,v.In D)(t:TypeId)(d:∀u,esz.ty=u+1->t=u):
  ∃ρ',Mv ρ D h w ρ' h' (w.alloc (.cells (l.map (V.conc ρ)).toArray t))/\HR ρ' (Dx D h h') h' (w.alloc (.cells (l.map (V.conc ρ)).toArray t))/\Dx D h h' b /\
   ρ'.blk b=w.heap.size/\ρ'.off b=0:=K5 r (zLy e).2 (λ_ h=>Cs.ofL_eq h) a t d
theorem zHG{b n:Nat}{cs:Array Value}{e:TypeId}{fz:Nat×Nat}(h:w.heap[b]? = some (.cells cs e fz)):
  w.freeze ⟨b,n,none⟩ 1=w.putObj b (.cells cs e (if fz.1 == fz.2 then (n,n+1) else (min fz.1 n,max fz.2 (n+1)))):=by
 have hb:b<w.heap.size:=by
  rcases Nat.lt_or_ge b w.heap.size with g|g
  .exact g
  rw[Array.getElem?_eq_none g]at h;cases h
 unfold World.freeze World.putObj;rw[if_neg db];congr 1;apply Array.ext_getElem?;intro i;obtain⟨lo,hi⟩:=fz;rw[Array.getElem?_modify];by_cases hi2:b=i
 .subst hi2;have a:w.heap[b] = .cells cs e (lo,hi):=by simpa [Array.getElem?_eq_getElem hb]using h
  simp[hb,a]
 simp[hi2]
theorem zEP(ok:CtxOK P c){s d:TypeId}{v r:V}{h':H}(e:xz c s d h v=some (r,h'))(hr:HR ρ D h w)(j:v.In D):
  Post ρ D h w ((convert s d (v.conc ρ)).run P w) r h':=by
 unfold xz at e;split at e
 .rename_i ts td W O;obtain⟨i1,N⟩:=ok.ty s ts W;obtain⟨i2,Q⟩:=ok.ty d td O;split at e
  .rename_i k k' kk n a f;simp only[oA,oB]at e;obtain⟨rfl,rfl⟩:=e;refine Post.of_eq ?_ (Post.pure hr (v:=.int k' (zU k' n)) (by simp[V.In]));simp[convert,zg N,zg Q,a,f,V.conc,Conv.intToInt,xk]
  .rename_i l a f;simp only[oA,oB]at e;obtain⟨rfl,rfl⟩:=e;refine Post.of_eq ?_ (Post.pure hr (v:=.str l) (by simp[V.In]));simp[convert,zg N,zg Q,a,f,V.conc]
  .rename_i el l a f;split at e
   .rename_i B m;obtain⟨X,C⟩:=ok.ty el B m;split at e
    .rename_i z;split at e
     .rename_i b h1 hn;simp only[oA,oB]at e;obtain⟨rfl,rfl⟩:=e;obtain⟨g1,g2,ccs,cl,cg,rfl,rfl⟩:=zQY hn;generalize Y:Question.cut (Question.appendCap l.length 0 el) (w.tape w.drawn (Question.appendCap l.length 0 el))=E;have hge:l.length<=E:=by rw[<-Y];simp only[Question.cut];omega
      have hrd:HR ρ D h w.drew:=hr.of_heap rfl
      let cs:Array Value:=(yZ l |>.map (V.conc ρ)).toArray++Array.replicate (E-l.length) (.int .u8 0)
      have I:cs.size=E:=by simp[cs,yi];omega
      obtain⟨a1,a2⟩:=OH hrd g1 (l:=ccs) (esz:=⟨1,0,0⟩) (op:=true) (λi v j=>kY l v (List.mem_of_getElem? (by rw[<-cg];exact j))) cs el (E,E+1) E
       (λi v j=>by
        rw[cg]at j;have hi:i<(yZ l).length:=(List.getElem?_eq_some_iff.1 j).1;simp only[cs];rw[Array.getElem?_append_left (by simpa using hi)];simp[j])
       (λi hi _=>by rw[I]at hi;omega) (by rw[I,cl,yi];simpa using hge) (by rw[I];simp) (λt ht=>by cases ht)
      refine⟨_,_,?_,Mv.trans hr.lt (Mv.of_heap (w':=w.drew) rfl rfl ⟨rfl,Nat.le_succ _⟩ rfl) (by rw[zr];exact a2),a1,by simp only[V.In];exact zCo⟩;have e1:(l.toArray.map λb=>Value.int .u8 (b.toNat:Int))=((yZ l).map (V.conc ρ)).toArray:=by apply Array.ext';simp[yi,V.conc]
      have A:(w.drew.alloc (.cells cs el)).shape? w.drew.heap.size=some (el,cs.size):=by unfold World.shape?;rw[World.alloc_heap_new]
      simp only[convert,zg N,zg Q,a,f,V.conc,Sem.run_bind,Result.andThen_ok,zg C,z,Conv.stringToBytes,run_choose,Question.forced,if_false,Bool.false_eq_true,World.drew_eq,e1,jq,Y];simp only[newRow,Sem.run_bind,run_newObj,Result.andThen_ok,World.alloc_eq,Sem.run_pure,markStringish,run_shape];rw[show((yZ l).map (V.conc ρ)).toArray++Array.replicate (E-l.length) (Value.int IntKind.u8 0)=cs from rfl,A];simp only[run_freeze,Result.andThen_ok,yb,Nat.add_zero];have R:(w.drew.alloc (.cells cs el)).freeze ⟨w.drew.heap.size,cs.size,none⟩ 1=w.drew.alloc (.cells cs el (E,E+1)):=by
       unfold World.freeze;simp only[World.alloc,I];rw[if_neg db];congr 1;apply Array.ext_getElem?;intro i;rw[Array.getElem?_modify,Array.getElem?_push,Array.getElem?_push];by_cases hi:i=w.drew.heap.size
       .subst hi;simp
       simp only[hi,if_false];rw[if_neg oy]
      simp only[Cap.val,Env.at_blk,Env.at_off,Env.at_cap,Nat.sub_zero];rw[show(⟨(⟨w.drew.heap.size,0,none⟩:Addr).block,cs.size,none⟩:Addr)=⟨w.drew.heap.size,cs.size,none⟩from rfl,R]
     cases e
    cases e
   cases e
  .rename_i el a f;split at e
   .rename_i B m;obtain⟨X,C⟩:=ok.ty el B m;split at e
    .rename_i z;simp only[oA,oB]at e;obtain⟨rfl,rfl⟩:=e;refine Post.of_eq ?_ (Post.pure hr (v:=.str []) (by simp[V.In]));simp[convert,zg N,zg Q,a,f,V.conc,zg C,z,Conv.bytesToString];rfl
    cases e
   cases e
  .rename_i tp b o a f;simp only[V.In]at j;split at e
   .rename_i tt l esz wr op htt J;obtain⟨X,C⟩:=ok.ty tp tt htt;rcases hb:Nat.blt 0 tt.size with _|_
    .simp[hb]at e
    have hs:=(zY _ _).1 hb;simp only[hb,oS]at e;split at e
    .rename_i u hu;simp only[oA,oB]at e;obtain⟨rfl,rfl⟩:=e;refine Post.of_eq ?_ (Post.pure hr (v:=.ptr b o) (by simpa [V.In]using j));obtain⟨p,K,fz,Z,hc,_,_⟩:=hr.rel b _ j J;have q:=hc _ _ hu;have hlt:ρ.off b+o<p.size:=by
      rcases Nat.lt_or_ge (ρ.off b+o) p.size with g|g
      .exact g
      rw[Array.getElem?_eq_none g]at q;cases q
     have F:w.shape? (ρ.blk b)=some (K,p.size):=by unfold World.shape?;rw[Z]
     exact Go.Lib.run_to_unsafe w ⟨ρ.blk b,ρ.off b+o,none⟩ (by rw[N.und,a]) (by rw[Q.und,f]) C.info (by rw[C.size];omega) F hlt
    cases e
   cases e
  .rename_i up b o a f;simp only[V.In]at j;split at e
   .rename_i tu l esz htu J;obtain⟨X,C⟩:=ok.ty up tu htu;split at e
    .rename_i S T;split at e
     .rename_i B m;obtain⟨i4,k4⟩:=ok.ty S B m;rcases hb:(Nat.blt 0 B.size && Nat.beq l.len B.size && c.lies S up o) with _|_
      .simp[hb]at e
      simp only[hb,oS,oA,oB]at e;obtain⟨rfl,rfl⟩:=e;simp only[oM]at hb;obtain⟨⟨b1,b2⟩,b3⟩:=hb;have hs:=(zY _ _).1 b1;have hlen:=oL b2;refine Post.of_eq ?_ (Post.pure hr (v:=.ptr b o) (by simpa [V.In]using j));obtain⟨p,K,fz,Z,hc,_,hw⟩:=hr.rel b _ j J;obtain⟨G,_,_,A,U⟩:=hw rfl;obtain⟨rfl,_⟩:=U S T;simp only[Bool.false_eq_true,if_false]at A;have F:w.shape? (ρ.blk b)=some (K,p.size):=by unfold World.shape?;rw[Z]
      have L:P.cellsOf K=B.size:=by simp[Program.cellsOf,k4.info,k4.size]
      have hl:=ok.lies _ _ _ b3;refine Go.Lib.run_from_unsafe w ⟨ρ.blk b,ρ.off b+o,none⟩ (by rw[N.und,a]) (by rw[Q.und,f]) C.info F ?_;rw[L,A,hlen,Nat.div_self hs,G,Nat.zero_add];exact hl
     cases e
    cases e
   cases e
  .rename_i el b o len E a f;simp only[V.In]at j;split at e
   .rename_i B m;obtain⟨X,C⟩:=ok.ty el B m;split at e
    .rename_i z;split at e
     .rename_i l esz wr op J;split at e
      .rename_i x Z;split at e
       .rename_i y hy;simp only[oA,oB]at e;obtain⟨rfl,rfl⟩:=e;obtain⟨p1,_,_⟩:=jH (P:=P) hr j J Z;refine Post.of_eq ?_ (Post.pure hr (v:=.str y) (by simp[V.In]));simp only[convert,zg N,zg Q,a,f,V.conc,Sem.run_bind,Result.andThen_ok,zg C,z,Conv.bytesToString,p1];rw[<-Array.forIn_toList];simp only;rw[zBZ (P:=P) (ρ:=ρ) _ (λn s w=>by simp) hy ByteArray.empty w];simp
       cases e
      cases e
     cases e
    cases e
   cases e
  .rename_i el0 el b o len E a f;simp only[V.In]at j;cases M:Nat.beq s d with
   | false=>simp[M]at e
   | true =>
   have M:=oL M;subst M;simp only[Nat.beq_refl,oS]at e;split at e
   .rename_i B m;obtain⟨X,C⟩:=ok.ty el B m;split at e
    .rename_i z;split at e
     .rename_i l esz op J;rcases hz:(Nat.beq esz.fz 0 && Nat.blt 0 esz.ty) with _|_
      .simp[hz]at e
      simp only[hz,oS,oA,oB]at e;obtain⟨rfl,rfl⟩:=e;simp only[oM]at hz;have hz1:=oL hz.1;have hz2:=(zY _ _).1 hz.2;obtain⟨p,K,fz,hxx,q,hcin,hw⟩:=hr.rel b _ j J;obtain⟨G,hfz,hle,A,U⟩:=hw rfl;have F:w.shape? (ρ.blk b)=some (K,p.size):=by unfold World.shape?;rw[hxx]
      have R:=zHG (w:=w) (n:=p.size) hxx;obtain⟨S,T⟩:∃S,esz.ty=S+1:=⟨esz.ty-1,oy⟩;have hlo:fz.1=fz.2:=by
       rcases(U S T).2 with g|g
       .exact g
       omega
      have hO:ORel ρ D b (.cells l ⟨esz.n,0,0⟩ true op) (some (.cells p K (if fz.1 == fz.2 then (p.size,p.size+1) else (min fz.1 p.size,max fz.2 (p.size+1))))):=by refine⟨p,K,_,rfl,q,hcin,λ_=>⟨G,?_,hle,A,λt ht=>by cases ht⟩⟩;intro i hi _;rw[if_pos (by simpa using hlo)];simp only;omega
      refine⟨ρ,w.putObj (ρ.blk b) (.cells p K (if fz.1 == fz.2 then (p.size,p.size+1) else (min fz.1 p.size,max fz.2 (p.size+1)))),?_,Mv.upd hr j J rfl rfl,by rw[jT (xY _ _ _)];exact HR.upd hr j J rfl rfl hO,by rw[jT (xY _ _ _)];simpa [V.In]using j⟩;rw[<-R];simp only[convert,zg N,a,Sem.run_bind,Result.andThen_ok];have htd2:ts=td:=by rw[W]at O;exact Option.some.inj O
      have hel:el0=el:=by rw[<-htd2,a]at f;injection f
      subst hel;simp only[V.conc,zg C,z,Sem.run_bind,Result.andThen_ok,beq_self_eq_true,markStringish,run_shape,F,run_freeze,Sem.run_pure]
     cases e
    cases e
   cases e
  cases e
 cases e
end
end Go.Sim
namespace Go.Sim
section
variable {P:Program}{c:Ctx}{ρ:Env}{D:Nat->Prop}{h:H}{w:World}
theorem jW{v:V}{d top m:Nat}(e:bnd (some v) d top=some m):m<=top/\∃k,v = .int k (m:Int):=by
 cases v<;>simp only[bnd]at e<;>try (cases e;done)
 rename_i k n;rcases a:yj n with _|q
 .simp[a]at e
 simp only[a]at e;rcases hb:Nat.ble q top with _|_
 .simp[hb]at e
 simp only[hb,oS,oA]at e;subst e;exact⟨oH hb,k,by rw[qx a]⟩
theorem yf{v:V}{top m:Nat}(hm:m<=top){k:IntKind}(a:v = .int k (m:Int))(code:BoundsCode)(w:World):(Instr.sliceBound (v.conc ρ) top code).run P w = .ok m w:=by
 subst a;have b:(m:Int)<=(top:Int):=oy
 simp[Instr.sliceBound,V.conc,asIntOf,hm]
theorem xB{isS:Bool}{len cp m hh ll:Nat}{lo hi mx:Ui}(i:bnd mx cp cp=some m)(g:bnd hi len m=some hh)(a:bnd lo 0 hh=some ll)(j:(mx.isSome && hi.isNone)=false)(w:World):
  (Instr.sliceBounds isS len cp (lo.map (V.conc ρ)) (hi.map (V.conc ρ)) (mx.map (V.conc ρ))).run P w = .ok (ll,hh,m) w:=by
 cases mx with
 | none =>
  simp only[bnd,oA]at i;subst i;cases hi with
  | none =>
   simp only[bnd,oA]at g;subst g;rcases lo with _|v
   .simp only[bnd,oA]at a;subst a;simp[Instr.sliceBounds]
   obtain⟨b,k,d⟩:=jW a;simp[Instr.sliceBounds,yf b d]
  | some u =>
   obtain⟨e,l,f⟩:=jW g;rcases lo with _|v
   .simp only[bnd,oA]at a;subst a;cases isS<;>simp[Instr.sliceBounds,yf e f]
   obtain⟨b,k,d⟩:=jW a;cases isS<;>simp[Instr.sliceBounds,yf b d,yf e f]
 | some x =>
  obtain⟨a1,k0,a2⟩:=jW i;rcases hi with _|u
  .simp at j
  obtain⟨e,l,f⟩:=jW g;rcases lo with _|v
  .simp only[bnd,oA]at a;subst a;cases isS<;>simp[Instr.sliceBounds,yf e f,yf a1 a2]
  obtain⟨b,k,d⟩:=jW a;cases isS<;>simp[Instr.sliceBounds,yf b d,yf e f,yf a1 a2]
theorem Jc{v:Ui}{d top m:Nat}(e:bnd v d top=some m)(a:d<=top):m<=top:=by
 rcases v with _|v
 .simp only[bnd,oA]at e;omega
 exact(jW e).1
theorem zCy(ok : CtxOK P c){t : TypeId}{x v : V}{lo hi mx : Ui}(e : zy c t h x lo hi mx = some v)(r : HR ρ D h w)(hx : x.In D):
    (Instr.sliceAt t (x.conc ρ) (lo.map (V.conc ρ)) (hi.map (V.conc ρ)) (mx.map (V.conc ρ))).run P w = .ok (v.conc ρ) w /\ v.In D := by
  unfold zy at e;split at e
  · cases e
  · rename_i ti hti
    obtain⟨i, k⟩ := ok.ty t ti hti;split at e
    · rename_i l hd
      split at e
      · cases e
      · simp only at e
        split at e
        · cases e
        · rename_i hh hhi
          split at e
          · cases e
          · rename_i ll hlo
            simp only[oA]at e;subst e;refine⟨?_, by simp[V.In]⟩;rw[yb, Nat.add_zero]at hhi;have hb := xB (P := P) (ρ := ρ) (isS := false) (mx := none) (m := l.length) (cp := l.length) (len := l.length) rfl hhi hlo (by simp) w;have hhl : hh <= l.length := Jc hhi (oV _);simp only[Instr.sliceAt, Sem.run_bind, zg k, hd, Result.andThen_ok, Instr.slice, V.conc, jq, Option.map_none, Option.isSome_none, Bool.false_eq_true, if_false];simp only[Option.map_none]at hb;simp only[Sem.run_pure, Result.andThen_ok, hb];congr 2;apply ByteArray.ext;rw[ByteArray.data_extract];apply Array.ext';simp[zH, List.extract_eq_take_drop]
    · rename_i n el b o hd
      split at e
      · cases e
      · rename_i te hte
        obtain⟨i2, k2⟩ := ok.ty el te hte;split at e
        · cases e
        · rename_i m hm
          split at e
          · cases e
          · rename_i hh hhi
            cases hc : (mx.isSome && hi.isNone)with
            | true => simp[hc]at e
            | false =>
              simp only[hc, oT]at e;split at e
              · cases e
              · rename_i ll hlo
                simp only[oA]at e;subst e;have hb := xB (P := P) (ρ := ρ) (isS := false) hm hhi hlo hc w;refine⟨?_, by simpa [V.In]using hx⟩;simp only[Instr.sliceAt, Sem.run_bind, zg k, hd, Result.andThen_ok, V.conc, Instr.sureAddr, Sem.run_pure, hb, yS k2, Cap.val, yT];cases hq : Nat.beq m ll with
                | true => have := oL hq;simp[this]
                | false =>
                  have : m ≠ ll := λhe => by subst he;rw[Nat.beq_refl]at hq;cases hq
                  simp[this, Nat.add_assoc]
    · rename_i el hd
      split at e
      · cases e
      · rename_i te hte
        obtain⟨i2, k2⟩ := ok.ty el te hte;split at e
        · cases e
        · rename_i m hm
          split at e
          · cases e
          · rename_i hh hhi
            cases hc : (mx.isSome && hi.isNone)with
            | true => simp[hc]at e
            | false =>
              simp only[hc, oT]at e;split at e
              · cases e
              · rename_i ll hlo
                simp only[oA]at e;subst e;have hb := xB (P := P) (ρ := ρ) (isS := true) hm hhi hlo hc w;have m0 : m = 0 := by have := Jc hm (oV _);omega
                have h0 : hh = 0 := by have := Jc hhi (by omega);omega
                have l0 : ll = 0 := by have := Jc hlo (by omega);omega
                subst m0 h0 l0;refine⟨?_, by simp[V.In]⟩;simp only[Instr.sliceAt, Sem.run_bind, zg k, hd, Result.andThen_ok, V.conc, Instr.slice, Sem.run_pure, hb, yS k2];simp
    · rename_i el b o len cp hd
      split at e
      · cases e
      · rename_i te hte
        obtain⟨i2, k2⟩ := ok.ty el te hte;split at e
        · cases e
        · rename_i m hm
          split at e
          · cases e
          · rename_i hh hhi
            cases hc : (mx.isSome && hi.isNone)with
            | true => simp[hc]at e
            | false =>
              simp only[hc, oT]at e;split at e
              · cases e
              · rename_i ll hlo
                simp only[oA]at e;subst e;have hb := xB (P := P) (ρ := ρ) (isS := true) hm hhi hlo hc w;refine⟨?_, by simpa [V.In]using hx⟩;simp only[Instr.sliceAt, Sem.run_bind, zg k, hd, Result.andThen_ok, V.conc, Instr.slice, Sem.run_pure, Cap.val, hb, yS k2];cases hq : Nat.beq m ll with
                | true => have := oL hq;simp[this]
                | false =>
                  have : m ≠ ll := λhe => by subst he;rw[Nat.beq_refl]at hq;cases hq
                  simp[this, Nat.add_assoc, yT]
    · rename_i el b o len ks hd
      simp only[V.In]at hx;split at e
      · rename_i te l esz hte hg
        obtain⟨i2, k2⟩ := ok.ty el te hte;rcases hcnd : (Nat.beq esz.n te.size && Nat.blt 0 esz.n && Nat.beq o (ks * esz.n)) with _|_
        .simp[hcnd]at e
        simp only[hcnd, oS]at e;simp only[oM]at hcnd;obtain⟨⟨c1, c2⟩, c3⟩ := hcnd;have c1' := oL c1;have c2' := (zY _ _).1 c2;have c3' := oL c3;cases hq : Nat.ble (o + len * esz.n) l.len with
        | false =>
          rw[hq, oT]at e;unfold zI9 at e;split at e
          · rename_i kk
            simp only[oA]at e;subst e;refine⟨?_, by simpa [V.In]using hx⟩;have hb := xB (P := P) (ρ := ρ) (isS := true) (mx := none) (m := ρ.cap b - ks) (cp := ρ.cap b - ks) (hi := some (V.int kk (Int.ofNat 0))) (lo := none) (hh := 0) (ll := 0) (len := len) rfl (by have h0 : Nat.ble 0 (ρ.cap b - ks) = true := oG (oQ _);simp[bnd, yj, h0]) (by simp[bnd]) (by simp) w;simp only[Option.map_none]at hb;simp only[Instr.sliceAt, Sem.run_bind, zg k, hd, Result.andThen_ok, V.conc, Instr.slice, Sem.run_pure, Cap.val, hb, yS k2, Option.map_none];by_cases hz : ρ.cap b - ks = 0
            · simp[hz]
            · simp[hz, yT]
          · cases e
        | true =>
          rw[hq, oS]at e;have hroom := oH hq;obtain⟨cc, ee, fz, hxx, _, _, hw⟩ := r.rel b _ hx hg;obtain⟨_, _, hle, hsz, _⟩ := hw rfl;have hcap : ks + len <= ρ.cap b := by
            have h1 : ks * esz.n + len * esz.n <= ρ.cap b * esz.n := by
              have : cc.size = ρ.cap b * esz.n := by rw[hsz];simp
              omega
            have h2 : (ks + len) * esz.n <= ρ.cap b * esz.n := by rw[Nat.add_mul];exact h1
            exact Nat.le_of_mul_le_mul_right h2 c2'
          split at e
          · rename_i mv
            cases hc : hi.isNone with
            | true => simp[hc]at e
            | false =>
              simp only[hc, oT]at e;split at e
              · cases e
              · rename_i m hm
                split at e
                · cases e
                · rename_i hh hhi
                  split at e
                  · cases e
                  · rename_i ll hlo
                    simp only[oA]at e;subst e;obtain⟨g1, kk, g2⟩ := jW hm;have hm' : bnd (some mv) (ρ.cap b - ks) (ρ.cap b - ks) = some m := by subst g2;have : Nat.ble m (ρ.cap b - ks) = true := oG;simp[bnd, yj, this]
                    have hb := xB (P := P) (ρ := ρ) (isS := true) hm' hhi hlo (by simp[hc]) w;refine⟨?_, by simpa [V.In]using hx⟩;simp only[Instr.sliceAt, Sem.run_bind, zg k, hd, Result.andThen_ok, V.conc, Instr.slice, Sem.run_pure, Cap.val, hb, yS k2];cases hq2 : Nat.beq m ll with
                    | true => have := oL hq2;simp[this]
                    | false =>
                      have : m ≠ ll := λhe => by subst he;rw[Nat.beq_refl]at hq2;cases hq2
                      simp[this, Nat.add_assoc, yT]
          · split at e
            · cases e
            · rename_i hh hhi
              split at e
              · cases e
              · rename_i ll hlo
                have hhl : hh <= len := Jc hhi (oV _);have hhi' : bnd hi len (ρ.cap b - ks) = some hh := by
                  rcases hi with _|u
                  .simpa [bnd]using hhi
                  obtain⟨g1, kk, g2⟩ := jW hhi;subst g2;have : Nat.ble hh (ρ.cap b - ks) = true := oG;simp[bnd, yj, this]
                have hb := xB (P := P) (ρ := ρ) (isS := true) (mx := none) (m := ρ.cap b - ks) (cp := ρ.cap b - ks) rfl hhi' hlo (by simp) w;simp only[Option.map_none]at hb;have hll : ll <= hh := Jc hlo (by omega);cases h0 : Nat.beq ll 0 with
                | true =>
                  have l0 := oL h0;simp only[h0, oS, oA]at e;subst e;refine⟨?_, by simpa [V.In]using hx⟩;subst l0;simp only[Instr.sliceAt, Sem.run_bind, zg k, hd, Result.andThen_ok, V.conc, Instr.slice, Sem.run_pure, Cap.val, hb, yS k2, Option.map_none];by_cases hz : ρ.cap b - ks = 0
                  · simp[hz]
                  · simp[hz, yT]
                | false =>
                  simp only[h0, oT]at e;rcases h1 : Nat.blt ll len with _|_
                  .simp[h1]at e
                  have hlt := (zY _ _).1 h1;simp only[h1, oS, oA]at e;subst e;refine⟨?_, by simpa [V.In]using hx⟩;have hne : ¬(ρ.cap b - ks = ll) := by omega
                  simp only[Instr.sliceAt, Sem.run_bind, zg k, hd, Result.andThen_ok, V.conc, Instr.slice, Sem.run_pure, Cap.val, hb, yS k2, Option.map_none, hne, if_false, oo, yT];rw[Nat.sub_sub, Nat.add_assoc]
      · cases e
    · cases e
end
end Go.Sim
namespace Go.Sim
section
variable {P:Program}{c:Ctx}{ρ:Env}{D:Nat->Prop}{h:H}{w:World}
theorem zKS:∀(vs:List Value) (k off:Nat) (cs:Array Value),off+k+vs.length<=cs.size ->
  ((vs.zipIdx k).foldl (λcs (x:Value×Nat)=>cs.setIfInBounds (off+x.2) x.1) cs).size=cs.size /\
  ∀i,((vs.zipIdx k).foldl (λcs (x:Value×Nat)=>cs.setIfInBounds (off+x.2) x.1) cs)[i]? = if off+k<=i/\i<off+k+vs.length then vs[i-(off+k)]? else cs[i]?:=by
 intro vs;induction vs with
 | nil=>intro k off cs _;exact⟨rfl,λi=>by rw[if_neg (by simp only[List.length_nil];omega)];rfl⟩
 | cons v vs ih =>
  intro k off cs hl;simp only[og]at hl;simp only[List.zipIdx_cons,List.foldl_cons];obtain⟨h1,b⟩:=ih (k+1) off (cs.setIfInBounds (off+k) v) (by simp;omega);refine⟨by rw[h1];simp,λi=>?_⟩;rw[b i];by_cases hc:off+(k+1)<=i/\i<off+(k+1)+vs.length
  .rw[if_pos hc,if_pos (by simp only[og];omega)];obtain⟨q,d⟩:∃q,i-(off+k)=q+1:=⟨i-(off+k)-1,oy⟩;rw[d,List.getElem?_cons_succ];congr 1;omega
  rw[if_neg hc];by_cases h5:i=off+k
  .have a:off+k<cs.size:=oy
   subst h5;rw[if_pos ⟨oV _,by simp only[og];omega⟩];simp[a]
  rw[if_neg (by simp only[og];omega),Array.getElem?_setIfInBounds,if_neg oy]
theorem zEo{off:Nat}{vs l l':Ug}(hs:kd off vs l=some l'):
  ((vs.map (V.conc ρ)).toArray.zipIdx.foldl (λcs (x:Value×Nat)=>cs.setIfInBounds (off+x.2) x.1) (l.map (V.conc ρ)).toArray)=(l'.map (V.conc ρ)).toArray:=by
 obtain⟨s1,d,a⟩:=ZL hs;rw[<-Array.foldl_toList];simp only[Array.toList_zipIdx];obtain⟨h1,b⟩:=zKS (vs.map (V.conc ρ)) 0 off (l.map (V.conc ρ)).toArray (by simpa using s1);apply Array.ext_getElem?;intro i;rw[b i];simp only[Nat.add_zero,ox,List.getElem?_toArray,oh,a i];split<;>rfl
theorem XF{place:Nat->Option (Nat×Nat)}:∀(parts:List (Nat×V)) (cells r:Ug),Yl c place cells parts=some r ->
  Instr.fill place (cells.map (V.conc ρ)).toArray (parts.map λp=>(p.1,p.2.conc ρ))=some (r.map (V.conc ρ)).toArray/\((∀v∈cells,v.In D)->(∀p∈parts,p.2.In D)->∀v∈r,v.In D):=by
 intro parts;induction parts with
 | nil=>intro cells r e;simp only[Yl,oA]at e;subst e;exact⟨by simp[Instr.fill],λh _=>h⟩
 | cons p parts ih =>
  intro cells r e;obtain⟨i,v⟩:=p;simp only[Yl]at e;split at e
  .cases e
  rename_i off size d;rcases hl:wn v.cells size with _|_
  .simp[hl]at e
  simp only[hl,oS]at e;split at e
  .rename_i q f;obtain⟨j,k⟩:=ih q r e;obtain⟨s1,n,o⟩:=ZL f;have a:=xL.1 hl;refine⟨?_,λl b=>k (λx m=>?_) (λp d=>b p (oN _ d))⟩
   .simp only[List.map_cons,Instr.fill,d,V.cells_conc,List.size_toArray,ox,a];have:¬(off+size > cells.length):=oy
    simp only[ne_eq,not_true_eq_false,decide_false,Bool.false_or,this];rw[<-j,zEo (ρ:=ρ) f];rfl
   rcases zHV f x m with g|g
   .exact V.cells_In (b (i,v) (List.mem_cons_self ..)) x g
   exact l x g
  cases e
theorem zD5(ok:CtxOK P c):∀(fs:List Field),zGX c fs=true->∀w,∃ps:List (Nat×Nat),
  (fs.mapM (m:=Sem) (λf=>do pure (f.offset,<-sizeOf f.type))).run P w = .ok ps w/\ps.length=fs.length/\∀i:Nat,ps[i]? = (match fs[i]? with|some f=>(match c.ty.get f.type with|some ti=>some (f.offset,ti.size)|none=>none)|none=>none):=by
 intro fs;induction fs with
 | nil=>intro _ w;exact⟨[],by simp,rfl,λi=>by simp⟩
 | cons f fs ih =>
  intro e w;simp only[zGX]at e;split at e
  .rename_i ti a;obtain⟨i,k⟩:=ok.ty _ _ a;obtain⟨ps,h1,b,d⟩:=ih e w;refine⟨(f.offset,ti.size)::ps,?_,by simp[b],λi=>?_⟩
   .simp only[List.mapM_cons,Sem.run_bind,yS k,Result.andThen_ok,Sem.run_pure,h1]
   rcases i with _|i
   .simp[a]
   simp[d i]
  cases e
theorem zCs(ok:CtxOK P c){t:TypeId}{parts:List (Nat×V)}{v:V}(e:je c t parts=some v)(u:∀p∈parts,p.2.In D):
  (Instr.build t (parts.map λp=>(p.1,p.2.conc ρ)).toArray).run P w = .ok (v.conc ρ) w/\v.In D:=by
 unfold je at e;split at e
 .rename_i ti b;obtain⟨i,k⟩:=ok.ty t ti b;split at e
  .rename_i z B;obtain⟨y,A⟩:=qJ k B ρ w;split at e
   .rename_i a d;rcases g:zGX c a.toList with _|_
    .simp[g]at e
    simp only[g,oS]at e;split at e
    .rename_i q j;simp only[oA]at e;subst e;obtain⟨l,o⟩:=XF (ρ:=ρ) (D:=D) parts z.cells q j;obtain⟨ps,C,H,E⟩:=zD5 ok a.toList g w;refine⟨?_,by simp only[V.In,V.InL_iff];exact o (V.cells_In (A D)) u⟩;have r:(λx=>ps.toArray[x]?)=Zs c a:=by
      funext i;have:=E i;simp only[Array.getElem?_toList]at this;simp only[List.getElem?_toArray,this,Zs];cases a[i]?<;>rfl
     have pm:(Array.mapM (m:=Sem) (λf:Field=>do pure (f.offset,<-sizeOf f.type)) a).run P w = .ok ps.toArray w:=by rw[Array.mapM_eq_mapM_toList];simp only[Sem.run_map,C,Result.andThen_ok]
     simp only[Instr.build,Sem.run_bind,y,Result.andThen_ok,zg k,d,pm,V.cells_conc,r,l,Sem.run_pure,jA]
    cases e
   .rename_i n el d;split at e
    .rename_i F s;obtain⟨I,G⟩:=ok.ty el F s;split at e
     .rename_i q j;simp only[oA]at e;subst e;obtain⟨l,o⟩:=XF (ρ:=ρ) (D:=D) parts z.cells q j;refine⟨?_,by simp only[V.In,V.InL_iff];exact o (V.cells_In (A D)) u⟩;simp only[Instr.build,Sem.run_bind,y,Result.andThen_ok,zg k,d,yS G,V.cells_conc,l,Sem.run_pure,jA]
     cases e
    cases e
   cases e
  cases e
 cases e
theorem zBK(z:Ug):∀(n i:Nat),(xD z n)[i]? = if i<n*z.length then z[i % z.length]? else none:=by
 intro n;induction n with
 | zero=>intro i;simp[xD]
 | succ n ih =>
  intro i;simp only[xD];by_cases hi:i<z.length
  .rw[List.getElem?_append_left hi,if_pos (by rw[Nat.succ_mul];omega),ou hi]
  rw[List.getElem?_append_right oy,ih];by_cases h2:i-z.length<n*z.length
  .rw[if_pos h2,if_pos (by rw[Nat.succ_mul];omega),<-Nat.mod_eq_sub_mod oy]
  rw[if_neg h2,if_neg (by rw[Nat.succ_mul];omega)]
theorem qp(z:Ug):∀n:Nat,(xD z n).length=n*z.length:=by
 intro n;induction n with
 | zero=>simp[xD]
 | succ n ih=>simp only[xD,oe,ih,Nat.succ_mul];omega
theorem zBL(z:Ug):∀n:Nat,∀v∈xD z n,v∈z:=by
 intro n;induction n with
 | zero=>intro v a;simp[xD]at a
 | succ n ih =>
  intro v a;simp only[xD,List.mem_append]at a;rcases a with g|g
  .exact g
  exact ih v g
theorem zCm(z:Ug)(n:Nat)(b:n*z.length≠0):
  ((Array.range (n*z.length)).map λi=>(z.map (V.conc ρ)).toArray[i % (z.map (V.conc ρ)).toArray.size]!)=((xD z n).map (V.conc ρ)).toArray:=by
 have a:0<z.length:=by
  rcases Nat.eq_zero_or_pos z.length with g|g
  .rw[g]at b;simp at b
  exact g
 apply Array.ext_getElem?;intro i;simp only[List.getElem?_toArray,oh,zBK,Array.getElem?_map,List.size_toArray,ox];by_cases hi:i<n*z.length
 .rw[if_pos hi];have hm:i % z.length<z.length:=Nat.mod_lt _ a;rw[Array.getElem?_range,if_pos hi];simp[hm]
 rw[if_neg hi,Array.getElem?_range,if_neg hi];rfl
theorem X6(ok:CtxOK P c){t:TypeId}{n:Nat}{parts:List (Nat×V)}{v:V}{h':H}(e:zJ c t n parts h=some (v,h'))(r:HR ρ D h w)(B:∀p∈parts,p.2.In D):
  Post ρ D h w ((Instr.buildSlice t n (parts.map λp=>(p.1,p.2.conc ρ)).toArray).run P w) v h':=by
 unfold zJ at e;split at e
 .rename_i ti l;obtain⟨i,k⟩:=ok.ty t ti l;split at e
  .rename_i el C;split at e
   .rename_i d m;obtain⟨R,s⟩:=ok.ty el d m;split at e
    .rename_i z E;obtain⟨F,G⟩:=qJ s E ρ w;rcases hb:Nat.ble (n*d.size) 1048576 with _|_
     .simp[hb]at e
     rcases hl:wn z.cells d.size with _|_
     .simp[hb,hl]at e
     simp only[hb,hl,oS]at e;have f:=xL.1 hl;split at e
     .rename_i q I;split at e
      .rename_i b h1 J;simp only[oA,oB]at e;obtain⟨rfl,rfl⟩:=e;obtain⟨x,K⟩:=XF (ρ:=ρ) (D:=D) parts _ q I;have o:=K (λv L=>V.cells_In (G D) v (zBL _ _ v L)) B;obtain⟨ρ',M,N,O,y,A⟩:=XN r J o el (λu Q=>by simpa using Q);refine⟨ρ',_,?_,M,N,by simp only[V.In];exact O⟩;have j:¬(n*d.size > 16777216):=by have:=oH hb;omega
       have a:Instr.fill (λi=>some (i*d.size,d.size)) ((Array.range (n*d.size)).map λi=>(if n*d.size=0 then (#[]:Array Value) else (z.cells.map (V.conc ρ)).toArray)[i % (if n*d.size=0 then (#[]:Array Value) else (z.cells.map (V.conc ρ)).toArray).size]!) (parts.map λp=>(p.1,p.2.conc ρ))=some (q.map (V.conc ρ)).toArray:=by
        by_cases g:n*d.size=0
        .rw[<-x];congr 1;have:xD z.cells n=[]:=by
          apply List.eq_nil_of_length_eq_zero;rw[qp,f,g]
         rw[this,g];simp
        simp only[g,if_false];rw[<-x];congr 1;rw[<-f];exact zCm z.cells n (by rw[f];exact g)
       simp only[Instr.buildSlice,Sem.run_bind,zg k,C,Result.andThen_ok,yS s];by_cases g:n*d.size=0
       .rw[if_neg oy];rw[if_pos g]at a ⊢;simp only[Sem.run_bind,Sem.run_pure,Result.andThen_ok];rw[a];simp[newRow,V.conc,Cap.val,y,A]
       rw[if_neg oy];rw[if_neg g]at a ⊢;simp only[Sem.run_bind,Sem.run_pure,Result.andThen_ok,F,V.cells_conc];rw[a];simp[newRow,V.conc,Cap.val,y,A]
      cases e
     cases e
    cases e
   cases e
  cases e
 cases e
end
end Go.Sim
namespace Go.Sim
theorem HR.kill{ρ:Env}{D:Nat->Prop}{h:H}{w:World}(r:HR ρ D h w){b:Nat}(hd:D b):HR ρ D (h.upd b none) w where
 cap:=r.cap
 lt:=r.lt
 rel:=λid o d g=>by
  rw[H.get_upd _ _ _ _ (oO (r.lt b hd) r.cap)]at g;split at g
  .cases g
  exact r.rel id o d g
 inj:=λi j oi oj di dj gi gj wi hij=>by
  rw[H.get_upd _ _ _ _ (oO (r.lt b hd) r.cap)]at gi gj;split at gi
  .cases gi
  split at gj
  .cases gj
  exact r.inj i j oi oj di dj gi gj wi hij
theorem Mv.kill{ρ:Env}{D:Nat->Prop}{h:H}{w:World}(r:HR ρ D h w){b:Nat}(hd:D b):Mv ρ D h w ρ (h.upd b none) w where
 nx:=oV _
 size:=oV _
 os:=rfl
 tape:=⟨rfl,oV _⟩
 output:=rfl
 agree:=Agree.refl _ _
 old:=λid o1 _ g1=>by
  rw[H.get_upd _ _ _ _ (oO (r.lt b hd) r.cap)]at g1;split at g1
  .cases g1
  exact⟨o1,g1,rfl⟩
 img:=λid _ a b _=>by simp only[H.upd_eq]at b;omega
 frame:=λ_ _ _=>rfl
 low:=by rw[H.low_upd];omega
 kept:=λid _ hl=>by rw[H.low_upd]at hl;rw[H.get_upd _ _ _ _ (oO (r.lt b hd) r.cap),if_neg oy]
theorem HR.move{ρ:Env}{D:Nat->Prop}{h:H}{w:World}(r:HR ρ D h w){b:Nat}{o o':O}{x:Obj}(p:D b)(z:h.get b=some o)(A:o.wr=true)(E:h.nx<T.top)(cp:Nat)(F:ORel (ρ.at h.nx (ρ.blk b) cp) (Dx D h ((h.upd b none).new o')) h.nx o' (some x)):
  HR (ρ.at h.nx (ρ.blk b) cp) (Dx D h ((h.upd b none).new o')) ((h.upd b none).new o') (w.putObj (ρ.blk b) x):=by
 have t:¬D h.nx:=λp=>by have:=r.lt _ p;omega
 have c:Agree D ρ (ρ.at h.nx (ρ.blk b) cp):=Env.at_agree t;have hb:b<T.top:=oO (r.lt b p) r.cap;have a:∀id,Dx D h ((h.upd b none).new o') id->id=h.nx\/(D id/\id≠h.nx):=by
  rintro id (d|d)
  .exact .inr ⟨d,λe=>t (e ▸ d)⟩
  simp only[H.new_eq,H.upd_eq]at d;exact .inl oy
 have m:∀id,((h.upd b none).new o').get id=if id=h.nx then some o' else if id=b then none else h.get id:=λid=>by rw[H.get_new _ _ _ (by rw[xY];exact E),xY,H.get_upd _ _ _ _ hb]
 refine⟨by simp only[H.new_eq,H.upd_eq];omega,?_,?_,?_⟩
 .rintro id d;rcases a id d with e|⟨d,_⟩
  .simp only[H.new_eq,H.upd_eq];omega
  have:=r.lt id d;simp only[H.new_eq,H.upd_eq];omega
 .rintro id B d n;rw[m]at n;rcases a id d with e|⟨d1,e⟩
  .subst e;rw[if_pos rfl]at n;cases n;rw[Env.at_blk,World.putObj_heap_same (r.lt_size p z)];exact F
  rw[if_neg e]at n;split at n
  .cases n
  rename_i g;have u:ρ.blk id≠ρ.blk b:=λG=>g (r.inj b id o B p d1 z n A G.symm).symm
  rw[(c id d1).1,World.putObj_heap_other u];exact(r.rel id B d1 n).agree d1 wq c
 rintro i j oi oj q s k l C f;rw[m]at k l;rcases a i q with v|⟨q,v⟩<;>rcases a j s with y|⟨s,y⟩
 .rw[v,y]
 .rw[if_neg y]at l;split at l
  .cases l
  rename_i g;subst v;rw[Env.at_blk,(c j s).1]at f;exact absurd (r.inj b j o oj p s z l A f).symm g
 .rw[if_neg v]at k;split at k
  .cases k
  rename_i g;subst y;rw[Env.at_blk,(c i q).1]at f;exact absurd (r.inj i b oi o q p k z C f) g
 rw[if_neg v]at k;rw[if_neg y]at l;split at k
 .cases k
 split at l
 .cases l
 rw[(c i q).1,(c j s).1]at f;exact r.inj i j oi oj q s k l C f
theorem Mv.move{ρ:Env}{D:Nat->Prop}{h:H}{w:World}(r:HR ρ D h w){b:Nat}{o o':O}{x:Obj}(d:D b)(j:h.get b=some o)(l:o.wr=true)(f:o'.wr=true)(n:h.nx<T.top)(cp:Nat):
  Mv ρ D h w (ρ.at h.nx (ρ.blk b) cp) ((h.upd b none).new o') (w.putObj (ρ.blk b) x):=by
 have g:¬D h.nx:=λd=>by have:=r.lt _ d;omega
 have hb:b<T.top:=oO (r.lt b d) r.cap;have p:b<h.nx:=r.lt b d;have a:∀id,((h.upd b none).new o').get id=if id=h.nx then some o' else if id=b then none else h.get id:=λid=>by rw[H.get_new _ _ _ (by rw[xY];exact n),xY,H.get_upd _ _ _ _ hb]
 refine⟨by simp[H.new_eq,H.upd_eq],by simp,rfl,⟨rfl,oV _⟩,rfl,Env.at_agree g,?_,?_,?_,?_,?_⟩
 .intro id m q c;rw[a,if_neg oy]at c;split at c
  .cases c
  exact⟨m,c,rfl⟩
 .intro id m s h1 c;simp only[H.new_eq,H.upd_eq]at h1;obtain rfl:id=h.nx:=oy
  rw[a,if_pos rfl]at c;cases c;exact⟨f,.inr ⟨b,o,d,j,l,by rw[Env.at_blk],by rw[a,if_neg oy,if_pos rfl]⟩⟩
 .intro k _ t;exact World.putObj_heap_other (λe=>t b o d j l e.symm)
 .show(h.upd b none).low<=h.low;rw[H.low_upd];omega
 intro id s hl;have i:id<(h.upd b none).low:=hl;rw[H.low_upd]at i;rw[a,if_neg oy,if_neg oy]
section
variable {P:Program}{c:Ctx}{ρ:Env}{D:Nat->Prop}{h:H}{w:World}
theorem zLI(r:HR ρ D h w){esz:Nat}{x:V}{n:Nat}{new:Ug}(e:yr esz h x=some (n,new))(g:x.In D)(h1:za new=true){tx:TypeId}(i:(∃z,P.underlying tx=some (.slice z))\/P.underlying tx=some .string):
  Src P esz tx (x.conc ρ) n (new.map (V.conc ρ)) w/\(∀v∈new,v.In D)/\new.length=n*esz:=by
 have a:∀u∈new.map (V.conc ρ),u.oneCell'=true:=λu j=>by obtain⟨v,k,rfl⟩:=List.mem_map.1 j;exact V.one_conc ρ (yY.1 h1 v k)
 unfold yr at e;split at e
 .simp only[oA,oB]at e;obtain⟨rfl,rfl⟩:=e;refine⟨⟨i,λ_=>by simp[V.conc,Builtin.lenOf],by simp[V.conc,Builtin.firstCells],by simp[V.conc,Builtin.firstCells],by simp,λ_ j=>by simp at j⟩,λ_ k=>by simp at k,by simp⟩
 .rename_i l;rcases hb:Nat.beq esz 1 with _|_
  .simp[hb]at e
  have m:=oL hb;simp only[hb,oS,oA,oB]at e;obtain⟨rfl,rfl⟩:=e;subst m;have f:(yZ l).map (V.conc ρ)=byteCells ⟨l.toArray⟩:=by simp[yi,byteCells,V.conc]
  have d:(⟨l.toArray⟩:ByteArray).size=jO l 0:=by rw[jq,yb];rfl
  refine⟨⟨i,λ_=>by simp[V.conc,Builtin.lenOf,d],?_,?_,?_,a⟩,kY l,?_⟩
  .rw[f,V.conc,<-d];exact firstCells_string _ _
  .rw[f,V.conc,<-d];exact firstCells_string _ _
  .rw[ox,yi,ox,yb];omega
  rw[yi,ox,yb];omega
 .rename_i b o len E;simp only[V.In]at g;split at e
  .rename_i l p wr op q;split at e
   .rename_i y s;simp only[oA,oB]at e;obtain⟨rfl,rfl⟩:=e;obtain⟨A,B,t⟩:=jH (P:=P) r g q s;obtain⟨C,_,_⟩:=jH (P:=P) (w:=w.drew) (r.of_heap rfl) g q s;exact⟨⟨i,λ_=>rfl,A,C,by rw[ox,t],a⟩,B,t⟩
   cases e
  cases e
 cases e
theorem zKV(n:Nat):∀(k c:Nat),c<=n->Builtin.growBy n k c<=2*n+200:=by
 intro k;induction k with
 | zero=>intro c a;simp only[Builtin.growBy];omega
 | succ k ih =>
  intro c a;simp only[Builtin.growBy];split
  .omega
  by_cases h:c+(c+768)/4<=n
  .exact ih _ h
  have:∀k c,n<=c->Builtin.growBy n k c=c:=by
   intro k;rcases k with _|k
   .intro c _;rfl
   intro c a;simp only[Builtin.growBy];rw[if_pos a]
  rw[this _ _ oy];omega
theorem zH0(a old:Nat)(h:old<a):Builtin.nextslicecap a old<=2*a+200:=by
 unfold Builtin.nextslicecap;split
 .omega
 split
 .omega
 exact zKV a 4 old oy
theorem zAt{te:TI}(h:qn te=true):0<te.size/\0<te.bytes/\∃z,te.zero=some z/\z.cells.length=te.size:=by
 unfold qn at h;simp only[oM]at h;obtain⟨⟨h1,b⟩,a⟩:=h;refine⟨(zY _ _).1 h1,(zY _ _).1 b,?_⟩;split at a
 .rename_i z d;exact⟨z,d,xL.1 a⟩
 cases a
structure SrcR (P:Program) (t tx ty el:TypeId) (i:TypeInfo) (x:Value) (n:Nat) (news:List Value) (w:World):Prop where
 room:∀(b off sLen sCap:Nat),sLen+n<=sCap->(∀j,j<news.length->(w.cell? ⟨b,off+sLen*i.size+j,none⟩).isSome=true)->(∀j,j<news.length->w.frozen? ⟨b,off+sLen*i.size+j,none⟩=false) ->
  (Builtin.append_ #[t,tx] ty #[.slice (some ⟨b,off,none⟩) sLen sCap,x]).run P w = .ok (.slice (some ⟨b,off,none⟩) (sLen+n) sCap) (w.setCells b (off+sLen*i.size) news)
 grow:∀(z:Value),i.zero=some z->∀(base:Option Addr) (sLen sCap:Nat) (olds:List Value),(Builtin.firstCells i.size sLen (.slice base sLen sCap)).run P w.drew = .ok olds.toArray w.drew->sCap<sLen+n->((sLen+n:Nat):Int)<=9223372036854775807->Builtin.nextslicecap (sLen+n) sCap*i.bytes<=281474976710656 ->
  (Builtin.append_ #[t,tx] ty #[.slice base sLen sCap,x]).run P w =
   .ok (.slice (some ⟨w.heap.size,0,none⟩) (sLen+n) (grownCap w (sLen+n) sCap el))
    (w.drew.alloc (.cells ((olds++news).toArray++Builtin.zeroCells z.cells (grownCap w (sLen+n) sCap el-(sLen+n))) el))
 none:n=0->∀(base:Option Addr) (sLen sCap:Nat),sLen<=sCap->(Builtin.append_ #[t,tx] ty #[.slice base sLen sCap,x]).run P w = .ok (.slice base sLen sCap) w
theorem SrcR.of{t tx ty el:TypeId}{i:TypeInfo}(f:P.underlying t=some (.slice el))(hi:P.info? el=some i){x:Value}{n:Nat}{news:List Value}(hs:Src P i.size tx x n news w):SrcR P t tx ty el i x n news w:=by
 refine⟨λb off sLen sCap a g m=>run_append_room_src w t tx ty el i f hi b off sLen sCap x n news hs a g m,λz o base sLen sCap olds d p j e=>run_append_grow_src w t tx ty el i z f hi o base sLen sCap olds d x n news hs p j e,λq base sLen sCap k=>?_⟩;subst q;have r:news=[]:=List.eq_nil_of_length_eq_zero (by rw[hs.newsLen,Nat.zero_mul]);subst r;have g:=hs.cells;rcases hs.kind with⟨s,l⟩|l <;>
  (cases base<;>simp[Builtin.append_,underlying,f,l,sizeOf,typeInfo,hi,hs.len,g,k,storeCells])
theorem SrcR.zeros{t tx ty el:TypeId}{i:TypeInfo}{J:IntKind}(A:P.underlying t=some (.slice el))(hi:P.info? el=some i)(B:P.underlying tx=some (.int J)){k:Nat}{z u:Value}(y:i.zero=some z)(l:z.cells = #[u])(h1:i.size=1)(K:0<k->u.oneCell'=true)(hb:k*i.bytes<=1099511627776)(L:k<=1099511627776):
  SrcR P t tx ty el i (.int .i64 (k:Int)) k (List.replicate k u) w:=by
 have G:IntKind.i64.wrap (k:Int)=(k:Int):=by simp only[IntKind.wrap,IntKind.bits,IntKind.signed];simp;omega
 have o:¬(281474976710656<(k:Int)*(i.bytes:Int)):=by
  have:((k*i.bytes:Nat):Int)<=1099511627776:=oy
  rw[Int.natCast_mul]at this;omega
 have m:Builtin.zeroCells #[u] k=(List.replicate k u).toArray:=by
  apply Array.ext
  .simp[Builtin.zeroCells]
  intro j h1 R;simp[Builtin.zeroCells,Nat.mod_one]
 have d:¬((k:Int)<0):=oy
 have p:∀w:World,(asInt (.int .i64 (k:Int))).run P w = .ok (k:Int) w:=λw=>by simp[asInt,asIntOf]
 have q:∀v∈List.replicate k u,v.oneCell'=true:=λv H=>by rw[List.eq_of_mem_replicate H];exact K (Nat.pos_of_ne_zero (List.mem_replicate.1 H).1)
 have e:∀w:World,((if k*i.size=0 then pure #[] else do pure (Builtin.zeroCells (<-zeroValue el).cells k):Sem (Array Value))).run P w = .ok (List.replicate k u).toArray w:=λw=>by
  rcases Nat.eq_zero_or_pos k with f|f
  .subst f;simp
  have C:¬k=0:=oy
  simp[h1,C,zeroValue,typeInfo,hi,y,l,m]
 refine⟨λb off sLen sCap n M N=>?_,λS r base sLen sCap olds g T O I=>?_,λf base sLen sCap E=>?_⟩
 .have a:=run_storeCells_cells (P:=P) b (off+sLen*i.size) (List.replicate k u) 0 w (by simpa using M) (by simpa using N) q;simp only[Nat.add_zero]at a;rw[h1]at a e;simp[Builtin.append_,run_underlying A,run_underlying B,sizeOf,typeInfo,hi,h1,p,G,d,o,n,Addr.add_lit];simp only[Nat.mul_one]at a;have F:∀w:World,(zeroValue el).run P w = .ok z w:=λw=>by simp[zeroValue,typeInfo,hi,y]
  split
  .rename_i f;subst f;rw[List.replicate_zero]at a;rw[a];simp
  simp only[F,Result.andThen,l,m,a]
 .rw[y]at r;cases r;have Q:¬(sLen+k<=sCap):=oy
  have s:¬(9223372036854775807<((sLen:Int)+(k:Int))):=oy
  have x:¬(281474976710656<Builtin.nextslicecap (sLen+k) sCap*i.bytes):=oy
  rw[h1]at e g;simp[Builtin.append_,run_underlying A,run_underlying B,sizeOf,typeInfo,zeroValue,hi,y,l,h1,p,G,d,o,Q,s,x,Question.forced,g,newRow,grownCap];split
  .rename_i f;subst f;simp
  simp only[m];simp;congr 2;apply Array.ext';simp[List.append_assoc]
 subst f;cases base<;>simp[Builtin.append_,run_underlying A,run_underlying B,sizeOf,typeInfo,hi,asInt,asIntOf,show IntKind.i64.wrap 0=0 from rfl,E,storeCells]
theorem XH{h0:H}(j:HR ρ D h0 w)(F:Mv ρ D h w ρ h0 w)(k:h0.nx=h.nx)(G:∀id,D id->id<h.nx){t tx ty:TypeId}{el:Nat}{te:TI}{I:TypeInfo}(J:TyOK P el te I)(_:P.underlying t=some (.slice el))(K:qn te=true){base:Option Addr}{len cap n:Nat}{x:Value}{old new:Ug}{v:V}{h':H}{kr:Rk}(L:kr.n=te.size)(M:∀u,kr.ty=u+1->el=u){rc:Option Cs}(N:∀cs,rc=some cs->cs.len=(old++new).length/\∀i,cs.get? i=(old++new)[i]?)(e:js kr te h0 rc (len+n)=some (v,h'))(m:∀u∈old,u.In D)(o:∀u∈new,u.In D)(p:old.length=len*te.size)(q:new.length=n*te.size)(a:(Builtin.firstCells te.size len (.slice base len cap)).run P w.drew = .ok (old.map (V.conc ρ)).toArray w.drew)(hs:SrcR P t tx ty el I x n (new.map (V.conc ρ)) w)(X:cap<len+n):
  Post ρ D h w ((Builtin.append_ #[t,tx] ty #[.slice base len cap,x]).run P w) v h':=by
 obtain⟨ts,tb,z,Z,O⟩:=zAt K;obtain⟨C,Q,R⟩:=J.zero z Z;obtain⟨S,hzi⟩:=Y2 R;unfold js at e;rcases hb:Nat.ble ((len+n)*te.bytes) 1099511627776 with _|_
 .simp[hb]at e
 simp only[hb,oS]at e;have E:=oH hb;split at e
 .rename_i b' h1 hn;simp only[oA,oB]at e;obtain⟨rfl,rfl⟩:=e;obtain⟨g1,b,g2,rfl,rfl⟩:=Xv hn;obtain⟨cl,Y⟩:=N b g2;have T:len+n<=(len+n)*te.bytes:=Nat.le_mul_of_pos_right _ tb;have f:Builtin.nextslicecap (len+n) cap*I.bytes<=281474976710656:=by
   rw[J.bytes];have h1:=zH0 (len+n) cap X;have h2:Builtin.nextslicecap (len+n) cap*te.bytes<=(2*(len+n)+200)*te.bytes:=Nat.mul_le_mul_right _ h1;have h3:(2*(len+n)+200)*te.bytes=2*((len+n)*te.bytes)+200*te.bytes:=by rw[Nat.add_mul,Nat.mul_assoc]
   have h4:te.bytes<=(len+n)*te.bytes:=Nat.le_mul_of_pos_left _ oy;omega
  have d:=hs.grow C Q base len cap (old.map (V.conc ρ)) (by rw[J.size];exact a) X oy f;have r:=grownCap_ge w (len+n) cap el;generalize grownCap w (len+n) cap el=s at d r;have U:C.cells=(z.cells.map (V.conc ρ)).toArray:=by rw[<-S ρ,V.cells_conc]
  have y:(Builtin.zeroCells C.cells (s-(len+n))).size=(s-(len+n))*te.size:=by simp[Builtin.zeroCells,U,O]
  let cs:Array Value:=((old.map (V.conc ρ))++(new.map (V.conc ρ))).toArray++Builtin.zeroCells C.cells (s-(len+n))
  have A:cs.size=s*te.size:=by simp only[cs,Array.size_append,List.size_toArray,oe,ox,p,q,y];rw[<-Nat.add_mul,<-Nat.add_mul];congr 1;omega
  have W:HR ρ D h0 w.drew:=j.of_heap rfl;obtain⟨a1,a2⟩:=OH W g1 (l:=b) (esz:=kr) (op:=true) (λi u g=>(List.mem_append.1 (List.mem_of_getElem? (by rw[<-Y];exact g))).elim (m u) (o u)) cs el (0,0) s
   (λi u g=>by
    rw[Y]at g;have hi:i<(old++new).length:=(List.getElem?_eq_some_iff.1 g).1;simp only[cs];rw[Array.getElem?_append_left (by simpa using hi),List.getElem?_toArray,<-List.map_append,oh,g];rfl)
   (λi _ _=>by simp) (by rw[A,cl,oe,p,q,<-Nat.add_mul];exact Nat.mul_le_mul_right _ r) (by rw[A];simp[L]) (λu g=>⟨M u g,.inl rfl⟩)
  have B:Dx D h (h0.new (.cells b kr true true))=Dx D h0 (h0.new (.cells b kr true true)):=by unfold Dx;rw[k]
  refine⟨_,_,?_,Mv.trans G F (by rw[jT k];exact Mv.trans j.lt (Mv.of_heap (w':=w.drew) rfl rfl ⟨rfl,Nat.le_succ _⟩ rfl) (by rw[zr];exact a2)),by rw[B];exact a1,by rw[B];simp only[V.In];exact zCo⟩;rw[d];simp only[V.conc,Cap.val,Env.at_blk,Env.at_off,Env.at_cap,Nat.sub_zero,World.size_drew];rfl
 cases e
end
end Go.Sim
namespace Go.Sim
section
variable {P:Program}{c:Ctx}{ρ:Env}{D:Nat->Prop}{h:H}{w:World}
theorem KV(r:HR ρ D h w){t tx ty:TypeId}{el:Nat}{te:TI}{y:TypeInfo}(q:TyOK P el te y)(_:P.underlying t=some (.slice el)){b o len n a:Nat}{d:Rk}{cp:Cap}{l:Cs}{new:Ug}{op:Bool}{x:Value}{v:V}{h':H}(e:KU h b o len cp te.size a l d op new=some (v,h'))(g:a=len+n)(z:D b)(A:h.get b=some (.cells l d true op))(m:∀u∈new,u.In D)(h1:za new=true)(hs:SrcR P t tx ty el y x n (new.map (V.conc ρ)) w)(i:a<=cp.val ρ b):
  Post ρ D h w ((Builtin.append_ #[t,tx] ty #[(V.slice b o len cp).conc ρ,x]).run P w) v h':=by
 subst g;unfold KU at e;split at e
 .rename_i G s;cases k:Nat.ble d.fz (o+len*te.size)with
  | false=>rw[k]at e;cases e
  | true =>
  rw[k,oS]at e;simp only[oA,oB]at e;obtain⟨rfl,rfl⟩:=e;obtain⟨_,B,C,s4,E⟩:=kK (P:=P) r z A m h1 s (oH k);have f:=hs.room (ρ.blk b) (ρ.off b+o) len (cp.val ρ b) i
   (λj p=>by rw[ox]at p;rw[q.size,Nat.add_assoc (ρ.off b)];exact s4 j p)
   (λj p=>by rw[ox]at p;rw[q.size,Nat.add_assoc (ρ.off b)];exact E j p)
  rw[q.size,Nat.add_assoc (ρ.off b)]at f;exact⟨ρ,_,by rw[V.conc,f,V.conc],C,by rw[jT (xY _ _ _)];exact B,by rw[jT (xY _ _ _)];simpa [V.In]using z⟩
 cases e
theorem zZp{el:Nat}{te:TI}{a:TypeInfo}(b:TyOK P el te a):∀u,(jC te).ty=u+1->el=u:=λu d=>by have:=b.id;simp only[jC]at d;omega
theorem zVg{l cs:Cs}{old new:Ug}{m:Nat}(f:old.length=m)(d:l.range 0 m=some old)(e:l.len=m)(h:l.app new=some cs):
  cs.len=(old++new).length/\∀i,cs.get? i=(old++new)[i]?:=by
 obtain⟨a,b⟩:=Cs.app_eq h;obtain⟨_,_,r3⟩:=Cs.range_eq d;refine⟨by rw[a,oe];omega,λi=>?_⟩;rw[b i];by_cases hi:i<l.len
 .rw[if_pos hi,List.getElem?_append_left oy,r3 i oy,Nat.zero_add]
 rw[if_neg hi,List.getElem?_append_right oy];congr 1;omega
theorem KW{t tx ty el:TypeId}{te:TI}{i2:TypeInfo}(J:TyOK P el te i2)(ht:P.underlying t=some (.slice el))(O:qn te=true){n:Nat}{new:Ug}{s v:V}{x:Value}{h':H}(e:appTo te h n new s=some (v,h'))(r:HR ρ D h w)(hs:s.In D)(h0:n=0->new=[])(A:za new=true->SrcR P t tx ty el i2 x n (new.map (V.conc ρ)) w/\(∀u∈new,u.In D)/\new.length=n*te.size):
  Post ρ D h w ((Builtin.append_ #[t,tx] ty #[s.conc ρ,x]).run P w) v h':=by
 obtain⟨ts,tb,z,hz,hzl⟩:=zAt O;unfold appTo at e;split at e
 · -- nil
  cases q:Nat.beq n 0 with
  | true=>have n0:=oL q;simp only[q,oS,oA,oB]at e;obtain⟨rfl,rfl⟩:=e;subst n0;have K:new=[]:=h0 rfl;obtain⟨A,_,_⟩:=A (by rw[K];rfl);refine Post.of_eq ?_ (Post.pure r (v:=.nilslice) (by simp[V.In]));simpa [V.conc]using A.none rfl none 0 0 (oV _)
  | false =>
   simp only[q,oT]at e;have hn:0<n:=by
    rcases Nat.eq_zero_or_pos n with g|g
    .subst g;simp at q
    exact g
   cases d:za new with
   | false=>rw[d,oT]at e;unfold js qG at e;cases X:Nat.ble (n*te.bytes) 1099511627776<;>cases Y:Nat.blt h.nx T.top<;>simp[X,Y]at e
   | true =>
   rw[d,oS]at e;obtain⟨A,y,C⟩:=A d;have:=XH (P:=P) (h:=h) r (Mv.refl _ _ _ _) rfl r.lt (ty:=ty) J ht O (base:=none) (len:=0) (cap:=0) (n:=n) (x:=x) (old:=[]) (new:=new) (v:=v) (h':=h') (kr:=jC te) rfl (zZp J) (λ_ h=>Cs.ofL_eq h)
    (by simpa using e) (λu B=>by simp at B) y (by simp) C (by simp[Builtin.firstCells]) A oy
   simpa [V.conc]using this
 · -- a slice
  rename_i b o len cp;simp only[V.In]at hs;split at e
  .rename_i l f wr op Z;split at e
   · -- a known capacity
    rename_i kk;unfold qv at e;cases Q:Nat.ble (len+n) kk with
    | true =>
     simp only[Q,oS]at e;rcases R:(wr && za new) with _|_
     .simp[R]at e
     simp only[R,oS]at e;simp only[oM]at R;obtain⟨rfl,d⟩:=R;obtain⟨A,y,C⟩:=A d;exact KV r J ht e rfl hs Z y d A (by simpa [Cap.val]using oH Q)
    | false =>
     simp only[Q,oT]at e;have hlt:kk<len+n:=by have:=(jf _ _).1 Q;omega
     cases E:zCx l o (len*te.size) new with
     | none=>rw[E]at e;unfold js qG at e;cases X:Nat.ble ((len+n)*te.bytes) 1099511627776<;>cases Y:Nat.blt h.nx T.top<;>simp[X,Y]at e
     | some I =>
     obtain⟨old,p,d,hofl⟩:∃old,l.range o (len*te.size)=some old/\za new=true/\Cs.ofL (old++new)=some I:=by
      unfold zCx at E;split at E
      .rename_i old p;rcases h1:za new with _|_
       .simp[h1]at E
       rw[h1,oS]at E;exact⟨old,p,rfl,E⟩
      cases E
     rw[E]at e;obtain⟨p1,p2,p3⟩:=jH (P:=P) (w:=w.drew) (r.of_heap rfl) hs Z p;obtain⟨A,y,C⟩:=A d;have:=XH (P:=P) (h:=h) r (Mv.refl _ _ _ _) rfl r.lt (ty:=ty) J ht O (base:=some ⟨ρ.blk b,ρ.off b+o,none⟩) (len:=len) (cap:=kk) (n:=n) (x:=x) (kr:=jC te) rfl (zZp J) (rc:=some I) (λcs h=>by cases h;exact Cs.ofL_eq hofl) e p2 y p3 C
      (by simp only[Builtin.firstCells];exact p1) A hlt
     simpa [V.conc,Cap.val]using this
   -- an unknown one
   rename_i kk;unfold OC at e;rcases F:(wr && op && Nat.beq te.size f.n && Nat.beq o (kk*te.size) && za new && Nat.ble (o+len*te.size) l.len) with _|_
   .simp[F]at e
   simp only[F,oS]at e;simp only[oM]at F;obtain⟨⟨⟨⟨⟨c1,c2⟩,c3⟩,c4⟩,d⟩,c5⟩:=F;subst c1;subst c2;have c3':=oL c3;have c4':=oL c4;obtain⟨A,y,C⟩:=A d;obtain⟨cc,ee,fz,hxx,hcell,hcin,hw⟩:=r.rel b _ hs Z;obtain⟨G,hfz,hlel,hsz,hty⟩:=hw rfl;have L:cc.size=ρ.cap b*te.size:=by rw[hsz,<-c3'];simp
   have room:∀m,o+m*te.size<=l.len->kk+m<=ρ.cap b:=by
    intro m hm;have h1:(kk+m)*te.size<=ρ.cap b*te.size:=by rw[Nat.add_mul];omega
    exact Nat.le_of_mul_le_mul_right h1 ts
   have M:o+len*te.size<=l.len:=oH c5;obtain⟨old,p⟩:=Cs.range_some M;obtain⟨p1,p2,p3⟩:=jH (P:=P) (w:=w.drew) (r.of_heap rfl) hs Z p;cases q:Nat.beq n 0 with
   | true=>have n0:=oL q;subst n0;simp only[q,oS,oA,oB]at e;obtain⟨rfl,rfl⟩:=e;have K:new=[]:=List.eq_nil_of_length_eq_zero oy;subst K;have hcap:=room len M;refine Post.of_eq ?_ (Post.pure r (v:=.slice b o len (.skip kk)) (by simpa [V.In]using hs));simpa [V.conc,Cap.val]using A.none rfl (some ⟨ρ.blk b,ρ.off b+o,none⟩) len (ρ.cap b-kk) oy
   | false =>
    simp only[q,oT]at e;have hn:0<n:=by
     rcases Nat.eq_zero_or_pos n with g|g
     .subst g;simp at q
     exact g
    split at e
    · -- within the known row
     rename_i q2 S;simp only[oA]at e;subst e;have hfit:o+(len+n)*te.size<=l.len:=by
      unfold KU at S;split at S
      .rename_i l' hl';obtain⟨s1,_,_⟩:=Cs.put_eq hl';rw[Nat.add_mul];omega
      cases S
     have:=room (len+n) hfit;exact KV r J ht S rfl hs Z y d A (by simp only[Cap.val];omega)
    -- at its end
    unfold zGo at e;rcases k:(Nat.beq kk 0 && Nat.beq l.len (o+len*te.size) && Nat.ble f.fz (o+len*te.size) && (Nat.beq f.ty 0 || Nat.beq f.ty (te.id+1))) with _|_
    .simp[k]at e
    simp only[k,oS]at e;simp only[oM]at k;have k0:=oL k.1.1.1;have hll:=oL k.1.1.2;have hfk:=oH k.1.2;have hkt:∀u,f.ty=u+1->el=u:=λu B=>by
     have:=k.2;simp only[Bool.or_eq_true]at this;rcases this with g|g
     .have:=oL g;omega
     have g1:f.ty=te.id+1:=oL g;have g2:te.id=el:=J.id;have g3:u+1=te.id+1:=B.symm.trans g1;exact g2.symm.trans (Nat.succ.inj g3).symm
    subst k0;have o0:o=0:=oy
    subst o0;rw[Nat.zero_add]at hll;by_cases hroom:len+n<=ρ.cap b
    · -- it grows in its place
     unfold js at e;rcases hb:Nat.ble ((len+n)*te.bytes) 1099511627776 with _|_
     .simp[hb]at e
     simp only[hb,oS]at e;split at e
     .rename_i b' h1 hnn;simp only[oA,oB]at e;obtain⟨rfl,rfl⟩:=e;obtain⟨g1,I,g2,rfl,rfl⟩:=Xv hnn;obtain⟨ca,cg⟩:=Cs.app_eq g2;have U:ρ.off b+len*te.size+(new.map (V.conc ρ)).length<=cc.size:=by
       rw[G,ox,C,L,Nat.zero_add,<-Nat.add_mul];exact Nat.mul_le_mul_right _ hroom
      obtain⟨c',e1,e2,e3⟩:=JM (new.map (V.conc ρ)) hxx U;have N:=A.room (ρ.blk b) (ρ.off b+0) len (ρ.cap b-0) oy
       (λj hj=>by
        rw[J.size,Nat.add_zero,jy hxx,Array.getElem?_eq_getElem oy];rfl)
       (λj hj=>by
        rw[J.size,Nat.add_zero];exact Yp hxx (hfz _ oy oy))
      rw[J.size,Nat.add_zero,e1]at N;have hO:ORel (ρ.at h.nx (ρ.blk b) (ρ.cap b)) (Dx D h ((h.upd b none).new (.cells I f true true))) h.nx (.cells I f true true) (some (.cells c' ee fz)):=by
       have hnd:¬D h.nx:=λhd=>by have:=r.lt _ hd;omega
       have hag:Agree D ρ (ρ.at h.nx (ρ.blk b) (ρ.cap b)):=Env.at_agree hnd;have W:∀i u,I.get? i=some u->u.In D:=λi u B=>by
        rw[cg i]at B;split at B
        .exact hcin i u B
        exact y u (List.mem_of_getElem? B)
       refine⟨c',ee,fz,rfl,λi u B=>?_,λi u B=>V.In_mono wq _ (W i u B),λ_=>⟨Env.at_off _ _ _ _,by rw[e2];exact hfz,?_,?_,hty⟩⟩
       .rw[Env.at_off,Nat.zero_add,V.conc_agree hag u (W i u B),e3 i,G,Nat.zero_add,ox];rw[cg i]at B;by_cases hi:i<l.len
        .rw[if_pos hi]at B;rw[if_neg oy];have:=hcell i u B
         rwa [G,Nat.zero_add]at this
        rw[if_neg hi]at B;have hi2:=(List.getElem?_eq_some_iff.1 B).1;rw[if_pos oy,oh];rw[show i-len*te.size=i-l.len from oy,B];rfl
       .rw[e2,L,ca,C,hll,<-Nat.add_mul];exact Nat.mul_le_mul_right _ hroom
       rw[e2,Env.at_cap,L];simp[<-c3']
      refine⟨_,_,?_,Mv.move r hs Z rfl rfl g1 (ρ.cap b),HR.move r hs Z rfl g1 (ρ.cap b) hO,by simp only[V.In];exact .inr ⟨oV _,by simp[H.new_eq,Xq,H.upd_eq]⟩⟩;simp only[V.conc,Cap.val,Nat.add_zero,Nat.sub_zero,Xq,xY,Env.at_blk,Env.at_off,Env.at_cap]at N ⊢;rw[N,G]
     cases e
    -- it is laid qu
    have:=XH (P:=P) (h:=h) (h0:=Xq h b) (r.kill hs) (Mv.kill r hs) rfl r.lt (ty:=ty) J ht O (base:=some ⟨ρ.blk b,ρ.off b+0,none⟩) (len:=len) (cap:=ρ.cap b) (n:=n) (x:=x) (kr:=f) c3'.symm hkt (rc:=l.app new) (λcs h=>zVg p3 p hll h) e p2 y p3 C
     (by simp only[Builtin.firstCells];exact p1) A oy
    simpa [V.conc,Cap.val]using this
  cases e
 cases e
theorem Yk(ok:CtxOK P c){t tx:TypeId}{s x v:V}{h':H}(e:zn c t h s x=some (v,h'))(r:HR ρ D h w)(hs:s.In D)(z:x.In D)(A:(∃B,P.underlying tx=some (.slice B))\/P.underlying tx=some .string)(ty:TypeId):
  Post ρ D h w ((Builtin.append_ #[t,tx] ty #[s.conc ρ,x.conc ρ]).run P w) v h':=by
 unfold zn at e;split at e
 .rename_i ti f;obtain⟨i,k⟩:=ok.ty t ti f;split at e
  .rename_i el C;have q:P.underlying t=some (.slice el):=by rw[k.und,C]
   split at e
   .rename_i g j;obtain⟨I,m⟩:=ok.ty el g j;rcases b:qn g with _|_
    .simp[b]at e
    simp only[b,oS]at e;split at e
    .cases e
    rename_i n new a;refine KW m q b e r hs (λE=>?_) λd=>?_
    .subst E;unfold yr at a;split at a
     .simp only[oA,oB]at a;exact a.2.symm
     .rename_i l;rcases hb:Nat.beq g.size 1 with _|_
      .simp[hb]at a
      simp only[hb,oS,oA,oB]at a;rw[yb,Nat.add_zero]at a;have:=List.eq_nil_of_length_eq_zero a.1;subst this;exact a.2.symm
     .split at a
      .split at a
       .rename_i y F;simp only[oA,oB]at a;obtain⟨h1,rfl⟩:=a;obtain⟨u,_,_⟩:=Cs.range_eq F;rw[h1,Nat.zero_mul]at u;exact List.eq_nil_of_length_eq_zero u
       cases a
      cases a
     cases a
    obtain⟨G,o,p⟩:=zLI (P:=P) r a z d A;exact⟨SrcR.of q m.info (by rw[m.size];exact G),o,p⟩
   cases e
  cases e
 cases e
theorem zEM(ok:CtxOK P c){t tx:TypeId}{B:IntKind}{s x v:V}{h':H}(e:X5 c t h s x=some (v,h'))(r:HR ρ D h w)(hs:s.In D)(C:P.underlying tx=some (.int B))(ty:TypeId):
  Post ρ D h w ((Builtin.append_ #[t,tx] ty #[s.conc ρ,x.conc ρ]).run P w) v h':=by
 unfold X5 at e;split at e
 .rename_i ti l;obtain⟨i,k⟩:=ok.ty t ti l;split at e
  .rename_i el E;have A:P.underlying t=some (.slice el):=by rw[k.und,E]
   split at e
   .rename_i b m;obtain⟨K,d⟩:=ok.ty el b m;rcases a:(qn b && Nat.beq b.size 1) with _|_
    .simp[a]at e
    simp only[a,oS]at e;simp only[oM]at a;have f:=oL a.2;split at e
    .rename_i kk z F;rcases hb:Nat.ble (kk*b.bytes) 1099511627776 with _|_
     .simp[hb]at e
     simp only[hb,oS]at e;split at e
     .rename_i u g;obtain⟨_,tb,_⟩:=zAt a.1;obtain⟨L,n,o⟩:=d.zero z F;obtain⟨p,q⟩:=Y2 o;have y:=oH hb;refine KW d A a.1 e r hs (λG=>by rw[G];rfl) λj=>⟨?_,?_,?_⟩
      .rw[List.map_replicate];have I:kk<=kk*b.bytes:=Nat.le_mul_of_pos_right _ tb;exact SrcR.zeros A d.info C n (u:=u.conc ρ) (by rw[<-p ρ,V.cells_conc,g];rfl) (by rw[d.size,f]) (λM=>V.one_conc ρ (yY.1 j u (List.mem_replicate.2 ⟨oy,rfl⟩))) (by rw[d.bytes];exact y) oy
      .intro v J;rw[List.eq_of_mem_replicate J];exact V.cells_In (q D) u (by rw[g];simp)
      rw[List.length_replicate,f,Nat.mul_one]
     cases e
    cases e
   cases e
  cases e
 cases e
theorem zBV(ok:CtxOK P c){t tx:TypeId}{s x v:V}{h':H}(e:OA c tx t h s x=some (v,h'))(r:HR ρ D h w)(hs:s.In D)(d:x.In D)(ty:TypeId):
  Post ρ D h w ((Builtin.append_ #[t,tx] ty #[s.conc ρ,x.conc ρ]).run P w) v h':=by
 unfold OA at e;split at e
 .rename_i ti b;obtain⟨i,k⟩:=ok.ty tx ti b;split at e
  .rename_i a;exact Yk ok e r hs d (.inr (by rw[k.und,a])) ty
  .rename_i el a;exact Yk ok e r hs d (.inl ⟨el,by rw[k.und,a]⟩) ty
  .rename_i f a;exact zEM ok e r hs (by rw[k.und,a]) ty
  cases e
 cases e
end
end Go.Sim
namespace Go.Sim
section
variable {P:Program}{c:Ctx}{ρ:Env}{D:Nat->Prop}{h:H}{w:World}
theorem ZD(r:HR ρ D h w){esz:Nat}{x:V}{n m:Nat}{new cs:Ug}(e:yr esz h x=some (n,new))(q:x.In D)(hm:m<=n)(d:qb (m*esz) new=some cs):
  (Builtin.lenOf (x.conc ρ)).run P w = .ok n w/\(Builtin.firstCells esz m (x.conc ρ)).run P w = .ok (cs.map (V.conc ρ)).toArray w/\(∀v∈cs,v.In D):=by
 unfold yr at e;split at e
 .simp only[oA,oB]at e;obtain⟨rfl,rfl⟩:=e;obtain⟨a,rfl⟩:=YN d;exact⟨by simp[V.conc,Builtin.lenOf],by simp[V.conc,Builtin.firstCells],λ_ f=>by simp at f⟩
 .rename_i l;rcases hb:Nat.beq esz 1 with _|_
  .simp[hb]at e
  have g:=oL hb;simp only[hb,oS,oA,oB]at e;obtain⟨rfl,rfl⟩:=e;subst g;rw[Nat.mul_one]at d;obtain⟨a,rfl⟩:=YN d;refine⟨by simp[V.conc,Builtin.lenOf,yb,jq],?_,λv f=>kY l v (List.mem_of_mem_take f)⟩;simp only[V.conc,Builtin.firstCells,Sem.run_pure];congr 1;apply Array.ext';simp only[yi,List.map_take,List.map_map];simp[ByteArray.data_extract];congr 1
 .rename_i b o len H;simp only[V.In]at q;split at e
  .rename_i l s wr op u;split at e
   .rename_i y A;simp only[oA,oB]at e;obtain⟨rfl,rfl⟩:=e;obtain⟨a1,a2,a3⟩:=Cs.range_eq A;obtain⟨I,B⟩:=YN d;have C:m*esz<=len*esz:=Nat.mul_le_mul_right _ hm;obtain⟨z,t⟩:=Cs.range_some (c:=l) (o:=o) (k:=m*esz) oy;obtain⟨J,K,E⟩:=Cs.range_eq t;have i:z=cs:=by
     apply List.ext_getElem?;intro j;rw[B,List.getElem?_take];by_cases p:j<m*esz
     .rw[if_pos p,E j p,a3 j oy]
     rw[if_neg p,ov]
    subst i;obtain⟨F,G,L⟩:=jH (P:=P) r q u t;exact⟨rfl,F,G⟩
   cases e
  cases e
 cases e
theorem zEQ(ok:CtxOK P c){t:TypeId}{d x v:V}{h':H}(e:zIY c t h d x=some (v,h'))(r:HR ρ D h w)(E:d.In D)(F:x.In D)(s:Array TypeId)(g:s.getD 0 0=t)(ty:TypeId)(j:0<s.size):
  Post ρ D h w ((Builtin.copy_ s ty #[d.conc ρ,x.conc ρ]).run P w) v h':=by
 have G:s[0]? = some t:=by rw[Array.getElem?_eq_getElem j];simp only[Array.getD,j,dif_pos]at g;rw[<-g];rfl
 unfold zIY at e;split at e
 .rename_i ti y;obtain⟨i,k⟩:=ok.ty t ti y;split at e
  .rename_i el p;split at e
   .rename_i K z;obtain⟨O,I⟩:=ok.ty el K z;split at e
    .cases e
    rename_i n new a;split at e
    .simp only[oA,oB]at e;obtain⟨rfl,rfl⟩:=e;obtain⟨A,u,J⟩:=ZD (P:=P) (m:=0) (cs:=[]) r a F (oQ _) (by simp[qb]);refine Post.of_eq ?_ (Post.pure r (v:=.int .i64 0) (by simp[V.In]));simp only[List.map_nil]at u;simp[Builtin.copy_,G,zg k,p,V.conc,A,yS I,u,goInt]
    .rename_i b o len Q;simp only[V.In]at E;split at e
     .rename_i l esz op L;simp only at e;split at e
      .rename_i cs q;rcases f:cond (Nat.ble esz.fz o) (za cs) false with _|_
       .rw[f]at e;cases e
       rw[f,oS]at e;obtain⟨B,h1⟩:=zE5 f;split at e
       .rename_i R C;simp only[oA,oB]at e;obtain⟨rfl,rfl⟩:=e;have hm:(cond (Nat.ble n len) n len)=Nat.min n len:=by
         cases hb:Nat.ble n len
         .have:=(jf _ _).1 hb;rw[oT];exact(Nat.min_eq_right oy).symm
         have:=oH hb;rw[oS];exact(Nat.min_eq_left this).symm
        rw[hm]at q ⊢;obtain⟨A,u,J⟩:=ZD (P:=P) r a F (Nat.min_le_left _ _) q;obtain⟨s1,M,N,_⟩:=kK (P:=P) r E L J h1 C (oH B);refine⟨ρ,_,?_,N,by rw[jT (xY _ _ _)];exact M,by simp[V.In]⟩;simp[Builtin.copy_,G,zg k,p,V.conc,A,yS I,u,goInt,s1]
       cases e
      cases e
     cases e
    cases e
   cases e
  cases e
 cases e
theorem zLZ{z:Ug}{k:Nat}{cs:Cs}(h:zBJ z k=some cs):cs.len=(xD z k).length/\∀i,cs.get? i=(xD z k)[i]?:=by
 unfold zBJ at h;split at h
 .rename_i v;obtain⟨a,b⟩:=Cs.rep_eq h;refine⟨by rw[a,qp];simp,λi=>?_⟩;rw[b,zBK];simp[Nat.mod_one]
 exact Cs.ofL_eq h
theorem zEU(ok:CtxOK P c){t:TypeId}{a b v:V}{h':H}(e:jJ c t a b h=some (v,h'))(r:HR ρ D h w):
  Post ρ D h w ((Instr.makeSlice t (a.conc ρ) (b.conc ρ)).run P w) v h':=by
 unfold jJ at e;split at e
 .rename_i k1 ln E cn;split at e
  .rename_i l kk hl F;obtain rfl:=qx hl;obtain rfl:=qx F;split at e
   .rename_i ti o;obtain⟨i,k⟩:=ok.ty t ti o;split at e
    .rename_i el G;split at e
     .rename_i f p;obtain⟨i2,m⟩:=ok.ty el f p;split at e
      .rename_i z I;obtain⟨J,K⟩:=qJ m I ρ w;rcases n:(Nat.ble l kk && Nat.ble kk 4294967296 && Nat.ble (f.bytes*kk) 1099511627776 && wn z.cells f.size) with _|_
       .simp[n]at e
       simp only[n,oS]at e;simp only[oM]at n;obtain⟨⟨⟨L,M⟩,N⟩,O⟩:=n;have Q:=oH L;have R:=oH M;have S:=oH N;have g:=xL.1 O;split at e
       .rename_i bb h1 T;simp only[oA,oB]at e;obtain⟨rfl,rfl⟩:=e;have q:∀u∈xD z.cells kk,u.In D:=λv U=>V.cells_In (K D) v (zBL _ _ v U)
        obtain⟨ρ',W,X,Y,B,C⟩:=K5 r T (λcs h=>zLZ h) q el (λu Z=>by cases Z);refine⟨ρ',_,?_,W,X,by simp only[V.In];exact Y⟩;have w1:IntKind.i64.wrap (l:Int)=(l:Int):=JZ _;have w2:IntKind.i64.wrap (kk:Int)=(kk:Int):=JZ _;have s:¬((f.bytes:Int)*(kk:Int) > 2^48):=by
         have:((f.bytes*kk:Nat):Int)<=1099511627776:=oy
         have h2:((f.bytes*kk:Nat):Int)=(f.bytes:Int)*(kk:Int):=by simp
         rw[<-h2];have:(2:Int)^48=281474976710656:=rfl;omega
        have x:¬((kk:Int)<0):=oy
        have y:¬((l:Int)<0):=oy
        have A:¬((l:Int) > (kk:Int)):=oy
        have d:((Array.range (kk*f.size)).map λi=>(if kk*f.size=0 then (#[]:Array Value) else (z.cells.map (V.conc ρ)).toArray)[i % (if kk*f.size=0 then (#[]:Array Value) else (z.cells.map (V.conc ρ)).toArray).size]!)=((xD z.cells kk).map (V.conc ρ)).toArray:=by
         by_cases j:kk*f.size=0
         .have:xD z.cells kk=[]:=by
           apply List.eq_nil_of_length_eq_zero;rw[qp,g,j]
          rw[this,j];simp
         simp only[j,if_false];rw[<-g];exact zCm z.cells kk (by rw[g];exact j)
        simp only[Instr.makeSlice,Sem.run_bind,zg k,G,Result.andThen_ok,V.conc,asInt,asIntOf,Sem.run_pure,YJ m,m.bytes,w1,w2];simp only[x,s,y,A,decide_false,Bool.or_false,Bool.false_eq_true,if_false,ol,Sem.run_bind,run_askRoom,Result.andThen_ok,yS m];by_cases j:kk*f.size=0
        .rw[if_pos j]at d ⊢;simp only[Sem.run_bind,Sem.run_pure,Result.andThen_ok];rw[d];simp[newRow,Cap.val,B,C]
        rw[if_neg j]at d ⊢;simp only[Sem.run_bind,Sem.run_pure,Result.andThen_ok,J,V.cells_conc];rw[d];simp[newRow,Cap.val,B,C]
       cases e
      cases e
     cases e
    cases e
   cases e
  cases e
 cases e
end
end Go.Sim
namespace Go.Sim
section
variable {P:Program}{c:Ctx}{ρ:Env}{D:Nat->Prop}{h:H}{w:World}
theorem J9{x v:V}(e:Yz h x=some v)(r:HR ρ D h w)(d:x.In D)(f:Array TypeId)(ty:TypeId):
  (Builtin.unsafeSliceData_ f ty #[x.conc ρ]).run P w = .ok (v.conc ρ) w/\v.In D:=by
 unfold Yz at e;split at e
 .simp only[oA]at e;subst e;exact⟨rfl,by simp[V.In]⟩
 .rename_i b o n k;simp only[oA]at e;subst e;refine⟨?_,by simpa [V.In]using d⟩;simp only[V.conc,Cap.val];exact Go.Lib.run_unsafeSliceData_row w f ty _ _ _ oy
 .rename_i b o n;simp only[V.In]at d;split at e
  .rename_i l esz j;cases hb:Nat.blt 0 l.len with
   | false=>simp[hb]at e
   | true =>
   have i:=(zY _ _).1 hb;simp only[hb,oS,oA]at e;subst e;refine⟨?_,by simpa [V.In]using d⟩;simp only[V.conc,Cap.val];obtain⟨q,s,fz,_,_,_,m⟩:=r.rel b _ d j;obtain⟨_,_,p,a,_⟩:=m rfl;refine Go.Lib.run_unsafeSliceData_row w f ty _ _ _ ?_;intro t;simp only[if_true]at a;have g:ρ.cap b=0:=oy
   rw[g,Nat.zero_mul]at a;omega
  cases e
 cases e
theorem zLD:∀(l:Ug) (y:Ua) (a:Addr) (acc:ByteArray),xq l=some y->(∀j v,l[j]? = some v->w.cell? (a.add j)=some (v.conc ρ)) ->
  (loadBytes a acc l.length).run P w = .ok ⟨acc.data++y.toArray⟩ w:=by
 intro l;induction l with
 | nil=>intro y a acc e _;simp only[xq,oA]at e;subst e;simp[loadBytes]
 | cons v l ih =>
  intro y a acc e b;cases v with
  | int k n =>
   cases k<;>simp only[xq]at e<;>try (cases e;done)
   rcases hb:xq l with _|q
   .simp[hb]at e
   simp only[hb,oA]at e;subst e;have d:w.cell? a=some (.int .u8 n):=by have:=b 0 _ rfl;simpa [Addr.add,V.conc]using this
   have h1:=ih q (a.add 1) (acc.push (UInt8.ofNat n.toNat)) hb (λj y f=>by
    have:=b (j+1) y (by simpa using f);have e:(a.add 1).add j=a.add (j+1):=by
     unfold Addr.add;by_cases hj:j=0
     .subst hj;simp
     simp[hj];omega
    rw[e];exact this)
   have g:n.toNat.toUInt8=UInt8.ofNat n.toNat:=rfl;simp only[og,loadBytes,Sem.run_bind,run_load,d,Result.andThen,g];rw[h1];congr 1;apply ByteArray.ext;simp[ByteArray.push]
  | _=>simp[xq]at e
theorem zHH{b n:Nat}{c:Array Value}{e:TypeId}{fz:Nat×Nat}(a:n≠0)(h:w.heap[b]? = some (.cells c e fz)):
  w.freeze ⟨b,0,none⟩ n=w.putObj b (.cells c e (if fz.1 == fz.2 then (0,n) else (0,max fz.2 n))):=by
 have hb:b<w.heap.size:=by
  rcases Nat.lt_or_ge b w.heap.size with g|g
  .exact g
  rw[Array.getElem?_eq_none g]at h;cases h
 unfold World.freeze World.putObj;rw[if_neg a];congr 1;apply Array.ext_getElem?;intro i;obtain⟨lo,hi⟩:=fz;rw[Array.getElem?_modify];by_cases hi2:b=i
 .subst hi2;have d:w.heap[b] = .cells c e (lo,hi):=by simpa [Array.getElem?_eq_getElem hb]using h
  simp[hb,d]
 simp[hi2]
theorem Ja(ok:CtxOK P c){pt:TypeId}{p n v:V}{h':H}(e:XA c pt h p n=some (v,h'))(r:HR ρ D h w)(R:p.In D)(S:Array TypeId)(ty:TypeId)(F:S[0]? = some pt):
  Post ρ D h w ((Builtin.unsafeString_ S ty #[p.conc ρ,n.conc ρ]).run P w) v h':=by
 have f:IntKind.i64.max=9223372036854775807:=rfl;have o:∀(p:Option Addr) (n:Value),Builtin.unsafeString_ S ty #[.pointer p,n] =
   (do
    let n <-asInt n
    let some pt:=S[0]? | stuck "unsafe.String: no argument types"
    if n<0 then runtimePanic (.error "unsafe.String: len out of range")
    if n > IntKind.i64.max then unsupported (.unsafePointer "String: a length above the largest int")
    match p with
    | none =>
     if n=0 then pure (.string .empty)
     else runtimePanic (.error "unsafe.String: ptr is nil and len is not zero")
    | some a =>
     if n=0 then pure (.string .empty)
     else if <-variablesAt a (<-elemOf pt) n.toNat then do
      let s <-loadBytes a .empty n.toNat
      freeze a n.toNat
      pure (.string s)
     else unsupported (.unsafePointer "String: not so many bytes at ptr")):=λ_ _=>rfl
 have C:(⟨([]:Ua).toArray⟩:ByteArray) = .empty:=rfl;unfold XA at e;split at e
 .simp only[oA,oB]at e;obtain⟨rfl,rfl⟩:=e;refine Post.of_eq ?_ (Post.pure r (v:=.str []) (by simp[V.In]));simp only[V.conc,o,F];simp[asInt,asIntOf,f,C]
 .simp only[oA,oB]at e;obtain⟨rfl,rfl⟩:=e;refine Post.of_eq ?_ (Post.pure r (v:=.str []) (by simp[V.In]));simp only[V.conc,o,F];simp[asInt,asIntOf,f,C]
 .rename_i b k m U;simp only[V.In]at R;split at e
  .rename_i tp l esz op W X;obtain⟨i1,k1⟩:=ok.ty pt tp W;split at e
   .rename_i u hd;split at e
    .rename_i tu Y;obtain⟨i2,k2⟩:=ok.ty u tu Y;rcases T:(Nat.beq tu.size 1 && Nat.beq esz.ty (u+1) && Nat.ble m 4611686018427387904) with _|_
     .simp[T]at e
     simp only[T,oS]at e;simp only[oM]at T;obtain⟨⟨c1,c2⟩,c3⟩:=T;have Z:=oL c1;have c2':=oL c2;have c3':=oH c3;split at e
     .rename_i x hx;split at e
      .rename_i y hy;simp only[oA,oB]at e;obtain⟨rfl,rfl⟩:=e;have K:m≠0:=U;obtain⟨L,t1,t2⟩:=Cs.range_eq hx;obtain⟨M,J,fz,G,q,N,hw⟩:=r.rel b _ R X;obtain⟨z,hfz,hle,hsz,O⟩:=hw rfl;obtain⟨rfl,E⟩:=O u c2';have d:P.cellsOf J=1:=by simp[Program.cellsOf,k2.info,k2.size,Z]
       have hsh:w.shape? (ρ.blk b)=some (J,M.size):=by unfold World.shape?;rw[G]
       have I:=Go.Lib.liesAt_bytes (P:=P) d (M.size/P.cellsOf J) m (by rw[d,Nat.div_one];omega);have A:=zLD (P:=P) (ρ:=ρ) (w:=w) x y ⟨ρ.blk b,0,none⟩ .empty hy (λj u hu=>by
        rw[yT,jy G,Nat.zero_add];have hjm:j<m:=by rw[<-L];exact(List.getElem?_eq_some_iff.1 hu).1
        have:l.get? j=some u:=by rw[t2 j hjm,Nat.zero_add]at hu;exact hu
        have:=q _ _ this
        rwa [z,Nat.zero_add]at this)
       rw[L]at A;have hfr:=zHH (w:=w) (n:=m) K G;have hO:ORel ρ D b (.cells l ⟨esz.n,esz.ty,cond (Nat.ble esz.fz m) m esz.fz⟩ true op) (some (.cells M J (if fz.1 == fz.2 then (0,m) else (0,max fz.2 m)))):=by
        refine⟨M,J,_,rfl,q,N,λ_=>⟨z,?_,hle,hsz,?_⟩⟩
        .intro i hi hk;have Q:esz.fz<=i/\m<=i:=by
          cases hb:Nat.ble esz.fz m with
          | true=>simp only[hb,oS]at hk;have:=oH hb;omega
          | false=>simp only[hb,oT]at hk;have:=(jf _ _).1 hb;omega
         split
         .simp;omega
         rename_i B;rcases E with g|g
         .exact absurd (by simpa using g) B
         simp;omega
        intro t ht;have ht':esz.ty=t+1:=ht;refine⟨(O t ht').1,?_⟩;have Q:m<=(cond (Nat.ble esz.fz m) m esz.fz)/\esz.fz<=(cond (Nat.ble esz.fz m) m esz.fz):=by
         cases hb:Nat.ble esz.fz m with
         | true=>simp only[oS];have:=oH hb;omega
         | false=>simp only[oT];have:=(jf _ _).1 hb;omega
        right;split
        .exact⟨rfl,Q.1⟩
        rename_i B;rcases E with g|g
        .exact absurd (by simpa using g) B
        exact⟨rfl,by simp only;omega⟩
       refine⟨ρ,w.putObj (ρ.blk b) (.cells M J (if fz.1 == fz.2 then (0,m) else (0,max fz.2 m))),?_,Mv.upd r R X rfl rfl,by rw[jT (xY _ _ _)];exact HR.upd r R X rfl rfl hO,by simp[V.In]⟩;rw[<-hfr];simp only[V.conc,o,F,z];have h1:¬(9223372036854775807:Int)<(m:Int):=oy
       have h2:¬((m:Int)<0):=oy
       have h3:¬((m:Int)=0):=oy
       simp[asInt,asIntOf,f,h1,h2,K,variablesAt,hsh,elemOf,zg k1,hd,I,A]
      cases e
     cases e
    cases e
   cases e
  cases e
 cases e
end
end Go.Sim
namespace Go.Sim
def AD.conc(ρ:Env):AD->Deferred
 | .coll id=>{ target:=.collected (ρ.blk id),args:=#[] }
 | .fn f cap args=>{ target:=.fn (.func f) (cap.map (V.conc ρ)).toArray,args:=(args.map (V.conc ρ)).toArray }
def AD.In(D:Nat->Prop):AD->Prop
 | .coll id=>D id
 | .fn _ cap args=>(∀v∈cap,v.In D)/\∀v∈args,v.In D
def OpPost(P:Program)(ρ:Env)(D:Nat->Prop)(h:H)(w:World)(a:Result Next):AN->Prop
 | .val v h'=>∃ρ' w',a = .ok (.value (v.conc ρ')) w'/\Mv ρ D h w ρ' h' w'/\HR ρ' (Dx D h h') h' w'/\v.In (Dx D h h')
 | .skip h'=>∃w',a = .ok .skip w'/\Mv ρ D h w ρ h' w'/\HR ρ (Dx D h h') h' w'
 | .call f args=>(∀v∈args,v.In D)/\a=(callFunc f (args.map (V.conc ρ)).toArray).run P w
 | .round l args=>D l/\(∀v∈args,v.In D)/\a=(Instr.yield (ρ.blk l) (args.map (V.conc ρ)).toArray).run P w
 | .dfr d=>d.In D/\a = .ok (.defer (d.conc ρ)) w
 | .recover=>a = .ok .recover w
 | .pan v h'=>h'=h/\v.In D/\a = .halt (.panic (v.conc ρ)) w
section
variable {P:Program}{c:Ctx}{ρ:Env}{D:Nat->Prop}{h:H}{w:World}{ev:Uh}{a:Operand->Value}
theorem OpPost.ofV{r:Ui}{b:AN}{s:Sem Value}(e:AN.ofV r h=some b)(hs:∀v,r=some v->s.run P w = .ok (v.conc ρ) w/\v.In D)(hr:HR ρ D h w):
  OpPost P ρ D h w ((do pure (.value (<-s)):Sem Next).run P w) b:=by
 rcases r with _|v
 .simp[AN.ofV]at e
 simp only[AN.ofV,oA]at e;subst e;obtain⟨h1,d⟩:=hs v rfl;exact⟨ρ,w,by simp[h1],Mv.refl _ _ _ _,by rw[zr];exact hr,by rw[zr];exact d⟩
theorem OpPost.ofVH{r:Option (V×H)}{b:AN}{s:Sem Value}(e:AN.ofVH r=some b)(hs:∀v h',r=some (v,h')->Post ρ D h w (s.run P w) v h'):
  OpPost P ρ D h w ((do pure (.value (<-s)):Sem Next).run P w) b:=by
 rcases r with _|⟨v,h'⟩
 .simp[AN.ofVH]at e
 simp only[AN.ofVH,oA]at e;subst e;obtain⟨ρ',w',h1,d,f,g⟩:=hs v h' rfl;exact⟨ρ',w',by simp[h1],d,f,g⟩
theorem YY:∀{l:List Operand}{vs:Ug},ZT ev l=some vs->(∀x∈l,∀v,ev x=some v->a x=v.conc ρ/\v.In D)->l.map a=vs.map (V.conc ρ)/\∀v∈vs,v.In D:=by
 intro l;induction l with
 | nil=>intro vs e _;simp only[ZT,oA]at e;subst e;simp
 | cons x l ih =>
  intro vs e b;simp only[ZT]at e;split at e
  .cases e
  rename_i v d;split at e
  .cases e
  rename_i r hr;simp only[oA]at e;subst e;obtain⟨h1,f⟩:=b x (List.mem_cons_self ..) v d;obtain⟨i,j⟩:=ih hr (λy k=>b y (oN _ k));refine⟨by simp[h1,i],λu m=>?_⟩;rcases oq.1 m with rfl|g
  .exact f
  exact j u g
theorem zBt:∀{l:List (Nat×Operand)}{vs:List (Nat×V)},evP ev l=some vs->(∀x∈l.map (·.2),∀v,ev x=some v->a x=v.conc ρ/\v.In D) ->
  l.map (λp=>(p.1,a p.2))=vs.map (λp=>(p.1,p.2.conc ρ))/\∀p∈vs,p.2.In D:=by
 intro l;induction l with
 | nil=>intro vs e _;simp only[evP,oA]at e;subst e;simp
 | cons x l ih =>
  intro vs e b;obtain⟨i,x⟩:=x;simp only[evP]at e;split at e
  .cases e
  rename_i v f;split at e
  .cases e
  rename_i r hr;simp only[oA]at e;subst e;obtain⟨h1,j⟩:=b x (by simp) v f;obtain⟨k,m⟩:=ih hr (λy d=>b y (by simp at d ⊢;exact .inr d));refine⟨by simp[h1,k],λu n=>?_⟩;rcases oq.1 n with rfl|g
  .exact j
  exact m u g
theorem Jj{o:Option Operand}{r:Ui}(e:evO ev o=some r)(b:∀x∈o.toArray,∀v,ev x=some v->a x=v.conc ρ/\v.In D):o.map a=r.map (V.conc ρ):=by
 rcases o with _|x
 .simp only[evO,oA]at e;subst e;rfl
 simp only[evO]at e;split at e
 .rename_i v d;simp only[oA]at e;subst e;simp[(b x (by simp) v d).1]
 cases e
theorem zEb:∀(n t:Nat) (acc:Array Value),(Extern.BytealgMakeNoZero.digits n t acc).size=acc.size+n:=by
 intro n;induction n with
 | zero=>intro t acc;rfl
 | succ n ih=>intro t acc;simp only[Extern.BytealgMakeNoZero.digits,ih,Array.size_push];omega
theorem zK5(hr:HR ρ D h w){ps rs:Array TypeId}{t el n b:Nat}{h':H}(r:rs[0]? = some t)(s:P.underlying t=some (.slice el))(d:qG h (some (.ls [])) ⟨1,el+1,0⟩ true=some (b,h'))(A:n<=4294967296):
  ∃ρ',∃(_:True),Dx D h h' b/\∃w',(Extern.BytealgMakeNoZero.makeNoZero ps rs #[.int .i64 (n:Int)]).run P w = .ok ((V.slice b 0 n (.skip 0)).conc ρ') w'/\Mv ρ D h w ρ' h' w'/\HR ρ' (Dx D h h') h' w':=by
 obtain⟨x,cs,q,rfl,rfl⟩:=Xv d;simp only[oA]at q;subst q;generalize j:Question.cut (Question.appendCap n 0 el) (w.tape w.drawn (Question.appendCap n 0 el))=k;generalize m:Question.cut (Question.extern "internal/bytealg.MakeNoZero.bytes" 0) (w.drew.tape w.drew.drawn (Question.extern "internal/bytealg.MakeNoZero.bytes" 0))=e;have o:HR ρ D h w.drew.drew:=hr.of_heap rfl;have f:=zEb k e #[];simp only[List.size_toArray,List.length_nil,Nat.zero_add]at f;obtain⟨a1,a2⟩:=OH o x (l:=.ls []) (esz:=⟨1,el+1,0⟩) (op:=true) (λi v p=>by simp[Cs.get?,Cs.getL]at p) (Extern.BytealgMakeNoZero.digits k e #[]) el (0,0) k
  (λi v p=>by simp[Cs.get?,Cs.getL]at p) (λi _ _=>by simp) (by simp[Cs.len,wM]) (by rw[f];simp) (λu y=>⟨Nat.succ.inj y,.inl rfl⟩)
 refine⟨_,trivial,zCo,_,?_,Mv.trans hr.lt (Mv.of_heap (w':=w.drew.drew) rfl rfl ⟨rfl,oW (Nat.le_succ _) (Nat.le_succ _)⟩ rfl) (by rw[zr];exact a2),a1⟩;have h1:¬((n:Int)<0):=oy
 have z:¬((n:Int) > 2^48):=by have:(2:Int)^48=281474976710656:=rfl;omega
 have g:Extern.BytealgMakeNoZero.makeNoZero ps rs #[.int .i64 (n:Int)] =
   (do
    let some t:=rs[0]? | stuck "bytealg.MakeNoZero: no result type"
    let .slice elem <-underlying t|stuck "bytealg.MakeNoZero: slice type expected"
    if (n:Int)<0 || (n:Int) > 2^48 then runtimePanic (.error "makeslice: len out of range")
    let cap <-choose (.appendCap (n:Int).toNat 0 elem)
    askRoom cap
    let bytes <-choose (.extern "internal/bytealg.MakeNoZero.bytes" 0)
    let a <-newRow elem (Extern.BytealgMakeNoZero.digits cap bytes #[])
    pure (.slice (some a) (n:Int).toNat cap)):=rfl
 rw[g];simp only[r,Sem.run_bind,run_underlying s,Result.andThen_ok];simp only[h1,z,decide_false,Bool.or_false,Bool.false_eq_true,if_false,ol,Sem.run_bind,Sem.run_pure,Result.andThen_ok,run_choose,Question.forced,World.drew_eq,j,run_askRoom,m];simp only[newRow,Sem.run_bind,run_newObj,Result.andThen_ok,World.alloc_eq,Sem.run_pure,V.conc,Cap.val,Env.at_blk,Env.at_off,Env.at_cap,Nat.sub_zero,World.size_drew];rfl
theorem zEO(ok:CtxOK P c){y:Call}{ty:TypeId}{an:AN}(e:xc c y ev h=some an)(hr:HR ρ D h w)(G:∀x∈y.operands,∀v,ev x=some v->a x=v.conc ρ/\v.In D):
  OpPost P ρ D h w ((do let d <-resolve a y ty;invoke d.target d.args:Sem Next).run P w) an:=by
 unfold xc at e;split at e
 .cases e
 rename_i args H;obtain⟨ha,j⟩:=YY (a:=a) (ρ:=ρ) (D:=D) H (λx L v m=>G x (by
  unfold Call.operands;rw[Array.mem_append];exact .inr (by simpa using L)) v m)
 have i:y.args.map a=(args.map (V.conc ρ)).toArray:=by apply Array.ext';rw[Array.toList_map,ha]
 split at e
 .rename_i f E;have F:∀v,ev f=some v->a f=v.conc ρ/\v.In D:=λv m=>G f (by
   unfold Call.operands;rw[Array.mem_append];exact .inl (by simp[E])) v m
  split at e
  .rename_i g first captured m
   obtain⟨h1,C⟩:=F _ m;simp only[V.In,V.InL_iff]at C;unfold Zj at e;cases A:Xp c g with
   | true =>
    rw[A,oS]at e;split at e
    .rename_i x;simp only[oA]at e;subst e;unfold Xp at A;split at A
     .rename_i k M;obtain rfl:=oL A;obtain⟨fn,N,O,Q,n4,R⟩:=ok.noesc _ M;refine⟨ρ,w,?_,Mv.refl _ _ _ _,by rw[zr];exact hr,by rw[zr];exact j x (by simp)⟩;simp only[resolve,E,h1,V.conc,Deferred.ofValue,Sem.run_bind,Sem.run_pure,Result.andThen_ok,invoke,i,V.concL_eq];simp only[List.map_nil,List.map_cons];have:=run_callFunc_extern N O Q n4 R #[x.conc ρ] w;rw[Go.Lib.run_noEscape]at this;simpa using this
     cases A
    cases e
   | false =>
   rw[A,oT]at e;split at e
   .rename_i el B;unfold zUJ at B;split at B
    case h_2=>cases B
    rename_i k S M;cases hb:Nat.beq g k with
    | false=>simp[hb]at B
    | true =>
    simp only[hb,oS,oA]at B;subst B;obtain rfl:=oL hb;obtain⟨fn,ps,rs,t,N,O,Q,n4,R,n6,n7⟩:=ok.mnz _ _ M;cases hm:zVe S h first args captured with
    | none=>rw[hm]at e;cases e
    | some q =>
    obtain⟨v,h'⟩:=q;rw[hm]at e;simp only[AN.ofVH,oA]at e;subst e;unfold zVe at hm;split at hm
    case h_2=>cases hm
    rename_i n;cases I:Nat.ble n 4294967296 with
    | false=>simp[I]at hm
    | true =>
    have hn:=oH I;simp only[I,oS]at hm;split at hm
    case h_2=>cases hm
    rename_i b hh' K;simp only[oA,oB]at hm;obtain⟨rfl,rfl⟩:=hm;obtain⟨p1,p2,p3,p4⟩:=zK5 (P:=P) hr n6 n7 K hn;obtain⟨w',q1,q2,q3⟩:=p4;refine⟨p1,w',?_,q2,q3,by simp only[V.In];exact p3⟩;simp only[resolve,E,h1,V.conc,Deferred.ofValue,Sem.run_bind,Sem.run_pure,Result.andThen_ok,invoke,i,V.concL_eq];have:=run_callFunc_extern N O Q n4 R #[.int .i64 (n:Int)] w;rw[q1]at this;simpa [V.conc]using this
   simp only[oA]at e;subst e;refine⟨λv m=>?_,?_⟩
   .rcases List.mem_append.1 m with T|T
    .exact C.2.1 v T
    rcases List.mem_append.1 T with U|U
    .exact j v U
    exact C.2.2 v U
   simp only[resolve,E,h1,V.conc,Deferred.ofValue,Sem.run_bind,Sem.run_pure,Result.andThen_ok,invoke,i,V.concL_eq];congr 2;simp[List.append_assoc]
  .rename_i l m;simp only[oA]at e;subst e;obtain⟨h1,C⟩:=F _ m;simp only[V.In]at C;refine⟨C,j,?_⟩;simp only[resolve,E,h1,V.conc,Deferred.ofValue,Sem.run_bind,Sem.run_pure,Result.andThen_ok,invoke,i];congr 2;simp
  cases e
 .rename_i b hb;have base:((do let d <-resolve a y ty;invoke d.target d.args:Sem Next))=builtin b y.argTypes ty (y.args.map λ| .const _=>true|_=>false) (args.map (V.conc ρ)).toArray:=by
   simp only[resolve,hb,i];rfl
  rw[base];have z:∀l,y.argTypes.toList=l->y.argTypes=l.toArray:=λl hl=>by rw[<-hl]
  split at e
  .rename_i x t o;rw[z _ o];exact OpPost.ofV (s:=Builtin.len_ #[t] ty #[x.conc ρ]) e (λv m=>zGm ok m hr (j x (by simp)) #[t] rfl ty (by simp)) hr
  .rename_i x t o;rw[z _ o];exact OpPost.ofV (s:=Builtin.cap_ #[t] ty #[x.conc ρ]) e (λv m=>zGi ok m #[t] rfl ty (by simp)) hr
  .rename_i s x t tx o;rw[z _ o];exact OpPost.ofVH (s:=Builtin.append_ #[t,tx] ty #[s.conc ρ,x.conc ρ]) e (λv h' m=>zBV ok m hr (j s (by simp)) (j x (by simp)) ty)
  .rename_i d x t t2 o;rw[z _ o];exact OpPost.ofVH (s:=Builtin.copy_ #[t,t2] ty #[d.conc ρ,x.conc ρ]) e (λv h' m=>zEQ ok m hr (j d (by simp)) (j x (by simp)) #[t,t2] rfl ty (by simp))
  .rename_i x l;refine OpPost.ofV (s:=Builtin.min_ y.argTypes ty ((x::l).map (V.conc ρ)).toArray) e (λv m=>?_) hr;obtain⟨W,X⟩:=Xu (P:=P) (w:=w) ρ false l x v m;refine⟨?_,X D (j x (by simp))⟩;simpa [Builtin.min_]using W
  .rename_i x l;refine OpPost.ofV (s:=Builtin.max_ y.argTypes ty ((x::l).map (V.conc ρ)).toArray) e (λv m=>?_) hr;obtain⟨W,X⟩:=Xu (P:=P) (w:=w) ρ true l x v m;refine⟨?_,X D (j x (by simp))⟩;simpa [Builtin.max_]using W
  .simp only[oA]at e;subst e;simp[OpPost,builtin]
  .rename_i x;exact OpPost.ofV (s:=Builtin.unsafeSliceData_ y.argTypes ty #[x.conc ρ]) e (λv m=>J9 m hr (j x (by simp)) _ _) hr
  .rename_i p n pt l o;exact OpPost.ofVH (s:=Builtin.unsafeString_ y.argTypes ty #[p.conc ρ,n.conc ρ]) e (λv h' m=>Ja ok m hr (j p (by simp)) _ _ (by
    have:y.argTypes.toList[0]? = some pt:=by rw[o];rfl
    simpa using this))
  cases e
 rename_i r name J;split at e
 .rename_i t v m;obtain⟨h1,C⟩:=G r (by
   unfold Call.operands;rw[Array.mem_append];exact .inl (by simp[J])) _ m
  simp only[V.In]at C;split at e
  .rename_i f E;simp only[oA]at e;subst e;refine⟨λu Y=>(oq.1 Y).elim (λg=>g ▸ C) (j u),?_⟩;have hm:=zBX ok E (P.types.size+Made.depth-1) (v.conc ρ) w;rw[show P.types.size+Made.depth-1+1=P.types.size+Made.depth from by unfold Made.depth;omega]at hm;simp only[resolve,J,h1,V.conc,Sem.run_bind,Sem.run_pure,Result.andThen_ok,invoke,i];have Z:(List.map (V.conc ρ) args).take args.length=List.map (V.conc ρ) args:=List.take_of_length_le (by simp);simp[callMethod,hm,Z]
  .rename_i f el E;split at e
   .rename_i u Y;simp only[oA]at e;subst e;obtain⟨hm,hud⟩:=zBW ok E (P.types.size+Made.depth-1) v u Y hr C;refine⟨λx L=>(oq.1 L).elim (λg=>g ▸ hud) (j x),?_⟩;rw[show P.types.size+Made.depth-1+1=P.types.size+Made.depth from by unfold Made.depth;omega]at hm;simp only[resolve,J,h1,V.conc,Sem.run_bind,Sem.run_pure,Result.andThen_ok,invoke,i];have Z:(List.map (V.conc ρ) args).take args.length=List.map (V.conc ρ) args:=List.take_of_length_le (by simp);simp[callMethod,hm,Z]
   cases e
  cases e
 cases e
theorem J8(ok:CtxOK P c){o:Oper}{an:AN}(e:yD c o ev h=some an)(hr:HR ρ D h w)(j:∀x∈o.op.operands,∀v,ev x=some v->a x=v.conc ρ/\v.In D):
  OpPost P ρ D h w ((execOp a o).run P w) an:=by
 unfold yD at e;split at e
 case h_1 x r =>
  rw[r]at j;rcases E:ev x with _|v
  .simp[E,AN.ofV]at e
  obtain⟨h1,B⟩:=j x (by simp[Op.operands]) v E;simp only[E,AN.ofV,oA]at e;subst e;exact⟨ρ,w,by simp[execOp,r,h1],Mv.refl _ _ _ _,by rw[zr];exact hr,by rw[zr];exact B⟩
 case h_2 x r =>
  rw[r]at j;rcases E:ev x with _|v
  .simp[E,AN.ofV]at e
  obtain⟨h1,B⟩:=j x (by simp[Op.operands]) v E;simp only[E,AN.ofV,oA]at e;subst e;exact⟨ρ,w,by simp[execOp,r,h1],Mv.refl _ _ _ _,by rw[zr];exact hr,by rw[zr];exact B⟩
 case h_3 cc x y r =>
  rw[r]at j;split at e
  .rename_i t hc;obtain⟨c1,_⟩:=j cc (by simp[Op.operands]) _ hc;rw[show execOp a o=(do pure (.value (<-(do pure (if <-asBool (a cc) then a x else a y):Sem Value))):Sem Next)from by simp[execOp,r]];refine OpPost.ofV e (λv A=>?_) hr;cases t with
   | true=>simp only[oS]at A;obtain⟨h1,B⟩:=j x (by simp[Op.operands]) v A;exact⟨by simp[c1,V.conc,asBool,h1],B⟩
   | false=>simp only[oT]at A;obtain⟨h1,B⟩:=j y (by simp[Op.operands]) v A;exact⟨by simp[c1,V.conc,asBool,h1],B⟩
  cases e
 case h_4 t r =>
  split at e
  .rename_i ti F;obtain⟨i,k⟩:=ok.ty t ti F;split at e
   .rename_i z hz;obtain⟨z1,z2⟩:=qJ k hz ρ w;split at e
    .rename_i b h1 N;simp only[oA]at e;subst e;obtain⟨ρ',Q,R,S,T,U⟩:=XN hr N (V.cells_In (z2 D)) t (λu C=>Nat.succ.inj C);refine⟨ρ',_,?_,Q,R,by simp only[V.In];exact S⟩;simp[execOp,r,Instr.alloc,z1,newVar,newRow,V.cells_conc,V.conc,T,U]
    cases e
   cases e
  cases e
 case h_5 t x r =>
  rw[r]at j;split at e
  .rename_i v A;obtain⟨h1,B⟩:=j x (by simp[Op.operands]) v A;split at e
   .rename_i b hh N;simp only[oA]at e;subst e;obtain⟨ρ',Q,R,S,T,U⟩:=XN hr N (V.cells_In B) t (λu C=>Nat.succ.inj C);refine⟨ρ',_,?_,Q,R,by simp only[V.In];exact S⟩;simp[execOp,r,Instr.box,h1,newVar,newRow,V.cells_conc,V.conc,T,U]
   cases e
  cases e
 case h_6 t ps r =>
  rw[r]at j;split at e
  .rename_i l hl;obtain⟨W,X⟩:=zBt (a:=a) (ρ:=ρ) (D:=D) hl (λx E v A=>j x (by simpa [Op.operands]using E) v A);have I:ps.map (λp=>(p.1,a p.2))=(l.map λp=>(p.1,p.2.conc ρ)).toArray:=by
    apply Array.ext';rw[Array.toList_map,W]
   rw[show execOp a o=(do pure (.value (<-Instr.build t (l.map λp=>(p.1,p.2.conc ρ)).toArray)):Sem Next)from by simp only[execOp,r];rw[<-I]];exact OpPost.ofV e (λv A=>zCs ok A X) hr
  cases e
 case h_7 t n ps r =>
  rw[r]at j;split at e
  .rename_i l hl;obtain⟨W,X⟩:=zBt (a:=a) (ρ:=ρ) (D:=D) hl (λx E v A=>j x (by simpa [Op.operands]using E) v A);have I:ps.map (λp=>(p.1,a p.2))=(l.map λp=>(p.1,p.2.conc ρ)).toArray:=by
    apply Array.ext';rw[Array.toList_map,W]
   rw[show execOp a o=(do pure (.value (<-Instr.buildSlice t n (l.map λp=>(p.1,p.2.conc ρ)).toArray)):Sem Next)from by simp only[execOp,r];rw[<-I]];exact OpPost.ofVH e (λv h' A=>X6 ok A hr X)
  cases e
 case h_8 t x r =>
  rw[r]at j;split at e
  .rename_i v A;obtain⟨h1,B⟩:=j x (by simp[Op.operands]) v A;rw[show execOp a o=(do pure (.value (<-Instr.loadAt t (v.conc ρ))):Sem Next)from by simp[execOp,r,h1]];exact OpPost.ofV e (λu C=>J7 ok C hr B) hr
  cases e
 case h_9 t x y r =>
  rw[r]at j;split at e
  .rename_i p v Y A;obtain⟨h1,B⟩:=j x (by simp[Op.operands]) p Y;obtain⟨G,J⟩:=j y (by simp[Op.operands]) v A;split at e
   .rename_i h' Z;simp only[oA]at e;subst e;obtain⟨w',s1,s2,s3,s4⟩:=zKB ok Z hr B J;exact⟨w',by simp[execOp,r,h1,G,s1],s3,by rw[jT s4];exact s2⟩
   cases e
  cases e
 case h_10 x r =>
  rw[r]at j;split at e
  .rename_i b q A;obtain⟨h1,B⟩:=j x (by simp[Op.operands]) _ A;simp only[oA]at e;subst e;exact⟨ρ,w,by simp[execOp,r,h1,V.conc],Mv.refl _ _ _ _,by rw[zr];exact hr,by rw[zr];exact B⟩
  .rename_i t v A;obtain⟨h1,B⟩:=j x (by simp[Op.operands]) _ A;simp only[oA]at e;subst e;exact⟨ρ,w,by simp[execOp,r,h1,V.conc],Mv.refl _ _ _ _,by rw[zr];exact hr,by rw[zr];exact B⟩
  .rename_i g q1 q2 A;obtain⟨h1,B⟩:=j x (by simp[Op.operands]) _ A;simp only[oA]at e;subst e;exact⟨ρ,w,by simp[execOp,r,h1,V.conc],Mv.refl _ _ _ _,by rw[zr];exact hr,by rw[zr];exact B⟩
  .rename_i l A;obtain⟨h1,B⟩:=j x (by simp[Op.operands]) _ A;simp only[oA]at e;subst e;exact⟨ρ,w,by simp[execOp,r,h1,V.conc],Mv.refl _ _ _ _,by rw[zr];exact hr,by rw[zr];exact B⟩
  cases e
 case h_11 op t x y ty r =>
  rw[r]at j;split at e
  .rename_i u v C A;obtain⟨h1,B⟩:=j x (by simp[Op.operands]) u C;obtain⟨G,J⟩:=j y (by simp[Op.operands]) v A;rw[show execOp a o=(do pure (.value (<-(do eqGuard op t x y (u.conc ρ) (v.conc ρ);binOp op t (u.conc ρ) (v.conc ρ):Sem Value))):Sem Next)from by simp[execOp,r,h1,G]];exact OpPost.ofV e (λq H=>zGh ok H B J) hr
  cases e
 case h_12 op t x r =>
  rw[r]at j;split at e
  .rename_i u C;obtain⟨h1,B⟩:=j x (by simp[Op.operands]) u C;rw[show execOp a o=(do pure (.value (<-Op.unary op (u.conc ρ))):Sem Next)from by simp[execOp,r,h1]];exact OpPost.ofV e (λq H=>⟨(zBg H ρ).1,(zBg (P:=P) (w:=w) H ρ).2 D⟩) hr
  cases e
 case h_13 s d x r =>
  rw[r]at j;split at e
  .rename_i u C;obtain⟨h1,B⟩:=j x (by simp[Op.operands]) u C;rw[show execOp a o=(do pure (.value (<-convert s d (u.conc ρ))):Sem Next)from by simp[execOp,r,h1]];exact OpPost.ofVH e (λv h' A=>zEP ok A hr B)
  cases e
 case h_14 t x r =>
  rw[r]at j;split at e
  .rename_i ti b q len cp F A;obtain⟨i,k⟩:=ok.ty t ti F;obtain⟨h1,B⟩:=j x (by simp[Op.operands]) _ A;split at e
   .rename_i n el O;rcases hb:Nat.ble n len with _|_
    .simp[hb]at e
    simp only[hb,oS,oA]at e;subst e;have:=oH hb;have N:¬len<n:=oy
    exact⟨ρ,w,by simp[execOp,r,h1,V.conc,Instr.arrayAt,zg k,O,N],Mv.refl _ _ _ _,by rw[zr];exact hr,by rw[zr];simpa [V.In]using B⟩
   cases e
  cases e
 case h_15 t x r =>
  rw[r]at j;split at e
  .rename_i ti v F A;obtain⟨i,k⟩:=ok.ty t ti F;obtain⟨h1,B⟩:=j x (by simp[Op.operands]) _ A;split at e
   .cases e
   rename_i O;simp only[oA]at e;subst e;refine⟨ρ,w,?_,Mv.refl _ _ _ _,by rw[zr];exact hr,by rw[zr];simpa [V.In]using B⟩;simp only[execOp,r,h1,V.conc,Instr.makeInterface,Sem.run_bind,zg k,Result.andThen_ok];cases hdd:ti.desc<;>first|rfl|exact absurd hdd (O _)
  cases e
 case h_16 g first captured r =>
  rw[r]at j;split at e
  .rename_i u v C A;obtain⟨a1,a2⟩:=YY (a:=a) (ρ:=ρ) (D:=D) C (λx E v A=>j x (by simp[Op.operands];exact .inl (by simpa using E)) v A);obtain⟨b1,b2⟩:=YY (a:=a) (ρ:=ρ) (D:=D) A (λx E v A=>j x (by simp[Op.operands];exact .inr (by simpa using E)) v A);simp only[oA]at e;subst e;have e1:first.map a=(u.map (V.conc ρ)).toArray:=by apply Array.ext';rw[Array.toList_map,a1]
   have e2:captured.map a=(v.map (V.conc ρ)).toArray:=by apply Array.ext';rw[Array.toList_map,b1]
   refine⟨ρ,w,?_,Mv.refl _ _ _ _,by rw[zr];exact hr,by rw[zr];simp only[V.In,V.InL_iff];exact⟨λ_=>by simp,a2,b2⟩⟩;simp[execOp,r,Instr.makeFunc,e1,e2,V.conc,V.concL_eq]
  cases e
 case h_17 t l k r =>
  rw[r]at j;split at e
  .rename_i u v C A;obtain⟨h1,B⟩:=j l (by simp[Op.operands]) u C;obtain⟨G,J⟩:=j k (by simp[Op.operands]) v A;rw[show execOp a o=(do pure (.value (<-Instr.makeSlice t (u.conc ρ) (v.conc ρ))):Sem Next)from by simp[execOp,r,h1,G]];exact OpPost.ofVH e (λq h' H=>zEU ok H hr)
  cases e
 case h_18 t x lo hi mx r =>
  rw[r]at j;split at e
  .rename_i v p q m A Y H hm;obtain⟨h1,B⟩:=j x (by simp[Op.operands]) v A;have e1:=Jj (a:=a) (ρ:=ρ) (D:=D) Y (λy L v A=>j y (by simp[Op.operands]at L ⊢;simp[L]) v A);have e2:=Jj (a:=a) (ρ:=ρ) (D:=D) H (λy L v A=>j y (by simp[Op.operands]at L ⊢;simp[L]) v A);have e3:=Jj (a:=a) (ρ:=ρ) (D:=D) hm (λy L v A=>j y (by simp[Op.operands]at L ⊢;simp[L]) v A);rw[show execOp a o=(do pure (.value (<-Instr.sliceAt t (v.conc ρ) (p.map (V.conc ρ)) (q.map (V.conc ρ)) (m.map (V.conc ρ)))):Sem Next)from by simp only[execOp,r,h1,e1,e2,e3]];exact OpPost.ofV e (λu C=>zCy ok C hr B) hr
  cases e
 case h_19 t x f r =>
  rw[r]at j;split at e
  .rename_i ti b q F A;obtain⟨i,k⟩:=ok.ty t ti F;obtain⟨h1,B⟩:=j x (by simp[Op.operands]) _ A;split at e
   .rename_i fs O;split at e
    .rename_i fd hfd;unfold afa at e;split at e
     .rename_i tf htf;obtain⟨i2,k2⟩:=ok.ty _ tf htf;rcases hb:Nat.blt 0 tf.size with _|_
      .simp[hb]at e
      simp only[hb,oS,oA]at e;subst e;have:=(zY _ _).1 hb;have hne:¬tf.size=0:=oy
      refine⟨ρ,w,?_,Mv.refl _ _ _ _,by rw[zr];exact hr,by rw[zr];simpa [V.In]using B⟩;simp[execOp,r,h1,V.conc,Instr.fieldAt,zg k,O,hfd,Instr.sureAddr,fieldPlace,yS k2,hne,yT,Nat.add_assoc]
     cases e
    cases e
   cases e
  cases e
 case h_20 t x f r =>
  rw[r]at j;split at e
  .rename_i v A;obtain⟨h1,B⟩:=j x (by simp[Op.operands]) v A;rw[show execOp a o=(do pure (.value (<-Instr.field t (v.conc ρ) f)):Sem Next)from by simp[execOp,r,h1]];exact OpPost.ofV e (λu C=>zGk ok C B) hr
  cases e
 case h_21 t x ix r =>
  rw[r]at j;split at e
  .rename_i u v C A;obtain⟨h1,B⟩:=j x (by simp[Op.operands]) u C;obtain⟨G,J⟩:=j ix (by simp[Op.operands]) v A;rw[show execOp a o=(do pure (.value (<-Instr.indexAt t (u.conc ρ) (v.conc ρ))):Sem Next)from by simp[execOp,r,h1,G]];exact OpPost.ofV e (λq H=>zGl ok H B) hr
  cases e
 case h_22 t x ix r =>
  rw[r]at j;split at e
  .rename_i u v C A;obtain⟨h1,B⟩:=j x (by simp[Op.operands]) u C;obtain⟨G,J⟩:=j ix (by simp[Op.operands]) v A;rw[show execOp a o=(do pure (.value (<-Instr.index t (u.conc ρ) (v.conc ρ))):Sem Next)from by simp[execOp,r,h1,G]];exact OpPost.ofV e (λq H=>zCv ok H B) hr
  cases e
 case h_23 x i r =>
  rw[r]at j;split at e
  .rename_i l A;obtain⟨h1,B⟩:=j x (by simp[Op.operands]) _ A;simp only[V.In,V.InL_iff]at B;rw[show execOp a o=(do pure (.value (<-Instr.extract ((V.tuple l).conc ρ) i)):Sem Next)from by simp[execOp,r,h1]];refine OpPost.ofV e (λu C=>⟨?_,B u (List.mem_of_getElem? C)⟩) hr;simp[Instr.extract,zGx,C]
  cases e
 case h_24 cl r =>
  rw[r]at j;rw[show execOp a o=(do let d <-resolve a cl o.type;invoke d.target d.args:Sem Next)from by simp only[execOp,r]];exact zEO ok e hr (by simpa [Op.operands]using j)
 case h_25 x r =>
  rw[r]at j;split at e
  .rename_i t v A;obtain⟨h1,B⟩:=j x (by simp[Op.operands]) _ A;simp only[oA]at e;subst e;exact⟨rfl,B,by simp[execOp,r,h1,V.conc,Instr.panic]⟩
  cases e
 case h_26 cl r =>
  rw[r]at j;split at e
  .rename_i args f M hf;obtain⟨a1,a2⟩:=YY (a:=a) (ρ:=ρ) (D:=D) M (λx E v A=>j x (by
    simp only[Op.operands,Call.operands];rw[Array.mem_append];exact .inr (by simpa using E)) v A)
   split at e
   .rename_i g first captured A
    obtain⟨h1,B⟩:=j f (by simp only[Op.operands,Call.operands];rw[Array.mem_append];exact .inl (by simp[hf])) _ A;simp only[V.In,V.InL_iff]at B;simp only[oA]at e;subst e;have K:cl.args.map a=(args.map (V.conc ρ)).toArray:=by apply Array.ext';rw[Array.toList_map,a1]
    refine⟨⟨B.2.2,λv A=>(List.mem_append.1 A).elim (B.2.1 v) (a2 v)⟩,?_⟩;simp[execOp,r,resolve,hf,h1,V.conc,V.concL_eq,Deferred.ofValue,K,AD.conc]
   cases e
  cases e
 case h_27 t r =>
  rw[show execOp a o=(do pure (.value (<-Instr.makeMap t none)):Sem Next)from by simp[execOp,r]];exact OpPost.ofVH e (λu h' C=>zBY C hr t)
 case h_28 x xt t okf r =>
  rw[r]at j;split at e
  .rename_i v A;obtain⟨h1,B⟩:=j x (by simp[Op.operands]) v A;rw[show execOp a o=(do pure (.value (<-Instr.typeAssert (v.conc ρ) xt t okf)):Sem Next)from by simp[execOp,r,h1]];exact OpPost.ofV e (λu C=>zEX ok C B) hr
  cases e
 case h_29 t x k okf r =>
  rw[r]at j;split at e
  .rename_i m kv hm hk;obtain⟨h1,B⟩:=j x (by simp[Op.operands]) _ hm;obtain⟨G,J⟩:=j k (by simp[Op.operands]) _ hk;rw[show execOp a o=(do pure (.value (<-Instr.lookup t (m.conc ρ) (kv.conc ρ) okf)):Sem Next)from by simp[execOp,r,h1,G]];exact OpPost.ofV e (λu C=>zET ok C hr B J) hr
  cases e
 case h_30 t x k y r =>
  rw[r]at j;split at e
  .rename_i m kv v hm hk A;obtain⟨h1,B⟩:=j x (by simp[Op.operands]) _ hm;obtain⟨G,J⟩:=j k (by simp[Op.operands]) _ hk;obtain⟨h5,h6⟩:=j y (by simp[Op.operands]) _ A;split at e
   .rename_i h' C;simp only[oA]at e;subst e;obtain⟨w',s1,s2,s3⟩:=zGr ok C hr B J h6;exact⟨w',by simp[execOp,r,h1,G,h5,s1],s2,s3⟩
   cases e
  cases e
 case h_31=>cases e
end
end Go.Sim
