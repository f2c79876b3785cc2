/- G. No condition. -/
import Derived.Test.YtnpeieeomokomaaGreatZC
import Derived.Lib.Builder
import Derived.Lib.UnsafeStr
import Derived.Laws.Externs
namespace Go.Sim
variable{h':H}{l new:Ug}{b n:Nat}{t tx ty:TypeId}{i2:TypeInfo}{v x:V}
section
variable {P:Program}{c:Ctx}{ρ:Env}{D:Nat->Prop}
variable {h:H}{w:World}
theorem wS(ok:CtxOK P c){ti:TI}(h:c.ty.get t=some ti)(hs:bI ti.desc=true)(b:Bool)(n:Nat)(v:Value)(w:World):(Instr.checkKey b (n+1) t v).run P w = .ok () w:=by obtain⟨i,k⟩:=ok.ty t ti h;have a:=k.und;cases hd:ti.desc<;>rw[hd]at hs a<;>first|(simp[bI]at hs;done)|simp_all[Instr.checkKey,underlying]
theorem aT(ok:CtxOK P c){t:TypeId}{v:V}(h:Xn c t v=true)(p:v.In D)(b:Bool)(m:Nat)(w:World):(Instr.checkKey b (m+2) t (v.conc ρ)).run P w = .ok () w:=by
 unfold Xn at h;split at h
 .cases h
 rename_i ti d;obtain⟨i,k⟩:=ok.ty t ti d;have q:=k.und;split at h
 .rename_i hd;exact wS ok d (by rw[hd];rfl) b (m+1) _ w
 .rename_i hd;exact wS ok d (by rw[hd];rfl) b (m+1) _ w
 .rename_i hd;exact wS ok d (by rw[hd];rfl) b (m+1) _ w
 .rename_i F xs hd;rw[hd]at q;simp only[V.In,V.InL_iff]at p;rw[Instr.checkKey];simp only[V.conc,V.concL_eq,Sem.run_bind,run_underlying q,Result.andThen_ok];have j:∀l,Qh c xs l=true->(forIn (m:=Sem) l PUnit.unit λf __s =>
     if f.name ≠ "_" then do
      Instr.checkKey b (m+1) f.type (<-part f.type (xs.map (V.conc ρ)).toArray f.offset)
      pure (ForInStep.yield PUnit.unit)
     else pure (ForInStep.yield PUnit.unit)).run P w = .ok PUnit.unit w:=by
   intro l;induction l with
   | nil=>simp_all
   | cons f F ih =>
    intro o;simp only[Qh,oI]at o;rw[List.forIn_cons];have B:(if f.name ≠ "_" then do
      Instr.checkKey b (m+1) f.type (<-part f.type (xs.map (V.conc ρ)).toArray f.offset)
      pure (ForInStep.yield PUnit.unit)
     else pure (ForInStep.yield PUnit.unit):Sem (ForInStep PUnit)).run P w = .ok (ForInStep.yield PUnit.unit) w:=by
     split
     .have a:=o.1;split at a
      .rename_i G r;simp only[oI]at a;have s:=a.2;split at s
       .rename_i y u;obtain⟨C,_⟩:=wJ (ρ:=ρ) ok r u p w<;>grind[Sem.run_bind,Result.andThen_ok,wS,Sem.run_pure]
       grind
      grind
     simp
    simp_all
  rw[<-Array.forIn_toList,j _ h];simp
 .rename_i n e xs hd;rw[hd]at q;simp only[V.In,V.InL_iff]at p;rw[Instr.checkKey];simp only[V.conc,V.concL_eq,Sem.run_bind,run_underlying q,Result.andThen_ok];split at h
  .rename_i z g;obtain⟨i2,E⟩:=ok.ty e z g;simp only[oI]at h;have A:∀w,(sizeOf e).run P w = .ok z.size w:=λw=>by simp[sizeOf,XK E,E.size]
   have j:∀n i,Qg z xs n i=true->(forIn (m:=Sem) (List.range' i n) PUnit.unit λi __s=>do
      let __do_lift <-sizeOf e
      let __do_lift <-part e (xs.map (V.conc ρ)).toArray (i*__do_lift)
      Instr.checkKey b (m+1) e __do_lift
      pure (ForInStep.yield PUnit.unit)).run P w = .ok PUnit.unit w:=by
    intro n;induction n with
    | zero=>simp_all
    | succ n ih =>
     intro i o;simp only[Qg,oI]at o;rw[List.range'_succ,List.forIn_cons];have a:=o.1;split at a
     .rename_i y u;obtain⟨C,_⟩:=wJ (ρ:=ρ) ok g u p w;simp only[Sem.run_bind,A,C,Result.andThen_ok,wS ok g h.1,Sem.run_pure]
      grind
     grind
   simp_all
  grind
 grind
theorem bV(ok:CtxOK P c)(h:Xn c t v=true)(a:v.In D)(b:Bool)(w:World):(Instr.checkKey b 10000 t (v.conc ρ)).run P w = .ok () w :=
 aT ok h a b 9998 w
theorem vq{d:Nat}{ti:TI}(i:c.ty.get t=some ti){y:V}{r b:Bool}(e:pD c (d+1) t x y=some r)(h:Instr.sameNow ti.desc (x.conc ρ) (y.conc ρ)=some b):b=r:=by
 rw[pD]at e;simp only[i]at e;unfold Instr.sameNow at h;split at h
 .rename_i o k a j a' hd f g;cases x<;>simp only[V.conc]at f<;>first|(cases f;done)|skip
  cases y<;>simp only[V.conc]at g<;>first|(cases g;done)|skip
  simp only[Value.int.injEq]at f g;obtain⟨rfl,rfl⟩:=f;obtain⟨rfl,rfl⟩:=g;rw[hd]at e;simp only[eq1]at e;rename_i k n j p;cases q:jy k j<;>simp_all[qA]
 .rename_i a a' hd f g;cases x<;>simp only[V.conc]at f<;>first|(cases f;done)|skip
  cases y<;>simp only[V.conc]at g<;>first|(cases g;done)|skip
  rw[hd]at e;simp only[eq1,oA]at e;simp only[oA]at h;simp only[Value.string.injEq]at f g;rw[<-e,<-h,<-f,<-g,JU];have hb:∀l m:Ua,((⟨l.toArray⟩:ByteArray) == ⟨m.toArray⟩)=(l.toArray == m.toArray):=λ_ _=>rfl
  grind
 .rename_i a a' hd f g;cases x<;>simp only[V.conc]at f<;>first|(cases f;done)|skip
  cases y<;>simp only[V.conc]at g<;>first|(cases g;done)|skip
  grind[eq1]
 grind
theorem tE{ti:TI}(a:c.ty.get t=some ti){y:V}{r b:Bool}(e:pD c 30 t x y=some r)(h:Instr.sameNow ti.desc (x.conc ρ) (y.conc ρ)=some b):b=r :=
 vq (d:=29) a e h
def ZI(ρ:Env)(r:Option (Nat×Ent)):Option (Nat×Value):=r.map λp=>(p.1,p.2.val.conc ρ)
theorem uk{t:TypeId}{ti:TI}(d:c.ty.get t=some ti){k:V}:∀(es:List Ent) (i:Nat) (r:Option (Nat×Ent)) (b:Option (Nat×Value)),xp c t k es i=some r ->
  Instr.findNow ti.desc (k.conc ρ) (es.map (Ent.conc ρ)) i=some b->b=ZI ρ r:=by
 intro es;induction es with
 | nil=>intro i r b e h;simp only[xp,oA]at e;simp only[List.map_nil,Instr.findNow,oA]at h;subst e;subst h;rfl
 | cons a es ih =>
  intro i r b e h;simp only[xp]at e;simp only[List.map_cons,Instr.findNow]at h;rcases hs:Instr.sameNow ti.desc (k.conc ρ) (a.conc ρ).key with _|q
  .grind
  simp only[hs]at h;rcases f:pD c 30 t k a.key with _|g
  .grind
  have:=tE (ρ:=ρ) d f hs;subst this;simp only[f]at e;cases q with
  | true=>simp only[oA]at e h;subst e;subst h;rfl
  | false=>grind
theorem rK(ok:CtxOK P c){t:TypeId}{k:V}(g:k.In D):∀(es:List Ent) (i:Nat) (r:Option (Nat×Ent)),xp c t k es i=some r->(∀e∈es,e.key.In D/\e.val.In D)->∀w:World,
  (Instr.findAsking t (k.conc ρ) (es.map (Ent.conc ρ)) i).run P w = .ok (ZI ρ r) w:=by
 intro es;induction es with
 | nil =>
  simp_all[xp,Instr.findAsking,ZI]
 | cons a es ih =>
  intro i r e d w;simp only[xp]at e;simp only[List.map_cons,Instr.findAsking];rcases f:pD c 30 t k a.key with _|q
  .grind
  have j:(Op.equal t (k.conc ρ) (a.conc ρ).key).run P w = .ok q w:=by unfold Op.equal;exact tK ok 30 t k a.key q f g (d a (List.mem_cons_self ..)).1 Op.maxDepth w (by simp[Op.maxDepth])
  simp only[f]at e;cases q with
  | true=>simp only[oA]at e;subst e;simp only[Sem.run_bind,j,Result.andThen_ok,if_true,Sem.run_pure];rfl
  | false =>
   simp_all
theorem kZ(ok:CtxOK P c){ti:TI}(a:c.ty.get t=some ti){k:V}(g:k.In D){es:List Ent}{r:Option (Nat×Ent)}(e:xp c t k es 0=some r)(d:∀e∈es,e.key.In D/\e.val.In D)(w:World):
  (Instr.findKey t (k.conc ρ) (es.map (Ent.conc ρ))).run P w = .ok (ZI ρ r) w:=by
 obtain⟨i,kk⟩:=ok.ty t ti a;simp only[Instr.findKey,Sem.run_bind,run_underlying kk.und,Result.andThen_ok];cases f:Instr.findNow ti.desc (k.conc ρ) (es.map (Ent.conc ρ)) 0 with
 | some b=>simp[uk a es 0 r b e f]
 | none=>grind[rK]
theorem tL{t:TypeId}{k:V}:∀(es:List Ent) (i:Nat) (j:Nat) (e:Ent),xp c t k es i=some (some (j,e))->i<=j/\es[j-i]? = some e:=by
 intro es;induction es with
 | nil=>grind[xp]
 | cons a es ih =>
  intro i j e h;simp only[xp]at h
  grind
theorem qu(o b:Bool)(v:V):(qt o v b).conc ρ=if o then .tuple #[v.conc ρ,.bool b] else v.conc ρ:=by
 grind[qt,V.conc,V.concL]
theorem Yv{o b:Bool}(a:v.In D):(qt o v b).In D:=by
 grind[qt,V.In,V.InL]
theorem aU(ok:CtxOK P c){m k:V}{o:Bool}(e:Y1 c t h m k o=some v)(hr:HR ρ D h w)(hm:m.In D)(p:k.In D):
  (Instr.lookup t (m.conc ρ) (k.conc ρ) o).run P w = .ok (v.conc ρ) w/\v.In D:=by
 unfold Y1 at e;split at e
 .rename_i ti q;obtain⟨i,kk⟩:=ok.ty t ti q;have s:=kk.und;split at e
  .rename_i kt et hd;rw[hd]at s;have key:∀es,Jk c kt et es k o=some v->(∀e∈es,e.key.In D/\e.val.In D) ->
     (do
      Instr.checkKey (es.map (Ent.conc ρ)).toArray.isEmpty 10000 kt (k.conc ρ)
      let (v,ok) <-match <-Instr.findKey kt (k.conc ρ) (es.map (Ent.conc ρ)).toArray.toList with
       | some (_,v)=>pure (v,true)
       | none=>pure (<-zeroValue et,false)
      pure (if o then Value.tuple #[v,.bool ok] else v):Sem Value).run P w = .ok (v.conc ρ) w/\v.In D:=by
    intro es e a;unfold Jk at e;rcases B:Xn c kt k with _|_
    .grind
    simp only[B,oN]at e;have d:∃C,c.ty.get kt=some C:=by
     grind[Xn]
    obtain⟨C,d⟩:=d;have F:=bV (ρ:=ρ) ok B p (es.map (Ent.conc ρ)).toArray.isEmpty w;split at e
    .rename_i j E g;simp only[oA]at e;subst e;have u:=kZ (ρ:=ρ) ok d p g a w;have G:=a E (List.mem_of_getElem? (tL es 0 j E g).2)
     simp_all[ZI,qu,Yv]
    .rename_i g;have u:=kZ (ρ:=ρ) ok d p g a w;split at e
     .rename_i H y;obtain⟨i2,I⟩:=ok.ty et H y;split at e
      .rename_i z J;simp only[oA]at e;subst e;obtain⟨M,N⟩:=qy I J ρ w<;>simp_all[ZI,qu,Yv]
      grind
     grind
    grind
   split at e
   .rename_i es a;unfold Qt at a;split at a
    .simp only[oA]at a;subst a;have:=key [] e (λ_ h=>by cases h);simp only[List.map_nil,Sem.run_bind]at this;simp only[Instr.lookup,V.conc,Sem.run_bind,run_underlying s,Result.andThen_ok,Sem.run_pure];omega
    .rename_i r;split at a
     .rename_i f clock K;simp only[oA]at a;subst a;simp only[V.In]at hm;obtain⟨O,L⟩:=hr.rel r _ hm K;have:=key f e L;simp only[Sem.run_bind]at this;have A:(getObj (ρ.blk r)).run P w = .ok (.map (f.map (Ent.conc ρ)).toArray clock) w:=by grind[getObj,Sem.run]
      simp only[Instr.lookup,V.conc,Sem.run_bind,run_underlying s,Result.andThen_ok,Sem.run_pure,A];omega
     grind
    grind
   grind
  grind
 grind
theorem Lf:∀(es:List Ent) (i:Nat) (k v:V),((J9 es i k v).map (Ent.conc ρ)).toArray=(es.map (Ent.conc ρ)).toArray.modify i (λe=>{ e with key:=k.conc ρ,val:=v.conc ρ }):=by
 intro es i k v;apply Array.ext';rw[Array.toList_modify];induction es generalizing i with
 | nil=>simp[J9]
 | cons a es ih=>cases i<;>grind[J9,Ent.conc]
theorem F0:∀(es:List Ent) (i:Nat) (k v:V),(∀e∈es,e.key.In D/\e.val.In D)->k.In D->v.In D->∀e∈J9 es i k v,e.key.In D/\e.val.In D:=by
 intro es;induction es with
 | nil=>grind[J9]
 | cons a es ih =>
  intro i k v f g j e d;cases i with
  | zero=>rcases oq.1 d with rfl|d<;>grind
  | succ i=>rcases oq.1 d with rfl|d<;>grind
theorem uf(e:nY h=some (v,h'))(hr:HR ρ D h w)(t:TypeId):∃ρ' w',(Instr.makeMap t none).run P w = .ok (v.conc ρ') w'/\Mv ρ D h w ρ' h' w'/\HR ρ' (Dx D h h') h' w'/\v.In (Dx D h h'):=by
 unfold nY at e;rcases hb:Nat.blt h.nx T.top with _|_
 .grind
 simp only[hb,oN,oA,oB]at e;obtain⟨rfl,rfl⟩:=e;have a:=(zW _ _).1 hb;have d:ORel (ρ.at h.nx w.heap.size 0) (Dx D h (h.new (.map [] 0))) h.nx (.map [] 0) (some (.map #[] 0)):=⟨by simp,λ_ h=>by cases h⟩
 refine⟨ρ.at h.nx w.heap.size 0,w.alloc (.map #[] 0),?_,Mv.new hr 0 a rfl,hr.new 0 a d,by simp only[V.In];exact .inr ⟨oR _,om _⟩⟩;simp[Instr.makeMap,V.conc]
theorem Ke{a b:V}(h:rn a b=true)(n:Nat):Instr.sameBits n (a.conc ρ) (b.conc ρ)=true:=by
 unfold rn at h;split at h
 .grind[Instr.sameBits,V.conc]
 .simp only[oI]at h;obtain rfl:=(J1 _ _).1 h.1
  grind[qA,Instr.sameBits,V.conc]
 .rename_i a b;rw[JU]at h;have:=eq_of_beq h;subst this;have hb:∀x:ByteArray,(x == x)=true:=λx=>by show(x.data == x.data)=true;simp
  grind[Instr.sameBits,V.conc]
 grind
theorem cL:∀{l m:Ug},rp l m=true->∀n,l.length=m.length/\((l.map (V.conc ρ)).zip (m.map (V.conc ρ))).all (λ(x,y)=>Instr.sameBits n x y)=true:=by
 intro l;induction l with
 | nil=>grind[rp]
 | cons a l ih =>
  intro m h n;rcases m with _|⟨b,m⟩
  .grind[rp]
  simp only[rp,oI]at h;obtain⟨d,h2⟩:=ih h.2 n<;>simp_all[Ke]
theorem Wm{a b:V}(h:Y5 a b=true)(n:Nat):Instr.sameBits (n+1) (a.conc ρ) (b.conc ρ)=true:=by
 unfold Y5 at h;split at h
 .obtain⟨d,h2⟩:=cL (ρ:=ρ) h n<;>simp_all[V.conc,V.concL_eq,Instr.sameBits]
 grind[Ke]
theorem sk{a b:V}(h:Y5 a b=true)(w:World):(Instr.keyThatStays (a.conc ρ) (b.conc ρ)).run P w = .ok (b.conc ρ) w:=by
 simp_all[Wm,Instr.keyThatStays]
theorem SG(ok:CtxOK P c){m k:V}(e:Y8 c t h m k v=some h')(hr:HR ρ D h w)(hm:m.In D)(p:k.In D)(I:v.In D):
  ∃w',(Instr.mapUpdate t (m.conc ρ) (k.conc ρ) (v.conc ρ)).run P w = .ok () w'/\Mv ρ D h w ρ h' w'/\HR ρ (Dx D h h') h' w':=by
 unfold Y8 at e;split at e
 .rename_i ti s;obtain⟨i,kk⟩:=ok.ty t ti s;have J:=kk.und;split at e
  .rename_i kt et r hd;rw[hd]at J;simp only[V.In]at hm;split at e
   .rename_i es clock u;rcases B:Xn c kt k with _|_
    .grind
    simp only[B,oN]at e;obtain⟨N,y⟩:=hr.rel r _ hm u;have f:∃C,c.ty.get kt=some C:=by
     grind[Xn]
    obtain⟨C,f⟩:=f;have K:=bV (ρ:=ρ) ok B p false w;have L:(getObj (ρ.blk r)).run P w = .ok (.map (es.map (Ent.conc ρ)).toArray clock) w:=by grind[getObj,Sem.run]
    have M:∀o,(setObj (ρ.blk r) o).run P w = .ok () (w.putObj (ρ.blk r) o):=λo=>by grind[setObj,Sem.run,World.putObj]
    have fin:∀(d:List Ent) (a:Nat),(∀e∈d,e.key.In D/\e.val.In D)->h'=h.upd r (some (.map d a)) ->
      Mv ρ D h w ρ h' (w.putObj (ρ.blk r) (.map (d.map (Ent.conc ρ)).toArray a))/\HR ρ (Dx D h h') h' (w.putObj (ρ.blk r) (.map (d.map (Ent.conc ρ)).toArray a)):=by
     intro d a g E;subst E;refine⟨Mv.upd hr hm u rfl rfl,?_⟩;rw[jq (wG _ _ _)];exact hr.upd hm u rfl rfl ⟨rfl,g⟩
    split at e
    .rename_i j z q;rcases hs:Y5 z.key k with _|_
     .grind
     simp only[hs,oN,oA]at e;have A:=kZ (ρ:=ρ) ok f p q y w;have F:=(tL es 0 j z q).2;obtain⟨f1,G⟩:=fin _ _ (F0 es j k v y p I) e.symm;refine⟨_,?_,f1,G⟩;have H:((((es.map (Ent.conc ρ)).toArray[j]?).map (·.key)).getD (k.conc ρ))=z.key.conc ρ:=by
      simp_all[Ent.conc]
     simp_all[V.conc,Instr.mapUpdate,run_underlying,ZI,sk,Lf]
    .rename_i q;simp only[oA]at e;have A:=kZ (ρ:=ρ) ok f p q y w;obtain⟨f1,G⟩:=fin (es++[⟨k,v,clock⟩]) (clock+1) (λe E=>by
      grind) e.symm
     simp_all[Ent.conc,V.conc,Instr.mapUpdate,run_underlying,ZI]
    grind
   grind
  grind
 grind
theorem aZ(ok:CtxOK P c){k:TypeId}{o:Bool}(e:Ir c t x o=some v)(m:x.In D):(Instr.typeAssert (x.conc ρ) k t o).run P w = .ok (v.conc ρ) w/\v.In D:=by
 unfold Ir at e;split at e
 .cases e
 rename_i ti f;obtain⟨i,kk⟩:=ok.ty t ti f;have s:=kk.und;split at e
 .cases e
 .rename_i d y a;simp only[V.In]at m;cases hb:Nat.beq d t with
  | true =>
   have g:=oH hb;subst g;simp only[hb,oN,oA]at e;subst e
   simp_all[Yv,Instr.typeAssert,run_underlying,V.conc,qu]
  | false =>
   have p:¬d=t:=λh=>by simp_all
   simp only[hb,oO]at e;rcases o with _|_
   .grind
   simp only[oN]at e;split at e
   .rename_i z j;simp only[oA]at e;subst e;obtain⟨q,r⟩:=qy kk j ρ w<;>simp_all[Yv,Instr.typeAssert,run_underlying,V.conc,qu]
   grind
 .rename_i a;rcases o with _|_
  .grind
  simp only[oN]at e;split at e
  .rename_i z j;simp only[oA]at e;subst e;obtain⟨q,r⟩:=qy kk j ρ w<;>simp_all[Yv,Instr.typeAssert,run_underlying,V.conc,qu]
  grind
 grind
theorem V4(name:String):∀l:List Method,Q4 name l=l.find? (λm=>m.name == name):=by intro l;induction l<;>grind[Q4]
theorem ue(ok:CtxOK P c){name:String}{f:Nat}(e:XW c t name=some (f,none))(n:Nat)(v:Value)(w:World):(method (n+1) t v name).run P w = .ok (f,v) w:=by
 unfold XW at e;split at e
 .cases e
 rename_i ti j;obtain⟨i,kk⟩:=ok.ty t ti j;split at e
 .cases e
 rename_i m hm;split at e
 .rename_i r pr hp p;cases hb:(Cg ti.desc == pr)with
  | false =>
   grind
  | true =>
   simp only[hb,oN,oA,oB,and_true]at e;subst e;have q:=kk.und;rw[V4,<-kk.meth]at hm;have a:i.methods.find? (λm=>m.name == name)=some m:=by
    grind
   have d:m.path = #[]:=by
    grind
   have g:(typeInfo t).run P w = .ok i w:=by simp[typeInfo,kk.info]
   rw[method];simp only[Sem.run_bind,g,Result.andThen_ok,a,d,p,follow,Sem.run_pure];have k:∀o,(receiverAt t (Place.val v) pr o).run P w = .ok v w:=by
    intro o;unfold receiverAt;simp only[Sem.run_bind,run_underlying q,Result.andThen_ok];cases hd:ti.desc<;>cases pr<;>rw[hd]at hb<;>first
     | (simp[Cg]at hb;done)
     | simp[Place.get]
   simp_all
 grind
theorem ud(ok:CtxOK P c){name:String}{f el:Nat}(e:XW c t name=some (f,some el))(n:Nat)(v u:V){h:H}(j:ye c el h v=some u)(hr:HR ρ D h w)(E:v.In D):
  (method (n+1) t (v.conc ρ) name).run P w = .ok (f,u.conc ρ) w/\u.In D:=by
 obtain⟨hl,q⟩:=Ky ok j hr E;refine⟨?_,q⟩;unfold XW at e;split at e
 .cases e
 rename_i ti r;obtain⟨i,kk⟩:=ok.ty t ti r;split at e
 .cases e
 rename_i m hm;split at e
 .rename_i I pr hp F;cases hb:(Cg ti.desc == pr)with
  | true=>grind
  | false =>
   simp only[hb,oO]at e;split at e
   .rename_i k s;simp only[oA,oB]at e;obtain⟨rfl,rfl⟩:=e;have A:=kk.und;have hd:ti.desc = .pointer k:=by
     cases y:ti.desc<;>rw[y]at s<;>simp[Bc]at s;rw[s]
    rw[hd]at A;rw[V4,<-kk.meth]at hm;have d:i.methods.find? (λm=>m.name == name)=some m:=by
     grind
    have g:m.path = #[]:=by
     grind
    have p:(typeInfo t).run P w = .ok i w:=by simp[typeInfo,kk.info]
    cases v<;>first|(simp[ye]at j;done)|skip
    rename_i b o;have z:(loadVar k ⟨ρ.blk b,ρ.off b+o,none⟩).run P w = .ok (u.conc ρ) w:=by
     grind[V.conc,Instr.loadAt,Instr.sureAddr]
    rw[method];simp only[Sem.run_bind,p,Result.andThen_ok,d,g,F,follow,Sem.run_pure];have B:∀(a b:Value) (x:Addr),∀s1 G:ByteArray,(Builtin.ssaWrapNilChk_ #[t] t #[.pointer (some x),.string s1,.string G]).run P w = .ok (.pointer (some x)) w:=λ_ _ _ _ _=>rfl
    have C:∀o',(receiverAt t (Place.val (V.conc ρ (.ptr b o))) false o').run P w = .ok (u.conc ρ) w:=by intro o';unfold receiverAt;simp only[Sem.run_bind,run_underlying A,Result.andThen_ok,Place.get,V.conc,Sem.run_pure];cases o'<;>simp_all[asAddr,strVal]
    simp_all
   grind
 grind
theorem ug(f:Value->ByteArray->Sem (ForInStep ByteArray))(a:∀(n:Int) (s:ByteArray) (w:World),(f (.int .u8 n) s).run P w = .ok (.yield (s.push (UInt8.ofNat n.toNat))) w):
  ∀{l:Ug}{y:Ua},wN l=some y->∀(s:ByteArray) (w:World),(forIn (m:=Sem) ((l.map (V.conc ρ))) s f).run P w = .ok ⟨s.data++y.toArray⟩ w:=by
 intro l;induction l with
 | nil=>simp_all[wN]
 | cons v l ih =>
  intro y e s w;cases v with
  | int k n =>
   cases k<;>simp only[wN]at e<;>try (cases e;done)
   rcases hb:wN l with _|q
   .grind
   simp_all[V.conc]
  | _=>grind[wN]
theorem yx(l:Ua):yU l=l.map λb=>V.int .u8 (b.toNat:Int):=by induction l<;>grind[yU]
theorem kw(l:Ua):∀v∈yU l,v.In D:=by intro v a;rw[yx]at a;obtain⟨b,_,rfl⟩:=List.mem_map.1 a;simp[V.In]
theorem K4{r:Option Cs}{esz:Rk}{op:Bool}(e:kJ h r esz op=some (b,h')):
  h.nx<T.top/\∃cs,r=some cs/\b=h.nx/\h'=h.new (.cells cs esz true op):=by
 unfold kJ at e;rcases a:Nat.blt h.nx T.top with _|_
 .grind
 rcases r with _|cs
 .grind
 simp only[a,oN,oA,oB]at e
 simp_all
theorem Ii{esz:Rk}{op:Bool}(e:qg h l esz op=some (b,h')):zU l=true/\kJ h (Cs.ofL l) esz op=some (b,h'):=by
 unfold qg at e
 grind
theorem El{esz:Rk}{op:Bool}(e:qg h l esz op=some (b,h')):
  h.nx<T.top/\zU l=true/\∃cs,cs.len=l.length/\(∀i,cs.get? i=l[i]?)/\b=h.nx/\h'=h.new (.cells cs esz true op):=by
 obtain⟨a,h2⟩:=Ii e;obtain⟨h3,cs,h4,d,f⟩:=K4 h2<;>grind[Cs.ofL_eq]
theorem pU(r:HR ρ D h w){rc:Option Cs}{esz:Rk}(e:kJ h rc esz false=some (b,h'))(hl:∀cs,rc=some cs->cs.len=l.length/\∀i,cs.get? i=l[i]?)(d:∀v∈l,v.In D)(t:TypeId)(j:∀u,esz.ty=u+1->t=u):
  ∃ρ',Mv ρ D h w ρ' h' (w.alloc (.cells (l.map (V.conc ρ)).toArray t))/\HR ρ' (Dx D h h') h' (w.alloc (.cells (l.map (V.conc ρ)).toArray t))/\Dx D h h' b /\
   ρ'.blk b=w.heap.size/\ρ'.off b=0:=by
 obtain⟨k,cs,m,rfl,rfl⟩:=K4 e;obtain⟨f,g⟩:=hl cs m;obtain⟨a1,a2⟩:=bD r k (l:=cs) (esz:=esz) (op:=false) (λi v a=>d v (List.mem_of_getElem? (by rw[<-g];exact a))) (l.map (V.conc ρ)).toArray t (0,0) 0 (λi v a=>by rw[g]at a;simp[a]) (λi _ _=>by simp) (by simp[f]) (by simp[f]) (λu o=>⟨j u o,.inl rfl⟩);exact⟨_,a2,a1,fq,Env.at_blk _ _ _ _,Env.at_off _ _ _ _⟩
theorem J4(r:HR ρ D h w){esz:Rk}(e:qg h l esz false=some (b,h'))(a:∀v∈l,v.In D)(t:TypeId)(d:∀u,esz.ty=u+1->t=u):
  ∃ρ',Mv ρ D h w ρ' h' (w.alloc (.cells (l.map (V.conc ρ)).toArray t))/\HR ρ' (Dx D h h') h' (w.alloc (.cells (l.map (V.conc ρ)).toArray t))/\Dx D h h' b /\
   ρ'.blk b=w.heap.size/\ρ'.off b=0:=pU r (Ii e).2 (λ_ h=>Cs.ofL_eq h) a t d
theorem S1{cs:Array Value}{e:TypeId}{fz:Nat×Nat}(h:w.heap[b]? = some (.cells cs e fz)):
  w.freeze ⟨b,n,none⟩ 1=w.putObj b (.cells cs e (if fz.1 == fz.2 then (n,n+1) else (min fz.1 n,max fz.2 (n+1)))):=by
 have hb:b<w.heap.size:=by
  grind
 unfold World.freeze World.putObj;rw[if_neg dg];congr 1
 grind
theorem aO(ok:CtxOK P c){s d:TypeId}{v r:V}{h':H}(e:wZ c s d h v=some (r,h'))(hr:HR ρ D h w)(p:v.In D):
  Post ρ D h w ((convert s d (v.conc ρ)).run P w) r h':=by
 unfold wZ at e;split at e
 .rename_i ts td U W;obtain⟨i1,I⟩:=ok.ty s ts U;obtain⟨i2,K⟩:=ok.ty d td W;split at e
  .rename_i k k' kk n a f;simp only[oA,oB]at e;obtain⟨rfl,rfl⟩:=e;refine Post.of_eq ?_ (Post.pure hr (v:=.int k' (yD k' n)) (by simp[V.In]));simp[convert,z7 I,z7 K,a,f,V.conc,Conv.intToInt,wH]
  .rename_i l a f;simp only[oA,oB]at e;obtain⟨rfl,rfl⟩:=e;refine Post.of_eq ?_ (Post.pure hr (v:=.str l) dd);simp[convert,z7 I,z7 K,a,f,V.conc]
  .rename_i el l a f;split at e
   .rename_i q j;obtain⟨O,z⟩:=ok.ty el q j;split at e
    .rename_i m;split at e
     .rename_i b h1 hn;simp only[oA,oB]at e;obtain⟨rfl,rfl⟩:=e;obtain⟨g1,g2,X,cl,cg,rfl,rfl⟩:=El hn;generalize Y:Question.cut (Question.appendCap l.length 0 el) (w.tape w.drawn (Question.appendCap l.length 0 el))=A;have hge:l.length<=A:=by grind[Question.cut]
      have Z:HR ρ D h w.drew:=hr.of_heap rfl
      let cs:Array Value:=(yU l |>.map (V.conc ρ)).toArray++Array.replicate (A-l.length) (.int .u8 0)
      have hcs:cs.size=A:=by grind[yx]
      obtain⟨a1,a2⟩:=bD Z g1 (l:=X) (esz:=⟨1,0,0⟩) (op:=true) (λi v p=>kw l v (List.mem_of_getElem? (by rw[<-cg];exact p))) cs el (A,A+1) A
       (λi v p=>by
        grind[Array.getElem?_append_left])
       (λi hi _=>dd) (by grind) (by grind) (λt ht=>by cases ht)
      refine⟨_,_,?_,Mv.trans hr.lt (Mv.of_heap (w':=w.drew) rfl rfl ⟨rfl,Nat.le_succ _⟩ rfl) (by grind[zd]),a1,by grind[V.In,fq]⟩;have e1:(l.toArray.map λb=>Value.int .u8 (b.toNat:Int))=((yU l).map (V.conc ρ)).toArray:=by
       grind[yx,V.conc]
      have B:(w.drew.alloc (.cells cs el)).shape? w.drew.heap.size=some (el,cs.size):=by
       grind[World.shape?,World.alloc_heap_new]
      simp only[convert,z7 I,z7 K,a,f,V.conc,Sem.run_bind,Result.andThen_ok,z7 z,m,Conv.stringToBytes,run_choose,Question.forced,if_false,Bool.false_eq_true,World.drew_eq,e1,kU,Y];simp only[newRow,Sem.run_bind,run_newObj,Result.andThen_ok,World.alloc_eq,Sem.run_pure,markStringish,run_shape];rw[show((yU l).map (V.conc ρ)).toArray++Array.replicate (A-l.length) (Value.int IntKind.u8 0)=cs from rfl,B];simp only[run_freeze,Result.andThen_ok,yl,Nat.add_zero];have Q:(w.drew.alloc (.cells cs el)).freeze ⟨w.drew.heap.size,cs.size,none⟩ 1=w.drew.alloc (.cells cs el (A,A+1)):=by
       unfold World.freeze;simp only[World.alloc,hcs];rw[if_neg dg];congr 1
       grind
      simp only[Cap.val,Env.at_blk,Env.at_off,Env.at_cap,Nat.sub_zero]
      grind
     grind
    grind
   grind
  .rename_i el a f;split at e
   .rename_i q j;obtain⟨O,z⟩:=ok.ty el q j;split at e
    .rename_i m;simp only[oA,oB]at e;obtain⟨rfl,rfl⟩:=e;refine Post.of_eq ?_ (Post.pure hr (v:=.str []) (by simp[V.In]));simp[convert,z7 I,z7 K,a,f,V.conc,z7 z,m,Conv.bytesToString];rfl
    grind
   grind
  .rename_i tp b o a f;simp only[V.In]at p;split at e
   .rename_i tt l esz wr op htt F;obtain⟨O,z⟩:=ok.ty tp tt htt;rcases hb:Nat.blt 0 tt.size with _|_
    .grind
    have hs:=(zW _ _).1 hb;simp only[hb,oN]at e;split at e
    .rename_i u hu;simp only[oA,oB]at e;obtain⟨rfl,rfl⟩:=e;refine Post.of_eq ?_ (Post.pure hr (v:=.ptr b o) (by grind[V.In]));obtain⟨c0,G,fz,hx,hc,_,_⟩:=hr.rel b _ p F;have C:=hc _ _ hu;have hlt:ρ.off b+o<c0.size:=by
      grind
     have E:w.shape? (ρ.blk b)=some (G,c0.size):=by grind[World.shape?]
     exact Go.Lib.run_to_unsafe w ⟨ρ.blk b,ρ.off b+o,none⟩ (by rw[I.und,a]) (by rw[K.und,f]) z.info (by rw[z.size];omega) E hlt
    grind
   grind
  .rename_i up b o a f;simp only[V.In]at p;split at e
   .rename_i tu l esz htu F;obtain⟨O,z⟩:=ok.ty up tu htu;split at e
    .rename_i et L;split at e
     .rename_i q j;obtain⟨i4,k4⟩:=ok.ty et q j;rcases hb:(Nat.blt 0 q.size && Nat.beq l.len q.size && c.lies et up o) with _|_
      .grind
      simp only[hb,oN,oA,oB]at e;obtain⟨rfl,rfl⟩:=e;simp only[oI]at hb;obtain⟨⟨b1,b2⟩,b3⟩:=hb;have hs:=(zW _ _).1 b1;have hlen:=oH b2;refine Post.of_eq ?_ (Post.pure hr (v:=.ptr b o) (by grind[V.In]));obtain⟨c0,G,fz,hx,hc,_,hw⟩:=hr.rel b _ p F;obtain⟨J,_,_,B,M⟩:=hw rfl;obtain⟨rfl,_⟩:=M et L;simp only[Bool.false_eq_true,if_false]at B;have E:w.shape? (ρ.blk b)=some (G,c0.size):=by grind[World.shape?]
      have S:P.cellsOf G=q.size:=by simp[Program.cellsOf,k4.info,k4.size]
      have hl:=ok.lies _ _ _ b3;refine Go.Lib.run_from_unsafe w ⟨ρ.blk b,ρ.off b+o,none⟩ (by rw[I.und,a]) (by rw[K.und,f]) z.info E ?_
      simp_all
     grind
    grind
   grind
  .rename_i el b o len A a f;simp only[V.In]at p;split at e
   .rename_i q j;obtain⟨O,z⟩:=ok.ty el q j;split at e
    .rename_i m;split at e
     .rename_i l esz wr op F;split at e
      .rename_i x hx;split at e
       .rename_i y hy;simp only[oA,oB]at e;obtain⟨rfl,rfl⟩:=e;obtain⟨p1,_,_⟩:=j9 (P:=P) hr p F hx;refine Post.of_eq ?_ (Post.pure hr (v:=.str y) (by simp[V.In]));simp only[convert,z7 I,z7 K,a,f,V.conc,Sem.run_bind,Result.andThen_ok,z7 z,m,Conv.bytesToString,p1];rw[<-Array.forIn_toList];simp only;rw[ug (P:=P) (ρ:=ρ) _ (λn s w=>by simp) hy ByteArray.empty w];simp
       grind
      grind
     grind
    grind
   grind
  .rename_i el0 el b o len A a f;simp only[V.In]at p;cases N:Nat.beq s d with
   | false=>grind
   | true =>
   have N:=oH N;subst N;simp only[Nat.beq_refl,oN]at e;split at e
   .rename_i q j;obtain⟨O,z⟩:=ok.ty el q j;split at e
    .rename_i m;split at e
     .rename_i l esz op F;rcases T:(Nat.beq esz.fz 0 && Nat.blt 0 esz.ty) with _|_
      .grind
      simp only[T,oN,oA,oB]at e;obtain⟨rfl,rfl⟩:=e;simp only[oI]at T;have hz1:=oH T.1;have hz2:=(zW _ _).1 T.2;obtain⟨c0,G,fz,hxx,C,R,hw⟩:=hr.rel b _ p F;obtain⟨J,hfz,hle,B,M⟩:=hw rfl;have E:w.shape? (ρ.blk b)=some (G,c0.size):=by grind[World.shape?]
      have Q:=S1 (w:=w) (n:=c0.size) hxx;obtain⟨et,L⟩:∃et,esz.ty=et+1:=⟨esz.ty-1,dd⟩;have hlo:fz.1=fz.2:=by rcases(M et L).2 with g|g<;>grind
      have hO:ORel ρ D b (.cells l ⟨esz.n,0,0⟩ true op) (some (.cells c0 G (if fz.1 == fz.2 then (c0.size,c0.size+1) else (min fz.1 c0.size,max fz.2 (c0.size+1))))):=by
       refine⟨c0,G,_,rfl,C,R,λ_=>⟨J,?_,hle,B,λt ht=>by cases ht⟩⟩
       grind
      refine⟨ρ,w.putObj (ρ.blk b) (.cells c0 G (if fz.1 == fz.2 then (c0.size,c0.size+1) else (min fz.1 c0.size,max fz.2 (c0.size+1)))),?_,Mv.upd hr p F rfl rfl,by rw[jq (wG _ _ _)];exact HR.upd hr p F rfl rfl hO,by rw[jq (wG _ _ _)];grind[V.In]⟩;rw[<-Q];simp only[convert,z7 I,a,Sem.run_bind,Result.andThen_ok];have htd2:ts=td:=by grind
      have hel:el0=el:=by grind
      subst hel;simp only[V.conc,z7 z,m,Sem.run_bind,Result.andThen_ok,beq_self_eq_true,markStringish,run_shape,E,run_freeze,Sem.run_pure]
     grind
    grind
   grind
  grind
 grind
theorem ju{d top m:Nat}(e:bnd (some v) d top=some m):m<=top/\∃k,v = .int k (m:Int):=by
 cases v<;>simp only[bnd]at e<;>try (cases e;done)
 rename_i k n;rcases a:ya n with _|q
 .grind
 simp only[a]at e;rcases hb:Nat.ble q top with _|_
 .grind
 simp only[hb,oN,oA]at e;subst e;exact⟨oG hb,k,by rw[Z8 a]⟩
theorem yd{top m:Nat}(hm:m<=top){k:IntKind}(a:v = .int k (m:Int))(code:BoundsCode)(w:World):(Instr.sliceBound (v.conc ρ) top code).run P w = .ok m w:=by
 simp_all[Instr.sliceBound,V.conc,asIntOf]
theorem yz{isS:Bool}{len cp m hh ll:Nat}{lo hi mx:Ui}(g:bnd mx cp cp=some m)(e2:bnd hi len m=some hh)(a:bnd lo 0 hh=some ll)(i:(mx.isSome && hi.isNone)=false)(w:World):
  (Instr.sliceBounds isS len cp (lo.map (V.conc ρ)) (hi.map (V.conc ρ)) (mx.map (V.conc ρ))).run P w = .ok (ll,hh,m) w:=by
 cases mx with
 | none =>
  simp only[bnd,oA]at g;subst g;cases hi with
  | none =>
   simp only[bnd,oA]at e2;subst e2;rcases lo with _|v
   .simp_all[bnd,Instr.sliceBounds]
   obtain⟨d,k,e⟩:=ju a;simp[Instr.sliceBounds,yd d e]
  | some u =>
   obtain⟨f1,j,f⟩:=ju e2;rcases lo with _|v
   .simp only[bnd,oA]at a;subst a;cases isS<;>simp[Instr.sliceBounds,yd f1 f]
   obtain⟨d,k,e⟩:=ju a;cases isS<;>simp[Instr.sliceBounds,yd d e,yd f1 f]
 | some x =>
  obtain⟨a1,k0,a2⟩:=ju g;rcases hi with _|u
  .grind
  obtain⟨f1,j,f⟩:=ju e2;rcases lo with _|v
  .simp only[bnd,oA]at a;subst a;cases isS<;>simp[Instr.sliceBounds,yd f1 f,yd a1 a2]
  obtain⟨d,k,e⟩:=ju a;cases isS<;>simp[Instr.sliceBounds,yd d e,yd f1 f,yd a1 a2]
theorem rD{v:Ui}{d top m:Nat}(e:bnd v d top=some m)(hd:d<=top):m<=top:=by
 rcases v with _|v
 .grind[bnd]
 exact(ju e).1
theorem eM(ok:CtxOK P c){lo hi mx:Ui}(e:zw c t h x lo hi mx=some v)(r:HR ρ D h w)(L:x.In D):
  (Instr.sliceAt t (x.conc ρ) (lo.map (V.conc ρ)) (hi.map (V.conc ρ)) (mx.map (V.conc ρ))).run P w = .ok (v.conc ρ) w/\v.In D:=by
 unfold zw at e;split at e
 .cases e
 rename_i ti C;obtain⟨i,k⟩:=ok.ty t ti C;split at e
 .rename_i l hd;split at e
  .cases e
  simp only at e;split at e
  .cases e
  rename_i hh a;split at e
  .cases e
  rename_i ll d;simp only[oA]at e;subst e;refine⟨?_,by simp[V.In]⟩;rw[yl,Nat.add_zero]at a;have hb:=yz (P:=P) (ρ:=ρ) (isS:=false) (mx:=none) (m:=l.length) (cp:=l.length) (len:=l.length) rfl a d (by simp) w;have E:hh<=l.length:=rD a (oR _);simp only[Instr.sliceAt,Sem.run_bind,z7 k,hd,Result.andThen_ok,Instr.slice,V.conc,kU,Option.map_none,Option.isSome_none,Bool.false_eq_true,if_false];simp only[Option.map_none]at hb;simp only[Sem.run_pure,Result.andThen_ok,hb];congr 2;apply ByteArray.ext
  grind[ByteArray.data_extract,zS]
 .rename_i n el b o hd;split at e
  .cases e
  rename_i s g;obtain⟨i2,j⟩:=ok.ty el s g;split at e
  .cases e
  rename_i m hm;split at e
  .cases e
  rename_i hh a;cases q:(mx.isSome && hi.isNone)with
  | true=>grind
  | false =>
   simp only[q,oO]at e;split at e
   .cases e
   rename_i ll d;simp only[oA]at e;subst e;have hb:=yz (P:=P) (ρ:=ρ) (isS:=false) hm a d q w;refine⟨?_,by grind[V.In]⟩;simp only[Instr.sliceAt,Sem.run_bind,z7 k,hd,Result.andThen_ok,V.conc,Instr.sureAddr,Sem.run_pure,hb,yJ j,Cap.val,yK];cases y:Nat.beq m ll with
   | true=>simp_all
   | false =>
    grind[Nat.beq_refl]
 .rename_i el hd;split at e
  .cases e
  rename_i s g;obtain⟨i2,j⟩:=ok.ty el s g;split at e
  .cases e
  rename_i m hm;split at e
  .cases e
  rename_i hh a;cases q:(mx.isSome && hi.isNone)with
  | true=>grind
  | false =>
   simp only[q,oO]at e;split at e
   .cases e
   rename_i ll d;simp only[oA]at e;subst e;have hb:=yz (P:=P) (ρ:=ρ) (isS:=true) hm a d q w;have O:m=0:=by have:=rD hm (oR _);omega
   have z:hh=0:=by have:=rD a dd;omega
   have l0:ll=0:=by have:=rD d dd;omega
   subst O z l0;refine⟨?_,dd⟩;simp only[Instr.sliceAt,Sem.run_bind,z7 k,hd,Result.andThen_ok,V.conc,Instr.slice,Sem.run_pure,hb,yJ j];simp
 .rename_i el b o len cp hd;split at e
  .cases e
  rename_i s g;obtain⟨i2,j⟩:=ok.ty el s g;split at e
  .cases e
  rename_i m hm;split at e
  .cases e
  rename_i hh a;cases q:(mx.isSome && hi.isNone)with
  | true=>grind
  | false =>
   simp only[q,oO]at e;split at e
   .cases e
   rename_i ll d;simp only[oA]at e;subst e;have hb:=yz (P:=P) (ρ:=ρ) (isS:=true) hm a d q w;refine⟨?_,by grind[V.In]⟩;simp only[Instr.sliceAt,Sem.run_bind,z7 k,hd,Result.andThen_ok,V.conc,Instr.slice,Sem.run_pure,Cap.val,hb,yJ j];cases y:Nat.beq m ll with
   | true=>simp_all
   | false =>
    grind[Nat.beq_refl,yK]
 .rename_i el b o len f hd;simp only[V.In]at L;split at e
  .rename_i s l esz g Q;obtain⟨i2,j⟩:=ok.ty el s g;rcases p:(Nat.beq esz.n s.size && Nat.blt 0 esz.n && Nat.beq o (f*esz.n)) with _|_
   .grind
   simp only[p,oN]at e;simp only[oI]at p;obtain⟨⟨R,S⟩,T⟩:=p;have U:=oH R;have F:=(zW _ _).1 S;have W:=oH T;cases y:Nat.ble (o+len*esz.n) l.len with
   | false =>
    rw[y,oO]at e;unfold Rx at e;split at e
    .rename_i kk;simp only[oA]at e;subst e;refine⟨?_,by grind[V.In]⟩;have hb:=yz (P:=P) (ρ:=ρ) (isS:=true) (mx:=none) (m:=ρ.cap b-f) (cp:=ρ.cap b-f) (hi:=some (V.int kk (Int.ofNat 0))) (lo:=none) (hh:=0) (ll:=0) (len:=len) rfl (by simp_all[oE,bnd,ya]) (by simp[bnd]) (by simp) w;simp only[Option.map_none]at hb;simp only[Instr.sliceAt,Sem.run_bind,z7 k,hd,Result.andThen_ok,V.conc,Instr.slice,Sem.run_pure,Cap.val,hb,yJ j,Option.map_none]
     grind[yK]
    grind
   | true =>
    rw[y,oN]at e;have G:=oG y;obtain⟨cc,ee,fz,X,_,_,hw⟩:=r.rel b _ L Q;obtain⟨_,_,Y,Z,_⟩:=hw rfl;have M:f+len<=ρ.cap b:=by
     have B:f*esz.n+len*esz.n<=ρ.cap b*esz.n:=by
      grind
     have h2:(f+len)*esz.n<=ρ.cap b*esz.n:=by grind
     exact Nat.le_of_mul_le_mul_right h2 F
    split at e
    .rename_i mv;cases q:hi.isNone with
     | true=>grind
     | false =>
      simp only[q,oO]at e;split at e
      .cases e
      rename_i m hm;split at e
      .cases e
      rename_i hh a;split at e
      .cases e
      rename_i ll d;simp only[oA]at e;subst e;obtain⟨g1,kk,H⟩:=ju hm;have I:bnd (some mv) (ρ.cap b-f) (ρ.cap b-f)=some m:=by
       subst H;have:Nat.ble m (ρ.cap b-f)=true:=oE dd
       grind[bnd]
      have hb:=yz (P:=P) (ρ:=ρ) (isS:=true) I a d (by grind) w;refine⟨?_,by grind[V.In]⟩;simp only[Instr.sliceAt,Sem.run_bind,z7 k,hd,Result.andThen_ok,V.conc,Instr.slice,Sem.run_pure,Cap.val,hb,yJ j];cases hq2:Nat.beq m ll with
      | true=>simp_all
      | false =>
       grind[Nat.beq_refl,yK]
    split at e
    .cases e
    rename_i hh a;split at e
    .cases e
    rename_i ll d;have E:hh<=len:=rD a (oR _);have A:bnd hi len (ρ.cap b-f)=some hh:=by
     rcases hi with _|u
     .grind[bnd]
     obtain⟨g1,kk,H⟩:=ju a;subst H;have:Nat.ble hh (ρ.cap b-f)=true:=oE dd
     grind[bnd]
    have hb:=yz (P:=P) (ρ:=ρ) (isS:=true) (mx:=none) (m:=ρ.cap b-f) (cp:=ρ.cap b-f) rfl A d (by simp) w;simp only[Option.map_none]at hb;have hll:ll<=hh:=rD d dd;cases z:Nat.beq ll 0 with
    | true =>
     have l0:=oH z;simp only[z,oN,oA]at e;subst e;refine⟨?_,by grind[V.In]⟩;subst l0;simp only[Instr.sliceAt,Sem.run_bind,z7 k,hd,Result.andThen_ok,V.conc,Instr.slice,Sem.run_pure,Cap.val,hb,yJ j,Option.map_none]
     grind[yK]
    | false =>
     simp only[z,oO]at e;cases B:Nat.blt ll len with
     | false =>
      simp only[B,oO]at e;rcases h2:Nat.beq ll len with _|_
      .grind
      have N:=oH h2;have J:hh=ll:=dd
      simp only[h2,oN,oA]at e;subst e;refine⟨?_,by grind[V.In]⟩;subst J;simp only[Instr.sliceAt,Sem.run_bind,z7 k,hd,Result.andThen_ok,V.conc,Instr.slice,Sem.run_pure,Cap.val,hb,yJ j,Option.map_none];by_cases hz:ρ.cap b=f+hh
      .grind
      have hz2:¬(ρ.cap b-f=hh):=dd
      simp_all[yK,Nat.sub_sub]
     | true =>
      have hlt:=(zW _ _).1 B;simp only[B,oN,oA]at e;subst e;refine⟨?_,by grind[V.In]⟩;have K:¬(ρ.cap b-f=ll):=dd
      simp only[Instr.sliceAt,Sem.run_bind,z7 k,hd,Result.andThen_ok,V.conc,Instr.slice,Sem.run_pure,Cap.val,hb,yJ j,Option.map_none,K,if_false,ol,yK]
      grind
  grind
 grind
theorem NY:∀(vs:List Value) (k off:Nat) (cs:Array Value),off+k+vs.length<=cs.size ->
  ((vs.zipIdx k).foldl (λcs (x:Value×Nat)=>cs.setIfInBounds (off+x.2) x.1) cs).size=cs.size /\
  ∀i,((vs.zipIdx k).foldl (λcs (x:Value×Nat)=>cs.setIfInBounds (off+x.2) x.1) cs)[i]? = if off+k<=i/\i<off+k+vs.length then vs[i-(off+k)]? else cs[i]?:=by
 intro vs;induction vs with
 | nil=>intro k off cs _;exact⟨rfl,λi=>by simp_all[if_neg]⟩
 | cons v vs ih=>intro k off cs hl;simp only[oc]at hl;simp only[List.zipIdx_cons,List.foldl_cons];obtain⟨a,h2⟩:=ih (k+1) off (cs.setIfInBounds (off+k) v) (by simp;omega)<;>grind
theorem V7{off:Nat}{vs l':Ug}(hs:qz off vs l=some l'):
  ((vs.map (V.conc ρ)).toArray.zipIdx.foldl (λcs (x:Value×Nat)=>cs.setIfInBounds (off+x.2) x.1) (l.map (V.conc ρ)).toArray)=(l'.map (V.conc ρ)).toArray:=by
 obtain⟨s1,a,d⟩:=Zt hs;rw[<-Array.foldl_toList];simp only[Array.toList_zipIdx];obtain⟨e,h2⟩:=NY (vs.map (V.conc ρ)) 0 off (l.map (V.conc ρ)).toArray (by grind);apply Array.ext_getElem?
 grind
theorem JW{place:Nat->Option (Nat×Nat)}:∀(parts:List (Nat×V)) (cells r:Ug),Xu c place cells parts=some r ->
  Instr.fill place (cells.map (V.conc ρ)).toArray (parts.map λp=>(p.1,p.2.conc ρ))=some (r.map (V.conc ρ)).toArray/\((∀v∈cells,v.In D)->(∀p∈parts,p.2.In D)->∀v∈r,v.In D):=by
 intro parts;induction parts with
 | nil=>grind[Xu,Instr.fill]
 | cons p parts ih =>
  intro cells r e;obtain⟨i,v⟩:=p;simp only[Xu]at e;split at e
  .cases e
  rename_i off size hp;rcases hl:we v.cells size with _|_
  .grind
  simp only[hl,oN]at e;split at e
  .rename_i q f;obtain⟨g,i2⟩:=ih q r e;obtain⟨s1,j,k⟩:=Zt f;have a:=zx.1 hl;refine⟨?_,λm d=>i2 (λx o=>?_) (λp hp=>d p (oJ _ hp))⟩
   .simp only[List.map_cons,Instr.fill,hp,V.cells_conc,List.size_toArray,oy,a];have:¬(off+size > cells.length):=dd
    simp only[ne_eq,not_true_eq_false,decide_false,Bool.false_or,this]
    grind[V7]
   grind[Sj,V.cells_In,List.mem_cons_self]
  grind
theorem cA(ok:CtxOK P c):∀(a:List Field),T2 c a=true->∀w,∃ps:List (Nat×Nat),
  (a.mapM (m:=Sem) (λf=>do pure (f.offset,<-sizeOf f.type))).run P w = .ok ps w/\ps.length=a.length/\∀i:Nat,ps[i]? = (match a[i]? with|some f=>(match c.ty.get f.type with|some ti=>some (f.offset,ti.size)|none=>none)|none=>none):=by
 intro a;induction a with
 | nil=>simp_all
 | cons f a ih =>
  intro e w;simp only[T2]at e;split at e
  .rename_i ti d;obtain⟨i,k⟩:=ok.ty _ _ d;obtain⟨ps,g,h2,h3⟩:=ih e w;refine⟨(f.offset,ti.size)::ps,?_,by grind,λi=>?_⟩
   .simp only[List.mapM_cons,Sem.run_bind,yJ k,Result.andThen_ok,Sem.run_pure,g]
   grind
  grind
theorem eF(ok:CtxOK P c){parts:List (Nat×V)}(e:qe c t parts=some v)(hp:∀p∈parts,p.2.In D):
  (Instr.build t (parts.map λp=>(p.1,p.2.conc ρ)).toArray).run P w = .ok (v.conc ρ) w/\v.In D:=by
 unfold qe at e;split at e
 .rename_i ti d;obtain⟨i,k⟩:=ok.ty t ti d;split at e
  .rename_i z A;obtain⟨s,u⟩:=qy k A ρ w;split at e
   .rename_i a hd;rcases y:T2 c a.toList with _|_
    .grind
    simp only[y,oN]at e;split at e
    .rename_i q g;simp only[oA]at e;subst e;obtain⟨f1,j⟩:=JW (ρ:=ρ) (D:=D) parts z.cells q g;obtain⟨ps,E,F,p3⟩:=cA ok a.toList y w;refine⟨?_,by simp only[V.In,V.InL_iff];exact j (V.cells_In (u D)) hp⟩;have o:(λx=>ps.toArray[x]?)=Yq c a:=by
      grind[Yq]
     have pm:(Array.mapM (m:=Sem) (λf:Field=>do pure (f.offset,<-sizeOf f.type)) a).run P w = .ok ps.toArray w:=by
      grind[Array.mapM_eq_mapM_toList,Sem.run_map,Result.andThen_ok]
     simp only[Instr.build,Sem.run_bind,s,Result.andThen_ok,z7 k,hd,pm,V.cells_conc,o,f1,Sem.run_pure,jS]
    grind
   .rename_i n el hd;split at e
    .rename_i B r;obtain⟨i2,C⟩:=ok.ty el B r;split at e
     .rename_i q g;simp only[oA]at e;subst e;obtain⟨f1,j⟩:=JW (ρ:=ρ) (D:=D) parts z.cells q g;refine⟨?_,by simp only[V.In,V.InL_iff];exact j (V.cells_In (u D)) hp⟩;simp only[Instr.build,Sem.run_bind,s,Result.andThen_ok,z7 k,hd,yJ C,V.cells_conc,f1,Sem.run_pure,jS]
     grind
    grind
   grind
  grind
 grind
theorem u3(z:Ug):∀(n i:Nat),(xm z n)[i]? = if i<n*z.length then z[i % z.length]? else none:=by
 intro n;induction n with
 | zero=>grind[xm]
 | succ n ih =>
  intro i;simp only[xm];by_cases hi:i<z.length
  .rw[List.getElem?_append_left hi,if_pos (by grind),ou hi]
  rw[List.getElem?_append_right dd,ih];by_cases h2:i-z.length<n*z.length
  .rw[if_pos h2,if_pos (by grind),<-Nat.mod_eq_sub_mod dd]
  grind
theorem Z4(z:Ug):∀n:Nat,(xm z n).length=n*z.length:=by intro n;induction n<;>grind[xm]
theorem u4(z:Ug):∀n:Nat,∀v∈xm z n,v∈z:=by intro n;induction n<;>grind[xm]
theorem fo(z:Ug)(n:Nat)(d:n*z.length≠0):
  ((Array.range (n*z.length)).map λi=>(z.map (V.conc ρ)).toArray[i % (z.map (V.conc ρ)).toArray.size]!)=((xm z n).map (V.conc ρ)).toArray:=by
 have a:0<z.length:=by
  grind
 apply Array.ext_getElem?
 simp_all[u3,Nat.mod_lt,Array.getElem?_range]
theorem Ji(ok:CtxOK P c){parts:List (Nat×V)}(e:zO c t n parts h=some (v,h'))(r:HR ρ D h w)(hp:∀p∈parts,p.2.In D):
  Post ρ D h w ((Instr.buildSlice t n (parts.map λp=>(p.1,p.2.conc ρ)).toArray).run P w) v h':=by
 unfold zO at e;split at e
 .rename_i ti f;obtain⟨i,k⟩:=ok.ty t ti f;split at e
  .rename_i el hd;split at e
   .rename_i a g;obtain⟨i2,o⟩:=ok.ty el a g;split at e
    .rename_i z y;obtain⟨I,A⟩:=qy o y ρ w;rcases hb:Nat.ble (n*a.size) 1048576 with _|_
     .grind
     rcases hl:we z.cells a.size with _|_
     .grind
     simp only[hb,hl,oN]at e;have s:=zx.1 hl;split at e
     .rename_i q B;split at e
      .rename_i b J C;simp only[oA,oB]at e;obtain⟨rfl,rfl⟩:=e;obtain⟨f1,E⟩:=JW (ρ:=ρ) (D:=D) parts _ q B;have j:=E (λv F=>V.cells_In (A D) v (u4 _ _ v F)) hp;obtain⟨ρ',G,H,K,L,M⟩:=J4 r C j el (λu N=>by grind);refine⟨ρ',_,?_,G,H,by grind[V.In]⟩;have d:¬(n*a.size > 16777216):=by have:=oG hb;omega
       have m:Instr.fill (λi=>some (i*a.size,a.size)) ((Array.range (n*a.size)).map λi=>(if n*a.size=0 then (#[]:Array Value) else (z.cells.map (V.conc ρ)).toArray)[i % (if n*a.size=0 then (#[]:Array Value) else (z.cells.map (V.conc ρ)).toArray).size]!) (parts.map λp=>(p.1,p.2.conc ρ))=some (q.map (V.conc ρ)).toArray:=by
        by_cases h0:n*a.size=0
        .grind[Z4]
        simp only[h0,if_false]
        grind[fo]
       simp only[Instr.buildSlice,Sem.run_bind,z7 k,hd,Result.andThen_ok,yJ o];by_cases h0:n*a.size=0<;>simp_all[newRow,V.conc,Cap.val,V.cells_conc]
      grind
     grind
    grind
   grind
  grind
 grind
end
theorem HR.kill{ρ:Env}{D:Nat->Prop}{h:H}{w:World}(r:HR ρ D h w)(hd:D b):HR ρ D (h.upd b none) w where
 cap:=r.cap
 lt:=r.lt
 rel:=λid o d g=>by
  rw[H.get_upd _ _ _ _ (oL (r.lt b hd) r.cap)]at g;split at g
  .cases g
  exact r.rel id o d g
 inj:=λi j oi oj di dj gi gj wi hij=>by
  rw[H.get_upd _ _ _ _ (oL (r.lt b hd) r.cap)]at gi gj;split at gi
  .cases gi
  split at gj
  .cases gj
  exact r.inj i j oi oj di dj gi gj wi hij
theorem Mv.kill{ρ:Env}{D:Nat->Prop}{h:H}{w:World}(r:HR ρ D h w)(hd:D b):Mv ρ D h w ρ (h.upd b none) w where
 nx:=oR _
 size:=oR _
 os:=rfl
 tape:=⟨rfl,oR _⟩
 output:=rfl
 agree:=Agree.refl _ _
 old:=λid o1 _ g1=>by
  rw[H.get_upd _ _ _ _ (oL (r.lt b hd) r.cap)]at g1
  grind
 img:=λid _ a b _=>by grind[H.upd_eq]
 frame:=λ_ _ _=>rfl
 low:=by grind[H.low_upd]
 kept:=λid _ hl=>by rw[H.low_upd]at hl;rw[H.get_upd _ _ _ _ (oL (r.lt b hd) r.cap),if_neg dd]
theorem HR.move{ρ:Env}{D:Nat->Prop}{h:H}{w:World}(r:HR ρ D h w){o o':O}{x:Obj}(hd:D b)(B:h.get b=some o)(hw:o.wr=true)(F:h.nx<T.top)(cp:Nat)(G:ORel (ρ.at h.nx (ρ.blk b) cp) (Dx D h ((h.upd b none).new o')) h.nx o' (some x)):
  HR (ρ.at h.nx (ρ.blk b) cp) (Dx D h ((h.upd b none).new o')) ((h.upd b none).new o') (w.putObj (ρ.blk b) x):=by
 have u:¬D h.nx:=λhd=>by have:=r.lt _ hd;omega
 have c:Agree D ρ (ρ.at h.nx (ρ.blk b) cp):=Env.at_agree u;have hb:b<T.top:=oL (r.lt b hd) r.cap;have a:∀id,Dx D h ((h.upd b none).new o') id->id=h.nx\/(D id/\id≠h.nx):=by
  rintro id (d|d)
  .exact .inr ⟨d,λe=>u (e ▸ d)⟩
  simp only[H.new_eq,H.upd_eq]at d;exact .inl dd
 have p:∀id,((h.upd b none).new o').get id=if id=h.nx then some o' else if id=b then none else h.get id:=λid=>by rw[H.get_new _ _ _ (by rw[wG];exact F),wG,H.get_upd _ _ _ _ hb]
 refine⟨by simp only[H.new_eq,H.upd_eq];omega,?_,?_,?_⟩
 .rintro id d;rcases a id d with e|⟨d,_⟩
  .simp only[H.new_eq,H.upd_eq];omega
  have:=r.lt id d;simp only[H.new_eq,H.upd_eq];omega
 .rintro id C d q;rw[p]at q;rcases a id d with e|⟨d1,e⟩
  .subst e;rw[if_pos rfl]at q;cases q;rw[Env.at_blk,World.putObj_heap_same (r.lt_size hd B)];exact G
  rw[if_neg e]at q;split at q
  .cases q
  rename_i g;have y:ρ.blk id≠ρ.blk b:=λI=>g (r.inj b id o C hd d1 B q hw I.symm).symm
  rw[(c id d1).1,World.putObj_heap_other y];exact(r.rel id C d1 q).agree d1 wm c
 rintro i j oi oj s dj k m E f;rw[p]at k m;rcases a i s with z|⟨s,z⟩<;>rcases a j dj with A|⟨dj,A⟩
 .rw[z,A]
 .rw[if_neg A]at m;split at m
  .cases m
  rename_i g;subst z;rw[Env.at_blk,(c j dj).1]at f;exact absurd (r.inj b j o oj hd dj B m hw f).symm g
 .rw[if_neg z]at k;split at k
  .cases k
  rename_i g;subst A;rw[Env.at_blk,(c i s).1]at f;exact absurd (r.inj i b oi o s hd k B E f) g
 rw[if_neg z]at k;rw[if_neg A]at m;split at k
 .cases k
 split at m
 .cases m
 rw[(c i s).1,(c j dj).1]at f;exact r.inj i j oi oj s dj k m E f
theorem Mv.move{ρ:Env}{D:Nat->Prop}{h:H}{w:World}(r:HR ρ D h w){o o':O}{x:Obj}(hd:D b)(g:h.get b=some o)(hw:o.wr=true)(c:o'.wr=true)(m:h.nx<T.top)(cp:Nat):
  Mv ρ D h w (ρ.at h.nx (ρ.blk b) cp) ((h.upd b none).new o') (w.putObj (ρ.blk b) x):=by
 have d:¬D h.nx:=λhd=>by have:=r.lt _ hd;omega
 have hb:b<T.top:=oL (r.lt b hd) r.cap;have i:b<h.nx:=r.lt b hd;have a:∀id,((h.upd b none).new o').get id=if id=h.nx then some o' else if id=b then none else h.get id:=λid=>by
  grind[H.get_new,wG,H.get_upd]
 refine⟨by simp[H.new_eq,H.upd_eq],by simp,rfl,⟨rfl,oR _⟩,rfl,Env.at_agree d,?_,?_,?_,?_,?_⟩
 .grind
 .intro id p j k f;simp only[H.new_eq,H.upd_eq]at k;obtain rfl:id=h.nx:=dd
  rw[a,if_pos rfl]at f;cases f;exact⟨c,.inr ⟨b,o,hd,g,hw,by simp_all,by grind⟩⟩
 .grind[World.putObj_heap_other]
 .show(h.upd b none).low<=h.low
  grind[H.low_upd]
 intro id j hl;have e:id<(h.upd b none).low:=hl;rw[H.low_upd]at e
 grind
section
variable {P:Program}{c:Ctx}{ρ:Env}{D:Nat->Prop}{h:H}{w:World}
theorem Ll(r:HR ρ D h w){esz:Nat}(e:yT esz h x=some (n,new))(f:x.In D)(h1:zU new=true)(d:(∃s,P.underlying tx=some (.slice s))\/P.underlying tx=some .string):
  Src P esz tx (x.conc ρ) n (new.map (V.conc ρ)) w/\(∀v∈new,v.In D)/\new.length=n*esz:=by
 have a:∀u∈new.map (V.conc ρ),u.oneCell'=true:=λu g=>by
  obtain⟨v,k,rfl⟩:=List.mem_map.1 g
  grind[V.one_conc,yP]
 unfold yT at e;split at e
 .simp only[oA,oB]at e;obtain⟨rfl,rfl⟩:=e;refine⟨⟨d,λ_=>by simp[V.conc,Builtin.lenOf],by simp[V.conc,Builtin.firstCells],by simp[V.conc,Builtin.firstCells],by simp,λ_ g=>by grind⟩,λ_ k=>by grind,by simp⟩
 .simp only[oA,oB]at e;obtain⟨rfl,rfl⟩:=e;refine⟨⟨d,λ_=>rfl,?_,?_,by simp,λ_ g=>by grind⟩,λ_ k=>by grind,by simp⟩;all_goals
   simp only[V.conc,Builtin.firstCells,Nat.zero_mul];exact run_loadCells_list (P:=P) _ _ [] (λj v F=>by grind)
 .rename_i l;rcases hb:Nat.beq esz 1 with _|_
  .grind
  have i:=oH hb;simp only[hb,oN,oA,oB]at e;obtain⟨rfl,rfl⟩:=e;subst i;have z:(yU l).map (V.conc ρ)=byteCells ⟨l.toArray⟩:=by simp[yx,byteCells,V.conc]
  have A:(⟨l.toArray⟩:ByteArray).size=YP l 0:=by grind[kU,yl]
  refine⟨⟨d,λ_=>by simp_all[V.conc,Builtin.lenOf],?_,?_,?_,a⟩,kw l,?_⟩
  .grind[V.conc,firstCells_string]
  .grind[V.conc,firstCells_string]
  .grind[yx,yl]
  grind[yx,yl]
 .rename_i b o len G;simp only[V.In]at f;split at e
  .rename_i l m wr op p;split at e
   .rename_i y q;simp only[oA,oB]at e;obtain⟨rfl,rfl⟩:=e;obtain⟨B,C,p3⟩:=j9 (P:=P) r f p q;obtain⟨E,_,_⟩:=j9 (P:=P) (w:=w.drew) (r.of_heap rfl) f p q;exact⟨⟨d,λ_=>rfl,B,E,by grind,a⟩,C,p3⟩
   grind
  grind
 grind
theorem N5(n:Nat):∀(k c:Nat),c<=n->Builtin.growBy n k c<=2*n+200:=by
 intro k;induction k with
 | zero=>grind[Builtin.growBy]
 | succ k ih =>
  intro c a;simp only[Builtin.growBy];split
  .omega
  by_cases h:c+(c+768)/4<=n
  .grind
  have:∀k c,n<=c->Builtin.growBy n k c=c:=by intro k;cases k<;>simp_all[Builtin.growBy]
  grind
theorem Sp(a old:Nat)(h:old<a):Builtin.nextslicecap a old<=2*a+200:=by
 grind[Builtin.nextslicecap,N5]
theorem uJ{te:TI}(h:jo te=true):0<te.size/\0<te.bytes/\∃z,te.zero=some z/\z.cells.length=te.size:=by
 unfold jo at h;simp only[oI]at h
 grind[zW,zx]
structure SrcR (P:Program) (t tx ty el:TypeId) (i:TypeInfo) (x:Value) (n:Nat) (news:List Value) (w:World):Prop where
 room:∀(b off sLen sCap:Nat),sLen+n<=sCap->(∀j,j<news.length->(w.cell? ⟨b,off+sLen*i.size+j,none⟩).isSome=true)->(∀j,j<news.length->w.frozen? ⟨b,off+sLen*i.size+j,none⟩=false) ->
  (Builtin.append_ #[t,tx] ty #[.slice (some ⟨b,off,none⟩) sLen sCap,x]).run P w = .ok (.slice (some ⟨b,off,none⟩) (sLen+n) sCap) (w.setCells b (off+sLen*i.size) news)
 grow:∀(z:Value),i.zero=some z->∀(base:Option Addr) (sLen sCap:Nat) (olds:List Value),(Builtin.firstCells i.size sLen (.slice base sLen sCap)).run P w.drew = .ok olds.toArray w.drew->sCap<sLen+n->((sLen+n:Nat):Int)<=9223372036854775807->Builtin.nextslicecap (sLen+n) sCap*i.bytes<=281474976710656 ->
  (Builtin.append_ #[t,tx] ty #[.slice base sLen sCap,x]).run P w =
   .ok (.slice (some ⟨w.heap.size,0,none⟩) (sLen+n) (grownCap w (sLen+n) sCap el))
    (w.drew.alloc (.cells ((olds++news).toArray++Builtin.zeroCells z.cells (grownCap w (sLen+n) sCap el-(sLen+n))) el))
 none:n=0->∀(base:Option Addr) (sLen sCap:Nat),sLen<=sCap->(Builtin.append_ #[t,tx] ty #[.slice base sLen sCap,x]).run P w = .ok (.slice base sLen sCap) w
theorem SrcR.of{el:TypeId}{i:TypeInfo}(f:P.underlying t=some (.slice el))(hi:P.info? el=some i){x:Value}{news:List Value}(hs:Src P i.size tx x n news w):SrcR P t tx ty el i x n news w:=by
 refine⟨λb off sLen sCap a g o=>run_append_room_src w t tx ty el i f hi b off sLen sCap x n news hs a g o,λz p base sLen sCap olds d q j e=>run_append_grow_src w t tx ty el i z f hi p base sLen sCap olds d x n news hs q j e,λr base sLen sCap k=>?_⟩;subst r;have s:news=[]:=List.eq_nil_of_length_eq_zero (by rw[hs.newsLen,Nat.zero_mul]);subst s;have g:=hs.cells;rcases hs.kind with⟨u,m⟩|m <;>
  (cases base<;>simp[Builtin.append_,underlying,f,m,sizeOf,typeInfo,hi,hs.len,g,k,storeCells])
theorem SrcR.zeros{el:TypeId}{i:TypeInfo}{L:IntKind}(E:P.underlying t=some (.slice el))(hi:P.info? el=some i)(F:P.underlying tx=some (.int L)){k:Nat}{z u:Value}(C:i.zero=some z)(m:z.cells = #[u])(h1:i.size=1)(M:0<k->u.oneCell'=true)(hb:k*i.bytes<=1099511627776)(N:k<=1099511627776):
  SrcR P t tx ty el i (.int .i64 (k:Int)) k (List.replicate k u) w:=by
 have hw:IntKind.i64.wrap (k:Int)=(k:Int):=by simp only[IntKind.wrap,IntKind.bits,IntKind.signed];simp;omega
 have q:¬(281474976710656<(k:Int)*(i.bytes:Int)):=by
  have:((k*i.bytes:Nat):Int)<=1099511627776:=dd
  rw[Int.natCast_mul]at this;omega
 have o:Builtin.zeroCells #[u] k=(List.replicate k u).toArray:=by
  apply Array.ext
  .simp[Builtin.zeroCells]
  intro j h1 h2;simp[Builtin.zeroCells,Nat.mod_one]
 have d:¬((k:Int)<0):=dd
 have r:∀w:World,(asInt (.int .i64 (k:Int))).run P w = .ok (k:Int) w:=λw=>by simp[asInt,asIntOf]
 have s:∀v∈List.replicate k u,v.oneCell'=true:=λv J=>by rw[List.eq_of_mem_replicate J];exact M (Nat.pos_of_ne_zero (List.mem_replicate.1 J).1)
 have e:∀w:World,((if k*i.size=0 then pure #[] else do pure (Builtin.zeroCells (<-zeroValue el).cells k):Sem (Array Value))).run P w = .ok (List.replicate k u).toArray w:=λw=>by
  rcases Nat.eq_zero_or_pos k with f|f
  .subst f;simp
  have G:¬k=0:=dd
  simp[h1,G,zeroValue,typeInfo,hi,C,m,o]
 refine⟨λb off sLen sCap p O Q=>?_,λT y base sLen sCap olds g U R K=>?_,λf base sLen sCap H=>?_⟩
 .have a:=run_storeCells_cells (P:=P) b (off+sLen*i.size) (List.replicate k u) 0 w (by simpa using O) (by simpa using Q) s;simp only[Nat.add_zero]at a;rw[h1]at a e;simp[Builtin.append_,run_underlying E,run_underlying F,sizeOf,typeInfo,hi,h1,r,hw,d,q,p,Addr.add_lit];simp only[Nat.mul_one]at a;have I:∀w:World,(zeroValue el).run P w = .ok z w:=λw=>by simp[zeroValue,typeInfo,hi,C]
  split
  .rename_i f;subst f;rw[List.replicate_zero]at a;rw[a];simp
  simp only[I,Result.andThen,m,o,a]
 .rw[C]at y;cases y;have S:¬(sLen+k<=sCap):=dd
  have A:¬(9223372036854775807<((sLen:Int)+(k:Int))):=dd
  have B:¬(281474976710656<Builtin.nextslicecap (sLen+k) sCap*i.bytes):=dd
  rw[h1]at e g;simp[Builtin.append_,run_underlying E,run_underlying F,sizeOf,typeInfo,zeroValue,hi,C,m,h1,r,hw,d,q,S,A,B,Question.forced,g,newRow,grownCap];split
  .rename_i f;subst f;simp
  simp only[o];simp;congr 2;apply Array.ext';simp[List.append_assoc]
 subst f;cases base<;>simp[Builtin.append_,run_underlying E,run_underlying F,sizeOf,typeInfo,hi,asInt,asIntOf,show IntKind.i64.wrap 0=0 from rfl,H,storeCells]
theorem JZ{h0:H}(k:HR ρ D h0 w)(G:Mv ρ D h w ρ h0 w)(m:h0.nx=h.nx)(I:∀id,D id->id<h.nx){t tx ty:TypeId}{el:Nat}{te:TI}{i2:TypeInfo}(J:TyOK P el te i2)(_:P.underlying t=some (.slice el))(xI:jo te=true){base:Option Addr}{len cap n:Nat}{x:Value}{old new:Ug}{v:V}{h':H}{kr:Rk}(K:kr.n=te.size)(L:∀u,kr.ty=u+1->el=u){rc:Option Cs}(M:∀cs,rc=some cs->cs.len=(old++new).length/\∀i,cs.get? i=(old++new)[i]?)(e:jD kr te h0 rc (len+n)=some (v,h'))(o:∀u∈old,u.In D)(p:∀u∈new,u.In D)(q:old.length=len*te.size)(r:new.length=n*te.size)(a:(Builtin.firstCells te.size len (.slice base len cap)).run P w.drew = .ok (old.map (V.conc ρ)).toArray w.drew)(hs:SrcR P t tx ty el i2 x n (new.map (V.conc ρ)) w)(W:cap<len+n):
  Post ρ D h w ((Builtin.append_ #[t,tx] ty #[.slice base len cap,x]).run P w) v h':=by
 obtain⟨ts,tb,z,Y,N⟩:=uJ xI;obtain⟨E,O,Q⟩:=J.zero z Y;obtain⟨R,Z⟩:=Xb Q;unfold jD at e;rcases hb:Nat.ble ((len+n)*te.bytes) 1099511627776 with _|_
 .simp[hb]at e
 simp only[hb,oN]at e;have F:=oG hb;split at e
 .rename_i b' X hn;simp only[oA,oB]at e;obtain⟨rfl,rfl⟩:=e;obtain⟨g1,d,g2,rfl,rfl⟩:=K4 hn;obtain⟨cl,cg⟩:=M d g2;have S:len+n<=(len+n)*te.bytes:=Nat.le_mul_of_pos_right _ tb;have g:Builtin.nextslicecap (len+n) cap*i2.bytes<=281474976710656:=by
   rw[J.bytes];have X:=Sp (len+n) cap W;have h2:Builtin.nextslicecap (len+n) cap*te.bytes<=(2*(len+n)+200)*te.bytes:=Nat.mul_le_mul_right _ X;have h3:(2*(len+n)+200)*te.bytes=2*((len+n)*te.bytes)+200*te.bytes:=by rw[Nat.add_mul,Nat.mul_assoc]
   have h4:te.bytes<=(len+n)*te.bytes:=Nat.le_mul_of_pos_left _ dd;omega
  have f:=hs.grow E O base len cap (old.map (V.conc ρ)) (by rw[J.size];exact a) W dd g;have s:=grownCap_ge w (len+n) cap el;generalize grownCap w (len+n) cap el=y at f s;have T:E.cells=(z.cells.map (V.conc ρ)).toArray:=by rw[<-R ρ,V.cells_conc]
  have A:(Builtin.zeroCells E.cells (y-(len+n))).size=(y-(len+n))*te.size:=by simp[Builtin.zeroCells,T,N]
  let cs:Array Value:=((old.map (V.conc ρ))++(new.map (V.conc ρ))).toArray++Builtin.zeroCells E.cells (y-(len+n))
  have B:cs.size=y*te.size:=by simp only[cs,Array.size_append,List.size_toArray,oW,oy,q,r,A];rw[<-Nat.add_mul,<-Nat.add_mul];congr 1;omega
  have U:HR ρ D h0 w.drew:=k.of_heap rfl;obtain⟨a1,a2⟩:=bD U g1 (l:=d) (esz:=kr) (op:=true) (λi u j=>(List.mem_append.1 (List.mem_of_getElem? (by rw[<-cg];exact j))).elim (o u) (p u)) cs el (0,0) y
   (λi u j=>by
    rw[cg]at j;have hi:i<(old++new).length:=(List.getElem?_eq_some_iff.1 j).1;simp only[cs];rw[Array.getElem?_append_left (by simpa using hi),List.getElem?_toArray,<-List.map_append,od,j];rfl)
   (λi _ _=>by simp) (by rw[B,cl,oW,q,r,<-Nat.add_mul];exact Nat.mul_le_mul_right _ s) (by rw[B];simp[K]) (λu j=>⟨L u j,.inl rfl⟩)
  have C:Dx D h (h0.new (.cells d kr true true))=Dx D h0 (h0.new (.cells d kr true true)):=by unfold Dx;rw[m]
  refine⟨_,_,?_,Mv.trans I G (by rw[jq m];exact Mv.trans k.lt (Mv.of_heap (w':=w.drew) rfl rfl ⟨rfl,Nat.le_succ _⟩ rfl) (by rw[zd];exact a2)),by rw[C];exact a1,by rw[C];simp only[V.In];exact fq⟩;rw[f];simp only[V.conc,Cap.val,Env.at_blk,Env.at_off,Env.at_cap,Nat.sub_zero,World.size_drew];rfl
 cases e
theorem pE(r:HR ρ D h w){el:Nat}{te:TI}(q:TyOK P el te i2)(_:P.underlying t=some (.slice el)){o len a:Nat}{d:Rk}{cp:Cap}{l:Cs}{op:Bool}{x:Value}(e:qh h b o len cp te.size a l d op new=some (v,h'))(g:a=len+n)(hd:D b)(y:h.get b=some (.cells l d true op))(m:∀u∈new,u.In D)(h1:zU new=true)(hs:SrcR P t tx ty el i2 x n (new.map (V.conc ρ)) w)(i:a<=cp.val ρ b):
  Post ρ D h w ((Builtin.append_ #[t,tx] ty #[(V.slice b o len cp).conc ρ,x]).run P w) v h':=by
 subst g;unfold qh at e;split at e
 .rename_i E s;cases k:Nat.ble d.fz (o+len*te.size)with
  | false=>rw[k]at e;cases e
  | true =>
  rw[k,oN]at e;simp only[oA,oB]at e;obtain⟨rfl,rfl⟩:=e;obtain⟨_,z,A,s4,B⟩:=wx (P:=P) r hd y m h1 s (oG k);have f:=hs.room (ρ.blk b) (ρ.off b+o) len (cp.val ρ b) i
   (λj p=>by rw[oy]at p;rw[q.size,Nat.add_assoc (ρ.off b)];exact s4 j p)
   (λj p=>by rw[oy]at p;rw[q.size,Nat.add_assoc (ρ.off b)];exact B j p)
  rw[q.size,Nat.add_assoc (ρ.off b)]at f;exact⟨ρ,_,by rw[V.conc,f,V.conc],A,by rw[jq (wG _ _ _)];exact z,by rw[jq (wG _ _ _)];simpa [V.In]using hd⟩
 cases e
theorem zG6{el:Nat}{te:TI}(a:TyOK P el te i2):∀u,(xD te).ty=u+1->el=u:=λu d=>by
 have:=a.id
 grind[xD]
theorem Aw{l cs:Cs}{old:Ug}{m:Nat}(p3:old.length=m)(d:l.range 0 m=some old)(e:l.len=m)(h:l.app new=some cs):
  cs.len=(old++new).length/\∀i,cs.get? i=(old++new)[i]?:=by
 obtain⟨a,b⟩:=Cs.app_eq h;obtain⟨_,_,r3⟩:=Cs.range_eq d<;>grind
theorem pF{el:TypeId}{te:TI}(K:TyOK P el te i2)(ht:P.underlying t=some (.slice el))(xI:jo te=true){s:V}{x:Value}(e:appTo te h n new s=some (v,h'))(r:HR ρ D h w)(hs:s.In D)(h0:n=0->new=[])(y:zU new=true->SrcR P t tx ty el i2 x n (new.map (V.conc ρ)) w/\(∀u∈new,u.In D)/\new.length=n*te.size):
  Post ρ D h w ((Builtin.append_ #[t,tx] ty #[s.conc ρ,x]).run P w) v h':=by
 obtain⟨ts,tb,z,hz,hzl⟩:=uJ xI;unfold appTo at e;split at e
 ·
  cases k:Nat.beq n 0 with
  | true=>have n0:=oH k;simp only[k,oN,oA,oB]at e;obtain⟨rfl,rfl⟩:=e;subst n0;have C:new=[]:=h0 rfl;obtain⟨y,_,_⟩:=y (by rw[C];rfl);refine Post.of_eq ?_ (Post.pure r (v:=.nilslice) (by simp[V.In]));simpa [V.conc]using y.none rfl none 0 0 (oR _)
  | false =>
   simp only[k,oO]at e;have hn:0<n:=by
    rcases Nat.eq_zero_or_pos n with g|g
    .subst g;simp at k
    exact g
   cases d:zU new with
   | false=>rw[d,oO]at e;unfold jD kJ at e;cases W:Nat.ble (n*te.bytes) 1099511627776<;>cases X:Nat.blt h.nx T.top<;>simp[W,X]at e
   | true =>
   rw[d,oN]at e;obtain⟨y,A,E⟩:=y d;have:=JZ (P:=P) (h:=h) r (Mv.refl _ _ _ _) rfl r.lt (ty:=ty) K ht xI (base:=none) (len:=0) (cap:=0) (n:=n) (x:=x) (old:=[]) (new:=new) (v:=v) (h':=h') (kr:=xD te) rfl (zG6 K) (λ_ h=>Cs.ofL_eq h)
    (by simpa using e) (λu B=>by simp at B) A (by simp) E (by simp[Builtin.firstCells]) y dd
   simpa [V.conc]using this
 ·
  rename_i b o len cp;simp only[V.In]at hs;split at e
  .rename_i l f wr op Y;split at e
   ·
    rename_i kk;unfold jO at e;cases L:Nat.ble (len+n) kk with
    | true =>
     simp only[L,oN]at e;rcases Q:(wr && zU new) with _|_
     .simp[Q]at e
     simp only[Q,oN]at e;simp only[oI]at Q;obtain⟨rfl,d⟩:=Q;obtain⟨y,A,E⟩:=y d;cases k:Nat.beq n 0 with
     | true=>have n0:=oH k;subst n0;simp only[k,oN,oA,oB]at e;obtain⟨rfl,rfl⟩:=e;have C:new=[]:=List.eq_nil_of_length_eq_zero dd;subst C;refine Post.of_eq ?_ (Post.pure r (v:=.slice b o len (.exact kk)) (by simpa [V.In]using hs));simpa [V.conc,Cap.val]using y.none rfl (some ⟨ρ.blk b,ρ.off b+o,none⟩) len kk (by have:=oG L;omega)
     | false=>rw[k,oO]at e;exact pE r K ht e rfl hs Y A d y (by simpa [Cap.val]using oG L)
    | false =>
     simp only[L,oO]at e;have hlt:kk<len+n:=by have:=(kQ _ _).1 L;omega
     cases F:Xo l o (len*te.size) new with
     | none=>rw[F]at e;unfold jD kJ at e;cases W:Nat.ble ((len+n)*te.bytes) 1099511627776<;>cases X:Nat.blt h.nx T.top<;>simp[W,X]at e
     | some J =>
     obtain⟨old,q,d,hofl⟩:∃old,l.range o (len*te.size)=some old/\zU new=true/\Cs.ofL (old++new)=some J:=by
      unfold Xo at F;split at F
      .rename_i old q;rcases h1:zU new with _|_
       .simp[h1]at F
       rw[h1,oN]at F;exact⟨old,q,rfl,F⟩
      cases F
     rw[F]at e;obtain⟨p1,p2,p3⟩:=j9 (P:=P) (w:=w.drew) (r.of_heap rfl) hs Y q;obtain⟨y,A,E⟩:=y d;have:=JZ (P:=P) (h:=h) r (Mv.refl _ _ _ _) rfl r.lt (ty:=ty) K ht xI (base:=some ⟨ρ.blk b,ρ.off b+o,none⟩) (len:=len) (cap:=kk) (n:=n) (x:=x) (kr:=xD te) rfl (zG6 K) (rc:=some J) (λcs h=>by cases h;exact Cs.ofL_eq hofl) e p2 A p3 E
      (by simp only[Builtin.firstCells];exact p1) y hlt
     simpa [V.conc,Cap.val]using this
   -- an unknown one
   rename_i kk;unfold kX at e;rcases G:(wr && op && Nat.beq te.size f.n && Nat.beq o (kk*te.size) && zU new && Nat.ble (o+len*te.size) l.len) with _|_
   .simp[G]at e
   simp only[G,oN]at e;simp only[oI]at G;obtain⟨⟨⟨⟨⟨c1,c2⟩,c3⟩,c4⟩,d⟩,c5⟩:=G;subst c1;subst c2;have c3':=oH c3;have c4':=oH c4;obtain⟨y,A,E⟩:=y d;obtain⟨cc,ee,fz,hxx,hcell,hcin,hw⟩:=r.rel b _ hs Y;obtain⟨I,hfz,hlel,hsz,hty⟩:=hw rfl;have M:cc.size=ρ.cap b*te.size:=by rw[hsz,<-c3'];simp
   have room:∀m,o+m*te.size<=l.len->kk+m<=ρ.cap b:=by
    intro m hm;have h1:(kk+m)*te.size<=ρ.cap b*te.size:=by rw[Nat.add_mul];omega
    exact Nat.le_of_mul_le_mul_right h1 ts
   have N:o+len*te.size<=l.len:=oG c5;obtain⟨old,q⟩:=Cs.range_some N;obtain⟨p1,p2,p3⟩:=j9 (P:=P) (w:=w.drew) (r.of_heap rfl) hs Y q;cases k:Nat.beq n 0 with
   | true=>have n0:=oH k;subst n0;simp only[k,oN,oA,oB]at e;obtain⟨rfl,rfl⟩:=e;have C:new=[]:=List.eq_nil_of_length_eq_zero dd;subst C;have hcap:=room len N;refine Post.of_eq ?_ (Post.pure r (v:=.slice b o len (.skip kk)) (by simpa [V.In]using hs));simpa [V.conc,Cap.val]using y.none rfl (some ⟨ρ.blk b,ρ.off b+o,none⟩) len (ρ.cap b-kk) dd
   | false =>
    simp only[k,oO]at e;have hn:0<n:=by
     rcases Nat.eq_zero_or_pos n with g|g
     .subst g;simp at k
     exact g
    split at e
    ·
     rename_i q2 R;simp only[oA]at e;subst e;have hfit:o+(len+n)*te.size<=l.len:=by
      unfold qh at R;split at R
      .rename_i l' hl';obtain⟨s1,_,_⟩:=Cs.put_eq hl';rw[Nat.add_mul];omega
      cases R
     have:=room (len+n) hfit;exact pE r K ht R rfl hs Y A d y (by simp only[Cap.val];omega)
    -- at its end
    unfold Yh at e;rcases p:(Nat.beq kk 0 && Nat.beq l.len (o+len*te.size) && Nat.ble f.fz (o+len*te.size) && (Nat.beq f.ty 0 || Nat.beq f.ty (te.id+1))) with _|_
    .simp[p]at e
    simp only[p,oN]at e;simp only[oI]at p;have k0:=oH p.1.1.1;have hll:=oH p.1.1.2;have hfk:=oG p.1.2;have hkt:∀u,f.ty=u+1->el=u:=λu B=>by
     have:=p.2;simp only[Bool.or_eq_true]at this;rcases this with g|g
     .have:=oH g;omega
     have g1:f.ty=te.id+1:=oH g;have g2:te.id=el:=K.id;have g3:u+1=te.id+1:=B.symm.trans g1;exact g2.symm.trans (Nat.succ.inj g3).symm
    subst k0;have o0:o=0:=dd
    subst o0;rw[Nat.zero_add]at hll;by_cases hroom:len+n<=ρ.cap b
    ·
     unfold jD at e;rcases hb:Nat.ble ((len+n)*te.bytes) 1099511627776 with _|_
     .simp[hb]at e
     simp only[hb,oN]at e;split at e
     .rename_i b' h1 hnn;simp only[oA,oB]at e;obtain⟨rfl,rfl⟩:=e;obtain⟨g1,J,g2,rfl,rfl⟩:=K4 hnn;obtain⟨ca,cg⟩:=Cs.app_eq g2;have S:ρ.off b+len*te.size+(new.map (V.conc ρ)).length<=cc.size:=by
       rw[I,oy,E,M,Nat.zero_add,<-Nat.add_mul];exact Nat.mul_le_mul_right _ hroom
      obtain⟨c',e1,e2,e3⟩:=Kg (new.map (V.conc ρ)) hxx S;have O:=y.room (ρ.blk b) (ρ.off b+0) len (ρ.cap b-0) dd
       (λj hj=>by
        rw[K.size,Nat.add_zero,ke hxx,Array.getElem?_eq_getElem dd];rfl)
       (λj hj=>by
        rw[K.size,Nat.add_zero];exact Xy hxx (hfz _ dd dd))
      rw[K.size,Nat.add_zero,e1]at O;have hO:ORel (ρ.at h.nx (ρ.blk b) (ρ.cap b)) (Dx D h ((h.upd b none).new (.cells J f true true))) h.nx (.cells J f true true) (some (.cells c' ee fz)):=by
       have hnd:¬D h.nx:=λhd=>by have:=r.lt _ hd;omega
       have hag:Agree D ρ (ρ.at h.nx (ρ.blk b) (ρ.cap b)):=Env.at_agree hnd;have U:∀i u,J.get? i=some u->u.In D:=λi u B=>by
        rw[cg i]at B;split at B
        .exact hcin i u B
        exact A u (List.mem_of_getElem? B)
       refine⟨c',ee,fz,rfl,λi u B=>?_,λi u B=>V.In_mono wm _ (U i u B),λ_=>⟨Env.at_off _ _ _ _,by rw[e2];exact hfz,?_,?_,hty⟩⟩
       .rw[Env.at_off,Nat.zero_add,V.conc_agree hag u (U i u B),e3 i,I,Nat.zero_add,oy];rw[cg i]at B;by_cases hi:i<l.len
        .rw[if_pos hi]at B;rw[if_neg dd];have:=hcell i u B
         rwa [I,Nat.zero_add]at this
        rw[if_neg hi]at B;have hi2:=(List.getElem?_eq_some_iff.1 B).1;rw[if_pos dd,od];rw[show i-len*te.size=i-l.len from dd,B];rfl
       .rw[e2,M,ca,E,hll,<-Nat.add_mul];exact Nat.mul_le_mul_right _ hroom
       rw[e2,Env.at_cap,M];simp[<-c3']
      refine⟨_,_,?_,Mv.move r hs Y rfl rfl g1 (ρ.cap b),HR.move r hs Y rfl g1 (ρ.cap b) hO,by simp only[V.In];exact .inr ⟨oR _,by simp[H.new_eq,qq,H.upd_eq]⟩⟩;simp only[V.conc,Cap.val,Nat.add_zero,Nat.sub_zero,qq,wG,Env.at_blk,Env.at_off,Env.at_cap]at O ⊢;rw[O,I]
     cases e
    -- it is laid qg
    have:=JZ (P:=P) (h:=h) (h0:=qq h b) (r.kill hs) (Mv.kill r hs) rfl r.lt (ty:=ty) K ht xI (base:=some ⟨ρ.blk b,ρ.off b+0,none⟩) (len:=len) (cap:=ρ.cap b) (n:=n) (x:=x) (kr:=f) c3'.symm hkt (rc:=l.app new) (λcs h=>Aw p3 q hll h) e p2 A p3 E
     (by simp only[Builtin.firstCells];exact p1) y dd
    simpa [V.conc,Cap.val]using this
  cases e
 cases e
theorem Xt(ok:CtxOK P c){s:V}(e:zi c t h s x=some (v,h'))(r:HR ρ D h w)(hs:s.In D)(u:x.In D)(z:(∃A,P.underlying tx=some (.slice A))\/P.underlying tx=some .string)(ty:TypeId):
  Post ρ D h w ((Builtin.append_ #[t,tx] ty #[s.conc ρ,x.conc ρ]).run P w) v h':=by
 unfold zi at e;split at e
 .rename_i ti f;obtain⟨i,k⟩:=ok.ty t ti f;split at e
  .rename_i el hd;have q:P.underlying t=some (.slice el):=by rw[k.und,hd]
   split at e
   .rename_i g j;obtain⟨i2,m⟩:=ok.ty el g j;rcases xI:jo g with _|_
    .grind
    simp only[xI,oN]at e;split at e
    .cases e
    rename_i n new a;refine pF m q xI e r hs (λn0=>?_) λd=>?_
    .subst n0;unfold yT at a;split at a
     .grind
     .grind
     .rename_i l;rcases hb:Nat.beq g.size 1 with _|_
      .grind
      simp only[hb,oN,oA,oB]at a;rw[yl,Nat.add_zero]at a;have:=List.eq_nil_of_length_eq_zero a.1;subst this;exact a.2.symm
     .split at a
      .split at a
       .rename_i y B;simp only[oA,oB]at a;obtain⟨E,rfl⟩:=a;obtain⟨F,_,_⟩:=Cs.range_eq B<;>simp_all
       grind
      grind
     grind
    obtain⟨C,o,p⟩:=Ll (P:=P) r a u d z;exact⟨SrcR.of q m.info (by rw[m.size];exact C),o,p⟩
   grind
  grind
 grind
theorem aL(ok:CtxOK P c){C:IntKind}{s:V}(e:Xs c t h s x=some (v,h'))(r:HR ρ D h w)(hs:s.In D)(E:P.underlying tx=some (.int C))(ty:TypeId):
  Post ρ D h w ((Builtin.append_ #[t,tx] ty #[s.conc ρ,x.conc ρ]).run P w) v h':=by
 unfold Xs at e;split at e
 .rename_i ti g;obtain⟨i,k⟩:=ok.ty t ti g;split at e
  .rename_i el hd;have B:P.underlying t=some (.slice el):=by rw[k.und,hd]
   split at e
   .rename_i a j;obtain⟨i2,d⟩:=ok.ty el a j;rcases xI:(jo a && Nat.beq a.size 1) with _|_
    .grind
    simp only[xI,oN]at e;simp only[oI]at xI;have m:=oH xI.2;split at e
    .rename_i kk z F;rcases hb:Nat.ble (kk*a.bytes) 1099511627776 with _|_
     .grind
     simp only[hb,oN]at e;split at e
     .rename_i u o;obtain⟨_,tb,_⟩:=uJ xI.1;obtain⟨J,p,q⟩:=d.zero z F;obtain⟨y,A⟩:=Xb q;have G:=oG hb;refine pF d B xI.1 e r hs (λn0=>by grind) λf=>⟨?_,?_,?_⟩
      .rw[List.map_replicate];have H:kk<=kk*a.bytes:=Nat.le_mul_of_pos_right _ tb;exact SrcR.zeros B d.info E p (u:=u.conc ρ) (by rw[<-y ρ,V.cells_conc,o];rfl) (by rw[d.size,m]) (λK=>V.one_conc ρ (yP.1 f u (List.mem_replicate.2 ⟨dd,rfl⟩))) (by rw[d.bytes];omega) dd
      .intro v I;rw[List.eq_of_mem_replicate I];exact V.cells_In (A D) u (by grind)
      grind
     grind
    grind
   grind
  grind
 grind
theorem ub(ok:CtxOK P c){s:V}(e:YE c tx t h s x=some (v,h'))(r:HR ρ D h w)(hs:s.In D)(d:x.In D)(ty:TypeId):
  Post ρ D h w ((Builtin.append_ #[t,tx] ty #[s.conc ρ,x.conc ρ]).run P w) v h':=by
 unfold YE at e;split at e
 .rename_i ti a;obtain⟨i,k⟩:=ok.ty tx ti a;split at e
  .rename_i hd;exact Xt ok e r hs d (.inr (by rw[k.und,hd])) ty
  .rename_i el hd;exact Xt ok e r hs d (.inl ⟨el,by rw[k.und,hd]⟩) ty
  .rename_i f hd;exact aL ok e r hs (by rw[k.und,hd]) ty
  grind
 grind
theorem Zg(r:HR ρ D h w){esz:Nat}{m:Nat}{cs:Ug}(e:yT esz h x=some (n,new))(p:x.In D)(hm:m<=n)(d:Zv (m*esz) new=some cs):
  (Builtin.lenOf (x.conc ρ)).run P w = .ok n w/\(Builtin.firstCells esz m (x.conc ρ)).run P w = .ok (cs.map (V.conc ρ)).toArray w/\(∀v∈cs,v.In D):=by
 unfold yT at e;split at e
 .simp only[oA,oB]at e;obtain⟨rfl,rfl⟩:=e;obtain⟨a,rfl⟩:=Zw d
  simp_all[V.conc,Builtin.lenOf,Builtin.firstCells]
 .simp only[oA,oB]at e;obtain⟨rfl,rfl⟩:=e;obtain⟨a,rfl⟩:=Zw d;have f:m=0:=dd
  subst f;refine⟨rfl,?_,λ_ q=>by grind⟩;simp only[V.conc,Builtin.firstCells,Nat.zero_mul];exact run_loadCells_list (P:=P) _ _ [] (λj v G=>by grind)
 .rename_i l;rcases hb:Nat.beq esz 1 with _|_
  .grind
  have g:=oH hb;simp only[hb,oN,oA,oB]at e;obtain⟨rfl,rfl⟩:=e;subst g;rw[Nat.mul_one]at d;obtain⟨a,rfl⟩:=Zw d;refine⟨by simp[V.conc,Builtin.lenOf,yl,kU],?_,λv q=>kw l v (List.mem_of_mem_take q)⟩;simp only[V.conc,Builtin.firstCells,Sem.run_pure];congr 1;apply Array.ext';simp only[yx,List.map_take,List.map_map];simp[ByteArray.data_extract];congr 1
 .rename_i b o len H;simp only[V.In]at p;split at e
  .rename_i l s wr op A;split at e
   .rename_i y B;simp only[oA,oB]at e;obtain⟨rfl,rfl⟩:=e;obtain⟨a1,a2,a3⟩:=Cs.range_eq B;obtain⟨I,J⟩:=Zw d;have C:m*esz<=len*esz:=Nat.mul_le_mul_right _ hm;obtain⟨z,u⟩:=Cs.range_some (c:=l) (o:=o) (k:=m*esz) dd;obtain⟨K,L,M⟩:=Cs.range_eq u;have i:z=cs:=by
     apply List.ext_getElem?
     grind
    subst i;obtain⟨E,F,p3⟩:=j9 (P:=P) r p A u;exact⟨rfl,E,F⟩
   grind
  grind
 grind
theorem aP(ok:CtxOK P c){d:V}(e:Rr c t h d x=some (v,h'))(r:HR ρ D h w)(hd:d.In D)(B:x.In D)(p:Array TypeId)(G:p.getD 0 0=t)(ty:TypeId)(H:0<p.size):
  Post ρ D h w ((Builtin.copy_ p ty #[d.conc ρ,x.conc ρ]).run P w) v h':=by
 have C:p[0]? = some t:=by
  simp_all
 unfold Rr at e;split at e
 .rename_i ti s;obtain⟨i,k⟩:=ok.ty t ti s;split at e
  .rename_i el f;split at e
   .rename_i I u;obtain⟨i2,E⟩:=ok.ty el I u;split at e
    .cases e
    rename_i n new a;split at e
    .simp only[oA,oB]at e;obtain⟨rfl,rfl⟩:=e;obtain⟨y,q,F⟩:=Zg (P:=P) (m:=0) (cs:=[]) r a B (oM _) (by simp[Zv]);refine Post.of_eq ?_ (Post.pure r (v:=.int .i64 0) (by simp[V.In]));simp only[List.map_nil]at q;simp[Builtin.copy_,C,z7 k,f,V.conc,y,yJ E,q,goInt]
    .rename_i b o len M;simp only[V.In]at hd;split at e
     .rename_i l esz op J;simp only at e;split at e
      .rename_i cs g;rcases j:cond (Nat.ble esz.fz o) (zU cs) false with _|_
       .grind
       rw[j,oN]at e;obtain⟨z,K⟩:=VD j;split at e
       .rename_i N A;simp only[oA,oB]at e;obtain⟨rfl,rfl⟩:=e;have hm:(cond (Nat.ble n len) n len)=Nat.min n len:=by
         cases hb:Nat.ble n len
         .have:=(kQ _ _).1 hb;grind
         simp_all
        rw[hm]at g ⊢;obtain⟨y,q,F⟩:=Zg (P:=P) r a B (Nat.min_le_left _ _) g;obtain⟨s1,O,L,_⟩:=wx (P:=P) r hd J F K A (oG z);refine⟨ρ,_,?_,L,by grind[jq,wG],by simp[V.In]⟩;simp[Builtin.copy_,C,z7 k,f,V.conc,y,yJ E,q,goInt,s1]
       grind
      grind
     grind
    grind
   grind
  grind
 grind
theorem IQ{z:Ug}{k:Nat}{cs:Cs}(h:uZ z k=some cs):cs.len=(xm z k).length/\∀i,cs.get? i=(xm z k)[i]?:=by
 unfold uZ at h;split at h
 .rename_i v;obtain⟨a,b⟩:=Cs.rep_eq h<;>simp_all[Z4,u3,Nat.mod_one]
 grind[Cs.ofL_eq]
theorem aV(ok:CtxOK P c){a b:V}(e:Z7 c t a b h=some (v,h'))(r:HR ρ D h w):
  Post ρ D h w ((Instr.makeSlice t (a.conc ρ) (b.conc ρ)).run P w) v h':=by
 unfold Z7 at e;split at e
 .rename_i X Y C Z;split at e
  .rename_i l kk hl E;obtain rfl:=Z8 hl;obtain rfl:=Z8 E;split at e
   .rename_i ti g;obtain⟨i,k⟩:=ok.ty t ti g;split at e
    .rename_i el hd;split at e
     .rename_i d j;obtain⟨i2,f⟩:=ok.ty el d j;split at e
      .rename_i z F;obtain⟨z1,G⟩:=qy f F ρ w;rcases m:(Nat.ble l kk && Nat.ble kk 4294967296 && Nat.ble (d.bytes*kk) 1099511627776 && we z.cells d.size) with _|_
       .grind
       simp only[m,oN]at e;simp only[oI]at m;obtain⟨⟨⟨H,I⟩,J⟩,K⟩:=m;have L:=oG H;have M:=oG I;have N:=oG J;have A:=zx.1 K;split at e
       .rename_i bb h1 O;simp only[oA,oB]at e;obtain⟨rfl,rfl⟩:=e;have o:∀u∈xm z.cells kk,u.In D:=λv Q=>V.cells_In (G D) v (u4 _ _ v Q)
        obtain⟨ρ',R,S,m3,m4,m5⟩:=pU r O (λcs h=>IQ h) o el (λu T=>by cases T);refine⟨ρ',_,?_,R,S,by grind[V.In]⟩;have U:IntKind.i64.wrap (l:Int)=(l:Int):=Kt _;have W:IntKind.i64.wrap (kk:Int)=(kk:Int):=Kt _;have p:¬((d.bytes:Int)*(kk:Int) > 2^48):=dd
        have q:¬((kk:Int)<0):=dd
        have s:¬((l:Int)<0):=dd
        have y:¬((l:Int) > (kk:Int)):=dd
        have B:((Array.range (kk*d.size)).map λi=>(if kk*d.size=0 then (#[]:Array Value) else (z.cells.map (V.conc ρ)).toArray)[i % (if kk*d.size=0 then (#[]:Array Value) else (z.cells.map (V.conc ρ)).toArray).size]!)=((xm z.cells kk).map (V.conc ρ)).toArray:=by
         by_cases h0:kk*d.size=0
         .grind[Z4]
         simp only[h0,if_false]
         grind[fo]
        simp only[Instr.makeSlice,Sem.run_bind,z7 k,hd,Result.andThen_ok,V.conc,asInt,asIntOf,Sem.run_pure,XK f,f.bytes,U,W];simp only[q,p,s,y,decide_false,Bool.or_false,Bool.false_eq_true,if_false,oe,Sem.run_bind,run_askRoom,Result.andThen_ok,yJ f];by_cases h0:kk*d.size=0<;>simp_all[newRow,Cap.val,V.cells_conc]
       grind
      grind
     grind
    grind
   grind
  grind
 grind
theorem rA(e:JN h x=some v)(r:HR ρ D h w)(a:x.In D)(d:Array TypeId)(ty:TypeId):
  (Builtin.unsafeSliceData_ d ty #[x.conc ρ]).run P w = .ok (v.conc ρ) w/\v.In D:=by
 unfold JN at e;split at e
 .simp only[oA]at e;subst e;exact⟨rfl,by simp[V.In]⟩
 .grind[V.In,V.conc,Cap.val,Go.Lib.run_unsafeSliceData_row]
 .rename_i b o n;simp only[V.In]at a;split at e
  .rename_i l esz g;cases hb:Nat.blt 0 l.len with
   | false=>grind
   | true =>
   have f:=(zW _ _).1 hb;simp only[hb,oN,oA]at e;subst e;refine⟨?_,by grind[V.In]⟩;simp only[V.conc,Cap.val];obtain⟨c0,k,fz,_,_,_,hw⟩:=r.rel b _ a g;obtain⟨_,_,i,j,_⟩:=hw rfl;refine Go.Lib.run_unsafeSliceData_row w d ty _ _ _ ?_
   grind
  grind
 grind
theorem L6:∀(l:Ug) (y:Ua) (a:Addr) (acc:ByteArray),wN l=some y->(∀j v,l[j]? = some v->w.cell? (a.add j)=some (v.conc ρ)) ->
  (loadBytes a acc l.length).run P w = .ok ⟨acc.data++y.toArray⟩ w:=by
 intro l;induction l with
 | nil=>simp_all[wN,loadBytes]
 | cons v l ih =>
  intro y a acc e d;cases v with
  | int k n =>
   cases k<;>simp only[wN]at e<;>try (cases e;done)
   rcases hb:wN l with _|q
   .grind
   simp only[hb,oA]at e;subst e;have f:w.cell? a=some (.int .u8 n):=by
    have:=d 0 _ rfl
    grind[Addr.add,V.conc]
   have g:=ih q (a.add 1) (acc.push (UInt8.ofNat n.toNat)) hb (λj y i=>by
    have:=d (j+1) y (by grind)
    grind[Addr.add])
   have m:n.toNat.toUInt8=UInt8.ofNat n.toNat:=rfl
   simp_all[loadBytes]
  | _=>grind[wN]
theorem S4{c:Array Value}{e:TypeId}{fz:Nat×Nat}(a:n≠0)(h:w.heap[b]? = some (.cells c e fz)):
  w.freeze ⟨b,0,none⟩ n=w.putObj b (.cells c e (if fz.1 == fz.2 then (0,n) else (0,max fz.2 n))):=by
 have hb:b<w.heap.size:=by
  grind
 unfold World.freeze World.putObj;rw[if_neg a];congr 1
 grind
theorem rB(ok:CtxOK P c){pt:TypeId}{p n:V}(e:JO c pt h p n=some (v,h'))(r:HR ρ D h w)(hp:p.In D)(H:Array TypeId)(ty:TypeId)(I:H[0]? = some pt):
  Post ρ D h w ((Builtin.unsafeString_ H ty #[p.conc ρ,n.conc ρ]).run P w) v h':=by
 have A:IntKind.i64.max=9223372036854775807:=rfl;have B:∀(p:Option Addr) (n:Value),Builtin.unsafeString_ H ty #[.pointer p,n] =
   (do
    let n <-asInt n
    let some pt:=H[0]? | stuck "unsafe.String: no argument types"
    if n<0 then runtimePanic (.error "unsafe.String: len out of range")
    if n > IntKind.i64.max then unsupported (.unsafePointer "String: a length above the largest int")
    match p with
    | none =>
     if n=0 then pure (.string .empty)
     else runtimePanic (.error "unsafe.String: ptr is nil and len is not zero")
    | some a =>
     if n=0 then pure (.string .empty)
     else if <-variablesAt a (<-elemOf pt) n.toNat then do
      let s <-loadBytes a .empty n.toNat
      freeze a n.toNat
      pure (.string s)
     else unsupported (.unsafePointer "String: not so many bytes at ptr")):=λ_ _=>rfl
 have Z:(⟨([]:Ua).toArray⟩:ByteArray) = .empty:=rfl;unfold JO at e;split at e
 .simp only[oA,oB]at e;obtain⟨rfl,rfl⟩:=e;refine Post.of_eq ?_ (Post.pure r (v:=.str []) (by simp[V.In]))
  simp_all[V.conc,asInt,asIntOf]
 .simp only[oA,oB]at e;obtain⟨rfl,rfl⟩:=e;refine Post.of_eq ?_ (Post.pure r (v:=.str []) (by simp[V.In]))
  simp_all[V.conc,asInt,asIntOf]
 .rename_i b k m J;simp only[V.In]at hp;split at e
  .rename_i tp l esz op K L;obtain⟨i1,k1⟩:=ok.ty pt tp K;split at e
   .rename_i u hd;split at e
    .rename_i tu M;obtain⟨i2,k2⟩:=ok.ty u tu M;rcases N:(Nat.beq tu.size 1 && Nat.beq esz.ty (u+1) && Nat.ble m 4611686018427387904) with _|_
     .grind
     simp only[N,oN]at e;simp only[oI]at N;obtain⟨⟨c1,c2⟩,c3⟩:=N;have O:=oH c1;have Q:=oH c2;have c3':=oG c3;split at e
     .rename_i x hx;split at e
      .rename_i y hy;simp only[oA,oB]at e;obtain⟨rfl,rfl⟩:=e;have C:m≠0:=J;obtain⟨R,t1,t2⟩:=Cs.range_eq hx;obtain⟨c0,z,fz,E,o,F,hw⟩:=r.rel b _ hp L;obtain⟨g,hfz,S,T,G⟩:=hw rfl;obtain⟨rfl,hfz2⟩:=G u Q;have f:P.cellsOf z=1:=by simp[Program.cellsOf,k2.info,k2.size,O]
       have U:w.shape? (ρ.blk b)=some (z,c0.size):=by grind[World.shape?]
       have q:=Go.Lib.liesAt_bytes (P:=P) f (c0.size/P.cellsOf z) m (by grind);have d:=L6 (P:=P) (ρ:=ρ) (w:=w) x y ⟨ρ.blk b,0,none⟩ .empty hy (λj u hu=>by
        rw[yK,ke E,Nat.zero_add]
        grind)
       rw[R]at d;have W:=S4 (w:=w) (n:=m) C E;have hO:ORel ρ D b (.cells l ⟨esz.n,esz.ty,cond (Nat.ble esz.fz m) m esz.fz⟩ true op) (some (.cells c0 z (if fz.1 == fz.2 then (0,m) else (0,max fz.2 m)))):=by
        refine⟨c0,z,_,rfl,o,F,λ_=>⟨g,?_,S,T,?_⟩⟩
        .intro i hi hk;have X:esz.fz<=i/\m<=i:=by
          cases hb:Nat.ble esz.fz m with
          | true=>simp only[hb,oN]at hk;have:=oG hb;omega
          | false=>simp only[hb,oO]at hk;grind[kQ]
         grind
        intro t ht;have Y:esz.ty=t+1:=ht;refine⟨(G t Y).1,?_⟩;have X:m<=(cond (Nat.ble esz.fz m) m esz.fz)/\esz.fz<=(cond (Nat.ble esz.fz m) m esz.fz):=by
         cases hb:Nat.ble esz.fz m with
         | true=>simp_all
         | false=>simp only[oO];grind[kQ]
        grind
       refine⟨ρ,w.putObj (ρ.blk b) (.cells c0 z (if fz.1 == fz.2 then (0,m) else (0,max fz.2 m))),?_,Mv.upd r hp L rfl rfl,by rw[jq (wG _ _ _)];exact HR.upd r hp L rfl rfl hO,by simp[V.In]⟩;rw[<-W];simp only[V.conc,B,I,g];have h1:¬(9223372036854775807:Int)<(m:Int):=dd
       have h2:¬((m:Int)<0):=dd
       have h3:¬((m:Int)=0):=dd
       simp[asInt,asIntOf,A,h1,h2,C,variablesAt,U,elemOf,z7 k1,hd,q,d]
      grind
     grind
    grind
   grind
  grind
 grind
end
def AD.conc(ρ:Env):AD->Deferred
 | .coll id=>{ target:=.collected (ρ.blk id),args:=#[] }
 | .fn f cap args=>{ target:=.fn (.func f) (cap.map (V.conc ρ)).toArray,args:=(args.map (V.conc ρ)).toArray }
def AD.In(D:Nat->Prop):AD->Prop
 | .coll id=>D id
 | .fn _ cap args=>(∀v∈cap,v.In D)/\∀v∈args,v.In D
def OpPost(P:Program)(ρ:Env)(D:Nat->Prop)(h:H)(w:World)(a:Result Next):AN->Prop
 | .val v h'=>∃ρ' w',a = .ok (.value (v.conc ρ')) w'/\Mv ρ D h w ρ' h' w'/\HR ρ' (Dx D h h') h' w'/\v.In (Dx D h h')
 | .skip h'=>∃w',a = .ok .skip w'/\Mv ρ D h w ρ h' w'/\HR ρ (Dx D h h') h' w'
 | .call f args=>(∀v∈args,v.In D)/\a=(callFunc f (args.map (V.conc ρ)).toArray).run P w
 | .round l args=>D l/\(∀v∈args,v.In D)/\a=(Instr.yield (ρ.blk l) (args.map (V.conc ρ)).toArray).run P w
 | .dfr d=>d.In D/\a = .ok (.defer (d.conc ρ)) w
 | .recover=>a = .ok .recover w
 | .pan v h'=>h'=h/\v.In D/\a = .halt (.panic (v.conc ρ)) w
section
variable {P:Program}{c:Ctx}{ρ:Env}{D:Nat->Prop}{h:H}{w:World}{ev:Uh}{a:Operand->Value}
theorem OpPost.ofV{r:Ui}{d:AN}{s:Sem Value}(e:AN.ofV r h=some d)(hs:∀v,r=some v->s.run P w = .ok (v.conc ρ) w/\v.In D)(hr:HR ρ D h w):
  OpPost P ρ D h w ((do pure (.value (<-s)):Sem Next).run P w) d:=by
 rcases r with _|v
 .grind[AN.ofV]
 simp only[AN.ofV,oA]at e;subst e;obtain⟨f,h2⟩:=hs v rfl;exact⟨ρ,w,by simp[f],Mv.refl _ _ _ _,by grind[zd],by grind[zd]⟩
theorem OpPost.ofVH{r:Option (V×H)}{d:AN}{s:Sem Value}(e:AN.ofVH r=some d)(hs:∀v h',r=some (v,h')->Post ρ D h w (s.run P w) v h'):
  OpPost P ρ D h w ((do pure (.value (<-s)):Sem Next).run P w) d:=by
 rcases r with _|⟨v,h'⟩
 .grind[AN.ofVH]
 simp only[AN.ofVH,oA]at e;subst e;obtain⟨ρ',w',f,h2,h3,h4⟩:=hs v h' rfl;exact⟨ρ',w',by simp[f],h2,h3,h4⟩
theorem X5:∀{l:List Operand}{vs:Ug},Xw ev l=some vs->(∀x∈l,∀v,ev x=some v->a x=v.conc ρ/\v.In D)->l.map a=vs.map (V.conc ρ)/\∀v∈vs,v.In D:=by
 intro l;induction l with
 | nil=>grind[Xw]
 | cons x l ih =>
  intro vs e d;simp only[Xw]at e;split at e
  .cases e
  rename_i v f;split at e
  .cases e
  rename_i r hr;simp only[oA]at e;subst e;obtain⟨i,h2⟩:=d x (List.mem_cons_self ..) v f;obtain⟨j,i2⟩:=ih hr (λy g=>d y (oJ _ g))<;>grind
theorem gI:∀{l:List (Nat×Operand)}{vs:List (Nat×V)},NR ev l=some vs->(∀x∈l.map (·.2),∀v,ev x=some v->a x=v.conc ρ/\v.In D) ->
  l.map (λp=>(p.1,a p.2))=vs.map (λp=>(p.1,p.2.conc ρ))/\∀p∈vs,p.2.In D:=by
 intro l;induction l with
 | nil=>grind[NR]
 | cons x l ih =>
  intro vs e d;obtain⟨i,x⟩:=x;simp only[NR]at e;split at e
  .cases e
  rename_i v g;split at e
  .cases e
  rename_i r hr;simp only[oA]at e;subst e;obtain⟨j,h2⟩:=d x (by simp) v g;obtain⟨k,i2⟩:=ih hr (λy f=>d y (by simp at f ⊢;exact .inr f))<;>grind
theorem rJ{o:Option Operand}{r:Ui}(e:evO ev o=some r)(d:∀x∈o.toArray,∀v,ev x=some v->a x=v.conc ρ/\v.In D):o.map a=r.map (V.conc ρ):=by
 rcases o with _|x
 .grind[evO]
 grind[evO]
theorem VL:∀(n t:Nat) (acc:Array Value),(Extern.BytealgMakeNoZero.digits n t acc).size=acc.size+n:=by intro n;induction n<;>grind[Extern.BytealgMakeNoZero.digits]
theorem Ns(hr:HR ρ D h w){ps rs:Array TypeId}{t el n b:Nat}{h':H}(q:rs[0]? = some t)(r:P.underlying t=some (.slice el))(d:kJ h (some (.ls [])) ⟨1,el+1,0⟩ true=some (b,h'))(B:n<=4294967296):
  ∃ρ',∃(_:True),Dx D h h' b/\∃w',(Extern.BytealgMakeNoZero.makeNoZero ps rs #[.int .i64 (n:Int)]).run P w = .ok ((V.slice b 0 n (.skip 0)).conc ρ') w'/\Mv ρ D h w ρ' h' w'/\HR ρ' (Dx D h h') h' w':=by
 obtain⟨s,cs,p,rfl,rfl⟩:=K4 d;simp only[oA]at p;subst p;generalize g:Question.cut (Question.appendCap n 0 el) (w.tape w.drawn (Question.appendCap n 0 el))=j;generalize k:Question.cut (Question.extern "internal/bytealg.MakeNoZero.bytes" 0) (w.drew.tape w.drew.drawn (Question.extern "internal/bytealg.MakeNoZero.bytes" 0))=e;have m:HR ρ D h w.drew.drew:=hr.of_heap rfl;have o:=VL j e #[];simp only[List.size_toArray,List.length_nil,Nat.zero_add]at o;obtain⟨a1,a2⟩:=bD m s (l:=.ls []) (esz:=⟨1,el+1,0⟩) (op:=true) (λi v y=>by grind[Cs.get?,Cs.getL]) (Extern.BytealgMakeNoZero.digits j e #[]) el (0,0) j
  (λi v y=>by grind[Cs.get?,Cs.getL]) (λi _ _=>by simp) (by simp[Cs.len,ws]) (by grind) (λu z=>⟨Nat.succ.inj z,.inl rfl⟩)
 refine⟨_,trivial,fq,_,?_,Mv.trans hr.lt (Mv.of_heap (w':=w.drew.drew) rfl rfl ⟨rfl,oS (Nat.le_succ _) (Nat.le_succ _)⟩ rfl) (by grind[zd]),a1⟩;have A:¬((n:Int)<0):=dd
 have h2:¬((n:Int) > 2^48):=dd
 have f:Extern.BytealgMakeNoZero.makeNoZero ps rs #[.int .i64 (n:Int)] =
   (do
    let some t:=rs[0]? | stuck "bytealg.MakeNoZero: no result type"
    let .slice elem <-underlying t|stuck "bytealg.MakeNoZero: slice type expected"
    if (n:Int)<0 || (n:Int) > 2^48 then runtimePanic (.error "makeslice: len out of range")
    let cap <-choose (.appendCap (n:Int).toNat 0 elem)
    askRoom cap
    let bytes <-choose (.extern "internal/bytealg.MakeNoZero.bytes" 0)
    let a <-newRow elem (Extern.BytealgMakeNoZero.digits cap bytes #[])
    pure (.slice (some a) (n:Int).toNat cap)):=rfl
 rw[f];simp only[q,Sem.run_bind,run_underlying r,Result.andThen_ok];simp only[A,h2,decide_false,Bool.or_false,Bool.false_eq_true,if_false,oe,Sem.run_bind,Sem.run_pure,Result.andThen_ok,run_choose,Question.forced,World.drew_eq,g,run_askRoom,k];simp only[newRow,Sem.run_bind,run_newObj,Result.andThen_ok,World.alloc_eq,Sem.run_pure,V.conc,Cap.val,Env.at_blk,Env.at_off,Env.at_cap,Nat.sub_zero,World.size_drew];rfl
theorem aN(ok:CtxOK P c){cl:Call}{N:AN}(e:wo c cl ev h=some N)(hr:HR ρ D h w)(C:∀x∈cl.operands,∀v,ev x=some v->a x=v.conc ρ/\v.In D):
  OpPost P ρ D h w ((do let d <-resolve a cl ty;invoke d.target d.args:Sem Next).run P w) N:=by
 unfold wo at e;split at e
 .cases e
 rename_i args E;obtain⟨ha,j⟩:=X5 (a:=a) (ρ:=ρ) (D:=D) E (λx O v i=>C x (by
  grind[Call.operands]) v i)
 have m:cl.args.map a=(args.map (V.conc ρ)).toArray:=by
  grind
 split at e
 .rename_i f F;have B:∀v,ev f=some v->a f=v.conc ρ/\v.In D:=λv i=>C f (by
   grind[Call.operands]) v i
  split at e
  .rename_i g first captured i
   obtain⟨I,h2⟩:=B _ i;simp only[V.In,V.InL_iff]at h2;unfold JL at e;cases z:nw c g with
   | true =>
    rw[z,oN]at e;split at e
    .rename_i x;simp only[oA]at e;subst e;unfold nw at z;split at z
     .rename_i k J;obtain rfl:=oH z;obtain⟨fn,n1,Q,R,n4,S⟩:=ok.noesc _ J;refine⟨ρ,w,?_,Mv.refl _ _ _ _,by grind[zd],by grind[zd]⟩;simp only[resolve,F,I,V.conc,Deferred.ofValue,Sem.run_bind,Sem.run_pure,Result.andThen_ok,invoke,m,V.concL_eq]
      simp_all[run_callFunc_extern,Go.Lib.run_noEscape]
     grind
    grind
   | false =>
   rw[z,oO]at e;split at e
   .rename_i el A;unfold Bq at A;split at A
    case h_2=>grind
    rename_i k K J;cases hb:Nat.beq g k with
    | false=>grind
    | true =>
    simp only[hb,oN,oA]at A;subst A;obtain rfl:=oH hb;obtain⟨fn,ps,rs,t,n1,Q,R,n4,S,U,W⟩:=ok.mnz _ _ J;cases hm:Ej K h first args captured with
    | none=>rw[hm]at e;cases e
    | some q =>
    obtain⟨v,h'⟩:=q;rw[hm]at e;simp only[AN.ofVH,oA]at e;subst e;unfold Ej at hm;split at hm
    case h_2=>cases hm
    rename_i n;cases G:Nat.ble n 4294967296 with
    | false=>grind
    | true =>
    have X:=oG G;simp only[G,oN]at hm;split at hm
    case h_2=>cases hm
    rename_i b Y H;simp only[oA,oB]at hm;obtain⟨rfl,rfl⟩:=hm;obtain⟨Z,p2,p3,p4⟩:=Ns (P:=P) hr U W H X;obtain⟨w',q1,q2,q3⟩:=p4;refine⟨Z,w',?_,q2,q3,by grind[V.In]⟩;simp only[resolve,F,I,V.conc,Deferred.ofValue,Sem.run_bind,Sem.run_pure,Result.andThen_ok,invoke,m,V.concL_eq];have:=run_callFunc_extern n1 Q R n4 S #[.int .i64 (n:Int)] w;rw[q1]at this
    simp_all[V.conc]
   simp only[oA]at e;subst e;refine⟨λv i=>?_,?_⟩
   .grind
   grind[resolve,V.conc,Deferred.ofValue,invoke,V.concL_eq]
  .rename_i l i;simp only[oA]at e;subst e;obtain⟨I,h2⟩:=B _ i;simp only[V.In]at h2;refine⟨h2,j,?_⟩
   grind[resolve,V.conc,Deferred.ofValue,invoke]
  grind
 .rename_i b hb;have base:((do let d <-resolve a cl ty;invoke d.target d.args:Sem Next))=builtin b cl.argTypes ty (cl.args.map λ| .const _=>true|_=>false) (args.map (V.conc ρ)).toArray:=by
   simp only[resolve,hb,m];rfl
  rw[base];have y:∀l,cl.argTypes.toList=l->cl.argTypes=l.toArray:=λl hl=>by grind
  split at e
  .rename_i x t o;rw[y _ o];exact OpPost.ofV (s:=Builtin.len_ #[t] ty #[x.conc ρ]) e (λv i=>SB ok i hr (j x (by simp)) #[t] rfl ty (by simp)) hr
  .rename_i x t o;rw[y _ o];exact OpPost.ofV (s:=Builtin.cap_ #[t] ty #[x.conc ρ]) e (λv i=>Tv ok i #[t] rfl ty (by simp)) hr
  .rename_i s x t tx o;rw[y _ o];exact OpPost.ofVH (s:=Builtin.append_ #[t,tx] ty #[s.conc ρ,x.conc ρ]) e (λv h' i=>ub ok i hr (j s (by simp)) (j x (by simp)) ty)
  .rename_i d x t T o;rw[y _ o];exact OpPost.ofVH (s:=Builtin.copy_ #[t,T] ty #[d.conc ρ,x.conc ρ]) e (λv h' i=>aP ok i hr (j d (by simp)) (j x (by simp)) #[t,T] rfl ty (by simp))
  .rename_i x l;refine OpPost.ofV (s:=Builtin.min_ cl.argTypes ty ((x::l).map (V.conc ρ)).toArray) e (λv i=>?_) hr;obtain⟨m1,m2⟩:=K0 (P:=P) (w:=w) ρ false l x v i<;>simp_all[Builtin.min_]
  .rename_i x l;refine OpPost.ofV (s:=Builtin.max_ cl.argTypes ty ((x::l).map (V.conc ρ)).toArray) e (λv i=>?_) hr;obtain⟨m1,m2⟩:=K0 (P:=P) (w:=w) ρ true l x v i<;>simp_all[Builtin.max_]
  .simp only[oA]at e;subst e;simp[OpPost,builtin]
  .rename_i x;exact OpPost.ofV (s:=Builtin.unsafeSliceData_ cl.argTypes ty #[x.conc ρ]) e (λv i=>rA i hr (j x (by simp)) _ _) hr
  .rename_i p n pt l o;exact OpPost.ofVH (s:=Builtin.unsafeString_ cl.argTypes ty #[p.conc ρ,n.conc ρ]) e (λv h' i=>rB ok i hr (j p (by simp)) _ _ (by
    simp_all))
  grind
 rename_i r name hr';split at e
 .rename_i t v i;obtain⟨I,h2⟩:=C r (by
   grind[Call.operands]) _ i
  simp only[V.In]at h2;split at e
  .rename_i f F;simp only[oA]at e;subst e;refine⟨λu L=>(oq.1 L).elim (λg=>g ▸ h2) (j u),?_⟩;have hm:=ue ok F (P.types.size+Made.depth-1) (v.conc ρ) w
   simp_all[Made.depth,resolve,V.conc,invoke,List.take_of_length_le,callMethod]
  .rename_i f el F;split at e
   .rename_i u L;simp only[oA]at e;subst e;obtain⟨hm,M⟩:=ud ok F (P.types.size+Made.depth-1) v u L hr h2;refine⟨λx O=>(oq.1 O).elim (λg=>g ▸ M) (j x),?_⟩
    simp_all[Made.depth,resolve,V.conc,invoke,List.take_of_length_le,callMethod]
   grind
  grind
 grind
theorem Kz(ok:CtxOK P c){o:Oper}{W:AN}(e:xS c o ev h=some W)(hr:HR ρ D h w)(j:∀x∈o.op.operands,∀v,ev x=some v->a x=v.conc ρ/\v.In D):
  OpPost P ρ D h w ((execOp a o).run P w) W:=by
 unfold xS at e;split at e
 case h_1 x A =>
  rw[A]at j;rcases F:ev x with _|v
  .grind[AN.ofV]
  obtain⟨C,h2⟩:=j x (by simp[Op.operands]) v F;simp only[F,AN.ofV,oA]at e;subst e;exact⟨ρ,w,by simp_all[execOp],Mv.refl _ _ _ _,by grind[zd],by grind[zd]⟩
 case h_2 x A =>
  rw[A]at j;rcases F:ev x with _|v
  .grind[AN.ofV]
  obtain⟨C,h2⟩:=j x (by simp[Op.operands]) v F;simp only[F,AN.ofV,oA]at e;subst e;exact⟨ρ,w,by simp_all[execOp],Mv.refl _ _ _ _,by grind[zd],by grind[zd]⟩
 case h_3 X x y A =>
  rw[A]at j;split at e
  .rename_i t hc;obtain⟨c1,_⟩:=j X (by simp[Op.operands]) _ hc;rw[show execOp a o=(do pure (.value (<-(do pure (if <-asBool (a X) then a x else a y):Sem Value))):Sem Next)from by simp[execOp,A]];refine OpPost.ofV e (λv r=>?_) hr;cases t<;>simp_all[Op.operands,V.conc,asBool]
  grind
 case h_4 t A =>
  split at e
  .rename_i ti E;obtain⟨i,k⟩:=ok.ty t ti E;split at e
   .rename_i z hz;obtain⟨z1,z2⟩:=qy k hz ρ w;split at e
    .rename_i b C I;simp only[oA]at e;subst e;obtain⟨ρ',L,M,m3,m4,m5⟩:=J4 hr I (V.cells_In (z2 D)) t (λu B=>Nat.succ.inj B);refine⟨ρ',_,?_,L,M,by grind[V.In]⟩
     simp_all[execOp,Instr.alloc,newVar,newRow,V.cells_conc,V.conc]
    grind
   grind
  grind
 case h_5 t x A =>
  rw[A]at j;split at e
  .rename_i v r;obtain⟨C,h2⟩:=j x (by simp[Op.operands]) v r;split at e
   .rename_i b hh I;simp only[oA]at e;subst e;obtain⟨ρ',L,M,m3,m4,m5⟩:=J4 hr I (V.cells_In h2) t (λu B=>Nat.succ.inj B);refine⟨ρ',_,?_,L,M,by grind[V.In]⟩
    simp_all[execOp,Instr.box,newVar,newRow,V.cells_conc,V.conc]
   grind
  grind
 case h_6 t ps A =>
  rw[A]at j;split at e
  .rename_i l hl;obtain⟨p1,Y⟩:=gI (a:=a) (ρ:=ρ) (D:=D) hl (λx F v r=>j x (by grind[Op.operands]) v r);have J:ps.map (λp=>(p.1,a p.2))=(l.map λp=>(p.1,p.2.conc ρ)).toArray:=by
    grind
   rw[show execOp a o=(do pure (.value (<-Instr.build t (l.map λp=>(p.1,p.2.conc ρ)).toArray)):Sem Next)from by grind[execOp]];exact OpPost.ofV e (λv r=>eF ok r Y) hr
  grind
 case h_7 t n ps A =>
  rw[A]at j;split at e
  .rename_i l hl;obtain⟨p1,Y⟩:=gI (a:=a) (ρ:=ρ) (D:=D) hl (λx F v r=>j x (by grind[Op.operands]) v r);have J:ps.map (λp=>(p.1,a p.2))=(l.map λp=>(p.1,p.2.conc ρ)).toArray:=by
    grind
   grind[execOp,OpPost.ofVH,Ji]
  grind
 case h_8 t x A =>
  rw[A]at j;split at e
  .rename_i v r;obtain⟨C,h2⟩:=j x (by simp[Op.operands]) v r;rw[show execOp a o=(do pure (.value (<-Instr.loadAt t (v.conc ρ))):Sem Next)from by grind[execOp]];exact OpPost.ofV e (λu B=>Ky ok B hr h2) hr
  grind
 case h_9 t x y A =>
  rw[A]at j;split at e
  .rename_i p v hp r;obtain⟨C,h2⟩:=j x (by simp[Op.operands]) p hp;obtain⟨h3,h4⟩:=j y (by simp[Op.operands]) v r;split at e
   .rename_i h' N;simp only[oA]at e;subst e;obtain⟨w',s1,Z,O,s4⟩:=Po ok N hr h2 h4;exact⟨w',by simp_all[execOp],O,by grind[jq]⟩
   grind
  grind
 case h_10 x A =>
  rw[A]at j;split at e
  .rename_i b q r;obtain⟨C,h2⟩:=j x (by simp[Op.operands]) _ r;simp only[oA]at e;subst e;exact⟨ρ,w,by simp_all[execOp,V.conc],Mv.refl _ _ _ _,by grind[zd],by grind[zd]⟩
  .rename_i t v r;obtain⟨C,h2⟩:=j x (by simp[Op.operands]) _ r;simp only[oA]at e;subst e;exact⟨ρ,w,by simp_all[execOp,V.conc],Mv.refl _ _ _ _,by grind[zd],by grind[zd]⟩
  .rename_i g q1 q2 r;obtain⟨C,h2⟩:=j x (by simp[Op.operands]) _ r;simp only[oA]at e;subst e;exact⟨ρ,w,by simp_all[execOp,V.conc],Mv.refl _ _ _ _,by grind[zd],by grind[zd]⟩
  .rename_i l r;obtain⟨C,h2⟩:=j x (by simp[Op.operands]) _ r;simp only[oA]at e;subst e;exact⟨ρ,w,by simp_all[execOp,V.conc],Mv.refl _ _ _ _,by grind[zd],by grind[zd]⟩
  grind
 case h_11 op t x y ty A =>
  rw[A]at j;split at e
  .rename_i u v B r;obtain⟨C,h2⟩:=j x (by simp[Op.operands]) u B;obtain⟨h3,h4⟩:=j y (by simp[Op.operands]) v r;rw[show execOp a o=(do pure (.value (<-(do eqGuard op t x y (u.conc ρ) (v.conc ρ);binOp op t (u.conc ρ) (v.conc ρ):Sem Value))):Sem Next)from by grind[execOp]];exact OpPost.ofV e (λq G=>Tu ok G h2 h4) hr
  grind
 case h_12 op t x A =>
  rw[A]at j;split at e
  .rename_i u B;obtain⟨C,h2⟩:=j x (by simp[Op.operands]) u B;rw[show execOp a o=(do pure (.value (<-Op.unary op (u.conc ρ))):Sem Next)from by grind[execOp]];exact OpPost.ofV e (λq G=>⟨(tQ G ρ).1,(tQ (P:=P) (w:=w) G ρ).2 D⟩) hr
  grind
 case h_13 s d x A =>
  rw[A]at j;split at e
  .rename_i u B;obtain⟨C,h2⟩:=j x (by simp[Op.operands]) u B<;>grind[execOp,OpPost.ofVH,aO]
  grind
 case h_14 t x A =>
  rw[A]at j;split at e
  .rename_i ti b q len cp E r;obtain⟨i,k⟩:=ok.ty t ti E;obtain⟨C,h2⟩:=j x (by simp[Op.operands]) _ r;split at e
   .rename_i n el hd;rcases hb:Nat.ble n len with _|_
    .grind
    simp only[hb,oN,oA]at e;subst e;have:=oG hb;have I:¬len<n:=dd
    exact⟨ρ,w,by simp[execOp,A,C,V.conc,Instr.arrayAt,z7 k,hd,I],Mv.refl _ _ _ _,by grind[zd],by simp_all[zd,V.In]⟩
   grind
  grind
 case h_15 t x A =>
  rw[A]at j;split at e
  .rename_i ti v E r;obtain⟨i,k⟩:=ok.ty t ti E;obtain⟨C,h2⟩:=j x (by simp[Op.operands]) _ r;split at e
   .cases e
   rename_i hd;simp only[oA]at e;subst e;refine⟨ρ,w,?_,Mv.refl _ _ _ _,by grind[zd],by grind[zd,V.In]⟩;simp only[execOp,A,C,V.conc,Instr.makeInterface,Sem.run_bind,z7 k,Result.andThen_ok]
   simp_all
  grind
 case h_16 g first captured A =>
  rw[A]at j;split at e
  .rename_i u v B r;obtain⟨a1,a2⟩:=X5 (a:=a) (ρ:=ρ) (D:=D) B (λx F v r=>j x (by grind[Op.operands]) v r);obtain⟨b1,b2⟩:=X5 (a:=a) (ρ:=ρ) (D:=D) r (λx F v r=>j x (by grind[Op.operands]) v r);simp only[oA]at e;subst e;have e1:first.map a=(u.map (V.conc ρ)).toArray:=by grind
   have e2:captured.map a=(v.map (V.conc ρ)).toArray:=by grind
   refine⟨ρ,w,?_,Mv.refl _ _ _ _,by grind[zd],by grind[zd,V.In,V.InL_iff]⟩
   simp_all[execOp,Instr.makeFunc,V.conc,V.concL_eq]
  grind
 case h_17 t l k A =>
  rw[A]at j;split at e
  .rename_i u v B r;obtain⟨C,h2⟩:=j l (by simp[Op.operands]) u B<;>grind[Op.operands,execOp,OpPost.ofVH,aV]
  grind
 case h_18 t x lo hi mx A =>
  rw[A]at j;split at e
  .rename_i v p q m r hp G hm;obtain⟨C,h2⟩:=j x (by simp[Op.operands]) v r;have e1:=rJ (a:=a) (ρ:=ρ) (D:=D) hp (λy hy v r=>j y (by grind[Op.operands]) v r);have e2:=rJ (a:=a) (ρ:=ρ) (D:=D) G (λy hy v r=>j y (by grind[Op.operands]) v r);have e3:=rJ (a:=a) (ρ:=ρ) (D:=D) hm (λy hy v r=>j y (by grind[Op.operands]) v r);rw[show execOp a o=(do pure (.value (<-Instr.sliceAt t (v.conc ρ) (p.map (V.conc ρ)) (q.map (V.conc ρ)) (m.map (V.conc ρ)))):Sem Next)from by grind[execOp]];exact OpPost.ofV e (λu B=>eM ok B hr h2) hr
  grind
 case h_19 t x f A =>
  rw[A]at j;split at e
  .rename_i ti b q E r;obtain⟨i,k⟩:=ok.ty t ti E;obtain⟨C,h2⟩:=j x (by simp[Op.operands]) _ r;split at e
   .rename_i fs hd;split at e
    .rename_i fd Q;unfold afa at e;split at e
     .rename_i R S;obtain⟨i2,k2⟩:=ok.ty _ R S;rcases hb:Nat.blt 0 R.size with _|_
      .grind
      simp only[hb,oN,oA]at e;subst e;have:=(zW _ _).1 hb;have T:¬R.size=0:=dd
      refine⟨ρ,w,?_,Mv.refl _ _ _ _,by grind[zd],by simp_all[zd,V.In]⟩;simp[execOp,A,C,V.conc,Instr.fieldAt,z7 k,hd,Q,Instr.sureAddr,fieldPlace,yJ k2,T,yK,Nat.add_assoc]
     grind
    grind
   grind
  grind
 case h_20 t x f A =>
  rw[A]at j;split at e
  .rename_i v r;obtain⟨C,h2⟩:=j x (by simp[Op.operands]) v r;rw[show execOp a o=(do pure (.value (<-Instr.field t (v.conc ρ) f)):Sem Next)from by grind[execOp]];exact OpPost.ofV e (λu B=>Ty ok B h2) hr
  grind
 case h_21 t x ix A =>
  rw[A]at j;split at e
  .rename_i u v B r;obtain⟨C,h2⟩:=j x (by simp[Op.operands]) u B;obtain⟨h3,h4⟩:=j ix (by simp[Op.operands]) v r;rw[show execOp a o=(do pure (.value (<-Instr.indexAt t (u.conc ρ) (v.conc ρ))):Sem Next)from by grind[execOp]];exact OpPost.ofV e (λq G=>SA ok G h2) hr
  grind
 case h_22 t x ix A =>
  rw[A]at j;split at e
  .rename_i u v B r;obtain⟨C,h2⟩:=j x (by simp[Op.operands]) u B;obtain⟨h3,h4⟩:=j ix (by simp[Op.operands]) v r;rw[show execOp a o=(do pure (.value (<-Instr.index t (u.conc ρ) (v.conc ρ))):Sem Next)from by grind[execOp]];exact OpPost.ofV e (λq G=>eH ok G h2) hr
  grind
 case h_23 x i A =>
  rw[A]at j;split at e
  .rename_i l r;obtain⟨C,h2⟩:=j x (by simp[Op.operands]) _ r;simp only[V.In,V.InL_iff]at h2;rw[show execOp a o=(do pure (.value (<-Instr.extract ((V.tuple l).conc ρ) i)):Sem Next)from by grind[execOp]];refine OpPost.ofV e (λu B=>⟨?_,h2 u (List.mem_of_getElem? B)⟩) hr;simp[Instr.extract,SR,B]
  grind
 case h_24 cl A =>
  grind[execOp,aN,Op.operands]
 case h_25 x A =>
  rw[A]at j;split at e
  .rename_i t v r;obtain⟨C,h2⟩:=j x (by simp[Op.operands]) _ r;simp only[oA]at e;subst e;exact⟨rfl,h2,by simp_all[execOp,V.conc,Instr.panic]⟩
  grind
 case h_26 cl A =>
  rw[A]at j;split at e
  .rename_i args f H hf;obtain⟨a1,a2⟩:=X5 (a:=a) (ρ:=ρ) (D:=D) H (λx F v r=>j x (by
    grind[Op.operands,Call.operands]) v r)
   split at e
   .rename_i g first captured r
    obtain⟨C,h2⟩:=j f (by grind[Op.operands,Call.operands]) _ r;simp only[V.In,V.InL_iff]at h2;simp only[oA]at e;subst e;have K:cl.args.map a=(args.map (V.conc ρ)).toArray:=by grind
    refine⟨⟨h2.2.2,λv r=>(List.mem_append.1 r).elim (h2.2.1 v) (a2 v)⟩,?_⟩
    simp_all[execOp,resolve,V.conc,V.concL_eq,Deferred.ofValue,AD.conc]
   grind
  grind
 case h_27 t A =>
  rw[show execOp a o=(do pure (.value (<-Instr.makeMap t none)):Sem Next)from by grind[execOp]];exact OpPost.ofVH e (λu h' B=>uf B hr t)
 case h_28 x xt t okf A =>
  rw[A]at j;split at e
  .rename_i v r;obtain⟨C,h2⟩:=j x (by simp[Op.operands]) v r;rw[show execOp a o=(do pure (.value (<-Instr.typeAssert (v.conc ρ) xt t okf)):Sem Next)from by grind[execOp]];exact OpPost.ofV e (λu B=>aZ ok B h2) hr
  grind
 case h_29 t x k okf A =>
  rw[A]at j;split at e
  .rename_i m kv hm U;obtain⟨C,h2⟩:=j x (by simp[Op.operands]) _ hm;obtain⟨h3,h4⟩:=j k (by simp[Op.operands]) _ U;rw[show execOp a o=(do pure (.value (<-Instr.lookup t (m.conc ρ) (kv.conc ρ) okf)):Sem Next)from by grind[execOp]];exact OpPost.ofV e (λu B=>aU ok B hr h2 h4) hr
  grind
 case h_30 t x k y A =>
  rw[A]at j;split at e
  .rename_i m kv v hm U r;obtain⟨C,h2⟩:=j x (by simp[Op.operands]) _ hm;obtain⟨h3,h4⟩:=j k (by simp[Op.operands]) _ U;obtain⟨h5,h6⟩:=j y (by simp[Op.operands]) _ r;split at e
   .rename_i h' B;simp only[oA]at e;subst e;obtain⟨w',s1,Z,O⟩:=SG ok B hr h2 h4 h6;exact⟨w',by simp_all[execOp],Z,O⟩
   grind
  grind
 grind
end
end Go.Sim
