/- G. No condition. -/
import Derived.Test.YtnpeieeomokomaaGreatZC
import Derived.Lib.Builder
import Derived.Lib.UnsafeStr
import Derived.Laws.Externs
namespace Go.Sim
section
variable {P:Program}{c:Ctx}{ρ:Env}{D:Nat->Prop}
theorem xc (ok:CtxOK P c) {t:TypeId}{ti:TI}(h:c.ty.get t=some ti) (hs:OK ti.desc=true) (b:Bool) (n:Nat) (v:Value) (w:World):(Instr.checkKey b (n+1) t v).run P w = .ok () w:=by
 obtain⟨i,k⟩:=ok.ty t ti h;have hu:=k.und;cases hd:ti.desc<;>rw[hd]at hs hu<;>first|(simp[OK]at hs;done)|(simp[Instr.checkKey,underlying,hu])
theorem zEP (ok:CtxOK P c) {t:TypeId}{v:V}(h:Ke c t v=true) (hv:v.In D) (b:Bool) (m:Nat) (w:World):(Instr.checkKey b (m+2) t (v.conc ρ)).run P w = .ok () w:=by
 unfold Ke at h;split at h
 ·cases h
 ·rename_i ti hti
  obtain⟨i,k⟩:=ok.ty t ti hti;have hu:=k.und;split at h
  ·rename_i hd;exact xc ok hti (by rw[hd];rfl) b (m+1) _ w
  ·rename_i hd;exact xc ok hti (by rw[hd];rfl) b (m+1) _ w
  ·rename_i hd;exact xc ok hti (by rw[hd];rfl) b (m+1) _ w
  ·rename_i fs xs hd
   rw[hd]at hu;simp only[V.In,V.InL_iff]at hv;rw[Instr.checkKey];simp only[V.conc,V.concL_eq,Sem.run_bind,run_underlying hu,Result.andThen_ok];have hgo:∀l,zIl c xs l=true->(forIn (m:=Sem) l PUnit.unit λf __s =>
      if f.name ≠ "_" then do
       Instr.checkKey b (m+1) f.type (<-part f.type (xs.map (V.conc ρ)).toArray f.offset)
       pure (ForInStep.yield PUnit.unit)
      else pure (ForInStep.yield PUnit.unit)).run P w = .ok PUnit.unit w:=by
    intro l
    induction l with
    | nil=>intro _;simp
    | cons f fs ih =>
     intro hk;simp only[zIl,oG]at hk;rw[List.forIn_cons];have hone:(if f.name ≠ "_" then do
       Instr.checkKey b (m+1) f.type (<-part f.type (xs.map (V.conc ρ)).toArray f.offset)
       pure (ForInStep.yield PUnit.unit)
      else pure (ForInStep.yield PUnit.unit):Sem (ForInStep PUnit)).run P w = .ok (ForInStep.yield PUnit.unit) w:=by
      split
      ·have hk1:=hk.1
       split at hk1
       ·rename_i tf htf
        simp only[oG]at hk1;have hk2:=hk1.2;split at hk2
        ·rename_i y hy
         obtain⟨p1,_⟩:=xV (ρ:=ρ) ok htf hy hv w;simp only[Sem.run_bind,p1,Result.andThen_ok,xc ok htf hk1.1,Sem.run_pure]
        ·cases hk2
       ·cases hk1
      ·simp
     rw[Sem.run_bind,hone];simpa using ih hk.2
   rw[<-Array.forIn_toList,hgo _ h];simp
  ·rename_i n e xs hd
   rw[hd]at hu;simp only[V.In,V.InL_iff]at hv;rw[Instr.checkKey];simp only[V.conc,V.concL_eq,Sem.run_bind,run_underlying hu,Result.andThen_ok];split at h
   ·rename_i te hte
    obtain⟨i2,k2⟩:=ok.ty e te hte;simp only[oG]at h;have hsz:∀w,(sizeOf e).run P w = .ok te.size w:=λw=>by simp[sizeOf,Zn k2,k2.size]
    have hgo:∀n i,zIk te xs n i=true->(forIn (m:=Sem) (List.range' i n) PUnit.unit λi __s=>do
       let __do_lift <-sizeOf e
       let __do_lift <-part e (xs.map (V.conc ρ)).toArray (i*__do_lift)
       Instr.checkKey b (m+1) e __do_lift
       pure (ForInStep.yield PUnit.unit)).run P w = .ok PUnit.unit w:=by
     intro n
     induction n with
     | zero=>intro i _;simp
     | succ n ih =>
      intro i hk;simp only[zIk,oG]at hk;rw[List.range'_succ,List.forIn_cons];have hk1:=hk.1;split at hk1
      ·rename_i y hy
       obtain⟨p1,_⟩:=xV (ρ:=ρ) ok hte hy hv w;simp only[Sem.run_bind,hsz,p1,Result.andThen_ok,xc ok hte h.1,Sem.run_pure];exact ih (i+1) hk.2
      ·cases hk1
    rw[Std.Legacy.Range.forIn_eq_forIn_range'];have:=hgo n 0 h.2;simp only[Std.Legacy.Range.size,Nat.sub_zero,Nat.add_sub_cancel,Nat.div_one];rw[this];simp
   ·cases h
  ·cases h
theorem OT (ok:CtxOK P c) {t:TypeId}{v:V}(h:Ke c t v=true) (hv:v.In D) (b:Bool) (w:World):(Instr.checkKey b 10000 t (v.conc ρ)).run P w = .ok () w :=
 zEP ok h hv b 9998 w
theorem zA3 {d:Nat}{t:TypeId}{ti:TI}(hti:c.ty.get t=some ti) {x y:V}{r b:Bool}(e:aeq c (d+1) t x y=some r) (h:Instr.sameNow ti.desc (x.conc ρ) (y.conc ρ)=some b):b=r:=by
 rw[aeq]at e;simp only[hti]at e;unfold Instr.sameNow at h;split at h
 ·rename_i k1 k a k' a' hd hx hy
  cases x<;>simp only[V.conc]at hx<;>first|(cases hx;done)|skip
  cases y<;>simp only[V.conc]at hy<;>first|(cases hy;done)|skip
  simp only[Value.int.injEq]at hx hy;obtain⟨rfl,rfl⟩:=hx;obtain⟨rfl,rfl⟩:=hy;rw[hd]at e;simp only[eq1]at e;rename_i k n k' n';cases hk:wa k k' with
  | false=>simp[hk]at e
  | true =>
   simp only[hk,oK,oA]at e;rw[jO]at e;split at h
   ·simp only[oA]at h
    rw[<-e,<-h]
   ·cases h
 ·rename_i a a' hd hx hy
  cases x<;>simp only[V.conc]at hx<;>first|(cases hx;done)|skip
  cases y<;>simp only[V.conc]at hy<;>first|(cases hy;done)|skip
  rw[hd]at e;simp only[eq1,oA]at e;simp only[oA]at h;simp only[Value.string.injEq]at hx hy;rw[<-e,<-h,<-hx,<-hy,Yr];have hb:∀l l':List UInt8,((⟨l.toArray⟩:ByteArray) == ⟨l'.toArray⟩)=(l.toArray == l'.toArray):=λ_ _=>rfl
  rw[hb];simp
 ·rename_i a a' hd hx hy
  cases x<;>simp only[V.conc]at hx<;>first|(cases hx;done)|skip
  cases y<;>simp only[V.conc]at hy<;>first|(cases hy;done)|skip
  rw[hd]at e;simp only[eq1,oA]at e;simp only[oA]at h;simp only[Value.bool.injEq]at hx hy;rw[<-e,<-h,hx,hy]
 ·cases h
theorem zBZ {t:TypeId}{ti:TI}(hti:c.ty.get t=some ti) {x y:V}{r b:Bool}(e:aeq c 30 t x y=some r) (h:Instr.sameNow ti.desc (x.conc ρ) (y.conc ρ)=some b):b=r :=
 zA3 (d:=29) hti e h
def ke (ρ:Env) (r:Option (Nat×Ent)):Option (Nat×Value):=r.map λp=>(p.1,p.2.val.conc ρ)
theorem zBP {t:TypeId}{ti:TI}(hti:c.ty.get t=some ti) {k:V}:∀(es:List Ent) (i:Nat) (r:Option (Nat×Ent)) (b:Option (Nat×Value)),wj c t k es i=some r ->
  Instr.findNow ti.desc (k.conc ρ) (es.map (Ent.conc ρ)) i=some b->b=ke ρ r:=by
 intro es
 induction es with
 | nil =>
  intro i r b e h;simp only[wj,oA]at e;simp only[List.map_nil,Instr.findNow,oA]at h;subst e;subst h;rfl
 | cons a es ih =>
  intro i r b e h;simp only[wj]at e;simp only[List.map_cons,Instr.findNow]at h;cases hs:Instr.sameNow ti.desc (k.conc ρ) (a.conc ρ).key with
  | none=>simp[hs]at h
  | some q =>
   simp only[hs]at h;cases hq:aeq c 30 t k a.key with
   | none=>simp[hq]at e
   | some r' =>
    have:=zBZ (ρ:=ρ) hti hq hs;subst this;simp only[hq]at e;cases q with
    | true =>
     simp only[oA]at e h;subst e;subst h;rfl
    | false=>exact ih (i+1) r b e h
theorem J4 (ok:CtxOK P c) {t:TypeId}{k:V}(hk:k.In D):∀(es:List Ent) (i:Nat) (r:Option (Nat×Ent)),wj c t k es i=some r->(∀e∈es,e.key.In D/\e.val.In D)->∀w:World,
  (Instr.findAsking t (k.conc ρ) (es.map (Ent.conc ρ)) i).run P w = .ok (ke ρ r) w:=by
 intro es
 induction es with
 | nil =>
  intro i r e _ w;simp only[wj,oA]at e;subst e;simp[Instr.findAsking,ke]
 | cons a es ih =>
  intro i r e hes w;simp only[wj]at e;simp only[List.map_cons,Instr.findAsking];cases hq:aeq c 30 t k a.key with
  | none=>simp[hq]at e
  | some q =>
   have h1:(Op.equal t (k.conc ρ) (a.conc ρ).key).run P w = .ok q w:=by
    unfold Op.equal;exact zB5 ok 30 t k a.key q hq hk (hes a (List.mem_cons_self ..)).1 Op.maxDepth w (by simp[Op.maxDepth])
   simp only[hq]at e;cases q with
   | true =>
    simp only[oA]at e;subst e;simp only[Sem.run_bind,h1,Result.andThen_ok,if_true,Sem.run_pure];rfl
   | false =>
    simp only[Sem.run_bind,h1,Result.andThen_ok,Bool.false_eq_true,if_false];exact ih (i+1) r e (λe he=>hes e (oH _ he)) w
theorem jY (ok:CtxOK P c) {t:TypeId}{ti:TI}(hti:c.ty.get t=some ti) {k:V}(hk:k.In D) {es:List Ent}{r:Option (Nat×Ent)}(e:wj c t k es 0=some r) (hes:∀e∈es,e.key.In D/\e.val.In D) (w:World) :
  (Instr.findKey t (k.conc ρ) (es.map (Ent.conc ρ))).run P w = .ok (ke ρ r) w:=by
 obtain⟨i,kk⟩:=ok.ty t ti hti;simp only[Instr.findKey,Sem.run_bind,run_underlying kk.und,Result.andThen_ok];cases hf:Instr.findNow ti.desc (k.conc ρ) (es.map (Ent.conc ρ)) 0 with
 | some b=>simp[zBP hti es 0 r b e hf]
 | none=>exact J4 ok hk es 0 r e hes w
end
section
variable {P:Program}{c:Ctx}{ρ:Env}{D:Nat->Prop}{h:H}{w:World}
theorem zB6 {t:TypeId}{k:V}:∀(es:List Ent) (i:Nat) (j:Nat) (e:Ent),wj c t k es i=some (some (j,e))->i<=j/\es[j-i]? = some e:=by
 intro es
 induction es with
 | nil=>intro i j e h;simp[wj]at h
 | cons a es ih =>
  intro i j e h;simp only[wj]at h;cases hq:aeq c 30 t k a.key with
  | none=>simp[hq]at h
  | some q =>
   simp only[hq]at h;cases q with
   | true =>
    simp only[oA,oB]at h;obtain⟨rfl,rfl⟩:=h;simp
   | false =>
    obtain⟨h1,h2⟩:=ih (i+1) j e h;refine⟨by omega,?_⟩;obtain⟨d,hd⟩:∃d,j-i=d+1:=⟨j-i-1,by omega⟩;rw[hd,List.getElem?_cons_succ,show d=j-(i+1)from by omega];exact h2
theorem kM (o b:Bool) (v:V):(Z8 o v b).conc ρ=if o then .tuple #[v.conc ρ,.bool b] else v.conc ρ:=by
 cases o<;>simp[Z8,V.conc,V.concL]
theorem Z9 {o b:Bool}{v:V}(hv:v.In D):(Z8 o v b).In D:=by
 cases o<;>simp[Z8,V.In,V.InL,hv]
theorem zER (ok:CtxOK P c) {t:TypeId}{m k v:V}{o:Bool}(e:ZH c t h m k o=some v) (hr:HR ρ D h w) (hm:m.In D) (hk:k.In D) :
  (Instr.lookup t (m.conc ρ) (k.conc ρ) o).run P w = .ok (v.conc ρ) w/\v.In D:=by
 unfold ZH at e;split at e
 ·rename_i ti hti
  obtain⟨i,kk⟩:=ok.ty t ti hti;have hu:=kk.und;split at e
  ·rename_i kt et hd
   rw[hd]at hu;have key:∀es,Kw c kt et es k o=some v->(∀e∈es,e.key.In D/\e.val.In D) ->
     (do
      Instr.checkKey (es.map (Ent.conc ρ)).toArray.isEmpty 10000 kt (k.conc ρ)
      let (v,ok) <-match <-Instr.findKey kt (k.conc ρ) (es.map (Ent.conc ρ)).toArray.toList with
       | some (_,v)=>pure (v,true)
       | none=>pure (<-zeroValue et,false)
      pure (if o then Value.tuple #[v,.bool ok] else v):Sem Value).run P w = .ok (v.conc ρ) w/\v.In D:=by
    intro es e hes;unfold Kw at e;cases ha:Ke c kt k with
    | false=>simp[ha]at e
    | true =>
     simp only[ha,oK]at e;have hkt:∃tk,c.ty.get kt=some tk:=by
      unfold Ke at ha;split at ha
      ·cases ha
      ·rename_i tk h;exact⟨tk,h⟩
     obtain⟨tk,hkt⟩:=hkt;have hck:=OT (ρ:=ρ) ok ha hk (es.map (Ent.conc ρ)).toArray.isEmpty w;split at e
     ·rename_i j en hf
      simp only[oA]at e;subst e;have hfk:=jY (ρ:=ρ) ok hkt hk hf hes w;have hen:=hes en (List.mem_of_getElem? (zB6 es 0 j en hf).2);simp only[Sem.run_bind,hck,Result.andThen_ok,hfk,ke,oZ,Sem.run_pure,kM];exact⟨trivial,Z9 hen.2⟩
     ·rename_i hf
      have hfk:=jY (ρ:=ρ) ok hkt hk hf hes w;split at e
      ·rename_i te hte
       obtain⟨i2,k2⟩:=ok.ty et te hte;split at e
       ·rename_i z hz
        simp only[oA]at e;subst e;obtain⟨z1,z2⟩:=kU k2 hz ρ w;simp only[Sem.run_bind,hck,Result.andThen_ok,hfk,ke,Option.map_none,Sem.run_pure,z1,kM];exact⟨trivial,Z9 (z2 D)⟩
       ·cases e
      ·cases e
     ·cases e
   split at e
   ·rename_i es hes
    unfold zNj at hes;split at hes
    ·simp only[oA]at hes;subst hes
     have:=key [] e (λ_ h=>by cases h);simp only[List.map_nil,Sem.run_bind]at this;simp only[Instr.lookup,V.conc,Sem.run_bind,run_underlying hu,Result.andThen_ok,Sem.run_pure];exact this
    ·rename_i r
     split at hes
     ·rename_i es' clock hg
      simp only[oA]at hes;subst hes;simp only[V.In]at hm;obtain⟨g1,g2⟩:=hr.rel r _ hm hg;have:=key es' e g2;simp only[Sem.run_bind]at this;have hgo:(getObj (ρ.blk r)).run P w = .ok (.map (es'.map (Ent.conc ρ)).toArray clock) w:=by simp[getObj,Sem.run,g1]
      simp only[Instr.lookup,V.conc,Sem.run_bind,run_underlying hu,Result.andThen_ok,Sem.run_pure,hgo];exact this
     ·cases hes
    ·cases hes
   ·cases e
  ·cases e
 ·cases e
theorem zLM:∀(es:List Ent) (i:Nat) (k v:V),((Jt es i k v).map (Ent.conc ρ)).toArray=(es.map (Ent.conc ρ)).toArray.modify i (λe=>{ e with key:=k.conc ρ,val:=v.conc ρ }):=by
 intro es i k v;apply Array.ext';rw[Array.toList_modify]
 induction es generalizing i with
 | nil=>simp[Jt]
 | cons a es ih =>
  cases i with
  | zero=>simp[Jt,Ent.conc]
  | succ i=>simpa [Jt]using ih i
theorem zPP:∀(es:List Ent) (i:Nat) (k v:V),(∀e∈es,e.key.In D/\e.val.In D)->k.In D->v.In D->∀e∈Jt es i k v,e.key.In D/\e.val.In D:=by
 intro es
 induction es with
 | nil=>intro i k v _ _ _ e he;simp[Jt]at he
 | cons a es ih =>
  intro i k v hes hk hv e he;cases i with
  | zero =>
   rcases od.1 he with rfl|he
   ·exact⟨hk,hv⟩
   ·exact hes e (oH _ he)
  | succ i =>
   rcases od.1 he with rfl|he
   ·exact hes _ (List.mem_cons_self ..)
   ·exact ih i k v (λe h=>hes e (oH _ h)) hk hv e he
theorem zBI {v:V}{h':H}(e:Ky h=some (v,h')) (hr:HR ρ D h w) (t:TypeId):∃ρ' w',(Instr.makeMap t none).run P w = .ok (v.conc ρ') w'/\Mv ρ D h w ρ' h' w'/\HR ρ' (Dx D h h') h' w'/\v.In (Dx D h h'):=by
 unfold Ky at e;cases hb:Nat.blt h.nx T.top with
 | false=>simp[hb]at e
 | true =>
  simp only[hb,oK,oA,oB]at e;obtain⟨rfl,rfl⟩:=e;have hlt:=(zY _ _).1 hb;have hx:ORel (ρ.at h.nx w.heap.size 0) (Dx D h (h.new (.map [] 0))) h.nx (.map [] 0) (some (.map #[] 0)):=⟨by simp,λ_ h=>by cases h⟩
  refine⟨ρ.at h.nx w.heap.size 0,w.alloc (.map #[] 0),?_,Mv.new hr 0 hlt rfl,hr.new 0 hlt hx,by simp only[V.In];exact .inr ⟨oP _,oc _⟩⟩;simp[Instr.makeMap,V.conc]
theorem JA {a b:V}(h:zDf a b=true) (n:Nat):Instr.sameBits n (a.conc ρ) (b.conc ρ)=true:=by
 unfold zDf at h;split at h
 ·cases n<;>simpa [Instr.sameBits,V.conc]using h
 ·simp only[oG]at h
  obtain rfl:=(Yz _ _).1 h.1;rw[jO]at h;cases n<;>simpa [Instr.sameBits,V.conc]using h.2
 ·rename_i a b
  rw[Yr]at h;have:=eq_of_beq h;subst this;have hb:∀x:ByteArray,(x == x)=true:=λx=>by show(x.data == x.data)=true;simp
  cases n<;>simp[Instr.sameBits,V.conc,hb]
 ·cases h
theorem zDg:∀{l m:List V},Jq l m=true->∀n,l.length=m.length/\((l.map (V.conc ρ)).zip (m.map (V.conc ρ))).all (λ(x,y)=>Instr.sameBits n x y)=true:=by
 intro l
 induction l with
 | nil=>intro m h n;cases m<;>simp_all [Jq]
 | cons a l ih =>
  intro m h n;cases m with
  | nil=>simp[Jq]at h
  | cons b m =>
   simp only[Jq,oG]at h;obtain⟨h1,h2⟩:=ih h.2 n;refine⟨by simp[h1],?_⟩;simp only[List.map_cons,List.zip_cons_cons,List.all_cons,oG];exact⟨JA h.1 n,h2⟩
theorem zGA {a b:V}(h:KX a b=true) (n:Nat):Instr.sameBits (n+1) (a.conc ρ) (b.conc ρ)=true:=by
 unfold KX at h;split at h
 ·obtain⟨h1,h2⟩:=zDg (ρ:=ρ) h n
  simp only[V.conc,V.concL_eq,Instr.sameBits,oG];exact⟨by simp[h1],h2⟩
 ·exact JA h _
theorem zAG {a b:V}(h:KX a b=true) (w:World):(Instr.keyThatStays (a.conc ρ) (b.conc ρ)).run P w = .ok (b.conc ρ) w:=by
 have:=zGA (ρ:=ρ) h 9999;unfold Instr.keyThatStays;rw[if_pos this];rfl
theorem zGf (ok:CtxOK P c) {t:TypeId}{m k v:V}{h':H}(e:Kg c t h m k v=some h') (hr:HR ρ D h w) (hm:m.In D) (hk:k.In D) (hv:v.In D) :
  ∃w',(Instr.mapUpdate t (m.conc ρ) (k.conc ρ) (v.conc ρ)).run P w = .ok () w'/\Mv ρ D h w ρ h' w'/\HR ρ (Dx D h h') h' w':=by
 unfold Kg at e;split at e
 ·rename_i ti hti
  obtain⟨i,kk⟩:=ok.ty t ti hti;have hu:=kk.und;split at e
  ·rename_i kt et r hd
   rw[hd]at hu;simp only[V.In]at hm;split at e
   ·rename_i es clock hg
    cases ha:Ke c kt k with
    | false=>simp[ha]at e
    | true =>
     simp only[ha,oK]at e;obtain⟨g1,g2⟩:=hr.rel r _ hm hg;have hkt:∃tk,c.ty.get kt=some tk:=by
      unfold Ke at ha;split at ha
      ·cases ha
      ·rename_i tk h;exact⟨tk,h⟩
     obtain⟨tk,hkt⟩:=hkt;have hck:=OT (ρ:=ρ) ok ha hk false w;have hgo:(getObj (ρ.blk r)).run P w = .ok (.map (es.map (Ent.conc ρ)).toArray clock) w:=by simp[getObj,Sem.run,g1]
     have hso:∀o,(setObj (ρ.blk r) o).run P w = .ok () (w.putObj (ρ.blk r) o):=λo=>by simp[setObj,Sem.run,g1,World.putObj]
     have fin:∀(es':List Ent) (clock':Nat),(∀e∈es',e.key.In D/\e.val.In D)->h'=h.upd r (some (.map es' clock')) ->
       Mv ρ D h w ρ h' (w.putObj (ρ.blk r) (.map (es'.map (Ent.conc ρ)).toArray clock'))/\HR ρ (Dx D h h') h' (w.putObj (ρ.blk r) (.map (es'.map (Ent.conc ρ)).toArray clock')):=by
      intro es' clock' hes' he;subst he;refine⟨Mv.upd hr hm hg rfl rfl,?_⟩;rw[wu (xI _ _ _)];exact hr.upd hm hg rfl rfl ⟨rfl,hes'⟩
     split at e
     ·rename_i j en hf
      cases hs:KX en.key k with
      | false=>simp[hs]at e
      | true =>
       simp only[hs,oK,oA]at e;have hfk:=jY (ρ:=ρ) ok hkt hk hf g2 w;have hmem:=(zB6 es 0 j en hf).2;obtain⟨f1,f2⟩:=fin _ _ (zPP es j k v g2 hk hv) e.symm;refine⟨_,?_,f1,f2⟩;have hold:((((es.map (Ent.conc ρ)).toArray[j]?).map (·.key)).getD (k.conc ρ))=en.key.conc ρ:=by
        rw[Nat.sub_zero]at hmem;simp[hmem,Ent.conc]
       simp only[V.conc,Instr.mapUpdate,Sem.run_bind,run_underlying hu,Result.andThen_ok,hgo,hck,hfk,ke,oZ,hold,zAG hs,hso,zLM]
     ·rename_i hf
      simp only[oA]at e;have hfk:=jY (ρ:=ρ) ok hkt hk hf g2 w;obtain⟨f1,f2⟩:=fin (es++[⟨k,v,clock⟩]) (clock+1) (λe he=>by
       rcases List.mem_append.1 he with q|q
       ·exact g2 e q
       ·rw[List.mem_singleton.1 q];exact⟨hk,hv⟩) e.symm
      refine⟨_,?_,f1,f2⟩;have harr:((es++[(⟨k,v,clock⟩:Ent)]).map (Ent.conc ρ)).toArray=(es.map (Ent.conc ρ)).toArray.push { key:=k.conc ρ,val:=v.conc ρ,born:=clock }:=by simp[Ent.conc]
      simp only[V.conc,Instr.mapUpdate,Sem.run_bind,run_underlying hu,Result.andThen_ok,hgo,hck,hfk,ke,Option.map_none,hso,harr]
     ·cases e
   ·cases e
  ·cases e
 ·cases e
end
end Go.Sim
namespace Go.Sim
section
variable {P:Program}{c:Ctx}{ρ:Env}{D:Nat->Prop}{w:World}
theorem zEU (ok:CtxOK P c) {t xt:TypeId}{x v:V}{o:Bool}(e:zLz c t x o=some v) (hx:x.In D):(Instr.typeAssert (x.conc ρ) xt t o).run P w = .ok (v.conc ρ) w/\v.In D:=by
 unfold zLz at e;split at e
 ·cases e
 ·rename_i ti hti
  obtain⟨i,kk⟩:=ok.ty t ti hti;have hu:=kk.und;split at e
  ·cases e
  ·rename_i d y hnot
   simp only[V.In]at hx;cases hb:Nat.beq d t with
   | true =>
    have hdt:=oF hb;subst hdt;simp only[hb,oK,oA]at e;subst e;refine⟨?_,Z9 hx⟩;cases hd:ti.desc<;>rw[hd]at hu<;>first|(exact absurd hd (hnot _))|simp[Instr.typeAssert,run_underlying hu,V.conc,kM]
   | false =>
    have hne:¬d=t:=λh=>by rw[h]at hb;simp at hb
    simp only[hb,oM]at e;cases o with
    | false=>simp at e
    | true =>
     simp only[oK]at e;split at e
     ·rename_i z hz
      simp only[oA]at e;subst e;obtain⟨z1,z2⟩:=kU kk hz ρ w;refine⟨?_,Z9 (z2 D)⟩;cases hd:ti.desc<;>rw[hd]at hu<;>first|(exact absurd hd (hnot _))|simp[Instr.typeAssert,run_underlying hu,V.conc,hne,z1,kM]
     ·cases e
  ·rename_i hnot
   cases o with
   | false=>simp at e
   | true =>
    simp only[oK]at e;split at e
    ·rename_i z hz
     simp only[oA]at e;subst e;obtain⟨z1,z2⟩:=kU kk hz ρ w;refine⟨?_,Z9 (z2 D)⟩;cases hd:ti.desc<;>rw[hd]at hu<;>first|(exact absurd hd (hnot _))|simp[Instr.typeAssert,run_underlying hu,V.conc,z1,kM]
    ·cases e
  ·cases e
theorem zFC (name:String):∀l:List Method,zIe name l=l.find? (λm=>m.name == name):=by
 intro l
 induction l with
 | nil=>rfl
 | cons m l ih =>
  simp only[zIe,List.find?_cons];cases m.name == name<;>simp[ih]
theorem zBH (ok:CtxOK P c) {t:TypeId}{name:String}{f:Nat}(e:YB c t name=some (f,none)) (n:Nat) (v:Value) (w:World):(method (n+1) t v name).run P w = .ok (f,v) w:=by
 unfold YB at e;split at e
 ·cases e
 ·rename_i ti hti
  obtain⟨i,kk⟩:=ok.ty t ti hti;split at e
  ·cases e
  ·rename_i m hm
   split at e
   ·rename_i f' pr hp hf
    cases hb:(zRc ti.desc == pr)with
    | false =>
     simp only[hb,oM]at e;split at e<;>simp at e
    | true =>
     simp only[hb,oK,oA,oB,and_true]at e;subst e;have hu:=kk.und;rw[zFC,<-kk.meth]at hm;have hfind:i.methods.find? (λm=>m.name == name)=some m:=by
      rw[<-hm];simp
     have hpath:m.path = #[]:=by
      apply Array.ext';simpa using hp
     have hti2:(typeInfo t).run P w = .ok i w:=by simp[typeInfo,kk.info]
     rw[method];simp only[Sem.run_bind,hti2,Result.andThen_ok,hfind,hpath,hf,follow,Sem.run_pure];have hrec:∀o,(receiverAt t (Place.val v) pr o).run P w = .ok v w:=by
      intro o;unfold receiverAt;simp only[Sem.run_bind,run_underlying hu,Result.andThen_ok];cases hd:ti.desc<;>cases pr<;>rw[hd]at hb<;>first
       | (simp[zRc]at hb;done)
       | simp[Place.get]
     simp[hrec]
   ·cases e
theorem zBG (ok:CtxOK P c) {t:TypeId}{name:String}{f el:Nat}(e:YB c t name=some (f,some el)) (n:Nat) (v u:V) {h:H}(hu':zK c el h v=some u) (hr:HR ρ D h w) (hv:v.In D) :
  (method (n+1) t (v.conc ρ) name).run P w = .ok (f,u.conc ρ) w/\u.In D:=by
 obtain⟨hl,huD⟩:=JQ ok hu' hr hv;refine⟨?_,huD⟩;unfold YB at e;split at e
 ·cases e
 ·rename_i ti hti
  obtain⟨i,kk⟩:=ok.ty t ti hti;split at e
  ·cases e
  ·rename_i m hm
   split at e
   ·rename_i f' pr hp hf
    cases hb:(zRc ti.desc == pr)with
    | true=>simp[hb]at e
    | false =>
     simp only[hb,oM]at e;split at e
     ·rename_i el' he
      simp only[oA,oB]at e;obtain⟨rfl,rfl⟩:=e;have hu:=kk.und;have hd:ti.desc = .pointer el':=by
       cases hdd:ti.desc<;>rw[hdd]at he<;>simp[zU9]at he;rw[he]
      rw[hd]at hu;rw[zFC,<-kk.meth]at hm;have hfind:i.methods.find? (λm=>m.name == name)=some m:=by
       rw[<-hm];simp
      have hpath:m.path = #[]:=by
       apply Array.ext';simpa using hp
      have hti2:(typeInfo t).run P w = .ok i w:=by simp[typeInfo,kk.info]
      cases v<;>first|(simp[zK]at hu';done)|skip
      rename_i b o;have hload:(loadVar el' ⟨ρ.blk b,ρ.off b+o,none⟩).run P w = .ok (u.conc ρ) w:=by
       have:=hl;simp only[V.conc,Instr.loadAt,Instr.sureAddr,Sem.run_bind,Sem.run_pure,Result.andThen_ok]at this;exact this
      rw[method];simp only[Sem.run_bind,hti2,Result.andThen_ok,hfind,hpath,hf,follow,Sem.run_pure];have hchk:∀(a b:Value) (x:Addr),∀s1 s2:ByteArray,(Builtin.ssaWrapNilChk_ #[t] t #[.pointer (some x),.string s1,.string s2]).run P w = .ok (.pointer (some x)) w:=λ_ _ _ _ _=>rfl
      have hrec:∀o',(receiverAt t (Place.val (V.conc ρ (.ptr b o))) false o').run P w = .ok (u.conc ρ) w:=by
       intro o';unfold receiverAt;simp only[Sem.run_bind,run_underlying hu,Result.andThen_ok,Place.get,V.conc,Sem.run_pure];cases o' with
       | none=>simp[asAddr,hload]
       | some nm =>
        simp only[strVal,hchk (.bool true) (.bool true),Sem.run_bind,Result.andThen_ok];simp[asAddr,hload]
      simp[hrec]
     ·cases e
   ·cases e
end
end Go.Sim
namespace Go.Sim
section
variable {P:Program}{c:Ctx}{ρ:Env}{D:Nat->Prop}{h:H}{w:World}
theorem zBN (f:Value->ByteArray->Sem (ForInStep ByteArray)) (hf:∀(n:Int) (s:ByteArray) (w:World),(f (.int .u8 n) s).run P w = .ok (.yield (s.push (UInt8.ofNat n.toNat))) w) :
  ∀{l:List V}{y:List UInt8},xZ l=some y->∀(s:ByteArray) (w:World),(forIn (m:=Sem) ((l.map (V.conc ρ))) s f).run P w = .ok ⟨s.data++y.toArray⟩ w:=by
 intro l
 induction l with
 | nil=>intro y e s w;simp only[xZ,oA]at e;subst e;simp
 | cons v l ih =>
  intro y e s w;cases v with
  | int k n =>
   cases k<;>simp only[xZ]at e<;>try (cases e;done)
   cases hb:xZ l with
   | none=>simp[hb]at e
   | some q =>
    simp only[hb,oA]at e;subst e;simp only[List.map_cons,V.conc,List.forIn_cons,Sem.run_bind,hf,Result.andThen_ok];rw[ih hb]
    congr 2
    apply Array.ext';simp[ByteArray.push]
  | _=>simp[xZ]at e
theorem yY (l:List UInt8):yI l=l.map λb=>V.int .u8 (b.toNat:Int):=by
 induction l with
 | nil=>rfl
 | cons b l ih=>simp[yI,ih]
theorem jk (l:List UInt8):∀v∈yI l,v.In D:=by
 intro v hv;rw[yY]at hv;obtain⟨b,_,rfl⟩:=List.mem_map.1 hv;simp[V.In]
theorem Xm {r:Option Cs}{esz:Rk}{op:Bool}{b:Nat}{h':H}(e:qV h r esz op=some (b,h')) :
  h.nx<T.top/\∃cs,r=some cs/\b=h.nx/\h'=h.new (.cells cs esz true op):=by
 unfold qV at e;cases h1:Nat.blt h.nx T.top with
 | false=>simp[h1]at e
 | true =>
  cases r with
  | none=>simp[h1]at e
  | some cs =>
   simp only[h1,oK,oA,oB]at e;exact⟨(zY _ _).1 h1,cs,rfl,e.1.symm,e.2.symm⟩
theorem zLw {l:List V}{esz:Rk}{op:Bool}{b:Nat}{h':H}(e:ZV h l esz op=some (b,h')):zL l=true/\qV h (Cs.ofL l) esz op=some (b,h'):=by
 unfold ZV at e;cases h2:zL l with
 | false=>simp[h2]at e
 | true=>simp only[h2,oK]at e;exact⟨rfl,e⟩
theorem zQe {l:List V}{esz:Rk}{op:Bool}{b:Nat}{h':H}(e:ZV h l esz op=some (b,h')) :
  h.nx<T.top/\zL l=true/\∃cs,cs.len=l.length/\(∀i,cs.get? i=l[i]?)/\b=h.nx/\h'=h.new (.cells cs esz true op):=by
 obtain⟨h1,h2⟩:=zLw e;obtain⟨h3,cs,h4,h5,h6⟩:=Xm h2;obtain⟨h7,h8⟩:=Cs.ofL_eq h4;exact⟨h3,h1,cs,h7,h8,h5,h6⟩
theorem KQ (r:HR ρ D h w) {rc:Option Cs}{l:List V}{esz:Rk}{b:Nat}{h':H}(e:qV h rc esz false=some (b,h')) (hl:∀cs,rc=some cs->cs.len=l.length/\∀i,cs.get? i=l[i]?) (hin:∀v∈l,v.In D) (t:TypeId) (hk:∀u,esz.ty=u+1->t=u) :
  ∃ρ',Mv ρ D h w ρ' h' (w.alloc (.cells (l.map (V.conc ρ)).toArray t))/\HR ρ' (Dx D h h') h' (w.alloc (.cells (l.map (V.conc ρ)).toArray t))/\Dx D h h' b /\
   ρ'.blk b=w.heap.size/\ρ'.off b=0:=by
 obtain⟨hn,cs,h1,rfl,rfl⟩:=Xm e;obtain⟨c1,c2⟩:=hl cs h1;obtain⟨a1,a2⟩:=OI r hn (l:=cs) (esz:=esz) (op:=false) (λi v hv=>hin v (List.mem_of_getElem? (by rw[<-c2];exact hv))) (l.map (V.conc ρ)).toArray t (0,0) 0 (λi v hv=>by rw[c2]at hv;simp[hv]) (λi _ _=>by simp) (by simp[c1]) (by simp[c1]) (λu hu=>⟨hk u hu,.inl rfl⟩)
 exact⟨_,a2,a1,zCY,Env.at_blk _ _ _ _,Env.at_off _ _ _ _⟩
theorem XB (r:HR ρ D h w) {l:List V}{esz:Rk}{b:Nat}{h':H}(e:ZV h l esz false=some (b,h')) (hin:∀v∈l,v.In D) (t:TypeId) (hk:∀u,esz.ty=u+1->t=u) :
  ∃ρ',Mv ρ D h w ρ' h' (w.alloc (.cells (l.map (V.conc ρ)).toArray t))/\HR ρ' (Dx D h h') h' (w.alloc (.cells (l.map (V.conc ρ)).toArray t))/\Dx D h h' b /\
   ρ'.blk b=w.heap.size/\ρ'.off b=0:=KQ r (zLw e).2 (λ_ h=>Cs.ofL_eq h) hin t hk
theorem zHB {b n:Nat}{cs:Array Value}{e:TypeId}{fz:Nat×Nat}(h:w.heap[b]? = some (.cells cs e fz)) :
  w.freeze ⟨b,n,none⟩ 1=w.putObj b (.cells cs e (if fz.1 == fz.2 then (n,n+1) else (min fz.1 n,max fz.2 (n+1)))):=by
 have hb:b<w.heap.size:=by
  rcases Nat.lt_or_ge b w.heap.size with g|g
  ·exact g
  ·rw[Array.getElem?_eq_none g]at h;cases h
 unfold World.freeze World.putObj;rw[if_neg (by decide)]
 congr 1
 apply Array.ext_getElem?;intro i;obtain⟨lo,hi⟩:=fz;rw[Array.getElem?_modify];by_cases hi2:b=i
 ·subst hi2
  have hv:w.heap[b] = .cells cs e (lo,hi):=by simpa [Array.getElem?_eq_getElem hb]using h
  simp[hb,hv]
 ·simp[hi2]
theorem zEK (ok:CtxOK P c) {s d:TypeId}{v r:V}{h':H}(e:xK c s d h v=some (r,h')) (hr:HR ρ D h w) (hv:v.In D) :
  Post ρ D h w ((convert s d (v.conc ρ)).run P w) r h':=by
 unfold xK at e;split at e
 ·rename_i ts td hts htd
  obtain⟨i1,k1⟩:=ok.ty s ts hts;obtain⟨i2,k2⟩:=ok.ty d td htd;split at e
  ·rename_i k k' kk n hd1 hd2
   simp only[oA,oB]at e;obtain⟨rfl,rfl⟩:=e;refine Post.of_eq ?_ (Post.pure hr (v:=.int k' (zT k' n)) (by simp[V.In]));simp[convert,z6 k1,z6 k2,hd1,hd2,V.conc,Conv.intToInt,xS]
  ·rename_i l hd1 hd2
   simp only[oA,oB]at e;obtain⟨rfl,rfl⟩:=e;refine Post.of_eq ?_ (Post.pure hr (v:=.str l) (by simp[V.In]));simp[convert,z6 k1,z6 k2,hd1,hd2,V.conc]
  ·rename_i el l hd1 hd2
   split at e
   ·rename_i te hte
    obtain⟨i3,k3⟩:=ok.ty el te hte;split at e
    ·rename_i hd3
     split at e
     ·rename_i b h1 hn
      simp only[oA,oB]at e;obtain⟨rfl,rfl⟩:=e;obtain⟨g1,g2,ccs,cl,cg,rfl,rfl⟩:=zQe hn;generalize hcp:Question.cut (Question.appendCap l.length 0 el) (w.tape w.drawn (Question.appendCap l.length 0 el))=cp;have hge:l.length<=cp:=by rw[<-hcp];simp only[Question.cut];omega
      have hrd:HR ρ D h w.drew:=hr.of_heap rfl
      let cs:Array Value:=(yI l |>.map (V.conc ρ)).toArray++Array.replicate (cp-l.length) (.int .u8 0)
      have hcs:cs.size=cp:=by simp[cs,yY];omega
      obtain⟨a1,a2⟩:=OI hrd g1 (l:=ccs) (esz:=⟨1,0,0⟩) (op:=true) (λi v hv=>jk l v (List.mem_of_getElem? (by rw[<-cg];exact hv))) cs el (cp,cp+1) cp
       (λi v hv=>by
        rw[cg]at hv;have hi:i<(yI l).length:=(List.getElem?_eq_some_iff.1 hv).1;simp only[cs];rw[Array.getElem?_append_left (by simpa using hi)];simp[hv])
       (λi hi _=>by rw[hcs]at hi;omega) (by rw[hcs,cl,yY];simpa using hge) (by rw[hcs];simp) (λt ht=>by cases ht)
      refine⟨_,_,?_,Mv.trans hr.lt (Mv.of_heap (w':=w.drew) rfl rfl rfl rfl) (by rw[ze];exact a2),a1,by simp only[V.In];exact zCY⟩;have e1:(l.toArray.map λb=>Value.int .u8 (b.toNat:Int))=((yI l).map (V.conc ρ)).toArray:=by
       apply Array.ext';simp[yY,V.conc]
      have hsz:(w.drew.alloc (.cells cs el)).shape? w.drew.heap.size=some (el,cs.size):=by
       unfold World.shape?;rw[World.alloc_heap_new]
      simp only[convert,z6 k1,z6 k2,hd1,hd2,V.conc,Sem.run_bind,Result.andThen_ok,z6 k3,hd3,Conv.stringToBytes,run_choose,Question.forced,if_false,Bool.false_eq_true,World.drew_eq,e1,jW,hcp];simp only[newRow,Sem.run_bind,run_newObj,Result.andThen_ok,World.alloc_eq,Sem.run_pure,markStringish,run_shape];rw[show((yI l).map (V.conc ρ)).toArray++Array.replicate (cp-l.length) (Value.int IntKind.u8 0)=cs from rfl,hsz];simp only[run_freeze,Result.andThen_ok,yk,Nat.add_zero];have hfr:(w.drew.alloc (.cells cs el)).freeze ⟨w.drew.heap.size,cs.size,none⟩ 1=w.drew.alloc (.cells cs el (cp,cp+1)):=by
       unfold World.freeze;simp only[World.alloc,hcs];rw[if_neg (by decide)]
       congr 1
       apply Array.ext_getElem?;intro i;rw[Array.getElem?_modify,Array.getElem?_push,Array.getElem?_push];by_cases hi:i=w.drew.heap.size
       ·subst hi;simp
       ·simp only[hi,if_false]
        rw[if_neg (by omega)]
      simp only[Cap.val,Env.at_blk,Env.at_off,Env.at_cap,Nat.sub_zero];rw[show(⟨(⟨w.drew.heap.size,0,none⟩:Addr).block,cs.size,none⟩:Addr)=⟨w.drew.heap.size,cs.size,none⟩from rfl,hfr]
     ·cases e
    ·cases e
   ·cases e
  ·rename_i el hd1 hd2
   split at e
   ·rename_i te hte
    obtain⟨i3,k3⟩:=ok.ty el te hte;split at e
    ·rename_i hd3
     simp only[oA,oB]at e;obtain⟨rfl,rfl⟩:=e;refine Post.of_eq ?_ (Post.pure hr (v:=.str []) (by simp[V.In]));simp[convert,z6 k1,z6 k2,hd1,hd2,V.conc,z6 k3,hd3,Conv.bytesToString];rfl
    ·cases e
   ·cases e
  ·rename_i tp b o hd1 hd2
   simp only[V.In]at hv;split at e
   ·rename_i tt l esz wr op htt hg
    obtain⟨i3,k3⟩:=ok.ty tp tt htt;cases hb:Nat.blt 0 tt.size with
    | false=>simp[hb]at e
    | true =>
     have hs:=(zY _ _).1 hb;simp only[hb,oK]at e;split at e
     ·rename_i u hu
      simp only[oA,oB]at e;obtain⟨rfl,rfl⟩:=e;refine Post.of_eq ?_ (Post.pure hr (v:=.ptr b o) (by simpa [V.In]using hv));obtain⟨c0,ee,fz,hx,hc,_,_⟩:=hr.rel b _ hv hg;have hcell:=hc _ _ hu;have hlt:ρ.off b+o<c0.size:=by
       rcases Nat.lt_or_ge (ρ.off b+o) c0.size with g|g
       ·exact g
       ·rw[Array.getElem?_eq_none g]at hcell;cases hcell
      have hsh:w.shape? (ρ.blk b)=some (ee,c0.size):=by unfold World.shape?;rw[hx]
      exact Go.Lib.run_to_unsafe w ⟨ρ.blk b,ρ.off b+o,none⟩ (by rw[k1.und,hd1]) (by rw[k2.und,hd2]) k3.info (by rw[k3.size];omega) hsh hlt
     ·cases e
   ·cases e
  ·rename_i up b o hd1 hd2
   simp only[V.In]at hv;split at e
   ·rename_i tu l esz htu hg
    obtain⟨i3,k3⟩:=ok.ty up tu htu;split at e
    ·rename_i et het
     split at e
     ·rename_i te hte
      obtain⟨i4,k4⟩:=ok.ty et te hte;cases hb:(Nat.blt 0 te.size && Nat.beq l.len te.size && c.lies et up o)with
      | false=>simp[hb]at e
      | true =>
       simp only[hb,oK,oA,oB]at e;obtain⟨rfl,rfl⟩:=e;simp only[oG]at hb;obtain⟨⟨b1,b2⟩,b3⟩:=hb;have hs:=(zY _ _).1 b1;have hlen:=oF b2;refine Post.of_eq ?_ (Post.pure hr (v:=.ptr b o) (by simpa [V.In]using hv));obtain⟨c0,ee,fz,hx,hc,_,hw⟩:=hr.rel b _ hv hg;obtain⟨hoff,_,_,hsz,hty⟩:=hw rfl;obtain⟨rfl,_⟩:=hty et het;simp only[Bool.false_eq_true,if_false]at hsz;have hsh:w.shape? (ρ.blk b)=some (ee,c0.size):=by unfold World.shape?;rw[hx]
       have hcells:P.cellsOf ee=te.size:=by simp[Program.cellsOf,k4.info,k4.size]
       have hl:=ok.lies _ _ _ b3;refine Go.Lib.run_from_unsafe w ⟨ρ.blk b,ρ.off b+o,none⟩ (by rw[k1.und,hd1]) (by rw[k2.und,hd2]) k3.info hsh ?_;rw[hcells,hsz,hlen,Nat.div_self hs,hoff,Nat.zero_add];exact hl
     ·cases e
    ·cases e
   ·cases e
  ·rename_i el b o len cp hd1 hd2
   simp only[V.In]at hv;split at e
   ·rename_i te hte
    obtain⟨i3,k3⟩:=ok.ty el te hte;split at e
    ·rename_i hd3
     split at e
     ·rename_i l esz wr op hg
      split at e
      ·rename_i x hx
       split at e
       ·rename_i y hy
        ·simp only[oA,oB]at e;obtain⟨rfl,rfl⟩:=e
         obtain⟨p1,_,_⟩:=wc (P:=P) hr hv hg hx;refine Post.of_eq ?_ (Post.pure hr (v:=.str y) (by simp[V.In]));simp only[convert,z6 k1,z6 k2,hd1,hd2,V.conc,Sem.run_bind,Result.andThen_ok,z6 k3,hd3,Conv.bytesToString,p1];rw[<-Array.forIn_toList];simp only;rw[zBN (P:=P) (ρ:=ρ) _ (λn s w=>by simp) hy ByteArray.empty w];simp
       ·cases e
      ·cases e
     ·cases e
    ·cases e
   ·cases e
  ·rename_i el0 el b o len cp hd1 hd2
   simp only[V.In]at hv;cases hsd:Nat.beq s d with
   | false=>simp[hsd]at e
   | true =>
   have hsd:=oF hsd;subst hsd;simp only[Nat.beq_refl,oK]at e;split at e
   ·rename_i te hte
    obtain⟨i3,k3⟩:=ok.ty el te hte;split at e
    ·rename_i hd3
     split at e
     ·rename_i l esz op hg
      cases hz:(Nat.beq esz.fz 0 && Nat.blt 0 esz.ty)with
      | false=>simp[hz]at e
      | true =>
       simp only[hz,oK,oA,oB]at e;obtain⟨rfl,rfl⟩:=e;simp only[oG]at hz;have hz1:=oF hz.1;have hz2:=(zY _ _).1 hz.2;obtain⟨c0,ee,fz,hxx,hcell,hcin,hw⟩:=hr.rel b _ hv hg;obtain⟨hoff,hfz,hle,hsz,hty⟩:=hw rfl;have hsh:w.shape? (ρ.blk b)=some (ee,c0.size):=by unfold World.shape?;rw[hxx]
       have hfr:=zHB (w:=w) (n:=c0.size) hxx;obtain⟨et,het⟩:∃et,esz.ty=et+1:=⟨esz.ty-1,by omega⟩;have hlo:fz.1=fz.2:=by
        rcases(hty et het).2 with g|g
        ·exact g
        ·omega
       have hO:ORel ρ D b (.cells l ⟨esz.n,0,0⟩ true op) (some (.cells c0 ee (if fz.1 == fz.2 then (c0.size,c0.size+1) else (min fz.1 c0.size,max fz.2 (c0.size+1))))):=by
        refine⟨c0,ee,_,rfl,hcell,hcin,λ_=>⟨hoff,?_,hle,hsz,λt ht=>by cases ht⟩⟩
        intro i hi _;rw[if_pos (by simpa using hlo)];simp only;omega
       refine⟨ρ,w.putObj (ρ.blk b) (.cells c0 ee (if fz.1 == fz.2 then (c0.size,c0.size+1) else (min fz.1 c0.size,max fz.2 (c0.size+1)))),?_,Mv.upd hr hv hg rfl rfl,by rw[wu (xI _ _ _)];exact HR.upd hr hv hg rfl rfl hO,by rw[wu (xI _ _ _)];simpa [V.In]using hv⟩;rw[<-hfr];simp only[convert,z6 k1,hd1,Sem.run_bind,Result.andThen_ok];have htd2:ts=td:=by rw[hts]at htd;exact Option.some.inj htd
       have hel:el0=el:=by rw[<-htd2,hd1]at hd2;injection hd2
       subst hel;simp only[V.conc,z6 k3,hd3,Sem.run_bind,Result.andThen_ok,beq_self_eq_true,markStringish,run_shape,hsh,run_freeze,Sem.run_pure]
     ·cases e
    ·cases e
   ·cases e
  ·cases e
 ·cases e
end
end Go.Sim
namespace Go.Sim
section
variable {P:Program}{c:Ctx}{ρ:Env}{D:Nat->Prop}{h:H}{w:World}
theorem ww {v:V}{d top m:Nat}(e:bnd (some v) d top=some m):m<=top/\∃k,v = .int k (m:Int):=by
 cases v<;>simp only[bnd]at e<;>try (cases e;done)
 rename_i k n;cases hn:yp n with
 | none=>simp[hn]at e
 | some q =>
  simp only[hn]at e;cases hb:Nat.ble q top with
  | false=>simp[hb]at e
  | true =>
   simp only[hb,oK,oA]at e;subst e;exact⟨oE hb,k,by rw[qF hn]⟩
theorem yX {v:V}{top m:Nat}(hm:m<=top) {k:IntKind}(hv:v = .int k (m:Int)) (code:BoundsCode) (w:World):(Instr.sliceBound (v.conc ρ) top code).run P w = .ok m w:=by
 subst hv;have h2:(m:Int)<=(top:Int):=by omega
 simp[Instr.sliceBound,V.conc,asIntOf,hm]
theorem yo {isS:Bool}{len cp m hh ll:Nat}{lo hi mx:Option V}(e1:bnd mx cp cp=some m) (e2:bnd hi len m=some hh) (e3:bnd lo 0 hh=some ll) (hmh:(mx.isSome && hi.isNone)=false) (w:World) :
  (Instr.sliceBounds isS len cp (lo.map (V.conc ρ)) (hi.map (V.conc ρ)) (mx.map (V.conc ρ))).run P w = .ok (ll,hh,m) w:=by
 cases mx with
 | none =>
  simp only[bnd,oA]at e1;subst e1;cases hi with
  | none =>
   simp only[bnd,oA]at e2;subst e2;cases lo with
   | none=>simp only[bnd,oA]at e3;subst e3;simp[Instr.sliceBounds]
   | some v=>obtain⟨g1,k,g2⟩:=ww e3;simp[Instr.sliceBounds,yX g1 g2]
  | some u =>
   obtain⟨f1,k',f2⟩:=ww e2;cases lo with
   | none=>simp only[bnd,oA]at e3;subst e3;cases isS<;>simp[Instr.sliceBounds,yX f1 f2]
   | some v=>obtain⟨g1,k,g2⟩:=ww e3;cases isS<;>simp[Instr.sliceBounds,yX g1 g2,yX f1 f2]
 | some x =>
  obtain⟨a1,k0,a2⟩:=ww e1;cases hi with
  | none=>simp at hmh
  | some u =>
   obtain⟨f1,k',f2⟩:=ww e2;cases lo with
   | none=>simp only[bnd,oA]at e3;subst e3;cases isS<;>simp[Instr.sliceBounds,yX f1 f2,yX a1 a2]
   | some v=>obtain⟨g1,k,g2⟩:=ww e3;cases isS<;>simp[Instr.sliceBounds,yX g1 g2,yX f1 f2,yX a1 a2]
theorem JX {v:Option V}{d top m:Nat}(e:bnd v d top=some m) (hd:d<=top):m<=top:=by
 cases v with
 | none=>simp only[bnd,oA]at e;omega
 | some v=>exact(ww e).1
theorem zCc (ok : CtxOK P c) {t : TypeId}{x v : V}{lo hi mx : Option V}(e : zq c t h x lo hi mx = some v) (r : HR ρ D h w) (hx : x.In D) :
    (Instr.sliceAt t (x.conc ρ) (lo.map (V.conc ρ)) (hi.map (V.conc ρ)) (mx.map (V.conc ρ))).run P w = .ok (v.conc ρ) w /\ v.In D := by
  unfold zq at e;split at e
  · cases e
  · rename_i ti hti
    obtain⟨i, k⟩ := ok.ty t ti hti;split at e
    · rename_i l hd
      split at e
      · cases e
      · simp only at e
        split at e
        · cases e
        · rename_i hh hhi
          split at e
          · cases e
          · rename_i ll hlo
            simp only[oA]at e;subst e;refine⟨?_, by simp[V.In]⟩;rw[yk, Nat.add_zero]at hhi;have hb := yo (P := P) (ρ := ρ) (isS := false) (mx := none) (m := l.length) (cp := l.length) (len := l.length) rfl hhi hlo (by simp) w;have hhl : hh <= l.length := JX hhi (oP _);simp only[Instr.sliceAt, Sem.run_bind, z6 k, hd, Result.andThen_ok, Instr.slice, V.conc, jW, Option.map_none, Option.isSome_none, Bool.false_eq_true, if_false];simp only[Option.map_none]at hb;simp only[Sem.run_pure, Result.andThen_ok, hb]
            congr 2
            apply ByteArray.ext;rw[ByteArray.data_extract];apply Array.ext';simp[ZD, List.extract_eq_take_drop]
    · rename_i n el b o hd
      split at e
      · cases e
      · rename_i te hte
        obtain⟨i2, k2⟩ := ok.ty el te hte;split at e
        · cases e
        · rename_i m hm
          split at e
          · cases e
          · rename_i hh hhi
            cases hc : (mx.isSome && hi.isNone)with
            | true => simp[hc]at e
            | false =>
              simp only[hc, oM]at e;split at e
              · cases e
              · rename_i ll hlo
                simp only[oA]at e;subst e;have hb := yo (P := P) (ρ := ρ) (isS := false) hm hhi hlo hc w;refine⟨?_, by simpa [V.In]using hx⟩;simp only[Instr.sliceAt, Sem.run_bind, z6 k, hd, Result.andThen_ok, V.conc, Instr.sureAddr, Sem.run_pure, hb, yL k2, Cap.val, yN];cases hq : Nat.beq m ll with
                | true => have := oF hq;simp[this]
                | false =>
                  have : m ≠ ll := λhe => by subst he;rw[Nat.beq_refl]at hq;cases hq
                  simp[this, Nat.add_assoc]
    · rename_i el hd
      split at e
      · cases e
      · rename_i te hte
        obtain⟨i2, k2⟩ := ok.ty el te hte;split at e
        · cases e
        · rename_i m hm
          split at e
          · cases e
          · rename_i hh hhi
            cases hc : (mx.isSome && hi.isNone)with
            | true => simp[hc]at e
            | false =>
              simp only[hc, oM]at e;split at e
              · cases e
              · rename_i ll hlo
                simp only[oA]at e;subst e;have hb := yo (P := P) (ρ := ρ) (isS := true) hm hhi hlo hc w;have m0 : m = 0 := by have := JX hm (oP _);omega
                have h0 : hh = 0 := by have := JX hhi (by omega);omega
                have l0 : ll = 0 := by have := JX hlo (by omega);omega
                subst m0 h0 l0;refine⟨?_, by simp[V.In]⟩;simp only[Instr.sliceAt, Sem.run_bind, z6 k, hd, Result.andThen_ok, V.conc, Instr.slice, Sem.run_pure, hb, yL k2];simp
    · rename_i el b o len cp hd
      split at e
      · cases e
      · rename_i te hte
        obtain⟨i2, k2⟩ := ok.ty el te hte;split at e
        · cases e
        · rename_i m hm
          split at e
          · cases e
          · rename_i hh hhi
            cases hc : (mx.isSome && hi.isNone)with
            | true => simp[hc]at e
            | false =>
              simp only[hc, oM]at e;split at e
              · cases e
              · rename_i ll hlo
                simp only[oA]at e;subst e;have hb := yo (P := P) (ρ := ρ) (isS := true) hm hhi hlo hc w;refine⟨?_, by simpa [V.In]using hx⟩;simp only[Instr.sliceAt, Sem.run_bind, z6 k, hd, Result.andThen_ok, V.conc, Instr.slice, Sem.run_pure, Cap.val, hb, yL k2];cases hq : Nat.beq m ll with
                | true => have := oF hq;simp[this]
                | false =>
                  have : m ≠ ll := λhe => by subst he;rw[Nat.beq_refl]at hq;cases hq
                  simp[this, Nat.add_assoc, yN]
    · rename_i el b o len ks hd
      simp only[V.In]at hx;split at e
      · rename_i te l esz hte hg
        obtain⟨i2, k2⟩ := ok.ty el te hte;cases hcnd : (Nat.beq esz.n te.size && Nat.blt 0 esz.n && Nat.beq o (ks * esz.n))with
        | false => simp[hcnd]at e
        | true =>
          simp only[hcnd, oK]at e;simp only[oG]at hcnd;obtain⟨⟨c1, c2⟩, c3⟩ := hcnd;have c1' := oF c1;have c2' := (zY _ _).1 c2;have c3' := oF c3;cases hq : Nat.ble (o + len * esz.n) l.len with
          | false =>
            rw[hq, oM]at e;unfold zIU at e;split at e
            · rename_i kk
              simp only[oA]at e;subst e;refine⟨?_, by simpa [V.In]using hx⟩;have hb := yo (P := P) (ρ := ρ) (isS := true) (mx := none) (m := ρ.cap b - ks) (cp := ρ.cap b - ks) (hi := some (V.int kk (Int.ofNat 0))) (lo := none) (hh := 0) (ll := 0) (len := len) rfl (by have h0 : Nat.ble 0 (ρ.cap b - ks) = true := oC (oJ _);simp[bnd, yp, h0]) (by simp[bnd]) (by simp) w;simp only[Option.map_none]at hb;simp only[Instr.sliceAt, Sem.run_bind, z6 k, hd, Result.andThen_ok, V.conc, Instr.slice, Sem.run_pure, Cap.val, hb, yL k2, Option.map_none];by_cases hz : ρ.cap b - ks = 0
              · simp[hz]
              · simp[hz, yN]
            · cases e
          | true =>
            rw[hq, oK]at e;have hroom := oE hq;obtain⟨cc, ee, fz, hxx, _, _, hw⟩ := r.rel b _ hx hg;obtain⟨_, _, hle, hsz, _⟩ := hw rfl;have hcap : ks + len <= ρ.cap b := by
              have h1 : ks * esz.n + len * esz.n <= ρ.cap b * esz.n := by
                have : cc.size = ρ.cap b * esz.n := by rw[hsz];simp
                omega
              have h2 : (ks + len) * esz.n <= ρ.cap b * esz.n := by rw[Nat.add_mul];exact h1
              exact Nat.le_of_mul_le_mul_right h2 c2'
            split at e
            · rename_i mv
              cases hc : hi.isNone with
              | true => simp[hc]at e
              | false =>
                simp only[hc, oM]at e;split at e
                · cases e
                · rename_i m hm
                  split at e
                  · cases e
                  · rename_i hh hhi
                    split at e
                    · cases e
                    · rename_i ll hlo
                      simp only[oA]at e;subst e;obtain⟨g1, kk, g2⟩ := ww hm;have hm' : bnd (some mv) (ρ.cap b - ks) (ρ.cap b - ks) = some m := by
                        subst g2;have : Nat.ble m (ρ.cap b - ks) = true := oC (by omega);simp[bnd, yp, this]
                      have hb := yo (P := P) (ρ := ρ) (isS := true) hm' hhi hlo (by simp[hc]) w;refine⟨?_, by simpa [V.In]using hx⟩;simp only[Instr.sliceAt, Sem.run_bind, z6 k, hd, Result.andThen_ok, V.conc, Instr.slice, Sem.run_pure, Cap.val, hb, yL k2];cases hq2 : Nat.beq m ll with
                      | true => have := oF hq2;simp[this]
                      | false =>
                        have : m ≠ ll := λhe => by subst he;rw[Nat.beq_refl]at hq2;cases hq2
                        simp[this, Nat.add_assoc, yN]
            · split at e
              · cases e
              · rename_i hh hhi
                split at e
                · cases e
                · rename_i ll hlo
                  have hhl : hh <= len := JX hhi (oP _);have hhi' : bnd hi len (ρ.cap b - ks) = some hh := by
                    cases hi with
                    | none => simpa [bnd]using hhi
                    | some u =>
                      obtain⟨g1, kk, g2⟩ := ww hhi;subst g2;have : Nat.ble hh (ρ.cap b - ks) = true := oC (by omega);simp[bnd, yp, this]
                  have hb := yo (P := P) (ρ := ρ) (isS := true) (mx := none) (m := ρ.cap b - ks) (cp := ρ.cap b - ks) rfl hhi' hlo (by simp) w;simp only[Option.map_none]at hb;have hll : ll <= hh := JX hlo (by omega);cases h0 : Nat.beq ll 0 with
                  | true =>
                    have l0 := oF h0;simp only[h0, oK, oA]at e;subst e;refine⟨?_, by simpa [V.In]using hx⟩;subst l0;simp only[Instr.sliceAt, Sem.run_bind, z6 k, hd, Result.andThen_ok, V.conc, Instr.slice, Sem.run_pure, Cap.val, hb, yL k2, Option.map_none];by_cases hz : ρ.cap b - ks = 0
                    · simp[hz]
                    · simp[hz, yN]
                  | false =>
                    simp only[h0, oM]at e;cases h1 : Nat.blt ll len with
                    | false => simp[h1]at e
                    | true =>
                      have hlt := (zY _ _).1 h1;simp only[h1, oK, oA]at e;subst e;refine⟨?_, by simpa [V.In]using hx⟩;have hne : ¬(ρ.cap b - ks = ll) := by omega
                      simp only[Instr.sliceAt, Sem.run_bind, z6 k, hd, Result.andThen_ok, V.conc, Instr.slice, Sem.run_pure, Cap.val, hb, yL k2, Option.map_none, hne, if_false, oZ, yN];rw[Nat.sub_sub, Nat.add_assoc]
      · cases e
    · cases e
end
end Go.Sim
namespace Go.Sim
section
variable {P:Program}{c:Ctx}{ρ:Env}{D:Nat->Prop}{h:H}{w:World}
theorem zK5:∀(vs:List Value) (k off:Nat) (cs:Array Value),off+k+vs.length<=cs.size ->
  ((vs.zipIdx k).foldl (λcs (x:Value×Nat)=>cs.setIfInBounds (off+x.2) x.1) cs).size=cs.size /\
  ∀i,((vs.zipIdx k).foldl (λcs (x:Value×Nat)=>cs.setIfInBounds (off+x.2) x.1) cs)[i]? = if off+k<=i/\i<off+k+vs.length then vs[i-(off+k)]? else cs[i]?:=by
 intro vs
 induction vs with
 | nil=>intro k off cs _;exact⟨rfl,λi=>by rw[if_neg (by simp only[List.length_nil];omega)];rfl⟩
 | cons v vs ih =>
  intro k off cs hl;simp only[oV]at hl;simp only[List.zipIdx_cons,List.foldl_cons];obtain⟨h1,h2⟩:=ih (k+1) off (cs.setIfInBounds (off+k) v) (by simp;omega);refine⟨by rw[h1];simp,λi=>?_⟩
  rw[h2 i];by_cases hc:off+(k+1)<=i/\i<off+(k+1)+vs.length
  ·rw[if_pos hc,if_pos (by simp only[oV];omega)]
   obtain⟨q,hq⟩:∃q,i-(off+k)=q+1:=⟨i-(off+k)-1,by omega⟩;rw[hq,List.getElem?_cons_succ];congr 1;omega
  ·rw[if_neg hc]
   by_cases h5:i=off+k
   ·have hlt:off+k<cs.size:=by omega
    subst h5;rw[if_pos ⟨oP _,by simp only[oV];omega⟩];simp[hlt]
   ·rw[if_neg (by simp only[oV];omega),Array.getElem?_setIfInBounds,if_neg (by omega)]
theorem zFD {off:Nat}{vs l l':List V}(hs:jr off vs l=some l') :
  ((vs.map (V.conc ρ)).toArray.zipIdx.foldl (λcs (x:Value×Nat)=>cs.setIfInBounds (off+x.2) x.1) (l.map (V.conc ρ)).toArray)=(l'.map (V.conc ρ)).toArray:=by
 obtain⟨s1,s2,s3⟩:=qc hs;rw[<-Array.foldl_toList];simp only[Array.toList_zipIdx];obtain⟨h1,h2⟩:=zK5 (vs.map (V.conc ρ)) 0 off (l.map (V.conc ρ)).toArray (by simpa using s1);apply Array.ext_getElem?;intro i;rw[h2 i];simp only[Nat.add_zero,ol,List.getElem?_toArray,oW,s3 i];split<;>rfl
theorem Yt {place:Nat->Option (Nat×Nat)}:∀(parts:List (Nat×V)) (cells r:List V),Y2 c place cells parts=some r ->
  Instr.fill place (cells.map (V.conc ρ)).toArray (parts.map λp=>(p.1,p.2.conc ρ))=some (r.map (V.conc ρ)).toArray/\((∀v∈cells,v.In D)->(∀p∈parts,p.2.In D)->∀v∈r,v.In D):=by
 intro parts
 induction parts with
 | nil=>intro cells r e;simp only[Y2,oA]at e;subst e;exact⟨by simp[Instr.fill],λh _=>h⟩
 | cons p parts ih =>
  intro cells r e;obtain⟨i,v⟩:=p;simp only[Y2]at e;split at e
  ·cases e
  ·rename_i off size hp
   cases hl:wL v.cells size with
   | false=>simp[hl]at e
   | true =>
    simp only[hl,oK]at e;split at e
    ·rename_i q hq
     obtain⟨i1,i2⟩:=ih q r e;obtain⟨s1,s2,s3⟩:=qc hq;have hlen:=yl.1 hl;refine⟨?_,λhc hp'=>i2 (λx hx=>?_) (λp hp=>hp' p (oH _ hp))⟩
     ·simp only[List.map_cons,Instr.fill,hp,V.cells_conc,List.size_toArray,ol,hlen]
      have:¬(off+size > cells.length):=by omega
      simp only[ne_eq,not_true_eq_false,decide_false,Bool.false_or,this];rw[<-i1,zFD (ρ:=ρ) hq];rfl
     ·rcases zHP hq x hx with g|g
      ·exact V.cells_In (hp' (i,v) (List.mem_cons_self ..)) x g
      ·exact hc x g
    ·cases e
theorem zDP (ok:CtxOK P c):∀(fs:List Field),zGO c fs=true->∀w,∃ps:List (Nat×Nat),
  (fs.mapM (m:=Sem) (λf=>do pure (f.offset,<-sizeOf f.type))).run P w = .ok ps w/\ps.length=fs.length/\∀i:Nat,ps[i]? = (match fs[i]? with|some f=>(match c.ty.get f.type with|some ti=>some (f.offset,ti.size)|none=>none)|none=>none):=by
 intro fs
 induction fs with
 | nil=>intro _ w;exact⟨[],by simp,rfl,λi=>by simp⟩
 | cons f fs ih =>
  intro e w;simp only[zGO]at e;split at e
  ·rename_i ti hti
   obtain⟨i,k⟩:=ok.ty _ _ hti;obtain⟨ps,h1,h2,h3⟩:=ih e w;refine⟨(f.offset,ti.size)::ps,?_,by simp[h2],λi=>?_⟩
   ·simp only[List.mapM_cons,Sem.run_bind,yL k,Result.andThen_ok,Sem.run_pure,h1]
   ·cases i with
    | zero=>simp[hti]
    | succ i=>simp[h3 i]
  ·cases e
theorem zC9 (ok:CtxOK P c) {t:TypeId}{parts:List (Nat×V)}{v:V}(e:yx c t parts=some v) (hp:∀p∈parts,p.2.In D) :
  (Instr.build t (parts.map λp=>(p.1,p.2.conc ρ)).toArray).run P w = .ok (v.conc ρ) w/\v.In D:=by
 unfold yx at e;split at e
 ·rename_i ti hti
  obtain⟨i,k⟩:=ok.ty t ti hti;split at e
  ·rename_i z hz
   obtain⟨z1,z2⟩:=kU k hz ρ w;split at e
   ·rename_i fs hd
    cases ha:zGO c fs.toList with
    | false=>simp[ha]at e
    | true =>
     simp only[ha,oK]at e;split at e
     ·rename_i q hq
      simp only[oA]at e;subst e;obtain⟨f1,f2⟩:=Yt (ρ:=ρ) (D:=D) parts z.cells q hq;obtain⟨ps,p1,p2,p3⟩:=zDP ok fs.toList ha w;refine⟨?_,by simp only[V.In,V.InL_iff];exact f2 (V.cells_In (z2 D)) hp⟩;have hpl:(λx=>ps.toArray[x]?)=Z6 c fs:=by
       funext i
       have:=p3 i;simp only[Array.getElem?_toList]at this;simp only[List.getElem?_toArray,this,Z6];cases fs[i]?<;>rfl
      have pm:(Array.mapM (m:=Sem) (λf:Field=>do pure (f.offset,<-sizeOf f.type)) fs).run P w = .ok ps.toArray w:=by
       rw[Array.mapM_eq_mapM_toList];simp only[Sem.run_map,p1,Result.andThen_ok]
      simp only[Instr.build,Sem.run_bind,z1,Result.andThen_ok,z6 k,hd,pm,V.cells_conc,hpl,f1,Sem.run_pure,wS]
     ·cases e
   ·rename_i n el hd
    split at e
    ·rename_i te hte
     obtain⟨i2,k2⟩:=ok.ty el te hte;split at e
     ·rename_i q hq
      simp only[oA]at e;subst e;obtain⟨f1,f2⟩:=Yt (ρ:=ρ) (D:=D) parts z.cells q hq;refine⟨?_,by simp only[V.In,V.InL_iff];exact f2 (V.cells_In (z2 D)) hp⟩;simp only[Instr.build,Sem.run_bind,z1,Result.andThen_ok,z6 k,hd,yL k2,V.cells_conc,f1,Sem.run_pure,wS]
     ·cases e
    ·cases e
   ·cases e
  ·cases e
 ·cases e
theorem zAw (z:List V):∀(n i:Nat),(yy z n)[i]? = if i<n*z.length then z[i % z.length]? else none:=by
 intro n
 induction n with
 | zero=>intro i;simp[yy]
 | succ n ih =>
  intro i;simp only[yy];by_cases hi:i<z.length
  ·rw[List.getElem?_append_left hi,if_pos (by rw[Nat.succ_mul];omega),oe hi]
  ·rw[List.getElem?_append_right (by omega),ih]
   by_cases h2:i-z.length<n*z.length
   ·rw[if_pos h2,if_pos (by rw[Nat.succ_mul];omega),<-Nat.mod_eq_sub_mod (by omega)]
   ·rw[if_neg h2,if_neg (by rw[Nat.succ_mul];omega)]
theorem qA (z:List V):∀n:Nat,(yy z n).length=n*z.length:=by
 intro n
 induction n with
 | zero=>simp[yy]
 | succ n ih=>simp only[yy,oU,ih,Nat.succ_mul];omega
theorem zAx (z:List V):∀n:Nat,∀v∈yy z n,v∈z:=by
 intro n
 induction n with
 | zero=>intro v hv;simp[yy]at hv
 | succ n ih =>
  intro v hv;simp only[yy,List.mem_append]at hv;rcases hv with g|g
  ·exact g
  ·exact ih v g
theorem zCX (z:List V) (n:Nat) (hz:n*z.length≠0) :
  ((Array.range (n*z.length)).map λi=>(z.map (V.conc ρ)).toArray[i % (z.map (V.conc ρ)).toArray.size]!)=((yy z n).map (V.conc ρ)).toArray:=by
 have hzl:0<z.length:=by
  rcases Nat.eq_zero_or_pos z.length with g|g
  ·rw[g]at hz;simp at hz
  ·exact g
 apply Array.ext_getElem?;intro i;simp only[List.getElem?_toArray,oW,zAw,Array.getElem?_map,List.size_toArray,ol];by_cases hi:i<n*z.length
 ·rw[if_pos hi]
  have hm:i % z.length<z.length:=Nat.mod_lt _ hzl;rw[Array.getElem?_range,if_pos hi];simp[hm]
 ·rw[if_neg hi,Array.getElem?_range,if_neg hi]
  rfl
theorem XU (ok:CtxOK P c) {t:TypeId}{n:Nat}{parts:List (Nat×V)}{v:V}{h':H}(e:zF c t n parts h=some (v,h')) (r:HR ρ D h w) (hp:∀p∈parts,p.2.In D) :
  Post ρ D h w ((Instr.buildSlice t n (parts.map λp=>(p.1,p.2.conc ρ)).toArray).run P w) v h':=by
 unfold zF at e;split at e
 ·rename_i ti hti
  obtain⟨i,k⟩:=ok.ty t ti hti;split at e
  ·rename_i el hd
   split at e
   ·rename_i te hte
    obtain⟨i2,k2⟩:=ok.ty el te hte;split at e
    ·rename_i z hz
     obtain⟨z1,z2⟩:=kU k2 hz ρ w;cases hb:Nat.ble (n*te.size) 1048576 with
     | false=>simp[hb]at e
     | true =>
      cases hl:wL z.cells te.size with
      | false=>simp[hb,hl]at e
      | true =>
       simp only[hb,hl,oK]at e;have hlen:=yl.1 hl;split at e
       ·rename_i q hq
        split at e
        ·rename_i b h1 hn
         simp only[oA,oB]at e;obtain⟨rfl,rfl⟩:=e;obtain⟨f1,f2⟩:=Yt (ρ:=ρ) (D:=D) parts _ q hq;have hin:=f2 (λv hv=>V.cells_In (z2 D) v (zAx _ _ v hv)) hp
         obtain⟨ρ',m1,m2,m3,m4,m5⟩:=XB r hn hin el (λu hu=>by simpa using hu);refine⟨ρ',_,?_,m1,m2,by simp only[V.In];exact m3⟩;have hsmall:¬(n*te.size > 16777216):=by have:=oE hb;omega
         have hfill:Instr.fill (λi=>some (i*te.size,te.size)) ((Array.range (n*te.size)).map λi=>(if n*te.size=0 then (#[]:Array Value) else (z.cells.map (V.conc ρ)).toArray)[i % (if n*te.size=0 then (#[]:Array Value) else (z.cells.map (V.conc ρ)).toArray).size]!) (parts.map λp=>(p.1,p.2.conc ρ))=some (q.map (V.conc ρ)).toArray:=by
          by_cases h0:n*te.size=0
          ·rw[<-f1]
           congr 1
           have:yy z.cells n=[]:=by
            apply List.eq_nil_of_length_eq_zero;rw[qA,hlen,h0]
           rw[this,h0];simp
          ·simp only[h0,if_false]
           rw[<-f1]
           congr 1
           rw[<-hlen];exact zCX z.cells n (by rw[hlen];exact h0)
         simp only[Instr.buildSlice,Sem.run_bind,z6 k,hd,Result.andThen_ok,yL k2];by_cases h0:n*te.size=0
         ·rw[if_neg (by omega)]
          rw[if_pos h0]at hfill ⊢;simp only[Sem.run_bind,Sem.run_pure,Result.andThen_ok];rw[hfill];simp[newRow,V.conc,Cap.val,m4,m5]
         ·rw[if_neg (by omega)]
          rw[if_neg h0]at hfill ⊢;simp only[Sem.run_bind,Sem.run_pure,Result.andThen_ok,z1,V.cells_conc];rw[hfill];simp[newRow,V.conc,Cap.val,m4,m5]
        ·cases e
       ·cases e
    ·cases e
   ·cases e
  ·cases e
 ·cases e
end
end Go.Sim
namespace Go.Sim
theorem HR.kill {ρ:Env}{D:Nat->Prop}{h:H}{w:World}(r:HR ρ D h w) {b:Nat}(hd:D b):HR ρ D (h.upd b none) w where
 cap:=r.cap
 lt:=r.lt
 rel:=λid o d g=>by
  rw[H.get_upd _ _ _ _ (oI (r.lt b hd) r.cap)]at g;split at g
  ·cases g
  ·exact r.rel id o d g
 inj:=λi j oi oj di dj gi gj wi hij=>by
  rw[H.get_upd _ _ _ _ (oI (r.lt b hd) r.cap)]at gi gj;split at gi
  ·cases gi
  ·split at gj
   ·cases gj
   ·exact r.inj i j oi oj di dj gi gj wi hij
theorem Mv.kill {ρ:Env}{D:Nat->Prop}{h:H}{w:World}(r:HR ρ D h w) {b:Nat}(hd:D b):Mv ρ D h w ρ (h.upd b none) w where
 nx:=oP _
 size:=oP _
 os:=rfl
 tape:=rfl
 output:=rfl
 agree:=Agree.refl _ _
 old:=λid o1 _ g1=>by
  rw[H.get_upd _ _ _ _ (oI (r.lt b hd) r.cap)]at g1;split at g1
  ·cases g1
  ·exact⟨o1,g1,rfl⟩
 img:=λid _ a b _=>by simp only[H.upd_eq]at b;omega
 frame:=λ_ _ _=>rfl
 low:=by rw[H.low_upd];omega
 kept:=λid _ hl=>by
  rw[H.low_upd]at hl;rw[H.get_upd _ _ _ _ (oI (r.lt b hd) r.cap),if_neg (by omega)]
theorem HR.move {ρ:Env}{D:Nat->Prop}{h:H}{w:World}(r:HR ρ D h w) {b:Nat}{o o':O}{x:Obj}(hd:D b) (hg:h.get b=some o) (hw:o.wr=true) (hn:h.nx<T.top) (cp:Nat)
  (hx:ORel (ρ.at h.nx (ρ.blk b) cp) (Dx D h ((h.upd b none).new o')) h.nx o' (some x)) :
  HR (ρ.at h.nx (ρ.blk b) cp) (Dx D h ((h.upd b none).new o')) ((h.upd b none).new o') (w.putObj (ρ.blk b) x):=by
 have hnd:¬D h.nx:=λhd=>by have:=r.lt _ hd;omega
 have hag:Agree D ρ (ρ.at h.nx (ρ.blk b) cp):=Env.at_agree hnd;have hb:b<T.top:=oI (r.lt b hd) r.cap;have hcase:∀id,Dx D h ((h.upd b none).new o') id->id=h.nx\/(D id/\id≠h.nx):=by
  rintro id (d|d)
  ·exact .inr ⟨d,λe=>hnd (e ▸ d)⟩
  ·simp only[H.new_eq,H.upd_eq]at d;exact .inl (by omega)
 have hget:∀id,((h.upd b none).new o').get id=if id=h.nx then some o' else if id=b then none else h.get id:=λid=>by
  rw[H.get_new _ _ _ (by rw[xI];exact hn),xI,H.get_upd _ _ _ _ hb]
 refine⟨by simp only[H.new_eq,H.upd_eq];omega,?_,?_,?_⟩
 ·rintro id d
  rcases hcase id d with e|⟨d,_⟩
  ·simp only[H.new_eq,H.upd_eq];omega
  ·have:=r.lt id d;simp only[H.new_eq,H.upd_eq];omega
 ·rintro id o1 d g1
  rw[hget]at g1;rcases hcase id d with e|⟨d1,e⟩
  ·subst e
   rw[if_pos rfl]at g1;cases g1;rw[Env.at_blk,World.putObj_heap_same (r.lt_size hd hg)];exact hx
  ·rw[if_neg e]at g1
   split at g1
   ·cases g1
   ·rename_i hne
    have hne':ρ.blk id≠ρ.blk b:=λhc=>hne (r.inj b id o o1 hd d1 hg g1 hw hc.symm).symm
    rw[(hag id d1).1,World.putObj_heap_other hne'];exact(r.rel id o1 d1 g1).agree d1 wN hag
 ·rintro i j oi oj di dj gi gj wi hij
  rw[hget]at gi gj;rcases hcase i di with ei|⟨di,ei⟩<;>rcases hcase j dj with ej|⟨dj,ej⟩
  ·rw[ei,ej]
  ·rw[if_neg ej]at gj
   split at gj
   ·cases gj
   ·rename_i hne
    subst ei;rw[Env.at_blk,(hag j dj).1]at hij;exact absurd (r.inj b j o oj hd dj hg gj hw hij).symm hne
  ·rw[if_neg ei]at gi
   split at gi
   ·cases gi
   ·rename_i hne
    subst ej;rw[Env.at_blk,(hag i di).1]at hij;exact absurd (r.inj i b oi o di hd gi hg wi hij) hne
  ·rw[if_neg ei]at gi;rw[if_neg ej]at gj
   split at gi
   ·cases gi
   ·split at gj
    ·cases gj
    ·rw[(hag i di).1,(hag j dj).1]at hij
     exact r.inj i j oi oj di dj gi gj wi hij
theorem Mv.move {ρ:Env}{D:Nat->Prop}{h:H}{w:World}(r:HR ρ D h w) {b:Nat}{o o':O}{x:Obj}(hd:D b) (hg:h.get b=some o) (hw:o.wr=true) (hw':o'.wr=true) (hn:h.nx<T.top) (cp:Nat) :
  Mv ρ D h w (ρ.at h.nx (ρ.blk b) cp) ((h.upd b none).new o') (w.putObj (ρ.blk b) x):=by
 have hnd:¬D h.nx:=λhd=>by have:=r.lt _ hd;omega
 have hb:b<T.top:=oI (r.lt b hd) r.cap;have hbn:b<h.nx:=r.lt b hd;have hget:∀id,((h.upd b none).new o').get id=if id=h.nx then some o' else if id=b then none else h.get id:=λid=>by
  rw[H.get_new _ _ _ (by rw[xI];exact hn),xI,H.get_upd _ _ _ _ hb]
 refine⟨by simp[H.new_eq,H.upd_eq],by simp,rfl,rfl,rfl,Env.at_agree hnd,?_,?_,?_,?_,?_⟩
 ·intro id o1 hlt g1
  rw[hget,if_neg (by omega)]at g1;split at g1
  ·cases g1
  ·exact⟨o1,g1,rfl⟩
 ·intro id o1 h0 h1 g1
  simp only[H.new_eq,H.upd_eq]at h1;obtain rfl:id=h.nx:=by omega
  rw[hget,if_pos rfl]at g1;cases g1;exact⟨hw',.inr ⟨b,o,hd,hg,hw,by rw[Env.at_blk],by rw[hget,if_neg (by omega),if_pos rfl]⟩⟩
 ·intro k _ hk
  exact World.putObj_heap_other (λe=>hk b o hd hg hw e.symm)
 ·show(h.upd b none).low<=h.low
  rw[H.low_upd];omega
 ·intro id h0 hl
  have hl':id<(h.upd b none).low:=hl;rw[H.low_upd]at hl';rw[hget,if_neg (by omega),if_neg (by omega)]
section
variable {P:Program}{c:Ctx}{ρ:Env}{D:Nat->Prop}{h:H}{w:World}
theorem zLQ (r:HR ρ D h w) {esz:Nat}{x:V}{n:Nat}{new:List V}(e:wX esz h x=some (n,new)) (hx:x.In D) (h1:zL new=true) {tx:TypeId}
  (hk:(∃e',P.underlying tx=some (.slice e'))\/P.underlying tx=some .string) :
  Src P esz tx (x.conc ρ) n (new.map (V.conc ρ)) w/\(∀v∈new,v.In D)/\new.length=n*esz:=by
 have hone:∀u∈new.map (V.conc ρ),u.oneCell'=true:=λu hu=>by
  obtain⟨v,hv,rfl⟩:=List.mem_map.1 hu;exact V.one_conc ρ (yc.1 h1 v hv)
 unfold wX at e;split at e
 ·simp only[oA,oB]at e;obtain⟨rfl,rfl⟩:=e
  refine⟨⟨hk,λ_=>by simp[V.conc,Builtin.lenOf],by simp[V.conc,Builtin.firstCells],by simp[V.conc,Builtin.firstCells],by simp,λ_ hu=>by simp at hu⟩,λ_ hv=>by simp at hv,by simp⟩
 ·rename_i l
  cases hb:Nat.beq esz 1 with
  | false=>simp[hb]at e
  | true =>
   have h1':=oF hb;simp only[hb,oK,oA,oB]at e;obtain⟨rfl,rfl⟩:=e;subst h1';have hbc:(yI l).map (V.conc ρ)=byteCells ⟨l.toArray⟩:=by
    simp[yY,byteCells,V.conc]
   have hsz:(⟨l.toArray⟩:ByteArray).size=kX l 0:=by rw[jW,yk];rfl
   refine⟨⟨hk,λ_=>by simp[V.conc,Builtin.lenOf,hsz],?_,?_,?_,hone⟩,jk l,?_⟩
   ·rw[hbc,V.conc,<-hsz];exact firstCells_string _ _
   ·rw[hbc,V.conc,<-hsz];exact firstCells_string _ _
   ·rw[ol,yY,ol,yk];omega
   ·rw[yY,ol,yk];omega
 ·rename_i b o len cp
  simp only[V.In]at hx;split at e
  ·rename_i l esz' wr op hg
   split at e
   ·rename_i y hy
    simp only[oA,oB]at e;obtain⟨rfl,rfl⟩:=e;obtain⟨p1,p2,p3⟩:=wc (P:=P) r hx hg hy;obtain⟨q1,_,_⟩:=wc (P:=P) (w:=w.drew) (r.of_heap rfl) hx hg hy;exact⟨⟨hk,λ_=>rfl,p1,q1,by rw[ol,p3],hone⟩,p2,p3⟩
   ·cases e
  ·cases e
 ·cases e
theorem zKa (n:Nat):∀(k c:Nat),c<=n->Builtin.growBy n k c<=2*n+200:=by
 intro k
 induction k with
 | zero=>intro c hc;simp only[Builtin.growBy];omega
 | succ k ih =>
  intro c hc;simp only[Builtin.growBy];split
  ·omega
  ·by_cases h:c+(c+768)/4<=n
   ·exact ih _ h
   ·have:∀k c,n<=c->Builtin.growBy n k c=c:=by
     intro k;cases k with
     | zero=>intro c _;rfl
     | succ k=>intro c hc;simp only[Builtin.growBy];rw[if_pos hc]
    rw[this _ _ (by omega)];omega
theorem zHS (need old:Nat) (h:old<need):Builtin.nextslicecap need old<=2*need+200:=by
 unfold Builtin.nextslicecap;split
 ·omega
 ·split
  ·omega
  ·exact zKa need 4 old (by omega)
theorem zAh {te:TI}(h:kB te=true):0<te.size/\0<te.bytes/\∃z,te.zero=some z/\z.cells.length=te.size:=by
 unfold kB at h;simp only[oG]at h;obtain⟨⟨h1,h2⟩,h3⟩:=h;refine⟨(zY _ _).1 h1,(zY _ _).1 h2,?_⟩;split at h3
 ·rename_i z hz;exact⟨z,hz,yl.1 h3⟩
 ·cases h3
structure SrcR (P:Program) (t tx ty el:TypeId) (i:TypeInfo) (x:Value) (n:Nat) (news:List Value) (w:World):Prop where
 room:∀(b off sLen sCap:Nat),sLen+n<=sCap->(∀j,j<news.length->(w.cell? ⟨b,off+sLen*i.size+j,none⟩).isSome=true)->(∀j,j<news.length->w.frozen? ⟨b,off+sLen*i.size+j,none⟩=false) ->
  (Builtin.append_ #[t,tx] ty #[.slice (some ⟨b,off,none⟩) sLen sCap,x]).run P w = .ok (.slice (some ⟨b,off,none⟩) (sLen+n) sCap) (w.setCells b (off+sLen*i.size) news)
 grow:∀(z:Value),i.zero=some z->∀(base:Option Addr) (sLen sCap:Nat) (olds:List Value),(Builtin.firstCells i.size sLen (.slice base sLen sCap)).run P w.drew = .ok olds.toArray w.drew->sCap<sLen+n->((sLen+n:Nat):Int)<=9223372036854775807->Builtin.nextslicecap (sLen+n) sCap*i.bytes<=281474976710656 ->
  (Builtin.append_ #[t,tx] ty #[.slice base sLen sCap,x]).run P w =
   .ok (.slice (some ⟨w.heap.size,0,none⟩) (sLen+n) (grownCap w (sLen+n) sCap el))
    (w.drew.alloc (.cells ((olds++news).toArray++Builtin.zeroCells z.cells (grownCap w (sLen+n) sCap el-(sLen+n))) el))
 none:n=0->∀(base:Option Addr) (sLen sCap:Nat),sLen<=sCap->(Builtin.append_ #[t,tx] ty #[.slice base sLen sCap,x]).run P w = .ok (.slice base sLen sCap) w
theorem SrcR.of {t tx ty el:TypeId}{i:TypeInfo}(ht:P.underlying t=some (.slice el)) (hi:P.info? el=some i) {x:Value}{n:Nat}{news:List Value}(hs:Src P i.size tx x n news w):SrcR P t tx ty el i x n news w:=by
 refine⟨λb off sLen sCap hroom hc hf=>run_append_room_src w t tx ty el i ht hi b off sLen sCap x n news hs hroom hc hf,λz hz base sLen sCap olds hold hg h63 hfit=>run_append_grow_src w t tx ty el i z ht hi hz base sLen sCap olds hold x n news hs hg h63 hfit,λh0 base sLen sCap hle=>?_⟩
 subst h0;have hn:news=[]:=List.eq_nil_of_length_eq_zero (by rw[hs.newsLen,Nat.zero_mul]);subst hn;have hc:=hs.cells;rcases hs.kind with⟨e',hk⟩|hk <;>
  (cases base<;>simp[Builtin.append_,underlying,ht,hk,sizeOf,typeInfo,hi,hs.len,hc,hle,storeCells])
theorem SrcR.zeros {t tx ty el:TypeId}{i:TypeInfo}{ki:IntKind}(ht:P.underlying t=some (.slice el)) (hi:P.info? el=some i) (hk:P.underlying tx=some (.int ki)) {k:Nat}{z u:Value}(hz:i.zero=some z) (hzc:z.cells = #[u]) (h1:i.size=1) (hu:0<k->u.oneCell'=true) (hb:k*i.bytes<=1099511627776) (hkb:k<=1099511627776) :
  SrcR P t tx ty el i (.int .i64 (k:Int)) k (List.replicate k u) w:=by
 have hw:IntKind.i64.wrap (k:Int)=(k:Int):=by
  simp only[IntKind.wrap,IntKind.bits,IntKind.signed];simp;omega
 have hbi:¬(281474976710656<(k:Int)*(i.bytes:Int)):=by
  have:((k*i.bytes:Nat):Int)<=1099511627776:=by omega
  rw[Int.natCast_mul]at this;omega
 have hzs:Builtin.zeroCells #[u] k=(List.replicate k u).toArray:=by
  apply Array.ext
  ·simp[Builtin.zeroCells]
  ·intro j h1 h2
   simp[Builtin.zeroCells,Nat.mod_one]
 have hneg:¬((k:Int)<0):=by omega
 have hai:∀w:World,(asInt (.int .i64 (k:Int))).run P w = .ok (k:Int) w:=λw=>by simp[asInt,asIntOf]
 have hone:∀v∈List.replicate k u,v.oneCell'=true:=λv hv=>by rw[List.eq_of_mem_replicate hv];exact hu (Nat.pos_of_ne_zero (List.mem_replicate.1 hv).1)
 have happ:∀w:World,((if k*i.size=0 then pure #[] else do pure (Builtin.zeroCells (<-zeroValue el).cells k):Sem (Array Value))).run P w = .ok (List.replicate k u).toArray w:=λw=>by
  rcases Nat.eq_zero_or_pos k with h0|h0
  ·subst h0;simp
  ·have h0':¬k=0:=by omega
   simp[h1,h0',zeroValue,typeInfo,hi,hz,hzc,hzs]
 refine⟨λb off sLen sCap hroom hc hf=>?_,λz' hz' base sLen sCap olds hold hg h63 hfit=>?_,λh0 base sLen sCap hle=>?_⟩
 ·have hst:=run_storeCells_cells (P:=P) b (off+sLen*i.size) (List.replicate k u) 0 w (by simpa using hc) (by simpa using hf) hone
  simp only[Nat.add_zero]at hst;rw[h1]at hst happ;simp[Builtin.append_,run_underlying ht,run_underlying hk,sizeOf,typeInfo,hi,h1,hai,hw,hneg,hbi,hroom,Addr.add_lit];simp only[Nat.mul_one]at hst;have hzv:∀w:World,(zeroValue el).run P w = .ok z w:=λw=>by simp[zeroValue,typeInfo,hi,hz]
  split
  ·rename_i h0;subst h0;rw[List.replicate_zero]at hst;rw[hst];simp
  ·simp only[hzv,Result.andThen,hzc,hzs,hst]
 ·rw[hz]at hz'
  cases hz';have hn:¬(sLen+k<=sCap):=by omega
  have h63':¬(9223372036854775807<((sLen:Int)+(k:Int))):=by omega
  have h48':¬(281474976710656<Builtin.nextslicecap (sLen+k) sCap*i.bytes):=by omega
  rw[h1]at happ hold;simp[Builtin.append_,run_underlying ht,run_underlying hk,sizeOf,typeInfo,zeroValue,hi,hz,hzc,h1,hai,hw,hneg,hbi,hn,h63',h48',Question.forced,hold,newRow,grownCap];split
  ·rename_i h0;subst h0;simp
  ·simp only[hzs]
   simp
   congr 2
   apply Array.ext';simp[List.append_assoc]
 ·subst h0
  cases base<;>simp[Builtin.append_,run_underlying ht,run_underlying hk,sizeOf,typeInfo,hi,asInt,asIntOf,show IntKind.i64.wrap 0=0 from rfl,hle,storeCells]
theorem Yu {h0:H}(hr0:HR ρ D h0 w) (hmv:Mv ρ D h w ρ h0 w) (hDn:h0.nx=h.nx) (hlt:∀id,D id->id<h.nx)
  {t tx ty:TypeId}{el:Nat}{te:TI}{i2:TypeInfo}(k2:TyOK P el te i2) (_:P.underlying t=some (.slice el)) (hok:kB te=true)
  {base:Option Addr}{len cap n:Nat}{x:Value}{old new:List V}{v:V}{h':H}{kr:Rk}(hkn:kr.n=te.size) (hkt:∀u,kr.ty=u+1->el=u)
  {rc:Option Cs}(hrc:∀cs,rc=some cs->cs.len=(old++new).length/\∀i,cs.get? i=(old++new)[i]?) (e:jC kr te h0 rc (len+n)=some (v,h')) (hold:∀u∈old,u.In D) (hnew:∀u∈new,u.In D) (hol:old.length=len*te.size) (hnl:new.length=n*te.size)
  (hfirst:(Builtin.firstCells te.size len (.slice base len cap)).run P w.drew = .ok (old.map (V.conc ρ)).toArray w.drew)
  (hs:SrcR P t tx ty el i2 x n (new.map (V.conc ρ)) w) (hg:cap<len+n) :
  Post ρ D h w ((Builtin.append_ #[t,tx] ty #[.slice base len cap,x]).run P w) v h':=by
 obtain⟨ts,tb,z,hz,hzl⟩:=zAh hok;obtain⟨zv,hz1,hz2⟩:=k2.zero z hz;obtain⟨hzc,hzi⟩:=YN hz2;unfold jC at e;cases hb:Nat.ble ((len+n)*te.bytes) 1099511627776 with
 | false=>simp[hb]at e
 | true =>
  simp only[hb,oK]at e;have hbytes:=oE hb;split at e
  ·rename_i b' h1 hn
   simp only[oA,oB]at e;obtain⟨rfl,rfl⟩:=e;obtain⟨g1,ccs,g2,rfl,rfl⟩:=Xm hn;obtain⟨cl,cg⟩:=hrc ccs g2;have hneed:len+n<=(len+n)*te.bytes:=Nat.le_mul_of_pos_right _ tb;have hcapb:Builtin.nextslicecap (len+n) cap*i2.bytes<=281474976710656:=by
    rw[k2.bytes];have h1:=zHS (len+n) cap hg;have h2:Builtin.nextslicecap (len+n) cap*te.bytes<=(2*(len+n)+200)*te.bytes:=Nat.mul_le_mul_right _ h1;have h3:(2*(len+n)+200)*te.bytes=2*((len+n)*te.bytes)+200*te.bytes:=by rw[Nat.add_mul,Nat.mul_assoc]
    have h4:te.bytes<=(len+n)*te.bytes:=Nat.le_mul_of_pos_left _ (by omega);omega
   have hrun:=hs.grow zv hz1 base len cap (old.map (V.conc ρ)) (by rw[k2.size];exact hfirst) hg (by omega) hcapb;have hge:=grownCap_ge w (len+n) cap el;generalize grownCap w (len+n) cap el=cp at hrun hge;have hzv:zv.cells=(z.cells.map (V.conc ρ)).toArray:=by rw[<-hzc ρ,V.cells_conc]
   have hzsz:(Builtin.zeroCells zv.cells (cp-(len+n))).size=(cp-(len+n))*te.size:=by
    simp[Builtin.zeroCells,hzv,hzl]
   let cs:Array Value:=((old.map (V.conc ρ))++(new.map (V.conc ρ))).toArray++Builtin.zeroCells zv.cells (cp-(len+n))
   have hcs:cs.size=cp*te.size:=by
    simp only[cs,Array.size_append,List.size_toArray,oU,ol,hol,hnl,hzsz];rw[<-Nat.add_mul,<-Nat.add_mul];congr 1;omega
   have hrd:HR ρ D h0 w.drew:=hr0.of_heap rfl;obtain⟨a1,a2⟩:=OI hrd g1 (l:=ccs) (esz:=kr) (op:=true) (λi u hu=>(List.mem_append.1 (List.mem_of_getElem? (by rw[<-cg];exact hu))).elim (hold u) (hnew u)) cs el (0,0) cp
    (λi u hu=>by
     rw[cg]at hu;have hi:i<(old++new).length:=(List.getElem?_eq_some_iff.1 hu).1;simp only[cs];rw[Array.getElem?_append_left (by simpa using hi),List.getElem?_toArray,<-List.map_append,oW,hu];rfl)
    (λi _ _=>by simp) (by rw[hcs,cl,oU,hol,hnl,<-Nat.add_mul];exact Nat.mul_le_mul_right _ hge) (by rw[hcs];simp[hkn]) (λu hu=>⟨hkt u hu,.inl rfl⟩)
   have hDx:Dx D h (h0.new (.cells ccs kr true true))=Dx D h0 (h0.new (.cells ccs kr true true)):=by
    unfold Dx;rw[hDn]
   refine⟨_,_,?_,Mv.trans hlt hmv (by rw[wu hDn];exact Mv.trans hr0.lt (Mv.of_heap (w':=w.drew) rfl rfl rfl rfl) (by rw[ze];exact a2)),by rw[hDx];exact a1,by rw[hDx];simp only[V.In];exact zCY⟩;rw[hrun];simp only[V.conc,Cap.val,Env.at_blk,Env.at_off,Env.at_cap,Nat.sub_zero,World.size_drew];rfl
  ·cases e
end
end Go.Sim
namespace Go.Sim
section
variable {P:Program}{c:Ctx}{ρ:Env}{D:Nat->Prop}{h:H}{w:World}
theorem KG (r:HR ρ D h w) {t tx ty:TypeId}{el:Nat}{te:TI}{i2:TypeInfo}(k2:TyOK P el te i2) (_:P.underlying t=some (.slice el))
  {b o len n need:Nat}{esz':Rk}{cp:Cap}{l:Cs}{new:List V}{op:Bool}{x:Value}{v:V}{h':H}(e:qE h b o len cp te.size need l esz' op new=some (v,h')) (hneed:need=len+n)
  (hd:D b) (hg:h.get b=some (.cells l esz' true op)) (hnew:∀u∈new,u.In D) (h1:zL new=true)
  (hs:SrcR P t tx ty el i2 x n (new.map (V.conc ρ)) w) (hroom:need<=cp.val ρ b) :
  Post ρ D h w ((Builtin.append_ #[t,tx] ty #[(V.slice b o len cp).conc ρ,x]).run P w) v h':=by
 subst hneed;unfold qE at e;split at e
 ·rename_i l' hl'
  cases hfk:Nat.ble esz'.fz (o+len*te.size)with
  | false=>rw[hfk]at e;cases e
  | true =>
  rw[hfk,oK]at e;simp only[oA,oB]at e;obtain⟨rfl,rfl⟩:=e;obtain⟨_,s2,s3,s4,s5⟩:=jg (P:=P) r hd hg hnew h1 hl' (oE hfk);have hrun:=hs.room (ρ.blk b) (ρ.off b+o) len (cp.val ρ b) hroom
   (λj hj=>by rw[ol]at hj;rw[k2.size,Nat.add_assoc (ρ.off b)];exact s4 j hj)
   (λj hj=>by rw[ol]at hj;rw[k2.size,Nat.add_assoc (ρ.off b)];exact s5 j hj)
  rw[k2.size,Nat.add_assoc (ρ.off b)]at hrun;exact⟨ρ,_,by rw[V.conc,hrun,V.conc],s3,by rw[wu (xI _ _ _)];exact s2,by rw[wu (xI _ _ _)];simpa [V.In]using hd⟩
 ·cases e
theorem z1U {el:Nat}{te:TI}{i2:TypeInfo}(k2:TyOK P el te i2):∀u,(jU te).ty=u+1->el=u:=λu hu=>by
 have:=k2.id;simp only[jU]at hu;omega
theorem zVw {l cs:Cs}{old new:List V}{m:Nat}(p3:old.length=m) (hold:l.range 0 m=some old) (hll:l.len=m) (h:l.app new=some cs) :
  cs.len=(old++new).length/\∀i,cs.get? i=(old++new)[i]?:=by
 obtain⟨a,b⟩:=Cs.app_eq h;obtain⟨_,_,r3⟩:=Cs.range_eq hold;refine⟨by rw[a,oU];omega,λi=>?_⟩
 rw[b i];by_cases hi:i<l.len
 ·rw[if_pos hi,List.getElem?_append_left (by omega),r3 i (by omega),Nat.zero_add]
 ·rw[if_neg hi,List.getElem?_append_right (by omega)]
  congr 1;omega
theorem KH {t tx ty el:TypeId}{te:TI}{i2:TypeInfo}(k2:TyOK P el te i2) (ht:P.underlying t=some (.slice el)) (hok:kB te=true) {n:Nat}{new:List V}{s v:V}{x:Value}{h':H}
  (e:appTo te h n new s=some (v,h')) (r:HR ρ D h w) (hs:s.In D) (h0:n=0->new=[]) (hS:zL new=true->SrcR P t tx ty el i2 x n (new.map (V.conc ρ)) w/\(∀u∈new,u.In D)/\new.length=n*te.size) :
  Post ρ D h w ((Builtin.append_ #[t,tx] ty #[s.conc ρ,x]).run P w) v h':=by
 obtain⟨ts,tb,z,hz,hzl⟩:=zAh hok;unfold appTo at e;split at e
 · -- nil
  cases hn0:Nat.beq n 0 with
  | true =>
   have n0:=oF hn0;simp only[hn0,oK,oA,oB]at e;obtain⟨rfl,rfl⟩:=e;subst n0;have new0:new=[]:=h0 rfl;obtain⟨hS,_,_⟩:=hS (by rw[new0];rfl);refine Post.of_eq ?_ (Post.pure r (v:=.nilslice) (by simp[V.In]));simpa [V.conc]using hS.none rfl none 0 0 (oP _)
  | false =>
   simp only[hn0,oM]at e;have hn:0<n:=by
    rcases Nat.eq_zero_or_pos n with g|g
    ·subst g;simp at hn0
    ·exact g
   cases hone:zL new with
   | false =>
    rw[hone,oM]at e;unfold jC qV at e;cases hb1:Nat.ble (n*te.bytes) 1099511627776<;>cases hb2:Nat.blt h.nx T.top<;>simp[hb1,hb2]at e
   | true =>
   rw[hone,oK]at e;obtain⟨hS,hin,hnl⟩:=hS hone;have:=Yu (P:=P) (h:=h) r (Mv.refl _ _ _ _) rfl r.lt (ty:=ty) k2 ht hok (base:=none) (len:=0) (cap:=0) (n:=n) (x:=x) (old:=[]) (new:=new) (v:=v) (h':=h') (kr:=jU te) rfl (z1U k2) (λ_ h=>Cs.ofL_eq h)
    (by simpa using e) (λu hu=>by simp at hu) hin (by simp) hnl (by simp[Builtin.firstCells]) hS (by omega)
   simpa [V.conc]using this
 · -- a slice
  rename_i b o len cp;simp only[V.In]at hs;split at e
  ·rename_i l esz' wr op hg
   split at e
   · -- a known capacity
    rename_i kk;unfold kH at e;cases hle:Nat.ble (len+n) kk with
    | true =>
     simp only[hle,oK]at e;cases hwr:(wr && zL new)with
     | false=>simp[hwr]at e
     | true =>
      simp only[hwr,oK]at e;simp only[oG]at hwr;obtain⟨rfl,hone⟩:=hwr;obtain⟨hS,hin,hnl⟩:=hS hone;exact KG r k2 ht e rfl hs hg hin hone hS (by simpa [Cap.val]using oE hle)
    | false =>
     simp only[hle,oM]at e;have hlt:kk<len+n:=by have:=(jM _ _).1 hle;omega
     cases hrc:Kf l o (len*te.size) new with
     | none =>
      rw[hrc]at e;unfold jC qV at e;cases hb1:Nat.ble ((len+n)*te.bytes) 1099511627776<;>cases hb2:Nat.blt h.nx T.top<;>simp[hb1,hb2]at e
     | some ccs =>
     obtain⟨old,hold,hone,hofl⟩:∃old,l.range o (len*te.size)=some old/\zL new=true/\Cs.ofL (old++new)=some ccs:=by
      unfold Kf at hrc;split at hrc
      ·rename_i old hold
       cases h1:zL new with
       | false=>simp[h1]at hrc
       | true=>rw[h1,oK]at hrc;exact⟨old,hold,rfl,hrc⟩
      ·cases hrc
     rw[hrc]at e;obtain⟨p1,p2,p3⟩:=wc (P:=P) (w:=w.drew) (r.of_heap rfl) hs hg hold;obtain⟨hS,hin,hnl⟩:=hS hone;have:=Yu (P:=P) (h:=h) r (Mv.refl _ _ _ _) rfl r.lt (ty:=ty) k2 ht hok (base:=some ⟨ρ.blk b,ρ.off b+o,none⟩) (len:=len) (cap:=kk) (n:=n) (x:=x) (kr:=jU te) rfl (z1U k2) (rc:=some ccs) (λcs h=>by cases h;exact Cs.ofL_eq hofl) e p2 hin p3 hnl
      (by simp only[Builtin.firstCells];exact p1) hS hlt
     simpa [V.conc,Cap.val]using this
   · -- an unknown one
    rename_i kk;unfold ka at e;cases hcnd:(wr && op && Nat.beq te.size esz'.n && Nat.beq o (kk*te.size) && zL new && Nat.ble (o+len*te.size) l.len)with
    | false=>simp[hcnd]at e
    | true =>
     simp only[hcnd,oK]at e;simp only[oG]at hcnd;obtain⟨⟨⟨⟨⟨c1,c2⟩,c3⟩,c4⟩,hone⟩,c5⟩:=hcnd;subst c1;subst c2;have c3':=oF c3;have c4':=oF c4;obtain⟨hS,hin,hnl⟩:=hS hone;obtain⟨cc,ee,fz,hxx,hcell,hcin,hw⟩:=r.rel b _ hs hg;obtain⟨hoff,hfz,hlel,hsz,hty⟩:=hw rfl;have hsz':cc.size=ρ.cap b*te.size:=by rw[hsz,<-c3'];simp
     have room:∀m,o+m*te.size<=l.len->kk+m<=ρ.cap b:=by
      intro m hm;have h1:(kk+m)*te.size<=ρ.cap b*te.size:=by rw[Nat.add_mul];omega
      exact Nat.le_of_mul_le_mul_right h1 ts
     have hlen':o+len*te.size<=l.len:=oE c5;obtain⟨old,hold⟩:=Cs.range_some hlen';obtain⟨p1,p2,p3⟩:=wc (P:=P) (w:=w.drew) (r.of_heap rfl) hs hg hold;cases hn0:Nat.beq n 0 with
     | true =>
      have n0:=oF hn0;subst n0;simp only[hn0,oK,oA,oB]at e;obtain⟨rfl,rfl⟩:=e;have new0:new=[]:=List.eq_nil_of_length_eq_zero (by omega);subst new0;have hcap:=room len hlen';refine Post.of_eq ?_ (Post.pure r (v:=.slice b o len (.skip kk)) (by simpa [V.In]using hs));simpa [V.conc,Cap.val]using hS.none rfl (some ⟨ρ.blk b,ρ.off b+o,none⟩) len (ρ.cap b-kk) (by omega)
     | false =>
      simp only[hn0,oM]at e;have hn:0<n:=by
       rcases Nat.eq_zero_or_pos n with g|g
       ·subst g;simp at hn0
       ·exact g
      split at e
      · -- within the known row
       rename_i q2 hq2;simp only[oA]at e;subst e;have hfit:o+(len+n)*te.size<=l.len:=by
        unfold qE at hq2;split at hq2
        ·rename_i l' hl'
         obtain⟨s1,_,_⟩:=Cs.put_eq hl';rw[Nat.add_mul];omega
        ·cases hq2
       have:=room (len+n) hfit;exact KG r k2 ht hq2 rfl hs hg hin hone hS (by simp only[Cap.val];omega)
      · -- at its end
       unfold Yj at e;cases hend:(Nat.beq kk 0 && Nat.beq l.len (o+len*te.size) && Nat.ble esz'.fz (o+len*te.size) && (Nat.beq esz'.ty 0 || Nat.beq esz'.ty (te.id+1)))with
       | false=>simp[hend]at e
       | true =>
        simp only[hend,oK]at e;simp only[oG]at hend;have k0:=oF hend.1.1.1;have hll:=oF hend.1.1.2;have hfk:=oE hend.1.2;have hkt:∀u,esz'.ty=u+1->el=u:=λu hu=>by
         have:=hend.2;simp only[Bool.or_eq_true]at this;rcases this with g|g
         ·have:=oF g;omega
         ·have g1:esz'.ty=te.id+1:=oF g
          have g2:te.id=el:=k2.id;have g3:u+1=te.id+1:=hu.symm.trans g1;exact g2.symm.trans (Nat.succ.inj g3).symm
        subst k0;have o0:o=0:=by omega
        subst o0;rw[Nat.zero_add]at hll;by_cases hroom:len+n<=ρ.cap b
        · -- it grows in its place
         unfold jC at e;cases hb:Nat.ble ((len+n)*te.bytes) 1099511627776 with
         | false=>simp[hb]at e
         | true =>
          simp only[hb,oK]at e;split at e
          ·rename_i b' h1 hnn
           simp only[oA,oB]at e;obtain⟨rfl,rfl⟩:=e;obtain⟨g1,ccs,g2,rfl,rfl⟩:=Xm hnn;obtain⟨ca,cg⟩:=Cs.app_eq g2;have hroomc:ρ.off b+len*te.size+(new.map (V.conc ρ)).length<=cc.size:=by
            rw[hoff,ol,hnl,hsz',Nat.zero_add,<-Nat.add_mul];exact Nat.mul_le_mul_right _ hroom
           obtain⟨c',e1,e2,e3⟩:=JC (new.map (V.conc ρ)) hxx hroomc;have hrun:=hS.room (ρ.blk b) (ρ.off b+0) len (ρ.cap b-0) (by omega)
            (λj hj=>by
             rw[k2.size,Nat.add_zero,j8 hxx,Array.getElem?_eq_getElem (by omega)];rfl)
            (λj hj=>by
             rw[k2.size,Nat.add_zero];exact Y8 hxx (hfz _ (by omega) (by omega)))
           rw[k2.size,Nat.add_zero,e1]at hrun;have hO:ORel (ρ.at h.nx (ρ.blk b) (ρ.cap b)) (Dx D h ((h.upd b none).new (.cells ccs esz' true true))) h.nx (.cells ccs esz' true true) (some (.cells c' ee fz)):=by
            have hnd:¬D h.nx:=λhd=>by have:=r.lt _ hd;omega
            have hag:Agree D ρ (ρ.at h.nx (ρ.blk b) (ρ.cap b)):=Env.at_agree hnd;have hmem:∀i u,ccs.get? i=some u->u.In D:=λi u hu=>by
             rw[cg i]at hu;split at hu
             ·exact hcin i u hu
             ·exact hin u (List.mem_of_getElem? hu)
            refine⟨c',ee,fz,rfl,λi u hu=>?_,λi u hu=>V.In_mono wN _ (hmem i u hu),λ_=>⟨Env.at_off _ _ _ _,by rw[e2];exact hfz,?_,?_,hty⟩⟩
            ·rw[Env.at_off,Nat.zero_add,V.conc_agree hag u (hmem i u hu),e3 i,hoff,Nat.zero_add,ol]
             rw[cg i]at hu;by_cases hi:i<l.len
             ·rw[if_pos hi]at hu
              rw[if_neg (by omega)];have:=hcell i u hu
              rwa [hoff,Nat.zero_add]at this
             ·rw[if_neg hi]at hu
              have hi2:=(List.getElem?_eq_some_iff.1 hu).1;rw[if_pos (by omega),oW];rw[show i-len*te.size=i-l.len from by omega,hu];rfl
            ·rw[e2,hsz',ca,hnl,hll,<-Nat.add_mul];exact Nat.mul_le_mul_right _ hroom
            ·rw[e2,Env.at_cap,hsz'];simp[<-c3']
           refine⟨_,_,?_,Mv.move r hs hg rfl rfl g1 (ρ.cap b),HR.move r hs hg rfl g1 (ρ.cap b) hO,by simp only[V.In];exact .inr ⟨oP _,by simp[H.new_eq,kg,H.upd_eq]⟩⟩;simp only[V.conc,Cap.val,Nat.add_zero,Nat.sub_zero,kg,xI,Env.at_blk,Env.at_off,Env.at_cap]at hrun ⊢;rw[hrun,hoff]
          ·cases e
        · -- it is laid ZV
         have:=Yu (P:=P) (h:=h) (h0:=kg h b) (r.kill hs) (Mv.kill r hs) rfl r.lt (ty:=ty) k2 ht hok (base:=some ⟨ρ.blk b,ρ.off b+0,none⟩) (len:=len) (cap:=ρ.cap b) (n:=n) (x:=x) (kr:=esz') c3'.symm hkt (rc:=l.app new) (λcs h=>zVw p3 hold hll h) e p2 hin p3 hnl
          (by simp only[Builtin.firstCells];exact p1) hS (by omega)
         simpa [V.conc,Cap.val]using this
  ·cases e
 ·cases e
theorem Y1 (ok:CtxOK P c) {t tx:TypeId}{s x v:V}{h':H}(e:za c t h s x=some (v,h')) (r:HR ρ D h w) (hs:s.In D) (hx:x.In D)
  (hk:(∃e',P.underlying tx=some (.slice e'))\/P.underlying tx=some .string) (ty:TypeId) :
  Post ρ D h w ((Builtin.append_ #[t,tx] ty #[s.conc ρ,x.conc ρ]).run P w) v h':=by
 unfold za at e;split at e
 ·rename_i ti hti
  obtain⟨i,k⟩:=ok.ty t ti hti;split at e
  ·rename_i el hd
   have ht:P.underlying t=some (.slice el):=by rw[k.und,hd]
   split at e
   ·rename_i te hte
    obtain⟨i2,k2⟩:=ok.ty el te hte;cases hok:kB te with
    | false=>simp[hok]at e
    | true =>
     simp only[hok,oK]at e;split at e
     ·cases e
     ·rename_i n new hsrc
      refine KH k2 ht hok e r hs (λn0=>?_) λhone=>?_
      ·subst n0
       unfold wX at hsrc;split at hsrc
       ·simp only[oA,oB]at hsrc;exact hsrc.2.symm
       ·rename_i l
        cases hb:Nat.beq te.size 1 with
        | false=>simp[hb]at hsrc
        | true =>
         simp only[hb,oK,oA,oB]at hsrc;rw[yk,Nat.add_zero]at hsrc;have:=List.eq_nil_of_length_eq_zero hsrc.1;subst this;exact hsrc.2.symm
       ·split at hsrc
        ·split at hsrc
         ·rename_i y hy
          simp only[oA,oB]at hsrc;obtain⟨h1,rfl⟩:=hsrc;obtain⟨g1,_,_⟩:=Cs.range_eq hy;rw[h1,Nat.zero_mul]at g1;exact List.eq_nil_of_length_eq_zero g1
         ·cases hsrc
        ·cases hsrc
       ·cases hsrc
      ·obtain⟨hS,hin,hnl⟩:=zLQ (P:=P) r hsrc hx hone hk
       exact⟨SrcR.of ht k2.info (by rw[k2.size];exact hS),hin,hnl⟩
   ·cases e
  ·cases e
 ·cases e
theorem zEH (ok:CtxOK P c) {t tx:TypeId}{ki:IntKind}{s x v:V}{h':H}(e:XT c t h s x=some (v,h')) (r:HR ρ D h w) (hs:s.In D) (hk:P.underlying tx=some (.int ki)) (ty:TypeId) :
  Post ρ D h w ((Builtin.append_ #[t,tx] ty #[s.conc ρ,x.conc ρ]).run P w) v h':=by
 unfold XT at e;split at e
 ·rename_i ti hti
  obtain⟨i,k⟩:=ok.ty t ti hti;split at e
  ·rename_i el hd
   have ht:P.underlying t=some (.slice el):=by rw[k.und,hd]
   split at e
   ·rename_i te hte
    obtain⟨i2,k2⟩:=ok.ty el te hte;cases hok:(kB te && Nat.beq te.size 1)with
    | false=>simp[hok]at e
    | true =>
     simp only[hok,oK]at e;simp only[oG]at hok;have hsz:=oF hok.2;split at e
     ·rename_i kk z hz
      cases hb:Nat.ble (kk*te.bytes) 1099511627776 with
      | false=>simp[hb]at e
      | true =>
       simp only[hb,oK]at e;split at e
       ·rename_i u hzu
        obtain⟨_,tb,_⟩:=zAh hok.1;obtain⟨zv,hz1,hz2⟩:=k2.zero z hz;obtain⟨hzc,hzi⟩:=YN hz2;have hbb:=oE hb;refine KH k2 ht hok.1 e r hs (λn0=>by rw[n0];rfl) λhone=>⟨?_,?_,?_⟩
        ·rw[List.map_replicate]
         have hle:kk<=kk*te.bytes:=Nat.le_mul_of_pos_right _ tb;exact SrcR.zeros ht k2.info hk hz1 (u:=u.conc ρ) (by rw[<-hzc ρ,V.cells_conc,hzu];rfl) (by rw[k2.size,hsz]) (λh0=>V.one_conc ρ (yc.1 hone u (List.mem_replicate.2 ⟨by omega,rfl⟩))) (by rw[k2.bytes];exact hbb) (by omega)
        ·intro v hv
         rw[List.eq_of_mem_replicate hv];exact V.cells_In (hzi D) u (by rw[hzu];simp)
        ·rw[List.length_replicate,hsz,Nat.mul_one]
       ·cases e
     ·cases e
   ·cases e
  ·cases e
 ·cases e
theorem zBF (ok:CtxOK P c) {t tx:TypeId}{s x v:V}{h':H}(e:Kt c tx t h s x=some (v,h')) (r:HR ρ D h w) (hs:s.In D) (hx:x.In D) (ty:TypeId) :
  Post ρ D h w ((Builtin.append_ #[t,tx] ty #[s.conc ρ,x.conc ρ]).run P w) v h':=by
 unfold Kt at e;split at e
 ·rename_i ti hti
  obtain⟨i,k⟩:=ok.ty tx ti hti;split at e
  ·rename_i hd
   exact Y1 ok e r hs hx (.inr (by rw[k.und,hd])) ty
  ·rename_i el hd
   exact Y1 ok e r hs hx (.inl ⟨el,by rw[k.und,hd]⟩) ty
  ·rename_i ki hd
   exact zEH ok e r hs (by rw[k.und,hd]) ty
  ·cases e
 ·cases e
end
end Go.Sim
namespace Go.Sim
section
variable {P:Program}{c:Ctx}{ρ:Env}{D:Nat->Prop}{h:H}{w:World}
theorem qO (r:HR ρ D h w) {esz:Nat}{x:V}{n m:Nat}{new cs:List V}(e:wX esz h x=some (n,new)) (hx:x.In D) (hm:m<=n) (ht:kh (m*esz) new=some cs) :
  (Builtin.lenOf (x.conc ρ)).run P w = .ok n w/\(Builtin.firstCells esz m (x.conc ρ)).run P w = .ok (cs.map (V.conc ρ)).toArray w/\(∀v∈cs,v.In D):=by
 unfold wX at e;split at e
 ·simp only[oA,oB]at e;obtain⟨rfl,rfl⟩:=e
  obtain⟨a,rfl⟩:=Zu ht;exact⟨by simp[V.conc,Builtin.lenOf],by simp[V.conc,Builtin.firstCells],λ_ hv=>by simp at hv⟩
 ·rename_i l
  cases hb:Nat.beq esz 1 with
  | false=>simp[hb]at e
  | true =>
   have h1':=oF hb;simp only[hb,oK,oA,oB]at e;obtain⟨rfl,rfl⟩:=e;subst h1';rw[Nat.mul_one]at ht;obtain⟨a,rfl⟩:=Zu ht;refine⟨by simp[V.conc,Builtin.lenOf,yk,jW],?_,λv hv=>jk l v (List.mem_of_mem_take hv)⟩
   simp only[V.conc,Builtin.firstCells,Sem.run_pure]
   congr 1
   apply Array.ext';simp only[yY,List.map_take,List.map_map];simp[ByteArray.data_extract]
   congr 1
 ·rename_i b o len cp
  simp only[V.In]at hx;split at e
  ·rename_i l esz' wr op hg
   split at e
   ·rename_i y hy
    ·simp only[oA,oB]at e;obtain⟨rfl,rfl⟩:=e
     obtain⟨a1,a2,a3⟩:=Cs.range_eq hy;obtain⟨b1,b2⟩:=Zu ht;have hle:m*esz<=len*esz:=Nat.mul_le_mul_right _ hm;obtain⟨z,hz⟩:=Cs.range_some (c:=l) (o:=o) (k:=m*esz) (by omega);obtain⟨z1,z2,z3⟩:=Cs.range_eq hz;have hzc:z=cs:=by
      apply List.ext_getElem?;intro j;rw[b2,List.getElem?_take];by_cases hj:j<m*esz
      ·rw[if_pos hj,z3 j hj,a3 j (by omega)]
      ·rw[if_neg hj,og (by omega)]
     subst hzc;obtain⟨p1,p2,p3⟩:=wc (P:=P) r hx hg hz;exact⟨rfl,p1,p2⟩
   ·cases e
  ·cases e
 ·cases e
theorem zEL (ok:CtxOK P c) {t:TypeId}{d x v:V}{h':H}(e:zIO c t h d x=some (v,h')) (r:HR ρ D h w) (hd:d.In D) (hx:x.In D) (ts:Array TypeId) (hts:ts.getD 0 0=t) (ty:TypeId) (hne:0<ts.size) :
  Post ρ D h w ((Builtin.copy_ ts ty #[d.conc ρ,x.conc ρ]).run P w) v h':=by
 have ht:ts[0]? = some t:=by
  rw[Array.getElem?_eq_getElem hne];simp only[Array.getD,hne,dif_pos]at hts;rw[<-hts];rfl
 unfold zIO at e;split at e
 ·rename_i ti hti
  obtain⟨i,k⟩:=ok.ty t ti hti;split at e
  ·rename_i el hdd
   split at e
   ·rename_i te hte
    obtain⟨i2,k2⟩:=ok.ty el te hte;split at e
    ·cases e
    ·rename_i n new hsrc
     split at e
     ·simp only[oA,oB]at e;obtain⟨rfl,rfl⟩:=e
      obtain⟨q1,q2,q3⟩:=qO (P:=P) (m:=0) (cs:=[]) r hsrc hx (oJ _) (by simp[kh]);refine Post.of_eq ?_ (Post.pure r (v:=.int .i64 0) (by simp[V.In]));simp only[List.map_nil]at q2;simp[Builtin.copy_,ht,z6 k,hdd,V.conc,q1,yL k2,q2,goInt]
     ·rename_i b o len cp
      simp only[V.In]at hd;split at e
      ·rename_i l esz op hg
       simp only at e;split at e
       ·rename_i cs hcs
        cases h1':cond (Nat.ble esz.fz o) (zL cs) false with
        | false=>rw[h1']at e;cases e
        | true =>
         rw[h1',oK]at e;obtain⟨hfk,h1⟩:=zEc h1';split at e
         ·rename_i l' hl'
          simp only[oA,oB]at e;obtain⟨rfl,rfl⟩:=e;have hm:(cond (Nat.ble n len) n len)=Nat.min n len:=by
           cases hb:Nat.ble n len
           ·have:=(jM _ _).1 hb;rw[oM];exact(Nat.min_eq_right (by omega)).symm
           ·have:=oE hb;rw[oK];exact(Nat.min_eq_left this).symm
          rw[hm]at hcs ⊢;obtain⟨q1,q2,q3⟩:=qO (P:=P) r hsrc hx (Nat.min_le_left _ _) hcs;obtain⟨s1,s2,s3,_⟩:=jg (P:=P) r hd hg q3 h1 hl' (oE hfk);refine⟨ρ,_,?_,s3,by rw[wu (xI _ _ _)];exact s2,by simp[V.In]⟩;simp[Builtin.copy_,ht,z6 k,hdd,V.conc,q1,yL k2,q2,goInt,s1]
         ·cases e
       ·cases e
      ·cases e
     ·cases e
   ·cases e
  ·cases e
 ·cases e
theorem zLb {z:List V}{k:Nat}{cs:Cs}(h:zDv z k=some cs):cs.len=(yy z k).length/\∀i,cs.get? i=(yy z k)[i]?:=by
 unfold zDv at h;split at h
 ·rename_i v
  obtain⟨a,b⟩:=Cs.rep_eq h;refine⟨by rw[a,qA];simp,λi=>?_⟩
  rw[b,zAw];simp[Nat.mod_one]
 ·exact Cs.ofL_eq h
theorem zES (ok:CtxOK P c) {t:TypeId}{a b v:V}{h':H}(e:js c t a b h=some (v,h')) (r:HR ρ D h w) :
  Post ρ D h w ((Instr.makeSlice t (a.conc ρ) (b.conc ρ)).run P w) v h':=by
 unfold js at e;split at e
 ·rename_i k1 ln k2' cn
  split at e
  ·rename_i l kk hl hk
   obtain rfl:=qF hl;obtain rfl:=qF hk;split at e
   ·rename_i ti hti
    obtain⟨i,k⟩:=ok.ty t ti hti;split at e
    ·rename_i el hd
     split at e
     ·rename_i te hte
      obtain⟨i2,k2⟩:=ok.ty el te hte;split at e
      ·rename_i z hz
       obtain⟨z1,z2⟩:=kU k2 hz ρ w;cases hc:(Nat.ble l kk && Nat.ble kk 4294967296 && Nat.ble (te.bytes*kk) 1099511627776 && wL z.cells te.size)with
       | false=>simp[hc]at e
       | true =>
        simp only[hc,oK]at e;simp only[oG]at hc;obtain⟨⟨⟨c1,c2⟩,c3⟩,c4⟩:=hc;have c1':=oE c1;have c2':=oE c2;have c3':=oE c3;have hlen:=yl.1 c4;split at e
        ·rename_i bb h1 hn
         simp only[oA,oB]at e;obtain⟨rfl,rfl⟩:=e;have hin:∀u∈yy z.cells kk,u.In D:=λv hv=>V.cells_In (z2 D) v (zAx _ _ v hv)
         obtain⟨ρ',m1,m2,m3,m4,m5⟩:=KQ r hn (λcs h=>zLb h) hin el (λu hu=>by cases hu);refine⟨ρ',_,?_,m1,m2,by simp only[V.In];exact m3⟩;have w1:IntKind.i64.wrap (l:Int)=(l:Int):=JL _ (by omega) (by omega);have w2:IntKind.i64.wrap (kk:Int)=(kk:Int):=JL _ (by omega) (by omega);have hb1:¬((te.bytes:Int)*(kk:Int) > 2^48):=by
          have:((te.bytes*kk:Nat):Int)<=1099511627776:=by omega
          have h2:((te.bytes*kk:Nat):Int)=(te.bytes:Int)*(kk:Int):=by simp
          rw[<-h2];have:(2:Int)^48=281474976710656:=rfl;omega
         have hk0:¬((kk:Int)<0):=by omega
         have hl0:¬((l:Int)<0):=by omega
         have hlk:¬((l:Int) > (kk:Int)):=by omega
         have hrow:((Array.range (kk*te.size)).map λi=>(if kk*te.size=0 then (#[]:Array Value) else (z.cells.map (V.conc ρ)).toArray)[i % (if kk*te.size=0 then (#[]:Array Value) else (z.cells.map (V.conc ρ)).toArray).size]!)=((yy z.cells kk).map (V.conc ρ)).toArray:=by
          by_cases h0:kk*te.size=0
          ·have:yy z.cells kk=[]:=by
            apply List.eq_nil_of_length_eq_zero;rw[qA,hlen,h0]
           rw[this,h0];simp
          ·simp only[h0,if_false]
           rw[<-hlen];exact zCX z.cells kk (by rw[hlen];exact h0)
         simp only[Instr.makeSlice,Sem.run_bind,z6 k,hd,Result.andThen_ok,V.conc,asInt,asIntOf,Sem.run_pure,Zn k2,k2.bytes,w1,w2];simp only[hk0,hb1,hl0,hlk,decide_false,Bool.or_false,Bool.false_eq_true,if_false,oX,Sem.run_bind,run_askRoom,Result.andThen_ok,yL k2];by_cases h0:kk*te.size=0
         ·rw[if_pos h0]at hrow ⊢
          simp only[Sem.run_bind,Sem.run_pure,Result.andThen_ok];rw[hrow];simp[newRow,Cap.val,m4,m5]
         ·rw[if_neg h0]at hrow ⊢
          simp only[Sem.run_bind,Sem.run_pure,Result.andThen_ok,z1,V.cells_conc];rw[hrow];simp[newRow,Cap.val,m4,m5]
        ·cases e
      ·cases e
     ·cases e
    ·cases e
   ·cases e
  ·cases e
 ·cases e
end
end Go.Sim
namespace Go.Sim
section
variable {P:Program}{c:Ctx}{ρ:Env}{D:Nat->Prop}{h:H}{w:World}
theorem JT {x v:V}(e:Yl h x=some v) (r:HR ρ D h w) (hx:x.In D) (ts:Array TypeId) (ty:TypeId) :
  (Builtin.unsafeSliceData_ ts ty #[x.conc ρ]).run P w = .ok (v.conc ρ) w/\v.In D:=by
 unfold Yl at e;split at e
 ·simp only[oA]at e;subst e
  exact⟨rfl,by simp[V.In]⟩
 ·rename_i b o n k
  simp only[oA]at e;subst e;refine⟨?_,by simpa [V.In]using hx⟩;simp only[V.conc,Cap.val];exact Go.Lib.run_unsafeSliceData_row w ts ty _ _ _ (by omega)
 ·rename_i b o n
  simp only[V.In]at hx;split at e
  ·rename_i l esz hg
   cases hb:Nat.blt 0 l.len with
   | false=>simp[hb]at e
   | true =>
   have hpos:=(zY _ _).1 hb;simp only[hb,oK,oA]at e;subst e;refine⟨?_,by simpa [V.In]using hx⟩;simp only[V.conc,Cap.val];obtain⟨c0,ee,fz,_,_,_,hw⟩:=r.rel b _ hx hg;obtain⟨_,_,hle,hsz,_⟩:=hw rfl;refine Go.Lib.run_unsafeSliceData_row w ts ty _ _ _ ?_;intro h0;simp only[if_true]at hsz;have hc0:ρ.cap b=0:=by omega
   rw[hc0,Nat.zero_mul]at hsz;omega
  ·cases e
 ·cases e
theorem zLK:∀(l:List V) (y:List UInt8) (a:Addr) (acc:ByteArray),xZ l=some y->(∀j v,l[j]? = some v->w.cell? (a.add j)=some (v.conc ρ)) ->
  (loadBytes a acc l.length).run P w = .ok ⟨acc.data++y.toArray⟩ w:=by
 intro l
 induction l with
 | nil=>intro y a acc e _;simp only[xZ,oA]at e;subst e;simp[loadBytes]
 | cons v l ih =>
  intro y a acc e hc;cases v with
  | int k n =>
   cases k<;>simp only[xZ]at e<;>try (cases e;done)
   cases hb:xZ l with
   | none=>simp[hb]at e
   | some q =>
    simp only[hb,oA]at e;subst e;have h0:w.cell? a=some (.int .u8 n):=by
     have:=hc 0 _ rfl;simpa [Addr.add,V.conc]using this
    have h1:=ih q (a.add 1) (acc.push (UInt8.ofNat n.toNat)) hb (λj y hy=>by
     have:=hc (j+1) y (by simpa using hy);have e:(a.add 1).add j=a.add (j+1):=by
      unfold Addr.add;by_cases hj:j=0
      ·subst hj;simp
      ·simp[hj];omega
     rw[e];exact this)
    have hx:n.toNat.toUInt8=UInt8.ofNat n.toNat:=rfl;simp only[oV,loadBytes,Sem.run_bind,run_load,h0,Result.andThen,hx];rw[h1]
    congr 1
    apply ByteArray.ext;simp[ByteArray.push]
  | _=>simp[xZ]at e
theorem zHC {b n:Nat}{c:Array Value}{e:TypeId}{fz:Nat×Nat}(hn:n≠0) (h:w.heap[b]? = some (.cells c e fz)) :
  w.freeze ⟨b,0,none⟩ n=w.putObj b (.cells c e (if fz.1 == fz.2 then (0,n) else (0,max fz.2 n))):=by
 have hb:b<w.heap.size:=by
  rcases Nat.lt_or_ge b w.heap.size with g|g
  ·exact g
  ·rw[Array.getElem?_eq_none g]at h;cases h
 unfold World.freeze World.putObj;rw[if_neg hn]
 congr 1
 apply Array.ext_getElem?;intro i;obtain⟨lo,hi⟩:=fz;rw[Array.getElem?_modify];by_cases hi2:b=i
 ·subst hi2
  have hv:w.heap[b] = .cells c e (lo,hi):=by simpa [Array.getElem?_eq_getElem hb]using h
  simp[hb,hv]
 ·simp[hi2]
theorem JU (ok:CtxOK P c) {pt:TypeId}{p n v:V}{h':H}(e:Ym c pt h p n=some (v,h')) (r:HR ρ D h w) (hp:p.In D) (ts:Array TypeId) (ty:TypeId) (hts:ts[0]? = some pt) :
  Post ρ D h w ((Builtin.unsafeString_ ts ty #[p.conc ρ,n.conc ρ]).run P w) v h':=by
 have hmax:IntKind.i64.max=9223372036854775807:=rfl;have hdef:∀(p:Option Addr) (n:Value),Builtin.unsafeString_ ts ty #[.pointer p,n] =
   (do
    let n <-asInt n
    let some pt:=ts[0]? | stuck "unsafe.String: no argument types"
    if n<0 then runtimePanic (.error "unsafe.String: len out of range")
    if n > IntKind.i64.max then unsupported (.unsafePointer "String: a length above the largest int")
    match p with
    | none =>
     if n=0 then pure (.string .empty)
     else runtimePanic (.error "unsafe.String: ptr is nil and len is not zero")
    | some a =>
     if n=0 then pure (.string .empty)
     else if <-variablesAt a (<-elemOf pt) n.toNat then do
      let s <-loadBytes a .empty n.toNat
      freeze a n.toNat
      pure (.string s)
     else unsupported (.unsafePointer "String: not so many bytes at ptr")):=λ_ _=>rfl
 have hemp:(⟨([]:List UInt8).toArray⟩:ByteArray) = .empty:=rfl;unfold Ym at e;split at e
 ·simp only[oA,oB]at e;obtain⟨rfl,rfl⟩:=e
  refine Post.of_eq ?_ (Post.pure r (v:=.str []) (by simp[V.In]));simp only[V.conc,hdef,hts];simp[asInt,asIntOf,hmax,hemp]
 ·simp only[oA,oB]at e;obtain⟨rfl,rfl⟩:=e
  refine Post.of_eq ?_ (Post.pure r (v:=.str []) (by simp[V.In]));simp only[V.conc,hdef,hts];simp[asInt,asIntOf,hmax,hemp]
 ·rename_i b k m hne
  simp only[V.In]at hp;split at e
  ·rename_i tp l esz op htp hg
   obtain⟨i1,k1⟩:=ok.ty pt tp htp;split at e
   ·rename_i u hd
    split at e
    ·rename_i tu htu
     obtain⟨i2,k2⟩:=ok.ty u tu htu;cases hc:(Nat.beq tu.size 1 && Nat.beq esz.ty (u+1) && Nat.ble m 4611686018427387904)with
     | false=>simp[hc]at e
     | true =>
      simp only[hc,oK]at e;simp only[oG]at hc;obtain⟨⟨c1,c2⟩,c3⟩:=hc;have c1':=oF c1;have c2':=oF c2;have c3':=oE c3;split at e
      ·rename_i x hx
       split at e
       ·rename_i y hy
        simp only[oA,oB]at e;obtain⟨rfl,rfl⟩:=e;have hm0:m≠0:=hne;obtain⟨hxl,t1,t2⟩:=Cs.range_eq hx;obtain⟨c0,ee,fz,hxx,hcell,hcin,hw⟩:=r.rel b _ hp hg;obtain⟨hoff,hfz,hle,hsz,hty⟩:=hw rfl;obtain⟨rfl,hfz2⟩:=hty u c2';have hcells:P.cellsOf ee=1:=by simp[Program.cellsOf,k2.info,k2.size,c1']
        have hsh:w.shape? (ρ.blk b)=some (ee,c0.size):=by unfold World.shape?;rw[hxx]
        have hlies:=Go.Lib.liesAt_bytes (P:=P) hcells (c0.size/P.cellsOf ee) m (by rw[hcells,Nat.div_one];omega);have hload:=zLK (P:=P) (ρ:=ρ) (w:=w) x y ⟨ρ.blk b,0,none⟩ .empty hy (λj u hu=>by
         rw[yN,j8 hxx,Nat.zero_add];have hjm:j<m:=by rw[<-hxl];exact(List.getElem?_eq_some_iff.1 hu).1
         have:l.get? j=some u:=by
          rw[t2 j hjm,Nat.zero_add]at hu;exact hu
         have:=hcell _ _ this
         rwa [hoff,Nat.zero_add]at this)
        rw[hxl]at hload;have hfr:=zHC (w:=w) (n:=m) hm0 hxx;have hO:ORel ρ D b (.cells l ⟨esz.n,esz.ty,cond (Nat.ble esz.fz m) m esz.fz⟩ true op) (some (.cells c0 ee (if fz.1 == fz.2 then (0,m) else (0,max fz.2 m)))):=by
         refine⟨c0,ee,_,rfl,hcell,hcin,λ_=>⟨hoff,?_,hle,hsz,?_⟩⟩
         ·intro i hi hk
          have hmx:esz.fz<=i/\m<=i:=by
           cases hb:Nat.ble esz.fz m with
           | true=>simp only[hb,oK]at hk;have:=oE hb;omega
           | false=>simp only[hb,oM]at hk;have:=(jM _ _).1 hb;omega
          split
          ·simp;omega
          ·rename_i hne2
           rcases hfz2 with g|g
           ·exact absurd (by simpa using g) hne2
           ·simp;omega
         ·intro t ht
          have ht':esz.ty=t+1:=ht;refine⟨(hty t ht').1,?_⟩;have hmx:m<=(cond (Nat.ble esz.fz m) m esz.fz)/\esz.fz<=(cond (Nat.ble esz.fz m) m esz.fz):=by
           cases hb:Nat.ble esz.fz m with
           | true=>simp only[oK];have:=oE hb;omega
           | false=>simp only[oM];have:=(jM _ _).1 hb;omega
          right;split
          ·exact⟨rfl,hmx.1⟩
          ·rename_i hne2
           rcases hfz2 with g|g
           ·exact absurd (by simpa using g) hne2
           ·exact⟨rfl,by simp only;omega⟩
        refine⟨ρ,w.putObj (ρ.blk b) (.cells c0 ee (if fz.1 == fz.2 then (0,m) else (0,max fz.2 m))),?_,Mv.upd r hp hg rfl rfl,by rw[wu (xI _ _ _)];exact HR.upd r hp hg rfl rfl hO,by simp[V.In]⟩
        ·rw[<-hfr]
         simp only[V.conc,hdef,hts,hoff];have h1:¬(9223372036854775807:Int)<(m:Int):=by omega
         have h2:¬((m:Int)<0):=by omega
         have h3:¬((m:Int)=0):=by omega
         simp[asInt,asIntOf,hmax,h1,h2,hm0,variablesAt,hsh,elemOf,z6 k1,hd,hlies,hload]
       ·cases e
      ·cases e
    ·cases e
   ·cases e
  ·cases e
 ·cases e
end
end Go.Sim
namespace Go.Sim
def AD.conc (ρ:Env):AD->Deferred
 | .coll id=>{ target:=.collected (ρ.blk id),args:=#[] }
 | .fn f cap args=>{ target:=.fn (.func f) (cap.map (V.conc ρ)).toArray,args:=(args.map (V.conc ρ)).toArray }
def AD.In (D:Nat->Prop):AD->Prop
 | .coll id=>D id
 | .fn _ cap args=>(∀v∈cap,v.In D)/\∀v∈args,v.In D
def OpPost (P:Program) (ρ:Env) (D:Nat->Prop) (h:H) (w:World) (res:Result Next):AN->Prop
 | .val v h'=>∃ρ' w',res = .ok (.value (v.conc ρ')) w'/\Mv ρ D h w ρ' h' w'/\HR ρ' (Dx D h h') h' w'/\v.In (Dx D h h')
 | .skip h'=>∃w',res = .ok .skip w'/\Mv ρ D h w ρ h' w'/\HR ρ (Dx D h h') h' w'
 | .call f args=>(∀v∈args,v.In D)/\res=(callFunc f (args.map (V.conc ρ)).toArray).run P w
 | .round l args=>D l/\(∀v∈args,v.In D)/\res=(Instr.yield (ρ.blk l) (args.map (V.conc ρ)).toArray).run P w
 | .dfr d=>d.In D/\res = .ok (.defer (d.conc ρ)) w
 | .recover=>res = .ok .recover w
 | .pan v h'=>h'=h/\v.In D/\res = .halt (.panic (v.conc ρ)) w
section
variable {P:Program}{c:Ctx}{ρ:Env}{D:Nat->Prop}{h:H}{w:World}{ev:Operand->Option V}{a:Operand->Value}
theorem OpPost.ofV {r:Option V}{an:AN}{s:Sem Value}(e:AN.ofV r h=some an) (hs:∀v,r=some v->s.run P w = .ok (v.conc ρ) w/\v.In D) (hr:HR ρ D h w) :
  OpPost P ρ D h w ((do pure (.value (<-s)):Sem Next).run P w) an:=by
 cases r with
 | none=>simp[AN.ofV]at e
 | some v =>
  simp only[AN.ofV,oA]at e;subst e;obtain⟨h1,h2⟩:=hs v rfl;exact⟨ρ,w,by simp[h1],Mv.refl _ _ _ _,by rw[ze];exact hr,by rw[ze];exact h2⟩
theorem OpPost.ofVH {r:Option (V×H)}{an:AN}{s:Sem Value}(e:AN.ofVH r=some an) (hs:∀v h',r=some (v,h')->Post ρ D h w (s.run P w) v h') :
  OpPost P ρ D h w ((do pure (.value (<-s)):Sem Next).run P w) an:=by
 cases r with
 | none=>simp[AN.ofVH]at e
 | some q =>
  obtain⟨v,h'⟩:=q;simp only[AN.ofVH,oA]at e;subst e;obtain⟨ρ',w',h1,h2,h3,h4⟩:=hs v h' rfl;exact⟨ρ',w',by simp[h1],h2,h3,h4⟩
theorem YJ:∀{l:List Operand}{vs:List V},ZP ev l=some vs->(∀x∈l,∀v,ev x=some v->a x=v.conc ρ/\v.In D)->l.map a=vs.map (V.conc ρ)/\∀v∈vs,v.In D:=by
 intro l
 induction l with
 | nil=>intro vs e _;simp only[ZP,oA]at e;subst e;simp
 | cons x l ih =>
  intro vs e hop;simp only[ZP]at e;split at e
  ·cases e
  ·rename_i v hv
   split at e
   ·cases e
   ·rename_i r hr
    simp only[oA]at e;subst e;obtain⟨h1,h2⟩:=hop x (List.mem_cons_self ..) v hv;obtain⟨i1,i2⟩:=ih hr (λy hy=>hop y (oH _ hy))
    refine⟨by simp[h1,i1],λu hu=>?_⟩
    rcases od.1 hu with rfl|g
    ·exact h2
    ·exact i2 u g
theorem zBl:∀{l:List (Nat×Operand)}{vs:List (Nat×V)},evP ev l=some vs->(∀x∈l.map (·.2),∀v,ev x=some v->a x=v.conc ρ/\v.In D) ->
  l.map (λp=>(p.1,a p.2))=vs.map (λp=>(p.1,p.2.conc ρ))/\∀p∈vs,p.2.In D:=by
 intro l
 induction l with
 | nil=>intro vs e _;simp only[evP,oA]at e;subst e;simp
 | cons x l ih =>
  intro vs e hop;obtain⟨i,x⟩:=x;simp only[evP]at e;split at e
  ·cases e
  ·rename_i v hv
   split at e
   ·cases e
   ·rename_i r hr
    simp only[oA]at e;subst e;obtain⟨h1,h2⟩:=hop x (by simp) v hv;obtain⟨i1,i2⟩:=ih hr (λy hy=>hop y (by simp at hy ⊢;exact .inr hy))
    refine⟨by simp[h1,i1],λu hu=>?_⟩
    rcases od.1 hu with rfl|g
    ·exact h2
    ·exact i2 u g
theorem J2 {o:Option Operand}{r:Option V}(e:evO ev o=some r) (hop:∀x∈o.toArray,∀v,ev x=some v->a x=v.conc ρ/\v.In D):o.map a=r.map (V.conc ρ):=by
 cases o with
 | none=>simp only[evO,oA]at e;subst e;rfl
 | some x =>
  simp only[evO]at e;split at e
  ·rename_i v hv
   simp only[oA]at e;subst e;simp[(hop x (by simp) v hv).1]
  ·cases e
theorem zEi:∀(n t:Nat) (acc:Array Value),(Extern.BytealgMakeNoZero.digits n t acc).size=acc.size+n:=by
 intro n
 induction n with
 | zero=>intro t acc;rfl
 | succ n ih=>intro t acc;simp only[Extern.BytealgMakeNoZero.digits,ih,Array.size_push];omega
theorem zKl (hr:HR ρ D h w) {ps rs:Array TypeId}{t el n b:Nat}{h':H}(n6:rs[0]? = some t) (n7:P.underlying t=some (.slice el)) (hnew:qV h (some (.ls [])) ⟨1,el+1,0⟩ true=some (b,h')) (hn:n<=4294967296) :
  ∃ρ',∃(_:True),Dx D h h' b/\∃w',(Extern.BytealgMakeNoZero.makeNoZero ps rs #[.int .i64 (n:Int)]).run P w = .ok ((V.slice b 0 n (.skip 0)).conc ρ') w'/\Mv ρ D h w ρ' h' w'/\HR ρ' (Dx D h h') h' w':=by
 obtain⟨g1,cs,e1,rfl,rfl⟩:=Xm hnew;simp only[oA]at e1;subst e1;generalize hcp:Question.cut (Question.appendCap n 0 el) (w.tape w.drawn (Question.appendCap n 0 el))=cp;generalize hby:Question.cut (Question.extern "internal/bytealg.MakeNoZero.bytes" 0) (w.drew.tape w.drew.drawn (Question.extern "internal/bytealg.MakeNoZero.bytes" 0))=by';have hrd:HR ρ D h w.drew.drew:=hr.of_heap rfl;have hsz:=zEi cp by' #[];simp only[List.size_toArray,List.length_nil,Nat.zero_add]at hsz;obtain⟨a1,a2⟩:=OI hrd g1 (l:=.ls []) (esz:=⟨1,el+1,0⟩) (op:=true) (λi v hv=>by simp[Cs.get?,Cs.getL]at hv) (Extern.BytealgMakeNoZero.digits cp by' #[]) el (0,0) cp
  (λi v hv=>by simp[Cs.get?,Cs.getL]at hv) (λi _ _=>by simp) (by simp[Cs.len,xw]) (by rw[hsz];simp) (λu hu=>⟨Nat.succ.inj hu,.inl rfl⟩)
 refine⟨_,trivial,zCY,_,?_,Mv.trans hr.lt (Mv.of_heap (w':=w.drew.drew) rfl rfl rfl rfl) (by rw[ze];exact a2),a1⟩;have h1:¬((n:Int)<0):=by omega
 have h2:¬((n:Int) > 2^48):=by have:(2:Int)^48=281474976710656:=rfl;omega
 have hdef:Extern.BytealgMakeNoZero.makeNoZero ps rs #[.int .i64 (n:Int)] =
   (do
    let some t:=rs[0]? | stuck "bytealg.MakeNoZero: no result type"
    let .slice elem <-underlying t|stuck "bytealg.MakeNoZero: slice type expected"
    if (n:Int)<0 || (n:Int) > 2^48 then runtimePanic (.error "makeslice: len out of range")
    let cap <-choose (.appendCap (n:Int).toNat 0 elem)
    askRoom cap
    let bytes <-choose (.extern "internal/bytealg.MakeNoZero.bytes" 0)
    let a <-newRow elem (Extern.BytealgMakeNoZero.digits cap bytes #[])
    pure (.slice (some a) (n:Int).toNat cap)):=rfl
 rw[hdef];simp only[n6,Sem.run_bind,run_underlying n7,Result.andThen_ok];simp only[h1,h2,decide_false,Bool.or_false,Bool.false_eq_true,if_false,oX,Sem.run_bind,Sem.run_pure,Result.andThen_ok,run_choose,Question.forced,World.drew_eq,hcp,run_askRoom,hby];simp only[newRow,Sem.run_bind,run_newObj,Result.andThen_ok,World.alloc_eq,Sem.run_pure,V.conc,Cap.val,Env.at_blk,Env.at_off,Env.at_cap,Nat.sub_zero,World.size_drew];rfl
theorem zEJ (ok:CtxOK P c) {cl:Call}{ty:TypeId}{an:AN}(e:xN c cl ev h=some an) (hr:HR ρ D h w) (hop:∀x∈cl.operands,∀v,ev x=some v->a x=v.conc ρ/\v.In D) :
  OpPost P ρ D h w ((do let d <-resolve a cl ty;invoke d.target d.args:Sem Next).run P w) an:=by
 unfold xN at e;split at e
 ·cases e
 ·rename_i args hargs
  obtain⟨ha,hin⟩:=YJ (a:=a) (ρ:=ρ) (D:=D) hargs (λx hx v hv=>hop x (by
   unfold Call.operands;rw[Array.mem_append];exact .inr (by simpa using hx)) v hv)
  have hargsA:cl.args.map a=(args.map (V.conc ρ)).toArray:=by
   apply Array.ext';rw[Array.toList_map,ha]
  split at e
  ·rename_i f hf
   have hopf:∀v,ev f=some v->a f=v.conc ρ/\v.In D:=λv hv=>hop f (by
    unfold Call.operands;rw[Array.mem_append];exact .inl (by simp[hf])) v hv
   split at e
   ·rename_i g first captured hv
    obtain⟨h1,h2⟩:=hopf _ hv;simp only[V.In,V.InL_iff]at h2;unfold qi at e;cases hne:YL c g with
    | true =>
     rw[hne,oK]at e;split at e
     ·rename_i x
      simp only[oA]at e;subst e;unfold YL at hne;split at hne
      ·rename_i k hk
       obtain rfl:=oF hne;obtain⟨fn,n1,n2,n3,n4,n5⟩:=ok.noesc _ hk;refine⟨ρ,w,?_,Mv.refl _ _ _ _,by rw[ze];exact hr,by rw[ze];exact hin x (by simp)⟩;simp only[resolve,hf,h1,V.conc,Deferred.ofValue,Sem.run_bind,Sem.run_pure,Result.andThen_ok,invoke,hargsA,V.concL_eq];simp only[List.map_nil,List.map_cons];have:=run_callFunc_extern n1 n2 n3 n4 n5 #[x.conc ρ] w;rw[Go.Lib.run_noEscape]at this;simpa using this
      ·cases hne
     ·cases e
    | false =>
    rw[hne,oM]at e;split at e
    ·rename_i el hel
     unfold zUg at hel;split at hel
     case h_2=>cases hel
     rename_i k el' hk;cases hb:Nat.beq g k with
     | false=>simp[hb]at hel
     | true =>
     simp only[hb,oK,oA]at hel;subst hel;obtain rfl:=oF hb;obtain⟨fn,ps,rs,t,n1,n2,n3,n4,n5,n6,n7⟩:=ok.mnz _ _ hk;cases hm:zQc el' h first args captured with
     | none=>rw[hm]at e;cases e
     | some q =>
     obtain⟨v,h'⟩:=q;rw[hm]at e;simp only[AN.ofVH,oA]at e;subst e;unfold zQc at hm;split at hm
     case h_2=>cases hm
     rename_i n;cases hbn:Nat.ble n 4294967296 with
     | false=>simp[hbn]at hm
     | true =>
     have hn:=oE hbn;simp only[hbn,oK]at hm;split at hm
     case h_2=>cases hm
     rename_i b hh' hnew;simp only[oA,oB]at hm;obtain⟨rfl,rfl⟩:=hm;obtain⟨p1,p2,p3,p4⟩:=zKl (P:=P) hr n6 n7 hnew hn;obtain⟨w',q1,q2,q3⟩:=p4;refine⟨p1,w',?_,q2,q3,by simp only[V.In];exact p3⟩;simp only[resolve,hf,h1,V.conc,Deferred.ofValue,Sem.run_bind,Sem.run_pure,Result.andThen_ok,invoke,hargsA,V.concL_eq];have:=run_callFunc_extern n1 n2 n3 n4 n5 #[.int .i64 (n:Int)] w;rw[q1]at this;simpa [V.conc]using this
    simp only[oA]at e;subst e;refine⟨λv hv=>?_,?_⟩
    ·rcases List.mem_append.1 hv with g1|g1
     ·exact h2.2.1 v g1
     ·rcases List.mem_append.1 g1 with g2|g2
      ·exact hin v g2
      ·exact h2.2.2 v g2
    ·simp only[resolve,hf,h1,V.conc,Deferred.ofValue,Sem.run_bind,Sem.run_pure,Result.andThen_ok,invoke,hargsA,V.concL_eq]
     congr 2
     simp[List.append_assoc]
   ·rename_i l hv
    simp only[oA]at e;subst e;obtain⟨h1,h2⟩:=hopf _ hv;simp only[V.In]at h2;refine⟨h2,hin,?_⟩;simp only[resolve,hf,h1,V.conc,Deferred.ofValue,Sem.run_bind,Sem.run_pure,Result.andThen_ok,invoke,hargsA]
    congr 2
    simp
   ·cases e
  ·rename_i b hb
   have base:((do let d <-resolve a cl ty;invoke d.target d.args:Sem Next))=builtin b cl.argTypes ty (cl.args.map λ| .const _=>true|_=>false) (args.map (V.conc ρ)).toArray:=by
    simp only[resolve,hb,hargsA];rfl
   rw[base];have atys:∀l,cl.argTypes.toList=l->cl.argTypes=l.toArray:=λl hl=>by rw[<-hl]
   split at e
   ·rename_i x t hat
    rw[atys _ hat];exact OpPost.ofV (s:=Builtin.len_ #[t] ty #[x.conc ρ]) e (λv hv=>zGc ok hv hr (hin x (by simp)) #[t] rfl ty (by simp)) hr
   ·rename_i x t hat
    rw[atys _ hat];exact OpPost.ofV (s:=Builtin.cap_ #[t] ty #[x.conc ρ]) e (λv hv=>zG9 ok hv #[t] rfl ty (by simp)) hr
   ·rename_i s x t tx hat
    rw[atys _ hat];exact OpPost.ofVH (s:=Builtin.append_ #[t,tx] ty #[s.conc ρ,x.conc ρ]) e (λv h' hv=>zBF ok hv hr (hin s (by simp)) (hin x (by simp)) ty)
   ·rename_i d x t t2 hat
    rw[atys _ hat];exact OpPost.ofVH (s:=Builtin.copy_ #[t,t2] ty #[d.conc ρ,x.conc ρ]) e (λv h' hv=>zEL ok hv hr (hin d (by simp)) (hin x (by simp)) #[t,t2] rfl ty (by simp))
   ·rename_i x l
    refine OpPost.ofV (s:=Builtin.min_ cl.argTypes ty ((x::l).map (V.conc ρ)).toArray) e (λv hv=>?_) hr;obtain⟨m1,m2⟩:=Xl (P:=P) (w:=w) ρ false l x v hv;refine⟨?_,m2 D (hin x (by simp))⟩;simpa [Builtin.min_]using m1
   ·rename_i x l
    refine OpPost.ofV (s:=Builtin.max_ cl.argTypes ty ((x::l).map (V.conc ρ)).toArray) e (λv hv=>?_) hr;obtain⟨m1,m2⟩:=Xl (P:=P) (w:=w) ρ true l x v hv;refine⟨?_,m2 D (hin x (by simp))⟩;simpa [Builtin.max_]using m1
   ·simp only[oA]at e;subst e
    simp[OpPost,builtin]
   ·rename_i x
    exact OpPost.ofV (s:=Builtin.unsafeSliceData_ cl.argTypes ty #[x.conc ρ]) e (λv hv=>JT hv hr (hin x (by simp)) _ _) hr
   ·rename_i p n pt l hat
    exact OpPost.ofVH (s:=Builtin.unsafeString_ cl.argTypes ty #[p.conc ρ,n.conc ρ]) e (λv h' hv=>JU ok hv hr (hin p (by simp)) _ _ (by
     have:cl.argTypes.toList[0]? = some pt:=by rw[hat];rfl
     simpa using this))
   ·cases e
  ·rename_i r name hr'
   split at e
   ·rename_i t v hv
    obtain⟨h1,h2⟩:=hop r (by
     unfold Call.operands;rw[Array.mem_append];exact .inl (by simp[hr'])) _ hv
    simp only[V.In]at h2;split at e
    ·rename_i f hf
     simp only[oA]at e;subst e;refine⟨λu hu=>(od.1 hu).elim (λg=>g ▸ h2) (hin u),?_⟩
     have hm:=zBH ok hf (P.types.size+Made.depth-1) (v.conc ρ) w;rw[show P.types.size+Made.depth-1+1=P.types.size+Made.depth from by unfold Made.depth;omega]at hm;simp only[resolve,hr',h1,V.conc,Sem.run_bind,Sem.run_pure,Result.andThen_ok,invoke,hargsA];have ht:(List.map (V.conc ρ) args).take args.length=List.map (V.conc ρ) args:=List.take_of_length_le (by simp);simp[callMethod,hm,ht]
    ·rename_i f el hf
     split at e
     ·rename_i u hu
      simp only[oA]at e;subst e;obtain⟨hm,hud⟩:=zBG ok hf (P.types.size+Made.depth-1) v u hu hr h2;refine⟨λx hx=>(od.1 hx).elim (λg=>g ▸ hud) (hin x),?_⟩
      rw[show P.types.size+Made.depth-1+1=P.types.size+Made.depth from by unfold Made.depth;omega]at hm;simp only[resolve,hr',h1,V.conc,Sem.run_bind,Sem.run_pure,Result.andThen_ok,invoke,hargsA];have ht:(List.map (V.conc ρ) args).take args.length=List.map (V.conc ρ) args:=List.take_of_length_le (by simp);simp[callMethod,hm,ht]
     ·cases e
    ·cases e
   ·cases e
theorem JR (ok:CtxOK P c) {o:Oper}{an:AN}(e:zh c o ev h=some an) (hr:HR ρ D h w) (hop:∀x∈o.op.operands,∀v,ev x=some v->a x=v.conc ρ/\v.In D) :
  OpPost P ρ D h w ((execOp a o).run P w) an:=by
 unfold zh at e;split at e
 case h_1 x ho =>
  rw[ho]at hop;cases hx:ev x with
  | none=>simp[hx,AN.ofV]at e
  | some v =>
   obtain⟨h1,h2⟩:=hop x (by simp[Op.operands]) v hx;simp only[hx,AN.ofV,oA]at e;subst e;exact⟨ρ,w,by simp[execOp,ho,h1],Mv.refl _ _ _ _,by rw[ze];exact hr,by rw[ze];exact h2⟩
 case h_2 x ho =>
  rw[ho]at hop;cases hx:ev x with
  | none=>simp[hx,AN.ofV]at e
  | some v =>
   obtain⟨h1,h2⟩:=hop x (by simp[Op.operands]) v hx;simp only[hx,AN.ofV,oA]at e;subst e;exact⟨ρ,w,by simp[execOp,ho,h1],Mv.refl _ _ _ _,by rw[ze];exact hr,by rw[ze];exact h2⟩
 case h_3 cc x y ho =>
  rw[ho]at hop;split at e
  ·rename_i t hc
   obtain⟨c1,_⟩:=hop cc (by simp[Op.operands]) _ hc;rw[show execOp a o=(do pure (.value (<-(do pure (if <-asBool (a cc) then a x else a y):Sem Value))):Sem Next)from by simp[execOp,ho]];refine OpPost.ofV e (λv hv=>?_) hr;cases t with
   | true =>
    simp only[oK]at hv;obtain⟨h1,h2⟩:=hop x (by simp[Op.operands]) v hv;exact⟨by simp[c1,V.conc,asBool,h1],h2⟩
   | false =>
    simp only[oM]at hv;obtain⟨h1,h2⟩:=hop y (by simp[Op.operands]) v hv;exact⟨by simp[c1,V.conc,asBool,h1],h2⟩
  ·cases e
 case h_4 t ho =>
  split at e
  ·rename_i ti hti
   obtain⟨i,k⟩:=ok.ty t ti hti;split at e
   ·rename_i z hz
    obtain⟨z1,z2⟩:=kU k hz ρ w;split at e
    ·rename_i b h1 hn
     simp only[oA]at e;subst e;obtain⟨ρ',m1,m2,m3,m4,m5⟩:=XB hr hn (V.cells_In (z2 D)) t (λu hu=>Nat.succ.inj hu);refine⟨ρ',_,?_,m1,m2,by simp only[V.In];exact m3⟩;simp[execOp,ho,Instr.alloc,z1,newVar,newRow,V.cells_conc,V.conc,m4,m5]
    ·cases e
   ·cases e
  ·cases e
 case h_5 t x ho =>
  rw[ho]at hop;split at e
  ·rename_i v hv
   obtain⟨h1,h2⟩:=hop x (by simp[Op.operands]) v hv;split at e
   ·rename_i b hh hn
    simp only[oA]at e;subst e;obtain⟨ρ',m1,m2,m3,m4,m5⟩:=XB hr hn (V.cells_In h2) t (λu hu=>Nat.succ.inj hu);refine⟨ρ',_,?_,m1,m2,by simp only[V.In];exact m3⟩;simp[execOp,ho,Instr.box,h1,newVar,newRow,V.cells_conc,V.conc,m4,m5]
   ·cases e
  ·cases e
 case h_6 t ps ho =>
  rw[ho]at hop;split at e
  ·rename_i l hl
   obtain⟨p1,p2⟩:=zBl (a:=a) (ρ:=ρ) (D:=D) hl (λx hx v hv=>hop x (by simpa [Op.operands]using hx) v hv)
   have harr:ps.map (λp=>(p.1,a p.2))=(l.map λp=>(p.1,p.2.conc ρ)).toArray:=by
    apply Array.ext';rw[Array.toList_map,p1]
   rw[show execOp a o=(do pure (.value (<-Instr.build t (l.map λp=>(p.1,p.2.conc ρ)).toArray)):Sem Next)from by simp only[execOp,ho];rw[<-harr]]
   exact OpPost.ofV e (λv hv=>zC9 ok hv p2) hr
  ·cases e
 case h_7 t n ps ho =>
  rw[ho]at hop;split at e
  ·rename_i l hl
   obtain⟨p1,p2⟩:=zBl (a:=a) (ρ:=ρ) (D:=D) hl (λx hx v hv=>hop x (by simpa [Op.operands]using hx) v hv)
   have harr:ps.map (λp=>(p.1,a p.2))=(l.map λp=>(p.1,p.2.conc ρ)).toArray:=by
    apply Array.ext';rw[Array.toList_map,p1]
   rw[show execOp a o=(do pure (.value (<-Instr.buildSlice t n (l.map λp=>(p.1,p.2.conc ρ)).toArray)):Sem Next)from by simp only[execOp,ho];rw[<-harr]]
   exact OpPost.ofVH e (λv h' hv=>XU ok hv hr p2)
  ·cases e
 case h_8 t x ho =>
  rw[ho]at hop;split at e
  ·rename_i v hv
   obtain⟨h1,h2⟩:=hop x (by simp[Op.operands]) v hv;rw[show execOp a o=(do pure (.value (<-Instr.loadAt t (v.conc ρ))):Sem Next)from by simp[execOp,ho,h1]];exact OpPost.ofV e (λu hu=>JQ ok hu hr h2) hr
  ·cases e
 case h_9 t x y ho =>
  rw[ho]at hop;split at e
  ·rename_i p v hp hv
   obtain⟨h1,h2⟩:=hop x (by simp[Op.operands]) p hp;obtain⟨h3,h4⟩:=hop y (by simp[Op.operands]) v hv;split at e
   ·rename_i h' hst
    simp only[oA]at e;subst e;obtain⟨w',s1,s2,s3,s4⟩:=zJq ok hst hr h2 h4;exact⟨w',by simp[execOp,ho,h1,h3,s1],s3,by rw[wu s4];exact s2⟩
   ·cases e
  ·cases e
 case h_10 x ho =>
  rw[ho]at hop;split at e
  ·rename_i b q hv
   obtain⟨h1,h2⟩:=hop x (by simp[Op.operands]) _ hv;simp only[oA]at e;subst e;exact⟨ρ,w,by simp[execOp,ho,h1,V.conc],Mv.refl _ _ _ _,by rw[ze];exact hr,by rw[ze];exact h2⟩
  ·rename_i t v hv
   obtain⟨h1,h2⟩:=hop x (by simp[Op.operands]) _ hv;simp only[oA]at e;subst e;exact⟨ρ,w,by simp[execOp,ho,h1,V.conc],Mv.refl _ _ _ _,by rw[ze];exact hr,by rw[ze];exact h2⟩
  ·rename_i g q1 q2 hv
   obtain⟨h1,h2⟩:=hop x (by simp[Op.operands]) _ hv;simp only[oA]at e;subst e;exact⟨ρ,w,by simp[execOp,ho,h1,V.conc],Mv.refl _ _ _ _,by rw[ze];exact hr,by rw[ze];exact h2⟩
  ·rename_i l hv
   obtain⟨h1,h2⟩:=hop x (by simp[Op.operands]) _ hv;simp only[oA]at e;subst e;exact⟨ρ,w,by simp[execOp,ho,h1,V.conc],Mv.refl _ _ _ _,by rw[ze];exact hr,by rw[ze];exact h2⟩
  ·cases e
 case h_11 op t x y ty ho =>
  rw[ho]at hop;split at e
  ·rename_i u v hu hv
   obtain⟨h1,h2⟩:=hop x (by simp[Op.operands]) u hu;obtain⟨h3,h4⟩:=hop y (by simp[Op.operands]) v hv;rw[show execOp a o=(do pure (.value (<-(do eqGuard op t x y (u.conc ρ) (v.conc ρ);binOp op t (u.conc ρ) (v.conc ρ):Sem Value))):Sem Next)from by simp[execOp,ho,h1,h3]];exact OpPost.ofV e (λq hq=>zG8 ok hq h2 h4) hr
  ·cases e
 case h_12 op t x ho =>
  rw[ho]at hop;split at e
  ·rename_i u hu
   obtain⟨h1,h2⟩:=hop x (by simp[Op.operands]) u hu;rw[show execOp a o=(do pure (.value (<-Op.unary op (u.conc ρ))):Sem Next)from by simp[execOp,ho,h1]];exact OpPost.ofV e (λq hq=>⟨(zB8 hq ρ).1,(zB8 (P:=P) (w:=w) hq ρ).2 D⟩) hr
  ·cases e
 case h_13 s d x ho =>
  rw[ho]at hop;split at e
  ·rename_i u hu
   obtain⟨h1,h2⟩:=hop x (by simp[Op.operands]) u hu;rw[show execOp a o=(do pure (.value (<-convert s d (u.conc ρ))):Sem Next)from by simp[execOp,ho,h1]];exact OpPost.ofVH e (λv h' hv=>zEK ok hv hr h2)
  ·cases e
 case h_14 t x ho =>
  rw[ho]at hop;split at e
  ·rename_i ti b q len cp hti hv
   obtain⟨i,k⟩:=ok.ty t ti hti;obtain⟨h1,h2⟩:=hop x (by simp[Op.operands]) _ hv;split at e
   ·rename_i n el hd
    cases hb:Nat.ble n len with
    | false=>simp[hb]at e
    | true =>
     simp only[hb,oK,oA]at e;subst e;have:=oE hb;have hn:¬len<n:=by omega
     exact⟨ρ,w,by simp[execOp,ho,h1,V.conc,Instr.arrayAt,z6 k,hd,hn],Mv.refl _ _ _ _,by rw[ze];exact hr,by rw[ze];simpa [V.In]using h2⟩
   ·cases e
  ·cases e
 case h_15 t x ho =>
  rw[ho]at hop;split at e
  ·rename_i ti v hti hv
   obtain⟨i,k⟩:=ok.ty t ti hti;obtain⟨h1,h2⟩:=hop x (by simp[Op.operands]) _ hv;split at e
   ·cases e
   ·rename_i hd
    simp only[oA]at e;subst e;refine⟨ρ,w,?_,Mv.refl _ _ _ _,by rw[ze];exact hr,by rw[ze];simpa [V.In]using h2⟩;simp only[execOp,ho,h1,V.conc,Instr.makeInterface,Sem.run_bind,z6 k,Result.andThen_ok];cases hdd:ti.desc<;>first|rfl|exact absurd hdd (hd _)
  ·cases e
 case h_16 g first captured ho =>
  rw[ho]at hop;split at e
  ·rename_i u v hu hv
   obtain⟨a1,a2⟩:=YJ (a:=a) (ρ:=ρ) (D:=D) hu (λx hx v hv=>hop x (by simp[Op.operands];exact .inl (by simpa using hx)) v hv)
   obtain⟨b1,b2⟩:=YJ (a:=a) (ρ:=ρ) (D:=D) hv (λx hx v hv=>hop x (by simp[Op.operands];exact .inr (by simpa using hx)) v hv)
   simp only[oA]at e;subst e;have e1:first.map a=(u.map (V.conc ρ)).toArray:=by apply Array.ext';rw[Array.toList_map,a1]
   have e2:captured.map a=(v.map (V.conc ρ)).toArray:=by apply Array.ext';rw[Array.toList_map,b1]
   refine⟨ρ,w,?_,Mv.refl _ _ _ _,by rw[ze];exact hr,by rw[ze];simp only[V.In,V.InL_iff];exact⟨λ_=>by simp,a2,b2⟩⟩
   simp[execOp,ho,Instr.makeFunc,e1,e2,V.conc,V.concL_eq]
  ·cases e
 case h_17 t l k ho =>
  rw[ho]at hop;split at e
  ·rename_i u v hu hv
   obtain⟨h1,h2⟩:=hop l (by simp[Op.operands]) u hu;obtain⟨h3,h4⟩:=hop k (by simp[Op.operands]) v hv;rw[show execOp a o=(do pure (.value (<-Instr.makeSlice t (u.conc ρ) (v.conc ρ))):Sem Next)from by simp[execOp,ho,h1,h3]];exact OpPost.ofVH e (λq h' hq=>zES ok hq hr)
  ·cases e
 case h_18 t x lo hi mx ho =>
  rw[ho]at hop;split at e
  ·rename_i v p q m hv hp hq hm
   obtain⟨h1,h2⟩:=hop x (by simp[Op.operands]) v hv;have e1:=J2 (a:=a) (ρ:=ρ) (D:=D) hp (λy hy v hv=>hop y (by simp[Op.operands]at hy ⊢;simp[hy]) v hv)
   have e2:=J2 (a:=a) (ρ:=ρ) (D:=D) hq (λy hy v hv=>hop y (by simp[Op.operands]at hy ⊢;simp[hy]) v hv)
   have e3:=J2 (a:=a) (ρ:=ρ) (D:=D) hm (λy hy v hv=>hop y (by simp[Op.operands]at hy ⊢;simp[hy]) v hv)
   rw[show execOp a o=(do pure (.value (<-Instr.sliceAt t (v.conc ρ) (p.map (V.conc ρ)) (q.map (V.conc ρ)) (m.map (V.conc ρ)))):Sem Next)from by simp only[execOp,ho,h1,e1,e2,e3]];exact OpPost.ofV e (λu hu=>zCc ok hu hr h2) hr
  ·cases e
 case h_19 t x f ho =>
  rw[ho]at hop;split at e
  ·rename_i ti b q hti hv
   obtain⟨i,k⟩:=ok.ty t ti hti;obtain⟨h1,h2⟩:=hop x (by simp[Op.operands]) _ hv;split at e
   ·rename_i fs hd
    split at e
    ·rename_i fd hfd
     unfold afa at e;split at e
     ·rename_i tf htf
      obtain⟨i2,k2⟩:=ok.ty _ tf htf;cases hb:Nat.blt 0 tf.size with
      | false=>simp[hb]at e
      | true =>
       simp only[hb,oK,oA]at e;subst e;have:=(zY _ _).1 hb;have hne:¬tf.size=0:=by omega
       refine⟨ρ,w,?_,Mv.refl _ _ _ _,by rw[ze];exact hr,by rw[ze];simpa [V.In]using h2⟩;simp[execOp,ho,h1,V.conc,Instr.fieldAt,z6 k,hd,hfd,Instr.sureAddr,fieldPlace,yL k2,hne,yN,Nat.add_assoc]
     ·cases e
    ·cases e
   ·cases e
  ·cases e
 case h_20 t x f ho =>
  rw[ho]at hop;split at e
  ·rename_i v hv
   obtain⟨h1,h2⟩:=hop x (by simp[Op.operands]) v hv;rw[show execOp a o=(do pure (.value (<-Instr.field t (v.conc ρ) f)):Sem Next)from by simp[execOp,ho,h1]];exact OpPost.ofV e (λu hu=>zGa ok hu h2) hr
  ·cases e
 case h_21 t x ix ho =>
  rw[ho]at hop;split at e
  ·rename_i u v hu hv
   obtain⟨h1,h2⟩:=hop x (by simp[Op.operands]) u hu;obtain⟨h3,h4⟩:=hop ix (by simp[Op.operands]) v hv;rw[show execOp a o=(do pure (.value (<-Instr.indexAt t (u.conc ρ) (v.conc ρ))):Sem Next)from by simp[execOp,ho,h1,h3]];exact OpPost.ofV e (λq hq=>zGb ok hq h2) hr
  ·cases e
 case h_22 t x ix ho =>
  rw[ho]at hop;split at e
  ·rename_i u v hu hv
   obtain⟨h1,h2⟩:=hop x (by simp[Op.operands]) u hu;obtain⟨h3,h4⟩:=hop ix (by simp[Op.operands]) v hv;rw[show execOp a o=(do pure (.value (<-Instr.index t (u.conc ρ) (v.conc ρ))):Sem Next)from by simp[execOp,ho,h1,h3]];exact OpPost.ofV e (λq hq=>zCb ok hq h2) hr
  ·cases e
 case h_23 x i ho =>
  rw[ho]at hop;split at e
  ·rename_i l hv
   obtain⟨h1,h2⟩:=hop x (by simp[Op.operands]) _ hv;simp only[V.In,V.InL_iff]at h2;rw[show execOp a o=(do pure (.value (<-Instr.extract ((V.tuple l).conc ρ) i)):Sem Next)from by simp[execOp,ho,h1]];refine OpPost.ofV e (λu hu=>⟨?_,h2 u (List.mem_of_getElem? hu)⟩) hr
   simp[Instr.extract,zGu,hu]
  ·cases e
 case h_24 cl ho =>
  rw[ho]at hop;rw[show execOp a o=(do let d <-resolve a cl o.type;invoke d.target d.args:Sem Next)from by simp only[execOp,ho]];exact zEJ ok e hr (by simpa [Op.operands]using hop)
 case h_25 x ho =>
  rw[ho]at hop;split at e
  ·rename_i t v hv
   obtain⟨h1,h2⟩:=hop x (by simp[Op.operands]) _ hv;simp only[oA]at e;subst e;exact⟨rfl,h2,by simp[execOp,ho,h1,V.conc,Instr.panic]⟩
  ·cases e
 case h_26 cl ho =>
  rw[ho]at hop;split at e
  ·rename_i args f hargs hf
   obtain⟨a1,a2⟩:=YJ (a:=a) (ρ:=ρ) (D:=D) hargs (λx hx v hv=>hop x (by
    simp only[Op.operands,Call.operands];rw[Array.mem_append];exact .inr (by simpa using hx)) v hv)
   split at e
   ·rename_i g first captured hv
    obtain⟨h1,h2⟩:=hop f (by simp only[Op.operands,Call.operands];rw[Array.mem_append];exact .inl (by simp[hf])) _ hv;simp only[V.In,V.InL_iff]at h2;simp only[oA]at e;subst e;have hargsA:cl.args.map a=(args.map (V.conc ρ)).toArray:=by apply Array.ext';rw[Array.toList_map,a1]
    refine⟨⟨h2.2.2,λv hv=>(List.mem_append.1 hv).elim (h2.2.1 v) (a2 v)⟩,?_⟩
    simp[execOp,ho,resolve,hf,h1,V.conc,V.concL_eq,Deferred.ofValue,hargsA,AD.conc]
   ·cases e
  ·cases e
 case h_27 t ho =>
  rw[show execOp a o=(do pure (.value (<-Instr.makeMap t none)):Sem Next)from by simp[execOp,ho]];exact OpPost.ofVH e (λu h' hu=>zBI hu hr t)
 case h_28 x xt t okf ho =>
  rw[ho]at hop;split at e
  ·rename_i v hv
   obtain⟨h1,h2⟩:=hop x (by simp[Op.operands]) v hv;rw[show execOp a o=(do pure (.value (<-Instr.typeAssert (v.conc ρ) xt t okf)):Sem Next)from by simp[execOp,ho,h1]];exact OpPost.ofV e (λu hu=>zEU ok hu h2) hr
  ·cases e
 case h_29 t x k okf ho =>
  rw[ho]at hop;split at e
  ·rename_i m kv hm hk
   obtain⟨h1,h2⟩:=hop x (by simp[Op.operands]) _ hm;obtain⟨h3,h4⟩:=hop k (by simp[Op.operands]) _ hk;rw[show execOp a o=(do pure (.value (<-Instr.lookup t (m.conc ρ) (kv.conc ρ) okf)):Sem Next)from by simp[execOp,ho,h1,h3]];exact OpPost.ofV e (λu hu=>zER ok hu hr h2 h4) hr
  ·cases e
 case h_30 t x k y ho =>
  rw[ho]at hop;split at e
  ·rename_i m kv v hm hk hv
   obtain⟨h1,h2⟩:=hop x (by simp[Op.operands]) _ hm;obtain⟨h3,h4⟩:=hop k (by simp[Op.operands]) _ hk;obtain⟨h5,h6⟩:=hop y (by simp[Op.operands]) _ hv;split at e
   ·rename_i h' hu
    simp only[oA]at e;subst e;obtain⟨w',s1,s2,s3⟩:=zGf ok hu hr h2 h4 h6;exact⟨w',by simp[execOp,ho,h1,h3,h5,s1],s2,s3⟩
   ·cases e
  ·cases e
 case h_31=>cases e
end
end Go.Sim
