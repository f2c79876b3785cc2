/- G. No condition. -/
import Derived.Test.YtnpeieeomokomaaGreatZF
namespace Go.Sim
section
variable {P:Program}{c:Ctx}{ρ:Env}{D:Nat->Prop}
theorem xT (ok:CtxOK P c) {t:TypeId}{ti:TI}(h:c.ty.get t=some ti) (hs:KT ti.desc=true) (b:Bool) (n:Nat) (v:Value) (w:World):(Instr.checkKey b (n+1) t v).run P w = .ok () w:=by
 obtain⟨i,k⟩:=ok.ty t ti h;have hu:=k.und;cases hd:ti.desc<;>rw[hd]at hs hu<;>first|(simp[KT]at hs;done)|(simp[Instr.checkKey,underlying,hu])
theorem zDM (ok:CtxOK P c) {t:TypeId}{v:V}(h:Jq c t v=true) (hv:v.In D) (b:Bool) (m:Nat) (w:World):(Instr.checkKey b (m+2) t (v.conc ρ)).run P w = .ok () w:=by
 unfold Jq at h;split at h
 ·cases h
 ·rename_i ti hti
  obtain⟨i,k⟩:=ok.ty t ti hti;have hu:=k.und;split at h
  ·rename_i hd;exact xT ok hti (by rw[hd];rfl) b (m+1) _ w
  ·rename_i hd;exact xT ok hti (by rw[hd];rfl) b (m+1) _ w
  ·rename_i hd;exact xT ok hti (by rw[hd];rfl) b (m+1) _ w
  ·rename_i fs xs hd
   rw[hd]at hu;simp only[V.In,V.InL_iff]at hv;rw[Instr.checkKey];simp only[V.conc,V.concL_eq,Sem.run_bind,run_underlying hu,Result.andThen_ok];have hgo:∀l,zHh c xs l=true->(forIn (m:=Sem) l PUnit.unit λf __s =>
      if f.name ≠ "_" then do
       Instr.checkKey b (m+1) f.type (<-part f.type (xs.map (V.conc ρ)).toArray f.offset)
       pure (ForInStep.yield PUnit.unit)
      else pure (ForInStep.yield PUnit.unit)).run P w = .ok PUnit.unit w:=by
    intro l
    induction l with
    | nil=>intro _;simp
    | cons f fs ih =>
     intro hk;simp only[zHh,oG]at hk;rw[List.forIn_cons];have hone:(if f.name ≠ "_" then do
       Instr.checkKey b (m+1) f.type (<-part f.type (xs.map (V.conc ρ)).toArray f.offset)
       pure (ForInStep.yield PUnit.unit)
      else pure (ForInStep.yield PUnit.unit):Sem (ForInStep PUnit)).run P w = .ok (ForInStep.yield PUnit.unit) w:=by
      split
      ·have hk1:=hk.1
       split at hk1
       ·rename_i tf htf
        simp only[oG]at hk1;have hk2:=hk1.2;split at hk2
        ·rename_i y hy
         obtain⟨p1,_⟩:=xL (ρ:=ρ) ok htf hy hv w;simp only[Sem.run_bind,p1,Result.andThen_ok,xT ok htf hk1.1,Sem.run_pure]
        ·cases hk2
       ·cases hk1
      ·simp
     rw[Sem.run_bind,hone];simpa using ih hk.2
   rw[<-Array.forIn_toList,hgo _ h];simp
  ·rename_i n e xs hd
   rw[hd]at hu;simp only[V.In,V.InL_iff]at hv;rw[Instr.checkKey];simp only[V.conc,V.concL_eq,Sem.run_bind,run_underlying hu,Result.andThen_ok];split at h
   ·rename_i te hte
    obtain⟨i2,k2⟩:=ok.ty e te hte;simp only[oG]at h;have hsz:∀w,(sizeOf e).run P w = .ok te.size w:=λw=>by simp[sizeOf,ZL k2,k2.size]
    have hgo:∀n i,zHg te xs n i=true->(forIn (m:=Sem) (List.range' i n) PUnit.unit λi __s=>do
       let __do_lift <-sizeOf e
       let __do_lift <-part e (xs.map (V.conc ρ)).toArray (i*__do_lift)
       Instr.checkKey b (m+1) e __do_lift
       pure (ForInStep.yield PUnit.unit)).run P w = .ok PUnit.unit w:=by
     intro n
     induction n with
     | zero=>intro i _;simp
     | succ n ih =>
      intro i hk;simp only[zHg,oG]at hk;rw[List.range'_succ,List.forIn_cons];have hk1:=hk.1;split at hk1
      ·rename_i y hy
       obtain⟨p1,_⟩:=xL (ρ:=ρ) ok hte hy hv w;simp only[Sem.run_bind,hsz,p1,Result.andThen_ok,xT ok hte h.1,Sem.run_pure];exact ih (i+1) hk.2
      ·cases hk1
    rw[Std.Legacy.Range.forIn_eq_forIn_range'];have:=hgo n 0 h.2;simp only[Std.Legacy.Range.size,Nat.sub_zero,Nat.add_sub_cancel,Nat.div_one];rw[this];simp
   ·cases h
  ·cases h
theorem K3 (ok:CtxOK P c) {t:TypeId}{v:V}(h:Jq c t v=true) (hv:v.In D) (b:Bool) (w:World):(Instr.checkKey b 10000 t (v.conc ρ)).run P w = .ok () w :=
 zDM ok h hv b 9998 w
theorem O8 {d:Nat}{t:TypeId}{ti:TI}(hti:c.ty.get t=some ti) {x y:V}{r b:Bool}(e:aeq c (d+1) t x y=some r) (h:Instr.sameNow ti.desc (x.conc ρ) (y.conc ρ)=some b):b=r:=by
 rw[aeq]at e;simp only[hti]at e;unfold Instr.sameNow at h;split at h
 ·rename_i k1 k a k' a' hd hx hy
  cases x<;>simp only[V.conc]at hx<;>first|(cases hx;done)|skip
  cases y<;>simp only[V.conc]at hy<;>first|(cases hy;done)|skip
  simp only[Value.int.injEq]at hx hy;obtain⟨rfl,rfl⟩:=hx;obtain⟨rfl,rfl⟩:=hy;rw[hd]at e;simp only[eq1]at e;rename_i k n k' n';cases hk:xE k k' with
  | false=>simp[hk]at e
  | true =>
   simp only[hk,oK,oA]at e;rw[jF]at e;split at h
   ·simp only[oA]at h
    rw[<-e,<-h]
   ·cases h
 ·rename_i a a' hd hx hy
  cases x<;>simp only[V.conc]at hx<;>first|(cases hx;done)|skip
  cases y<;>simp only[V.conc]at hy<;>first|(cases hy;done)|skip
  rw[hd]at e;simp only[eq1,oA]at e;simp only[oA]at h;simp only[Value.string.injEq]at hx hy;rw[<-e,<-h,<-hx,<-hy,qr];have hb:∀l l':List UInt8,((⟨l.toArray⟩:ByteArray) == ⟨l'.toArray⟩)=(l.toArray == l'.toArray):=λ_ _=>rfl
  rw[hb];simp
 ·rename_i a a' hd hx hy
  cases x<;>simp only[V.conc]at hx<;>first|(cases hx;done)|skip
  cases y<;>simp only[V.conc]at hy<;>first|(cases hy;done)|skip
  rw[hd]at e;simp only[eq1,oA]at e;simp only[oA]at h;simp only[Value.bool.injEq]at hx hy;rw[<-e,<-h,hx,hy]
 ·cases h
theorem zAc {t:TypeId}{ti:TI}(hti:c.ty.get t=some ti) {x y:V}{r b:Bool}(e:aeq c 30 t x y=some r) (h:Instr.sameNow ti.desc (x.conc ρ) (y.conc ρ)=some b):b=r :=
 O8 (d:=29) hti e h
def kT (ρ:Env) (r:Option (Nat×Ent)):Option (Nat×Value):=r.map λp=>(p.1,p.2.val.conc ρ)
theorem zA6 {t:TypeId}{ti:TI}(hti:c.ty.get t=some ti) {k:V}:∀(es:List Ent) (i:Nat) (r:Option (Nat×Ent)) (b:Option (Nat×Value)),wT c t k es i=some r ->
  Instr.findNow ti.desc (k.conc ρ) (es.map (Ent.conc ρ)) i=some b->b=kT ρ r:=by
 intro es
 induction es with
 | nil =>
  intro i r b e h;simp only[wT,oA]at e;simp only[List.map_nil,Instr.findNow,oA]at h;subst e;subst h;rfl
 | cons a es ih =>
  intro i r b e h;simp only[wT]at e;simp only[List.map_cons,Instr.findNow]at h;cases hs:Instr.sameNow ti.desc (k.conc ρ) (a.conc ρ).key with
  | none=>simp[hs]at h
  | some q =>
   simp only[hs]at h;cases hq:aeq c 30 t k a.key with
   | none=>simp[hq]at e
   | some r' =>
    have:=zAc (ρ:=ρ) hti hq hs;subst this;simp only[hq]at e;cases q with
    | true =>
     simp only[oA]at e h;subst e;subst h;rfl
    | false=>exact ih (i+1) r b e h
theorem Xt (ok:CtxOK P c) {t:TypeId}{k:V}(hk:k.In D):∀(es:List Ent) (i:Nat) (r:Option (Nat×Ent)),wT c t k es i=some r->(∀e∈es,e.key.In D/\e.val.In D)->∀w:World,
  (Instr.findAsking t (k.conc ρ) (es.map (Ent.conc ρ)) i).run P w = .ok (kT ρ r) w:=by
 intro es
 induction es with
 | nil =>
  intro i r e _ w;simp only[wT,oA]at e;subst e;simp[Instr.findAsking,kT]
 | cons a es ih =>
  intro i r e hes w;simp only[wT]at e;simp only[List.map_cons,Instr.findAsking];cases hq:aeq c 30 t k a.key with
  | none=>simp[hq]at e
  | some q =>
   have h1:(Op.equal t (k.conc ρ) (a.conc ρ).key).run P w = .ok q w:=by
    unfold Op.equal;exact zAh ok 30 t k a.key q hq hk (hes a (List.mem_cons_self ..)).1 Op.maxDepth w (by simp[Op.maxDepth])
   simp only[hq]at e;cases q with
   | true =>
    simp only[oA]at e;subst e;simp only[Sem.run_bind,h1,Result.andThen_ok,if_true,Sem.run_pure];rfl
   | false =>
    simp only[Sem.run_bind,h1,Result.andThen_ok,Bool.false_eq_true,if_false];exact ih (i+1) r e (λe he=>hes e (oH _ he)) w
theorem jR (ok:CtxOK P c) {t:TypeId}{ti:TI}(hti:c.ty.get t=some ti) {k:V}(hk:k.In D) {es:List Ent}{r:Option (Nat×Ent)}(e:wT c t k es 0=some r) (hes:∀e∈es,e.key.In D/\e.val.In D) (w:World) :
  (Instr.findKey t (k.conc ρ) (es.map (Ent.conc ρ))).run P w = .ok (kT ρ r) w:=by
 obtain⟨i,kk⟩:=ok.ty t ti hti;simp only[Instr.findKey,Sem.run_bind,run_underlying kk.und,Result.andThen_ok];cases hf:Instr.findNow ti.desc (k.conc ρ) (es.map (Ent.conc ρ)) 0 with
 | some b=>simp[zA6 hti es 0 r b e hf]
 | none=>exact Xt ok hk es 0 r e hes w
end
section
variable {P:Program}{c:Ctx}{ρ:Env}{D:Nat->Prop}{h:H}{w:World}
theorem zAi {t:TypeId}{k:V}:∀(es:List Ent) (i:Nat) (j:Nat) (e:Ent),wT c t k es i=some (some (j,e))->i<=j/\es[j-i]? = some e:=by
 intro es
 induction es with
 | nil=>intro i j e h;simp[wT]at h
 | cons a es ih =>
  intro i j e h;simp only[wT]at h;cases hq:aeq c 30 t k a.key with
  | none=>simp[hq]at h
  | some q =>
   simp only[hq]at h;cases q with
   | true =>
    simp only[oA,oB]at h;obtain⟨rfl,rfl⟩:=h;simp
   | false =>
    obtain⟨h1,h2⟩:=ih (i+1) j e h;refine⟨by omega,?_⟩;obtain⟨d,hd⟩:∃d,j-i=d+1:=⟨j-i-1,by omega⟩;rw[hd,List.getElem?_cons_succ,show d=j-(i+1)from by omega];exact h2
theorem kI (o b:Bool) (v:V):(qy o v b).conc ρ=if o then .tuple #[v.conc ρ,.bool b] else v.conc ρ:=by
 cases o<;>simp[qy,V.conc,V.concL]
theorem qz {o b:Bool}{v:V}(hv:v.In D):(qy o v b).In D:=by
 cases o<;>simp[qy,V.In,V.InL,hv]
theorem zDN (ok:CtxOK P c) {t:TypeId}{m k v:V}{o:Bool}(e:JZ c t h m k o=some v) (hr:HR ρ D h w) (hm:m.In D) (hk:k.In D) :
  (Instr.lookup t (m.conc ρ) (k.conc ρ) o).run P w = .ok (v.conc ρ) w/\v.In D:=by
 unfold JZ at e;split at e
 ·rename_i ti hti
  obtain⟨i,kk⟩:=ok.ty t ti hti;have hu:=kk.und;split at e
  ·rename_i kt et hd
   rw[hd]at hu;have key:∀es,KG c kt et es k o=some v->(∀e∈es,e.key.In D/\e.val.In D) ->
     (do
      Instr.checkKey (es.map (Ent.conc ρ)).toArray.isEmpty 10000 kt (k.conc ρ)
      let (v,ok) <-match <-Instr.findKey kt (k.conc ρ) (es.map (Ent.conc ρ)).toArray.toList with
       | some (_,v)=>pure (v,true)
       | none=>pure (<-zeroValue et,false)
      pure (if o then Value.tuple #[v,.bool ok] else v):Sem Value).run P w = .ok (v.conc ρ) w/\v.In D:=by
    intro es e hes;unfold KG at e;cases ha:Jq c kt k with
    | false=>simp[ha]at e
    | true =>
     simp only[ha,oK]at e;have hkt:∃tk,c.ty.get kt=some tk:=by
      unfold Jq at ha;split at ha
      ·cases ha
      ·rename_i tk h;exact⟨tk,h⟩
     obtain⟨tk,hkt⟩:=hkt;have hck:=K3 (ρ:=ρ) ok ha hk (es.map (Ent.conc ρ)).toArray.isEmpty w;split at e
     ·rename_i j en hf
      simp only[oA]at e;subst e;have hfk:=jR (ρ:=ρ) ok hkt hk hf hes w;have hen:=hes en (List.mem_of_getElem? (zAi es 0 j en hf).2);simp only[Sem.run_bind,hck,Result.andThen_ok,hfk,kT,oX,Sem.run_pure,kI];exact⟨trivial,qz hen.2⟩
     ·rename_i hf
      have hfk:=jR (ρ:=ρ) ok hkt hk hf hes w;split at e
      ·rename_i te hte
       obtain⟨i2,k2⟩:=ok.ty et te hte;split at e
       ·rename_i z hz
        simp only[oA]at e;subst e;obtain⟨z1,z2⟩:=kL k2 hz ρ w;simp only[Sem.run_bind,hck,Result.andThen_ok,hfk,kT,Option.map_none,Sem.run_pure,z1,kI];exact⟨trivial,qz (z2 D)⟩
       ·cases e
      ·cases e
     ·cases e
   split at e
   ·rename_i es hes
    unfold zM8 at hes;split at hes
    ·simp only[oA]at hes;subst hes
     have:=key [] e (λ_ h=>by cases h);simp only[List.map_nil,Sem.run_bind]at this;simp only[Instr.lookup,V.conc,Sem.run_bind,run_underlying hu,Result.andThen_ok,Sem.run_pure];exact this
    ·rename_i r
     split at hes
     ·rename_i es' clock hg
      simp only[oA]at hes;subst hes;simp only[V.In]at hm;obtain⟨g1,g2⟩:=hr.rel r _ hm hg;have:=key es' e g2;simp only[Sem.run_bind]at this;have hgo:(getObj (ρ.blk r)).run P w = .ok (.map (es'.map (Ent.conc ρ)).toArray clock) w:=by simp[getObj,Sem.run,g1]
      simp only[Instr.lookup,V.conc,Sem.run_bind,run_underlying hu,Result.andThen_ok,Sem.run_pure,hgo];exact this
     ·cases hes
    ·cases hes
   ·cases e
  ·cases e
 ·cases e
theorem zJl:∀(es:List Ent) (i:Nat) (k v:V),((JP es i k v).map (Ent.conc ρ)).toArray=(es.map (Ent.conc ρ)).toArray.modify i (λe=>{ e with key:=k.conc ρ,val:=v.conc ρ }):=by
 intro es i k v;apply Array.ext';rw[Array.toList_modify]
 induction es generalizing i with
 | nil=>simp[JP]
 | cons a es ih =>
  cases i with
  | zero=>simp[JP,Ent.conc]
  | succ i=>simpa [JP]using ih i
theorem zOT:∀(es:List Ent) (i:Nat) (k v:V),(∀e∈es,e.key.In D/\e.val.In D)->k.In D->v.In D->∀e∈JP es i k v,e.key.In D/\e.val.In D:=by
 intro es
 induction es with
 | nil=>intro i k v _ _ _ e he;simp[JP]at he
 | cons a es ih =>
  intro i k v hes hk hv e he;cases i with
  | zero =>
   rcases oY.1 he with rfl|he
   ·exact⟨hk,hv⟩
   ·exact hes e (oH _ he)
  | succ i =>
   rcases oY.1 he with rfl|he
   ·exact hes _ (List.mem_cons_self ..)
   ·exact ih i k v (λe h=>hes e (oH _ h)) hk hv e he
theorem zAX {v:V}{h':H}(e:KH h=some (v,h')) (hr:HR ρ D h w) (t:TypeId):∃ρ' w',(Instr.makeMap t none).run P w = .ok (v.conc ρ') w'/\Mv ρ D h w ρ' h' w'/\HR ρ' (Dx D h h') h' w'/\v.In (Dx D h h'):=by
 unfold KH at e;cases hb:Nat.blt h.next T.top with
 | false=>simp[hb]at e
 | true =>
  simp only[hb,oK,oA,oB]at e;obtain⟨rfl,rfl⟩:=e;have hlt:=(z8 _ _).1 hb;have hx:ORel (ρ.at h.next w.heap.size 0) (Dx D h (h.new (.map [] 0))) h.next (.map [] 0) (some (.map #[] 0)):=⟨by simp,λ_ h=>by cases h⟩
  refine⟨ρ.at h.next w.heap.size 0,w.alloc (.map #[] 0),?_,Mv.new hr 0 hlt rfl,hr.new 0 hlt hx,by simp only[V.In];exact .inr ⟨oO _,Nat.lt_succ_self _⟩⟩;simp[Instr.makeMap,V.conc]
theorem XP {a b:V}(h:zCd a b=true) (n:Nat):Instr.sameBits n (a.conc ρ) (b.conc ρ)=true:=by
 unfold zCd at h;split at h
 ·cases n<;>simpa [Instr.sameBits,V.conc]using h
 ·simp only[oG]at h
  obtain rfl:=(qO _ _).1 h.1;rw[jF]at h;cases n<;>simpa [Instr.sameBits,V.conc]using h.2
 ·rename_i a b
  rw[qr]at h;have:=eq_of_beq h;subst this;have hb:∀x:ByteArray,(x == x)=true:=λx=>by show(x.data == x.data)=true;simp
  cases n<;>simp[Instr.sameBits,V.conc,hb]
 ·cases h
theorem zCe:∀{l m:List V},JL l m=true->∀n,l.length=m.length/\((l.map (V.conc ρ)).zip (m.map (V.conc ρ))).all (λ(x,y)=>Instr.sameBits n x y)=true:=by
 intro l
 induction l with
 | nil=>intro m h n;cases m<;>simp_all [JL]
 | cons a l ih =>
  intro m h n;cases m with
  | nil=>simp[JL]at h
  | cons b m =>
   simp only[JL,oG]at h;obtain⟨h1,h2⟩:=ih h.2 n;refine⟨by simp[h1],?_⟩;simp only[List.map_cons,List.zip_cons_cons,List.all_cons,oG];exact⟨XP h.1 n,h2⟩
theorem zEb {a b:V}(h:Jc a b=true) (n:Nat):Instr.sameBits (n+1) (a.conc ρ) (b.conc ρ)=true:=by
 unfold Jc at h;split at h
 ·obtain⟨h1,h2⟩:=zCe (ρ:=ρ) h n
  simp only[V.conc,V.concL_eq,Instr.sameBits,oG];exact⟨by simp[h1],h2⟩
 ·exact XP h _
theorem Ky {a b:V}(h:Jc a b=true) (w:World):(Instr.keyThatStays (a.conc ρ) (b.conc ρ)).run P w = .ok (b.conc ρ) w:=by
 have:=zEb (ρ:=ρ) h 9999;unfold Instr.keyThatStays;rw[if_pos this];rfl
theorem zFU (ok:CtxOK P c) {t:TypeId}{m k v:V}{h':H}(e:zAY c t h m k v=some h') (hr:HR ρ D h w) (hm:m.In D) (hk:k.In D) (hv:v.In D) :
  ∃w',(Instr.mapUpdate t (m.conc ρ) (k.conc ρ) (v.conc ρ)).run P w = .ok () w'/\Mv ρ D h w ρ h' w'/\HR ρ (Dx D h h') h' w':=by
 unfold zAY at e;split at e
 ·rename_i ti hti
  obtain⟨i,kk⟩:=ok.ty t ti hti;have hu:=kk.und;split at e
  ·rename_i kt et r hd
   rw[hd]at hu;simp only[V.In]at hm;split at e
   ·rename_i es clock hg
    cases ha:Jq c kt k with
    | false=>simp[ha]at e
    | true =>
     simp only[ha,oK]at e;obtain⟨g1,g2⟩:=hr.rel r _ hm hg;have hkt:∃tk,c.ty.get kt=some tk:=by
      unfold Jq at ha;split at ha
      ·cases ha
      ·rename_i tk h;exact⟨tk,h⟩
     obtain⟨tk,hkt⟩:=hkt;have hck:=K3 (ρ:=ρ) ok ha hk false w;have hgo:(getObj (ρ.blk r)).run P w = .ok (.map (es.map (Ent.conc ρ)).toArray clock) w:=by simp[getObj,Sem.run,g1]
     have hso:∀o,(setObj (ρ.blk r) o).run P w = .ok () (w.putObj (ρ.blk r) o):=λo=>by simp[setObj,Sem.run,g1,World.putObj]
     have fin:∀(es':List Ent) (clock':Nat),(∀e∈es',e.key.In D/\e.val.In D)->h'=h.upd r (some (.map es' clock')) ->
       Mv ρ D h w ρ h' (w.putObj (ρ.blk r) (.map (es'.map (Ent.conc ρ)).toArray clock'))/\HR ρ (Dx D h h') h' (w.putObj (ρ.blk r) (.map (es'.map (Ent.conc ρ)).toArray clock')):=by
      intro es' clock' hes' he;subst he;refine⟨Mv.upd hr hm hg rfl rfl,?_⟩;rw[wa (yx _ _ _)];exact hr.upd hm hg rfl rfl ⟨rfl,hes'⟩
     split at e
     ·rename_i j en hf
      cases hs:Jc en.key k with
      | false=>simp[hs]at e
      | true =>
       simp only[hs,oK,oA]at e;have hfk:=jR (ρ:=ρ) ok hkt hk hf g2 w;have hmem:=(zAi es 0 j en hf).2;obtain⟨f1,f2⟩:=fin _ _ (zOT es j k v g2 hk hv) e.symm;refine⟨_,?_,f1,f2⟩;have hold:((((es.map (Ent.conc ρ)).toArray[j]?).map (·.key)).getD (k.conc ρ))=en.key.conc ρ:=by
        rw[Nat.sub_zero]at hmem;simp[hmem,Ent.conc]
       simp only[V.conc,Instr.mapUpdate,Sem.run_bind,run_underlying hu,Result.andThen_ok,hgo,hck,hfk,kT,oX,hold,Ky hs,hso,zJl]
     ·rename_i hf
      simp only[oA]at e;have hfk:=jR (ρ:=ρ) ok hkt hk hf g2 w;obtain⟨f1,f2⟩:=fin (es++[⟨k,v,clock⟩]) (clock+1) (λe he=>by
       rcases List.mem_append.1 he with q|q
       ·exact g2 e q
       ·rw[List.mem_singleton.1 q];exact⟨hk,hv⟩) e.symm
      refine⟨_,?_,f1,f2⟩;have harr:((es++[(⟨k,v,clock⟩:Ent)]).map (Ent.conc ρ)).toArray=(es.map (Ent.conc ρ)).toArray.push { key:=k.conc ρ,val:=v.conc ρ,born:=clock }:=by simp[Ent.conc]
      simp only[V.conc,Instr.mapUpdate,Sem.run_bind,run_underlying hu,Result.andThen_ok,hgo,hck,hfk,kT,Option.map_none,hso,harr]
     ·cases e
   ·cases e
  ·cases e
 ·cases e
end
end Go.Sim
namespace Go.Sim
section
variable {P:Program}{c:Ctx}{ρ:Env}{D:Nat->Prop}{w:World}
theorem zDR (ok:CtxOK P c) {t xt:TypeId}{x v:V}{o:Bool}(e:zK6 c t x o=some v) (hx:x.In D):(Instr.typeAssert (x.conc ρ) xt t o).run P w = .ok (v.conc ρ) w/\v.In D:=by
 unfold zK6 at e;split at e
 ·cases e
 ·rename_i ti hti
  obtain⟨i,kk⟩:=ok.ty t ti hti;have hu:=kk.und;split at e
  ·cases e
  ·rename_i d y hnot
   simp only[V.In]at hx;cases hb:Nat.beq d t with
   | true =>
    have hdt:=oF hb;subst hdt;simp only[hb,oK,oA]at e;subst e;refine⟨?_,qz hx⟩;cases hd:ti.desc<;>rw[hd]at hu<;>first|(exact absurd hd (hnot _))|simp[Instr.typeAssert,run_underlying hu,V.conc,kI]
   | false =>
    have hne:¬d=t:=λh=>by rw[h]at hb;simp at hb
    simp only[hb,oL]at e;cases o with
    | false=>simp at e
    | true =>
     simp only[oK]at e;split at e
     ·rename_i z hz
      simp only[oA]at e;subst e;obtain⟨z1,z2⟩:=kL kk hz ρ w;refine⟨?_,qz (z2 D)⟩;cases hd:ti.desc<;>rw[hd]at hu<;>first|(exact absurd hd (hnot _))|simp[Instr.typeAssert,run_underlying hu,V.conc,hne,z1,kI]
     ·cases e
  ·rename_i hnot
   cases o with
   | false=>simp at e
   | true =>
    simp only[oK]at e;split at e
    ·rename_i z hz
     simp only[oA]at e;subst e;obtain⟨z1,z2⟩:=kL kk hz ρ w;refine⟨?_,qz (z2 D)⟩;cases hd:ti.desc<;>rw[hd]at hu<;>first|(exact absurd hd (hnot _))|simp[Instr.typeAssert,run_underlying hu,V.conc,z1,kI]
    ·cases e
  ·cases e
theorem zDi (name:String):∀l:List Method,zHb name l=l.find? (λm=>m.name == name):=by
 intro l
 induction l with
 | nil=>rfl
 | cons m l ih =>
  simp only[zHb,List.find?_cons];cases m.name == name<;>simp[ih]
theorem zAW (ok:CtxOK P c) {t:TypeId}{name:String}{f:Nat}(e:ZU c t name=some (f,none)) (n:Nat) (v:Value) (w:World):(method (n+1) t v name).run P w = .ok (f,v) w:=by
 unfold ZU at e;split at e
 ·cases e
 ·rename_i ti hti
  obtain⟨i,kk⟩:=ok.ty t ti hti;split at e
  ·cases e
  ·rename_i m hm
   split at e
   ·rename_i f' pr hp hf
    cases hb:(zQL ti.desc == pr)with
    | false =>
     simp only[hb,oL]at e;split at e<;>simp at e
    | true =>
     simp only[hb,oK,oA,oB,and_true]at e;subst e;have hu:=kk.und;rw[zDi,<-kk.meth]at hm;have hfind:i.methods.find? (λm=>m.name == name)=some m:=by
      rw[<-hm];simp
     have hpath:m.path = #[]:=by
      apply Array.ext';simpa using hp
     have hti2:(typeInfo t).run P w = .ok i w:=by simp[typeInfo,kk.info]
     rw[method];simp only[Sem.run_bind,hti2,Result.andThen_ok,hfind,hpath,hf,follow,Sem.run_pure];have hrec:∀o,(receiverAt t (Place.val v) pr o).run P w = .ok v w:=by
      intro o;unfold receiverAt;simp only[Sem.run_bind,run_underlying hu,Result.andThen_ok];cases hd:ti.desc<;>cases pr<;>rw[hd]at hb<;>first
       | (simp[zQL]at hb;done)
       | simp[Place.get]
     simp[hrec]
   ·cases e
theorem zAV (ok:CtxOK P c) {t:TypeId}{name:String}{f el:Nat}(e:ZU c t name=some (f,some el)) (n:Nat) (v u:V) {h:H}(hu':zO c el h v=some u) (hr:HR ρ D h w) (hv:v.In D) :
  (method (n+1) t (v.conc ρ) name).run P w = .ok (f,u.conc ρ) w/\u.In D:=by
 obtain⟨hl,huD⟩:=Xb ok hu' hr hv;refine⟨?_,huD⟩;unfold ZU at e;split at e
 ·cases e
 ·rename_i ti hti
  obtain⟨i,kk⟩:=ok.ty t ti hti;split at e
  ·cases e
  ·rename_i m hm
   split at e
   ·rename_i f' pr hp hf
    cases hb:(zQL ti.desc == pr)with
    | true=>simp[hb]at e
    | false =>
     simp only[hb,oL]at e;split at e
     ·rename_i el' he
      simp only[oA,oB]at e;obtain⟨rfl,rfl⟩:=e;have hu:=kk.und;have hd:ti.desc = .pointer el':=by
       cases hdd:ti.desc<;>rw[hdd]at he<;>simp[zTc]at he;rw[he]
      rw[hd]at hu;rw[zDi,<-kk.meth]at hm;have hfind:i.methods.find? (λm=>m.name == name)=some m:=by
       rw[<-hm];simp
      have hpath:m.path = #[]:=by
       apply Array.ext';simpa using hp
      have hti2:(typeInfo t).run P w = .ok i w:=by simp[typeInfo,kk.info]
      cases v<;>first|(simp[zO]at hu';done)|skip
      rename_i b o;have hload:(loadVar el' ⟨ρ.blk b,ρ.off b+o,none⟩).run P w = .ok (u.conc ρ) w:=by
       have:=hl;simp only[V.conc,Instr.loadAt,Instr.sureAddr,Sem.run_bind,Sem.run_pure,Result.andThen_ok]at this;exact this
      rw[method];simp only[Sem.run_bind,hti2,Result.andThen_ok,hfind,hpath,hf,follow,Sem.run_pure];have hchk:∀(a b:Value) (x:Addr),∀s1 s2:ByteArray,(Builtin.ssaWrapNilChk_ #[t] t #[.pointer (some x),.string s1,.string s2]).run P w = .ok (.pointer (some x)) w:=λ_ _ _ _ _=>rfl
      have hrec:∀o',(receiverAt t (Place.val (V.conc ρ (.ptr b o))) false o').run P w = .ok (u.conc ρ) w:=by
       intro o';unfold receiverAt;simp only[Sem.run_bind,run_underlying hu,Result.andThen_ok,Place.get,V.conc,Sem.run_pure];cases o' with
       | none=>simp[asAddr,hload]
       | some nm =>
        simp only[strVal,hchk (.bool true) (.bool true),Sem.run_bind,Result.andThen_ok];simp[asAddr,hload]
      simp[hrec]
     ·cases e
   ·cases e
end
end Go.Sim
