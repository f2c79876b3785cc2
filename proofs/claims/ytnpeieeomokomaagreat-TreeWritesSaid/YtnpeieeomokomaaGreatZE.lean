/- E. No condition. -/
import Derived.Test.YtnpeieeomokomaaGreatZC
namespace Go.Sim

theorem YQ {v : Value}{x : V}(h : zJV v = some x) : (∀ρ, x.conc ρ = v) /\ (∀D, x.In D) := by
  unfold zJV at h;split at h<;>simp only[oA, reduceCtorEq]at h<;>subst h <;>
    (refine⟨λρ => ?_, λD => ?_⟩<;>simp[V.conc, V.In, V.InL, V.concL])

theorem zGV : ∀{l : List Value}{x : List V}, zJW l = some x -> (∀ρ, V.concL ρ x = l) /\ (∀D, V.InL D x) := by
  intro l
  induction l with
  | nil => intro x h;simp only[zJW, oA]at h;subst h;simp[V.concL, V.InL]
  | cons v l ih =>
    intro x h;simp only[zJW]at h;cases h1 : zJV v with
    | none => simp[h1]at h
    | some y =>
      cases h2 : zJW l with
      | none => simp[h1, h2]at h
      | some z =>
        simp only[h1, h2, oA]at h;subst h;obtain⟨a1, a2⟩ := YQ h1;obtain⟨b1, b2⟩ := ih h2;exact⟨λρ => by simp[V.concL, a1, b1], λD => by simp[V.InL, a2, b2]⟩

theorem Z3 {v : Value}{x : V}(h : ofV v = some x) : (∀ρ, x.conc ρ = v) /\ (∀D, x.In D) := by
  unfold ofV at h;split at h
  · split at h
    · rename_i l _ y hy
      simp only[oA]at h;subst h;obtain⟨a1, a2⟩ := zGV hy;exact⟨λρ => by simp[V.conc, a1], λD => by simp[V.In, a2]⟩
    · cases h
  · split at h
    · rename_i t v _ y hy
      simp only[oA]at h;subst h;obtain⟨a1, a2⟩ := YQ hy;exact⟨λρ => by simp[V.conc, a1], λD => by simp[V.In, a2]⟩
    · cases h
  · exact YQ h

structure TyOK (P : Program) (t : Nat) (ti : TI) (i : TypeInfo) : Prop where
  info : P.info? t = some i
  und : P.underlying t = some ti.desc
  size : i.size = ti.size
  bytes : i.bytes = ti.bytes
  zero : ∀z, ti.zero = some z -> ∃v, i.zero = some v /\ ofV v = some z
  cmp : i.comparable = ti.cmp
  held : P.stoodInHeld t = ti.held
  guard : P.eqGuardType P.depth t = ti.guard
  meth : i.methods.toList = ti.meth
  id : ti.id = t

structure CtxOK (P : Program) (c : Ctx) : Prop where
  ty : ∀t ti, c.ty.get t = some ti -> ∃i, TyOK P t ti i
  fn : ∀f fi, c.fn.get f = some fi -> ∃g, P.funcs[f]? = some g /\ (g.name == "runtime.NumGoroutine") = false /\ g.body = some fi.body /\ g.ntmps = fi.n /\ g.results.toList = fi.results
  noesc : ∀k, c.noesc = some k -> ∃g, P.funcs[k]? = some g /\ (g.name == "runtime.NumGoroutine") = false /\ g.body.isNone = true /\ Extern.findNext g = none /\ Extern.find g = some Extern.AbiNoEscape.same
  mnz : ∀k el, c.mnz = some (k, el) -> ∃g ps rs t, P.funcs[k]? = some g /\ (g.name == "runtime.NumGoroutine") = false /\ g.body.isNone = true /\ Extern.findNext g = none /\
    Extern.find g = some (Extern.BytealgMakeNoZero.makeNoZero ps rs) /\ rs[0]? = some t /\ P.underlying t = some (.slice el)
  lies : ∀e u off, c.lies e u off = true -> liesAt P P.depth e 1 off u 1 = true

theorem zDo (P : Program) : ∀(l : List TypeInfo) (i : Nat) (t : T TI) (m : Nat), i + l.length <= T.top ->
    (XZ P i l t).get m = if i <= m /\ m < i + l.length then (l[m - i]?).bind (TI.of P m) else t.get m := by
  intro l
  induction l with
  | nil => intro i t m _;simp only[XZ, List.length_nil];rw[if_neg (by omega)]
  | cons x l ih =>
    intro i t m h;simp only[oS]at h ⊢;rw[XZ, ih _ _ _ (by omega), T.get_set _ _ _ _ (by omega)];by_cases h1 : m = i
    · subst h1
      rw[if_neg (by omega), if_pos rfl, if_pos (by omega)];simp
    · by_cases h2 : i + 1 <= m /\ m < i + 1 + l.length
      · rw[if_pos h2, if_pos (by omega)]
        obtain⟨k, hk⟩ : ∃k, m - i = k + 1 := ⟨m - i - 1, by omega⟩;rw[hk, List.getElem?_cons_succ]
        congr 2
        omega
      · rw[if_neg h2, if_neg h1, if_neg (by omega)]

theorem zDm : ∀(l : List Func) (i : Nat) (t : T FI) (m : Nat), i + l.length <= T.top ->
    (Yi i l t).get m = if i <= m /\ m < i + l.length then (l[m - i]?).bind FI.of else t.get m := by
  intro l
  induction l with
  | nil => intro i t m _;simp only[Yi, List.length_nil];rw[if_neg (by omega)]
  | cons x l ih =>
    intro i t m h;simp only[oS]at h ⊢;rw[Yi, ih _ _ _ (by omega), T.get_set _ _ _ _ (by omega)];by_cases h1 : m = i
    · subst h1
      rw[if_neg (by omega), if_pos rfl, if_pos (by omega)];simp
    · by_cases h2 : i + 1 <= m /\ m < i + 1 + l.length
      · rw[if_pos h2, if_pos (by omega)]
        obtain⟨k, hk⟩ : ∃k, m - i = k + 1 := ⟨m - i - 1, by omega⟩;rw[hk, List.getElem?_cons_succ]
        congr 2
        omega
      · rw[if_neg h2, if_neg h1, if_neg (by omega)]

theorem zYI (P : Program) (ne : Option Nat) (mz : Option (Nat × Nat)) (h1 : P.types.size <= T.top) (h2 : P.funcs.size <= T.top) 
    (h3 : ∀k, ne = some k -> ∃g, P.funcs[k]? = some g /\ (g.name == "runtime.NumGoroutine") = false /\ g.body.isNone = true /\ Extern.findNext g = none /\ Extern.find g = some Extern.AbiNoEscape.same)
    (h4 : ∀k el, mz = some (k, el) -> ∃g ps rs t, P.funcs[k]? = some g /\ (g.name == "runtime.NumGoroutine") = false /\ g.body.isNone = true /\ Extern.findNext g = none /\
      Extern.find g = some (Extern.BytealgMakeNoZero.makeNoZero ps rs) /\ rs[0]? = some t /\ P.underlying t = some (.slice el)) : CtxOK P (Ctx.of P ne mz) := by
  refine⟨?_, ?_, h3, h4, λe u off h => h⟩
  · intro t ti h
    simp only[Ctx.of]at h;rw[zDo P _ _ _ _ (by simpa using h1)]at h;split at h
    · rename_i hc
      simp only[Nat.sub_zero, Array.length_toList, Nat.zero_add]at h hc;cases hi : P.types.toList[t]? with
      | none => simp[hi]at h
      | some i =>
        simp only[hi, Option.bind_some]at h;have hi' : P.types[t]? = some i := by simpa using hi
        have hinfo : P.info? t = some i := by unfold Tables.info?;rw[if_pos hc.2];exact hi'
        have main : ∀d, P.underlying t = some d -> ti = TI.mk' P t i d -> TyOK P t ti i := by
          intro d hd he;subst he;refine⟨hinfo, hd, rfl, rfl, ?_, rfl, rfl, rfl, rfl, rfl⟩;intro z hz;simp only[TI.mk']at hz;cases hv : i.zero with
          | none => simp[hv]at hz
          | some v => exact⟨v, rfl, by simpa [hv]using hz⟩
        refine⟨i, ?_⟩;unfold TI.of at h;split at h
        · rename_i nm u hd
          split at h
          · rename_i j hj
            simp only[oA]at h;refine main j.desc ?_ h.symm;have hu : u < P.types.size := by
              rcases Nat.lt_or_ge u P.types.size with g|g
              · exact g
              · rw[Array.getElem?_eq_none g]at hj;cases hj
            have hju : P.info? u = some j := by unfold Tables.info?;rw[if_pos hu];exact hj
            unfold Program.underlying;rw[hinfo];obtain⟨d, s1, s2, s3, s4, s5, s6, s7, s8, s9⟩ := i;simp only at hd;subst hd;simp[hju]
          · cases h
        · rename_i hne
          simp only[oA]at h;refine main i.desc ?_ h.symm;unfold Program.underlying;rw[hinfo];obtain⟨d, s1, s2, s3, s4, s5, s6, s7, s8, s9⟩ := i;cases d<;>first|rfl|exact absurd rfl (hne _ _)
    · simp at h
  · intro f fi h
    simp only[Ctx.of]at h;rw[zDm _ _ _ _ (by simpa using h2)]at h;split at h
    · rename_i hc
      simp only[Nat.sub_zero, Array.length_toList, Nat.zero_add]at h hc;cases hi : P.funcs.toList[f]? with
      | none => simp[hi]at h
      | some g =>
        simp only[hi, Option.bind_some]at h;refine⟨g, by simpa using hi, ?_⟩;unfold FI.of at h;cases hb : g.body with
        | none => simp[hb]at h
        | some b =>
          cases hn : g.name == "runtime.NumGoroutine" with
          | true => simp[hb, hn]at h
          | false =>
            simp only[hb, hn, oL, oA]at h;subst h;exact⟨rfl, rfl, rfl, rfl⟩
    · simp at h
section
variable {P:Program}{c:Ctx}{ρ:Env}{D:Nat->Prop}{h:H}{w:World}
theorem z7 {t:Nat}{ti:TI}{i:TypeInfo}(k:TyOK P t ti i) (w:World):(underlying t).run P w = .ok ti.desc w:=by
 simp[underlying,k.und]
theorem ZL {t:Nat}{ti:TI}{i:TypeInfo}(k:TyOK P t ti i) (w:World):(typeInfo t).run P w = .ok i w:=by
 simp[typeInfo,k.info]
theorem yI {t:Nat}{ti:TI}{i:TypeInfo}(k:TyOK P t ti i) (w:World):(sizeOf t).run P w = .ok ti.size w:=by
 simp[sizeOf,ZL k,k.size]
theorem Z6 {t:Nat}{ti:TI}{i:TypeInfo}(k:TyOK P t ti i) (w:World):(isAgg t).run P w = .ok (xi ti.desc) w:=by
 simp only[isAgg,Sem.run_bind,z7 k,Result.andThen_ok];cases ti.desc<;>rfl
theorem kL {t:Nat}{ti:TI}{i:TypeInfo}{z:V}(k:TyOK P t ti i) (hz:ti.zero=some z) (ρ:Env) (w:World):(zeroValue t).run P w = .ok (z.conc ρ) w/\∀D,z.In D:=by
 obtain⟨v,h1,h2⟩:=k.zero z hz;obtain⟨a,b⟩:=Z3 h2;exact⟨by simp[zeroValue,ZL k,h1,a],b⟩
theorem wJ (l:List V):(V.agg l).conc ρ = .agg (l.map (V.conc ρ)).toArray:=by simp[V.conc,V.concL_eq]
theorem zFp (l:List V):(V.tuple l).conc ρ = .tuple (l.map (V.conc ρ)).toArray:=by simp[V.conc,V.concL_eq]
theorem Xb (ok:CtxOK P c) {t:TypeId}{a v:V}(e:zO c t h a=some v) (r:HR ρ D h w) (ha:a.In D) :
  (Instr.loadAt t (a.conc ρ)).run P w = .ok (v.conc ρ) w/\v.In D:=by
 unfold zO at e;split at e
 ·rename_i b o
  simp only[V.In]at ha;split at e
  ·rename_i l esz wr op hg
   split at e
   ·rename_i ti hti
    obtain⟨i,k⟩:=ok.ty t ti hti;cases hag:xi ti.desc with
    | true =>
     simp only[hag,oK]at e;split at e
     ·rename_i x hx
      simp only[oA]at e;subst e;obtain⟨h1,h2,_⟩:=wR (P:=P) r ha hg hx;refine⟨?_,by simp only[V.In,V.InL_iff];exact h2⟩;simp[Instr.loadAt,Instr.sureAddr,loadVar,V.conc,Z6 k,hag,yI k,h1,V.concL_eq]
     ·cases e
    | false =>
     simp only[hag,oL]at e;obtain⟨h1,h2⟩:=zEB r ha hg e;refine⟨?_,h2⟩;simp[Instr.loadAt,Instr.sureAddr,loadVar,V.conc,Z6 k,hag,h1]
   ·cases e
  ·cases e
 ·cases e
theorem zIh (ok:CtxOK P c) {t:TypeId}{a v:V}{h':H}(e:yA c t h a v=some h') (r:HR ρ D h w) (ha:a.In D) (hv:v.In D) :
  ∃w',(Instr.storeAt t (a.conc ρ) (v.conc ρ)).run P w = .ok () w'/\HR ρ D h' w'/\Mv ρ D h w ρ h' w'/\h'.next=h.next:=by
 unfold yA at e;split at e
 ·rename_i b o
  simp only[V.In]at ha;split at e
  ·rename_i l esz op hg
   split at e
   ·rename_i ti hti
    obtain⟨i,k⟩:=ok.ty t ti hti;cases h1:wL v.cells ti.size with
    | false=>simp[h1]at e
    | true =>
     cases h2':cond (Nat.ble esz.fz o) (zU v.cells) false with
     | false=>rw[h1,oK,h2']at e;cases e
     | true =>
      rw[h1,oK,h2',oK]at e;obtain⟨hfk,h2⟩:=zD0 h2';split at e
      ·rename_i l' hl'
       simp only[oA]at e;subst e;obtain⟨s1,s2,s3,_⟩:=j5 (P:=P) r ha hg (V.cells_In hv) h2 hl' (oE hfk);refine⟨_,?_,s2,s3,rfl⟩;have hlen:=yO.1 h1;simp only[Instr.storeAt,Instr.sureAddr,V.conc,storeVar,Sem.run_bind,Sem.run_pure,Result.andThen_ok,yI k,V.cells_conc];simp[hlen,s1]
      ·cases e
   ·cases e
  ·cases e
 ·cases e
theorem xL (ok:CtxOK P c) {t:TypeId}{ti:TI}{l:List V}{off:Nat}{v:V}(hti:c.ty.get t=some ti) (e:apart ti l off=some v) (hl:∀x∈l,x.In D) (w:World) :
  (part t (l.map (V.conc ρ)).toArray off).run P w = .ok (v.conc ρ) w/\v.In D:=by
 obtain⟨i,k⟩:=ok.ty t ti hti;unfold apart at e;split at e
 ·cases e
 ·rename_i q hq
  obtain⟨a1,rfl⟩:=zDb hq;cases hag:xi ti.desc with
  | true =>
   simp only[hag,oK]at e;split at e
   ·rename_i x hx
    simp only[oA]at e;subst e;obtain⟨a2,rfl⟩:=ZQ hx;refine⟨?_,by simp only[V.In,V.InL_iff];exact λx hx=>hl x (List.mem_of_mem_drop (List.mem_of_mem_take hx))⟩
    simp only[part,Sem.run_bind,Z6 k,hag,Result.andThen_ok,if_true,yI k,Sem.run_pure,wJ]
    congr 2
    apply Array.ext';rw[Array.toList_extract];simp[List.map_take,List.map_drop]
   ·cases e
  | false =>
   simp only[hag,oL]at e;split at e
   ·rename_i x y hxy
    simp only[oA]at e;subst e;have hv:l[off]? = some x:=by
     have:(l.drop off)[0]? = some x:=by rw[hxy];rfl
     simpa using this
    refine⟨?_,hl x (List.mem_of_getElem? hv)⟩;simp[part,Z6 k,hag,hv]
   ·cases e
theorem zFP (ok:CtxOK P c) {t:TypeId}{x v:V}{f:Nat}(e:zK2 c t x f=some v) (hx:x.In D):(Instr.field t (x.conc ρ) f).run P w = .ok (v.conc ρ) w/\v.In D:=by
 unfold zK2 at e;split at e
 ·rename_i ti hti
  obtain⟨i,k⟩:=ok.ty t ti hti;split at e
  ·rename_i fs cs hd
   split at e
   ·rename_i fd hfd
    split at e
    ·rename_i tf htf
     simp only[V.In,V.InL_iff]at hx;obtain⟨p1,p2⟩:=xL (ρ:=ρ) ok htf e hx w;refine⟨?_,p2⟩;simp[Instr.field,z7 k,hd,hfd,wJ,asAgg,p1]
    ·cases e
   ·cases e
  ·cases e
 ·cases e
theorem jO (l:List UInt8):(⟨l.toArray⟩:ByteArray).size=l.length:=by simp[ByteArray.size]
theorem kl {n:Int}{i:Nat}(h:xB n=some i):n=(i:Int):=by
 cases n<;>simp[xB]at h;simp[h]
theorem zB9 (ok:CtxOK P c) {t:TypeId}{x ix v:V}(e:jw c t x ix=some v) (hx:x.In D):(Instr.index t (x.conc ρ) (ix.conc ρ)).run P w = .ok (v.conc ρ) w/\v.In D:=by
 unfold jw at e;split at e
 ·rename_i kk n
  split at e
  ·rename_i i ti hi hti
   obtain⟨inf,k⟩:=ok.ty t ti hti;obtain rfl:=kl hi;split at e
   ·rename_i len el cs hd
    cases hb:Nat.blt i len with
    | false=>simp[hb]at e
    | true =>
     simp only[hb,oK]at e;have hlt:=(z8 _ _).1 hb;split at e
     ·rename_i te hte
      obtain⟨inf2,k2⟩:=ok.ty el te hte;simp only[V.In,V.InL_iff]at hx;obtain⟨p1,p2⟩:=xL (ρ:=ρ) ok hte e hx w;refine⟨?_,p2⟩;have hlt':(i:Int)<(len:Int):=by omega
      simp[Instr.index,V.conc,asIntOf,z7 k,hd,V.concL_eq,hlt,yI k2,p1]
     ·cases e
   ·rename_i bl hd
    split at e
    ·rename_i b hb
     simp only[oA]at e;subst e;have hat:∀(l:List UInt8) (i:Nat) (b:UInt8),YD l i=some b->l[i]? = some b:=by
      intro l
      induction l with
      | nil=>intro i b h;simp[YD]at h
      | cons y l ih=>intro i b h;cases i<;>simp_all [YD]
     have hb':=hat bl i b hb;have hs:(⟨bl.toArray⟩:ByteArray)[i]? = some b:=by
      obtain⟨hl,hv⟩:=List.getElem?_eq_some_iff.1 hb';have hsz:i<(⟨bl.toArray⟩:ByteArray).size:=by rw[jO];exact hl
      rw[getElem?_pos (⟨bl.toArray⟩:ByteArray) i hsz]
      congr 1
     refine⟨?_,by simp[V.In]⟩;have h0:(0:Int)<=(i:Int):=by omega
     simp[Instr.index,V.conc,asIntOf,z7 k,hd,hs]
    ·cases e
   ·cases e
  ·cases e
 ·cases e
theorem zFQ (ok:CtxOK P c) {t:TypeId}{x ix v:V}(e:zV c t x ix=some v) (hx:x.In D):(Instr.indexAt t (x.conc ρ) (ix.conc ρ)).run P w = .ok (v.conc ρ) w/\v.In D:=by
 unfold zV at e;split at e
 ·rename_i kk n
  split at e
  ·rename_i i ti hi hti
   obtain⟨inf,k⟩:=ok.ty t ti hti;obtain rfl:=kl hi;split at e
   ·rename_i len el b o hd
    cases hb:Nat.blt i len with
    | false=>simp[hb]at e
    | true =>
     simp only[hb,oK]at e;have hlt:=(z8 _ _).1 hb;split at e
     ·rename_i te hte
      obtain⟨inf2,k2⟩:=ok.ty el te hte;simp only[oA]at e;subst e;refine⟨?_,by simpa [V.In]using hx⟩;have hlt':(i:Int)<(len:Int):=by omega
      simp[Instr.indexAt,V.conc,asIntOf,z7 k,hd,Instr.sureAddr,hlt,yI k2,yL,Nat.add_assoc]
     ·cases e
   ·rename_i el b o len cp hd
    cases hb:Nat.blt i len with
    | false=>simp[hb]at e
    | true =>
     simp only[hb,oK]at e;have hlt:=(z8 _ _).1 hb;split at e
     ·rename_i te hte
      obtain⟨inf2,k2⟩:=ok.ty el te hte;simp only[oA]at e;subst e;refine⟨?_,by simpa [V.In]using hx⟩;have hlt':(i:Int)<(len:Int):=by omega
      simp[Instr.indexAt,V.conc,asIntOf,z7 k,hd,hlt,yI k2,yL,Nat.add_assoc]
     ·cases e
   ·cases e
  ·cases e
 ·cases e
theorem zFR (ok:CtxOK P c) {t:TypeId}{x v:V}(e:zc c t h x=some v) (r:HR ρ D h w) (hx:x.In D) (ts:Array TypeId) (hts:ts.getD 0 0=t) (ty:TypeId) (hne:0<ts.size) :
  (Builtin.len_ ts ty #[x.conc ρ]).run P w = .ok (v.conc ρ) w/\v.In D:=by
 have ht:ts[0]? = some t:=by
  rw[Array.getElem?_eq_getElem hne];simp only[Array.getD,hne,dif_pos]at hts;rw[<-hts];rfl
 unfold zc at e;split at e
 ·cases e
 ·rename_i ti hti
  obtain⟨i,k⟩:=ok.ty t ti hti;split at e
  ·rename_i l hd
   simp only[oA]at e;subst e;exact⟨by simp[Builtin.len_,ht,z7 k,hd,V.conc,goInt,yu,jO],by simp[V.In]⟩
  ·rename_i n el hd
   simp only[oA]at e;subst e;exact⟨by simp[Builtin.len_,ht,z7 k,hd,V.conc,goInt],by simp[V.In]⟩
  ·rename_i el b o n cp hd
   simp only[oA]at e;subst e;exact⟨by simp[Builtin.len_,ht,z7 k,hd,V.conc,goInt],by simp[V.In]⟩
  ·rename_i el hd
   simp only[oA]at e;subst e;exact⟨by simp[Builtin.len_,ht,z7 k,hd,V.conc,goInt],by simp[V.In]⟩
  ·rename_i a b hd
   simp only[oA]at e;subst e;exact⟨by simp[Builtin.len_,ht,z7 k,hd,V.conc,goInt],by simp[V.In]⟩
  ·rename_i a b rr hd
   simp only[V.In]at hx;split at e
   ·rename_i es clock hg
    simp only[oA]at e;subst e;have hr:=(r.rel rr _ hx hg).1;exact⟨by simp[Builtin.len_,ht,z7 k,hd,V.conc,goInt,getObj,Sem.run,hr],by simp[V.In]⟩
   ·cases e
  ·cases e
theorem zFO (ok:CtxOK P c) {t:TypeId}{x v:V}(e:zVI c t x=some v) (ts:Array TypeId) (hts:ts.getD 0 0=t) (ty:TypeId) (hne:0<ts.size) :
  (Builtin.cap_ ts ty #[x.conc ρ]).run P w = .ok (v.conc ρ) w/\v.In D:=by
 have ht:ts[0]? = some t:=by
  rw[Array.getElem?_eq_getElem hne];simp only[Array.getD,hne,dif_pos]at hts;rw[<-hts];rfl
 unfold zVI at e;split at e
 ·cases e
 ·rename_i ti hti
  obtain⟨i,k⟩:=ok.ty t ti hti;split at e
  ·rename_i n el hd
   simp only[oA]at e;subst e;exact⟨by simp[Builtin.cap_,ht,z7 k,hd,V.conc,goInt],by simp[V.In]⟩
  ·rename_i el b o n cp hd
   simp only[oA]at e;subst e;exact⟨by simp[Builtin.cap_,ht,z7 k,hd,V.conc,goInt,Cap.val],by simp[V.In]⟩
  ·rename_i el hd
   simp only[oA]at e;subst e;exact⟨by simp[Builtin.cap_,ht,z7 k,hd,V.conc,goInt],by simp[V.In]⟩
  ·cases e
end
end Go.Sim
