/- O. No condition. -/
import Derived.Test.YtnpeieeomokomaaGreatZN
import Derived.LoopNIn
namespace Go.Sim
def Fx (r:Option Nat):Fence:={ fn:=λ_=>True,depth:=none,alive:=false,round:=r }
theorem zHP (r:Option Nat) (n:Nat):(Fx r).room n:=λ_ h=>by simp[Fx]at h
theorem Ki {P:Program}{f:FuncId}{args:Array Value}{w:World}{R:Ending->World->Prop}(r r':Option Nat) (h:CallsIn (Fx r) 0 P f args w R):CallsIn (Fx r') 0 P f args w R:=h
theorem YU {P:Program}{l:Nat}{f:FuncId}{tmps:Array Value}{x y:Code}{w:World}{R:Ending->World->Prop}(r r':Option Nat) (h:RoundIn (Fx r) 0 P l f tmps x y w R):RoundIn (Fx r') 0 P l f tmps x y w R:=h
structure StR (ρ:Env) (D:Nat->Prop) (s:St) (a:Act) (w:World):Prop where
 tm:TmR ρ D s.n s.tm a.tmps
 dfr:a.defers=s.dfr.map (AD.conc ρ)
 dfrIn:∀d∈s.dfr,d.In D
 hr:HR ρ D s.heap w
def AX.toExit (ρ:Env):AX->Exit
 | .normal=>.normal
 | .exit id=>.exit id
 | .ret=>.ret
 | .panic v=>.panic [{ v:=v.conc ρ,recovered:=false }]
def AX.In (D:Nat->Prop):AX->Prop
 | .panic v=>v.In D
 | _=>True
def Ends (ρ:Env) (D:Nat->Prop) (s:St) (w:World) (x:AX) (s':St):Exit->Act->World->Prop:=λe a' w' =>
 ∃ρ',Mv ρ D s.heap w ρ' s'.heap w'/\StR ρ' (Dx D s.heap s'.heap) s' a' w'/\e=x.toExit ρ'/\x.In (Dx D s.heap s'.heap)
def SimC (P:Program) (rd:Option Nat) (code:Code) (s:St) (x:AX) (s':St):Prop :=
 ∀ρ D w a,StR ρ D s a w->(∀l,rd=some l->D l)->code.wpIn (Fx (rd.map ρ.blk)) 0 P (Ends ρ D s w x s') a w
def CallOut.post (ρ:Env) (D:Nat->Prop) (h:H) (w:World):CallOut->Ending->World->Prop
 | .ret v h',e,w'=>∃ρ',e = .returned (v.conc ρ')/\Mv ρ D h w ρ' h' w'/\HR ρ' (Dx D h h') h' w'/\v.In (Dx D h h')
 | .panic v h',e,w'=>∃ρ',e = .panicked [{ v:=v.conc ρ',recovered:=false }]/\Mv ρ D h w ρ' h' w'/\HR ρ' (Dx D h h') h' w'/\v.In (Dx D h h')
def SimF (P:Program) (f:Nat) (args:List V) (h:H) (out:CallOut):Prop :=
 ∀ρ D w,HR ρ D h w->(∀v∈args,v.In D)->CallsIn (Fx none) 0 P f (args.map (V.conc ρ)).toArray w (out.post ρ D h w)
def z3V (P:Program) (f:Nat) (args:List V) (h:H) (out:CallOut):Prop :=
 ∀ρ D w u,HR ρ D h w->(∀v∈args,v.In D)->CallsDIn (Fx none) 0 P f (args.map (V.conc ρ)).toArray u w λe u' w'=>u'=u/\out.post ρ D h w e w'
def zUv (P:Program) (l:Nat) (args:List V) (h:H) (out:CallOut):Prop :=
 ∀ρ D w,HR ρ D h w->D l->(∀v∈args,v.In D)->∃fn tmps x y,(Instr.yield (ρ.blk l) (args.map (V.conc ρ)).toArray).run P w = .ok (.round (ρ.blk l) fn tmps x y) w /\
  RoundIn (Fx none) 0 P (ρ.blk l) fn tmps x y w (out.post ρ D h w)
section basics
variable {ρ ρ':Env}{D:Nat->Prop}{s s':St}{w w':World}{a:Act}
theorem AD.conc_agree (h:Agree D ρ ρ') {d:AD}(hd:d.In D):d.conc ρ'=d.conc ρ:=by
 cases d with
 | coll id=>simp[AD.conc,(h id hd).1]
 | fn f cap args =>
  simp only[AD.conc,<-V.concL_eq];rw[V.concL_agree h _ (V.InL_iff.2 hd.1),V.concL_agree h _ (V.InL_iff.2 hd.2)]
theorem AD.In_mono {E:Nat->Prop}(h:∀id,D id->E id) {d:AD}(hd:d.In D):d.In E:=by
 cases d with
 | coll id=>exact h _ hd
 | fn f cap args=>exact⟨λv hv=>V.In_mono h _ (hd.1 v hv),λv hv=>V.In_mono h _ (hd.2 v hv)⟩
theorem ZW (h:Agree D ρ ρ'):∀{l:List AD},(∀d∈l,d.In D)->l.map (AD.conc ρ')=l.map (AD.conc ρ):=λhl=>List.map_congr_left λd hd=>AD.conc_agree h (hl d hd)
theorem StR.step (k:StR ρ D s a w) {h':H}(m:Mv ρ D s.heap w ρ' h' w') (r:HR ρ' (Dx D s.heap h') h' w'):StR ρ' (Dx D s.heap h') { s with heap:=h' } a w' :=
 ⟨k.tm.agree xZ m.agree,by rw[k.dfr];exact(ZW m.agree k.dfrIn).symm,λd hd=>AD.In_mono xZ (k.dfrIn d hd),r⟩
theorem xg (tm:Tm) (t j:Nat) (v:V) (ht:t<Tb.top):yB (tm.set t v) j=if j=t then v else yB tm j:=Tb.get_set _ _ _ _ _ ht
theorem TmR.put {n:Nat}{tm:Tm}{arr:Array Value}(k:TmR ρ D n tm arr) {t:Nat}{v:V}(ht:t<n) (hv:v.In D):TmR ρ D n (tm.set t v) (arr.setIfInBounds t (v.conc ρ)):=by
 have htop:t<Tb.top:=oI ht k.cap;refine⟨by simp[k.size],k.cap,λj=>?_,λj=>?_⟩
 ·rw[xg _ _ _ _ htop]
  by_cases hj:j=t
  ·subst hj
   simp[k.size,ht]
  ·rw[if_neg hj,<-k.val j]
   simp only[Array.getD_eq_getD_getElem?,Array.getElem?_setIfInBounds];rw[if_neg (λe=>hj e.symm)]
 ·rw[xg _ _ _ _ htop]
  split
  ·exact hv
  ·exact k.inn j
theorem StR.put (k:StR ρ D s a w) {d:Option Tmp}{v:V}(hv:v.In D) (e:yF s d v s.heap=some s'):StR ρ D s' (a.put d (v.conc ρ)) w/\s'.heap=s.heap:=by
 cases d with
 | none =>
  unfold yF at e;simp only[oA]at e;subst e;exact⟨⟨k.tm,k.dfr,k.dfrIn,k.hr⟩,rfl⟩
 | some t =>
  unfold yF at e;cases hb:Nat.blt t s.n with
  | false=>simp[hb]at e
  | true =>
   simp only[hb,oK,oA]at e;subst e;exact⟨⟨k.tm.put ((z8 _ _).1 hb) hv,k.dfr,k.dfrIn,k.hr⟩,rfl⟩
theorem wU (k:StR ρ D s a w):∀x v,yQ s.tm x=some v->a.eval x=v.conc ρ/\v.In D:=by
 intro x v h;cases x with
 | tmp t =>
  simp only[yQ,oA]at h;subst h;exact⟨k.tm.val t,k.tm.inn t⟩
 | const c =>
  simp only[yQ]at h;obtain⟨h1,h2⟩:=Z3 h;exact⟨(h1 ρ).symm,h2 D⟩
 | global g=>simp[yQ]at h
 | func f =>
  simp only[yQ,oA]at h;subst h;exact⟨by simp[Act.eval,V.conc,V.concL],by simp[V.In,V.InL]⟩
theorem zBK {s:St}{d:Option Tmp}{v:V}{h:H}:yF s d v h=yF { s with heap:=h } d v h:=rfl
end basics
section rules
variable {P:Program}{rd:Option Nat}
theorem Ends.refl {ρ:Env}{D:Nat->Prop}{s:St}{a:Act}{w:World}(k:StR ρ D s a w) {x:AX}(hx:∀v,x≠.panic v):Ends ρ D s w x s (x.toExit ρ) a w :=
 ⟨ρ,Mv.refl _ _ _ _,by rw[zk];exact k,rfl,by cases x<;>first|trivial|exact absurd rfl (hx _)⟩
theorem Ends.trans {ρ ρ1:Env}{D:Nat->Prop}{s s1 s2:St}{w w1:World}{x:AX}{e:Exit}{a2:Act}{w2:World}(hD:∀id,D id->id<s.heap.next)
  (m:Mv ρ D s.heap w ρ1 s1.heap w1) (h:Ends ρ1 (Dx D s.heap s1.heap) s1 w1 x s2 e a2 w2):Ends ρ D s w x s2 e a2 w2:=by
 obtain⟨ρ2,m2,k2,he,hx⟩:=h;have hDx:=xS (D:=D) m.next m2.next;exact⟨ρ2,Mv.trans hD m m2,by rw[<-hDx];exact k2,he,by rw[<-hDx];exact hx⟩
theorem SimC.skip (s:St):SimC P rd .skip s .normal s:=λ_ _ _ _ k _=>wpIn_skip (Ends.refl k (λ_ h=>by cases h))
theorem SimC.exit (id:Nat) (s:St):SimC P rd (.exit id) s (.exit id) s:=λ_ _ _ _ k _=>wpIn_exit (Ends.refl k (λ_ h=>by cases h))
theorem SimC.ret (s:St):SimC P rd .ret s .ret s:=λ_ _ _ _ k _=>wpIn_ret (Ends.refl k (λ_ h=>by cases h))
theorem wu {ρ ρ1:Env}{D:Nat->Prop}(h:Agree D ρ ρ1) (hl:∀l,rd=some l->D l):rd.map ρ1.blk=rd.map ρ.blk:=by
 cases rd with
 | none=>rfl
 | some l=>simp[(h l (hl l rfl)).1]
theorem SimC.seq {x y:Code}{s s1 s2:St}{e:AX}(h1:SimC P rd x s .normal s1) (h2:SimC P rd y s1 e s2):SimC P rd (.seq x y) s e s2:=by
 intro ρ D w a k hl;refine wpIn_seq (wpIn_mono (h1 ρ D w a k hl) ?_);rintro e1 a1 w1 ⟨ρ1,m1,k1,rfl,_⟩;show y.wpIn _ 0 P _ a1 w1;rw[<-wu m1.agree hl];exact wpIn_mono (h2 ρ1 _ w1 a1 k1 (λl hl'=>.inl (hl l hl'))) λe2 a2 w2 q=>Ends.trans k.hr.lt m1 q
theorem SimC.seq_out {x y:Code}{s s1:St}{e:AX}(h1:SimC P rd x s e s1) (he:e≠.normal):SimC P rd (.seq x y) s e s1:=by
 intro ρ D w a k hl;refine wpIn_seq (wpIn_mono (h1 ρ D w a k hl) ?_);rintro e1 a1 w1 ⟨ρ1,m1,k1,rfl,hx⟩;have:Ends ρ D s w e s1 (e.toExit ρ1) a1 w1:=⟨ρ1,m1,k1,rfl,hx⟩;cases e<;>first|exact absurd rfl he|exact this
theorem SimC.cond {o:Operand}{x y:Code}{s s1:St}{t:Bool}{e:AX}(ho:yQ s.tm o=some (.bool t)) (h:SimC P rd (cond t x y) s e s1):SimC P rd (.cond o x y) s e s1:=by
 intro ρ D w a k hl;obtain⟨h1,_⟩:=wU k _ _ ho;refine wpIn_cond (t:=t) (by rw[h1];simp[V.conc]) ?_;cases t
 ·exact h ρ D w a k hl
 ·exact h ρ D w a k hl
theorem SimC.block {id:Nat}{x:Code}{s s1:St}{e:AX}(h:SimC P rd x s e s1):SimC P rd (.block id x) s (match e with | .exit i=>(if i=id then .normal else .exit i)|e=>e) s1:=by
 intro ρ D w a k hl;refine wpIn_block (wpIn_mono (h ρ D w a k hl) ?_);rintro e1 a1 w1 ⟨ρ1,m1,k1,rfl,hx⟩;cases e with
 | exit i =>
  simp only[AX.toExit,Exit.inBlock];by_cases hi:i=id
  ·simp only[hi,if_true];exact⟨ρ1,m1,k1,rfl,trivial⟩
  ·simp only[hi,if_false];exact⟨ρ1,m1,k1,rfl,trivial⟩
 | normal=>exact⟨ρ1,m1,k1,rfl,hx⟩
 | ret=>exact⟨ρ1,m1,k1,rfl,hx⟩
 | panic v=>exact⟨ρ1,m1,k1,rfl,hx⟩
def SimL (P:Program) (rd:Option Nat) (body:Code) (s:St) (x:AX) (s':St):Prop :=
 ∃m,∀ρ D w a,StR ρ D s a w->(∀l,rd=some l->D l)->Code.roundsIn (Fx (rd.map ρ.blk)) 0 P body (Ends ρ D s w x s') m a w
theorem zE8 {F:Fence}{n:Nat}{c:Code}{Q Q':Exit->Act->World->Prop}(hq:∀e a w,Q e a w->Q' e a w):∀(m:Nat) (a:Act) (w:World),Code.roundsIn F n P c Q m a w->Code.roundsIn F n P c Q' m a w:=by
 intro m
 induction m with
 | zero=>intro a w h;exact h
 | succ m ih =>
  intro a w h;refine wpIn_mono h ?_;intro e a w q;cases e<;>first|exact ih _ _ q|exact hq _ _ _ q
theorem SimL.last {x:Code}{s s1:St}{e:AX}(h:SimC P rd x s e s1) (he:e≠.normal):SimL P rd x s e s1:=by
 refine⟨1,λρ D w a k hl=>wpIn_mono (h ρ D w a k hl) ?_⟩
 rintro e1 a1 w1 ⟨ρ1,m1,k1,rfl,hx⟩;have:Ends ρ D s w e s1 (e.toExit ρ1) a1 w1:=⟨ρ1,m1,k1,rfl,hx⟩;cases e<;>first|exact absurd rfl he|exact this
theorem SimL.next {x:Code}{s s1 s2:St}{e:AX}(h1:SimC P rd x s .normal s1) (h2:SimL P rd x s1 e s2):SimL P rd x s e s2:=by
 obtain⟨m,h2⟩:=h2;refine⟨m+1,λρ D w a k hl=>wpIn_mono (h1 ρ D w a k hl) ?_⟩
 rintro e1 a1 w1 ⟨ρ1,m1,k1,rfl,_⟩;show Code.roundsIn _ 0 P x _ m a1 w1;rw[<-wu m1.agree hl];exact zE8 (λe2 a2 w2 q=>Ends.trans k.hr.lt m1 q) m a1 w1 (h2 ρ1 _ w1 a1 k1 (λl hl'=>.inl (hl l hl')))
theorem SimL.loop {x:Code}{s s1:St}{e:AX}(h:SimL P rd x s e s1):SimC P rd (.loop x) s e s1:=by
 obtain⟨m,h⟩:=h;exact λρ D w a k hl=>wpIn_loop_rounds m (h ρ D w a k hl)
theorem zTz (l:List V):xr l 0=l.length:=by rw[zq];rfl
theorem zCA:∀(l:List V) (i:Nat) (t:Tm) (j:Nat),i+l.length<=Tb.top->yB (zF l i t) j=if i<=j/\j<i+l.length then (l[j-i]?).getD zC else yB t j:=by
 intro l
 induction l with
 | nil=>intro i t j _;simp only[zF,List.length_nil];rw[if_neg (by omega)]
 | cons v l ih =>
  intro i t j h;simp only[oS]at h ⊢;rw[zF,ih _ _ _ (by omega),xg _ _ _ _ (by omega)];by_cases h1:j=i
  ·subst h1
   rw[if_neg (by omega),if_pos rfl,if_pos (by omega)];simp
  ·by_cases h2:i+1<=j/\j<i+1+l.length
   ·rw[if_pos h2,if_pos (by omega)]
    obtain⟨k,hk⟩:∃k,j-i=k+1:=⟨j-i-1,by omega⟩;rw[hk,List.getElem?_cons_succ,show j-(i+1)=k from by omega]
   ·rw[if_neg h2,if_neg h1,if_neg (by omega)]
theorem zLE {ρ:Env}{D:Nat->Prop}{args:List V}{n:Nat}(h1:args.length<=n) (h2:n<=511) (hin:∀v∈args,v.In D) :
  TmR ρ D n (zF args 0 (Tb.leaf zC)) ((args.map (V.conc ρ)).toArray++Array.replicate (n-(args.map (V.conc ρ)).toArray.size) undef):=by
 have hl:yB (Tb.leaf zC)=λ_=>zC:=by funext j;exact Tb.get_leaf _ _
 have hg:∀j,yB (zF args 0 (Tb.leaf zC)) j=(args[j]?).getD zC:=λj=>by
  rw[zCA _ _ _ _ (by unfold Tb.top;omega),hl];by_cases hj:j<args.length
  ·rw[if_pos (by omega)];rfl
  ·rw[if_neg (by omega),oa (by omega)];rfl
 refine⟨by simp;omega,by unfold Tb.top;omega,λj=>?_,λj=>?_⟩
 ·rw[hg,Array.getD_eq_getD_getElem?,Array.getElem?_append]
  by_cases hj:j<args.length
  ·rw[if_pos (by simpa using hj)]
   simp[hj]
  ·rw[if_neg (by simpa using hj),oa (Nat.le_of_not_lt hj)]
   simp only[Option.getD_none,xO,Array.getElem?_replicate];split<;>rfl
 ·rw[hg]
  by_cases hj:j<args.length
  ·simp only[hj,oM,Option.getD_some]
   exact hin _ (oQ hj)
  ·rw[oa (Nat.le_of_not_lt hj)];exact xY D
variable {c:Ctx}{orc:Nat->List V->H->Option (V×H)}
def z5I (tmps:Array Value):ResultVar->Sem Value
 | .tmp t=>pure (tmps.getD t undef)
 | .cell a t=>do loadVar t (<-asAddr (tmps.getD a undef))
theorem zDy (ok:CtxOK P c) {tmps:Array Value}(g:ResultVar->Sem Value) (hg1:∀t,g (.tmp t)=pure (tmps.getD t undef)) (hg2:∀a t,g (.cell a t)=(do loadVar t (<-asAddr (tmps.getD a undef)))) {ρ:Env}{D:Nat->Prop}{n:Nat}{tm:Tm}{h:H}{w:World}(hr:HR ρ D h w) (ht:TmR ρ D n tm tmps) {rs0:List ResultVar}:∀(rs:List ResultVar) (acc:List V) (vs:List V),
  leave c rs0 tm h rs acc=some vs->(∀v∈acc,v.In D) ->
  ∃qs:List V,vs=acc.reverse++qs/\(rs.mapM (m:=Sem) g).run P w = .ok (qs.map (V.conc ρ)) w/\∀v∈vs,v.In D:=by
 intro rs
 induction rs with
 | nil =>
  intro acc vs e hacc;simp only[leave,oA]at e;subst e;exact⟨[],by simp,by simp,λv hv=>hacc v (by simpa using hv)⟩
 | cons r rs ih =>
  intro acc vs e hacc;cases r with
  | tmp t =>
   simp only[leave]at e;obtain⟨qs,h1,h2,h3⟩:=ih _ _ e (λv hv=>by rcases oY.1 hv with g|g<;>first|(rw[g];exact ht.inn t)|exact hacc v g)
   refine⟨yB tm t::qs,by simp[h1],?_,h3⟩;simp only[List.mapM_cons,hg1,Sem.run_bind,Sem.run_pure,Result.andThen_ok,ht.val t,h2,List.map_cons]
  | cell a t =>
   simp only[leave]at e;split at e
   ·rename_i v hv
    obtain⟨l1,l2⟩:=Xb (P:=P) ok hv hr (ht.inn a);obtain⟨qs,h1,h2,h3⟩:=ih _ _ e (λu hu=>by rcases oY.1 hu with g|g<;>first|(rw[g];exact l2)|exact hacc u g)
    refine⟨v::qs,by simp[h1],?_,h3⟩;have hadr:∃b o,yB tm a = .ptr b o:=by
     unfold zO at hv;split at hv
     ·rename_i b o hb;exact⟨b,o,hb⟩
     ·cases hv
    obtain⟨b,o,hb⟩:=hadr;have hval:=ht.val a;rw[hb]at hval l1;simp only[V.conc]at hval;simp only[Instr.loadAt,V.conc,Instr.sureAddr,Sem.run_bind,Sem.run_pure,Result.andThen_ok]at l1;have hasa:(asAddr (tmps.getD a undef)).run P w = .ok ⟨ρ.blk b,ρ.off b+o,none⟩ w:=by rw[hval];rfl
    simp only[List.mapM_cons,hg2,Sem.run_bind,hasa,Sem.run_pure,Result.andThen_ok,l1,h2,List.map_cons]
   ·cases e
theorem Zp (ok:CtxOK P c) {ρ:Env}{D:Nat->Prop}{n:Nat}{tm:Tm}{tmps:Array Value}{h:H}{w:World}(hr:HR ρ D h w) (ht:TmR ρ D n tm tmps) {fn:Func}{fi:FI}(hf:fn.results.toList=fi.results)
  {vs:List V}(e:leave c fi.results tm h fi.results []=some vs):(results fn tmps).run P w = .ok ((yj vs).conc ρ) w/\(yj vs).In D:=by
 have key:=λ(g:ResultVar->Sem Value) hg1 hg2=>zDy (P:=P) ok (tmps:=tmps) g hg1 hg2 hr ht fi.results [] vs e (λ_ hv=>by cases hv)
 have h3:∀v∈vs,v.In D:=(key (z5I tmps) (λ_=>rfl) (λ_ _=>rfl)).choose_spec.2.2;constructor
 ·have hgen:∀(g:ResultVar->Sem Value),(∀t,g (.tmp t)=pure (tmps.getD t undef))->(∀a t,g (.cell a t)=(do loadVar t (<-asAddr (tmps.getD a undef)))) ->
    (do let vs <-fn.results.mapM g;pure (if h:vs.size=1 then vs[0] else .tuple vs):Sem Value).run P w = .ok ((yj vs).conc ρ) w:=by
   intro g hg1 hg2;rw[Sem.run_bind,Array.mapM_eq_mapM_toList,hf,Sem.run_map];obtain⟨qs,h1,h2,_⟩:=key g hg1 hg2;rw[h2];simp only[List.reverse_nil,List.nil_append]at h1;subst h1;simp only[Result.andThen_ok]
   match vs with
   | []=>simp[yj,V.conc,V.concL]
   | [v]=>simp[yj]
   | a::b::l=>simp[yj,V.conc,V.concL,V.concL_eq]
  unfold results;exact hgen _ (λ_=>rfl) (λ_ _=>rfl)
 ·match vs,h3 with
  | [],_=>simp[yj,V.In,V.InL]
  | [v],h3=>exact h3 v (by simp)
  | a::b::l,h3=>simp only[yj,V.In,V.InL_iff];exact h3
def ju (P:Program) (ih:Bool->Code->St->Option Out):Prop:=∀rd code s x s',ih (Option.isSome rd) code s=some (.done x s')->SimC P rd code s x s'
def yg (P:Program) (c:Ctx) (orc:Nat->List V->H->Option (V×H)):Prop:=∀f args h v h',orc f args h=some (v,h')->(∃fi,c.fn.get f=some fi)/\SimF P f args h (.ret v h')
theorem jz (ok:CtxOK P c) {f:Nat}{fi:FI}(h:c.fn.get f=some fi) (args:Array Value) (w:World):(callFunc f args).run P w = .ok (.enter f args) w:=by
 obtain⟨g,f1,f2,f3,_⟩:=ok.fn f fi h;simp only[callFunc,Sem.run_bind,run_program,Result.andThen_ok,f1,f2,f3,Option.isNone_some,Bool.false_eq_true,if_false,Sem.run_pure]
theorem qq {ih:Bool->Code->St->Option Out}(hih:ju P ih) {fi:FI}{args:List V}{h:H}{x:AX}{s:St}(e:qp ih fi args h=some (.done x s)) {ρ:Env}{D:Nat->Prop}{w:World}(hr:HR ρ D h w) (hin:∀v∈args,v.In D) :
  fi.body.wpIn (Fx none) 0 P (λex a' w'=>∃ρ',Mv ρ D h w ρ' s.heap w'/\StR ρ' (Dx D h s.heap) s a' w'/\ex=x.toExit ρ'/\x.In (Dx D h s.heap)) { tmps:=(args.map (V.conc ρ)).toArray++Array.replicate (fi.n-(args.map (V.conc ρ)).toArray.size) undef,defers:=[] } w:=by
 unfold qp at e;cases hc:(Nat.ble (xr args 0) fi.n && Nat.ble fi.n 511)with
 | false=>simp[hc]at e
 | true =>
  simp only[hc,oK]at e;simp only[oG]at hc;have h1:=oE hc.1;have h2:=oE hc.2;rw[zTz]at h1;exact hih none _ _ _ _ e ρ D w _ ⟨zLE h1 h2 hin,rfl,λ_ h=>(by cases h),hr⟩ (λ_ h=>by cases h)
theorem zDX (ok:CtxOK P c) {ih:Bool->Code->St->Option Out}(hih:ju P ih) {f:Nat}{args:List V}{h:H}{out:CallOut}(e:zAn c ih f args h=some out):z3V P f args h out:=by
 intro ρ D w u hr hin;unfold zAn at e;split at e
 ·cases e
 ·rename_i fi hfi
  obtain⟨fn,f1,f2,f3,f4,f5⟩:=ok.fn f fi hfi;have key:∀(x:AX) (s:St),qp ih fi args h=some (.done x s)->(x = .normal\/x = .ret)->zPo c fi s=some out ->
    CallsDIn (Fx none) 0 P f (args.map (V.conc ρ)).toArray u w λe u' w'=>u'=u/\out.post ρ D h w e w':=by
   intro x s hx hxx hend;refine callsDIn_of_wp f1 f3 trivial ?_;rw[f4];refine wpIn_mono (qq hih hx hr hin) ?_;rintro ex a' w' ⟨ρ',m,k,rfl,_⟩;unfold zPo at hend;split at hend
   ·rename_i hd
    split at hend
    ·rename_i vs hvs
     simp only[oA]at hend;subst hend;obtain⟨r1,r2⟩:=Zp (P:=P) ok k.hr k.tm f5 hvs;have hdf:a'.defers=[]:=by rw[k.dfr,hd];rfl
     rcases hxx with rfl|rfl
     ·exact⟨hdf,_,r1,ρ',rfl,m,k.hr,r2⟩
     ·exact⟨hdf,_,r1,ρ',rfl,m,k.hr,r2⟩
    ·cases hend
   ·cases hend
  split at e
  ·rename_i s hs;exact key _ _ hs (.inl rfl) e
  ·rename_i s hs;exact key _ _ hs (.inr rfl) e
  ·cases e
theorem zBn (ok:CtxOK P c) {ih:Bool->Code->St->Option Out}(hih:ju P ih) {fn:Func}{tmps:Array Value}{R:Ending->World->Prop}{ρ0:Env}{D0:Nat->Prop}{h0:H}{w0:World}(hlt:∀id,D0 id->id<h0.next) :
  ∀(l:List AD) (h h':H) (ρ:Env) (w:World),xv (zAn c ih) l h=some h'->HR ρ (Dx D0 h0 h) h w->Mv ρ0 D0 h0 w0 ρ h w->(∀d∈l,d.In (Dx D0 h0 h)) ->
   (∀ρ' w',HR ρ' (Dx D0 h0 h') h' w'->Mv ρ0 D0 h0 w0 ρ' h' w'->Mv ρ (Dx D0 h0 h) h w ρ' h' w'->∃v,(results fn tmps).run P w' = .ok v w'/\R (.returned v) w') ->
   LeavesInM (Fx none) 0 P fn tmps R (l.map (AD.conc ρ)) .returning w:=by
 intro l
 induction l with
 | nil =>
  intro h h' ρ w e hr m _ hend;simp only[xv,oA]at e;subst e;exact hend ρ w hr m (Mv.refl _ _ _ _)
 | cons d l ih' =>
  intro h h' ρ w e hr m hin hend;cases d with
  | coll id =>
   simp only[xv]at e;split at e
   ·rename_i hg
    have hd:Dx D0 h0 h id:=hin _ (List.mem_cons_self ..);have hrel:=hr.rel id _ hd hg;have hw:w.heap[ρ.blk id]? = some (.deferred (some [])):=hrel;have hr2:=hr.upd (o':=.deferred false) (x:=.deferred none) hd hg rfl rfl rfl;have m2:=Mv.upd (o':=.deferred false) (x:=.deferred none) hr hd hg rfl rfl;have hDx:Dx D0 h0 (h.upd id (some (.deferred false)))=Dx D0 h0 h:=rfl;refine⟨by simp,.inl ⟨ρ.blk id,_,rfl,run_takeDeferred hw,?_⟩⟩;refine ih' (h.upd id (some (.deferred false))) h' ρ _ e (by rw[hDx];exact hr2) (Mv.trans hlt m m2) (λd hd=>hin d (oH _ hd)) ?_
    intro ρ' w' q1 q2 q3;refine hend ρ' w' q1 q2 (Mv.trans hr.lt m2 ?_);rw[wa (yx _ _ _)];exact q3
   ·cases e
  | fn f cap args =>
   simp only[xv]at e;split at e
   ·rename_i v h1 hcall
    obtain⟨d1,d2⟩:=hin _ (List.mem_cons_self ..);have hsim:=zDX ok hih hcall ρ (Dx D0 h0 h) w .returning hr (λv hv=>(List.mem_append.1 hv).elim (d2 v) (d1 v))
    have hcf:∃fi,c.fn.get f=some fi:=by
     unfold zAn at hcall;split at hcall
     ·cases hcall
     ·rename_i fi hfi;exact⟨fi,hfi⟩
    obtain⟨fi,hfi⟩:=hcf;obtain⟨g,f1,f2,f3,f4,f5⟩:=ok.fn f fi hfi;refine⟨by simp,.inr ⟨λh=>by simp[Fx]at h,.func f,_,f,_,rfl,?_,λ_ _=>trivial,CallsDIn.mono hsim ?_⟩⟩
    ·simp only[AD.conc,invoke,callFunc,Sem.run_bind,run_program,Result.andThen_ok,f1,f2,f3,Option.isNone_some,Bool.false_eq_true,if_false,Sem.run_pure]
     congr 2
     simp
    ·rintro ex u' w' ⟨rfl,ρ1,rfl,m1,r1,_⟩
     have hDx:=xS (D:=D0) m.next m1.next;show LeavesInM _ 0 P fn tmps R (l.map (AD.conc ρ)) (settle .returning) w';rw[<-ZW m1.agree (λd hd=>hin d (oH _ hd))]
     refine ih' h1 h' ρ1 w' e (by rw[<-hDx];exact r1) (Mv.trans hlt m m1) (λd hd=>by rw[<-hDx];exact AD.In_mono xZ (hin d (oH _ hd))) ?_
     intro ρ' w'' q1 q2 q3;exact hend ρ' w'' q1 q2 (Mv.trans hr.lt m1 (by rw[hDx];exact q3))
   ·cases e
theorem J3 (ok:CtxOK P c) {ih:Bool->Code->St->Option Out}(hih:ju P ih) {f:Nat}{args:List V}{h:H}{out:CallOut}(e:zDY c ih f args h=some out):SimF P f args h out:=by
 intro ρ D w hr hin;unfold zDY at e;split at e
 ·cases e
 ·rename_i fi hfi
  obtain⟨fn,f1,f2,f3,f4,f5⟩:=ok.fn f fi hfi;have key:∀(x:AX) (s:St),qp ih fi args h=some (.done x s)->(x = .normal\/x = .ret)->zJB c ih fi s=some out ->
    CallsIn (Fx none) 0 P f (args.map (V.conc ρ)).toArray w (out.post ρ D h w):=by
   intro x s hx hxx hend;refine callsIn_of_wp_marks f1 f3 trivial ?_;rw[f4];refine wpIn_mono (qq hih hx hr hin) ?_;rintro ex a' w' ⟨ρ',m,k,rfl,_⟩;unfold zJB at hend;split at hend
   ·rename_i h2 hrd
    split at hend
    ·rename_i vs hvs
     simp only[oA]at hend;subst hend;have hl:LeavesInM (Fx none) 0 P fn a'.tmps (CallOut.post ρ D h w (.ret (yj vs) h2)) a'.defers .returning w':=by
      rw[k.dfr];refine zBn ok hih hr.lt s.dfr s.heap h2 ρ' w' hrd k.hr m k.dfrIn ?_;intro ρ2 w2 q1 q2 q3;have hsub:∀id,Dx D h s.heap id->Dx D h h2 id:=λ_ hd=>hd.imp (λg=>g) (λg=>⟨g.1,oI g.2 q3.next⟩)
      obtain⟨r1,r2⟩:=Zp (P:=P) ok q1 (k.tm.agree hsub q3.agree) f5 hvs;exact⟨_,r1,ρ2,rfl,q2,q1,r2⟩
     rcases hxx with rfl|rfl
     ·exact hl
     ·exact hl
    ·cases hend
   ·cases hend
  split at e
  ·rename_i s hs;exact key _ _ hs (.inl rfl) e
  ·rename_i s hs;exact key _ _ hs (.inr rfl) e
  ·rename_i v s hs
   split at e
   ·rename_i hd
    simp only[oA]at e;subst e;refine callsIn_of_wp_marks f1 f3 trivial ?_;rw[f4];refine wpIn_mono (qq hih hs hr hin) ?_;rintro ex a' w' ⟨ρ',m,k,rfl,hv⟩;show LeavesInM _ 0 P fn a'.tmps _ a'.defers (.panicking _) w';rw[k.dfr,hd];exact⟨ρ',rfl,m,k.hr,hv⟩
   ·cases e
  ·cases e
theorem kQ (ok:CtxOK P c) (hor:yg P c orc) {ih:Bool->Code->St->Option Out}(hih:ju P ih) {f:Nat}{args:List V}{h:H}{out:CallOut}(e:xe c orc ih f args h=some out):SimF P f args h out:=by
 unfold xe at e;split at e
 ·rename_i v h' ho
  simp only[oA]at e;subst e;exact(hor _ _ _ _ _ ho).2
 ·exact J3 ok hih e
theorem Kh (hor:yg P c orc) {ih:Bool->Code->St->Option Out}{f:Nat}{args:List V}{h:H}{out:CallOut}(e:xe c orc ih f args h=some out):∃fi,c.fn.get f=some fi:=by
 unfold xe at e;split at e
 ·rename_i v h' ho;exact(hor _ _ _ _ _ ho).1
 ·unfold zDY at e
  split at e
  ·cases e
  ·rename_i fi hfi;exact⟨fi,hfi⟩
end rules
end Go.Sim
