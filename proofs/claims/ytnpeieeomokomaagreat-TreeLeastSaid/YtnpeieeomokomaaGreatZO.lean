/- O. No condition. -/
import Derived.Test.YtnpeieeomokomaaGreatZG
import Derived.LoopNIn
import Derived.Test.YtnpeieeomokomaaGreatZC
namespace Go.Sim
def Fx (r:Option Nat):Fence:={ fn:=λ_=>True,depth:=none,alive:=false,round:=r }
theorem zIN (r:Option Nat) (n:Nat):(Fx r).room n:=λ_ h=>by simp[Fx]at h
theorem Oa {P:Program}{f:FuncId}{args:Array Value}{w:World}{R:Ending->World->Prop}(r r':Option Nat) (h:CallsIn (Fx r) 0 P f args w R):CallsIn (Fx r') 0 P f args w R:=h
theorem XJ {P:Program}{l:Nat}{f:FuncId}{tmps:Array Value}{x y:Code}{w:World}{R:Ending->World->Prop}(r r':Option Nat) (h:RoundIn (Fx r) 0 P l f tmps x y w R):RoundIn (Fx r') 0 P l f tmps x y w R:=h
structure StR (ρ:Env) (D:Nat->Prop) (s:St) (a:Act) (w:World):Prop where
 tm:TmR ρ D s.n s.tm a.tmps
 dfr:a.defers=s.dfr.map (AD.conc ρ)
 dfrIn:∀d∈s.dfr,d.In D
 hr:HR ρ D s.heap w
def AX.toExit (ρ:Env):AX->Exit
 | .normal=>.normal
 | .exit id=>.exit id
 | .ret=>.ret
 | .panic v=>.panic [{ v:=v.conc ρ,recovered:=false }]
def AX.In (D:Nat->Prop):AX->Prop
 | .panic v=>v.In D
 | _=>True
def Ends (ρ:Env) (D:Nat->Prop) (s:St) (w:World) (x:AX) (s':St):Exit->Act->World->Prop:=λe a' w' =>
 ∃ρ',Mv ρ D s.heap w ρ' s'.heap w'/\StR ρ' (Dx D s.heap s'.heap) s' a' w'/\e=x.toExit ρ'/\x.In (Dx D s.heap s'.heap)
def SimC (P:Program) (rd:Option Nat) (code:Code) (s:St) (x:AX) (s':St):Prop :=
 ∀ρ D w a,StR ρ D s a w->(∀l,rd=some l->D l)->code.wpIn (Fx (rd.map ρ.blk)) 0 P (Ends ρ D s w x s') a w
def CallOut.post (ρ:Env) (D:Nat->Prop) (h:H) (w:World):CallOut->Ending->World->Prop
 | .ret v h',e,w'=>∃ρ',e = .returned (v.conc ρ')/\Mv ρ D h w ρ' h' w'/\HR ρ' (Dx D h h') h' w'/\v.In (Dx D h h')
 | .panic v h',e,w'=>∃ρ',e = .panicked [{ v:=v.conc ρ',recovered:=false }]/\Mv ρ D h w ρ' h' w'/\HR ρ' (Dx D h h') h' w'/\v.In (Dx D h h')
def SimF (P:Program) (f:Nat) (args:List V) (h:H) (out:CallOut):Prop :=
 ∀ρ D w,HR ρ D h w->(∀v∈args,v.In D)->CallsIn (Fx none) 0 P f (args.map (V.conc ρ)).toArray w (out.post ρ D h w)
def z4b (P:Program) (f:Nat) (args:List V) (h:H) (out:CallOut):Prop :=
 ∀ρ D w u,HR ρ D h w->(∀v∈args,v.In D)->CallsDIn (Fx none) 0 P f (args.map (V.conc ρ)).toArray u w λe u' w'=>u'=u/\out.post ρ D h w e w'
def zVf (P:Program) (l:Nat) (args:List V) (h:H) (out:CallOut):Prop :=
 ∀ρ D w,HR ρ D h w->D l->(∀v∈args,v.In D)->∃fn tmps x y,(Instr.yield (ρ.blk l) (args.map (V.conc ρ)).toArray).run P w = .ok (.round (ρ.blk l) fn tmps x y) w /\
  RoundIn (Fx none) 0 P (ρ.blk l) fn tmps x y w (out.post ρ D h w)
section basics
variable {ρ ρ':Env}{D:Nat->Prop}{s s':St}{w w':World}{a:Act}
theorem AD.conc_agree (h:Agree D ρ ρ') {d:AD}(hd:d.In D):d.conc ρ'=d.conc ρ:=by
 cases d with
 | coll id=>simp[AD.conc,(h id hd).1]
 | fn f cap args =>
  simp only[AD.conc,<-V.concL_eq];rw[V.concL_agree h _ (V.InL_iff.2 hd.1),V.concL_agree h _ (V.InL_iff.2 hd.2)]
theorem AD.In_mono {E:Nat->Prop}(h:∀id,D id->E id) {d:AD}(hd:d.In D):d.In E:=by
 cases d with
 | coll id=>exact h _ hd
 | fn f cap args=>exact⟨λv hv=>V.In_mono h _ (hd.1 v hv),λv hv=>V.In_mono h _ (hd.2 v hv)⟩
theorem YG (h:Agree D ρ ρ'):∀{l:List AD},(∀d∈l,d.In D)->l.map (AD.conc ρ')=l.map (AD.conc ρ):=λhl=>List.map_congr_left λd hd=>AD.conc_agree h (hl d hd)
theorem StR.step (k:StR ρ D s a w) {h':H}(m:Mv ρ D s.heap w ρ' h' w') (r:HR ρ' (Dx D s.heap h') h' w'):StR ρ' (Dx D s.heap h') { s with heap:=h' } a w' :=
 ⟨k.tm.agree wN m.agree,by rw[k.dfr];exact(YG m.agree k.dfrIn).symm,λd hd=>AD.In_mono wN (k.dfrIn d hd),r⟩
theorem xu (tm:Tm) (t j:Nat) (v:V) (ht:t<Tb.top):zi (tm.set t v) j=if j=t then v else zi tm j:=Tb.get_set _ _ _ _ _ ht
theorem TmR.put {n:Nat}{tm:Tm}{Yk:Array Value}(k:TmR ρ D n tm Yk) {t:Nat}{v:V}(ht:t<n) (hv:v.In D):TmR ρ D n (tm.set t v) (Yk.setIfInBounds t (v.conc ρ)):=by
 have htop:t<Tb.top:=oI ht k.cap;refine⟨by simp[k.size],k.cap,λj=>?_,λj=>?_⟩
 ·rw[xu _ _ _ _ htop]
  by_cases hj:j=t
  ·subst hj
   simp[k.size,ht]
  ·rw[if_neg hj,<-k.val j]
   simp only[Array.getD_eq_getD_getElem?,Array.getElem?_setIfInBounds];rw[if_neg (λe=>hj e.symm)]
 ·rw[xu _ _ _ _ htop]
  split
  ·exact hv
  ·exact k.inn j
theorem StR.put (k:StR ρ D s a w) {d:Option Tmp}{v:V}(hv:v.In D) (e:yW s d v s.heap=some s'):StR ρ D s' (a.put d (v.conc ρ)) w/\s'.heap=s.heap:=by
 cases d with
 | none =>
  unfold yW at e;simp only[oA]at e;subst e;exact⟨⟨k.tm,k.dfr,k.dfrIn,k.hr⟩,rfl⟩
 | some t =>
  unfold yW at e;cases hb:Nat.blt t s.n with
  | false=>simp[hb]at e
  | true =>
   simp only[hb,oK,oA]at e;subst e;exact⟨⟨k.tm.put ((zY _ _).1 hb) hv,k.dfr,k.dfrIn,k.hr⟩,rfl⟩
theorem wk (k:StR ρ D s a w):∀x v,zz s.tm x=some v->a.eval x=v.conc ρ/\v.In D:=by
 intro x v h;cases x with
 | tmp t =>
  simp only[zz,oA]at h;subst h;exact⟨k.tm.val t,k.tm.inn t⟩
 | const c =>
  simp only[zz]at h;obtain⟨h1,h2⟩:=YN h;exact⟨(h1 ρ).symm,h2 D⟩
 | global g=>simp[zz]at h
 | func f =>
  simp only[zz,oA]at h;subst h;exact⟨by simp[Act.eval,V.conc,V.concL],by simp[V.In,V.InL]⟩
theorem zCD {s:St}{d:Option Tmp}{v:V}{h:H}:yW s d v h=yW { s with heap:=h } d v h:=rfl
end basics
section rules
variable {P:Program}{rd:Option Nat}
theorem Ends.refl {ρ:Env}{D:Nat->Prop}{s:St}{a:Act}{w:World}(k:StR ρ D s a w) {x:AX}(hx:∀v,x≠.panic v):Ends ρ D s w x s (x.toExit ρ) a w :=
 ⟨ρ,Mv.refl _ _ _ _,by rw[ze];exact k,rfl,by cases x<;>first|trivial|exact absurd rfl (hx _)⟩
theorem Ends.trans {ρ ρ1:Env}{D:Nat->Prop}{s s1 s2:St}{w w1:World}{x:AX}{e:Exit}{a2:Act}{w2:World}(hD:∀id,D id->id<s.heap.nx)
  (m:Mv ρ D s.heap w ρ1 s1.heap w1) (h:Ends ρ1 (Dx D s.heap s1.heap) s1 w1 x s2 e a2 w2):Ends ρ D s w x s2 e a2 w2:=by
 obtain⟨ρ2,m2,k2,he,hx⟩:=h;have hDx:=wP (D:=D) m.nx m2.nx;exact⟨ρ2,Mv.trans hD m m2,by rw[<-hDx];exact k2,he,by rw[<-hDx];exact hx⟩
theorem SimC.skip (s:St):SimC P rd .skip s .normal s:=λ_ _ _ _ k _=>wpIn_skip (Ends.refl k (λ_ h=>by cases h))
theorem SimC.exit (id:Nat) (s:St):SimC P rd (.exit id) s (.exit id) s:=λ_ _ _ _ k _=>wpIn_exit (Ends.refl k (λ_ h=>by cases h))
theorem SimC.ret (s:St):SimC P rd .ret s .ret s:=λ_ _ _ _ k _=>wpIn_ret (Ends.refl k (λ_ h=>by cases h))
theorem kT {ρ ρ1:Env}{D:Nat->Prop}(h:Agree D ρ ρ1) (hl:∀l,rd=some l->D l):rd.map ρ1.blk=rd.map ρ.blk:=by
 cases rd with
 | none=>rfl
 | some l=>simp[(h l (hl l rfl)).1]
theorem SimC.seq {x y:Code}{s s1 s2:St}{e:AX}(h1:SimC P rd x s .normal s1) (h2:SimC P rd y s1 e s2):SimC P rd (.seq x y) s e s2:=by
 intro ρ D w a k hl;refine wpIn_seq (wpIn_mono (h1 ρ D w a k hl) ?_);rintro e1 a1 w1 ⟨ρ1,m1,k1,rfl,_⟩;show y.wpIn _ 0 P _ a1 w1;rw[<-kT m1.agree hl];exact wpIn_mono (h2 ρ1 _ w1 a1 k1 (λl hl'=>.inl (hl l hl'))) λe2 a2 w2 q=>Ends.trans k.hr.lt m1 q
theorem SimC.seq_out {x y:Code}{s s1:St}{e:AX}(h1:SimC P rd x s e s1) (he:e≠.normal):SimC P rd (.seq x y) s e s1:=by
 intro ρ D w a k hl;refine wpIn_seq (wpIn_mono (h1 ρ D w a k hl) ?_);rintro e1 a1 w1 ⟨ρ1,m1,k1,rfl,hx⟩;have:Ends ρ D s w e s1 (e.toExit ρ1) a1 w1:=⟨ρ1,m1,k1,rfl,hx⟩;cases e<;>first|exact absurd rfl he|exact this
theorem SimC.cond {o:Operand}{x y:Code}{s s1:St}{t:Bool}{e:AX}(ho:zz s.tm o=some (.bool t)) (h:SimC P rd (cond t x y) s e s1):SimC P rd (.cond o x y) s e s1:=by
 intro ρ D w a k hl;obtain⟨h1,_⟩:=wk k _ _ ho;refine wpIn_cond (t:=t) (by rw[h1];simp[V.conc]) ?_;cases t
 ·exact h ρ D w a k hl
 ·exact h ρ D w a k hl
theorem SimC.block {id:Nat}{x:Code}{s s1:St}{e:AX}(h:SimC P rd x s e s1):SimC P rd (.block id x) s (match e with | .exit i=>(if i=id then .normal else .exit i)|e=>e) s1:=by
 intro ρ D w a k hl;refine wpIn_block (wpIn_mono (h ρ D w a k hl) ?_);rintro e1 a1 w1 ⟨ρ1,m1,k1,rfl,hx⟩;cases e with
 | exit i =>
  simp only[AX.toExit,Exit.inBlock];by_cases hi:i=id
  ·simp only[hi,if_true];exact⟨ρ1,m1,k1,rfl,trivial⟩
  ·simp only[hi,if_false];exact⟨ρ1,m1,k1,rfl,trivial⟩
 | normal=>exact⟨ρ1,m1,k1,rfl,hx⟩
 | ret=>exact⟨ρ1,m1,k1,rfl,hx⟩
 | panic v=>exact⟨ρ1,m1,k1,rfl,hx⟩
def SimL (P:Program) (rd:Option Nat) (body:Code) (s:St) (x:AX) (s':St):Prop :=
 ∃m,∀ρ D w a,StR ρ D s a w->(∀l,rd=some l->D l)->Code.roundsIn (Fx (rd.map ρ.blk)) 0 P body (Ends ρ D s w x s') m a w
theorem zFw {F:Fence}{n:Nat}{c:Code}{Q Q':Exit->Act->World->Prop}(hq:∀e a w,Q e a w->Q' e a w):∀(m:Nat) (a:Act) (w:World),Code.roundsIn F n P c Q m a w->Code.roundsIn F n P c Q' m a w:=by
 intro m
 induction m with
 | zero=>intro a w h;exact h
 | succ m ih =>
  intro a w h;refine wpIn_mono h ?_;intro e a w q;cases e<;>first|exact ih _ _ q|exact hq _ _ _ q
theorem SimL.last {x:Code}{s s1:St}{e:AX}(h:SimC P rd x s e s1) (he:e≠.normal):SimL P rd x s e s1:=by
 refine⟨1,λρ D w a k hl=>wpIn_mono (h ρ D w a k hl) ?_⟩
 rintro e1 a1 w1 ⟨ρ1,m1,k1,rfl,hx⟩;have:Ends ρ D s w e s1 (e.toExit ρ1) a1 w1:=⟨ρ1,m1,k1,rfl,hx⟩;cases e<;>first|exact absurd rfl he|exact this
theorem SimL.nx {x:Code}{s s1 s2:St}{e:AX}(h1:SimC P rd x s .normal s1) (h2:SimL P rd x s1 e s2):SimL P rd x s e s2:=by
 obtain⟨m,h2⟩:=h2;refine⟨m+1,λρ D w a k hl=>wpIn_mono (h1 ρ D w a k hl) ?_⟩
 rintro e1 a1 w1 ⟨ρ1,m1,k1,rfl,_⟩;show Code.roundsIn _ 0 P x _ m a1 w1;rw[<-kT m1.agree hl];exact zFw (λe2 a2 w2 q=>Ends.trans k.hr.lt m1 q) m a1 w1 (h2 ρ1 _ w1 a1 k1 (λl hl'=>.inl (hl l hl')))
theorem SimL.loop {x:Code}{s s1:St}{e:AX}(h:SimL P rd x s e s1):SimC P rd (.loop x) s e s1:=by
 obtain⟨m,h⟩:=h;exact λρ D w a k hl=>wpIn_loop_rounds m (h ρ D w a k hl)
theorem zIm (l:List V):xw l 0=l.length:=by rw[zw];rfl
theorem zDA:∀(l:List V) (i:Nat) (t:Tm) (j:Nat),i+l.length<=Tb.top->zi (zC l i t) j=if i<=j/\j<i+l.length then (l[j-i]?).getD zB else zi t j:=by
 intro l
 induction l with
 | nil=>intro i t j _;simp only[zC,List.length_nil];rw[if_neg (by omega)]
 | cons v l ih =>
  intro i t j h;simp only[oV]at h ⊢;rw[zC,ih _ _ _ (by omega),xu _ _ _ _ (by omega)];by_cases h1:j=i
  ·subst h1
   rw[if_neg (by omega),if_pos rfl,if_pos (by omega)];simp
  ·by_cases h2:i+1<=j/\j<i+1+l.length
   ·rw[if_pos h2,if_pos (by omega)]
    obtain⟨k,hk⟩:∃k,j-i=k+1:=⟨j-i-1,by omega⟩;rw[hk,List.getElem?_cons_succ,show j-(i+1)=k from by omega]
   ·rw[if_neg h2,if_neg h1,if_neg (by omega)]
theorem zM0 {ρ:Env}{D:Nat->Prop}{args:List V}{n:Nat}(h1:args.length<=n) (h2:n<=511) (hin:∀v∈args,v.In D) :
  TmR ρ D n (zC args 0 (Tb.leaf zB)) ((args.map (V.conc ρ)).toArray++Array.replicate (n-(args.map (V.conc ρ)).toArray.size) undef):=by
 have hl:zi (Tb.leaf zB)=λ_=>zB:=by funext j;exact Tb.get_leaf _ _
 have hg:∀j,zi (zC args 0 (Tb.leaf zB)) j=(args[j]?).getD zB:=λj=>by
  rw[zDA _ _ _ _ (by unfold Tb.top;omega),hl];by_cases hj:j<args.length
  ·rw[if_pos (by omega)];rfl
  ·rw[if_neg (by omega),og (by omega)];rfl
 refine⟨by simp;omega,by unfold Tb.top;omega,λj=>?_,λj=>?_⟩
 ·rw[hg,Array.getD_eq_getD_getElem?,Array.getElem?_append]
  by_cases hj:j<args.length
  ·rw[if_pos (by simpa using hj)]
   simp[hj]
  ·rw[if_neg (by simpa using hj),og (Nat.le_of_not_lt hj)]
   simp only[Option.getD_none,wC,Array.getElem?_replicate];split<;>rfl
 ·rw[hg]
  by_cases hj:j<args.length
  ·simp only[hj,oO,Option.getD_some]
   exact hin _ (oS hj)
  ·rw[og (Nat.le_of_not_lt hj)];exact wI D
variable {c:Ctx}{orc:Nat->List V->H->Option (V×H)}
def z6o (tmps:Array Value):ResultVar->Sem Value
 | .tmp t=>pure (tmps.getD t undef)
 | .cell a t=>do loadVar t (<-asAddr (tmps.getD a undef))
theorem zFR (ok:CtxOK P c) {tmps:Array Value}(g:ResultVar->Sem Value) (hg1:∀t,g (.tmp t)=pure (tmps.getD t undef)) (hg2:∀a t,g (.cell a t)=(do loadVar t (<-asAddr (tmps.getD a undef)))) {ρ:Env}{D:Nat->Prop}{n:Nat}{tm:Tm}{h:H}{w:World}(hr:HR ρ D h w) (ht:TmR ρ D n tm tmps) {rs0:List ResultVar}:∀(rs:List ResultVar) (acc:List V) (vs:List V),
  leave c rs0 tm h rs acc=some vs->(∀v∈acc,v.In D) ->
  ∃qs:List V,vs=acc.reverse++qs/\(rs.mapM (m:=Sem) g).run P w = .ok (qs.map (V.conc ρ)) w/\∀v∈vs,v.In D:=by
 intro rs
 induction rs with
 | nil =>
  intro acc vs e hacc;simp only[leave,oA]at e;subst e;exact⟨[],by simp,by simp,λv hv=>hacc v (by simpa using hv)⟩
 | cons r rs ih =>
  intro acc vs e hacc;cases r with
  | tmp t =>
   simp only[leave]at e;obtain⟨qs,h1,h2,h3⟩:=ih _ _ e (λv hv=>by rcases od.1 hv with g|g<;>first|(rw[g];exact ht.inn t)|exact hacc v g)
   refine⟨zi tm t::qs,by simp[h1],?_,h3⟩;simp only[List.mapM_cons,hg1,Sem.run_bind,Sem.run_pure,Result.andThen_ok,ht.val t,h2,List.map_cons]
  | cell a t =>
   simp only[leave]at e;split at e
   ·rename_i v hv
    obtain⟨l1,l2⟩:=JQ (P:=P) ok hv hr (ht.inn a);obtain⟨qs,h1,h2,h3⟩:=ih _ _ e (λu hu=>by rcases od.1 hu with g|g<;>first|(rw[g];exact l2)|exact hacc u g)
    refine⟨v::qs,by simp[h1],?_,h3⟩;have hadr:∃b o,zi tm a = .ptr b o:=by
     unfold zK at hv;split at hv
     ·rename_i b o hb;exact⟨b,o,hb⟩
     ·cases hv
    obtain⟨b,o,hb⟩:=hadr;have hval:=ht.val a;rw[hb]at hval l1;simp only[V.conc]at hval;simp only[Instr.loadAt,V.conc,Instr.sureAddr,Sem.run_bind,Sem.run_pure,Result.andThen_ok]at l1;have hasa:(asAddr (tmps.getD a undef)).run P w = .ok ⟨ρ.blk b,ρ.off b+o,none⟩ w:=by rw[hval];rfl
    simp only[List.mapM_cons,hg2,Sem.run_bind,hasa,Sem.run_pure,Result.andThen_ok,l1,h2,List.map_cons]
   ·cases e
theorem Yc (ok:CtxOK P c) {ρ:Env}{D:Nat->Prop}{n:Nat}{tm:Tm}{tmps:Array Value}{h:H}{w:World}(hr:HR ρ D h w) (ht:TmR ρ D n tm tmps) {fn:Func}{fi:FI}(hf:fn.results.toList=fi.results)
  {vs:List V}(e:leave c fi.results tm h fi.results []=some vs):(results fn tmps).run P w = .ok ((yM vs).conc ρ) w/\(yM vs).In D:=by
 have key:=λ(g:ResultVar->Sem Value) hg1 hg2=>zFR (P:=P) ok (tmps:=tmps) g hg1 hg2 hr ht fi.results [] vs e (λ_ hv=>by cases hv)
 have h3:∀v∈vs,v.In D:=(key (z6o tmps) (λ_=>rfl) (λ_ _=>rfl)).choose_spec.2.2;constructor
 ·have hgen:∀(g:ResultVar->Sem Value),(∀t,g (.tmp t)=pure (tmps.getD t undef))->(∀a t,g (.cell a t)=(do loadVar t (<-asAddr (tmps.getD a undef)))) ->
    (do let vs <-fn.results.mapM g;pure (if h:vs.size=1 then vs[0] else .tuple vs):Sem Value).run P w = .ok ((yM vs).conc ρ) w:=by
   intro g hg1 hg2;rw[Sem.run_bind,Array.mapM_eq_mapM_toList,hf,Sem.run_map];obtain⟨qs,h1,h2,_⟩:=key g hg1 hg2;rw[h2];simp only[List.reverse_nil,List.nil_append]at h1;subst h1;simp only[Result.andThen_ok]
   match vs with
   | []=>simp[yM,V.conc,V.concL]
   | [v]=>simp[yM]
   | a::b::l=>simp[yM,V.conc,V.concL,V.concL_eq]
  unfold results;exact hgen _ (λ_=>rfl) (λ_ _=>rfl)
 ·match vs,h3 with
  | [],_=>simp[yM,V.In,V.InL]
  | [v],h3=>exact h3 v (by simp)
  | a::b::l,h3=>simp only[yM,V.In,V.InL_iff];exact h3
def j6 (P:Program) (ih:Bool->Code->St->Option Out):Prop:=∀rd code s x s',ih (Option.isSome rd) code s=some (.done x s')->SimC P rd code s x s'
def xb (P:Program) (c:Ctx) (orc:Nat->List V->H->Option (V×H)):Prop:=∀f args h v h',orc f args h=some (v,h')->(∃fi,c.fn.get f=some fi)/\SimF P f args h (.ret v h')
theorem kI (ok:CtxOK P c) {f:Nat}{fi:FI}(h:c.fn.get f=some fi) (args:Array Value) (w:World):(callFunc f args).run P w = .ok (.enter f args) w:=by
 obtain⟨g,f1,f2,f3,_⟩:=ok.fn f fi h;simp only[callFunc,Sem.run_bind,run_program,Result.andThen_ok,f1,f2,f3,Option.isNone_some,Bool.false_eq_true,if_false,Sem.run_pure]
theorem Z4 {ih:Bool->Code->St->Option Out}(hih:j6 P ih) {fi:FI}{args:List V}{h:H}{x:AX}{s:St}(e:jm ih fi args h=some (.done x s)) {ρ:Env}{D:Nat->Prop}{w:World}(hr:HR ρ D h w) (hin:∀v∈args,v.In D) :
  fi.body.wpIn (Fx none) 0 P (λex a' w'=>∃ρ',Mv ρ D h w ρ' s.heap w'/\StR ρ' (Dx D h s.heap) s a' w'/\ex=x.toExit ρ'/\x.In (Dx D h s.heap)) { tmps:=(args.map (V.conc ρ)).toArray++Array.replicate (fi.n-(args.map (V.conc ρ)).toArray.size) undef,defers:=[] } w:=by
 unfold jm at e;cases hc:(Nat.ble (xw args 0) fi.n && Nat.ble fi.n 511)with
 | false=>simp[hc]at e
 | true =>
  simp only[hc,oK]at e;simp only[oG]at hc;have h1:=oE hc.1;have h2:=oE hc.2;rw[zIm]at h1;exact hih none _ _ _ _ e ρ D w _ ⟨zM0 h1 h2 hin,rfl,λ_ h=>(by cases h),hr⟩ (λ_ h=>by cases h)
theorem zE3 (ok:CtxOK P c) {ih:Bool->Code->St->Option Out}(hih:j6 P ih) {f:Nat}{args:List V}{h:H}{out:CallOut}(e:ZX c ih f args h=some out):z4b P f args h out:=by
 intro ρ D w u hr hin;unfold ZX at e;split at e
 ·cases e
 ·rename_i fi hfi
  obtain⟨fn,f1,f2,f3,f4,f5⟩:=ok.fn f fi hfi;have key:∀(x:AX) (s:St),jm ih fi args h=some (.done x s)->(x = .normal\/x = .ret)->endD c fi s=some out ->
    CallsDIn (Fx none) 0 P f (args.map (V.conc ρ)).toArray u w λe u' w'=>u'=u/\out.post ρ D h w e w':=by
   intro x s hx hxx hend;refine callsDIn_of_wp f1 f3 trivial ?_;rw[f4];refine wpIn_mono (Z4 hih hx hr hin) ?_;rintro ex a' w' ⟨ρ',m,k,rfl,_⟩;unfold endD at hend;split at hend
   ·rename_i hd
    split at hend
    ·rename_i vs hvs
     simp only[oA]at hend;subst hend;obtain⟨r1,r2⟩:=Yc (P:=P) ok k.hr k.tm f5 hvs;have hdf:a'.defers=[]:=by rw[k.dfr,hd];rfl
     rcases hxx with rfl|rfl
     ·exact⟨hdf,_,r1,ρ',rfl,m,k.hr,r2⟩
     ·exact⟨hdf,_,r1,ρ',rfl,m,k.hr,r2⟩
    ·cases hend
   ·cases hend
  split at e
  ·rename_i s hs;exact key _ _ hs (.inl rfl) e
  ·rename_i s hs;exact key _ _ hs (.inr rfl) e
  ·cases e
theorem zCr (ok:CtxOK P c) {ih:Bool->Code->St->Option Out}(hih:j6 P ih) {fn:Func}{tmps:Array Value}{R:Ending->World->Prop}{ρ0:Env}{D0:Nat->Prop}{h0:H}{w0:World}(hlt:∀id,D0 id->id<h0.nx) :
  ∀(l:List AD) (h h':H) (ρ:Env) (w:World),xQ (ZX c ih) l h=some h'->HR ρ (Dx D0 h0 h) h w->Mv ρ0 D0 h0 w0 ρ h w->(∀d∈l,d.In (Dx D0 h0 h)) ->
   (∀ρ' w',HR ρ' (Dx D0 h0 h') h' w'->Mv ρ0 D0 h0 w0 ρ' h' w'->Mv ρ (Dx D0 h0 h) h w ρ' h' w'->∃v,(results fn tmps).run P w' = .ok v w'/\R (.returned v) w') ->
   LeavesInM (Fx none) 0 P fn tmps R (l.map (AD.conc ρ)) .returning w:=by
 intro l
 induction l with
 | nil =>
  intro h h' ρ w e hr m _ hend;simp only[xQ,oA]at e;subst e;exact hend ρ w hr m (Mv.refl _ _ _ _)
 | cons d l ih' =>
  intro h h' ρ w e hr m hin hend;cases d with
  | coll id =>
   simp only[xQ]at e;split at e
   ·rename_i hg
    have hd:Dx D0 h0 h id:=hin _ (List.mem_cons_self ..);have hrel:=hr.rel id _ hd hg;have hw:w.heap[ρ.blk id]? = some (.deferred (some [])):=hrel;have hr2:=hr.upd (o':=.deferred false) (x:=.deferred none) hd hg rfl rfl rfl;have m2:=Mv.upd (o':=.deferred false) (x:=.deferred none) hr hd hg rfl rfl;have hDx:Dx D0 h0 (h.upd id (some (.deferred false)))=Dx D0 h0 h:=rfl;refine⟨by simp,.inl ⟨ρ.blk id,_,rfl,run_takeDeferred hw,?_⟩⟩;refine ih' (h.upd id (some (.deferred false))) h' ρ _ e (by rw[hDx];exact hr2) (Mv.trans hlt m m2) (λd hd=>hin d (oH _ hd)) ?_
    intro ρ' w' q1 q2 q3;refine hend ρ' w' q1 q2 (Mv.trans hr.lt m2 ?_);rw[wu (xI _ _ _)];exact q3
   ·cases e
  | fn f cap args =>
   simp only[xQ]at e;split at e
   ·rename_i v h1 hcall
    obtain⟨d1,d2⟩:=hin _ (List.mem_cons_self ..);have hsim:=zE3 ok hih hcall ρ (Dx D0 h0 h) w .returning hr (λv hv=>(List.mem_append.1 hv).elim (d2 v) (d1 v))
    have hcf:∃fi,c.fn.get f=some fi:=by
     unfold ZX at hcall;split at hcall
     ·cases hcall
     ·rename_i fi hfi;exact⟨fi,hfi⟩
    obtain⟨fi,hfi⟩:=hcf;obtain⟨g,f1,f2,f3,f4,f5⟩:=ok.fn f fi hfi;refine⟨by simp,.inr ⟨λh=>by simp[Fx]at h,.func f,_,f,_,rfl,?_,λ_ _=>trivial,CallsDIn.mono hsim ?_⟩⟩
    ·simp only[AD.conc,invoke,callFunc,Sem.run_bind,run_program,Result.andThen_ok,f1,f2,f3,Option.isNone_some,Bool.false_eq_true,if_false,Sem.run_pure]
     congr 2
     simp
    ·rintro ex u' w' ⟨rfl,ρ1,rfl,m1,r1,_⟩
     have hDx:=wP (D:=D0) m.nx m1.nx;show LeavesInM _ 0 P fn tmps R (l.map (AD.conc ρ)) (settle .returning) w';rw[<-YG m1.agree (λd hd=>hin d (oH _ hd))]
     refine ih' h1 h' ρ1 w' e (by rw[<-hDx];exact r1) (Mv.trans hlt m m1) (λd hd=>by rw[<-hDx];exact AD.In_mono wN (hin d (oH _ hd))) ?_
     intro ρ' w'' q1 q2 q3;exact hend ρ' w'' q1 q2 (Mv.trans hr.lt m1 (by rw[hDx];exact q3))
   ·cases e
theorem ZY (ok:CtxOK P c) {ih:Bool->Code->St->Option Out}(hih:j6 P ih) {f:Nat}{args:List V}{h:H}{out:CallOut}(e:zBc c ih f args h=some out):SimF P f args h out:=by
 intro ρ D w hr hin;unfold zBc at e;split at e
 ·cases e
 ·rename_i fi hfi
  obtain⟨fn,f1,f2,f3,f4,f5⟩:=ok.fn f fi hfi;have key:∀(x:AX) (s:St),jm ih fi args h=some (.done x s)->(x = .normal\/x = .ret)->zEu c ih fi s=some out ->
    CallsIn (Fx none) 0 P f (args.map (V.conc ρ)).toArray w (out.post ρ D h w):=by
   intro x s hx hxx hend;refine callsIn_of_wp_marks f1 f3 trivial ?_;rw[f4];refine wpIn_mono (Z4 hih hx hr hin) ?_;rintro ex a' w' ⟨ρ',m,k,rfl,_⟩;unfold zEu at hend;split at hend
   ·rename_i h2 hrd
    split at hend
    ·rename_i vs hvs
     simp only[oA]at hend;subst hend;have hl:LeavesInM (Fx none) 0 P fn a'.tmps (CallOut.post ρ D h w (.ret (yM vs) h2)) a'.defers .returning w':=by
      rw[k.dfr];refine zCr ok hih hr.lt s.dfr s.heap h2 ρ' w' hrd k.hr m k.dfrIn ?_;intro ρ2 w2 q1 q2 q3;have hsub:∀id,Dx D h s.heap id->Dx D h h2 id:=λ_ hd=>hd.imp (λg=>g) (λg=>⟨g.1,oI g.2 q3.nx⟩)
      obtain⟨r1,r2⟩:=Yc (P:=P) ok q1 (k.tm.agree hsub q3.agree) f5 hvs;exact⟨_,r1,ρ2,rfl,q2,q1,r2⟩
     rcases hxx with rfl|rfl
     ·exact hl
     ·exact hl
    ·cases hend
   ·cases hend
  split at e
  ·rename_i s hs;exact key _ _ hs (.inl rfl) e
  ·rename_i s hs;exact key _ _ hs (.inr rfl) e
  ·rename_i v s hs
   split at e
   ·rename_i hd
    simp only[oA]at e;subst e;refine callsIn_of_wp_marks f1 f3 trivial ?_;rw[f4];refine wpIn_mono (Z4 hih hs hr hin) ?_;rintro ex a' w' ⟨ρ',m,k,rfl,hv⟩;show LeavesInM _ 0 P fn a'.tmps _ a'.defers (.panicking _) w';rw[k.dfr,hd];exact⟨ρ',rfl,m,k.hr,hv⟩
   ·cases e
  ·cases e
theorem ZZ (ok:CtxOK P c) (hor:xb P c orc) {ih:Bool->Code->St->Option Out}(hih:j6 P ih) {f:Nat}{args:List V}{h:H}{out:CallOut}(e:wx c orc ih f args h=some out):SimF P f args h out:=by
 unfold wx at e;split at e
 ·rename_i v h' ho
  simp only[oA]at e;subst e;exact(hor _ _ _ _ _ ho).2
 ·exact ZY ok hih e
theorem O9 (hor:xb P c orc) {ih:Bool->Code->St->Option Out}{f:Nat}{args:List V}{h:H}{out:CallOut}(e:wx c orc ih f args h=some out):∃fi,c.fn.get f=some fi:=by
 unfold wx at e;split at e
 ·rename_i v h' ho;exact(hor _ _ _ _ _ ho).1
 ·unfold zBc at e
  split at e
  ·cases e
  ·rename_i fi hfi;exact⟨fi,hfi⟩
end rules
end Go.Sim
namespace Go.Sim
section
variable {P:Program}{c:Ctx}{orc:Nat->List V->H->Option (V×H)}{rd:Option Nat}
theorem Ko {ρ:Env}{D:Nat->Prop}{n:Nat}:∀(ps:List Tmp) (vs:List V) (tm tm':Tm) (Yk:Array Value),wH ps vs n tm=some tm'->TmR ρ D n tm Yk->(∀v∈vs,v.In D) ->
  ps.length=vs.length/\TmR ρ D n tm' ((ps.zip (vs.map (V.conc ρ))).foldl (λtmps (x:Tmp×Value)=>tmps.setIfInBounds x.1 x.2) Yk):=by
 intro ps
 induction ps with
 | nil =>
  intro vs tm tm' Yk e k _;cases vs with
  | nil=>simp only[wH,oA]at e;subst e;exact⟨rfl,k⟩
  | cons v vs=>simp[wH]at e
 | cons p ps ih =>
  intro vs tm tm' Yk e k hin;cases vs with
  | nil=>simp[wH]at e
  | cons v vs =>
   simp only[wH]at e;cases hb:Nat.blt p n with
   | false=>simp[hb]at e
   | true =>
    simp only[hb,oK]at e;obtain⟨i1,i2⟩:=ih vs _ tm' _ e (k.put ((zY _ _).1 hb) (hin v (List.mem_cons_self ..))) (λu hu=>hin u (oH _ hu))
    exact⟨by simp[i1],i2⟩
theorem zLc {ps:Array Tmp}{vs:List Value}{Yk:Array Value}:(ps.zip vs.toArray).foldl (λtmps (x:Tmp×Value)=>tmps.setIfInBounds x.1 x.2) Yk=(ps.toList.zip vs).foldl (λtmps (x:Tmp×Value)=>tmps.setIfInBounds x.1 x.2) Yk:=by
 rw[<-Array.foldl_toList];simp
theorem ZA {ih:Bool->Code->St->Option Out}(hih:j6 P ih) {l:Nat}{args:List V}{h:H}{out:CallOut}(e:XI ih l args h=some out):zVf P l args h out:=by
 intro ρ D w hr hd hin;unfold XI at e;split at e
 ·rename_i st pend n tm params assign body df hg
  split at e
  ·cases e
  ·rename_i tm' htm
   split at e
   ·rename_i s1 hs1
    obtain⟨fn,tmps,hw,htmR,hdf⟩:=hr.rel l _ hd hg;obtain⟨p1,p2⟩:=Ko params.toList args tm tm' tmps htm htmR hin;have hy:=run_yield (P:=P) (w:=w) (args:=(args.map (V.conc ρ)).toArray) hw (by simpa using p1.symm);refine⟨fn,_,assign,body,hy,?_⟩;have hd':∀k,some l=some k->D k:=λk hk=>by cases hk;exact hd
    refine roundIn_of_wpIn (F:=Fx none) trivial ?_;have hz:=zLc (ps:=params) (vs:=args.map (V.conc ρ)) (Yk:=tmps);have hk0:StR ρ D { n:=n,tm:=tm',dfr:=[],heap:=h } { tmps:=(params.zip (args.map (V.conc ρ)).toArray).foldl (λtmps (x:Tmp×Value)=>tmps.setIfInBounds x.1 x.2) tmps,defers:=[] } w :=
     ⟨by rw[hz];exact p2,rfl,λ_ h=>(by cases h),hr⟩
    refine wpIn_mono (hih (some l) _ _ _ _ hs1 ρ D w _ hk0 hd') ?_;rintro ex a1 w1 ⟨ρ1,m1,k1,rfl,_⟩;have m1:Mv ρ D h w ρ1 s1.heap w1:=m1;have k1:StR ρ1 (Dx D h s1.heap) s1 a1 w1:=k1;show ∃w₂,_;unfold Jp at e;split at e
    ·rename_i pend2 n2 tm2 ps2 as2 bd2 df2 hg2
     split at e
     ·rename_i x s2 hs2
      have hd1:Dx D h s1.heap l:=.inl hd;obtain⟨fn2,tmps2,hw2,htm2,hdf2⟩:=k1.hr.rel l _ hd1 hg2;have hO:ORel ρ1 (Dx D h s1.heap) l (.loop .busy pend2 n2 tm2 ps2 as2 bd2 df2) (some (.loop { state:=.busy,pending:=pend2,fn:=fn2,tmps:=tmps2,params:=ps2,assign:=as2,body:=bd2,defers:=ρ1.blk df2 })):=⟨fn2,tmps2,rfl,htm2,hdf2⟩;have hr2:=k1.hr.upd hd1 hg2 rfl rfl hO;have m2:=Mv.upd (o':=.loop .busy pend2 n2 tm2 ps2 as2 bd2 df2) (x:=.loop { state:=.busy,pending:=pend2,fn:=fn2,tmps:=tmps2,params:=ps2,assign:=as2,body:=bd2,defers:=ρ1.blk df2 }) k1.hr hd1 hg2 rfl rfl;have hb1:ρ1.blk l=ρ.blk l:=(m1.agree l hd).1;refine⟨_,by rw[<-hb1];exact run_beginRound hw2 rfl,?_⟩;have hDx0:Dx (Dx D h s1.heap) s1.heap (s1.heap.upd l (some (.loop .busy pend2 n2 tm2 ps2 as2 bd2 df2)))=Dx D h s1.heap:=wu (xI _ _ _);have k2:=k1.step m2 (by rw[hDx0];exact hr2);rw[hDx0]at k2;have hb:=hih (some l) _ _ _ _ hs2 ρ1 (Dx D h s1.heap) _ a1 k2 (λk hk=>by cases hk;exact hd1);rw[show((Fx none).inRound (ρ.blk l))=Fx ((some l).map ρ1.blk)from by simp[Fx,Fence.inRound,hb1]];refine wpIn_mono hb ?_;rintro ex2 a2 w2 ⟨ρ2,m3,k3,rfl,hx2⟩;clear hx2;have m3':Mv ρ D h w ρ2 s2.heap w2:=Mv.trans hr.lt m1 (Mv.trans k1.hr.lt m2 (by rw[hDx0];exact m3));have hDx1:Dx (Dx D h s1.heap) (s1.heap.upd l (some (.loop .busy pend2 n2 tm2 ps2 as2 bd2 df2))) s2.heap=Dx D h s2.heap:=wP (h1:=s1.heap.upd l (some (.loop .busy pend2 n2 tm2 ps2 as2 bd2 df2))) m1.nx m3.nx;rw[hDx1]at k3;unfold jf at e;split at e
      ·rename_i st4 pend4 n4 tm4 ps4 as4 bd4 df4 _ hg4
       have hd4:Dx D h s2.heap l:=.inl hd;obtain⟨fn4,tmps4,hw4,htm4,hdf4⟩:=k3.hr.rel l _ hd4 hg4;have hb4:ρ2.blk l=ρ.blk l:=(m3'.agree l hd).1;have fin:∀(st5:LoopState) (j:Option Code) (v:V),(∀D,v.In D)->v.conc ρ2 = .bool j.isNone->st5=(if j.isNone then .ready else .done) ->
         ∃v' w',(Instr.endRound (ρ.blk l) j).run P w2 = .ok v' w'/\CallOut.post ρ D h w (.ret v (s2.heap.upd l (some (.loop st5 j n4 tm4 ps4 as4 bd4 df4)))) (.returned v') w':=by
        intro st5 j v hv hvc hst;have hO5:ORel ρ2 (Dx D h s2.heap) l (.loop st5 j n4 tm4 ps4 as4 bd4 df4) (some (.loop { state:=st5,pending:=j,fn:=fn4,tmps:=tmps4,params:=ps4,assign:=as4,body:=bd4,defers:=ρ2.blk df4 })):=⟨fn4,tmps4,rfl,htm4,hdf4⟩;refine⟨_,_,by rw[<-hb4];exact run_endRound j hw4,ρ2,by rw[hvc],?_,?_,hv _⟩
        ·have m5:=Mv.upd (o':=.loop st5 j n4 tm4 ps4 as4 bd4 df4) (x:=.loop { state:=st5,pending:=j,fn:=fn4,tmps:=tmps4,params:=ps4,assign:=as4,body:=bd4,defers:=ρ2.blk df4 }) k3.hr hd4 hg4 rfl rfl
         subst hst;exact Mv.trans hr.lt m3' m5
        ·have:=k3.hr.upd hd4 hg4 rfl rfl hO5
         subst hst;exact this
       split at e
       ·simp only[oA]at e;subst e
        exact fin .ready none (.bool true) (λ_=>by simp[V.In]) (by simp[V.conc]) rfl
       ·simp only[oA]at e;subst e
        exact fin .done (some .ret) (.bool false) (λ_=>by simp[V.In]) (by simp[V.conc]) rfl
       ·rename_i id
        simp only[oA]at e;subst e;exact fin .done (some (.exit id)) (.bool false) (λ_=>by simp[V.In]) (by simp[V.conc]) rfl
       ·cases e
      ·cases e
     ·cases e
    ·cases e
   ·cases e
 ·cases e
def zYl:Option Code->AX->Prop
 | none,x=>x = .normal
 | some .ret,x=>x = .ret
 | some (.exit id),x=>x = .exit id
 | _,_=>False
theorem zDd (ok:CtxOK P c) (hor:xb P c orc) {ih:Bool->Code->St->Option Out}(hih:j6 P ih) {f:Operand}{params:Array Tmp}{assign body:Code}{s:St}{x:AX}{s':St}
  (e:zHf c orc ih rd.isSome f params assign body s=some (.done x s')):SimC P rd (.rangeFunc f params assign body) s x s':=by
 intro ρ D w a k hl;unfold zHf at e;split at e
 ·rename_i g first captured hf
  cases hc:(rd.isSome || !(Nat.blt (s.heap.nx+1) T.top))with
  | true=>simp[hc]at e
  | false =>
   simp only[hc,oM]at e;simp only[Bool.or_eq_false_iff,Bool.not_eq_false']at hc;obtain⟨hrd,hcap⟩:=hc;have hcap':=(zY _ _).1 hcap;have hrn:rd=none:=by cases rd with|none=>rfl|some l=>simp at hrd
   subst hrn;split at e
   ·rename_i v3 h3 hcall
    obtain⟨f1,f2⟩:=wk k _ _ hf;simp only[V.In,V.InL_iff]at f2;refine wpIn_rangeFunc (F:=Fx none) (λfn _=>?_);have g0:s.heap.nx<T.top:=by omega
    have hnd:¬D s.heap.nx:=λhd=>by have:=k.hr.lt _ hd;omega
    have r1:=k.hr.new (o:=.deferred true) (x:=.deferred (some [])) 0 g0 rfl;have m1:=Mv.new (o:=.deferred true) (x:=.deferred (some [])) k.hr 0 g0 rfl;generalize hh1:s.heap.new (.deferred true)=h1 at *;have hn1:h1.nx=s.heap.nx+1:=by rw[<-hh1];rfl
    generalize hρ1:ρ.at s.heap.nx w.heap.size 0=ρ1 at *;have hb1:ρ1.blk s.heap.nx=w.heap.size:=by rw[<-hρ1];simp
    have hnew1:Dx D s.heap h1 s.heap.nx:=.inr ⟨oP _,by omega⟩;have hnd1:¬Dx D s.heap h1 h1.nx:=λhd=>by have:=r1.lt _ hd;omega
    have g1:h1.nx<T.top:=by omega
    have htm1:TmR ρ1 (Dx D s.heap h1) s.n s.tm a.tmps:=k.tm.agree wN m1.agree
    let L:Loop:={ state:=.ready,pending:=none,fn,tmps:=a.tmps,params,assign,body,defers:=w.heap.size }
    let w1:=w.alloc (.deferred (some []))
    have hag2:Agree (Dx D s.heap h1) ρ1 (ρ1.at h1.nx w1.heap.size 0):=Env.at_agree hnd1;have hO2:ORel (ρ1.at h1.nx w1.heap.size 0) (Dx (Dx D s.heap h1) h1 (h1.new (.loop .ready none s.n s.tm params assign body s.heap.nx))) h1.nx (.loop .ready none s.n s.tm params assign body s.heap.nx) (some (.loop L)) :=
     ⟨fn,a.tmps,by rw[(hag2 _ hnew1).1,hb1],htm1.agree wN hag2,wN _ hnew1⟩
    have r2:=r1.new (x:=.loop L) 0 g1 hO2;have m2:=Mv.new (o:=.loop .ready none s.n s.tm params assign body s.heap.nx) (x:=.loop L) r1 0 g1 rfl;have hh2:(s.heap.nx+1)=h1.nx:=hn1.symm;rw[hh2]at hcall e;generalize hh2':h1.new (.loop .ready none s.n s.tm params assign body s.heap.nx)=h2 at *;have hn2:h2.nx=h1.nx+1:=by rw[<-hh2'];rfl
    generalize hρ2:ρ1.at h1.nx w1.heap.size 0=ρ2 at *;have hb2:ρ2.blk h1.nx=w1.heap.size:=by rw[<-hρ2];simp
    have hnew2:Dx (Dx D s.heap h1) h1 h2 h1.nx:=.inr ⟨oP _,by omega⟩;have m12:Mv ρ D s.heap w ρ2 h2 (w1.alloc (.loop L)):=Mv.trans k.hr.lt m1 m2;have hDx2:Dx (Dx D s.heap h1) h1 h2=Dx D s.heap h2:=wP (by omega) (by omega);rw[hDx2]at r2 hnew2;have hin:∀v∈first++(.yield h1.nx::captured),v.In (Dx D s.heap h2):=by
     intro v hv;rcases List.mem_append.1 hv with q|q
     ·exact V.In_mono wN _ (f2.2.1 v q)
     ·rcases od.1 q with rfl|q
      ·simp only[V.In];exact hnew2
      ·exact V.In_mono wN _ (f2.2.2 v q)
    have hsim:=ZZ ok hor hih hcall ρ2 _ _ r2 hin;have hconc:∀(v:V),v.In D->v.conc ρ2=v.conc ρ:=λv hv=>V.conc_agree m12.agree v hv
    obtain⟨fi,hfi⟩:=O9 hor hcall;have hargs:((first++(.yield h1.nx::captured)).map (V.conc ρ2)).toArray=((V.concL ρ first).toArray ++ #[Value.func (.yield (w.heap.size+1)) #[] #[]])++(V.concL ρ captured).toArray:=by
     apply Array.ext';have e1:first.map (V.conc ρ2)=V.concL ρ first:=by rw[V.concL_eq];exact List.map_congr_left λv hv=>hconc v (f2.2.1 v hv)
     have e2:captured.map (V.conc ρ2)=V.concL ρ captured:=by rw[V.concL_eq];exact List.map_congr_left λv hv=>hconc v (f2.2.2 v hv)
     have hw1:w1.heap.size=w.heap.size+1:=by simp[w1]
     simp[e1,e2,V.conc,hb2,hw1]
    have hw1:w1.heap.size=w.heap.size+1:=by simp[w1]
    refine⟨w.heap.size+1,[{ target:=.collected w.heap.size,args:=#[] }],w1.alloc (.loop L),
     { target:=.fn (.func g) (V.concL ρ captured).toArray,args:=(V.concL ρ first).toArray ++ #[Value.func (.yield (w.heap.size+1)) #[] #[]] },w1.alloc (.loop L),g,
     ((first++(.yield h1.nx::captured)).map (V.conc ρ2)).toArray,w1.alloc (.loop L),run_enterLoop_outer fn a.tmps params assign body,?_,λ_ _=>trivial,?_,λh=>by simp[Fx]at h,?_⟩
    ·simp only[resolve,f1,V.conc,Deferred.ofValue,Sem.run_pure]
     congr 2
     simp[Act.eval]
    ·simp only[invoke]
     rw[<-hargs];exact kI ok hfi _ _
    ·refine CallsIn.mono hsim ?_
     rintro ex w3 ⟨ρ3,rfl,m3,r3,_⟩;unfold qX at e;split at e
     ·rename_i st pend n4 tm4 ps4 as4 bd4 df4 hg4
      have hm:Mv ρ D s.heap w ρ3 h3 w3:=Mv.trans k.hr.lt m12 m3;have hDx3:Dx (Dx D s.heap h2) h2 h3=Dx D s.heap h3:=wP (by omega) m3.nx;rw[hDx3]at r3;have hd4:Dx D s.heap h3 h1.nx:=.inr ⟨by omega,by have:=m3.nx;omega⟩;have hd0:Dx D s.heap h3 s.heap.nx:=.inr ⟨oP _,by have:=m3.nx;omega⟩;obtain⟨fn4,tmps4,hw4,htm4,hdf4⟩:=r3.rel _ _ hd4 hg4;have hb4:ρ3.blk h1.nx=w.heap.size+1:=by rw[(m3.agree _ hnew2).1,hb2,hw1]
      have hb0:ρ3.blk s.heap.nx=w.heap.size:=by
       rw[(m3.agree _ (by rw[<-hDx2];exact wN _ hnew1)).1,(m2.agree _ hnew1).1,hb1]
      have hO5:ORel ρ3 (Dx D s.heap h3) h1.nx (.loop .exhausted pend n4 tm4 ps4 as4 bd4 df4) (some (.loop { state:=.exhausted,pending:=pend,fn:=fn4,tmps:=tmps4,params:=ps4,assign:=as4,body:=bd4,defers:=ρ3.blk df4 })):=⟨fn4,tmps4,rfl,htm4,hdf4⟩;have r5:=r3.upd hd4 hg4 rfl rfl hO5;have m5:=Mv.upd (o':=.loop .exhausted pend n4 tm4 ps4 as4 bd4 df4) (x:=.loop { state:=.exhausted,pending:=pend,fn:=fn4,tmps:=tmps4,params:=ps4,assign:=as4,body:=bd4,defers:=ρ3.blk df4 }) r3 hd4 hg4 rfl rfl;have hmm:Mv ρ D s.heap w ρ3 (h3.upd h1.nx (some (.loop .exhausted pend n4 tm4 ps4 as4 bd4 df4))) _:=Mv.trans k.hr.lt hm m5;have hstR:StR ρ3 (Dx D s.heap (h3.upd h1.nx (some (.loop .exhausted pend n4 tm4 ps4 as4 bd4 df4)))) { n:=s.n,tm:=s.tm,dfr:=.coll s.heap.nx::s.dfr,heap:=h3.upd h1.nx (some (.loop .exhausted pend n4 tm4 ps4 as4 bd4 df4)) }
        { a with defers:=[{ target:=.collected w.heap.size,args:=#[] }]++a.defers } (w3.putObj (ρ3.blk h1.nx) (.loop { state:=.exhausted,pending:=pend,fn:=fn4,tmps:=tmps4,params:=ps4,assign:=as4,body:=bd4,defers:=ρ3.blk df4 })):=by
       refine⟨k.tm.agree wN hmm.agree,?_,?_,r5⟩
       ·simp only[List.map_cons,AD.conc,hb0,List.singleton_append]
        rw[k.dfr,YG hmm.agree k.dfrIn]
       ·intro d hd
        rcases od.1 hd with rfl|q
        ·exact hd0
        ·exact AD.In_mono wN (k.dfrIn d q)
      rw[hb4]at hw4 hstR hmm;have fin:∀(x1:AX),st≠.busy->(∀v,x1≠.panic v)->zYl pend x1 ->
        x=x1->s' = { n:=s.n,tm:=s.tm,dfr:=.coll s.heap.nx::s.dfr,heap:=h3.upd h1.nx (some (.loop .exhausted pend n4 tm4 ps4 as4 bd4 df4)) } ->
        rangePost (Fx none) 0 P (w.heap.size+1) (Ends ρ D s w x s') { a with defers:=[{ target:=.collected w.heap.size,args:=#[] }]++a.defers } (.returned (v3.conc ρ3)) w3:=by
       rintro x1 hst hnp hp rfl rfl;refine⟨pend,_,run_endLoop hw4 hst,?_⟩;clear e hw4 hO5 r5 m5 hg4;generalize hH:h3.upd h1.nx (some (.loop .exhausted pend n4 tm4 ps4 as4 bd4 df4))=hE at *;generalize hW:w3.putObj (w.heap.size+1) (.loop { state:=.exhausted,pending:=pend,fn:=fn4,tmps:=tmps4,params:=ps4,assign:=as4,body:=bd4,defers:=ρ3.blk df4 })=wE at *;clear hH hW;cases pend with
       | none=>(change x = .normal at hp);subst hp;exact⟨ρ3,hmm,hstR,rfl,trivial⟩
       | some j =>
        cases j with
        | ret=>(change x = .ret at hp);subst hp;exact wpIn_ret ⟨ρ3,hmm,hstR,rfl,trivial⟩
        | exit id=>(change x = .exit id at hp);subst hp;exact wpIn_exit ⟨ρ3,hmm,hstR,rfl,trivial⟩
        | _=>exact hp.elim
      split at e
      ·cases e
      ·rename_i hnb
       cases pend with
       | none =>
        simp only[oA,Out.done.injEq]at e;exact fin .normal (λh=>hnb h) (λ_ h=>by cases h) rfl e.1.symm e.2.symm
       | some j =>
        cases j with
        | ret =>
         simp only[oA,Out.done.injEq]at e;exact fin .ret (λh=>hnb h) (λ_ h=>by cases h) rfl e.1.symm e.2.symm
        | exit id =>
         simp only[oA,Out.done.injEq]at e;exact fin (.exit id) (λh=>hnb h) (λ_ h=>by cases h) rfl e.1.symm e.2.symm
        | _=>simp at e
     ·cases e
   ·cases e
 ·cases e
end
end Go.Sim
namespace Go.Sim
section
variable {P:Program}{c:Ctx}{orc:Nat->List V->H->Option (V×H)}{rd:Option Nat}
theorem zJn {o:Oper}{ev:Operand->Option V}{h:H}{an:AN}{cl:Call}(ho:o.op = .defer cl) (e:zh c o ev h=some an):∃d,an = .dfr d:=by
 unfold zh at e;simp only[ho]at e;split at e
 ·split at e
  ·simp only[oA]at e;exact⟨_,e.symm⟩
  ·cases e
 ·cases e
theorem Js {o:Oper}{ev:Operand->Option V}{h:H}{an:AN}(e:zh c o ev h=some an) (hd:rd.isSome=true->∀d,an≠.dfr d) (r:Nat->Nat) (a:Operand->Value):Oper.semAt (rd.map r) a o=execOp a o:=by
 cases rd with
 | none=>rfl
 | some l =>
  refine Oper.semAt_eq _ _ _ λcl hcl=>?_
  obtain⟨d,hd'⟩:=zJn hcl e;exact hd rfl d hd'
theorem kA (ok:CtxOK P c) (hor:xb P c orc) {ih:Bool->Code->St->Option Out}(hih:j6 P ih) {o:Oper}{s s':St}{x:AX}
  (e:zV c orc rd.isSome ih o s=some (x,s')) {ρ:Env}{D:Nat->Prop}{w:World}{a:Act}(k:StR ρ D s a w) {next:Act->World->Prop}{Q:Exit->Act->World->Prop}
  (hn:x = .normal->∀ρ' v w',Mv ρ D s.heap w ρ' s'.heap w'->(s.dfr=s'.dfr\/rd=none)->StR ρ' (Dx D s.heap s'.heap) s' v w'->next v w')
  (hq:∀v,x = .panic v->∀ρ' w',Mv ρ D s.heap w ρ' s'.heap w'->StR ρ' (Dx D s.heap s'.heap) s' a w'->v.In (Dx D s.heap s'.heap)->Q (.panic [{ v:=v.conc ρ',recovered:=false }]) a w') :
  o.wpIn (Fx (rd.map ρ.blk)) 0 P a w next Q:=by
 refine⟨λ_ _=>trivial,?_⟩
 unfold zV at e;cases hop:zh c o (zz s.tm) s.heap with
 | none=>simp[hop]at e
 | some an =>
  have hsem:=Js (rd:=rd) hop;have hs:=JR (P:=P) (a:=a.eval) ok hop k.hr (λy _ v hv=>wk k y v hv);have put:∀(v:V) (h':H) (ρ':Env) (w':World) (s2:St),yW s o.dst v h'=some s2->Mv ρ D s.heap w ρ' h' w'->HR ρ' (Dx D s.heap h') h' w'->v.In (Dx D s.heap h') ->
    Mv ρ D s.heap w ρ' s2.heap w'/\StR ρ' (Dx D s.heap s2.heap) s2 (a.put o.dst (v.conc ρ')) w':=by
   intro v h' ρ' w' s2 hp m r hv;rw[zCD]at hp;have k1:=k.step m r;have hp':yW { s with heap:=h' } o.dst v ({ s with heap:=h' }:St).heap=some s2:=hp;obtain⟨k2,hh⟩:=StR.put k1 hv hp';have hh:s2.heap=h':=hh;rw[hh];exact⟨m,k2⟩
  have dfrPut:∀(v:V) (h':H) (s2:St),yW s o.dst v h'=some s2->s.dfr=s2.dfr:=by
   intro v h' s2 hp;unfold yW at hp;split at hp
   ·simp only[oA]at hp;subst hp;rfl
   ·rename_i t _
    cases hb:Nat.blt t s.n with
    | false=>simp[hb]at hp
    | true=>simp only[hb,oK,oA]at hp;subst hp;rfl
  simp only[hop]at e;cases an with
  | val v h' =>
   rw[show(Fx (rd.map ρ.blk)).round=rd.map ρ.blk from rfl,hsem (λ_ _ h=>by cases h)];obtain⟨ρ',w',hr,m,r,hv⟩:=hs;simp only at e;split at e
   ·rename_i s2 hp
    simp only[oA,oB]at e;obtain⟨rfl,rfl⟩:=e;obtain⟨m2,k2⟩:=put v h' ρ' w' _ hp m r hv;rw[hr];exact hn rfl _ _ _ m2 (.inl (dfrPut _ _ _ hp)) k2
   ·cases e
  | skip h' =>
   rw[show(Fx (rd.map ρ.blk)).round=rd.map ρ.blk from rfl,hsem (λ_ _ h=>by cases h)];obtain⟨w',hr,m,r⟩:=hs;simp only at e;split at e
   ·rename_i s2 hp
    simp only[oA,oB]at e;obtain⟨rfl,rfl⟩:=e;obtain⟨m2,k2⟩:=put zB h' ρ w' _ hp m r (wI _);rw[hr];rw[wC]at k2;exact hn rfl _ _ _ m2 (.inl (dfrPut _ _ _ hp)) k2
   ·cases e
  | call f args =>
   rw[show(Fx (rd.map ρ.blk)).round=rd.map ρ.blk from rfl,hsem (λ_ _ h=>by cases h)];obtain⟨hin,hr⟩:=hs;simp only at e;cases hcall:wx c orc ih f args s.heap with
   | none=>simp[hcall]at e
   | some out =>
    obtain⟨fi,hfi⟩:=O9 hor hcall;rw[hr,kI ok hfi];refine⟨λh=>by simp[Fx]at h,Oa none _ (CallsIn.mono (ZZ ok hor hih hcall ρ D w k.hr hin) ?_)⟩
    simp only[hcall]at e;cases out with
    | ret v h' =>
     simp only at e;rintro en w' ⟨ρ',rfl,m,r,hv⟩;split at e
     ·rename_i s2 hp
      simp only[oA,oB]at e;obtain⟨rfl,rfl⟩:=e;obtain⟨m2,k2⟩:=put v h' ρ' w' _ hp m r hv;exact hn rfl _ _ _ m2 (.inl (dfrPut _ _ _ hp)) k2
     ·cases e
    | panic v h' =>
     simp only[oA,oB]at e;obtain⟨rfl,rfl⟩:=e;rintro en w' ⟨ρ',rfl,m,r,hv⟩;exact hq v rfl ρ' w' m (k.step m r) hv
  | round l args =>
   rw[show(Fx (rd.map ρ.blk)).round=rd.map ρ.blk from rfl,hsem (λ_ _ h=>by cases h)];obtain⟨hl,hin,hr⟩:=hs;simp only at e;cases hround:XI ih l args s.heap with
   | none=>simp[hround]at e
   | some out =>
    simp only[hround]at e;obtain⟨fn,tmps,y,z,hy,hR⟩:=ZA hih hround ρ D w k.hr hl hin;rw[hr,hy];refine⟨λh=>by simp[Fx]at h,XJ none _ (RoundIn.mono hR ?_)⟩
    cases out with
    | ret v h' =>
     simp only at e;rintro en w' ⟨ρ',rfl,m,r,hv⟩;split at e
     ·rename_i s2 hp
      simp only[oA,oB]at e;obtain⟨rfl,rfl⟩:=e;obtain⟨m2,k2⟩:=put v h' ρ' w' _ hp m r hv;exact hn rfl _ _ _ m2 (.inl (dfrPut _ _ _ hp)) k2
     ·cases e
    | panic v h'=>simp at e
  | dfr d =>
   cases rd with
   | some l=>simp at e
   | none =>
    obtain⟨hdi,hr⟩:=hs;simp only[Option.isSome_none,oM]at e;split at e
    ·rename_i s2 hp
     simp only[oA,oB]at e;obtain⟨rfl,rfl⟩:=e;rw[show(Fx (Option.map ρ.blk none)).round=none from rfl,Oper.semAt_none,hr];have k1:StR ρ D { s with dfr:=d::s.dfr } { a with defers:=d.conc ρ::a.defers } w :=
      ⟨k.tm,by simp[k.dfr],λd' hd'=>by rcases od.1 hd' with rfl|q<;>first|exact hdi|exact k.dfrIn _ q,k.hr⟩
     obtain⟨k2,hh⟩:=StR.put (s':=s2) k1 (wI D) hp;have hh:s2.heap=s.heap:=hh;refine hn rfl ρ _ w ?_ (.inr rfl) ?_
     ·rw[hh];exact Mv.refl _ _ _ _
     ·rw[hh,ze]
      rw[wC]at k2;exact k2
    ·cases e
  | recover=>simp at e
  | pan v h' =>
   rw[show(Fx (rd.map ρ.blk)).round=rd.map ρ.blk from rfl,hsem (λ_ _ h=>by cases h)];obtain⟨rfl,hv,hr⟩:=hs;simp only[oA,oB]at e;obtain⟨rfl,rfl⟩:=e;rw[hr];exact hq v rfl ρ w (Mv.refl _ _ _ _) (by rw[ze];exact k) (by rw[ze];exact hv)
theorem wJ {ρ:Env}{D:Nat->Prop}{s:St}{a:Act}{w:World}(k:StR ρ D s a w) (ops:Array Oper) (o:Oper):Region.wanted o (yielded ops a.tmps)=zU ops.toList s.tm o:=by
 unfold Region.wanted zU yielded;cases o.guard with
 | none=>rfl
 | some g =>
  obtain⟨j,wt⟩:=g;simp only[Array.getElem?_toList];cases ops[j]? with
  | none=>simp
  | some o' =>
   simp only[Option.bind_some];cases o'.dst with
   | none=>simp
   | some d =>
    simp only[Option.bind_some];have hval:=k.tm.val d;rw[Array.getD_eq_getD_getElem?]at hval;cases hx:a.tmps[d]? with
    | some y =>
     rw[hx]at hval;simp only[Option.getD_some]at hval;simp only[hval];cases hg:zi s.tm d<;>simp[V.conc]
    | none =>
     rw[hx]at hval;simp only[Option.getD_none]at hval;simp only;cases hg:zi s.tm d<;>rw[hg]at hval<;>first|rfl|simp[V.conc,undef]at hval
theorem zHN (ops:Array Oper):(List.range ops.size).mapM (λi=>ops[i]?)=some ops.toList:=by
 have h:∀(l:List Oper) (p:List Oper),(List.range' p.length l.length).mapM (λi=>(p++l)[i]?)=some l:=by
  intro l
  induction l with
  | nil=>intro p;simp
  | cons a l ih =>
   intro p;have:=ih (p++[a]);simp only[oU,oV,List.length_nil,Nat.zero_add,List.append_assoc,List.singleton_append]at this;simp[List.range'_succ,List.mapM_cons,this]
 have:=h ops.toList [];simp only[List.length_nil,List.nil_append,Array.length_toList,<-List.range_eq_range',Array.getElem?_toList]at this;exact this
end
end Go.Sim
namespace Go.Sim
def xo (tm:Tm) (d:Option Tmp) (v:V):Tm:=match d with|none=>tm|some t=>tm.set t v
theorem xP {s s':St}{d:Option Tmp}{v:V}{h:H}(e:yW s d v h=some s'):(∀t,d=some t->t<s.n)/\s' = { s with tm:=xo s.tm d v,heap:=h }:=by
 cases d with
 | none =>
  simp only[yW,oA]at e;exact⟨(λ_ h=>by cases h),e.symm⟩
 | some t =>
  unfold yW at e;cases hb:Nat.blt t s.n with
  | false=>simp[hb]at e
  | true =>
   simp only[hb,oK,oA]at e;refine⟨λt' h=>?_,e.symm⟩
   cases h;exact(zY _ _).1 hb
theorem qx {s:St}{d:Option Tmp}{v:V}{h:H}(hd:∀t,d=some t->t<s.n):yW s d v h=some { s with tm:=xo s.tm d v,heap:=h }:=by
 cases d with
 | none=>rfl
 | some t =>
  have h1:Nat.blt t s.n=true:=(zY _ _).2 (hd t rfl);simp only[yW,h1,oK,xo]
section
variable {P:Program}{c:Ctx}{orc:Nat->List V->H->Option (V×H)}{rd:Option Nat}{ih:Bool->Code->St->Option Out}
theorem zCJ {r:Bool}{o:Oper}{s s':St}(e:zV c orc r ih o s=some (.normal,s')) :
  ∃v,(∀t,o.dst=some t->t<s.n)/\s' = { n:=s.n,tm:=xo s.tm o.dst v,dfr:=s'.dfr,heap:=s'.heap } /\
   ∀tm2,(∀x∈o.op.operands,zz tm2 x=zz s.tm x)->zV c orc r ih o { s with tm:=tm2 } = some (.normal,{ s' with tm:=xo tm2 o.dst v }):=by
 unfold zV at e ⊢;have hc:∀tm2,(∀x∈o.op.operands,zz tm2 x=zz s.tm x)->zh c o (zz tm2) s.heap=zh c o (zz s.tm) s.heap:=λtm2 h=>zJm c h
 have fin:∀(s0:St) (v:V) (h:H),s0.n=s.n->s0.tm=s.tm->(match yW s0 o.dst v h with|some s'=>some (AX.normal,s')|none=>none)=some (AX.normal,s') ->
   (∀t,o.dst=some t->t<s.n)/\s' = { n:=s.n,tm:=xo s.tm o.dst v,dfr:=s'.dfr,heap:=s'.heap }/\s'.dfr=s0.dfr/\s'.heap=h:=by
  intro s0 v h h1 h2 e;split at e
  ·rename_i s2 hp
   simp only[oA,oB,true_and]at e;subst e;obtain⟨g1,rfl⟩:=xP hp;exact⟨λt ht=>by rw[<-h1];exact g1 t ht,by rw[<-h1,<-h2],rfl,rfl⟩
  ·cases e
 cases ha:zh c o (zz s.tm) s.heap with
 | none=>simp[ha]at e
 | some an =>
  simp only[ha]at e;cases an with
  | val v h =>
   obtain⟨g1,g2,g3,g4⟩:=fin s v h rfl rfl e;refine⟨v,g1,g2,λtm2 h2=>?_⟩
   simp only[hc tm2 h2,ha];rw[qx (s:={ s with tm:=tm2 }) g1];simp only[oA,oB,true_and];rw[g2];simp only[g3,g4]
  | skip h =>
   obtain⟨g1,g2,g3,g4⟩:=fin s zB h rfl rfl e;refine⟨zB,g1,g2,λtm2 h2=>?_⟩
   simp only[hc tm2 h2,ha];rw[qx (s:={ s with tm:=tm2 }) g1];simp only[oA,oB,true_and];rw[g2];simp only[g3,g4]
  | call f args =>
   simp only at e;cases hcall:wx c orc ih f args s.heap with
   | none=>simp[hcall]at e
   | some out =>
    simp only[hcall]at e;cases out with
    | ret v h =>
     obtain⟨g1,g2,g3,g4⟩:=fin s v h rfl rfl e;refine⟨v,g1,g2,λtm2 h2=>?_⟩
     simp only[hc tm2 h2,ha,hcall];rw[qx (s:={ s with tm:=tm2 }) g1];simp only[oA,oB,true_and];rw[g2];simp only[g3,g4]
    | panic v h=>simp at e
  | round l args =>
   simp only at e;cases hround:XI ih l args s.heap with
   | none=>simp[hround]at e
   | some out =>
    simp only[hround]at e;cases out with
    | ret v h =>
     obtain⟨g1,g2,g3,g4⟩:=fin s v h rfl rfl e;refine⟨v,g1,g2,λtm2 h2=>?_⟩
     simp only[hc tm2 h2,ha,hround];rw[qx (s:={ s with tm:=tm2 }) g1];simp only[oA,oB,true_and];rw[g2];simp only[g3,g4]
    | panic v h=>simp at e
  | dfr d =>
   cases r with
   | true=>simp at e
   | false =>
    simp only[oM]at e;obtain⟨g1,g2,g3,g4⟩:=fin { s with dfr:=d::s.dfr } zB s.heap rfl rfl e;refine⟨zB,g1,g2,λtm2 h2=>?_⟩
    simp only[hc tm2 h2,ha,oM];rw[qx (s:={ s with tm:=tm2,dfr:=d::s.dfr }) g1];simp only[oA,oB,true_and];rw[g2];simp only[g3,g4]
  | recover=>simp at e
  | pan v h=>simp at e
def low0 (h:H):H:={ h with low:=T.top }
def z1S (s s':St):St:={ s' with heap:={ s'.heap with low:=cond (Nat.ble s.heap.low s'.heap.low) s.heap.low s'.heap.low } }
def zED (c:Ctx) (orc:Nat->List V->H->Option (V×H)) (r:Bool) (ih:Bool->Code->St->Option Out) (ops:List Oper) (bs:List Nat) (m k:Nat) (o:Oper) (s s1:St):Prop :=
 (zU ops s.tm o=false/\yW s o.dst zB s.heap=some s1) \/
 (zU ops s.tm o=true/\∃s',zV c orc r ih o { s with heap:=low0 s.heap } = some (.normal,s')/\(s.heap.nx<=s'.heap.low\/xr ops bs m k s.tm o=true)/\s'.dfr=s.dfr/\s1=z1S s s')
theorem zFz:∀{l l':List AD},xG l l'=true->l.length=l'.length:=by
 intro l
 induction l with
 | nil=>intro l' h;cases l'<;>first|rfl|(simp[xG]at h)
 | cons a l ih=>intro l' h;cases l' with
  | nil=>simp[xG]at h
  | cons b l'=>simp only[oV,ih h]
theorem zHp {r:Bool}{o:Oper}{s s':St}(e:zV c orc r ih o s=some (.normal,s')):s'.dfr=s.dfr\/∃d,s'.dfr=d::s.dfr:=by
 unfold zV at e;have fin:∀(s0:St) (v:V) (h:H),(match yW s0 o.dst v h with|some s'=>some (AX.normal,s')|none=>none)=some (AX.normal,s')->s'.dfr=s0.dfr:=by
  intro s0 v h e;split at e
  ·rename_i s2 hp
   simp only[oA,oB,true_and]at e;subst e;obtain⟨_,rfl⟩:=xP hp;rfl
  ·cases e
 split at e
 ·cases e
 ·exact .inl (fin _ _ _ e)
 ·exact .inl (fin _ _ _ e)
 ·split at e
  ·exact .inl (fin _ _ _ e)
  ·simp at e
  ·cases e
 ·split at e
  ·exact .inl (fin _ _ _ e)
  ·cases e
 ·cases r with
  | true=>simp at e
  | false=>exact .inr ⟨_,fin _ _ _ e⟩
 ·simp at e
 ·cases e
theorem zGw {r:Bool}{ops:List Oper}{bs:List Nat}{m n k:Nat}{o:Oper}{l:List Oper}{s sf:St}{x:AX}(e:yF c orc r ih ops bs m (n+1) k (o::l) s=some (.done x sf)) :
  ∃s1,zED c orc r ih ops bs m k o s s1/\yF c orc r ih ops bs m n (k+1) l s1=some (.done x sf):=by
 simp only[yF]at e;cases hw:zU ops s.tm o with
 | false =>
  simp only[hw,oM]at e;split at e
  ·rename_i s1 hp;exact⟨s1,.inl ⟨hw,hp⟩,e⟩
  ·cases e
 | true =>
  simp only[hw,oK]at e;split at e
  ·rename_i s' hs
   cases hc:(Nat.ble s.heap.nx s'.heap.low || xr ops bs m k s.tm o)with
   | false=>simp only[hc,oM]at e;cases e
   | true =>
    simp only[hc,oK]at e;cases hd:xG s.dfr s'.dfr with
    | false=>simp only[hd,oM]at e;cases e
    | true =>
     simp only[hd,oK]at e;simp only[Bool.or_eq_true]at hc;refine⟨_,.inr ⟨hw,s',hs,hc.imp oE id,?_,rfl⟩,e⟩;have h1:=zFz hd;rcases zHp hs with h|⟨d,h⟩
     ·exact h
     ·rw[h]at h1;simp at h1
  ·cases e
def ZS (s s1:St):Prop:=∀id,id<s.heap.nx->s1.heap.get id=s.heap.get id
structure AF (ops:List Oper) (bs:List Nat) (m k:Nat) (o:Oper) (s s1:St):Prop where
 n:s1.n=s.n
 cap:s1.heap.nx<=T.top
 inn:∀t,(zi s.tm t).In λid=>id<s.heap.nx
 dfr:s1.dfr=s.dfr
 tm:∃v,(∀t,o.dst=some t->t<s.n)/\s1.tm=xo s.tm o.dst v
 nx:s.heap.nx<=s1.heap.nx
 low:s1.heap.low<=s.heap.low
 old:∀id o',id<s.heap.nx->s1.heap.get id=some o'->∃o,s.heap.get id=some o/\o'.wr=o.wr
 kept:∀id,id<s.heap.nx->id<s1.heap.low->s1.heap.get id=s.heap.get id
 wr:∀id o',s.heap.nx<=id->id<s1.heap.nx->s1.heap.get id=some o'->o'.wr=true
 eff:ZS s s1\/(s1.heap.nx=s.heap.nx/\∃b,(∀id,id≠b->s1.heap.get id=s.heap.get id) /\
  (∀i oi,i<k->ops[i]? = some oi->Nat.testBit (bs.getD k 0) i=true\/(wZ s.tm b oi=true/\∀j oj t,i<=j->j<k->ops[j]? = some oj->oj.dst=some t->t∉xp ops oi)) /\
  (∀i,k<i->i<m->Nat.testBit (bs.getD i 0) k=true)) \/
  ((∀i oi,i<k->ops[i]? = some oi->Nat.testBit (bs.getD k 0) i=true\/(X9 oi=true/\∀j oj t,i<=j->j<k->ops[j]? = some oj->oj.dst=some t->t∉xp ops oi)) /\
  (∀i,k<i->i<m->Nat.testBit (bs.getD i 0) k=true))
theorem HR.low0 {ρ:Env}{D:Nat->Prop}{h:H}{w:World}(r:HR ρ D h w):HR ρ D (low0 h) w:=⟨r.cap,r.lt,r.rel,r.inj⟩
theorem zL6 {F:Fence}{ops:Array Oper}{Q:Exit->Act->World->Prop}{is:List Nat}{a:Act}{w:World}(hroom:∀n,F.room n) (hfn:∀f,F.fn f) (h:wpOpsIn F 0 P ops Q is a w):∃e a' w',Q e a' w':=by
 obtain⟨e,a',w',q,_⟩:=wp_opsIn is a w h { (default:Frame)with roundOf:=F.round } [] [] rfl (hfn _) (hroom _);exact⟨e,a',w',q⟩
theorem zLR {r:Bool}{o:Oper}{s s':St}{t:TypeId}{a x:Operand}{b o':Nat}(e:zV c orc r ih o s=some (.normal,s')) (ho:o.op = .store t a x) (ha:zz s.tm a=some (.ptr b o')) (hb:b<T.top) :
  s'.heap.nx=s.heap.nx/\∀id,id≠b->s'.heap.get id=s.heap.get id:=by
 unfold zV at e;cases hx:zz s.tm x with
 | none=>simp[zh,ho,ha,hx]at e
 | some v =>
  cases hs:zf c t s.heap (.ptr b o') v with
  | none=>simp[zh,ho,ha,hx,hs]at e
  | some h' =>
   simp only[zh,ho,ha,hx,hs]at e;have hh:s'.heap=h':=by
    split at e
    ·rename_i s2 hp
     simp only[oA,oB,true_and]at e;subst e;obtain⟨_,rfl⟩:=xP hp;rfl
    ·cases e
   rw[hh];unfold zf at hs;simp only at hs;split at hs
   ·split at hs
    ·rename_i ti _
     cases h1:wL v.cells ti.size with
     | false=>simp[h1]at hs
     | true =>
      rename_i esz _ _ _ _;cases h2:cond (Nat.ble esz.fz o') (zL v.cells) false with
      | false=>rw[h1,oK,h2]at hs;cases hs
      | true =>
       rw[h1,oK,h2,oK]at hs;split at hs
       ·simp only[oA]at hs;subst hs
        exact⟨rfl,λid hid=>by rw[H.get_upd _ _ _ _ hb,if_neg hid]⟩
       ·cases hs
    ·cases hs
   ·cases hs
theorem zSC {r:Bool}{o:Oper}{s s':St}{t:TypeId}{a x y:Operand}{b:Nat}(e:zV c orc r ih o s=some (.normal,s')) (ho:o.op = .mapUpdate t a x y) (ha:zz s.tm a=some (.map b)) (hb:b<T.top) :
  s'.heap.nx=s.heap.nx/\∀id,id≠b->s'.heap.get id=s.heap.get id:=by
 unfold zV at e;cases hx:zz s.tm x with
 | none=>simp[zh,ho,ha,hx]at e
 | some u =>
 cases hy:zz s.tm y with
 | none=>simp[zh,ho,ha,hx,hy]at e
 | some v =>
  cases hs:Kg c t s.heap (.map b) u v with
  | none=>simp[zh,ho,ha,hx,hy,hs]at e
  | some h' =>
   simp only[zh,ho,ha,hx,hy,hs]at e;have hh:s'.heap=h':=by
    split at e
    ·rename_i s2 hp
     simp only[oA,oB,true_and]at e;subst e;obtain⟨_,rfl⟩:=xP hp;rfl
    ·cases e
   rw[hh];have key:∀o1,h'=s.heap.upd b o1->h'.nx=s.heap.nx/\∀id,id≠b->h'.get id=s.heap.get id:=by
    intro o1 e1;subst e1;exact⟨rfl,λid hid=>by rw[H.get_upd _ _ _ _ hb,if_neg hid]⟩
   unfold Kg at hs;split at hs
   ·rename_i ti _
    cases hd:ti.desc<;>simp only[hd]at hs<;>first|(cases hs;done)|skip
    ·rename_i kt _
     split at hs
     ·cases hk:Ke c kt u with
      | false=>rw[hk,oM]at hs;cases hs
      | true =>
       rw[hk,oK]at hs;split at hs
       ·rename_i i en _
        cases h2:KX en.key u with
        | false=>rw[h2,oM]at hs;cases hs
        | true=>rw[h2,oK]at hs;simp only[oA]at hs;exact key _ hs.symm
       ·simp only[oA]at hs;exact key _ hs.symm
       ·cases hs
     ·cases hs
   ·cases hs
theorem zGI (ok:CtxOK P c) (hor:xb P c orc) (hih:j6 P ih) {ops:Array Oper}{bs:List Nat}{m k:Nat}{o:Oper}{s s1:St}(ho:ops[k]? = some o)
  (hs:zED c orc rd.isSome ih ops.toList bs m k o s s1) {ρ:Env}{D:Nat->Prop}{a:Act}{w:World}(kk:StR ρ D s a w) (_:∀l,rd=some l->D l) :
  AF ops.toList bs m k o s s1/\∃ρ' a' w',StR ρ' (Dx D s.heap s1.heap) s1 a' w':=by
 rcases hs with⟨hw,hp⟩|⟨hw,s',he,hlow,hd,rfl⟩
 ·obtain⟨g1,rfl⟩:=xP hp
  obtain⟨k2,hh⟩:=StR.put kk (wI _) hp;refine⟨⟨rfl,kk.hr.cap,λt=>V.In_mono kk.hr.lt _ (kk.tm.inn t),rfl,⟨zB,g1,rfl⟩,oP _,oP _,λid o' _ h=>⟨o',h,rfl⟩,λ_ _ _=>rfl,λid o' h1 h2=>by have:id<s.heap.nx:=h2;omega,.inl λ_ _=>rfl⟩,ρ,a.put o.dst (V.conc ρ zB),w,?_⟩
  have:Dx D s.heap ({ s with tm:=xo s.tm o.dst zB,heap:=s.heap }:St).heap=D:=ze;rw[this];exact k2
 ·have k0:StR ρ D { s with heap:=low0 s.heap } a w:=⟨kk.tm,kk.dfr,kk.dfrIn,kk.hr.low0⟩
  have hwp:wpOpsIn (Fx (rd.map ρ.blk)) 0 P ops (λ_ a' w'=>∃ρ',Mv ρ D (low0 s.heap) w ρ' s'.heap w'/\StR ρ' (Dx D s.heap s'.heap) s' a' w') [k] a w:=by
   simp only[wpOpsIn,ho];rw[if_pos (by rw[wJ kk];exact hw)];refine kA ok hor hih he k0 (λ_ ρ' a' w' m' _ k'=>⟨ρ',m',k'⟩) (λv hv=>by cases hv)
  obtain⟨_,a',w',ρ',mv,k'⟩:=zL6 (zIN _) (λ_=>trivial) hwp;obtain⟨v,g1,g2,_⟩:=zCJ he;have hn:s.heap.nx<=s'.heap.nx:=mv.nx;refine⟨⟨by rw[g2];rfl,k'.hr.cap,λt=>V.In_mono kk.hr.lt _ (kk.tm.inn t),hd,⟨v,g1,by rw[g2];rfl⟩,hn,?_,mv.old,?_,?_,?_⟩,ρ',a',w',?_⟩
  ·show cond (Nat.ble s.heap.low s'.heap.low) s.heap.low s'.heap.low<=s.heap.low
   cases hb:Nat.ble s.heap.low s'.heap.low with
   | true=>exact oP _
   | false =>
    rw[oM];rcases Nat.le_total s.heap.low s'.heap.low with g|g
    ·rw[oC g]at hb;cases hb
    ·exact g
  ·intro id h1 h2
   refine mv.kept id h1 ?_;have h2:id<cond (Nat.ble s.heap.low s'.heap.low) s.heap.low s'.heap.low:=h2;cases hb:Nat.ble s.heap.low s'.heap.low with
   | true=>rw[hb,oK]at h2;exact oI h2 (oE hb)
   | false=>rw[hb,oM]at h2;exact h2
  ·intro id o' h1 h2 h3
   exact(mv.img id o' h1 h2 h3).1
  ·rcases hlow with hlow|hst
   ·exact .inl λid hid=>mv.kept id hid (oI hid hlow)
   ·have hst2:JI ops.toList bs m k s.tm o=true\/XP ops.toList bs m k=true:=by simpa [xr]using hst
    rcases hst2 with hst|hst
    case inr =>
     obtain⟨h1,h2⟩:=zGL hst;exact .inr (.inr ⟨h1,h2⟩)
    obtain⟨b,h12,h3,h4⟩:=zB1 hst;have hbD:D b:=by
     rcases h12 with⟨_,_,_,_,_,h2⟩|⟨_,_,_,_,_,h2⟩
     all_goals
      have:=(wk kk _ _ h2).2;simpa [V.In]using this
    have hbt:b<T.top:=oI (kk.hr.lt b hbD) kk.hr.cap;obtain⟨e1,e2⟩:s'.heap.nx=(low0 s.heap).nx/\∀id,id≠b->s'.heap.get id=(low0 s.heap).get id:=by
     rcases h12 with⟨_,_,_,_,h1,h2⟩|⟨_,_,_,_,h1,h2⟩
     ·exact zLR (s:={ s with heap:=low0 s.heap }) he h1 h2 hbt
     ·exact zSC (s:={ s with heap:=low0 s.heap }) he h1 h2 hbt
    exact .inr (.inl ⟨e1,b,e2,h3,h4⟩)
  ·exact⟨k'.tm,k'.dfr,k'.dfrIn,⟨k'.hr.cap,k'.hr.lt,k'.hr.rel,k'.hr.inj⟩⟩
theorem z10 (ok:CtxOK P c) (hor:xb P c orc) (hih:j6 P ih) {ops:Array Oper}{bs:List Nat}{m:Nat}{x:AX}{sf:St}:∀(n k:Nat) (l:List Oper) (s:St),yF c orc rd.isSome ih ops.toList bs m n k l s=some (.done x sf) ->
  l=ops.toList.drop k->n<=l.length->∀{ρ:Env}{D:Nat->Prop}{a:Act}{w:World},StR ρ D s a w->(∀l,rd=some l->D l) ->
  ∃st:Nat->St,st 0=s/\(∀i,i<n->∃o,ops[k+i]? = some o/\zED c orc rd.isSome ih ops.toList bs m (k+i) o (st i) (st (i+1))/\AF ops.toList bs m (k+i) o (st i) (st (i+1))) /\
   (∀i,i<n->∃ρ' a' w',StR ρ' (Dx D s.heap (st i).heap) (st i) a' w') /\
   wV c orc rd.isSome ih ops.toList (ops.toList.drop (k+n)) (st n)=some (.done x sf):=by
 intro n
 induction n with
 | zero =>
  intro k l s e hl _ ρ D a w _ _;refine⟨λ_=>s,rfl,λi hi=>by omega,λi hi=>by omega,?_⟩
  rw[Nat.add_zero,<-hl];cases l with
  | nil=>simpa [yF,wV]using e
  | cons o l=>simpa [yF]using e
 | succ n ihn =>
  intro k l s e hl hn ρ D a w kk hr;cases l with
  | nil=>simp at hn
  | cons o l =>
   obtain⟨s1,hs,e1⟩:=zGw e;have ho:ops[k]? = some o:=by
    have:(ops.toList.drop k)[0]? = some o:=by rw[<-hl];rfl
    simpa using this
   have hl1:l=ops.toList.drop (k+1):=by
    have:=congrArg (List.drop 1) hl;simpa [List.drop_drop,Nat.add_comm]using this
   obtain⟨af,ρ',a',w',k'⟩:=zGI ok hor hih ho hs kk hr;obtain⟨st,h0,h1,h3,h2⟩:=ihn (k+1) l s1 e1 hl1 (by simpa using hn) k' (λl hl=>.inl (hr l hl))
   have hmono:∀i,i<=n->s1.heap.nx<=(st i).heap.nx:=by
    intro i
    induction i with
    | zero=>intro _;rw[h0];exact oP _
    | succ i ihi =>
     intro hi;obtain⟨_,_,_,af2⟩:=h1 i (by omega);exact oQ (ihi (by omega)) af2.nx
   refine⟨λi=>match i with|0=>s|i+1=>st i,rfl,?_,?_,?_⟩
   ·intro i hi
    cases i with
    | zero =>
     refine⟨o,ho,?_,?_⟩
     ·show zED _ _ _ _ _ _ _ _ _ s (st 0)
      rw[h0];exact hs
     ·show AF _ _ _ _ _ s (st 0)
      rw[h0];exact af
    | succ i =>
     have:=h1 i (by omega);rw[show k+1+i=k+(i+1)from by omega]at this;exact this
   ·intro i hi
    cases i with
    | zero=>exact⟨ρ,a,w,by rw[ze];exact kk⟩
    | succ i =>
     obtain⟨ρ2,a2,w2,k2⟩:=h3 i (by omega);refine⟨ρ2,a2,w2,?_⟩;rw[wP af.nx (hmono i (by omega))]at k2;exact k2
   ·rw[show k+(n+1)=k+1+n from by omega];exact h2
end
end Go.Sim
namespace Go.Sim
section
variable {P:Program}{c:Ctx}{orc:Nat->List V->H->Option (V×H)}{rd:Option Nat}{ih:Bool->Code->St->Option Out}
theorem XN (ok:CtxOK P c) (hor:xb P c orc) (hih:j6 P ih) {o:Oper}{s s':St}
  (e:zV c orc rd.isSome ih o s=some (.normal,s')) (hd:s'.dfr=s.dfr) {ρ:Env}{D:Nat->Prop}{w:World}{a:Act}(hop:∀x∈o.op.operands,∀v,zz s.tm x=some v->a.eval x=v.conc ρ/\v.In D)
  (hr:HR ρ D s.heap w) {next:Act->World->Prop}{Q:Exit->Act->World->Prop}
  (hn:∀ρ' v w',Mv ρ D s.heap w ρ' s'.heap w'->HR ρ' (Dx D s.heap s'.heap) s'.heap w'->v.In (Dx D s.heap s'.heap)->s'.tm=xo s.tm o.dst v->next (a.put o.dst (v.conc ρ')) w') :
  o.wpIn (Fx (rd.map ρ.blk)) 0 P a w next Q:=by
 refine⟨λ_ _=>trivial,?_⟩
 unfold zV at e;cases hop':zh c o (zz s.tm) s.heap with
 | none=>simp[hop']at e
 | some an =>
  have hsem:=Js (rd:=rd) hop';have hs:=JR (P:=P) (a:=a.eval) ok hop' hr hop;simp only[hop']at e;have fin:∀(v:V) (h:H),(match yW s o.dst v h with|some s'=>some (AX.normal,s')|none=>none)=some (AX.normal,s')->s'.tm=xo s.tm o.dst v/\s'.heap=h:=by
   intro v h e;split at e
   ·rename_i s2 hp
    simp only[oA,oB,true_and]at e;subst e;obtain⟨g1,rfl⟩:=xP hp;exact⟨rfl,rfl⟩
   ·cases e
  cases an with
  | val v h' =>
   rw[show(Fx (rd.map ρ.blk)).round=rd.map ρ.blk from rfl,hsem (λ_ _ h=>by cases h)];obtain⟨ρ',w',hr,m,r,hv⟩:=hs;obtain⟨g1,rfl⟩:=fin v h' e;rw[hr];exact hn _ _ _ m r hv g1
  | skip h' =>
   rw[show(Fx (rd.map ρ.blk)).round=rd.map ρ.blk from rfl,hsem (λ_ _ h=>by cases h)];obtain⟨w',hr,m,r⟩:=hs;obtain⟨g1,rfl⟩:=fin zB h' e;rw[hr];have:=hn _ _ _ m r (wI _) g1;rw[wC]at this;exact this
  | call f args =>
   rw[show(Fx (rd.map ρ.blk)).round=rd.map ρ.blk from rfl,hsem (λ_ _ h=>by cases h)];obtain⟨hin,hr2⟩:=hs;simp only at e;cases hcall:wx c orc ih f args s.heap with
   | none=>simp[hcall]at e
   | some out =>
    obtain⟨fi,hfi⟩:=O9 hor hcall;rw[hr2,kI ok hfi];refine⟨λh=>by simp[Fx]at h,Oa none _ (CallsIn.mono (ZZ ok hor hih hcall ρ D w hr hin) ?_)⟩
    simp only[hcall]at e;cases out with
    | ret v h' =>
     obtain⟨g1,rfl⟩:=fin v h' e;rintro en w' ⟨ρ',rfl,m,r,hv⟩;exact hn _ _ _ m r hv g1
    | panic v h'=>simp at e
  | round l args =>
   rw[show(Fx (rd.map ρ.blk)).round=rd.map ρ.blk from rfl,hsem (λ_ _ h=>by cases h)];obtain⟨hl,hin,hr2⟩:=hs;simp only at e;cases hround:XI ih l args s.heap with
   | none=>simp[hround]at e
   | some out =>
    simp only[hround]at e;obtain⟨fn,tmps,y,z,hy,hR⟩:=ZA hih hround ρ D w hr hl hin;rw[hr2,hy];refine⟨λh=>by simp[Fx]at h,XJ none _ (RoundIn.mono hR ?_)⟩
    cases out with
    | ret v h' =>
     obtain⟨g1,rfl⟩:=fin v h' e;rintro en w' ⟨ρ',rfl,m,r,hv⟩;exact hn _ _ _ m r hv g1
    | panic v h'=>simp at e
  | dfr d =>
   exfalso
   cases hrd:rd.isSome with
   | true=>simp[hrd]at e
   | false =>
    simp only[hrd,oM]at e;split at e
    ·rename_i s2 hp
     simp only[oA,oB,true_and]at e;subst e;obtain⟨g1,rfl⟩:=xP hp;have:=congrArg List.length hd;simp at this
    ·cases e
  | recover=>simp at e
  | pan v h'=>simp at e
def Env.mix (n : Nat) (ρ' ρ : Env) : Env :=
  { blk := λid => if id < n then ρ'.blk id else ρ.blk id
    off := λid => if id < n then ρ'.off id else ρ.off id
    cap := λid => if id < n then ρ'.cap id else ρ.cap id }
def DS (D0:Nat->Prop) (st:Nat->St) (S:Nat->Prop):Nat->Prop:=λid=>D0 id\/∃j,S j/\(st j).heap.nx<=id/\id<(st (j+1)).heap.nx
structure Base (P:Program) (c:Ctx) (orc:Nat->List V->H->Option (V×H)) (rd:Option Nat) (ih:Bool->Code->St->Option Out) (ops:Array Oper) (m:Nat) (st:Nat->St) (ρ0:Env) (D0:Nat->Prop) (a0:Act) (w0:World):Prop where
 ok:CtxOK P c
 hor:xb P c orc
 hih:j6 P ih
 hm:yZ ops.toList=some m
 hs:∀i,i<m->∃o,ops[i]? = some o/\zED c orc rd.isSome ih ops.toList (z8 ops.toList []) m i o (st i) (st (i+1))/\AF ops.toList (z8 ops.toList []) m i o (st i) (st (i+1))
 k0:StR ρ0 D0 (st 0) a0 w0
 kt:∀i,i<m->∃ρ' a' w',StR ρ' (Dx D0 (st 0).heap (st i).heap) (st i) a' w'
 hl:∀l,rd=some l->D0 l
def zQN (ops:Array Oper) (st:Nat->St) (S:Nat->Prop) (tm:Tm):Prop :=
 ∀t,(∃j o,S j/\ops[j]? = some o/\o.dst=some t/\(∀j' o',S j'->ops[j']? = some o'->o'.dst=some t->j'<=j)/\zi tm t=zi (st (j+1)).tm t) \/
  ((∀j o,S j->ops[j]? = some o->o.dst≠some t)/\zi tm t=zi (st 0).tm t)
variable {ops:Array Oper}{m:Nat}{st:Nat->St}{ρ0:Env}{D0:Nat->Prop}{a0:Act}{w0:World}
namespace Base
variable (B:Base P c orc rd ih ops m st ρ0 D0 a0 w0)
include B
theorem next_mono:∀{p q:Nat},p<=q->q<=m->(st p).heap.nx<=(st q).heap.nx:=by
 intro p q hpq
 induction hpq with
 | refl=>intro _;exact oP _
 | step h ih =>
  intro hq;obtain⟨o,_,_,af⟩:=B.hs _ hq;exact oQ (ih (by omega)) af.nx
theorem low_mono:∀{q:Nat},q<=m->(st q).heap.low<=(st 0).heap.low:=by
 intro q
 induction q with
 | zero=>intro _;exact oP _
 | succ q ih =>
  intro hq;obtain⟨o,_,_,af⟩:=B.hs _ hq;exact oQ af.low (ih (by omega))
theorem n_eq:∀{q:Nat},q<=m->(st q).n=(st 0).n:=by
 intro q
 induction q with
 | zero=>intro _;rfl
 | succ q ih =>
  intro hq;obtain⟨o,_,_,af⟩:=B.hs _ hq;exact af.n.trans (ih (by omega))
theorem dfr_eq:∀{q:Nat},q<=m->(st q).dfr=(st 0).dfr:=by
 intro q
 induction q with
 | zero=>intro _;rfl
 | succ q ih =>
  intro hq;obtain⟨o,_,_,af⟩:=B.hs _ hq;exact af.dfr.trans (ih (by omega))
theorem cap:∀{q:Nat},q<=m->(st q).heap.nx<=T.top:=by
 intro q hq;cases q with
 | zero=>exact B.k0.hr.cap
 | succ q =>
  obtain⟨o,_,_,af⟩:=B.hs _ hq;exact af.cap
theorem same_range {id:Nat}:∀{p q:Nat},p<=q->q<=m->id<(st p).heap.nx->(∀i,p<=i->i<q->id<(st i).heap.nx->(st (i+1)).heap.get id=(st i).heap.get id)->(st q).heap.get id=(st p).heap.get id:=by
 intro p q hpq
 induction hpq with
 | refl=>intro _ _ _;rfl
 | @step q h ih =>
  intro hq hid hst;have hp:p<=q:=h;rw[hst q hp (by omega) (oI hid (B.next_mono hp (by omega)))];exact ih (by omega) hid λi h1 h2 h3=>hst i h1 (by omega) h3
theorem quiet_range {p q:Nat}(hpq:p<=q) (hq:q<=m) (hst:∀i,p<=i->i<q->ZS (st i) (st (i+1))) {id:Nat}(hid:id<(st p).heap.nx):(st q).heap.get id=(st p).heap.get id :=
 B.same_range hpq hq hid λi h1 h2 h3=>hst i h1 h2 id h3
theorem old_range {id:Nat}{o':O}:∀{p q:Nat},p<=q->q<=m->id<(st p).heap.nx->(st q).heap.get id=some o'->∃o,(st p).heap.get id=some o/\o'.wr=o.wr:=by
 intro p q hpq
 induction hpq generalizing o' with
 | refl=>intro _ _ h;exact⟨o',h,rfl⟩
 | @step q h ih =>
  intro hq hid hg;have hp:p<=q:=h;obtain⟨o,_,_,af⟩:=B.hs _ hq;obtain⟨o1,h1,h2⟩:=af.old id o' (oI hid (B.next_mono hp (by omega))) hg;obtain⟨o2,h3,h4⟩:=ih (by omega) hid h1;exact⟨o2,h3,h2.trans h4⟩
theorem kept_range {id:Nat}:∀{q:Nat},q<=m->id<(st 0).heap.nx->id<(st q).heap.low->(st q).heap.get id=(st 0).heap.get id:=by
 intro q
 induction q with
 | zero=>intro _ _ _;rfl
 | succ q ih =>
  intro hq h1 h2;obtain⟨o,_,_,af⟩:=B.hs _ hq;rw[af.kept id (oI h1 (B.next_mono (oJ _) (by omega))) h2];exact ih (by omega) h1 (oI h2 af.low)
omit B in
theorem born {id:Nat}:∀{q:Nat},(st 0).heap.nx<=id->id<(st q).heap.nx->∃j,j<q/\(st j).heap.nx<=id/\id<(st (j+1)).heap.nx:=by
 intro q
 induction q with
 | zero=>intro h1 h2;omega
 | succ q ih =>
  intro h1 h2;rcases Nat.lt_or_ge id (st q).heap.nx with g|g
  ·obtain⟨j,h3,h4⟩:=ih h1 g
   exact⟨j,by omega,h4⟩
  ·exact⟨q,by omega,g,h2⟩
theorem rows:ZB ops.toList (z8 ops.toList []) 0 ops.toList=true:=by
 have hk:=B.hm;unfold yZ at hk;cases hc:ZB ops.toList (z8 ops.toList []) 0 ops.toList with
 | true=>rfl
 | false=>simp[hc]at hk
theorem hmeq:m=jh (z8 ops.toList []) ops.toList.length:=by
 have hk:=B.hm;unfold yZ at hk;cases hc:(ZB ops.toList (z8 ops.toList []) 0 ops.toList && (!(Region.departs ops.toList.toArray) || (zAn ops.toList (Region.linearise .gc ops.toList.toArray 0) [] && Yv (Region.linearise .gc ops.toList.toArray 0) ops.toList.length)))with
 | false=>simp only[hc,oM]at hk;cases hk
 | true=>simp only[hc,oK,oA]at hk;exact hk.symm
theorem m_le:m<=ops.size:=by
 have:=K5 (z8 ops.toList []) ops.toList.length;rw[<-B.hmeq]at this;simpa using this
theorem apart {i j:Nat}{oi oj:Oper}(hij:i<j) (hi:ops[i]? = some oi) (hj:ops[j]? = some oj):Nat.testBit ((z8 ops.toList []).getD j 0) i=true \/
  (∀d,oi.dst=some d->d∉xp ops.toList oj/\oj.dst≠some d)/\∀d,oj.dst=some d->d∉xp ops.toList oi:=by
 have h1:=(KW _ 0 B.rows j oj (by simpa using hj)).1;rw[Nat.zero_add]at h1;have h2:=zHi _ 0 h1 i oi (by omega) (by simpa using hi);rw[Nat.zero_add]at h2;refine h2.imp id λh3=>?_
 simp only[zI1,Bool.or_eq_false_iff]at h3;refine⟨λd hd=>?_,λd hd=>?_⟩
 ·rw[hd]at h3
  simp only[Bool.or_eq_false_iff]at h3;refine⟨λhm=>?_,λhd'=>?_⟩
  ·rw[(kP _ _).2 hm]at h3;simp at h3
  ·rw[hd']at h3;simp at h3
 ·have h4:=h3.2
  simp only[hd]at h4;intro hm;rw[(kP _ _).2 hm]at h4;simp at h4
theorem tm_range {t:Nat}:∀{p q:Nat},p<=q->q<=m->(∀i o,p<=i->i<q->ops[i]? = some o->o.dst≠some t)->zi (st q).tm t=zi (st p).tm t:=by
 intro p q hpq
 induction hpq with
 | refl=>intro _ _;rfl
 | @step q h ih =>
  intro hq hw;obtain⟨o,ho,_,af⟩:=B.hs _ hq;obtain⟨v,hv,he⟩:=af.tm;rw[he,<-ih (by omega) λi o h1 h2=>hw i o h1 (by omega)]
  cases hd:o.dst with
  | none=>rfl
  | some d =>
   have hne:t≠d:=λe=>hw q o h (by omega) ho (by rw[hd,e])
   have hlt:d<Tb.top:=by
    have:=hv d hd;rw[B.n_eq (by omega)]at this;exact oI this B.k0.tm.cap
   simp only[xo];rw[xu _ _ _ _ hlt,if_neg hne]
end Base
end
end Go.Sim
namespace Go.Sim
section
variable {P:Program}{c:Ctx}{orc:Nat->List V->H->Option (V×H)}{rd:Option Nat}{ih:Bool->Code->St->Option Out}
variable {ops:Array Oper}{m:Nat}{st:Nat->St}{ρ0:Env}{D0:Nat->Prop}{a0:Act}{w0:World}
def Add (S:Nat->Prop) (k:Nat):Nat->Prop:=λj=>S j\/j=k
structure Inv (ops:Array Oper) (m:Nat) (st:Nat->St) (ρ0:Env) (D0:Nat->Prop) (w0:World) (S:Nat->Prop) (J:Nat) (tm:Tm) (ρ:Env) (a:Act) (w:World):Prop where
 lt:∀j,S j->j<J
 le:J<=m
 closed:Closed ops.toList S
 nst:∀i,i<m->¬ZS (st i) (st (i+1))->(S i↔i<J)
 tmv:zQN ops st S tm
 tmR:TmR ρ (DS D0 st S) (st 0).n tm a.tmps
 dfr:a.defers=(st 0).dfr.map (AD.conc ρ)
 hr:HR ρ (DS D0 st S) (st J).heap w
 size:w0.heap.size<=w.heap.size
 os:w.os=w0.os
 tape:w.tape=w0.tape
 output:w.output=w0.output
 agree:Agree D0 ρ0 ρ
 img:∀id o',DS D0 st S id->(st 0).heap.nx<=id->(st J).heap.get id=some o'->w0.heap.size<=ρ.blk id \/
  ∃j o,D0 j/\(st 0).heap.get j=some o/\o.wr=true/\ρ0.blk j=ρ.blk id/\(st J).heap.get j=none
 frame:∀r,r<w0.heap.size->(∀j o,D0 j->(st 0).heap.get j=some o->o.wr=true->ρ0.blk j≠r)->w.heap[r]? = w0.heap[r]?
variable (B:Base P c orc rd ih ops m st ρ0 D0 a0 w0)
include B
theorem Base.looks {S:Nat->Prop}{tm:Tm}(hc:Closed ops.toList S) (_:∀j,S j->j<m) (ht:zQN ops st S tm) {k:Nat}{o:Oper}(hk:k<m) (hn:¬S k) (ho:ops[k]? = some o)
  (he:∀e∈o.after,jA e=true->S e.on):∀t,t∈xp ops.toList o->zi tm t=zi (st k).tm t:=by
 intro t hm;have hb:=qG hc k o (by simpa using ho) he;rcases ht t with⟨j,oj,hj,hoj,hd,hmax,hv⟩|⟨hno,hv⟩
 ·rw[hv]
  rcases Nat.lt_trichotomy j k with g|g|g
  ·refine(B.tm_range (p:=j+1) g (by omega) λi oi h1 h2 hoi hdi=>?_).symm
   rcases B.apart h2 hoi ho with h3|⟨h3,_⟩
   ·have:=hmax i oi (hb i h3) hoi hdi;omega
   ·exact(h3 t hdi).1 hm
  ·subst g;exact absurd hj hn
  ·rcases B.apart g ho hoj with h3|⟨_,h3⟩
   ·exact absurd (hc.bit hj h3) hn
   ·exact absurd hm (h3 t hd)
 ·rw[hv]
  refine(B.tm_range (oJ _) (by omega) λi oi _ h2 hoi hdi=>?_).symm
  rcases B.apart h2 hoi ho with h3|⟨h3,_⟩
  ·exact hno i oi (hb i h3) hoi hdi
  ·exact(h3 t hdi).1 hm
theorem Base.tm_add {S:Nat->Prop}{tm:Tm}(hc:Closed ops.toList S) (ht:zQN ops st S tm) {k:Nat}{o:Oper}(hn:¬S k) (ho:ops[k]? = some o)
  {v:V}(hv:(st (k+1)).tm=xo (st k).tm o.dst v) (hd:∀t,o.dst=some t->t<(st 0).n):zQN ops st (Add S k) (xo tm o.dst v):=by
 intro t;by_cases hdt:o.dst=some t
 ·have htop:t<Tb.top:=oI (hd t hdt) B.k0.tm.cap
  refine .inl ⟨k,o,.inr rfl,ho,hdt,λj' o' hj' ho' hd'=>?_,?_⟩
  ·rcases hj' with hj'|rfl
   ·rcases Nat.lt_or_ge k j' with g|g
    ·rcases B.apart g ho ho' with h3|⟨h3,_⟩
     ·exact absurd (hc.bit hj' h3) hn
     ·exact absurd hd' (h3 t hdt).2
    ·exact g
   ·exact oP _
  ·rw[hv,hdt]
   simp only[xo];rw[xu _ _ _ _ htop,xu _ _ _ _ htop,if_pos rfl,if_pos rfl]
 ·have hg:zi (xo tm o.dst v) t=zi tm t:=by
   cases hd':o.dst with
   | none=>rfl
   | some d =>
    simp only[xo];rw[xu _ _ _ _ (oI (hd d hd') B.k0.tm.cap),if_neg (λe=>hdt (by rw[hd',e]))]
  rw[hg];rcases ht t with⟨j,oj,hj,hoj,hd,hmax,hv⟩|⟨hno,hv⟩
  ·refine .inl ⟨j,oj,.inl hj,hoj,hd,λj' o' hj' ho' hd'=>?_,hv⟩
   rcases hj' with hj'|rfl
   ·exact hmax j' o' hj' ho' hd'
   ·rw[ho]at ho';cases ho';exact absurd hd' hdt
  ·refine .inr ⟨λj' o' hj' ho' hd'=>?_,hv⟩
   rcases hj' with hj'|rfl
   ·exact hno j' o' hj' ho' hd'
   ·rw[ho]at ho';cases ho';exact absurd hd' hdt
theorem Inv.combine {S : Nat -> Prop}{J : Nat}{tm : Tm}{ρ : Env}{a : Act}{w : World}(I : Inv ops m st ρ0 D0 w0 S J tm ρ a w) {k : Nat}{o : Oper}(hk : k < m) (hn : ¬S k) (ho : ops[k]? = some o)
    (he : ∀e ∈ o.after, jA e = true -> S e.on) {J' : Nat}(hJ' : J' = max J (k + 1)) {g g1 : H}{D' : Nat -> Prop}{ρ' : Env}{w' : World}{v : V}
    (hD' : ∀id, D' id -> DS D0 st S id) (_ : ∀id, D0 id -> D' id) (mv : Mv ρ D' g w ρ' g1 w') (hr' : HR ρ' (Dx D' g g1) g1 w') (hv : v.In (Dx D' g g1)) (hlt : ∀id, D' id -> id < g.nx)
    (ha : ∀id, Dx D' g g1 id -> (st J').heap.get id = g1.get id)
    (hb : ∀id, DS D0 st S id -> ¬D' id -> g1.nx <= id /\ (st J').heap.get id = (st J).heap.get id)
    (hc : ∀id, DS D0 st (Add S k) id ↔ DS D0 st S id \/ (g.nx <= id /\ id < g1.nx))
    (he' : ∀id, D' id -> (st J).heap.get id = g.get id)
    (hf : (∀id, DS D0 st S id -> D' id) \/ ∀id o', g.nx <= id -> id < g1.nx -> g1.get id = some o' -> w.heap.size <= ρ'.blk id)
    (htm : (st (k + 1)).tm = xo (st k).tm o.dst v) (hdst : ∀t, o.dst = some t -> t < (st 0).n)
    (hnst : ∀i, J <= i -> i < k -> ZS (st i) (st (i + 1))) :
    Inv ops m st ρ0 D0 w0 (Add S k) J' (xo tm o.dst v) (Env.mix g1.nx ρ' ρ) (a.put o.dst (v.conc ρ')) w' := by
  have hJm : J' <= m := by have := I.le;omega
  have hmix1 : ∀id, id < g1.nx -> (Env.mix g1.nx ρ' ρ).blk id = ρ'.blk id := λid h => by simp only[Env.mix, if_pos h]
  have hmix2 : ∀id, g1.nx <= id -> (Env.mix g1.nx ρ' ρ).blk id = ρ.blk id := λid h => by simp only[Env.mix];rw[if_neg (by omega)]
  have ag1 : Agree (Dx D' g g1) ρ' (Env.mix g1.nx ρ' ρ) := λid hd => by
    have := hr'.lt id hd;simp only[Env.mix, if_pos this];exact⟨trivial, trivial, trivial⟩
  have ag2 : Agree (DS D0 st S) ρ (Env.mix g1.nx ρ' ρ) := λid hd => by
    by_cases hd' : D' id
    · have h1 := ag1 id (.inl hd')
      have h2 := mv.agree id hd';exact⟨h1.1.trans h2.1, h1.2.1.trans h2.2.1, h1.2.2.trans h2.2.2⟩
    · have h1 := (hb id hd hd').1
      simp only[Env.mix];rw[if_neg (by omega), if_neg (by omega), if_neg (by omega)];exact⟨rfl, rfl, rfl⟩
  have sub2 : ∀id, DS D0 st S id -> DS D0 st (Add S k) id := λid h => (hc id).2 (.inl h)
  have sub1 : ∀id, Dx D' g g1 id -> DS D0 st (Add S k) id := λid h => h.elim (λh => sub2 id (hD' id h)) λh => (hc id).2 (.inr h)
  have hDlt : ∀id, DS D0 st (Add S k) id -> id < (st J').heap.nx := by
    rintro id (h|⟨j, hj, h1, h2⟩)
    · exact oI (B.k0.hr.lt id h) (B.next_mono (oJ _) hJm)
    · have hjJ : j + 1 <= J' := by
        rcases hj with hj|rfl
        · have := I.lt j hj;omega
        · omega
      exact oI h2 (B.next_mono hjJ hJm)
  have out : ∀id o', DS D0 st S id -> ¬D' id -> (st J').heap.get id = some o' -> (st J).heap.get id = some o' /\ g1.nx <= id /\ ρ.blk id < w.heap.size /\ w'.heap[ρ.blk id]? = w.heap[ρ.blk id]? := by
    intro id o' h1 h2 h3;obtain⟨h4, h5⟩ := hb id h1 h2;rw[h5]at h3;have h6 := I.hr.lt_size h1 h3;refine⟨h3, h4, h6, mv.frame _ h6 λj oj hj hgj hwj e => ?_⟩
    have hj2 := hD' j hj;have := I.hr.inj j id oj o' hj2 h1 (by rw[he' j hj];exact hgj) h3 hwj e;subst this;exact h2 hj
  refine
    { lt := λj hj => ?_, le := hJm, closed := ?_, nst := λi hi hq => ?_, tmv := B.tm_add I.closed I.tmv hn ho htm hdst, tmR := ?_, dfr := ?_, hr := ?_
      size := oQ I.size mv.size, os := mv.os.trans I.os, tape := mv.tape.trans I.tape, output := mv.output.trans I.output, agree := λid hd => ?_, img := ?_, frame := ?_ }
  · rcases hj with hj|rfl
    · have := I.lt j hj;omega
    · omega
  · intro j oj hj hoj e hm hke
    rcases hj with hj|rfl
    · exact .inl (I.closed j oj hj hoj e hm hke)
    · have : oj = o := by
        have h1 : ops[j]? = some oj := by simpa using hoj
        rw[ho]at h1;cases h1;rfl
      subst this;exact .inl (he e hm hke)
  · constructor
    · rintro(hj|rfl)
      · have := I.lt i hj;omega
      · omega
    · intro hiJ
      rcases Nat.lt_or_ge i J with g'|g'
      · exact .inl ((I.nst i hi hq).2 g')
      · rcases Nat.lt_or_ge i k with g2|g2
        · exact absurd (hnst i g' g2) hq
        · exact .inr (by omega)
  · have h1 : TmR (Env.mix g1.nx ρ' ρ) (DS D0 st (Add S k)) (st 0).n tm a.tmps := I.tmR.agree sub2 ag2
    have hvc : v.conc ρ' = v.conc (Env.mix g1.nx ρ' ρ) := (V.conc_agree ag1 v hv).symm;rw[hvc];cases hd : o.dst with
    | none => exact h1
    | some t => exact h1.put (hdst t hd) (V.In_mono sub1 v hv)
  · have : (a.put o.dst (v.conc ρ')).defers = a.defers := by cases o.dst<;>rfl
    rw[this, I.dfr];exact(YG (λid hd => ag2 id (.inl hd)) B.k0.dfrIn).symm
  · refine⟨B.cap hJm, hDlt, λid o' hd hg => ?_, λi j oi oj hi hj hgi hgj hwi hij => ?_⟩
    · by_cases hx : Dx D' g g1 id
      · rw[ha id hx]at hg
        rw[(ag1 id hx).1];exact(hr'.rel id o' hx hg).agree hx sub1 ag1
      · have hS : DS D0 st S id := ((hc id).1 hd).elim (λh => h) λh => absurd (.inr h) hx
        obtain⟨h3, h4, _, h6⟩ := out id o' hS (λh => hx (.inl h)) hg
        rw[(ag2 id hS).1, h6];exact(I.hr.rel id o' hS h3).agree hS sub2 ag2
    · by_cases hxi : Dx D' g g1 i
      · rw[(ag1 i hxi).1]at hij
        by_cases hxj : Dx D' g g1 j
        · rw[(ag1 j hxj).1]at hij
          exact hr'.inj i j oi oj hxi hxj (by rw[<-ha i hxi];exact hgi) (by rw[<-ha j hxj];exact hgj) hwi hij
        · exfalso
          have hSj : DS D0 st S j := ((hc j).1 hj).elim (λh => h) λh => absurd (.inr h) hxj
          obtain⟨h3, h4, h5, _⟩ := out j oj hSj (λh => hxj (.inl h)) hgj
          rw[(ag2 j hSj).1]at hij;rcases hxi with hxi|hxi
          · rw[(mv.agree i hxi).1]at hij
            have hgi' : g1.get i = some oi := by rw[<-ha i (.inl hxi)];exact hgi
            obtain⟨o2, h7, h8⟩ := mv.old i oi (hlt i hxi) hgi';have := I.hr.inj i j o2 oj (hD' i hxi) hSj (by rw[he' i hxi];exact h7) h3 (by rw[<-h8];exact hwi) hij;subst this;exact hxj (.inl hxi)
          · rcases hf with hf|hf
            · exact hxj (.inl (hf j hSj))
            · have := hf i oi hxi.1 hxi.2 (by rw[<-ha i (.inr hxi)];exact hgi)
              omega
      · have hSi : DS D0 st S i := ((hc i).1 hi).elim (λh => h) λh => absurd (.inr h) hxi
        obtain⟨h3, h4, h5, _⟩ := out i oi hSi (λh => hxi (.inl h)) hgi
        rw[(ag2 i hSi).1]at hij;by_cases hxj : Dx D' g g1 j
        · exfalso
          rw[(ag1 j hxj).1]at hij;rcases hxj with hxj|hxj
          · rw[(mv.agree j hxj).1]at hij
            have hgj' : g1.get j = some oj := by rw[<-ha j (.inl hxj)];exact hgj
            obtain⟨o2, h7, h8⟩ := mv.old j oj (hlt j hxj) hgj';have := I.hr.inj i j oi o2 hSi (hD' j hxj) h3 (by rw[he' j hxj];exact h7) hwi hij;subst this;exact hxi (.inl hxj)
          · rcases hf with hf|hf
            · exact hxi (.inl (hf i hSi))
            · have := hf j oj hxj.1 hxj.2 (by rw[<-ha j (.inr hxj)];exact hgj)
              omega
        · have hSj : DS D0 st S j := ((hc j).1 hj).elim (λh => h) λh => absurd (.inr h) hxj
          obtain⟨h3', _⟩ := out j oj hSj (λh => hxj (.inl h)) hgj
          rw[(ag2 j hSj).1]at hij;exact I.hr.inj i j oi oj hSi hSj h3 h3' hwi hij
  · have h1 := I.agree id hd
    have h2 := ag2 id (.inl hd);exact⟨h2.1.trans h1.1, h2.2.1.trans h1.2.1, h2.2.2.trans h1.2.2⟩
  · intro id o' hd h0 hg
    have hJJ : J <= J' := by omega
    have dead : ∀j, D0 j -> (st J).heap.get j = none -> (st J').heap.get j = none := λj hj hn => by
      cases hg' : (st J').heap.get j with
      | none => rfl
      | some q =>
        obtain⟨q2, h7, _⟩ := B.old_range hJJ hJm (I.hr.lt j (.inl hj)) hg';rw[hn]at h7;cases h7
    rcases(hc id).1 hd with hS|hfr
    · rw[(ag2 id hS).1]
      have hold : ∃o2, (st J).heap.get id = some o2 := by
        by_cases hd' : D' id
        · rw[ha id (.inl hd')]at hg
          obtain⟨o2, h7, _⟩ := mv.old id o' (hlt id hd') hg;exact⟨o2, by rw[he' id hd'];exact h7⟩
        · exact⟨o', (out id o' hS hd' hg).1⟩
      obtain⟨o2, h7⟩ := hold;exact(I.img id o2 hS h0 h7).imp (λh => h) λ⟨j, o, d1, d2, d3, d4, d5⟩ => ⟨j, o, d1, d2, d3, d4, dead j d1 d5⟩
    · rw[hmix1 id hfr.2]
      rcases(mv.img id o' hfr.1 hfr.2 (by rw[<-ha id (.inr hfr)];exact hg)).2 with h1|⟨j, oj, d1, d2, d3, d4, d5⟩
      · exact .inl (oQ I.size h1)
      · have hgJ : (st J).heap.get j = some oj := by rw[he' j d1];exact d2
        have hjn : (st J').heap.get j = none := by rw[ha j (.inl d1)];exact d5
        have hS := hD' j d1;have hcase : D0 j \/ (st 0).heap.nx <= j := by
          rcases hS with h|⟨i, hi, h1, _⟩
          · exact .inl h
          · have h2 := I.lt i hi
            have h3 := I.le;exact .inr (oQ (B.next_mono (oJ _) (by omega)) h1)
        rcases hcase with hcase|hcase
        · obtain⟨o2, h7, h8⟩ := B.old_range (oJ _) I.le (B.k0.hr.lt j hcase) hgJ
          exact .inr ⟨j, o2, hcase, h7, by rw[<-h8];exact d3, by rw[<-d4];exact(I.agree j hcase).1.symm, hjn⟩
        · rcases I.img j oj hS hcase hgJ with h1|⟨j0, o0, e1, e2, e3, e4, e5⟩
          · exact .inl (by rw[<-d4];exact h1)
          · exact .inr ⟨j0, o0, e1, e2, e3, e4.trans d4, dead j0 e1 e5⟩
  · intro r hrl hr0
    rw[mv.frame r (oI hrl I.size) λj oj hj hgj hwj e => ?_]
    · exact I.frame r hrl hr0
    · have hgJ : (st J).heap.get j = some oj := by rw[he' j hj];exact hgj
      have hS := hD' j hj;have hcase : D0 j \/ (st 0).heap.nx <= j := by
        rcases hS with h|⟨i, hi, h1, _⟩
        · exact .inl h
        · have h2 := I.lt i hi
          have h3 := I.le;exact .inr (oQ (B.next_mono (oJ _) (by omega)) h1)
      rcases hcase with hcase|hcase
      · obtain⟨o2, h7, h8⟩ := B.old_range (oJ _) I.le (B.k0.hr.lt j hcase) hgJ
        exact hr0 j o2 hcase h7 (by rw[<-h8];exact hwj) (by rw[<-(I.agree j hcase).1];exact e)
      · rcases I.img j oj hS hcase hgJ with h1|⟨j0, o0, e1, e2, e3, e4, _⟩
        · omega
        · exact hr0 j0 o0 e1 e2 e3 (e4.trans e)
end
end Go.Sim
namespace Go.Sim
theorem ORel.and {ρ ρ2:Env}{D E:Nat->Prop}{id:Nat}{o:O}{x y:Option Obj}(h:ORel ρ D id o x) (h2:ORel ρ2 E id o y):ORel ρ (λi=>D i/\E i) id o x:=by
 cases o with
 | cells l esz wr op =>
  obtain⟨c,e,fz,h1,h3,h4,h5⟩:=h;obtain⟨_,_,_,_,_,h6,_⟩:=h2;exact⟨c,e,fz,h1,h3,λi v hv=>V.In_and v (h4 i v hv) (h6 i v hv),h5⟩
 | map es clock =>
  exact⟨h.1,λe he=>⟨V.In_and _ (h.2 e he).1 (h2.2 e he).1,V.In_and _ (h.2 e he).2 (h2.2 e he).2⟩⟩
 | loop s p n tm params assign body dfr =>
  obtain⟨fn,tmps,h1,h3,h4⟩:=h;obtain⟨_,_,_,h5,h6⟩:=h2;exact⟨fn,tmps,h1,⟨h3.size,h3.cap,h3.val,λt=>V.In_and _ (h3.inn t) (h5.inn t)⟩,h4,h6⟩
 | deferred b=>exact h
 | strIter l pos=>exact h
 | mapIter r since seen stepped=>exact⟨h.1,λr hr=>⟨h.2 r hr,h2.2 r hr⟩⟩
theorem zOG {d:Option Tmp}{tm:Tm}{v u:V}(hd:∀t,d=some t->t<Tb.top) (e:xo tm d v=xo tm d u) (tm2:Tm):xo tm2 d v=xo tm2 d u:=by
 cases d with
 | none=>rfl
 | some t =>
  simp only[xo]at e ⊢;have h1:=congrArg (λx:Tm=>zi x t) e;simp only[xu _ _ _ _ (hd t rfl),if_true]at h1;rw[h1]
theorem zCz {tm tm2:Tm}{b:Nat}{o:Oper}(h:∀x∈o.op.operands,zz tm x=zz tm2 x):wZ tm b o=wZ tm2 b o:=by
 unfold wZ;cases ho:o.op<;>try rfl
 case load t a =>
  rw[ho]at h;simp only[h a (by simp[Op.operands])]
 case slice t a lo hi mx =>
  rw[ho]at h;simp only[h a (by simp[Op.operands])]
 case convert s d a =>
  rw[ho]at h;simp only[h a (by simp[Op.operands])]
theorem zHQ {ops:List Oper}{o:Oper}{t:Tmp}(h:Operand.tmp t∈o.op.operands):t∈xp ops o :=
 List.mem_append_right _ (List.mem_filterMap.2 ⟨.tmp t,by simpa using h,rfl⟩)
theorem zBm {ops:List Oper}{o:Oper}{tm tm2:Tm}(h:∀t,t∈xp ops o->zi tm t=zi tm2 t):∀x∈o.op.operands,zz tm x=zz tm2 x:=by
 intro x hx;cases x with
 | tmp t=>simp only[zz,h t (zHQ hx)]
 | _=>rfl
section
variable {P:Program}{c:Ctx}{orc:Nat->List V->H->Option (V×H)}{rd:Option Nat}{ih:Bool->Code->St->Option Out}
variable {ops:Array Oper}{m:Nat}{st:Nat->St}{ρ0:Env}{D0:Nat->Prop}{a0:Act}{w0:World}
theorem zB3 {ops:List Oper}{o:Oper}{tm tm2:Tm}(h:∀t,t∈xp ops o->zi tm t=zi tm2 t):zU ops tm o=zU ops tm2 o:=by
 unfold zU;cases hg:o.guard with
 | none=>rfl
 | some g =>
  obtain⟨j,wt⟩:=g;simp only;cases hj:ops[j]? with
  | none=>rfl
  | some o' =>
   simp only;cases hd:o'.dst with
   | none=>rfl
   | some d =>
    simp only;rw[h d (List.mem_append_left _ (by simp only[hg,hj,hd];exact List.mem_singleton.2 rfl))]
theorem Inv.step (B:Base P c orc rd ih ops m st ρ0 D0 a0 w0) {S:Nat->Prop}{J:Nat}{tm:Tm}{ρ:Env}{a:Act}{w:World}(I:Inv ops m st ρ0 D0 w0 S J tm ρ a w) {k:Nat}{o:Oper}(hk:k<m) (hn:¬S k) (ho:ops[k]? = some o)
  (he:∀e∈o.after,jA e=true->S e.on) {K:Act->World->Prop}{Q:Exit->Act->World->Prop}
  (hK:∀J' tm' ρ' a' w',Inv ops m st ρ0 D0 w0 (Add S k) J' tm' ρ' a' w'->K a' w'):wpOpIn (Fx (rd.map ρ0.blk)) 0 P ops Q k K a w:=by
 unfold wpOpIn;simp only[ho];have hlook:=B.looks I.closed (λj hj=>oI (I.lt j hj) I.le) I.tmv hk hn ho he
 have hbe:=qG I.closed k o (by simpa using ho) he;have kS:StR ρ (DS D0 st S) { n:=(st 0).n,tm:=tm,dfr:=(st 0).dfr,heap:=(st J).heap } a w:=⟨I.tmR,I.dfr,λd hd=>AD.In_mono (λ_ h=>.inl h) (B.k0.dfrIn d hd),I.hr⟩
 have hwant:Region.wanted o (yielded ops a.tmps)=zU ops.toList (st k).tm o:=by
  rw[wJ kS];exact zB3 hlook
 rw[hwant];obtain⟨o',ho',hstep,af⟩:=B.hs k hk;rw[ho]at ho';cases ho';have hops:∀x∈o.op.operands,zz tm x=zz (st k).tm x:=zBm hlook;have hJm:=I.le;have hnst:∀i,J<=i->i<k->ZS (st i) (st (i+1)):=by
  intro i h1 h2;refine Classical.byContradiction λhq=>?_
  obtain⟨oi,hoi,_,afi⟩:=B.hs i (by omega);rcases afi.eff with h|⟨_,b,_,_,h3⟩|⟨_,h3⟩
  ·exact hq h
  ·have:=(I.nst i (by omega) hq).1 (hbe i (h3 k h2 hk))
   omega
  ·have:=(I.nst i (by omega) hq).1 (hbe i (h3 k h2 hk))
   omega
 have hkq:k<J->ZS (st k) (st (k+1)):=λh=>Classical.byContradiction λhq=>hn ((I.nst k hk hq).2 h)
 have hDlt:∀id,DS D0 st S id->id<(st J).heap.nx:=I.hr.lt;have hadd:∀id,DS D0 st (Add S k) id↔DS D0 st S id\/((st k).heap.nx<=id/\id<(st (k+1)).heap.nx):=by
  intro id;constructor
  ·rintro(h|⟨j,hj|rfl,h⟩)
   ·exact .inl (.inl h)
   ·exact .inl (.inr ⟨j,hj,h⟩)
   ·exact .inr h
  ·rintro((h|⟨j,hj,h⟩)|h)
   ·exact .inl h
   ·exact .inr ⟨j,.inl hj,h⟩
   ·exact .inr ⟨k,.inr rfl,h⟩
 have hgo:J<=k->(∀id,DS D0 st S id->(st k).heap.get id=(st J).heap.get id)/\HR ρ (DS D0 st S) (st k).heap w:=by
  intro hJk;have h1:∀id,DS D0 st S id->(st k).heap.get id=(st J).heap.get id:=λid hd=>B.quiet_range hJk (by omega) hnst (hDlt id hd)
  refine⟨h1,B.cap (by omega),λid hd=>oI (hDlt id hd) (B.next_mono hJk (by omega)),λid o' hd hg=>I.hr.rel id o' hd (by rw[<-h1 id hd];exact hg),λi j oi oj hi hj hgi hgj=>?_⟩
  exact I.hr.inj i j oi oj hi hj (by rw[<-h1 i hi];exact hgi) (by rw[<-h1 j hj];exact hgj)
 have hmax1:k<J->max J (k+1)=J:=λh=>by omega
 have hmax2:J<=k->max J (k+1)=k+1:=λh=>by omega
 rcases hstep with⟨hw,hp⟩|⟨hw,s',hst,hlow,hd,hs1⟩
 ·rw[hw,if_neg (by simp)]
  refine⟨λ_ _=>trivial,?_⟩
  obtain⟨g1,hs1⟩:=xP hp;have hheap:(st (k+1)).heap=(st k).heap:=by rw[hs1]
  have htm:(st (k+1)).tm=xo (st k).tm o.dst zB:=by rw[hs1]
  have hdst:∀t,o.dst=some t->t<(st 0).n:=λt ht=>by rw[<-B.n_eq (q:=k) (by omega)];exact g1 t ht
  have hc:∀g:H,∀id,DS D0 st (Add S k) id↔DS D0 st S id\/(g.nx<=id/\id<g.nx):=λg id=>by
   rw[hadd id,hheap];constructor
   ·rintro(h|h)
    ·exact .inl h
    ·omega
   ·rintro(h|h)
    ·exact .inl h
    ·omega
  rw[<-wC ρ];rcases Nat.lt_or_ge k J with hkJ|hJk
  ·exact hK _ _ _ _ _ (I.combine B hk hn ho he rfl (g:=(st J).heap) (g1:=(st J).heap) (D':=DS D0 st S) (λ_ h=>h) (λ_ h=>.inl h) (Mv.refl _ _ _ _) (by rw[ze];exact I.hr) (wI _) hDlt
    (λid _=>by rw[hmax1 hkJ]) (λid h1 h2=>absurd h1 h2) (hc _) (λ_ _=>rfl) (.inr λid o' h1 h2 _=>by omega) htm hdst hnst)
  ·obtain⟨h1,h2⟩:=hgo hJk
   exact hK _ _ _ _ _ (I.combine B hk hn ho he rfl (g:=(st k).heap) (g1:=(st k).heap) (D':=DS D0 st S) (λ_ h=>h) (λ_ h=>.inl h) (Mv.refl _ _ _ _) (by rw[ze];exact h2) (wI _) h2.lt
    (λid _=>by rw[hmax2 hJk,hheap]) (λid h1 h2=>absurd h1 h2) (hc _) (λid hd=>(h1 id hd).symm) (.inr λid o' h1 h2 _=>by omega) htm hdst hnst)
 ·rw[hw,if_pos rfl]
  obtain⟨v0,hd0,hs',htr⟩:=zCJ hst;have e3:=htr tm hops;have hdst:∀t,o.dst=some t->t<(st 0).n:=λt ht=>by rw[<-B.n_eq (q:=k) (by omega)];exact hd0 t ht
  have hdtop:∀t,o.dst=some t->t<Tb.top:=λt ht=>oI (hdst t ht) B.k0.tm.cap
  have htm0:(st (k+1)).tm=xo (st k).tm o.dst v0:=by rw[hs1,hs'];rfl
  have hnx:(st (k+1)).heap.nx=s'.heap.nx:=by rw[hs1];rfl
  have hgt:∀id,(st (k+1)).heap.get id=s'.heap.get id:=λid=>by rw[hs1];rfl
  rw[<-kT I.agree B.hl];obtain⟨ρt,at',wt,kt⟩:=B.kt k hk;have hopS:∀x∈o.op.operands,∀v,zz tm x=some v->a.eval x=v.conc ρ/\v.In (DS D0 st S):=λx _ v hv=>wk kS x v hv
  have hfr:ZS (st k) (st (k+1))->∀{D':Nat->Prop}{ρ':Env}{w':World},(∀id,D' id->id<(st k).heap.nx)->Mv ρ D' (low0 (st k).heap) w ρ' s'.heap w' ->
    ∀id o',(low0 (st k).heap).nx<=id->id<s'.heap.nx->s'.heap.get id=some o'->w.heap.size<=ρ'.blk id:=by
   intro hq D' ρ' w' hlt mv id o' h1 h2 h3;rcases(mv.img id o' h1 h2 h3).2 with h4|⟨j,oj,hj,hgj,_,_,hnone⟩
   ·exact h4
   ·have h5:=hq j (hlt j hj)
    rw[hgt,hnone]at h5;have hgj:(st k).heap.get j=some oj:=hgj;rw[hgj]at h5;cases h5
  have hcs:∀id,DS D0 st (Add S k) id↔DS D0 st S id\/((low0 (st k).heap).nx<=id/\id<s'.heap.nx):=λid=>by rw[hadd id,hnx];exact Iff.rfl
  have hputv:∀v,xo tm o.dst v0=xo tm o.dst v->(st (k+1)).tm=xo (st k).tm o.dst v:=λv hv=>by rw[htm0];exact zOG hdtop hv _
  rcases Nat.lt_or_ge k J with hkJ|hJk
  ·by_cases hex:∃i,k<i/\i<J/\¬ZS (st i) (st (i+1))
   · -- a store went ahead: the operation does not look at its block
    have hsee:∀i,k<i->i<J->¬ZS (st i) (st (i+1))->X9 o=true\/∃b,wZ tm b o=true/\∀id,id≠b->(st (i+1)).heap.get id=(st i).heap.get id:=by
     intro i h1 h2 hq;have hSi:=(I.nst i (by omega) hq).2 h2;obtain⟨oi,hoi,_,afi⟩:=B.hs i (by omega);rcases afi.eff with h|⟨_,b,h3,h4,_⟩|⟨h4,_⟩
     ·exact absurd h hq
     case inr.inr =>
      rcases h4 k o h1 (by simpa using ho)with h5|⟨h5,_⟩
      ·exact absurd (I.closed.bit hSi h5) hn
      ·exact .inl h5
     ·rcases h4 k o h1 (by simpa using ho)with h5|⟨h5,h6⟩
      ·exact absurd (I.closed.bit hSi h5) hn
      ·refine .inr ⟨b,?_,h3⟩
       rw[<-h5];refine zCz (zBm (ops:=ops.toList) λt ht=>?_)
       rw[hlook t ht];exact(B.tm_range (Nat.le_of_lt h1) (by omega) λj oj h7 h8 h9 h10=>h6 j oj t h7 h8 (by simpa using h9) h10 ht).symm
    obtain⟨i0,h1,h2,h3⟩:=hex;obtain⟨b0,hb0⟩:∃b0,wZ tm b0 o=true:=by
     rcases hsee i0 h1 h2 h3 with h|⟨b0,hb0,_⟩
     ·exact⟨0,zMc h tm 0⟩
     ·exact⟨b0,hb0⟩
    have e4:=e3;unfold zV at e4;cases hop:zh c o (zz tm) (low0 (st k).heap)with
    | none=>simp only[hop]at e4;cases e4
    | some an =>
     obtain⟨v,rfl,hall⟩:=zLx hb0 hop;simp only[hop]at e4;rw[qx (s:={ st k with heap:=low0 (st k).heap,tm:=tm }) hd0]at e4;simp only[oA,oB,true_and]at e4;have hheap:s'.heap=low0 (st k).heap:=(congrArg St.heap e4).symm;have hputs:xo tm o.dst v=xo tm o.dst v0:=congrArg St.tm e4;have hload:∀t x b' o',o.op = .load t x->zz tm x=some (.ptr b' o')->(st J).heap.get b'=(low0 (st k).heap).get b':=by
      intro t x b' o' hl hx;have hx':zz (st k).tm x=some (.ptr b' o'):=by rw[<-hops x (by rw[hl];simp[Op.operands])];exact hx
      have hin:=(wk kt x _ hx').2;simp only[V.In]at hin;refine B.same_range (Nat.le_of_lt hkJ) hJm (kt.hr.lt _ hin) λi h4 h5 h6=>?_
      by_cases hq:ZS (st i) (st (i+1))
      ·exact hq b' h6
      ·have hik:k<i:=by
        rcases Nat.eq_or_lt_of_le h4 with rfl|g
        ·exact absurd (hkq hkJ) hq
        ·exact g
       rcases hsee i hik h5 hq with h7|⟨b,h7,h8⟩
       ·exfalso
        unfold X9 at h7;simp only[hl]at h7;cases h7
       refine h8 b' λe=>?_
       subst e;unfold wZ at h7;simp only[hl,hx]at h7;simp at h7
     have hJop:=hall (st J).heap hload;have e5:zV c orc rd.isSome ih o { n:=(st 0).n,tm:=tm,dfr:=(st 0).dfr,heap:=(st J).heap } = some (.normal,{ n:=(st 0).n,tm:=xo tm o.dst v,dfr:=(st 0).dfr,heap:=(st J).heap }):=by
      unfold zV;simp only[hJop];rw[qx (s:={ n:=(st 0).n,tm:=tm,dfr:=(st 0).dfr,heap:=(st J).heap }) hdst]
     refine XN B.ok B.hor B.hih e5 rfl hopS I.hr ?_;intro ρ' v' w' mv hr' hv' htm';have htm':xo tm o.dst v=xo tm o.dst v':=htm';refine hK _ _ _ _ _ (I.combine B hk hn ho he rfl (g:=(st J).heap) (g1:=(st J).heap) (D':=DS D0 st S) (λ_ h=>h) (λ_ h=>.inl h) mv hr' hv' hDlt
      (λid _=>by rw[hmax1 hkJ]) (λid h1 h2=>absurd h1 h2) (λid=>?_) (λ_ _=>rfl) (.inr λid o' h1 h2 _=>by omega) (hputv v' (by rw[<-hputs,htm'])) hdst hnst)
     rw[hcs id,hheap];constructor
     ·rintro(h|h)
      ·exact .inl h
      ·omega
     ·rintro(h|h)
      ·exact .inl h
      ·omega
   · -- only new blocks came up ahead
    have hq2:∀i,k<=i->i<J->ZS (st i) (st (i+1)):=by
     intro i h1 h2;rcases Nat.eq_or_lt_of_le h1 with rfl|g
     ·exact hkq hkJ
     ·exact Classical.byContradiction λhq=>hex ⟨i,g,h2,hq⟩
    have hback:∀id,id<(st k).heap.nx->(st J).heap.get id=(st k).heap.get id:=λid h=>B.quiet_range (Nat.le_of_lt hkJ) hJm hq2 h
    have hsub:∀id,DS D0 st S id->id<(st k).heap.nx->Dx D0 (st 0).heap (st k).heap id:=by
     rintro id (h|⟨j,hj,h1,h2⟩) h3
     ·exact .inl h
     ·have hjJ:=I.lt j hj
      exact .inr ⟨oQ (B.next_mono (oJ _) (by omega)) h1,h3⟩
    have hrk:HR ρ (λid=>DS D0 st S id/\id<(st k).heap.nx) (low0 (st k).heap) w:=by
     refine⟨B.cap (by omega),λid h=>h.2,λid o' h hg=>?_,λi j oi oj hi hj hgi hgj=>?_⟩
     ·have hg:(st k).heap.get id=some o':=hg
      have h1:=I.hr.rel id o' h.1 (by rw[hback id h.2];exact hg);have h2:=kt.hr.rel id o' (hsub id h.1 h.2) hg;have h3:=h1.and h2;refine h3.agree (D:=λi=>DS D0 st S i/\Dx D0 (st 0).heap (st k).heap i) ⟨h.1,hsub id h.1 h.2⟩ (λi hi=>⟨hi.1,kt.hr.lt i hi.2⟩) (Agree.refl _ _)
     ·exact I.hr.inj i j oi oj hi.1 hj.1 (by rw[hback i hi.2];exact hgi) (by rw[hback j hj.2];exact hgj)
    refine XN B.ok B.hor B.hih e3 hd (λx hx v hv=>?_) hrk ?_
    ·obtain⟨h1,h2⟩:=hopS x hx v hv
     have h3:=(wk kt x v (by rw[<-hops x hx];exact hv)).2;exact⟨h1,V.In_and v h2 (V.In_mono kt.hr.lt v h3)⟩
    ·intro ρ' v w' mv hr' hv htm'
     have htm':xo tm o.dst v0=xo tm o.dst v:=htm';refine hK _ _ _ _ _ (I.combine B hk hn ho he rfl (g:=low0 (st k).heap) (g1:=s'.heap) (D':=λid=>DS D0 st S id/\id<(st k).heap.nx) (λ_ h=>h.1)
      (λid h=>⟨.inl h,oI (B.k0.hr.lt id h) (B.next_mono (oJ _) (by omega))⟩) mv hr' hv (λ_ h=>h.2) (λid hd=>?_) (λid h1 h2=>?_) hcs (λid h=>hback id h.2) (.inr (hfr (hkq hkJ) (λ_ h=>h.2) mv)) (hputv v htm') hdst hnst)
     ·rw[hmax1 hkJ,<-hgt id]
      refine B.quiet_range (by omega) hJm (λi h1 h2=>hq2 i (by omega) h2) ?_
      rw[hnx];exact hr'.lt id hd
     ·rw[hmax1 hkJ]
      refine⟨?_,rfl⟩;have h3:(st k).heap.nx<=id:=Nat.le_of_not_lt λh=>h2 ⟨h1,h⟩
      rcases h1 with h|⟨j,hj,h4,h5⟩
      ·have:=oI (B.k0.hr.lt id h) (B.next_mono (q:=k) (oJ _) (by omega));omega
      ·have hjJ:=I.lt j hj
       rcases Nat.lt_trichotomy j k with g|g|g
       ·have:=B.next_mono (p:=j+1) (q:=k) g (by omega);omega
       ·subst g;exact absurd hj hn
       ·have:=B.next_mono (p:=k+1) (q:=j) g (by omega)
        rw[hnx]at this;omega
  ·obtain⟨h1,h2⟩:=hgo hJk
   refine XN B.ok B.hor B.hih e3 hd hopS h2.low0 ?_;intro ρ' v w' mv hr' hv htm';have htm':xo tm o.dst v0=xo tm o.dst v:=htm';exact hK _ _ _ _ _ (I.combine B hk hn ho he rfl (g:=low0 (st k).heap) (g1:=s'.heap) (D':=DS D0 st S) (λ_ h=>h) (λ_ h=>.inl h) mv hr' hv h2.lt
    (λid _=>by rw[hmax2 hJk,hgt]) (λid h1 h2=>absurd h1 h2) hcs (λid hd=>(h1 id hd).symm) (.inl λ_ h=>h) (hputv v htm') hdst hnst)
end
end Go.Sim
namespace Go.Sim
section
variable {P:Program}{c:Ctx}{orc:Nat->List V->H->Option (V×H)}{rd:Option Nat}{ih:Bool->Code->St->Option Out}
variable {ops:Array Oper}{m:Nat}{st:Nat->St}{ρ0:Env}{D0:Nat->Prop}{a0:Act}{w0:World}
theorem Inv.finish (B:Base P c orc rd ih ops m st ρ0 D0 a0 w0) {S:Nat->Prop}{J:Nat}{tm:Tm}{ρ:Env}{a:Act}{w:World}(I:Inv ops m st ρ0 D0 w0 S J tm ρ a w) (hall:∀i,i<m->S i) :
  Mv ρ0 D0 (st 0).heap w0 ρ (st m).heap w/\StR ρ (Dx D0 (st 0).heap (st m).heap) (st m) a w:=by
 have hJ:J=m:=by
  have h1:=I.le;rcases Nat.eq_or_lt_of_le h1 with h|h
  ·exact h
  ·have:=I.lt J (hall J h);omega
 subst hJ;have hDS:DS D0 st S=Dx D0 (st 0).heap (st J).heap:=by
  funext id
  simp only[eq_iff_iff];constructor
  ·rintro(h|⟨j,hj,h1,h2⟩)
   ·exact .inl h
   ·have:=I.lt j hj
    exact .inr ⟨oQ (B.next_mono (oJ _) (by omega)) h1,oI h2 (B.next_mono (p:=j+1) this (oP _))⟩
  ·rintro(h|⟨h1,h2⟩)
   ·exact .inl h
   ·obtain⟨j,h3,h4⟩:=Base.born h1 h2
    exact .inr ⟨j,hall j h3,h4⟩
 have htm:∀t,zi tm t=zi (st J).tm t:=by
  intro t;rcases I.tmv t with⟨j,oj,hj,hoj,hd,hmax,hv⟩|⟨hno,hv⟩
  ·rw[hv]
   have:=I.lt j hj;exact(B.tm_range (p:=j+1) this (oP _) λi oi h1 h2 hoi hdi=>by have:=hmax i oi (hall i h2) hoi hdi;omega).symm
  ·rw[hv]
   exact(B.tm_range (oJ _) (oP _) λi oi _ h2 hoi hdi=>hno i oi (hall i h2) hoi hdi).symm
 have hr:=I.hr;have htr:=I.tmR;rw[hDS]at hr htr;refine⟨⟨B.next_mono (oJ _) (oP _),I.size,I.os,I.tape,I.output,I.agree,λid o' h hg=>B.old_range (oJ _) (oP _) h hg,λid o' h1 h2 h3=>?_,I.frame,B.low_mono (oP _),λid h1 h2=>B.kept_range (oP _) h1 h2⟩,?_⟩
 ·refine⟨?_,I.img id o' (by rw[hDS];exact .inr ⟨h1,h2⟩) h1 h3⟩
  obtain⟨j,h4,h5,h6⟩:=Base.born h1 h2;obtain⟨o2,h7,h8⟩:=B.old_range (p:=j+1) h4 (oP _) h6 h3;obtain⟨o,_,_,af⟩:=B.hs j h4;rw[h8];exact af.wr id o2 h5 h6 h7
 ·refine⟨⟨?_,?_,λt=>?_,λt=>?_⟩,?_,?_,hr⟩
  ·rw[B.n_eq (oP _)];exact htr.size
  ·rw[B.n_eq (oP _)];exact htr.cap
  ·rw[<-htm t];exact htr.val t
  ·rw[<-htm t];exact htr.inn t
  ·rw[B.dfr_eq (oP _)];exact I.dfr
  ·rw[B.dfr_eq (oP _)];exact λd hd=>AD.In_mono wN (B.k0.dfrIn d hd)
theorem Inv.start (B : Base P c orc rd ih ops m st ρ0 D0 a0 w0) {S : Nat -> Prop}(hS : ∀j, ¬S j) : Inv ops m st ρ0 D0 w0 S 0 (st 0).tm ρ0 a0 w0 := by
  have hDS : DS D0 st S = D0 := by
    funext id
    simp only[eq_iff_iff];constructor
    · rintro(h|⟨j, hj, _⟩)
      · exact h
      · exact absurd hj (hS j)
    · exact .inl
  refine { lt := λj hj => absurd hj (hS j), le := oJ _, closed := λj o hj => absurd hj (hS j), nst := λi _ _ => ⟨λh => absurd h (hS i), λh => by omega⟩
           tmv := λt => .inr ⟨λj o hj => absurd hj (hS j), rfl⟩, tmR := by rw[hDS];exact B.k0.tm, dfr := B.k0.dfr, hr := by rw[hDS];exact B.k0.hr
           size := oP _, os := rfl, tape := rfl, output := rfl, agree := Agree.refl _ _, img := λid o' hd h0 _ => ?_, frame := λ_ _ _ => rfl }
  rw[hDS]at hd;have := B.k0.hr.lt id hd
  exfalso;omega
theorem zKu (ok:CtxOK P c) (hor:xb P c orc) (hih:j6 P ih) {i:Nat}{o:Oper}(ho:ops[i]? = some o) {l:List Oper}{s sf s0:St}{x:AX}(e:wV c orc rd.isSome ih ops.toList (o::l) s=some (.done x sf))
  {ρ:Env}{w:World}{a:Act}(hlt:∀id,D0 id->id<s0.heap.nx) (hl:∀l,rd=some l->D0 l) (m:Mv ρ0 D0 s0.heap w0 ρ s.heap w) (k:StR ρ (Dx D0 s0.heap s.heap) s a w) {K:Act->World->Prop}
  (hK:∀s1 ρ1 a1 w1,wV c orc rd.isSome ih ops.toList l s1=some (.done x sf)->Mv ρ0 D0 s0.heap w0 ρ1 s1.heap w1->StR ρ1 (Dx D0 s0.heap s1.heap) s1 a1 w1->K a1 w1) :
  wpOpIn (Fx (rd.map ρ0.blk)) 0 P ops (Ends ρ0 D0 s0 w0 x sf) i K a w:=by
 unfold wpOpIn;simp only[ho];rw[wJ k];simp only[wV]at e;cases hw:zU ops.toList s.tm o with
 | true =>
  simp only[hw,oK]at e;rw[if_pos rfl];rw[<-kT m.agree hl];split at e
  ·rename_i s1 hs1
   refine kA ok hor hih hs1 k ?_ (λv hv=>by cases hv);intro _ ρ' a' w' m' _ k';rw[wP (D:=D0) m.nx m'.nx]at k';exact hK s1 ρ' a' w' e (Mv.trans hlt m m') k'
  ·rename_i y s1 hy hs1
   simp only[oA,Out.done.injEq]at e;obtain⟨rfl,rfl⟩:=e;refine kA ok hor hih hs1 k (λhn=>absurd hn hy) ?_;intro v hv ρ' w' m' k' hvi;subst hv;have hDx:=wP (D:=D0) m.nx m'.nx;exact⟨ρ',Mv.trans hlt m m',by rw[<-hDx];exact k',rfl,by rw[<-hDx];exact hvi⟩
  ·cases e
 | false =>
  simp only[hw,oM]at e;rw[if_neg (by simp)];split at e
  ·rename_i s1 hs1
   obtain⟨k2,hh⟩:=StR.put k (wI _) hs1;rw[wC]at k2;exact⟨λ_ _=>trivial,hK s1 ρ _ w e (by rw[hh];exact m) (by rw[hh];exact k2)⟩
  ·cases e
theorem ku {listed:Array Bool}{i:Nat}(h:i<listed.size):(listed.setIfInBounds i true).getD i false=true:=by
 simp[h]
theorem zAm {md:Region.Mode}{i:Nat}{listed:Array Bool}(h:i∈Region.ready md ops listed):i<ops.size/\listed.getD i false=false/\i<listed.size:=by
 obtain⟨h1,o,ho,_⟩:=mem_ready.1 h;refine⟨?_,?_,?_⟩
 ·rcases Nat.lt_or_ge i ops.size with g|g
  ·exact g
  ·rw[Array.getElem?_eq_none g]at ho;cases ho
 all_goals
  rcases Nat.lt_or_ge i listed.size with g|g
  ·first|exact g|(simpa [g]using h1)
  ·simp[Array.getD_eq_getD_getElem?,Array.getElem?_eq_none g]at h1
theorem Zl {md:Region.Mode}{i:Nat}{listed:Array Bool}(h:i∈Region.ready md ops listed) {o:Oper}(ho:ops[i]? = some o):∀e∈o.after,jA e=true->listed.getD e.on false=true:=by
 obtain⟨_,o',ho',he⟩:=mem_ready.1 h;rw[ho]at ho';cases ho';exact λe hm hk=>he e hm (zMI hk)
theorem zP0 (B:Base P c orc rd ih ops m st ρ0 D0 a0 w0) {md:Region.Mode}(hmd:zIM md ops) {x:AX}{sf:St}:∀(fuel j:Nat) (listed:Array Bool) (s:St) (ρ:Env) (a:Act) (w:World),m<=j->j<=ops.size->ops.size-j<=fuel->listed.size=ops.size ->
  Closed ops.toList (λi=>listed.getD i false=true)->(∀i,i<ops.size->(listed.getD i false=true↔i<j))->wV c orc rd.isSome ih ops.toList (ops.toList.drop j) s=some (.done x sf) ->
  Mv ρ0 D0 (st 0).heap w0 ρ s.heap w->StR ρ (Dx D0 (st 0).heap s.heap) s a w->wpAnyIn (Fx (rd.map ρ0.blk)) 0 P md ops (Ends ρ0 D0 (st 0) w0 x sf) fuel listed a w:=by
 intro fuel;have hend:∀(j:Nat) (s:St) (ρ:Env) (a:Act) (w:World),j=ops.size->wV c orc rd.isSome ih ops.toList (ops.toList.drop j) s=some (.done x sf) ->
   Mv ρ0 D0 (st 0).heap w0 ρ s.heap w->StR ρ (Dx D0 (st 0).heap s.heap) s a w->Ends ρ0 D0 (st 0) w0 x sf .normal a w:=by
  intro j s ρ a w hj e mv k;rw[List.drop_of_length_le (by simp;omega)]at e;simp only[wV,oA,Out.done.injEq]at e;obtain⟨rfl,rfl⟩:=e;exact⟨ρ,mv,k,rfl,trivial⟩
 induction fuel with
 | zero =>
  intro j listed s ρ a w hmj hj hf hsz hcl hli e mv k;refine⟨?_,hend j s ρ a w (by omega) e mv k⟩;rw[List.eq_nil_iff_forall_not_mem];intro i hi;obtain⟨h1,h2,_⟩:=zAm hi;rw[(hli i h1).2 (by omega)]at h2;cases h2
 | succ fuel ihf =>
  intro j listed s ρ a w hmj hj hf hsz hcl hli e mv k;refine⟨λhnil=>?_,λi hi=>?_⟩
  ·have hjN:j=ops.size:=by
    rcases Nat.eq_or_lt_of_le hj with h|h
    ·exact h
    ·have:=(hli j h).1 (zCF B.hm hmd hnil hsz j h);omega
   exact hend j s ρ a w hjN e mv k
  ·obtain⟨h1,h2,h3⟩:=zAm hi
   have ho:ops[i]? = some ops[i]:=Array.getElem?_eq_getElem h1;have hbe:=qG hcl i ops[i] (by simp) (Zl hi ho);have hij:i=j:=by
    have hge:j<=i:=Nat.le_of_not_lt λh=>by rw[(hli i h1).2 h]at h2;cases h2
    rcases Nat.eq_or_lt_of_le hge with h|h
    ·exact h.symm
    ·have:=hbe j (Ye _ _ i (by rw[<-B.hmeq];omega) (by simpa using h1) j h)
     have:=(hli j (by omega)).1 this;omega
   subst hij;have hdrop:ops.toList.drop i=ops[i]::ops.toList.drop (i+1):=by
    rw[List.drop_eq_getElem_cons (by simpa using h1)];simp
   rw[hdrop]at e;refine zKu B.ok B.hor B.hih ho e B.k0.hr.lt B.hl mv k ?_;intro s1 ρ1 a1 w1 e1 mv1 k1;have hget:∀i',(listed.setIfInBounds i true).getD i' false=true↔(listed.getD i' false=true\/i'=i):=by
    intro i';by_cases hii:i'=i
    ·subst hii;simp[ku h3]
    ·rw[getD_set_ne false (λh=>hii h.symm)];simp[hii]
   refine ihf (i+1) _ s1 ρ1 a1 w1 (by omega) (by omega) (by omega) (by simpa using hsz) ?_ ?_ e1 mv1 k1
   ·intro j' o' hj' ho' e' hm hk
    rcases(hget j').1 hj' with h|rfl
    ·exact(hget _).2 (.inl (hcl j' o' h ho' e' hm hk))
    ·have ho':ops[j']? = some o':=by simpa using ho'
     exact(hget _).2 (.inl (Zl hi ho' e' hm hk))
   ·intro i' hi'
    rw[hget i',hli i' hi'];omega
def cnt (listed:Array Bool):Nat->Nat
 | 0=>0
 | n+1=>cnt listed n+(if listed.getD n false=true then 0 else 1)
def left (ops:Array Oper) (listed:Array Bool):Nat:=cnt listed ops.size
omit ops in
theorem zMM {listed:Array Bool}{i:Nat}:∀n,n<=i->cnt (listed.setIfInBounds i true) n=cnt listed n:=by
 intro n
 induction n with
 | zero=>intro _;rfl
 | succ n ih =>
  intro h;simp only[cnt];rw[ih (by omega),getD_set_ne false (show i≠n by omega)]
omit ops in
theorem zQt {listed:Array Bool}{i:Nat}(h2:listed.getD i false=false) (h3:i<listed.size):∀n,i<n->cnt (listed.setIfInBounds i true) n<cnt listed n:=by
 intro n
 induction n with
 | zero=>intro h;omega
 | succ n ih =>
  intro h;simp only[cnt];by_cases hin:i=n
  ·subst hin
   rw[zMM _ (oP _),ku h3,h2];simp
  ·rw[getD_set_ne false hin]
   have:=ih (by omega);omega
theorem zNc {listed:Array Bool}{i:Nat}(h1:i<ops.size) (h2:listed.getD i false=false) (h3:i<listed.size):left ops (listed.setIfInBounds i true)<left ops listed :=
 zQt h2 h3 _ h1
omit ops in
theorem zMN {listed:Array Bool}:∀n,cnt listed n=0->∀i,i<n->listed.getD i false=true:=by
 intro n
 induction n with
 | zero=>intro _ i h;omega
 | succ n ih =>
  intro h i hi;simp only[cnt]at h;rcases Nat.lt_or_ge i n with g|g
  ·exact ih (by omega) i g
  ·have:i=n:=by omega
   subst this;by_cases hb:listed.getD i false=true
   ·exact hb
   ·rw[if_neg hb]at h;omega
omit ops in
theorem zWv {listed:Array Bool}{m:Nat}:∀n,(∀i,i<n->listed.getD i false=true->i<m)->n-m<=cnt listed n:=by
 intro n
 induction n with
 | zero=>intro _;omega
 | succ n ih =>
  intro h;have h1:=ih λi hi=>h i (by omega)
  simp only[cnt];by_cases hb:listed.getD n false=true
  ·have:=h n (by omega) hb;omega
  ·rw[if_neg hb];omega
theorem zJl (B:Base P c orc rd ih ops m st ρ0 D0 a0 w0) {md:Region.Mode}(hmd:zIM md ops) {x:AX}{sf:St}(e:wV c orc rd.isSome ih ops.toList (ops.toList.drop m) (st m)=some (.done x sf)) :
  ∀(fuel:Nat) (listed:Array Bool) (J:Nat) (tm:Tm) (ρ:Env) (a:Act) (w:World),left ops listed<=fuel->listed.size=ops.size->Inv ops m st ρ0 D0 w0 (λi=>listed.getD i false=true) J tm ρ a w ->
   wpAnyIn (Fx (rd.map ρ0.blk)) 0 P md ops (Ends ρ0 D0 (st 0) w0 x sf) fuel listed a w:=by
 intro fuel;have hdone:∀(fuel:Nat) (listed:Array Bool) (J:Nat) (tm:Tm) (ρ:Env) (a:Act) (w:World),left ops listed<=fuel->listed.size=ops.size->Inv ops m st ρ0 D0 w0 (λi=>listed.getD i false=true) J tm ρ a w ->
   (∀i,i<m->listed.getD i false=true)->wpAnyIn (Fx (rd.map ρ0.blk)) 0 P md ops (Ends ρ0 D0 (st 0) w0 x sf) fuel listed a w:=by
  intro fuel listed J tm ρ a w hf hsz I hall;obtain⟨mv,k⟩:=I.finish B hall;have hiff:∀i,i<ops.size->(listed.getD i false=true↔i<m):=λi _=>⟨λh=>oI (I.lt i h) I.le,hall i⟩
  exact zP0 B hmd fuel m listed (st m) ρ a w (oP _) B.m_le (oQ (zWv _ λi hi h=>(hiff i hi).1 h) hf) hsz I.closed hiff e mv k
 induction fuel with
 | zero =>
  intro listed J tm ρ a w hf hsz I;exact hdone 0 listed J tm ρ a w hf hsz I λi hi=>zMN _ (Nat.le_zero.1 hf) i (oI hi B.m_le)
 | succ fuel ihf =>
  intro listed J tm ρ a w hf hsz I;by_cases hall:∀i,i<m->listed.getD i false=true
  ·exact hdone (fuel+1) listed J tm ρ a w hf hsz I hall
  ·have hex:∃i,i<m/\listed.getD i false=false:=by
    refine Classical.byContradiction λh=>hall λi hi=>?_
    cases hb:listed.getD i false with
    | true=>rfl
    | false=>exact absurd ⟨i,hi,hb⟩ h
   obtain⟨i0,hi0,hb0⟩:=hex;refine⟨λhnil=>?_,λi hi=>?_⟩
   ·have:=zCF B.hm hmd hnil hsz i0 (oI hi0 B.m_le)
    rw[hb0]at this;cases this
   ·obtain⟨h1,h2,h3⟩:=zAm hi
    have ho:ops[i]? = some ops[i]:=Array.getElem?_eq_getElem h1;have hed:=Zl hi ho;have him:i<m:=by
     refine Nat.lt_of_not_le λhmi=>?_
     have hbe:=qG I.closed i ops[i] (by simp) hed;have:=hbe i0 (Ye _ _ i (by rw[<-B.hmeq];exact hmi) (by simpa using h1) i0 (by omega));rw[hb0]at this;cases this
    refine I.step B him (by rw[h2];simp) ho hed ?_;intro J' tm' ρ' a' w' I';have hS:Add (λi=>listed.getD i false=true) i=λi'=>(listed.setIfInBounds i true).getD i' false=true:=by
     funext i'
     simp only[eq_iff_iff,Add];by_cases hii:i'=i
     ·subst hii;simp[ku h3]
     ·rw[getD_set_ne false (λh=>hii h.symm)];simp[hii]
    rw[hS]at I';exact ihf _ J' tm' ρ' a' w' (by have:=zNc h1 h2 h3;omega) (by simpa using hsz) I'
theorem zEn (ok:CtxOK P c) (hor:xb P c orc) (hih:j6 P ih) {id:Nat}{ops:Array Oper}{s s':St}{x:AX}{m:Nat}(hm:yZ ops.toList=some m)
  (e:yF c orc rd.isSome ih ops.toList (z8 ops.toList []) m m 0 ops.toList s=some (.done x s')):SimC P rd (.region id ops true) s x s':=by
 intro ρ D w a k hl;have hmle:m<=ops.toList.length:=by
  unfold yZ at hm;cases hc:(ZB ops.toList (z8 ops.toList []) 0 ops.toList && (!(Region.departs ops.toList.toArray) || (zAn ops.toList (Region.linearise .gc ops.toList.toArray 0) [] && Yv (Region.linearise .gc ops.toList.toArray 0) ops.toList.length)))with
  | false=>simp only[hc,oM]at hm;cases hm
  | true =>
   simp only[hc,oK,oA]at hm;rw[<-hm];exact K5 _ _
 obtain⟨st,h0,h1,h2,h3⟩:=z10 (rd:=rd) ok hor hih (ops:=ops) m 0 ops.toList s e (by simp) hmle k hl;simp only[Nat.zero_add]at h1 h3;subst h0
 let w1:World:={ w with drawn:=w.drawn+1 }
 have k1:StR ρ D (st 0) a w1:=⟨k.tm,k.dfr,k.dfrIn,k.hr.of_heap rfl⟩;have B:Base P c orc rd ih ops m st ρ D a w1:=⟨ok,hor,hih,hm,h1,k1,h2,hl⟩;have mv0:Mv ρ D (st 0).heap w ρ (st 0).heap w1:=Mv.of_heap rfl rfl rfl rfl;refine wpIn_mono (Q:=Ends ρ D (st 0) w1 x s') (wpIn_region_draw λt=>?_) ?_
 ·refine zA4 _ ops t (λl=>wpOpsIn (Fx (rd.map ρ.blk)) 0 P ops (Ends ρ D (st 0) w1 x s') l a w1) λmd hmd t=>?_
  refine wpAnyIn_sound ops.size t _ a w1 ?_;have hS:∀j,¬((Array.replicate ops.size false).getD j false=true):=λj h=>by
   simp only[Array.getD_eq_getD_getElem?,Array.getElem?_replicate]at h;split at h<;>simp at h
  refine zJl B hmd h3 ops.size _ 0 (st 0).tm ρ a w1 ?_ (by simp) (Inv.start B hS);unfold left;have:∀(l:Array Bool) n,cnt l n<=n:=λl n=>by
   induction n with
   | zero=>exact oP _
   | succ n ih=>simp only[cnt];split<;>omega
  exact this _ _
 ·rintro ex a' w' ⟨ρ',mv,k',rfl,hx⟩
  refine⟨ρ',Mv.trans k.hr.lt mv0 (by rw[ze];exact mv),k',rfl,hx⟩
end
end Go.Sim
