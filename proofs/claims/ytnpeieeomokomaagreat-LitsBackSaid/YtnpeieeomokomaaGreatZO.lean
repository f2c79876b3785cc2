/- O. No condition. -/
import Derived.Test.YtnpeieeomokomaaGreatZG
import Derived.LoopNIn
import Derived.Test.YtnpeieeomokomaaGreatZC
namespace Go.Sim
def Fx(r:Option Nat):Fence:={ fn:=λ_=>True,depth:=none,alive:=false,round:=r }
theorem Ro(r:Option Nat)(n:Nat):(Fx r).room n:=λ_ h=>by grind[Fx]
theorem bu{P:Program}{f:FuncId}{args:Array Value}{w:World}{R:Ending->World->Prop}(r a:Option Nat)(h:CallsIn (Fx r) 0 P f args w R):CallsIn (Fx a) 0 P f args w R:=h
theorem J8{P:Program}{l:Nat}{f:FuncId}{tmps:Array Value}{x y:Code}{w:World}{R:Ending->World->Prop}(r a:Option Nat)(h:RoundIn (Fx r) 0 P l f tmps x y w R):RoundIn (Fx a) 0 P l f tmps x y w R:=h
structure StR (ρ:Env) (D:Nat->Prop) (s:St) (a:Act) (w:World):Prop where
 tm:TmR ρ D s.n s.tm a.tmps
 dfr:a.defers=s.dfr.map (AD.conc ρ)
 dfrIn:∀d∈s.dfr,d.In D
 hr:HR ρ D s.heap w
def AX.toExit(ρ:Env):AX->Exit
 | .normal=>.normal
 | .exit id=>.exit id
 | .ret=>.ret
 | .panic v=>.panic [{ v:=v.conc ρ,recovered:=false }]
def AX.In(D:Nat->Prop):AX->Prop
 | .panic v=>v.In D
 | _=>True
def Ends(ρ:Env)(D:Nat->Prop)(s:St)(w:World)(x:AX)(s':St):Exit->Act->World->Prop:=λe a' w' =>
 ∃ρ',Mv ρ D s.heap w ρ' s'.heap w'/\StR ρ' (Dx D s.heap s'.heap) s' a' w'/\e=x.toExit ρ'/\x.In (Dx D s.heap s'.heap)
def SimC(P:Program)(rd:Option Nat)(code:Code)(s:St)(x:AX)(s':St):Prop :=
 ∀ρ D w a,StR ρ D s a w->(∀l,rd=some l->D l)->code.wpIn (Fx (rd.map ρ.blk)) 0 P (Ends ρ D s w x s') a w
def CallOut.post(ρ:Env)(D:Nat->Prop)(h:H)(w:World):CallOut->Ending->World->Prop
 | .ret v h',e,w'=>∃ρ',e = .returned (v.conc ρ')/\Mv ρ D h w ρ' h' w'/\HR ρ' (Dx D h h') h' w'/\v.In (Dx D h h')
 | .panic v h',e,w'=>∃ρ',e = .panicked [{ v:=v.conc ρ',recovered:=false }]/\Mv ρ D h w ρ' h' w'/\HR ρ' (Dx D h h') h' w'/\v.In (Dx D h h')
def SimF(P:Program)(f:Nat)(args:Ug)(h:H)(out:CallOut):Prop :=
 ∀ρ D w,HR ρ D h w->(∀v∈args,v.In D)->CallsIn (Fx none) 0 P f (args.map (V.conc ρ)).toArray w (out.post ρ D h w)
def zIX(P:Program)(f:Nat)(args:Ug)(h:H)(out:CallOut):Prop :=
 ∀ρ D w u,HR ρ D h w->(∀v∈args,v.In D)->CallsDIn (Fx none) 0 P f (args.map (V.conc ρ)).toArray u w λe a w'=>a=u/\out.post ρ D h w e w'
def Ah(P:Program)(l:Nat)(args:Ug)(h:H)(out:CallOut):Prop :=
 ∀ρ D w,HR ρ D h w->D l->(∀v∈args,v.In D)->∃fn tmps x y,(Instr.yield (ρ.blk l) (args.map (V.conc ρ)).toArray).run P w = .ok (.round (ρ.blk l) fn tmps x y) w /\
  RoundIn (Fx none) 0 P (ρ.blk l) fn tmps x y w (out.post ρ D h w)
section basics
variable {ρ ρ':Env}{D:Nat->Prop}{s s':St}{w w':World}{a:Act}
theorem AD.conc_agree(h:Agree D ρ ρ'){d:AD}(hd:d.In D):d.conc ρ'=d.conc ρ:=by
 cases d with
 | coll id=>simp[AD.conc,(h id hd).1]
 | fn f cap args=>simp only[AD.conc,<-V.concL_eq];rw[V.concL_agree h _ (V.InL_iff.2 hd.1),V.concL_agree h _ (V.InL_iff.2 hd.2)]
theorem AD.In_mono{E:Nat->Prop}(h:∀id,D id->E id){d:AD}(hd:d.In D):d.In E:=by
 cases d with
 | coll id=>exact h _ hd
 | fn f cap args=>exact⟨λv b=>V.In_mono h _ (hd.1 v b),λv b=>V.In_mono h _ (hd.2 v b)⟩
theorem X2(h:Agree D ρ ρ'):∀{l:List AD},(∀d∈l,d.In D)->l.map (AD.conc ρ')=l.map (AD.conc ρ):=λhl=>List.map_congr_left λd hd=>AD.conc_agree h (hl d hd)
theorem StR.step(k:StR ρ D s a w){h':H}(m:Mv ρ D s.heap w ρ' h' w')(r:HR ρ' (Dx D s.heap h') h' w'):StR ρ' (Dx D s.heap h') { s with heap:=h' } a w' :=
 ⟨k.tm.agree wm m.agree,by rw[k.dfr];exact(X2 m.agree k.dfrIn).symm,λd hd=>AD.In_mono wm (k.dfrIn d hd),r⟩
theorem xB(tm:Tm)(t j:Nat)(v:V)(b:t<Tb.top):zq (tm.set t v) j=if j=t then v else zq tm j:=Tb.get_set _ _ _ _ _ b
theorem TmR.put{n:Nat}{tm:Tm}{JM:Array Value}(k:TmR ρ D n tm JM){t:Nat}{v:V}(c:t<n)(d:v.In D):TmR ρ D n (tm.set t v) (JM.setIfInBounds t (v.conc ρ)):=by
 have b:t<Tb.top:=oL c k.cap;refine⟨by simp[k.size],k.cap,λj=>?_,λj=>?_⟩
 .rw[xB _ _ _ _ b];by_cases hj:j=t
  .subst hj;simp[k.size,c]
  rw[if_neg hj,<-k.val j];simp only[Array.getD_eq_getD_getElem?,Array.getElem?_setIfInBounds]
  grind
 rw[xB _ _ _ _ b];split
 .exact d
 exact k.inn j
theorem StR.put(k:StR ρ D s a w){d:Option Tmp}{v:V}(b:v.In D)(e:wP s d v s.heap=some s'):StR ρ D s' (a.put d (v.conc ρ)) w/\s'.heap=s.heap:=by
 cases d with
 | none=>unfold wP at e;simp only[oA]at e;subst e;exact⟨⟨k.tm,k.dfr,k.dfrIn,k.hr⟩,rfl⟩
 | some t =>
  unfold wP at e;rcases hb:Nat.blt t s.n with _|_
  .grind
  simp only[hb,oN,oA]at e;subst e;exact⟨⟨k.tm.put ((zW _ _).1 hb) b,k.dfr,k.dfrIn,k.hr⟩,rfl⟩
theorem je(k:StR ρ D s a w):∀x v,yt s.tm x=some v->a.eval x=v.conc ρ/\v.In D:=by
 intro x v h;cases x with
 | tmp t=>simp only[yt,oA]at h;subst h;exact⟨k.tm.val t,k.tm.inn t⟩
 | const c=>simp only[yt]at h;obtain⟨b,h2⟩:=Xb h;exact⟨(b ρ).symm,h2 D⟩
 | global g=>grind[yt]
 | func f =>
  grind[yt,Act.eval,V.conc,V.concL,V.In,V.InL]
theorem fC{s:St}{d:Option Tmp}{v:V}{h:H}:wP s d v h=wP { s with heap:=h } d v h:=rfl
end basics
section rules
variable {P:Program}{rd:Option Nat}
theorem Ends.refl{ρ:Env}{D:Nat->Prop}{s:St}{a:Act}{w:World}(k:StR ρ D s a w){x:AX}(b:∀v,x≠.panic v):Ends ρ D s w x s (x.toExit ρ) a w :=
 ⟨ρ,Mv.refl _ _ _ _,by grind[zd],rfl,by cases x<;>first|trivial|grind⟩
theorem Ends.trans{ρ a:Env}{D:Nat->Prop}{s s1 d:St}{w f:World}{x:AX}{e:Exit}{a2:Act}{w2:World}(i:∀id,D id->id<s.heap.nx)(m:Mv ρ D s.heap w a s1.heap f)(h:Ends a (Dx D s.heap s1.heap) s1 f x d e a2 w2):Ends ρ D s w x d e a2 w2:=by obtain⟨c,g,j,k,l⟩:=h;have b:=wn (D:=D) m.nx g.nx;exact⟨c,Mv.trans i m g,by rw[<-b];exact j,k,by rw[<-b];exact l⟩
theorem SimC.skip(s:St):SimC P rd .skip s .normal s:=λ_ _ _ _ k _=>wpIn_skip (Ends.refl k (λ_ h=>by cases h))
theorem SimC.exit(id:Nat)(s:St):SimC P rd (.exit id) s (.exit id) s:=λ_ _ _ _ k _=>wpIn_exit (Ends.refl k (λ_ h=>by cases h))
theorem SimC.ret(s:St):SimC P rd .ret s .ret s:=λ_ _ _ _ k _=>wpIn_ret (Ends.refl k (λ_ h=>by cases h))
theorem km{ρ a:Env}{D:Nat->Prop}(h:Agree D ρ a)(hl:∀l,rd=some l->D l):rd.map a.blk=rd.map ρ.blk:=by
 rcases rd with _|l
 .rfl
 simp[(h l (hl l rfl)).1]
theorem SimC.seq{x y:Code}{s s1 d:St}{e:AX}(h1:SimC P rd x s .normal s1)(h2:SimC P rd y s1 e d):SimC P rd (.seq x y) s e d:=by intro ρ D w a k hl;refine wpIn_seq (wpIn_mono (h1 ρ D w a k hl) ?_);rintro i a1 f ⟨b,g,h,rfl,_⟩;show y.wpIn _ 0 P _ a1 f;rw[<-km g.agree hl];exact wpIn_mono (h2 b _ f a1 h (λl c=>.inl (hl l c))) λj a2 m q=>Ends.trans k.hr.lt g q
theorem SimC.seq_out{x y:Code}{s s1:St}{e:AX}(h1:SimC P rd x s e s1)(c:e≠.normal):SimC P rd (.seq x y) s e s1:=by intro ρ D w a k hl;refine wpIn_seq (wpIn_mono (h1 ρ D w a k hl) ?_);rintro i a1 d ⟨b,f,g,rfl,h⟩;have:Ends ρ D s w e s1 (e.toExit b) a1 d:=⟨b,f,g,rfl,h⟩;cases e<;>first|exact absurd rfl c|exact this
theorem SimC.cond{o:Operand}{x y:Code}{s s1:St}{t:Bool}{e:AX}(b:yt s.tm o=some (.bool t))(h:SimC P rd (cond t x y) s e s1):SimC P rd (.cond o x y) s e s1:=by
 intro ρ D w a k hl;obtain⟨c,_⟩:=je k _ _ b;refine wpIn_cond (t:=t) (by grind[V.conc]) ?_;cases t
 .exact h ρ D w a k hl
 exact h ρ D w a k hl
theorem SimC.block{id:Nat}{x:Code}{s s1:St}{e:AX}(h:SimC P rd x s e s1):SimC P rd (.block id x) s (match e with | .exit i=>(if i=id then .normal else .exit i)|e=>e) s1:=by
 intro ρ D w a k hl;refine wpIn_block (wpIn_mono (h ρ D w a k hl) ?_);rintro g a1 j ⟨b,c,d,rfl,f⟩;cases e with
 | exit i =>
  simp only[AX.toExit,Exit.inBlock];by_cases hi:i=id
  .simp only[hi,if_true];exact⟨b,c,d,rfl,trivial⟩
  simp only[hi,if_false];exact⟨b,c,d,rfl,trivial⟩
 | normal=>exact⟨b,c,d,rfl,f⟩
 | ret=>exact⟨b,c,d,rfl,f⟩
 | panic v=>exact⟨b,c,d,rfl,f⟩
def SimL(P:Program)(rd:Option Nat)(body:Code)(s:St)(x:AX)(s':St):Prop :=
 ∃m,∀ρ D w a,StR ρ D s a w->(∀l,rd=some l->D l)->Code.roundsIn (Fx (rd.map ρ.blk)) 0 P body (Ends ρ D s w x s') m a w
theorem Wj{F:Fence}{n:Nat}{c:Code}{Q Q':Exit->Act->World->Prop}(b:∀e a w,Q e a w->Q' e a w):∀(m:Nat) (a:Act) (w:World),Code.roundsIn F n P c Q m a w->Code.roundsIn F n P c Q' m a w:=by
 intro m;induction m with
 | zero=>intro a w h;exact h
 | succ m ih=>intro a w h;refine wpIn_mono h ?_;intro e a w q;cases e<;>first|exact ih _ _ q|exact b _ _ _ q
theorem SimL.last{x:Code}{s s1:St}{e:AX}(h:SimC P rd x s e s1)(c:e≠.normal):SimL P rd x s e s1:=by refine⟨1,λρ D w a k hl=>wpIn_mono (h ρ D w a k hl) ?_⟩;rintro j a1 d ⟨b,f,g,rfl,i⟩;have:Ends ρ D s w e s1 (e.toExit b) a1 d:=⟨b,f,g,rfl,i⟩;cases e<;>first|exact absurd rfl c|exact this
theorem SimL.nx{x:Code}{s s1 f:St}{e:AX}(h1:SimC P rd x s .normal s1)(h2:SimL P rd x s1 e f):SimL P rd x s e f:=by obtain⟨m,h2⟩:=h2;refine⟨m+1,λρ D w a k hl=>wpIn_mono (h1 ρ D w a k hl) ?_⟩;rintro i a1 b ⟨c,g,h,rfl,_⟩;show Code.roundsIn _ 0 P x _ m a1 b;rw[<-km g.agree hl];exact Wj (λj a2 n q=>Ends.trans k.hr.lt g q) m a1 b (h2 c _ b a1 h (λl d=>.inl (hl l d)))
theorem SimL.loop{x:Code}{s s1:St}{e:AX}(h:SimL P rd x s e s1):SimC P rd (.loop x) s e s1:=by obtain⟨m,h⟩:=h;exact λρ D w a k hl=>wpIn_loop_rounds m (h ρ D w a k hl)
theorem Ql(l:Ug):ws l 0=l.length:=by grind[yF]
theorem lJ:∀(l:Ug) (i:Nat) (t:Tm) (j:Nat),i+l.length<=Tb.top->zq (zy l i t) j=if i<=j/\j<i+l.length then (l[j-i]?).getD zZ else zq t j:=by
 intro l;induction l with
 | nil=>simp_all[zy,if_neg]
 | cons v l ih =>
  intro i t j h;simp only[oc]at h ⊢;rw[zy,ih _ _ _ dd,xB _ _ _ _ dd]
  grind
theorem H8{ρ:Env}{D:Nat->Prop}{args:Ug}{n:Nat}(h1:args.length<=n)(h2:n<=511)(a:∀v∈args,v.In D):
  TmR ρ D n (zy args 0 (Tb.leaf zZ)) ((args.map (V.conc ρ)).toArray++Array.replicate (n-(args.map (V.conc ρ)).toArray.size) undef):=by
 have hl:zq (Tb.leaf zZ)=λ_=>zZ:=by funext j;exact Tb.get_leaf _ _
 have b:∀j,zq (zy args 0 (Tb.leaf zZ)) j=(args[j]?).getD zZ:=λj=>by
  rw[lJ _ _ _ _ (by grind[Tb.top]),hl]
  grind
 refine⟨by grind,by grind[Tb.top],λj=>?_,λj=>?_⟩
 .rw[b,Array.getD_eq_getD_getElem?,Array.getElem?_append];by_cases c:j<args.length
  .grind
  rw[if_neg (by grind),ov (Nat.le_of_not_lt c)]
  grind[wL]
 grind[jH]
variable {c:Ctx}{orc:Nat->Ug->H->Option (V×H)}
def zJZ(tmps:Array Value):ResultVar->Sem Value
 | .tmp t=>pure (tmps.getD t undef)
 | .cell a t=>do loadVar t (<-asAddr (tmps.getD a undef))
theorem Vs(ok:CtxOK P c){tmps:Array Value}(g:ResultVar->Sem Value)(k:∀t,g (.tmp t)=pure (tmps.getD t undef))(s:∀a t,g (.cell a t)=(do loadVar t (<-asAddr (tmps.getD a undef)))){ρ:Env}{D:Nat->Prop}{n:Nat}{tm:Tm}{h:H}{w:World}(hr:HR ρ D h w)(i:TmR ρ D n tm tmps){l:List ResultVar}:∀(rs:List ResultVar) (acc:Ug) (vs:Ug),
  leave c l tm h rs acc=some vs->(∀v∈acc,v.In D) ->
  ∃d:Ug,vs=acc.reverse++d/\(rs.mapM (m:=Sem) g).run P w = .ok (d.map (V.conc ρ)) w/\∀v∈vs,v.In D:=by
 intro rs;induction rs with
 | nil =>
  simp_all[leave]
 | cons r rs ih =>
  intro acc vs e p;cases r with
  | tmp t=>simp only[leave]at e;obtain⟨d,x,h2,h3⟩:=ih _ _ e (λv j=>by rcases oq.1 j with g|g<;>first|(rw[g];exact i.inn t)|grind);refine⟨zq tm t::d,by grind,?_,h3⟩;simp only[List.mapM_cons,k,Sem.run_bind,Sem.run_pure,Result.andThen_ok,i.val t,h2,List.map_cons]
  | cell a t =>
   simp only[leave]at e;split at e
   .rename_i v j;obtain⟨q,l2⟩:=Ky (P:=P) ok j hr (i.inn a);obtain⟨d,x,h2,h3⟩:=ih _ _ e (λu y=>by grind);refine⟨v::d,by grind,?_,h3⟩;have f:∃b o,zq tm a = .ptr b o:=by
     unfold ye at j
     grind
    obtain⟨b,o,hb⟩:=f;have xN:=i.val a;rw[hb]at xN q;simp only[V.conc]at xN;simp only[Instr.loadAt,V.conc,Instr.sureAddr,Sem.run_bind,Sem.run_pure,Result.andThen_ok]at q
    simp_all[asAddr]
   grind
theorem JF(ok:CtxOK P c){ρ:Env}{D:Nat->Prop}{n:Nat}{tm:Tm}{tmps:Array Value}{h:H}{w:World}(hr:HR ρ D h w)(k:TmR ρ D n tm tmps){fn:Func}{fi:FI}(m:fn.results.toList=fi.results){vs:Ug}(e:leave c fi.results tm h fi.results []=some vs):(results fn tmps).run P w = .ok ((yC vs).conc ρ) w/\(yC vs).In D:=by
 have key:=λ(g:ResultVar->Sem Value) d f=>Vs (P:=P) ok (tmps:=tmps) g d f hr k fi.results [] vs e (λ_ o=>by cases o);have h3:∀v∈vs,v.In D:=(key (zJZ tmps) (λ_=>rfl) (λ_ _=>rfl)).choose_spec.2.2;constructor
 .have i:∀(g:ResultVar->Sem Value),(∀t,g (.tmp t)=pure (tmps.getD t undef))->(∀a t,g (.cell a t)=(do loadVar t (<-asAddr (tmps.getD a undef)))) ->
    (do let vs <-fn.results.mapM g;pure (if h:vs.size=1 then vs[0] else .tuple vs):Sem Value).run P w = .ok ((yC vs).conc ρ) w:=by
   intro g d f;rw[Sem.run_bind,Array.mapM_eq_mapM_toList,m,Sem.run_map];obtain⟨p,j,h2,_⟩:=key g d f;rw[h2];simp only[List.reverse_nil,List.nil_append]at j;subst j;simp only[Result.andThen_ok]
   match vs with
   | []=>simp[yC,V.conc,V.concL]
   | [v]=>simp[yC]
   | a::b::l=>simp[yC,V.conc,V.concL,V.concL_eq]
  unfold results
  simp_all
 match vs,h3 with
 | [],_=>simp[yC,V.In,V.InL]
 | [v],h3=>exact h3 v (by simp)
 | a::b::l,h3=>grind[yC,V.In,V.InL_iff]
def jr(P:Program)(ih:Ue):Prop:=∀rd code s x a,ih (Option.isSome rd) code s=some (.done x a)->SimC P rd code s x a
def jK(P:Program)(c:Ctx)(orc:Nat->Ug->H->Option (V×H)):Prop:=∀f args h v h',orc f args h=some (v,h')->(∃fi,c.fn.get f=some fi)/\SimF P f args h (.ret v h')
theorem qi(ok:CtxOK P c){f:Nat}{fi:FI}(h:c.fn.get f=some fi)(args:Array Value)(w:World):(callFunc f args).run P w = .ok (.enter f args) w:=by obtain⟨g,f1,a,b,_⟩:=ok.fn f fi h<;>simp_all[callFunc]
theorem Yp{ih:Ue}(hih:jr P ih){fi:FI}{args:Ug}{h:H}{x:AX}{s:St}(e:ky ih fi args h=some (.done x s)){ρ:Env}{D:Nat->Prop}{w:World}(hr:HR ρ D h w)(b:∀v∈args,v.In D):
  fi.body.wpIn (Fx none) 0 P (λex a' w'=>∃ρ',Mv ρ D h w ρ' s.heap w'/\StR ρ' (Dx D h s.heap) s a' w'/\ex=x.toExit ρ'/\x.In (Dx D h s.heap)) { tmps:=(args.map (V.conc ρ)).toArray++Array.replicate (fi.n-(args.map (V.conc ρ)).toArray.size) undef,defers:=[] } w:=by
 unfold ky at e;rcases a:(Nat.ble (ws args 0) fi.n && Nat.ble fi.n 511) with _|_
 .grind
 simp only[a,oN]at e;simp only[oI]at a;have d:=oG a.1;have h2:=oG a.2;rw[Ql]at d;exact hih none _ _ _ _ e ρ D w _ ⟨H8 d h2 b,rfl,λ_ h=>(by cases h),hr⟩ (λ_ h=>by cases h)
theorem av(ok:CtxOK P c){ih:Ue}(hih:jr P ih){f:Nat}{args:Ug}{h:H}{out:CallOut}(e:Ju c ih f args h=some out):zIX P f args h out:=by
 intro ρ D w u hr d;unfold Ju at e;split at e
 .cases e
 rename_i fi g;obtain⟨fn,f1,q,j,l,n⟩:=ok.fn f fi g;have key:∀(x:AX) (s:St),ky ih fi args h=some (.done x s)->(x = .normal\/x = .ret)->endD c fi s=some out ->
   CallsDIn (Fx none) 0 P f (args.map (V.conc ρ)).toArray u w λe o w'=>o=u/\out.post ρ D h w e w':=by
  intro x s p i a;refine callsDIn_of_wp f1 j trivial ?_;rw[l];refine wpIn_mono (Yp hih p hr d) ?_;rintro ex a' w' ⟨ρ',m,k,rfl,_⟩;unfold endD at a;split at a
  .rename_i hd;split at a
   .rename_i r IW;simp only[oA]at a;subst a;obtain⟨r1,r2⟩:=JF (P:=P) ok k.hr k.tm n IW;have b:a'.defers=[]:=by rw[k.dfr,hd];rfl
    rcases i with rfl|rfl
    .exact⟨b,_,r1,ρ',rfl,m,k.hr,r2⟩
    exact⟨b,_,r1,ρ',rfl,m,k.hr,r2⟩
   grind
  grind
 grind
theorem eZ(ok:CtxOK P c){ih:Ue}(hih:jr P ih){fn:Func}{tmps:Array Value}{R:Ending->World->Prop}{ρ0:Env}{D0:Nat->Prop}{h0:H}{w0:World}(j:∀id,D0 id->id<h0.nx):
  ∀(l:List AD) (h h':H) (ρ:Env) (w:World),xz (Ju c ih) l h=some h'->HR ρ (Dx D0 h0 h) h w->Mv ρ0 D0 h0 w0 ρ h w->(∀d∈l,d.In (Dx D0 h0 h)) ->
   (∀ρ' w',HR ρ' (Dx D0 h0 h') h' w'->Mv ρ0 D0 h0 w0 ρ' h' w'->Mv ρ (Dx D0 h0 h) h w ρ' h' w'->∃v,(results fn tmps).run P w' = .ok v w'/\R (.returned v) w') ->
   LeavesInM (Fx none) 0 P fn tmps R (l.map (AD.conc ρ)) .returning w:=by
 intro l;induction l with
 | nil=>intro h h' ρ w e hr m _ a;simp only[xz,oA]at e;subst e;exact a ρ w hr m (Mv.refl _ _ _ _)
 | cons d l k =>
  intro h h' ρ w e hr m b a;cases d with
  | coll id =>
   simp only[xz]at e;split at e
   .rename_i r;have hd:Dx D0 h0 h id:=b _ (List.mem_cons_self ..);have n:=hr.rel id _ hd r;have hw:w.heap[ρ.blk id]? = some (.deferred (some [])):=n;have C:=hr.upd (o':=.deferred false) (x:=.deferred none) hd r rfl rfl rfl;have B:=Mv.upd (o':=.deferred false) (x:=.deferred none) hr hd r rfl rfl;have o:Dx D0 h0 (h.upd id (some (.deferred false)))=Dx D0 h0 h:=rfl;refine⟨by simp,.inl ⟨ρ.blk id,_,rfl,run_takeDeferred hw,?_⟩⟩;refine k (h.upd id (some (.deferred false))) h' ρ _ e (by grind) (Mv.trans j m B) (λd hd=>b d (oJ _ hd)) ?_;intro ρ' w' s t E;refine a ρ' w' s t (Mv.trans hr.lt B ?_)
    grind[jq,wG]
   grind
  | fn f cap args =>
   simp only[xz]at e;split at e
   .rename_i v F i;obtain⟨d1,d2⟩:=b _ (List.mem_cons_self ..);have p:=av ok hih i ρ (Dx D0 h0 h) w .returning hr (λv G=>(List.mem_append.1 G).elim (d2 v) (d1 v));have u:∃fi,c.fn.get f=some fi:=by
     grind[Ju]
    obtain⟨fi,y⟩:=u;obtain⟨g,f1,I,J,K,L⟩:=ok.fn f fi y;refine⟨by simp,.inr ⟨λh=>by grind[Fx],.func f,_,f,_,rfl,?_,λ_ _=>trivial,CallsDIn.mono p ?_⟩⟩
    .simp_all[AD.conc,invoke,callFunc]
    rintro ex M w' ⟨rfl,z,rfl,q,r1,_⟩;have o:=wn (D:=D0) m.nx q.nx;show LeavesInM _ 0 P fn tmps R (l.map (AD.conc ρ)) (settle .returning) w';rw[<-X2 q.agree (λd hd=>b d (oJ _ hd))];refine k F h' z w' e (by grind) (Mv.trans j m q) (λd hd=>by rw[<-o];grind[AD.In_mono,wm]) ?_;intro ρ' A s t E;exact a ρ' A s t (Mv.trans hr.lt q (by grind))
   grind
theorem Yj(ok:CtxOK P c){ih:Ue}(hih:jr P ih){f:Nat}{args:Ug}{h:H}{out:CallOut}(e:tZ c ih f args h=some out):SimF P f args h out:=by
 intro ρ D w hr b;unfold tZ at e;split at e
 .cases e
 rename_i fi i;obtain⟨fn,f1,B,o,p,t⟩:=ok.fn f fi i;have key:∀(x:AX) (s:St),ky ih fi args h=some (.done x s)->(x = .normal\/x = .ret)->VW c ih fi s=some out ->
   CallsIn (Fx none) 0 P f (args.map (V.conc ρ)).toArray w (out.post ρ D h w):=by
  intro x s u j a;refine callsIn_of_wp_marks f1 o trivial ?_;rw[p];refine wpIn_mono (Yp hih u hr b) ?_;rintro ex a' w' ⟨ρ',m,k,rfl,_⟩;unfold VW at a;split at a
  .rename_i h2 l;split at a
   .rename_i y IW;simp only[oA]at a;subst a;have hl:LeavesInM (Fx none) 0 P fn a'.tmps (CallOut.post ρ D h w (.ret (yC y) h2)) a'.defers .returning w':=by
     rw[k.dfr];refine eZ ok hih hr.lt s.dfr s.heap h2 ρ' w' l k.hr m k.dfrIn ?_;intro n C q z r;have d:∀id,Dx D h s.heap id->Dx D h h2 id:=λ_ hd=>hd.imp (λg=>g) (λg=>⟨g.1,oL g.2 r.nx⟩)
     obtain⟨r1,r2⟩:=JF (P:=P) ok q (k.tm.agree d r.agree) t IW;exact⟨_,r1,n,rfl,z,q,r2⟩
    rcases j with rfl|rfl
    .exact hl
    exact hl
   grind
  grind
 split at e
 .grind
 .grind
 .rename_i v s hs;split at e
  .rename_i hd;simp only[oA]at e;subst e;refine callsIn_of_wp_marks f1 o trivial ?_;rw[p];refine wpIn_mono (Yp hih hs hr b) ?_;rintro ex a' w' ⟨ρ',m,k,rfl,A⟩;show LeavesInM _ 0 P fn a'.tmps _ a'.defers (.panicking _) w';rw[k.dfr,hd];exact⟨ρ',rfl,m,k.hr,A⟩
  grind
 grind
theorem ZD(ok:CtxOK P c)(hor:jK P c orc){ih:Ue}(hih:jr P ih){f:Nat}{args:Ug}{h:H}{out:CallOut}(e:Zd c orc ih f args h=some out):SimF P f args h out:=by
 unfold Zd at e;split at e
 .rename_i v h' a;simp only[oA]at e;subst e;exact(hor _ _ _ _ _ a).2
 grind[Yj]
theorem br(hor:jK P c orc){ih:Ue}{f:Nat}{args:Ug}{h:H}{out:CallOut}(e:Zd c orc ih f args h=some out):∃fi,c.fn.get f=some fi:=by
 unfold Zd at e;split at e
 .rename_i v h' a;exact(hor _ _ _ _ _ a).1
 grind[tZ]
end rules
section
variable {P:Program}{c:Ctx}{orc:Nat->Ug->H->Option (V×H)}{rd:Option Nat}
theorem nQ{ρ:Env}{D:Nat->Prop}{n:Nat}:∀(ps:List Tmp) (vs:Ug) (tm a:Tm) (JM:Array Value),xX ps vs n tm=some a->TmR ρ D n tm JM->(∀v∈vs,v.In D) ->
  ps.length=vs.length/\TmR ρ D n a ((ps.zip (vs.map (V.conc ρ))).foldl (λtmps (x:Tmp×Value)=>tmps.setIfInBounds x.1 x.2) JM):=by
 intro ps;induction ps with
 | nil =>
  intro vs tm a JM e k _;rcases vs with _|⟨v,vs⟩
  .simp only[xX,oA]at e;simp_all
  grind[xX]
 | cons p ps ih =>
  intro vs tm a JM e k b;rcases vs with _|⟨v,vs⟩
  .grind[xX]
  simp only[xX]at e;rcases hb:Nat.blt p n with _|_
  .grind
  simp only[hb,oN]at e;obtain⟨f,g⟩:=ih vs _ a _ e (k.put ((zW _ _).1 hb) (b v (List.mem_cons_self ..))) (λu d=>b u (oJ _ d))<;>simp_all
theorem IR{ps:Array Tmp}{vs:List Value}{JM:Array Value}:(ps.zip vs.toArray).foldl (λtmps (x:Tmp×Value)=>tmps.setIfInBounds x.1 x.2) JM=(ps.toList.zip vs).foldl (λtmps (x:Tmp×Value)=>tmps.setIfInBounds x.1 x.2) JM:=by rw[<-Array.foldl_toList];simp
theorem YY{ih:Ue}(hih:jr P ih){l:Nat}{args:Ug}{h:H}{out:CallOut}(e:roundF ih l args h=some out):Ah P l args h out:=by
 intro ρ D w hr hd hin;unfold roundF at e;split at e
 .rename_i st pend n tm params assign body df hg;split at e
  .cases e
  rename_i L htm;split at e
  .rename_i s1 hs1;obtain⟨fn,tmps,hw,M,hdf⟩:=hr.rel l _ hd hg;obtain⟨p1,p2⟩:=nQ params.toList args tm L tmps htm M hin;have hy:=run_yield (P:=P) (w:=w) (args:=(args.map (V.conc ρ)).toArray) hw (by grind);refine⟨fn,_,assign,body,hy,?_⟩;have hd':∀k,some l=some k->D k:=λk hk=>by grind
   refine roundIn_of_wpIn (F:=Fx none) trivial ?_;have hz:=IR (ps:=params) (vs:=args.map (V.conc ρ)) (JM:=tmps);have hk0:StR ρ D { n:=n,tm:=L,dfr:=[],heap:=h } { tmps:=(params.zip (args.map (V.conc ρ)).toArray).foldl (λtmps (x:Tmp×Value)=>tmps.setIfInBounds x.1 x.2) tmps,defers:=[] } w :=
    ⟨by grind,rfl,λ_ h=>(by cases h),hr⟩
   refine wpIn_mono (hih (some l) _ _ _ _ hs1 ρ D w _ hk0 hd') ?_;rintro ex a1 w1 ⟨b,N,z,rfl,_⟩;have N:Mv ρ D h w b s1.heap w1:=N;have z:StR b (Dx D h s1.heap) s1 a1 w1:=z;show ∃w₂,_;unfold rm at e;split at e
   .rename_i a O r d f g i A;split at e
    .rename_i x K hs2;have B:Dx D h s1.heap l:=.inl hd;obtain⟨C,m,hw2,Q,R⟩:=z.hr.rel l _ B A;have hO:ORel b (Dx D h s1.heap) l (.loop .busy a O r d f g i) (some (.loop { state:=.busy,pending:=a,fn:=C,tmps:=m,params:=d,assign:=f,body:=g,defers:=b.blk i })):=⟨C,m,rfl,Q,R⟩;have hr2:=z.hr.upd B A rfl rfl hO;have m2:=Mv.upd (o':=.loop .busy a O r d f g i) (x:=.loop { state:=.busy,pending:=a,fn:=C,tmps:=m,params:=d,assign:=f,body:=g,defers:=b.blk i }) z.hr B A rfl rfl;have hb1:b.blk l=ρ.blk l:=(N.agree l hd).1;refine⟨_,by rw[<-hb1];exact run_beginRound hw2 rfl,?_⟩;have S:Dx (Dx D h s1.heap) s1.heap (s1.heap.upd l (some (.loop .busy a O r d f g i)))=Dx D h s1.heap:=jq (wG _ _ _);have k2:=z.step m2 (by grind);rw[S]at k2;have hb:=hih (some l) _ _ _ _ hs2 b (Dx D h s1.heap) _ a1 k2 (λk hk=>by grind);rw[show((Fx none).inRound (ρ.blk l))=Fx ((some l).map b.blk)from by grind[Fx,Fence.inRound]];refine wpIn_mono hb ?_;rintro ex2 a2 w2 ⟨o,m3,Z,rfl,hx2⟩;clear hx2;have T:Mv ρ D h w o K.heap w2:=Mv.trans hr.lt N (Mv.trans z.hr.lt m2 (by grind));have U:Dx (Dx D h s1.heap) (s1.heap.upd l (some (.loop .busy a O r d f g i))) K.heap=Dx D h K.heap:=wn (h1:=s1.heap.upd l (some (.loop .busy a O r d f g i))) N.nx m3.nx;rw[U]at Z;unfold yZ at e;split at e
     .rename_i st4 pend4 n4 E s t u y _ G;have I:Dx D h K.heap l:=.inl hd;obtain⟨J,p,hw4,W,X⟩:=Z.hr.rel l _ I G;have hb4:o.blk l=ρ.blk l:=(T.agree l hd).1;have fin:∀(q:LoopState) (j:Option Code) (v:V),(∀D,v.In D)->v.conc o = .bool j.isNone->q=(if j.isNone then .ready else .done) ->
        ∃v' w',(Instr.endRound (ρ.blk l) j).run P w2 = .ok v' w'/\CallOut.post ρ D h w (.ret v (K.heap.upd l (some (.loop q j n4 E s t u y)))) (.returned v') w':=by
       intro q j v hv hvc Y;have hO5:ORel o (Dx D h K.heap) l (.loop q j n4 E s t u y) (some (.loop { state:=q,pending:=j,fn:=J,tmps:=p,params:=s,assign:=t,body:=u,defers:=o.blk y })):=⟨J,p,rfl,W,X⟩;refine⟨_,_,by rw[<-hb4];exact run_endRound j hw4,o,by rw[hvc],?_,?_,hv _⟩
       .have m5:=Mv.upd (o':=.loop q j n4 E s t u y) (x:=.loop { state:=q,pending:=j,fn:=J,tmps:=p,params:=s,assign:=t,body:=u,defers:=o.blk y }) Z.hr I G rfl rfl;subst Y;exact Mv.trans hr.lt T m5
       have:=Z.hr.upd I G rfl rfl hO5;subst Y;exact this
      split at e
      .simp only[oA]at e;subst e;exact fin .ready none (.bool true) (λ_=>by simp[V.In]) (by simp[V.conc]) rfl
      .simp only[oA]at e;subst e;exact fin .done (some .ret) (.bool false) (λ_=>by simp[V.In]) (by simp[V.conc]) rfl
      .rename_i id;simp only[oA]at e;subst e;exact fin .done (some (.exit id)) (.bool false) (λ_=>by simp[V.In]) (by simp[V.conc]) rfl
      grind
     grind
    grind
   grind
  grind
 grind
def zCp:Option Code->AX->Prop
 | none,x=>x = .normal
 | some .ret,x=>x = .ret
 | some (.exit id),x=>x = .exit id
 | _,_=>False
theorem Kc(ok:CtxOK P c)(hor:jK P c orc){ih:Ue}(hih:jr P ih){f:Operand}{params:Array Tmp}{assign body:Code}{s:St}{x:AX}{s':St}(e:cH c orc ih rd.isSome f params assign body s=some (.done x s')):SimC P rd (.rangeFunc f params assign body) s x s':=by
 intro ρ D w a k hl;unfold cH at e;split at e
 .rename_i g first captured hf
  cases hc:(rd.isSome || !(Nat.blt (s.heap.nx+1) T.top))with
  | true=>grind
  | false =>
   simp only[hc,oO]at e;simp only[Bool.or_eq_false_iff,Bool.not_eq_false']at hc;obtain⟨hrd,U⟩:=hc;have hcap':=(zW _ _).1 U;have hrn:rd=none:=by simp_all
   subst hrn;split at e
   .rename_i v3 h3 z;obtain⟨f1,f2⟩:=je k _ _ hf;simp only[V.In,V.InL_iff]at f2;refine wpIn_rangeFunc (F:=Fx none) (λfn _=>?_);have g0:s.heap.nx<T.top:=dd
    have hnd:¬D s.heap.nx:=λhd=>by have:=k.hr.lt _ hd;omega
    have r1:=k.hr.new (o:=.deferred true) (x:=.deferred (some [])) 0 g0 rfl;have m1:=Mv.new (o:=.deferred true) (x:=.deferred (some [])) k.hr 0 g0 rfl;generalize hh1:s.heap.new (.deferred true)=i at *;have hn1:i.nx=s.heap.nx+1:=by rw[<-hh1];rfl
    generalize hρ1:ρ.at s.heap.nx w.heap.size 0=E at *;have W:E.blk s.heap.nx=w.heap.size:=by rw[<-hρ1];simp
    have A:Dx D s.heap i s.heap.nx:=.inr ⟨oR _,dd⟩;have X:¬Dx D s.heap i i.nx:=λhd=>by have:=r1.lt _ hd;omega
    have g1:i.nx<T.top:=dd
    have Y:TmR E (Dx D s.heap i) s.n s.tm a.tmps:=k.tm.agree wm m1.agree
    let L:Loop:={ state:=.ready,pending:=none,fn,tmps:=a.tmps,params,assign,body,defers:=w.heap.size }
    let H:=w.alloc (.deferred (some []))
    have M:Agree (Dx D s.heap i) E (E.at i.nx H.heap.size 0):=Env.at_agree X;have hO2:ORel (E.at i.nx H.heap.size 0) (Dx (Dx D s.heap i) i (i.new (.loop .ready none s.n s.tm params assign body s.heap.nx))) i.nx (.loop .ready none s.n s.tm params assign body s.heap.nx) (some (.loop L)) :=
     ⟨fn,a.tmps,by rw[(M _ A).1,W],Y.agree wm M,wm _ A⟩
    have r2:=r1.new (x:=.loop L) 0 g1 hO2;have m2:=Mv.new (o:=.loop .ready none s.n s.tm params assign body s.heap.nx) (x:=.loop L) r1 0 g1 rfl;have hh2:(s.heap.nx+1)=i.nx:=hn1.symm;rw[hh2]at z e;generalize hh2':i.new (.loop .ready none s.n s.tm params assign body s.heap.nx)=h2 at *;have hn2:h2.nx=i.nx+1:=by rw[<-hh2'];rfl
    generalize hρ2:E.at i.nx H.heap.size 0=y at *;have hb2:y.blk i.nx=H.heap.size:=by rw[<-hρ2];simp
    have I:Dx (Dx D s.heap i) i h2 i.nx:=.inr ⟨oR _,dd⟩;have Z:Mv ρ D s.heap w y h2 (H.alloc (.loop L)):=Mv.trans k.hr.lt m1 m2;have N:Dx (Dx D s.heap i) i h2=Dx D s.heap h2:=wn dd dd;rw[N]at r2 I;have hin:∀v∈first++(.yield i.nx::captured),v.In (Dx D s.heap h2):=by
     intro v hv;rcases List.mem_append.1 hv with q|q
     .grind[V.In_mono,wm]
     rcases oq.1 q with rfl|q
     .grind[V.In]
     grind[V.In_mono,wm]
    have hsim:=ZD ok hor hih z y _ _ r2 hin;have hconc:∀(v:V),v.In D->v.conc y=v.conc ρ:=λv hv=>V.conc_agree Z.agree v hv
    obtain⟨fi,hfi⟩:=br hor z;have hargs:((first++(.yield i.nx::captured)).map (V.conc y)).toArray=((V.concL ρ first).toArray ++ #[Value.func (.yield (w.heap.size+1)) #[] #[]])++(V.concL ρ captured).toArray:=by
     apply Array.ext';have e1:first.map (V.conc y)=V.concL ρ first:=by grind[V.concL_eq,List.map_congr_left]
     have e2:captured.map (V.conc y)=V.concL ρ captured:=by grind[V.concL_eq,List.map_congr_left]
     have hw1:H.heap.size=w.heap.size+1:=by simp[H]
     grind[V.conc]
    have hw1:H.heap.size=w.heap.size+1:=by simp[H]
    refine⟨w.heap.size+1,[{ target:=.collected w.heap.size,args:=#[] }],H.alloc (.loop L),
     { target:=.fn (.func g) (V.concL ρ captured).toArray,args:=(V.concL ρ first).toArray ++ #[Value.func (.yield (w.heap.size+1)) #[] #[]] },H.alloc (.loop L),g,
     ((first++(.yield i.nx::captured)).map (V.conc y)).toArray,H.alloc (.loop L),run_enterLoop_outer fn a.tmps params assign body,?_,λ_ _=>trivial,?_,λh=>by grind[Fx],?_⟩
    .grind[resolve,V.conc,Deferred.ofValue,Sem.run_pure,Act.eval]
    .grind[invoke,qi]
    refine CallsIn.mono hsim ?_;rintro ex w3 ⟨l,rfl,S,r3,_⟩;unfold kl at e;split at e
    .rename_i st b n4 B m p r t K;have hm:Mv ρ D s.heap w l h3 w3:=Mv.trans k.hr.lt Z S;have hDx3:Dx (Dx D s.heap h2) h2 h3=Dx D s.heap h3:=wn dd S.nx;rw[hDx3]at r3;have O:Dx D s.heap h3 i.nx:=.inr ⟨dd,by have:=S.nx;omega⟩;have hd0:Dx D s.heap h3 s.heap.nx:=.inr ⟨oR _,by have:=S.nx;omega⟩;obtain⟨J,u,Q,htm4,hdf4⟩:=r3.rel _ _ O K;have hb4:l.blk i.nx=w.heap.size+1:=by rw[(S.agree _ I).1,hb2,hw1]
     have hb0:l.blk s.heap.nx=w.heap.size:=by rw[(S.agree _ (by rw[<-N];grind[wm])).1,(m2.agree _ A).1,W]
     have hO5:ORel l (Dx D s.heap h3) i.nx (.loop .exhausted b n4 B m p r t) (some (.loop { state:=.exhausted,pending:=b,fn:=J,tmps:=u,params:=m,assign:=p,body:=r,defers:=l.blk t })):=⟨J,u,rfl,htm4,hdf4⟩;have r5:=r3.upd O K rfl rfl hO5;have m5:=Mv.upd (o':=.loop .exhausted b n4 B m p r t) (x:=.loop { state:=.exhausted,pending:=b,fn:=J,tmps:=u,params:=m,assign:=p,body:=r,defers:=l.blk t }) r3 O K rfl rfl;have G:Mv ρ D s.heap w l (h3.upd i.nx (some (.loop .exhausted b n4 B m p r t))) _:=Mv.trans k.hr.lt hm m5;have C:StR l (Dx D s.heap (h3.upd i.nx (some (.loop .exhausted b n4 B m p r t)))) { n:=s.n,tm:=s.tm,dfr:=.coll s.heap.nx::s.dfr,heap:=h3.upd i.nx (some (.loop .exhausted b n4 B m p r t)) }
       { a with defers:=[{ target:=.collected w.heap.size,args:=#[] }]++a.defers } (w3.putObj (l.blk i.nx) (.loop { state:=.exhausted,pending:=b,fn:=J,tmps:=u,params:=m,assign:=p,body:=r,defers:=l.blk t })):=by
      refine⟨k.tm.agree wm G.agree,?_,?_,r5⟩
      .simp only[List.map_cons,AD.conc,hb0,List.singleton_append];rw[k.dfr,X2 G.agree k.dfrIn]
      intro d hd;rcases oq.1 hd with rfl|q
      .exact hd0
      exact AD.In_mono wm (k.dfrIn d q)
     rw[hb4]at Q C G;have fin:∀(x1:AX),st≠.busy->(∀v,x1≠.panic v)->zCp b x1 ->
       x=x1->s' = { n:=s.n,tm:=s.tm,dfr:=.coll s.heap.nx::s.dfr,heap:=h3.upd i.nx (some (.loop .exhausted b n4 B m p r t)) } ->
       rangePost (Fx none) 0 P (w.heap.size+1) (Ends ρ D s w x s') { a with defers:=[{ target:=.collected w.heap.size,args:=#[] }]++a.defers } (.returned (v3.conc l)) w3:=by
      rintro x1 hst hnp hp rfl rfl;refine⟨b,_,run_endLoop Q hst,?_⟩;clear e Q hO5 r5 m5 K;generalize hH:h3.upd i.nx (some (.loop .exhausted b n4 B m p r t))=hE at *;generalize hW:w3.putObj (w.heap.size+1) (.loop { state:=.exhausted,pending:=b,fn:=J,tmps:=u,params:=m,assign:=p,body:=r,defers:=l.blk t })=wE at *;clear hH hW;rcases b with _|j
      ·(change x = .normal at hp);subst hp;exact⟨l,G,C,rfl,trivial⟩
      cases j with
      | ret=>(change x = .ret at hp);subst hp;exact wpIn_ret ⟨l,G,C,rfl,trivial⟩
      | exit id=>(change x = .exit id at hp);subst hp;exact wpIn_exit ⟨l,G,C,rfl,trivial⟩
      | _=>exact hp.elim
     split at e
     .cases e
     rename_i R;cases b with
     | none=>simp only[oA,Out.done.injEq]at e;exact fin .normal (λh=>R h) (λ_ h=>by cases h) rfl e.1.symm e.2.symm
     | some j =>
      cases j with
      | ret=>simp only[oA,Out.done.injEq]at e;exact fin .ret (λh=>R h) (λ_ h=>by cases h) rfl e.1.symm e.2.symm
      | exit id=>simp only[oA,Out.done.injEq]at e;exact fin (.exit id) (λh=>R h) (λ_ h=>by cases h) rfl e.1.symm e.2.symm
      | _=>grind
    grind
   grind
 grind
theorem Ph{o:Oper}{ev:Uh}{h:H}{a:AN}{cl:Call}(b:o.op = .defer cl)(e:xS c o ev h=some a):∃d,a = .dfr d:=by
 grind[xS]
theorem rq{o:Oper}{ev:Uh}{h:H}{f:AN}(e:xS c o ev h=some f)(hd:rd.isSome=true->∀d,f≠.dfr d)(r:Nat->Nat)(a:Operand->Value):Oper.semAt (rd.map r) a o=execOp a o:=by
 rcases rd with _|l
 .rfl
 refine Oper.semAt_eq _ _ _ λi b=>?_
 obtain⟨d,g⟩:=Ph b e<;>grind
theorem jG(ok:CtxOK P c)(hor:jK P c orc){ih:Ue}(hih:jr P ih){o:Oper}{s s':St}{x:AX}(e:yG c orc rd.isSome ih o s=some (x,s')){ρ:Env}{D:Nat->Prop}{w:World}{a:Act}(k:StR ρ D s a w){next:Act->World->Prop}{Q:Exit->Act->World->Prop}(B:x = .normal->∀ρ' v w',Mv ρ D s.heap w ρ' s'.heap w'->(s.dfr=s'.dfr\/rd=none)->StR ρ' (Dx D s.heap s'.heap) s' v w'->next v w')(L:∀v,x = .panic v->∀ρ' w',Mv ρ D s.heap w ρ' s'.heap w'->StR ρ' (Dx D s.heap s'.heap) s' a w'->v.In (Dx D s.heap s'.heap)->Q (.panic [{ v:=v.conc ρ',recovered:=false }]) a w'):
  o.wpIn (Fx (rd.map ρ.blk)) 0 P a w next Q:=by
 refine⟨λ_ _=>trivial,?_⟩;unfold yG at e;rcases t:xS c o (yt s.tm) s.heap with _|N
 .grind
 have b:=rq (rd:=rd) t;have hs:=Kz (P:=P) (a:=a.eval) ok t k.hr (λy _ v p=>je k y v p);have put:∀(v:V) (h':H) (ρ':Env) (w':World) (g:St),wP s o.dst v h'=some g->Mv ρ D s.heap w ρ' h' w'->HR ρ' (Dx D s.heap h') h' w'->v.In (Dx D s.heap h') ->
   Mv ρ D s.heap w ρ' g.heap w'/\StR ρ' (Dx D s.heap g.heap) g (a.put o.dst (v.conc ρ')) w':=by
  intro v h' ρ' w' g hp m r p;rw[fC]at hp;have C:=k.step m r;have E:wP { s with heap:=h' } o.dst v ({ s with heap:=h' }:St).heap=some g:=hp;obtain⟨A,F⟩:=StR.put C p E<;>grind
 have j:∀(v:V) (h':H) (g:St),wP s o.dst v h'=some g->s.dfr=g.dfr:=by
  intro v h' g hp;unfold wP at hp
  grind
 simp only[t]at e;cases N with
 | val v h' =>
  rw[show(Fx (rd.map ρ.blk)).round=rd.map ρ.blk from rfl,b (λ_ _ h=>by cases h)];obtain⟨ρ',w',hr,m,r,p⟩:=hs;simp only at e;split at e
  .rename_i g hp;simp only[oA,oB]at e;obtain⟨rfl,rfl⟩:=e;obtain⟨G,A⟩:=put v h' ρ' w' _ hp m r p;rw[hr];exact B rfl _ _ _ G (.inl (j _ _ _ hp)) A
  grind
 | skip h' =>
  rw[show(Fx (rd.map ρ.blk)).round=rd.map ρ.blk from rfl,b (λ_ _ h=>by cases h)];obtain⟨w',hr,m,r⟩:=hs;simp only at e;split at e
  .rename_i g hp;simp only[oA,oB]at e;obtain⟨rfl,rfl⟩:=e;obtain⟨G,A⟩:=put zZ h' ρ w' _ hp m r (jH _);rw[hr];rw[wL]at A;exact B rfl _ _ _ G (.inl (j _ _ _ hp)) A
  grind
 | call f args =>
  rw[show(Fx (rd.map ρ.blk)).round=rd.map ρ.blk from rfl,b (λ_ _ h=>by cases h)];obtain⟨u,hr⟩:=hs;simp only at e;rcases i:Zd c orc ih f args s.heap with _|out
  .grind
  obtain⟨fi,I⟩:=br hor i;rw[hr,qi ok I];refine⟨λh=>by grind[Fx],bu none _ (CallsIn.mono (ZD ok hor hih i ρ D w k.hr u) ?_)⟩;simp only[i]at e;cases out with
  | ret v h' =>
   simp only at e;rintro M w' ⟨ρ',rfl,m,r,p⟩
   grind
  | panic v h'=>simp only[oA,oB]at e;obtain⟨rfl,rfl⟩:=e;rintro M w' ⟨ρ',rfl,m,r,p⟩;exact L v rfl ρ' w' m (k.step m r) p
 | round l args =>
  rw[show(Fx (rd.map ρ.blk)).round=rd.map ρ.blk from rfl,b (λ_ _ h=>by cases h)];obtain⟨hl,u,hr⟩:=hs;simp only at e;rcases n:roundF ih l args s.heap with _|out
  .grind
  simp only[n]at e;obtain⟨fn,tmps,y,z,O,R⟩:=YY hih n ρ D w k.hr hl u;rw[hr,O];refine⟨λh=>by grind[Fx],J8 none _ (RoundIn.mono R ?_)⟩;cases out with
  | ret v h' =>
   simp only at e;rintro M w' ⟨ρ',rfl,m,r,p⟩
   grind
  | panic v h'=>grind
 | dfr d =>
  cases rd with
  | some l=>grind
  | none =>
   obtain⟨J,hr⟩:=hs;simp only[Option.isSome_none,oO]at e;split at e
   .rename_i g hp;simp only[oA,oB]at e;obtain⟨rfl,rfl⟩:=e;rw[show(Fx (Option.map ρ.blk none)).round=none from rfl,Oper.semAt_none,hr];have C:StR ρ D { s with dfr:=d::s.dfr } { a with defers:=d.conc ρ::a.defers } w :=
     ⟨k.tm,by simp[k.dfr],λS K=>by rcases oq.1 K with rfl|q<;>first|exact J|exact k.dfrIn _ q,k.hr⟩
    obtain⟨A,F⟩:=StR.put (s':=g) C (jH D) hp;have F:g.heap=s.heap:=F;refine B rfl ρ _ w ?_ (.inr rfl) ?_
    .grind[Mv.refl]
    grind[zd,wL]
   grind
 | recover=>grind
 | pan v h'=>rw[show(Fx (rd.map ρ.blk)).round=rd.map ρ.blk from rfl,b (λ_ _ h=>by cases h)];obtain⟨rfl,p,hr⟩:=hs;simp only[oA,oB]at e;obtain⟨rfl,rfl⟩:=e;rw[hr];exact L v rfl ρ w (Mv.refl _ _ _ _) (by simp_all[zd]) (by grind[zd])
theorem jI{ρ:Env}{D:Nat->Prop}{s:St}{a:Act}{w:World}(k:StR ρ D s a w)(ops:Array Oper)(o:Oper):Region.wanted o (yielded ops a.tmps)=yO ops.toList s.tm o:=by
 unfold Region.wanted yO yielded;rcases o.guard with _|⟨j,e⟩
 .rfl
 simp only[Array.getElem?_toList];rcases ops[j]? with _|o'
 .simp
 simp only[Option.bind_some];rcases o'.dst with _|d
 .simp
 simp only[Option.bind_some];have xN:=k.tm.val d;rw[Array.getD_eq_getD_getElem?]at xN;cases b:a.tmps[d]? with
 | some y=>rw[b]at xN;simp only[Option.getD_some]at xN;simp only[xN];cases f:zq s.tm d<;>simp[V.conc]
 | none =>
  grind[V.conc,undef]
theorem Sv(ok:CtxOK P c)(hor:jK P c orc){ih:Ue}(hih:jr P ih){ops:Array Oper}:
  ∀(l:List Oper) (is:Uf),is.mapM (λi=>ops[i]?)=some l->∀{s s':St}{x:AX},Zp c orc rd.isSome ih ops.toList l s=some (.done x s') ->
  ∀{ρ0:Env}{D0:Nat->Prop}{d:St}{w0:World}{ρ:Env}{w:World}{a:Act},(∀id,D0 id->id<d.heap.nx)->(∀l,rd=some l->D0 l)->Mv ρ0 D0 d.heap w0 ρ s.heap w->StR ρ (Dx D0 d.heap s.heap) s a w ->
  wpOpsIn (Fx (rd.map ρ0.blk)) 0 P ops (Ends ρ0 D0 d w0 x s') is a w:=by
 intro l;induction l with
 | nil =>
  intro is f s s' x e ρ0 D0 d w0 ρ w a g hl m k;cases is with
  | nil=>simp only[Zp,oA,Out.done.injEq]at e;obtain⟨rfl,rfl⟩:=e;exact⟨ρ,m,k,rfl,trivial⟩
  | cons i is =>
   grind[Option.bind_eq_some_iff]
 | cons o l n =>
  intro is f s s' x e ρ0 D0 d w0 ρ w a g hl m k;rcases is with _|⟨i,is⟩
  .grind
  simp only[List.mapM_cons,Option.bind_eq_bind,Option.bind_eq_some_iff]at f;obtain⟨o',A,I,p,h⟩:=f;simp only[Option.pure_def,oA,List.cons.injEq]at h;obtain⟨rfl,rfl⟩:=h;simp only[wpOpsIn,A];rw[jI k];simp only[Zp]at e;cases hw:yO ops.toList s.tm o' with
  | true =>
   simp only[hw,oN]at e;rw[if_pos rfl];have B:∀l,rd=some l->Dx D0 d.heap s.heap l:=λq C=>.inl (hl q C)
   rw[<-km m.agree hl];split at e
   .rename_i s1 b;refine jG ok hor hih b k ?_ (λv r=>by cases r);intro _ ρ' a' w' j _ z;rw[km m.agree hl];rw[wn (D:=D0) m.nx j.nx]at z
    grind[Mv.trans]
   .rename_i y s1 E b;simp only[oA,Out.done.injEq]at e;obtain⟨rfl,rfl⟩:=e;refine jG ok hor hih b k (λF=>absurd F E) ?_;intro v r ρ' w' j z t;subst r;have u:=wn (D:=D0) m.nx j.nx;exact⟨ρ',Mv.trans g m j,by grind,rfl,by rw[<-u];exact t⟩
   grind
  | false =>
   simp only[hw,oO]at e;rw[if_neg (by simp)];split at e
   .rename_i s1 b;obtain⟨G,H⟩:=StR.put k (jH _) b;rw[wL]at G;exact⟨λ_ _=>trivial,n is p e g hl (by rw[H];exact m) (by grind)⟩
   grind
theorem vH(ops:Array Oper):(List.range ops.size).mapM (λi=>ops[i]?)=some ops.toList:=by
 have h:∀(l:List Oper) (p:List Oper),(List.range' p.length l.length).mapM (λi=>(p++l)[i]?)=some l:=by
  intro l;induction l with
  | nil=>grind
  | cons a l ih =>
   intro p;have:=ih (p++[a])
   simp_all[List.range'_succ]
 have:=h ops.toList []
 grind[List.range_eq_range']
end
def jF(tm:Tm)(d:Option Tmp)(v:V):Tm:=match d with|none=>tm|some t=>tm.set t v
theorem wX{s s':St}{d:Option Tmp}{v:V}{h:H}(e:wP s d v h=some s'):(∀t,d=some t->t<s.n)/\s' = { s with tm:=jF s.tm d v,heap:=h }:=by
 cases d with
 | none=>simp only[wP,oA]at e;exact⟨(λ_ h=>by cases h),e.symm⟩
 | some t =>
  unfold wP at e;rcases hb:Nat.blt t s.n with _|_
  .grind
  simp only[hb,oN,oA]at e;refine⟨λa h=>?_,e.symm⟩
  simp_all
theorem ZO{s:St}{d:Option Tmp}{v:V}{h:H}(hd:∀t,d=some t->t<s.n):wP s d v h=some { s with tm:=jF s.tm d v,heap:=h }:=by
 rcases d with _|t
 .rfl
 have a:Nat.blt t s.n=true:=(zW _ _).2 (hd t rfl);simp only[wP,a,oN,jF]
section
variable {P:Program}{c:Ctx}{orc:Nat->Ug->H->Option (V×H)}{rd:Option Nat}{ih:Ue}
theorem fL{r:Bool}{o:Oper}{s s':St}(e:yG c orc r ih o s=some (.normal,s')):
  ∃v,(∀t,o.dst=some t->t<s.n)/\s' = { n:=s.n,tm:=jF s.tm o.dst v,dfr:=s'.dfr,heap:=s'.heap } /\
   ∀a,(∀x∈o.op.operands,yt a x=yt s.tm x)->yG c orc r ih o { s with tm:=a } = some (.normal,{ s' with tm:=jF a o.dst v }):=by
 unfold yG at e ⊢;have m:∀a,(∀x∈o.op.operands,yt a x=yt s.tm x)->xS c o (yt a) s.heap=xS c o (yt s.tm) s.heap:=λa h=>Pg c h
 have fin:∀(p:St) (v:V) (h:H),p.n=s.n->p.tm=s.tm->(match wP p o.dst v h with|some s'=>some (AX.normal,s')|none=>none)=some (AX.normal,s') ->
   (∀t,o.dst=some t->t<s.n)/\s' = { n:=s.n,tm:=jF s.tm o.dst v,dfr:=s'.dfr,heap:=s'.heap }/\s'.dfr=p.dfr/\s'.heap=h:=by
  intro p v h y h2 e;split at e
  .rename_i z hp;simp only[oA,oB,true_and]at e;subst e;obtain⟨b,rfl⟩:=wX hp<;>grind
  grind
 rcases k:xS c o (yt s.tm) s.heap with _|w
 .grind
 simp only[k]at e;cases w with
 | val v h =>
  obtain⟨b,j,q,u⟩:=fin s v h rfl rfl e;refine⟨v,b,j,λa h2=>?_⟩;simp only[m a h2,k];rw[ZO (s:={ s with tm:=a }) b]
  grind
 | skip h =>
  obtain⟨b,j,q,u⟩:=fin s zZ h rfl rfl e;refine⟨zZ,b,j,λa h2=>?_⟩;simp only[m a h2,k];rw[ZO (s:={ s with tm:=a }) b]
  grind
 | call f args =>
  simp only at e;rcases i:Zd c orc ih f args s.heap with _|out
  .grind
  simp only[i]at e;cases out with
  | ret v h =>
   obtain⟨b,j,q,u⟩:=fin s v h rfl rfl e;refine⟨v,b,j,λa h2=>?_⟩;simp only[m a h2,k,i];rw[ZO (s:={ s with tm:=a }) b]
   grind
  | panic v h=>grind
 | round l args =>
  simp only at e;rcases g:roundF ih l args s.heap with _|out
  .grind
  simp only[g]at e;cases out with
  | ret v h =>
   obtain⟨b,j,q,u⟩:=fin s v h rfl rfl e;refine⟨v,b,j,λa h2=>?_⟩;simp only[m a h2,k,g];rw[ZO (s:={ s with tm:=a }) b]
   grind
  | panic v h=>grind
 | dfr d =>
  cases r with
  | true=>grind
  | false =>
   simp only[oO]at e;obtain⟨b,j,q,u⟩:=fin { s with dfr:=d::s.dfr } zZ s.heap rfl rfl e;refine⟨zZ,b,j,λa h2=>?_⟩;simp only[m a h2,k,oO];rw[ZO (s:={ s with tm:=a,dfr:=d::s.dfr }) b]
   grind
 | recover=>grind
 | pan v h=>grind
def low0(h:H):H:={ h with low:=T.top }
def zG2(s s':St):St:={ s' with heap:={ s'.heap with low:=cond (Nat.ble s.heap.low s'.heap.low) s.heap.low s'.heap.low } }
def Rp(c:Ctx)(orc:Nat->Ug->H->Option (V×H))(r:Bool)(ih:Ue)(ops:List Oper)(bs:Uf)(m k:Nat)(o:Oper)(s s1:St):Prop :=
 (yO ops s.tm o=false/\wP s o.dst zZ s.heap=some s1) \/
 (yO ops s.tm o=true/\∃a,yG c orc r ih o { s with heap:=low0 s.heap } = some (.normal,a)/\(s.heap.nx<=a.heap.low\/kD ops bs m k s.tm o=true)/\a.dfr=s.dfr/\s1=zG2 s a)
theorem Wl:∀{l l':List AD},ZR l l'=true->l.length=l'.length:=by
 intro l;induction l with
 | nil=>grind[ZR]
 | cons a l ih=>intro l' h;cases l'<;>grind[ZR]
theorem RT{r:Bool}{o:Oper}{s s':St}(e:yG c orc r ih o s=some (.normal,s')):s'.dfr=s.dfr\/∃d,s'.dfr=d::s.dfr:=by
 unfold yG at e;have fin:∀(a:St) (v:V) (h:H),(match wP a o.dst v h with|some s'=>some (AX.normal,s')|none=>none)=some (AX.normal,s')->s'.dfr=a.dfr:=by
  intro a v h e;split at e
  .rename_i b hp;simp only[oA,oB,true_and]at e;subst e;obtain⟨_,rfl⟩:=wX hp;rfl
  grind
 split at e
 .cases e
 .exact .inl (fin _ _ _ e)
 .exact .inl (fin _ _ _ e)
 .split at e
  .exact .inl (fin _ _ _ e)
  .grind
  grind
 .split at e
  .exact .inl (fin _ _ _ e)
  grind
 .cases r with
  | true=>grind
  | false=>exact .inr ⟨_,fin _ _ _ e⟩
 .grind
 grind
theorem SW{r:Bool}{ops:List Oper}{bs:Uf}{m n k:Nat}{o:Oper}{l:List Oper}{s f:St}{x:AX}(e:kO c orc r ih ops bs m (n+1) k (o::l) s=some (.done x f)):
  ∃s1,Rp c orc r ih ops bs m k o s s1/\kO c orc r ih ops bs m n (k+1) l s1=some (.done x f):=by
 simp only[kO]at e;cases hw:yO ops s.tm o with
 | false =>
  simp only[hw,oO]at e;split at e
  .rename_i s1 hp;exact⟨s1,.inl ⟨hw,hp⟩,e⟩
  grind
 | true =>
  simp only[hw,oN]at e;split at e
  .rename_i a hs;rcases b:(Nat.ble s.heap.nx a.heap.low || kD ops bs m k s.tm o) with _|_
   .grind
   simp only[b,oN]at e;rcases hd:ZR s.dfr a.dfr with _|_
   .grind
   simp only[hd,oN]at e;simp only[Bool.or_eq_true]at b;refine⟨_,.inr ⟨hw,a,hs,b.imp oG id,?_,rfl⟩,e⟩;have g:=Wl hd;rcases RT hs with h|⟨d,h⟩<;>grind
  grind
def kL(s s1:St):Prop:=∀id,id<s.heap.nx->s1.heap.get id=s.heap.get id
structure AF (ops:List Oper) (bs:Uf) (m k:Nat) (o:Oper) (s s1:St):Prop where
 n:s1.n=s.n
 cap:s1.heap.nx<=T.top
 inn:∀t,(zq s.tm t).In λid=>id<s.heap.nx
 dfr:s1.dfr=s.dfr
 tm:∃v,(∀t,o.dst=some t->t<s.n)/\s1.tm=jF s.tm o.dst v
 nx:s.heap.nx<=s1.heap.nx
 low:s1.heap.low<=s.heap.low
 old:∀id o',id<s.heap.nx->s1.heap.get id=some o'->∃o,s.heap.get id=some o/\o'.wr=o.wr
 kept:∀id,id<s.heap.nx->id<s1.heap.low->s1.heap.get id=s.heap.get id
 wr:∀id o',s.heap.nx<=id->id<s1.heap.nx->s1.heap.get id=some o'->o'.wr=true
 eff:kL s s1\/(∃b,(∀id,id<s.heap.nx->id≠b->s1.heap.get id=s.heap.get id) /\
  (∀i oi,i<k->ops[i]? = some oi->Nat.testBit (bs.getD k 0) i=true\/(wp s.tm b oi=true/\∀j oj t,i<=j->j<k->ops[j]? = some oj->oj.dst=some t->t∉wF ops oi)) /\
  (∀i oi,k<i->i<m->ops[i]? = some oi->Nat.testBit (bs.getD i 0) k=true\/qN oi=true)) \/
  ((∀i oi,i<k->ops[i]? = some oi->Nat.testBit (bs.getD k 0) i=true\/(Yr oi=true/\∀j oj t,i<=j->j<k->ops[j]? = some oj->oj.dst=some t->t∉wF ops oi)) /\
  (∀i,k<i->i<m->Nat.testBit (bs.getD i 0) k=true))
theorem HR.low0{ρ:Env}{D:Nat->Prop}{h:H}{w:World}(r:HR ρ D h w):HR ρ D (low0 h) w:=⟨r.cap,r.lt,r.rel,r.inj⟩
theorem IH{F:Fence}{ops:Array Oper}{Q:Exit->Act->World->Prop}{is:Uf}{a:Act}{w:World}(b:∀n,F.room n)(d:∀f,F.fn f)(h:wpOpsIn F 0 P ops Q is a w):∃e a' w',Q e a' w':=by obtain⟨e,a',w',q,_⟩:=wp_opsIn is a w h { (default:Frame)with roundOf:=F.round } [] [] rfl (d _) (b _)<;>grind
theorem Lm{r:Bool}{o:Oper}{s s':St}{t:TypeId}{a x:Operand}{b o':Nat}(e:yG c orc r ih o s=some (.normal,s'))(d:o.op = .store t a x)(f:yt s.tm a=some (.ptr b o'))(hb:b<T.top):
  s'.heap.nx=s.heap.nx/\∀id,id≠b->s'.heap.get id=s.heap.get id:=by
 unfold yG at e;rcases g:yt s.tm x with _|v
 .grind[xS]
 rcases hs:jP c t s.heap (.ptr b o') v with _|h'
 .grind[xS]
 simp only[xS,d,f,g,hs]at e;have h:s'.heap=h':=by
  split at e
  .rename_i k hp;simp only[oA,oB,true_and]at e;subst e;obtain⟨_,rfl⟩:=wX hp<;>grind
  grind
 rw[h];unfold jP at hs;simp only at hs;split at hs
 .split at hs
  .rename_i ti _;rcases i:we v.cells ti.size with _|_
   .grind
   rename_i esz _ _ _ _;rcases h2:cond (Nat.ble esz.fz o') (zU v.cells) false with _|_
   .grind
   rw[i,oN,h2,oN]at hs;split at hs
   .simp only[oA]at hs;subst hs;exact⟨rfl,λid j=>by simp_all[H.get_upd]⟩
   grind
  grind
 grind
theorem BM{r:Bool}{o:Oper}{s s':St}{t:TypeId}{a x y:Operand}{b:Nat}(e:yG c orc r ih o s=some (.normal,s'))(f:o.op = .mapUpdate t a x y)(g:yt s.tm a=some (.map b))(hb:b<T.top):
  s'.heap.nx=s.heap.nx/\∀id,id≠b->s'.heap.get id=s.heap.get id:=by
 unfold yG at e;cases h:yt s.tm x with
 | none=>grind[xS]
 | some u =>
 rcases i:yt s.tm y with _|v
 .grind[xS]
 rcases hs:Y8 c t s.heap (.map b) u v with _|h'
 .grind[xS]
 simp only[xS,f,g,h,i,hs]at e;have j:s'.heap=h':=by
  split at e
  .rename_i m hp;simp only[oA,oB,true_and]at e;subst e;obtain⟨_,rfl⟩:=wX hp<;>grind
  grind
 rw[j];have key:∀d,h'=s.heap.upd b d->h'.nx=s.heap.nx/\∀id,id≠b->h'.get id=s.heap.get id:=by intro d k;subst k;exact⟨rfl,λid l=>by simp_all[H.get_upd]⟩
 unfold Y8 at hs;split at hs<;>grind
theorem pM{k:Rk}{te:TI}{h h':H}{q:Option Cs}{a:Nat}{v:V}(e:jD k te h q a=some (v,h')):∀id,id<h.nx->h'.get id=h.get id:=by
 unfold jD kJ at e;cases b:Nat.ble (a*te.bytes) 1099511627776 with
 | false=>grind
 | true =>
 cases h2:Nat.blt h.nx T.top with
 | false=>grind
 | true =>
 rcases q with _|cs
 .grind
 simp only[b,h2,oN,oA,oB]at e;obtain⟨_,rfl⟩:=e;intro id d;rw[H.get_new _ _ _ ((zW _ _).1 h2),if_neg dd]
theorem tN{h h':H}{b o len esz a:Nat}{cp:Cap}{l:Cs}{z:Rk}{op:Bool}{new:Ug}{v:V}(e:qh h b o len cp esz a l z op new=some (v,h'))(hb:b<T.top):∀id,id≠b->h'.get id=h.get id:=by
 unfold qh at e;split at e
 .rcases d:Nat.ble z.fz (o+len*esz) with _|_
  .grind
  simp only[d,oN,oA,oB]at e;obtain⟨_,rfl⟩:=e
  simp_all[H.get_upd]
 grind
theorem tP{te:TI}{h h':H}{n b o len:Nat}{cp:Cap}{new:Ug}{v:V}(e:appTo te h n new (.slice b o len cp)=some (v,h'))(hb:b<T.top):∀id,id<h.nx->id≠b->h'.get id=h.get id:=by
 intro id a f;unfold appTo at e;simp only at e;split at e
 .rename_i l z wr op _;split at e
  .rename_i k;unfold jO at e;cases d:Nat.ble (len+n) k with
   | true =>
    rcases h2:wr && zU new with _|_
    .grind
    cases h3:Nat.beq n 0 with
    | true=>grind
    | false=>simp only[d,h2,h3,oN,oO]at e;grind[tN]
   | false=>simp only[d,oO]at e;grind[pM]
  rename_i k;unfold kX at e;generalize (wr && op && Nat.beq te.size z.n && Nat.beq o (k*te.size) && zU new && Nat.ble (o+len*te.size) l.len)=q at e;rcases q with _|_
  .cases e
  cases h3:Nat.beq n 0 with
  | true=>grind
  | false =>
   simp only[h3,oN,oO]at e;split at e
   .grind[tN]
   unfold Yh at e;generalize (Nat.beq k 0 && Nat.beq l.len (o+len*te.size) && Nat.ble z.fz (o+len*te.size) && (Nat.beq z.ty 0 || Nat.beq z.ty (te.id+1)))=q at e;rcases q with _|_
   .cases e
   have:=pM e id a
   simp_all[qq,H.get_upd]
 grind
theorem aK{t tx:TypeId}{h h':H}{b o len:Nat}{cp:Cap}{x v:V}(e:YE c tx t h (.slice b o len cp) x=some (v,h'))(hb:b<T.top):∀id,id<h.nx->id≠b->h'.get id=h.get id:=by
 have f:∀{x:V},zi c t h (.slice b o len cp) x=some (v,h')->∀id,id<h.nx->id≠b->h'.get id=h.get id:=by
  intro x e;unfold zi at e;split at e
  .split at e
   .split at e
    .rename_i a _;rcases d:jo a with _|_
     .grind
     rw[d,oN]at e
     grind[tP]
    grind
   grind
  grind
 have g:∀{x:V},Xs c t h (.slice b o len cp) x=some (v,h')->∀id,id<h.nx->id≠b->h'.get id=h.get id:=by
  intro x e;unfold Xs at e;split at e
  .split at e
   .split at e
    .rename_i a _;generalize (jo a && Nat.beq a.size 1)=q at e;rcases q with _|_
     .cases e
     rw[oN]at e;split at e
     .rename_i k z _;generalize Nat.ble (k*a.bytes) 1099511627776=q at e;rcases q with _|_
      .cases e
      rw[oN]at e
      grind[tP]
     grind
    grind
   grind
  grind
 grind[YE]
theorem Ep{r:Bool}{o:Oper}{s s':St}{args:Array Operand}{d:Array TypeId}{a:Operand}{rs:List Operand}{b o' n:Nat}{cp:Cap}(e:yG c orc r ih o s=some (.normal,s'))(q:o.op = .call ⟨.builtin .append,args,d⟩)(f:args.toList=a::rs)(j:yt s.tm a=some (.slice b o' n cp))(hb:b<T.top):
  ∀id,id<s.heap.nx->id≠b->s'.heap.get id=s.heap.get id:=by
 unfold yG at e;have k:xS c o (yt s.tm) s.heap=wo c ⟨.builtin .append,args,d⟩ (yt s.tm) s.heap:=by grind[xS]
 rw[k]at e;unfold wo at e;simp only[f,Xw,j]at e;rcases l:Xw (yt s.tm) rs with _|g
 .grind
 simp only[l]at e;cases g with
 | nil=>grind
 | cons x g =>
 cases g with
 | cons _ _=>grind
 | nil =>
 cases m:d.toList with
 | nil=>grind
 | cons t h =>
 cases h with
 | nil=>grind
 | cons tx i =>
 cases i with
 | cons _ _=>grind
 | nil =>
  simp only[m]at e;rcases p:YE c tx t s.heap (.slice b o' n cp) x with _|⟨v,h'⟩
  .grind[AN.ofVH]
  simp only[p,AN.ofVH]at e;split at e
  .rename_i u hp;simp only[oA,oB,true_and]at e;subst e;obtain⟨_,rfl⟩:=wX hp
   grind[aK]
  grind
theorem TB(ok:CtxOK P c)(hor:jK P c orc)(hih:jr P ih){ops:Array Oper}{bs:Uf}{m k:Nat}{o:Oper}{s s1:St}(C:ops[k]? = some o)(hs:Rp c orc rd.isSome ih ops.toList bs m k o s s1){ρ:Env}{D:Nat->Prop}{a:Act}{w:World}(kk:StR ρ D s a w)(_:∀l,rd=some l->D l):
  AF ops.toList bs m k o s s1/\∃ρ' a' w',StR ρ' (Dx D s.heap s1.heap) s1 a' w':=by
 rcases hs with⟨hw,hp⟩|⟨hw,d,p,f,hd,rfl⟩
 .obtain⟨y,rfl⟩:=wX hp;obtain⟨E,K⟩:=StR.put kk (jH _) hp;refine⟨⟨rfl,kk.hr.cap,λt=>V.In_mono kk.hr.lt _ (kk.tm.inn t),rfl,⟨zZ,y,rfl⟩,oR _,oR _,λid o' _ h=>⟨o',h,rfl⟩,λ_ _ _=>rfl,λid o' e h2=>by have:id<s.heap.nx:=h2;omega,.inl λ_ _=>rfl⟩,ρ,a.put o.dst (V.conc ρ zZ),w,?_⟩;have:Dx D s.heap ({ s with tm:=jF s.tm o.dst zZ,heap:=s.heap }:St).heap=D:=zd;rw[this];exact E
 have k0:StR ρ D { s with heap:=low0 s.heap } a w:=⟨kk.tm,kk.dfr,kk.dfrIn,kk.hr.low0⟩
 have z:wpOpsIn (Fx (rd.map ρ.blk)) 0 P ops (λ_ a' w'=>∃ρ',Mv ρ D (low0 s.heap) w ρ' d.heap w'/\StR ρ' (Dx D s.heap d.heap) d a' w') [k] a w:=by simp only[wpOpsIn,C];rw[if_pos (by rw[jI kk];exact hw)];refine jG ok hor hih p k0 (λ_ ρ' a' w' F _ j=>⟨ρ',F,j⟩) (λv G=>by cases G)
 obtain⟨_,a',w',ρ',q,j⟩:=IH (Ro _) (λ_=>trivial) z;obtain⟨v,y,B,_⟩:=fL p;have H:s.heap.nx<=d.heap.nx:=q.nx;refine⟨⟨by rw[B];rfl,j.hr.cap,λt=>V.In_mono kk.hr.lt _ (kk.tm.inn t),hd,⟨v,y,by rw[B];rfl⟩,H,?_,q.old,?_,?_,?_⟩,ρ',a',w',?_⟩
 .show cond (Nat.ble s.heap.low d.heap.low) s.heap.low d.heap.low<=s.heap.low;cases hb:Nat.ble s.heap.low d.heap.low with
  | true=>exact oR _
  | false =>
   rw[oO];rcases Nat.le_total s.heap.low d.heap.low with g|g
   .rw[oE g]at hb;cases hb
   exact g
 .intro id e h2;refine q.kept id e ?_;have h2:id<cond (Nat.ble s.heap.low d.heap.low) s.heap.low d.heap.low:=h2;cases hb:Nat.ble s.heap.low d.heap.low with
  | true=>rw[hb,oN]at h2;exact oL h2 (oG hb)
  | false=>rw[hb,oO]at h2;exact h2
 .intro id o' e h2 h3;exact(q.img id o' e h2 h3).1
 .rcases f with f|i
  .exact .inl λid r=>q.kept id r (oL r f)
  have u:XN ops.toList bs m k s.tm o=true\/Jd ops.toList bs m k=true:=by simpa [kD]using i
  rcases u with i|i
  case inr =>
   obtain⟨e,h2⟩:=TZ i;exact .inr (.inr ⟨e,h2⟩)
  obtain⟨b,x,h3,h4⟩:=tG i;have A:D b:=by
   rcases x with⟨_,_,_,_,_,h2⟩|⟨_,_,_,_,_,h2⟩|⟨_,_,_,_,_,_,_,_,_,h2⟩
   all_goals
    have:=(je kk _ _ h2).2;simpa [V.In]using this
  have n:b<T.top:=oL (kk.hr.lt b A) kk.hr.cap;have I:∀id,id<s.heap.nx->id≠b->d.heap.get id=(low0 s.heap).get id:=by
   rcases x with⟨_,_,_,_,e,h2⟩|⟨_,_,_,_,e,h2⟩|⟨_,_,_,_,_,_,_,e,h2,J⟩
   .exact λid _=>(Lm (s:={ s with heap:=low0 s.heap }) p e h2 n).2 id
   .exact λid _=>(BM (s:={ s with heap:=low0 s.heap }) p e h2 n).2 id
   exact Ep (s:={ s with heap:=low0 s.heap }) p e h2 J n
  exact .inr (.inl ⟨b,I,h3,h4⟩)
 exact⟨j.tm,j.dfr,j.dfrIn,⟨j.hr.cap,j.hr.lt,j.hr.rel,j.hr.inj⟩⟩
theorem zGe(ok:CtxOK P c)(hor:jK P c orc)(hih:jr P ih){ops:Array Oper}{bs:Uf}{m:Nat}{x:AX}{p:St}:∀(n k:Nat) (l:List Oper) (s:St),kO c orc rd.isSome ih ops.toList bs m n k l s=some (.done x p) ->
  l=ops.toList.drop k->n<=l.length->∀{ρ:Env}{D:Nat->Prop}{a:Act}{w:World},StR ρ D s a w->(∀l,rd=some l->D l) ->
  ∃st:Nat->St,st 0=s/\(∀i,i<n->∃o,ops[k+i]? = some o/\Rp c orc rd.isSome ih ops.toList bs m (k+i) o (st i) (st (i+1))/\AF ops.toList bs m (k+i) o (st i) (st (i+1))) /\
   (∀i,i<n->∃ρ' a' w',StR ρ' (Dx D s.heap (st i).heap) (st i) a' w') /\
   Zp c orc rd.isSome ih ops.toList (ops.toList.drop (k+n)) (st n)=some (.done x p):=by
 intro n;induction n with
 | zero =>
  intro k l s e hl _ ρ D a w _ _;refine⟨λ_=>s,rfl,λi hi=>dd,λi hi=>dd,?_⟩;rw[Nat.add_zero,<-hl]
  grind[kO,Zp]
 | succ n d =>
  intro k l s e hl A ρ D a w kk hr;rcases l with _|⟨o,l⟩
  .grind
  obtain⟨s1,hs,r⟩:=SW e;have t:ops[k]? = some o:=by
   have:(ops.toList.drop k)[0]? = some o:=by grind
   grind
  have f:l=ops.toList.drop (k+1):=by
   have:=congrArg (List.drop 1) hl
   grind[List.drop_drop]
  obtain⟨u,ρ',a',w',v⟩:=TB ok hor hih t hs kk hr;obtain⟨st,B,y,h3,h2⟩:=d (k+1) l s1 r f (by grind) v (λl hl=>.inl (hr l hl));have b:∀i,i<=n->s1.heap.nx<=(st i).heap.nx:=by
   intro i;induction i with
   | zero=>grind
   | succ i g=>intro hi;obtain⟨_,_,_,h⟩:=y i dd;exact oS (g dd) h.nx
  refine⟨λi=>match i with|0=>s|i+1=>st i,rfl,?_,?_,?_⟩
  .grind
  .intro i hi;rcases i with _|i
   .grind[zd]
   obtain⟨j,a2,z,q⟩:=h3 i dd;refine⟨j,a2,z,?_⟩;rw[wn u.nx (b i dd)]at q;exact q
  grind
end
section
variable {P:Program}{c:Ctx}{orc:Nat->Ug->H->Option (V×H)}{rd:Option Nat}{ih:Ue}
theorem uF(ok:CtxOK P c)(hor:jK P c orc)(hih:jr P ih){o:Oper}{s s':St}(e:yG c orc rd.isSome ih o s=some (.normal,s'))(hd:s'.dfr=s.dfr){ρ:Env}{D:Nat->Prop}{w:World}{a:Act}(A:∀x∈o.op.operands,∀v,yt s.tm x=some v->a.eval x=v.conc ρ/\v.In D)(hr:HR ρ D s.heap w){next:Act->World->Prop}{Q:Exit->Act->World->Prop}(u:∀ρ' v w',Mv ρ D s.heap w ρ' s'.heap w'->HR ρ' (Dx D s.heap s'.heap) s'.heap w'->v.In (Dx D s.heap s'.heap)->s'.tm=jF s.tm o.dst v->next (a.put o.dst (v.conc ρ')) w'):
  o.wpIn (Fx (rd.map ρ.blk)) 0 P a w next Q:=by
 refine⟨λ_ _=>trivial,?_⟩;unfold yG at e;rcases i:xS c o (yt s.tm) s.heap with _|C
 .simp[i]at e
 have j:=rq (rd:=rd) i;have hs:=Kz (P:=P) (a:=a.eval) ok i hr A;simp only[i]at e;have fin:∀(v:V) (h:H),(match wP s o.dst v h with|some s'=>some (AX.normal,s')|none=>none)=some (AX.normal,s')->s'.tm=jF s.tm o.dst v/\s'.heap=h:=by
  intro v h e;split at e
  .rename_i E hp;simp only[oA,oB,true_and]at e;subst e;obtain⟨k,rfl⟩:=wX hp;exact⟨rfl,rfl⟩
  cases e
 cases C with
 | val v h'=>rw[show(Fx (rd.map ρ.blk)).round=rd.map ρ.blk from rfl,j (λ_ _ h=>by cases h)];obtain⟨ρ',w',hr,m,r,q⟩:=hs;obtain⟨k,rfl⟩:=fin v h' e;rw[hr];exact u _ _ _ m r q k
 | skip h'=>rw[show(Fx (rd.map ρ.blk)).round=rd.map ρ.blk from rfl,j (λ_ _ h=>by cases h)];obtain⟨w',hr,m,r⟩:=hs;obtain⟨k,rfl⟩:=fin zZ h' e;rw[hr];have:=u _ _ _ m r (jH _) k;rw[wL]at this;exact this
 | call f args =>
  rw[show(Fx (rd.map ρ.blk)).round=rd.map ρ.blk from rfl,j (λ_ _ h=>by cases h)];obtain⟨n,p⟩:=hs;simp only at e;rcases b:Zd c orc ih f args s.heap with _|out
  .simp[b]at e
  obtain⟨fi,B⟩:=br hor b;rw[p,qi ok B];refine⟨λh=>by simp[Fx]at h,bu none _ (CallsIn.mono (ZD ok hor hih b ρ D w hr n) ?_)⟩;simp only[b]at e;cases out with
  | ret v h'=>obtain⟨k,rfl⟩:=fin v h' e;rintro F w' ⟨ρ',rfl,m,r,q⟩;exact u _ _ _ m r q k
  | panic v h'=>simp at e
 | round l args =>
  rw[show(Fx (rd.map ρ.blk)).round=rd.map ρ.blk from rfl,j (λ_ _ h=>by cases h)];obtain⟨hl,n,p⟩:=hs;simp only at e;rcases g:roundF ih l args s.heap with _|out
  .simp[g]at e
  simp only[g]at e;obtain⟨fn,tmps,y,z,G,I⟩:=YY hih g ρ D w hr hl n;rw[p,G];refine⟨λh=>by simp[Fx]at h,J8 none _ (RoundIn.mono I ?_)⟩;cases out with
  | ret v h'=>obtain⟨k,rfl⟩:=fin v h' e;rintro F w' ⟨ρ',rfl,m,r,q⟩;exact u _ _ _ m r q k
  | panic v h'=>simp at e
 | dfr d =>
  exfalso;cases t:rd.isSome with
  | true=>simp[t]at e
  | false =>
   simp only[t,oO]at e;split at e
   .rename_i E hp;simp only[oA,oB,true_and]at e;subst e;obtain⟨k,rfl⟩:=wX hp;have:=congrArg List.length hd;simp at this
   cases e
 | recover=>simp at e
 | pan v h'=>simp at e
def Env.mix(n : Nat)(ρ' ρ : Env): Env :=
  { blk := λid => if id < n then ρ'.blk id else ρ.blk id
    off := λid => if id < n then ρ'.off id else ρ.off id
    cap := λid => if id < n then ρ'.cap id else ρ.cap id }
def DS(D0:Nat->Prop)(st:Nat->St)(S:Nat->Prop):Nat->Prop:=λid=>D0 id\/∃j,S j/\(st j).heap.nx<=id/\id<(st (j+1)).heap.nx
structure Base (P:Program) (c:Ctx) (orc:Nat->Ug->H->Option (V×H)) (rd:Option Nat) (ih:Ue) (ops:Array Oper) (m:Nat) (st:Nat->St) (ρ0:Env) (D0:Nat->Prop) (a0:Act) (w0:World):Prop where
 ok:CtxOK P c
 hor:jK P c orc
 hih:jr P ih
 hm:j8 ops.toList=some m
 hs:∀i,i<m->∃o,ops[i]? = some o/\Rp c orc rd.isSome ih ops.toList (yE ops.toList []) m i o (st i) (st (i+1))/\AF ops.toList (yE ops.toList []) m i o (st i) (st (i+1))
 k0:StR ρ0 D0 (st 0) a0 w0
 kt:∀i,i<m->∃ρ' a' w',StR ρ' (Dx D0 (st 0).heap (st i).heap) (st i) a' w'
 hl:∀l,rd=some l->D0 l
def E9(ops:Array Oper)(st:Nat->St)(S:Nat->Prop)(tm:Tm):Prop :=
 ∀t,(∃j o,S j/\ops[j]? = some o/\o.dst=some t/\(∀a o',S a->ops[a]? = some o'->o'.dst=some t->a<=j)/\zq tm t=zq (st (j+1)).tm t) \/
  ((∀j o,S j->ops[j]? = some o->o.dst≠some t)/\zq tm t=zq (st 0).tm t)
variable {ops:Array Oper}{m:Nat}{st:Nat->St}{ρ0:Env}{D0:Nat->Prop}{a0:Act}{w0:World}
namespace Base
variable (B:Base P c orc rd ih ops m st ρ0 D0 a0 w0)
include B
theorem next_mono:∀{p q:Nat},p<=q->q<=m->(st p).heap.nx<=(st q).heap.nx:=by
 intro p q a;induction a with
 | refl=>omega
 | step h ih=>intro b;obtain⟨o,_,_,d⟩:=B.hs _ b;exact oS (ih dd) d.nx
theorem low_mono:∀{q:Nat},q<=m->(st q).heap.low<=(st 0).heap.low:=by
 intro q;induction q with
 | zero=>omega
 | succ q ih=>intro a;obtain⟨o,_,_,b⟩:=B.hs _ a;exact oS b.low (ih dd)
theorem n_eq:∀{q:Nat},q<=m->(st q).n=(st 0).n:=by
 intro q;induction q with
 | zero=>omega
 | succ q ih=>intro a;obtain⟨o,_,_,b⟩:=B.hs _ a;exact b.n.trans (ih dd)
theorem dfr_eq:∀{q:Nat},q<=m->(st q).dfr=(st 0).dfr:=by
 intro q;induction q with
 | zero=>grind
 | succ q ih=>intro a;obtain⟨o,_,_,b⟩:=B.hs _ a;exact b.dfr.trans (ih dd)
theorem cap:∀{q:Nat},q<=m->(st q).heap.nx<=T.top:=by
 intro q a;rcases q with _|q
 .exact B.k0.hr.cap
 obtain⟨o,_,_,b⟩:=B.hs _ a;exact b.cap
theorem same_range{id:Nat}:∀{p q:Nat},p<=q->q<=m->id<(st p).heap.nx->(∀i,p<=i->i<q->id<(st i).heap.nx->(st (i+1)).heap.get id=(st i).heap.get id)->(st q).heap.get id=(st p).heap.get id:=by
 intro p q d;induction d with
 | refl=>intro _ _ _;rfl
 | @step q h ih=>intro f a b;have hp:p<=q:=h;rw[b q hp dd (oL a (B.next_mono hp dd))];exact ih dd a λi e h2 h3=>b i e dd h3
theorem quiet_range{p q:Nat}(a:p<=q)(e:q<=m)(b:∀i,p<=i->i<q->kL (st i) (st (i+1))){id:Nat}(d:id<(st p).heap.nx):(st q).heap.get id=(st p).heap.get id :=
 B.same_range a e d λi f h2 h3=>b i f h2 id h3
theorem old_range{id:Nat}{o':O}:∀{p q:Nat},p<=q->q<=m->id<(st p).heap.nx->(st q).heap.get id=some o'->∃o,(st p).heap.get id=some o/\o'.wr=o.wr:=by
 intro p q a;induction a generalizing o' with
 | refl=>grind
 | @step q h ih=>intro d b e;have hp:p<=q:=h;obtain⟨o,_,_,f⟩:=B.hs _ d;obtain⟨g,i,h2⟩:=f.old id o' (oL b (B.next_mono hp dd)) e<;>grind
theorem kept_range{id:Nat}:∀{q:Nat},q<=m->id<(st 0).heap.nx->id<(st q).heap.low->(st q).heap.get id=(st 0).heap.get id:=by
 intro q;induction q with
 | zero=>intro _ _ _;rfl
 | succ q ih=>intro d a h2;obtain⟨o,_,_,b⟩:=B.hs _ d;rw[b.kept id (oL a (B.next_mono (oM _) dd)) h2];exact ih dd a (oL h2 b.low)
omit B in
theorem born{id:Nat}:∀{q:Nat},(st 0).heap.nx<=id->id<(st q).heap.nx->∃j,j<q/\(st j).heap.nx<=id/\id<(st (j+1)).heap.nx:=by
 intro q;induction q with
 | zero=>intro a h2;omega
 | succ q ih =>
  intro a h2;rcases Nat.lt_or_ge id (st q).heap.nx with g|g
  .obtain⟨j,h3,h4⟩:=ih a g;exact⟨j,dd,h4⟩
  exact⟨q,dd,g,h2⟩
theorem rows:XJ ops.toList (yE ops.toList []) 0 ops.toList=true:=by
 have a:=B.hm;unfold j8 at a
 grind
theorem hmeq:m=j6 (yE ops.toList []) ops.toList.length:=by
 have a:=B.hm;unfold j8 at a
 grind
theorem m_le:m<=ops.size:=by have:=nA (yE ops.toList []) ops.toList.length;rw[<-B.hmeq]at this;omega
theorem apart{i j:Nat}{oi oj:Oper}(b:i<j)(hi:ops[i]? = some oi)(f:ops[j]? = some oj):Nat.testBit ((yE ops.toList []).getD j 0) i=true \/
  (∀d,oi.dst=some d->d∉wF ops.toList oj/\oj.dst≠some d)/\∀d,oj.dst=some d->d∉wF ops.toList oi:=by
 have a:=(pX _ 0 B.rows j oj (by grind)).1;rw[Nat.zero_add]at a;have h2:=RH _ 0 a i oi dd (by grind);rw[Nat.zero_add]at h2;refine h2.imp id λh3=>?_
 simp only[QL,Bool.or_eq_false_iff]at h3;refine⟨λd hd=>?_,λd hd=>?_⟩
 .rw[hd]at h3;simp only[Bool.or_eq_false_iff]at h3;refine⟨λhm=>?_,λe=>?_⟩
  .grind[Yx]
  simp_all
 grind[Yx]
theorem tm_range{t:Nat}:∀{p q:Nat},p<=q->q<=m->(∀i o,p<=i->i<q->ops[i]? = some o->o.dst≠some t)->zq (st q).tm t=zq (st p).tm t:=by
 intro p q a;induction a with
 | refl=>intro _ _;rfl
 | @step q h ih =>
  intro g hw;obtain⟨o,j,_,k⟩:=B.hs _ g;obtain⟨v,l,n⟩:=k.tm;rw[n,<-ih dd λi o r h2=>hw i o r dd];rcases hd:o.dst with _|d
  .rfl
  have b:t≠d:=λe=>hw q o h dd j (by rw[hd,e])
  have f:d<Tb.top:=by have:=l d hd;rw[B.n_eq dd]at this;exact oL this B.k0.tm.cap
  simp only[jF];rw[xB _ _ _ _ f,if_neg b]
end Base
end
def gat(st:Nat->St)(id:Nat):Nat->Nat->Option O
 | 0,J=>(st J).heap.get id
 | f+1,J=>if id<(st J).heap.nx then (st J).heap.get id else gat st id f (J+1)
def YD(st:Nat->St)(m J id:Nat):Option O:=gat st id (m-J) J
theorem qc{st:Nat->St}{m J id:Nat}(h:id<(st J).heap.nx):YD st m J id=(st J).heap.get id:=by unfold YD;cases m-J<;>simp_all[gat]
theorem I2{st:Nat->St}{m J id:Nat}(h:J<m)(h2:(st J).heap.nx<=id):YD st m J id=YD st m (J+1) id:=by unfold YD;rw[show m-J=m-(J+1)+1 from dd,gat,if_neg dd]
theorem I4{st:Nat->St}{m id J:Nat}:∀{j:Nat},J<=j->j<=m->(∀q,J<=q->q<j->(st q).heap.nx<=id)->YD st m J id=YD st m j id:=by intro j h;induction h<;>grind[I2]
structure HG (ρ:Env) (D:Nat->Prop) (F:Nat->Option O) (w:World):Prop where
 rel:∀id o,D id->F id=some o->ORel ρ D id o w.heap[ρ.blk id]?
 inj:∀i j oi oj,D i->D j->F i=some oi->F j=some oj->oi.wr=true->ρ.blk i=ρ.blk j->i=j
theorem HG.hr{ρ:Env}{D:Nat->Prop}{F:Nat->Option O}{w:World}(r:HG ρ D F w){h:H}(a:h.nx<=T.top)(hl:∀id,D id->id<h.nx)(c:∀id,D id->F id=h.get id):HR ρ D h w :=
 ⟨a,hl,λid o d g=>r.rel id o d (by grind),λi j oi oj b dj e f=>r.inj i j oi oj b dj (by grind) (by grind)⟩
theorem HG.lt_size{ρ:Env}{D:Nat->Prop}{F:Nat->Option O}{w:World}(r:HG ρ D F w){id:Nat}{o:O}(hd:D id)(a:F id=some o):ρ.blk id<w.heap.size:=by obtain⟨y,b⟩:=(r.rel id o hd a).some<;>grind
theorem H.holds(F:Nat->Option O):∀n,n<=T.top->∃h:H,h.nx=n/\∀id,id<n->F id=h.get id:=by
 intro n;induction n with
 | zero=>intro _;exact⟨⟨.leaf,0,0⟩,rfl,λid h=>dd⟩
 | succ n ih =>
  intro b;obtain⟨h,_,h2⟩:=ih dd;refine⟨⟨h.tbl.set n (F n),n+1,0⟩,rfl,λid a=>?_⟩;unfold H.get;rw[T.get_set _ _ _ _ dd];by_cases e:id=n
  .rw[if_pos e,e]
  rw[if_neg e];exact h2 id dd
section
variable {P:Program}{c:Ctx}{orc:Nat->Ug->H->Option (V×H)}{rd:Option Nat}{ih:Ue}
variable {ops:Array Oper}{m:Nat}{st:Nat->St}{ρ0:Env}{D0:Nat->Prop}{a0:Act}{w0:World}
def Tr(S:Nat->Prop)(k:Nat):Nat->Prop:=λj=>S j\/j=k
structure Inv (ops:Array Oper) (m:Nat) (st:Nat->St) (ρ0:Env) (D0:Nat->Prop) (w0:World) (S:Nat->Prop) (J:Nat) (tm:Tm) (ρ:Env) (a:Act) (w:World):Prop where
 lt:∀j,S j->j<m
 le:J<=m
 closed:Closed ops.toList S
 nst:∀i,i<m->¬kL (st i) (st (i+1))->(S i↔i<J)
 tmv:E9 ops st S tm
 tmR:TmR ρ (DS D0 st S) (st 0).n tm a.tmps
 dfr:a.defers=(st 0).dfr.map (AD.conc ρ)
 hr:HG ρ (DS D0 st S) (YD st m J) w
 size:w0.heap.size<=w.heap.size
 os:w.os=w0.os
 tape:w.tape=w0.tape/\w0.drawn<=w.drawn
 output:w.output=w0.output
 agree:Agree D0 ρ0 ρ
 img:∀id o',DS D0 st S id->(st 0).heap.nx<=id->YD st m J id=some o'->w0.heap.size<=ρ.blk id \/
  ∃j o,D0 j/\(st 0).heap.get j=some o/\o.wr=true/\ρ0.blk j=ρ.blk id/\(st J).heap.get j=none
 frame:∀r,r<w0.heap.size->(∀j o,D0 j->(st 0).heap.get j=some o->o.wr=true->ρ0.blk j≠r)->w.heap[r]? = w0.heap[r]?
variable (B:Base P c orc rd ih ops m st ρ0 D0 a0 w0)
include B
theorem Base.G_lift{J k:Nat}(h:J<=k)(e:k<=m)(d:∀i,J<=i->i<k->kL (st i) (st (i+1)))(id:Nat):YD st m k id=YD st m J id:=by
 induction h with
 | refl=>rfl
 | @step k h ih =>
  have h':J<=k:=h;rw[<-ih dd λi a b=>d i a dd];rcases Nat.lt_or_ge id (st k).heap.nx with g|g
  .rw[qc g,qc (oL g (B.next_mono (Nat.le_succ _) e))];exact d k h' dd id g
  grind[I2]
theorem Base.G_born{J j id:Nat}(h:J<=j)(a:j<m)(h1:(st j).heap.nx<=id)(h2:id<(st (j+1)).heap.nx):YD st m J id=(st (j+1)).heap.get id:=by rw[I4 (j:=j+1) dd dd λq _ b=>oS (B.next_mono dd dd) h1,qc h2]
theorem Base.looks{S:Nat->Prop}{tm:Tm}(l:Closed ops.toList S)(_:∀j,S j->j<m)(q:E9 ops st S tm){k:Nat}{o:Oper}(w:k<m)(r:¬S k)(b:ops[k]? = some o)(s:∀e∈o.after,kR e=true->S e.on):∀t,t∈wF ops.toList o->zq tm t=zq (st k).tm t:=by
 intro t hm;have hb:=Z9 l k o (by grind) s;rcases q t with⟨j,oj,u,d,hd,n,f⟩|⟨v,f⟩
 .rw[f];rcases Nat.lt_trichotomy j k with g|g|g
  .refine(B.tm_range (p:=j+1) g dd λi oi x h2 a h=>?_).symm;rcases B.apart h2 a b with h3|⟨h3,_⟩<;>grind
  .grind
  rcases B.apart g b d with h3|⟨_,h3⟩
  .exact absurd (l.bit u h3) r
  grind
 rw[f];refine(B.tm_range (oM _) dd λi oi _ h2 a h=>?_).symm;rcases B.apart h2 a b with h3|⟨h3,_⟩<;>grind
theorem Base.tm_add{S:Nat->Prop}{tm:Tm}(s:Closed ops.toList S)(u:E9 ops st S tm){k:Nat}{o:Oper}(w:¬S k)(q:ops[k]? = some o){v:V}(l:(st (k+1)).tm=jF (st k).tm o.dst v)(hd:∀t,o.dst=some t->t<(st 0).n):E9 ops st (Tr S k) (jF tm o.dst v):=by
 intro t;by_cases b:o.dst=some t
 .have h:t<Tb.top:=oL (hd t b) B.k0.tm.cap;refine .inl ⟨k,o,.inr rfl,q,b,λn o' a i f=>?_,?_⟩
  .rcases a with a|rfl
   .rcases Nat.lt_or_ge k n with g|g
    .rcases B.apart g q i with h3|⟨h3,_⟩
     .exact absurd (s.bit a h3) w
     grind
    omega
   omega
  rw[l,b];simp only[jF];rw[xB _ _ _ _ h,xB _ _ _ _ h,if_pos rfl,if_pos rfl]
 have x:zq (jF tm o.dst v) t=zq tm t:=by
  rcases f:o.dst with _|d
  .rfl
  simp only[jF];rw[xB _ _ _ _ (oL (hd d f) B.k0.tm.cap),if_neg (λe=>b (by grind))]
 rw[x];rcases u t with⟨j,oj,y,p,hd,r,l⟩|⟨z,l⟩
 .refine .inl ⟨j,oj,.inl y,p,hd,λn o' a i f=>?_,l⟩;rcases a with a|rfl<;>grind
 refine .inr ⟨λn o' a i f=>?_,l⟩;rcases a with a|rfl<;>grind
theorem Inv.combine{S:Nat->Prop}{J:Nat}{tm:Tm}{ρ:Env}{a:Act}{w:World}(I:Inv ops m st ρ0 D0 w0 S J tm ρ a w){k:Nat}{o:Oper}(hk:k<m)(hn:¬S k)(ho:ops[k]? = some o)(he:∀e∈o.after,kR e=true->S e.on){J':Nat}(hJJ:J<=J')(hJm:J'<=m)(hnst:∀i,i<m->¬kL (st i) (st (i+1))->(Tr S k i↔i<J')){g g1:H}{D':Nat->Prop}{ρ':Env}{w':World}{v:V}(z:∀id,D' id->DS D0 st S id)(A:Mv ρ D' g w ρ' g1 w')(hr':HR ρ' (Dx D' g g1) g1 w')(hv:v.In (Dx D' g g1))(hlt:∀id,D' id->id<g.nx)(ha:∀id,Dx D' g g1 id->YD st m J' id=g1.get id)(hb:∀id,DS D0 st S id->¬D' id->g1.nx<=id/\YD st m J' id=YD st m J id)(hc:∀id,DS D0 st (Tr S k) id↔DS D0 st S id\/(g.nx<=id/\id<g1.nx))(C:∀id,D' id->YD st m J id=g.get id)(htm:(st (k+1)).tm=jF (st k).tm o.dst v)(U:∀t,o.dst=some t->t<(st 0).n):
  Inv ops m st ρ0 D0 w0 (Tr S k) J' (jF tm o.dst v) (Env.mix g1.nx ρ' ρ) (a.put o.dst (v.conc ρ')) w':=by
 have hmix1:∀id,id<g1.nx->(Env.mix g1.nx ρ' ρ).blk id=ρ'.blk id:=λid h=>by simp only[Env.mix,if_pos h]
 have D:Agree (Dx D' g g1) ρ' (Env.mix g1.nx ρ' ρ):=λid hd=>by have:=hr'.lt id hd;simp only[Env.mix,if_pos this];exact⟨trivial,trivial,trivial⟩
 have s:Agree (DS D0 st S) ρ (Env.mix g1.nx ρ' ρ):=λid hd=>by
  by_cases u:D' id
  .have n:=D id (.inl u);have h2:=A.agree id u;exact⟨n.1.trans h2.1,n.2.1.trans h2.2.1,n.2.2.trans h2.2.2⟩
  have n:=(hb id hd u).1;simp only[Env.mix];rw[if_neg dd,if_neg dd,if_neg dd];exact⟨rfl,rfl,rfl⟩
 have M:∀id,DS D0 st S id->DS D0 st (Tr S k) id:=λid h=>(hc id).2 (.inl h)
 have W:∀id,Dx D' g g1 id->DS D0 st (Tr S k) id:=λid h=>h.elim (λh=>M id (z id h)) λh=>(hc id).2 (.inr h)
 have K:∀{j q:Nat},D0 j->q<=m->j<(st q).heap.nx:=λp hq=>oL (B.k0.hr.lt _ p) (B.next_mono (oM _) hq)
 have b:∀{j:Nat},DS D0 st S j->D0 j\/(st 0).heap.nx<=j:=by
  rintro j (h|⟨i,hi,n,_⟩)
  .exact .inl h
  exact .inr (oS (B.next_mono (oM _) (Nat.le_of_lt (I.lt i hi))) n)
 have out:∀id o',DS D0 st S id->¬D' id->YD st m J' id=some o'->YD st m J id=some o'/\ρ.blk id<w.heap.size/\w'.heap[ρ.blk id]? = w.heap[ρ.blk id]?:=by intro id o' n h2 h3;obtain⟨h4,h5⟩:=hb id n h2;rw[h5]at h3;have h6:=I.hr.lt_size n h3;refine⟨h3,h6,A.frame _ h6 λj oj p x hwj e=>?_⟩;have:=I.hr.inj j id oj o' (z j p) n (by rw[C j p];exact x) h3 hwj e;subst this;exact h2 p
 have fresh:∀i oi j oj,g.nx<=i->i<g1.nx->g1.get i=some oi->DS D0 st S j->¬D' j->YD st m J j=some oj->ρ.blk j<w.heap.size->ρ'.blk i≠ρ.blk j:=by
  intro i oi j oj n h2 h3 h4 h5 h6 E e;rcases(A.img i oi n h2 h3).2 with h8|⟨j2,F,d1,d2,d3,d4,_⟩
  .omega
  have:=I.hr.inj j2 j F oj (z j2 d1) h4 (by rw[C j2 d1];exact d2) h6 d3 (d4.trans e);subst this;exact h5 d1
 refine
  { lt:=λj p=>?_,le:=hJm,closed:=?_,nst:=hnst,tmv:=B.tm_add I.closed I.tmv hn ho htm U,tmR:=?_,dfr:=?_,hr:=?_,size:=oS I.size A.size,os:=A.os.trans I.os,tape:=⟨A.tape.1.trans I.tape.1,oS I.tape.2 A.tape.2⟩,output:=A.output.trans I.output,agree:=λid hd=>?_,img:=?_,frame:=?_ }
 .rcases p with p|rfl
  .exact I.lt j p
  exact hk
 .intro j oj p hoj e hm hke;rcases p with p|rfl
  .exact .inl (I.closed j oj p hoj e hm hke)
  have:oj=o:=by
   have n:ops[j]? = some oj:=by simpa using hoj
   rw[ho]at n;cases n;rfl
  subst this;exact .inl (he e hm hke)
 .have n:TmR (Env.mix g1.nx ρ' ρ) (DS D0 st (Tr S k)) (st 0).n tm a.tmps:=I.tmR.agree M s;have hvc:v.conc ρ'=v.conc (Env.mix g1.nx ρ' ρ):=(V.conc_agree D v hv).symm;rw[hvc];rcases hd:o.dst with _|t
  .exact n
  exact n.put (U t hd) (V.In_mono W v hv)
 .have:(a.put o.dst (v.conc ρ')).defers=a.defers:=by cases o.dst<;>rfl
  rw[this,I.dfr];exact(X2 (λid hd=>s id (.inl hd)) B.k0.dfrIn).symm
 .have Q:∀{id},DS D0 st (Tr S k) id->¬Dx D' g g1 id->DS D0 st S id:=λ{id} hd X=>((hc id).1 hd).elim (λh=>h) λh=>absurd (.inr h) X
  refine⟨λid o' hd Y=>?_,λi j oi oj hi p hgi x R l=>?_⟩
  .by_cases X:Dx D' g g1 id
   .rw[ha id X]at Y;rw[(D id X).1];exact(hr'.rel id o' X Y).agree X W D
   have L:=Q hd X;obtain⟨h3,_,h6⟩:=out id o' L (λh=>X (.inl h)) Y;rw[(s id L).1,h6];exact(I.hr.rel id o' L h3).agree L M s
  by_cases f:Dx D' g g1 i
  .rw[(D i f).1]at l;have N:g1.get i=some oi:=by rw[<-ha i f];exact hgi
   by_cases d:Dx D' g g1 j
   .rw[(D j d).1]at l;exact hr'.inj i j oi oj f d N (by rw[<-ha j d];exact x) R l
   exfalso;have y:=Q p d;obtain⟨h3,h5,_⟩:=out j oj y (λh=>d (.inl h)) x;rw[(s j y).1]at l;rcases f with f|f
   .rw[(A.agree i f).1]at l;obtain⟨F,E,h8⟩:=A.old i oi (hlt i f) N;have:=I.hr.inj i j F oj (z i f) y (by rw[C i f];exact E) h3 (by rw[<-h8];exact R) l;subst this;exact d (.inl f)
   exact fresh i oi j oj f.1 f.2 N y (λh=>d (.inl h)) h3 h5 l
  have O:=Q hi f;obtain⟨h3,h5,_⟩:=out i oi O (λh=>f (.inl h)) hgi;rw[(s i O).1]at l;by_cases d:Dx D' g g1 j
  .exfalso;rw[(D j d).1]at l;have Z:g1.get j=some oj:=by rw[<-ha j d];exact x
   rcases d with d|d
   .rw[(A.agree j d).1]at l;obtain⟨F,E,h8⟩:=A.old j oj (hlt j d) Z;have:=I.hr.inj i j oi F O (z j d) h3 (by rw[C j d];exact E) R l;subst this;exact f (.inl d)
   exact fresh j oj i oi d.1 d.2 Z O (λh=>f (.inl h)) h3 h5 l.symm
  have y:=Q p d;obtain⟨h3',_⟩:=out j oj y (λh=>d (.inl h)) x;rw[(s j y).1]at l;exact I.hr.inj i j oi oj O y h3 h3' R l
 .have n:=I.agree id hd;have h2:=s id (.inl hd);exact⟨h2.1.trans n.1,h2.2.1.trans n.2.1,h2.2.2.trans n.2.2⟩
 .intro id o' hd h0 Y;have dead:∀j,D0 j->(st J).heap.get j=none->(st J').heap.get j=none:=λj p hn=>by
   rcases hg':(st J').heap.get j with _|q
   .rfl
   obtain⟨q2,E,_⟩:=B.old_range hJJ hJm (K p I.le) hg';rw[hn]at E;cases E
  rcases(hc id).1 hd with L|T
  .rw[(s id L).1];have hold:∃F,YD st m J id=some F:=by
    by_cases u:D' id
    .rw[ha id (.inl u)]at Y;obtain⟨F,E,_⟩:=A.old id o' (hlt id u) Y;exact⟨F,by rw[C id u];exact E⟩
    exact⟨o',(out id o' L u Y).1⟩
   obtain⟨F,E⟩:=hold;exact(I.img id F L h0 E).imp (λh=>h) λ⟨j,o,d1,d2,d3,d4,d5⟩=>⟨j,o,d1,d2,d3,d4,dead j d1 d5⟩
  rw[hmix1 id T.2];rcases(A.img id o' T.1 T.2 (by rw[<-ha id (.inr T)];exact Y)).2 with n|⟨j,oj,d1,d2,d3,d4,d5⟩
  .exact .inl (oS I.size n)
  have G:YD st m J j=some oj:=by rw[C j d1];exact d2
  have hjn:YD st m J' j=none:=by rw[ha j (.inl d1)];exact d5
  have L:=z j d1;rcases b L with b|b
  .rw[qc (K b I.le)]at G;rw[qc (K b hJm)]at hjn;obtain⟨F,E,h8⟩:=B.old_range (oM _) I.le (B.k0.hr.lt j b) G;exact .inr ⟨j,F,b,E,by rw[<-h8];exact d3,by rw[<-d4];exact(I.agree j b).1.symm,hjn⟩
  rcases I.img j oj L b G with n|⟨j0,o0,e1,e2,e3,e4,e5⟩
  .exact .inl (by rw[<-d4];exact n)
  exact .inr ⟨j0,o0,e1,e2,e3,e4.trans d4,dead j0 e1 e5⟩
 intro r hrl hr0;rw[A.frame r (oL hrl I.size) λj oj p x hwj e=>?_]
 .exact I.frame r hrl hr0
 have G:YD st m J j=some oj:=by rw[C j p];exact x
 have L:=z j p;rcases b L with b|b
 .rw[qc (K b I.le)]at G;obtain⟨F,E,h8⟩:=B.old_range (oM _) I.le (B.k0.hr.lt j b) G;exact hr0 j F b E (by rw[<-h8];exact hwj) (by rw[<-(I.agree j b).1];exact e)
 rcases I.img j oj L b G with n|⟨j0,o0,e1,e2,e3,e4,_⟩
 .omega
 exact hr0 j0 o0 e1 e2 e3 (e4.trans e)
end
theorem ORel.and{ρ d:Env}{D E:Nat->Prop}{id:Nat}{o:O}{x y:Option Obj}(h:ORel ρ D id o x)(h2:ORel d E id o y):ORel ρ (λi=>D i/\E i) id o x:=by
 cases o with
 | cells l esz wr op=>obtain⟨c,e,fz,f,h3,h4,g⟩:=h;obtain⟨_,_,_,_,_,j,_⟩:=h2;exact⟨c,e,fz,f,h3,λi v k=>V.In_and v (h4 i v k) (j i v k),g⟩
 | map es clock=>exact⟨h.1,λe a=>⟨V.In_and _ (h.2 e a).1 (h2.2 e a).1,V.In_and _ (h.2 e a).2 (h2.2 e a).2⟩⟩
 | loop s p n tm params assign body dfr=>obtain⟨fn,tmps,f,h3,h4⟩:=h;obtain⟨_,_,_,g,j⟩:=h2;exact⟨fn,tmps,f,⟨h3.size,h3.cap,h3.val,λt=>V.In_and _ (h3.inn t) (g.inn t)⟩,h4,j⟩
 | deferred b=>exact h
 | strIter l pos=>exact h
 | mapIter r since seen stepped=>exact⟨h.1,λr hr=>⟨h.2 r hr,h2.2 r hr⟩⟩
theorem FE{d:Option Tmp}{tm:Tm}{v u:V}(hd:∀t,d=some t->t<Tb.top)(e:jF tm d v=jF tm d u)(a:Tm):jF a d v=jF a d u:=by
 rcases d with _|t
 .rfl
 simp only[jF]at e ⊢;have b:=congrArg (λx:Tm=>zq x t) e;simp only[xB _ _ _ _ (hd t rfl),if_true]at b;rw[b]
theorem lH{tm a:Tm}{b:Nat}{o:Oper}(h:∀x∈o.op.operands,yt tm x=yt a x):wp tm b o=wp a b o:=by
 grind[wp,Op.operands,X4,Call.operands,lS]
theorem Sk{ops:List Oper}{o:Oper}{t:Tmp}(h:Operand.tmp t∈o.op.operands):t∈wF ops o :=
 List.mem_append_right _ (List.mem_filterMap.2 ⟨.tmp t,by grind,rfl⟩)
theorem gJ{ops:List Oper}{o:Oper}{tm a:Tm}(h:∀t,t∈wF ops o->zq tm t=zq a t):∀x∈o.op.operands,yt tm x=yt a x:=by intro x b;cases x<;>grind[yt,Sk]
section
variable {P:Program}{c:Ctx}{orc:Nat->Ug->H->Option (V×H)}{rd:Option Nat}{ih:Ue}
variable {ops:Array Oper}{m:Nat}{st:Nat->St}{ρ0:Env}{D0:Nat->Prop}{a0:Act}{w0:World}
theorem tI{ops:List Oper}{o:Oper}{tm a:Tm}(h:∀t,t∈wF ops o->zq tm t=zq a t):yO ops tm o=yO ops a o:=by
 unfold yO;rcases b:o.guard with _|⟨j,e⟩
 .rfl
 simp only;rcases f:ops[j]? with _|o'
 .rfl
 simp only;rcases hd:o'.dst with _|d
 .rfl
 simp only;rw[h d (List.mem_append_left _ (by grind))]
theorem RU{r:Bool}{o:Oper}{s s':St}(a:qN o=true)(e:yG c orc r ih o s=some (.normal,s')):
  ∃h,s.heap.nx<T.top/\s'.heap=s.heap.new h/\∀g:H,g.nx=s.heap.nx->yG c orc r ih o { s with heap:=g } = some (.normal,{ s' with heap:=g.new h }):=by
 unfold qN at a;cases i:o.op<;>simp only[i]at a<;>first|(cases a;done)|skip
 rename_i t;have key:∀g:H,xS c o (yt s.tm) g=(match c.ty.get t with|some ti=>(match ti.zero with|some z=>(match qg g z.cells ⟨0,t+1,0⟩ false with|some (b,h')=>some (.val (.ptr b 0) h')|none=>none)|none=>none)|none=>none):=λg=>by unfold xS;rw[i];rfl
 unfold yG at e;rw[key]at e;cases d:c.ty.get t with
 | none=>simp only[d]at e;cases e
 | some ti =>
 cases h2:ti.zero with
 | none=>simp only[d,h2]at e;cases e
 | some z =>
 cases h3:zU z.cells with
 | false=>simp[d,h2,qg,h3]at e
 | true =>
 cases h4:Nat.blt s.heap.nx T.top with
 | false=>simp[d,h2,qg,h3,kJ,h4]at e
 | true =>
 rcases f:Cs.ofL z.cells with _|cs
 .simp[d,h2,qg,h3,kJ,h4,f]at e
 simp only[d,h2,qg,h3,kJ,h4,f,oN]at e;split at e
 .rename_i l hp;simp only[oA,oB,true_and]at e;subst e;obtain⟨j,rfl⟩:=wX hp;refine⟨.cells cs ⟨0,t+1,0⟩ true false,(zW _ _).1 h4,rfl,λg k=>?_⟩;unfold yG;rw[key];simp only[d,h2,qg,h3,kJ,k,h4,f,oN];rw[ZO (s:={ s with heap:=g }) j]
 cases e
theorem Inv.step(B:Base P c orc rd ih ops m st ρ0 D0 a0 w0){S:Nat->Prop}{J:Nat}{tm:Tm}{ρ:Env}{a:Act}{w:World}(I:Inv ops m st ρ0 D0 w0 S J tm ρ a w){k:Nat}{o:Oper}(y:k<m)(hn:¬S k)(ho:ops[k]? = some o)(he:∀e∈o.after,kR e=true->S e.on){K:Act->World->Prop}{Q:Exit->Act->World->Prop}(hK:∀J' tm' ρ' a' w',Inv ops m st ρ0 D0 w0 (Tr S k) J' tm' ρ' a' w'->K a' w'):wpOpIn (Fx (rd.map ρ0.blk)) 0 P ops Q k K a w:=by
 unfold wpOpIn;simp only[ho];have E:=B.looks I.closed I.lt I.tmv y hn ho he;have hbe:=Z9 I.closed k o (by simpa using ho) he;have f:=I.le;have hDlt:∀id,DS D0 st S id->id<(st m).heap.nx:=by
  rintro id (h|⟨j,M,_,h⟩)
  .exact oL (B.k0.hr.lt id h) (B.next_mono (oM _) (oR _))
  exact oL h (B.next_mono (I.lt j M) (oR _))
 obtain⟨L,gn,gg⟩:=H.holds (YD st m J) (st m).heap.nx (B.cap (oR _));have R:∀id,DS D0 st S id->YD st m J id=L.get id:=λid h=>gg id (hDlt id h)
 have U:HR ρ (DS D0 st S) L w:=I.hr.hr (by rw[gn];exact B.cap (oR _)) (λid h=>by rw[gn];exact hDlt id h) R;have kS:StR ρ (DS D0 st S) { n:=(st 0).n,tm:=tm,dfr:=(st 0).dfr,heap:=L } a w:=⟨I.tmR,I.dfr,λd hd=>AD.In_mono (λ_ h=>.inl h) (B.k0.dfrIn d hd),U⟩
 have hwant:Region.wanted o (yielded ops a.tmps)=yO ops.toList (st k).tm o:=by rw[jI kS];exact tI E
 rw[hwant];obtain⟨o',ho',hstep,af⟩:=B.hs k y;rw[ho]at ho';cases ho';have W:∀x∈o.op.operands,yt tm x=yt (st k).tm x:=gJ E;have hadd:∀id,DS D0 st (Tr S k) id↔DS D0 st S id\/((st k).heap.nx<=id/\id<(st (k+1)).heap.nx):=by
  intro id;constructor
  .rintro(h|⟨j,M|rfl,h⟩)
   .exact .inl (.inl h)
   .exact .inl (.inr ⟨j,M,h⟩)
   exact .inr h
  rintro((h|⟨j,M,h⟩)|h)
  .exact .inl h
  .exact .inr ⟨j,.inl M,h⟩
  exact .inr ⟨k,.inr rfl,h⟩
 have hq1:kL (st k) (st (k+1))->∀i,i<m->¬kL (st i) (st (i+1))->(Tr S k i↔i<J):=by
  intro N i hi F;refine⟨?_,λh=>.inl ((I.nst i hi F).2 h)⟩;rintro(h|rfl)
  .exact(I.nst i hi F).1 h
  exact absurd N F
 have X:(st (k+1)).heap.nx=(st k).heap.nx->∀id,DS D0 st (Tr S k) id↔DS D0 st S id\/(L.nx<=id/\id<L.nx):=by intro h id;rw[hadd id,h];constructor<;>rintro(g|g)<;>first|exact .inl g|omega
 rcases hstep with⟨hw,hp⟩|⟨hw,s',hst,hlow,hd,O⟩
 .rw[hw,if_neg (by simp)];refine⟨λ_ _=>trivial,?_⟩;obtain⟨g1,O⟩:=wX hp;have u:(st (k+1)).heap=(st k).heap:=by rw[O]
  have htm:(st (k+1)).tm=jF (st k).tm o.dst zZ:=by rw[O]
  have r:∀t,o.dst=some t->t<(st 0).n:=λt ht=>by rw[<-B.n_eq (q:=k) dd];exact g1 t ht
  rw[<-wL ρ];exact hK _ _ _ _ _ (I.combine B y hn ho he (oR _) f (hq1 λ_ _=>by rw[u]) (g:=L) (g1:=L) (λ_ h=>h) (Mv.refl _ _ _ _) (by rw[zd];exact U) (jH _) U.lt
   (λid h=>R id (by rw[zd]at h;exact h)) (λid l h2=>absurd l h2) (X (by rw[u])) R htm r)
 rw[hw,if_pos rfl];obtain⟨v0,hd0,hs',htr⟩:=fL hst;have e3:=htr tm W;have r:∀t,o.dst=some t->t<(st 0).n:=λt ht=>by rw[<-B.n_eq (q:=k) dd];exact hd0 t ht
 have hdtop:∀t,o.dst=some t->t<Tb.top:=λt ht=>oL (r t ht) B.k0.tm.cap
 have htm0:(st (k+1)).tm=jF (st k).tm o.dst v0:=by rw[O,hs'];rfl
 have Y:(st (k+1)).heap.nx=s'.heap.nx:=by rw[O];rfl
 have hgt:∀id,(st (k+1)).heap.get id=s'.heap.get id:=λid=>by rw[O];rfl
 rw[<-km I.agree B.hl];obtain⟨ρt,at',wt,kt⟩:=B.kt k y;have hopS:∀x∈o.op.operands,∀v,yt tm x=some v->a.eval x=v.conc ρ/\v.In (DS D0 st S):=λx _ v hv=>je kS x v hv
 have Z:∀v,jF tm o.dst v0=jF tm o.dst v->(st (k+1)).tm=jF (st k).tm o.dst v:=λv hv=>by rw[htm0];exact FE hdtop hv _
 have core:∀(J':Nat) (g:H) (s2:St),yG c orc rd.isSome ih o { n:=(st k).n,tm:=tm,dfr:=(st k).dfr,heap:=g } = some (.normal,s2)->s2.dfr=(st k).dfr->s2.tm=jF tm o.dst v0->g.nx=(st k).heap.nx->s2.heap.nx=s'.heap.nx ->
   (∀id,id<(st k).heap.nx->YD st m J id=g.get id/\∃p,p<=k/\id<(st p).heap.nx/\YD st m J id=(st p).heap.get id)->J<=J'->J'<=m->(∀i,i<m->¬kL (st i) (st (i+1))->(Tr S k i↔i<J')) ->
   (∀id,id<(st (k+1)).heap.nx->YD st m J' id=s2.heap.get id)->(∀id,(st (k+1)).heap.nx<=id->YD st m J' id=YD st m J id)->o.wpIn (Fx (rd.map ρ.blk)) 0 P a w K Q:=by
  intro J' g s2 e hd2 ht2 hgn hn2 hp l h2 h3 h4 C;have hmk:(st k).heap.nx<=(st (k+1)).heap.nx:=B.next_mono (Nat.le_succ _) y;have hout:∀id,DS D0 st S id->¬(DS D0 st S id/\id<(st k).heap.nx)->(st (k+1)).heap.nx<=id:=by
   intro id l h2;have h3:(st k).heap.nx<=id:=Nat.le_of_not_lt λh=>h2 ⟨l,h⟩
   rcases l with h|⟨j,M,h4,C⟩
   .have:=oL (B.k0.hr.lt id h) (B.next_mono (q:=k) (oM _) dd);omega
   have hjm:=I.lt j M;rcases Nat.lt_trichotomy j k with g|g|g
   .have:=B.next_mono (p:=j+1) (q:=k) g dd;omega
   .subst g;exact absurd M hn
   have:=B.next_mono (p:=k+1) (q:=j) g dd;omega
  have hr:HR ρ (λid=>DS D0 st S id/\id<(st k).heap.nx) g w:=by
   refine⟨by rw[hgn];exact B.cap dd,λid h=>by rw[hgn];exact h.2,λid o' h hg=>?_,λi j oi oj hi M hgi hgj=>I.hr.inj i j oi oj hi.1 M.1 (by rw[(hp i hi.2).1];exact hgi) (by rw[(hp j M.2).1];exact hgj)⟩;obtain⟨q1,p,p1,p2,p3⟩:=hp id h.2;rw[<-q1]at hg;obtain⟨ρ2,a2,w2,kp⟩:=B.kt p dd;have hx:Dx D0 (st 0).heap (st p).heap id:=by
    rcases h.1 with h3|⟨j,M,h4,_⟩
    .exact .inl h3
    exact .inr ⟨oS (B.next_mono (oM _) (Nat.le_of_lt (I.lt j M))) h4,p2⟩
   exact((I.hr.rel id o' h.1 hg).and (kp.hr.rel id o' hx (by rw[<-p3];exact hg))).agree (D:=λi=>DS D0 st S i/\Dx D0 (st 0).heap (st p).heap i) ⟨h.1,hx⟩ (λi hi=>⟨hi.1,oL (kp.hr.lt i hi.2) (B.next_mono p1 dd)⟩) (Agree.refl _ _)
  refine uF B.ok B.hor B.hih e hd2 (λx hx v hv=>?_) hr ?_
  .obtain⟨l,h2⟩:=hopS x hx v hv;have h3:=(je kt x v (by rw[<-W x hx];exact hv)).2;exact⟨l,V.In_and v h2 (V.In_mono kt.hr.lt v h3)⟩
  intro ρ' v w' mv hr' hv z;refine hK _ _ _ _ _ (I.combine B y hn ho he l h2 h3 (λ_ h=>h.1) mv hr' hv (λid h=>by rw[hgn];exact h.2) (λid h=>h4 id ?_) (λid a b=>⟨by rw[hn2,<-Y];exact hout id a b,C id (hout id a b)⟩) (λid=>by rw[hadd id,hgn,hn2,Y]) (λid h=>(hp id h.2).1) (Z v (by rw[<-ht2];exact z)) r);rcases h with h|h
  .omega
  rw[Y,<-hn2];exact h.2
 by_cases hpre:∀i,J<=i->i<k->kL (st i) (st (i+1))
 .by_cases G:∀i,k<i->i<J->kL (st i) (st (i+1))
  ·
   have hG:∀id,id<(st k).heap.nx->YD st m J id=(st k).heap.get id:=by
    intro id hid;rcases Nat.lt_or_ge k J with g|g
    .have A:kL (st k) (st (k+1)):=Classical.byContradiction λN=>hn ((I.nst k y N).2 g)
     rw[qc (oL hid (B.next_mono (Nat.le_of_lt g) f))];refine B.quiet_range (Nat.le_of_lt g) f (λi l h2=>?_) hid;rcases Nat.eq_or_lt_of_le l with rfl|h
     .exact A
     exact G i h h2
    rw[<-B.G_lift g dd hpre id,qc hid]
   have hG2:∀id,id<(st k).heap.nx->YD st m J id=(low0 (st k).heap).get id/\∃p,p<=k/\id<(st p).heap.nx/\YD st m J id=(st p).heap.get id:=λid h=>⟨hG id h,k,oR _,h,hG id h⟩
   by_cases A:kL (st k) (st (k+1))
   .refine core J (low0 (st k).heap) _ e3 hd rfl rfl rfl hG2 (oR _) f (hq1 A) (λid h=>?_) λ_ _=>rfl
    show YD st m J id=s'.heap.get id;rw[<-hgt id];rcases Nat.lt_or_ge id (st k).heap.nx with l|l
    .rw[hG id l];exact(A id l).symm
    rcases Nat.lt_or_ge k J with g|g
    .rw[qc (oL h (B.next_mono g f))];exact B.quiet_range g f (λi a b=>G i a b) h
    exact B.G_born g y l h
   have g:J<=k:=Nat.le_of_not_lt λg=>hn ((I.nst k y A).2 g)
   refine core (k+1) (low0 (st k).heap) _ e3 hd rfl rfl rfl hG2 dd y (λi hi F=>⟨?_,λh=>?_⟩) (λid h=>?_) λid h=>?_
   .rintro(h|rfl)
    .have:=(I.nst i hi F).1 h;omega
    omega
   .rcases Nat.lt_or_ge i J with a1|a1
    .exact .inl ((I.nst i hi F).2 a1)
    rcases Nat.lt_or_ge i k with b1|b1
    .exact absurd (hpre i a1 b1) F
    exact .inr dd
   .show YD st m (k+1) id=s'.heap.get id;rw[<-hgt id,qc h]
   exact(I4 dd y λq _ N=>oS (B.next_mono dd y) h).symm
  -- a store went ahead: the operation does not look at its block
  obtain⟨i0,l,h2,h3⟩:∃i,k<i/\i<J/\¬kL (st i) (st (i+1)):=Classical.byContradiction λh=>G λi a b=>Classical.byContradiction λq=>h ⟨i,a,b,q⟩
  have hkJ:k<J:=dd
  have A:kL (st k) (st (k+1)):=Classical.byContradiction λN=>hn ((I.nst k y N).2 hkJ)
  have hsee:∀i,k<i->i<J->¬kL (st i) (st (i+1))->Yr o=true\/∃b,wp tm b o=true/\∀id,id<(st i).heap.nx->id≠b->(st (i+1)).heap.get id=(st i).heap.get id:=by
   intro i l h2 N;have hSi:=(I.nst i dd N).2 h2;obtain⟨oi,hoi,_,afi⟩:=B.hs i dd;rcases afi.eff with h|⟨b,h3,h4,_⟩|⟨h4,_⟩
   .exact absurd h N
   case inr.inr =>
    rcases h4 k o l (by simpa using ho)with C|⟨C,_⟩
    .exact absurd (I.closed.bit hSi C) hn
    exact .inl C
   rcases h4 k o l (by simpa using ho)with C|⟨C,h6⟩
   .exact absurd (I.closed.bit hSi C) hn
   refine .inr ⟨b,?_,h3⟩;rw[<-C];refine lH (gJ (ops:=ops.toList) λt ht=>?_);rw[E t ht];exact(B.tm_range (Nat.le_of_lt l) dd λj oj h7 h8 h9 h10=>h6 j oj t h7 h8 (by simpa using h9) h10 ht).symm
  obtain⟨b0,hb0⟩:∃b0,wp tm b0 o=true:=by
   rcases hsee i0 l h2 h3 with h|⟨b0,hb0,_⟩
   .exact⟨0,Hi h tm 0⟩
   exact⟨b0,hb0⟩
  have e4:=e3;unfold yG at e4;rcases hop:xS c o (yt tm) (low0 (st k).heap) with _|an
  .simp only[hop]at e4;cases e4
  obtain⟨v,rfl,hall⟩:=Ik hb0 hop;simp only[hop]at e4;rw[ZO (s:={ st k with heap:=low0 (st k).heap,tm:=tm }) hd0]at e4;simp only[oA,oB,true_and]at e4;have u:s'.heap=low0 (st k).heap:=(congrArg St.heap e4).symm;have hputs:jF tm o.dst v=jF tm o.dst v0:=congrArg St.tm e4;have hload:∀t x b' o',o.op = .load t x->yt tm x=some (.ptr b' o')->L.get b'=(low0 (st k).heap).get b':=by
   intro t x b' o' hl hx;have hx':yt (st k).tm x=some (.ptr b' o'):=by rw[<-W x (by rw[hl];simp[Op.operands])];exact hx
   have hin:=(je kt x _ hx').2;simp only[V.In]at hin;have hlt:=kt.hr.lt _ hin;have hltJ:=oL hlt (B.next_mono (Nat.le_of_lt hkJ) f);rw[<-gg b' (oL hltJ (B.next_mono f (oR _))),qc hltJ];refine B.same_range (Nat.le_of_lt hkJ) f hlt λi h4 C h6=>?_
   by_cases N:kL (st i) (st (i+1))
   .exact N b' h6
   have hik:k<i:=by
    rcases Nat.eq_or_lt_of_le h4 with rfl|g
    .exact absurd A N
    exact g
   rcases hsee i hik C N with h7|⟨b,h7,h8⟩
   .exfalso;unfold Yr at h7;simp only[hl]at h7;cases h7
   refine h8 b' h6 λe=>?_
   subst e;unfold wp at h7;simp only[hl,hx]at h7;simp at h7
  have e5:yG c orc rd.isSome ih o { n:=(st 0).n,tm:=tm,dfr:=(st 0).dfr,heap:=L } = some (.normal,{ n:=(st 0).n,tm:=jF tm o.dst v,dfr:=(st 0).dfr,heap:=L }):=by unfold yG;simp only[hall L hload];rw[ZO (s:={ n:=(st 0).n,tm:=tm,dfr:=(st 0).dfr,heap:=L }) r]
  refine uF B.ok B.hor B.hih e5 rfl hopS U ?_;intro ρ' v' w' mv hr' hv' z;have z:jF tm o.dst v=jF tm o.dst v':=z;exact hK _ _ _ _ _ (I.combine B y hn ho he (oR _) f (hq1 A) (g:=L) (g1:=L) (λ_ h=>h) mv hr' hv' U.lt
   (λid h=>R id (by rw[zd]at h;exact h)) (λid l h2=>absurd l h2) (X (by rw[Y,u];rfl)) R (Z v' (by rw[<-hputs,z])) r)
 -- what turns a block was left behind: the operation only makes one
 obtain⟨i,l,h2,h3⟩:∃i,J<=i/\i<k/\¬kL (st i) (st (i+1)):=Classical.byContradiction λh=>hpre λi a b=>Classical.byContradiction λq=>h ⟨i,a,b,q⟩
 have hnS:¬S i:=λh=>by have:=(I.nst i dd h3).1 h;omega
 have hal:qN o=true:=by
  obtain⟨oi,hoi,_,afi⟩:=B.hs i dd;rcases afi.eff with h|⟨b,_,_,h4⟩|⟨_,h4⟩
  .exact absurd h h3
  .rcases h4 k o h2 y (by simpa using ho)with C|C
   .exact absurd (hbe i C) hnS
   exact C
  exact absurd (hbe i (h4 k h2 y)) hnS
 obtain⟨g,g1,g2⟩:=H.holds (YD st m J) (st k).heap.nx (B.cap dd);obtain⟨ob,f0,f1,f2⟩:=RU hal e3;have f0:(st k).heap.nx<T.top:=f0;have f1:s'.heap=(low0 (st k).heap).new ob:=f1;have hnk:(st (k+1)).heap.nx=(st k).heap.nx+1:=by rw[Y,f1];rfl
 have hnew:∀id,(st (k+1)).heap.get id=if id=(st k).heap.nx then some ob else (st k).heap.get id:=λid=>by rw[hgt id,f1];exact H.get_new (low0 (st k).heap) _ _ f0
 refine core J g _ (f2 g g1) hd rfl g1 (by rw[f1,H.new_eq,H.new_eq,g1];rfl) (λid h=>⟨g2 id h,?_⟩) (oR _) f (hq1 λid h=>by rw[hnew,if_neg dd]) (λid h=>?_) λ_ _=>rfl
 .rcases Nat.lt_or_ge id (st J).heap.nx with a1|a1
  .exact⟨J,dd,a1,qc a1⟩
  obtain⟨j,b1,b2,b3⟩:=Base.born (st:=st) (oS (B.next_mono (oM _) f) a1) h;have hJj:J<=j:=Nat.le_of_not_lt λc1=>by have:=B.next_mono (p:=j+1) (q:=J) c1 f;omega
  exact⟨j+1,b1,b3,B.G_born hJj dd b2 b3⟩
 show YD st m J id=(g.new ob).get id;rw[H.get_new _ _ _ (by rw[g1];exact f0),g1];rcases Nat.lt_or_ge id (st k).heap.nx with a1|a1
 .rw[if_neg dd];exact g2 id a1
 rw[B.G_born dd y a1 h,hnew];have:id=(st k).heap.nx:=dd
 rw[if_pos this,if_pos this]
theorem Inv.finish(B:Base P c orc rd ih ops m st ρ0 D0 a0 w0){S:Nat->Prop}{J:Nat}{tm:Tm}{ρ:Env}{a:Act}{w:World}(I:Inv ops m st ρ0 D0 w0 S J tm ρ a w)(b:∀i,i<m->S i):
  Mv ρ0 D0 (st 0).heap w0 ρ (st m).heap w/\StR ρ (Dx D0 (st 0).heap (st m).heap) (st m) a w:=by
 have u:∀i,J<=i->i<m->kL (st i) (st (i+1)):=λi e h2=>Classical.byContradiction λh=>by have:=(I.nst i h2 h).1 (b i h2);omega
 have y:∀id,YD st m J id=(st m).heap.get id:=λid=>by rw[<-B.G_lift I.le (oR _) u id];unfold YD;rw[Nat.sub_self];rfl
 have g:DS D0 st S=Dx D0 (st 0).heap (st m).heap:=by
  funext id;simp only[eq_iff_iff];constructor
  .rintro(h|⟨j,q,e,h2⟩)
   .exact .inl h
   have:=I.lt j q;exact .inr ⟨oS (B.next_mono (oM _) dd) e,oL h2 (B.next_mono (p:=j+1) this (oR _))⟩
  rintro(h|⟨e,h2⟩)
  .exact .inl h
  obtain⟨j,h3,h4⟩:=Base.born e h2;exact .inr ⟨j,b j h3,h4⟩
 have k:∀t,zq tm t=zq (st m).tm t:=by
  intro t;rcases I.tmv t with⟨j,oj,q,z,hd,v,r⟩|⟨s,r⟩
  .rw[r];have:=I.lt j q;exact(B.tm_range (p:=j+1) this (oR _) λi oi e h2 l n=>by grind).symm
  rw[r];exact(B.tm_range (oM _) (oR _) λi oi _ h2 l n=>s i oi (b i h2) l n).symm
 have hr:HR ρ (DS D0 st S) (st m).heap w:=I.hr.hr (B.cap (oR _)) (λid h=>by
  rw[g]at h;rcases h with h|h
  .exact oL (B.k0.hr.lt id h) (B.next_mono (oM _) (oR _))
  omega) λid _=>y id
 have f:=I.tmR;rw[g]at hr f;refine⟨⟨B.next_mono (oM _) (oR _),I.size,I.os,I.tape,I.output,I.agree,λid o' h A=>B.old_range (oM _) (oR _) h A,λid o' e h2 h3=>?_,I.frame,B.low_mono (oR _),λid e h2=>B.kept_range (oR _) e h2⟩,?_⟩
 .refine⟨?_,(I.img id o' (by rw[g];exact .inr ⟨e,h2⟩) e (by grind)).imp (λh=>h) λ⟨j,o,d1,d2,d3,d4,d5⟩=>⟨j,o,d1,d2,d3,d4,by rw[B.quiet_range I.le (oR _) u (oL (B.k0.hr.lt j d1) (B.next_mono (oM _) I.le))];exact d5⟩⟩;obtain⟨j,h4,C,x⟩:=Base.born e h2;obtain⟨D,E,F⟩:=B.old_range (p:=j+1) h4 (oR _) x h3;obtain⟨o,_,_,G⟩:=B.hs j h4;rw[F];exact G.wr id D C x E
 refine⟨⟨?_,?_,λt=>?_,λt=>?_⟩,?_,?_,hr⟩
 .rw[B.n_eq (oR _)];exact f.size
 .rw[B.n_eq (oR _)];exact f.cap
 .rw[<-k t];exact f.val t
 .rw[<-k t];exact f.inn t
 .rw[B.dfr_eq (oR _)];exact I.dfr
 rw[B.dfr_eq (oR _)];exact λd hd=>AD.In_mono wm (B.k0.dfrIn d hd)
theorem Inv.start(B : Base P c orc rd ih ops m st ρ0 D0 a0 w0){S : Nat -> Prop}(e : ∀j, ¬S j): Inv ops m st ρ0 D0 w0 S 0 (st 0).tm ρ0 a0 w0 := by
  have a : DS D0 st S = D0 := by
    funext id;simp only[eq_iff_iff];constructor
    · rintro(h|⟨j, b, _⟩)
      · exact h
      grind
    · exact .inl
  refine { lt := λj b => absurd b (e j), le := oM _, closed := λj o b => absurd b (e j), nst := λi _ _ => ⟨λh => absurd h (e i), λh => by omega⟩
           tmv := λt => .inr ⟨λj o b => absurd b (e j), rfl⟩, tmR := by rw[a];exact B.k0.tm, dfr := B.k0.dfr, hr := by rw[a];exact⟨λid o d g => B.k0.hr.rel id o d (by rw[qc (B.k0.hr.lt id d)]at g;exact g), λi j oi oj f dj k l => B.k0.hr.inj i j oi oj f dj (by rw[qc (B.k0.hr.lt i f)]at k;exact k) (by rw[qc (B.k0.hr.lt j dj)]at l;exact l)⟩
           size := oR _, os := rfl, tape := ⟨rfl, oR _⟩, output := rfl, agree := Agree.refl _ _, img := λid o' hd n _ => ?_, frame := λ_ _ _ => rfl }
  rw[a]at hd;have := B.k0.hr.lt id hd;omega
theorem LD(ok:CtxOK P c)(hor:jK P c orc)(hih:jr P ih){i:Nat}{o:Oper}(u:ops[i]? = some o){l:List Oper}{s h d:St}{x:AX}(e:Zp c orc rd.isSome ih ops.toList (o::l) s=some (.done x h)){ρ:Env}{w:World}{a:Act}(j:∀id,D0 id->id<d.heap.nx)(hl:∀l,rd=some l->D0 l)(m:Mv ρ0 D0 d.heap w0 ρ s.heap w)(k:StR ρ (Dx D0 d.heap s.heap) s a w){K:Act->World->Prop}(z:∀s1 f a1 n,Zp c orc rd.isSome ih ops.toList l s1=some (.done x h)->Mv ρ0 D0 d.heap w0 f s1.heap n->StR f (Dx D0 d.heap s1.heap) s1 a1 n->K a1 n):
  wpOpIn (Fx (rd.map ρ0.blk)) 0 P ops (Ends ρ0 D0 d w0 x h) i K a w:=by
 unfold wpOpIn;simp only[u];rw[jI k];simp only[Zp]at e;cases hw:yO ops.toList s.tm o with
 | true =>
  simp only[hw,oN]at e;rw[if_pos rfl];rw[<-km m.agree hl];split at e
  .rename_i s1 b;refine jG ok hor hih b k ?_ (λv p=>by cases p);intro _ ρ' a' w' g _ t;rw[wn (D:=D0) m.nx g.nx]at t
   grind[Mv.trans]
  .rename_i y s1 A b;simp only[oA,Out.done.injEq]at e;obtain⟨rfl,rfl⟩:=e;refine jG ok hor hih b k (λB=>absurd B A) ?_;intro v p ρ' w' g t q;subst p;have r:=wn (D:=D0) m.nx g.nx;exact⟨ρ',Mv.trans j m g,by grind,rfl,by rw[<-r];exact q⟩
  grind
 | false =>
  simp only[hw,oO]at e;rw[if_neg (by simp)];split at e
  .rename_i s1 b;obtain⟨C,E⟩:=StR.put k (jH _) b;rw[wL]at C;exact⟨λ_ _=>trivial,z s1 ρ _ w e (by grind) (by grind)⟩
  grind
theorem ur{a:Array Bool}{i:Nat}(h:i<a.size):(a.setIfInBounds i true).getD i false=true:=by simp[h]
theorem uP{b:Region.Mode}{i:Nat}{a:Array Bool}(h:i∈Region.ready b ops a):i<ops.size/\a.getD i false=false/\i<a.size:=by
 grind[mem_ready]
theorem XH{b:Region.Mode}{i:Nat}{a:Array Bool}(h:i∈Region.ready b ops a){o:Oper}(d:ops[i]? = some o):∀e∈o.after,kR e=true->a.getD e.on false=true:=by
 grind[mem_ready,Iu]
theorem Fm(B:Base P c orc rd ih ops m st ρ0 D0 a0 w0){L:Region.Mode}(y:Rn L ops){x:AX}{v:St}:∀(d j:Nat) (b:Array Bool) (s:St) (ρ:Env) (a:Act) (w:World),m<=j->j<=ops.size->ops.size-j<=d->b.size=ops.size ->
  Closed ops.toList (λi=>b.getD i false=true)->(∀i,i<ops.size->(b.getD i false=true↔i<j))->Zp c orc rd.isSome ih ops.toList (ops.toList.drop j) s=some (.done x v) ->
  Mv ρ0 D0 (st 0).heap w0 ρ s.heap w->StR ρ (Dx D0 (st 0).heap s.heap) s a w->wpAnyIn (Fx (rd.map ρ0.blk)) 0 P L ops (Ends ρ0 D0 (st 0) w0 x v) d b a w:=by
 intro d;have n:∀(j:Nat) (s:St) (ρ:Env) (a:Act) (w:World),j=ops.size->Zp c orc rd.isSome ih ops.toList (ops.toList.drop j) s=some (.done x v) ->
   Mv ρ0 D0 (st 0).heap w0 ρ s.heap w->StR ρ (Dx D0 (st 0).heap s.heap) s a w->Ends ρ0 D0 (st 0) w0 x v .normal a w:=by
  intro j s ρ a w z e o k;rw[List.drop_of_length_le (by grind)]at e;simp only[Zp,oA,Out.done.injEq]at e;obtain⟨rfl,rfl⟩:=e;exact⟨ρ,o,k,rfl,trivial⟩
 induction d with
 | zero=>intro j b s ρ a w A z O p g q e o k;refine⟨?_,n j s ρ a w dd e o k⟩;rw[List.eq_nil_iff_forall_not_mem];intro i hi;obtain⟨M,h2,_⟩:=uP hi<;>grind
 | succ d C =>
  intro j b s ρ a w A z O p g q e o k;refine⟨λr=>?_,λi hi=>?_⟩
  .have Q:j=ops.size:=by
    rcases Nat.eq_or_lt_of_le z with h|h
    .exact h
    have:=(q j h).1 (fF B.hm y r p j h);omega
   grind
  obtain⟨M,h2,h3⟩:=uP hi;have N:ops[i]? = some ops[i]:=Array.getElem?_eq_getElem M;have D:=Z9 g i ops[i] (by simp) (XH hi N);have E:i=j:=by
   have F:j<=i:=Nat.le_of_not_lt λh=>by grind
   rcases Nat.eq_or_lt_of_le F with h|h
   .omega
   have:=D j (JI _ _ i (by rw[<-B.hmeq];omega) dd j h)
   grind
  subst E;have l:ops.toList.drop i=ops[i]::ops.toList.drop (i+1):=by
   grind[List.drop_eq_getElem_cons]
  rw[l]at e;refine LD B.ok B.hor B.hih N e B.k0.hr.lt B.hl o k ?_;intro s1 G a1 R S H T;have f:∀t,(b.setIfInBounds i true).getD t false=true↔(b.getD t false=true\/t=i):=by
   intro t;by_cases I:t=i
   .simp_all
   rw[getD_set_ne false (λh=>I h.symm)];grind
  refine C (i+1) _ s1 G a1 R dd dd dd (by grind) ?_ ?_ S H T
  .intro J o' K u U hm V;rcases(f J).1 K with h|rfl
   .exact(f _).2 (.inl (g J o' h u U hm V))
   have u:ops[J]? = some o':=by grind
   grind[XH]
  grind
def cnt(a:Array Bool):Nat->Nat
 | 0=>0
 | n+1=>cnt a n+(if a.getD n false=true then 0 else 1)
def left(ops:Array Oper)(a:Array Bool):Nat:=cnt a ops.size
omit ops in
theorem HO{a:Array Bool}{i:Nat}:∀n,n<=i->cnt (a.setIfInBounds i true) n=cnt a n:=by
 intro n;induction n with
 | zero=>intro _;rfl
 | succ n ih=>intro h;simp only[cnt];rw[ih dd,getD_set_ne false (show i≠n by omega)]
omit ops in
theorem DO{a:Array Bool}{i:Nat}(h2:a.getD i false=false)(h3:i<a.size):∀n,i<n->cnt (a.setIfInBounds i true) n<cnt a n:=by
 intro n;induction n with
 | zero=>intro h;omega
 | succ n ih =>
  intro h;simp only[cnt];by_cases hin:i=n
  .subst hin;rw[HO _ (oR _),ur h3,h2];simp
  rw[getD_set_ne false hin];have:=ih dd;omega
theorem GP{a:Array Bool}{i:Nat}(h1:i<ops.size)(h2:a.getD i false=false)(h3:i<a.size):left ops (a.setIfInBounds i true)<left ops a :=
 DO h2 h3 _ h1
omit ops in
theorem HP{a:Array Bool}:∀n,cnt a n=0->∀i,i<n->a.getD i false=true:=by
 intro n;induction n with
 | zero=>intro _ i h;omega
 | succ n ih =>
  intro h i hi;simp only[cnt]at h;rcases Nat.lt_or_ge i n with g|g
  .exact ih dd i g
  have:i=n:=dd
  subst this;by_cases hb:a.getD i false=true
  .exact hb
  rw[if_neg hb]at h;omega
omit ops in
theorem zAJ{a:Array Bool}{m:Nat}:∀n,(∀i,i<n->a.getD i false=true->i<m)->n-m<=cnt a n:=by
 intro n;induction n with
 | zero=>intro _;omega
 | succ n ih =>
  intro h;have b:=ih λi hi=>h i dd
  simp only[cnt];by_cases hb:a.getD n false=true
  .have:=h n dd hb;omega
  rw[if_neg hb];omega
theorem Pf(B:Base P c orc rd ih ops m st ρ0 D0 a0 w0){r:Region.Mode}(n:Rn r ops){x:AX}{s:St}(e:Zp c orc rd.isSome ih ops.toList (ops.toList.drop m) (st m)=some (.done x s)):
  ∀(d:Nat) (b:Array Bool) (J:Nat) (tm:Tm) (ρ:Env) (a:Act) (w:World),left ops b<=d->b.size=ops.size->Inv ops m st ρ0 D0 w0 (λi=>b.getD i false=true) J tm ρ a w ->
   wpAnyIn (Fx (rd.map ρ0.blk)) 0 P r ops (Ends ρ0 D0 (st 0) w0 x s) d b a w:=by
 intro d;have l:∀(d:Nat) (b:Array Bool) (J:Nat) (tm:Tm) (ρ:Env) (a:Act) (w:World),left ops b<=d->b.size=ops.size->Inv ops m st ρ0 D0 w0 (λi=>b.getD i false=true) J tm ρ a w ->
   (∀i,i<m->b.getD i false=true)->wpAnyIn (Fx (rd.map ρ0.blk)) 0 P r ops (Ends ρ0 D0 (st 0) w0 x s) d b a w:=by
  intro d b J tm ρ a w o f I g;obtain⟨G,k⟩:=I.finish B g;have j:∀i,i<ops.size->(b.getD i false=true↔i<m):=λi _=>⟨λh=>I.lt i h,g i⟩
  exact Fm B n d m b (st m) ρ a w (oR _) B.m_le (oS (zAJ _ λi hi h=>(j i hi).1 h) o) f I.closed j e G k
 induction d with
 | zero=>intro b J tm ρ a w o f I;exact l 0 b J tm ρ a w o f I λi hi=>HP _ (Nat.le_zero.1 o) i (oL hi B.m_le)
 | succ d t =>
  intro b J tm ρ a w o f I;by_cases g:∀i,i<m->b.getD i false=true
  .grind
  have hex:∃i,i<m/\b.getD i false=false:=by
   grind
  obtain⟨u,v,H⟩:=hex;refine⟨λp=>?_,λi hi=>?_⟩
  .have:=fF B.hm n p f u (oL v B.m_le)
   grind
  obtain⟨E,h2,h3⟩:=uP hi;have F:ops[i]? = some ops[i]:=Array.getElem?_eq_getElem E;have q:=XH hi F;have y:i<m:=by
   refine Nat.lt_of_not_le λK=>?_
   have z:=Z9 I.closed i ops[i] (by simp) q;have:=z u (JI _ _ i (by rw[<-B.hmeq];omega) dd u dd)
   grind
  refine I.step B y (by grind) F q ?_;intro J' A ρ' a' w' I';have L:Tr (λi=>b.getD i false=true) i=λC=>(b.setIfInBounds i true).getD C false=true:=by
   funext C;simp only[eq_iff_iff,Tr];by_cases D:C=i
   .simp_all
   rw[getD_set_ne false (λh=>D h.symm)];grind
  rw[L]at I';exact t _ J' A ρ' a' w' (by have:=GP E h2 h3;omega) (by grind) I'
theorem VP(ok:CtxOK P c)(hor:jK P c orc)(hih:jr P ih){id:Nat}{ops:Array Oper}{s s':St}{x:AX}{m:Nat}(hm:j8 ops.toList=some m)(e:kO c orc rd.isSome ih ops.toList (yE ops.toList []) m m 0 ops.toList s=some (.done x s')):SimC P rd (.region id ops true) s x s':=by
 intro ρ D w a k hl;have d:m<=ops.toList.length:=by
  unfold j8 at hm;rcases o:(XJ ops.toList (yE ops.toList []) 0 ops.toList && (!(Region.departs ops.toList.toArray) || (fV ops.toList (Region.linearise .gc ops.toList.toArray 0) [] && rN (Region.linearise .gc ops.toList.toArray 0) ops.toList.length))) with _|_
  .grind
  simp only[o,oN,oA]at hm
  grind[nA]
 obtain⟨st,p,i,h2,h3⟩:=zGe (rd:=rd) ok hor hih (ops:=ops) m 0 ops.toList s e (by simp) d k hl;simp only[Nat.zero_add]at i h3;subst p
 let b:World:={ w with drawn:=w.drawn+1 }
 have q:StR ρ D (st 0) a b:=⟨k.tm,k.dfr,k.dfrIn,k.hr.of_heap rfl⟩;have B:Base P c orc rd ih ops m st ρ D a b:=⟨ok,hor,hih,hm,i,q,h2,hl⟩;have f:Mv ρ D (st 0).heap w ρ (st 0).heap b:=Mv.of_heap rfl rfl ⟨rfl,Nat.le_succ _⟩ rfl;refine wpIn_mono (Q:=Ends ρ D (st 0) b x s') (wpIn_region_draw λt=>?_) ?_
 .refine vr _ ops t (λl=>wpOpsIn (Fx (rd.map ρ.blk)) 0 P ops (Ends ρ D (st 0) b x s') l a b) λy g t=>?_
  refine wpAnyIn_sound ops.size t _ a b ?_;have r:∀j,¬((Array.replicate ops.size false).getD j false=true):=λj h=>by
   simp only[Array.getD_eq_getD_getElem?,Array.getElem?_replicate]at h
   grind
  refine Pf B g h3 ops.size _ 0 (st 0).tm ρ a b ?_ (by simp) (Inv.start B r);unfold left;have:∀(l:Array Bool) n,cnt l n<=n:=λl n=>by
   induction n with
   | zero=>exact oR _
   | succ n ih=>grind[cnt]
  grind
 rintro ex a' w' ⟨ρ',z,u,rfl,v⟩;refine⟨ρ',Mv.trans k.hr.lt f (by grind[zd]),u,rfl,v⟩
end
end Go.Sim
