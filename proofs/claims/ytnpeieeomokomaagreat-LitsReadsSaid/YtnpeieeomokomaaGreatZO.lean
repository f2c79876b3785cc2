/- O. No condition. -/
import Derived.Test.YtnpeieeomokomaaGreatZG
import Derived.LoopNIn
import Derived.Test.YtnpeieeomokomaaGreatZC
namespace Go.Sim
def Fx(r:Option Nat):Fence:={ fn:=λ_=>True,depth:=none,alive:=false,round:=r }
theorem zIX(r:Option Nat)(n:Nat):(Fx r).room n:=λ_ h=>by simp[Fx]at h
theorem O7{P:Program}{f:FuncId}{args:Array Value}{w:World}{R:Ending->World->Prop}(r a:Option Nat)(h:CallsIn (Fx r) 0 P f args w R):CallsIn (Fx a) 0 P f args w R:=h
theorem XU{P:Program}{l:Nat}{f:FuncId}{tmps:Array Value}{x y:Code}{w:World}{R:Ending->World->Prop}(r a:Option Nat)(h:RoundIn (Fx r) 0 P l f tmps x y w R):RoundIn (Fx a) 0 P l f tmps x y w R:=h
structure StR (ρ:Env) (D:Nat->Prop) (s:St) (a:Act) (w:World):Prop where
 tm:TmR ρ D s.n s.tm a.tmps
 dfr:a.defers=s.dfr.map (AD.conc ρ)
 dfrIn:∀d∈s.dfr,d.In D
 hr:HR ρ D s.heap w
def AX.toExit(ρ:Env):AX->Exit
 | .normal=>.normal
 | .exit id=>.exit id
 | .ret=>.ret
 | .panic v=>.panic [{ v:=v.conc ρ,recovered:=false }]
def AX.In(D:Nat->Prop):AX->Prop
 | .panic v=>v.In D
 | _=>True
def Ends(ρ:Env)(D:Nat->Prop)(s:St)(w:World)(x:AX)(s':St):Exit->Act->World->Prop:=λe a' w' =>
 ∃ρ',Mv ρ D s.heap w ρ' s'.heap w'/\StR ρ' (Dx D s.heap s'.heap) s' a' w'/\e=x.toExit ρ'/\x.In (Dx D s.heap s'.heap)
def SimC(P:Program)(rd:Option Nat)(code:Code)(s:St)(x:AX)(s':St):Prop :=
 ∀ρ D w a,StR ρ D s a w->(∀l,rd=some l->D l)->code.wpIn (Fx (rd.map ρ.blk)) 0 P (Ends ρ D s w x s') a w
def CallOut.post(ρ:Env)(D:Nat->Prop)(h:H)(w:World):CallOut->Ending->World->Prop
 | .ret v h',e,w'=>∃ρ',e = .returned (v.conc ρ')/\Mv ρ D h w ρ' h' w'/\HR ρ' (Dx D h h') h' w'/\v.In (Dx D h h')
 | .panic v h',e,w'=>∃ρ',e = .panicked [{ v:=v.conc ρ',recovered:=false }]/\Mv ρ D h w ρ' h' w'/\HR ρ' (Dx D h h') h' w'/\v.In (Dx D h h')
def SimF(P:Program)(f:Nat)(args:Ug)(h:H)(out:CallOut):Prop :=
 ∀ρ D w,HR ρ D h w->(∀v∈args,v.In D)->CallsIn (Fx none) 0 P f (args.map (V.conc ρ)).toArray w (out.post ρ D h w)
def z27(P:Program)(f:Nat)(args:Ug)(h:H)(out:CallOut):Prop :=
 ∀ρ D w u,HR ρ D h w->(∀v∈args,v.In D)->CallsDIn (Fx none) 0 P f (args.map (V.conc ρ)).toArray u w λe a w'=>a=u/\out.post ρ D h w e w'
def zV6(P:Program)(l:Nat)(args:Ug)(h:H)(out:CallOut):Prop :=
 ∀ρ D w,HR ρ D h w->D l->(∀v∈args,v.In D)->∃fn tmps x y,(Instr.yield (ρ.blk l) (args.map (V.conc ρ)).toArray).run P w = .ok (.round (ρ.blk l) fn tmps x y) w /\
  RoundIn (Fx none) 0 P (ρ.blk l) fn tmps x y w (out.post ρ D h w)
section basics
variable {ρ ρ':Env}{D:Nat->Prop}{s s':St}{w w':World}{a:Act}
theorem AD.conc_agree(h:Agree D ρ ρ'){d:AD}(b:d.In D):d.conc ρ'=d.conc ρ:=by
 cases d with
 | coll id=>simp[AD.conc,(h id b).1]
 | fn f cap args=>simp only[AD.conc,<-V.concL_eq];rw[V.concL_agree h _ (V.InL_iff.2 b.1),V.concL_agree h _ (V.InL_iff.2 b.2)]
theorem AD.In_mono{E:Nat->Prop}(h:∀id,D id->E id){d:AD}(b:d.In D):d.In E:=by
 cases d with
 | coll id=>exact h _ b
 | fn f cap args=>exact⟨λv c=>V.In_mono h _ (b.1 v c),λv c=>V.In_mono h _ (b.2 v c)⟩
theorem YW(h:Agree D ρ ρ'):∀{l:List AD},(∀d∈l,d.In D)->l.map (AD.conc ρ')=l.map (AD.conc ρ):=λhl=>List.map_congr_left λd b=>AD.conc_agree h (hl d b)
theorem StR.step(k:StR ρ D s a w){h':H}(m:Mv ρ D s.heap w ρ' h' w')(r:HR ρ' (Dx D s.heap h') h' w'):StR ρ' (Dx D s.heap h') { s with heap:=h' } a w' :=
 ⟨k.tm.agree wq m.agree,by rw[k.dfr];exact(YW m.agree k.dfrIn).symm,λd b=>AD.In_mono wq (k.dfrIn d b),r⟩
theorem wV(tm:Tm)(t j:Nat)(v:V)(b:t<Tb.top):zI (tm.set t v) j=if j=t then v else zI tm j:=Tb.get_set _ _ _ _ _ b
theorem TmR.put{n:Nat}{tm:Tm}{qw:Array Value}(k:TmR ρ D n tm qw){t:Nat}{v:V}(d:t<n)(f:v.In D):TmR ρ D n (tm.set t v) (qw.setIfInBounds t (v.conc ρ)):=by
 have b:t<Tb.top:=oO d k.cap;refine⟨by simp[k.size],k.cap,λj=>?_,λj=>?_⟩
 .rw[wV _ _ _ _ b];by_cases c:j=t
  .subst c;simp[k.size,d]
  rw[if_neg c,<-k.val j];simp only[Array.getD_eq_getD_getElem?,Array.getElem?_setIfInBounds];rw[if_neg (λe=>c e.symm)]
 rw[wV _ _ _ _ b];split
 .exact f
 exact k.inn j
theorem StR.put(k:StR ρ D s a w){d:Option Tmp}{v:V}(b:v.In D)(e:yk s d v s.heap=some s'):StR ρ D s' (a.put d (v.conc ρ)) w/\s'.heap=s.heap:=by
 cases d with
 | none=>unfold yk at e;simp only[oA]at e;subst e;exact⟨⟨k.tm,k.dfr,k.dfrIn,k.hr⟩,rfl⟩
 | some t =>
  unfold yk at e;rcases hb:Nat.blt t s.n with _|_
  .simp[hb]at e
  simp only[hb,oS,oA]at e;subst e;exact⟨⟨k.tm.put ((zY _ _).1 hb) b,k.dfr,k.dfrIn,k.hr⟩,rfl⟩
theorem jL(k:StR ρ D s a w):∀x v,zx s.tm x=some v->a.eval x=v.conc ρ/\v.In D:=by
 intro x v h;cases x with
 | tmp t=>simp only[zx,oA]at h;subst h;exact⟨k.tm.val t,k.tm.inn t⟩
 | const c=>simp only[zx]at h;obtain⟨h1,b⟩:=Y2 h;exact⟨(h1 ρ).symm,b D⟩
 | global g=>simp[zx]at h
 | func f=>simp only[zx,oA]at h;subst h;exact⟨by simp[Act.eval,V.conc,V.concL],by simp[V.In,V.InL]⟩
theorem zCL{s:St}{d:Option Tmp}{v:V}{h:H}:yk s d v h=yk { s with heap:=h } d v h:=rfl
end basics
section rules
variable {P:Program}{rd:Option Nat}
theorem Ends.refl{ρ:Env}{D:Nat->Prop}{s:St}{a:Act}{w:World}(k:StR ρ D s a w){x:AX}(b:∀v,x≠.panic v):Ends ρ D s w x s (x.toExit ρ) a w :=
 ⟨ρ,Mv.refl _ _ _ _,by rw[zr];exact k,rfl,by cases x<;>first|trivial|exact absurd rfl (b _)⟩
theorem Ends.trans{ρ a:Env}{D:Nat->Prop}{s s1 d:St}{w f:World}{x:AX}{e:Exit}{a2:Act}{g:World}(j:∀id,D id->id<s.heap.nx)(m:Mv ρ D s.heap w a s1.heap f)(h:Ends a (Dx D s.heap s1.heap) s1 f x d e a2 g):Ends ρ D s w x d e a2 g:=by obtain⟨c,i,k,l,n⟩:=h;have b:=xy (D:=D) m.nx i.nx;exact⟨c,Mv.trans j m i,by rw[<-b];exact k,l,by rw[<-b];exact n⟩
theorem SimC.skip(s:St):SimC P rd .skip s .normal s:=λ_ _ _ _ k _=>wpIn_skip (Ends.refl k (λ_ h=>by cases h))
theorem SimC.exit(id:Nat)(s:St):SimC P rd (.exit id) s (.exit id) s:=λ_ _ _ _ k _=>wpIn_exit (Ends.refl k (λ_ h=>by cases h))
theorem SimC.ret(s:St):SimC P rd .ret s .ret s:=λ_ _ _ _ k _=>wpIn_ret (Ends.refl k (λ_ h=>by cases h))
theorem ja{ρ a:Env}{D:Nat->Prop}(h:Agree D ρ a)(hl:∀l,rd=some l->D l):rd.map a.blk=rd.map ρ.blk:=by
 rcases rd with _|l
 .rfl
 simp[(h l (hl l rfl)).1]
theorem SimC.seq{x y:Code}{s s1 d:St}{e:AX}(h1:SimC P rd x s .normal s1)(h:SimC P rd y s1 e d):SimC P rd (.seq x y) s e d:=by intro ρ D w a k hl;refine wpIn_seq (wpIn_mono (h1 ρ D w a k hl) ?_);rintro j a1 f ⟨b,g,i,rfl,_⟩;show y.wpIn _ 0 P _ a1 f;rw[<-ja g.agree hl];exact wpIn_mono (h b _ f a1 i (λl c=>.inl (hl l c))) λm a2 n q=>Ends.trans k.hr.lt g q
theorem SimC.seq_out{x y:Code}{s s1:St}{e:AX}(h1:SimC P rd x s e s1)(c:e≠.normal):SimC P rd (.seq x y) s e s1:=by intro ρ D w a k hl;refine wpIn_seq (wpIn_mono (h1 ρ D w a k hl) ?_);rintro i a1 d ⟨b,f,g,rfl,h⟩;have:Ends ρ D s w e s1 (e.toExit b) a1 d:=⟨b,f,g,rfl,h⟩;cases e<;>first|exact absurd rfl c|exact this
theorem SimC.cond{o:Operand}{x y:Code}{s s1:St}{t:Bool}{e:AX}(b:zx s.tm o=some (.bool t))(h:SimC P rd (cond t x y) s e s1):SimC P rd (.cond o x y) s e s1:=by
 intro ρ D w a k hl;obtain⟨h1,_⟩:=jL k _ _ b;refine wpIn_cond (t:=t) (by rw[h1];simp[V.conc]) ?_;cases t
 .exact h ρ D w a k hl
 exact h ρ D w a k hl
theorem SimC.block{id:Nat}{x:Code}{s s1:St}{e:AX}(h:SimC P rd x s e s1):SimC P rd (.block id x) s (match e with | .exit i=>(if i=id then .normal else .exit i)|e=>e) s1:=by
 intro ρ D w a k hl;refine wpIn_block (wpIn_mono (h ρ D w a k hl) ?_);rintro g a1 j ⟨b,c,d,rfl,f⟩;cases e with
 | exit i =>
  simp only[AX.toExit,Exit.inBlock];by_cases hi:i=id
  .simp only[hi,if_true];exact⟨b,c,d,rfl,trivial⟩
  simp only[hi,if_false];exact⟨b,c,d,rfl,trivial⟩
 | normal=>exact⟨b,c,d,rfl,f⟩
 | ret=>exact⟨b,c,d,rfl,f⟩
 | panic v=>exact⟨b,c,d,rfl,f⟩
def SimL(P:Program)(rd:Option Nat)(body:Code)(s:St)(x:AX)(s':St):Prop :=
 ∃m,∀ρ D w a,StR ρ D s a w->(∀l,rd=some l->D l)->Code.roundsIn (Fx (rd.map ρ.blk)) 0 P body (Ends ρ D s w x s') m a w
theorem zFy{F:Fence}{n:Nat}{c:Code}{Q Q':Exit->Act->World->Prop}(b:∀e a w,Q e a w->Q' e a w):∀(m:Nat) (a:Act) (w:World),Code.roundsIn F n P c Q m a w->Code.roundsIn F n P c Q' m a w:=by
 intro m;induction m with
 | zero=>intro a w h;exact h
 | succ m ih=>intro a w h;refine wpIn_mono h ?_;intro e a w q;cases e<;>first|exact ih _ _ q|exact b _ _ _ q
theorem SimL.last{x:Code}{s s1:St}{e:AX}(h:SimC P rd x s e s1)(c:e≠.normal):SimL P rd x s e s1:=by refine⟨1,λρ D w a k hl=>wpIn_mono (h ρ D w a k hl) ?_⟩;rintro j a1 d ⟨b,f,g,rfl,i⟩;have:Ends ρ D s w e s1 (e.toExit b) a1 d:=⟨b,f,g,rfl,i⟩;cases e<;>first|exact absurd rfl c|exact this
theorem SimL.nx{x:Code}{s s1 g:St}{e:AX}(h1:SimC P rd x s .normal s1)(b:SimL P rd x s1 e g):SimL P rd x s e g:=by obtain⟨m,b⟩:=b;refine⟨m+1,λρ D w a k hl=>wpIn_mono (h1 ρ D w a k hl) ?_⟩;rintro j a1 c ⟨d,h,i,rfl,_⟩;show Code.roundsIn _ 0 P x _ m a1 c;rw[<-ja h.agree hl];exact zFy (λn a2 o q=>Ends.trans k.hr.lt h q) m a1 c (b d _ c a1 i (λl f=>.inl (hl l f)))
theorem SimL.loop{x:Code}{s s1:St}{e:AX}(h:SimL P rd x s e s1):SimC P rd (.loop x) s e s1:=by obtain⟨m,h⟩:=h;exact λρ D w a k hl=>wpIn_loop_rounds m (h ρ D w a k hl)
theorem zFE(l:Ug):wM l 0=l.length:=by rw[yB];rfl
theorem zDQ:∀(l:Ug) (i:Nat) (t:Tm) (j:Nat),i+l.length<=Tb.top->zI (ze l i t) j=if i<=j/\j<i+l.length then (l[j-i]?).getD zC else zI t j:=by
 intro l;induction l with
 | nil=>intro i t j _;simp only[ze,List.length_nil];rw[if_neg oy]
 | cons v l ih =>
  intro i t j h;simp only[og]at h ⊢;rw[ze,ih _ _ _ oy,wV _ _ _ _ oy];by_cases h1:j=i
  .subst h1;rw[if_neg oy,if_pos rfl,if_pos oy];simp
  by_cases h2:i+1<=j/\j<i+1+l.length
  .rw[if_pos h2,if_pos oy];obtain⟨k,a⟩:∃k,j-i=k+1:=⟨j-i-1,oy⟩;rw[a,List.getElem?_cons_succ,show j-(i+1)=k from oy]
  rw[if_neg h2,if_neg h1,if_neg oy]
theorem zMR{ρ:Env}{D:Nat->Prop}{args:Ug}{n:Nat}(h1:args.length<=n)(d:n<=511)(b:∀v∈args,v.In D):
  TmR ρ D n (ze args 0 (Tb.leaf zC)) ((args.map (V.conc ρ)).toArray++Array.replicate (n-(args.map (V.conc ρ)).toArray.size) undef):=by
 have hl:zI (Tb.leaf zC)=λ_=>zC:=by funext j;exact Tb.get_leaf _ _
 have c:∀j,zI (ze args 0 (Tb.leaf zC)) j=(args[j]?).getD zC:=λj=>by
  rw[zDQ _ _ _ _ (by unfold Tb.top;omega),hl];by_cases a:j<args.length
  .rw[if_pos oy];rfl
  rw[if_neg oy,ov];rfl
 refine⟨by simp;omega,by unfold Tb.top;omega,λj=>?_,λj=>?_⟩
 .rw[c,Array.getD_eq_getD_getElem?,Array.getElem?_append];by_cases a:j<args.length
  .rw[if_pos (by simpa using a)];simp[a]
  rw[if_neg (by simpa using a),ov (Nat.le_of_not_lt a)];simp only[Option.getD_none,xo,Array.getElem?_replicate];split<;>rfl
 rw[c];by_cases a:j<args.length
 .simp only[a,oU,Option.getD_some];exact b _ (od a)
 rw[ov (Nat.le_of_not_lt a)];exact wL D
variable {c:Ctx}{orc:Nat->Ug->H->Option (V×H)}
def z3g(tmps:Array Value):ResultVar->Sem Value
 | .tmp t=>pure (tmps.getD t undef)
 | .cell a t=>do loadVar t (<-asAddr (tmps.getD a undef))
theorem zFD(ok:CtxOK P c){tmps:Array Value}(g:ResultVar->Sem Value)(q:∀t,g (.tmp t)=pure (tmps.getD t undef))(s:∀a t,g (.cell a t)=(do loadVar t (<-asAddr (tmps.getD a undef)))){ρ:Env}{D:Nat->Prop}{n:Nat}{tm:Tm}{h:H}{w:World}(hr:HR ρ D h w)(p:TmR ρ D n tm tmps){x:List ResultVar}:∀(rs:List ResultVar) (acc:Ug) (vs:Ug),
  leave c x tm h rs acc=some vs->(∀v∈acc,v.In D) ->
  ∃j:Ug,vs=acc.reverse++j/\(rs.mapM (m:=Sem) g).run P w = .ok (j.map (V.conc ρ)) w/\∀v∈vs,v.In D:=by
 intro rs;induction rs with
 | nil=>intro acc vs e d;simp only[leave,oA]at e;subst e;exact⟨[],by simp,by simp,λv i=>d v (by simpa using i)⟩
 | cons r rs ih =>
  intro acc vs e d;cases r with
  | tmp t=>simp only[leave]at e;obtain⟨j,h1,y,z⟩:=ih _ _ e (λv i=>by rcases oq.1 i with g|g<;>first|(rw[g];exact p.inn t)|exact d v g);refine⟨zI tm t::j,by simp[h1],?_,z⟩;simp only[List.mapM_cons,q,Sem.run_bind,Sem.run_pure,Result.andThen_ok,p.val t,y,List.map_cons]
  | cell a t =>
   simp only[leave]at e;split at e
   .rename_i v i;obtain⟨A,l2⟩:=J7 (P:=P) ok i hr (p.inn a);obtain⟨j,h1,y,z⟩:=ih _ _ e (λu B=>by rcases oq.1 B with g|g<;>first|(rw[g];exact l2)|exact d u g);refine⟨v::j,by simp[h1],?_,z⟩;have k:∃b o,zI tm a = .ptr b o:=by
     unfold zo at i;split at i
     .rename_i b o hb;exact⟨b,o,hb⟩
     cases i
    obtain⟨b,o,hb⟩:=k;have f:=p.val a;rw[hb]at f A;simp only[V.conc]at f;simp only[Instr.loadAt,V.conc,Instr.sureAddr,Sem.run_bind,Sem.run_pure,Result.andThen_ok]at A;have l:(asAddr (tmps.getD a undef)).run P w = .ok ⟨ρ.blk b,ρ.off b+o,none⟩ w:=by rw[f];rfl
    simp only[List.mapM_cons,s,Sem.run_bind,l,Sem.run_pure,Result.andThen_ok,A,y,List.map_cons]
   cases e
theorem Ys(ok:CtxOK P c){ρ:Env}{D:Nat->Prop}{n:Nat}{tm:Tm}{tmps:Array Value}{h:H}{w:World}(hr:HR ρ D h w)(k:TmR ρ D n tm tmps){fn:Func}{fi:FI}(m:fn.results.toList=fi.results){vs:Ug}(e:leave c fi.results tm h fi.results []=some vs):(results fn tmps).run P w = .ok ((yP vs).conc ρ) w/\(yP vs).In D:=by
 have key:=λ(g:ResultVar->Sem Value) d f=>zFD (P:=P) ok (tmps:=tmps) g d f hr k fi.results [] vs e (λ_ o=>by cases o);have i:∀v∈vs,v.In D:=(key (z3g tmps) (λ_=>rfl) (λ_ _=>rfl)).choose_spec.2.2;constructor
 .have j:∀(g:ResultVar->Sem Value),(∀t,g (.tmp t)=pure (tmps.getD t undef))->(∀a t,g (.cell a t)=(do loadVar t (<-asAddr (tmps.getD a undef)))) ->
    (do let vs <-fn.results.mapM g;pure (if h:vs.size=1 then vs[0] else .tuple vs):Sem Value).run P w = .ok ((yP vs).conc ρ) w:=by
   intro g d f;rw[Sem.run_bind,Array.mapM_eq_mapM_toList,m,Sem.run_map];obtain⟨q,h1,p,_⟩:=key g d f;rw[p];simp only[List.reverse_nil,List.nil_append]at h1;subst h1;simp only[Result.andThen_ok]
   match vs with
   | []=>simp[yP,V.conc,V.concL]
   | [v]=>simp[yP]
   | a::b::l=>simp[yP,V.conc,V.concL,V.concL_eq]
  unfold results;exact j _ (λ_=>rfl) (λ_ _=>rfl)
 match vs,i with
 | [],_=>simp[yP,V.In,V.InL]
 | [v],i=>exact i v (by simp)
 | a::b::l,i=>simp only[yP,V.In,V.InL_iff];exact i
def jU(P:Program)(ih:Ue):Prop:=∀rd code s x a,ih (Option.isSome rd) code s=some (.done x a)->SimC P rd code s x a
def xE(P:Program)(c:Ctx)(orc:Nat->Ug->H->Option (V×H)):Prop:=∀f args h v h',orc f args h=some (v,h')->(∃fi,c.fn.get f=some fi)/\SimF P f args h (.ret v h')
theorem kw(ok:CtxOK P c){f:Nat}{fi:FI}(h:c.fn.get f=some fi)(args:Array Value)(w:World):(callFunc f args).run P w = .ok (.enter f args) w:=by obtain⟨g,a,b,d,_⟩:=ok.fn f fi h;simp only[callFunc,Sem.run_bind,run_program,Result.andThen_ok,a,b,d,Option.isNone_some,Bool.false_eq_true,if_false,Sem.run_pure]
theorem Zp{ih:Ue}(hih:jU P ih){fi:FI}{args:Ug}{h:H}{x:AX}{s:St}(e:ka ih fi args h=some (.done x s)){ρ:Env}{D:Nat->Prop}{w:World}(hr:HR ρ D h w)(b:∀v∈args,v.In D):
  fi.body.wpIn (Fx none) 0 P (λex a' w'=>∃ρ',Mv ρ D h w ρ' s.heap w'/\StR ρ' (Dx D h s.heap) s a' w'/\ex=x.toExit ρ'/\x.In (Dx D h s.heap)) { tmps:=(args.map (V.conc ρ)).toArray++Array.replicate (fi.n-(args.map (V.conc ρ)).toArray.size) undef,defers:=[] } w:=by
 unfold ka at e;rcases a:(Nat.ble (wM args 0) fi.n && Nat.ble fi.n 511) with _|_
 .simp[a]at e
 simp only[a,oS]at e;simp only[oM]at a;have h1:=oH a.1;have d:=oH a.2;rw[zFE]at h1;exact hih none _ _ _ _ e ρ D w _ ⟨zMR h1 d b,rfl,λ_ h=>(by cases h),hr⟩ (λ_ h=>by cases h)
theorem zE2(ok:CtxOK P c){ih:Ue}(hih:jU P ih){f:Nat}{args:Ug}{h:H}{out:CallOut}(e:Zl c ih f args h=some out):z27 P f args h out:=by
 intro ρ D w u hr d;unfold Zl at e;split at e
 .cases e
 rename_i fi g;obtain⟨fn,l,v,n,o,p⟩:=ok.fn f fi g;have key:∀(x:AX) (s:St),ka ih fi args h=some (.done x s)->(x = .normal\/x = .ret)->endD c fi s=some out ->
   CallsDIn (Fx none) 0 P f (args.map (V.conc ρ)).toArray u w λe q w'=>q=u/\out.post ρ D h w e w':=by
  intro x s r i a;refine callsDIn_of_wp l n trivial ?_;rw[o];refine wpIn_mono (Zp hih r hr d) ?_;rintro ex a' w' ⟨ρ',m,k,rfl,_⟩;unfold endD at a;split at a
  .rename_i t;split at a
   .rename_i vs j;simp only[oA]at a;subst a;obtain⟨r1,r2⟩:=Ys (P:=P) ok k.hr k.tm p j;have b:a'.defers=[]:=by rw[k.dfr,t];rfl
    rcases i with rfl|rfl
    .exact⟨b,_,r1,ρ',rfl,m,k.hr,r2⟩
    exact⟨b,_,r1,ρ',rfl,m,k.hr,r2⟩
   cases a
  cases a
 split at e
 .rename_i s hs;exact key _ _ hs (.inl rfl) e
 .rename_i s hs;exact key _ _ hs (.inr rfl) e
 cases e
theorem zDI(ok:CtxOK P c){ih:Ue}(hih:jU P ih){fn:Func}{tmps:Array Value}{R:Ending->World->Prop}{ρ0:Env}{D0:Nat->Prop}{h0:H}{w0:World}(o:∀id,D0 id->id<h0.nx):
  ∀(l:List AD) (h h':H) (ρ:Env) (w:World),xi (Zl c ih) l h=some h'->HR ρ (Dx D0 h0 h) h w->Mv ρ0 D0 h0 w0 ρ h w->(∀d∈l,d.In (Dx D0 h0 h)) ->
   (∀ρ' w',HR ρ' (Dx D0 h0 h') h' w'->Mv ρ0 D0 h0 w0 ρ' h' w'->Mv ρ (Dx D0 h0 h) h w ρ' h' w'->∃v,(results fn tmps).run P w' = .ok v w'/\R (.returned v) w') ->
   LeavesInM (Fx none) 0 P fn tmps R (l.map (AD.conc ρ)) .returning w:=by
 intro l;induction l with
 | nil=>intro h h' ρ w e hr m _ b;simp only[xi,oA]at e;subst e;exact b ρ w hr m (Mv.refl _ _ _ _)
 | cons d l p =>
  intro h h' ρ w e hr m i b;cases d with
  | coll id =>
   simp only[xi]at e;split at e
   .rename_i t;have k:Dx D0 h0 h id:=i _ (List.mem_cons_self ..);have q:=hr.rel id _ k t;have G:w.heap[ρ.blk id]? = some (.deferred (some [])):=q;have u:=hr.upd (o':=.deferred false) (x:=.deferred none) k t rfl rfl rfl;have F:=Mv.upd (o':=.deferred false) (x:=.deferred none) hr k t rfl rfl;have j:Dx D0 h0 (h.upd id (some (.deferred false)))=Dx D0 h0 h:=rfl;refine⟨by simp,.inl ⟨ρ.blk id,_,rfl,run_takeDeferred G,?_⟩⟩;refine p (h.upd id (some (.deferred false))) h' ρ _ e (by rw[j];exact u) (Mv.trans o m F) (λd k=>i d (oN _ k)) ?_;intro ρ' w' y z A;refine b ρ' w' y z (Mv.trans hr.lt F ?_);rw[jT (xY _ _ _)];exact A
   cases e
  | fn f cap args =>
   simp only[xi]at e;split at e
   .rename_i v h1 a;obtain⟨d1,d2⟩:=i _ (List.mem_cons_self ..);have r:=zE2 ok hih a ρ (Dx D0 h0 h) w .returning hr (λv I=>(List.mem_append.1 I).elim (d2 v) (d1 v));have B:∃fi,c.fn.get f=some fi:=by
     unfold Zl at a;split at a
     .cases a
     rename_i fi n;exact⟨fi,n⟩
    obtain⟨fi,n⟩:=B;obtain⟨g,J,K,L,M,N⟩:=ok.fn f fi n;refine⟨by simp,.inr ⟨λh=>by simp[Fx]at h,.func f,_,f,_,rfl,?_,λ_ _=>trivial,CallsDIn.mono r ?_⟩⟩
    .simp only[AD.conc,invoke,callFunc,Sem.run_bind,run_program,Result.andThen_ok,J,K,L,Option.isNone_some,Bool.false_eq_true,if_false,Sem.run_pure];congr 2;simp
    rintro ex O w' ⟨rfl,C,rfl,s,r1,_⟩;have j:=xy (D:=D0) m.nx s.nx;show LeavesInM _ 0 P fn tmps R (l.map (AD.conc ρ)) (settle .returning) w';rw[<-YW s.agree (λd k=>i d (oN _ k))];refine p h1 h' C w' e (by rw[<-j];exact r1) (Mv.trans o m s) (λd k=>by rw[<-j];exact AD.In_mono wq (i d (oN _ k))) ?_;intro ρ' E y z A;exact b ρ' E y z (Mv.trans hr.lt s (by rw[j];exact A))
   cases e
theorem Zm(ok:CtxOK P c){ih:Ue}(hih:jU P ih){f:Nat}{args:Ug}{h:H}{out:CallOut}(e:zBk c ih f args h=some out):SimF P f args h out:=by
 intro ρ D w hr b;unfold zBk at e;split at e
 .cases e
 rename_i fi i;obtain⟨fn,r,F,t,u,A⟩:=ok.fn f fi i;have key:∀(x:AX) (s:St),ka ih fi args h=some (.done x s)->(x = .normal\/x = .ret)->zEh c ih fi s=some out ->
   CallsIn (Fx none) 0 P f (args.map (V.conc ρ)).toArray w (out.post ρ D h w):=by
  intro x s B j a;refine callsIn_of_wp_marks r t trivial ?_;rw[u];refine wpIn_mono (Zp hih B hr b) ?_;rintro ex a' w' ⟨ρ',m,k,rfl,_⟩;unfold zEh at a;split at a
  .rename_i l n;split at a
   .rename_i vs o;simp only[oA]at a;subst a;have hl:LeavesInM (Fx none) 0 P fn a'.tmps (CallOut.post ρ D h w (.ret (yP vs) l)) a'.defers .returning w':=by
     rw[k.dfr];refine zDI ok hih hr.lt s.dfr s.heap l ρ' w' n k.hr m k.dfrIn ?_;intro p G y C z;have d:∀id,Dx D h s.heap id->Dx D h l id:=λ_ q=>q.imp (λg=>g) (λg=>⟨g.1,oO g.2 z.nx⟩)
     obtain⟨r1,r2⟩:=Ys (P:=P) ok y (k.tm.agree d z.agree) A o;exact⟨_,r1,p,rfl,C,y,r2⟩
    rcases j with rfl|rfl
    .exact hl
    exact hl
   cases a
  cases a
 split at e
 .rename_i s hs;exact key _ _ hs (.inl rfl) e
 .rename_i s hs;exact key _ _ hs (.inr rfl) e
 .rename_i v s hs;split at e
  .rename_i q;simp only[oA]at e;subst e;refine callsIn_of_wp_marks r t trivial ?_;rw[u];refine wpIn_mono (Zp hih hs hr b) ?_;rintro ex a' w' ⟨ρ',m,k,rfl,E⟩;show LeavesInM _ 0 P fn a'.tmps _ a'.defers (.panicking _) w';rw[k.dfr,q];exact⟨ρ',rfl,m,k.hr,E⟩
  cases e
 cases e
theorem qQ(ok:CtxOK P c)(hor:xE P c orc){ih:Ue}(hih:jU P ih){f:Nat}{args:Ug}{h:H}{out:CallOut}(e:jY c orc ih f args h=some out):SimF P f args h out:=by
 unfold jY at e;split at e
 .rename_i v h' a;simp only[oA]at e;subst e;exact(hor _ _ _ _ _ a).2
 exact Zm ok hih e
theorem O6(hor:xE P c orc){ih:Ue}{f:Nat}{args:Ug}{h:H}{out:CallOut}(e:jY c orc ih f args h=some out):∃fi,c.fn.get f=some fi:=by
 unfold jY at e;split at e
 .rename_i v h' b;exact(hor _ _ _ _ _ b).1
 unfold zBk at e;split at e
 .cases e
 rename_i fi a;exact⟨fi,a⟩
end rules
end Go.Sim
namespace Go.Sim
section
variable {P:Program}{c:Ctx}{orc:Nat->Ug->H->Option (V×H)}{rd:Option Nat}
theorem Ky{ρ:Env}{D:Nat->Prop}{n:Nat}:∀(ps:List Tmp) (vs:Ug) (tm a:Tm) (qw:Array Value),wj ps vs n tm=some a->TmR ρ D n tm qw->(∀v∈vs,v.In D) ->
  ps.length=vs.length/\TmR ρ D n a ((ps.zip (vs.map (V.conc ρ))).foldl (λtmps (x:Tmp×Value)=>tmps.setIfInBounds x.1 x.2) qw):=by
 intro ps;induction ps with
 | nil =>
  intro vs tm a qw e k _;rcases vs with _|⟨v,vs⟩
  .simp only[wj,oA]at e;subst e;exact⟨rfl,k⟩
  simp[wj]at e
 | cons p ps ih =>
  intro vs tm a qw e k b;rcases vs with _|⟨v,vs⟩
  .simp[wj]at e
  simp only[wj]at e;rcases hb:Nat.blt p n with _|_
  .simp[hb]at e
  simp only[hb,oS]at e;obtain⟨d,f⟩:=ih vs _ a _ e (k.put ((zY _ _).1 hb) (b v (List.mem_cons_self ..))) (λu g=>b u (oN _ g));exact⟨by simp[d],f⟩
theorem zL0{ps:Array Tmp}{vs:List Value}{qw:Array Value}:(ps.zip vs.toArray).foldl (λtmps (x:Tmp×Value)=>tmps.setIfInBounds x.1 x.2) qw=(ps.toList.zip vs).foldl (λtmps (x:Tmp×Value)=>tmps.setIfInBounds x.1 x.2) qw:=by rw[<-Array.foldl_toList];simp
theorem Z2{ih:Ue}(hih:jU P ih){l:Nat}{args:Ug}{h:H}{out:CallOut}(e:XT ih l args h=some out):zV6 P l args h out:=by
 intro ρ D w hr K hin;unfold XT at e;split at e
 .rename_i st pend n tm params assign body df hg;split at e
  .cases e
  rename_i M htm;split at e
  .rename_i s1 hs1;obtain⟨fn,tmps,hw,N,hdf⟩:=hr.rel l _ K hg;obtain⟨p1,p2⟩:=Ky params.toList args tm M tmps htm N hin;have hy:=run_yield (P:=P) (w:=w) (args:=(args.map (V.conc ρ)).toArray) hw (by simpa using p1.symm);refine⟨fn,_,assign,body,hy,?_⟩;have hd':∀k,some l=some k->D k:=λk hk=>by cases hk;exact K
   refine roundIn_of_wpIn (F:=Fx none) trivial ?_;have hz:=zL0 (ps:=params) (vs:=args.map (V.conc ρ)) (qw:=tmps);have hk0:StR ρ D { n:=n,tm:=M,dfr:=[],heap:=h } { tmps:=(params.zip (args.map (V.conc ρ)).toArray).foldl (λtmps (x:Tmp×Value)=>tmps.setIfInBounds x.1 x.2) tmps,defers:=[] } w :=
    ⟨by rw[hz];exact p2,rfl,λ_ h=>(by cases h),hr⟩
   refine wpIn_mono (hih (some l) _ _ _ _ hs1 ρ D w _ hk0 hd') ?_;rintro ex a1 w1 ⟨b,O,B,rfl,_⟩;have O:Mv ρ D h w b s1.heap w1:=O;have B:StR b (Dx D h s1.heap) s1 a1 w1:=B;show ∃w₂,_;unfold KG at e;split at e
   .rename_i a Q r d f g i C;split at e
    .rename_i x L hs2;have A:Dx D h s1.heap l:=.inl K;obtain⟨E,m,hw2,R,S⟩:=B.hr.rel l _ A C;have hO:ORel b (Dx D h s1.heap) l (.loop .busy a Q r d f g i) (some (.loop { state:=.busy,pending:=a,fn:=E,tmps:=m,params:=d,assign:=f,body:=g,defers:=b.blk i })):=⟨E,m,rfl,R,S⟩;have hr2:=B.hr.upd A C rfl rfl hO;have m2:=Mv.upd (o':=.loop .busy a Q r d f g i) (x:=.loop { state:=.busy,pending:=a,fn:=E,tmps:=m,params:=d,assign:=f,body:=g,defers:=b.blk i }) B.hr A C rfl rfl;have T:b.blk l=ρ.blk l:=(O.agree l K).1;refine⟨_,by rw[<-T];exact run_beginRound hw2 rfl,?_⟩;have s:Dx (Dx D h s1.heap) s1.heap (s1.heap.upd l (some (.loop .busy a Q r d f g i)))=Dx D h s1.heap:=jT (xY _ _ _);have k2:=B.step m2 (by rw[s];exact hr2);rw[s]at k2;have hb:=hih (some l) _ _ _ _ hs2 b (Dx D h s1.heap) _ a1 k2 (λk hk=>by cases hk;exact A);rw[show((Fx none).inRound (ρ.blk l))=Fx ((some l).map b.blk)from by simp[Fx,Fence.inRound,T]];refine wpIn_mono hb ?_;rintro ex2 a2 w2 ⟨o,m3,k3,rfl,hx2⟩;clear hx2;have U:Mv ρ D h w o L.heap w2:=Mv.trans hr.lt O (Mv.trans B.hr.lt m2 (by rw[s];exact m3));have W:Dx (Dx D h s1.heap) (s1.heap.upd l (some (.loop .busy a Q r d f g i))) L.heap=Dx D h L.heap:=xy (h1:=s1.heap.upd l (some (.loop .busy a Q r d f g i))) O.nx m3.nx;rw[W]at k3;unfold wG at e;split at e
     .rename_i st4 pend4 n4 wH t u y z _ G;have I:Dx D h L.heap l:=.inl K;obtain⟨J,p,hw4,X,Y⟩:=k3.hr.rel l _ I G;have hb4:o.blk l=ρ.blk l:=(U.agree l K).1;have fin:∀(q:LoopState) (j:Option Code) (v:V),(∀D,v.In D)->v.conc o = .bool j.isNone->q=(if j.isNone then .ready else .done) ->
        ∃v' w',(Instr.endRound (ρ.blk l) j).run P w2 = .ok v' w'/\CallOut.post ρ D h w (.ret v (L.heap.upd l (some (.loop q j n4 wH t u y z)))) (.returned v') w':=by
       intro q j v hv hvc Z;have hO5:ORel o (Dx D h L.heap) l (.loop q j n4 wH t u y z) (some (.loop { state:=q,pending:=j,fn:=J,tmps:=p,params:=t,assign:=u,body:=y,defers:=o.blk z })):=⟨J,p,rfl,X,Y⟩;refine⟨_,_,by rw[<-hb4];exact run_endRound j hw4,o,by rw[hvc],?_,?_,hv _⟩
       .have m5:=Mv.upd (o':=.loop q j n4 wH t u y z) (x:=.loop { state:=q,pending:=j,fn:=J,tmps:=p,params:=t,assign:=u,body:=y,defers:=o.blk z }) k3.hr I G rfl rfl;subst Z;exact Mv.trans hr.lt U m5
       have:=k3.hr.upd I G rfl rfl hO5;subst Z;exact this
      split at e
      .simp only[oA]at e;subst e;exact fin .ready none (.bool true) (λ_=>by simp[V.In]) (by simp[V.conc]) rfl
      .simp only[oA]at e;subst e;exact fin .done (some .ret) (.bool false) (λ_=>by simp[V.In]) (by simp[V.conc]) rfl
      .rename_i id;simp only[oA]at e;subst e;exact fin .done (some (.exit id)) (.bool false) (λ_=>by simp[V.In]) (by simp[V.conc]) rfl
      cases e
     cases e
    cases e
   cases e
  cases e
 cases e
def zYf:Option Code->AX->Prop
 | none,x=>x = .normal
 | some .ret,x=>x = .ret
 | some (.exit id),x=>x = .exit id
 | _,_=>False
theorem JH(ok:CtxOK P c)(hor:xE P c orc){ih:Ue}(hih:jU P ih){f:Operand}{params:Array Tmp}{assign body:Code}{s:St}{x:AX}{s':St}(e:zDk c orc ih rd.isSome f params assign body s=some (.done x s')):SimC P rd (.rangeFunc f params assign body) s x s':=by
 intro ρ D w a k hl;unfold zDk at e;split at e
 .rename_i g first captured hf
  cases hc:(rd.isSome || !(Nat.blt (s.heap.nx+1) T.top))with
  | true=>simp[hc]at e
  | false =>
   simp only[hc,oT]at e;simp only[Bool.or_eq_false_iff,Bool.not_eq_false']at hc;obtain⟨hrd,hcap⟩:=hc;have hcap':=(zY _ _).1 hcap;have hrn:rd=none:=by cases rd with|none=>rfl|some l=>simp at hrd
   subst hrn;split at e
   .rename_i v3 I A;obtain⟨f1,f2⟩:=jL k _ _ hf;simp only[V.In,V.InL_iff]at f2;refine wpIn_rangeFunc (F:=Fx none) (λfn _=>?_);have g0:s.heap.nx<T.top:=oy
    have hnd:¬D s.heap.nx:=λhd=>by have:=k.hr.lt _ hd;omega
    have r1:=k.hr.new (o:=.deferred true) (x:=.deferred (some [])) 0 g0 rfl;have m1:=Mv.new (o:=.deferred true) (x:=.deferred (some [])) k.hr 0 g0 rfl;generalize hh1:s.heap.new (.deferred true)=h1 at *;have hn1:h1.nx=s.heap.nx+1:=by rw[<-hh1];rfl
    generalize hρ1:ρ.at s.heap.nx w.heap.size 0=E at *;have hb1:E.blk s.heap.nx=w.heap.size:=by rw[<-hρ1];simp
    have y:Dx D s.heap h1 s.heap.nx:=.inr ⟨oV _,oy⟩;have hnd1:¬Dx D s.heap h1 h1.nx:=λhd=>by have:=r1.lt _ hd;omega
    have g1:h1.nx<T.top:=oy
    have htm1:TmR E (Dx D s.heap h1) s.n s.tm a.tmps:=k.tm.agree wq m1.agree
    let L:Loop:={ state:=.ready,pending:=none,fn,tmps:=a.tmps,params,assign,body,defers:=w.heap.size }
    let H:=w.alloc (.deferred (some []))
    have N:Agree (Dx D s.heap h1) E (E.at h1.nx H.heap.size 0):=Env.at_agree hnd1;have hO2:ORel (E.at h1.nx H.heap.size 0) (Dx (Dx D s.heap h1) h1 (h1.new (.loop .ready none s.n s.tm params assign body s.heap.nx))) h1.nx (.loop .ready none s.n s.tm params assign body s.heap.nx) (some (.loop L)) :=
     ⟨fn,a.tmps,by rw[(N _ y).1,hb1],htm1.agree wq N,wq _ y⟩
    have r2:=r1.new (x:=.loop L) 0 g1 hO2;have m2:=Mv.new (o:=.loop .ready none s.n s.tm params assign body s.heap.nx) (x:=.loop L) r1 0 g1 rfl;have hh2:(s.heap.nx+1)=h1.nx:=hn1.symm;rw[hh2]at A e;generalize hh2':h1.new (.loop .ready none s.n s.tm params assign body s.heap.nx)=O at *;have hn2:O.nx=h1.nx+1:=by rw[<-hh2'];rfl
    generalize hρ2:E.at h1.nx H.heap.size 0=z at *;have hb2:z.blk h1.nx=H.heap.size:=by rw[<-hρ2];simp
    have B:Dx (Dx D s.heap h1) h1 O h1.nx:=.inr ⟨oV _,oy⟩;have m12:Mv ρ D s.heap w z O (H.alloc (.loop L)):=Mv.trans k.hr.lt m1 m2;have Q:Dx (Dx D s.heap h1) h1 O=Dx D s.heap O:=xy oy oy;rw[Q]at r2 B;have hin:∀v∈first++(.yield h1.nx::captured),v.In (Dx D s.heap O):=by
     intro v R;rcases List.mem_append.1 R with q|q
     .exact V.In_mono wq _ (f2.2.1 v q)
     rcases oq.1 q with rfl|q
     .simp only[V.In];exact B
     exact V.In_mono wq _ (f2.2.2 v q)
    have hsim:=qQ ok hor hih A z _ _ r2 hin;have J:∀(v:V),v.In D->v.conc z=v.conc ρ:=λv R=>V.conc_agree m12.agree v R
    obtain⟨fi,hfi⟩:=O6 hor A;have S:((first++(.yield h1.nx::captured)).map (V.conc z)).toArray=((V.concL ρ first).toArray ++ #[Value.func (.yield (w.heap.size+1)) #[] #[]])++(V.concL ρ captured).toArray:=by
     apply Array.ext';have e1:first.map (V.conc z)=V.concL ρ first:=by rw[V.concL_eq];exact List.map_congr_left λv R=>J v (f2.2.1 v R)
     have e2:captured.map (V.conc z)=V.concL ρ captured:=by rw[V.concL_eq];exact List.map_congr_left λv R=>J v (f2.2.2 v R)
     have U:H.heap.size=w.heap.size+1:=by simp[H]
     simp[e1,e2,V.conc,hb2,U]
    have U:H.heap.size=w.heap.size+1:=by simp[H]
    refine⟨w.heap.size+1,[{ target:=.collected w.heap.size,args:=#[] }],H.alloc (.loop L),
     { target:=.fn (.func g) (V.concL ρ captured).toArray,args:=(V.concL ρ first).toArray ++ #[Value.func (.yield (w.heap.size+1)) #[] #[]] },H.alloc (.loop L),g,
     ((first++(.yield h1.nx::captured)).map (V.conc z)).toArray,H.alloc (.loop L),run_enterLoop_outer fn a.tmps params assign body,?_,λ_ _=>trivial,?_,λh=>by simp[Fx]at h,?_⟩
    .simp only[resolve,f1,V.conc,Deferred.ofValue,Sem.run_pure];congr 2;simp[Act.eval]
    .simp only[invoke];rw[<-S];exact kw ok hfi _ _
    refine CallsIn.mono hsim ?_;rintro ex w3 ⟨i,rfl,m3,r3,_⟩;unfold qI at e;split at e
    .rename_i st b n4 wH m p r t M;have hm:Mv ρ D s.heap w i I w3:=Mv.trans k.hr.lt m12 m3;have hDx3:Dx (Dx D s.heap O) O I=Dx D s.heap I:=xy oy m3.nx;rw[hDx3]at r3;have W:Dx D s.heap I h1.nx:=.inr ⟨oy,by have:=m3.nx;omega⟩;have hd0:Dx D s.heap I s.heap.nx:=.inr ⟨oV _,by have:=m3.nx;omega⟩;obtain⟨K,u,X,htm4,hdf4⟩:=r3.rel _ _ W M;have hb4:i.blk h1.nx=w.heap.size+1:=by rw[(m3.agree _ B).1,hb2,U]
     have hb0:i.blk s.heap.nx=w.heap.size:=by rw[(m3.agree _ (by rw[<-Q];exact wq _ y)).1,(m2.agree _ y).1,hb1]
     have hO5:ORel i (Dx D s.heap I) h1.nx (.loop .exhausted b n4 wH m p r t) (some (.loop { state:=.exhausted,pending:=b,fn:=K,tmps:=u,params:=m,assign:=p,body:=r,defers:=i.blk t })):=⟨K,u,rfl,htm4,hdf4⟩;have r5:=r3.upd W M rfl rfl hO5;have m5:=Mv.upd (o':=.loop .exhausted b n4 wH m p r t) (x:=.loop { state:=.exhausted,pending:=b,fn:=K,tmps:=u,params:=m,assign:=p,body:=r,defers:=i.blk t }) r3 W M rfl rfl;have G:Mv ρ D s.heap w i (I.upd h1.nx (some (.loop .exhausted b n4 wH m p r t))) _:=Mv.trans k.hr.lt hm m5;have C:StR i (Dx D s.heap (I.upd h1.nx (some (.loop .exhausted b n4 wH m p r t)))) { n:=s.n,tm:=s.tm,dfr:=.coll s.heap.nx::s.dfr,heap:=I.upd h1.nx (some (.loop .exhausted b n4 wH m p r t)) }
       { a with defers:=[{ target:=.collected w.heap.size,args:=#[] }]++a.defers } (w3.putObj (i.blk h1.nx) (.loop { state:=.exhausted,pending:=b,fn:=K,tmps:=u,params:=m,assign:=p,body:=r,defers:=i.blk t })):=by
      refine⟨k.tm.agree wq G.agree,?_,?_,r5⟩
      .simp only[List.map_cons,AD.conc,hb0,List.singleton_append];rw[k.dfr,YW G.agree k.dfrIn]
      intro d hd;rcases oq.1 hd with rfl|q
      .exact hd0
      exact AD.In_mono wq (k.dfrIn d q)
     rw[hb4]at X C G;have fin:∀(x1:AX),st≠.busy->(∀v,x1≠.panic v)->zYf b x1 ->
       x=x1->s' = { n:=s.n,tm:=s.tm,dfr:=.coll s.heap.nx::s.dfr,heap:=I.upd h1.nx (some (.loop .exhausted b n4 wH m p r t)) } ->
       rangePost (Fx none) 0 P (w.heap.size+1) (Ends ρ D s w x s') { a with defers:=[{ target:=.collected w.heap.size,args:=#[] }]++a.defers } (.returned (v3.conc i)) w3:=by
      rintro x1 hst hnp Y rfl rfl;refine⟨b,_,run_endLoop X hst,?_⟩;clear e X hO5 r5 m5 M;generalize hH:I.upd h1.nx (some (.loop .exhausted b n4 wH m p r t))=hE at *;generalize hW:w3.putObj (w.heap.size+1) (.loop { state:=.exhausted,pending:=b,fn:=K,tmps:=u,params:=m,assign:=p,body:=r,defers:=i.blk t })=wE at *;clear hH hW;rcases b with _|j
      ·(change x = .normal at Y);subst Y;exact⟨i,G,C,rfl,trivial⟩
      cases j with
      | ret=>(change x = .ret at Y);subst Y;exact wpIn_ret ⟨i,G,C,rfl,trivial⟩
      | exit id=>(change x = .exit id at Y);subst Y;exact wpIn_exit ⟨i,G,C,rfl,trivial⟩
      | _=>exact Y.elim
     split at e
     .cases e
     rename_i Z;cases b with
     | none=>simp only[oA,Out.done.injEq]at e;exact fin .normal (λh=>Z h) (λ_ h=>by cases h) rfl e.1.symm e.2.symm
     | some j =>
      cases j with
      | ret=>simp only[oA,Out.done.injEq]at e;exact fin .ret (λh=>Z h) (λ_ h=>by cases h) rfl e.1.symm e.2.symm
      | exit id=>simp only[oA,Out.done.injEq]at e;exact fin (.exit id) (λh=>Z h) (λ_ h=>by cases h) rfl e.1.symm e.2.symm
      | _=>simp at e
    cases e
   cases e
 cases e
end
end Go.Sim
namespace Go.Sim
section
variable {P:Program}{c:Ctx}{orc:Nat->Ug->H->Option (V×H)}{rd:Option Nat}
theorem zJx{o:Oper}{ev:Uh}{h:H}{a:AN}{b:Call}(f:o.op = .defer b)(e:yD c o ev h=some a):∃d,a = .dfr d:=by
 unfold yD at e;simp only[f]at e;split at e
 .split at e
  .simp only[oA]at e;exact⟨_,e.symm⟩
  cases e
 cases e
theorem KL{o:Oper}{ev:Uh}{h:H}{g:AN}(e:yD c o ev h=some g)(i:rd.isSome=true->∀d,g≠.dfr d)(r:Nat->Nat)(a:Operand->Value):Oper.semAt (rd.map r) a o=execOp a o:=by
 rcases rd with _|l
 .rfl
 refine Oper.semAt_eq _ _ _ λj b=>?_
 obtain⟨d,f⟩:=zJx b e;exact i rfl d f
theorem wk(ok:CtxOK P c)(hor:xE P c orc){ih:Ue}(hih:jU P ih){o:Oper}{s s':St}{x:AX}(e:zc c orc rd.isSome ih o s=some (x,s')){ρ:Env}{D:Nat->Prop}{w:World}{a:Act}(k:StR ρ D s a w){next:Act->World->Prop}{Q:Exit->Act->World->Prop}(G:x = .normal->∀ρ' v w',Mv ρ D s.heap w ρ' s'.heap w'->(s.dfr=s'.dfr\/rd=none)->StR ρ' (Dx D s.heap s'.heap) s' v w'->next v w')(N:∀v,x = .panic v->∀ρ' w',Mv ρ D s.heap w ρ' s'.heap w'->StR ρ' (Dx D s.heap s'.heap) s' a w'->v.In (Dx D s.heap s'.heap)->Q (.panic [{ v:=v.conc ρ',recovered:=false }]) a w'):
  o.wpIn (Fx (rd.map ρ.blk)) 0 P a w next Q:=by
 refine⟨λ_ _=>trivial,?_⟩;unfold zc at e;rcases B:yD c o (zx s.tm) s.heap with _|R
 .simp[B]at e
 have p:=KL (rd:=rd) B;have hs:=J8 (P:=P) (a:=a.eval) ok B k.hr (λy _ v u=>jL k y v u);have put:∀(v:V) (h':H) (ρ':Env) (w':World) (n:St),yk s o.dst v h'=some n->Mv ρ D s.heap w ρ' h' w'->HR ρ' (Dx D s.heap h') h' w'->v.In (Dx D s.heap h') ->
   Mv ρ D s.heap w ρ' n.heap w'/\StR ρ' (Dx D s.heap n.heap) n (a.put o.dst (v.conc ρ')) w':=by
  intro v h' ρ' w' n b m r u;rw[zCL]at b;have I:=k.step m r;have J:yk { s with heap:=h' } o.dst v ({ s with heap:=h' }:St).heap=some n:=b;obtain⟨A,C⟩:=StR.put I u J;have C:n.heap=h':=C;rw[C];exact⟨m,A⟩
 have g:∀(v:V) (h':H) (n:St),yk s o.dst v h'=some n->s.dfr=n.dfr:=by
  intro v h' n b;unfold yk at b;split at b
  .simp only[oA]at b;subst b;rfl
  rename_i t _;rcases hb:Nat.blt t s.n with _|_
  .simp[hb]at b
  simp only[hb,oS,oA]at b;subst b;rfl
 simp only[B]at e;cases R with
 | val v h' =>
  rw[show(Fx (rd.map ρ.blk)).round=rd.map ρ.blk from rfl,p (λ_ _ h=>by cases h)];obtain⟨ρ',w',hr,m,r,u⟩:=hs;simp only at e;split at e
  .rename_i n b;simp only[oA,oB]at e;obtain⟨rfl,rfl⟩:=e;obtain⟨E,A⟩:=put v h' ρ' w' _ b m r u;rw[hr];exact G rfl _ _ _ E (.inl (g _ _ _ b)) A
  cases e
 | skip h' =>
  rw[show(Fx (rd.map ρ.blk)).round=rd.map ρ.blk from rfl,p (λ_ _ h=>by cases h)];obtain⟨w',hr,m,r⟩:=hs;simp only at e;split at e
  .rename_i n b;simp only[oA,oB]at e;obtain⟨rfl,rfl⟩:=e;obtain⟨E,A⟩:=put zC h' ρ w' _ b m r (wL _);rw[hr];rw[xo]at A;exact G rfl _ _ _ E (.inl (g _ _ _ b)) A
  cases e
 | call f args =>
  rw[show(Fx (rd.map ρ.blk)).round=rd.map ρ.blk from rfl,p (λ_ _ h=>by cases h)];obtain⟨F,hr⟩:=hs;simp only at e;rcases i:jY c orc ih f args s.heap with _|out
  .simp[i]at e
  obtain⟨fi,K⟩:=O6 hor i;rw[hr,kw ok K];refine⟨λh=>by simp[Fx]at h,O7 none _ (CallsIn.mono (qQ ok hor hih i ρ D w k.hr F) ?_)⟩;simp only[i]at e;cases out with
  | ret v h' =>
   simp only at e;rintro O w' ⟨ρ',rfl,m,r,u⟩;split at e
   .rename_i n b;simp only[oA,oB]at e;obtain⟨rfl,rfl⟩:=e;obtain⟨E,A⟩:=put v h' ρ' w' _ b m r u;exact G rfl _ _ _ E (.inl (g _ _ _ b)) A
   cases e
  | panic v h'=>simp only[oA,oB]at e;obtain⟨rfl,rfl⟩:=e;rintro O w' ⟨ρ',rfl,m,r,u⟩;exact N v rfl ρ' w' m (k.step m r) u
 | round l args =>
  rw[show(Fx (rd.map ρ.blk)).round=rd.map ρ.blk from rfl,p (λ_ _ h=>by cases h)];obtain⟨hl,F,hr⟩:=hs;simp only at e;rcases j:XT ih l args s.heap with _|out
  .simp[j]at e
  simp only[j]at e;obtain⟨fn,tmps,y,z,S,T⟩:=Z2 hih j ρ D w k.hr hl F;rw[hr,S];refine⟨λh=>by simp[Fx]at h,XU none _ (RoundIn.mono T ?_)⟩;cases out with
  | ret v h' =>
   simp only at e;rintro O w' ⟨ρ',rfl,m,r,u⟩;split at e
   .rename_i n b;simp only[oA,oB]at e;obtain⟨rfl,rfl⟩:=e;obtain⟨E,A⟩:=put v h' ρ' w' _ b m r u;exact G rfl _ _ _ E (.inl (g _ _ _ b)) A
   cases e
  | panic v h'=>simp at e
 | dfr d =>
  cases rd with
  | some l=>simp at e
  | none =>
   obtain⟨L,hr⟩:=hs;simp only[Option.isSome_none,oT]at e;split at e
   .rename_i n b;simp only[oA,oB]at e;obtain⟨rfl,rfl⟩:=e;rw[show(Fx (Option.map ρ.blk none)).round=none from rfl,Oper.semAt_none,hr];have I:StR ρ D { s with dfr:=d::s.dfr } { a with defers:=d.conc ρ::a.defers } w :=
     ⟨k.tm,by simp[k.dfr],λU M=>by rcases oq.1 M with rfl|q<;>first|exact L|exact k.dfrIn _ q,k.hr⟩
    obtain⟨A,C⟩:=StR.put (s':=n) I (wL D) b;have C:n.heap=s.heap:=C;refine G rfl ρ _ w ?_ (.inr rfl) ?_
    .rw[C];exact Mv.refl _ _ _ _
    rw[C,zr];rw[xo]at A;exact A
   cases e
 | recover=>simp at e
 | pan v h'=>rw[show(Fx (rd.map ρ.blk)).round=rd.map ρ.blk from rfl,p (λ_ _ h=>by cases h)];obtain⟨rfl,u,hr⟩:=hs;simp only[oA,oB]at e;obtain⟨rfl,rfl⟩:=e;rw[hr];exact N v rfl ρ w (Mv.refl _ _ _ _) (by rw[zr];exact k) (by rw[zr];exact u)
theorem xx{ρ:Env}{D:Nat->Prop}{s:St}{a:Act}{w:World}(k:StR ρ D s a w)(ops:Array Oper)(o:Oper):Region.wanted o (yielded ops a.tmps)=zh ops.toList s.tm o:=by
 unfold Region.wanted zh yielded;rcases o.guard with _|⟨j,g⟩
 .rfl
 simp only[Array.getElem?_toList];rcases ops[j]? with _|o'
 .simp
 simp only[Option.bind_some];rcases o'.dst with _|d
 .simp
 simp only[Option.bind_some];have b:=k.tm.val d;rw[Array.getD_eq_getD_getElem?]at b;cases e:a.tmps[d]? with
 | some y=>rw[e]at b;simp only[Option.getD_some]at b;simp only[b];cases f:zI s.tm d<;>simp[V.conc]
 | none=>rw[e]at b;simp only[Option.getD_none]at b;simp only;cases f:zI s.tm d<;>rw[f]at b<;>first|rfl|simp[V.conc,undef]at b
theorem zH4(ok:CtxOK P c)(hor:xE P c orc){ih:Ue}(hih:jU P ih){ops:Array Oper}:
  ∀(l:List Oper) (g:Uf),g.mapM (λi=>ops[i]?)=some l->∀{s s':St}{x:AX},wX c orc rd.isSome ih ops.toList l s=some (.done x s') ->
  ∀{ρ0:Env}{D0:Nat->Prop}{j:St}{w0:World}{ρ:Env}{w:World}{a:Act},(∀id,D0 id->id<j.heap.nx)->(∀l,rd=some l->D0 l)->Mv ρ0 D0 j.heap w0 ρ s.heap w->StR ρ (Dx D0 j.heap s.heap) s a w ->
  wpOpsIn (Fx (rd.map ρ0.blk)) 0 P ops (Ends ρ0 D0 j w0 x s') g a w:=by
 intro l;induction l with
 | nil =>
  intro g b s s' x e ρ0 D0 j w0 ρ w a d hl m k;cases g with
  | nil=>simp only[wX,oA,Out.done.injEq]at e;obtain⟨rfl,rfl⟩:=e;exact⟨ρ,m,k,rfl,trivial⟩
  | cons i g=>simp only[List.mapM_cons,Option.bind_eq_bind,Option.bind_eq_some_iff]at b;obtain⟨o,_,F,_,h⟩:=b;simp at h
 | cons o l n =>
  intro g b s s' x e ρ0 D0 j w0 ρ w a d hl m k;rcases g with _|⟨i,g⟩
  .simp at b
  simp only[List.mapM_cons,Option.bind_eq_bind,Option.bind_eq_some_iff]at b;obtain⟨o',G,F,p,h⟩:=b;simp only[Option.pure_def,oA,List.cons.injEq]at h;obtain⟨rfl,rfl⟩:=h;simp only[wpOpsIn,G];rw[xx k];simp only[wX]at e;cases B:zh ops.toList s.tm o' with
  | true =>
   simp only[B,oS]at e;rw[if_pos rfl];have H:∀l,rd=some l->Dx D0 j.heap s.heap l:=λq I=>.inl (hl q I)
   rw[<-ja m.agree hl];split at e
   .rename_i s1 f;refine wk ok hor hih f k ?_ (λv z=>by cases z);intro _ ρ' a' w' r _ u;rw[ja m.agree hl];rw[xy (D:=D0) m.nx r.nx]at u;exact n g p e d hl (Mv.trans d m r) u
   .rename_i y s1 J f;simp only[oA,Out.done.injEq]at e;obtain⟨rfl,rfl⟩:=e;refine wk ok hor hih f k (λK=>absurd K J) ?_;intro v z ρ' w' r u A;subst z;have t:=xy (D:=D0) m.nx r.nx;exact⟨ρ',Mv.trans d m r,by rw[<-t];exact u,rfl,by rw[<-t];exact A⟩
   cases e
  | false =>
   simp only[B,oT]at e;rw[if_neg (by simp)];split at e
   .rename_i s1 f;obtain⟨C,E⟩:=StR.put k (wL _) f;rw[xo]at C;exact⟨λ_ _=>trivial,n g p e d hl (by rw[E];exact m) (by rw[E];exact C)⟩
   cases e
theorem zAH(ops:Array Oper):(List.range ops.size).mapM (λi=>ops[i]?)=some ops.toList:=by
 have h:∀(l:List Oper) (p:List Oper),(List.range' p.length l.length).mapM (λi=>(p++l)[i]?)=some l:=by
  intro l;induction l with
  | nil=>intro p;simp
  | cons a l ih=>intro p;have:=ih (p++[a]);simp only[oe,og,List.length_nil,Nat.zero_add,List.append_assoc,List.singleton_append]at this;simp[List.range'_succ,List.mapM_cons,this]
 have:=h ops.toList [];simp only[List.length_nil,List.nil_append,Array.length_toList,<-List.range_eq_range',Array.getElem?_toList]at this;exact this
end
end Go.Sim
namespace Go.Sim
def yv(tm:Tm)(d:Option Tmp)(v:V):Tm:=match d with|none=>tm|some t=>tm.set t v
theorem xh{s s':St}{d:Option Tmp}{v:V}{h:H}(e:yk s d v h=some s'):(∀t,d=some t->t<s.n)/\s' = { s with tm:=yv s.tm d v,heap:=h }:=by
 cases d with
 | none=>simp only[yk,oA]at e;exact⟨(λ_ h=>by cases h),e.symm⟩
 | some t =>
  unfold yk at e;rcases hb:Nat.blt t s.n with _|_
  .simp[hb]at e
  simp only[hb,oS,oA]at e;refine⟨λa h=>?_,e.symm⟩;cases h;exact(zY _ _).1 hb
theorem ZY{s:St}{d:Option Tmp}{v:V}{h:H}(a:∀t,d=some t->t<s.n):yk s d v h=some { s with tm:=yv s.tm d v,heap:=h }:=by
 rcases d with _|t
 .rfl
 have h1:Nat.blt t s.n=true:=(zY _ _).2 (a t rfl);simp only[yk,h1,oS,yv]
section
variable {P:Program}{c:Ctx}{orc:Nat->Ug->H->Option (V×H)}{rd:Option Nat}{ih:Ue}
theorem zC7{r:Bool}{o:Oper}{s s':St}(e:zc c orc r ih o s=some (.normal,s')):
  ∃v,(∀t,o.dst=some t->t<s.n)/\s' = { n:=s.n,tm:=yv s.tm o.dst v,dfr:=s'.dfr,heap:=s'.heap } /\
   ∀a,(∀x∈o.op.operands,zx a x=zx s.tm x)->zc c orc r ih o { s with tm:=a } = some (.normal,{ s' with tm:=yv a o.dst v }):=by
 unfold zc at e ⊢;have u:∀a,(∀x∈o.op.operands,zx a x=zx s.tm x)->yD c o (zx a) s.heap=yD c o (zx s.tm) s.heap:=λa h=>zJw c h
 have fin:∀(w:St) (v:V) (h:H),w.n=s.n->w.tm=s.tm->(match yk w o.dst v h with|some s'=>some (AX.normal,s')|none=>none)=some (AX.normal,s') ->
   (∀t,o.dst=some t->t<s.n)/\s' = { n:=s.n,tm:=yv s.tm o.dst v,dfr:=s'.dfr,heap:=s'.heap }/\s'.dfr=w.dfr/\s'.heap=h:=by
  intro w v h h1 k e;split at e
  .rename_i B y;simp only[oA,oB,true_and]at e;subst e;obtain⟨g,rfl⟩:=xh y;exact⟨λt z=>by rw[<-h1];exact g t z,by rw[<-h1,<-k],rfl,rfl⟩
  cases e
 rcases q:yD c o (zx s.tm) s.heap with _|A
 .simp[q]at e
 simp only[q]at e;cases A with
 | val v h=>obtain⟨g,j,m,p⟩:=fin s v h rfl rfl e;refine⟨v,g,j,λa k=>?_⟩;simp only[u a k,q];rw[ZY (s:={ s with tm:=a }) g];simp only[oA,oB,true_and];rw[j];simp only[m,p]
 | skip h=>obtain⟨g,j,m,p⟩:=fin s zC h rfl rfl e;refine⟨zC,g,j,λa k=>?_⟩;simp only[u a k,q];rw[ZY (s:={ s with tm:=a }) g];simp only[oA,oB,true_and];rw[j];simp only[m,p]
 | call f args =>
  simp only at e;rcases i:jY c orc ih f args s.heap with _|out
  .simp[i]at e
  simp only[i]at e;cases out with
  | ret v h=>obtain⟨g,j,m,p⟩:=fin s v h rfl rfl e;refine⟨v,g,j,λa k=>?_⟩;simp only[u a k,q,i];rw[ZY (s:={ s with tm:=a }) g];simp only[oA,oB,true_and];rw[j];simp only[m,p]
  | panic v h=>simp at e
 | round l args =>
  simp only at e;rcases b:XT ih l args s.heap with _|out
  .simp[b]at e
  simp only[b]at e;cases out with
  | ret v h=>obtain⟨g,j,m,p⟩:=fin s v h rfl rfl e;refine⟨v,g,j,λa k=>?_⟩;simp only[u a k,q,b];rw[ZY (s:={ s with tm:=a }) g];simp only[oA,oB,true_and];rw[j];simp only[m,p]
  | panic v h=>simp at e
 | dfr d =>
  cases r with
  | true=>simp at e
  | false=>simp only[oT]at e;obtain⟨g,j,m,p⟩:=fin { s with dfr:=d::s.dfr } zC s.heap rfl rfl e;refine⟨zC,g,j,λa k=>?_⟩;simp only[u a k,q,oT];rw[ZY (s:={ s with tm:=a,dfr:=d::s.dfr }) g];simp only[oA,oB,true_and];rw[j];simp only[m,p]
 | recover=>simp at e
 | pan v h=>simp at e
def low0(h:H):H:={ h with low:=T.top }
def zZk(s s':St):St:={ s' with heap:={ s'.heap with low:=cond (Nat.ble s.heap.low s'.heap.low) s.heap.low s'.heap.low } }
def zEL(c:Ctx)(orc:Nat->Ug->H->Option (V×H))(r:Bool)(ih:Ue)(ops:List Oper)(bs:Uf)(m k:Nat)(o:Oper)(s s1:St):Prop :=
 (zh ops s.tm o=false/\yk s o.dst zC s.heap=some s1) \/
 (zh ops s.tm o=true/\∃a,zc c orc r ih o { s with heap:=low0 s.heap } = some (.normal,a)/\(s.heap.nx<=a.heap.low\/yq ops bs m k s.tm o=true)/\a.dfr=s.dfr/\s1=zZk s a)
theorem zGB:∀{l l':List AD},xv l l'=true->l.length=l'.length:=by
 intro l;induction l with
 | nil=>intro l' h;cases l'<;>first|rfl|(simp[xv]at h)
 | cons a l ih=>intro l' h;cases l' with
  | nil=>simp[xv]at h
  | cons b l'=>simp only[og,ih h]
theorem zIC{r:Bool}{o:Oper}{s s':St}(e:zc c orc r ih o s=some (.normal,s')):s'.dfr=s.dfr\/∃d,s'.dfr=d::s.dfr:=by
 unfold zc at e;have fin:∀(a:St) (v:V) (h:H),(match yk a o.dst v h with|some s'=>some (AX.normal,s')|none=>none)=some (AX.normal,s')->s'.dfr=a.dfr:=by
  intro a v h e;split at e
  .rename_i f b;simp only[oA,oB,true_and]at e;subst e;obtain⟨_,rfl⟩:=xh b;rfl
  cases e
 split at e
 .cases e
 .exact .inl (fin _ _ _ e)
 .exact .inl (fin _ _ _ e)
 .split at e
  .exact .inl (fin _ _ _ e)
  .simp at e
  cases e
 .split at e
  .exact .inl (fin _ _ _ e)
  cases e
 .cases r with
  | true=>simp at e
  | false=>exact .inr ⟨_,fin _ _ _ e⟩
 .simp at e
 cases e
theorem zGy{r:Bool}{ops:List Oper}{bs:Uf}{m n k:Nat}{o:Oper}{l:List Oper}{s i:St}{x:AX}(e:yJ c orc r ih ops bs m (n+1) k (o::l) s=some (.done x i)):
  ∃s1,zEL c orc r ih ops bs m k o s s1/\yJ c orc r ih ops bs m n (k+1) l s1=some (.done x i):=by
 simp only[yJ]at e;cases a:zh ops s.tm o with
 | false =>
  simp only[a,oT]at e;split at e
  .rename_i s1 j;exact⟨s1,.inl ⟨a,j⟩,e⟩
  cases e
 | true =>
  simp only[a,oS]at e;split at e
  .rename_i f hs;rcases b:(Nat.ble s.heap.nx f.heap.low || yq ops bs m k s.tm o) with _|_
   .simp only[b,oT]at e;cases e
   simp only[b,oS]at e;rcases g:xv s.dfr f.dfr with _|_
   .simp only[g,oT]at e;cases e
   simp only[g,oS]at e;simp only[Bool.or_eq_true]at b;refine⟨_,.inr ⟨a,f,hs,b.imp oH id,?_,rfl⟩,e⟩;have h1:=zGB g;rcases zIC hs with h|⟨d,h⟩
   .exact h
   rw[h]at h1;simp at h1
  cases e
def Zi(s s1:St):Prop:=∀id,id<s.heap.nx->s1.heap.get id=s.heap.get id
structure AF (ops:List Oper) (bs:Uf) (m k:Nat) (o:Oper) (s s1:St):Prop where
 n:s1.n=s.n
 cap:s1.heap.nx<=T.top
 inn:∀t,(zI s.tm t).In λid=>id<s.heap.nx
 dfr:s1.dfr=s.dfr
 tm:∃v,(∀t,o.dst=some t->t<s.n)/\s1.tm=yv s.tm o.dst v
 nx:s.heap.nx<=s1.heap.nx
 low:s1.heap.low<=s.heap.low
 old:∀id o',id<s.heap.nx->s1.heap.get id=some o'->∃o,s.heap.get id=some o/\o'.wr=o.wr
 kept:∀id,id<s.heap.nx->id<s1.heap.low->s1.heap.get id=s.heap.get id
 wr:∀id o',s.heap.nx<=id->id<s1.heap.nx->s1.heap.get id=some o'->o'.wr=true
 eff:Zi s s1\/(s1.heap.nx=s.heap.nx/\∃b,(∀id,id≠b->s1.heap.get id=s.heap.get id) /\
  (∀i oi,i<k->ops[i]? = some oi->Nat.testBit (bs.getD k 0) i=true\/(jG s.tm b oi=true/\∀j oj t,i<=j->j<k->ops[j]? = some oj->oj.dst=some t->t∉wN ops oi)) /\
  (∀i,k<i->i<m->Nat.testBit (bs.getD i 0) k=true)) \/
  ((∀i oi,i<k->ops[i]? = some oi->Nat.testBit (bs.getD k 0) i=true\/(Xg oi=true/\∀j oj t,i<=j->j<k->ops[j]? = some oj->oj.dst=some t->t∉wN ops oi)) /\
  (∀i,k<i->i<m->Nat.testBit (bs.getD i 0) k=true))
theorem HR.low0{ρ:Env}{D:Nat->Prop}{h:H}{w:World}(r:HR ρ D h w):HR ρ D (low0 h) w:=⟨r.cap,r.lt,r.rel,r.inj⟩
theorem zLX{F:Fence}{ops:Array Oper}{Q:Exit->Act->World->Prop}{g:Uf}{a:Act}{w:World}(b:∀n,F.room n)(d:∀f,F.fn f)(h:wpOpsIn F 0 P ops Q g a w):∃e a' w',Q e a' w':=by obtain⟨e,a',w',q,_⟩:=wp_opsIn g a w h { (default:Frame)with roundOf:=F.round } [] [] rfl (d _) (b _);exact⟨e,a',w',q⟩
theorem zLJ{r:Bool}{o:Oper}{s s':St}{t:TypeId}{a x:Operand}{b o':Nat}(e:zc c orc r ih o s=some (.normal,s'))(d:o.op = .store t a x)(f:zx s.tm a=some (.ptr b o'))(hb:b<T.top):
  s'.heap.nx=s.heap.nx/\∀id,id≠b->s'.heap.get id=s.heap.get id:=by
 unfold zc at e;rcases g:zx s.tm x with _|v
 .simp[yD,d,f,g]at e
 rcases hs:zZ c t s.heap (.ptr b o') v with _|h'
 .simp[yD,d,f,g,hs]at e
 simp only[yD,d,f,g,hs]at e;have j:s'.heap=h':=by
  split at e
  .rename_i l k;simp only[oA,oB,true_and]at e;subst e;obtain⟨_,rfl⟩:=xh k;rfl
  cases e
 rw[j];unfold zZ at hs;simp only at hs;split at hs
 .split at hs
  .rename_i ti _;rcases h1:wn v.cells ti.size with _|_
   .simp[h1]at hs
   rename_i esz _ _ _ _;rcases i:cond (Nat.ble esz.fz o') (za v.cells) false with _|_
   .rw[h1,oS,i]at hs;cases hs
   rw[h1,oS,i,oS]at hs;split at hs
   .simp only[oA]at hs;subst hs;exact⟨rfl,λid h=>by rw[H.get_upd _ _ _ _ hb,if_neg h]⟩
   cases hs
  cases hs
 cases hs
theorem zR8{r:Bool}{o:Oper}{s s':St}{t:TypeId}{a x y:Operand}{b:Nat}(e:zc c orc r ih o s=some (.normal,s'))(d:o.op = .mapUpdate t a x y)(f:zx s.tm a=some (.map b))(hb:b<T.top):
  s'.heap.nx=s.heap.nx/\∀id,id≠b->s'.heap.get id=s.heap.get id:=by
 unfold zc at e;cases g:zx s.tm x with
 | none=>simp[yD,d,f,g]at e
 | some u =>
 rcases h:zx s.tm y with _|v
 .simp[yD,d,f,g,h]at e
 rcases hs:Yg c t s.heap (.map b) u v with _|h'
 .simp[yD,d,f,g,h,hs]at e
 simp only[yD,d,f,g,h,hs]at e;have n:s'.heap=h':=by
  split at e
  .rename_i A p;simp only[oA,oB,true_and]at e;subst e;obtain⟨_,rfl⟩:=xh p;rfl
  cases e
 rw[n];have key:∀k,h'=s.heap.upd b k->h'.nx=s.heap.nx/\∀id,id≠b->h'.get id=s.heap.get id:=by intro k q;subst q;exact⟨rfl,λid j=>by rw[H.get_upd _ _ _ _ hb,if_neg j]⟩
 unfold Yg at hs;split at hs
 .rename_i ti _;cases w:ti.desc<;>simp only[w]at hs<;>first|(cases hs;done)|skip
  rename_i kt _;split at hs
  .rcases l:Ye c kt u with _|_
   .rw[l,oT]at hs;cases hs
   rw[l,oS]at hs;split at hs
   .rename_i i z _;rcases m:Zb z.key u with _|_
    .rw[m,oT]at hs;cases hs
    rw[m,oS]at hs;simp only[oA]at hs;exact key _ hs.symm
   .simp only[oA]at hs;exact key _ hs.symm
   cases hs
  cases hs
 cases hs
theorem zGL(ok:CtxOK P c)(hor:xE P c orc)(hih:jU P ih){ops:Array Oper}{bs:Uf}{m k:Nat}{o:Oper}{s s1:St}(G:ops[k]? = some o)(hs:zEL c orc rd.isSome ih ops.toList bs m k o s s1){ρ:Env}{D:Nat->Prop}{a:Act}{w:World}(kk:StR ρ D s a w)(_:∀l,rd=some l->D l):
  AF ops.toList bs m k o s s1/\∃ρ' a' w',StR ρ' (Dx D s.heap s1.heap) s1 a' w':=by
 rcases hs with⟨C,E⟩|⟨C,e,x,f,H,rfl⟩
 .obtain⟨y,rfl⟩:=xh E;obtain⟨I,Q⟩:=StR.put kk (wL _) E;refine⟨⟨rfl,kk.hr.cap,λt=>V.In_mono kk.hr.lt _ (kk.tm.inn t),rfl,⟨zC,y,rfl⟩,oV _,oV _,λid o' _ h=>⟨o',h,rfl⟩,λ_ _ _=>rfl,λid o' h1 d=>by have:id<s.heap.nx:=d;omega,.inl λ_ _=>rfl⟩,ρ,a.put o.dst (V.conc ρ zC),w,?_⟩;have:Dx D s.heap ({ s with tm:=yv s.tm o.dst zC,heap:=s.heap }:St).heap=D:=zr;rw[this];exact I
 have k0:StR ρ D { s with heap:=low0 s.heap } a w:=⟨kk.tm,kk.dfr,kk.dfrIn,kk.hr.low0⟩
 have z:wpOpsIn (Fx (rd.map ρ.blk)) 0 P ops (λ_ a' w'=>∃ρ',Mv ρ D (low0 s.heap) w ρ' e.heap w'/\StR ρ' (Dx D s.heap e.heap) e a' w') [k] a w:=by simp only[wpOpsIn,G];rw[if_pos (by rw[xx kk];exact C)];refine wk ok hor hih x k0 (λ_ ρ' a' w' J _ j=>⟨ρ',J,j⟩) (λv K=>by cases K)
 obtain⟨_,a',w',ρ',n,j⟩:=zLX (zIX _) (λ_=>trivial) z;obtain⟨v,y,F,_⟩:=zC7 x;have L:s.heap.nx<=e.heap.nx:=n.nx;refine⟨⟨by rw[F];rfl,j.hr.cap,λt=>V.In_mono kk.hr.lt _ (kk.tm.inn t),H,⟨v,y,by rw[F];rfl⟩,L,?_,n.old,?_,?_,?_⟩,ρ',a',w',?_⟩
 .show cond (Nat.ble s.heap.low e.heap.low) s.heap.low e.heap.low<=s.heap.low;cases hb:Nat.ble s.heap.low e.heap.low with
  | true=>exact oV _
  | false =>
   rw[oT];rcases Nat.le_total s.heap.low e.heap.low with g|g
   .rw[oG g]at hb;cases hb
   exact g
 .intro id h1 d;refine n.kept id h1 ?_;have d:id<cond (Nat.ble s.heap.low e.heap.low) s.heap.low e.heap.low:=d;cases hb:Nat.ble s.heap.low e.heap.low with
  | true=>rw[hb,oS]at d;exact oO d (oH hb)
  | false=>rw[hb,oT]at d;exact d
 .intro id o' h1 d A;exact(n.img id o' h1 d A).1
 .rcases f with f|i
  .exact .inl λid p=>n.kept id p (oO p f)
  have q:JS ops.toList bs m k s.tm o=true\/XY ops.toList bs m k=true:=by simpa [yq]using i
  rcases q with i|i
  case inr =>
   obtain⟨h1,d⟩:=zGW i;exact .inr (.inr ⟨h1,d⟩)
  obtain⟨b,r,A,M⟩:=zB9 i;have B:D b:=by
   rcases r with⟨_,_,_,_,_,d⟩|⟨_,_,_,_,_,d⟩
   all_goals
    have:=(jL kk _ _ d).2;simpa [V.In]using this
  have u:b<T.top:=oO (kk.hr.lt b B) kk.hr.cap;obtain⟨N,O⟩:e.heap.nx=(low0 s.heap).nx/\∀id,id≠b->e.heap.get id=(low0 s.heap).get id:=by
   rcases r with⟨_,_,_,_,h1,d⟩|⟨_,_,_,_,h1,d⟩
   .exact zLJ (s:={ s with heap:=low0 s.heap }) x h1 d u
   exact zR8 (s:={ s with heap:=low0 s.heap }) x h1 d u
  exact .inr (.inl ⟨N,b,O,A,M⟩)
 exact⟨j.tm,j.dfr,j.dfrIn,⟨j.hr.cap,j.hr.lt,j.hr.rel,j.hr.inj⟩⟩
theorem z0A(ok:CtxOK P c)(hor:xE P c orc)(hih:jU P ih){ops:Array Oper}{bs:Uf}{m:Nat}{x:AX}{q:St}:∀(n k:Nat) (l:List Oper) (s:St),yJ c orc rd.isSome ih ops.toList bs m n k l s=some (.done x q) ->
  l=ops.toList.drop k->n<=l.length->∀{ρ:Env}{D:Nat->Prop}{a:Act}{w:World},StR ρ D s a w->(∀l,rd=some l->D l) ->
  ∃st:Nat->St,st 0=s/\(∀i,i<n->∃o,ops[k+i]? = some o/\zEL c orc rd.isSome ih ops.toList bs m (k+i) o (st i) (st (i+1))/\AF ops.toList bs m (k+i) o (st i) (st (i+1))) /\
   (∀i,i<n->∃ρ' a' w',StR ρ' (Dx D s.heap (st i).heap) (st i) a' w') /\
   wX c orc rd.isSome ih ops.toList (ops.toList.drop (k+n)) (st n)=some (.done x q):=by
 intro n;induction n with
 | zero =>
  intro k l s e hl _ ρ D a w _ _;refine⟨λ_=>s,rfl,λi hi=>oy,λi hi=>oy,?_⟩;rw[Nat.add_zero,<-hl];rcases l with _|⟨o,l⟩
  .simpa [yJ,wX]using e
  simpa [yJ]using e
 | succ n d =>
  intro k l s e hl r ρ D a w kk hr;rcases l with _|⟨o,l⟩
  .simp at r
  obtain⟨s1,hs,y⟩:=zGy e;have t:ops[k]? = some o:=by
   have:(ops.toList.drop k)[0]? = some o:=by rw[<-hl];rfl
   simpa using this
  have f:l=ops.toList.drop (k+1):=by have:=congrArg (List.drop 1) hl;simpa [List.drop_drop,Nat.add_comm]using this
  obtain⟨u,ρ',a',w',z⟩:=zGL ok hor hih t hs kk hr;obtain⟨st,g,h1,A,B⟩:=d (k+1) l s1 y f (by simpa using r) z (λl hl=>.inl (hr l hl));have b:∀i,i<=n->s1.heap.nx<=(st i).heap.nx:=by
   intro i;induction i with
   | zero=>intro _;rw[g];exact oV _
   | succ i h=>intro hi;obtain⟨_,_,_,j⟩:=h1 i oy;exact oW (h oy) j.nx
  refine⟨λi=>match i with|0=>s|i+1=>st i,rfl,?_,?_,?_⟩
  .intro i hi;cases i with
   | zero =>
    refine⟨o,t,?_,?_⟩
    .show zEL _ _ _ _ _ _ _ _ _ s (st 0);rw[g];exact hs
    show AF _ _ _ _ _ s (st 0);rw[g];exact u
   | succ i=>have:=h1 i oy;rw[show k+1+i=k+(i+1)from oy]at this;exact this
  .intro i hi;rcases i with _|i
   .exact⟨ρ,a,w,by rw[zr];exact kk⟩
   obtain⟨p,a2,C,v⟩:=A i oy;refine⟨p,a2,C,?_⟩;rw[xy u.nx (b i oy)]at v;exact v
  rw[show k+(n+1)=k+1+n from oy];exact B
end
end Go.Sim
namespace Go.Sim
section
variable {P:Program}{c:Ctx}{orc:Nat->Ug->H->Option (V×H)}{rd:Option Nat}{ih:Ue}
theorem XX(ok:CtxOK P c)(hor:xE P c orc)(hih:jU P ih){o:Oper}{s s':St}(e:zc c orc rd.isSome ih o s=some (.normal,s'))(E:s'.dfr=s.dfr){ρ:Env}{D:Nat->Prop}{w:World}{a:Act}(A:∀x∈o.op.operands,∀v,zx s.tm x=some v->a.eval x=v.conc ρ/\v.In D)(hr:HR ρ D s.heap w){next:Act->World->Prop}{Q:Exit->Act->World->Prop}(u:∀ρ' v w',Mv ρ D s.heap w ρ' s'.heap w'->HR ρ' (Dx D s.heap s'.heap) s'.heap w'->v.In (Dx D s.heap s'.heap)->s'.tm=yv s.tm o.dst v->next (a.put o.dst (v.conc ρ')) w'):
  o.wpIn (Fx (rd.map ρ.blk)) 0 P a w next Q:=by
 refine⟨λ_ _=>trivial,?_⟩;unfold zc at e;rcases i:yD c o (zx s.tm) s.heap with _|F
 .simp[i]at e
 have j:=KL (rd:=rd) i;have hs:=J8 (P:=P) (a:=a.eval) ok i hr A;simp only[i]at e;have fin:∀(v:V) (h:H),(match yk s o.dst v h with|some s'=>some (AX.normal,s')|none=>none)=some (AX.normal,s')->s'.tm=yv s.tm o.dst v/\s'.heap=h:=by
  intro v h e;split at e
  .rename_i G B;simp only[oA,oB,true_and]at e;subst e;obtain⟨k,rfl⟩:=xh B;exact⟨rfl,rfl⟩
  cases e
 cases F with
 | val v h'=>rw[show(Fx (rd.map ρ.blk)).round=rd.map ρ.blk from rfl,j (λ_ _ h=>by cases h)];obtain⟨ρ',w',hr,m,r,q⟩:=hs;obtain⟨k,rfl⟩:=fin v h' e;rw[hr];exact u _ _ _ m r q k
 | skip h'=>rw[show(Fx (rd.map ρ.blk)).round=rd.map ρ.blk from rfl,j (λ_ _ h=>by cases h)];obtain⟨w',hr,m,r⟩:=hs;obtain⟨k,rfl⟩:=fin zC h' e;rw[hr];have:=u _ _ _ m r (wL _) k;rw[xo]at this;exact this
 | call f args =>
  rw[show(Fx (rd.map ρ.blk)).round=rd.map ρ.blk from rfl,j (λ_ _ h=>by cases h)];obtain⟨n,p⟩:=hs;simp only at e;rcases b:jY c orc ih f args s.heap with _|out
  .simp[b]at e
  obtain⟨fi,C⟩:=O6 hor b;rw[p,kw ok C];refine⟨λh=>by simp[Fx]at h,O7 none _ (CallsIn.mono (qQ ok hor hih b ρ D w hr n) ?_)⟩;simp only[b]at e;cases out with
  | ret v h'=>obtain⟨k,rfl⟩:=fin v h' e;rintro I w' ⟨ρ',rfl,m,r,q⟩;exact u _ _ _ m r q k
  | panic v h'=>simp at e
 | round l args =>
  rw[show(Fx (rd.map ρ.blk)).round=rd.map ρ.blk from rfl,j (λ_ _ h=>by cases h)];obtain⟨hl,n,p⟩:=hs;simp only at e;rcases g:XT ih l args s.heap with _|out
  .simp[g]at e
  simp only[g]at e;obtain⟨fn,tmps,y,z,J,K⟩:=Z2 hih g ρ D w hr hl n;rw[p,J];refine⟨λh=>by simp[Fx]at h,XU none _ (RoundIn.mono K ?_)⟩;cases out with
  | ret v h'=>obtain⟨k,rfl⟩:=fin v h' e;rintro I w' ⟨ρ',rfl,m,r,q⟩;exact u _ _ _ m r q k
  | panic v h'=>simp at e
 | dfr d =>
  exfalso;cases t:rd.isSome with
  | true=>simp[t]at e
  | false =>
   simp only[t,oT]at e;split at e
   .rename_i G B;simp only[oA,oB,true_and]at e;subst e;obtain⟨k,rfl⟩:=xh B;have:=congrArg List.length E;simp at this
   cases e
 | recover=>simp at e
 | pan v h'=>simp at e
def Env.mix(n : Nat)(ρ' ρ : Env): Env :=
  { blk := λid => if id < n then ρ'.blk id else ρ.blk id
    off := λid => if id < n then ρ'.off id else ρ.off id
    cap := λid => if id < n then ρ'.cap id else ρ.cap id }
def DS(D0:Nat->Prop)(st:Nat->St)(S:Nat->Prop):Nat->Prop:=λid=>D0 id\/∃j,S j/\(st j).heap.nx<=id/\id<(st (j+1)).heap.nx
structure Base (P:Program) (c:Ctx) (orc:Nat->Ug->H->Option (V×H)) (rd:Option Nat) (ih:Ue) (ops:Array Oper) (m:Nat) (st:Nat->St) (ρ0:Env) (D0:Nat->Prop) (a0:Act) (w0:World):Prop where
 ok:CtxOK P c
 hor:xE P c orc
 hih:jU P ih
 hm:ya ops.toList=some m
 hs:∀i,i<m->∃o,ops[i]? = some o/\zEL c orc rd.isSome ih ops.toList (zi ops.toList []) m i o (st i) (st (i+1))/\AF ops.toList (zi ops.toList []) m i o (st i) (st (i+1))
 k0:StR ρ0 D0 (st 0) a0 w0
 kt:∀i,i<m->∃ρ' a' w',StR ρ' (Dx D0 (st 0).heap (st i).heap) (st i) a' w'
 hl:∀l,rd=some l->D0 l
def zQT(ops:Array Oper)(st:Nat->St)(S:Nat->Prop)(tm:Tm):Prop :=
 ∀t,(∃j o,S j/\ops[j]? = some o/\o.dst=some t/\(∀a o',S a->ops[a]? = some o'->o'.dst=some t->a<=j)/\zI tm t=zI (st (j+1)).tm t) \/
  ((∀j o,S j->ops[j]? = some o->o.dst≠some t)/\zI tm t=zI (st 0).tm t)
variable {ops:Array Oper}{m:Nat}{st:Nat->St}{ρ0:Env}{D0:Nat->Prop}{a0:Act}{w0:World}
namespace Base
variable (B:Base P c orc rd ih ops m st ρ0 D0 a0 w0)
include B
theorem next_mono:∀{p q:Nat},p<=q->q<=m->(st p).heap.nx<=(st q).heap.nx:=by
 intro p q a;induction a with
 | refl=>intro _;exact oV _
 | step h ih=>intro b;obtain⟨o,_,_,d⟩:=B.hs _ b;exact oW (ih oy) d.nx
theorem low_mono:∀{q:Nat},q<=m->(st q).heap.low<=(st 0).heap.low:=by
 intro q;induction q with
 | zero=>intro _;exact oV _
 | succ q ih=>intro a;obtain⟨o,_,_,b⟩:=B.hs _ a;exact oW b.low (ih oy)
theorem n_eq:∀{q:Nat},q<=m->(st q).n=(st 0).n:=by
 intro q;induction q with
 | zero=>intro _;rfl
 | succ q ih=>intro a;obtain⟨o,_,_,b⟩:=B.hs _ a;exact b.n.trans (ih oy)
theorem dfr_eq:∀{q:Nat},q<=m->(st q).dfr=(st 0).dfr:=by
 intro q;induction q with
 | zero=>intro _;rfl
 | succ q ih=>intro a;obtain⟨o,_,_,b⟩:=B.hs _ a;exact b.dfr.trans (ih oy)
theorem cap:∀{q:Nat},q<=m->(st q).heap.nx<=T.top:=by
 intro q a;rcases q with _|q
 .exact B.k0.hr.cap
 obtain⟨o,_,_,b⟩:=B.hs _ a;exact b.cap
theorem same_range{id:Nat}:∀{p q:Nat},p<=q->q<=m->id<(st p).heap.nx->(∀i,p<=i->i<q->id<(st i).heap.nx->(st (i+1)).heap.get id=(st i).heap.get id)->(st q).heap.get id=(st p).heap.get id:=by
 intro p q d;induction d with
 | refl=>intro _ _ _;rfl
 | @step q h ih=>intro g a b;have e:p<=q:=h;rw[b q e oy (oO a (B.next_mono e oy))];exact ih oy a λi h1 j f=>b i h1 oy f
theorem quiet_range{p q:Nat}(a:p<=q)(e:q<=m)(b:∀i,p<=i->i<q->Zi (st i) (st (i+1))){id:Nat}(d:id<(st p).heap.nx):(st q).heap.get id=(st p).heap.get id :=
 B.same_range a e d λi h1 f g=>b i h1 f id g
theorem old_range{id:Nat}{o':O}:∀{p q:Nat},p<=q->q<=m->id<(st p).heap.nx->(st q).heap.get id=some o'->∃o,(st p).heap.get id=some o/\o'.wr=o.wr:=by
 intro p q b;induction b generalizing o' with
 | refl=>intro _ _ h;exact⟨o',h,rfl⟩
 | @step q h ih=>intro d a e;have f:p<=q:=h;obtain⟨o,_,_,g⟩:=B.hs _ d;obtain⟨n,h1,i⟩:=g.old id o' (oO a (B.next_mono f oy)) e;obtain⟨j,k,l⟩:=ih oy a h1;exact⟨j,k,i.trans l⟩
theorem kept_range{id:Nat}:∀{q:Nat},q<=m->id<(st 0).heap.nx->id<(st q).heap.low->(st q).heap.get id=(st 0).heap.get id:=by
 intro q;induction q with
 | zero=>intro _ _ _;rfl
 | succ q ih=>intro d h1 a;obtain⟨o,_,_,b⟩:=B.hs _ d;rw[b.kept id (oO h1 (B.next_mono (oQ _) oy)) a];exact ih oy h1 (oO a b.low)
omit B in
theorem born{id:Nat}:∀{q:Nat},(st 0).heap.nx<=id->id<(st q).heap.nx->∃j,j<q/\(st j).heap.nx<=id/\id<(st (j+1)).heap.nx:=by
 intro q;induction q with
 | zero=>intro h1 a;omega
 | succ q ih =>
  intro h1 a;rcases Nat.lt_or_ge id (st q).heap.nx with g|g
  .obtain⟨j,d,b⟩:=ih h1 g;exact⟨j,oy,b⟩
  exact⟨q,oy,g,a⟩
theorem rows:Z4 ops.toList (zi ops.toList []) 0 ops.toList=true:=by
 have a:=B.hm;unfold ya at a;cases b:Z4 ops.toList (zi ops.toList []) 0 ops.toList with
 | true=>rfl
 | false=>simp[b]at a
theorem hmeq:m=kM (zi ops.toList []) ops.toList.length:=by
 have a:=B.hm;unfold ya at a;rcases b:(Z4 ops.toList (zi ops.toList []) 0 ops.toList && (!(Region.departs ops.toList.toArray) || (zAx ops.toList (Region.linearise .gc ops.toList.toArray 0) [] && XI (Region.linearise .gc ops.toList.toArray 0) ops.toList.length))) with _|_
 .simp only[b,oT]at a;cases a
 simp only[b,oS,oA]at a;exact a.symm
theorem m_le:m<=ops.size:=by have:=Kl (zi ops.toList []) ops.toList.length;rw[<-B.hmeq]at this;simpa using this
theorem apart{i j:Nat}{oi oj:Oper}(h:i<j)(hi:ops[i]? = some oi)(k:ops[j]? = some oj):Nat.testBit ((zi ops.toList []).getD j 0) i=true \/
  (∀d,oi.dst=some d->d∉wN ops.toList oj/\oj.dst≠some d)/\∀d,oj.dst=some d->d∉wN ops.toList oi:=by
 have h1:=(Kc _ 0 B.rows j oj (by simpa using k)).1;rw[Nat.zero_add]at h1;have g:=zHr _ 0 h1 i oi oy (by simpa using hi);rw[Nat.zero_add]at g;refine g.imp id λa=>?_
 simp only[zId,Bool.or_eq_false_iff]at a;refine⟨λd b=>?_,λd b=>?_⟩
 .rw[b]at a;simp only[Bool.or_eq_false_iff]at a;refine⟨λhm=>?_,λe=>?_⟩
  .rw[(qE _ _).2 hm]at a;simp at a
  rw[e]at a;simp at a
 have f:=a.2;simp only[b]at f;intro hm;rw[(qE _ _).2 hm]at f;simp at f
theorem tm_range{t:Nat}:∀{p q:Nat},p<=q->q<=m->(∀i o,p<=i->i<q->ops[i]? = some o->o.dst≠some t)->zI (st q).tm t=zI (st p).tm t:=by
 intro p q a;induction a with
 | refl=>intro _ _;rfl
 | @step q h ih =>
  intro k g;obtain⟨o,l,_,n⟩:=B.hs _ k;obtain⟨v,r,s⟩:=n.tm;rw[s,<-ih oy λi o h1 u=>g i o h1 oy];rcases j:o.dst with _|d
  .rfl
  have b:t≠d:=λe=>g q o h oy l (by rw[j,e])
  have f:d<Tb.top:=by have:=r d j;rw[B.n_eq oy]at this;exact oO this B.k0.tm.cap
  simp only[yv];rw[wV _ _ _ _ f,if_neg b]
end Base
end
end Go.Sim
namespace Go.Sim
section
variable {P:Program}{c:Ctx}{orc:Nat->Ug->H->Option (V×H)}{rd:Option Nat}{ih:Ue}
variable {ops:Array Oper}{m:Nat}{st:Nat->St}{ρ0:Env}{D0:Nat->Prop}{a0:Act}{w0:World}
def Add(S:Nat->Prop)(k:Nat):Nat->Prop:=λj=>S j\/j=k
structure Inv (ops:Array Oper) (m:Nat) (st:Nat->St) (ρ0:Env) (D0:Nat->Prop) (w0:World) (S:Nat->Prop) (J:Nat) (tm:Tm) (ρ:Env) (a:Act) (w:World):Prop where
 lt:∀j,S j->j<J
 le:J<=m
 closed:Closed ops.toList S
 nst:∀i,i<m->¬Zi (st i) (st (i+1))->(S i↔i<J)
 tmv:zQT ops st S tm
 tmR:TmR ρ (DS D0 st S) (st 0).n tm a.tmps
 dfr:a.defers=(st 0).dfr.map (AD.conc ρ)
 hr:HR ρ (DS D0 st S) (st J).heap w
 size:w0.heap.size<=w.heap.size
 os:w.os=w0.os
 tape:w.tape=w0.tape/\w0.drawn<=w.drawn
 output:w.output=w0.output
 agree:Agree D0 ρ0 ρ
 img:∀id o',DS D0 st S id->(st 0).heap.nx<=id->(st J).heap.get id=some o'->w0.heap.size<=ρ.blk id \/
  ∃j o,D0 j/\(st 0).heap.get j=some o/\o.wr=true/\ρ0.blk j=ρ.blk id/\(st J).heap.get j=none
 frame:∀r,r<w0.heap.size->(∀j o,D0 j->(st 0).heap.get j=some o->o.wr=true->ρ0.blk j≠r)->w.heap[r]? = w0.heap[r]?
variable (B:Base P c orc rd ih ops m st ρ0 D0 a0 w0)
include B
theorem Base.looks{S:Nat->Prop}{tm:Tm}(s:Closed ops.toList S)(_:∀j,S j->j<m)(w:zQT ops st S tm){k:Nat}{o:Oper}(z:k<m)(u:¬S k)(h:ops[k]? = some o)(x:∀e∈o.after,j1 e=true->S e.on):∀t,t∈wN ops.toList o->zI tm t=zI (st k).tm t:=by
 intro t hm;have hb:=qy s k o (by simpa using h) x;rcases w t with⟨j,oj,v,l,y,f,n⟩|⟨q,n⟩
 .rw[n];rcases Nat.lt_trichotomy j k with g|g|g
  .refine(B.tm_range (p:=j+1) g oy λi oi h1 r a b=>?_).symm;rcases B.apart r a h with d|⟨d,_⟩
   .have:=f i oi (hb i d) a b;omega
   exact(d t b).1 hm
  .subst g;exact absurd v u
  rcases B.apart g h l with d|⟨_,d⟩
  .exact absurd (s.bit v d) u
  exact absurd hm (d t y)
 rw[n];refine(B.tm_range (oQ _) oy λi oi _ r a b=>?_).symm;rcases B.apart r a h with d|⟨d,_⟩
 .exact q i oi (hb i d) a b
 exact(d t b).1 hm
theorem Base.tm_add{S:Nat->Prop}{tm:Tm}(x:Closed ops.toList S)(y:zQT ops st S tm){k:Nat}{o:Oper}(z:¬S k)(q:ops[k]? = some o){v:V}(l:(st (k+1)).tm=yv (st k).tm o.dst v)(r:∀t,o.dst=some t->t<(st 0).n):zQT ops st (Add S k) (yv tm o.dst v):=by
 intro t;by_cases h:o.dst=some t
 .have i:t<Tb.top:=oO (r t h) B.k0.tm.cap;refine .inl ⟨k,o,.inr rfl,q,h,λn o' a f b=>?_,?_⟩
  .rcases a with a|rfl
   .rcases Nat.lt_or_ge k n with g|g
    .rcases B.apart g q f with s|⟨s,_⟩
     .exact absurd (x.bit a s) z
     exact absurd b (s t h).2
    exact g
   exact oV _
  rw[l,h];simp only[yv];rw[wV _ _ _ _ i,wV _ _ _ _ i,if_pos rfl,if_pos rfl]
 have A:zI (yv tm o.dst v) t=zI tm t:=by
  rcases b:o.dst with _|d
  .rfl
  simp only[yv];rw[wV _ _ _ _ (oO (r d b) B.k0.tm.cap),if_neg (λe=>h (by rw[b,e]))]
 rw[A];rcases y t with⟨j,oj,C,u,r,p,l⟩|⟨w,l⟩
 .refine .inl ⟨j,oj,.inl C,u,r,λn o' a f b=>?_,l⟩;rcases a with a|rfl
  .exact p n o' a f b
  rw[q]at f;cases f;exact absurd b h
 refine .inr ⟨λn o' a f b=>?_,l⟩;rcases a with a|rfl
 .exact w n o' a f b
 rw[q]at f;cases f;exact absurd b h
theorem Inv.combine{S : Nat -> Prop}{J : Nat}{tm : Tm}{ρ : Env}{a : Act}{w : World}(I : Inv ops m st ρ0 D0 w0 S J tm ρ a w){k : Nat}{o : Oper}(hk : k < m)(hn : ¬S k)(ho : ops[k]? = some o)(he : ∀e ∈ o.after, j1 e = true -> S e.on){J' : Nat}(hJ' : J' = max J (k + 1)){g g1 : H}{D' : Nat -> Prop}{ρ' : Env}{w' : World}{v : V}(hD' : ∀id, D' id -> DS D0 st S id)(_ : ∀id, D0 id -> D' id)(mv : Mv ρ D' g w ρ' g1 w')(hr' : HR ρ' (Dx D' g g1) g1 w')(hv : v.In (Dx D' g g1))(hlt : ∀id, D' id -> id < g.nx)(ha : ∀id, Dx D' g g1 id -> (st J').heap.get id = g1.get id)(hb : ∀id, DS D0 st S id -> ¬D' id -> g1.nx <= id /\ (st J').heap.get id = (st J).heap.get id)(hc : ∀id, DS D0 st (Add S k) id ↔ DS D0 st S id \/ (g.nx <= id /\ id < g1.nx))(he' : ∀id, D' id -> (st J).heap.get id = g.get id)(hf : (∀id, DS D0 st S id -> D' id) \/ ∀id o', g.nx <= id -> id < g1.nx -> g1.get id = some o' -> w.heap.size <= ρ'.blk id)(htm : (st (k + 1)).tm = yv (st k).tm o.dst v)(hdst : ∀t, o.dst = some t -> t < (st 0).n)(hnst : ∀i, J <= i -> i < k -> Zi (st i) (st (i + 1))):
    Inv ops m st ρ0 D0 w0 (Add S k) J' (yv tm o.dst v) (Env.mix g1.nx ρ' ρ) (a.put o.dst (v.conc ρ')) w' := by
  have hJm : J' <= m := by have := I.le;omega
  have hmix1 : ∀id, id < g1.nx -> (Env.mix g1.nx ρ' ρ).blk id = ρ'.blk id := λid h => by simp only[Env.mix, if_pos h]
  have hmix2 : ∀id, g1.nx <= id -> (Env.mix g1.nx ρ' ρ).blk id = ρ.blk id := λid h => by simp only[Env.mix];rw[if_neg (by omega)]
  have ag1 : Agree (Dx D' g g1) ρ' (Env.mix g1.nx ρ' ρ) := λid hd => by have := hr'.lt id hd;simp only[Env.mix, if_pos this];exact⟨trivial, trivial, trivial⟩
  have ag2 : Agree (DS D0 st S) ρ (Env.mix g1.nx ρ' ρ) := λid hd => by
    by_cases hd' : D' id
    · have h1 := ag1 id (.inl hd')
      have h2 := mv.agree id hd';exact⟨h1.1.trans h2.1, h1.2.1.trans h2.2.1, h1.2.2.trans h2.2.2⟩
    · have h1 := (hb id hd hd').1
      simp only[Env.mix];rw[if_neg (by omega), if_neg (by omega), if_neg (by omega)];exact⟨rfl, rfl, rfl⟩
  have sub2 : ∀id, DS D0 st S id -> DS D0 st (Add S k) id := λid h => (hc id).2 (.inl h)
  have sub1 : ∀id, Dx D' g g1 id -> DS D0 st (Add S k) id := λid h => h.elim (λh => sub2 id (hD' id h)) λh => (hc id).2 (.inr h)
  have hDlt : ∀id, DS D0 st (Add S k) id -> id < (st J').heap.nx := by
    rintro id (h|⟨j, hj, h1, h2⟩)
    · exact oO (B.k0.hr.lt id h) (B.next_mono (oQ _) hJm)
    · have hjJ : j + 1 <= J' := by
        rcases hj with hj|rfl
        · have := I.lt j hj;omega
        · omega
      exact oO h2 (B.next_mono hjJ hJm)
  have out : ∀id o', DS D0 st S id -> ¬D' id -> (st J').heap.get id = some o' -> (st J).heap.get id = some o' /\ g1.nx <= id /\ ρ.blk id < w.heap.size /\ w'.heap[ρ.blk id]? = w.heap[ρ.blk id]? := by intro id o' h1 h2 h3;obtain⟨h4, h5⟩ := hb id h1 h2;rw[h5]at h3;have h6 := I.hr.lt_size h1 h3;refine⟨h3, h4, h6, mv.frame _ h6 λj oj hj hgj hwj e => ?_⟩;have hj2 := hD' j hj;have := I.hr.inj j id oj o' hj2 h1 (by rw[he' j hj];exact hgj) h3 hwj e;subst this;exact h2 hj
  refine
    { lt := λj hj => ?_, le := hJm, closed := ?_, nst := λi hi hq => ?_, tmv := B.tm_add I.closed I.tmv hn ho htm hdst, tmR := ?_, dfr := ?_, hr := ?_
      size := oW I.size mv.size, os := mv.os.trans I.os, tape := ⟨mv.tape.1.trans I.tape.1, oW I.tape.2 mv.tape.2⟩, output := mv.output.trans I.output, agree := λid hd => ?_, img := ?_, frame := ?_ }
  · rcases hj with hj|rfl
    · have := I.lt j hj;omega
    · omega
  · intro j oj hj hoj e hm hke
    rcases hj with hj|rfl
    · exact .inl (I.closed j oj hj hoj e hm hke)
    · have : oj = o := by
        have h1 : ops[j]? = some oj := by simpa using hoj
        rw[ho]at h1;cases h1;rfl
      subst this;exact .inl (he e hm hke)
  · constructor
    · rintro(hj|rfl)
      · have := I.lt i hj;omega
      · omega
    · intro hiJ
      rcases Nat.lt_or_ge i J with g'|g'
      · exact .inl ((I.nst i hi hq).2 g')
      · rcases Nat.lt_or_ge i k with g2|g2
        · exact absurd (hnst i g' g2) hq
        · exact .inr (by omega)
  · have h1 : TmR (Env.mix g1.nx ρ' ρ) (DS D0 st (Add S k)) (st 0).n tm a.tmps := I.tmR.agree sub2 ag2
    have hvc : v.conc ρ' = v.conc (Env.mix g1.nx ρ' ρ) := (V.conc_agree ag1 v hv).symm;rw[hvc];rcases hd : o.dst with _|t
    .exact h1
    exact h1.put (hdst t hd) (V.In_mono sub1 v hv)
  · have : (a.put o.dst (v.conc ρ')).defers = a.defers := by cases o.dst<;>rfl
    rw[this, I.dfr];exact(YW (λid hd => ag2 id (.inl hd)) B.k0.dfrIn).symm
  · refine⟨B.cap hJm, hDlt, λid o' hd hg => ?_, λi j oi oj hi hj hgi hgj hwi hij => ?_⟩
    · by_cases hx : Dx D' g g1 id
      · rw[ha id hx]at hg
        rw[(ag1 id hx).1];exact(hr'.rel id o' hx hg).agree hx sub1 ag1
      · have hS : DS D0 st S id := ((hc id).1 hd).elim (λh => h) λh => absurd (.inr h) hx
        obtain⟨h3, h4, _, h6⟩ := out id o' hS (λh => hx (.inl h)) hg;rw[(ag2 id hS).1, h6];exact(I.hr.rel id o' hS h3).agree hS sub2 ag2
    · by_cases hxi : Dx D' g g1 i
      · rw[(ag1 i hxi).1]at hij
        by_cases hxj : Dx D' g g1 j
        · rw[(ag1 j hxj).1]at hij
          exact hr'.inj i j oi oj hxi hxj (by rw[<-ha i hxi];exact hgi) (by rw[<-ha j hxj];exact hgj) hwi hij
        · exfalso
          have hSj : DS D0 st S j := ((hc j).1 hj).elim (λh => h) λh => absurd (.inr h) hxj
          obtain⟨h3, h4, h5, _⟩ := out j oj hSj (λh => hxj (.inl h)) hgj;rw[(ag2 j hSj).1]at hij;rcases hxi with hxi|hxi
          · rw[(mv.agree i hxi).1]at hij
            have hgi' : g1.get i = some oi := by rw[<-ha i (.inl hxi)];exact hgi
            obtain⟨o2, h7, h8⟩ := mv.old i oi (hlt i hxi) hgi';have := I.hr.inj i j o2 oj (hD' i hxi) hSj (by rw[he' i hxi];exact h7) h3 (by rw[<-h8];exact hwi) hij;subst this;exact hxj (.inl hxi)
          · rcases hf with hf|hf
            · exact hxj (.inl (hf j hSj))
            · have := hf i oi hxi.1 hxi.2 (by rw[<-ha i (.inr hxi)];exact hgi)
              omega
      · have hSi : DS D0 st S i := ((hc i).1 hi).elim (λh => h) λh => absurd (.inr h) hxi
        obtain⟨h3, h4, h5, _⟩ := out i oi hSi (λh => hxi (.inl h)) hgi;rw[(ag2 i hSi).1]at hij;by_cases hxj : Dx D' g g1 j
        · exfalso
          rw[(ag1 j hxj).1]at hij;rcases hxj with hxj|hxj
          · rw[(mv.agree j hxj).1]at hij
            have hgj' : g1.get j = some oj := by rw[<-ha j (.inl hxj)];exact hgj
            obtain⟨o2, h7, h8⟩ := mv.old j oj (hlt j hxj) hgj';have := I.hr.inj i j oi o2 hSi (hD' j hxj) h3 (by rw[he' j hxj];exact h7) hwi hij;subst this;exact hxi (.inl hxj)
          · rcases hf with hf|hf
            · exact hxi (.inl (hf i hSi))
            · have := hf j oj hxj.1 hxj.2 (by rw[<-ha j (.inr hxj)];exact hgj)
              omega
        · have hSj : DS D0 st S j := ((hc j).1 hj).elim (λh => h) λh => absurd (.inr h) hxj
          obtain⟨h3', _⟩ := out j oj hSj (λh => hxj (.inl h)) hgj;rw[(ag2 j hSj).1]at hij;exact I.hr.inj i j oi oj hSi hSj h3 h3' hwi hij
  · have h1 := I.agree id hd
    have h2 := ag2 id (.inl hd);exact⟨h2.1.trans h1.1, h2.2.1.trans h1.2.1, h2.2.2.trans h1.2.2⟩
  · intro id o' hd h0 hg
    have hJJ : J <= J' := by omega
    have dead : ∀j, D0 j -> (st J).heap.get j = none -> (st J').heap.get j = none := λj hj hn => by
      rcases hg' : (st J').heap.get j with _|q
      .rfl
      obtain⟨q2, h7, _⟩ := B.old_range hJJ hJm (I.hr.lt j (.inl hj)) hg';rw[hn]at h7;cases h7
    rcases(hc id).1 hd with hS|hfr
    · rw[(ag2 id hS).1]
      have hold : ∃o2, (st J).heap.get id = some o2 := by
        by_cases hd' : D' id
        · rw[ha id (.inl hd')]at hg
          obtain⟨o2, h7, _⟩ := mv.old id o' (hlt id hd') hg;exact⟨o2, by rw[he' id hd'];exact h7⟩
        · exact⟨o', (out id o' hS hd' hg).1⟩
      obtain⟨o2, h7⟩ := hold;exact(I.img id o2 hS h0 h7).imp (λh => h) λ⟨j, o, d1, d2, d3, d4, d5⟩ => ⟨j, o, d1, d2, d3, d4, dead j d1 d5⟩
    · rw[hmix1 id hfr.2]
      rcases(mv.img id o' hfr.1 hfr.2 (by rw[<-ha id (.inr hfr)];exact hg)).2 with h1|⟨j, oj, d1, d2, d3, d4, d5⟩
      · exact .inl (oW I.size h1)
      · have hgJ : (st J).heap.get j = some oj := by rw[he' j d1];exact d2
        have hjn : (st J').heap.get j = none := by rw[ha j (.inl d1)];exact d5
        have hS := hD' j d1;have hcase : D0 j \/ (st 0).heap.nx <= j := by
          rcases hS with h|⟨i, hi, h1, _⟩
          · exact .inl h
          · have h2 := I.lt i hi
            have h3 := I.le;exact .inr (oW (B.next_mono (oQ _) (by omega)) h1)
        rcases hcase with hcase|hcase
        · obtain⟨o2, h7, h8⟩ := B.old_range (oQ _) I.le (B.k0.hr.lt j hcase) hgJ
          exact .inr ⟨j, o2, hcase, h7, by rw[<-h8];exact d3, by rw[<-d4];exact(I.agree j hcase).1.symm, hjn⟩
        · rcases I.img j oj hS hcase hgJ with h1|⟨j0, o0, e1, e2, e3, e4, e5⟩
          · exact .inl (by rw[<-d4];exact h1)
          · exact .inr ⟨j0, o0, e1, e2, e3, e4.trans d4, dead j0 e1 e5⟩
  · intro r hrl hr0
    rw[mv.frame r (oO hrl I.size) λj oj hj hgj hwj e => ?_]
    · exact I.frame r hrl hr0
    · have hgJ : (st J).heap.get j = some oj := by rw[he' j hj];exact hgj
      have hS := hD' j hj;have hcase : D0 j \/ (st 0).heap.nx <= j := by
        rcases hS with h|⟨i, hi, h1, _⟩
        · exact .inl h
        · have h2 := I.lt i hi
          have h3 := I.le;exact .inr (oW (B.next_mono (oQ _) (by omega)) h1)
      rcases hcase with hcase|hcase
      · obtain⟨o2, h7, h8⟩ := B.old_range (oQ _) I.le (B.k0.hr.lt j hcase) hgJ
        exact hr0 j o2 hcase h7 (by rw[<-h8];exact hwj) (by rw[<-(I.agree j hcase).1];exact e)
      · rcases I.img j oj hS hcase hgJ with h1|⟨j0, o0, e1, e2, e3, e4, _⟩
        · omega
        · exact hr0 j0 o0 e1 e2 e3 (e4.trans e)
end
end Go.Sim
namespace Go.Sim
theorem ORel.and{ρ g:Env}{D E:Nat->Prop}{id:Nat}{o:O}{x y:Option Obj}(h:ORel ρ D id o x)(d:ORel g E id o y):ORel ρ (λi=>D i/\E i) id o x:=by
 cases o with
 | cells l esz wr op=>obtain⟨c,e,fz,h1,a,j,k⟩:=h;obtain⟨_,_,_,_,_,m,_⟩:=d;exact⟨c,e,fz,h1,a,λi v q=>V.In_and v (j i v q) (m i v q),k⟩
 | map es clock=>exact⟨h.1,λe f=>⟨V.In_and _ (h.2 e f).1 (d.2 e f).1,V.In_and _ (h.2 e f).2 (d.2 e f).2⟩⟩
 | loop s p n tm params assign body dfr=>obtain⟨fn,tmps,h1,a,j⟩:=h;obtain⟨_,_,_,k,m⟩:=d;exact⟨fn,tmps,h1,⟨a.size,a.cap,a.val,λt=>V.In_and _ (a.inn t) (k.inn t)⟩,j,m⟩
 | deferred b=>exact h
 | strIter l pos=>exact h
 | mapIter r since seen stepped=>exact⟨h.1,λr hr=>⟨h.2 r hr,d.2 r hr⟩⟩
theorem zOL{d:Option Tmp}{tm:Tm}{v u:V}(b:∀t,d=some t->t<Tb.top)(e:yv tm d v=yv tm d u)(a:Tm):yv a d v=yv a d u:=by
 rcases d with _|t
 .rfl
 simp only[yv]at e ⊢;have h1:=congrArg (λx:Tm=>zI x t) e;simp only[wV _ _ _ _ (b t rfl),if_true]at h1;rw[h1]
theorem zDP{tm c:Tm}{b:Nat}{o:Oper}(h:∀x∈o.op.operands,zx tm x=zx c x):jG tm b o=jG c b o:=by
 unfold jG;cases e:o.op<;>try rfl
 case load t a =>
  rw[e]at h;simp only[h a (by simp[Op.operands])]
 case slice t a lo hi mx =>
  rw[e]at h;simp only[h a (by simp[Op.operands])]
 case convert s d a =>
  rw[e]at h;simp only[h a (by simp[Op.operands])]
 case call cl =>
  rw[e]at h;have h1:ZT (zx tm) cl.args.toList=ZT (zx c) cl.args.toList:=ZB λx hm=>h x (by simp[Op.operands,Call.operands];exact .inr (by simpa using hm))
  show zAC tm cl=zAC c cl;unfold zAC;rw[h1]
theorem zHW{ops:List Oper}{o:Oper}{t:Tmp}(h:Operand.tmp t∈o.op.operands):t∈wN ops o :=
 List.mem_append_right _ (List.mem_filterMap.2 ⟨.tmp t,by simpa using h,rfl⟩)
theorem zBu{ops:List Oper}{o:Oper}{tm a:Tm}(h:∀t,t∈wN ops o->zI tm t=zI a t):∀x∈o.op.operands,zx tm x=zx a x:=by
 intro x b;cases x with
 | tmp t=>simp only[zx,h t (zHW b)]
 | _=>rfl
section
variable {P:Program}{c:Ctx}{orc:Nat->Ug->H->Option (V×H)}{rd:Option Nat}{ih:Ue}
variable {ops:Array Oper}{m:Nat}{st:Nat->St}{ρ0:Env}{D0:Nat->Prop}{a0:Act}{w0:World}
theorem zBb{ops:List Oper}{o:Oper}{tm a:Tm}(h:∀t,t∈wN ops o->zI tm t=zI a t):zh ops tm o=zh ops a o:=by
 unfold zh;rcases b:o.guard with _|⟨j,g⟩
 .rfl
 simp only;rcases e:ops[j]? with _|o'
 .rfl
 simp only;rcases f:o'.dst with _|d
 .rfl
 simp only;rw[h d (List.mem_append_left _ (by simp only[b,e,f];exact List.mem_singleton.2 rfl))]
theorem Inv.step(B:Base P c orc rd ih ops m st ρ0 D0 a0 w0){S:Nat->Prop}{J:Nat}{tm:Tm}{ρ:Env}{a:Act}{w:World}(I:Inv ops m st ρ0 D0 w0 S J tm ρ a w){k:Nat}{o:Oper}(Y:k<m)(hn:¬S k)(Z:ops[k]? = some o)(he:∀e∈o.after,j1 e=true->S e.on){K:Act->World->Prop}{Q:Exit->Act->World->Prop}(hK:∀J' tm' ρ' a' w',Inv ops m st ρ0 D0 w0 (Add S k) J' tm' ρ' a' w'->K a' w'):wpOpIn (Fx (rd.map ρ0.blk)) 0 P ops Q k K a w:=by
 unfold wpOpIn;simp only[Z];have N:=B.looks I.closed (λj E=>oO (I.lt j E) I.le) I.tmv Y hn Z he;have hbe:=qy I.closed k o (by simpa using Z) he;have kS:StR ρ (DS D0 st S) { n:=(st 0).n,tm:=tm,dfr:=(st 0).dfr,heap:=(st J).heap } a w:=⟨I.tmR,I.dfr,λd F=>AD.In_mono (λ_ h=>.inl h) (B.k0.dfrIn d F),I.hr⟩
 have hwant:Region.wanted o (yielded ops a.tmps)=zh ops.toList (st k).tm o:=by rw[xx kS];exact zBb N
 rw[hwant];obtain⟨o',ho',hstep,af⟩:=B.hs k Y;rw[Z]at ho';cases ho';have hops:∀x∈o.op.operands,zx tm x=zx (st k).tm x:=zBu N;have hJm:=I.le;have y:∀i,J<=i->i<k->Zi (st i) (st (i+1)):=by
  intro i h1 f;refine Classical.byContradiction λL=>?_
  obtain⟨oi,hoi,_,afi⟩:=B.hs i oy;rcases afi.eff with h|⟨_,b,_,_,M⟩|⟨_,M⟩
  .exact L h
  .have:=(I.nst i oy L).1 (hbe i (M k f Y));omega
  have:=(I.nst i oy L).1 (hbe i (M k f Y));omega
 have hkq:k<J->Zi (st k) (st (k+1)):=λh=>Classical.byContradiction λL=>hn ((I.nst k Y L).2 h)
 have T:∀id,DS D0 st S id->id<(st J).heap.nx:=I.hr.lt;have hadd:∀id,DS D0 st (Add S k) id↔DS D0 st S id\/((st k).heap.nx<=id/\id<(st (k+1)).heap.nx):=by
  intro id;constructor
  .rintro(h|⟨j,E|rfl,h⟩)
   .exact .inl (.inl h)
   .exact .inl (.inr ⟨j,E,h⟩)
   exact .inr h
  rintro((h|⟨j,E,h⟩)|h)
  .exact .inl h
  .exact .inr ⟨j,.inl E,h⟩
  exact .inr ⟨k,.inr rfl,h⟩
 have hgo:J<=k->(∀id,DS D0 st S id->(st k).heap.get id=(st J).heap.get id)/\HR ρ (DS D0 st S) (st k).heap w:=by
  intro G;have h1:∀id,DS D0 st S id->(st k).heap.get id=(st J).heap.get id:=λid F=>B.quiet_range G oy y (T id F)
  refine⟨h1,B.cap oy,λid F=>oO (T id F) (B.next_mono G oy),λid o' F hg=>I.hr.rel id o' F (by rw[<-h1 id F];exact hg),λi j oi oj hi E hgi O=>?_⟩;exact I.hr.inj i j oi oj hi E (by rw[<-h1 i hi];exact hgi) (by rw[<-h1 j E];exact O)
 have z:k<J->max J (k+1)=J:=λh=>oy
 have hmax2:J<=k->max J (k+1)=k+1:=λh=>oy
 rcases hstep with⟨hw,hp⟩|⟨hw,s',hst,hlow,F,W⟩
 .rw[hw,if_neg (by simp)];refine⟨λ_ _=>trivial,?_⟩;obtain⟨g1,W⟩:=xh hp;have A:(st (k+1)).heap=(st k).heap:=by rw[W]
  have htm:(st (k+1)).tm=yv (st k).tm o.dst zC:=by rw[W]
  have r:∀t,o.dst=some t->t<(st 0).n:=λt ht=>by rw[<-B.n_eq (q:=k) oy];exact g1 t ht
  have hc:∀g:H,∀id,DS D0 st (Add S k) id↔DS D0 st S id\/(g.nx<=id/\id<g.nx):=λg id=>by
   rw[hadd id,A];constructor
   .rintro(h|h)
    .exact .inl h
    omega
   rintro(h|h)
   .exact .inl h
   omega
  rw[<-xo ρ];rcases Nat.lt_or_ge k J with u|G
  .exact hK _ _ _ _ _ (I.combine B Y hn Z he rfl (g:=(st J).heap) (g1:=(st J).heap) (D':=DS D0 st S) (λ_ h=>h) (λ_ h=>.inl h) (Mv.refl _ _ _ _) (by rw[zr];exact I.hr) (wL _) T
    (λid _=>by rw[z u]) (λid h1 f=>absurd h1 f) (hc _) (λ_ _=>rfl) (.inr λid o' h1 f _=>oy) htm r y)
  obtain⟨h1,f⟩:=hgo G;exact hK _ _ _ _ _ (I.combine B Y hn Z he rfl (g:=(st k).heap) (g1:=(st k).heap) (D':=DS D0 st S) (λ_ h=>h) (λ_ h=>.inl h) (Mv.refl _ _ _ _) (by rw[zr];exact f) (wL _) f.lt
   (λid _=>by rw[hmax2 G,A]) (λid h1 f=>absurd h1 f) (hc _) (λid F=>(h1 id F).symm) (.inr λid o' h1 f _=>oy) htm r y)
 rw[hw,if_pos rfl];obtain⟨v0,hd0,hs',htr⟩:=zC7 hst;have e3:=htr tm hops;have r:∀t,o.dst=some t->t<(st 0).n:=λt ht=>by rw[<-B.n_eq (q:=k) oy];exact hd0 t ht
 have hdtop:∀t,o.dst=some t->t<Tb.top:=λt ht=>oO (r t ht) B.k0.tm.cap
 have htm0:(st (k+1)).tm=yv (st k).tm o.dst v0:=by rw[W,hs'];rfl
 have hnx:(st (k+1)).heap.nx=s'.heap.nx:=by rw[W];rfl
 have hgt:∀id,(st (k+1)).heap.get id=s'.heap.get id:=λid=>by rw[W];rfl
 rw[<-ja I.agree B.hl];obtain⟨ρt,at',wt,kt⟩:=B.kt k Y;have hopS:∀x∈o.op.operands,∀v,zx tm x=some v->a.eval x=v.conc ρ/\v.In (DS D0 st S):=λx _ v hv=>jL kS x v hv
 have hfr:Zi (st k) (st (k+1))->∀{D':Nat->Prop}{ρ':Env}{w':World},(∀id,D' id->id<(st k).heap.nx)->Mv ρ D' (low0 (st k).heap) w ρ' s'.heap w' ->
   ∀id o',(low0 (st k).heap).nx<=id->id<s'.heap.nx->s'.heap.get id=some o'->w.heap.size<=ρ'.blk id:=by
  intro L D' ρ' w' hlt mv id o' h1 f M;rcases(mv.img id o' h1 f M).2 with h4|⟨j,oj,E,O,_,_,hnone⟩
  .exact h4
  have U:=L j (hlt j E);rw[hgt,hnone]at U;have O:(st k).heap.get j=some oj:=O;rw[O]at U;cases U
 have hcs:∀id,DS D0 st (Add S k) id↔DS D0 st S id\/((low0 (st k).heap).nx<=id/\id<s'.heap.nx):=λid=>by rw[hadd id,hnx];exact Iff.rfl
 have R:∀v,yv tm o.dst v0=yv tm o.dst v->(st (k+1)).tm=yv (st k).tm o.dst v:=λv hv=>by rw[htm0];exact zOL hdtop hv _
 rcases Nat.lt_or_ge k J with u|G
 .by_cases hex:∃i,k<i/\i<J/\¬Zi (st i) (st (i+1))
  · -- a store went ahead: the operation does not look at its block
   have hsee:∀i,k<i->i<J->¬Zi (st i) (st (i+1))->Xg o=true\/∃b,jG tm b o=true/\∀id,id≠b->(st (i+1)).heap.get id=(st i).heap.get id:=by
    intro i h1 f L;have hSi:=(I.nst i oy L).2 f;obtain⟨oi,hoi,_,afi⟩:=B.hs i oy;rcases afi.eff with h|⟨_,b,M,h4,_⟩|⟨h4,_⟩
    .exact absurd h L
    case inr.inr =>
     rcases h4 k o h1 (by simpa using Z)with U|⟨U,_⟩
     .exact absurd (I.closed.bit hSi U) hn
     exact .inl U
    rcases h4 k o h1 (by simpa using Z)with U|⟨U,h6⟩
    .exact absurd (I.closed.bit hSi U) hn
    refine .inr ⟨b,?_,M⟩;rw[<-U];refine zDP (zBu (ops:=ops.toList) λt ht=>?_);rw[N t ht];exact(B.tm_range (Nat.le_of_lt h1) oy λj oj h7 h8 h9 h10=>h6 j oj t h7 h8 (by simpa using h9) h10 ht).symm
   obtain⟨i0,h1,f,M⟩:=hex;obtain⟨b0,hb0⟩:∃b0,jG tm b0 o=true:=by
    rcases hsee i0 h1 f M with h|⟨b0,hb0,_⟩
    .exact⟨0,zM0 h tm 0⟩
    exact⟨b0,hb0⟩
   have e4:=e3;unfold zc at e4;rcases hop:yD c o (zx tm) (low0 (st k).heap) with _|an
   .simp only[hop]at e4;cases e4
   obtain⟨v,rfl,hall⟩:=zLz hb0 hop;simp only[hop]at e4;rw[ZY (s:={ st k with heap:=low0 (st k).heap,tm:=tm }) hd0]at e4;simp only[oA,oB,true_and]at e4;have A:s'.heap=low0 (st k).heap:=(congrArg St.heap e4).symm;have hputs:yv tm o.dst v=yv tm o.dst v0:=congrArg St.tm e4;have hload:∀t x b' o',o.op = .load t x->zx tm x=some (.ptr b' o')->(st J).heap.get b'=(low0 (st k).heap).get b':=by
    intro t x b' o' hl hx;have hx':zx (st k).tm x=some (.ptr b' o'):=by rw[<-hops x (by rw[hl];simp[Op.operands])];exact hx
    have hin:=(jL kt x _ hx').2;simp only[V.In]at hin;refine B.same_range (Nat.le_of_lt u) hJm (kt.hr.lt _ hin) λi h4 U h6=>?_
    by_cases L:Zi (st i) (st (i+1))
    .exact L b' h6
    have hik:k<i:=by
     rcases Nat.eq_or_lt_of_le h4 with rfl|g
     .exact absurd (hkq u) L
     exact g
    rcases hsee i hik U L with h7|⟨b,h7,h8⟩
    .exfalso;unfold Xg at h7;simp only[hl]at h7;cases h7
    refine h8 b' λe=>?_
    subst e;unfold jG at h7;simp only[hl,hx]at h7;simp at h7
   have hJop:=hall (st J).heap hload;have e5:zc c orc rd.isSome ih o { n:=(st 0).n,tm:=tm,dfr:=(st 0).dfr,heap:=(st J).heap } = some (.normal,{ n:=(st 0).n,tm:=yv tm o.dst v,dfr:=(st 0).dfr,heap:=(st J).heap }):=by unfold zc;simp only[hJop];rw[ZY (s:={ n:=(st 0).n,tm:=tm,dfr:=(st 0).dfr,heap:=(st J).heap }) r]
   refine XX B.ok B.hor B.hih e5 rfl hopS I.hr ?_;intro ρ' v' w' mv X hv' l;have l:yv tm o.dst v=yv tm o.dst v':=l;refine hK _ _ _ _ _ (I.combine B Y hn Z he rfl (g:=(st J).heap) (g1:=(st J).heap) (D':=DS D0 st S) (λ_ h=>h) (λ_ h=>.inl h) mv X hv' T
    (λid _=>by rw[z u]) (λid h1 f=>absurd h1 f) (λid=>?_) (λ_ _=>rfl) (.inr λid o' h1 f _=>oy) (R v' (by rw[<-hputs,l])) r y)
   rw[hcs id,A];constructor
   .rintro(h|h)
    .exact .inl h
    omega
   rintro(h|h)
   .exact .inl h
   omega
  -- only new blocks came up ahead
  have hq2:∀i,k<=i->i<J->Zi (st i) (st (i+1)):=by
   intro i h1 f;rcases Nat.eq_or_lt_of_le h1 with rfl|g
   .exact hkq u
   exact Classical.byContradiction λL=>hex ⟨i,g,f,L⟩
  have C:∀id,id<(st k).heap.nx->(st J).heap.get id=(st k).heap.get id:=λid h=>B.quiet_range (Nat.le_of_lt u) hJm hq2 h
  have hsub:∀id,DS D0 st S id->id<(st k).heap.nx->Dx D0 (st 0).heap (st k).heap id:=by
   rintro id (h|⟨j,E,h1,f⟩) M
   .exact .inl h
   have hjJ:=I.lt j E;exact .inr ⟨oW (B.next_mono (oQ _) oy) h1,M⟩
  have hrk:HR ρ (λid=>DS D0 st S id/\id<(st k).heap.nx) (low0 (st k).heap) w:=by
   refine⟨B.cap oy,λid h=>h.2,λid o' h hg=>?_,λi j oi oj hi E hgi O=>?_⟩
   .have hg:(st k).heap.get id=some o':=hg;have h1:=I.hr.rel id o' h.1 (by rw[C id h.2];exact hg);have f:=kt.hr.rel id o' (hsub id h.1 h.2) hg;have M:=h1.and f;refine M.agree (D:=λi=>DS D0 st S i/\Dx D0 (st 0).heap (st k).heap i) ⟨h.1,hsub id h.1 h.2⟩ (λi hi=>⟨hi.1,kt.hr.lt i hi.2⟩) (Agree.refl _ _)
   exact I.hr.inj i j oi oj hi.1 E.1 (by rw[C i hi.2];exact hgi) (by rw[C j E.2];exact O)
  refine XX B.ok B.hor B.hih e3 F (λx hx v hv=>?_) hrk ?_
  .obtain⟨h1,f⟩:=hopS x hx v hv;have M:=(jL kt x v (by rw[<-hops x hx];exact hv)).2;exact⟨h1,V.In_and v f (V.In_mono kt.hr.lt v M)⟩
  intro ρ' v w' mv X hv l;have l:yv tm o.dst v0=yv tm o.dst v:=l;refine hK _ _ _ _ _ (I.combine B Y hn Z he rfl (g:=low0 (st k).heap) (g1:=s'.heap) (D':=λid=>DS D0 st S id/\id<(st k).heap.nx) (λ_ h=>h.1)
   (λid h=>⟨.inl h,oO (B.k0.hr.lt id h) (B.next_mono (oQ _) oy)⟩) mv X hv (λ_ h=>h.2) (λid F=>?_) (λid h1 f=>?_) hcs (λid h=>C id h.2) (.inr (hfr (hkq u) (λ_ h=>h.2) mv)) (R v l) r y)
  .rw[z u,<-hgt id];refine B.quiet_range oy hJm (λi h1 f=>hq2 i oy f) ?_;rw[hnx];exact X.lt id F
  rw[z u];refine⟨?_,rfl⟩;have M:(st k).heap.nx<=id:=Nat.le_of_not_lt λh=>f ⟨h1,h⟩
  rcases h1 with h|⟨j,E,h4,U⟩
  .have:=oO (B.k0.hr.lt id h) (B.next_mono (q:=k) (oQ _) oy);omega
  have hjJ:=I.lt j E;rcases Nat.lt_trichotomy j k with g|g|g
  .have:=B.next_mono (p:=j+1) (q:=k) g oy;omega
  .subst g;exact absurd E hn
  have:=B.next_mono (p:=k+1) (q:=j) g oy;rw[hnx]at this;omega
 obtain⟨h1,f⟩:=hgo G;refine XX B.ok B.hor B.hih e3 F hopS f.low0 ?_;intro ρ' v w' mv X hv l;have l:yv tm o.dst v0=yv tm o.dst v:=l;exact hK _ _ _ _ _ (I.combine B Y hn Z he rfl (g:=low0 (st k).heap) (g1:=s'.heap) (D':=DS D0 st S) (λ_ h=>h) (λ_ h=>.inl h) mv X hv f.lt
  (λid _=>by rw[hmax2 G,hgt]) (λid h1 f=>absurd h1 f) hcs (λid F=>(h1 id F).symm) (.inl λ_ h=>h) (R v l) r y)
end
end Go.Sim
namespace Go.Sim
section
variable {P:Program}{c:Ctx}{orc:Nat->Ug->H->Option (V×H)}{rd:Option Nat}{ih:Ue}
variable {ops:Array Oper}{m:Nat}{st:Nat->St}{ρ0:Env}{D0:Nat->Prop}{a0:Act}{w0:World}
theorem Inv.finish(B:Base P c orc rd ih ops m st ρ0 D0 a0 w0){S:Nat->Prop}{J:Nat}{tm:Tm}{ρ:Env}{a:Act}{w:World}(I:Inv ops m st ρ0 D0 w0 S J tm ρ a w)(b:∀i,i<m->S i):
  Mv ρ0 D0 (st 0).heap w0 ρ (st m).heap w/\StR ρ (Dx D0 (st 0).heap (st m).heap) (st m) a w:=by
 have A:J=m:=by
  have h1:=I.le;rcases Nat.eq_or_lt_of_le h1 with h|h
  .exact h
  have:=I.lt J (b J h);omega
 subst A;have l:DS D0 st S=Dx D0 (st 0).heap (st J).heap:=by
  funext id;simp only[eq_iff_iff];constructor
  .rintro(h|⟨j,u,h1,e⟩)
   .exact .inl h
   have:=I.lt j u;exact .inr ⟨oW (B.next_mono (oQ _) oy) h1,oO e (B.next_mono (p:=j+1) this (oV _))⟩
  rintro(h|⟨h1,e⟩)
  .exact .inl h
  obtain⟨j,r,s⟩:=Base.born h1 e;exact .inr ⟨j,b j r,s⟩
 have n:∀t,zI tm t=zI (st J).tm t:=by
  intro t;rcases I.tmv t with⟨j,oj,u,C,y,q,v⟩|⟨x,v⟩
  .rw[v];have:=I.lt j u;exact(B.tm_range (p:=j+1) this (oV _) λi oi h1 e g k=>by have:=q i oi (b i e) g k;omega).symm
  rw[v];exact(B.tm_range (oQ _) (oV _) λi oi _ e g k=>x i oi (b i e) g k).symm
 have hr:=I.hr;have f:=I.tmR;rw[l]at hr f;refine⟨⟨B.next_mono (oQ _) (oV _),I.size,I.os,I.tape,I.output,I.agree,λid o' h D=>B.old_range (oQ _) (oV _) h D,λid o' h1 e r=>?_,I.frame,B.low_mono (oV _),λid h1 e=>B.kept_range (oV _) h1 e⟩,?_⟩
 .refine⟨?_,I.img id o' (by rw[l];exact .inr ⟨h1,e⟩) h1 r⟩;obtain⟨j,s,E,z⟩:=Base.born h1 e;obtain⟨F,G,H⟩:=B.old_range (p:=j+1) s (oV _) z r;obtain⟨o,_,_,K⟩:=B.hs j s;rw[H];exact K.wr id F E z G
 refine⟨⟨?_,?_,λt=>?_,λt=>?_⟩,?_,?_,hr⟩
 .rw[B.n_eq (oV _)];exact f.size
 .rw[B.n_eq (oV _)];exact f.cap
 .rw[<-n t];exact f.val t
 .rw[<-n t];exact f.inn t
 .rw[B.dfr_eq (oV _)];exact I.dfr
 rw[B.dfr_eq (oV _)];exact λd y=>AD.In_mono wq (B.k0.dfrIn d y)
theorem Inv.start(B : Base P c orc rd ih ops m st ρ0 D0 a0 w0){S : Nat -> Prop}(d : ∀j, ¬S j): Inv ops m st ρ0 D0 w0 S 0 (st 0).tm ρ0 a0 w0 := by
  have a : DS D0 st S = D0 := by
    funext id;simp only[eq_iff_iff];constructor
    · rintro(h|⟨j, b, _⟩)
      · exact h
      · exact absurd b (d j)
    · exact .inl
  refine { lt := λj b => absurd b (d j), le := oQ _, closed := λj o b => absurd b (d j), nst := λi _ _ => ⟨λh => absurd h (d i), λh => by omega⟩
           tmv := λt => .inr ⟨λj o b => absurd b (d j), rfl⟩, tmR := by rw[a];exact B.k0.tm, dfr := B.k0.dfr, hr := by rw[a];exact B.k0.hr
           size := oV _, os := rfl, tape := ⟨rfl, oV _⟩, output := rfl, agree := Agree.refl _ _, img := λid o' e f _ => ?_, frame := λ_ _ _ => rfl }
  rw[a]at e;have := B.k0.hr.lt id e;exfalso;omega
theorem zKg(ok:CtxOK P c)(hor:xE P c orc)(hih:jU P ih){i:Nat}{o:Oper}(C:ops[i]? = some o){l:List Oper}{s p d:St}{x:AX}(e:wX c orc rd.isSome ih ops.toList (o::l) s=some (.done x p)){ρ:Env}{w:World}{a:Act}(f:∀id,D0 id->id<d.heap.nx)(hl:∀l,rd=some l->D0 l)(m:Mv ρ0 D0 d.heap w0 ρ s.heap w)(k:StR ρ (Dx D0 d.heap s.heap) s a w){K:Act->World->Prop}(u:∀s1 g a1 q,wX c orc rd.isSome ih ops.toList l s1=some (.done x p)->Mv ρ0 D0 d.heap w0 g s1.heap q->StR g (Dx D0 d.heap s1.heap) s1 a1 q->K a1 q):
  wpOpIn (Fx (rd.map ρ0.blk)) 0 P ops (Ends ρ0 D0 d w0 x p) i K a w:=by
 unfold wpOpIn;simp only[C];rw[xx k];simp only[wX]at e;cases z:zh ops.toList s.tm o with
 | true =>
  simp only[z,oS]at e;rw[if_pos rfl];rw[<-ja m.agree hl];split at e
  .rename_i s1 b;refine wk ok hor hih b k ?_ (λv r=>by cases r);intro _ ρ' a' w' h _ n;rw[xy (D:=D0) m.nx h.nx]at n;exact u s1 ρ' a' w' e (Mv.trans f m h) n
  .rename_i y s1 E b;simp only[oA,Out.done.injEq]at e;obtain⟨rfl,rfl⟩:=e;refine wk ok hor hih b k (λF=>absurd F E) ?_;intro v r ρ' w' h n t;subst r;have j:=xy (D:=D0) m.nx h.nx;exact⟨ρ',Mv.trans f m h,by rw[<-j];exact n,rfl,by rw[<-j];exact t⟩
  cases e
 | false =>
  simp only[z,oT]at e;rw[if_neg (by simp)];split at e
  .rename_i s1 b;obtain⟨A,B⟩:=StR.put k (wL _) b;rw[xo]at A;exact⟨λ_ _=>trivial,u s1 ρ _ w e (by rw[B];exact m) (by rw[B];exact A)⟩
  cases e
theorem qi{a:Array Bool}{i:Nat}(h:i<a.size):(a.setIfInBounds i true).getD i false=true:=by simp[h]
theorem zAw{d:Region.Mode}{i:Nat}{a:Array Bool}(h:i∈Region.ready d ops a):i<ops.size/\a.getD i false=false/\i<a.size:=by
 obtain⟨h1,o,b,_⟩:=mem_ready.1 h;refine⟨?_,?_,?_⟩
 .rcases Nat.lt_or_ge i ops.size with g|g
  .exact g
  rw[Array.getElem?_eq_none g]at b;cases b
 all_goals
  rcases Nat.lt_or_ge i a.size with g|g
  .first|exact g|(simpa [g]using h1)
  simp[Array.getD_eq_getD_getElem?,Array.getElem?_eq_none g]at h1
theorem YG{d:Region.Mode}{i:Nat}{a:Array Bool}(h:i∈Region.ready d ops a){o:Oper}(f:ops[i]? = some o):∀e∈o.after,j1 e=true->a.getD e.on false=true:=by obtain⟨_,o',b,g⟩:=mem_ready.1 h;rw[f]at b;cases b;exact λe hm j=>g e hm (zMD j)
theorem zPe(B:Base P c orc rd ih ops m st ρ0 D0 a0 w0){O:Region.Mode}(A:zIW O ops){x:AX}{z:St}:∀(d j:Nat) (b:Array Bool) (s:St) (ρ:Env) (a:Act) (w:World),m<=j->j<=ops.size->ops.size-j<=d->b.size=ops.size ->
  Closed ops.toList (λi=>b.getD i false=true)->(∀i,i<ops.size->(b.getD i false=true↔i<j))->wX c orc rd.isSome ih ops.toList (ops.toList.drop j) s=some (.done x z) ->
  Mv ρ0 D0 (st 0).heap w0 ρ s.heap w->StR ρ (Dx D0 (st 0).heap s.heap) s a w->wpAnyIn (Fx (rd.map ρ0.blk)) 0 P O ops (Ends ρ0 D0 (st 0) w0 x z) d b a w:=by
 intro d;have n:∀(j:Nat) (s:St) (ρ:Env) (a:Act) (w:World),j=ops.size->wX c orc rd.isSome ih ops.toList (ops.toList.drop j) s=some (.done x z) ->
   Mv ρ0 D0 (st 0).heap w0 ρ s.heap w->StR ρ (Dx D0 (st 0).heap s.heap) s a w->Ends ρ0 D0 (st 0) w0 x z .normal a w:=by
  intro j s ρ a w C e u k;rw[List.drop_of_length_le (by simp;omega)]at e;simp only[wX,oA,Out.done.injEq]at e;obtain⟨rfl,rfl⟩:=e;exact⟨ρ,u,k,rfl,trivial⟩
 induction d with
 | zero=>intro j b s ρ a w D C T p q g e u k;refine⟨?_,n j s ρ a w oy e u k⟩;rw[List.eq_nil_iff_forall_not_mem];intro i hi;obtain⟨h1,v,_⟩:=zAw hi;rw[(g i h1).2 oy]at v;cases v
 | succ d E =>
  intro j b s ρ a w D C T p q g e u k;refine⟨λy=>?_,λi hi=>?_⟩
  .have F:j=ops.size:=by
    rcases Nat.eq_or_lt_of_le C with h|h
    .exact h
    have:=(g j h).1 (zC0 B.hm A y p j h);omega
   exact n j s ρ a w F e u k
  obtain⟨h1,v,U⟩:=zAw hi;have Q:ops[i]? = some ops[i]:=Array.getElem?_eq_getElem h1;have G:=qy q i ops[i] (by simp) (YG hi Q);have H:i=j:=by
   have I:j<=i:=Nat.le_of_not_lt λh=>by rw[(g i h1).2 h]at v;cases v
   rcases Nat.eq_or_lt_of_le I with h|h
   .exact h.symm
   have:=G j (Yu _ _ i (by rw[<-B.hmeq];omega) (by simpa using h1) j h);have:=(g j oy).1 this;omega
  subst H;have r:ops.toList.drop i=ops[i]::ops.toList.drop (i+1):=by rw[List.drop_eq_getElem_cons (by simpa using h1)];simp
  rw[r]at e;refine zKg B.ok B.hor B.hih Q e B.k0.hr.lt B.hl u k ?_;intro s1 J a1 V W K X;have f:∀o,(b.setIfInBounds i true).getD o false=true↔(b.getD o false=true\/o=i):=by
   intro o;by_cases t:o=i
   .subst t;simp[qi U]
   rw[getD_set_ne false (λh=>t h.symm)];simp[t]
  refine E (i+1) _ s1 J a1 V oy oy oy (by simpa using p) ?_ ?_ W K X
  .intro L o' M l R hm S;rcases(f L).1 M with h|rfl
   .exact(f _).2 (.inl (q L o' h l R hm S))
   have l:ops[L]? = some o':=by simpa using l
   exact(f _).2 (.inl (YG hi l R hm S))
  intro o N;rw[f o,g o N];omega
def wy(a:Array Bool):Nat->Nat
 | 0=>0
 | n+1=>wy a n+(if a.getD n false=true then 0 else 1)
def left(ops:Array Oper)(a:Array Bool):Nat:=wy a ops.size
omit ops in
theorem zMI{a:Array Bool}{i:Nat}:∀n,n<=i->wy (a.setIfInBounds i true) n=wy a n:=by
 intro n;induction n with
 | zero=>intro _;rfl
 | succ n ih=>intro h;simp only[wy];rw[ih oy,getD_set_ne false (show i≠n by omega)]
omit ops in
theorem zQ3{a:Array Bool}{i:Nat}(b:a.getD i false=false)(d:i<a.size):∀n,i<n->wy (a.setIfInBounds i true) n<wy a n:=by
 intro n;induction n with
 | zero=>intro h;omega
 | succ n ih =>
  intro h;simp only[wy];by_cases hin:i=n
  .subst hin;rw[zMI _ (oV _),qi d,b];simp
  rw[getD_set_ne false hin];have:=ih oy;omega
theorem zN3{a:Array Bool}{i:Nat}(h1:i<ops.size)(b:a.getD i false=false)(d:i<a.size):left ops (a.setIfInBounds i true)<left ops a :=
 zQ3 b d _ h1
omit ops in
theorem zMJ{a:Array Bool}:∀n,wy a n=0->∀i,i<n->a.getD i false=true:=by
 intro n;induction n with
 | zero=>intro _ i h;omega
 | succ n ih =>
  intro h i hi;simp only[wy]at h;rcases Nat.lt_or_ge i n with g|g
  .exact ih oy i g
  have:i=n:=oy
  subst this;by_cases hb:a.getD i false=true
  .exact hb
  rw[if_neg hb]at h;omega
omit ops in
theorem zVp{a:Array Bool}{m:Nat}:∀n,(∀i,i<n->a.getD i false=true->i<m)->n-m<=wy a n:=by
 intro n;induction n with
 | zero=>intro _;omega
 | succ n ih =>
  intro h;have h1:=ih λi hi=>h i oy
  simp only[wy];by_cases hb:a.getD n false=true
  .have:=h n oy hb;omega
  rw[if_neg hb];omega
theorem zJv(B:Base P c orc rd ih ops m st ρ0 D0 a0 w0){t:Region.Mode}(p:zIW t ops){x:AX}{u:St}(e:wX c orc rd.isSome ih ops.toList (ops.toList.drop m) (st m)=some (.done x u)):
  ∀(d:Nat) (b:Array Bool) (J:Nat) (tm:Tm) (ρ:Env) (a:Act) (w:World),left ops b<=d->b.size=ops.size->Inv ops m st ρ0 D0 w0 (λi=>b.getD i false=true) J tm ρ a w ->
   wpAnyIn (Fx (rd.map ρ0.blk)) 0 P t ops (Ends ρ0 D0 (st 0) w0 x u) d b a w:=by
 intro d;have j:∀(d:Nat) (b:Array Bool) (J:Nat) (tm:Tm) (ρ:Env) (a:Act) (w:World),left ops b<=d->b.size=ops.size->Inv ops m st ρ0 D0 w0 (λi=>b.getD i false=true) J tm ρ a w ->
   (∀i,i<m->b.getD i false=true)->wpAnyIn (Fx (rd.map ρ0.blk)) 0 P t ops (Ends ρ0 D0 (st 0) w0 x u) d b a w:=by
  intro d b J tm ρ a w o g I f;obtain⟨L,k⟩:=I.finish B f;have l:∀i,i<ops.size->(b.getD i false=true↔i<m):=λi _=>⟨λh=>oO (I.lt i h) I.le,f i⟩
  exact zPe B p d m b (st m) ρ a w (oV _) B.m_le (oW (zVp _ λi hi h=>(l i hi).1 h) o) g I.closed l e L k
 induction d with
 | zero=>intro b J tm ρ a w o g I;exact j 0 b J tm ρ a w o g I λi hi=>zMJ _ (Nat.le_zero.1 o) i (oO hi B.m_le)
 | succ d v =>
  intro b J tm ρ a w o g I;by_cases f:∀i,i<m->b.getD i false=true
  .exact j (d+1) b J tm ρ a w o g I f
  have hex:∃i,i<m/\b.getD i false=false:=by
   refine Classical.byContradiction λh=>f λi hi=>?_
   cases hb:b.getD i false with
   | true=>rfl
   | false=>exact absurd ⟨i,hi,hb⟩ h
  obtain⟨y,z,q⟩:=hex;refine⟨λr=>?_,λi hi=>?_⟩
  .have:=zC0 B.hm p r g y (oO z B.m_le);rw[q]at this;cases this
  obtain⟨h1,G,H⟩:=zAw hi;have K:ops[i]? = some ops[i]:=Array.getElem?_eq_getElem h1;have s:=YG hi K;have A:i<m:=by
   refine Nat.lt_of_not_le λC=>?_
   have D:=qy I.closed i ops[i] (by simp) s;have:=D y (Yu _ _ i (by rw[<-B.hmeq];exact C) (by simpa using h1) y oy);rw[q]at this;cases this
  refine I.step B A (by rw[G];simp) K s ?_;intro J' E ρ' a' w' I';have M:Add (λi=>b.getD i false=true) i=λF=>(b.setIfInBounds i true).getD F false=true:=by
   funext F;simp only[eq_iff_iff,Add];by_cases n:F=i
   .subst n;simp[qi H]
   rw[getD_set_ne false (λh=>n h.symm)];simp[n]
  rw[M]at I';exact v _ J' E ρ' a' w' (by have:=zN3 h1 G H;omega) (by simpa using g) I'
theorem zEe(ok:CtxOK P c)(hor:xE P c orc)(hih:jU P ih){id:Nat}{ops:Array Oper}{s s':St}{x:AX}{m:Nat}(hm:ya ops.toList=some m)(e:yJ c orc rd.isSome ih ops.toList (zi ops.toList []) m m 0 ops.toList s=some (.done x s')):SimC P rd (.region id ops true) s x s':=by
 intro ρ D w a k hl;have d:m<=ops.toList.length:=by
  unfold ya at hm;rcases i:(Z4 ops.toList (zi ops.toList []) 0 ops.toList && (!(Region.departs ops.toList.toArray) || (zAx ops.toList (Region.linearise .gc ops.toList.toArray 0) [] && XI (Region.linearise .gc ops.toList.toArray 0) ops.toList.length))) with _|_
  .simp only[i,oT]at hm;cases hm
  simp only[i,oS,oA]at hm;rw[<-hm];exact Kl _ _
 obtain⟨st,p,h1,q,o⟩:=z0A (rd:=rd) ok hor hih (ops:=ops) m 0 ops.toList s e (by simp) d k hl;simp only[Nat.zero_add]at h1 o;subst p
 let b:World:={ w with drawn:=w.drawn+1 }
 have r:StR ρ D (st 0) a b:=⟨k.tm,k.dfr,k.dfrIn,k.hr.of_heap rfl⟩;have B:Base P c orc rd ih ops m st ρ D a b:=⟨ok,hor,hih,hm,h1,r,q,hl⟩;have f:Mv ρ D (st 0).heap w ρ (st 0).heap b:=Mv.of_heap rfl rfl ⟨rfl,Nat.le_succ _⟩ rfl;refine wpIn_mono (Q:=Ends ρ D (st 0) b x s') (wpIn_region_draw λt=>?_) ?_
 .refine zAh _ ops t (λl=>wpOpsIn (Fx (rd.map ρ.blk)) 0 P ops (Ends ρ D (st 0) b x s') l a b) λA g t=>?_
  refine wpAnyIn_sound ops.size t _ a b ?_;have u:∀j,¬((Array.replicate ops.size false).getD j false=true):=λj h=>by simp only[Array.getD_eq_getD_getElem?,Array.getElem?_replicate]at h;split at h<;>simp at h
  refine zJv B g o ops.size _ 0 (st 0).tm ρ a b ?_ (by simp) (Inv.start B u);unfold left;have:∀(l:Array Bool) n,wy l n<=n:=λl n=>by
   induction n with
   | zero=>exact oV _
   | succ n ih=>simp only[wy];split<;>omega
  exact this _ _
 rintro ex a' w' ⟨ρ',v,y,rfl,z⟩;refine⟨ρ',Mv.trans k.hr.lt f (by rw[zr];exact v),y,rfl,z⟩
end
end Go.Sim
